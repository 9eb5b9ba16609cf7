/- The walk of NumTexts. -/
import Derived.Test.YtejgkbkangjfnaaTextRef
import Derived.Test.YtejgkbkangjfnaaParseWalk
namespace Go.Proofs.Ytejgkbkangjfnaa
open Go.RowKit
set_option linter.unusedVariables false

theorem decL_len : ∀ k n : Nat, n < 10 ^ k → 1 ≤ k → (decL n).length ≤ k := by
  intro k
  induction k with
  | zero => intro n _ h; omega
  | succ k ih =>
    intro n h _
    by_cases h10 : n < 10
    · rw [decL_small h10]; simp
    · rw [decL_big (by omega)]
      have hk : k ≠ 0 := fun e => by subst e; simp at h; omega
      have := ih (n / 10) (by rw [Nat.pow_succ] at h; omega) (by omega)
      simp; omega
theorem itext_len (a : Int) (wa : (Lit.int .i64 a).wf = true) : (itext a).length ≤ 20 := by
  have hw := wf64 wa
  unfold itext
  split
  · have := decL_len 19 (-a).toNat (by omega) (by omega)
    simp; omega
  · have := decL_len 19 a.toNat (by omega) (by omega)
    omega
set_option maxHeartbeats 400000 in
theorem numTexts_walk (a : Int) (wa : (Lit.int .i64 a).wf = true) (w : World) :
    Calls Try.prog 9 #[.int .i64 a] w fun e w' => e = .returned (.bool true) ∧ Below w.heap.size w w' := by
  have hw := wf64 wa
  have hl := itext_len a wa
  have hp := parse_itext a hw.1 hw.2
  have ht1 := num_Text a wa
  have ht2 := ref01_Text a wa
  generalize itext a = l at *
  have H1 := Lib.hid ht1; clear ht1
  have H2 := Lib.hid ht2; clear ht2
  have HP := Lib.hid hp; clear hp
  go_enter Try.func9, Try.ntmps9
  go_wp2_with fail
  refine (H1.out _).mono ?_
  rintro e w1 ⟨rfl, hb1⟩
  go_wp2_with fail
  refine (num_Parse ⟨l.toArray⟩ (by show l.toArray.size ≤ maxLen; simp; unfold maxLen; omega) _).mono ?_
  rw [show (ByteArray.mk l.toArray).data.toList = l by simp, HP.out]
  rintro e w2 ⟨rfl, rfl⟩
  go_wp2_with fail
  refine (H2.out _).mono ?_
  rintro e w2 ⟨rfl, hb2⟩
  go_wp2_with (go_at_call 16; refine (awake01 _).mono ?_; rintro e w1 ⟨rfl, hb⟩)
  go_ret
  exact ⟨rfl, (by repeat' (first | exact Below.refl _ _ | assumption | (refine thenB ?_ (by assumption)) | (refine belowN ?_ _) | (refine Below.alloc ?_ (by first | simp; done | (simp; omega) | omega) _) | (refine below_setRow ?_ (by first | simp; done | (simp; omega) | omega) _) | (refine Below.setCell ?_ (by first | simp; done | (simp; omega) | omega) _)))⟩
end Go.Proofs.Ytejgkbkangjfnaa

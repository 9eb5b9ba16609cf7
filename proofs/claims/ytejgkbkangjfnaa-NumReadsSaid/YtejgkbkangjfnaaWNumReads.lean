/- The walk of NumReads. -/
import Derived.Test.YtejgkbkangjfnaaTextWalk
import Derived.Test.YtejgkbkangjfnaaParseRef
namespace Go.Proofs.Ytejgkbkangjfnaa
open Go.RowKit
set_option linter.unusedVariables false

theorem parse_ways (s : List UInt8) : parseS s = (0, 2) ∨ parseS s = (0, 14) ∨ ∃ n : Int, parseS s = (n, 0) ∧ -9223372036854775808 ≤ n ∧ n ≤ 9223372036854775807 := by
  unfold parseS
  split
  · exact .inl rfl
  split
  · split
    · exact .inr (.inl rfl)
    · rename_i h
      right; right
      refine ⟨_, rfl, ?_⟩
      cases hb : below s
      · rw [if_neg (by decide)]
        have : ¬ (9223372036854775808 < val (digs s) ∨ val (digs s) = 9223372036854775808) := fun hh => h (by rcases hh with h1 | h1; exact .inl h1; exact .inr ⟨h1, hb⟩)
        omega
      · rw [if_pos rfl]
        have : ¬ 9223372036854775808 < val (digs s) := fun hh => h (.inl hh)
        omega
  · exact .inl rfl
set_option maxHeartbeats 400000 in
theorem numReads_walk (s : ByteArray) (ws : s.size ≤ maxLen) (w : World) :
    Calls Try.prog 10 #[.string s] w fun e w' => e = .returned (.bool true) ∧ Below w.heap.size w w' := by
  by_cases hlen : 100 < s.size
  · have hl : (100 : Int) < s.size := by omega
    unfold maxLen at ws
    go_enter Try.func10, Try.ntmps10
    go_wp2_with (go_at_call 16; refine (awake01 _).mono ?_; rintro e w1 ⟨rfl, hb⟩)
    go_ret
    exact ⟨rfl, (by repeat' (first | exact Below.refl _ _ | assumption | (refine thenB ?_ (by assumption)) | (refine belowN ?_ _) | (refine Below.alloc ?_ (by first | simp; done | (simp; omega) | omega) _) | (refine below_setRow ?_ (by first | simp; done | (simp; omega) | omega) _) | (refine Below.setCell ?_ (by first | simp; done | (simp; omega) | omega) _)))⟩
  have hl : ¬ (100 : Int) < s.size := by omega
  have h1 := num_Parse s ws
  have h2 := ref01_Parse s ws
  rcases parse_ways s.data.toList with hp | hp | ⟨n, hp, n1, n2⟩
  · rw [hp] at h1 h2
    have H1 := Lib.hid h1; clear h1
    have H2 := Lib.hid h2; clear h2 hp
    go_enter Try.func10, Try.ntmps10
    go_wp2_with (first | (go_at_call 29; refine (H1.out _).mono ?_; rintro e w1 ⟨rfl, rfl⟩) | (go_at_call 31; refine (H2.out _).mono ?_; rintro e w1 ⟨rfl, hb1⟩) | (go_at_call 16; refine (awake01 _).mono ?_; rintro e w1 ⟨rfl, hb⟩))
    go_ret
    exact ⟨rfl, (by repeat' (first | exact Below.refl _ _ | assumption | (refine thenB ?_ (by assumption)) | (refine belowN ?_ _) | (refine Below.alloc ?_ (by first | simp; done | (simp; omega) | omega) _) | (refine below_setRow ?_ (by first | simp; done | (simp; omega) | omega) _) | (refine Below.setCell ?_ (by first | simp; done | (simp; omega) | omega) _)))⟩
  · rw [hp] at h1 h2
    have H1 := Lib.hid h1; clear h1
    have H2 := Lib.hid h2; clear h2 hp
    go_enter Try.func10, Try.ntmps10
    go_wp2_with (first | (go_at_call 29; refine (H1.out _).mono ?_; rintro e w1 ⟨rfl, rfl⟩) | (go_at_call 31; refine (H2.out _).mono ?_; rintro e w1 ⟨rfl, hb1⟩) | (go_at_call 16; refine (awake01 _).mono ?_; rintro e w1 ⟨rfl, hb⟩))
    go_ret
    exact ⟨rfl, (by repeat' (first | exact Below.refl _ _ | assumption | (refine thenB ?_ (by assumption)) | (refine belowN ?_ _) | (refine Below.alloc ?_ (by first | simp; done | (simp; omega) | omega) _) | (refine below_setRow ?_ (by first | simp; done | (simp; omega) | omega) _) | (refine Below.setCell ?_ (by first | simp; done | (simp; omega) | omega) _)))⟩
  · have h3 := num_Text n (WalkArith.wf_i64 ⟨n1, n2⟩)
    rw [itext_parse _ _ hp, show (ByteArray.mk s.data.toList.toArray) = s by cases s; simp] at h3
    rw [hp] at h1 h2
    have H1 := Lib.hid h1; clear h1
    have H2 := Lib.hid h2; clear h2 hp
    have H3 := Lib.hid h3; clear h3
    go_enter Try.func10, Try.ntmps10
    go_wp2_with (first | (go_at_call 29; refine (H1.out _).mono ?_; rintro e w1 ⟨rfl, rfl⟩) | (go_at_call 31; refine (H2.out _).mono ?_; rintro e w1 ⟨rfl, hb1⟩) | (go_at_call 28; refine (H3.out _).mono ?_; rintro e w1 ⟨rfl, hb1⟩) | (go_at_call 16; refine (awake01 _).mono ?_; rintro e w1 ⟨rfl, hb⟩))
    go_ret
    exact ⟨rfl, (by repeat' (first | exact Below.refl _ _ | assumption | (refine thenB ?_ (by assumption)) | (refine belowN ?_ _) | (refine Below.alloc ?_ (by first | simp; done | (simp; omega) | omega) _) | (refine below_setRow ?_ (by first | simp; done | (simp; omega) | omega) _) | (refine Below.setCell ?_ (by first | simp; done | (simp; omega) | omega) _)))⟩
end Go.Proofs.Ytejgkbkangjfnaa

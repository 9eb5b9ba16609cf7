/- Parts of the proof. -/
import Derived.Test.YtcmpcbpdnaodmaaDoorChecked
import Derived.Test.YtcmpcbpdnaodmaaDoorLsD8Walks
import Derived.Test.YtcmpcbpdnaodmaaDoorLsDecPlain
namespace Go.Proofs.YtcmpcbpdnaodmaaDoor
open Go.RowKit
set_option linter.unusedVariables false
theorem itext_neg (a : Int) (N : Nat) (h : a < 0) (hN : absI a = N) : itext a = 45 :: decP N := by
  unfold itext absI at *; rw [if_pos h] at *; rw [hN]; rfl
theorem itext_pos (a : Int) (N : Nat) (h : ¬ a < 0) (hN : absI a = N) : itext a = decP N := by
  unfold itext absI at *; rw [if_neg h] at *; rw [hN]; rfl
theorem ten_small (N j : Nat) (hN : N ≤ 9223372036854775808) (h : N / 10 ^ j ≠ 0) : j ≤ 18 := by
  rcases Nat.lt_or_ge 18 j with h1 | h1
  · exfalso; apply h
    refine Nat.div_eq_of_lt (Nat.lt_of_le_of_lt hN ?_)
    calc 9223372036854775808 < 10 ^ 19 := by decide
      _ ≤ 10 ^ j := Nat.pow_le_pow_right (by decide) h1
  · exact h1
end Go.Proofs.YtcmpcbpdnaodmaaDoor
namespace Go.Proofs.YtcmpcbpdnaodmaaDoor
open Go.RowKit
set_option linter.unusedVariables false
theorem cut_digit (m : Nat) (h : m < 10) : (ByteArray.mk #[48, 49, 50, 51, 52, 53, 54, 55, 56, 57]).extract m (m + 1) = ⟨[dgt m].toArray⟩ := by
  have : m = 0 ∨ m = 1 ∨ m = 2 ∨ m = 3 ∨ m = 4 ∨ m = 5 ∨ m = 6 ∨ m = 7 ∨ m = 8 ∨ m = 9 := by omega
  rcases this with rfl | rfl | rfl | rfl | rfl | rfl | rfl | rfl | rfl | rfl <;> rfl
set_option maxHeartbeats 1000000 in
theorem ref01_Text (a : Int) (wa : (Lit.int .i64 a).wf = true) (w : World) : Calls Tryd.prog 19 #[.int .i64 a] w fun e w' => e = .returned (.string ⟨(itext a).toArray⟩) ∧ Below w.heap.size w w' := by
  obtain ⟨N, hN⟩ : ∃ N : Nat, absI a = N := ⟨(absI a).toNat, by have := (abs_bd wa).1; omega⟩
  have hNb : N ≤ 9223372036854775808 := by have := (abs_bd wa).2; omega
  have HN := Lib.hid hN
  clear hN
  go_enter Tryd.func19, Tryd.ntmps19
  go_wp2_with fail
  refine (ref01_Size a wa _).mono ?_
  rw [HN.out]
  rintro e w1 ⟨rfl, hb1⟩
  go_wp2_with fail
  go_loop [3,4] (fun n s => ∃ j : Nat, j ≤ 18 ∧ (j = 0 ∨ N / 10 ^ j ≠ 0) ∧ n = .int .u64 ((N / 10 ^ j : Nat) : Int) ∧ s = .string ⟨(suf N j).toArray⟩) (fun n _ => (intOf n).toNat)
  case atStart => exact ⟨0, by omega, .inl rfl, by simp, rfl⟩
  case round =>
    obtain ⟨j, hj18, hj, rfl, rfl⟩ := hrel
    have hM : N / 10 ^ j ≤ 9223372036854775808 := Nat.le_trans (Nat.div_le_self _ _) hNb
    have hsuf : suf N (j + 1) = dgt (N / 10 ^ j % 10) :: suf N j := rfl
    have hdd : N / 10 ^ j / 10 = N / 10 ^ (j + 1) := by rw [Nat.div_div_eq_div_mul, Nat.pow_succ]
    have hlen := suf_len N j
    have hl1 : (suf N j).length ≤ 18 := by omega
    by_cases hlt : 10 ≤ N / 10 ^ j
    · have hnz : N / 10 ^ (j + 1) ≠ 0 := by rw [← hdd]; omega
      have hrel : ∃ j1 : Nat, j1 ≤ 18 ∧ (j1 = 0 ∨ N / 10 ^ j1 ≠ 0) ∧ Value.int .u64 (((N / 10 ^ j / 10 : Nat)) : Int) = .int .u64 ((N / 10 ^ j1 : Nat) : Int) ∧ Value.string ⟨(dgt (N / 10 ^ j % 10) :: suf N j).toArray⟩ = .string ⟨(suf N j1).toArray⟩ :=
        ⟨j + 1, ten_small N (j + 1) hNb hnz, .inr hnz, by rw [hdd], by rw [hsuf]⟩
      have HR := Lib.hid hrel; clear hrel hsuf hdd hnz
      generalize N / 10 ^ j = M at *
      obtain ⟨m, hm⟩ : ∃ m : Nat, M % 10 = m := ⟨_, rfl⟩
      rw [hm] at HR
      have hmI : (M : Int) % 10 = m := by omega
      have hm9 : m < 10 := by omega
      clear hm
      have hx := cut_digit m hm9
      have m0 : (0 : Int) ≤ m := by omega
      have m1 : (m : Int) + 1 ≤ 10 := by omega
      have m2 : (m : Int) ≤ m + 1 := by omega
      have hd10 : (M : Int) / 10 ≤ M := by omega
      go_wp2_with fail
      go_round
      case rel => exact HR.out
      case measure => simp [intOf]; omega
    · have hdec : itext a = (if a < 0 then [45] else []) ++ (dgt (N / 10 ^ j % 10) :: suf N j) := by
        have h0 : N / 10 ^ (j + 1) = 0 := by rw [← hdd]; exact Nat.div_eq_of_lt (by omega)
        have hs := suf_dec (j + 1) N h0 (by omega) (by
          rcases hj with h | h
          · left; omega
          · right; rw [show j + 1 - 1 = j from rfl]; exact h)
        rw [hsuf] at hs
        rw [hs]
        split
        · rename_i h; rw [itext_neg a N h HN.out]; rfl
        · rename_i h; rw [itext_pos a N h HN.out]; rfl
      have HD := Lib.hid hdec; clear hdec hdd hsuf hlen
      generalize N / 10 ^ j = M at *
      have hm9 : M < 10 := by omega
      have hx := cut_digit M hm9
      rw [Nat.mod_eq_of_lt hm9] at HD
      have m0 : (0 : Int) ≤ M := by omega
      have m1 : (M : Int) + 1 ≤ 10 := by omega
      have m2 : (M : Int) ≤ M + 1 := by omega
      by_cases hneg : a < 0
      · rw [if_pos hneg] at HD
        go_wp2_with fail
        go_ret
        exact ⟨by rw [HD.out]; rfl, (by repeat' (first | exact Below.refl _ _ | assumption | (refine thenB ?_ (by assumption)) | (refine belowN ?_ _) | (refine Below.alloc ?_ (by first | simp; done | (simp; omega) | omega) _) | (refine below_setRow ?_ (by first | simp; done | (simp; omega) | omega) _) | (refine Below.setCell ?_ (by first | simp; done | (simp; omega) | omega) _)))⟩
      · rw [if_neg hneg] at HD
        go_wp2_with fail
        go_ret
        exact ⟨by rw [HD.out]; rfl, (by repeat' (first | exact Below.refl _ _ | assumption | (refine thenB ?_ (by assumption)) | (refine belowN ?_ _) | (refine Below.alloc ?_ (by first | simp; done | (simp; omega) | omega) _) | (refine below_setRow ?_ (by first | simp; done | (simp; omega) | omega) _) | (refine Below.setCell ?_ (by first | simp; done | (simp; omega) | omega) _)))⟩
end Go.Proofs.YtcmpcbpdnaodmaaDoor

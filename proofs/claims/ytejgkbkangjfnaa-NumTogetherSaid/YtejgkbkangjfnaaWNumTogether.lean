/- The walk of NumTogether. -/
import Derived.Test.YtejgkbkangjfnaaWNumDivides
namespace Go.Proofs.Ytejgkbkangjfnaa
open Go.RowKit
set_option linter.unusedVariables false

theorem together (a b : Int) (wa : (Lit.int .i64 a).wf = true) : wrap64 (wrap64 (wrap64 (a.tdiv b) * b) + a.tmod b) = a := by
  have h1 : ∀ x y : Int, wrap64 (wrap64 x * y) = wrap64 (x * y) := fun x y => by
    rw [← wrap64_mod (wrap64 x * y), ← wrap64_mod (x * y)]; congr 1
    rw [Int.mul_emod, Int.mul_emod x y]
    have : wrap64 x % 18446744073709551616 = x % 18446744073709551616 := by unfold wrap64; omega
    rw [this]
  have h2 : ∀ x y : Int, wrap64 (wrap64 x + y) = wrap64 (x + y) := fun x y => by unfold wrap64; omega
  rw [h1, h2, show a.tdiv b * b + a.tmod b = a by rw [Int.mul_comm]; exact Int.mul_tdiv_add_tmod a b]
  exact IntWalk.wrap64_in a (wf64 wa)
theorem rem_less (a b : Int) (hb : b ≠ 0) : absI (a.tmod b) < absI b := by
  have h := abs_pos hb
  have h1 := Int.emod_nonneg (absI a) (show absI b ≠ 0 by omega)
  have h2 := Int.emod_lt_of_pos (absI a) (show 0 < absI b by omega)
  have hr := rem_signs a b hb
  generalize absI a % absI b = r at *
  unfold absI at *
  split at hr <;> split <;> omega
theorem rem_sign (a b : Int) (hb : b ≠ 0) (h0 : a.tmod b ≠ 0) : a.tmod b < 0 ↔ a < 0 := by
  have h := abs_pos hb
  have h1 := Int.emod_nonneg (absI a) (show absI b ≠ 0 by omega)
  have hr := rem_signs a b hb
  split at hr <;> omega
theorem tmod_wf (a b : Int) (wa : (Lit.int .i64 a).wf = true) : (Lit.int .i64 (a.tmod b)).wf = true := by
  have h := tmod_bd a b wa
  have h1 := wrap64_lo (a.tmod b); have h2 := wrap64_hi (a.tmod b)
  rw [h] at h1 h2
  exact WalkArith.wf_i64 ⟨h1, h2⟩
set_option maxHeartbeats 1000000 in
theorem numTogether_walk (a : Int) (wa : (Lit.int .i64 a).wf = true) (b : Int) (wb : (Lit.int .i64 b).wf = true) (w : World) :
    Calls Try.prog 5 #[.int .i64 a, .int .i64 b] w fun e w' => e = .returned (.bool true) ∧ Below w.heap.size w w' := by
  by_cases h0 : b = 0
  · subst h0
    go_enter Try.func5, Try.ntmps5
    go_wp2_with (go_at_call 16; refine (awake01 _).mono ?_; rintro e w1 ⟨rfl, hb⟩)
    go_ret
    exact ⟨rfl, (by repeat' (first | exact Below.refl _ _ | assumption | (refine thenB ?_ (by assumption)) | (refine belowN ?_ _) | (refine Below.alloc ?_ (by first | simp; done | (simp; omega) | omega) _) | (refine below_setRow ?_ (by first | simp; done | (simp; omega) | omega) _) | (refine Below.setCell ?_ (by first | simp; done | (simp; omega) | omega) _)))⟩
  have e1 : gquo a b = wrap64 (a.tdiv b) := by unfold gquo; rw [if_neg h0]
  have e2 : grem a b = a.tmod b := by unfold grem; rw [if_neg h0]
  have e3 : (b != 0) = true := by simpa using h0
  have e4 : (b == 0) = false := by simpa using h0
  have ht := together a b wa
  have hl := rem_less a b h0
  have hs := rem_sign a b h0
  have wr := tmod_wf a b wa
  obtain ⟨q, hq⟩ : ∃ q, wrap64 (a.tdiv b) = q := ⟨_, rfl⟩
  obtain ⟨r, hr⟩ : ∃ r, a.tmod b = r := ⟨_, rfl⟩
  rw [hq, hr] at ht
  rw [hr] at hl hs wr
  have HQ : Hid (gquo a b = q) := Lib.hid (e1.trans hq)
  have HR : Hid (grem a b = r) := Lib.hid (e2.trans hr)
  clear e1 e2 hq hr
  obtain ⟨p, hp⟩ : ∃ p, wrap64 (q * b) = p := ⟨_, rfl⟩
  rw [hp] at ht
  by_cases hz : r = 0
  · subst hz
    clear hs
    simp only [Int.add_zero] at ht
    go_enter Try.func5, Try.ntmps5
    go_wp2_with (first | (go_at_call 17; refine (num_Div a b wa wb _).mono ?_; rw [HQ.out]; rintro e w1 ⟨rfl, rfl⟩) | (go_at_call 18; refine (num_Rem a b wa wb _).mono ?_; rw [HR.out]; rintro e w1 ⟨rfl, rfl⟩) | (go_at_call 12; refine (num_Mul _ _ _).mono ?_; rintro e w1 ⟨rfl, rfl⟩) | (go_at_call 20; refine (num_Add _ _ _).mono ?_; rintro e w1 ⟨rfl, rfl⟩) | (go_at_call 21; refine (ref01_Size _ (by assumption) _).mono ?_; rintro e w1 ⟨rfl, hb⟩) | (go_at_call 16; refine (awake01 _).mono ?_; rintro e w1 ⟨rfl, hb⟩))
    go_ret
    exact ⟨rfl, (by repeat' (first | exact Below.refl _ _ | assumption | (refine thenB ?_ (by assumption)) | (refine belowN ?_ _) | (refine Below.alloc ?_ (by first | simp; done | (simp; omega) | omega) _) | (refine below_setRow ?_ (by first | simp; done | (simp; omega) | omega) _) | (refine Below.setCell ?_ (by first | simp; done | (simp; omega) | omega) _)))⟩
  · have hz' : (r == 0) = false := by simpa using hz
    have hs := hs hz
    by_cases ha : a < 0
    · have hr : r < 0 := hs.2 ha
      clear hs
      go_enter Try.func5, Try.ntmps5
      go_wp2_with (first | (go_at_call 17; refine (num_Div a b wa wb _).mono ?_; rw [HQ.out]; rintro e w1 ⟨rfl, rfl⟩) | (go_at_call 18; refine (num_Rem a b wa wb _).mono ?_; rw [HR.out]; rintro e w1 ⟨rfl, rfl⟩) | (go_at_call 12; refine (num_Mul _ _ _).mono ?_; rintro e w1 ⟨rfl, rfl⟩) | (go_at_call 20; refine (num_Add _ _ _).mono ?_; rintro e w1 ⟨rfl, rfl⟩) | (go_at_call 21; refine (ref01_Size _ (by assumption) _).mono ?_; rintro e w1 ⟨rfl, hb⟩) | (go_at_call 16; refine (awake01 _).mono ?_; rintro e w1 ⟨rfl, hb⟩))
      go_ret
      exact ⟨rfl, (by repeat' (first | exact Below.refl _ _ | assumption | (refine thenB ?_ (by assumption)) | (refine belowN ?_ _) | (refine Below.alloc ?_ (by first | simp; done | (simp; omega) | omega) _) | (refine below_setRow ?_ (by first | simp; done | (simp; omega) | omega) _) | (refine Below.setCell ?_ (by first | simp; done | (simp; omega) | omega) _)))⟩
    · have hr : ¬ r < 0 := fun h => ha (hs.1 h)
      clear hs
      go_enter Try.func5, Try.ntmps5
      go_wp2_with (first | (go_at_call 17; refine (num_Div a b wa wb _).mono ?_; rw [HQ.out]; rintro e w1 ⟨rfl, rfl⟩) | (go_at_call 18; refine (num_Rem a b wa wb _).mono ?_; rw [HR.out]; rintro e w1 ⟨rfl, rfl⟩) | (go_at_call 12; refine (num_Mul _ _ _).mono ?_; rintro e w1 ⟨rfl, rfl⟩) | (go_at_call 20; refine (num_Add _ _ _).mono ?_; rintro e w1 ⟨rfl, rfl⟩) | (go_at_call 21; refine (ref01_Size _ (by assumption) _).mono ?_; rintro e w1 ⟨rfl, hb⟩) | (go_at_call 16; refine (awake01 _).mono ?_; rintro e w1 ⟨rfl, hb⟩))
      go_ret
      exact ⟨rfl, (by repeat' (first | exact Below.refl _ _ | assumption | (refine thenB ?_ (by assumption)) | (refine belowN ?_ _) | (refine Below.alloc ?_ (by first | simp; done | (simp; omega) | omega) _) | (refine below_setRow ?_ (by first | simp; done | (simp; omega) | omega) _) | (refine Below.setCell ?_ (by first | simp; done | (simp; omega) | omega) _)))⟩
end Go.Proofs.Ytejgkbkangjfnaa

/- The walk of NumDivides. -/
import Derived.Test.YtejgkbkangjfnaaNumOps
namespace Go.Proofs.Ytejgkbkangjfnaa
open Go.RowKit
set_option linter.unusedVariables false

theorem tmod_bd (a b : Int) (wa : (Lit.int .i64 a).wf = true) : wrap64 (a.tmod b) = a.tmod b := by
  have h := wf64 wa
  have h2 : (a.tmod b).natAbs ≤ a.natAbs := by rw [Int.natAbs_tmod]; exact Nat.mod_le _ _
  refine IntWalk.wrap64_in _ ?_
  rcases Int.lt_or_le a 0 with ha | ha
  · have h3 : a.tmod b = -((-a).tmod b) := by rw [Int.neg_tmod]; omega
    have h4 := Int.tmod_nonneg b (show 0 ≤ -a by omega)
    omega
  · have h4 := Int.tmod_nonneg b ha
    omega
set_option maxHeartbeats 1000000 in
theorem numDivides_walk (a : Int) (wa : (Lit.int .i64 a).wf = true) (b : Int) (wb : (Lit.int .i64 b).wf = true) (w : World) :
    Calls Try.prog 4 #[.int .i64 a, .int .i64 b] w fun e w' => e = .returned (.bool true) ∧ Below w.heap.size w w' := by
  by_cases h0 : b = 0
  · subst h0
    have e1 : gquo a 0 = 0 := rfl
    have e2 : grem a 0 = 0 := rfl
    go_enter Try.func4, Try.ntmps4
    go_wp2_with (first | (go_at_call 17; refine (num_Div a 0 wa wb _).mono ?_; rintro e w1 ⟨rfl, rfl⟩) | (go_at_call 18; refine (num_Rem a 0 wa wb _).mono ?_; rintro e w1 ⟨rfl, rfl⟩) | (go_at_call 16; refine (awake01 _).mono ?_; rintro e w1 ⟨rfl, hb⟩))
    go_ret
    exact ⟨rfl, (by repeat' (first | exact Below.refl _ _ | assumption | (refine thenB ?_ (by assumption)) | (refine belowN ?_ _) | (refine Below.alloc ?_ (by first | simp; done | (simp; omega) | omega) _) | (refine below_setRow ?_ (by first | simp; done | (simp; omega) | omega) _) | (refine Below.setCell ?_ (by first | simp; done | (simp; omega) | omega) _)))⟩
  · have e1 : gquo a b = wrap64 (a.tdiv b) := by unfold gquo; rw [if_neg h0]
    have e2 : grem a b = wrap64 (a.tmod b) := by unfold grem; rw [if_neg h0, tmod_bd a b wa]
    have e3 : (b != 0) = true := by simpa using h0
    have e4 : (b == 0) = false := by simpa using h0
    go_enter Try.func4, Try.ntmps4
    go_wp2_with (first | (go_at_call 17; refine (num_Div a b wa wb _).mono ?_; rintro e w1 ⟨rfl, rfl⟩) | (go_at_call 18; refine (num_Rem a b wa wb _).mono ?_; rintro e w1 ⟨rfl, rfl⟩) | (go_at_call 19; refine (ref01_Div a b wa wb h0 _).mono ?_; rintro e w1 ⟨rfl, hb1⟩) | (go_at_call 16; refine (awake01 _).mono ?_; rintro e w1 ⟨rfl, hb⟩))
    go_ret
    exact ⟨rfl, (by repeat' (first | exact Below.refl _ _ | assumption | (refine thenB ?_ (by assumption)) | (refine belowN ?_ _) | (refine Below.alloc ?_ (by first | simp; done | (simp; omega) | omega) _) | (refine below_setRow ?_ (by first | simp; done | (simp; omega) | omega) _) | (refine Below.setCell ?_ (by first | simp; done | (simp; omega) | omega) _)))⟩
end Go.Proofs.Ytejgkbkangjfnaa

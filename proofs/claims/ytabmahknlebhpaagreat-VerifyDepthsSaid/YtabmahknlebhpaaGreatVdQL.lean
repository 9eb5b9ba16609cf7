/- Parts of the proof. -/
import Derived.Test.YtabmahknlebhpaaGreatVdQC
import Derived.Test.YtabmahknlebhpaaGreatVdVfSwap
namespace Go.Proofs.YtabmahknlebhpaaGreat
open Go.RowKit
set_option linter.unusedVariables false
set_option maxRecDepth 100000
set_option maxHeartbeats 4000000
theorem map_some1 {α β : Type} {o : Option α} {x : α} {f : α → β} {b : β} (h : o = some x) (hb : f x = b) : o.map f = some b := by
  rw [h, ← hb]; rfl
theorem Q_sws : ∀ f, memN Q_sw f = true → SwapFn Tryz.prog f := by
  intro f h
  have := List.mem_singleton.1 (memN_iff h)
  subst this
  exact places_Swap_fn
theorem Q_means : Means Tryz.prog Q_lt (fixD Q_B) :=
  evA_means (B := tab) (P := Tryz.prog) (t := Q_lt) (hand := Q_hand) (dof := dofF) (sw := Q_sw) Q_sws (io := tblF Q_io) (pu := tblF Q_pu) (lo := tblF Q_lo) (fuel := 1000) (by kernel_rfl) (fns_of (lbs := Q_lbs) (vs := Q_vs) (hands := [18, 19, 20]) (by kernel_rfl) (by kernel_rfl)) Q_hok
noncomputable def l17_VerifyChecks (a : GApiCode) : Option Bool := (Q_nm (.l17_VerifyChecks a)).map fun r => r.1.1
noncomputable def l17_VerifyDepths (a : GApiCode) (b : Int) : Option Bool := (Q_nm (.l17_VerifyDepths a b)).map fun r => r.1.1
theorem l17_VerifyDepths_ok {a : GApiCode} {b : Int} {r : Bool} (h : l17_VerifyDepths a b = some r) : FnP Tryz.prog 4 [e_GApiCode a, aI .i64 b] (aB r) := by
  obtain ⟨x, hx, rfl⟩ := map_ok h
  exact Eq.mp (by kernel_rfl) (law_fn Q_means (l := 395) (x := ((a, b, ()), ())) (hx := by kernel_rfl) (hT := by kernel_rfl) (r := x) (Eq.mp (by kernel_rfl) hx) (by kernel_rfl))
noncomputable def l17_VerifyPrograms (a : (List UInt8)) : Option Bool := (Q_nm (.l17_VerifyPrograms a)).map fun r => r.1.1
theorem l17_VerifyDepths_d (a : GApiCode) (b : Int) : l17_VerifyDepths a b = (Q_nm (.l17_VerifyDepths a b)).map fun r => r.1.1 := rfl
theorem l17_VerifyDepths_at (a : GApiCode) (b : Int) (h : Q_nm (.l17_VerifyDepths a b) = some ((true, ()), ())) : l17_VerifyDepths a b = some true := (l17_VerifyDepths_d a b).trans (map_some1 h rfl)
end Go.Proofs.YtabmahknlebhpaaGreat

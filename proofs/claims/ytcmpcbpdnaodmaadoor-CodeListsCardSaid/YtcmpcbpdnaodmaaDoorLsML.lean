/- Parts of the proof. -/
import Derived.Test.YtcmpcbpdnaodmaaDoorLsMT
namespace Go.Proofs.YtcmpcbpdnaodmaaDoor
open Go.RowKit
set_option linter.unusedVariables false
set_option maxRecDepth 100000
set_option maxHeartbeats 4000000
theorem map_someM {α β : Type} {o : Option α} {x : α} {f : α → β} {b : β} (h : o = some x) (hb : f x = b) : o.map f = some b := by
  rw [h, ← hb]; rfl
theorem M_sws : ∀ f, memN M_sw f = true → SwapFn Tryd.prog f := by
  intro f h
  cases h
theorem M_means : Means Tryd.prog M_lt (fixD M_B) :=
  evA_means (B := tab) (P := Tryd.prog) (t := M_lt) (hand := M_hand) (dof := dofF) (sw := M_sw) M_sws (io := tblF M_io) (pu := tblF M_pu) (lo := tblF M_lo) (fuel := 1000) (by kernel_rfl) (fns_of (lbs := M_lbs) (vs := M_vs) (hands := []) (by kernel_rfl) (by kernel_rfl)) M_hok
noncomputable def xM_May (a : GApiCode) : Option Bool := (M_nm (.c0 a)).map fun r => r.1.1
theorem xM_May_ok {a : GApiCode} {r : Bool} (h : xM_May a = some r) : FnP Tryd.prog 12 [e_GApiCode a] (aB r) := by
  obtain ⟨x, hx, rfl⟩ := map_ok h
  exact Eq.mp (by kernel_rfl) (law_fn M_means (l := 0) (x := ((a, ()), ())) (hx := by kernel_rfl) (hT := by kernel_rfl) (r := x) (Eq.mp (by kernel_rfl) hx) (by kernel_rfl))
theorem xM_May_d (a : GApiCode) : xM_May a = (M_nm (.c0 a)).map fun r => r.1.1 := rfl
end Go.Proofs.YtcmpcbpdnaodmaaDoor

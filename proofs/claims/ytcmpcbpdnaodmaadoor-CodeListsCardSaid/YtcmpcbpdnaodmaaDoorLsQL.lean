/- Parts of the proof. -/
import Derived.Test.YtcmpcbpdnaodmaaDoorLsQC
namespace Go.Proofs.YtcmpcbpdnaodmaaDoor
open Go.RowKit
set_option linter.unusedVariables false
set_option maxRecDepth 100000
set_option maxHeartbeats 4000000
theorem map_some1 {α β : Type} {o : Option α} {x : α} {f : α → β} {b : β} (h : o = some x) (hb : f x = b) : o.map f = some b := by
  rw [h, ← hb]; rfl
theorem Q_sws : ∀ f, memN Q_sw f = true → SwapFn Tryd.prog f := by
  intro f h
  cases h
theorem Q_means : Means Tryd.prog Q_lt (fixD Q_B) :=
  evA_means (B := tab) (P := Tryd.prog) (t := Q_lt) (hand := Q_hand) (dof := dofF) (sw := Q_sw) Q_sws (io := tblF Q_io) (pu := tblF Q_pu) (lo := tblF Q_lo) (fuel := 1000) (by kernel_rfl) (fns_of (lbs := Q_lbs) (vs := Q_vs) (hands := [11]) (by kernel_rfl) (by kernel_rfl)) Q_hok
noncomputable def r15_Great (a : GApiCode) : Option Bool := (Q_nm (.c0 a)).map fun r => r.1.1
theorem r15_Great_ok {a : GApiCode} {r : Bool} (h : r15_Great a = some r) : FnP Tryd.prog 4 [e_GApiCode a] (aB r) := by
  obtain ⟨x, hx, rfl⟩ := map_ok h
  exact Eq.mp (by kernel_rfl) (law_fn Q_means (l := 0) (x := ((a, ()), ())) (hx := by kernel_rfl) (hT := by kernel_rfl) (r := x) (Eq.mp (by kernel_rfl) hx) (by kernel_rfl))
noncomputable def r15_May (a : GApiCode) : Option Bool := (Q_nm (.c3 a)).map fun r => r.1.1
theorem r15_May_ok {a : GApiCode} {r : Bool} (h : r15_May a = some r) : FnP Tryd.prog 9 [e_GApiCode a] (aB r) := by
  obtain ⟨x, hx, rfl⟩ := map_ok h
  exact Eq.mp (by kernel_rfl) (law_fn Q_means (l := 3) (x := ((a, ()), ())) (hx := by kernel_rfl) (hT := by kernel_rfl) (r := x) (Eq.mp (by kernel_rfl) hx) (by kernel_rfl))
noncomputable def r15_Name (a : Int) : Option (List UInt8) := (Q_nm (.c10 a)).map fun r => r.1.1
theorem r15_Name_ok {a : Int} {r : (List UInt8)} (h : r15_Name a = some r) : FnP Tryd.prog 8 [aI .u8 a] (aS r) := by
  obtain ⟨x, hx, rfl⟩ := map_ok h
  exact Eq.mp (by kernel_rfl) (law_fn Q_means (l := 10) (x := ((a, ()), ())) (hx := by kernel_rfl) (hT := by kernel_rfl) (r := x) (Eq.mp (by kernel_rfl) hx) (by kernel_rfl))
noncomputable def r15_Listing (a : GApiCode) (b : Int) : Option (List UInt8) := (Q_nm (.c12 a b)).map fun r => r.1.1
theorem r15_Listing_ok {a : GApiCode} {b : Int} {r : (List UInt8)} (h : r15_Listing a b = some r) : FnP Tryd.prog 10 [e_GApiCode a, aI .i64 b] (aS r) := by
  obtain ⟨x, hx, rfl⟩ := map_ok h
  exact Eq.mp (by kernel_rfl) (law_fn Q_means (l := 12) (x := ((a, b, ()), ())) (hx := by kernel_rfl) (hT := by kernel_rfl) (r := x) (Eq.mp (by kernel_rfl) hx) (by kernel_rfl))
end Go.Proofs.YtcmpcbpdnaodmaaDoor

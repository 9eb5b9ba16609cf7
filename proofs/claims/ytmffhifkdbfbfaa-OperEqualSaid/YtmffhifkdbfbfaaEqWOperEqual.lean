/- Parts of the proof. -/
import Derived.Test.YtmffhifkdbfbfaaEqOpLaw2
import Derived.Test.YtmffhifkdbfbfaaEqLfOp
namespace Go.Proofs.Ytmffhifkdbfbfaa
open Go.RowKit
set_option linter.unusedVariables false
set_option maxHeartbeats 4000000
set_option maxRecDepth 100000 in
theorem operEqual_walk {H : Type} {enc : TypeId × Value → H} {r : Reach} {b0 : Nat} {W : World} (v0 : Value) (d0 : DataW H) (p0 : List MemPlace) (ok0 : Value.okWide Try.prog W r b0 39 v0) (h0 : DataW.Trod enc Try.prog W 0 (fun _ => true) true 39 v0 d0 p0) (s0 : ∀ q ∈ d0.weights Try.prog 39, q ≤ reachBytes) (v1 : Value) (d1 : DataW H) (p1 : List MemPlace) (ok1 : Value.okWide Try.prog W r b0 23 v1) (h1 : DataW.Trod enc Try.prog W 0 (fun _ => true) true 23 v1 d1 p1) (s1 : ∀ q ∈ d1.weights Try.prog 23, q ≤ reachBytes) (v2 : Value) (d2 : DataW H) (p2 : List MemPlace) (ok2 : Value.okWide Try.prog W r b0 23 v2) (h2 : DataW.Trod enc Try.prog W 0 (fun _ => true) true 23 v2 d2 p2) (s2 : ∀ q ∈ d2.weights Try.prog 23, q ≤ reachBytes) (v3 : Value) (d3 : DataW H) (p3 : List MemPlace) (ok3 : Value.okWide Try.prog W r b0 23 v3) (h3 : DataW.Trod enc Try.prog W 0 (fun _ => true) true 23 v3 d3 p3) (s3 : ∀ q ∈ d3.weights Try.prog 23, q ≤ reachBytes) (W2 : World) :
    Calls Try.prog 5 #[v0, v1, v2, v3] W fun e w' => e = .returned (.bool true) ∧ Below W.heap.size W w' := by
 obtain ⟨ts0, ht0, hr0⟩ := open_arg (t := 39) (es := [.sl [.int .u8, .int .i64, .str, .sl [.int .u8, .int .i64, .int .i64, .int .i64]]]) (by kernel_rfl) (by kernel_rfl) ok0 h0 s0
 obtain ⟨x0, e0, hx0⟩ := (open_L c_GApiObj (fun x => ok_GApiObj x) (fun _ h => open_GApiObj h) (by rfl)) ht0
 rw [e0] at hr0
 obtain ⟨ts1, ht1, hr1⟩ := open_arg (t := 23) (es := [.int .u8, .int .i64, .int .i64, .int .i64]) (by kernel_rfl) (by kernel_rfl) ok1 h1 s1
 obtain ⟨x1, e1, hx1⟩ := open_GApiValue ht1
 rw [e1] at hr1
 obtain ⟨ts2, ht2, hr2⟩ := open_arg (t := 23) (es := [.int .u8, .int .i64, .int .i64, .int .i64]) (by kernel_rfl) (by kernel_rfl) ok2 h2 s2
 obtain ⟨x2, e2, hx2⟩ := open_GApiValue ht2
 rw [e2] at hr2
 obtain ⟨ts3, ht3, hr3⟩ := open_arg (t := 23) (es := [.int .u8, .int .i64, .int .i64, .int .i64]) (by kernel_rfl) (by kernel_rfl) ok3 h3 s3
 obtain ⟨x3, e3, hx3⟩ := open_GApiValue ht3
 rw [e3] at hr3
 refine law_of (f := 5) (args := [.t (.sl 4 (x0.map c_GApiObj)), e_GApiValue x1, e_GApiValue x2, e_GApiValue x3]) (hindcastlaw13_OperEqual_ok (operEqual_all x0 x1 x2 x3 hx0 hx1 hx2 hx3)) (by rfl) (fun i hi => ?_)
 match i, hi with
 | 0, _ => exact (show argA Try.prog 39 ((c_L 4 c_GApiObj) x0) = .t (.sl 4 (x0.map c_GApiObj)) by kernel_rfl) ▸ hr0
 | 1, _ => exact (show argA Try.prog 23 (c_GApiValue x1) = e_GApiValue x1 by kernel_rfl) ▸ hr1
 | 2, _ => exact (show argA Try.prog 23 (c_GApiValue x2) = e_GApiValue x2 by kernel_rfl) ▸ hr2
 | 3, _ => exact (show argA Try.prog 23 (c_GApiValue x3) = e_GApiValue x3 by kernel_rfl) ▸ hr3
end Go.Proofs.Ytmffhifkdbfbfaa

/- Parts of the proof. -/
import Derived.Test.YtmffhifkdbfbfaaBiOpLaw2
import Derived.Test.YtmffhifkdbfbfaaBiLfOp
namespace Go.Proofs.Ytmffhifkdbfbfaa
open Go.RowKit
set_option linter.unusedVariables false
set_option maxHeartbeats 4000000
set_option maxRecDepth 100000 in
theorem operBin_walk {H : Type} {enc : TypeId × Value → H} {r : Reach} {b0 : Nat} {W : World} (a0 : Int) (w0 : (Lit.int .i64 a0).wf = true) (v1 : Value) (d1 : DataW H) (p1 : List MemPlace) (ok1 : Value.okWide Try.prog W r b0 39 v1) (h1 : DataW.Trod enc Try.prog W 0 (fun _ => true) true 39 v1 d1 p1) (s1 : ∀ q ∈ d1.weights Try.prog 39, q ≤ reachBytes) (a2 : Int) (w2 : (Lit.int .i64 a2).wf = true) (v3 : Value) (d3 : DataW H) (p3 : List MemPlace) (ok3 : Value.okWide Try.prog W r b0 23 v3) (h3 : DataW.Trod enc Try.prog W 0 (fun _ => true) true 23 v3 d3 p3) (s3 : ∀ q ∈ d3.weights Try.prog 23, q ≤ reachBytes) (v4 : Value) (d4 : DataW H) (p4 : List MemPlace) (ok4 : Value.okWide Try.prog W r b0 23 v4) (h4 : DataW.Trod enc Try.prog W 0 (fun _ => true) true 23 v4 d4 p4) (s4 : ∀ q ∈ d4.weights Try.prog 23, q ≤ reachBytes) (W2 : World) :
    Calls Try.prog 6 #[.int .i64 a0, v1, .int .i64 a2, v3, v4] W fun e w' => e = .returned (.bool true) ∧ Below W.heap.size W w' := by
 obtain ⟨ts1, ht1, hr1⟩ := open_arg (t := 39) (es := [.sl [.int .u8, .int .i64, .str, .sl [.int .u8, .int .i64, .int .i64, .int .i64]]]) (by kernel_rfl) (by kernel_rfl) ok1 h1 s1
 obtain ⟨x1, e1, hx1⟩ := (open_L c_GApiObj (fun x => ok_GApiObj x) (fun _ h => open_GApiObj h) (by rfl)) ht1
 rw [e1] at hr1
 obtain ⟨ts3, ht3, hr3⟩ := open_arg (t := 23) (es := [.int .u8, .int .i64, .int .i64, .int .i64]) (by kernel_rfl) (by kernel_rfl) ok3 h3 s3
 obtain ⟨x3, e3, hx3⟩ := open_GApiValue ht3
 rw [e3] at hr3
 obtain ⟨ts4, ht4, hr4⟩ := open_arg (t := 23) (es := [.int .u8, .int .i64, .int .i64, .int .i64]) (by kernel_rfl) (by kernel_rfl) ok4 h4 s4
 obtain ⟨x4, e4, hx4⟩ := open_GApiValue ht4
 rw [e4] at hr4
 refine law_of (f := 6) (args := [aI .i64 a0, .t (.sl 4 (x1.map c_GApiObj)), aI .i64 a2, e_GApiValue x3, e_GApiValue x4]) (hindcastlaw13_OperBin_ok (operBin_all a0 x1 a2 x3 x4 (wf_int w0) hx1 (wf_int w2) hx3 hx4)) (by rfl) (fun i hi => ?_)
 match i, hi with
 | 0, _ => exact .t _ _ (.v _ rfl)
 | 1, _ => exact (show argA Try.prog 39 ((c_L 4 c_GApiObj) x1) = .t (.sl 4 (x1.map c_GApiObj)) by kernel_rfl) ▸ hr1
 | 2, _ => exact .t _ _ (.v _ rfl)
 | 3, _ => exact (show argA Try.prog 23 (c_GApiValue x3) = e_GApiValue x3 by kernel_rfl) ▸ hr3
 | 4, _ => exact (show argA Try.prog 23 (c_GApiValue x4) = e_GApiValue x4 by kernel_rfl) ▸ hr4
end Go.Proofs.Ytmffhifkdbfbfaa

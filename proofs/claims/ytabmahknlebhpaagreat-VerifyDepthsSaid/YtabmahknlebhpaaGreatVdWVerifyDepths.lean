/- Parts of the proof. -/
import Derived.Test.YtabmahknlebhpaaGreatVdVfLaw
import Derived.Test.YtabmahknlebhpaaGreatVdLfOp
namespace Go.Proofs.YtabmahknlebhpaaGreat
open Go.RowKit
set_option linter.unusedVariables false
set_option maxRecDepth 100000
set_option maxHeartbeats 4000000
set_option maxRecDepth 100000 in
theorem verifyDepths_walk {H : Type} {enc : TypeId × Value → H} {r : Reach} {b0 : Nat} {W : World} (v0 : Value) (d0 : DataW H) (p0 : List MemPlace) (ok0 : Value.okWide Tryz.prog W r b0 26 v0) (h0 : DataW.Trod enc Tryz.prog W 0 (fun _ => true) true 26 v0 d0 p0) (s0 : ∀ q ∈ d0.weights Tryz.prog 26, q ≤ reachBytes) (a1 : Int) (w1 : (Lit.int .i64 a1).wf = true) (W2 : World) :
    Calls Tryz.prog 4 #[v0, .int .i64 a1] W fun e w' => e = .returned (.bool true) ∧ Below W.heap.size W w' := by
 obtain ⟨ts0, ht0, hr0⟩ := open_arg (t := 26) (es := [.sl [.int .u8, .int .i64, .int .i64], .sl [.int .i64, .int .i64, .int .i64, .int .i64, .int .i64], .sl [.str]]) (by kernel_rfl) (by kernel_rfl) ok0 h0 s0
 obtain ⟨x0, e0, hx0⟩ := open_GApiCode ht0
 rw [e0] at hr0
 refine law_of (f := 4) (args := [e_GApiCode x0, aI .i64 a1]) (l17_VerifyDepths_ok (verifyDepths_all x0 a1 hx0 (wf_int w1))) (by rfl) (fun i hi => ?_)
 match i, hi with
 | 0, _ => exact (show argA Tryz.prog 26 (c_GApiCode x0) = e_GApiCode x0 by kernel_rfl) ▸ hr0
 | 1, _ => exact .t _ _ (.v _ rfl)
end Go.Proofs.YtabmahknlebhpaaGreat

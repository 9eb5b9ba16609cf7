/- Parts of the proof. -/
import Derived.Test.YtmffhifkdbfbfaaUnOpLaw1
import Derived.Test.YtmffhifkdbfbfaaUnLfOp
namespace Go.Proofs.Ytmffhifkdbfbfaa
open Go.RowKit
set_option linter.unusedVariables false
set_option maxHeartbeats 4000000
set_option maxRecDepth 100000 in
theorem operUn_walk {H : Type} {enc : TypeId × Value → H} {r : Reach} {b0 : Nat} {W : World} (a0 : Int) (w0 : (Lit.int .i64 a0).wf = true) (v1 : Value) (d1 : DataW H) (p1 : List MemPlace) (ok1 : Value.okWide Try.prog W r b0 23 v1) (h1 : DataW.Trod enc Try.prog W 0 (fun _ => true) true 23 v1 d1 p1) (W2 : World) :
    Calls Try.prog 3 #[.int .i64 a0, v1] W fun e w' => e = .returned (.bool true) ∧ Below W.heap.size W w' := by
 obtain ⟨ts1, ht1, hr1⟩ := open_arg (t := 23) (es := [.int .u8, .int .i64, .int .i64, .int .i64]) (by kernel_rfl) (by kernel_rfl) ok1 h1
 obtain ⟨x1, e1, hx1⟩ := open_GApiValue ht1
 rw [e1] at hr1
 refine law_of (f := 3) (args := [aI .i64 a0, e_GApiValue x1]) (hindcastlaw13_OperUn_ok (operUn_all a0 x1 (wf_int w0) hx1)) (by rfl) (fun i hi => ?_)
 match i, hi with
 | 0, _ => exact .t _ _ (.v _ rfl)
 | 1, _ => exact (show argA Try.prog 23 (c_GApiValue x1) = e_GApiValue x1 by kernel_rfl) ▸ hr1
end Go.Proofs.Ytmffhifkdbfbfaa

/- The walk of the law TreeRight. -/
import Derived.Test.YtahioekdpndohaaTreeLawRight2
import Derived.Test.YtahioekdpndohaaLfOp
namespace Go.Proofs.Ytahioekdpndohaa
open Go.RowKit
set_option linter.unusedVariables false
set_option maxHeartbeats 4000000
set_option maxRecDepth 100000 in
theorem treeRight_walk {H : Type} {enc : TypeId × Value → H} {r : Reach} {b0 : Nat} {W : World} (v0 : Value) (d0 : DataW H) (p0 : List MemPlace) (ok0 : Value.okWide Try.prog W r b0 22 v0) (h0 : DataW.Trod enc Try.prog W 0 (fun _ => true) true 22 v0 d0 p0) (W2 : World) :
    Calls Try.prog 3 #[v0] W fun e w' => e = .returned (.bool true) ∧ Below W.heap.size W w' := by
  obtain ⟨ts0, ht0, hr0⟩ := open_arg (t := 22) (es := [.sl [.int .u8, .int .i64, .int .i64, .int .i64, .int .i64, .str]]) (by kernel_rfl) (by kernel_rfl) ok0 h0
  obtain ⟨x0, e0, hx0⟩ := (open_L c_GApiNode (fun x => ok_GApiNode x) (fun _ h => open_GApiNode h) (by rfl)) ht0
  rw [e0] at hr0
  refine law_of (f := 3) (args := [.t (.sl 6 (x0.map c_GApiNode))]) (hindcastlaw05_TreeRight_ok (treeRight_all x0 hx0)) (by rfl) (fun i hi => ?_)
  match i, hi with
  | 0, _ => exact (show argA Try.prog 22 ((c_L 6 c_GApiNode) x0) = .t (.sl 6 (x0.map c_GApiNode)) by kernel_rfl) ▸ hr0
end Go.Proofs.Ytahioekdpndohaa

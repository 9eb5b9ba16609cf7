/- The walk of the law TreeNames. -/
import Derived.Test.YtahioekdpndohaaTreeRefName
import Derived.Test.YtahioekdpndohaaLfOp
namespace Go.Proofs.Ytahioekdpndohaa
open Go.RowKit
set_option linter.unusedVariables false
set_option maxHeartbeats 4000000
set_option maxRecDepth 100000 in
theorem treeNames_walk (a0 : ByteArray) (w0 : a0.size ≤ maxLen) (W2 : World) :
    Calls Try.prog 4 #[.string a0] W2 fun e w' => e = .returned (.bool true) ∧ Below W2.heap.size W2 w' := by
  refine law_of (f := 4) (args := [aS a0.data.toList]) (hindcastlaw05_TreeNames_ok (treeNames_all a0.data.toList w0)) (by rfl) (fun i hi => ?_)
  match i, hi with
  | 0, _ => exact .t _ _ (.v _ rfl)
end Go.Proofs.Ytahioekdpndohaa

/- Parts of the proof. -/
import Derived.Test.YtmffhifkdbfbfaaJoOpJoin
import Derived.Test.YtmffhifkdbfbfaaJoLfTy
import Derived.Test.YtmffhifkdbfbfaaJoXG
namespace Go.Proofs.Ytmffhifkdbfbfaa
open Go.RowKit
set_option linter.unusedVariables false
set_option maxHeartbeats 4000000
set_option maxRecDepth 100000 in
theorem operJoins_walk (a0 : ByteArray) (w0 : a0.size ≤ 140737488351232) (a1 : ByteArray) (w1 : a1.size ≤ 140737488351232) (a2 : ByteArray) (w2 : a2.size ≤ 140737488351232) (W2 : World) :
    Calls Try.prog 7 #[.string a0, .string a1, .string a2] W2 fun e w' => e = .returned (.bool true) ∧ Below W2.heap.size W2 w' := by
 refine law_of (f := 7) (args := [aS a0.data.toList, aS a1.data.toList, aS a2.data.toList]) (hindcastlaw13_OperJoins_ok (operJoins_all a0.data.toList a1.data.toList a2.data.toList w0 w1 w2)) (by rfl) (fun i hi => ?_)
 match i, hi with
 | 0, _ => exact .t _ _ (.v _ rfl)
 | 1, _ => exact .t _ _ (.v _ rfl)
 | 2, _ => exact .t _ _ (.v _ rfl)
end Go.Proofs.Ytmffhifkdbfbfaa

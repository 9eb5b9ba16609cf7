/- Parts of the proof. -/
import Derived.Test.YtihbbcealnnpiaaGreatDoorHmGp3
import Derived.Test.YtihbbcealnnpiaaGreatDoorHmXF
import Derived.Test.YtihbbcealnnpiaaGreatDoorHmXG
set_option linter.unusedVariables false
namespace Go.Proofs.YtihbbcealnnpiaaGreatDoor
section
open Go.RowKit
set_option maxRecDepth 100000
set_option maxHeartbeats 4000000
set_option maxRecDepth 100000 in
theorem genPoints_walk(a0:ByteArray)(w0:a0.size≤140737488351232)(W2:World):Calls Tryz.prog 4 #[.string a0] W2 fun e w'=>e=.returned (.bool true)∧Below W2.heap.size W2 w':=by
 refine a1b (f:=4) (args:=[aS a0.data.toList]) (a21 (a9b a0.data.toList w0)) (by rfl) (fun i hi=>?_)
 match i,hi with
 |0,_=>exact .t _ _ (.v _ rfl)
end
end Go.Proofs.YtihbbcealnnpiaaGreatDoor

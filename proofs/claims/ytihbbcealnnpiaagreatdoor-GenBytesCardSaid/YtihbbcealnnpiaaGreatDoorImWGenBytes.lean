/- Parts of the proof. -/
import Derived.Test.YtihbbcealnnpiaaGreatDoorImBy3
import Derived.Test.YtihbbcealnnpiaaGreatDoorImXF
import Derived.Test.YtihbbcealnnpiaaGreatDoorImXG
set_option linter.unusedVariables false
namespace Go.Proofs.YtihbbcealnnpiaaGreatDoor
section
open Go.RowKit
set_option maxRecDepth 100000
set_option maxHeartbeats 4000000
set_option maxRecDepth 100000 in
theorem genBytes_walk(z:ByteArray)(C:z.size<=140737488351232)(B:World):Calls Tryz.prog 5 #[.string z] B λe w'=>e=.returned (.bool true)/\Below B.heap.size B w':=by
 refine a2I (f:=5) (args:=[aS z.data.toList]) (a8O (b4k z.data.toList C)) (by rfl) (λi hi=>?_)
 match i,hi with
 |0,_=>exact .t _ _ (.v _ rfl)
end
end Go.Proofs.YtihbbcealnnpiaaGreatDoor

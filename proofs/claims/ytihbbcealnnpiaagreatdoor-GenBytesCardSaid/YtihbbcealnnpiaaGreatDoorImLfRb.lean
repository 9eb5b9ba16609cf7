/- Parts of the proof. -/
import Derived.Test.YtihbbcealnnpiaaGreatDoorImXF
set_option linter.unusedVariables false
namespace Go.Proofs.YtihbbcealnnpiaaGreatDoor
section
open Go.RowKit
set_option maxRecDepth 100000
set_option maxHeartbeats 4000000
def XI(a0:s8)(r:((List Int) × Int)):Prop:=FnP Tryz.prog 12 [Ca a0] (.tup [.t (.sl 1 (r.1.map Sy)),aI .i64 r.2])
def JY(a0:(List Int))(r:(s8 × Int)):Prop:=FnP Tryz.prog 13 [.t (.sl 1 (a0.map Sy))] (.tup [Ca r.1,aI .i64 r.2])
end
end Go.Proofs.YtihbbcealnnpiaaGreatDoor

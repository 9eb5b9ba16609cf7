/- Parts of the proof. -/
import Derived.Test.YtihbbcealnnpiaaGreatDoorProg
import Derived.Test.YtihbbcealnnpiaaGreatDoorImXA
set_option linter.unusedVariables false
namespace Go.Proofs.YtihbbcealnnpiaaGreatDoor
section
set_option maxRecDepth 100000
theorem mixed:Tryz.prog.follows .mixedOrders=true:=by kernel_rfl
end
end Go.Proofs.YtihbbcealnnpiaaGreatDoor

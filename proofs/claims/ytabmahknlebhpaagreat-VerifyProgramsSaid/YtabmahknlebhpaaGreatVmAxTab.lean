/- Parts of the proof. -/
import Derived.Test.YtabmahknlebhpaaGreatProg
import Derived.Test.YtabmahknlebhpaaGreatVmXA
set_option linter.unusedVariables false
namespace Go.Proofs.YtabmahknlebhpaaGreat
section
set_option maxRecDepth 100000
theorem IB:Tryz.prog.follows .mixedOrders=true:=by kernel_rfl
end
end Go.Proofs.YtabmahknlebhpaaGreat

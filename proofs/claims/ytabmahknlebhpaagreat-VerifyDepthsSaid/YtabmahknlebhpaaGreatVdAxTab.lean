/- Parts of the proof. -/
import Derived.Test.YtabmahknlebhpaaGreatProg
import Derived.Test.YtabmahknlebhpaaGreatVdXA
namespace Go.Proofs.YtabmahknlebhpaaGreat
set_option maxRecDepth 100000
theorem mixed : Tryz.prog.follows .mixedOrders = true := by kernel_rfl
end Go.Proofs.YtabmahknlebhpaaGreat

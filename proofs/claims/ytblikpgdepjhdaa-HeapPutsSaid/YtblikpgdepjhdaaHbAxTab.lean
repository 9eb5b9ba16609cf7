/- Parts of the proof. -/
import Derived.Test.YtblikpgdepjhdaaProg
import Derived.Test.YtblikpgdepjhdaaHbXA
namespace Go.Proofs.Ytblikpgdepjhdaa
set_option maxRecDepth 100000
theorem mixed : Try.prog.follows .mixedOrders = true := by kernel_rfl
end Go.Proofs.Ytblikpgdepjhdaa

/- Parts of the proof. -/
import Derived.Test.YtcmpcbpdnaodmaaDoorProg
import Derived.Test.YtcmpcbpdnaodmaaDoorLsXA
namespace Go.Proofs.YtcmpcbpdnaodmaaDoor
set_option maxRecDepth 100000
theorem mixed : Tryd.prog.follows .mixedOrders = true := by kernel_rfl
end Go.Proofs.YtcmpcbpdnaodmaaDoor

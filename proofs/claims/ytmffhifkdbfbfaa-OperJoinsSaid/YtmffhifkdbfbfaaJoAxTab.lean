/- Parts of the proof. -/
import Derived.Test.YtmffhifkdbfbfaaProg
import Derived.Test.YtmffhifkdbfbfaaJoXA
namespace Go.Proofs.Ytmffhifkdbfbfaa
set_option maxRecDepth 100000
theorem mixed : Try.prog.follows .mixedOrders = true := by kernel_rfl
end Go.Proofs.Ytmffhifkdbfbfaa

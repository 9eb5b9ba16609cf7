/- Parts of the proof. -/
import Derived.Test.YtmffhifkdbfbfaaJoHpOver
import Derived.Test.YtmffhifkdbfbfaaChecked
import Derived.RowKit
import Derived.IntWalk
import Derived.Laws.Tables
import Derived.Test.YtmffhifkdbfbfaaJoBase
import Derived.Test.YtmffhifkdbfbfaaJoWNumRounds
namespace Go.Proofs.Ytmffhifkdbfbfaa
open Go.RowKit
set_option maxRecDepth 100000
set_option linter.unusedVariables false
set_option maxHeartbeats 4000000
def in64 (a : Int) : Prop := -9223372036854775808 ≤ a ∧ a ≤ 9223372036854775807
instance (a : Int) : Decidable (in64 a) := by unfold in64; infer_instance
end Go.Proofs.Ytmffhifkdbfbfaa

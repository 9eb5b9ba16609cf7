/- Parts of the proof. -/
import Derived.Test.YtmffhifkdbfbfaaChecked
import Derived.RowKit
import Derived.IntWalk
import Derived.Laws.Tables
import Derived.Test.YtmffhifkdbfbfaaJoBase
namespace Go.Proofs.Ytmffhifkdbfbfaa
open Go.RowKit
set_option maxRecDepth 100000
set_option linter.unusedVariables false
def sx (a : Int) (k : Nat) : Int := (a + 2 ^ (k - 1)) % 2 ^ k - 2 ^ (k - 1)
end Go.Proofs.Ytmffhifkdbfbfaa

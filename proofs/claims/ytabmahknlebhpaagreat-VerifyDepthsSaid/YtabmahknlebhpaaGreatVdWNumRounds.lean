/- Parts of the proof. -/
import Derived.Test.YtabmahknlebhpaaGreatChecked
import Derived.Test.YtabmahknlebhpaaGreatVdD8Walks
namespace Go.Proofs.YtabmahknlebhpaaGreat
open Go.RowKit
set_option maxRecDepth 100000
set_option linter.unusedVariables false
def sx (a : Int) (k : Nat) : Int := (a + 2 ^ (k - 1)) % 2 ^ k - 2 ^ (k - 1)
end Go.Proofs.YtabmahknlebhpaaGreat

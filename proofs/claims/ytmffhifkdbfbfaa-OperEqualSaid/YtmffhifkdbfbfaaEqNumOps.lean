/- Parts of the proof. -/
import Derived.Test.YtmffhifkdbfbfaaChecked
import Derived.Test.YtmffhifkdbfbfaaEqDivWalk
namespace Go.Proofs.Ytmffhifkdbfbfaa
open Go.RowKit
set_option maxRecDepth 100000
set_option linter.unusedVariables false
theorem tdiv_neg_one (a : Int) : a.tdiv (-1) = -a := by rw [Int.tdiv_neg]; simp
theorem tmod_neg_one (a : Int) : a.tmod (-1) = 0 := by rw [Int.tmod_neg]; simp
end Go.Proofs.Ytmffhifkdbfbfaa

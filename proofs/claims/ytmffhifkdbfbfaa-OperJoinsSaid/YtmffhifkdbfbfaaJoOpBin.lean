/- Parts of the proof. -/
import Derived.Test.YtmffhifkdbfbfaaJoOpLaw1
import Derived.Test.YtmffhifkdbfbfaaJoHpLaw3
namespace Go.Proofs.Ytmffhifkdbfbfaa
open Go.RowKit
set_option linter.unusedVariables false
set_option maxHeartbeats 2000000
def wr (H : GHeapHeap) : GHindcastref13W := ⟨mr H, [], [], 0, 0⟩
theorem ref_eq (a : GApiValue) : oper_ref a = some (decide (5 ≤ a.Kind ∧ a.Kind ≤ 7)) := by
  unfold oper_ref
  by_cases c5 : a.Kind = 5
  · rw [if_pos c5]; simp [c5]
  rw [if_neg c5]
  by_cases c6 : a.Kind = 6
  · rw [if_pos c6]; simp [c6]
  rw [if_neg c6]
  refine congrArg some (decide_eq_decide.2 ?_)
  omega
end Go.Proofs.Ytmffhifkdbfbfaa

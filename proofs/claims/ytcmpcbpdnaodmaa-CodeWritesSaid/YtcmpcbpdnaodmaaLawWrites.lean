/- CodeWrites, in plain terms. -/
import Derived.Test.YtcmpcbpdnaodmaaLw1
import Derived.Test.YtcmpcbpdnaodmaaCodeBack
namespace Go.Proofs.Ytcmpcbpdnaodmaa
open Go.RowKit Classical
set_option linter.unusedVariables false
theorem codeWrites_all (c : GApiCode) (h : ok_GApiCode c) : hindcastlaw15_CodeWrites c = some true := by
  unfold hindcastlaw15_CodeWrites xhindcastref15_Great xcode_May xhindcastref15_May
  simp only [if_pos h, obind_some]
  by_cases hg : greatC (toC c) = true
  · rw [if_pos hg]; rfl
  rw [if_neg hg]
  have ha : xhindcastlaw15_awake = some true := rfl
  by_cases hm : mayC (toC c) = true
  · have he : xcode_Encode c = some (ints (encC (toC c)), 0) := by unfold xcode_Encode; rw [if_pos h, if_pos hm]
    have hr : xhindcastref15_Encode c = some (ints (encC (toC c))) := by unfold xhindcastref15_Encode; rw [if_pos ⟨h, hm⟩]
    have hd : xcode_Decode (ints (encC (toC c))) = some (c, 0) := by
      unfold xcode_Decode
      rw [if_pos (ints_ok _), bytesS_ints, decC_enc hm (fun x hx => ((toC_wf h).wi x hx).2.1), of_to h]
      rfl
    have hs : xhindcastref15_Same c c = some true := by unfold xhindcastref15_Same; rw [if_pos h, if_pos rfl]
    simp only [he, obind_some, hm, if_true, hd, hr, if_pos (ints_ok _), hs, ha]
  · have he : xcode_Encode c = some ([], 1) := by unfold xcode_Encode; rw [if_pos h, if_neg hm]
    simp only [he, obind_some, if_neg hm, ha]
    rfl
end Go.Proofs.Ytcmpcbpdnaodmaa

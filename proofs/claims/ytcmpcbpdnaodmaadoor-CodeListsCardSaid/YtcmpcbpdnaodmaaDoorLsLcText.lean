/- Parts of the proof. -/
import Derived.Test.YtcmpcbpdnaodmaaDoorLsTextWalk
import Derived.Test.YtcmpcbpdnaodmaaDoorLsLiList
import Derived.Test.YtcmpcbpdnaodmaaDoorLsXF
namespace Go.Proofs.YtcmpcbpdnaodmaaDoor
open Go.RowKit
set_option linter.unusedVariables false
theorem decP_lib : ∀ n : Nat, decP n = Lib.decDigits n := by
  intro n
  induction n using Nat.strongRecOn with
  | _ n ih =>
  rw [Lib.decDigits]
  split
  · rename_i h
    rw [decP_small h]
    rfl
  · rename_i h
    rw [decP_big (by omega), ih (n / 10) (by omega)]
    rfl
theorem itext_eq {n : Int} (h0 : -9223372036854775808 ≤ n) (h1 : n ≤ 9223372036854775807) : itext n = decL n := by
  rw [decL_eq h0 h1]
  unfold itext Lib.itoa
  rw [decP_lib, decP_lib]
  split
  · rw [show (-n).toNat = n.natAbs by omega]
  · rfl
def xr01_Text (n : Int) : Option (List UInt8) := if -9223372036854775808 ≤ n ∧ n ≤ 9223372036854775807 then some (decL n) else none
theorem xr01_Text_ok {n : Int} {r : List UInt8} (h : xr01_Text n = some r) : R_r01_Text n r := by
  unfold xr01_Text at h
  split at h
  · rename_i h1
    cases h
    refine fnp_of (by kernel_rfl) (fun w X => repF_v _ _ _ rfl) fun w X vals hs hrep => ?_
    rw [vals1 hs (rep_val (hrep 0 (by simp)))]
    refine (ref01_Text n (by simp [Lit.wf, IntKind.min, IntKind.max, IntKind.signed, IntKind.bits]; omega) w).mono ?_
    rintro e w' ⟨rfl, hb⟩
    exact ⟨by rw [itext_eq h1.1 h1.2], hb⟩
  · cases h
end Go.Proofs.YtcmpcbpdnaodmaaDoor

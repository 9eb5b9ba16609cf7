/- Parts of the proof. -/
import Derived.Deep.RegionLaw
import Derived.Laws.CopyRow
import Derived.Laws.MakeOwn
import Derived.Test.YtmffhifkdbfbfaaJoHpRec
import Derived.Test.YtmffhifkdbfbfaaJoLfTy
namespace Go.Proofs.Ytmffhifkdbfbfaa
open Go.RowKit
set_option linter.unusedVariables false
def GHeapHeap.put (H : GHeapHeap) (k n i : Int) (x : GApiValue) : Int × GHeapHeap :=
  match H.at_ k n with
  | none => (3, H)
  | some o => if k = 3 then (3, H) else if i < 0 ∨ (o.Vals.length : Int) ≤ i then (2, H) else (0, ⟨H.room, H.cells, H.l.set (n - 1).toNat { o with Vals := o.Vals.set i.toNat x }⟩)
theorem at_some {H : GHeapHeap} {k n : Int} {o : GApiObj} (h : H.at_ k n = some o) : ∃ (i : Nat) (hi : i < H.l.length), n = (i : Int) + 1 ∧ H.l[i] = o ∧ o.Kind = k := by
  unfold GHeapHeap.at_ getI at h
  by_cases hn : 0 ≤ n - 1
  · rw [if_pos hn] at h
    cases hg : H.l[(n - 1).toNat]? with
    | none => rw [hg] at h; cases h
    | some o' =>
      rw [hg] at h
      simp only [Option.bind_some] at h
      split at h
      · rename_i hk
        cases h
        obtain ⟨hi, he⟩ := List.getElem?_eq_some_iff.1 hg
        exact ⟨(n - 1).toNat, hi, by omega, he, hk⟩
      · cases h
  · rw [if_neg hn] at h; cases h
end Go.Proofs.Ytmffhifkdbfbfaa

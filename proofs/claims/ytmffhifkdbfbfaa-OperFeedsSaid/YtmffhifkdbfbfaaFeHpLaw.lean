/- Parts of the proof. -/
import Derived.Test.YtmffhifkdbfbfaaFeLfOp
import Derived.Test.YtmffhifkdbfbfaaFeLf3
namespace Go.Proofs.Ytmffhifkdbfbfaa
open Go.RowKit
set_option linter.unusedVariables false
set_option maxHeartbeats 2000000
def sizeI (o : GApiObj) : Int := if o.Kind = 3 then 1 + ((o.Text.length : Int) + 7) / 8 else 1 + o.Vals.length
def goodO (o : GApiObj) : Prop := o.Kind = 3 ∧ o.Vals = [] ∨ o.Kind ≠ 3 ∧ o.Text = []
structure HInv (H : GHeapHeap) : Prop where
  r0 : 0 ≤ H.cells
  r1 : H.cells ≤ H.room
  r2 : H.room ≤ 65536
  sum : H.cells = (H.l.map sizeI).sum
  good : ∀ o ∈ H.l, goodO o
theorem sizeI_pos (o : GApiObj) : 1 ≤ sizeI o := by unfold sizeI; split <;> omega
theorem sum_mem : ∀ (l : List GApiObj) (o : GApiObj), o ∈ l → sizeI o + (l.length - 1 : Int) ≤ (l.map sizeI).sum
  | a :: l, o, h => by
    simp only [List.map_cons, List.sum_cons, List.length_cons]
    rcases List.mem_cons.1 h with rfl | h
    · have : ∀ l : List GApiObj, (l.length : Int) ≤ (l.map sizeI).sum := fun l => by
        induction l with
        | nil => simp
        | cons b l ih => have := sizeI_pos b; simp only [List.map_cons, List.sum_cons, List.length_cons]; omega
      have := this l; omega
    · have := sum_mem l o h; have := sizeI_pos a; omega
theorem HInv.len {H : GHeapHeap} (h : HInv H) : (H.l.length : Int) ≤ H.cells := by
  rw [h.sum]
  have : ∀ l : List GApiObj, (l.length : Int) ≤ (l.map sizeI).sum := fun l => by
    induction l with
    | nil => simp
    | cons b l ih => have := sizeI_pos b; simp only [List.map_cons, List.sum_cons, List.length_cons]; omega
  exact this H.l
theorem HInv.small {H : GHeapHeap} (h : HInv H) {o : GApiObj} (ho : o ∈ H.l) : o.Vals.length ≤ 65536 ∧ o.Text.length ≤ 1000000 ∧ sizeI o ≤ H.cells := by
  have h1 := sum_mem H.l o ho
  have h2 : 1 ≤ H.l.length := List.length_pos_of_mem ho
  rw [← h.sum] at h1
  have h3 := h.r1
  have h4 := h.r2
  have h5 : sizeI o ≤ H.cells := by omega
  refine ⟨?_, ?_, h5⟩
  · rcases h.good o ho with ⟨_, e⟩ | ⟨e, _⟩
    · rw [e]; simp
    · unfold sizeI at h5; rw [if_neg e] at h5; omega
  · rcases h.good o ho with ⟨e, _⟩ | ⟨_, e⟩
    · unfold sizeI at h5; rw [if_pos e] at h5; omega
    · rw [e]; simp
theorem HInv.putOk {H : GHeapHeap} (h : HInv H) : ∀ o ∈ H.l, putOk o := fun o ho => ⟨(h.small ho).1, (h.good o ho).imp (fun x => x.1) fun x => x.2⟩
theorem appOb {b n : Nat} (h : n * b ≤ 140737488355328) (h2 : n ≤ 140737488355328) : AppOb b n := by unfold AppOb; simp only [maxLen]; omega
end Go.Proofs.Ytmffhifkdbfbfaa

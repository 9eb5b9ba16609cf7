/- Parts of the proof. -/
import Derived.Test.YtblikpgdepjhdaaHaLfOp
import Derived.Test.YtblikpgdepjhdaaHaLf2
namespace Go.Proofs.Ytblikpgdepjhdaa
open Go.RowKit
set_option linter.unusedVariables false
set_option maxHeartbeats 2000000
def mr (H : GHeapHeap) : GR11H := ⟨H.room, H.cells, H.l⟩
def sizeI (o : GApiObj) : Int := if o.Kind = 3 then 1 + ((o.Text.length : Int) + 7) / 8 else 1 + o.Vals.length
def goodO (o : GApiObj) : Prop := o.Kind = 3 ∧ o.Vals = [] ∨ o.Kind ≠ 3 ∧ o.Text = []
def smallO (o : GApiObj) : Prop := o.Text.length ≤ 1000000000 ∧ o.Vals.length ≤ 1000000000
structure HInv (H : GHeapHeap) : Prop where
  r0 : 0 ≤ H.cells
  r1 : H.cells ≤ H.room
  r2 : H.room ≤ 65536
  sum : H.cells = (H.l.map sizeI).sum
  good : ∀ o ∈ H.l, goodO o
theorem sizeI_pos (o : GApiObj) : 1 ≤ sizeI o := by unfold sizeI; split <;> omega
theorem objSize_eq (o : GApiObj) (h : smallO o) : objSize o.Kind o.Text o.Vals.length = sizeI o := by
  obtain ⟨h1, h2⟩ := h
  unfold sizeI
  split
  · rename_i hk
    rw [hk]
    unfold objSize
    rw [if_pos rfl]
    have e : RowKit.wrap64 ((o.Text.length : Int) + 7) = (o.Text.length : Int) + 7 := by unfold RowKit.wrap64; omega
    have e2 : ((o.Text.length : Int) + 7).tdiv 8 = ((o.Text.length : Int) + 7) / 8 := Int.tdiv_eq_ediv_of_nonneg (by omega)
    rw [e, e2]
    unfold RowKit.wrap64
    omega
  · rename_i hk
    rw [objSizeN _ _ _ hk (by omega)]
    omega
theorem sum_mem : ∀ (l : List GApiObj) (o : GApiObj), o ∈ l → sizeI o + (l.length - 1 : Int) ≤ (l.map sizeI).sum
  | a :: l, o, h => by
    simp only [List.map_cons, List.sum_cons, List.length_cons]
    rcases List.mem_cons.1 h with rfl | h
    · have : ∀ l : List GApiObj, (l.length : Int) ≤ (l.map sizeI).sum := fun l => by
        induction l with
        | nil => simp
        | cons b l ih => have := sizeI_pos b; simp only [List.map_cons, List.sum_cons, List.length_cons]; omega
      have := this l; omega
    · have := sum_mem l o h; have := sizeI_pos a; omega
theorem HInv.len {H : GHeapHeap} (h : HInv H) : (H.l.length : Int) ≤ H.cells := by
  rw [h.sum]
  have : ∀ l : List GApiObj, (l.length : Int) ≤ (l.map sizeI).sum := fun l => by
    induction l with
    | nil => simp
    | cons b l ih => have := sizeI_pos b; simp only [List.map_cons, List.sum_cons, List.length_cons]; omega
  exact this H.l
theorem HInv.small {H : GHeapHeap} (h : HInv H) {o : GApiObj} (ho : o ∈ H.l) : o.Vals.length ≤ 65536 ∧ o.Text.length ≤ 1000000 ∧ sizeI o ≤ H.cells := by
  have h1 := sum_mem H.l o ho
  have h2 : 1 ≤ H.l.length := List.length_pos_of_mem ho
  rw [← h.sum] at h1
  have h3 := h.r1
  have h4 := h.r2
  have h5 : sizeI o ≤ H.cells := by omega
  refine ⟨?_, ?_, h5⟩
  · rcases h.good o ho with ⟨_, e⟩ | ⟨e, _⟩
    · rw [e]; simp
    · unfold sizeI at h5; rw [if_neg e] at h5; omega
  · rcases h.good o ho with ⟨e, _⟩ | ⟨_, e⟩
    · unfold sizeI at h5; rw [if_pos e] at h5; omega
    · rw [e]; simp
theorem HInv.smallO {H : GHeapHeap} (h : HInv H) {o : GApiObj} (ho : o ∈ H.l) : smallO o := by
  obtain ⟨h1, h2, _⟩ := h.small ho
  exact ⟨by omega, by omega⟩
theorem HInv.putOk {H : GHeapHeap} (h : HInv H) : ∀ o ∈ H.l, putOk o := fun o ho => ⟨(h.small ho).1, (h.good o ho).imp (fun x => x.1) fun x => x.2⟩
theorem HInv.allOk {H : GHeapHeap} (h : HInv H) : ∀ o ∈ H.l, o.Vals.length ≤ 65536 := fun o ho => (h.small ho).1
theorem appOb {b n : Nat} (h : n * b ≤ 140737488355328) (h2 : n ≤ 140737488355328) : AppOb b n := by unfold AppOb; simp only [maxLen]; omega
theorem appD_of {α : Type} {b : Nat} {xs ys : List α} (h : AppOb b (xs.length + ys.length)) : appD b xs ys = some (xs ++ ys) := if_pos h
theorem cost_spec (o : GApiObj) (h : smallO o) : r11_Cost o = some (sizeI o) := by
  obtain ⟨h1, h2⟩ := h
  unfold r11_Cost sizeI
  by_cases hk : o.Kind = 3
  · rw [if_pos hk, if_pos hk]
    have e1 : Int.tdiv (o.Text.length : Int) 8 = (o.Text.length : Int) / 8 := Int.tdiv_eq_ediv_of_nonneg (by omega)
    have e2 : Int.tmod (o.Text.length : Int) 8 = (o.Text.length : Int) % 8 := Int.tmod_eq_emod_of_nonneg (by omega)
    rw [e1, e2]
    by_cases hm : (o.Text.length : Int) % 8 > 0
    · rw [if_pos hm, wrap64 (n := (o.Text.length : Int) / 8) (by omega) (by omega), wrap64 (n := (o.Text.length : Int) / 8 + 1) (by omega) (by omega), wrap64 (by omega) (by omega)]
      congr 1; omega
    · rw [if_neg hm, wrap64 (n := (o.Text.length : Int) / 8) (by omega) (by omega), wrap64 (by omega) (by omega)]
      congr 1; omega
  · rw [if_neg hk, if_neg hk, wrap64 (by omega) (by omega)]
    congr 1; omega
theorem addR_inv {H : GHeapHeap} (h : HInv H) (o : GApiObj) (hs : smallO o) (hg : goodO o) : HInv (H.addR o).2.2 ∧ (H.addR o).2.2.room = H.room ∧ ((H.addR o).2.2.l.length = H.l.length → (H.addR o).2.2.cells = H.cells) := by
  unfold GHeapHeap.addR
  rw [objSize_eq o hs]
  split
  · exact ⟨h, rfl, fun _ => rfl⟩
  · rename_i hc
    have hp := sizeI_pos o
    refine ⟨⟨?_, ?_, h.r2, ?_, ?_⟩, rfl, fun e => ?_⟩
    · have := h.r0; simp only [GHeapHeap.plus, objSize_eq o hs]; omega
    · simp only [GHeapHeap.plus, objSize_eq o hs]; omega
    · simp only [GHeapHeap.plus, objSize_eq o hs, List.map_append, List.sum_append, h.sum]; simp
    · intro x hx
      simp only [GHeapHeap.plus, List.mem_append, List.mem_singleton] at hx
      rcases hx with hx | rfl
      · exact h.good x hx
      · exact hg
    · simp [GHeapHeap.plus] at e
end Go.Proofs.Ytblikpgdepjhdaa

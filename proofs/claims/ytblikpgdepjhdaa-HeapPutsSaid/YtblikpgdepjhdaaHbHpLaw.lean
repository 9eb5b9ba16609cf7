/- Parts of the proof. -/
import Derived.Test.YtblikpgdepjhdaaHbLfOp
import Derived.Test.YtblikpgdepjhdaaHbLf2
namespace Go.Proofs.Ytblikpgdepjhdaa
open Go.RowKit
set_option linter.unusedVariables false
set_option maxHeartbeats 2000000
def mr (H : GHeapHeap) : GR11H := ⟨H.room, H.cells, H.l⟩
def sizeI (o : GApiObj) : Int := if o.Kind = 3 then 1 + ((o.Text.length : Int) + 7) / 8 else 1 + o.Vals.length
def goodO (o : GApiObj) : Prop := o.Kind = 3 ∧ o.Vals = [] ∨ o.Kind ≠ 3 ∧ o.Text = []
def smallO (o : GApiObj) : Prop := o.Text.length ≤ 1000000000 ∧ o.Vals.length ≤ 1000000000
structure HInv (H : GHeapHeap) : Prop where
  r0 : 0 ≤ H.cells
  r1 : H.cells ≤ H.room
  r2 : H.room ≤ 65536
  sum : H.cells = (H.l.map sizeI).sum
  good : ∀ o ∈ H.l, goodO o
theorem sizeI_pos (o : GApiObj) : 1 ≤ sizeI o := by unfold sizeI; split <;> omega
theorem objSize_eq (o : GApiObj) (h : smallO o) : objSize o.Kind o.Text o.Vals.length = sizeI o := by
  obtain ⟨h1, h2⟩ := h
  unfold sizeI
  split
  · rename_i hk
    rw [hk]
    unfold objSize
    rw [if_pos rfl]
    have e : RowKit.wrap64 ((o.Text.length : Int) + 7) = (o.Text.length : Int) + 7 := by unfold RowKit.wrap64; omega
    have e2 : ((o.Text.length : Int) + 7).tdiv 8 = ((o.Text.length : Int) + 7) / 8 := Int.tdiv_eq_ediv_of_nonneg (by omega)
    rw [e, e2]
    unfold RowKit.wrap64
    omega
  · rename_i hk
    rw [objSizeN _ _ _ hk (by omega)]
    omega
theorem sum_mem : ∀ (l : List GApiObj) (o : GApiObj), o ∈ l → sizeI o + (l.length - 1 : Int) ≤ (l.map sizeI).sum
  | a :: l, o, h => by
    simp only [List.map_cons, List.sum_cons, List.length_cons]
    rcases List.mem_cons.1 h with rfl | h
    · have : ∀ l : List GApiObj, (l.length : Int) ≤ (l.map sizeI).sum := fun l => by
        induction l with
        | nil => simp
        | cons b l ih => have := sizeI_pos b; simp only [List.map_cons, List.sum_cons, List.length_cons]; omega
      have := this l; omega
    · have := sum_mem l o h; have := sizeI_pos a; omega
theorem HInv.len {H : GHeapHeap} (h : HInv H) : (H.l.length : Int) ≤ H.cells := by
  rw [h.sum]
  have : ∀ l : List GApiObj, (l.length : Int) ≤ (l.map sizeI).sum := fun l => by
    induction l with
    | nil => simp
    | cons b l ih => have := sizeI_pos b; simp only [List.map_cons, List.sum_cons, List.length_cons]; omega
  exact this H.l
theorem HInv.small {H : GHeapHeap} (h : HInv H) {o : GApiObj} (ho : o ∈ H.l) : o.Vals.length ≤ 65536 ∧ o.Text.length ≤ 1000000 ∧ sizeI o ≤ H.cells := by
  have h1 := sum_mem H.l o ho
  have h2 : 1 ≤ H.l.length := List.length_pos_of_mem ho
  rw [← h.sum] at h1
  have h3 := h.r1
  have h4 := h.r2
  have h5 : sizeI o ≤ H.cells := by omega
  refine ⟨?_, ?_, h5⟩
  · rcases h.good o ho with ⟨_, e⟩ | ⟨e, _⟩
    · rw [e]; simp
    · unfold sizeI at h5; rw [if_neg e] at h5; omega
  · rcases h.good o ho with ⟨e, _⟩ | ⟨_, e⟩
    · unfold sizeI at h5; rw [if_pos e] at h5; omega
    · rw [e]; simp
theorem HInv.smallO {H : GHeapHeap} (h : HInv H) {o : GApiObj} (ho : o ∈ H.l) : smallO o := by
  obtain ⟨h1, h2, _⟩ := h.small ho
  exact ⟨by omega, by omega⟩
theorem HInv.putOk {H : GHeapHeap} (h : HInv H) : ∀ o ∈ H.l, putOk o := fun o ho => ⟨(h.small ho).1, (h.good o ho).imp (fun x => x.1) fun x => x.2⟩
theorem HInv.allOk {H : GHeapHeap} (h : HInv H) : ∀ o ∈ H.l, o.Vals.length ≤ 65536 := fun o ho => (h.small ho).1
theorem appOb {b n : Nat} (h : n * b ≤ 140737488355328) (h2 : n ≤ 140737488355328) : AppOb b n := by unfold AppOb; simp only [maxLen]; omega
theorem appD_of {α : Type} {b : Nat} {xs ys : List α} (h : AppOb b (xs.length + ys.length)) : appD b xs ys = some (xs ++ ys) := if_pos h
theorem cost_spec (o : GApiObj) (h : smallO o) : r11_Cost o = some (sizeI o) := by
  obtain ⟨h1, h2⟩ := h
  unfold r11_Cost sizeI
  by_cases hk : o.Kind = 3
  · rw [if_pos hk, if_pos hk]
    have e1 : Int.tdiv (o.Text.length : Int) 8 = (o.Text.length : Int) / 8 := Int.tdiv_eq_ediv_of_nonneg (by omega)
    have e2 : Int.tmod (o.Text.length : Int) 8 = (o.Text.length : Int) % 8 := Int.tmod_eq_emod_of_nonneg (by omega)
    rw [e1, e2]
    by_cases hm : (o.Text.length : Int) % 8 > 0
    · rw [if_pos hm, wrap64 (n := (o.Text.length : Int) / 8) (by omega) (by omega), wrap64 (n := (o.Text.length : Int) / 8 + 1) (by omega) (by omega), wrap64 (by omega) (by omega)]
      congr 1; omega
    · rw [if_neg hm, wrap64 (n := (o.Text.length : Int) / 8) (by omega) (by omega), wrap64 (by omega) (by omega)]
      congr 1; omega
  · rw [if_neg hk, if_neg hk, wrap64 (by omega) (by omega)]
    congr 1; omega
theorem add_spec {H : GHeapHeap} (h : HInv H) (o : GApiObj) (hs : smallO o) : r11_H_Add (mr H) o = some ((H.addR o).1, (H.addR o).2.1, mr (H.addR o).2.2) := by
  have h1 := h.r0
  have h2 := h.r1
  have h3 := h.r2
  have hp := sizeI_pos o
  have hb : sizeI o ≤ 1000000001 := by obtain ⟨a, b⟩ := hs; unfold sizeI; split <;> omega
  have hl := h.len
  unfold r11_H_Add GHeapHeap.addR
  rw [cost_spec o hs, obind_some, objSize_eq o hs]
  simp only [mr]
  have hw : w64 (H.cells + sizeI o) = H.cells + sizeI o := wrap64 (by omega) (by omega)
  simp only [hw]
  by_cases hc : H.cells + sizeI o > H.room
  · have hc2 : H.room - H.cells < sizeI o := by omega
    rw [if_pos hc, if_pos hc2]
  · have ha : AppOb 56 (([] : List GApiObj).length + H.l.length) := appOb (by simp; omega) (by simp; omega)
    have hb : AppOb 56 ((([] : List GApiObj) ++ H.l).length + ([o] : List GApiObj).length) := appOb (by simp; omega) (by simp; omega)
    have hc2 : ¬ H.room - H.cells < sizeI o := by omega
    rw [if_neg hc, if_neg hc2, appD_of ha, obind_some, appD_of hb, obind_some]
    simp only [GHeapHeap.plus, objSize_eq o hs, List.nil_append, List.length_append, List.length_singleton]
theorem addR_inv {H : GHeapHeap} (h : HInv H) (o : GApiObj) (hs : smallO o) (hg : goodO o) : HInv (H.addR o).2.2 ∧ (H.addR o).2.2.room = H.room ∧ ((H.addR o).2.2.l.length = H.l.length → (H.addR o).2.2.cells = H.cells) := by
  unfold GHeapHeap.addR
  rw [objSize_eq o hs]
  split
  · exact ⟨h, rfl, fun _ => rfl⟩
  · rename_i hc
    have hp := sizeI_pos o
    refine ⟨⟨?_, ?_, h.r2, ?_, ?_⟩, rfl, fun e => ?_⟩
    · have := h.r0; simp only [GHeapHeap.plus, objSize_eq o hs]; omega
    · simp only [GHeapHeap.plus, objSize_eq o hs]; omega
    · simp only [GHeapHeap.plus, objSize_eq o hs, List.map_append, List.sum_append, h.sum]; simp
    · intro x hx
      simp only [GHeapHeap.plus, List.mem_append, List.mem_singleton] at hx
      rcases hx with hx | rfl
      · exact h.good x hx
      · exact hg
    · simp [GHeapHeap.plus] at e
theorem bind3 (r : GApiValue × Bool × GHeapHeap) : ((some (r.1, r.2.1, mr r.2.2)).bind fun (x : GApiValue × Bool × GR11H) => some (x.1, x.2.1, x.2.2)) = some (r.1, r.2.1, mr r.2.2) := rfl
theorem str_spec {H : GHeapHeap} (h : HInv H) (s : List UInt8) (hs : s.length ≤ 1000000000) : r11_H_Str (mr H) s = some ((H.str s).1, (H.str s).2.1, mr (H.str s).2.2) := by
  unfold r11_H_Str GHeapHeap.str
  by_cases c : s = []
  · rw [if_pos c, if_pos c]
  · rw [if_neg c, if_neg c, add_spec h ⟨3, 0, s, []⟩ ⟨hs, Nat.zero_le _⟩]
    exact bind3 _
theorem str_inv {H : GHeapHeap} (h : HInv H) (s : List UInt8) (hs : s.length ≤ 1000000000) : HInv (H.str s).2.2 ∧ (H.str s).2.2.room = H.room ∧ ((H.str s).2.2.l.length = H.l.length → (H.str s).2.2.cells = H.cells) := by
  unfold GHeapHeap.str
  split
  · exact ⟨h, rfl, fun _ => rfl⟩
  · exact addR_inv h ⟨3, 0, s, []⟩ ⟨hs, Nat.zero_le _⟩ (.inl ⟨rfl, rfl⟩)
theorem rec_spec {H : GHeapHeap} (h : HInv H) (f : Int) (l : List GApiValue) (hl : l.length ≤ 1000000000) : r11_H_Rec (mr H) f l = some ((H.rec_ f l).1, (H.rec_ f l).2.1, mr (H.rec_ f l).2.2) := by
  unfold r11_H_Rec GHeapHeap.rec_
  by_cases c : f < 0
  · rw [if_pos c, if_pos c]
  · have ha : AppOb 32 (([] : List GApiValue).length + l.length) := appOb (by simp; omega) (by simp; omega)
    rw [if_neg c, if_neg c, appD_of ha, obind_some, List.nil_append, add_spec h ⟨6, f, [], l⟩ ⟨Nat.zero_le _, hl⟩]
    exact bind3 _
theorem rec_inv {H : GHeapHeap} (h : HInv H) (f : Int) (l : List GApiValue) (hl : l.length ≤ 1000000000) : HInv (H.rec_ f l).2.2 ∧ (H.rec_ f l).2.2.room = H.room ∧ ((H.rec_ f l).2.2.l.length = H.l.length → (H.rec_ f l).2.2.cells = H.cells) := by
  unfold GHeapHeap.rec_
  split
  · exact ⟨h, rfl, fun _ => rfl⟩
  · exact addR_inv h ⟨6, f, [], l⟩ ⟨Nat.zero_le _, hl⟩ (.inr ⟨show (6 : Int) ≠ 3 by decide, rfl⟩)
theorem list_loop (a1 n : Int) (a0 : GR11H) (x : GApiValue) (hn : n ≤ 65536) : ∀ (m k : Nat), n - k ≤ m → (k : Int) ≤ n → r11_H_List_l0 a1 n k a0 x (List.replicate k x) = r11_H_List_j1 a1 a0 (List.replicate n.toNat x) := by
  intro m
  induction m with
  | zero => intro k h1 h2; rw [r11_H_List_l0_eq, if_neg (by omega), show n.toNat = k by omega]
  | succ m ih =>
    intro k h1 h2
    by_cases c : (k : Int) < n
    · have ha : AppOb 32 ((List.replicate k x).length + ([x] : List GApiValue).length) := appOb (by simp; omega) (by simp; omega)
      rw [r11_H_List_l0_eq, if_pos c, appD_of ha, obind_some, wrap64 (by omega) (by omega), show (k : Int) + 1 = ((k + 1 : Nat) : Int) by omega]
      have e : List.replicate k x ++ [x] = List.replicate (k + 1) x := by rw [List.replicate_succ']
      rw [e]
      exact ih (k + 1) (by omega) (by omega)
    · rw [r11_H_List_l0_eq, if_neg c, show n.toNat = k by omega]
theorem list_spec {H : GHeapHeap} (h : HInv H) (f n : Int) (x : GApiValue) : r11_H_List (mr H) f n x = some ((H.list_ f n x).1, (H.list_ f n x).2.1, mr (H.list_ f n x).2.2) := by
  have h0 := h.r0
  have h1 := h.r1
  have h2 := h.r2
  unfold r11_H_List
  by_cases c1 : f < 0
  · rw [if_pos c1]; unfold GHeapHeap.list_; rw [if_pos (.inl c1)]
  rw [if_neg c1]
  by_cases c2 : n < 0
  · rw [if_pos c2]; unfold GHeapHeap.list_; rw [if_pos (.inr (.inl c2))]
  rw [if_neg c2]
  by_cases c3 : n > 65536
  · rw [if_pos c3]; unfold GHeapHeap.list_; rw [if_pos (.inr (.inr (by omega)))]
  rw [if_neg c3]
  have := list_loop f n (mr H) x (by omega) n.toNat 0 (by omega) (by omega)
  rw [show ((0 : Nat) : Int) = 0 from rfl, List.replicate_zero] at this
  rw [this, r11_H_List_j1_eq, add_spec h ⟨7, f, [], List.replicate n.toNat x⟩ ⟨Nat.zero_le _, by simp only [List.length_replicate]; omega⟩]
  by_cases c4 : H.room - H.cells ≤ n
  · have e : H.list_ f n x = (⟨0, 0, 0, 0⟩, false, H) := by unfold GHeapHeap.list_; rw [if_pos (.inr (.inr c4))]
    have e2 : H.addR ⟨7, f, [], List.replicate n.toNat x⟩ = (⟨0, 0, 0, 0⟩, false, H) := by
      unfold GHeapHeap.addR
      have hl : (List.replicate n.toNat x).length = n.toNat := List.length_replicate
      have e3 : objSize 7 [] (List.replicate n.toNat x).length = n + 1 := by rw [objSizeN _ _ _ (by decide) (by omega), hl]; omega
      have e4 : H.room - H.cells < n + 1 := by omega
      rw [e3, if_pos e4]
    rw [e, e2]
    exact bind3 (⟨0, 0, 0, 0⟩, false, H)
  · have e : H.list_ f n x = H.addR ⟨7, f, [], List.replicate n.toNat x⟩ := by
      have : ¬ (f < 0 ∨ n < 0 ∨ H.room - H.cells ≤ n) := by omega
      unfold GHeapHeap.list_; rw [if_neg this]
    rw [e]
    exact bind3 _
theorem list_inv {H : GHeapHeap} (h : HInv H) (f n : Int) (x : GApiValue) : HInv (H.list_ f n x).2.2 ∧ (H.list_ f n x).2.2.room = H.room ∧ ((H.list_ f n x).2.2.l.length = H.l.length → (H.list_ f n x).2.2.cells = H.cells) := by
  have h0 := h.r0
  have h1 := h.r1
  have h2 := h.r2
  unfold GHeapHeap.list_
  split
  · exact ⟨h, rfl, fun _ => rfl⟩
  · exact addR_inv h ⟨7, f, [], List.replicate n.toNat x⟩ ⟨Nat.zero_le _, by simp only [List.length_replicate]; omega⟩ (.inr ⟨show (7 : Int) ≠ 3 by decide, rfl⟩)
end Go.Proofs.Ytblikpgdepjhdaa

/- The laws HeapRoom and HeapNil, in plain terms. -/
import Derived.Test.YtblikpgdepjhdaaHpLaw3
namespace Go.Proofs.Ytblikpgdepjhdaa
open Go.RowKit
set_option linter.unusedVariables false
set_option maxHeartbeats 2000000

theorem heapNil_all (o : GHindcastlaw11Op) (h : ok_GHindcastlaw11Op o) : hindcastlaw11_HeapNil o = some true := by
  have hj : hindcastlaw11_HeapNil_j0 = some true := by unfold hindcastlaw11_HeapNil_j0; rw [awake_true, obind_some]
  unfold hindcastlaw11_HeapNil
  by_cases c1 : (o.Text.length : Int) > 1000
  · rw [if_pos c1, hj]
  rw [if_neg c1]
  by_cases c2 : (o.Vals.length : Int) > 300
  · rw [if_pos c2, hj]
  rw [if_neg c2]
  simp [xheap_Heap_Str_n, xheap_Heap_List_n, xheap_Heap_Rec_n, xheap_Heap_Text_n, xheap_Heap_Size_n, xheap_Heap_Get_n, xheap_Heap_Put_n, xheap_Heap_Cells_n, xheap_Heap_All_n, xheap_Heap_Copy_n, awake_true]
theorem take_le : ∀ (l : List GApiObj) (k : Nat), ((l.take k).map sizeI).sum ≤ (l.map sizeI).sum ∧ 0 ≤ ((l.take k).map sizeI).sum
  | [], k => by simp
  | a :: l, 0 => by
    have := (take_le l l.length).2
    rw [List.take_of_length_le (Nat.le_refl _)] at this
    have := sizeI_pos a
    simp; omega
  | a :: l, k + 1 => by
    obtain ⟨h1, h2⟩ := take_le l k
    have := sizeI_pos a
    simp only [List.take_succ_cons, List.map_cons, List.sum_cons]; omega
theorem sum_loop {H : GHeapHeap} (h : HInv H) : ∀ (m k : Nat), H.l.length - k ≤ m → k ≤ H.l.length → hindcastlaw11_HeapRoom_l2 ((H.l.take k).map sizeI).sum k H H.l = some true := by
  intro m
  have hl := h.len
  have h1 := h.r1
  have h2 := h.r2
  have stop : ∀ k : Nat, k ≤ H.l.length → ¬ k < H.l.length → hindcastlaw11_HeapRoom_l2 ((H.l.take k).map sizeI).sum k H H.l = some true := fun k hk hk2 => by
    have e : k = H.l.length := by omega
    subst e
    rw [hindcastlaw11_HeapRoom_l2_eq, if_neg (by omega), hindcastlaw11_HeapRoom_j3_eq, show xheap_Heap_Cells H = some H.cells from rfl, obind_some, List.take_of_length_le (Nat.le_refl _), if_pos h.sum.symm, awake_true, obind_some]
  induction m with
  | zero => intro k a b; exact stop k b (by omega)
  | succ m ih =>
    intro k a b
    by_cases c : k < H.l.length
    · have hw : w64 ((k : Int) + 1) = ((k + 1 : Nat) : Int) := by rw [wrap64 (by omega) (by omega)]; omega
      have t1 := take_le H.l k
      have t2 := take_le H.l (k + 1)
      have e : ((H.l.take (k + 1)).map sizeI).sum = ((H.l.take k).map sizeI).sum + sizeI H.l[k] := by
        rw [← List.take_append_getElem c, List.map_append, List.sum_append]; simp only [List.map_cons, List.map_nil, List.sum_cons, List.sum_nil, Int.add_zero]
      rw [← h.sum] at t1 t2
      have hs : w64 (((H.l.take k).map sizeI).sum + sizeI H.l[k]) = ((H.l.take (k + 1)).map sizeI).sum := by rw [e]; exact wrap64 (by omega) (by omega)
      rw [hindcastlaw11_HeapRoom_l2_eq, if_pos (by omega), getI_nat' c, obind_some, cost_spec _ (h.smallO (List.getElem_mem c)), obind_some, hw, hs]
      exact ih (k + 1) (by omega) (by omega)
    · exact stop k b c
theorem room_loop (l : List GHindcastlaw11Op) (hl : l.length ≤ 60) (hok : ∀ i (hi : i < l.length), okOp l[i]) (c : Int) : ∀ (m k : Nat), l.length - k ≤ m → k ≤ l.length → ∀ H, HInv H → H.room = c → hindcastlaw11_HeapRoom_l0 c l k H.room H.cells H.l H = some true := by
  intro m
  have stop : ∀ (k : Nat), ¬ k < l.length → ∀ H, HInv H → hindcastlaw11_HeapRoom_l0 c l k H.room H.cells H.l H = some true := fun k hk H h => by
    have := sum_loop h _ 0 (Nat.le_refl _) (Nat.zero_le _)
    rw [hindcastlaw11_HeapRoom_l0_eq, if_neg (by omega), hindcastlaw11_HeapRoom_j1_eq, allO h, obind_some]
    exact this
  induction m with
  | zero => intro k h1 h2 H h _; exact stop k (by omega) H h
  | succ m ih =>
    intro k h1 h2 H h hr
    by_cases cc : k < l.length
    · have hw : w64 ((k : Int) + 1) = ((k + 1 : Nat) : Int) := by rw [wrap64 (by omega) (by omega)]; omega
      obtain ⟨H', d1, d2, d3, d4⟩ := does_spec h l[k] (hok k cc)
      have hn : ¬ H'.cells > c := by have := d2.r1; omega
      have nx := ih (k + 1) (by omega) (by omega) H' d2 (d3.trans hr)
      rw [hindcastlaw11_HeapRoom_l0_eq, if_pos (by omega), allO h, obind_some, show xheap_Heap_Cells H = some H.cells from rfl, obind_some, getI_nat' cc, obind_some, show GHindcastref11H.mk H.room H.cells H.l = mr H from rfl, d1, obind_some,
        show xheap_Heap_Cells (true, mr H', H').2.2 = some H'.cells from rfl, obind_some, if_neg hn, show xheap_Heap_All (true, mr H', H').2.2 = some H'.l from allO d2, obind_some, hw]
      by_cases hc : (H'.l.length : Int) = (H.l.length : Int)
      · rw [if_pos hc, obind_some, if_pos (d4 (by omega))]
        exact nx
      · rw [if_neg hc]
        exact nx
    · exact stop k cc H h
theorem heapRoom_all (a0 : Int) (a1 : List GHindcastlaw11Op) (h : okI .i64 a0) (h1 : a1.length ≤ maxLen ∧ ∀ x ∈ a1, ok_GHindcastlaw11Op x) : hindcastlaw11_HeapRoom a0 a1 = some true := by
  unfold hindcastlaw11_HeapRoom
  rw [newO, obind_some]
  by_cases c : a0 < 0 ∨ 65536 < a0
  · rw [if_pos c]
    simp [optCase, awake_true]
  · rw [if_neg c]
    obtain ⟨b, b1, b2⟩ := great_spec a1
    simp only [optCase, if_true, b1, obind_some]
    cases b with
    | true => rw [if_pos rfl, awake_true, obind_some]
    | false =>
      obtain ⟨g1, g2⟩ := b2 rfl
      rw [if_neg (by simp)]
      exact room_loop a1 g1 g2 a0 _ 0 (Nat.le_refl _) (Nat.zero_le _) (GHeapHeap.new a0) (new_inv c) rfl
end Go.Proofs.Ytblikpgdepjhdaa

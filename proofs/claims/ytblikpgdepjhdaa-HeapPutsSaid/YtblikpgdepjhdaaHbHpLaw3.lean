/- Parts of the proof. -/
import Derived.Test.YtblikpgdepjhdaaHbHpLaw2
namespace Go.Proofs.Ytblikpgdepjhdaa
open Go.RowKit
set_option linter.unusedVariables false
set_option maxHeartbeats 2000000
def okOp (o : GL11Op) : Prop := o.Text.length ≤ 1000 ∧ o.Vals.length ≤ 300
theorem eq4 (a b : GApiValue) (h : a = b) : (decide (a.Kind = b.Kind) && (decide (a.N = b.N) && (decide (a.Re = b.Re) && decide (a.Im = b.Im)))) = true := by subst h; simp
theorem strO {H : GHeapHeap} (s : List UInt8) (h : s.length ≤ 1000000000) : xheap_Heap_Str H s = some (H.str s) := by unfold xheap_Heap_Str; rw [if_pos (show s.length < 4611686018427387904 by omega)]
theorem recO {H : GHeapHeap} (f : Int) (l : List GApiValue) (h : l.length ≤ 1000000000) : xheap_Heap_Rec H f l = some (H.rec_ f l) := by unfold xheap_Heap_Rec; rw [if_pos (show l.length ≤ 4000000000000 by omega)]
theorem putO {H : GHeapHeap} (h : HInv H) (v : GApiValue) (i : Int) (x : GApiValue) : xheap_Heap_Put H v i x = some (H.put v.Kind v.N i x) := by unfold xheap_Heap_Put; rw [if_pos h.putOk]
theorem trap_small (H : GHeapHeap) (v : GApiValue) (i : Int) (x : GApiValue) : w64 (H.put v.Kind v.N i x).1 = (H.put v.Kind v.N i x).1 ∧ w64 (H.size v.Kind v.N).2 = (H.size v.Kind v.N).2 ∧ w64 (H.get v.Kind v.N i).2 = (H.get v.Kind v.N i).2 := by
  have e : ∀ n : Int, n = 0 ∨ n = 2 ∨ n = 3 → w64 n = n := fun n h => by rcases h with rfl | rfl | rfl <;> exact wrap64 (by decide) (by decide)
  have s : (H.size v.Kind v.N).2 = 0 ∨ (H.size v.Kind v.N).2 = 3 := by unfold GHeapHeap.size; split; exact .inl rfl; split; split <;> exact .inl rfl; exact .inr rfl
  refine ⟨e _ ?_, e _ (s.imp id .inr), e _ ?_⟩
  · unfold GHeapHeap.put; split
    · exact .inr (.inr rfl)
    · split
      · exact .inr (.inr rfl)
      · split
        · exact .inr (.inl rfl)
        · exact .inl rfl
  · unfold GHeapHeap.get; split
    · rcases s with s | s <;> simp [s]
    · split
      · exact .inr (.inl rfl)
      · split
        · split <;> exact .inl rfl
        · exact .inl rfl
theorem does_spec {H : GHeapHeap} (h : HInv H) (o : GL11Op) (ho : okOp o) : ∃ H', l11_does H (mr H) o = some (true, mr H', H') ∧ HInv H' ∧ H'.room = H.room ∧ (H'.l.length = H.l.length → H'.cells = H.cells) := by
  obtain ⟨h1, h2⟩ := ho
  unfold l11_does
  by_cases k0 : o.Kind = 0
  · obtain ⟨i1, i2, i3⟩ := str_inv h o.Text (by omega)
    refine ⟨(H.str o.Text).2.2, ?_, i1, i2, i3⟩
    rw [if_pos k0, strO o.Text (by omega), obind_some, str_spec h o.Text (by omega), obind_some, if_pos (eq4 _ _ rfl)]
    simp
  rw [if_neg k0]
  by_cases k1 : o.Kind = 1
  · rw [if_pos k1]
    generalize (if (if (1099511627776 : Int) < o.N then 1099511627776 else o.N) < (-1) then (-1) else (if (1099511627776 : Int) < o.N then 1099511627776 else o.N)) = n
    obtain ⟨i1, i2, i3⟩ := list_inv h o.Of n o.X
    refine ⟨(H.list_ o.Of n o.X).2.2, ?_, i1, i2, i3⟩
    rw [show xheap_Heap_List H o.Of n o.X = some (H.list_ o.Of n o.X) from rfl, obind_some, list_spec h o.Of n o.X, obind_some, if_pos (eq4 _ _ rfl)]
    simp
  rw [if_neg k1]
  by_cases k2 : o.Kind = 2
  · obtain ⟨i1, i2, i3⟩ := rec_inv h o.Of o.Vals (by omega)
    refine ⟨(H.rec_ o.Of o.Vals).2.2, ?_, i1, i2, i3⟩
    rw [if_pos k2, recO o.Of o.Vals (by omega), obind_some, rec_spec h o.Of o.Vals (by omega), obind_some, if_pos (eq4 _ _ rfl)]
    simp
  rw [if_neg k2]
  obtain ⟨t1, t2, t3⟩ := trap_small H o.V o.N o.X
  by_cases k3 : o.Kind = 3
  · obtain ⟨i1, i2, i3⟩ := put_inv h o.V o.N o.X
    refine ⟨(H.put o.V.Kind o.V.N o.N o.X).2, ?_, i1, i2, i3⟩
    rw [if_pos k3, putO h, obind_some, put_spec h, obind_some, t1]
    simp
  rw [if_neg k3]
  refine ⟨H, ?_, h, rfl, fun _ => rfl⟩
  obtain ⟨n1, n2⟩ := names_spec h o.V
  rw [show xheap_Heap_Text H o.V = some (H.text o.V.Kind o.V.N) from rfl, obind_some, text_spec h, obind_some, show xheap_Heap_Size H o.V = some (H.size o.V.Kind o.V.N) from rfl, obind_some, size_spec h, obind_some,
    show xheap_Heap_Get H o.V o.N = some (H.get o.V.Kind o.V.N o.N) from rfl, obind_some, get_spec h, obind_some, n1, obind_some]
  have fin : ∀ f : Int, H.of_ o.V.Kind o.V.N = f → l11_does_j0 (H.text o.V.Kind o.V.N) (H.text o.V.Kind o.V.N) (H.size o.V.Kind o.V.N) (H.size o.V.Kind o.V.N) (H.get o.V.Kind o.V.N o.N) (H.get o.V.Kind o.V.N o.N) f (mr H) o H = some (true, mr H, H) := fun f hf => by
    unfold l11_does_j0
    rw [if_pos rfl, if_pos (by simp), if_pos rfl, t2, if_pos rfl, if_pos (eq4 _ _ rfl), t3, if_pos rfl, show xheap_Heap_Of H o.V = some (H.of_ o.V.Kind o.V.N) from rfl, obind_some, hf]
    simp
  cases hat : H.at_ o.V.Kind o.V.N with
  | none =>
    rw [if_neg (by simp)]
    exact fin 0 (by unfold GHeapHeap.of_; rw [hat])
  | some x =>
    rw [if_pos (show (some x).isSome = true from rfl), (n2 x hat).1, obind_some]
    exact fin x.Of (by unfold GHeapHeap.of_; rw [hat])
theorem great_loop (l : List GL11Op) (hl : l.length ≤ 60) : ∀ (m k : Nat), l.length - k ≤ m → k ≤ l.length → ∃ b, l11_great_l0 l k = some b ∧ (b = false → ∀ i (hi : i < l.length), k ≤ i → okOp l[i]) := by
  intro m
  induction m with
  | zero =>
    intro k h1 h2
    refine ⟨false, by rw [l11_great_l0_eq, if_neg (by omega), l11_great_j1_eq], fun _ i hi hk => absurd hi (by omega)⟩
  | succ m ih =>
    intro k h1 h2
    by_cases c : k < l.length
    · rw [l11_great_l0_eq, if_pos (by omega), getI_nat' c, obind_some]
      by_cases c1 : (l[k].Text.length : Int) > 1000
      · exact ⟨true, by rw [if_pos c1], fun e => by cases e⟩
      rw [if_neg c1]
      by_cases c2 : (l[k].Vals.length : Int) > 300
      · exact ⟨true, by rw [if_pos c2], fun e => by cases e⟩
      rw [if_neg c2]
      obtain ⟨b, b1, b2⟩ := ih (k + 1) (by omega) (by omega)
      have hw : w64 ((k : Int) + 1) = ((k + 1 : Nat) : Int) := by rw [wrap64 (by omega) (by omega)]; omega
      rw [hw, b1]
      have fin : b = false → ∀ i (hi : i < l.length), k ≤ i → okOp l[i] := fun e i hi hk => by
        by_cases hik : i = k
        · subst hik; exact ⟨by omega, by omega⟩
        · exact b2 e i hi (by omega)
      by_cases c3 : l[k].Kind = 1
      · rw [if_pos c3]
        by_cases c4 : l[k].N > 1000
        · rw [if_pos c4]
          by_cases c5 : l[k].N ≤ 65536
          · exact ⟨true, by rw [if_pos c5], fun e => by cases e⟩
          · exact ⟨b, by rw [if_neg c5], fin⟩
        · exact ⟨b, by rw [if_neg c4], fin⟩
      · exact ⟨b, by rw [if_neg c3], fin⟩
    · refine ⟨false, by rw [l11_great_l0_eq, if_neg (by omega), l11_great_j1_eq], fun _ i hi hk => absurd hi (by omega)⟩
theorem great_spec (l : List GL11Op) : ∃ b, l11_great l = some b ∧ (b = false → l.length ≤ 60 ∧ ∀ i (hi : i < l.length), okOp l[i]) := by
  unfold l11_great
  by_cases c : (l.length : Int) > 60
  · exact ⟨true, by rw [if_pos c], fun e => by cases e⟩
  · obtain ⟨b, b1, b2⟩ := great_loop l (by omega) l.length 0 (by omega) (by omega)
    exact ⟨b, by rw [if_neg c]; exact b1, fun e => ⟨by omega, fun i hi => b2 e i hi (by omega)⟩⟩
theorem new_inv {c : Int} (h : ¬ (c < 0 ∨ 65536 < c)) : HInv (GHeapHeap.new c) := ⟨by simp [GHeapHeap.new], by simp [GHeapHeap.new]; omega, by simp [GHeapHeap.new]; omega, by simp [GHeapHeap.new], fun o ho => by simp [GHeapHeap.new] at ho⟩
theorem awake_true : l11_awake = some true := by
  have h3 := new_inv (c := 3) (by omega)
  unfold l11_awake
  rw [show xheap_New 3 = some (some (GHeapHeap.new 3), 0) from rfl, obind_some]
  simp only [optCase, if_true]
  have e1 : (GHeapHeap.new 3).str [110, 105, 110, 101, 98, 121, 116, 101, 115] = (⟨3, 1, 0, 0⟩, true, ⟨3, 3, [⟨3, 0, [110, 105, 110, 101, 98, 121, 116, 101, 115], []⟩]⟩) := by
    unfold GHeapHeap.str
    rw [if_neg (by decide)]
    unfold GHeapHeap.addR
    have hs : objSize 3 [110, 105, 110, 101, 98, 121, 116, 101, 115] 0 = 3 := (objSize_eq ⟨3, 0, [110, 105, 110, 101, 98, 121, 116, 101, 115], []⟩ ⟨by decide, by decide⟩).trans (by decide)
    simp only [List.length_nil, hs, GHeapHeap.new, GHeapHeap.plus]
    rw [if_neg (by decide)]
    rfl
  rw [strO _ (by decide), e1, obind_some]
  have e2 : (⟨3, 3, [⟨3, 0, [110, 105, 110, 101, 98, 121, 116, 101, 115], []⟩]⟩ : GHeapHeap).list_ 1 0 ⟨1, 0, 0, 0⟩ = (⟨0, 0, 0, 0⟩, false, ⟨3, 3, [⟨3, 0, [110, 105, 110, 101, 98, 121, 116, 101, 115], []⟩]⟩) := by
    unfold GHeapHeap.list_
    rw [if_pos (by decide)]
  rw [show ∀ H a b c, xheap_Heap_List H a b c = some (H.list_ a b c) from fun _ _ _ _ => rfl]
  simp only [e2, obind_some]
  rfl
theorem sameV_loop (l : List GApiValue) (hl : l.length ≤ 100000000) : ∀ (m k : Nat), l.length - k ≤ m → k ≤ l.length → r11_SameValues_l0 l l k = some true := by
  intro m
  induction m with
  | zero => intro k h1 h2; rw [r11_SameValues_l0_eq, if_neg (by omega), r11_SameValues_j1_eq]
  | succ m ih =>
    intro k h1 h2
    by_cases c : k < l.length
    · have hw : w64 ((k : Int) + 1) = ((k + 1 : Nat) : Int) := by rw [wrap64 (by omega) (by omega)]; omega
      rw [r11_SameValues_l0_eq, if_pos (by omega), getI_nat' c, obind_some, obind_some, if_pos (eq4 _ _ rfl), hw]
      exact ih (k + 1) (by omega) (by omega)
    · rw [r11_SameValues_l0_eq, if_neg (by omega), r11_SameValues_j1_eq]
theorem same_loop (l : List GApiObj) (hl : l.length ≤ 100000000) (hv : ∀ o ∈ l, o.Vals.length ≤ 65536) : ∀ (m k : Nat), l.length - k ≤ m → k ≤ l.length → r11_Same_l0 l l k = some true := by
  intro m
  induction m with
  | zero => intro k h1 h2; rw [r11_Same_l0_eq, if_neg (by omega), r11_Same_j1_eq]
  | succ m ih =>
    intro k h1 h2
    by_cases c : k < l.length
    · have hw : w64 ((k : Int) + 1) = ((k + 1 : Nat) : Int) := by rw [wrap64 (by omega) (by omega)]; omega
      have hvl := hv l[k] (List.getElem_mem c)
      have sv : r11_SameValues l[k].Vals l[k].Vals = some true := by
        unfold r11_SameValues
        rw [if_pos rfl]
        exact sameV_loop _ (by omega) _ 0 (Nat.le_refl _) (Nat.zero_le _)
      rw [r11_Same_l0_eq, if_pos (by omega), getI_nat' c, obind_some, obind_some, if_pos rfl, if_pos rfl, if_pos rfl, sv, obind_some, if_pos rfl, hw]
      exact ih (k + 1) (by omega) (by omega)
    · rw [r11_Same_l0_eq, if_neg (by omega), r11_Same_j1_eq]
theorem same_self {H : GHeapHeap} (h : HInv H) : r11_Same H.l H.l = some true := by
  have h1 := h.len
  have h2 := h.r1
  have h3 := h.r2
  unfold r11_Same
  rw [if_pos rfl]
  exact same_loop _ (by omega) h.allOk _ 0 (Nat.le_refl _) (Nat.zero_le _)
end Go.Proofs.Ytblikpgdepjhdaa

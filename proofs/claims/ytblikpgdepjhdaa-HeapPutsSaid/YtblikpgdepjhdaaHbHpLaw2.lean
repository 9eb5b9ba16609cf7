/- Parts of the proof. -/
import Derived.Test.YtblikpgdepjhdaaHbHpLaw
namespace Go.Proofs.Ytblikpgdepjhdaa
open Go.RowKit
set_option linter.unusedVariables false
set_option maxHeartbeats 2000000
theorem names_spec {H : GHeapHeap} (h : HInv H) (v : GApiValue) : r11_H_Names (mr H) v = some (H.at_ v.Kind v.N).isSome ∧ ∀ o, H.at_ v.Kind v.N = some o → getI (mr H).L (w64 (v.N - 1)) = some o ∧ 1 ≤ v.N ∧ o.Kind = v.Kind ∧ o ∈ H.l := by
  have hl := h.len
  have h1 := h.r1
  have h2 := h.r2
  constructor
  · unfold r11_H_Names GHeapHeap.at_
    by_cases c1 : v.N ≥ 1
    · rw [if_pos c1]
      by_cases c2 : v.N ≤ (H.l.length : Int)
      · have c2' : v.N ≤ ((mr H).L.length : Int) := c2
        have hlt : (v.N - 1).toNat < H.l.length := by omega
        have hg : getI (mr H).L (v.N - 1) = some (H.l[(v.N - 1).toNat]) := getI_at (xs := H.l) (i := v.N - 1) (by omega) (by omega)
        have hg2 : getI H.l (v.N - 1) = some (H.l[(v.N - 1).toNat]) := hg
        have hw : w64 (v.N - 1) = v.N - 1 := wrap64 (by omega) (by omega)
        rw [if_pos c2', hw, hg, obind_some, hg2, Option.bind_some]
        by_cases hk : (H.l[(v.N - 1).toNat]).Kind = v.Kind
        · rw [if_pos hk, Option.isSome_some]; exact congrArg some (decide_eq_true hk)
        · rw [if_neg hk, Option.isSome_none]; exact congrArg some (decide_eq_false hk)
      · have c2' : ¬ v.N ≤ ((mr H).L.length : Int) := c2
        rw [if_neg c2', getI_out (xs := H.l) (i := v.N - 1) (.inr (by omega))]; simp
    · rw [if_neg c1, getI_out (xs := H.l) (i := v.N - 1) (.inl (by omega))]; simp
  · intro o ho
    obtain ⟨i, hi, e1, e2, e3⟩ := at_some ho
    have hw : w64 (v.N - 1) = (i : Int) := by rw [wrap64 (by omega) (by omega)]; omega
    refine ⟨?_, by omega, e3, e2 ▸ List.getElem_mem hi⟩
    rw [hw, getI_nat' (xs := (mr H).L) hi]
    exact congrArg some e2
theorem text_spec {H : GHeapHeap} (h : HInv H) (v : GApiValue) : r11_H_Text (mr H) v = some (H.text v.Kind v.N) := by
  obtain ⟨n1, n2⟩ := names_spec h v
  unfold r11_H_Text GHeapHeap.text
  by_cases c1 : v.Kind = 3
  · rw [if_pos c1]
    by_cases c2 : v.N = 0
    · rw [if_pos c2, if_pos ⟨c1, c2⟩]
    · have c3 : ¬ (v.Kind = 3 ∧ v.N = 0) := fun e => c2 e.2
      rw [if_neg c2, if_neg c3, n1, obind_some]
      cases ho : H.at_ v.Kind v.N with
      | none => simp
      | some o =>
        rw [(n2 o ho).1]
        simp [c1]
  · have c3 : ¬ (v.Kind = 3 ∧ v.N = 0) := fun e => c1 e.1
    rw [if_neg c1, if_neg c3]
    cases ho : H.at_ v.Kind v.N with
    | none => rfl
    | some o => simp [c1]
theorem size_spec {H : GHeapHeap} (h : HInv H) (v : GApiValue) : r11_H_Size (mr H) v = some (H.size v.Kind v.N) := by
  obtain ⟨n1, n2⟩ := names_spec h v
  unfold r11_H_Size
  rw [text_spec h v, obind_some, n1, obind_some]
  unfold GHeapHeap.text GHeapHeap.size
  by_cases c3 : v.Kind = 3 ∧ v.N = 0
  · rw [if_pos c3, if_pos c3]; simp
  · rw [if_neg c3, if_neg c3]
    cases ho : H.at_ v.Kind v.N with
    | none => simp
    | some o =>
      rw [(n2 o ho).1]
      by_cases c1 : v.Kind = 3
      · simp [c1]
      · simp [c1]
theorem get_spec {H : GHeapHeap} (h : HInv H) (v : GApiValue) (i : Int) : r11_H_Get (mr H) v i = some (H.get v.Kind v.N i) := by
  obtain ⟨n1, n2⟩ := names_spec h v
  unfold r11_H_Get
  rw [size_spec h v, obind_some]
  unfold GHeapHeap.get
  by_cases c1 : (H.size v.Kind v.N).2 = 0
  · have c1' : ¬ (H.size v.Kind v.N).2 ≠ 0 := fun e => e c1
    rw [if_pos c1, if_neg c1']
    by_cases c2 : i < 0
    · have c2' : i < 0 ∨ (H.size v.Kind v.N).1 ≤ i := .inl c2
      rw [if_pos c2, if_pos c2']
    · rw [if_neg c2]
      by_cases c3 : i ≥ (H.size v.Kind v.N).1
      · have c2' : i < 0 ∨ (H.size v.Kind v.N).1 ≤ i := .inr c3
        rw [if_pos c3, if_pos c2']
      · have c2' : ¬ (i < 0 ∨ (H.size v.Kind v.N).1 ≤ i) := by omega
        rw [if_neg c3, if_neg c2', text_spec h v, obind_some]
        unfold GHeapHeap.size at c1 c3
        unfold GHeapHeap.text
        by_cases c0 : v.Kind = 3 ∧ v.N = 0
        · rw [if_pos c0] at c3; simp at c3; omega
        · rw [if_neg c0] at c1 c3 ⊢
          cases ho : H.at_ v.Kind v.N with
          | none => rw [ho] at c1; simp at c1
          | some o =>
            rw [ho] at c3
            obtain ⟨g1, g2, g3, g4⟩ := n2 o ho
            by_cases ck : v.Kind = 3
            · simp only [ck, if_true] at c3 ⊢
              have hi : i < (o.Text.length : Int) := by omega
              rw [getI_at (xs := o.Text) (i := i) (by omega) hi, obind_some]
              have hb := (o.Text[i.toNat]'(by omega)).toNat_lt
              have hw : w64 (((o.Text[i.toNat]'(by omega)).toNat : Nat) : Int) = (((o.Text[i.toNat]'(by omega)).toNat : Nat) : Int) := wrap64 (by omega) (by omega)
              rw [hw, getD_lt _ _ _ (show i.toNat < o.Text.length by omega)]
            · simp only [ck, if_false] at c3 ⊢
              have hi : i < (o.Vals.length : Int) := by omega
              simp only [Bool.false_eq_true, if_false]
              rw [g1, obind_some, getI_at (xs := o.Vals) (i := i) (by omega) hi, obind_some, getD_lt _ _ _ (show i.toNat < o.Vals.length by omega)]
  · have c1' : (H.size v.Kind v.N).2 ≠ 0 := c1
    rw [if_neg c1, if_pos c1']
theorem put_spec {H : GHeapHeap} (h : HInv H) (v : GApiValue) (i : Int) (x : GApiValue) : r11_H_Put (mr H) v i x = some ((H.put v.Kind v.N i x).1, mr (H.put v.Kind v.N i x).2) := by
  obtain ⟨n1, n2⟩ := names_spec h v
  have hl := h.len
  have h1 := h.r1
  have h2 := h.r2
  unfold r11_H_Put GHeapHeap.put
  by_cases ck : v.Kind = 3
  · rw [if_pos ck]
    cases ho : H.at_ v.Kind v.N with
    | none => rfl
    | some o => simp only [ck, if_true]
  · rw [if_neg ck, n1, obind_some]
    cases ho : H.at_ v.Kind v.N with
    | none => simp
    | some o =>
      obtain ⟨g1, g2, g3, g4⟩ := n2 o ho
      have hv := (h.small g4).1
      rw [if_pos (show (some o).isSome = true from rfl), g1, obind_some]
      simp only [ck, if_false]
      by_cases c2 : i < 0
      · have c2' : i < 0 ∨ (o.Vals.length : Int) ≤ i := .inl c2
        rw [if_pos c2, if_pos c2']
      · rw [if_neg c2]
        by_cases c3 : i ≥ (o.Vals.length : Int)
        · have c2' : i < 0 ∨ (o.Vals.length : Int) ≤ i := .inr c3
          rw [if_pos c3, if_pos c2']
        · have c2' : ¬ (i < 0 ∨ (o.Vals.length : Int) ≤ i) := by omega
          have ha : AppOb 32 (([] : List GApiValue).length + o.Vals.length) := appOb (by simp; omega) (by simp; omega)
          have hb : AppOb 56 (([] : List GApiObj).length + (mr H).L.length) := appOb (by simp [mr]; omega) (by simp [mr]; omega)
          rw [if_neg c3, if_neg c2', appD_of ha, obind_some, List.nil_append, getI_at (xs := o.Vals) (i := i) (by omega) (by omega), obind_some, show setD o.Vals i x = some (o.Vals.set i.toNat x) from rfl, obind_some, appD_of hb, obind_some, List.nil_append, g1, obind_some]
          unfold setD
          rw [obind_some]
          have hw : w64 (v.N - 1) = v.N - 1 := by
            obtain ⟨j, hj, e1, _⟩ := at_some ho
            exact wrap64 (by omega) (by omega)
          rw [hw]
          rfl
theorem sum_set : ∀ (l : List GApiObj) (i : Nat) (o o' : GApiObj), l[i]? = some o → sizeI o' = sizeI o → ((l.set i o').map sizeI).sum = (l.map sizeI).sum
  | a :: l, 0, o, o', h, he => by
    simp at h; subst h
    simp [he]
  | a :: l, i + 1, o, o', h, he => by
    have := sum_set l i o o' (by simpa using h) he
    simp only [List.set_cons_succ, List.map_cons, List.sum_cons, this]
  | [], i, o, o', h, _ => by simp at h
theorem put_inv {H : GHeapHeap} (h : HInv H) (v : GApiValue) (i : Int) (x : GApiValue) : HInv (H.put v.Kind v.N i x).2 ∧ (H.put v.Kind v.N i x).2.room = H.room ∧ ((H.put v.Kind v.N i x).2.l.length = H.l.length → (H.put v.Kind v.N i x).2.cells = H.cells) := by
  unfold GHeapHeap.put
  cases ho : H.at_ v.Kind v.N with
  | none => exact ⟨h, rfl, fun _ => rfl⟩
  | some o =>
    simp only
    split
    · exact ⟨h, rfl, fun _ => rfl⟩
    · split
      · exact ⟨h, rfl, fun _ => rfl⟩
      · obtain ⟨j, hj, e1, e2, e3⟩ := at_some ho
        rename_i ck hr
        have hjn : (v.N - 1).toNat = j := by omega
        have hgo := h.good o (e2 ▸ List.getElem_mem hj)
        refine ⟨⟨h.r0, h.r1, h.r2, ?_, ?_⟩, rfl, fun _ => rfl⟩
        · rw [hjn]
          have := sum_set H.l j o { o with Vals := o.Vals.set i.toNat x } (by rw [List.getElem?_eq_getElem hj, e2]) (by unfold sizeI; simp)
          rw [this]; exact h.sum
        · intro y hy
          rcases List.mem_or_eq_of_mem_set hy with hy | rfl
          · exact h.good y hy
          · rcases hgo with ⟨q1, q2⟩ | ⟨q1, q2⟩
            · exact .inl ⟨q1, by simp [q2]⟩
            · exact .inr ⟨q1, q2⟩
end Go.Proofs.Ytblikpgdepjhdaa

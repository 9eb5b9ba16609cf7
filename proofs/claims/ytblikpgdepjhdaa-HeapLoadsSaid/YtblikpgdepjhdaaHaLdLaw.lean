/- Parts of the proof. -/
import Derived.Test.YtblikpgdepjhdaaHaHpLaw3
namespace Go.Proofs.Ytblikpgdepjhdaa
open Go.RowKit
set_option linter.unusedVariables false
set_option maxHeartbeats 2000000
def bigO (o : GApiObj) : Prop := o.Text.length ≤ 140737488351232 ∧ o.Vals.length ≤ 140737488351232
theorem may_ref (o : GApiObj) : r11_May o = some (mayB o) := by
  unfold r11_May mayB
  by_cases c3 : o.Kind = 3
  · rw [if_pos c3, if_pos c3]
    by_cases c : o.Text = []
    · rw [if_neg (by rw [c]; simp)]; simp [c]
    · rw [if_pos (by have := List.length_pos_iff.2 c; omega)]
      by_cases cv : (o.Vals.length : Int) = 0
      · have : o.Vals = [] := List.eq_nil_of_length_eq_zero (by omega)
        rw [if_pos cv]; simp [c, this]
      · have : ¬ o.Vals = [] := fun e => cv (by rw [e]; rfl)
        rw [if_neg cv]; simp [this]
  · rw [if_neg c3, if_neg c3]
    by_cases c6 : o.Kind = 6
    · rw [if_pos c6, if_pos (show o.Kind = 7 ∨ o.Kind = 6 from .inr c6)]
      by_cases c : o.Text = []
      · rw [if_pos c]; simp [c]
      · rw [if_neg c]; simp [c]
    · rw [if_neg c6]
      by_cases c7 : o.Kind = 7
      · rw [if_pos c7, if_pos (show o.Kind = 7 ∨ o.Kind = 6 from .inl c7)]
        by_cases c : o.Text = []
        · rw [if_pos c]; simp [c]
        · rw [if_neg c]; simp [c]
      · rw [if_neg c7, if_neg (show ¬ (o.Kind = 7 ∨ o.Kind = 6) by rintro (h | h) <;> contradiction)]
theorem load_l0 (c : Int) (l : List GApiObj) (hl : l.length ≤ 140737488351232) : ∀ (m k : Nat), l.length - k ≤ m → k ≤ l.length →
    r11_Load_l0 c l k = if (l.drop k).any (fun o => !mayB o) = true then some (⟨0, 0, []⟩, 1) else r11_Load_j1 c l := by
  intro m
  induction m with
  | zero =>
    intro k h1 h2
    rw [r11_Load_l0_eq, if_neg (by omega), List.drop_eq_nil_of_le (by omega)]; rfl
  | succ m ih =>
    intro k h1 h2
    by_cases hk : k < l.length
    · rw [r11_Load_l0_eq, if_pos (by omega), getI_nat' hk, obind_some, may_ref, obind_some, ← List.getElem_cons_drop hk, List.any_cons]
      by_cases hm : mayB l[k] = true
      · rw [if_pos hm, hm, wrap64 (by omega) (by omega), show (k : Int) + 1 = ((k + 1 : Nat) : Int) by omega, ih (k + 1) (by omega) (by omega)]
        rfl
      · rw [if_neg hm]
        have : mayB l[k] = false := by simpa using hm
        rw [this]; rfl
    · rw [r11_Load_l0_eq, if_neg (by omega), List.drop_eq_nil_of_le (by omega)]; rfl
theorem load_l2 (c : Int) (l : List GApiObj) (hc : 0 ≤ c ∧ c ≤ 65536) (hl : l.length ≤ 1000000) (ho : ∀ o ∈ l, smallO o) : ∀ (m k : Nat) (n : Int), l.length - k ≤ m → k ≤ l.length → 0 ≤ n → n ≤ c →
    r11_Load_l2 c l k n = some (match (GHeapHeap.mk c n (l.take k)).loads (l.drop k) with | none => (⟨0, 0, []⟩, 21) | some H => (mr H, 0)) := by
  intro m
  have hend : ∀ (k : Nat) (n : Int), ¬ (k < l.length) → k ≤ l.length → r11_Load_l2 c l k n = some (match (GHeapHeap.mk c n (l.take k)).loads (l.drop k) with | none => (⟨0, 0, []⟩, 21) | some H => (mr H, 0)) := by
    intro k n hk h2
    rw [r11_Load_l2_eq, if_neg (by omega), r11_Load_j3_eq, appD_of (appOb (by simp; omega) (by simp; omega)), obind_some, List.nil_append, List.drop_eq_nil_of_le (by omega), List.take_of_length_le (by omega)]
    rfl
  induction m with
  | zero => intro k n h1 h2 h3 h4; exact hend k n (by omega) h2
  | succ m ih =>
    intro k n h1 h2 h3 h4
    by_cases hk : k < l.length
    · have hb := ho _ (List.getElem_mem hk)
      have hp := sizeI_pos l[k]
      have hq : sizeI l[k] ≤ 1000000001 := by obtain ⟨a, b⟩ := hb; unfold sizeI; split <;> omega
      rw [r11_Load_l2_eq, if_pos (by omega), getI_nat' hk, obind_some, cost_spec _ hb, obind_some]
      have hw : w64 (n + sizeI l[k]) = n + sizeI l[k] := wrap64 (by omega) (by omega)
      have hw1 : w64 ((k : Int) + 1) = ((k + 1 : Nat) : Int) := by rw [wrap64 (by omega) (by omega)]; omega
      rw [hw, hw1, ← List.getElem_cons_drop hk]
      unfold GHeapHeap.loads
      rw [objSize_eq _ hb]
      by_cases hg : n + sizeI l[k] > c
      · have hg2 : c - n < sizeI l[k] := by omega
        rw [if_pos hg]
        simp only [hg2, if_true]
      · have hg2 : ¬ c - n < sizeI l[k] := by omega
        rw [if_neg hg, ih (k + 1) _ (by omega) (by omega) (by omega) (by omega)]
        simp only [hg2, if_false, GHeapHeap.plus, objSize_eq _ hb]
        rw [List.take_succ_eq_append_getElem hk]
    · exact hend k n hk h2
theorem loads_inv : ∀ (l : List GApiObj) (H H' : GHeapHeap), HInv H → (∀ o ∈ l, smallO o ∧ goodO o) → H.loads l = some H' → HInv H' ∧ H'.l = H.l ++ l ∧ H'.room = H.room
  | [], H, H', h, ho, he => by cases he; exact ⟨h, by simp, rfl⟩
  | o :: l, H, H', h, ho, he => by
    unfold GHeapHeap.loads at he
    split at he
    · cases he
    · rename_i hc
      obtain ⟨h1, h2⟩ := ho o List.mem_cons_self
      obtain ⟨i1, i2, _⟩ := addR_inv h o h1 h2
      have e : (H.addR o).2.2 = H.plus o := by unfold GHeapHeap.addR; rw [if_neg hc]
      rw [e] at i1 i2
      obtain ⟨j1, j2, j3⟩ := loads_inv l (H.plus o) H' i1 (fun x hx => ho x (List.mem_cons_of_mem _ hx)) he
      exact ⟨j1, by rw [j2]; simp [GHeapHeap.plus], by rw [j3, i2]⟩
theorem may_good {o : GApiObj} (h : mayB o = true) : goodO o := by
  unfold mayB at h
  unfold goodO
  split at h
  · rename_i k; simp only [Bool.and_eq_true, decide_eq_true_eq] at h; exact .inl ⟨k, h.2.1⟩
  · rename_i k
    split at h
    · simp only [Bool.and_eq_true, decide_eq_true_eq] at h; exact .inr ⟨k, h.1⟩
    · cases h
theorem load_same (c : Int) (l : List GApiObj) (hl : l.length ≤ 1000000) (ho : ∀ o ∈ l, smallO o) :
    xheap_Load c l = some (loadR c l) ∧ (∃ m, r11_Load c l = some (m, (loadR c l).2) ∧ ((∃ H, (loadR c l).1 = some H ∧ (loadR c l).2 = 0 ∧ m = mr H ∧ HInv H ∧ H.l = l ∧ H.room = c) ∨ (loadR c l).1 = none ∧ (loadR c l).2 ≠ 0 ∧ m = ⟨0, 0, []⟩)) := by
  constructor
  · unfold xheap_Load
    rw [if_pos ⟨by omega, fun o h => ⟨by have := (ho o h).2; omega, by have := (ho o h).1; omega⟩⟩]
  unfold r11_Load loadR
  by_cases c1 : c < 0
  · rw [if_pos c1, if_pos (.inl c1)]; exact ⟨_, rfl, .inr ⟨rfl, by decide, rfl⟩⟩
  rw [if_neg c1]
  by_cases c2 : c > 65536
  · rw [if_pos c2, if_pos (.inr (by omega))]; exact ⟨_, rfl, .inr ⟨rfl, by decide, rfl⟩⟩
  rw [if_neg c2, if_neg (by omega)]
  have h0 := load_l0 c l (by omega) l.length 0 (by omega) (by omega)
  rw [show ((0 : Nat) : Int) = 0 from rfl, List.drop_zero] at h0
  rw [h0]
  by_cases hm : (l.any fun o => !mayB o) = true
  · rw [if_pos hm, if_pos hm]; exact ⟨_, rfl, .inr ⟨rfl, by decide, rfl⟩⟩
  · rw [if_neg hm, if_neg hm, r11_Load_j1_eq]
    have h2 := load_l2 c l ⟨by omega, by omega⟩ hl ho l.length 0 0 (by omega) (by omega) (by omega) (by omega)
    rw [show ((0 : Nat) : Int) = 0 from rfl, List.drop_zero, List.take_zero] at h2
    rw [h2]
    have hg : ∀ o ∈ l, mayB o = true := fun o h => by
      cases hb : mayB o with
      | true => rfl
      | false => exact absurd (List.any_eq_true.2 ⟨o, h, by rw [hb]; rfl⟩) hm
    have he : GHeapHeap.new c = ⟨c, 0, []⟩ := rfl
    rw [he]
    cases hx : (GHeapHeap.mk c 0 []).loads l with
    | none => exact ⟨_, rfl, .inr ⟨rfl, by decide, rfl⟩⟩
    | some H =>
      obtain ⟨i1, i2, i3⟩ := loads_inv l _ H (he ▸ new_inv (c := c) (by omega)) (fun o h => ⟨ho o h, may_good (hg o h)⟩) hx
      exact ⟨_, rfl, .inl ⟨H, rfl, rfl, rfl, i1, by rw [i2]; simp, i3⟩⟩
theorem great_loopO (l : List GApiObj) (hl : l.length ≤ 140737488351232) (ho : ∀ o ∈ l, bigO o) : ∀ (m k : Nat) (n : Int), l.length - k ≤ m → k ≤ l.length → (k : Int) ≤ n → n ≤ 3000 →
    ∃ b, r11_Great_l0 l n k = some b ∧ (b = false → (l.length : Int) - k + n ≤ 3000 ∧ ∀ i (hi : i < l.length), k ≤ i → (l[i]).Text.length ≤ 3000 ∧ (l[i]).Vals.length ≤ 3000) := by
  intro m
  have hend : ∀ (k : Nat) (n : Int), ¬ (k < l.length) → k ≤ l.length → (k : Int) ≤ n → n ≤ 3000 → ∃ b, r11_Great_l0 l n k = some b ∧ (b = false → (l.length : Int) - k + n ≤ 3000 ∧ ∀ i (hi : i < l.length), k ≤ i → (l[i]).Text.length ≤ 3000 ∧ (l[i]).Vals.length ≤ 3000) := by
    intro k n hk h2 h3 h4
    rw [r11_Great_l0_eq, if_neg (by omega), r11_Great_j1_eq]
    exact ⟨false, rfl, fun _ => ⟨by omega, fun i hi h => by omega⟩⟩
  induction m with
  | zero => intro k n h1 h2 h3 h4; exact hend k n (by omega) h2 h3 h4
  | succ m ih =>
    intro k n h1 h2 h3 h4
    by_cases hk : k < l.length
    · have hb := ho _ (List.getElem_mem hk)
      have hb1 := hb.1
      have hb2 := hb.2
      rw [r11_Great_l0_eq, if_pos (by omega), getI_nat' hk, obind_some]
      have e1 : ∃ p : Int, (if (5000 : Int) < ((l[k]).Text.length : Int) then 5000 else ((l[k]).Text.length : Int)) = p ∧ 0 ≤ p ∧ p ≤ 5000 ∧ (p ≤ 3000 → (l[k]).Text.length ≤ 3000) := by
        split
        · exact ⟨_, rfl, by omega, by omega, fun h => by omega⟩
        · exact ⟨_, rfl, by omega, by omega, fun h => by omega⟩
      have e2 : ∃ p : Int, (if (5000 : Int) < ((l[k]).Vals.length : Int) then 5000 else ((l[k]).Vals.length : Int)) = p ∧ 0 ≤ p ∧ p ≤ 5000 ∧ (p ≤ 3000 → (l[k]).Vals.length ≤ 3000) := by
        split
        · exact ⟨_, rfl, by omega, by omega, fun h => by omega⟩
        · exact ⟨_, rfl, by omega, by omega, fun h => by omega⟩
      obtain ⟨p, ep, p0, p1, p2⟩ := e1
      obtain ⟨q, eq, q0, q1, q2⟩ := e2
      rw [ep, eq, wrap64 (n := 1 + p) (by omega) (by omega), wrap64 (n := 1 + p + q) (by omega) (by omega), wrap64 (n := n + (1 + p + q)) (by omega) (by omega)]
      have hw1 : w64 ((k : Int) + 1) = ((k + 1 : Nat) : Int) := by rw [wrap64 (by omega) (by omega)]; omega
      rw [hw1]
      by_cases hg : n + (1 + p + q) > 3000
      · rw [if_pos hg]; exact ⟨true, rfl, fun h => by cases h⟩
      · rw [if_neg hg]
        obtain ⟨b, hb, hf⟩ := ih (k + 1) (n + (1 + p + q)) (by omega) (by omega) (by omega) (by omega)
        refine ⟨b, hb, fun h => ?_⟩
        obtain ⟨f1, f2⟩ := hf h
        refine ⟨by omega, fun i hi h => ?_⟩
        by_cases hik : i = k
        · subst hik; exact ⟨p2 (by omega), q2 (by omega)⟩
        · exact f2 i hi (by omega)
    · exact hend k n hk h2 h3 h4
theorem greatO (l : List GApiObj) (hl : l.length ≤ 140737488351232) (ho : ∀ o ∈ l, bigO o) : ∃ b, r11_Great l = some b ∧ (b = false → l.length ≤ 3000 ∧ ∀ o ∈ l, o.Text.length ≤ 3000 ∧ o.Vals.length ≤ 3000) := by
  obtain ⟨b, h1, h2⟩ := great_loopO l hl ho l.length 0 0 (by omega) (by omega) (by omega) (by omega)
  refine ⟨b, h1, fun h => ?_⟩
  obtain ⟨f1, f2⟩ := h2 h
  refine ⟨by omega, fun o ho => ?_⟩
  obtain ⟨i, hi, rfl⟩ := List.getElem_of_mem ho
  exact f2 i hi (by omega)
theorem obj_big {o : GApiObj} (h : ok_GApiObj o) : bigO o := ⟨h.2.2.1, h.2.2.2.1⟩
end Go.Proofs.Ytblikpgdepjhdaa

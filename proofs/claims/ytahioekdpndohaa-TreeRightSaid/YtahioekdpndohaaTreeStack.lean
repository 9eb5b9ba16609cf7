/- The program's way to see whether a row is one tree: by a stack of ends. -/
import Derived.Test.YtahioekdpndohaaTreePlain
namespace Go.Proofs.Ytahioekdpndohaa
open Go.RowKit
set_option linter.unusedVariables false
/-- Nodes ahead of i lie in each other. -/
def Lam (l : List GApiNode) (i : Nat) : Prop :=
  ∀ j : Nat, j < i → 0 ≤ sz l j ∧ j + 1 + sz l j ≤ l.length ∧ ∀ p : Nat, p < j → (j : Int) < p + 1 + sz l p → j + 1 + sz l j ≤ p + 1 + sz l p
/-- The ends that are kept ahead of i: all from m on. -/
structure Ends (l : List GApiNode) (i : Nat) (w : List Int) (m : Int) : Prop where
  some_ : ∀ e ∈ w, ∃ p : Nat, p < i ∧ e = p + 1 + sz l p
  all : ∀ p : Nat, p < i → (i : Int) < p + 1 + sz l p → (p + 1 + sz l p : Int) ∈ w
  sorted : w.Pairwise (· ≥ ·)
  from_ : ∀ e ∈ w, m ≤ e
  len : w.length ≤ i
theorem last_least {w : List Int} (h : w.Pairwise (· ≥ ·)) {e t : Int} (ht : getI w (w.length - 1 : Int) = some t) (he : e ∈ w) : t ≤ e := by
  obtain ⟨h0, h1⟩ := getI_nat ht
  obtain ⟨hlt, rfl⟩ := List.getElem?_eq_some_iff.1 h1
  obtain ⟨i, hi, rfl⟩ := List.getElem_of_mem he
  by_cases hix : i = (w.length - 1 : Int).toNat
  · subst hix; exact Int.le_refl _
  · exact List.pairwise_iff_getElem.1 h i _ hi hlt (by omega)
section
variable {l : List GApiNode} (hl : l.length ≤ 100000)
include hl
theorem stack_j3 {i : Nat} {x : GApiNode} (hi : i < l.length) (hx : x.Size = sz l i) (hlam : Lam l i) (w : List Int) (hw : Ends l i w (i + 1))
    (ih : ∀ w, Lam l (i + 1) → Ends l (i + 1) w (i + 1) → ∃ b, tree_Right_l0 l ((i + 1 : Nat) : Int) w = some b ∧ (b = true ↔ Lam l l.length)) :
    ∃ b, tree_Right_j3 l (i : Int) (i : Int) x w = some b ∧ (b = true ↔ Lam l l.length) := by
  rw [tree_Right_j3_eq, hx]
  by_cases h1 : sz l i < 0
  · exact ⟨false, by rw [if_pos h1], by simp; intro h; have := (h i hi).1; omega⟩
  · rw [if_neg h1, wrap64 (n := (l.length : Int) - 1) (by omega) (by omega), wrap64 (n := (l.length : Int) - 1 - i) (by omega) (by omega)]
    by_cases h2 : sz l i > l.length - 1 - i
    · exact ⟨false, by rw [if_pos h2], by simp; intro h; have := (h i hi).2.1; omega⟩
    · rw [if_neg h2, wrap64 (n := (i : Int) + 1) (by omega) (by omega), wrap64 (n := (i : Int) + 1 + sz l i) (by omega) (by omega), wrap64 (n := (w.length : Int) - 1) (by omega) (by have := hw.len; omega)]
      have hlen := hw.len
      have go : (∀ p : Nat, p < i → (i : Int) < p + 1 + sz l p → i + 1 + sz l i ≤ p + 1 + sz l p) → (∀ e ∈ w, i + 1 + sz l i ≤ e) → ∃ b, tree_Right_j5 l (i : Int) x (i : Int) w = some b ∧ (b = true ↔ Lam l l.length) := fun hp hwe => by
        rw [tree_Right_j5_eq, hx, wrap64 (n := (i : Int) + 1) (by omega) (by omega), wrap64 (n := (i : Int) + 1 + sz l i) (by omega) (by omega), if_pos (by unfold AppOb maxLen; simp; omega), tree_Right_j4_eq, wrap64 (n := (i : Int) + 1) (by omega) (by omega)]
        have e1 : (i : Int) + 1 = ((i + 1 : Nat) : Int) := by omega
        rw [e1]
        refine ih _ (fun j hj => ?_) ⟨fun e he => ?_, fun p hp1 hp2 => ?_, ?_, fun e he => ?_, by simp; omega⟩
        · by_cases hji : j < i
          · exact hlam j hji
          · have : j = i := by omega
            subst this
            exact ⟨by omega, by omega, hp⟩
        · rcases List.mem_append.1 he with he | he
          · obtain ⟨p, h3, h4⟩ := hw.some_ e he
            exact ⟨p, by omega, h4⟩
          · simp at he; exact ⟨i, by omega, by omega⟩
        · by_cases hpi : p < i
          · exact List.mem_append_left _ (hw.all p hpi (by omega))
          · have : p = i := by omega
            subst this
            simp
        · rw [List.pairwise_append]
          refine ⟨hw.sorted, by simp, fun e he b hb => ?_⟩
          simp at hb
          have := hwe e he
          omega
        · rcases List.mem_append.1 he with he | he
          · have := hw.from_ e he; omega
          · simp at he; omega
      by_cases h3 : (w.length : Int) > 0
      · rw [if_pos h3]
        have hg := getI_at (xs := w) (i := (w.length : Int) - 1) (by omega) (by omega)
        generalize w[((w.length : Int) - 1).toNat]'(by omega) = t at hg
        rw [hg, obind_some]
        obtain ⟨ht0, ht1⟩ := getI_nat hg
        obtain ⟨ht2, ht3⟩ := List.getElem?_eq_some_iff.1 ht1
        have htm : t ∈ w := by rw [← ht3]; exact List.getElem_mem _
        by_cases h4 : (i : Int) + 1 + sz l i > t
        · refine ⟨false, by rw [if_pos h4], ⟨fun h => Bool.noConfusion h, fun h => ?_⟩⟩
          exfalso
          obtain ⟨p, hp1, hp2⟩ := hw.some_ t htm
          have := hw.from_ t htm
          have := (h i hi).2.2 p hp1 (by omega)
          omega
        · rw [if_neg h4]
          refine go (fun p hp1 hp2 => ?_) (fun e he => ?_)
          · have := last_least hw.sorted hg (hw.all p hp1 hp2)
            omega
          · have := last_least hw.sorted hg he
            omega
      · rw [if_neg h3]
        have hw0 : w = [] := List.eq_nil_of_length_eq_zero (by omega)
        refine go (fun p hp1 hp2 => ?_) (fun e he => ?_)
        · have := hw.all p hp1 hp2; rw [hw0] at this; simp at this
        · rw [hw0] at he; simp at he
theorem stack_l1 {i : Nat} {x : GApiNode} (hi : i < l.length) (hx : x.Size = sz l i) (hlam : Lam l i)
    (ih : ∀ w, Lam l (i + 1) → Ends l (i + 1) w (i + 1) → ∃ b, tree_Right_l0 l ((i + 1 : Nat) : Int) w = some b ∧ (b = true ↔ Lam l l.length)) :
    ∀ (n : Nat) (w : List Int), w.length ≤ n → Ends l i w i → ∃ b, tree_Right_l1 l (i : Int) (i : Int) x w = some b ∧ (b = true ↔ Lam l l.length) := by
  intro n
  induction n with
  | zero =>
    intro w hn hw
    have hw0 : w = [] := List.eq_nil_of_length_eq_zero (by omega)
    subst hw0
    rw [tree_Right_l1_eq, if_neg (by simp)]
    exact stack_j3 hl hi hx hlam [] ⟨hw.some_, hw.all, hw.sorted, fun e he => by simp at he, hw.len⟩ ih
  | succ n ihn =>
    intro w hn hw
    have hlen := hw.len
    rw [tree_Right_l1_eq]
    by_cases h3 : (w.length : Int) > 0
    · rw [if_pos h3, wrap64 (n := (w.length : Int) - 1) (by omega) (by omega)]
      have hg := getI_at (xs := w) (i := (w.length : Int) - 1) (by omega) (by omega)
      generalize w[((w.length : Int) - 1).toNat]'(by omega) = t at hg
      rw [hg, obind_some]
      by_cases h4 : t = (i : Int)
      · rw [if_pos h4, if_pos (by unfold CutR; omega)]
        have hc : cutL w 0 ((w.length : Int) - 1) = w.dropLast := by
          unfold cutL
          rw [List.dropLast_eq_take]
          simp
        rw [hc]
        have hmem : ∀ e ∈ w.dropLast, e ∈ w := fun e he => List.dropLast_subset w he
        refine ihn _ (by simp; omega) ⟨fun e he => hw.some_ e (hmem e he), fun p hp1 hp2 => ?_, hw.sorted.sublist (List.dropLast_sublist w), fun e he => hw.from_ e (hmem e he), by simp; omega⟩
        have hin := hw.all p hp1 hp2
        obtain ⟨ht0, ht1⟩ := getI_nat hg
        obtain ⟨ht2, ht3⟩ := List.getElem?_eq_some_iff.1 ht1
        obtain ⟨q, hq, hqe⟩ := List.getElem_of_mem hin
        have hqq : q < w.dropLast.length := by
          have : q ≠ (w.length - 1 : Int).toNat := fun e => by subst e; rw [ht3] at hqe; omega
          simp; omega
        have : w.dropLast[q] = w[q] := List.getElem_dropLast hqq
        rw [← hqe, ← this]
        exact List.getElem_mem _
      · rw [if_neg h4]
        refine stack_j3 hl hi hx hlam w ⟨hw.some_, hw.all, hw.sorted, fun e he => ?_, hw.len⟩ ih
        have h5 := last_least hw.sorted hg he
        obtain ⟨ht0, ht1⟩ := getI_nat hg
        obtain ⟨ht2, ht3⟩ := List.getElem?_eq_some_iff.1 ht1
        have h6 := hw.from_ t (by rw [← ht3]; exact List.getElem_mem _)
        omega
    · rw [if_neg h3]
      have hw0 : w = [] := List.eq_nil_of_length_eq_zero (by omega)
      subst hw0
      exact stack_j3 hl hi hx hlam [] ⟨hw.some_, hw.all, hw.sorted, fun e he => by simp at he, hw.len⟩ ih
theorem stack_l0 : ∀ (n i : Nat) (w : List Int), l.length - i ≤ n → i ≤ l.length → Lam l i → Ends l i w i → ∃ b, tree_Right_l0 l (i : Int) w = some b ∧ (b = true ↔ Lam l l.length) := by
  intro n
  induction n with
  | zero =>
    intro i w hn hi hlam hw
    have : i = l.length := by omega
    subst this
    exact ⟨true, by rw [tree_Right_l0_eq, if_neg (by omega), tree_Right_j2_eq], by simp; exact hlam⟩
  | succ n ih =>
    intro i w hn hi hlam hw
    by_cases h : i < l.length
    · obtain ⟨x, hx, hxs, _⟩ := sz_get h
      rw [tree_Right_l0_eq, if_pos (by omega), hx, obind_some]
      exact stack_l1 hl h hxs hlam (fun w h1 h2 => ih (i + 1) w (by omega) (by omega) h1 h2) w.length w (Nat.le_refl _) hw
    · have : i = l.length := by omega
      subst this
      exact ⟨true, by rw [tree_Right_l0_eq, if_neg (by omega), tree_Right_j2_eq], by simp; exact hlam⟩
omit hl in
theorem lam_right (h0 : 0 < l.length) (hs : sz l 0 = l.length - 1) : Lam l l.length ↔ WF l 0 := by
  constructor
  · intro h
    refine ⟨⟨h0, (h 0 h0).1, (h 0 h0).2.1⟩, fun j hj hj2 => ⟨(h j (by omega)).1, fun i hi hij hji => (h j (by omega)).2.2 i hij hji⟩⟩
  · intro h j hj
    by_cases hj0 : j = 0
    · subst hj0; exact ⟨h.1.2.1, by omega, fun p hp => by omega⟩
    · obtain ⟨h1, h2⟩ := h.2 j (by omega) (by omega)
      have := h2 0 (Nat.le_refl _) (by omega) (by omega)
      exact ⟨h1, by omega, fun p hp hpj => h2 p (Nat.zero_le _) hp hpj⟩
theorem right_spec : ∃ b, tree_Right l = some b ∧ (b = true ↔ RightP l) := by
  unfold tree_Right
  by_cases h : 0 < l.length
  · obtain ⟨x, hx, hxs, _⟩ := sz_get h
    have hx' : getI l 0 = some x := hx
    rw [if_neg (by omega), hx', obind_some, hxs, wrap64 (n := (l.length : Int) - 1) (by omega) (by omega)]
    by_cases h1 : sz l 0 = l.length - 1
    · rw [if_pos h1]
      obtain ⟨b, hb, hbb⟩ := stack_l0 hl l.length 0 [] (by omega) (by omega) (fun j hj => by omega) ⟨fun e he => by simp at he, fun p hp => by omega, List.Pairwise.nil, fun e he => by simp at he, Nat.le_refl _⟩
      refine ⟨b, hb, hbb.trans ((lam_right h h1).trans ?_)⟩
      exact ⟨fun hw => ⟨h, h1, hw⟩, fun hw => hw.2.2⟩
    · exact ⟨false, by rw [if_neg h1], by simp; intro hw; exact absurd hw.2.1 h1⟩
  · exact ⟨false, by rw [if_pos (by omega)], by simp; intro hw; exact absurd hw.1 h⟩
end
end Go.Proofs.Ytahioekdpndohaa

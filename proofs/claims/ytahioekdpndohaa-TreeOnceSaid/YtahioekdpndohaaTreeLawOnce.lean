/- TreeOnce: each node but the first one is the child of just one, in plain terms. -/
import Derived.Test.YtahioekdpndohaaTreeMay3
namespace Go.Proofs.Ytahioekdpndohaa
open Go.RowKit
set_option linter.unusedVariables false
theorem kl_lt {l : List GApiNode} : ∀ (n k0 : Nat) (stop : Int), (kl l n k0 stop).Pairwise (· < ·) := by
  intro n
  induction n with
  | zero => intro k0 stop; exact List.Pairwise.nil
  | succ n ih =>
    intro k0 stop
    unfold kl
    split
    · refine List.pairwise_cons.2 ⟨fun e he => ?_, ih _ _⟩
      obtain ⟨k, h1, h2, h3⟩ := kl_nat _ _ _ e he
      omega
    · exact List.Pairwise.nil
/-- The node k has been met. -/
def Met (l : List GApiNode) (i j k : Nat) : Prop := (∃ a : Nat, a < i ∧ IsUp l a k) ∨ (k : Int) ∈ (kidsS l i).take j
def Marks (l : List GApiNode) (i j : Nat) (w : List Int) : Prop := ∀ k : Nat, k < l.length → ∃ v, w[k]? = some v ∧ (v = 0 ↔ ¬ Met l i j k)
section
variable {l : List GApiNode} (hl : l.length ≤ 100000)
include hl
theorem once_l2 (hr : RightP l) {i : Nat} (hi : i < l.length) (P : Prop) (next : ∀ w, Marks l (i + 1) 0 w → hindcastlaw05_TreeOnce_l1 l ((i + 1 : Nat) : Int) w = some true) : ∀ (n j : Nat) (w : List Int), (kidsS l i).length - j ≤ n → j ≤ (kidsS l i).length → Marks l i j w →
    hindcastlaw05_TreeOnce_l2 l (i : Int) (i : Int) (kidsS l i) (j : Int) w = some true := by
  have hw := hr.wf hi
  obtain ⟨hk1, hk2⟩ := kidsS_ok hl hw
  have stop : ∀ (j : Nat) (w : List Int), j = (kidsS l i).length → Marks l i j w → hindcastlaw05_TreeOnce_l2 l (i : Int) (i : Int) (kidsS l i) (j : Int) w = some true := fun j w hj hm => by
    rw [hindcastlaw05_TreeOnce_l2_eq, if_neg (by omega), hindcastlaw05_TreeOnce_j4_eq, wrap64 (by omega) (by omega), show (i : Int) + 1 = ((i + 1 : Nat) : Int) by omega]
    refine next w fun k hk => ?_
    obtain ⟨v, h1, h2⟩ := hm k hk
    refine ⟨v, h1, h2.trans (not_congr ?_)⟩
    unfold Met
    rw [hj, List.take_length, kids_mem hw, List.take_zero]
    constructor
    · rintro (⟨a, h3, h4⟩ | h3)
      · exact .inl ⟨a, by omega, h4⟩
      · exact .inl ⟨i, by omega, h3⟩
    · rintro (⟨a, h3, h4⟩ | h3)
      · by_cases e : a = i
        · subst e; exact .inr h4
        · exact .inl ⟨a, by omega, h4⟩
      · simp at h3
  intro n
  induction n with
  | zero => intro j w h1 h2 hm; exact stop j w (by omega) hm
  | succ n ih =>
    intro j w h1 h2 hm
    by_cases h : j < (kidsS l i).length
    · obtain ⟨k, hk, hkl⟩ := hk1 _ (List.getElem_mem h)
      have hup : IsUp l i k := (kids_mem hw k).1 (by rw [← hk]; exact List.getElem_mem h)
      have h3 := hup.1
      obtain ⟨v, hv1, hv2⟩ := hm k hkl
      have hsort := kl_lt (l := l) l.length (i + 1) (i + 1 + sz l i)
      have hnot : ¬ Met l i j k := by
        rintro (⟨a, h4, h5⟩ | h4)
        · have := h5.uniq hup; omega
        · obtain ⟨q, hq, hqe⟩ := List.getElem_of_mem h4
          rw [List.getElem_take] at hqe
          simp at hq
          have := List.pairwise_iff_getElem.1 hsort q j (by unfold kidsS at h hq; omega) (by unfold kidsS at h; exact h) (by omega)
          unfold kidsS at hk hqe
          omega
      have hv0 : v = 0 := hv2.2 hnot
      subst hv0
      obtain ⟨a, ha, hau⟩ := up_spec hl (k := k) (by omega) hkl hr
      have := hau.uniq hup
      subst this
      have hgw : getI w (k : Int) = some 0 := by unfold getI; rw [if_pos (by omega)]; simpa using hv1
      have hwl : k < w.length := (List.getElem?_eq_some_iff.1 hv1).1
      rw [hindcastlaw05_TreeOnce_l2_eq, if_pos (by omega), getI_nat' h, obind_some, hk, if_neg (by omega), if_neg (by omega), hgw, obind_some, if_pos rfl, ha, obind_some, if_pos rfl, wrap64 (n := (j : Int) + 1) (by omega) (by omega), wrap64 (n := (a : Int) + 1) (by omega) (by omega), show (j : Int) + 1 = ((j + 1 : Nat) : Int) by omega]
      refine ih (j + 1) _ (by omega) (by omega) fun k' hk' => ?_
      have htake : (kidsS l a).take (j + 1) = (kidsS l a).take j ++ [(k : Int)] := by rw [List.take_add_one, List.getElem?_eq_getElem h, hk]; rfl
      by_cases e : k' = k
      · subst e
        refine ⟨(a : Int) + 1, by simp [hwl], ⟨fun q => by omega, fun q => absurd ?_ q⟩⟩
        exact .inr (by rw [htake]; simp)
      · obtain ⟨v', h6, h7⟩ := hm k' hk'
        have hne : ¬ k = k' := fun q => e q.symm
        refine ⟨v', by simp [List.getElem?_set, hne]; exact h6, h7.trans (not_congr ?_)⟩
        unfold Met
        rw [htake]
        simp only [List.mem_append, List.mem_singleton]
        constructor
        · rintro (q | q)
          · exact .inl q
          · exact .inr (.inl q)
        · rintro (q | q | q)
          · exact .inl q
          · exact .inr q
          · exact absurd (by omega) e
    · exact stop j w (by omega) hm
theorem once_l5 (w : List Int) (hw : ∀ k : Nat, 1 ≤ k → k < l.length → ∃ v, w[k]? = some v ∧ v ≠ 0) : ∀ (n i : Nat), l.length - i ≤ n → 1 ≤ i → hindcastlaw05_TreeOnce_l5 l (i : Int) w = some true := by
  have stop : ∀ i : Nat, l.length ≤ i → hindcastlaw05_TreeOnce_l5 l (i : Int) w = some true := fun i hi => by
    have hu : tree_Up l 0 = some (-1) := by unfold tree_Up; rw [if_pos (by omega)]
    rw [hindcastlaw05_TreeOnce_l5_eq, if_neg (by omega), hindcastlaw05_TreeOnce_j6_eq, hu, obind_some, if_pos rfl, awake_true, obind_some]
  intro n
  induction n with
  | zero => intro i h1 h2; exact stop i (by omega)
  | succ n ih =>
    intro i h1 h2
    by_cases h : i < l.length
    · obtain ⟨v, hv, hv0⟩ := hw i h2 h
      have hg : getI w (i : Int) = some v := by unfold getI; rw [if_pos (by omega)]; simpa using hv
      rw [hindcastlaw05_TreeOnce_l5_eq, if_pos (by omega), hg, obind_some, if_neg hv0, wrap64 (by omega) (by omega), show (i : Int) + 1 = ((i + 1 : Nat) : Int) by omega]
      exact ih (i + 1) (by omega) (by omega)
    · exact stop i (by omega)
theorem once_l1 (hr : RightP l) : ∀ (n i : Nat) (w : List Int), l.length - i ≤ n → i ≤ l.length → Marks l i 0 w → hindcastlaw05_TreeOnce_l1 l (i : Int) w = some true := by
  have stop : ∀ (i : Nat) (w : List Int), i = l.length → Marks l i 0 w → hindcastlaw05_TreeOnce_l1 l (i : Int) w = some true := fun i w hi hm => by
    rw [hindcastlaw05_TreeOnce_l1_eq, if_neg (by omega), hindcastlaw05_TreeOnce_j3_eq]
    refine once_l5 hl w (fun k h1 h2 => ?_) l.length 1 (by omega) (by omega)
    obtain ⟨v, hv1, hv2⟩ := hm k h2
    obtain ⟨a, _, ha⟩ := up_spec hl h1 h2 hr
    exact ⟨v, hv1, fun e => hv2.1 e (.inl ⟨a, by have := ha.1; omega, ha⟩)⟩
  intro n
  induction n with
  | zero => intro i w h1 h2 hm; exact stop i w (by omega) hm
  | succ n ih =>
    intro i w h1 h2 hm
    by_cases h : i < l.length
    · have hk := (Kids_spec hl (i : Int)).1 ⟨by omega, by omega, hr⟩
      rw [Int.toNat_natCast] at hk
      rw [hindcastlaw05_TreeOnce_l1_eq, if_pos (by omega), hk, obind_some]
      exact once_l2 hl hr h True (fun w' hm' => ih (i + 1) w' (by omega) (by omega) hm') (kidsS l i).length 0 w (by omega) (by omega) hm
    · exact stop i w (by omega) hm
end
theorem treeOnce_all (l : List GApiNode) (h : l.length ≤ maxLen ∧ ∀ x ∈ l, ok_GApiNode x) : hindcastlaw05_TreeOnce l = some true := by
  unfold hindcastlaw05_TreeOnce
  have hj : hindcastlaw05_TreeOnce_j0 = some true := by rw [hindcastlaw05_TreeOnce_j0_eq, awake_true, obind_some]
  by_cases hg : (l.length : Int) > 100
  · rw [if_pos hg, hj]
  have hl : l.length ≤ 100000 := by omega
  rw [if_neg hg]
  obtain ⟨c, hc, hcc⟩ := refRight_spec hl
  rw [hc, obind_some]
  cases c with
  | false => rw [if_neg (by simp), hj]
  | true =>
    have hr := hcc.1 rfl
    rw [if_pos rfl, if_pos (by unfold MakeOb maxLen; omega)]
    refine once_l1 hl hr l.length 0 _ (by omega) (by omega) fun k hk => ⟨0, by simp [hk], ?_⟩
    simp [Met]
end Go.Proofs.Ytahioekdpndohaa

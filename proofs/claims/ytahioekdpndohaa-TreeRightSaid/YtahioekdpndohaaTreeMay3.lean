/- Whether a row is a program's tree, whole; the document's examples. -/
import Derived.Test.YtahioekdpndohaaTreeMay2
namespace Go.Proofs.Ytahioekdpndohaa
open Go.RowKit
set_option linter.unusedVariables false
def nodeAt (l : List GApiNode) (e : Int) : GApiNode := (l[e.toNat]?).getD default
def kindsOf (l : List GApiNode) (i : Nat) : List Int := (kidsS l i).map fun e => (nodeAt l e).Kind
/-- Node i may be where it is. -/
def OkAt (l : List GApiNode) (i : Nat) : Prop :=
  (i = 0 → (kindsOf l 0).all [2, 4].contains = true) ∧ (i ≠ 0 → fieldsB (nodeAt l i) = true ∧ rightB (nodeAt l i).Kind (nodeAt l i).Num (kindsOf l i) = true)
def MayP (l : List GApiNode) : Prop := RightP l ∧ (nodeAt l 0).Kind = 1 ∧ fieldsB (nodeAt l 0) = true ∧ ∀ i : Nat, i < l.length → OkAt l i
theorem nodeAt_get {l : List GApiNode} {i : Nat} (h : i < l.length) : getI l (i : Int) = some (nodeAt l i) := by
  rw [getI_nat' h]; simp [nodeAt, h]
section
variable {l : List GApiNode} (hl : l.length ≤ 100000)
include hl
omit hl in
theorem may_l1 {i : Nat} (hw : WF l i) (x : GApiNode) (r : List Int) (hr : ∀ e ∈ r, ∃ k : Nat, e = k ∧ k < l.length) (hrl : r.length ≤ 100000) : ∀ (n j : Nat) (w : List GApiNode), r.length - j ≤ n → w.length ≤ j → j ≤ r.length →
    tree_May_l1 l (i : Int) (i : Int) r (j : Int) x w = tree_May_j3 l (i : Int) (i : Int) x (w ++ (r.drop j).map (nodeAt l)) := by
  have stop : ∀ (j : Nat) (w : List GApiNode), j = r.length → tree_May_l1 l (i : Int) (i : Int) r (j : Int) x w = tree_May_j3 l (i : Int) (i : Int) x (w ++ (r.drop j).map (nodeAt l)) := fun j w hj => by
    rw [tree_May_l1_eq, if_neg (by omega), List.drop_eq_nil_of_le (by omega)]; simp
  intro n
  induction n with
  | zero => intro j w h1 h2 h3; exact stop j w (by omega)
  | succ n ih =>
    intro j w h1 h2 h3
    by_cases h : j < r.length
    · obtain ⟨k, hk, hkl⟩ := hr r[j] (List.getElem_mem _)
      rw [tree_May_l1_eq, if_pos (by omega), getI_nat' h, obind_some, hk, nodeAt_get hkl, obind_some, if_pos (by unfold AppOb maxLen; simp; omega), wrap64 (by omega) (by omega), show (j : Int) + 1 = ((j + 1 : Nat) : Int) by omega, ih (j + 1) _ (by omega) (by simp; omega) (by omega), List.drop_eq_getElem_cons h, hk]
      simp
    · exact stop j w (by omega)
theorem kidsS_ok {i : Nat} (hw : WF l i) : (∀ e ∈ kidsS l i, ∃ k : Nat, e = k ∧ k < l.length) ∧ (kidsS l i).length ≤ 100000 := by
  have h1 := hw.1
  unfold InR at h1
  refine ⟨fun e he => ?_, ?_⟩
  · obtain ⟨k, h2, h3, h4⟩ := kl_nat _ _ _ e he
    exact ⟨k, h2, by omega⟩
  · have := kl_len (l := l) l.length (i + 1) (i + 1 + sz l i)
    unfold kidsS; omega
theorem may_l0 (hr : RightP l) : ∀ (n i : Nat), l.length - i ≤ n → ∃ b, tree_May_l0 l (i : Int) = some b ∧ (b = true ↔ ∀ j : Nat, i ≤ j → j < l.length → OkAt l j) := by
  intro n
  have stop : ∀ i : Nat, l.length ≤ i → ∃ b, tree_May_l0 l (i : Int) = some b ∧ (b = true ↔ ∀ j : Nat, i ≤ j → j < l.length → OkAt l j) := fun i hi =>
    ⟨true, by rw [tree_May_l0_eq, if_neg (by omega), tree_May_j2_eq], by simp; intro j h1 h2; omega⟩
  induction n with
  | zero => intro i hi; exact stop i (by omega)
  | succ n ih =>
    intro i hi
    by_cases h : i < l.length
    · have hw := hr.wf h
      obtain ⟨hk1, hk2⟩ := kidsS_ok hl hw
      have hkn : kindsOf l i = ((kidsS l i).map (nodeAt l)).map (·.Kind) := by unfold kindsOf; rw [List.map_map]; rfl
      have hl1 := may_l1 hw (nodeAt l i) (kidsS l i) hk1 hk2 (kidsS l i).length 0 [] (by omega) (by simp) (by omega)
      have hl1' : tree_May_l1 l (i : Int) (i : Int) (kidsS l i) 0 (nodeAt l i) [] = _ := hl1
      rw [tree_May_l0_eq, if_pos (by omega), nodeAt_get h, obind_some, (kids_spec hl hw).1, obind_some, hl1', List.nil_append, List.drop_zero]
      obtain ⟨b, hb, hbb⟩ := ih (i + 1) (by omega)
      have next : tree_May_j4 l (i : Int) = some b := by
        rw [tree_May_j4_eq, wrap64 (by omega) (by omega), show (i : Int) + 1 = ((i + 1 : Nat) : Int) by omega]; exact hb
      have split : (∀ j : Nat, i ≤ j → j < l.length → OkAt l j) ↔ OkAt l i ∧ ∀ j : Nat, i + 1 ≤ j → j < l.length → OkAt l j := by
        constructor
        · intro q; exact ⟨q i (Nat.le_refl _) h, fun j h1 h2 => q j (by omega) h2⟩
        · rintro ⟨q1, q2⟩ j h1 h2
          by_cases e : j = i
          · subst e; exact q1
          · exact q2 j (by omega) h2
      rw [split]
      by_cases h0 : i = 0
      · subst h0
        obtain ⟨f, e1, t1⟩ := of_spec [2, 4] (by decide)
        rw [tree_May_j3_eq, if_pos (by omega), e1, obind_some, all_spec t1 _ _ (by simp; omega), obind_some, ← hkn]
        by_cases ha : (kindsOf l 0).all [2, 4].contains = true
        · rw [if_pos ha, tree_May_j5_eq, if_neg (by omega), next]
          exact ⟨b, rfl, hbb.trans ⟨fun q => ⟨⟨fun _ => ha, fun q => absurd rfl q⟩, q⟩, fun q => q.2⟩⟩
        · rw [if_neg ha]
          exact ⟨false, rfl, by simp; intro q; exact absurd (q.1 rfl) ha⟩
      · rw [tree_May_j3_eq, if_neg (by omega), tree_May_j5_eq, if_pos (by omega), nodeAt_get h, obind_some, fields_spec, obind_some]
        by_cases hf : fieldsB (nodeAt l i) = true
        · rw [if_pos hf, right_spec' _ _ (by simp; omega), obind_some, ← hkn]
          by_cases hg : rightB (nodeAt l i).Kind (nodeAt l i).Num (kindsOf l i) = true
          · rw [if_pos hg, next]
            exact ⟨b, rfl, hbb.trans ⟨fun q => ⟨⟨fun e => absurd e h0, fun _ => ⟨hf, hg⟩⟩, q⟩, fun q => q.2⟩⟩
          · rw [if_neg hg]
            exact ⟨false, rfl, ⟨fun q => Bool.noConfusion q, fun q => absurd (q.1.2 h0).2 hg⟩⟩
        · rw [if_neg hf]
          exact ⟨false, rfl, ⟨fun q => Bool.noConfusion q, fun q => absurd (q.1.2 h0).1 hf⟩⟩
    · exact stop i (by omega)
theorem may_spec : ∃ b, tree_May l = some b ∧ (b = true ↔ MayP l) := by
  unfold tree_May
  obtain ⟨b, hb, hbb⟩ := right_spec hl
  rw [hb, obind_some]
  cases b with
  | false => exact ⟨false, rfl, ⟨fun q => Bool.noConfusion q, fun q => Bool.noConfusion (hbb.2 q.1)⟩⟩
  | true =>
    have hr : RightP l := hbb.1 rfl
    have hg : getI l 0 = some (nodeAt l 0) := nodeAt_get (i := 0) hr.1
    rw [if_pos rfl, hg, obind_some, fields_spec, obind_some]
    by_cases h1 : (nodeAt l 0).Kind = 1
    · rw [if_pos h1]
      by_cases h2 : fieldsB (nodeAt l 0) = true
      · rw [if_pos h2]
        obtain ⟨c, hc, hcc⟩ := may_l0 hl hr l.length 0 (by omega)
        exact ⟨c, hc, hcc.trans ⟨fun q => ⟨hr, h1, h2, fun i hi => q i (Nat.zero_le _) hi⟩, fun q => fun j _ hj => q.2.2.2 j hj⟩⟩
      · rw [if_neg h2]
        exact ⟨false, rfl, ⟨fun q => Bool.noConfusion q, fun q => absurd q.2.2.1 h2⟩⟩
    · rw [if_neg h1]
      exact ⟨false, rfl, ⟨fun q => Bool.noConfusion q, fun q => absurd q.2.1 h1⟩⟩
theorem Kids_spec (a : Int) : (0 ≤ a ∧ a < l.length ∧ RightP l → tree_Kids l a = some (kidsS l a.toNat)) ∧ (¬ (0 ≤ a ∧ a < l.length ∧ RightP l) → tree_Kids l a = some []) := by
  unfold tree_Kids
  obtain ⟨b, hb, hbb⟩ := right_spec hl
  by_cases h1 : a < 0
  · rw [if_pos h1]; exact ⟨fun q => by omega, fun _ => rfl⟩
  by_cases h2 : a ≥ l.length
  · rw [if_neg h1, if_pos h2]; exact ⟨fun q => by omega, fun _ => rfl⟩
  rw [if_neg h1, if_neg h2, hb, obind_some]
  cases b with
  | false => exact ⟨fun q => Bool.noConfusion (hbb.2 q.2.2), fun _ => rfl⟩
  | true =>
    have hr : RightP l := hbb.1 rfl
    have ha : a = (a.toNat : Int) := by omega
    refine ⟨fun _ => ?_, fun q => absurd ⟨by omega, by omega, hr⟩ q⟩
    have hh := (kids_spec hl (hr.wf (a := a.toNat) (by omega))).1
    rw [← ha] at hh
    rw [if_pos rfl, hh, obind_some]
end
def smallT : List GApiNode := [⟨1, 0, 0, 7, 0, []⟩, ⟨4, 0, 0, 6, 0, [109, 97, 105, 110]⟩, ⟨14, 0, 0, 0, 0, []⟩, ⟨6, 0, 0, 4, 0, []⟩, ⟨9, 0, 0, 3, 0, []⟩, ⟨24, 0, 0, 0, 1, []⟩, ⟨6, 0, 0, 0, 0, []⟩, ⟨6, 0, 0, 0, 0, []⟩]
instance {l : List GApiNode} {i : Nat} : Decidable (OkAt l i) := by unfold OkAt; infer_instance
theorem lt8 {P : Nat → Prop} (h0 : P 0) (h1 : P 1) (h2 : P 2) (h3 : P 3) (h4 : P 4) (h5 : P 5) (h6 : P 6) (h7 : P 7) : ∀ i, i < 8 → P i := fun i hi => by
  match i, hi with
  | 0, _ => exact h0
  | 1, _ => exact h1
  | 2, _ => exact h2
  | 3, _ => exact h3
  | 4, _ => exact h4
  | 5, _ => exact h5
  | 6, _ => exact h6
  | 7, _ => exact h7
theorem small_right : RightP smallT := by
  refine ⟨by decide, by decide, ⟨by decide, by decide, by decide⟩, fun j h1 h2 => ?_⟩
  have hj : j < 8 := by have : sz smallT 0 = 7 := by decide
                        omega
  have key : ∀ j, j < 8 → 0 ≤ sz smallT j ∧ ∀ i : Nat, i < 8 → i < j → (j : Int) < i + 1 + sz smallT i → j + 1 + sz smallT j ≤ i + 1 + sz smallT i := by decide
  obtain ⟨k1, k2⟩ := key j hj
  exact ⟨k1, fun i _ hi hij => k2 i (by omega) hi hij⟩
theorem small_may : MayP smallT := ⟨small_right, by decide, by decide, lt8 (by decide) (by decide) (by decide) (by decide) (by decide) (by decide) (by decide) (by decide)⟩
theorem one_may : MayP [⟨1, 0, 0, 0, 0, []⟩] := by
  refine ⟨⟨by decide, by decide, ⟨by decide, by decide, by decide⟩, fun j h1 h2 => ?_⟩, by decide, by decide, fun i hi => ?_⟩
  · have : sz [⟨1, 0, 0, 0, 0, []⟩] 0 = 0 := by decide
    omega
  · have : i = 0 := by simp at hi; omega
    subst this
    decide
theorem may_true {l : List GApiNode} (h : MayP l) (hl : l.length ≤ 100000) : tree_May l = some true := by
  obtain ⟨b, hb, hbb⟩ := may_spec hl
  rw [hb, hbb.2 h]
theorem awake_true : hindcastlaw05_awake = some true := by
  unfold hindcastlaw05_awake hindcastlaw05_small
  have hk : tree_Kids smallT 4 = some [5, 6, 7] := ((Kids_spec (l := smallT) (by decide) 4).1 ⟨by decide, by decide, small_right⟩).trans (by decide)
  have hm := may_true small_may (by decide)
  have h1 := may_true one_may (by decide)
  have n1 : tree_Name [97, 95, 49] = some true := (name_spec _).trans (by decide)
  have n2 : tree_Name [102, 110] = some false := (name_spec _).trans (by decide)
  rw [obind_some]
  change (tree_Kids smallT 4).bind _ = _
  rw [hk, obind_some, h1, obind_some, if_pos rfl, obind_some]
  change (tree_May smallT).bind _ = _
  rw [hm, obind_some, if_pos rfl, if_pos (by decide), show getI ([5, 6, 7] : List Int) 0 = some 5 from rfl, obind_some, if_pos rfl, show getI ([5, 6, 7] : List Int) 1 = some 6 from rfl, obind_some, if_pos rfl, show getI ([5, 6, 7] : List Int) 2 = some 7 from rfl, obind_some, if_pos rfl, n1, obind_some, if_pos rfl, n2, obind_some]
  rfl
end Go.Proofs.Ytahioekdpndohaa

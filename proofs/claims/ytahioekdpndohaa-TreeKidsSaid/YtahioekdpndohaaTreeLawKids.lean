/- TreeKids: a node's children, and whose child it is, in plain terms. -/
import Derived.Test.YtahioekdpndohaaTreeMay3
namespace Go.Proofs.Ytahioekdpndohaa
open Go.RowKit
set_option linter.unusedVariables false
theorem cmp_loop (k : List Int) (hk : k.length ≤ 200000) : ∀ (n i : Nat), k.length - i ≤ n → i ≤ k.length → hindcastlaw05_TreeKids_l1 k (i : Int) k = some true := by
  intro n
  have stop : hindcastlaw05_TreeKids_l1 k (k.length : Int) k = some true := by
    rw [hindcastlaw05_TreeKids_l1_eq, if_neg (by omega), hindcastlaw05_TreeKids_j2_eq, awake_true, obind_some]
  induction n with
  | zero => intro i h1 h2; rw [show i = k.length by omega]; exact stop
  | succ n ih =>
    intro i h1 h2
    by_cases h : i < k.length
    · rw [hindcastlaw05_TreeKids_l1_eq, if_pos (by omega), getI_nat' h, obind_some, obind_some, if_pos rfl, wrap64 (by omega) (by omega), show (i : Int) + 1 = ((i + 1 : Nat) : Int) by omega]
      exact ih (i + 1) (by omega) (by omega)
    · rw [show i = k.length by omega]; exact stop
theorem treeKids_all (l : List GApiNode) (a : Int) (h : l.length ≤ maxLen ∧ ∀ x ∈ l, ok_GApiNode x) (h1 : okI .i64 a) : hindcastlaw05_TreeKids l a = some true := by
  unfold hindcastlaw05_TreeKids
  by_cases hg : (l.length : Int) > 300
  · rw [if_pos hg, awake_true, obind_some]
  have hl : l.length ≤ 100000 := by omega
  have none_ : hindcastlaw05_TreeKids_j0 (-1) [] = some true := by
    rw [hindcastlaw05_TreeKids_j0_eq, awake_true]
    simp
  rw [if_neg hg]
  obtain ⟨k1, k2⟩ := Kids_spec hl a
  obtain ⟨b, hb, hbb⟩ := right_spec hl
  obtain ⟨c, hc, hcc⟩ := refRight_spec hl
  by_cases h0 : a < 0
  · have hu : tree_Up l a = some (-1) := by unfold tree_Up; rw [if_pos (by omega)]
    rw [k2 (by omega), obind_some, hu, obind_some, if_pos h0, none_]
  by_cases h2 : a ≥ l.length
  · have hu : tree_Up l a = some (-1) := by unfold tree_Up; by_cases q : a < 1 <;> simp [q, h2]
    rw [k2 (by omega), obind_some, hu, obind_some, if_neg h0, if_pos h2, none_]
  by_cases hr : RightP l
  · have hbt : b = true := hbb.2 hr
    have hct : c = true := hcc.2 hr
    subst hbt; subst hct
    have hu : ∃ u, tree_Up l a = some u ∧ hindcastref05_Up l a = some u := by
      by_cases q : a < 1
      · have : a = 0 := by omega
        subst this
        exact ⟨-1, by unfold tree_Up; rw [if_pos q], refUp_zero hl hr⟩
      · have ea : a = (a.toNat : Int) := by omega
        obtain ⟨u, u1, u2⟩ := up_spec hl (k := a.toNat) (by omega) (by omega) hr
        obtain ⟨v, v1, v2⟩ := refUp_spec hl (k := a.toNat) (by omega) (by omega) hr
        rw [← ea] at u1 v1
        have := u2.uniq v2
        subst this
        exact ⟨u, u1, v1⟩
    obtain ⟨u, u1, u2⟩ := hu
    have hk := (kids_spec hl (hr.wf (a := a.toNat) (by omega))).2
    rw [show ((a.toNat : Nat) : Int) = a by omega] at hk
    have hlen := (kidsS_ok hl (hr.wf (a := a.toNat) (by omega))).2
    rw [k1 ⟨by omega, by omega, hr⟩, obind_some, u1, obind_some, if_neg h0, if_neg h2, hc, obind_some, if_pos rfl, hk, obind_some, if_pos rfl, u2, obind_some, if_pos rfl]
    exact cmp_loop _ (by omega) (kidsS l a.toNat).length 0 (by omega) (by omega)
  · have hbt : b = false := by cases b with | false => rfl | true => exact absurd (hbb.1 rfl) hr
    have hct : c = false := by cases c with | false => rfl | true => exact absurd (hcc.1 rfl) hr
    subst hbt; subst hct
    have hu : tree_Up l a = some (-1) := by
      unfold tree_Up
      by_cases q : a < 1
      · rw [if_pos q]
      · rw [if_neg q, if_neg h2, hb, obind_some, if_neg (by simp)]
    rw [k2 (fun q => hr q.2.2), obind_some, hu, obind_some, if_neg h0, if_neg h2, hc, obind_some, if_neg (by simp), none_]
end Go.Proofs.Ytahioekdpndohaa

/- TreeBare: nodes without their places, in plain terms. -/
import Derived.Test.YtahioekdpndohaaTreeMay3
namespace Go.Proofs.Ytahioekdpndohaa
open Go.RowKit
set_option linter.unusedVariables false
def bare (x : GApiNode) : GApiNode := ⟨x.Kind, 0, 0, x.Size, x.Num, x.Text⟩
/-- Two lists of the same length, element by element. -/
theorem lists_eq {α β : Type} (f g : α → β) : ∀ (a b : List α), a.length = b.length → (a.map f = b.map g ↔ ∀ (i : Nat) (x y : α), a[i]? = some x → b[i]? = some y → f x = g y)
  | [], [], _ => by simp
  | x :: a, y :: b, h => by
    have ih := lists_eq f g a b (by simpa using h)
    constructor
    · intro e i u v hu hv
      simp only [List.map_cons, List.cons.injEq] at e
      cases i with
      | zero => simp at hu hv; subst hu; subst hv; exact e.1
      | succ i => exact ih.1 e.2 i u v (by simpa using hu) (by simpa using hv)
    · intro e
      simp only [List.map_cons, List.cons.injEq]
      exact ⟨e 0 x y rfl rfl, ih.2 fun i u v hu hv => e (i + 1) u v (by simpa using hu) (by simpa using hv)⟩
  | [], _ :: _, h => by simp at h
  | _ :: _, [], h => by simp at h
/-- A loop that holds two lists against each other. -/
theorem cmp_lists {α : Type} {a b : List α} (hab : a.length = b.length) (L : Int → Option Bool) (P : α → α → Prop) (hend : L a.length = some true)
    (hyes : ∀ (i : Nat) (h : i < a.length) (h' : i < b.length), P a[i] b[i] → L (i : Int) = L ((i + 1 : Nat) : Int)) (hno : ∀ (i : Nat) (h : i < a.length) (h' : i < b.length), ¬ P a[i] b[i] → L (i : Int) = some false) :
    ∀ (n i : Nat), a.length - i ≤ n → i ≤ a.length → ∃ r, L (i : Int) = some r ∧ (r = true ↔ ∀ (j : Nat) (x y : α), i ≤ j → a[j]? = some x → b[j]? = some y → P x y) := by
  have stop : ∀ i : Nat, i = a.length → ∃ r, L (i : Int) = some r ∧ (r = true ↔ ∀ (j : Nat) (x y : α), i ≤ j → a[j]? = some x → b[j]? = some y → P x y) := fun i hi => by
    refine ⟨true, by rw [hi]; exact hend, by simp; intro j x y hj hx; have := (List.getElem?_eq_some_iff.1 hx).1; omega⟩
  intro n
  induction n with
  | zero => intro i h1 h2; exact stop i (by omega)
  | succ n ih =>
    intro i h1 h2
    by_cases h : i < a.length
    · by_cases hp : P a[i] (b[i]'(by omega))
      · obtain ⟨r, hr, hrr⟩ := ih (i + 1) (by omega) (by omega)
        refine ⟨r, by rw [hyes i h (by omega) hp]; exact hr, hrr.trans ⟨fun q j x y hj hx hy => ?_, fun q j x y hj hx hy => q j x y (by omega) hx hy⟩⟩
        by_cases e : j = i
        · subst e
          rw [List.getElem?_eq_getElem h] at hx
          rw [List.getElem?_eq_getElem (by omega)] at hy
          cases hx; cases hy; exact hp
        · exact q j x y (by omega) hx hy
      · refine ⟨false, hno i h (by omega) hp, ⟨fun q => Bool.noConfusion q, fun q => absurd (q i _ _ (Nat.le_refl _) (List.getElem?_eq_getElem h) (List.getElem?_eq_getElem (by omega))) hp⟩⟩
    · exact stop i (by omega)
theorem refSame_spec (a b : List GApiNode) (ha : a.length ≤ 100000) : hindcastref05_Same a b = some (decide (a.map bare = b.map bare)) := by
  unfold hindcastref05_Same
  by_cases hab : a.length = b.length
  · rw [if_pos (by omega)]
    obtain ⟨r, hr, hrr⟩ := cmp_lists hab (hindcastref05_Same_l0 a b) (fun x y => bare x = bare y) (by rw [hindcastref05_Same_l0_eq, if_neg (by omega), hindcastref05_Same_j1_eq])
      (fun i h h' hp => by
        simp only [bare, GApiNode.mk.injEq, true_and] at hp
        obtain ⟨p1, p2, p3, p4⟩ := hp
        rw [hindcastref05_Same_l0_eq, if_pos (by omega), getI_nat' h, obind_some, getI_nat' h', obind_some, if_pos p1, if_pos p2, if_pos p3, if_pos p4, wrap64 (by omega) (by omega), show (i : Int) + 1 = ((i + 1 : Nat) : Int) by omega])
      (fun i h h' hp => by
        rw [hindcastref05_Same_l0_eq, if_pos (by omega), getI_nat' h, obind_some, getI_nat' h', obind_some]
        by_cases p1 : a[i].Kind = b[i].Kind
        · by_cases p2 : a[i].Size = b[i].Size
          · by_cases p3 : a[i].Num = b[i].Num
            · by_cases p4 : a[i].Text = b[i].Text
              · exact absurd (by simp only [bare, p1, p2, p3, p4]) hp
              · rw [if_pos p1, if_pos p2, if_pos p3, if_neg p4]
            · rw [if_pos p1, if_pos p2, if_neg p3]
          · rw [if_pos p1, if_neg p2]
        · rw [if_neg p1]) a.length 0 (by omega) (by omega)
    have hr' : hindcastref05_Same_l0 a b 0 = some r := hr
    rw [hr']
    congr 1
    rw [Bool.eq_iff_iff, hrr, decide_eq_true_iff, lists_eq bare bare a b hab]
    exact ⟨fun q i x y hx hy => q i x y (Nat.zero_le _) hx hy, fun q j x y _ hx hy => q j x y hx hy⟩
  · rw [if_neg (by omega)]
    congr 1
    symm
    exact decide_eq_false fun e => hab (by simpa using congrArg List.length e)
theorem node_eq (x y : GApiNode) : (decide (x.Kind = y.Kind) && (decide (x.Line = y.Line) && (decide (x.Col = y.Col) && (decide (x.Size = y.Size) && (decide (x.Num = y.Num) && decide (x.Text = y.Text)))))) = true ↔ x = y := by
  obtain ⟨a, b, c, d, e, f⟩ := x
  obtain ⟨a', b', c', d', e', f'⟩ := y
  simp [GApiNode.mk.injEq]
theorem refEqual_spec (a b : List GApiNode) (ha : a.length ≤ 100000) : hindcastref05_Equal a b = some (decide (a = b)) := by
  unfold hindcastref05_Equal
  by_cases hab : a.length = b.length
  · rw [if_pos (by omega)]
    obtain ⟨r, hr, hrr⟩ := cmp_lists hab (hindcastref05_Equal_l0 a b) (fun x y => x = y) (by rw [hindcastref05_Equal_l0_eq, if_neg (by omega), hindcastref05_Equal_j1_eq])
      (fun i h h' hp => by
        rw [hindcastref05_Equal_l0_eq, if_pos (by omega), getI_nat' h, obind_some, getI_nat' h', obind_some, if_pos ((node_eq _ _).2 hp), wrap64 (by omega) (by omega), show (i : Int) + 1 = ((i + 1 : Nat) : Int) by omega])
      (fun i h h' hp => by
        rw [hindcastref05_Equal_l0_eq, if_pos (by omega), getI_nat' h, obind_some, getI_nat' h', obind_some, if_neg fun q => hp ((node_eq _ _).1 q)]) a.length 0 (by omega) (by omega)
    have hr' : hindcastref05_Equal_l0 a b 0 = some r := hr
    rw [hr']
    congr 1
    rw [Bool.eq_iff_iff, hrr, decide_eq_true_iff]
    have := lists_eq id id a b hab
    simp only [List.map_id] at this
    rw [this]
    exact ⟨fun q i x y hx hy => q i x y (Nat.zero_le _) hx hy, fun q j x y _ hx hy => q j x y hx hy⟩
  · rw [if_neg (by omega)]
    congr 1
    symm
    exact decide_eq_false fun e => hab (by rw [e])
theorem equal_spec (a b : List GApiNode) (ha : a.length ≤ 100000) : slices_Equal_api_Node a b = some (decide (a = b)) := by
  unfold slices_Equal_api_Node
  by_cases hab : a.length = b.length
  · rw [if_pos (by omega)]
    obtain ⟨r, hr, hrr⟩ := cmp_lists hab (slices_Equal_api_Node_l0 a b) (fun x y => x = y) (by rw [slices_Equal_api_Node_l0_eq, if_neg (by omega), slices_Equal_api_Node_j1_eq])
      (fun i h h' hp => by
        rw [slices_Equal_api_Node_l0_eq, if_pos (by omega), getI_nat' h, obind_some, getI_nat' h', obind_some, if_pos ((node_eq _ _).2 hp), wrap64 (by omega) (by omega), show (i : Int) + 1 = ((i + 1 : Nat) : Int) by omega])
      (fun i h h' hp => by
        rw [slices_Equal_api_Node_l0_eq, if_pos (by omega), getI_nat' h, obind_some, getI_nat' h', obind_some, if_neg fun q => hp ((node_eq _ _).1 q)]) a.length 0 (by omega) (by omega)
    have hr' : slices_Equal_api_Node_l0 a b 0 = some r := hr
    rw [hr']
    congr 1
    rw [Bool.eq_iff_iff, hrr, decide_eq_true_iff]
    have := lists_eq id id a b hab
    simp only [List.map_id] at this
    rw [this]
    exact ⟨fun q i x y hx hy => q i x y (Nat.zero_le _) hx hy, fun q j x y _ hx hy => q j x y hx hy⟩
  · rw [if_neg (by omega)]
    congr 1
    symm
    exact decide_eq_false fun e => hab (by rw [e])
theorem bare_loop (l : List GApiNode) (hl : l.length ≤ 100000) : ∀ (n i : Nat), l.length - i ≤ n → i ≤ l.length → tree_Bare_l0 l (i : Int) ((l.take i).map bare ++ l.drop i) = some (l.map bare) := by
  have stop : ∀ i : Nat, i = l.length → tree_Bare_l0 l (i : Int) ((l.take i).map bare ++ l.drop i) = some (l.map bare) := fun i hi => by
    rw [tree_Bare_l0_eq, if_neg (by omega), tree_Bare_j1_eq, hi]; simp
  intro n
  induction n with
  | zero => intro i h1 h2; exact stop i (by omega)
  | succ n ih =>
    intro i h1 h2
    by_cases h : i < l.length
    · have hm : ((l.take i).map bare).length = i := by simp; omega
      have hg : getI ((l.take i).map bare ++ l.drop i) (i : Int) = some l[i] := by
        unfold getI
        rw [if_pos (by omega), Int.toNat_natCast, List.getElem?_append_right (by omega), hm, Nat.sub_self, List.getElem?_drop]
        simp [h]
      rw [tree_Bare_l0_eq, if_pos (by omega), hg, obind_some, wrap64 (by omega) (by omega), show (i : Int) + 1 = ((i + 1 : Nat) : Int) by omega, Int.toNat_natCast, List.set_set]
      have := ih (i + 1) (by omega) (by omega)
      rw [← this]
      congr 1
      rw [List.set_append_right _ _ (by omega), hm, Nat.sub_self, List.drop_eq_getElem_cons h, List.set_cons_zero]
      have ht : (l.take (i + 1)).map bare = (l.take i).map bare ++ [bare l[i]] := by
        rw [List.take_add_one, List.getElem?_eq_getElem h, List.map_append]; rfl
      rw [ht, List.append_assoc]; rfl
    · exact stop i (by omega)
theorem bare_spec (l : List GApiNode) (hl : l.length ≤ 100000) : tree_Bare l = some (l.map bare) := by
  unfold tree_Bare slices_Clone_api_Node
  rw [if_pos (by unfold AppOb maxLen; simp; omega), obind_some, List.nil_append]
  have := bare_loop l hl l.length 0 (by omega) (by omega)
  simpa using this
theorem same_spec (a b : List GApiNode) (ha : a.length ≤ 100000) (hb : b.length ≤ 100000) : tree_Same a b = some (decide (a.map bare = b.map bare)) := by
  unfold tree_Same
  rw [bare_spec a ha, obind_some, bare_spec b hb, obind_some, equal_spec _ _ (by simpa using ha), obind_some]
/-- So many are gone through. -/
theorem many_loop (l : List GApiNode) (hx : l.length ≤ maxLen ∧ ∀ x ∈ l, x.Text.length ≤ maxLen) : ∀ (n i : Nat) (c : Int), l.length - i ≤ n → (i : Int) ≤ c → c ≤ 4000 → i ≤ l.length → ∃ b, hindcastref05_Many_l0 l c (i : Int) = some b ∧ (b = false → l.length ≤ 4000) := by
  intro n
  have stop : ∀ (i : Nat) (c : Int), i = l.length → (i : Int) ≤ c → c ≤ 4000 → ∃ b, hindcastref05_Many_l0 l c (i : Int) = some b ∧ (b = false → l.length ≤ 4000) := fun i c hi h1 h2 =>
    ⟨false, by rw [hindcastref05_Many_l0_eq, if_neg (by omega), hindcastref05_Many_j1_eq], fun _ => by omega⟩
  induction n with
  | zero => intro i c h1 h2 h3 h4; exact stop i c (by omega) h2 h3
  | succ n ih =>
    intro i c h1 h2 h3 h4
    by_cases h : i < l.length
    · rw [hindcastref05_Many_l0_eq, if_pos (by omega), getI_nat' h, obind_some]
      have hm : ∃ m : Int, (if (5000 : Int) < (l[i].Text.length : Int) then 5000 else (l[i].Text.length : Int)) = m ∧ 0 ≤ m ∧ m ≤ 5000 := by
        split
        · exact ⟨_, rfl, by omega, by omega⟩
        · exact ⟨_, rfl, by omega, by omega⟩
      obtain ⟨m, e, m0, m1⟩ := hm
      rw [e, wrap64 (n := 1 + m) (by omega) (by omega), wrap64 (n := c + (1 + m)) (by omega) (by omega)]
      by_cases hc : c + (1 + m) > 4000
      · rw [if_pos hc]; exact ⟨true, rfl, fun q => Bool.noConfusion q⟩
      · rw [if_neg hc, wrap64 (by omega) (by omega), show (i : Int) + 1 = ((i + 1 : Nat) : Int) by omega]
        exact ih (i + 1) _ (by omega) (by omega) (by omega) (by omega)
    · exact stop i c (by omega) h2 h3
theorem many_spec (l : List GApiNode) (h : l.length ≤ maxLen ∧ ∀ x ∈ l, ok_GApiNode x) : ∃ b, hindcastref05_Many l = some b ∧ (b = false → l.length ≤ 4000) := by
  unfold hindcastref05_Many
  exact many_loop l ⟨h.1, fun x hx => (h.2 x hx).2.2.2.2.2⟩ l.length 0 0 (by omega) (by omega) (by omega) (by omega)
theorem bareLaw_loop (a b r : List GApiNode) (hr : r.length ≤ 100000) (h0 : ∀ x ∈ r, x.Line = 0 ∧ x.Col = 0) : ∀ (n i : Nat), r.length - i ≤ n → hindcastlaw05_TreeBare_l1 a b r (i : Int) = hindcastlaw05_TreeBare_j2 a b r := by
  intro n
  have stop : ∀ i : Nat, r.length ≤ i → hindcastlaw05_TreeBare_l1 a b r (i : Int) = hindcastlaw05_TreeBare_j2 a b r := fun i hi => by
    rw [hindcastlaw05_TreeBare_l1_eq, if_neg (by omega)]
  induction n with
  | zero => intro i h1; exact stop i (by omega)
  | succ n ih =>
    intro i h1
    by_cases h : i < r.length
    · obtain ⟨q1, q2⟩ := h0 r[i] (List.getElem_mem _)
      rw [hindcastlaw05_TreeBare_l1_eq, if_pos (by omega), getI_nat' h, obind_some, if_pos q1, if_pos q2, wrap64 (by omega) (by omega), show (i : Int) + 1 = ((i + 1 : Nat) : Int) by omega]
      exact ih (i + 1) (by omega)
    · exact stop i (by omega)
theorem treeBare_all (a b : List GApiNode) (ha : a.length ≤ maxLen ∧ ∀ x ∈ a, ok_GApiNode x) (hb : b.length ≤ maxLen ∧ ∀ x ∈ b, ok_GApiNode x) : hindcastlaw05_TreeBare a b = some true := by
  unfold hindcastlaw05_TreeBare
  have hj : hindcastlaw05_TreeBare_j0 = some true := by rw [hindcastlaw05_TreeBare_j0_eq, awake_true, obind_some]
  obtain ⟨p, hp, hpp⟩ := many_spec a ha
  obtain ⟨q, hq, hqq⟩ := many_spec b hb
  rw [hp, obind_some]
  cases p with
  | true => rw [if_pos rfl, hj]
  | false =>
    rw [if_neg (by simp), hq, obind_some]
    cases q with
    | true => rw [if_pos rfl, hj]
    | false =>
      have la := hpp rfl
      have lb := hqq rfl
      rw [if_neg (by simp), if_pos (by unfold AppOb maxLen; simp; omega), List.nil_append, bare_spec a (by omega), obind_some]
      have h1 := bareLaw_loop a b (a.map bare) (by simp; omega) (fun x hx => by obtain ⟨y, _, rfl⟩ := List.mem_map.1 hx; exact ⟨rfl, rfl⟩) (a.map bare).length 0 (by omega)
      have h1' : hindcastlaw05_TreeBare_l1 a b (a.map bare) 0 = _ := h1
      have hbb : (a.map bare).map bare = a.map bare := by rw [List.map_map]; rfl
      rw [h1', hindcastlaw05_TreeBare_j2_eq, refSame_spec _ _ (by simp; omega), obind_some, hbb, if_pos (by simp), List.nil_append, refEqual_spec a a (by omega), obind_some, if_pos (by simp), same_spec _ _ (by simp; omega) (by omega), obind_some, hbb, if_pos (by simp), same_spec _ _ (by omega) (by omega), obind_some, refSame_spec _ _ (by omega), obind_some, if_pos (by simp), awake_true, obind_some]
end Go.Proofs.Ytahioekdpndohaa

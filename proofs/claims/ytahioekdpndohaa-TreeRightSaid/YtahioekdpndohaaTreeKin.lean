/- Children, and whose child a node is. -/
import Derived.Test.YtahioekdpndohaaTreeStack
namespace Go.Proofs.Ytahioekdpndohaa
open Go.RowKit
set_option linter.unusedVariables false
def kl (l : List GApiNode) : Nat → Nat → Int → List Int
  | 0, _, _ => []
  | n + 1, k, stop => if (k : Int) < stop then (k : Int) :: kl l n (k + 1 + (sz l k).toNat) stop else []
def kidsS (l : List GApiNode) (a : Nat) : List Int := kl l l.length (a + 1) (a + 1 + sz l a)
theorem RightP.wf {l : List GApiNode} (h : RightP l) {a : Nat} (ha : a < l.length) : WF l a := by
  obtain ⟨h0, h1, h2⟩ := h
  by_cases e : a = 0
  · subst e; exact h2
  · exact h2.sub (by omega) (by omega)
/-- The end of a node's own. -/
abbrev en (l : List GApiNode) (a : Nat) : Int := a + 1 + sz l a
/-- The node a is the one whose child k is. -/
def IsUp (l : List GApiNode) (a k : Nat) : Prop := a < k ∧ (k : Int) < en l a ∧ ∀ i : Nat, a < i → i < k → en l i ≤ k
theorem IsUp.uniq {l : List GApiNode} {a b k : Nat} (h : IsUp l a k) (h' : IsUp l b k) : a = b := by
  obtain ⟨h1, h2, h3⟩ := h
  obtain ⟨g1, g2, g3⟩ := h'
  by_cases hab : a < b
  · have := h3 b hab g1; omega
  · by_cases hba : b < a
    · have := g3 a hba h1; omega
    · omega
section
variable {l : List GApiNode}
theorem kl_mem {a : Nat} (hw : WF l a) : ∀ (n k0 : Nat), a < k0 → (k0 : Int) ≤ en l a → en l a - k0 ≤ n → ∀ k : Nat, (k : Int) ∈ kl l n k0 (en l a) ↔ (k0 ≤ k ∧ (k : Int) < en l a ∧ ∀ i : Nat, k0 ≤ i → i < k → en l i ≤ k) := by
  intro n
  induction n with
  | zero =>
    intro k0 h1 h2 h3 k
    simp only [kl, List.not_mem_nil, false_iff]
    rintro ⟨g1, g2, _⟩
    omega
  | succ n ih =>
    intro k0 h1 h2 h3 k
    unfold kl
    by_cases h : (k0 : Int) < en l a
    · rw [if_pos h, List.mem_cons]
      have hk := hw.sub h1 h
      have hs := hk.1.2.1
      have he := (hw.2 k0 h1 h).2 a (Nat.le_refl _) h1 h
      have e1 : ((k0 + 1 + (sz l k0).toNat : Nat) : Int) = en l k0 := by unfold en; omega
      have := ih (k0 + 1 + (sz l k0).toNat) (by omega) (by rw [e1]; exact he) (by rw [e1]; unfold en at h3 ⊢; omega) k
      rw [this]
      constructor
      · rintro (g | ⟨g1, g2, g3⟩)
        · have : k = k0 := by omega
          subst this
          exact ⟨Nat.le_refl _, h, fun i hi hik => by omega⟩
        · refine ⟨by omega, g2, fun i hi hik => ?_⟩
          by_cases hik0 : i < k0 + 1 + (sz l k0).toNat
          · by_cases hii : i = k0
            · subst hii; rw [← e1]; omega
            · have h5 := (hk.2 i (by omega) (by omega)).2 k0 (Nat.le_refl _) (by omega) (by omega)
              unfold en at *; omega
          · exact g3 i (by omega) hik
      · rintro ⟨g1, g2, g3⟩
        by_cases hkk : k = k0
        · left; omega
        · right
          have := g3 k0 (Nat.le_refl _) (by omega)
          rw [← e1] at this
          exact ⟨by omega, g2, fun i hi hik => g3 i (by omega) hik⟩
    · rw [if_neg h]
      simp only [List.not_mem_nil, false_iff]
      rintro ⟨g1, g2, _⟩
      omega
theorem kl_nat : ∀ (n k0 : Nat) (stop : Int), ∀ e ∈ kl l n k0 stop, ∃ k : Nat, e = k ∧ k0 ≤ k ∧ (k : Int) < stop := by
  intro n
  induction n with
  | zero => intro k0 stop e he; simp [kl] at he
  | succ n ih =>
    intro k0 stop e he
    unfold kl at he
    split at he
    · rcases List.mem_cons.1 he with rfl | he
      · exact ⟨k0, rfl, Nat.le_refl _, by assumption⟩
      · obtain ⟨k, h1, h2, h3⟩ := ih _ _ e he
        exact ⟨k, h1, by omega, h3⟩
    · simp at he
theorem kids_mem {a : Nat} (hw : WF l a) (k : Nat) : (k : Int) ∈ kidsS l a ↔ IsUp l a k := by
  unfold kidsS IsUp
  have h1 := hw.1
  unfold InR at h1
  rw [show (a : Int) + 1 + sz l a = en l a from rfl, kl_mem hw l.length (a + 1) (by omega) (by unfold en; omega) (by unfold en; omega)]
  constructor
  · rintro ⟨g1, g2, g3⟩; exact ⟨by omega, g2, fun i hi hik => g3 i (by omega) hik⟩
  · rintro ⟨g1, g2, g3⟩; exact ⟨by omega, g2, fun i hi hik => g3 i (by omega) hik⟩
theorem kl_len : ∀ (n k0 : Nat) (stop : Int), (kl l n k0 stop).length ≤ n := by
  intro n
  induction n with
  | zero => intro k0 stop; simp [kl]
  | succ n ih =>
    intro k0 stop
    unfold kl
    split
    · simp; exact ih _ _
    · simp
variable (hl : l.length ≤ 100000)
include hl
theorem kids_loop {a : Nat} (hw : WF l a) : ∀ (n k : Nat) (w : List Int), a < k → (k : Int) ≤ en l a → en l a - k ≤ n → w.length + n ≤ 200000 → tree_kids_l0 l (a : Int) (k : Int) w = some (w ++ kl l n k (en l a)) ∧ hindcastref05_Kids_l0 l (a : Int) (k : Int) w = some (w ++ kl l n k (en l a)) := by
  obtain ⟨r1, r2, r3⟩ := hw.1
  obtain ⟨x, hx, hxs, _⟩ := sz_get r1
  have w1 : w64 ((a : Int) + x.Size) = a + sz l a := by rw [hxs]; exact wrap64 (by omega) (by omega)
  have w2 : w64 (w64 ((a : Int) + 1) + x.Size) = en l a := by rw [hxs, wrap64 (n := (a : Int) + 1) (by omega) (by omega)]; exact wrap64 (by omega) (by omega)
  have stop : ∀ (k : Nat) (w : List Int), ¬ (k : Int) < en l a → tree_kids_l0 l (a : Int) (k : Int) w = some w ∧ hindcastref05_Kids_l0 l (a : Int) (k : Int) w = some w := fun k w h => by
    constructor
    · rw [tree_kids_l0_eq, hx, obind_some, w1, if_neg (by unfold en at h; omega), tree_kids_j1_eq]
    · rw [hindcastref05_Kids_l0_eq, hx, obind_some, w2, if_neg h, hindcastref05_Kids_j1_eq]
  intro n
  induction n with
  | zero =>
    intro k w h1 h2 h3 h4
    have := stop k w (by omega)
    simpa [kl] using this
  | succ n ih =>
    intro k w h1 h2 h3 h4
    by_cases h : (k : Int) < en l a
    · have hk := hw.sub h1 h
      obtain ⟨s1, s2, s3⟩ := hk.1
      have he := (hw.2 k h1 h).2 a (Nat.le_refl _) h1 h
      obtain ⟨y, hy, hys, _⟩ := sz_get s1
      have e1 : ((k + 1 + (sz l k).toNat : Nat) : Int) = en l k := by unfold en; omega
      have w3 : w64 ((k : Int) + w64 (1 + y.Size)) = ((k + 1 + (sz l k).toNat : Nat) : Int) := by rw [hys, wrap64 (n := 1 + sz l k) (by omega) (by omega), wrap64 (by omega) (by omega)]; omega
      have w4 : w64 (w64 ((k : Int) + 1) + y.Size) = ((k + 1 + (sz l k).toNat : Nat) : Int) := by rw [hys, wrap64 (n := (k : Int) + 1) (by omega) (by omega), wrap64 (by omega) (by omega)]; omega
      have hob : AppOb 8 (w.length + ([(k : Int)] : List Int).length) := by unfold AppOb maxLen; simp; omega
      have hn := ih (k + 1 + (sz l k).toNat) (w ++ [(k : Int)]) (by omega) (by rw [e1]; exact he) (by rw [e1]; unfold en at *; omega) (by simp; omega)
      have ekl : w ++ kl l (n + 1) k (en l a) = (w ++ [(k : Int)]) ++ kl l n (k + 1 + (sz l k).toNat) (en l a) := by
        conv => lhs; unfold kl
        rw [if_pos h]; simp
      rw [ekl]
      constructor
      · rw [tree_kids_l0_eq, hx, obind_some, w1, if_pos (by unfold en at h; omega), if_pos hob, hy, obind_some, w3]
        exact hn.1
      · rw [hindcastref05_Kids_l0_eq, hx, obind_some, w2, if_pos h, if_pos hob, hy, obind_some, w4]
        exact hn.2
    · have := stop k w h
      have e : kl l (n + 1) k (en l a) = [] := by unfold kl; rw [if_neg h]
      rw [e, List.append_nil]
      exact this
theorem kids_spec {a : Nat} (hw : WF l a) : tree_kids l (a : Int) = some (kidsS l a) ∧ hindcastref05_Kids l (a : Int) = some (kidsS l a) := by
  obtain ⟨r1, r2, r3⟩ := hw.1
  have := kids_loop hl hw l.length (a + 1) [] (by omega) (by unfold en; omega) (by unfold en; omega) (by simp; omega)
  unfold tree_kids hindcastref05_Kids
  rw [wrap64 (n := (a : Int) + 1) (by omega) (by omega)]
  simpa [kidsS] using this
theorem up_loop {k : Nat} (hk : k < l.length) (hr : RightP l) : ∀ i : Nat, i < k → (∀ j : Nat, i < j → j < k → en l j ≤ k) → ∃ a : Nat, tree_Up_l0 l (k : Int) (i : Int) = some (a : Int) ∧ IsUp l a k := by
  intro i
  induction i with
  | zero =>
    intro h1 h2
    obtain ⟨x, hx, hxs, _⟩ := sz_get (show 0 < l.length by omega)
    have := hr.2.1
    have hx' : getI l 0 = some x := hx
    refine ⟨0, ?_, h1, by unfold en; omega, h2⟩
    show tree_Up_l0 l (k : Int) 0 = some 0
    rw [tree_Up_l0_eq, if_pos (by omega), hx', obind_some, hxs, wrap64 (by omega) (by omega), if_pos (by omega)]
  | succ i ih =>
    intro h1 h2
    obtain ⟨x, hx, hxs, _⟩ := sz_get (show i + 1 < l.length by omega)
    have hw := (hr.wf (show i + 1 < l.length by omega)).1
    unfold InR at hw
    rw [tree_Up_l0_eq, if_pos (by omega), hx, obind_some, hxs, wrap64 (n := ((i + 1 : Nat) : Int) + sz l (i + 1)) (by omega) (by omega)]
    by_cases h3 : ((i + 1 : Nat) : Int) + sz l (i + 1) ≥ k
    · rw [if_pos h3]
      exact ⟨i + 1, rfl, h1, by unfold en; omega, h2⟩
    · rw [if_neg h3, wrap64 (by omega) (by omega), show ((i + 1 : Nat) : Int) - 1 = (i : Int) by omega]
      refine ih (by omega) fun j hj hjk => ?_
      by_cases e : j = i + 1
      · subst e; unfold en; omega
      · exact h2 j (by omega) hjk
theorem up_spec {k : Nat} (h0 : 1 ≤ k) (hk : k < l.length) (hr : RightP l) : ∃ a : Nat, tree_Up l (k : Int) = some (a : Int) ∧ IsUp l a k := by
  obtain ⟨b, hb, hbb⟩ := right_spec hl
  have : b = true := hbb.2 hr
  subst this
  obtain ⟨a, h1, h2⟩ := up_loop hl hk hr (k - 1) (by omega) (fun j hj hjk => by omega)
  refine ⟨a, ?_, h2⟩
  unfold tree_Up
  rw [if_neg (by omega), if_neg (by omega), hb, obind_some, if_pos rfl, wrap64 (by omega) (by omega), show (k : Int) - 1 = ((k - 1 : Nat) : Int) by omega]
  exact h1
omit hl in
theorem refUp_l1 {i k : Nat} (r : List Int) (hrl : r.length ≤ 200000) : ∀ (n j : Nat), r.length - j ≤ n → (∀ q : Nat, q < j → ∀ e, r[q]? = some e → e ≠ (k : Int)) → hindcastref05_Up_l1 l (k : Int) (i : Int) (i : Int) r (j : Int) = if (k : Int) ∈ r then some (i : Int) else hindcastref05_Up_j3 l (k : Int) (i : Int) := by
  intro n
  have stop : ∀ j : Nat, r.length ≤ j → (∀ q : Nat, q < j → ∀ e, r[q]? = some e → e ≠ (k : Int)) → hindcastref05_Up_l1 l (k : Int) (i : Int) (i : Int) r (j : Int) = if (k : Int) ∈ r then some (i : Int) else hindcastref05_Up_j3 l (k : Int) (i : Int) := fun j hj hp => by
    rw [hindcastref05_Up_l1_eq, if_neg (by omega), if_neg]
    intro hm
    obtain ⟨q, hq, e⟩ := List.getElem_of_mem hm
    exact hp q (by omega) _ (List.getElem?_eq_getElem hq) e
  induction n with
  | zero => intro j hj hp; exact stop j (by omega) hp
  | succ n ih =>
    intro j hj hp
    by_cases h : j < r.length
    · rw [hindcastref05_Up_l1_eq, if_pos (by omega), getI_nat' h, obind_some]
      by_cases e : r[j] = (k : Int)
      · rw [if_pos e, if_pos (by rw [← e]; exact List.getElem_mem _)]
      · rw [if_neg e, wrap64 (by omega) (by omega), show (j : Int) + 1 = ((j + 1 : Nat) : Int) by omega]
        refine ih (j + 1) (by omega) fun q hq e' he' => ?_
        by_cases hqj : q = j
        · subst hqj
          rw [List.getElem?_eq_getElem h] at he'
          cases he'; exact e
        · exact hp q (by omega) e' he'
    · exact stop j (by omega) hp
theorem refUp_loop {k : Nat} (hr : RightP l) : ∀ (n i : Nat), l.length - i ≤ n → (∀ j : Nat, j < i → ¬ IsUp l j k) → hindcastref05_Up_l0 l (k : Int) (i : Int) = some (-1) ∧ (∀ j : Nat, j < l.length → ¬ IsUp l j k) ∨ ∃ a : Nat, hindcastref05_Up_l0 l (k : Int) (i : Int) = some (a : Int) ∧ IsUp l a k := by
  intro n
  have stop : ∀ i : Nat, l.length ≤ i → (∀ j : Nat, j < i → ¬ IsUp l j k) → hindcastref05_Up_l0 l (k : Int) (i : Int) = some (-1) ∧ (∀ j : Nat, j < l.length → ¬ IsUp l j k) := fun i hi hp =>
    ⟨by rw [hindcastref05_Up_l0_eq, if_neg (by omega), hindcastref05_Up_j2_eq], fun j hj => hp j (by omega)⟩
  induction n with
  | zero => intro i hi hp; exact .inl (stop i (by omega) hp)
  | succ n ih =>
    intro i hi hp
    by_cases h : i < l.length
    · have hw := hr.wf h
      have hlen : (kidsS l i).length ≤ 200000 := by have := kl_len (l := l) l.length (i + 1) (i + 1 + sz l i); unfold kidsS; omega
      rw [hindcastref05_Up_l0_eq, if_pos (by omega), (kids_spec hl hw).2, obind_some]
      have h1 := refUp_l1 (l := l) (i := i) (k := k) (kidsS l i) hlen (kidsS l i).length 0 (by omega) (fun q hq => by omega)
      have h1' : hindcastref05_Up_l1 l (k : Int) (i : Int) (i : Int) (kidsS l i) 0 = _ := h1
      rw [h1']
      by_cases hu : IsUp l i k
      · rw [if_pos ((kids_mem hw k).2 hu)]; exact .inr ⟨i, rfl, hu⟩
      · rw [if_neg fun h => hu ((kids_mem hw k).1 h), hindcastref05_Up_j3_eq, wrap64 (by omega) (by omega), show (i : Int) + 1 = ((i + 1 : Nat) : Int) by omega]
        refine ih (i + 1) (by omega) fun j hj => ?_
        by_cases e : j = i
        · subst e; exact hu
        · exact hp j (by omega)
    · exact .inl (stop i (by omega) hp)
theorem refUp_spec {k : Nat} (h0 : 1 ≤ k) (hk : k < l.length) (hr : RightP l) : ∃ a : Nat, hindcastref05_Up l (k : Int) = some (a : Int) ∧ IsUp l a k := by
  obtain ⟨a, ha, hu⟩ := up_spec hl h0 hk hr
  unfold hindcastref05_Up
  have := refUp_loop hl (k := k) hr l.length 0 (by omega) (fun j hj => by omega)
  rcases this with ⟨h1, h2⟩ | h
  · exact absurd hu (h2 a (by have := hu.1; omega))
  · exact h
theorem refUp_zero (hr : RightP l) : hindcastref05_Up l 0 = some (-1) := by
  unfold hindcastref05_Up
  have := refUp_loop hl (k := 0) hr l.length 0 (by omega) (fun j hj => by omega)
  rcases this with ⟨h1, h2⟩ | ⟨a, h1, h2⟩
  · exact h1
  · have := h2.1; omega
end
end Go.Proofs.Ytahioekdpndohaa

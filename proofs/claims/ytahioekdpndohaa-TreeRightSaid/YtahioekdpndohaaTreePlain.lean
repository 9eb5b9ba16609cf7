/- Rows of nodes that are one tree, in plain terms: what the program and the document's answer say of them. -/
import Derived.Test.YtahioekdpndohaaXF
import Derived.Test.YtahioekdpndohaaLfOp
import Derived.Test.YtahioekdpndohaaLf6
namespace Go.Proofs.Ytahioekdpndohaa
open Go.RowKit
set_option linter.unusedVariables false

def sz (l : List GApiNode) (i : Nat) : Int := match l[i]? with | some x => x.Size | none => 0
theorem sz_get {l : List GApiNode} {i : Nat} (h : i < l.length) : ∃ x, getI l (i : Int) = some x ∧ x.Size = sz l i ∧ l[i]? = some x :=
  ⟨l[i], getI_nat' h, by simp [sz, h], by simp [h]⟩
def InR (l : List GApiNode) (a : Nat) : Prop := a < l.length ∧ 0 ≤ sz l a ∧ a + 1 + sz l a ≤ l.length
def WF (l : List GApiNode) (a : Nat) : Prop :=
  InR l a ∧ ∀ j : Nat, a < j → (j : Int) < a + 1 + sz l a → 0 ≤ sz l j ∧ ∀ i : Nat, a ≤ i → i < j → (j : Int) < i + 1 + sz l i → j + 1 + sz l j ≤ i + 1 + sz l i
theorem WF.sub {l : List GApiNode} {a k : Nat} (h : WF l a) (hk : a < k) (hk2 : (k : Int) < a + 1 + sz l a) : WF l k := by
  obtain ⟨h1, h2⟩ := h.2 k hk hk2
  have h3 := h2 a (Nat.le_refl _) hk hk2
  have h4 := h.1.2.2
  refine ⟨⟨by omega, h1, by omega⟩, fun j hj hj2 => ?_⟩
  obtain ⟨h5, h6⟩ := h.2 j (by omega) (by omega)
  exact ⟨h5, fun i hi hij hji => h6 i (by omega) hij hji⟩
section
variable {l : List GApiNode} (hl : l.length ≤ 100000)
include hl
theorem end_loop {a : Nat} {x : GApiNode} (hx : x.Size = sz l a) (hr : InR l a) (ih : ∀ k : Nat, a < k → k ≤ l.length → ∃ r, hindcastref05_end l (k : Int) = some r ∧ (WF l k ∧ r = k + 1 + sz l k ∨ ¬ WF l k ∧ r = -1)) :
    ∀ (n k : Nat), a < k → (a + 1 + sz l a : Int) - k ≤ n → (k : Int) ≤ a + 1 + sz l a →
      (∀ j : Nat, a < j → j < k → 0 ≤ sz l j ∧ j + 1 + sz l j ≤ k ∧ ∀ i : Nat, a < i → i < j → (j : Int) < i + 1 + sz l i → j + 1 + sz l j ≤ i + 1 + sz l i) →
      ∃ r, hindcastref05_end_l0 l (a : Int) x (k : Int) = some r ∧ (WF l a ∧ r = a + 1 + sz l a ∨ ¬ WF l a ∧ r = -1) := by
  intro n
  obtain ⟨r1, r2, r3⟩ := hr
  have w1 : w64 (w64 ((a : Int) + 1) + x.Size) = a + 1 + sz l a := by
    rw [hx, wrap64 (n := (a : Int) + 1) (by omega) (by omega), wrap64 (by omega) (by omega)]
  induction n with
  | zero =>
    intro k hk hn hle hp
    have hks : (k : Int) = a + 1 + sz l a := by omega
    refine ⟨a + 1 + sz l a, ?_, .inl ⟨⟨⟨r1, r2, r3⟩, fun j hj hj2 => ?_⟩, rfl⟩⟩
    · rw [hindcastref05_end_l0_eq]
      simp only [w1]
      rw [if_pos (by omega), if_neg (by omega), hindcastref05_end_j1_eq]
      simp only [w1]
      rw [if_pos hks]
    · obtain ⟨h1, h2, h3⟩ := hp j hj (by omega)
      refine ⟨h1, fun i hi hij hji => ?_⟩
      by_cases e : i = a
      · subst e; omega
      · exact h3 i (by omega) hij hji
  | succ n ihn =>
    intro k hk hn hle hp
    by_cases hks : (k : Int) = a + 1 + sz l a
    · refine ⟨a + 1 + sz l a, ?_, .inl ⟨⟨⟨r1, r2, r3⟩, fun j hj hj2 => ?_⟩, rfl⟩⟩
      · rw [hindcastref05_end_l0_eq]
        simp only [w1]
        rw [if_pos (by omega), if_neg (by omega), hindcastref05_end_j1_eq]
        simp only [w1]
        rw [if_pos hks]
      · obtain ⟨h1, h2, h3⟩ := hp j hj (by omega)
        refine ⟨h1, fun i hi hij hji => ?_⟩
        by_cases e : i = a
        · subst e; omega
        · exact h3 i (by omega) hij hji
    · obtain ⟨r, hr, hrr⟩ := ih k hk (by omega)
      rw [hindcastref05_end_l0_eq]
      simp only [w1]
      rw [if_pos (by omega), if_pos (by omega), hr, obind_some]
      rcases hrr with ⟨hw, rfl⟩ | ⟨hw, rfl⟩
      · obtain ⟨⟨k1, k2, k3⟩, k4⟩ := hw
        by_cases hle2 : (k : Int) + 1 + sz l k ≤ a + 1 + sz l a
        · have e1 : (k : Int) + 1 + sz l k = ((k + 1 + (sz l k).toNat : Nat) : Int) := by omega
          rw [e1]
          refine ihn _ (by omega) (by omega) (by omega) fun j hj hj2 => ?_
          by_cases hjk : j < k
          · obtain ⟨h1, h2, h3⟩ := hp j hj hjk
            exact ⟨h1, by omega, h3⟩
          · by_cases hjk2 : j = k
            · subst hjk2
              refine ⟨k2, by omega, fun i hi hij hji => ?_⟩
              have := (hp i hi hij).2.1
              omega
            · obtain ⟨h1, h2⟩ := k4 j (by omega) (by omega)
              have h3 := h2 k (Nat.le_refl _) (by omega) (by omega)
              refine ⟨h1, by omega, fun i hi hij hji => ?_⟩
              by_cases hik : i < k
              · have := (hp i hi hik).2.1; omega
              · exact h2 i (by omega) hij hji
        · refine ⟨-1, ?_, .inr ⟨fun hwf => ?_, rfl⟩⟩
          · rw [hindcastref05_end_l0_eq]
            simp only [w1]
            rw [if_pos (by omega), if_neg (by omega), hindcastref05_end_j1_eq]
            simp only [w1]
            rw [if_neg (by omega)]
          · have := (hwf.2 k hk (by omega)).2 a (Nat.le_refl _) hk (by omega)
            omega
      · refine ⟨-1, ?_, .inr ⟨fun hwf => hw (hwf.sub hk (by omega)), rfl⟩⟩
        rw [hindcastref05_end_l0_eq]
        rw [if_neg (by omega), hindcastref05_end_j1_eq]
        simp only [w1]
        rw [if_neg (by omega)]
theorem end_spec : ∀ (n a : Nat), l.length - a ≤ n → a ≤ l.length → ∃ r, hindcastref05_end l (a : Int) = some r ∧ (WF l a ∧ r = a + 1 + sz l a ∨ ¬ WF l a ∧ r = -1) := by
  intro n
  induction n with
  | zero =>
    intro a hn ha
    exact ⟨-1, by rw [hindcastref05_end_eq, if_pos (by omega)], .inr ⟨fun h => by have := h.1.1; omega, rfl⟩⟩
  | succ n ih =>
    intro a hn ha
    by_cases h : a < l.length
    · obtain ⟨x, hx, hxs, _⟩ := sz_get h
      rw [hindcastref05_end_eq, if_neg (by omega), hx, obind_some, hxs]
      by_cases h1 : sz l a < 0
      · exact ⟨-1, by rw [if_pos h1], .inr ⟨fun hw => by have := hw.1.2.1; omega, rfl⟩⟩
      · rw [if_neg h1, wrap64 (n := (l.length : Int) - 1) (by omega) (by omega), wrap64 (n := (l.length : Int) - 1 - a) (by omega) (by omega)]
        by_cases h2 : sz l a > l.length - 1 - a
        · exact ⟨-1, by rw [if_pos h2], .inr ⟨fun hw => by have := hw.1.2.2; omega, rfl⟩⟩
        · rw [if_neg h2, wrap64 (by omega) (by omega)]
          have := end_loop hl hxs ⟨h, by omega, by omega⟩ (fun k hk hk2 => ih k (by omega) hk2) (sz l a).toNat (a + 1) (by omega) (by omega) (by omega) (fun j hj hj2 => by omega)
          simpa using this
    · exact ⟨-1, by rw [hindcastref05_end_eq, if_pos (by omega)], .inr ⟨fun h => by have := h.1.1; omega, rfl⟩⟩
def RightP (l : List GApiNode) : Prop := 0 < l.length ∧ sz l 0 = l.length - 1 ∧ WF l 0
theorem refRight_spec : ∃ b, hindcastref05_Right l = some b ∧ (b = true ↔ RightP l) := by
  unfold hindcastref05_Right
  by_cases h : 0 < l.length
  · obtain ⟨r, hr, hrr⟩ := end_spec hl l.length 0 (by omega) (by omega)
    rw [if_pos (by omega)]
    have hr' : hindcastref05_end l 0 = some r := hr
    rw [hr', obind_some]
    refine ⟨_, rfl, ?_⟩
    rw [decide_eq_true_iff]
    unfold RightP
    rcases hrr with ⟨hw, rfl⟩ | ⟨hw, rfl⟩
    · constructor
      · intro e; exact ⟨h, by simp at e; omega, hw⟩
      · rintro ⟨_, e, _⟩; simp; omega
    · constructor
      · intro e; omega
      · rintro ⟨_, _, e⟩; exact absurd e hw
  · exact ⟨false, by rw [if_neg (by omega)], by simp; intro h'; exact absurd h'.1 h⟩
end
end Go.Proofs.Ytahioekdpndohaa

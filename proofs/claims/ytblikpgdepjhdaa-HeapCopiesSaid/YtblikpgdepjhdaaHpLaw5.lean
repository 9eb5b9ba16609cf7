/- The law HeapCopies, in plain terms. -/
import Derived.Test.YtblikpgdepjhdaaHpLaw3
namespace Go.Proofs.Ytblikpgdepjhdaa
open Go.RowKit
set_option linter.unusedVariables false
set_option maxHeartbeats 2000000

theorem copies_end {H K : GHeapHeap} (h : HInv H) (k : HInv K) : hindcastlaw11_HeapCopies_j6 H.room H.cells H.l K.room K.cells K.l H K = some true := by
  rw [hindcastlaw11_HeapCopies_j6_eq, allO h, obind_some, same_self h, obind_some, if_pos rfl, allO k, obind_some, same_self k, obind_some, if_pos rfl, awake_true, obind_some]
theorem copies_loop (a b : List GHindcastlaw11Op) (ha : a.length ≤ 60) (hb : b.length ≤ 60) (oa : ∀ i (hi : i < a.length), okOp a[i]) (ob : ∀ i (hi : i < b.length), okOp b[i]) :
    ∀ (m k : Nat), max a.length b.length - k ≤ m → ∀ H K, HInv H → HInv K → k ≤ 60 → hindcastlaw11_HeapCopies_l3 a b k H.room H.cells H.l K.room K.cells K.l H K = some true := by
  intro m
  have stop : ∀ k : Nat, ¬ k < a.length → ¬ k < b.length → ∀ H K, HInv H → HInv K → hindcastlaw11_HeapCopies_l3 a b k H.room H.cells H.l K.room K.cells K.l H K = some true := fun k h1 h2 H K h k' => by
    rw [hindcastlaw11_HeapCopies_l3_eq, if_neg (show ¬ (k : Int) < (a.length : Int) by omega), if_neg (show ¬ (k : Int) < (b.length : Int) by omega)]
    exact copies_end h k'
  induction m with
  | zero => intro k h1 H K h h' _; exact stop k (by omega) (by omega) H K h h'
  | succ m ih =>
    intro k h1 H K h h' hk
    by_cases c : k < a.length ∨ k < b.length
    · have hw : w64 ((k : Int) + 1) = ((k + 1 : Nat) : Int) := by rw [wrap64 (by omega) (by omega)]; omega
      have j5 : hindcastlaw11_HeapCopies_l3 a b k H.room H.cells H.l K.room K.cells K.l H K = hindcastlaw11_HeapCopies_j5 a b k H.room H.cells H.l K.room K.cells K.l H K := by
        rw [hindcastlaw11_HeapCopies_l3_eq]
        by_cases c1 : k < a.length
        · rw [if_pos (show (k : Int) < (a.length : Int) by omega)]
        · rw [if_neg (show ¬ (k : Int) < (a.length : Int) by omega), if_pos (show (k : Int) < (b.length : Int) by omega)]
      have j8 : ∀ H, HInv H → hindcastlaw11_HeapCopies_j8 a b k true H.room H.cells H.l K.room K.cells K.l H K = some true := fun H h => by
        rw [hindcastlaw11_HeapCopies_j8_eq]
        by_cases c2 : k < b.length
        · obtain ⟨K', d1, d2, _⟩ := does_spec h' b[k] (ob k c2)
          rw [if_pos (show (k : Int) < (b.length : Int) by omega), getI_nat' c2, obind_some, show GHindcastref11H.mk K.room K.cells K.l = mr K from rfl, d1, obind_some, hindcastlaw11_HeapCopies_j4_eq, if_pos rfl, if_pos rfl, hindcastlaw11_HeapCopies_j7_eq, hw]
          exact ih (k + 1) (by omega) H K' h d2 (by omega)
        · rw [if_neg (show ¬ (k : Int) < (b.length : Int) by omega), hindcastlaw11_HeapCopies_j4_eq, if_pos rfl, if_pos rfl, hindcastlaw11_HeapCopies_j7_eq, hw]
          exact ih (k + 1) (by omega) H K h h' (by omega)
      rw [j5, hindcastlaw11_HeapCopies_j5_eq]
      by_cases c1 : k < a.length
      · obtain ⟨H', d1, d2, _⟩ := does_spec h a[k] (oa k c1)
        rw [if_pos (show (k : Int) < (a.length : Int) by omega), getI_nat' c1, obind_some, show GHindcastref11H.mk H.room H.cells H.l = mr H from rfl, d1, obind_some]
        exact j8 H' d2
      · rw [if_neg (show ¬ (k : Int) < (a.length : Int) by omega)]
        exact j8 H h
    · exact stop k (by omega) (by omega) H K h h'
theorem copies_first (l a b : List GHindcastlaw11Op) (hl : l.length ≤ 60) (ha : a.length ≤ 60) (hb : b.length ≤ 60) (ol : ∀ i (hi : i < l.length), okOp l[i]) (oa : ∀ i (hi : i < a.length), okOp a[i]) (ob : ∀ i (hi : i < b.length), okOp b[i]) :
    ∀ (m k : Nat), l.length - k ≤ m → ∀ H, HInv H → k ≤ 60 → hindcastlaw11_HeapCopies_l1 l a b k H.room H.cells H.l H = some true := by
  intro m
  have stop : ∀ k : Nat, ¬ k < l.length → ∀ H, HInv H → hindcastlaw11_HeapCopies_l1 l a b k H.room H.cells H.l H = some true := fun k h1 H h => by
    rw [hindcastlaw11_HeapCopies_l1_eq, if_neg (show ¬ (k : Int) < (l.length : Int) by omega), hindcastlaw11_HeapCopies_j2_eq, show xheap_Heap_Copy H = some (some H, H) from rfl, obind_some]
    exact copies_loop a b ha hb oa ob _ 0 (Nat.le_refl _) H H h h (by omega)
  induction m with
  | zero => intro k h1 H h _; exact stop k (by omega) H h
  | succ m ih =>
    intro k h1 H h hk
    by_cases c : k < l.length
    · have hw : w64 ((k : Int) + 1) = ((k + 1 : Nat) : Int) := by rw [wrap64 (by omega) (by omega)]; omega
      obtain ⟨H', d1, d2, _⟩ := does_spec h l[k] (ol k c)
      rw [hindcastlaw11_HeapCopies_l1_eq, if_pos (show (k : Int) < (l.length : Int) by omega), getI_nat' c, obind_some, show GHindcastref11H.mk H.room H.cells H.l = mr H from rfl, d1, obind_some, hw]
      exact ih (k + 1) (by omega) H' d2 (by omega)
    · exact stop k c H h
theorem heapCopies_all (a0 a1 a2 : List GHindcastlaw11Op) (h0 : a0.length ≤ maxLen ∧ ∀ x ∈ a0, ok_GHindcastlaw11Op x) (h1 : a1.length ≤ maxLen ∧ ∀ x ∈ a1, ok_GHindcastlaw11Op x) (h2 : a2.length ≤ maxLen ∧ ∀ x ∈ a2, ok_GHindcastlaw11Op x) : hindcastlaw11_HeapCopies a0 a1 a2 = some true := by
  have c : ¬ ((2000 : Int) < 0 ∨ 65536 < (2000 : Int)) := by omega
  have hj : hindcastlaw11_HeapCopies_j0 = some true := by rw [hindcastlaw11_HeapCopies_j0_eq, awake_true, obind_some]
  unfold hindcastlaw11_HeapCopies
  rw [newO, if_neg c, obind_some]
  obtain ⟨b0, g0, e0⟩ := great_spec a0
  obtain ⟨b1, g1, e1⟩ := great_spec a1
  obtain ⟨b2, g2, e2⟩ := great_spec a2
  simp only [optCase, if_true, g0, g1, g2, obind_some]
  cases b0 with
  | true => rw [if_pos rfl, hj]
  | false =>
    rw [if_neg (by simp)]
    cases b1 with
    | true => rw [if_pos rfl, hj]
    | false =>
      rw [if_neg (by simp)]
      cases b2 with
      | true => rw [if_pos rfl, hj]
      | false =>
        rw [if_neg (by simp)]
        obtain ⟨l0, o0⟩ := e0 rfl
        obtain ⟨l1, o1⟩ := e1 rfl
        obtain ⟨l2, o2⟩ := e2 rfl
        exact copies_first a0 a1 a2 l0 l1 l2 o0 o1 o2 _ 0 (Nat.le_refl _) (GHeapHeap.new 2000) (new_inv c) (by omega)
end Go.Proofs.Ytblikpgdepjhdaa

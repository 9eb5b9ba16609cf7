/- Parts of the proof. -/
import Derived.Test.YtblikpgdepjhdaaHaHpLaw
namespace Go.Proofs.Ytblikpgdepjhdaa
open Go.RowKit
set_option linter.unusedVariables false
set_option maxHeartbeats 2000000
theorem eq4 (a b : GApiValue) (h : a = b) : (decide (a.Kind = b.Kind) && (decide (a.N = b.N) && (decide (a.Re = b.Re) && decide (a.Im = b.Im)))) = true := by subst h; simp
theorem strO {H : GHeapHeap} (s : List UInt8) (h : s.length ≤ 1000000000) : xheap_Heap_Str H s = some (H.str s) := by unfold xheap_Heap_Str; rw [if_pos (show s.length < 4611686018427387904 by omega)]
theorem new_inv {c : Int} (h : ¬ (c < 0 ∨ 65536 < c)) : HInv (GHeapHeap.new c) := ⟨by simp [GHeapHeap.new], by simp [GHeapHeap.new]; omega, by simp [GHeapHeap.new]; omega, by simp [GHeapHeap.new], fun o ho => by simp [GHeapHeap.new] at ho⟩
theorem awake_true : l11_awake = some true := by
  have h3 := new_inv (c := 3) (by omega)
  unfold l11_awake
  rw [show xheap_New 3 = some (some (GHeapHeap.new 3), 0) from rfl, obind_some]
  simp only [optCase, if_true]
  have e1 : (GHeapHeap.new 3).str [110, 105, 110, 101, 98, 121, 116, 101, 115] = (⟨3, 1, 0, 0⟩, true, ⟨3, 3, [⟨3, 0, [110, 105, 110, 101, 98, 121, 116, 101, 115], []⟩]⟩) := by
    unfold GHeapHeap.str
    rw [if_neg (by decide)]
    unfold GHeapHeap.addR
    have hs : objSize 3 [110, 105, 110, 101, 98, 121, 116, 101, 115] 0 = 3 := (objSize_eq ⟨3, 0, [110, 105, 110, 101, 98, 121, 116, 101, 115], []⟩ ⟨by decide, by decide⟩).trans (by decide)
    simp only [List.length_nil, hs, GHeapHeap.new, GHeapHeap.plus]
    rw [if_neg (by decide)]
    rfl
  rw [strO _ (by decide), e1, obind_some]
  have e2 : (⟨3, 3, [⟨3, 0, [110, 105, 110, 101, 98, 121, 116, 101, 115], []⟩]⟩ : GHeapHeap).list_ 1 0 ⟨1, 0, 0, 0⟩ = (⟨0, 0, 0, 0⟩, false, ⟨3, 3, [⟨3, 0, [110, 105, 110, 101, 98, 121, 116, 101, 115], []⟩]⟩) := by
    unfold GHeapHeap.list_
    rw [if_pos (by decide)]
  rw [show ∀ H a b c, xheap_Heap_List H a b c = some (H.list_ a b c) from fun _ _ _ _ => rfl]
  simp only [e2, obind_some]
  rfl
theorem sameV_loop (l : List GApiValue) (hl : l.length ≤ 100000000) : ∀ (m k : Nat), l.length - k ≤ m → k ≤ l.length → r11_SameValues_l0 l l k = some true := by
  intro m
  induction m with
  | zero => intro k h1 h2; rw [r11_SameValues_l0_eq, if_neg (by omega), r11_SameValues_j1_eq]
  | succ m ih =>
    intro k h1 h2
    by_cases c : k < l.length
    · have hw : w64 ((k : Int) + 1) = ((k + 1 : Nat) : Int) := by rw [wrap64 (by omega) (by omega)]; omega
      rw [r11_SameValues_l0_eq, if_pos (by omega), getI_nat' c, obind_some, obind_some, if_pos (eq4 _ _ rfl), hw]
      exact ih (k + 1) (by omega) (by omega)
    · rw [r11_SameValues_l0_eq, if_neg (by omega), r11_SameValues_j1_eq]
theorem same_loop (l : List GApiObj) (hl : l.length ≤ 100000000) (hv : ∀ o ∈ l, o.Vals.length ≤ 65536) : ∀ (m k : Nat), l.length - k ≤ m → k ≤ l.length → r11_Same_l0 l l k = some true := by
  intro m
  induction m with
  | zero => intro k h1 h2; rw [r11_Same_l0_eq, if_neg (by omega), r11_Same_j1_eq]
  | succ m ih =>
    intro k h1 h2
    by_cases c : k < l.length
    · have hw : w64 ((k : Int) + 1) = ((k + 1 : Nat) : Int) := by rw [wrap64 (by omega) (by omega)]; omega
      have hvl := hv l[k] (List.getElem_mem c)
      have sv : r11_SameValues l[k].Vals l[k].Vals = some true := by
        unfold r11_SameValues
        rw [if_pos rfl]
        exact sameV_loop _ (by omega) _ 0 (Nat.le_refl _) (Nat.zero_le _)
      rw [r11_Same_l0_eq, if_pos (by omega), getI_nat' c, obind_some, obind_some, if_pos rfl, if_pos rfl, if_pos rfl, sv, obind_some, if_pos rfl, hw]
      exact ih (k + 1) (by omega) (by omega)
    · rw [r11_Same_l0_eq, if_neg (by omega), r11_Same_j1_eq]
theorem same_self {H : GHeapHeap} (h : HInv H) : r11_Same H.l H.l = some true := by
  have h1 := h.len
  have h2 := h.r1
  have h3 := h.r2
  unfold r11_Same
  rw [if_pos rfl]
  exact same_loop _ (by omega) h.allOk _ 0 (Nat.le_refl _) (Nat.zero_le _)
end Go.Proofs.Ytblikpgdepjhdaa

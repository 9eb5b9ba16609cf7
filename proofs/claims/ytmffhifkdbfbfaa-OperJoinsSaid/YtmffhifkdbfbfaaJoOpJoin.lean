/- Parts of the proof. -/
import Derived.Test.YtmffhifkdbfbfaaJoOpBin
import Derived.Test.YtmffhifkdbfbfaaJoLf4
namespace Go.Proofs.Ytmffhifkdbfbfaa
open Go.RowKit
set_option linter.unusedVariables false
set_option maxHeartbeats 2000000
def IsT (H : GHeapHeap) (v : GApiValue) (s : List UInt8) : Prop := v.Kind = 3 ∧ H.text 3 v.N = (s, true)
theorem at_plus {H : GHeapHeap} {k n : Int} {o : GApiObj} (x : GApiObj) (h : H.at_ k n = some o) : (H.plus x).at_ k n = some o := by
  obtain ⟨i, hi, e1, e2, e3⟩ := at_some h
  unfold GHeapHeap.at_ at *
  have hn : n - 1 = (i : Int) := by omega
  rw [hn, getI_nat' hi] at h
  rw [hn, getI_nat' (xs := (H.plus x).l) (by simp [GHeapHeap.plus]; omega)]
  have : (H.plus x).l[i]'(by simp [GHeapHeap.plus]; omega) = H.l[i] := by simp only [GHeapHeap.plus]; rw [List.getElem_append_left hi]
  rw [this]; exact h
theorem IsT.plus {H : GHeapHeap} {v : GApiValue} {s : List UInt8} (x : GApiObj) (h : IsT H v s) : IsT (H.plus x) v s := by
  obtain ⟨h1, h2⟩ := h
  refine ⟨h1, ?_⟩
  unfold GHeapHeap.text at *
  by_cases c : v.N = 0
  · rw [if_pos ⟨rfl, c⟩] at *; exact h2
  · rw [if_neg (fun e => c e.2)] at *
    cases ho : H.at_ 3 v.N with
    | none => rw [ho] at h2; simp at h2
    | some o => rw [at_plus x ho]; rw [ho] at h2; exact h2
theorem str_step {H : GHeapHeap} (h : HInv H) (s : List UInt8) (hs : s.length ≤ 3000) (hr : H.room = 65536) (hc : H.cells ≤ 60000) :
    ∃ v H', xheap_Heap_Str H s = some (v, true, H') ∧ IsT H' v s ∧ HInv H' ∧ H'.room = 65536 ∧ H'.cells ≤ H.cells + 400 ∧ ∀ w t, IsT H w t → IsT H' w t := by
  have hi := str_inv h s (by omega)
  rw [strO s (by omega)]
  unfold GHeapHeap.str at *
  by_cases c : s = []
  · rw [if_pos c] at *
    refine ⟨_, _, rfl, ⟨rfl, ?_⟩, h, hr, by omega, fun _ _ h => h⟩
    unfold GHeapHeap.text; rw [if_pos ⟨rfl, rfl⟩, c]
  · rw [if_neg c] at *
    have h0 := h.r0
    have hz : objSize 3 s ([] : List GApiValue).length = 1 + ((s.length : Int) + 7) / 8 := by
      have := objSize_eq ⟨3, 0, s, []⟩ ⟨show s.length ≤ _ by omega, Nat.zero_le _⟩
      rw [this]; unfold sizeI; rw [if_pos rfl]
    have hg : ¬ H.room - H.cells < objSize 3 s ([] : List GApiValue).length := by rw [hz]; omega
    unfold GHeapHeap.addR at *
    simp only at *
    rw [if_neg hg] at *
    refine ⟨_, _, rfl, ⟨rfl, ?_⟩, hi.1, hi.2.1.trans hr, ?_, fun w t hw => hw.plus _⟩
    · have hl := h.len
      have hn : ¬ ((3 : Int) = 3 ∧ ((H.l.length + 1 : Nat) : Int) = 0) := by omega
      have ha : (H.plus ⟨3, 0, s, []⟩).at_ 3 ((H.l.length + 1 : Nat) : Int) = some ⟨3, 0, s, []⟩ := by
        unfold GHeapHeap.at_
        rw [show ((H.l.length + 1 : Nat) : Int) - 1 = (H.l.length : Int) by omega, getI_nat' (xs := (H.plus ⟨3, 0, s, []⟩).l) (by simp [GHeapHeap.plus])]
        simp [GHeapHeap.plus]
      unfold GHeapHeap.text
      rw [if_neg hn, ha]; rfl
    · simp only [GHeapHeap.plus, hz]; omega
theorem join_add {H : GHeapHeap} (h : HInv H) {a b : GApiValue} {s t : List UInt8} (ha : IsT H a s) (hb : IsT H b t) (hs : s.length + t.length ≤ 3000) (hr : H.room = 65536) (hc : H.cells ≤ 60000) :
    ∃ v H', oper_Bin H 1 a b = some (v, 0, true, H') ∧ IsT H' v (s ++ t) ∧ HInv H' ∧ H'.room = 65536 ∧ H'.cells ≤ H.cells + 400 ∧ ∀ w t, IsT H w t → IsT H' w t := by
  obtain ⟨v, H', e, r1, r2, r3, r4, r5⟩ := str_step h (s ++ t) (by simp; omega) hr hc
  refine ⟨v, H', ?_, r1, r2, r3, r4, r5⟩
  have hcat : CatOb s t := by unfold CatOb; omega
  unfold oper_Bin
  rw [ref_eq, obind_some, ha.1]
  simp only [show ¬ (5 ≤ (3 : Int) ∧ (3 : Int) ≤ 7) by decide, decide_false, Bool.false_eq_true, if_false]
  unfold oper_Bin_j1 xheap_Heap_Text
  simp only [ha.1, hb.1, if_true, show ¬ (3 : Int) = 1 by decide, show ¬ (3 : Int) = 2 by decide, show ¬ (3 : Int) = 4 by decide, if_false, ha.2, hb.2, obind_some, hcat]
  unfold oper_made
  rw [e]; rfl
theorem length_eq {H : GHeapHeap} {v : GApiValue} {s : List UInt8} (h : IsT H v s) : oper_length H v = some (⟨1, s.length, 0, 0⟩, 0, true) := by
  have hz : H.size 3 v.N = ((s.length : Int), 0) := by
    have h2 := h.2
    unfold GHeapHeap.text at h2
    unfold GHeapHeap.size
    by_cases c : v.N = 0
    · rw [if_pos ⟨rfl, c⟩] at *; rw [← (Prod.mk.inj h2).1]; rfl
    · rw [if_neg (fun e => c e.2)] at *
      cases ho : H.at_ 3 v.N with
      | none => rw [ho] at h2; simp at h2
      | some o => rw [ho] at h2; simp at h2; simp [h2]
  unfold oper_length oper_length_j0 xheap_Heap_Size oper_integer
  simp only [h.1, show ¬ (3 : Int) = 5 by decide, if_false, if_true, hz, obind_some]
theorem operJoins_all (s t u : List UInt8) (h0 : s.length ≤ 140737488351232) (h1 : t.length ≤ 140737488351232) (h2 : u.length ≤ 140737488351232) : hindcastlaw13_OperJoins s t u = some true := by
  have hj : hindcastlaw13_OperJoins_j0 = some true := by unfold hindcastlaw13_OperJoins_j0; rw [awake13]; rfl
  unfold hindcastlaw13_OperJoins
  rw [hj]
  by_cases c0 : (s.length : Int) > 1000
  · rw [if_pos c0]
  by_cases c1 : (t.length : Int) > 1000
  · rw [if_neg c0, if_pos c1]
  by_cases c2 : (u.length : Int) > 1000
  · rw [if_neg c0, if_neg c1, if_pos c2]
  rw [if_neg c0, if_neg c1, if_neg c2]
  have hn : xheap_New 65536 = some (some (GHeapHeap.new 65536), 0) := by unfold xheap_New; rw [if_neg (by decide)]
  rw [hn, obind_some]
  simp only [optCase, if_true]
  have i0 : HInv (GHeapHeap.new 65536) := new_inv (by decide)
  obtain ⟨a, H1, e1, a1, i1, r1, z1, m1⟩ := str_step i0 s (by omega) rfl (by decide)
  have z0 : (GHeapHeap.new 65536).cells = 0 := rfl
  rw [e1, obind_some]
  obtain ⟨b, H2, e2, b2, i2, r2, z2, m2⟩ := str_step i1 t (by omega) r1 (by omega)
  simp only [e2, obind_some]
  obtain ⟨c, H3, e3, c3, i3, r3, z3, m3⟩ := str_step i2 u (by omega) r2 (by omega)
  simp only [e3, obind_some]
  have a3 := m3 _ _ (m2 _ _ a1)
  have b3 := m3 _ _ b2
  obtain ⟨ab, H4, e4, ab4, i4, r4, z4, m4⟩ := join_add i3 a3 b3 (by omega) r3 (by omega)
  simp only [e4, obind_some]
  obtain ⟨abc, H5, e5, abc5, i5, r5, z5, m5⟩ := join_add i4 ab4 (m4 _ _ c3) (by simp; omega) r4 (by omega)
  simp only [e5, obind_some]
  obtain ⟨bc, H6, e6, bc6, i6, r6, z6, m6⟩ := join_add i5 (m5 _ _ (m4 _ _ b3)) (m5 _ _ (m4 _ _ c3)) (by omega) r5 (by omega)
  simp only [e6, obind_some]
  obtain ⟨ot, H7, e7, ot7, i7, r7, z7, m7⟩ := join_add i6 (m6 _ _ (m5 _ _ (m4 _ _ a3))) bc6 (by simp; omega) r6 (by omega)
  simp only [e7, obind_some, if_true]
  have abc7 := m7 _ _ (m6 _ _ abc5)
  have t1 : xheap_Heap_Text H7 abc = some (s ++ t ++ u, true) := by unfold xheap_Heap_Text; rw [abc7.1, abc7.2]
  have t2 : xheap_Heap_Text H7 ot = some (s ++ (t ++ u), true) := by unfold xheap_Heap_Text; rw [ot7.1, ot7.2]
  have t3 : oper_Built_n H7 () 1 ([abc] : List GApiValue) = some (⟨1, ((s ++ t ++ u).length : Int), 0, 0⟩, 0, true, H7) := by
    unfold oper_Built_n oper_kinds oper_kinds_j0
    rw [if_pos rfl, obind_some, if_pos rfl, if_pos (by simp), oper_Built_n_l0_eq]
    have g0 : getI ([0] : List Int) 0 = some 0 := by decide
    have g1 : getI ([abc] : List GApiValue) 0 = some abc := by unfold getI; simp
    have w1 : w64 (0 + 1) = 1 := by decide
    simp only [List.length_singleton, g0, obind_some, if_true, w1]
    rw [if_pos (by decide), oper_Built_n_l0_eq]
    simp only [List.length_singleton]
    rw [if_neg (by decide), oper_Built_n_j1_eq, if_pos rfl, g1, obind_some, length_eq abc7, obind_some]
  rw [t1, obind_some, t2, obind_some, t3, obind_some]
  have k1 : CatOb s t := by unfold CatOb; omega
  have k2 : CatOb (s ++ t) u := by unfold CatOb; simp; omega
  simp only [if_true, k1, k2, List.append_assoc, awake13, obind_some]
end Go.Proofs.Ytmffhifkdbfbfaa

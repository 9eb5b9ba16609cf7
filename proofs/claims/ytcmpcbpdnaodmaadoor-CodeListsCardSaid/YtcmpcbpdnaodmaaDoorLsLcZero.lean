/- Parts of the proof. -/
import Derived.Test.YtcmpcbpdnaodmaaDoorLsLcWalk
namespace Go.Proofs.YtcmpcbpdnaodmaaDoor
open Go.RowKit Go.Great
set_option linter.unusedVariables false
set_option maxHeartbeats 400000
set_option maxRecDepth 100000
theorem listing_zero (w : World) (c : GApiCode) (v1 v2 v3 : Value) (fn : Nat) (f : GApiEntry) (hv : CodeV w (fun _ => False) c v1 v2 v3) (hf : c.Fns[fn]? = some f) (hm : mayB c = true) (hl0 : f.Len = 0) :
    Calls Tryd.prog 6 #[.agg #[v1, v2, v3], .int .i64 fn] w fun e w' => e = .returned (.string (mkS [])) ∧ Below w.heap.size w w' := by
  have hk := mayK hm
  obtain ⟨a1, k1, rfl, n1, m1, r1⟩ := rowC_of hv.r1 cellI (fun x j hj => by
    match j, hj with
    | 0, _ => rfl
    | 1, _ => rfl
    | 2, _ => rfl)
  obtain ⟨a2, k2, rfl, n2, m2, r2⟩ := rowC_of hv.r2 cellE (fun x j hj => by
    match j, hj with
    | 0, _ => rfl
    | 1, _ => rfl
    | 2, _ => rfl
    | 3, _ => rfl
    | 4, _ => rfl)
  obtain ⟨b2, o2, rfl, l2, g2⟩ := r2 (fun h => by rw [h] at hf; simp at hf)
  obtain ⟨hfl, hfe⟩ := List.getElem?_eq_some_iff.1 hf
  have fA := g2 fn hfl 0 (by omega)
  have fL := g2 fn hfl 1 (by omega)
  have fP := g2 fn hfl 2 (by omega)
  have fS := g2 fn hfl 3 (by omega)
  have fR := g2 fn hfl 4 (by omega)
  rw [hfe] at fA fL fP fS fR
  unfold cellE at fA fL fP fS fR
  simp only [Nat.add_zero, ← Nat.add_assoc] at fA fL fP fS fR
  obtain ⟨p0, p1, p2⟩ := hk.at_ hf
  have hi := hk.ins
  have t0 : ¬ (fn : Int) < 0 := by omega
  have t1 : (fn : Int) < c.Fns.length := by omega
  have HV := Lib.hid hv; clear hv r2 g2
  have HM := Lib.hid hm; clear hm hk
  obtain ⟨fa, fl, fp, fs, fr⟩ := f
  simp only at fA fL fP fS fR p0 p1 p2 hl0
  subst hl0
  obtain ⟨at0, rfl⟩ : ∃ n : Nat, fa = (n : Int) := ⟨fa.toNat, by omega⟩
  have t2 : ¬ c.Fns.length ≤ fn := by omega
  have hR1 : a1 = none → c.Ins.length = 0 := fun e => by
    by_cases h : c.Ins = []
    · rw [h]; rfl
    · obtain ⟨b, off, e2, _⟩ := r1 h
      rw [e] at e2
      cases e2
  have p3 : at0 ≤ c.Ins.length := by omega
  have p4 : at0 ≤ k1 := by omega
  have hP : ∀ p, a1 = some p → c.Ins ≠ [] → ∃ b o, some p = some ⟨b, o, none⟩ := fun p e h => by
    obtain ⟨b, off, e2, _⟩ := r1 h
    exact ⟨b, off, e.symm.trans e2⟩
  clear r1
  have body : ∀ (hcase : a1 = none ∨ (∃ b1 o1, a1 = some ⟨b1, o1, none⟩) ∨ ∃ p, a1 = some p ∧ c.Ins.length = 0), Calls Tryd.prog 6 #[.agg #[.slice a1 c.Ins.length k1, .slice (some ⟨b2, o2, none⟩) c.Fns.length k2, v3], .int .i64 fn] w fun e w' => e = .returned (.string (mkS [])) ∧ Below w.heap.size w w' := by
    intro hcase
    rcases hcase with rfl | ⟨b1, o1, rfl⟩ | ⟨p, rfl, z⟩
    · have z := hR1 rfl
      have z0 : at0 = 0 := by omega
      subst z0
      rw [z] at HV ⊢
      go_enter Tryd.func6, Tryd.ntmps6
      go_wp2_with (go_at_call 12; go_must (refine (may_call (HV.out.to ((Below.refl _ _).alloc (Nat.le_refl _) _))).mono ?_; rintro e w1 ⟨rfl, hb1⟩; rw [HM.out]; (have h1 := (hb1.block w.heap.size (by simp)).trans (heap_alloc_last w _)); (have hw1 : Below w.heap.size w w1 := ((Below.refl _ w).alloc (Nat.le_refl _) _).trans (hb1.mono (by simp))); (have s1 : w.heap.size < w1.heap.size := by have := hb1.size; simp at this; omega); (have q0 := Lib.cell_of_heap h1 0); (have q1 := Lib.cell_of_heap h1 1); simp only [List.getElem?_toArray, List.getElem?_cons_zero, List.getElem?_cons_succ] at q0 q1; rw [← hw1.cell (p := ⟨b2, _, none⟩) l2] at fA fL fP fS fR; (have l2' : b2 < w1.heap.size := by omega); have HB := Lib.hid hw1; clear h1 hb1 hw1))
      have hbl : Lib.IsBuilderF 42 5 w1.heap.size w1.heap.size (Lib.byteCells []) ((w1.alloc (Obj.cells #[Value.pointer none, Value.slice none 0 0] 42)).alloc (Obj.cells #[Value.int IntKind.i64 0, Value.int IntKind.i64 0, Value.int IntKind.i64 fp, Value.int IntKind.i64 fs, Value.int IntKind.i64 fr] 39)) := (Lib.IsBuilderF.of (Lib.fresh_isBuilder 42 5 w1)).alloc _
      have hbw : Below w.heap.size w ((w1.alloc (Obj.cells #[Value.pointer none, Value.slice none 0 0] 42)).alloc (Obj.cells #[Value.int IntKind.i64 0, Value.int IntKind.i64 0, Value.int IntKind.i64 fp, Value.int IntKind.i64 fs, Value.int IntKind.i64 fr] 39)) := (HB.out.alloc (by omega) _).alloc (by simp; omega) _
      have hsz : w1.heap.size ≤ (((w1.alloc (Obj.cells #[Value.pointer none, Value.slice none 0 0] 42)).alloc (Obj.cells #[Value.int IntKind.i64 0, Value.int IntKind.i64 0, Value.int IntKind.i64 fp, Value.int IntKind.i64 fs, Value.int IntKind.i64 fr] 39))).heap.size := by simp; omega
      generalize ((w1.alloc (Obj.cells #[Value.pointer none, Value.slice none 0 0] 42)).alloc (Obj.cells #[Value.int IntKind.i64 0, Value.int IntKind.i64 0, Value.int IntKind.i64 fp, Value.int IntKind.i64 fs, Value.int IntKind.i64 fr] 39)) = W0 at hbl hbw hsz ⊢
      have hbk0 : w.heap.size ≤ w1.heap.size := by omega
      generalize w1.heap.size = bk at *
      clear q0 q1 fA fL fP fS fR
      go_loopw [7,8,39] (fun u7 u8 i wr => i = .int .i64 0 ∧ Lib.IsBuilderF 42 5 bk bk (Lib.byteCells []) wr ∧ Below w.heap.size w wr ∧ bk ≤ wr.heap.size) (fun _ _ i _ => 0)
      case atStart => exact ⟨rfl, hbl, hbw, hsz⟩
      case round =>
        obtain ⟨rfl, hB, hW, hs⟩ := hrel
        have HBL := Lib.hid hB; clear hB
        have HW := Lib.hid hW; clear hW
        go_wp2_with (go_at_call 18; go_must (refine (Tryd.Builder_String_any_k bk bk _ _ HBL.out hs).mono ?_; rintro e w2 ⟨rfl, _, hb2, _⟩))
        go_ret
        exact ⟨rfl, HW.out.trans (hb2.mono hbk0)⟩
    · by_cases t3 : k1 = at0
      · subst t3
        go_enter Tryd.func6, Tryd.ntmps6
        go_wp2_with (go_at_call 12; go_must (refine (may_call (HV.out.to ((Below.refl _ _).alloc (Nat.le_refl _) _))).mono ?_; rintro e w1 ⟨rfl, hb1⟩; rw [HM.out]; (have h1 := (hb1.block w.heap.size (by simp)).trans (heap_alloc_last w _)); (have hw1 : Below w.heap.size w w1 := ((Below.refl _ w).alloc (Nat.le_refl _) _).trans (hb1.mono (by simp))); (have s1 : w.heap.size < w1.heap.size := by have := hb1.size; simp at this; omega); (have q0 := Lib.cell_of_heap h1 0); (have q1 := Lib.cell_of_heap h1 1); simp only [List.getElem?_toArray, List.getElem?_cons_zero, List.getElem?_cons_succ] at q0 q1; rw [← hw1.cell (p := ⟨b2, _, none⟩) l2] at fA fL fP fS fR; (have l2' : b2 < w1.heap.size := by omega); have HB := Lib.hid hw1; clear h1 hb1 hw1))
        have hbl : Lib.IsBuilderF 42 5 w1.heap.size w1.heap.size (Lib.byteCells []) ((w1.alloc (Obj.cells #[Value.pointer none, Value.slice none 0 0] 42)).alloc (Obj.cells #[Value.int IntKind.i64 (k1 : Int), Value.int IntKind.i64 0, Value.int IntKind.i64 fp, Value.int IntKind.i64 fs, Value.int IntKind.i64 fr] 39)) := (Lib.IsBuilderF.of (Lib.fresh_isBuilder 42 5 w1)).alloc _
        have hbw : Below w.heap.size w ((w1.alloc (Obj.cells #[Value.pointer none, Value.slice none 0 0] 42)).alloc (Obj.cells #[Value.int IntKind.i64 (k1 : Int), Value.int IntKind.i64 0, Value.int IntKind.i64 fp, Value.int IntKind.i64 fs, Value.int IntKind.i64 fr] 39)) := (HB.out.alloc (by omega) _).alloc (by simp; omega) _
        have hsz : w1.heap.size ≤ (((w1.alloc (Obj.cells #[Value.pointer none, Value.slice none 0 0] 42)).alloc (Obj.cells #[Value.int IntKind.i64 (k1 : Int), Value.int IntKind.i64 0, Value.int IntKind.i64 fp, Value.int IntKind.i64 fs, Value.int IntKind.i64 fr] 39))).heap.size := by simp; omega
        generalize ((w1.alloc (Obj.cells #[Value.pointer none, Value.slice none 0 0] 42)).alloc (Obj.cells #[Value.int IntKind.i64 (k1 : Int), Value.int IntKind.i64 0, Value.int IntKind.i64 fp, Value.int IntKind.i64 fs, Value.int IntKind.i64 fr] 39)) = W0 at hbl hbw hsz ⊢
        have hbk0 : w.heap.size ≤ w1.heap.size := by omega
        generalize w1.heap.size = bk at *
        clear q0 q1 fA fL fP fS fR
        go_loopw [7,8,39] (fun u7 u8 i wr => i = .int .i64 0 ∧ Lib.IsBuilderF 42 5 bk bk (Lib.byteCells []) wr ∧ Below w.heap.size w wr ∧ bk ≤ wr.heap.size) (fun _ _ i _ => 0)
        case atStart => exact ⟨rfl, hbl, hbw, hsz⟩
        case round =>
          obtain ⟨rfl, hB, hW, hs⟩ := hrel
          have HBL := Lib.hid hB; clear hB
          have HW := Lib.hid hW; clear hW
          go_wp2_with (go_at_call 18; go_must (refine (Tryd.Builder_String_any_k bk bk _ _ HBL.out hs).mono ?_; rintro e w2 ⟨rfl, _, hb2, _⟩))
          go_ret
          exact ⟨rfl, HW.out.trans (hb2.mono hbk0)⟩
      · go_enter Tryd.func6, Tryd.ntmps6
        go_wp2_with (go_at_call 12; go_must (refine (may_call (HV.out.to ((Below.refl _ _).alloc (Nat.le_refl _) _))).mono ?_; rintro e w1 ⟨rfl, hb1⟩; rw [HM.out]; (have h1 := (hb1.block w.heap.size (by simp)).trans (heap_alloc_last w _)); (have hw1 : Below w.heap.size w w1 := ((Below.refl _ w).alloc (Nat.le_refl _) _).trans (hb1.mono (by simp))); (have s1 : w.heap.size < w1.heap.size := by have := hb1.size; simp at this; omega); (have q0 := Lib.cell_of_heap h1 0); (have q1 := Lib.cell_of_heap h1 1); simp only [List.getElem?_toArray, List.getElem?_cons_zero, List.getElem?_cons_succ] at q0 q1; rw [← hw1.cell (p := ⟨b2, _, none⟩) l2] at fA fL fP fS fR; (have l2' : b2 < w1.heap.size := by omega); have HB := Lib.hid hw1; clear h1 hb1 hw1))
        have hbl : Lib.IsBuilderF 42 5 w1.heap.size w1.heap.size (Lib.byteCells []) ((w1.alloc (Obj.cells #[Value.pointer none, Value.slice none 0 0] 42)).alloc (Obj.cells #[Value.int IntKind.i64 (at0 : Int), Value.int IntKind.i64 0, Value.int IntKind.i64 fp, Value.int IntKind.i64 fs, Value.int IntKind.i64 fr] 39)) := (Lib.IsBuilderF.of (Lib.fresh_isBuilder 42 5 w1)).alloc _
        have hbw : Below w.heap.size w ((w1.alloc (Obj.cells #[Value.pointer none, Value.slice none 0 0] 42)).alloc (Obj.cells #[Value.int IntKind.i64 (at0 : Int), Value.int IntKind.i64 0, Value.int IntKind.i64 fp, Value.int IntKind.i64 fs, Value.int IntKind.i64 fr] 39)) := (HB.out.alloc (by omega) _).alloc (by simp; omega) _
        have hsz : w1.heap.size ≤ (((w1.alloc (Obj.cells #[Value.pointer none, Value.slice none 0 0] 42)).alloc (Obj.cells #[Value.int IntKind.i64 (at0 : Int), Value.int IntKind.i64 0, Value.int IntKind.i64 fp, Value.int IntKind.i64 fs, Value.int IntKind.i64 fr] 39))).heap.size := by simp; omega
        generalize ((w1.alloc (Obj.cells #[Value.pointer none, Value.slice none 0 0] 42)).alloc (Obj.cells #[Value.int IntKind.i64 (at0 : Int), Value.int IntKind.i64 0, Value.int IntKind.i64 fp, Value.int IntKind.i64 fs, Value.int IntKind.i64 fr] 39)) = W0 at hbl hbw hsz ⊢
        have hbk0 : w.heap.size ≤ w1.heap.size := by omega
        generalize w1.heap.size = bk at *
        clear q0 q1 fA fL fP fS fR
        go_loopw [7,8,39] (fun u7 u8 i wr => i = .int .i64 0 ∧ Lib.IsBuilderF 42 5 bk bk (Lib.byteCells []) wr ∧ Below w.heap.size w wr ∧ bk ≤ wr.heap.size) (fun _ _ i _ => 0)
        case atStart => exact ⟨rfl, hbl, hbw, hsz⟩
        case round =>
          obtain ⟨rfl, hB, hW, hs⟩ := hrel
          have HBL := Lib.hid hB; clear hB
          have HW := Lib.hid hW; clear hW
          go_wp2_with (go_at_call 18; go_must (refine (Tryd.Builder_String_any_k bk bk _ _ HBL.out hs).mono ?_; rintro e w2 ⟨rfl, _, hb2, _⟩))
          go_ret
          exact ⟨rfl, HW.out.trans (hb2.mono hbk0)⟩
    · have z0 : at0 = 0 := by omega
      subst z0
      rw [z] at HV ⊢
      by_cases t3 : k1 = 0
      · subst t3
        go_enter Tryd.func6, Tryd.ntmps6
        go_wp2_with (go_at_call 12; go_must (refine (may_call (HV.out.to ((Below.refl _ _).alloc (Nat.le_refl _) _))).mono ?_; rintro e w1 ⟨rfl, hb1⟩; rw [HM.out]; (have h1 := (hb1.block w.heap.size (by simp)).trans (heap_alloc_last w _)); (have hw1 : Below w.heap.size w w1 := ((Below.refl _ w).alloc (Nat.le_refl _) _).trans (hb1.mono (by simp))); (have s1 : w.heap.size < w1.heap.size := by have := hb1.size; simp at this; omega); (have q0 := Lib.cell_of_heap h1 0); (have q1 := Lib.cell_of_heap h1 1); simp only [List.getElem?_toArray, List.getElem?_cons_zero, List.getElem?_cons_succ] at q0 q1; rw [← hw1.cell (p := ⟨b2, _, none⟩) l2] at fA fL fP fS fR; (have l2' : b2 < w1.heap.size := by omega); have HB := Lib.hid hw1; clear h1 hb1 hw1))
        have hbl : Lib.IsBuilderF 42 5 w1.heap.size w1.heap.size (Lib.byteCells []) ((w1.alloc (Obj.cells #[Value.pointer none, Value.slice none 0 0] 42)).alloc (Obj.cells #[Value.int IntKind.i64 0, Value.int IntKind.i64 0, Value.int IntKind.i64 fp, Value.int IntKind.i64 fs, Value.int IntKind.i64 fr] 39)) := (Lib.IsBuilderF.of (Lib.fresh_isBuilder 42 5 w1)).alloc _
        have hbw : Below w.heap.size w ((w1.alloc (Obj.cells #[Value.pointer none, Value.slice none 0 0] 42)).alloc (Obj.cells #[Value.int IntKind.i64 0, Value.int IntKind.i64 0, Value.int IntKind.i64 fp, Value.int IntKind.i64 fs, Value.int IntKind.i64 fr] 39)) := (HB.out.alloc (by omega) _).alloc (by simp; omega) _
        have hsz : w1.heap.size ≤ (((w1.alloc (Obj.cells #[Value.pointer none, Value.slice none 0 0] 42)).alloc (Obj.cells #[Value.int IntKind.i64 0, Value.int IntKind.i64 0, Value.int IntKind.i64 fp, Value.int IntKind.i64 fs, Value.int IntKind.i64 fr] 39))).heap.size := by simp; omega
        generalize ((w1.alloc (Obj.cells #[Value.pointer none, Value.slice none 0 0] 42)).alloc (Obj.cells #[Value.int IntKind.i64 0, Value.int IntKind.i64 0, Value.int IntKind.i64 fp, Value.int IntKind.i64 fs, Value.int IntKind.i64 fr] 39)) = W0 at hbl hbw hsz ⊢
        have hbk0 : w.heap.size ≤ w1.heap.size := by omega
        generalize w1.heap.size = bk at *
        clear q0 q1 fA fL fP fS fR
        go_loopw [7,8,39] (fun u7 u8 i wr => i = .int .i64 0 ∧ Lib.IsBuilderF 42 5 bk bk (Lib.byteCells []) wr ∧ Below w.heap.size w wr ∧ bk ≤ wr.heap.size) (fun _ _ i _ => 0)
        case atStart => exact ⟨rfl, hbl, hbw, hsz⟩
        case round =>
          obtain ⟨rfl, hB, hW, hs⟩ := hrel
          have HBL := Lib.hid hB; clear hB
          have HW := Lib.hid hW; clear hW
          go_wp2_with (go_at_call 18; go_must (refine (Tryd.Builder_String_any_k bk bk _ _ HBL.out hs).mono ?_; rintro e w2 ⟨rfl, _, hb2, _⟩))
          go_ret
          exact ⟨rfl, HW.out.trans (hb2.mono hbk0)⟩
      · have t3' : ¬ 0 = k1 := fun e => t3 e.symm
        go_enter Tryd.func6, Tryd.ntmps6
        go_wp2_with (go_at_call 12; go_must (refine (may_call (HV.out.to ((Below.refl _ _).alloc (Nat.le_refl _) _))).mono ?_; rintro e w1 ⟨rfl, hb1⟩; rw [HM.out]; (have h1 := (hb1.block w.heap.size (by simp)).trans (heap_alloc_last w _)); (have hw1 : Below w.heap.size w w1 := ((Below.refl _ w).alloc (Nat.le_refl _) _).trans (hb1.mono (by simp))); (have s1 : w.heap.size < w1.heap.size := by have := hb1.size; simp at this; omega); (have q0 := Lib.cell_of_heap h1 0); (have q1 := Lib.cell_of_heap h1 1); simp only [List.getElem?_toArray, List.getElem?_cons_zero, List.getElem?_cons_succ] at q0 q1; rw [← hw1.cell (p := ⟨b2, _, none⟩) l2] at fA fL fP fS fR; (have l2' : b2 < w1.heap.size := by omega); have HB := Lib.hid hw1; clear h1 hb1 hw1))
        have hbl : Lib.IsBuilderF 42 5 w1.heap.size w1.heap.size (Lib.byteCells []) ((w1.alloc (Obj.cells #[Value.pointer none, Value.slice none 0 0] 42)).alloc (Obj.cells #[Value.int IntKind.i64 0, Value.int IntKind.i64 0, Value.int IntKind.i64 fp, Value.int IntKind.i64 fs, Value.int IntKind.i64 fr] 39)) := (Lib.IsBuilderF.of (Lib.fresh_isBuilder 42 5 w1)).alloc _
        have hbw : Below w.heap.size w ((w1.alloc (Obj.cells #[Value.pointer none, Value.slice none 0 0] 42)).alloc (Obj.cells #[Value.int IntKind.i64 0, Value.int IntKind.i64 0, Value.int IntKind.i64 fp, Value.int IntKind.i64 fs, Value.int IntKind.i64 fr] 39)) := (HB.out.alloc (by omega) _).alloc (by simp; omega) _
        have hsz : w1.heap.size ≤ (((w1.alloc (Obj.cells #[Value.pointer none, Value.slice none 0 0] 42)).alloc (Obj.cells #[Value.int IntKind.i64 0, Value.int IntKind.i64 0, Value.int IntKind.i64 fp, Value.int IntKind.i64 fs, Value.int IntKind.i64 fr] 39))).heap.size := by simp; omega
        generalize ((w1.alloc (Obj.cells #[Value.pointer none, Value.slice none 0 0] 42)).alloc (Obj.cells #[Value.int IntKind.i64 0, Value.int IntKind.i64 0, Value.int IntKind.i64 fp, Value.int IntKind.i64 fs, Value.int IntKind.i64 fr] 39)) = W0 at hbl hbw hsz ⊢
        have hbk0 : w.heap.size ≤ w1.heap.size := by omega
        generalize w1.heap.size = bk at *
        clear q0 q1 fA fL fP fS fR
        go_loopw [7,8,39] (fun u7 u8 i wr => i = .int .i64 0 ∧ Lib.IsBuilderF 42 5 bk bk (Lib.byteCells []) wr ∧ Below w.heap.size w wr ∧ bk ≤ wr.heap.size) (fun _ _ i _ => 0)
        case atStart => exact ⟨rfl, hbl, hbw, hsz⟩
        case round =>
          obtain ⟨rfl, hB, hW, hs⟩ := hrel
          have HBL := Lib.hid hB; clear hB
          have HW := Lib.hid hW; clear hW
          go_wp2_with (go_at_call 18; go_must (refine (Tryd.Builder_String_any_k bk bk _ _ HBL.out hs).mono ?_; rintro e w2 ⟨rfl, _, hb2, _⟩))
          go_ret
          exact ⟨rfl, HW.out.trans (hb2.mono hbk0)⟩
  refine body ?_
  cases a1 with
  | none => exact .inl rfl
  | some p =>
    by_cases h : c.Ins = []
    · exact .inr (.inr ⟨p, rfl, by rw [h]; rfl⟩)
    · exact .inr (.inl (hP p rfl h))
end Go.Proofs.YtcmpcbpdnaodmaaDoor

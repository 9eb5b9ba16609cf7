/- Parts of the proof. -/
import Derived.Test.YtblikpgdepjhdaaHaHpAt2
namespace Go.Proofs.Ytblikpgdepjhdaa
open Go.RowKit
set_option linter.unusedVariables false
theorem HeapAt.below {H : GHeapHeap} {w w' : World} {M own : Nat → Prop} {b : Nat} {pls : List OPl} {ps : List Value} {lv : Value} (h : HeapAt H w M own b pls ps lv) (hb : Below w.heap.size w w') : HeapAt H w' M own b pls ps lv :=
  h.ext ⟨hb.size, fun k hk _ => hb.block k hk⟩ (fun k _ hk => hk) (hb.block b (has_lt h.head)) fun k hk => hb.block k (h.lt hk)
structure ObjR (w : World) (o : GApiObj) (pb off : Nat) (v : Value) : Prop where
  lt : pb < w.heap.size
  c0 : w.cell? ⟨pb, off, none⟩ = some (.int .u8 o.Kind)
  c1 : w.cell? ⟨pb, off + 1, none⟩ = some (.int .i64 o.Of)
  c2 : w.cell? ⟨pb, off + 2, none⟩ = some (.string (mkS o.Text))
  c3 : w.cell? ⟨pb, off + 3, none⟩ = some v
  vals : ValsR w v o.Vals
theorem heap_atR (H : GHeapHeap) (M own : Nat → Prop) (b : Nat) (pls : List OPl) (ps : List Value) (lv : Value) (x : GApiValue) (w : World) (h : HeapAt H w M own b pls ps lv) :
    Calls Try.prog 44 #[.pointer (some ⟨b, 0, none⟩), .agg #[.int .u8 x.Kind, .int .i64 x.N, .int .i64 x.Re, .int .i64 x.Im]] w fun e w' => Below w.heap.size w w' ∧
      ((H.at_ x.Kind x.N = none ∧ e = .returned (.pointer none)) ∨ ∃ o pb off v, H.at_ x.Kind x.N = some o ∧ e = .returned (.pointer (some ⟨pb, off, none⟩)) ∧ ObjR w' o pb off v) := by
  refine (heap_at H M own b pls ps lv x w h).mono ?_
  rintro e w' ⟨hb, p, rfl, hp⟩
  refine ⟨hb, ?_⟩
  rcases hp with ⟨h1, rfl⟩ | ⟨i, h1, h2, h3, rfl, _⟩
  · exact .inl ⟨h1, rfl⟩
  · have h' := h.below hb
    obtain ⟨pb, off, v, s, e1, e2, k0, k1, k2, k3, k4, k5⟩ := obj_cells (h'.objs i h1 h2 (by rw [h'.n1]; exact h1))
    exact .inr ⟨_, pb, off, v, h3, by rw [e1], ⟨e2, k0, k1, k2, k3, k5⟩⟩
theorem ObjR.below {w w' : World} {o : GApiObj} {pb off : Nat} {v : Value} (h : ObjR w o pb off v) (hb : Below w.heap.size w w') : ObjR w' o pb off v := by
  have e : ∀ j, w'.cell? ⟨pb, j, none⟩ = w.cell? ⟨pb, j, none⟩ := fun j => hb.cell (p := ⟨pb, j, none⟩) h.lt
  obtain ⟨a, c, hv, hx⟩ := h.vals
  refine ⟨Nat.lt_of_lt_of_le h.lt hb.size, (e _).trans h.c0, (e _).trans h.c1, (e _).trans h.c2, (e _).trans h.c3, a, c, hv, fun i hi => ?_⟩
  obtain ⟨g, of_, h1, h2, h3⟩ := hx i hi
  exact ⟨g, of_, h1, Nat.lt_of_lt_of_le h2 hb.size, fun j hj => (hb.cell (p := ⟨g, _, none⟩) h2).trans (h3 j hj)⟩
theorem heap_at0 {H : GHeapHeap} {M own : Nat → Prop} {b : Nat} {pls : List OPl} {ps : List Value} {lv : Value} {w : World} (kd n re im : Int) (h : HeapAt H w M own b pls ps lv) (hn : H.at_ kd n = none) :
    Calls Try.prog 44 #[.pointer (some ⟨b, 0, none⟩), .agg #[.int .u8 kd, .int .i64 n, .int .i64 re, .int .i64 im]] w fun e w' => Below w.heap.size w w' ∧ e = .returned (.pointer none) := by
  refine (heap_atR H M own b pls ps lv ⟨kd, n, re, im⟩ w h).mono ?_
  rintro e w' ⟨hb, ⟨_, rfl⟩ | ⟨o, pb, off, v, h1, _⟩⟩
  · exact ⟨hb, rfl⟩
  · rw [show H.at_ _ _ = none from hn] at h1; cases h1
theorem heap_at1 {H : GHeapHeap} {M own : Nat → Prop} {b : Nat} {pls : List OPl} {ps : List Value} {lv : Value} {w : World} (kd n re im : Int) (h : HeapAt H w M own b pls ps lv) {o : GApiObj} (hn : H.at_ kd n = some o) :
    Calls Try.prog 44 #[.pointer (some ⟨b, 0, none⟩), .agg #[.int .u8 kd, .int .i64 n, .int .i64 re, .int .i64 im]] w fun e w' => Below w.heap.size w w' ∧ ∃ pb off v, e = .returned (.pointer (some ⟨pb, off, none⟩)) ∧ ObjR w' o pb off v := by
  refine (heap_atR H M own b pls ps lv ⟨kd, n, re, im⟩ w h).mono ?_
  rintro e w' ⟨hb, ⟨h1, rfl⟩ | ⟨o', pb, off, v, h1, rfl, h2⟩⟩
  · rw [show H.at_ _ _ = some o from hn] at h1; cases h1
  · rw [show H.at_ _ _ = some o from hn] at h1; cases h1; exact ⟨hb, pb, off, v, rfl, h2⟩
theorem heap_empty (kd n re im : Int) (c : Bool) (hc : (decide (kd = 3) && decide (n = 0)) = c) (w : World) : Calls Try.prog 46 #[.agg #[.int .u8 kd, .int .i64 n, .int .i64 re, .int .i64 im]] w fun e w' => e = .returned (.bool c) ∧ Below w.heap.size w w' := by
  subst hc
  by_cases c1 : kd = 3
  · by_cases c2 : n = 0
    · go_enter Try.func46, Try.ntmps46
      go_wp2_with fail
      go_ret
      exact ⟨by simp [c1, c2], (Below.refl _ w).alloc (Nat.le_refl _) _⟩
    · go_enter Try.func46, Try.ntmps46
      go_wp2_with fail
      go_ret
      exact ⟨by simp [c1, c2], (Below.refl _ w).alloc (Nat.le_refl _) _⟩
  · go_enter Try.func46, Try.ntmps46
    go_wp2_with fail
    go_ret
    exact ⟨by simp [c1], (Below.refl _ w).alloc (Nat.le_refl _) _⟩
def GHeapHeap.text (H : GHeapHeap) (k n : Int) : List UInt8 × Bool :=
  if k = 3 ∧ n = 0 then ([], true) else match H.at_ k n with | some o => if k = 3 then (o.Text, true) else ([], false) | none => ([], false)
def GHeapHeap.size (H : GHeapHeap) (k n : Int) : Int × Int :=
  if k = 3 ∧ n = 0 then (0, 0) else match H.at_ k n with | some o => if k = 3 then (o.Text.length, 0) else (o.Vals.length, 0) | none => (0, 3)
def GHeapHeap.of_ (H : GHeapHeap) (k n : Int) : Int := match H.at_ k n with | some o => o.Of | none => 0
theorem at_zero (H : GHeapHeap) (k : Int) : H.at_ k 0 = none := rfl
set_option maxHeartbeats 8000000 in set_option maxRecDepth 100000 in
theorem heap_Size {H : GHeapHeap} {M own : Nat → Prop} {b : Nat} {pls : List OPl} {ps : List Value} {lv : Value} {w : World} (kd n re im : Int) (h : HeapAt H w M own b pls ps lv) :
    Calls Try.prog 26 #[.pointer (some ⟨b, 0, none⟩), .agg #[.int .u8 kd, .int .i64 n, .int .i64 re, .int .i64 im]] w fun e w' => Below w.heap.size w w' ∧ e = .returned (.tuple #[.int .i64 (H.size kd n).1, .int .u8 (H.size kd n).2]) := by
  have B0 : Below w.heap.size w (w.alloc (.cells #[.int .u8 kd, .int .i64 n, .int .i64 re, .int .i64 im] 46)) := (Below.refl _ w).alloc (Nat.le_refl _) _
  by_cases c1 : kd = 3
  · subst c1
    by_cases c2 : n = 0
    · subst c2
      have hn := at_zero H 3
      have ce := Lib.hid (show (decide ((3 : Int) = 3) && decide ((0 : Int) = 0)) = true from rfl)
      go_enter Try.func26, Try.ntmps26
      go_wp2_with (first | (go_at_call 44; go_must (refine (heap_at0 3 0 re im (h.below ((Below.refl _ w).alloc (Nat.le_refl _) _)) hn).mono ?_; rintro e w1 ⟨hb, rfl⟩; have N1 := has_belowT (has_new w w.heap.size _ _ rfl) hb; have nc1 := has_cell N1; have nf1 := has_free N1; have ns1 := has_lt N1)) | (go_at_call 46; go_must (refine (heap_empty 3 0 re im true ce.out _).mono ?_; rintro e w2 ⟨rfl, hb2⟩)))
      go_ret2
      exact ⟨thenB (thenB B0 hb) hb2, by simp [GHeapHeap.size] <;> rfl⟩
    · have ce := Lib.hid (show (decide ((3 : Int) = 3) && decide (n = 0)) = false by simp [c2])
      have c0 : ¬ ((3 : Int) = 3 ∧ n = 0) := by simp [c2]
      cases hn : H.at_ 3 n with
      | none =>
        go_enter Try.func26, Try.ntmps26
        go_wp2_with (first | (go_at_call 44; go_must (refine (heap_at0 3 n re im (h.below ((Below.refl _ w).alloc (Nat.le_refl _) _)) hn).mono ?_; rintro e w1 ⟨hb, rfl⟩; have N1 := has_belowT (has_new w w.heap.size _ _ rfl) hb; have nc1 := has_cell N1; have nf1 := has_free N1; have ns1 := has_lt N1)) | (go_at_call 46; go_must (refine (heap_empty 3 n re im false ce.out _).mono ?_; rintro e w2 ⟨rfl, hb2⟩; have N2 := has_belowT N1 hb2; have nc2 := has_cell N2; have nf2 := has_free N2; have ns2 := has_lt N2)))
        go_ret2
        exact ⟨thenB (thenB B0 hb) hb2, by simp only [GHeapHeap.size, if_neg c0, hn]; rfl⟩
      | some o =>
        go_enter Try.func26, Try.ntmps26
        go_wp2_with (first | (go_at_call 44; go_must (refine (heap_at1 3 n re im (h.below ((Below.refl _ w).alloc (Nat.le_refl _) _)) hn).mono ?_; rintro e w1 ⟨hb, pb, off, v, rfl, ho⟩; have N1 := has_belowT (has_new w w.heap.size _ _ rfl) hb; have nc1 := has_cell N1; have nf1 := has_free N1; have ns1 := has_lt N1; obtain ⟨o0, o1, o2, o3, o4, va, vc, rfl, o5⟩ := id ho; replace ho := Lib.hid ho; replace o5 := Lib.hid o5)) | (go_at_call 46; go_must (refine (heap_empty 3 n re im false ce.out _).mono ?_; rintro e w2 ⟨rfl, hb2⟩; have N2 := has_belowT N1 hb2; have nc2 := has_cell N2; have nf2 := has_free N2; have ns2 := has_lt N2; obtain ⟨p0, p1, p2, p3, p4, p5⟩ := id (ho.out.below hb2); replace p5 := Lib.hid p5)))
        go_ret2
        exact ⟨thenB (thenB B0 hb) hb2, by simp only [GHeapHeap.size, if_neg c0, hn]; rfl⟩
  · have ce := Lib.hid (show (decide (kd = 3) && decide (n = 0)) = false by simp [c1])
    have c0 : ¬ (kd = 3 ∧ n = 0) := by simp [c1]
    cases hn : H.at_ kd n with
    | none =>
      go_enter Try.func26, Try.ntmps26
      go_wp2_with (first | (go_at_call 44; go_must (refine (heap_at0 kd n re im (h.below ((Below.refl _ w).alloc (Nat.le_refl _) _)) hn).mono ?_; rintro e w1 ⟨hb, rfl⟩; have N1 := has_belowT (has_new w w.heap.size _ _ rfl) hb; have nc1 := has_cell N1; have nf1 := has_free N1; have ns1 := has_lt N1)) | (go_at_call 46; go_must (refine (heap_empty kd n re im false ce.out _).mono ?_; rintro e w2 ⟨rfl, hb2⟩; have N2 := has_belowT N1 hb2; have nc2 := has_cell N2; have nf2 := has_free N2; have ns2 := has_lt N2)))
      go_ret2
      exact ⟨thenB (thenB B0 hb) hb2, by simp only [GHeapHeap.size, if_neg c0, hn]; rfl⟩
    | some o =>
      go_enter Try.func26, Try.ntmps26
      go_wp2_with (first | (go_at_call 44; go_must (refine (heap_at1 kd n re im (h.below ((Below.refl _ w).alloc (Nat.le_refl _) _)) hn).mono ?_; rintro e w1 ⟨hb, pb, off, v, rfl, ho⟩; have N1 := has_belowT (has_new w w.heap.size _ _ rfl) hb; have nc1 := has_cell N1; have nf1 := has_free N1; have ns1 := has_lt N1; obtain ⟨o0, o1, o2, o3, o4, va, vc, rfl, o5⟩ := id ho; replace ho := Lib.hid ho; replace o5 := Lib.hid o5)) | (go_at_call 46; go_must (refine (heap_empty kd n re im false ce.out _).mono ?_; rintro e w2 ⟨rfl, hb2⟩; have N2 := has_belowT N1 hb2; have nc2 := has_cell N2; have nf2 := has_free N2; have ns2 := has_lt N2; obtain ⟨p0, p1, p2, p3, p4, p5⟩ := id (ho.out.below hb2); replace p5 := Lib.hid p5)))
      go_ret2
      exact ⟨thenB (thenB B0 hb) hb2, by simp only [GHeapHeap.size, if_neg c0, hn, if_neg c1]; rfl⟩
set_option maxHeartbeats 8000000 in set_option maxRecDepth 100000 in
theorem heap_Cells {H : GHeapHeap} {M own : Nat → Prop} {b : Nat} {pls : List OPl} {ps : List Value} {lv : Value} {w : World} (h : HeapAt H w M own b pls ps lv) :
    Calls Try.prog 13 #[.pointer (some ⟨b, 0, none⟩)] w fun e w' => Below w.heap.size w w' ∧ e = .returned (.int .i64 H.cells) := by
  have hc := has_cell h.head
  have hf := has_free h.head
  have hsz := has_lt h.head
  go_enter Try.func13, Try.ntmps13
  go_wp2_with fail
  go_ret
  exact ⟨Below.refl _ _, rfl⟩
end Go.Proofs.Ytblikpgdepjhdaa

/- Parts of the proof. -/
import Derived.Test.YtblikpgdepjhdaaHbHpList
namespace Go.Proofs.Ytblikpgdepjhdaa
open Go.RowKit
set_option linter.unusedVariables false
def GHeapHeap.put (H : GHeapHeap) (k n i : Int) (x : GApiValue) : Int × GHeapHeap :=
  match H.at_ k n with
  | none => (3, H)
  | some o => if k = 3 then (3, H) else if i < 0 ∨ (o.Vals.length : Int) ≤ i then (2, H) else (0, ⟨H.room, H.cells, H.l.set (n - 1).toNat { o with Vals := o.Vals.set i.toNat x }⟩)
set_option maxHeartbeats 8000000 in
set_option maxRecDepth 100000 in
theorem heap_PutNo {H : GHeapHeap} {M own : Nat → Prop} {b : Nat} {pls : List OPl} {ps : List Value} {lv : Value} {w : World} (kd n re im i : Int) (x : GApiValue)
    (h : HeapAt H w M own b pls ps lv) (hno : ∀ o, H.at_ kd n = some o → kd = 3 ∨ i < 0 ∨ (o.Vals.length : Int) ≤ i) :
    Calls Try.prog 19 #[.pointer (some ⟨b, 0, none⟩), .agg #[.int .u8 kd, .int .i64 n, .int .i64 re, .int .i64 im], .int .i64 i, .agg #[.int .u8 x.Kind, .int .i64 x.N, .int .i64 x.Re, .int .i64 x.Im]] w fun e w' =>
      e = .returned (.int .u8 (H.put kd n i x).1) ∧ (H.put kd n i x).2 = H ∧ Below w.heap.size w w' := by
  cases hn : H.at_ kd n with
  | none =>
    have e1 : H.put kd n i x = (3, H) := by unfold GHeapHeap.put; rw [hn]
    rw [e1]
    go_enter Try.func19, Try.ntmps19
    go_wp2_with (go_at_call 44; go_must (refine (heap_at0 kd n re im (h.below ((((Below.refl _ w).alloc (Nat.le_refl _) _).alloc (by simp) _))) hn).mono ?_; rintro e w1 ⟨hb, rfl⟩; have N1 := has_belowT (has_alloc (has_new w w.heap.size _ _ rfl) _) hb; have nc1 := has_cell N1; have nf1 := has_free N1; have ns1 := has_lt N1))
    go_ret
    exact ⟨rfl, trivial, (by repeat' (first | exact Below.refl _ _ | assumption | (refine thenB ?_ (by assumption)) | (refine belowN ?_ _) | (refine Below.alloc ?_ (by first | simp; done | (simp; omega) | omega) _) | (refine below_setRow ?_ (by first | simp; done | (simp; omega) | omega) _) | (refine Below.setCell ?_ (by first | simp; done | (simp; omega) | omega) _)))⟩
  | some o =>
    have hc := hno o hn
    by_cases c1 : kd = 3
    · subst c1
      have e1 : H.put 3 n i x = (3, H) := by unfold GHeapHeap.put; rw [hn]; rfl
      rw [e1]
      go_enter Try.func19, Try.ntmps19
      go_wp2_with (go_at_call 44; go_must (refine (heap_at1 3 n re im (h.below ((((Below.refl _ w).alloc (Nat.le_refl _) _).alloc (by simp) _))) hn).mono ?_; rintro e w1 ⟨hb, pb, off, v, rfl, ho⟩; have N1 := has_belowT (has_alloc (has_new w w.heap.size _ _ rfl) _) hb; have nc1 := has_cell N1; have nf1 := has_free N1; have ns1 := has_lt N1; obtain ⟨o0, o1, o2, o3, o4, va, vc, rfl, o5⟩ := id ho; replace ho := Lib.hid ho; replace o5 := Lib.hid o5))
      go_ret
      exact ⟨rfl, trivial, (by repeat' (first | exact Below.refl _ _ | assumption | (refine thenB ?_ (by assumption)) | (refine belowN ?_ _) | (refine Below.alloc ?_ (by first | simp; done | (simp; omega) | omega) _) | (refine below_setRow ?_ (by first | simp; done | (simp; omega) | omega) _) | (refine Below.setCell ?_ (by first | simp; done | (simp; omega) | omega) _)))⟩
    · have hc := hc.resolve_left c1
      have e1 : H.put kd n i x = (2, H) := by unfold GHeapHeap.put; rw [hn]; simp only; rw [if_neg c1, if_pos hc]
      rw [e1]
      clear e1 hno
      have ck : (kd == 3) = false := by simpa using c1
      by_cases c2 : i < 0
      · clear hc
        go_enter Try.func19, Try.ntmps19
        go_wp2_with (go_at_call 44; go_must (refine (heap_at1 kd n re im (h.below ((((Below.refl _ w).alloc (Nat.le_refl _) _).alloc (by simp) _))) hn).mono ?_; rintro e w1 ⟨hb, pb, off, v, rfl, ho⟩; have N1 := has_belowT (has_alloc (has_new w w.heap.size _ _ rfl) _) hb; have nc1 := has_cell N1; have nf1 := has_free N1; have ns1 := has_lt N1; obtain ⟨o0, o1, o2, o3, o4, va, vc, rfl, o5⟩ := id ho; replace ho := Lib.hid ho; replace o5 := Lib.hid o5))
        go_ret
        exact ⟨rfl, trivial, (by repeat' (first | exact Below.refl _ _ | assumption | (refine thenB ?_ (by assumption)) | (refine belowN ?_ _) | (refine Below.alloc ?_ (by first | simp; done | (simp; omega) | omega) _) | (refine below_setRow ?_ (by first | simp; done | (simp; omega) | omega) _) | (refine Below.setCell ?_ (by first | simp; done | (simp; omega) | omega) _)))⟩
      · have hc := hc.resolve_left c2
        have c2' : decide (i < 0) = false := by simpa using c2
        go_enter Try.func19, Try.ntmps19
        go_wp2_with (go_at_call 44; go_must (refine (heap_at1 kd n re im (h.below ((((Below.refl _ w).alloc (Nat.le_refl _) _).alloc (by simp) _))) hn).mono ?_; rintro e w1 ⟨hb, pb, off, v, rfl, ho⟩; have N1 := has_belowT (has_alloc (has_new w w.heap.size _ _ rfl) _) hb; have nc1 := has_cell N1; have nf1 := has_free N1; have ns1 := has_lt N1; obtain ⟨o0, o1, o2, o3, o4, va, vc, rfl, o5⟩ := id ho; replace ho := Lib.hid ho; replace o5 := Lib.hid o5))
        go_ret
        exact ⟨rfl, trivial, (by repeat' (first | exact Below.refl _ _ | assumption | (refine thenB ?_ (by assumption)) | (refine belowN ?_ _) | (refine Below.alloc ?_ (by first | simp; done | (simp; omega) | omega) _) | (refine below_setRow ?_ (by first | simp; done | (simp; omega) | omega) _) | (refine Below.setCell ?_ (by first | simp; done | (simp; omega) | omega) _)))⟩
theorem at_some {H : GHeapHeap} {k n : Int} {o : GApiObj} (h : H.at_ k n = some o) : ∃ (i : Nat) (hi : i < H.l.length), n = (i : Int) + 1 ∧ H.l[i] = o ∧ o.Kind = k := by
  unfold GHeapHeap.at_ getI at h
  by_cases hn : 0 ≤ n - 1
  · rw [if_pos hn] at h
    cases hg : H.l[(n - 1).toNat]? with
    | none => rw [hg] at h; cases h
    | some o' =>
      rw [hg] at h
      simp only [Option.bind_some] at h
      split at h
      · rename_i hk
        cases h
        obtain ⟨hi, he⟩ := List.getElem?_eq_some_iff.1 hg
        exact ⟨(n - 1).toNat, hi, by omega, he, hk⟩
      · cases h
  · rw [if_neg hn] at h; cases h
theorem vrow_set (l : List GApiValue) (i : Nat) (x : GApiValue) (hi : i < l.length) : ((((vrow l).set (i * 4) (.int .u8 x.Kind)).set (i * 4 + 1) (.int .i64 x.N)).set (i * 4 + 2) (.int .i64 x.Re)).set (i * 4 + 3) (.int .i64 x.Im) = vrow (l.set i x) := by
  induction l generalizing i with
  | nil => simp at hi
  | cons y l ih =>
    cases i with
    | zero => simp [vrow, vcells]
    | succ i =>
      have := ih i (by simpa using hi)
      have h0 : ∀ (t : List Value) (m : Nat) (a : Value), (vcells y ++ t).set (m + 4) a = vcells y ++ t.set m a := fun _ _ _ => rfl
      show ((((vcells y ++ vrow l).set ((i + 1) * 4) (.int .u8 x.Kind)).set ((i + 1) * 4 + 1) (.int .i64 x.N)).set ((i + 1) * 4 + 2) (.int .i64 x.Re)).set ((i + 1) * 4 + 3) (.int .i64 x.Im) = vcells y ++ vrow (l.set i x)
      rw [show (i + 1) * 4 = i * 4 + 4 by omega, show i * 4 + 4 + 1 = (i * 4 + 1) + 4 by omega, show i * 4 + 4 + 2 = (i * 4 + 2) + 4 by omega, show i * 4 + 4 + 3 = (i * 4 + 3) + 4 by omega, h0, h0, h0, h0, this]
theorem ownsRow_set {w : World} {g n c : Nat} {l : List GApiValue} (h : w.ownsRow 0 46 4 (.slice (some ⟨g, 0, none⟩) n c) n (vrow l)) (hl : l.length = n) (i : Nat) (x : GApiValue) (hi : i < n) :
    ((((w.setCell ⟨g, i * 4, none⟩ (.int .u8 x.Kind)).setCell ⟨g, i * 4 + 1, none⟩ (.int .i64 x.N)).setCell ⟨g, i * 4 + 2, none⟩ (.int .i64 x.Re)).setCell ⟨g, i * 4 + 3, none⟩ (.int .i64 x.Im)).ownsRow 0 46 4 (.slice (some ⟨g, 0, none⟩) n c) n (vrow (l.set i x)) := by
  obtain ⟨h1, h2⟩ := h
  refine ⟨by rw [vrow_len, List.length_set, hl], .inr ?_⟩
  rcases h2 with ⟨e1, e2⟩ | ⟨q, cap, cur, e, h3, h4, h5, h6, h7, h8⟩
  · exact absurd (show n = 0 by first | exact e1 | exact e2) (by omega)
  · cases e
    have k := has_set_same (has_set_same (has_set_same (has_set_same h4 (i * 4) (.int .u8 x.Kind)) (i * 4 + 1) (.int .i64 x.N)) (i * 4 + 2) (.int .i64 x.Re)) (i * 4 + 3) (.int .i64 x.Im)
    refine ⟨g, c, _, rfl, h3, k, h5, h6, by simpa using h7, ?_⟩
    have hcs : cur.toList.length = c * 4 := by simpa using h7
    have hn4 : n * 4 ≤ c * 4 := by omega
    rw [← vrow_set l i x (by omega), ← h8]
    simp only [Array.toList_setIfInBounds]
    rw [List.take_set, List.take_set, List.take_set, List.take_set]
end Go.Proofs.Ytblikpgdepjhdaa

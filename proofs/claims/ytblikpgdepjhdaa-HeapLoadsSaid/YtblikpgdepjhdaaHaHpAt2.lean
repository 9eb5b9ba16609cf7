/- Parts of the proof. -/
import Derived.Test.YtblikpgdepjhdaaHaHpAt
namespace Go.Proofs.Ytblikpgdepjhdaa
open Go.RowKit
set_option linter.unusedVariables false
def GHeapHeap.at_ (H : GHeapHeap) (kind n : Int) : Option GApiObj := (getI H.l (n - 1)).bind fun o => if o.Kind = kind then some o else none
set_option maxHeartbeats 8000000 in
set_option maxRecDepth 100000 in
theorem heap_at (H : GHeapHeap) (M own : Nat → Prop) (b : Nat) (pls : List OPl) (ps : List Value) (lv : Value) (x : GApiValue) (w : World) (h : HeapAt H w M own b pls ps lv) :
    Calls Try.prog 44 #[.pointer (some ⟨b, 0, none⟩), .agg #[.int .u8 x.Kind, .int .i64 x.N, .int .i64 x.Re, .int .i64 x.Im]] w fun e w' => Below w.heap.size w w' ∧ ∃ p, e = .returned p ∧
      ((H.at_ x.Kind x.N = none ∧ p = .pointer none) ∨ ∃ i, ∃ (h1 : i < H.l.length) (h2 : i < ps.length), H.at_ x.Kind x.N = some H.l[i] ∧ p = ps[i] ∧ x.N = (i : Int) + 1) := by
  obtain ⟨wf, n1, n2, head, row, objs, nodup, owns⟩ := h
  have X0 := has_alloc head (.cells #[.int .u8 x.Kind, .int .i64 x.N, .int .i64 x.Re, .int .i64 x.Im] 46)
  have hc := has_cell head
  have hf := has_free head
  have hsz := has_lt head
  by_cases c1 : x.N < 1
  · have g1 : getI H.l (x.N - 1) = none := by unfold getI; rw [if_neg (by omega)]
    go_enter Try.func44, Try.ntmps44
    go_wp2_with fail
    go_quiet (fail)
    go_wp2_with fail
    go_ret
    exact ⟨belowN ((Below.refl _ w).alloc (Nat.le_refl _) _) _, _, rfl, .inl ⟨by unfold GHeapHeap.at_; rw [g1]; rfl, rfl⟩⟩
  · rw [n2] at row
    obtain ⟨la, lc, rfl⟩ := owns_slice row
    by_cases c2 : (H.l.length : Int) < x.N
    · have g1 : getI H.l (x.N - 1) = none := by unfold getI; rw [if_pos (by omega), List.getElem?_eq_none (by omega)]
      have c1' : decide (x.N < 1) = false := by simpa using c1
      go_enter Try.func44, Try.ntmps44
      go_wp2_with fail
      go_quiet (fail)
      go_wp2_with fail
      go_ret
      exact ⟨belowN ((Below.refl _ w).alloc (Nat.le_refl _) _) _, _, rfl, .inl ⟨by unfold GHeapHeap.at_; rw [g1]; rfl, rfl⟩⟩
    · obtain ⟨i, hi⟩ : ∃ i : Nat, x.N = (i : Int) + 1 := ⟨(x.N - 1).toNat, by omega⟩
      have hil : i < H.l.length := by omega
      have hip : i < ps.length := by rw [n2]; exact hil
      have hiq : i < pls.length := by rw [n1]; exact hil
      have g1 : getI H.l (x.N - 1) = some H.l[i] := by unfold getI; rw [if_pos (by omega), hi, show ((i : Int) + 1 - 1).toNat = i by omega]; exact List.getElem?_eq_getElem hil
      have hwf : (H.l.length : Int) ≤ 65536 := by omega
      obtain ⟨pb, off, pv, ps_, hpe, hpb, k0, k1, k2, k3, k4, _⟩ := obj_cells (objs i hil hip hiq)
      rw [Nat.add_zero] at k0
      have hla : ∃ rb, la = some ⟨rb, 0, none⟩ ∧ rb < w.heap.size ∧ w.cell? ⟨rb, i, none⟩ = some (.pointer (some ⟨pb, off, none⟩)) := by
        rcases row.2 with ⟨e1, e2⟩ | ⟨g', cap, cur, e, _⟩
        · exact absurd (show H.l.length = 0 by first | exact e1 | exact e2) (by omega)
        · cases e
          refine ⟨g', rfl, owns_lt row rfl, ?_⟩
          have := row.cells (g := g') rfl i (ps[i]) (List.getElem?_eq_getElem hip)
          have hadd : (⟨g', 0, none⟩ : Addr).add i = ⟨g', i, none⟩ := by unfold Addr.add; split <;> simp_all
          rw [hadd, hpe] at this
          exact this
      obtain ⟨rb, rfl, hrb, hrc⟩ := hla
      have ws : IntKind.i64.wrap (i : Int) = i := by rw [IntKind.wrap_i64]; omega
      have hi0 : (0 : Int) ≤ i := by omega
      have c1' : decide ((i : Int) + 1 < 1) = false := by simp; omega
      have c2' : decide ((H.l.length : Int) < (i : Int) + 1) = false := by simp; omega
      have hii : (i : Int) < H.l.length := by omega
      have H1 := Lib.hid n1
      have H2 := Lib.hid n2
      clear n1 n2
      rw [hi]
      by_cases ck : H.l[i].Kind = x.Kind
      · go_enter Try.func44, Try.ntmps44
        go_wp2_with fail
        go_quiet (fail)
        go_wp2_with fail
        go_quiet (fail)
        go_wp2_with fail
        go_ret
        refine ⟨belowN (belowN ((Below.refl _ w).alloc (Nat.le_refl _) _) _) _, _, rfl, .inr ⟨i, hil, hip, by unfold GHeapHeap.at_; rw [← hi, g1]; simp [ck], hpe.symm, rfl⟩⟩
      · have ck' : (H.l[i].Kind == x.Kind) = false := by simpa using ck
        go_enter Try.func44, Try.ntmps44
        go_wp2_with fail
        go_quiet (fail)
        go_wp2_with fail
        go_ret
        exact ⟨belowN ((Below.refl _ w).alloc (Nat.le_refl _) _) _, _, rfl, .inl ⟨by unfold GHeapHeap.at_; rw [← hi, g1]; simp [ck], rfl⟩⟩
end Go.Proofs.Ytblikpgdepjhdaa

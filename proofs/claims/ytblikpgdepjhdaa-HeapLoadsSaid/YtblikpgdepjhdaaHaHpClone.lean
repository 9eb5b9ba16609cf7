/- Parts of the proof. -/
import Derived.Test.YtblikpgdepjhdaaHaHpPut1
namespace Go.Proofs.Ytblikpgdepjhdaa
open Go.RowKit
set_option linter.unusedVariables false
theorem vrow_len (l : List GApiValue) : (vrow l).length = l.length * 4 := by
  induction l with
  | nil => rfl
  | cons x l ih => simp only [vrow, List.flatMap_cons, List.length_append, List.length_cons] at *; rw [ih, Nat.add_mul]; simp [vcells]; omega
theorem vrow_one (l : List GApiValue) : ∀ u ∈ vrow l, u.oneCell' = true := by
  intro u hu
  obtain ⟨x, _, hx⟩ := List.mem_flatMap.1 hu
  simp only [vcells, List.mem_cons, List.not_mem_nil, or_false] at hx
  rcases hx with rfl | rfl | rfl | rfl <;> rfl
theorem valsR_cells {w : World} {v : Value} {l : List GApiValue} (h : ValsR w v l) (hl : l ≠ []) : ∃ g off c, v = .slice (some ⟨g, off, none⟩) l.length c ∧ g < w.heap.size ∧ ∀ j u, (vrow l)[j]? = some u → w.cell? ⟨g, off + j, none⟩ = some u := by
  obtain ⟨a, c, rfl, h⟩ := h
  have h0 : 0 < l.length := by cases l with
    | nil => exact absurd rfl hl
    | cons => simp
  obtain ⟨g, off, rfl, hg, _⟩ := h 0 h0
  refine ⟨g, off, c, rfl, hg, fun j u hj => ?_⟩
  have hlt : j < l.length * 4 := by
    rw [← vrow_len]
    exact (List.getElem?_eq_some_iff.1 hj).1
  have hi : j / 4 < l.length := by omega
  obtain ⟨g', off', e, _, hc⟩ := h (j / 4) hi
  cases e
  have hm : j % 4 < 4 := by omega
  have e1 : j / 4 * 4 + j % 4 = j := by omega
  have := hc (j % 4) hm
  rw [e1] at this
  rw [this, ← flat4 vcells 4 (fun x => rfl) l (j / 4) (j % 4) hi hm, e1]
  exact hj
theorem nilcmp_val (w : World) (a : Option Addr) (n c : Nat) : Sem.run Try.prog (binOp .eql 25 (.slice a n c) (.slice none 0 0)) w = .ok (.bool a.isNone) w := by
  unfold binOp
  simp only [run_equal_slice_nil (P := Try.prog) w 25 46 a n c (by kernel_rfl), Sem.run_bind, Result.andThen_ok, Sem.run_pure]
set_option maxRecDepth 100000 in
theorem valueinfo : ∃ i, Try.prog.info? 46 = some i ∧ i.zero = some (.agg #[.int .u8 0, .int .i64 0, .int .i64 0, .int .i64 0]) ∧ i.size = 4 ∧ i.bytes = 32 := ⟨_, rfl, by kernel_rfl, by kernel_rfl, by kernel_rfl⟩
set_option maxHeartbeats 8000000 in
set_option maxRecDepth 100000 in
theorem clone_vals {w : World} {v : Value} {l : List GApiValue} (h : ValsR w v l) (hl : l.length ≤ 4000000000000) :
    Calls Try.prog 31 #[v] w fun e w' => ∃ v' g, e = .returned v' ∧ Below w.heap.size w w' ∧ valsAt w' v' l g ∧ ∀ k, g = some k → w.heap.size ≤ k := by
  obtain ⟨i0, hi, hz0, hz1, hz2⟩ := valueinfo
  have hq := nilcmp_val w
  by_cases hn : l = []
  · subst hn
    obtain ⟨a, c, rfl, _⟩ := h
    cases a with
    | none =>
      go_enter Try.func31, Try.ntmps31
      go_wp2_with fail
      go_ret
      exact ⟨_, none, rfl, Below.refl _ _, ⟨rfl, none, 0, by simp [maxLen], rfl⟩, fun k hk => by cases hk⟩
    | some a =>
      go_enter Try.func31, Try.ntmps31
      go_wp2_with fail
      go_ret
      exact ⟨_, none, rfl, (by repeat' (first | exact Below.refl _ _ | assumption | (refine thenB ?_ (by assumption)) | (refine belowN ?_ _) | (refine Below.alloc ?_ (by first | simp; done | (simp; omega) | omega) _) | (refine below_setRow ?_ (by first | simp; done | (simp; omega) | omega) _) | (refine Below.setCell ?_ (by first | simp; done | (simp; omega) | omega) _))), ⟨rfl, _, 0, by simp [maxLen], rfl⟩, fun k hk => by cases hk⟩
  · obtain ⟨g, off, c, rfl, hg, hc⟩ := valsR_cells h hn
    replace hc := Lib.hid hc
    have X0 : Hid ((w.alloc (.cells #[] 46)).ownsRow w.heap.size 46 4 (.slice (some ⟨w.heap.size, 0, none⟩) 0 0) 0 []) := Lib.hid ⟨rfl, .inr ⟨w.heap.size, 0, #[], rfl, Nat.le_refl _, row_alloc_new w _ _ rfl, Nat.le_refl _, by simp [maxLen], rfl, rfl⟩⟩
    have C0 : Hid (∀ j u, (vrow l)[j]? = some u → (w.alloc (.cells #[] 46)).cell? ((⟨g, off, none⟩ : Addr).add j) = some u) := Lib.hid fun j u hj => by
      have hadd : (⟨g, off, none⟩ : Addr).add j = ⟨g, off + j, none⟩ := by unfold Addr.add; split <;> simp_all
      rw [hadd]
      exact ((Below.refl _ w).alloc (Nat.le_refl _) (.cells #[] 46)).cell (p := ⟨g, _, none⟩) hg |>.trans (hc.out j u hj)
    go_enter Try.func31, Try.ntmps31
    go_wp2_with (at_builtin; go_must (refine wpList_append_own2 rfl _ _ 25 rfl w.heap.size 46 i0 (.agg #[.int .u8 0, .int .i64 0, .int .i64 0, .int .i64 0]) 4 32 (by kernel_rfl) hi hz0 hz1 hz2 rfl (by decide) _ 0 [] rfl X0.out ⟨g, off, none⟩ l.length c (vrow l) rfl (vrow_len l) C0.out (vrow_one l) (by simp only [maxLen]; omega) (by omega) (by simp) ?_); go_must (intro a' c' w1 ho hgr hp; rw [Nat.zero_add, List.nil_append] at ho; replace ho := Lib.hid ho; replace hgr := Lib.hid hgr; replace hp := Lib.hid hp))
    go_ret
    have ho := ho.out
    have hgr : (w.alloc (.cells #[] 46)).grownBy w1 (some w.heap.size) := hgr.out
    have h0 : 0 < l.length := by cases l with
      | nil => exact absurd rfl hn
      | cons => simp
    have hgg : ∃ q, Value.ownBlock (.slice a' l.length c') = some q ∧ w.heap.size ≤ q := by
      rcases ho.2 with ⟨e1, e2⟩ | ⟨q, cap, cur, e, hq, _⟩
      · exact absurd (show l.length = 0 by first | exact e1 | exact e2) (by omega)
      · cases e; exact ⟨q, rfl, hq⟩
    obtain ⟨q, hq1, hq2⟩ := hgg
    refine ⟨_, some q, rfl, ⟨hgr.os, hgr.tape, hgr.output, Nat.le_trans (by simp) hgr.size, fun k hk => ?_⟩, ⟨⟨ho.1, ho.2.imp id fun ⟨g', cap, cur, e, _, r⟩ => ⟨g', cap, cur, e, Nat.zero_le _, r⟩⟩, hq1⟩, fun k hk => by cases hk; exact hq2⟩
    rw [hgr.block k (by simp; omega) (fun e => by cases e; omega)]
    exact row_alloc_old w _ k hk
end Go.Proofs.Ytblikpgdepjhdaa

/- slices.Clone of a heap's pointers. -/
import Derived.Test.YtblikpgdepjhdaaHpAllIO
namespace Go.Proofs.Ytblikpgdepjhdaa
open Go.RowKit
set_option linter.unusedVariables false

theorem ptrinfo2 : ∃ i, Try.prog.info? 73 = some i ∧ i.zero = some (.pointer none) ∧ i.size = 1 ∧ i.bytes = 8 := ⟨_, rfl, by kernel_rfl, by kernel_rfl, by kernel_rfl⟩
theorem nilcmp_ptr (w : World) (a : Option Addr) (n c : Nat) : Sem.run Try.prog (binOp .eql 70 (.slice a n c) (.slice none 0 0)) w = .ok (.bool a.isNone) w := by
  unfold binOp
  simp only [run_equal_slice_nil (P := Try.prog) w 70 73 a n c (by kernel_rfl), Sem.run_bind, Result.andThen_ok, Sem.run_pure]
set_option maxHeartbeats 8000000 in
set_option maxRecDepth 100000 in
theorem clone_ptrs {w : World} {v : Value} {ps : List Value} (h : w.ownsRow 0 73 1 v ps.length ps) (h1 : ∀ u ∈ ps, u.oneCell' = true) (hl : ps.length ≤ 65536) :
    Calls Try.prog 47 #[v] w fun e w' => ∃ v', e = .returned v' ∧ Below w.heap.size w w' ∧ w'.ownsRow w.heap.size 73 1 v' ps.length ps := by
  obtain ⟨i0, hi, hz0, hz1, hz2⟩ := ptrinfo2
  have hq := nilcmp_ptr w
  rcases h.2 with hx | ⟨g, cap, cur, rfl, h3, h4, h5, h6, h7, h8⟩
  · have e1 : ps.length = 0 := by first | exact hx.1 | exact hx.2
    have e2 : v = .slice none 0 0 := by first | exact hx.1 | exact hx.2
    have e3 : ps = [] := List.eq_nil_of_length_eq_zero e1
    subst e2; subst e3
    clear hx h
    go_enter Try.func47, Try.ntmps47
    go_wp2_with fail
    go_ret
    exact ⟨_, rfl, Below.refl _ _, ⟨rfl, .inl (by first | exact ⟨rfl, rfl⟩ | exact ⟨rfl, trivial⟩)⟩⟩
  · have X0 : Hid ((w.alloc (.cells #[] 73)).ownsRow w.heap.size 73 1 (.slice (some ⟨w.heap.size, 0, none⟩) 0 0) 0 []) := Lib.hid ⟨rfl, .inr ⟨w.heap.size, 0, #[], rfl, Nat.le_refl _, row_alloc_new w _ _ rfl, Nat.le_refl _, by simp [maxLen], rfl, rfl⟩⟩
    have C0 : Hid (∀ j u, ps[j]? = some u → (w.alloc (.cells #[] 73)).cell? ((⟨g, 0, none⟩ : Addr).add j) = some u) := Lib.hid fun j u hj => by
      have := h.cells (g := g) rfl j u hj
      have hadd : (⟨g, 0, none⟩ : Addr).add j = ⟨g, j, none⟩ := by unfold Addr.add; split <;> simp_all
      rw [hadd] at this ⊢
      exact ((Below.refl _ w).alloc (Nat.le_refl _) (.cells #[] 73)).cell (p := ⟨g, _, none⟩) (lt_of_block h4) |>.trans this
    have hl' := Lib.hid hl
    have h1' := Lib.hid h1
    clear h h3 h4 h5 h6 h7 h8 hl h1
    go_enter Try.func47, Try.ntmps47
    by_cases hn : ps.length = 0
    · have e3 : ps = [] := List.eq_nil_of_length_eq_zero hn
      subst e3
      go_wp2_with fail
      go_ret
      exact ⟨_, rfl, (by repeat' (first | exact Below.refl _ _ | assumption | (refine thenB ?_ (by assumption)) | (refine belowN ?_ _) | (refine Below.alloc ?_ (by first | simp; done | (simp; omega) | omega) _) | (refine below_setRow ?_ (by first | simp; done | (simp; omega) | omega) _) | (refine Below.setCell ?_ (by first | simp; done | (simp; omega) | omega) _))), X0.out⟩
    · have hn' : 0 < ps.length := by omega
      go_wp2_with (at_builtin; go_must (refine wpList_append_own2 rfl _ _ 70 rfl w.heap.size 73 i0 (.pointer none) 1 8 (by kernel_rfl) hi hz0 hz1 hz2 rfl (by decide) _ 0 [] rfl X0.out ⟨g, 0, none⟩ ps.length cap ps rfl (by simp) C0.out h1'.out (by have := hl'.out; simp only [maxLen]; omega) (by have := hl'.out; omega) (by simp) ?_); go_must (intro a' c' w1 ho hgr hp; rw [Nat.zero_add, List.nil_append] at ho; replace ho := Lib.hid ho; replace hgr := Lib.hid hgr; replace hp := Lib.hid hp))
      go_ret
      have hgr : (w.alloc (.cells #[] 73)).grownBy w1 (some w.heap.size) := hgr.out
      refine ⟨_, rfl, ⟨hgr.os, hgr.tape, hgr.output, Nat.le_trans (by simp) hgr.size, fun k hk => ?_⟩, ho.out⟩
      rw [hgr.block k (by simp; omega) (fun e => by cases e; omega)]
      exact row_alloc_old w _ k hk
end Go.Proofs.Ytblikpgdepjhdaa

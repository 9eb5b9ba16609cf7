/- Parts of the proof. -/
import Derived.Test.YtblikpgdepjhdaaHbHp
namespace Go.Proofs.Ytblikpgdepjhdaa
open Go.RowKit
set_option linter.unusedVariables false
theorem ValsR.below {w w' : World} {v : Value} {l : List GApiValue} (h : ValsR w v l) (hb : Below w.heap.size w w') : ValsR w' v l := by
  obtain ⟨a, c, hv, hx⟩ := h
  refine ⟨a, c, hv, fun i hi => ?_⟩
  obtain ⟨g, of_, h1, h2, h3⟩ := hx i hi
  exact ⟨g, of_, h1, Nat.lt_of_lt_of_le h2 hb.size, fun j hj => (hb.cell (p := ⟨g, _, none⟩) h2).trans (h3 j hj)⟩
theorem vals_slice {w : World} {v : Value} {l : List GApiValue} {g : Option Nat} (hv : valsAt w v l g) : ∃ a c, v = .slice a l.length c := by
  cases g with
  | none => obtain ⟨h1, a, c, _, h2⟩ := hv; exact ⟨a, c, by rw [h2, h1]; rfl⟩
  | some g => exact owns_slice hv.1
theorem objSizeN (k : Int) (s : List UInt8) (n : Nat) (hk : k ≠ 3) (h : n ≤ 4000000000000) : objSize k s n = n + 1 := by
  unfold objSize
  rw [if_neg hk]
  unfold RowKit.wrap64
  omega
def GHeapHeap.rec_ (H : GHeapHeap) (of_ : Int) (l : List GApiValue) : GApiValue × Bool × GHeapHeap := if of_ < 0 then (⟨0, 0, 0, 0⟩, false, H) else H.addR ⟨6, of_, [], l⟩
set_option maxHeartbeats 8000000 in
set_option maxRecDepth 100000 in
theorem heap_Rec {H : GHeapHeap} {M own : Nat → Prop} {b : Nat} {pls : List OPl} {ps : List Value} {lv : Value} {w : World} (of_ : Int) (l : List GApiValue) (v : Value) (hv : ValsR w v l)
    (h : HeapAt H w M own b pls ps lv) (hlt : ∀ k, M k → k < w.heap.size) (hMb : M b) (hMo : ∀ k, own k → M k) (hs : l.length ≤ 4000000000000) :
    Calls Try.prog 24 #[.pointer (some ⟨b, 0, none⟩), .int .i64 of_, v] w fun e w' =>
      e = .returned (.tuple #[.agg (vcells (H.rec_ of_ l).1).toArray, .bool (H.rec_ of_ l).2.1]) ∧ HeapOut (H.rec_ of_ l).2.2 M own b w w' := by
  replace hlt := Lib.hid hlt
  replace hMb := Lib.hid hMb
  replace hMo := Lib.hid hMo
  replace hv := Lib.hid hv
  by_cases hn : of_ < 0
  · have e1 : H.rec_ of_ l = (⟨0, 0, 0, 0⟩, false, H) := if_pos hn
    rw [e1]
    clear e1
    go_enter Try.func24, Try.ntmps24
    go_wp2_with fail
    refine ret_row_tmp (p := 6) (u := 7) (by rfl) w.heap.size 46 _ (0, 0) _ (by rfl) (has_new w w.heap.size _ _ rfl) Try.underlying46 rfl (by kernel_rfl) (by rfl) (.bool false) (by rfl) ?_
    exact ⟨rfl, HeapOut.refl h (by repeat' (first | exact Below.refl _ _ | assumption | (refine thenB ?_ (by assumption)) | (refine belowN ?_ _) | (refine Below.alloc ?_ (by first | simp; done | (simp; omega) | omega) _) | (refine below_setRow ?_ (by first | simp; done | (simp; omega) | omega) _) | (refine Below.setCell ?_ (by first | simp; done | (simp; omega) | omega) _))) hMo.out⟩
  · have e1 : H.rec_ of_ l = H.addR ⟨6, of_, [], l⟩ := if_neg hn
    rw [e1]
    clear e1
    generalize hr : H.addR ⟨6, of_, [], l⟩ = r
    obtain ⟨⟨rk, rn, rre, rim⟩, rok, rH⟩ := r
    replace hr := Lib.hid hr
    have hz : decide (of_ < 0) = false := by simpa using hn
    have B0 : Hid (Below w.heap.size w (w.alloc (.cells #[.int .u8 0, .int .i64 0, .int .i64 0, .int .i64 0] 46))) := Lib.hid ((Below.refl _ w).alloc (Nat.le_refl _) _)
    go_enter Try.func24, Try.ntmps24
    go_wp2_with (first
      | (go_at_call 31; go_must (refine (clone_vals (hv.out.below B0.out) hs).mono ?_; rintro e w1 ⟨v1, g, rfl, hb1, hv1, hg1⟩; obtain ⟨va, vc, rfl⟩ := vals_slice hv1; replace hv1 := Lib.hid hv1; replace hg1 := Lib.hid hg1))
      | (go_at_call 32; go_must (refine (heap_addR2 (v := .slice va l.length vc) (g := g) hr.out h hlt.out hMb.out hMo.out (thenB B0.out hb1) hv1.out (fun k hk => Nat.le_trans (by simp) (hg1.out k hk)) (by rw [objSizeN _ _ _ (by simp) hs]; omega)).mono ?_; rintro e w2 ⟨rfl, hmid⟩; have N1 := has_mod (has_belowT (has_new w w.heap.size _ _ rfl) hb1) hmid.mod (fun hx => hx.elim (fun e => absurd (hlt.out _ hMb.out) (by omega)) (fun e => absurd (hlt.out _ (hMo.out _ e)) (by omega))); have nc1 := has_cell N1; have nf1 := has_free N1; have ns1 := has_lt N1)))
    have N2 := has_set_same (has_set_same (has_set_same (has_set_same N1 0 (.int .u8 rk)) 1 (.int .i64 rn)) 2 (.int .i64 rre)) 3 (.int .i64 rim)
    refine ret_row_tmp (p := 6) (u := 7) (by rfl) w.heap.size 46 _ (0, 0) _ (by rfl) N2 Try.underlying46 rfl (by kernel_rfl) (by rfl) (.bool rok) (by rfl) ?_
    have hg1' := hg1.out
    have hs1 := hb1.size
    simp only [World.size_alloc] at hg1' hs1
    exact ⟨rfl, hmid.out (X := fun k => k = w.heap.size) (thenB B0.out hb1) hlt.out hMb.out hMo.out (fun k hk => ⟨by have := hg1' k hk; omega, by subst hk; exact owns_lt hv1.out.1 hv1.out.2⟩) (mod_set4 _ _ _ _ _ _) fun k hk => ⟨by omega, by omega, fun e => by have := hg1' k e; omega⟩⟩
end Go.Proofs.Ytblikpgdepjhdaa

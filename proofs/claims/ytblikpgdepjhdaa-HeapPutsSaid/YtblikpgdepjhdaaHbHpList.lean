/- Parts of the proof. -/
import Derived.Test.YtblikpgdepjhdaaHbHpRep2
namespace Go.Proofs.Ytblikpgdepjhdaa
open Go.RowKit
set_option linter.unusedVariables false
def GHeapHeap.list_ (H : GHeapHeap) (of_ n : Int) (x : GApiValue) : GApiValue × Bool × GHeapHeap := if of_ < 0 ∨ n < 0 ∨ H.room - H.cells ≤ n then (⟨0, 0, 0, 0⟩, false, H) else H.addR ⟨7, of_, [], List.replicate n.toNat x⟩
set_option maxHeartbeats 8000000 in
set_option maxRecDepth 100000 in
theorem heap_List {H : GHeapHeap} {M own : Nat → Prop} {b : Nat} {pls : List OPl} {ps : List Value} {lv : Value} {w : World} (of_ n : Int) (x : GApiValue)
    (h : HeapAt H w M own b pls ps lv) (hlt : ∀ k, M k → k < w.heap.size) (hMb : M b) (hMo : ∀ k, own k → M k) :
    Calls Try.prog 23 #[.pointer (some ⟨b, 0, none⟩), .int .i64 of_, .int .i64 n, .agg #[.int .u8 x.Kind, .int .i64 x.N, .int .i64 x.Re, .int .i64 x.Im]] w fun e w' =>
      e = .returned (.tuple #[.agg (vcells (H.list_ of_ n x).1).toArray, .bool (H.list_ of_ n x).2.1]) ∧ HeapOut (H.list_ of_ n x).2.2 M own b w w' := by
  replace hlt := Lib.hid hlt
  replace hMb := Lib.hid hMb
  replace hMo := Lib.hid hMo
  have wf1 := h.wf.1
  have wf2 := h.wf.2.1
  have wf3 := h.wf.2.2
  have ws : IntKind.i64.wrap (H.room - H.cells) = H.room - H.cells := by rw [IntKind.wrap_i64]; omega
  have hc := has_cell (has_alloc (has_alloc h.head (.cells #[.int .u8 x.Kind, .int .i64 x.N, .int .i64 x.Re, .int .i64 x.Im] 46)) (.cells #[.int .u8 0, .int .i64 0, .int .i64 0, .int .i64 0] 46))
  have hbad : ∀ c : of_ < 0 ∨ n < 0 ∨ H.room - H.cells ≤ n, H.list_ of_ n x = (⟨0, 0, 0, 0⟩, false, H) := fun c => if_pos c
  replace hbad := Lib.hid hbad
  have hz0 := has_lt h.head
  by_cases c1 : of_ < 0
  · rw [hbad.out (.inl c1)]
    go_enter Try.func23, Try.ntmps23; go_wp2_with fail; go_quiet (fail); go_wp2_with fail
    have N2 : Has (((w.alloc (.cells #[.int .u8 x.Kind, .int .i64 x.N, .int .i64 x.Re, .int .i64 x.Im] 46)).alloc (.cells #[.int .u8 0, .int .i64 0, .int .i64 0, .int .i64 0] 46)).drewN nq) (w.heap.size + 1) #[.int .u8 0, .int .i64 0, .int .i64 0, .int .i64 0] 46 := has_drewN (has_new (w.alloc _) (w.heap.size + 1) _ _ (by simp)) nq; refine ret_row_tmp (p := 8) (u := 9) (by rfl) (w.heap.size + 1) 46 _ (0, 0) _ (by rfl) N2 Try.underlying46 rfl (by kernel_rfl) (by rfl) (.bool false) (by rfl) ?_
    exact ⟨rfl, HeapOut.refl h (by repeat' (first | exact Below.refl _ _ | assumption | (refine thenB ?_ (by assumption)) | (refine belowN ?_ _) | (refine Below.alloc ?_ (by first | simp; done | (simp; omega) | omega) _) | (refine below_setRow ?_ (by first | simp; done | (simp; omega) | omega) _) | (refine Below.setCell ?_ (by first | simp; done | (simp; omega) | omega) _))) hMo.out⟩
  · by_cases c2 : n < 0
    · rw [hbad.out (.inr (.inl c2))]
      have h1 : decide (of_ < 0) = false := by simpa using c1
      clear wf1 wf2 wf3
      go_enter Try.func23, Try.ntmps23; go_wp2_with fail; go_quiet (fail); go_wp2_with fail
      have N2 : Has (((w.alloc (.cells #[.int .u8 x.Kind, .int .i64 x.N, .int .i64 x.Re, .int .i64 x.Im] 46)).alloc (.cells #[.int .u8 0, .int .i64 0, .int .i64 0, .int .i64 0] 46)).drewN nq) (w.heap.size + 1) #[.int .u8 0, .int .i64 0, .int .i64 0, .int .i64 0] 46 := has_drewN (has_new (w.alloc _) (w.heap.size + 1) _ _ (by simp)) nq; refine ret_row_tmp (p := 8) (u := 9) (by rfl) (w.heap.size + 1) 46 _ (0, 0) _ (by rfl) N2 Try.underlying46 rfl (by kernel_rfl) (by rfl) (.bool false) (by rfl) ?_
      exact ⟨rfl, HeapOut.refl h (by repeat' (first | exact Below.refl _ _ | assumption | (refine thenB ?_ (by assumption)) | (refine belowN ?_ _) | (refine Below.alloc ?_ (by first | simp; done | (simp; omega) | omega) _) | (refine below_setRow ?_ (by first | simp; done | (simp; omega) | omega) _) | (refine Below.setCell ?_ (by first | simp; done | (simp; omega) | omega) _))) hMo.out⟩
    · by_cases c3 : H.room - H.cells ≤ n
      · rw [hbad.out (.inr (.inr c3))]
        have h1 : decide (of_ < 0) = false := by simpa using c1
        have h2 : decide (n < 0) = false := by simpa using c2
        clear wf1 wf2 wf3
        go_enter Try.func23, Try.ntmps23; go_wp2_with fail; go_quiet (fail); go_wp2_with fail
        have N2 : Has (((w.alloc (.cells #[.int .u8 x.Kind, .int .i64 x.N, .int .i64 x.Re, .int .i64 x.Im] 46)).alloc (.cells #[.int .u8 0, .int .i64 0, .int .i64 0, .int .i64 0] 46)).drewN nq) (w.heap.size + 1) #[.int .u8 0, .int .i64 0, .int .i64 0, .int .i64 0] 46 := has_drewN (has_new (w.alloc _) (w.heap.size + 1) _ _ (by simp)) nq; refine ret_row_tmp (p := 8) (u := 9) (by rfl) (w.heap.size + 1) 46 _ (0, 0) _ (by rfl) N2 Try.underlying46 rfl (by kernel_rfl) (by rfl) (.bool false) (by rfl) ?_
        exact ⟨rfl, HeapOut.refl h (by repeat' (first | exact Below.refl _ _ | assumption | (refine thenB ?_ (by assumption)) | (refine belowN ?_ _) | (refine Below.alloc ?_ (by first | simp; done | (simp; omega) | omega) _) | (refine below_setRow ?_ (by first | simp; done | (simp; omega) | omega) _) | (refine Below.setCell ?_ (by first | simp; done | (simp; omega) | omega) _))) hMo.out⟩
      · clear hbad
        obtain ⟨m, rfl⟩ : ∃ m : Nat, n = m := ⟨n.toNat, by omega⟩
        have hm : Hid (m ≤ 65536) := Lib.hid (by omega)
        have e1 : H.list_ of_ m x = H.addR ⟨7, of_, [], List.replicate m x⟩ := by unfold GHeapHeap.list_; rw [if_neg (by omega), Int.toNat_natCast]
        rw [e1]
        clear e1
        generalize hr : H.addR ⟨7, of_, [], List.replicate m x⟩ = r
        obtain ⟨⟨rk, rn, rre, rim⟩, rok, rH⟩ := r
        replace hr := Lib.hid hr
        have h1 : decide (of_ < 0) = false := by simpa using c1
        have h2 : decide ((m : Int) < 0) = false := by simp
        have h3 : decide (H.room - H.cells ≤ (m : Int)) = false := by simpa using c3
        have hsz : Hid (1 ≤ objSize 7 [] (List.replicate m x).length) := Lib.hid (by rw [objSizeN _ _ _ (by simp) (by have := hm.out; simp; omega)]; omega)
        go_enter Try.func23, Try.ntmps23
        go_wp2_with fail
        go_quiet (fail)
        clear hc
        have B0 : Hid (Below w.heap.size w (((w.alloc (.cells #[.int .u8 x.Kind, .int .i64 x.N, .int .i64 x.Re, .int .i64 x.Im] 46)).alloc (.cells #[.int .u8 0, .int .i64 0, .int .i64 0, .int .i64 0] 46)).drewN nq)) := Lib.hid (by repeat' (first | exact Below.refl _ _ | assumption | (refine thenB ?_ (by assumption)) | (refine belowN ?_ _) | (refine Below.alloc ?_ (by first | simp; done | (simp; omega) | omega) _) | (refine below_setRow ?_ (by first | simp; done | (simp; omega) | omega) _) | (refine Below.setCell ?_ (by first | simp; done | (simp; omega) | omega) _)))
        have N0 : Hid (Has (((w.alloc (.cells #[.int .u8 x.Kind, .int .i64 x.N, .int .i64 x.Re, .int .i64 x.Im] 46)).alloc (.cells #[.int .u8 0, .int .i64 0, .int .i64 0, .int .i64 0] 46)).drewN nq) (w.heap.size + 1) #[.int .u8 0, .int .i64 0, .int .i64 0, .int .i64 0] 46) := has_drewN (has_new (w.alloc _) (w.heap.size + 1) _ _ (by simp)) nq
        have X0 := has_drewN (has_alloc (has_new w w.heap.size #[.int .u8 x.Kind, .int .i64 x.N, .int .i64 x.Re, .int .i64 x.Im] 46 rfl) (.cells #[.int .u8 0, .int .i64 0, .int .i64 0, .int .i64 0] 46)) nq
        have S0 : Hid ((((w.alloc (.cells #[.int .u8 x.Kind, .int .i64 x.N, .int .i64 x.Re, .int .i64 x.Im] 46)).alloc (.cells #[.int .u8 0, .int .i64 0, .int .i64 0, .int .i64 0] 46)).drewN nq).heap.size = w.heap.size + 2) := Lib.hid (by simp [World.drewN])
        generalize World.drewN _ _ = w0 at B0 N0 X0 S0 ⊢
        have xc := has_cell X0
        have xl := has_lt X0
        go_wp2_with (first
          | (go_at_call 45; go_must (refine (repeat_vals x w0.heap.size m (has_new w0 _ _ _ rfl) hm.out).mono ?_; rintro e w1 ⟨v1, g, rfl, hb1, hv1, hg1⟩; obtain ⟨va, vc, rfl⟩ := vals_slice hv1; rw [List.length_replicate] at hv1; rw [List.length_replicate]; replace hv1 := Lib.hid hv1; replace hg1 := Lib.hid hg1))
          | (go_at_call 32; go_must (refine (heap_addR2 (v := .slice va m vc) (g := g) hr.out h hlt.out hMb.out hMo.out (thenB (B0.out.alloc B0.out.size _) hb1) hv1.out (fun k hk => Nat.le_trans (by have := B0.out.size; simp; omega) (hg1.out k hk)) hsz.out).mono ?_; rintro e w2 ⟨rfl, hmid⟩; have N1 := has_mod (has_belowT (has_alloc N0.out _) hb1) hmid.mod (fun hx => hx.elim (fun e => absurd (hlt.out _ hMb.out) (by omega)) (fun e => absurd (hlt.out _ (hMo.out _ e)) (by omega))); have nc1 := has_cell N1; have nf1 := has_free N1; have ns1 := has_lt N1)))
        have N2 := has_set_same (has_set_same (has_set_same (has_set_same N1 0 (.int .u8 rk)) 1 (.int .i64 rn)) 2 (.int .i64 rre)) 3 (.int .i64 rim)
        refine ret_row_tmp (p := 8) (u := 9) (by rfl) (w.heap.size + 1) 46 _ (0, 0) _ (by rfl) N2 Try.underlying46 rfl (by kernel_rfl) (by rfl) (.bool rok) (by rfl) ?_
        have hg1' := hg1.out
        have hs1 := hb1.size
        have S0' := S0.out
        simp only [World.size_alloc] at hg1' hs1
        exact ⟨rfl, hmid.out (X := fun k => k = w.heap.size + 1) (thenB (B0.out.alloc B0.out.size _) hb1) hlt.out hMb.out hMo.out (fun k hk => ⟨by have := hg1' k hk; omega, by subst hk; exact owns_lt hv1.out.1 hv1.out.2⟩) (mod_set4 _ _ _ _ _ _) fun k hk => ⟨by omega, by omega, fun e => by have := hg1' k e; omega⟩⟩
end Go.Proofs.Ytblikpgdepjhdaa

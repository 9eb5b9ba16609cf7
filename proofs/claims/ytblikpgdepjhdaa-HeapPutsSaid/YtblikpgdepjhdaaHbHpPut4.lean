/- Parts of the proof. -/
import Derived.Test.YtblikpgdepjhdaaHbHpPut3
namespace Go.Proofs.Ytblikpgdepjhdaa
open Go.RowKit
set_option linter.unusedVariables false
theorem heap_at2 {H : GHeapHeap} {M own : Nat → Prop} {b : Nat} {pls : List OPl} {ps : List Value} {lv : Value} {w : World} (kd n re im : Int) (h : HeapAt H w M own b pls ps lv) {o : GApiObj} (hn : H.at_ kd n = some o) {i : Nat} (h2 : i < ps.length) (hi : n = (i : Int) + 1) :
    Calls Try.prog 44 #[.pointer (some ⟨b, 0, none⟩), .agg #[.int .u8 kd, .int .i64 n, .int .i64 re, .int .i64 im]] w fun e w' => Below w.heap.size w w' ∧ e = .returned ps[i] := by
  refine (heap_at H M own b pls ps lv ⟨kd, n, re, im⟩ w h).mono ?_
  rintro e w' ⟨hb, p, rfl, ⟨h1, rfl⟩ | ⟨i', h1, h2', h3, rfl, h4⟩⟩
  · rw [show H.at_ _ _ = some o from hn] at h1; cases h1
  · have e : i' = i := by
      have : n = (i' : Int) + 1 := h4
      omega
    subst e
    exact ⟨hb, rfl⟩
theorem own_cells {w : World} {q vc m j : Nat} {l : List GApiValue} (hv : w.ownsRow 0 46 4 (.slice (some ⟨q, 0, none⟩) m vc) m (vrow l)) (hl : l.length = m) (hj : j < m) :
    q < w.heap.size ∧ (∀ k, w.frozen? ⟨q, k, none⟩ = false) ∧ w.cell? ⟨q, j * 4, none⟩ = some (.int .u8 l[j].Kind) ∧ w.cell? ⟨q, j * 4 + 1, none⟩ = some (.int .i64 l[j].N) ∧ w.cell? ⟨q, j * 4 + 2, none⟩ = some (.int .i64 l[j].Re) ∧ w.cell? ⟨q, j * 4 + 3, none⟩ = some (.int .i64 l[j].Im) := by
  have hf : ∀ k, w.frozen? ⟨q, k, none⟩ = false := by
    rcases hv.2 with ⟨e1, e2⟩ | ⟨g, cap, cur, e, h3, h4, h5⟩
    · exact absurd (show m = 0 by first | exact e1 | exact e2) (by omega)
    · cases e; exact has_free h4
  have hc : ∀ r, r < 4 → w.cell? ⟨q, j * 4 + r, none⟩ = (vcells l[j])[r]? := fun r hr => by
    have e := flat4 vcells 4 (fun x => rfl) l j r (by omega) hr
    have hlt : r < (vcells l[j]).length := hr
    have := hv.cells (g := q) rfl (j * 4 + r) ((vcells l[j])[r]) (by unfold vrow; rw [e]; exact List.getElem?_eq_getElem hlt)
    have hadd : (⟨q, 0, none⟩ : Addr).add (j * 4 + r) = ⟨q, j * 4 + r, none⟩ := by unfold Addr.add; split <;> simp_all
    rw [hadd] at this
    rw [this]; exact (List.getElem?_eq_getElem hlt).symm
  exact ⟨owns_lt hv rfl, hf, hc 0 (by omega), hc 1 (by omega), hc 2 (by omega), hc 3 (by omega)⟩
set_option maxHeartbeats 8000000 in
set_option maxRecDepth 100000 in
theorem heap_PutOwn {H : GHeapHeap} {M own : Nat → Prop} {b : Nat} {pls : List OPl} {ps : List Value} {lv : Value} {w : World} (kd n re im : Int) (j : Nat) (x : GApiValue) (h : HeapAt H w M own b pls ps lv) (hMo : ∀ k, own k → M k) {i q pb vc : Nat} {o : GApiObj} (hn : H.at_ kd n = some o) (hi : n = (i : Int) + 1)
    (h1 : i < H.l.length) (h2 : i < ps.length) (h3 : i < pls.length) (ho : H.l[i] = o) (hp : ps[i] = .pointer (some ⟨pb, 0, none⟩)) (hq : pls[i] = .own pb (some q)) (hj : j < o.Vals.length) (c1 : kd ≠ 3)
    (hb : Has w pb (objCells o (.slice (some ⟨q, 0, none⟩) o.Vals.length vc)) 75) (hv : w.ownsRow 0 46 4 (.slice (some ⟨q, 0, none⟩) o.Vals.length vc) o.Vals.length (vrow o.Vals)) :
    Calls Try.prog 19 #[.pointer (some ⟨b, 0, none⟩), .agg #[.int .u8 kd, .int .i64 n, .int .i64 re, .int .i64 im], .int .i64 j, .agg #[.int .u8 x.Kind, .int .i64 x.N, .int .i64 x.Re, .int .i64 x.Im]] w fun e w' =>
      e = .returned (.int .u8 0) ∧ HeapOut ⟨H.room, H.cells, H.l.set i { o with Vals := o.Vals.set j x }⟩ M own b w w' := by
  have ck : (kd == 3) = false := by simpa using c1
  have hji : (j : Int) < o.Vals.length := by omega
  have hj0 : (0 : Int) ≤ j := by omega
  have hjd : decide ((j : Int) < 0) = false := by simp
  have hji' : decide ((o.Vals.length : Int) ≤ j) = false := by simp; omega
  have HP := Lib.hid hp
  have HB0 := Lib.hid hb
  have HV0 := Lib.hid hv
  have HN := Lib.hid hn
  have HI := Lib.hid hi
  have HO := Lib.hid ho
  have HQ := Lib.hid hq
  have HMo := Lib.hid hMo
  have HC1 := Lib.hid c1
  clear hp hb hv hn hi ho hq hMo c1
  go_enter Try.func19, Try.ntmps19
  go_wp2_with (go_at_call 44; go_must (refine (heap_at2 kd n re im (h.below ((((Below.refl _ w).alloc (Nat.le_refl _) _).alloc (by simp) _))) HN.out h2 HI.out).mono ?_; rw [HP.out]; rintro e w1 ⟨hb, rfl⟩; have N1 := has_belowT (has_alloc (has_new w w.heap.size _ _ rfl) _) hb; have nc1 := has_cell N1; have nf1 := has_free N1; have ns1 := has_lt N1; have Y1 := has_belowT (has_new (w.alloc _) (w.heap.size + 1) _ _ (by simp)) hb; have yc1 := has_cell Y1; have yf1 := has_free Y1; have ys1 := has_lt Y1; have O1 := has_belowT (has_alloc (has_alloc HB0.out _) _) hb; have oc1 := has_cell O1; have of1 := has_free O1; have os1 := has_lt O1; have V1 := ownsRow_eq HV0.out (w' := w1) (fun g hg => by have hl := owns_lt HV0.out hg; exact (hb.block g (by simp; omega)).trans ((row_alloc_old _ _ _ (by simp; omega)).trans (row_alloc_old _ _ _ hl))); obtain ⟨v0, v1, v2, v3, v4, v5⟩ := own_cells V1 rfl hj; replace V1 := Lib.hid V1; replace O1 := Lib.hid O1; unfold objCells at oc1))
  go_region
  all_goals
    go_wp2_with fail
    go_ret
    refine ⟨rfl, ?_⟩
    have B1 : Below w.heap.size w w1 := thenB (((Below.refl _ w).alloc (Nat.le_refl _) _).alloc (by simp) _) hb
    have A1 := put_own (h.below (belowN B1 1)) HMo.out x h1 h2 h3 HO.out HP.out HQ.out hj (has_drewN O1.out 1) V1.out
    refine ⟨own, ⟨pls, ps, lv, A1.ext (Ext.refl _ _) (fun k _ hm => hm.elim id (HMo.out k)) rfl fun _ _ => rfl⟩, ?_, fun k hk => .inl hk⟩
    have hqo := (h.bs_own h3 (k := q) (by rw [HQ.out]; simp [OPl.bs])).1
    exact (((Mod.of_below (belowN B1 1)).mono (T := fun k => k = b ∨ own k) fun k hk hs => absurd hk (by omega)).step (set4_mod _ q j x) fun k _ hk => .inr (by rw [hk]; exact hqo))
end Go.Proofs.Ytblikpgdepjhdaa

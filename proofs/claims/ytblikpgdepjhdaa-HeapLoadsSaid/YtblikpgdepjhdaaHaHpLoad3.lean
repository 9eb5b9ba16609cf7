/- Parts of the proof. -/
import Derived.Test.YtblikpgdepjhdaaHaHpLoad2
namespace Go.Proofs.Ytblikpgdepjhdaa
open Go.RowKit
set_option maxRecDepth 100000
set_option linter.unusedVariables false
set_option maxHeartbeats 4000000
theorem loads_append (H : GHeapHeap) : ∀ a b : List GApiObj, H.loads (a ++ b) = (H.loads a).bind fun H' => H'.loads b
  | [], b => rfl
  | o :: a, b => by
    simp only [List.cons_append, GHeapHeap.loads]
    split
    · rfl
    · rw [loads_append (H.plus o) a b]
theorem HeapOut.newAt {H' : GHeapHeap} {w0 wr w' : World} {own : Nat → Prop} {b : Nat} (hB : Below w0.heap.size w0 wr) (hb : w0.heap.size ≤ b) (ho : ∀ k, own k → w0.heap.size ≤ k ∧ k < wr.heap.size) (h : HeapOut H' (fun k => k < w0.heap.size ∨ k = b ∨ own k) own b wr w') : NewAt H' w0 w' b := by
  obtain ⟨own', ⟨pls, ps, lv, hat⟩, hm, ho'⟩ := h
  have hs := hm.size
  have hs2 := hB.size
  refine ⟨hB.trans (hm.below _ (fun k hk hx => ?_) hB.size), hb, own', pls, ps, lv, hat.ext (Ext.refl _ _) (fun k _ hk => hk.elim (fun e => .inl (.inl e)) fun hk => hk.elim (fun e => .inl (.inr (.inl e))) .inr) rfl fun _ _ => rfl, fun k hk => ?_⟩
  · rcases hx with rfl | hx
    · omega
    · have := ho k hx; omega
  · rcases ho' k hk with h | h
    · have := ho k h; omega
    · omega
theorem mid_new {H' : GHeapHeap} {w0 wr w1 w3 : World} {own : Nat → Prop} {b : Nat} {g1 : Option Nat} {cs : Array Value} {t : TypeId} {x : Value} {l : List GApiValue} {u : Value} (hB : Below w0.heap.size w0 wr) (hb : w0.heap.size ≤ b) (ho : ∀ k, own k → w0.heap.size ≤ k ∧ k < wr.heap.size) (hM1 : ∀ q, (q < w0.heap.size ∨ q = b ∨ own q) → q < wr.heap.size)
    (hb1 : Below (wr.alloc (.cells cs t)).heap.size (wr.alloc (.cells cs t)) w1) (hv1 : valsAt w1 u l g1) (hg1 : ∀ k, g1 = some k → (wr.alloc (.cells cs t)).heap.size ≤ k) (hmid : HeapMid H' (fun q => q < w0.heap.size ∨ q = b ∨ own q) own b wr (w1.setCell ⟨wr.heap.size, 3, none⟩ x) w3 g1) (ob : Obj) : NewAt H' w0 (w3.alloc ob) b := by
  have hs1 := hb1.size
  simp only [World.size_alloc] at hs1 hg1
  have hg1' : ∀ q, g1 = some q → wr.heap.size ≤ q ∧ q < (w1.setCell ⟨wr.heap.size, 3, none⟩ x).heap.size := fun q hq => by
    have := hg1 q hq
    subst hq
    rw [World.size_setCell]
    exact ⟨by omega, owns_lt hv1.1 hv1.2⟩
  exact HeapOut.newAt hB hb ho (hmid.out (X := fun _ => False) ((thenB ((Below.refl _ wr).alloc (Nat.le_refl _) _) hb1).setCell (Nat.le_refl _) _) hM1 (.inr (.inl rfl)) (fun q h => .inr (.inr h)) hg1' ((Mod.refl _ w3).alloc ob) (fun _ h => h.elim))
set_option maxHeartbeats 8000000 in
set_option maxRecDepth 100000 in
theorem heap_LoadOk (c : Int) (l : List GApiObj) (v : Value) (w : World) (h0 : 0 ≤ c) (h1 : c ≤ 65536) (hok : loadOk l) (X : Nat → Prop) (hX : ∀ b, X b → b < w.heap.size) (hv : RepT w X (.sl 4 (l.map c_GApiObj)) v) (hm : (l.any fun o => !mayB o) = false) :
    Calls Try.prog 11 #[.int .i64 c, v] w fun e w' => ((GHeapHeap.new c).loads l = none ∧ e = .returned (.tuple #[.pointer none, .int .i64 21]) ∧ Below w.heap.size w w') ∨ ∃ H, (GHeapHeap.new c).loads l = some H ∧ e = .returned (.tuple #[.pointer (some ⟨w.heap.size, 0, none⟩), .int .i64 0]) ∧ NewAt H w w' w.heap.size := by
  have HX := Lib.hid hX
  have HV := Lib.hid hv
  have HM := Lib.hid hm
  have HK := Lib.hid hok
  have HO := Lib.hid (objsV_t hv)
  have hl := hok.1
  obtain ⟨va, vc, rfl, hov⟩ := objsV_t hv
  replace hov := Lib.hid hov
  replace hl := Lib.hid hl
  have HC0 := Lib.hid h0
  have HC1 := Lib.hid h1
  clear hX hv hm hok h0 h1
  go_enter Try.func11, Try.ntmps11
  go_wp2_with (first
    | (go_at_call 16; go_must (refine (heap_NewOk c _ HC0.out HC1.out).mono ?_; rintro e w1 ⟨rfl, rfl⟩))
    | (go_at_call 28; go_must (refine (contains_raw l hl.out _ _ X (fun b hb => by have := HX.out b hb; simp; omega) (HV.out.ext ⟨by simp, fun k hk _ => row_alloc_old _ _ _ hk⟩ (fun _ _ h => h))).mono ?_; rw [HM.out]; rintro e w2 ⟨rfl, hb2⟩)))
  have hst : Hid (NewAt (GHeapHeap.new c) w w2 w.heap.size) := Lib.hid ⟨(by repeat' (first | exact Below.refl _ _ | assumption | (refine thenB ?_ (by assumption)) | (refine belowN ?_ _) | (refine Below.alloc ?_ (by first | simp; done | (simp; omega) | omega) _) | (refine below_setRow ?_ (by first | simp; done | (simp; omega) | omega) _) | (refine Below.setCell ?_ (by first | simp; done | (simp; omega) | omega) _))), Nat.le_refl _, fun _ => False, [], [], _, heapAt_new ⟨HC0.out, HC1.out⟩ (has_belowT (has_new w _ _ _ rfl) hb2), fun k hk => hk.elim⟩
  replace hb2 := Lib.hid hb2
  go_loopw [25] (fun q wr => ∃ (k : Nat) (H : GHeapHeap), q = .int .i64 k ∧ k ≤ l.length ∧ (GHeapHeap.new c).loads (l.take k) = some H ∧ NewAt H w wr w.heap.size) (fun q _ => l.length - (intOf q).toNat)
  case atStart => exact ⟨0, GHeapHeap.new c, rfl, Nat.zero_le _, rfl, hst.out⟩
  case round =>
    obtain ⟨k, H, rfl, hk, hld, hN⟩ := hrel
    by_cases hkn : k = l.length
    · have ht : ¬ (k : Int) < l.length := by omega
      have HN := Lib.hid hN
      have HL := Lib.hid hld
      clear hN hld
      go_wp2_with fail
      go_ret2
      rw [hkn, List.take_of_length_le (Nat.le_refl _)] at HL
      exact .inr ⟨H, HL.out, rfl, HN.out⟩
    · have hlt : k < l.length := by omega
      have ht : (k : Int) < l.length := by omega
      have hk0 : (0 : Int) ≤ k := by omega
      obtain ⟨hB, hbb, own, pls, ps, lv, hat, hown⟩ := hN
      obtain ⟨_, _, e9, hob⟩ := HO.out.below hB
      cases e9
      obtain ⟨g, off, vv, rfl, o0, o1, o2, o3, o4, o5⟩ := hob k hlt
      obtain ⟨ova, ovc, rfl, _⟩ := id o5
      have hlo := HK.out.2 l[k] (List.getElem_mem hlt)
      have htk : l.take (k + 1) = l.take k ++ [l[k]] := (List.take_append_getElem hlt).symm
      have hnext := loads_snoc (GHeapHeap.new c) l[k] (l.take k)
      rw [← htk, hld, Option.bind_some] at hnext
      have hin : l[k] ∈ l := List.getElem_mem hlt
      generalize hok : l[k] = o at *
      have hsz := objSize_pos hlo
      have hbl := has_lt hat.head
      have hM1 : ∀ q, (q < w.heap.size ∨ q = w.heap.size ∨ own q) → q < wr.heap.size := fun q hq => hq.elim (fun e => by have := hB.size; omega) fun hq => hq.elim (fun e => by omega) fun h => (hown q h).2
      have hlk : Hid (k ≤ 1000000000) := Lib.hid (by have := hl.out; omega)
      replace o5 := Lib.hid o5
      replace hM1 := Lib.hid hM1
      replace hown := Lib.hid hown
      replace hlo := Lib.hid hlo
      replace hsz := Lib.hid hsz
      replace hok := Lib.hid hok
      replace htk := Lib.hid htk
      replace hin := Lib.hid hin
      replace hob := Lib.hid hob
      replace hB := Lib.hid hB
      replace hld := Lib.hid hld
      by_cases hc : H.room - H.cells < objSize o.Kind o.Text o.Vals.length
      · rw [if_pos hc] at hnext
        have hr : Hid (H.addR o = (⟨0, 0, 0, 0⟩, false, H)) := Lib.hid (if_pos hc)
        replace hnext := Lib.hid hnext
        replace hc := Lib.hid hc
        go_wp2_with (first | (go_at_call 31; go_must (refine (clone_vals (l := o.Vals) (o5.out.below ((Below.refl _ wr).alloc (Nat.le_refl _) _)) hlo.out.1).mono ?_; rintro e w1 ⟨v1, g1, rfl, hb1, hv1, hg1⟩; obtain ⟨ua, uc, rfl⟩ := vals_slice hv1; have L1 := has_belowT (has_new wr wr.heap.size _ _ rfl) hb1; have lc1 := has_cell L1; have lf1 := has_free L1; have ll1 := has_lt L1; replace hv1 := Lib.hid hv1; replace hg1 := Lib.hid hg1; replace L1 := Lib.hid L1)) | (go_at_call 32; go_must (refine (heap_addR2 (M := fun q => q < w.heap.size ∨ q = w.heap.size ∨ own q) (v := .slice ua o.Vals.length uc) (g := g1) hr.out hat hM1.out (.inr (.inl rfl)) (fun q h => .inr (.inr h)) ((thenB ((Below.refl _ wr).alloc (Nat.le_refl _) _) hb1).setCell (Nat.le_refl _) _) (valsAt_eq hv1.out fun q hq => Below.heap_setCell _ _ _ _ (by have := hg1.out q hq; simp at this; show q ≠ wr.heap.size; omega)) (fun q hq => by have := hg1.out q hq; simp at this; omega) hsz.out).mono ?_; rintro e w3 ⟨rfl, hmid⟩)))
        go_ret2
        refine .inl ⟨?_, rfl, ?_⟩
        · rw [← List.take_append_drop (k + 1) l, loads_append, hnext.out]; rfl
        · exact (mid_new hB.out (Nat.le_refl _) hown.out hM1.out hb1 hv1.out hg1.out hmid _).1
      · rw [if_neg hc] at hnext
        have hr : Hid (H.addR o = (⟨o.Kind, ((H.l.length + 1 : Nat) : Int), 0, 0⟩, true, H.plus o)) := Lib.hid (if_neg hc)
        replace hnext := Lib.hid hnext
        replace hc := Lib.hid hc
        go_wp2_with (first | (go_at_call 31; go_must (refine (clone_vals (l := o.Vals) (o5.out.below ((Below.refl _ wr).alloc (Nat.le_refl _) _)) hlo.out.1).mono ?_; rintro e w1 ⟨v1, g1, rfl, hb1, hv1, hg1⟩; obtain ⟨ua, uc, rfl⟩ := vals_slice hv1; have L1 := has_belowT (has_new wr wr.heap.size _ _ rfl) hb1; have lc1 := has_cell L1; have lf1 := has_free L1; have ll1 := has_lt L1; replace hv1 := Lib.hid hv1; replace hg1 := Lib.hid hg1; replace L1 := Lib.hid L1)) | (go_at_call 32; go_must (refine (heap_addR2 (M := fun q => q < w.heap.size ∨ q = w.heap.size ∨ own q) (v := .slice ua o.Vals.length uc) (g := g1) hr.out hat hM1.out (.inr (.inl rfl)) (fun q h => .inr (.inr h)) ((thenB ((Below.refl _ wr).alloc (Nat.le_refl _) _) hb1).setCell (Nat.le_refl _) _) (valsAt_eq hv1.out fun q hq => Below.heap_setCell _ _ _ _ (by have := hg1.out q hq; simp at this; show q ≠ wr.heap.size; omega)) (fun q hq => by have := hg1.out q hq; simp at this; omega) hsz.out).mono ?_; rintro e w3 ⟨rfl, hmid⟩)))
        have wk : RowKit.wrap64 ((k : Int) + 1) = ((k + 1 : Nat) : Int) := by have := hlk.out; unfold RowKit.wrap64; omega
        rw [wk]
        exact ⟨⟨k + 1, H.plus o, rfl, hlt, hnext.out, mid_new hB.out (Nat.le_refl _) hown.out hM1.out hb1 hv1.out hg1.out hmid _⟩, meas _ _ hlt⟩
def xheap_Load (a0 : Int) (a1 : List GApiObj) : Option (Option GHeapHeap × Int) := if a1.length ≤ 1000000000 ∧ ∀ o ∈ a1, o.Vals.length ≤ 4000000000000 ∧ o.Text.length < 4611686018427387904 then some (loadR a0 a1) else none
end Go.Proofs.Ytblikpgdepjhdaa

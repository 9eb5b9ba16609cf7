/- Parts of the proof. -/
import Derived.Test.YtblikpgdepjhdaaHbHpPu2
namespace Go.Proofs.Ytblikpgdepjhdaa
open Go.RowKit
set_option linter.unusedVariables false
set_option maxHeartbeats 4000000
set_option maxRecDepth 100000
abbrev valCells (v : GApiValue) : Array Value := #[.int .u8 v.Kind, .int .i64 v.N, .int .i64 v.Re, .int .i64 v.Im]
structure PutsR (W w : World) (bm : Nat) (H : GHeapHeap) (ma : Option Addr) (mc : Nat) (v x : GApiValue) (own : Nat → Prop) : Prop where
  below : Below W.heap.size W w
  room : H.room = 2000
  inv : HInv H
  bv : Has w W.heap.size (valCells v) 46
  bx : Has w (W.heap.size + 1) (valCells x) 46
  bmh : Has w bm #[.int .i64 H.room, .int .i64 H.cells, .slice ma H.l.length mc] 33
  bmb : W.heap.size + 2 < bm
  heap : ∃ pls ps lv, HeapAt H w (Mx bm (W.heap.size + 2) own) own (W.heap.size + 2) pls ps lv
  ownb : ∀ k, own k → W.heap.size + 2 ≤ k ∧ k ≠ bm ∧ k < w.heap.size
  rep : RepT w (Mx bm (W.heap.size + 2) own) (.sl 4 (H.l.map c_GApiObj)) (.slice ma H.l.length mc)
theorem PutsR.drew {W w : World} {bm : Nat} {H : GHeapHeap} {ma : Option Addr} {mc : Nat} {v x : GApiValue} {own : Nat → Prop} (P : PutsR W w bm H ma mc v x own) : PutsR W w.drew bm H ma mc v x own :=
  ⟨⟨P.below.os, P.below.tape, P.below.output, P.below.size, P.below.block⟩, P.room, P.inv, P.bv, P.bx, P.bmh, P.bmb, by
    obtain ⟨pls, ps, lv, h⟩ := P.heap
    exact ⟨pls, ps, lv, h.ext ⟨Nat.le_refl _, fun _ _ _ => rfl⟩ (fun _ _ h => h) rfl fun _ _ => rfl⟩, P.ownb, RepT.ext P.rep ⟨Nat.le_refl _, fun _ _ _ => rfl⟩ fun _ _ h => h⟩
theorem PutsR.next {W w w' : World} {bm : Nat} {H H' : GHeapHeap} {ma ma' : Option Addr} {mc mc' : Nat} {v x : GApiValue} {own own' : Nat → Prop} (P : PutsR W w bm H ma mc v x own) (hmod : Mod (fun k => k = W.heap.size + 2 ∨ own k) w w') (hrep : RepT w' (Mx bm (W.heap.size + 2) own') (.sl 4 (H'.l.map c_GApiObj)) (.slice ma' H'.l.length mc'))
    (hat : ∃ pls ps lv, HeapAt H' w' (Mx bm (W.heap.size + 2) own') own' (W.heap.size + 2) pls ps lv) (hown : ∀ k, own' k → (k = W.heap.size + 2 ∨ own k ∨ w.heap.size ≤ k) ∧ k ≠ bm ∧ k < w'.heap.size) (hr : H'.room = H.room) (hi : HInv H') :
    PutsR W (((w'.setCell ⟨bm, 0, none⟩ (.int .i64 H'.room)).setCell ⟨bm, 1, none⟩ (.int .i64 H'.cells)).setCell ⟨bm, 2, none⟩ (.slice ma' H'.l.length mc')) bm H' ma' mc' v x own' := by
  have T : Turn (fun k => k = bm) w' (((w'.setCell ⟨bm, 0, none⟩ (.int .i64 H'.room)).setCell ⟨bm, 1, none⟩ (.int .i64 H'.cells)).setCell ⟨bm, 2, none⟩ (.slice ma' H'.l.length mc')) := ((turn_cell w' bm 0 _).trans (turn_cell _ bm 1 _)).trans (turn_cell _ bm 2 _)
  have hb := P.bmb
  have hws := P.below.size
  have hbl := has_lt P.bmh
  have nb : ∀ k, k < W.heap.size + 2 → ¬ (k = W.heap.size + 2 ∨ own k) := fun k hk h => h.elim (fun e => by omega) fun h => by have := (P.ownb k h).1; omega
  have nm : ¬ (bm = W.heap.size + 2 ∨ own bm) := fun h => h.elim (fun e => by omega) fun h => (P.ownb bm h).2.1 rfl
  have hb1 : Below W.heap.size W w' := P.below.trans (hmod.below _ (fun k hk => nb k (by omega)) hws)
  have key : ∀ (q : Nat) cs t, q < W.heap.size + 2 → Has w q cs t → Has (((w'.setCell ⟨bm, 0, none⟩ (.int .i64 H'.room)).setCell ⟨bm, 1, none⟩ (.int .i64 H'.cells)).setCell ⟨bm, 2, none⟩ (.slice ma' H'.l.length mc')) q cs t := fun q cs t hq h => has_mod (has_mod h hmod (nb q hq)) T.m (by omega)
  refine ⟨hb1.trans (T.m.below _ (fun k hk e => by omega) hb1.size), hr.trans P.room, hi, key _ _ _ (by omega) P.bv, key _ _ _ (by omega) P.bx, ?_, hb, ?_, fun k hk => ?_, ?_⟩
  · have h0 := has_mod P.bmh hmod nm
    have h1 := has_set_same h0 0 (.int .i64 H'.room)
    have h2 := has_set_same h1 1 (.int .i64 H'.cells)
    have h3 := has_set_same h2 2 (.slice ma' H'.l.length mc')
    exact h3
  · obtain ⟨pls, ps, lv, h⟩ := hat
    exact ⟨pls, ps, lv, h.turn T.m (fun k hk => ⟨.inl hk, by omega, fun ho => (hown k ho).2.1 hk⟩) fun k hk => (hown k hk).2.2⟩
  · obtain ⟨h1, h2, h3⟩ := hown k hk
    refine ⟨?_, h2, by rw [T.s]; exact h3⟩
    rcases h1 with h1 | h1 | h1
    · omega
    · exact (P.ownb k h1).1
    · omega
  · exact RepT.ext hrep ⟨T.m.size, fun k hk hn => T.m.block k hk fun e => hn (.inl e)⟩ fun _ _ h => h
theorem PutsR.does {W w : World} {bm : Nat} {H H' : GHeapHeap} {ma : Option Addr} {mc : Nat} {v x : GApiValue} {own : Nat → Prop} {o : GL11Op} {vv : Value} (P : PutsR W w bm H ma mc v x own) (hd : l11_does H (mr H) o = some (true, mr H', H')) (hr : H'.room = H.room) (hi : HInv H') (hlo : ∀ M : Nat → Prop, (∀ k, M k → W.heap.size ≤ k) → RepT w M (.sl 4 (o.Vals.map c_GApiValue)) vv) :
    Calls Try.prog 18 #[.pointer (some ⟨W.heap.size + 2, 0, none⟩), .agg #[.int .i64 H.room, .int .i64 H.cells, .slice ma H.l.length mc], .agg (opCells o vv)] w fun e w' => ∃ ma' mc' own', e = .returned (.tuple #[.bool true, .agg #[.int .i64 H'.room, .int .i64 H'.cells, .slice ma' H'.l.length mc']]) ∧
      Has w' bm #[.int .i64 H.room, .int .i64 H.cells, .slice ma H.l.length mc] 33 ∧ PutsR W (((w'.setCell ⟨bm, 0, none⟩ (.int .i64 H'.room)).setCell ⟨bm, 1, none⟩ (.int .i64 H'.cells)).setCell ⟨bm, 2, none⟩ (.slice ma' H'.l.length mc')) bm H' ma' mc' v x own' := by
  obtain ⟨pls, ps, lv, hat⟩ := P.heap
  have hb := P.bmb
  refine (call_does hd hat (has_lt P.bmh) (by omega) (fun k hk => (P.ownb k hk).2) P.rep (op_rep (hlo _ fun k hk => ?_))).mono ?_
  · rcases hk with rfl | rfl | hk
    · omega
    · omega
    · have := (P.ownb k hk).1; omega
  rintro e w' ⟨ma', mc', own', rfl, h1, h2, h3, h4⟩
  exact ⟨ma', mc', own', rfl, has_mod P.bmh h3 (fun h => h.elim (fun e => by omega) fun h => (P.ownb bm h).2.1 rfl), P.next h3 h1 h2 h4 hr hi⟩
end Go.Proofs.Ytblikpgdepjhdaa

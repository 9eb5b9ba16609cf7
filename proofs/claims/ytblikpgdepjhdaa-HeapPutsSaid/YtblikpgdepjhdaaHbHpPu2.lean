/- Parts of the proof. -/
import Derived.Test.YtblikpgdepjhdaaHbHpPu1
namespace Go.Proofs.Ytblikpgdepjhdaa
open Go.RowKit
set_option linter.unusedVariables false
set_option maxHeartbeats 4000000
set_option maxRecDepth 100000
abbrev opCells (o : GL11Op) (vv : Value) : Array Value := #[.int .i64 o.Kind, .int .i64 o.Of, .int .i64 o.N, .string (mkS o.Text), .int .u8 o.V.Kind, .int .i64 o.V.N, .int .i64 o.V.Re, .int .i64 o.V.Im, .int .u8 o.X.Kind, .int .i64 o.X.N, .int .i64 o.X.Re, .int .i64 o.X.Im, vv]
theorem op_rep {w : World} {M : Nat → Prop} {o : GL11Op} {vv : Value} (h : RepT w M (.sl 4 (o.Vals.map c_GApiValue)) vv) : RepF w M (e_GL11Op o) (.agg (opCells o vv)) := by
  unfold e_GL11Op b_GL11Op
  refine .agg _ _ rfl (fun i hi => ?_) (fun i hi => ?_)
  · match i, hi with
    | 0, _ => rfl
    | 1, _ => rfl
    | 2, _ => rfl
    | 3, _ => rfl
    | 4, _ => rfl
    | 5, _ => rfl
    | 6, _ => rfl
    | 7, _ => rfl
    | 8, _ => rfl
    | 9, _ => rfl
    | 10, _ => rfl
    | 11, _ => rfl
    | 12, _ => rfl
  · match i, hi with
    | 0, _ => exact .t _ _ (.v _ rfl)
    | 1, _ => exact .t _ _ (.v _ rfl)
    | 2, _ => exact .t _ _ (.v _ rfl)
    | 3, _ => exact .t _ _ (.v _ rfl)
    | 4, _ => exact .t _ _ (.v _ rfl)
    | 5, _ => exact .t _ _ (.v _ rfl)
    | 6, _ => exact .t _ _ (.v _ rfl)
    | 7, _ => exact .t _ _ (.v _ rfl)
    | 8, _ => exact .t _ _ (.v _ rfl)
    | 9, _ => exact .t _ _ (.v _ rfl)
    | 10, _ => exact .t _ _ (.v _ rfl)
    | 11, _ => exact .t _ _ (.v _ rfl)
    | 12, _ => exact .t _ _ h
abbrev Mx (bm b : Nat) (own : Nat → Prop) : Nat → Prop := fun k => k = bm ∨ k = b ∨ own k
theorem call_does {H H' : GHeapHeap} {o : GL11Op} (hd : l11_does H (mr H) o = some (true, mr H', H')) {w : World} {bm b : Nat} {own : Nat → Prop} {pls : List OPl} {ps : List Value} {lv mv ov : Value} (hat : HeapAt H w (Mx bm b own) own b pls ps lv) (hbm : bm < w.heap.size) (hbb : bm ≠ b) (hob : ∀ k, own k → k ≠ bm ∧ k < w.heap.size)
    (hm : RepT w (Mx bm b own) (.sl 4 (H.l.map c_GApiObj)) mv) (ho : RepF w (Mx bm b own) (e_GL11Op o) ov) :
    Calls Try.prog 18 #[.pointer (some ⟨b, 0, none⟩), .agg #[.int .i64 H.room, .int .i64 H.cells, mv], ov] w fun e w' => ∃ ma mc own', e = .returned (.tuple #[.bool true, .agg #[.int .i64 H'.room, .int .i64 H'.cells, .slice ma H'.l.length mc]]) ∧ RepT w' (Mx bm b own') (.sl 4 (H'.l.map c_GApiObj)) (.slice ma H'.l.length mc) ∧
      (∃ pls ps lv, HeapAt H' w' (Mx bm b own') own' b pls ps lv) ∧ Mod (fun k => k = b ∨ own k) w w' ∧ ∀ k, own' k → (k = b ∨ own k ∨ w.heap.size ≤ k) ∧ k ≠ bm ∧ k < w'.heap.size := by
  refine (heap_call (l11_does_ok hd) (by kernel_rfl) (X := fun k => k = bm) hat (fun k hk => by rw [hk]; exact hbm) (fun h => hbb h.symm) (fun k hk h => (hob k hk).1 h) (fun k hk => (hob k hk).2) rfl rfl (fun i hi => ?_)).mono ?_
  · match i, hi with
    | 0, _ => exact h11_mk (m := mr H) hm
    | 1, _ => exact ho
  rintro e w' ⟨v, own', rfl, hr, hat', hmod, hown⟩
  cases hr with
  | tup cs vs hs hr =>
    obtain ⟨mv', e1, e2⟩ := h11_val (hr 1 (by simp))
    obtain ⟨ma, mc, rfl⟩ := rep_slice e2
    rw [List.length_map] at e1 e2
    refine ⟨ma, mc, own', ?_, e2, hat', hmod, hown⟩
    congr 2
    apply Array.ext
    · simpa using hs
    · intro i h3 h4
      match i, h4 with
      | 0, _ => exact rep_val (hr 0 (by simp))
      | 1, _ => exact e1
theorem put_cases {H : GHeapHeap} (h : HInv H) (v x : GApiValue) (i : Int) : ((H.put v.Kind v.N i x).1 ≠ 0 ∧ (H.put v.Kind v.N i x).2 = H) ∨
    ∃ (n j : Nat) (hn : n < H.l.length) (hj : j < (H.l[n]).Vals.length), v.N = (n : Int) + 1 ∧ i = j ∧ H.put v.Kind v.N i x = (0, ⟨H.room, H.cells, H.l.set n ⟨(H.l[n]).Kind, (H.l[n]).Of, (H.l[n]).Text, (H.l[n]).Vals.set j x⟩⟩) ∧ (GHeapHeap.mk H.room H.cells (H.l.set n ⟨(H.l[n]).Kind, (H.l[n]).Of, (H.l[n]).Text, (H.l[n]).Vals.set j x⟩)).get v.Kind v.N i = (x, 0) := by
  cases ho : H.at_ v.Kind v.N with
  | none => left; unfold GHeapHeap.put; rw [ho]; exact ⟨show (3 : Int) ≠ 0 by decide, rfl⟩
  | some o =>
    by_cases c3 : v.Kind = 3
    · left; unfold GHeapHeap.put; rw [ho]; simp only; rw [if_pos c3]; exact ⟨show (3 : Int) ≠ 0 by decide, rfl⟩
    by_cases c : i < 0 ∨ (o.Vals.length : Int) ≤ i
    · left; unfold GHeapHeap.put; rw [ho]; simp only; rw [if_neg c3, if_pos c]; exact ⟨show (2 : Int) ≠ 0 by decide, rfl⟩
    right
    obtain ⟨n, hn, e1, e2, e3⟩ := at_some ho
    obtain ⟨j, rfl⟩ : ∃ j : Nat, i = j := ⟨i.toNat, by omega⟩
    have hj : j < o.Vals.length := by omega
    subst e2
    refine ⟨n, j, hn, hj, e1, rfl, ?_, ?_⟩
    · unfold GHeapHeap.put
      rw [ho]
      simp only
      rw [if_neg c3, if_neg c, e1, show ((n : Int) + 1 - 1).toNat = n by omega, Int.toNat_natCast]
    · have hat : (GHeapHeap.mk H.room H.cells (H.l.set n ⟨(H.l[n]).Kind, (H.l[n]).Of, (H.l[n]).Text, (H.l[n]).Vals.set j x⟩)).at_ v.Kind v.N = some ⟨(H.l[n]).Kind, (H.l[n]).Of, (H.l[n]).Text, (H.l[n]).Vals.set j x⟩ := by
        unfold GHeapHeap.at_
        rw [e1, show (n : Int) + 1 - 1 = (n : Int) by omega, getI_nat' (by simpa using hn)]
        simp [e3]
      have hsz : (GHeapHeap.mk H.room H.cells (H.l.set n ⟨(H.l[n]).Kind, (H.l[n]).Of, (H.l[n]).Text, (H.l[n]).Vals.set j x⟩)).size v.Kind v.N = (((H.l[n]).Vals.length : Int), 0) := by
        unfold GHeapHeap.size
        rw [if_neg (fun h => c3 h.1), hat]
        simp [c3]
      unfold GHeapHeap.get
      rw [hsz, hat]
      simp only
      rw [if_neg (by simp), if_neg (by omega), if_neg c3, Int.toNat_natCast]
      simp [List.getD_eq_getElem?_getD, hj]
end Go.Proofs.Ytblikpgdepjhdaa

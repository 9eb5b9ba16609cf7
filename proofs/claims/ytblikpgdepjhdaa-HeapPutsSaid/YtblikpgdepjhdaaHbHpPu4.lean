/- Parts of the proof. -/
import Derived.Test.YtblikpgdepjhdaaHbHpPu5
import Derived.StillTailTactics
import Derived.BigRegion
namespace Go.Proofs.Ytblikpgdepjhdaa
open Go.RowKit
set_option linter.unusedVariables false
set_option maxHeartbeats 16000000
set_option maxRecDepth 100000
abbrev OpsT (w : World) (l : List GL11Op) (v : Value) : Prop := RepT w (fun _ => False) (.sl 13 (l.map c_GL11Op)) v
theorem OpsT.below {w w' : World} {l : List GL11Op} {v : Value} (h : OpsT w l v) (hb : Below w.heap.size w w') : OpsT w' l v := RepT.ext h ⟨hb.size, fun k hk _ => hb.block k hk⟩ fun _ _ h => h
theorem call_greatl {l : List GL11Op} {b : Bool} (h : l11_great l = some b) {W : World} {v : Value} (hv : OpsT W l v) : Calls Try.prog 17 #[v] W fun e w' => e = .returned (.bool b) ∧ Below W.heap.size W w' :=
  fn_bool (l11_great_ok h) rfl fun i hi => by
    match i, hi with
    | 0, _ => exact .t _ _ hv
theorem puts_great {l : List GL11Op} {v x : GApiValue} {i : Int} {lv : Value} {W : World} (hv : OpsT W l lv) (hg : l11_great l = some true) :
    Calls Try.prog 5 #[lv, .agg (valCells v), .agg (valCells x), .int .i64 i] W fun e w' => e = .returned (.bool true) ∧ Below W.heap.size W w' := by
  have HV := Lib.hid hv
  have HG := Lib.hid hg
  clear hv hg
  go_enter Try.func5, Try.ntmps5
  go_wp2_with (first
    | (go_at_call 16; go_must (refine (heap_NewOk 2000 _ (by omega) (by omega)).mono ?_; rintro e w1 ⟨rfl, hb1⟩; have HB1 := Lib.hid (show Below W.heap.size W w1 by rw [hb1]; exact (((Below.refl _ W).alloc (Nat.le_refl _) _).alloc (by simp) _).alloc (by simp; omega) _); clear hb1))
    | (go_at_call 17; go_must (refine (call_greatl HG.out (HV.out.below HB1.out)).mono ?_; rintro e w2 ⟨rfl, hb2⟩))
    | (go_at_call 10; go_must (refine (call_awake _).mono ?_; rintro e w3 ⟨rfl, hb3⟩)))
  go_ret
  have h1 := HB1.out.trans (hb2.mono HB1.out.size)
  exact ⟨rfl, h1.trans (hb3.mono h1.size)⟩
theorem puts_start {W w1 w2 : World} {v x : GApiValue} (h1 : w1 = ((W.alloc (.cells (valCells v) 46)).alloc (.cells (valCells x) 46)).alloc (.cells #[.int .i64 2000, .int .i64 0, .slice none 0 0] 72)) (h2 : Below w1.heap.size w1 w2) :
    PutsR W (w2.alloc (.cells #[.int .i64 2000, .int .i64 0, .slice none 0 0] 33)) w2.heap.size (GHeapHeap.new 2000) none 0 v x (fun _ => False) := by
  have s1 : w1.heap.size = W.heap.size + 3 := by rw [h1]; simp
  have s2 := h2.size
  have b1 : Below W.heap.size W w1 := by rw [h1]; exact (((Below.refl _ W).alloc (Nat.le_refl _) _).alloc (by simp) _).alloc (by simp; omega) _
  have g1 : Has w1 W.heap.size (valCells v) 46 := by rw [h1]; exact has_alloc (has_alloc (has_new W _ _ _ rfl) _) _
  have g2 : Has w1 (W.heap.size + 1) (valCells x) 46 := by rw [h1]; exact has_alloc (has_new _ _ _ _ (by simp)) _
  have g3 : Has w1 (W.heap.size + 2) #[.int .i64 2000, .int .i64 0, .slice none 0 0] 72 := by rw [h1]; exact has_new _ _ _ _ (by simp)
  refine ⟨(b1.trans (h2.mono (by omega))).alloc (by omega) _, rfl, new_inv (by omega), has_alloc (has_belowT g1 h2) _, has_alloc (has_belowT g2 h2) _, has_new _ _ _ _ rfl, by omega, ⟨[], [], _, heapAt_new ⟨by omega, by omega⟩ (has_alloc (has_belowT g3 h2) _)⟩, fun k h => h.elim, .nil 4 none 0 (Nat.zero_le _)⟩
theorem all_objs {H : GHeapHeap} (hi : HInv H) {M own : Nat → Prop} {b : Nat} {pls : List OPl} {ps : List Value} {lv : Value} {w : World} (hat : HeapAt H w M own b pls ps lv) :
    Calls Try.prog 14 #[.pointer (some ⟨b, 0, none⟩)] w fun e w' => ∃ a c vs, e = .returned (.slice a H.l.length c) ∧ AllR H.l w w' H.l.length vs (.slice a H.l.length c) :=
  (heap_All hat (fun o ho => (hi.small ho).1)).mono (by
    rintro e w' ⟨v, vs, rfl, hA⟩
    obtain ⟨a2, c2, rfl⟩ := owns_slice hA.own
    exact ⟨a2, c2, vs, rfl, hA⟩)
theorem put_no {W w : World} {bm : Nat} {H : GHeapHeap} {ma : Option Addr} {mc : Nat} {v x : GApiValue} {own : Nat → Prop} {i : Int} (P : PutsR W w bm H ma mc v x own) (h2 : (H.put v.Kind v.N i x).2 = H) :
    Calls Try.prog 19 #[.pointer (some ⟨W.heap.size + 2, 0, none⟩), .agg (valCells v), .int .i64 i, .agg (valCells x)] w fun e w' => e = .returned (.int .u8 (H.put v.Kind v.N i x).1) ∧ Below W.heap.size W w' ∧ Has w' bm #[.int .i64 H.room, .int .i64 H.cells, .slice ma H.l.length mc] 33 ∧ ObjsT w'.drew H.l (.slice ma H.l.length mc) ∧
      Calls Try.prog 14 #[.pointer (some ⟨W.heap.size + 2, 0, none⟩)] w'.drew fun e w'' => ∃ a c vs, e = .returned (.slice a H.l.length c) ∧ AllR H.l w'.drew w'' H.l.length vs (.slice a H.l.length c) := by
  obtain ⟨pls, ps, lv, hat⟩ := P.heap
  have hb := P.bmb
  refine (heap_Put v.Kind v.N v.Re v.Im i x hat (.inr (.inl rfl)) (fun k h => .inr (.inr h)) P.inv.putOk).mono ?_
  rintro e w' ⟨rfl, own', ⟨pls', ps', lv', hat'⟩, hmod, hown'⟩
  rw [h2] at hat'
  refine ⟨rfl, P.below.trans (hmod.below _ (fun k hk h => h.elim (fun e => by omega) fun h => by have := (P.ownb k h).1; omega) P.below.size), has_mod P.bmh hmod (fun h => h.elim (fun e => by omega) fun h => (P.ownb bm h).2.1 rfl), RepT.ext P.rep ⟨hmod.size, fun k hk hn => hmod.block k hk fun h => hn (.inr h)⟩ (fun _ _ h => h.elim), all_objs P.inv (hat'.ext (w' := w'.drew) ⟨Nat.le_refl _, fun _ _ _ => rfl⟩ (fun _ _ h => h) rfl fun _ _ => rfl)⟩
theorem put_yes {W w : World} {bm : Nat} {H : GHeapHeap} {ma : Option Addr} {mc : Nat} {v x : GApiValue} {own : Nat → Prop} {i : Int} {n j : Nat} (P : PutsR W w bm H ma mc v x own) (hn : n < H.l.length) (hj : j < (H.l[n]).Vals.length)
    (e3 : H.put v.Kind v.N i x = (0, ⟨H.room, H.cells, H.l.set n ⟨(H.l[n]).Kind, (H.l[n]).Of, (H.l[n]).Text, (H.l[n]).Vals.set j x⟩⟩)) (e4 : (GHeapHeap.mk H.room H.cells (H.l.set n ⟨(H.l[n]).Kind, (H.l[n]).Of, (H.l[n]).Text, (H.l[n]).Vals.set j x⟩)).get v.Kind v.N i = (x, 0)) :
    Calls Try.prog 19 #[.pointer (some ⟨W.heap.size + 2, 0, none⟩), .agg (valCells v), .int .i64 i, .agg (valCells x)] w fun e w' => e = .returned (.int .u8 0) ∧ Below W.heap.size W w' ∧ Has w' W.heap.size (valCells v) 46 ∧ Has w' (W.heap.size + 1) (valCells x) 46 ∧ Has w' bm #[.int .i64 H.room, .int .i64 H.cells, .slice ma H.l.length mc] 33 ∧ ObjsT w' H.l (.slice ma H.l.length mc) ∧
      (∀ w2, Below w'.heap.size w' w2 → Calls Try.prog 20 #[.pointer (some ⟨W.heap.size + 2, 0, none⟩), .agg (valCells v), .int .i64 i] w2 fun e w3 => e = .returned (.tuple #[.agg (valCells x), .int .u8 0]) ∧ Below w2.heap.size w2 w3) ∧
      (∀ w2, Below w'.heap.size w' w2 → Calls Try.prog 13 #[.pointer (some ⟨W.heap.size + 2, 0, none⟩)] w2 fun e w3 => e = .returned (.int .i64 H.cells) ∧ w3 = w2) ∧
      (∀ w2, Below w'.heap.size w' w2 → Calls Try.prog 14 #[.pointer (some ⟨W.heap.size + 2, 0, none⟩)] w2 fun e w3 => ∃ a c vs, e = .returned (.slice a H.l.length c) ∧ AllR (H.l.set n ⟨(H.l[n]).Kind, (H.l[n]).Of, (H.l[n]).Text, (H.l[n]).Vals.set j x⟩) w2 w3 H.l.length vs (.slice a H.l.length c)) := by
  obtain ⟨pls, ps, lv, hat⟩ := P.heap
  have hb := P.bmb
  have nb : ∀ k, k < W.heap.size + 2 → ¬ (k = W.heap.size + 2 ∨ own k) := fun k hk h => h.elim (fun e => by omega) fun h => by have := (P.ownb k h).1; omega
  have hi2 := (put_inv P.inv v i x).1
  rw [e3] at hi2
  refine (heap_Put v.Kind v.N v.Re v.Im i x hat (.inr (.inl rfl)) (fun k h => .inr (.inr h)) P.inv.putOk).mono ?_
  rintro e w' ⟨rfl, own', ⟨pls', ps', lv', hat'⟩, hmod, hown'⟩
  rw [e3] at hat' ⊢
  dsimp only at hat' hi2
  refine ⟨rfl, P.below.trans (hmod.below _ (fun k hk => nb k (by omega)) P.below.size), has_mod P.bv hmod (nb _ (by omega)), has_mod P.bx hmod (nb _ (by omega)), has_mod P.bmh hmod (fun h => h.elim (fun e => by omega) fun h => (P.ownb bm h).2.1 rfl), RepT.ext P.rep ⟨hmod.size, fun k hk hn => hmod.block k hk fun h => hn (.inr h)⟩ (fun _ _ h => h.elim), fun w2 hw2 => ?_, fun w2 hw2 => ?_, fun w2 hw2 => ?_⟩
  · refine (heap_Get v.Kind v.N v.Re v.Im i (hat'.below hw2)).mono ?_
    rintro e w3 ⟨h1, rfl⟩
    rw [e4]
    exact ⟨rfl, h1⟩
  · have := cells_same (hat'.below hw2)
    exact this
  · have := all_objs hi2 (hat'.below hw2)
    rw [List.length_set] at this
    exact this
theorem puts_raw {l : List GL11Op} {v x : GApiValue} {i : Int} {lv : Value} {W : World} (hv : OpsT W l lv) (hg : l11_great l = some false) (hl : l.length ≤ 60) (hok : ∀ i (hi : i < l.length), okOp l[i]) :
    Calls Try.prog 5 #[lv, .agg (valCells v), .agg (valCells x), .int .i64 i] W fun e w' => e = .returned (.bool true) ∧ Below W.heap.size W w' := by
  have HV := Lib.hid hv
  have HG := Lib.hid hg
  have HL := Lib.hid hl
  have HK := Lib.hid hok
  obtain ⟨va, vc, rfl, hov⟩ := opsV_t hv
  clear hv hg hl hok hov
  go_enter Try.func5, Try.ntmps5
  go_wp2_with (first
    | (go_at_call 16; go_must (refine (heap_NewOk 2000 _ (by omega) (by omega)).mono ?_; rintro e w1 ⟨rfl, hb1⟩; have HW1 := Lib.hid hb1; have HB1 := Lib.hid (show Below W.heap.size W w1 by rw [hb1]; exact (((Below.refl _ W).alloc (Nat.le_refl _) _).alloc (by simp) _).alloc (by simp; omega) _); clear hb1))
    | (go_at_call 17; go_must (refine (call_greatl HG.out (HV.out.below HB1.out)).mono ?_; rintro e w2 ⟨rfl, hb2⟩; replace hb2 := Lib.hid hb2)))
  have hst := puts_start (v := v) (x := x) HW1.out hb2.out
  replace hst := Lib.hid hst
  go_loopw [12] (fun q wq => ∃ (k : Nat) (H : GHeapHeap) (ma : Option Addr) (mc : Nat) (own : Nat → Prop), q = .int .i64 k ∧ k ≤ l.length ∧ PutsR W wq w2.heap.size H ma mc v x own) (fun q _ => l.length - (intOf q).toNat)
  case atStart => exact ⟨0, GHeapHeap.new 2000, none, 0, fun _ => False, rfl, Nat.zero_le _, hst.out⟩
  case round =>
    obtain ⟨k, H, ma, mc, own, rfl, hk, P⟩ := hrel
    generalize w2.heap.size = bm at *
    have hk0 : (0 : Int) ≤ k := by omega
    by_cases hkn : k = l.length
    · subst hkn
      have ht : ¬ (l.length : Int) < l.length := by omega
      have hB := P.below
      have lbv := has_cell P.bv
      have llv := has_lt P.bv
      have lbx := has_cell P.bx
      have llx := has_lt P.bx
      have lbm := has_cell P.bmh
      have llm := has_lt P.bmh
      replace hst := hst
      obtain ⟨pls, ps, lv, hat⟩ := P.heap
      replace hat := Lib.hid hat
      replace hB := Lib.hid hB
      replace P := Lib.hid P
      rcases put_cases P.out.inv v x i with ⟨p1, p2⟩ | ⟨n, j, hn, hj, e1, e2, e3, e4⟩
      · have CP := put_no P.out p2
        generalize (H.put v.Kind v.N i x).1 = p at *
        have pb : (p != 0) = true := by simp [p1]
        have SS : Hid (r11_Same H.l H.l = some true) := Lib.hid (same_self P.out.inv)
        replace CP := Lib.hid CP
        clear p2
        go_wp2_with (first
          | (go_at_call 13; go_must (refine (cells_same hat.out).mono ?_; rintro e w4 ⟨rfl, rfl⟩))
          | (go_at_call 19; go_must (refine CP.out.mono ?_; rintro e w5 ⟨rfl, hb5, hm5, ho5, CA⟩; have l5 := has_cell hm5; have ll5 := has_lt hm5; replace hb5 := Lib.hid hb5; replace hm5 := Lib.hid hm5; replace ho5 := Lib.hid ho5; replace CA := Lib.hid CA)))
        go_region_with (first
          | (go_at_call 14; refine CA.out.mono ?_; rintro e w6 ⟨a6, c6, vs6, rfl, hA6⟩; have hx6 := (hA6.below.block bm (by exact ll5)).trans hm5.out; have l6 := has_cell hx6; have ll6 := has_lt hx6; replace hA6 := Lib.hid hA6; replace hx6 := Lib.hid hx6)
          | (go_at_call 15; refine (call_same SS.out (allR_rep hA6.out) (ho5.out.below hA6.out.below)).mono ?_; rintro e w7 ⟨rfl, hb7⟩; replace hb7 := Lib.hid hb7)
          | (go_at_call 10; refine (call_awake _).mono ?_; rintro e w8 ⟨rfl, hb8⟩; replace hb8 := Lib.hid hb8))
        all_goals go_wp2_with fail
        all_goals go_ret
        all_goals
          have b1 : Below W.heap.size W w5.drew := ⟨hb5.out.os, hb5.out.tape, hb5.out.output, hb5.out.size, hb5.out.block⟩
          have b2 := b1.trans (hA6.out.below.mono b1.size)
          have b3 := b2.trans (hb7.out.mono b2.size)
          exact ⟨rfl, b3.trans (hb8.out.mono b3.size)⟩
      · obtain ⟨vk, vn, vre, vim⟩ := v
        dsimp only at e1 e3 e4
        subst e1
        subst e2
        have CP := put_yes P.out hn hj e3 e4
        have hlen : (H.l.length : Int) ≤ 65536 := by have := hat.out.wf; omega
        have hvl : (H.l[n]).Vals.length ≤ 65536 := (P.out.inv.small (List.getElem_mem hn)).1
        have t1 : ¬ ((n : Int) + 1 < 1) := by omega
        have t2 : ¬ ((H.l.length : Int) < (n : Int) + 1) := by omega
        have t3 : ¬ ((j : Int) < 0) := by omega
        have t4 : RowKit.wrap64 (n : Int) = (n : Int) := by unfold RowKit.wrap64; omega
        have t5 : (n : Int) < H.l.length := by omega
        have t6 : (0 : Int) ≤ n := by omega
        have t7 : ¬ (((H.l[n]).Vals.length : Int) ≤ j) := by omega
        have t8 : (j : Int) < (H.l[n]).Vals.length := by omega
        have t9 : (0 : Int) ≤ j := by omega
        replace hlen := Lib.hid hlen
        replace hvl := Lib.hid hvl
        have SS : Hid (r11_Same H.l H.l = some true) := Lib.hid (same_self P.out.inv)
        replace CP := Lib.hid CP
        clear e3 e4
        go_wp2_with (first
          | (go_at_call 13; first | (refine (cells_same hat.out).mono ?_; rintro e w4 ⟨rfl, rfl⟩) | (refine (CC.out _ ((hb6.out.mono (Nat.le_refl _)).alloc hb6.out.size _)).mono ?_; rintro e w7 ⟨rfl, rfl⟩))
          | (go_at_call 19; go_must (refine CP.out.mono ?_; rintro e w5 ⟨rfl, hb5, hv5, hx5, hm5, ho5, CG, CC, CA⟩; have l5v := has_cell hv5; have ll5v := has_lt hv5; have l5x := has_cell hx5; have ll5x := has_lt hx5; have l5 := has_cell hm5; have ll5 := has_lt hm5; replace hb5 := Lib.hid hb5; replace hm5 := Lib.hid hm5; replace hv5 := Lib.hid hv5; replace hx5 := Lib.hid hx5; replace ho5 := Lib.hid ho5; replace CA := Lib.hid CA; replace CG := Lib.hid CG; replace CC := Lib.hid CC))
          | (go_at_call 20; go_must (refine (CG.out _ (Below.refl _ _)).mono ?_; rintro e w6 ⟨rfl, hb6⟩; have hv6 := has_belowT hv5.out hb6; have hx6 := has_belowT hx5.out hb6; have hm6 := has_belowT hm5.out hb6; have l6v := has_cell hv6; have ll6v := has_lt hv6; have l6x := has_cell hx6; have ll6x := has_lt hx6; have l6 := has_cell hm6; have ll6 := has_lt hm6; replace hb6 := Lib.hid hb6; replace hv6 := Lib.hid hv6; replace hx6 := Lib.hid hx6; replace hm6 := Lib.hid hm6))
          | (go_at_call 14; go_must (refine (CA.out _ ((hb6.out.mono (Nat.le_refl _)).alloc hb6.out.size _)).mono ?_; rintro e w7 ⟨a7, c7, vs7, rfl, hA7⟩; have hvn : n < vs7.length := (by rw [hA7.len]; exact hn); obtain ⟨q, cc, hq, hg, hS⟩ := allR_set hn hj hA7 hvn; obtain ⟨qa, rfl, q1, q2, q3⟩ := allR_at hA7 hn hvn; have q4 := q3 w7 rfl; rw [hq] at q4 hg; have hm7 := has_belowT (has_alloc hm6.out _) hA7.below; have l7 := has_cell hm7; have ll7 := has_lt hm7; have hv7 := has_belowT (has_alloc hv6.out _) hA7.below; have l7v := has_cell hv7; have ll7v := has_lt hv7; replace hm7 := Lib.hid hm7; replace hv7 := Lib.hid hv7; replace hA7 := Lib.hid hA7; replace hS := Lib.hid hS; replace hg := Lib.hid hg; replace hq := Lib.hid hq; replace q3 := Lib.hid q3)))
        have hs6 := hb6.out.size
        have hb7 : Below w5.heap.size w5 w7 := (hb6.out.alloc hs6 _).trans (hA7.out.below.mono (by simp; omega))
        have ho7 := ho5.out.below hb7
        obtain ⟨_, _, e9, hob⟩ := objsV_t ho7
        cases e9
        obtain ⟨g1, off1, vv, rfl, g1s, o0, o1, o2, o3, o4⟩ := hob n hn
        obtain ⟨va2, vc2, rfl, hvr⟩ := o4
        obtain ⟨g2, off2, rfl, g2s, hcl⟩ := hvr j hj
        have c0 := hcl 0 (by omega)
        have c1 := hcl 1 (by omega)
        have c2 := hcl 2 (by omega)
        have c3 := hcl 3 (by omega)
        rw [← Nat.add_assoc] at c0 c1 c2 c3
        simp only [vcells, List.getElem?_cons_zero, List.getElem?_cons_succ, Nat.add_zero] at c0 c1 c2 c3
        have hg7 := hg.out.1
        rw [List.length_set] at hg7
        obtain ⟨s0, s1, s2, s3, s4, s5⟩ := own_cells hg7 (by simp) hj
        have hqb : q ≠ bm := fun e => by
          obtain ⟨g, z1, z2⟩ := hA7.out.vals n hvn (by simpa using hn)
          have := z2 q (by rw [hq.out] at z1; exact valsAt_blk z1 rfl (by omega))
          simp at this
          omega
        replace hob := Lib.hid hob
        replace hvr := Lib.hid hvr
        replace ho7 := Lib.hid ho7
        replace hb7 := Lib.hid hb7
        replace hg7 := Lib.hid hg7
        clear hcl o0 o1 o2
        have hS := hS
        generalize hy : H.l[n].Vals[j] = y at *
        replace hy := Lib.hid hy
        have ws : IntKind.i64.wrap (n : Int) = n := by rw [IntKind.wrap_i64]; have := hlen.out; omega
        have ws2 : IntKind.i64.wrap ((n : Int) + 1 - 1) = n := by rw [IntKind.wrap_i64]; have := hlen.out; omega
        go_region
        have hq5 : w5.heap.size ≤ q := by
          obtain ⟨g, z1, z2⟩ := hA7.out.vals n hvn (by simpa using hn)
          have := (z2 q (by rw [hq.out] at z1; exact valsAt_blk z1 rfl (by omega))).1
          simp at this
          omega
        have hb8 : Below w5.heap.size w5 (set4 w7 q j y).drew := by
          have := hb7.out.trans ((set4_mod w7 q j y).below w5.heap.size (fun k hk e => by omega) hb7.out.size)
          exact ⟨this.os, this.tape, this.output, this.size, this.block⟩
        have hm8 : Has (set4 w7 q j y).drew bm #[.int .i64 H.room, .int .i64 H.cells, .slice (some ⟨g1, off1, none⟩) H.l.length mc] 33 := (hb8.block bm ll5).trans hm5.out
        have ho8 : ObjsT (set4 w7 q j y).drew H.l (.slice (some ⟨qa, 0, none⟩) H.l.length c7) := by
          have := allR_rep hS.out
          exact RepT.ext this ⟨Nat.le_refl _, fun _ _ _ => rfl⟩ fun _ _ h => h
        have hr8 := ho5.out.below hb8
        change Exit.then _ _ _ _ (set4 w7 q j y).drew
        generalize (set4 w7 q j y).drew = w8 at *
        have hB8 := hb5.out.trans (hb8.mono hb5.out.size)
        have l8 := has_cell hm8
        have ll8 := has_lt hm8
        replace hr8 := Lib.hid hr8
        replace ho8 := Lib.hid ho8
        replace hB8 := Lib.hid hB8
        clear hb8 hm8 l7 ll7 l7v ll7v l6 ll6 l6v ll6v l5 ll5 l5v ll5v c0 c1 c2 c3 s0 s1 s2 s3 s4 s5 hq5
        go_wp2_with (first
          | (go_at_call 15; go_must (refine (call_same SS.out ho8.out hr8.out).mono ?_; rintro e w9 ⟨rfl, hb9⟩; replace hb9 := Lib.hid hb9))
          | (go_at_call 10; go_must (refine (call_awake _).mono ?_; rintro e wa ⟨rfl, hba⟩)))
        go_ret
        have b1 := hB8.out.trans (hb9.out.mono hB8.out.size)
        exact ⟨rfl, b1.trans (hba.mono b1.size)⟩
    · have hlt : k < l.length := by omega
      have ht : (k : Int) < l.length := by omega
      have HVk : RepT wr (fun k => W.heap.size ≤ k) (.sl 13 (l.map c_GL11Op)) (.slice va l.length vc) := RepT.ext HV.out ⟨P.below.size, fun k hk _ => P.below.block k hk⟩ fun k hk h => by omega
      obtain ⟨_, _, e9, hob⟩ := opsV_t HVk
      cases e9
      obtain ⟨g, off, vv, rfl, hgs, o0, o1, o2, o3, o4, o5, o6, o7, o8, o9, o10, o11, o12, o13⟩ := hob k hlt
      have lb := has_cell P.bmh
      have hbl := has_lt P.bmh
      have hbf := has_free P.bmh
      have hk2 : Hid (k ≤ 60) := Lib.hid (by have := HL.out; omega)
      obtain ⟨H', hd, hinv, hroom, _⟩ := does_spec P.inv l[k] (HK.out k hlt)
      have CD := P.drew.does hd hroom hinv (vv := vv) (fun M hM => RepT.ext o13 ⟨Nat.le_refl _, fun _ _ _ => rfl⟩ fun q _ hq => hM q hq)
      replace CD := Lib.hid CD
      replace P := Lib.hid P
      replace hinv := Lib.hid hinv
      replace hroom := Lib.hid hroom
      generalize l[k] = o at *
      replace o13 := Lib.hid o13
      replace hob := Lib.hid hob
      clear HVk
      have wk : RowKit.wrap64 ((k : Int) + 1) = ((k + 1 : Nat) : Int) := by have := hk2.out; unfold RowKit.wrap64; omega
      replace wk := Lib.hid wk
      go_wp2_with fail
      go_region_with (go_at_call 18; refine CD.out.mono ?_; rintro e w' ⟨ma', mc', own', rfl, hbm', hP'⟩; have lb' := has_cell hbm'; have lf' := has_free hbm'; have ll' := has_lt hbm'; replace hP' := Lib.hid hP')
      all_goals go_wp2_with fail
      all_goals (rw [wk.out]; exact ⟨⟨k + 1, H', ma', mc', own', rfl, hlt, hP'.out⟩, meas _ _ hlt⟩)
end Go.Proofs.Ytblikpgdepjhdaa

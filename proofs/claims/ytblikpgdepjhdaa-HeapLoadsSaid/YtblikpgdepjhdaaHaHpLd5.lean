/- Parts of the proof. -/
import Derived.Test.YtblikpgdepjhdaaHaHpLd4
namespace Go.Proofs.Ytblikpgdepjhdaa
open Go.RowKit
set_option linter.unusedVariables false
set_option maxHeartbeats 16000000
set_option maxRecDepth 100000
theorem allR_zero (l : List GApiObj) (w : World) : AllR l w w 0 [] (.slice none 0 0) := ⟨Below.refl _ _, ⟨rfl, .inl (by first | exact ⟨rfl, rfl⟩ | exact ⟨rfl, trivial⟩)⟩, rfl, fun i h => by simp at h, fun i j q n n' c c' hi => by simp at hi⟩
theorem below_drewN {B : Nat} {w w' : World} (h : Below B w w') (n : Nat) : Below B w (w'.drewN n) := ⟨h.os, h.tape, h.output, h.size, h.block⟩
theorem loads_raw {c : Int} {l : List GApiObj} {v : Value} {W : World} (hv : ObjsT W l v) (hg : r11_Great l = some false) (hok : loadOk l) (hl : l.length ≤ 3000) (hlv : ∀ o ∈ l, o.Vals.length ≤ 65536) {m : GR11H} (hm : r11_Load c l = some (m, (loadR c l).2)) (hcase : (∃ H, (loadR c l).1 = some H ∧ (loadR c l).2 = 0 ∧ m = mr H ∧ HInv H ∧ H.l = l ∧ H.room = c) ∨ (loadR c l).1 = none ∧ (loadR c l).2 ≠ 0 ∧ m = ⟨0, 0, []⟩) :
    Calls Try.prog 3 #[.int .i64 c, v] W fun e w' => e = .returned (.bool true) ∧ Below W.heap.size W w' := by
  have HO := Lib.hid (objsV_t hv)
  have HV := Lib.hid hv
  have HG := Lib.hid hg
  have HL := Lib.hid hl
  have HK := Lib.hid hok
  have HLV := Lib.hid hlv
  have HM := Lib.hid hm
  have HC := Lib.hid hcase
  obtain ⟨va, vc, rfl, hov⟩ := objsV_t hv
  clear hv hg hl hlv hok hm hcase hov
  go_enter Try.func3, Try.ntmps3
  go_wp2_with (first
    | (go_at_call 9; go_must (refine (call_great HG.out HV.out).mono ?_; rintro e W1 ⟨rfl, hb1⟩; have HB1 := Lib.hid hb1; clear hb1)))
  go_loopw [5, 6] (fun v' q wr => ∃ (k : Nat) (vs : List Value), q = .int .i64 k ∧ k ≤ l.length ∧ AllR l W1 wr k vs v') (fun _ q _ => l.length - (intOf q).toNat)
  case atStart => exact ⟨0, [], rfl, Nat.zero_le _, allR_zero l W1⟩
  case round =>
    obtain ⟨k, vs, rfl, hk, hA⟩ := hrel
    have HA := Lib.hid hA
    by_cases hkn : k = l.length
    · subst hkn
      obtain ⟨w0, hw0⟩ : ∃ w0, w0 = wr := ⟨_, rfl⟩
      subst hw0
      have ht : ¬ (l.length : Int) < l.length := by omega
      obtain ⟨a, cc, rfl⟩ := owns_slice hA.own
      have A := hA
      have hT : ObjsT w0 l (.slice a l.length cc) := allR_rep A
      have hB0 : Below W.heap.size W w0 := HB1.out.trans (hA.below.mono HB1.out.size)
      have hV0 : ObjsT w0 l (.slice va l.length vc) := HV.out.below hB0
      replace hT := Lib.hid hT
      replace hB0 := Lib.hid hB0
      replace hV0 := Lib.hid hV0
      replace A := Lib.hid A
      clear hA
      have HM2 := HM.out
      rcases HC.out with ⟨H, c1, c2, c3, c4, c5, c6⟩ | ⟨c1, c2, c3⟩
      · have C1 := Lib.hid c1
        have C4 := Lib.hid c4
        have CL : Hid (∀ w : World, ObjsT w l (.slice a l.length cc) → Calls Try.prog 11 #[.int .i64 c, .slice a l.length cc] w fun e w' => e = .returned (.tuple #[.pointer (some ⟨w.heap.size, 0, none⟩), .int .i64 0]) ∧ NewAt H w w' w.heap.size) := Lib.hid fun w hw => hload_some C1.out HK.out hw
        rw [c2, c3] at HM2
        have CM : Hid (∀ w : World, ObjsT w l (.slice va l.length vc) → Calls Try.prog 12 #[.int .i64 c, .slice va l.length vc] w fun e w' => ∃ ma mc, e = .returned (.tuple #[.agg #[.int .i64 H.room, .int .i64 H.cells, .slice ma l.length mc], .int .i64 0]) ∧ Below w.heap.size w w') := Lib.hid fun w hw => by
          have := call_load HM2 hw
          rw [show (mr H).L = l from c5] at this
          exact this
        have SS : Hid (r11_Same l l = some true) := Lib.hid (by have := same_self c4; rwa [c5] at this)
        replace c5 := Lib.hid c5
        replace A := A
        clear c1 c2 c3 c4 c6 HM HC HM2 C1
        go_wp2_with (first
          | (go_at_call 11; go_must (refine (CL.out w0 hT.out).mono ?_; rintro e w2 ⟨rfl, hb2, hb3, own, pls, ps, lv, hat, hown⟩; replace hb2 := Lib.hid hb2; replace hat := Lib.hid hat; replace hown := Lib.hid hown; clear hb3))
          | (go_at_call 12; go_must (refine (CM.out w2 (hV0.out.below hb2.out)).mono ?_; rintro e w3 ⟨ma, mc, rfl, hb3⟩; replace hb3 := Lib.hid hb3)))
        have hB3 : Below w2.heap.size w2 w3 := hb3.out
        have h2s : w2.heap.size ≤ w3.heap.size := hB3.size
        have hat3 : ∀ n, HeapAt H ((w3.alloc (.cells #[.int .i64 H.room, .int .i64 H.cells, .slice ma l.length mc] 33)).drewN n) (fun k => k < w0.heap.size ∨ k = w0.heap.size ∨ own k ∨ w3.heap.size < k) own w0.heap.size pls ps lv := fun n => by
          have hB4 : Below w2.heap.size w2 ((w3.alloc (.cells #[.int .i64 H.room, .int .i64 H.cells, .slice ma l.length mc] 33)).drewN n) := below_drewN (hB3.alloc h2s _) n
          exact hat.out.ext ⟨hB4.size, fun k hk _ => hB4.block k hk⟩ (fun k hk hm => hm.elim .inl fun h => h.elim (fun h => .inr (.inl h)) fun h => h.elim (fun h => .inr (.inr h)) fun h => by omega) (hB4.block _ (has_lt hat.out.head)) fun k hk => hB4.block k (hown.out k hk).2
        replace hat3 := Lib.hid hat3
        go_quiet ((go_at_call 13; refine Calls.quiet_of_same (cells_same (hat3.out _))))
        generalize hW4 : (w3.alloc (.cells #[.int .i64 H.room, .int .i64 H.cells, .slice ma l.length mc] 33)).drewN nq = w4
        have hB4 : Below w0.heap.size w0 w4 := by
          rw [← hW4]
          exact below_drewN ((hb2.out.trans (hb3.out.mono hb2.out.size)).alloc (Nat.le_trans hb2.out.size h2s) _) nq
        have hat4 : HeapAt H w4 (fun k => k < w0.heap.size ∨ k = w0.heap.size ∨ own k ∨ w3.heap.size < k) own w0.heap.size pls ps lv := by rw [← hW4]; exact hat3.out nq
        have hs4 : w4.heap.size = w3.heap.size + 1 := by rw [← hW4]; simp
        have hown4 : ∀ k, own k → w0.heap.size ≤ k ∧ k < w4.heap.size := fun k hk => ⟨(hown.out k hk).1, by have := (hown.out k hk).2; omega⟩
        clear hat3
        replace hW4 := Lib.hid hW4
        replace hB4 := Lib.hid hB4
        replace hat4 := Lib.hid hat4
        replace hown4 := Lib.hid hown4
        clear hat hown hB3
        have CA : Hid (Calls Try.prog 14 #[.pointer (some ⟨w0.heap.size, 0, none⟩)] w4 fun e w' => ∃ a2 c2 vs2, e = .returned (.slice a2 l.length c2) ∧ AllR l w4 w' l.length vs2 (.slice a2 l.length c2)) := Lib.hid ((heap_All hat4.out (fun o ho => by have := c5.out ▸ ho; exact HLV.out o this)).mono (by
          rintro e w' ⟨v, vs, rfl, hA⟩
          rw [c5.out] at hA
          obtain ⟨a2, c2, rfl⟩ := owns_slice hA.own
          exact ⟨a2, c2, vs, rfl, hA⟩))
        go_wp2_with (first
          | (go_at_call 14; go_must (refine CA.out.mono ?_; rintro e w5 ⟨a2, cc2, vs2, rfl, hA2⟩; replace hA2 := Lib.hid hA2)))
        have hk3 : l.length ≤ 65536 := by have := HL.out; omega
        replace hk3 := Lib.hid hk3
        go_loopw [13] (fun q wq => ∃ k : Nat, q = .int .i64 k ∧ k ≤ l.length ∧ Turn (fun g => (W1.heap.size ≤ g ∧ g < w0.heap.size) ∧ Value.ownBlock (.slice a l.length cc) ≠ some g) w5 wq) (fun q _ => l.length - (intOf q).toNat)
        case atStart => exact ⟨0, rfl, Nat.zero_le _, Turn.refl _ _⟩
        case round =>
          obtain ⟨k, rfl, hk, hT⟩ := hrel
          by_cases hkn : k = l.length
          · subst hkn
            obtain ⟨w6, hw6⟩ : ∃ w6, w6 = wr := ⟨_, rfl⟩
            subst hw6
            have ht : ¬ (l.length : Int) < l.length := by omega
            replace hT := Lib.hid hT
            go_wp2_with fail
            go_loopw [14] (fun q wq => ∃ k : Nat, q = .int .i64 k ∧ k ≤ l.length ∧ Turn (fun g => (w4.heap.size ≤ g ∧ g < w5.heap.size) ∧ Value.ownBlock (.slice a2 l.length cc2) ≠ some g) w6 wq) (fun q _ => l.length - (intOf q).toNat)
            case atStart => exact ⟨0, rfl, Nat.zero_le _, Turn.refl _ _⟩
            case round =>
              obtain ⟨k, rfl, hk, hU⟩ := hrel
              have h04 := hB4.out.size
              have h45 := hA2.out.below.size
              have h56 := hT.out.s
              have h6r := hU.s
              by_cases hkn : k = l.length
              · subst hkn
                obtain ⟨w8, hw8⟩ : ∃ w8, w8 = wr := ⟨_, rfl⟩
                subst hw8
                have ht : ¬ (l.length : Int) < l.length := by omega
                have hb45 := hA2.out.below
                have hat5 : HeapAt H w5 (fun k => k < w0.heap.size ∨ k = w0.heap.size ∨ own k ∨ w4.heap.size ≤ k) own w0.heap.size pls ps lv :=
                  hat4.out.ext ⟨hb45.size, fun k hk _ => hb45.block k hk⟩ (fun k hk hm => hm.elim .inl fun h => h.elim (fun h => .inr (.inl h)) fun h => h.elim (fun h => .inr (.inr (.inl h))) fun h => by omega) (hb45.block _ (has_lt hat4.out.head)) fun k hk => hb45.block k (hown4.out k hk).2
                have hh4 := has_lt hat4.out.head
                have hat6 := hat5.turn hT.out.m (fun k hk => ⟨.inl hk.1.2, by omega, fun ho => by have := (hown4.out k ho).1; omega⟩) fun k hk => by have := (hown4.out k hk).2; omega
                have hat8 := hat6.turn hU.m (fun k hk => ⟨.inr (.inr (.inr hk.1.1)), by omega, fun ho => by have := (hown4.out k ho).2; omega⟩) fun k hk => by have := (hown4.out k hk).2; omega
                have hB8 : Below W.heap.size W w8 := by
                  have b1 := hB0.out.trans (hB4.out.mono hB0.out.size)
                  have b2 := b1.trans (hb45.mono b1.size)
                  have b3 := b2.trans (hT.out.m.below W.heap.size (fun k hk h => by have := HB1.out.size; omega) (by have := b2.size; omega))
                  exact b3.trans (hU.m.below W.heap.size (fun k hk h => by have := b1.size; omega) (by have := b3.size; omega))
                have CB : Hid (Calls Try.prog 14 #[.pointer (some ⟨w0.heap.size, 0, none⟩)] w8 fun e w' => ∃ a3 c3, e = .returned (.slice a3 l.length c3) ∧ Below w8.heap.size w8 w' ∧ ObjsT w' l (.slice a3 l.length c3)) := Lib.hid ((heap_All hat8 (fun o ho => by have := c5.out ▸ ho; exact HLV.out o this)).mono (by
                  rintro e w' ⟨v, vs, rfl, hA⟩
                  rw [c5.out] at hA
                  obtain ⟨a2, c2, rfl⟩ := owns_slice hA.own
                  exact ⟨a2, c2, rfl, hA.below, allR_rep hA⟩))
                replace hB8 := Lib.hid hB8
                clear hat5 hat6 hat8 hb45 hU hh4
                go_wp2_with (first
                  | (go_at_call 14; go_must (refine CB.out.mono ?_; rintro e wa ⟨a3, cc3, rfl, hba, hoa⟩; replace hba := Lib.hid hba; replace hoa := Lib.hid hoa))
                  | (go_at_call 15; go_must (refine (call_same SS.out hoa.out (HV.out.below (hB8.out.trans (hba.out.mono hB8.out.size)))).mono ?_; rintro e wb ⟨rfl, hbb⟩; replace hbb := Lib.hid hbb))
                  | (go_at_call 10; go_must (refine (call_awake _).mono ?_; rintro e wd ⟨rfl, hbd⟩)))
                go_ret
                have b1 := hB8.out.trans (hba.out.mono hB8.out.size)
                have b2 := b1.trans (hbb.out.mono b1.size)
                exact ⟨rfl, b2.trans (hbd.mono b2.size)⟩
              · have hlt : k < l.length := by omega
                have ht : (k : Int) < l.length := by omega
                have hk0 : (0 : Int) ≤ k := by omega
                have hkv : k < vs2.length := by rw [hA2.out.len]; exact hlt
                obtain ⟨q0, rfl, hq1, hq2, hq3⟩ := allR_read hA2.out hlt hkv
                have hq4 := hq3 wr ((hU.m.block q0 (by omega) (fun h => h.2 rfl)).trans (hT.out.m.block q0 hq2 (fun h => by omega)))
                have hq5 : q0 < wr.heap.size := by omega
                obtain ⟨g, hg1, hg2⟩ := hA2.out.vals k hkv hlt
                obtain ⟨w9, hcl, hT9⟩ := clear_vals (((valsW_of hg1).turn hT.out).turn hU)
                have hT' : Turn (fun g => (w4.heap.size ≤ g ∧ g < w5.heap.size) ∧ Value.ownBlock (.slice (some ⟨q0, 0, none⟩) l.length cc2) ≠ some g) w6 w9 := hU.trans (hT9.mono fun x hx => by
                  obtain ⟨n, c', e1, e2⟩ := hx
                  have e3 := valsAt_blk hg1 e1 e2
                  have e4 := hg2 x e3
                  subst e3
                  exact ⟨⟨e4.1, owns_lt hg1.1 hg1.2⟩, e4.2⟩)
                have wk : RowKit.wrap64 ((k : Int) + 1) = ((k + 1 : Nat) : Int) := by have := hk3.out; unfold RowKit.wrap64; omega
                generalize vs2[k] = vk at *
                replace hT' := Lib.hid hT'
                replace hg2 := Lib.hid hg2
                replace hq3 := Lib.hid hq3
                clear hU hT9 hg1
                go_wp2_with fail
                rw [wk]
                exact ⟨⟨k + 1, rfl, hlt, hT'.out⟩, meas _ _ hlt⟩
          · have hlt : k < l.length := by omega
            have ht : (k : Int) < l.length := by omega
            have hk0 : (0 : Int) ≤ k := by omega
            have hkv : k < vs.length := by rw [A.out.len]; exact hlt
            obtain ⟨q0, rfl, hq1, hq2, hq3⟩ := allR_read A.out hlt hkv
            have hb5 : Below w0.heap.size w0 w5 := hB4.out.trans (hA2.out.below.mono hB4.out.size)
            have hs5 := hb5.size
            have hsw := hT.s
            have hq4 := hq3 wr ((hT.m.block q0 (by omega) (fun h => h.2 rfl)).trans (hb5.block q0 hq2))
            have hq5 : q0 < wr.heap.size := by omega
            obtain ⟨g, hg1, hg2⟩ := A.out.vals k hkv hlt
            obtain ⟨w9, hcl, hT9⟩ := clear_vals (((valsW_of hg1).below hb5).turn hT)
            have hT' : Turn (fun g => (W1.heap.size ≤ g ∧ g < w0.heap.size) ∧ Value.ownBlock (.slice (some ⟨q0, 0, none⟩) l.length cc) ≠ some g) w5 w9 := hT.trans (hT9.mono fun x hx => by
              obtain ⟨n, c', e1, e2⟩ := hx
              have e3 := valsAt_blk hg1 e1 e2
              have e4 := hg2 x e3
              subst e3
              exact ⟨⟨e4.1, owns_lt hg1.1 hg1.2⟩, e4.2⟩)
            have wk : RowKit.wrap64 ((k : Int) + 1) = ((k + 1 : Nat) : Int) := by have := hk3.out; unfold RowKit.wrap64; omega
            generalize vs[k] = vk at *
            replace hT' := Lib.hid hT'
            replace hg2 := Lib.hid hg2
            replace hq3 := Lib.hid hq3
            clear hT hT9 hg1
            go_wp2_with fail
            rw [wk]
            exact ⟨⟨k + 1, rfl, hlt, hT'.out⟩, meas _ _ hlt⟩
      · have C1 := Lib.hid c1
        have CL : Hid (∀ w : World, ObjsT w l (.slice a l.length cc) → Calls Try.prog 11 #[.int .i64 c, .slice a l.length cc] w fun e w' => e = .returned (.tuple #[.pointer none, .int .i64 (loadR c l).2]) ∧ Below w.heap.size w w') := Lib.hid fun w hw => hload_none C1.out HK.out hw
        generalize (loadR c l).2 = f at *
        replace CL := CL
        replace HM2 := Lib.hid HM2
        subst c3
        clear c1 HM HC
        have c2b : (f != 0) = true := by simp [c2]
        go_wp2_with (first
          | (go_at_call 11; go_must (refine (CL.out w0 hT.out).mono ?_; rintro e w2 ⟨rfl, hb2⟩; replace hb2 := Lib.hid hb2))
          | (go_at_call 12; go_must (refine (call_load HM2.out (hV0.out.below hb2.out)).mono ?_; rintro e w3 ⟨ma, mc, rfl, hb3⟩; replace hb3 := Lib.hid hb3)))
        go_quiet ((go_at_call 13; refine Calls.quiet_of_same (cells_nil _)))
        go_wp2_with (first
          | (go_at_call 10; go_must (refine (call_awake _).mono ?_; rintro e w4 ⟨rfl, hb4⟩)))
        go_ret
        have h1 := hB0.out.trans (hb2.out.mono hB0.out.size)
        have h2 := h1.trans (hb3.out.mono h1.size)
        have h3 := below_drewN (h2.alloc h2.size (.cells #[.int .i64 0, .int .i64 0, .slice ma 0 mc] 33)) nq
        exact ⟨rfl, h3.trans (hb4.mono h3.size)⟩
    · have hlt : k < l.length := by omega
      have ht : (k : Int) < l.length := by omega
      have hk0 : (0 : Int) ≤ k := by omega
      obtain ⟨_, _, e9, hob⟩ := HO.out.below (HB1.out.trans (hA.below.mono HB1.out.size))
      cases e9
      obtain ⟨g, off, vv, rfl, o0, o1, o2, o3, o4, o5⟩ := hob k hlt
      obtain ⟨ova, ovc, rfl, _⟩ := id o5
      obtain ⟨a, cc, rfl⟩ := owns_slice hA.own
      have hvl := (HK.out.2 l[k] (List.getElem_mem hlt)).1
      replace hvl := Lib.hid hvl
      have hk2 : Hid (k ≤ 65536) := Lib.hid (by have := HL.out; omega)
      have hsb : W1.heap.size ≤ wr.heap.size := hA.below.size
      obtain ⟨i1, hi1, hy0, hy1, hy2⟩ := objinfo
      generalize hok : l[k] = o at *
      replace hok := Lib.hid hok
      replace o5 := Lib.hid o5
      replace hob := Lib.hid hob
      clear hA
      go_wp2_with (first
        | (at_builtin; refine wpList_append_fresh rfl _ _ rfl _ rfl (by first | rfl | simp) o.Vals rfl ?_; go_must (refine ⟨⟨o5.out.below ((Below.refl _ wr).alloc (Nat.le_refl _) _), hvl.out⟩, ?_⟩); go_must (intro va2 vc2 w1 g1 hv1 hg1 hb1; have L1 := has_belowT (has_new wr wr.heap.size _ _ rfl) hb1; have lc1 := has_cell L1; have lf1 := has_free L1; have ll1 := has_lt L1; replace hv1 := Lib.hid hv1; replace hg1 := Lib.hid hg1; have OW := ownsRow_eq HA.out.own (w' := w1.setCell ⟨wr.heap.size, 3, none⟩ (.slice va2 o.Vals.length vc2)) (fun g hg => by have hl := owns_lt HA.out.own hg; rw [Below.heap_setCell _ _ _ _ (by show g ≠ wr.heap.size; omega)]; exact (hb1.block g (by simp; omega)).trans (row_alloc_old _ _ _ hl)); replace OW := Lib.hid OW; replace L1 := Lib.hid L1))
        | (at_builtin; go_must (refine wpList_append_elemN rfl _ _ 22 rfl W1.heap.size 27 i1 (.agg #[.int .u8 0, .int .i64 0, .string ⟨#[]⟩, .slice none 0 0]) 4 56 (by kernel_rfl) hi1 hy0 hy1 hy2 rfl (by decide) a cc k (ocells (l.take k) vs) [.int .u8 o.Kind, .int .i64 o.Of, .string (mkS o.Text), .slice va2 o.Vals.length vc2] 27 rfl OW.out _ rfl (by simp) rfl (by simp [Value.oneCell']) (by have := hk2.out; simp only [maxLen]; omega) (by have := hk2.out; omega) (by have := hb1.size; simp at this ⊢; omega) ?_); go_must (intro a' c' w2 ho hgr hpl; replace ho := Lib.hid ho; replace hgr := Lib.hid hgr; replace hpl := Lib.hid hpl)))
      have wk : RowKit.wrap64 ((k : Int) + 1) = ((k + 1 : Nat) : Int) := by have := hk2.out; unfold RowKit.wrap64; omega
      rw [wk]
      exact ⟨⟨k + 1, _, rfl, hlt, allR_next HA.out hk hlt hok.out hb1 hv1.out hg1.out ho.out hgr.out hpl.out⟩, meas _ _ hlt⟩
end Go.Proofs.Ytblikpgdepjhdaa

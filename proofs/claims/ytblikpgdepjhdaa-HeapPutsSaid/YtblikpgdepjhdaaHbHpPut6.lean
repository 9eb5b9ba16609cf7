/- Parts of the proof. -/
import Derived.Test.YtblikpgdepjhdaaHbHpPut5
namespace Go.Proofs.Ytblikpgdepjhdaa
open Go.RowKit
set_option linter.unusedVariables false
theorem copy_vals {w : World} {sg so vc : Nat} {l : List GApiValue} (hc : ∀ j u, (vrow l)[j]? = some u → w.cell? ⟨sg, so + j, none⟩ = some u) (hsg : sg < w.heap.size) :
    Sem.run Try.prog (Builtin.copy_ #[25, 25] 3 #[.slice (some ⟨w.heap.size, 0, none⟩) l.length l.length, .slice (some ⟨sg, so, none⟩) l.length vc]) (w.alloc (.cells (vrow (List.replicate l.length ⟨0, 0, 0, 0⟩)).toArray 46)) =
    .ok (goInt l.length) ((w.alloc (.cells (vrow (List.replicate l.length ⟨0, 0, 0, 0⟩)).toArray 46)).setRow w.heap.size (vrow l).toArray) := by
  have hm : Nat.min l.length l.length = l.length := Nat.min_self _
  have := run_copy_rowN (P := Try.prog) (w.alloc (.cells (vrow (List.replicate l.length ⟨0, 0, 0, 0⟩)).toArray 46)) 25 25 3 46 w.heap.size 0 l.length l.length 4 ⟨sg, so, none⟩ l.length vc _ _ (vrow l) (by kernel_rfl) (by kernel_rfl) (row_alloc_new w _ _ rfl) (by rw [hm, vrow_len]) (fun j u hj => by
    have hadd : (⟨sg, so, none⟩ : Addr).add j = ⟨sg, so + j, none⟩ := by unfold Addr.add; split <;> simp_all
    rw [hadd]
    exact ((Below.refl _ w).alloc (Nat.le_refl _) _).cell (p := ⟨sg, so + j, none⟩) hsg |>.trans (hc j u hj)) (by simp [vrow_len]) (vrow_one _)
  rw [this, hm]
  simp only [List.take_zero, List.nil_append, Nat.zero_add]
  rw [List.drop_of_length_le (by simp [vrow_len]), List.append_nil]
set_option maxHeartbeats 8000000 in
set_option maxRecDepth 100000 in
theorem heap_PutShared {H : GHeapHeap} {M own : Nat → Prop} {b : Nat} {pls : List OPl} {ps : List Value} {lv : Value} {w : World} (kd n re im : Int) (j : Nat) (x : GApiValue) (h : HeapAt H w M own b pls ps lv) (hMb : M b) (hMo : ∀ k, own k → M k) {i pb off : Nat} {o : GApiObj} (hn : H.at_ kd n = some o) (hi : n = (i : Int) + 1)
    (h1 : i < H.l.length) (h2 : i < ps.length) (h3 : i < pls.length) (ho : H.l[i] = o) (hp : ps[i] = .pointer (some ⟨pb, off, none⟩)) (hq : pls[i] = .shared) (hj : j < o.Vals.length) (c1 : kd ≠ 3) (hvb : o.Vals.length ≤ 65536) (htx : o.Text = []) :
    Calls Try.prog 19 #[.pointer (some ⟨b, 0, none⟩), .agg #[.int .u8 kd, .int .i64 n, .int .i64 re, .int .i64 im], .int .i64 j, .agg #[.int .u8 x.Kind, .int .i64 x.N, .int .i64 x.Re, .int .i64 x.Im]] w fun e w' =>
      e = .returned (.int .u8 0) ∧ HeapOut ⟨H.room, H.cells, H.l.set i { o with Vals := o.Vals.set j x }⟩ M own b w w' := by
  subst hi
  have wi : IntKind.i64.wrap (i : Int) = i := by have := h.wf; rw [IntKind.wrap_i64]; omega
  have hil : (i : Int) < H.l.length := by omega
  have hi0 : (0 : Int) ≤ i := by omega
  have hnl : ps.length = H.l.length := h.n2
  have hlv : ∃ rb lc cur, lv = .slice (some ⟨rb, 0, none⟩) H.l.length lc ∧ Has w rb cur 73 ∧ H.l.length ≤ lc ∧ lc ≤ maxLen ∧ cur.size = lc * 1 ∧ cur.toList.take (H.l.length * 1) = ps := by
    have hr := h.row
    rw [h.n2] at hr
    rcases hr.2 with ⟨e1, e2⟩ | ⟨g, cap, cur, e, h3, h4, h5, h6, h7, h8⟩
    · exact absurd (show H.l.length = 0 by first | exact e1 | exact e2) (by omega)
    · exact ⟨g, cap, cur, e, h4, h5, h6, h7, h8⟩
  obtain ⟨rb, lc, cur, rfl, hrb, hr1, hr2, hr3, hr4⟩ := hlv
  have hrc : i < cur.size := by omega
  replace hrb := Lib.hid hrb
  replace hr1 := Lib.hid hr1
  replace hr2 := Lib.hid hr2
  replace hr3 := Lib.hid hr3
  replace hr4 := Lib.hid hr4
  replace hnl := Lib.hid hnl
  replace hrc := Lib.hid hrc
  have ck : (kd == 3) = false := by simpa using c1
  have hji : (j : Int) < o.Vals.length := by omega
  have hj0 : (0 : Int) ≤ j := by omega
  have hjd : decide ((j : Int) < 0) = false := by simp
  have hji' : decide ((o.Vals.length : Int) ≤ j) = false := by simp; omega
  have HP := Lib.hid hp
  have HN := Lib.hid hn
  have HO := Lib.hid ho
  have HQ := Lib.hid hq
  have HMo := Lib.hid hMo
  have HMb := Lib.hid hMb
  have HC1 := Lib.hid c1
  have HT := Lib.hid htx
  have HL0 := Lib.hid hvb
  have hmk := make_val o.Vals.length hvb
  have hsh : Hid (objAt w M o (.pointer (some ⟨pb, off, none⟩)) .shared) := by
    have := h.objs i h1 h2 h3
    rw [ho, hp, hq] at this
    exact this
  have hne : Hid (o.Vals ≠ []) := Lib.hid (fun e => by rw [e] at hj; simp at hj)
  clear hp hn ho hq hMo hMb c1 htx hvb
  go_enter Try.func19, Try.ntmps19
  go_wp2_with (go_at_call 44; go_must (refine (heap_at2 kd ((i : Int) + 1) re im (h.below ((((Below.refl _ w).alloc (Nat.le_refl _) _).alloc (by simp) _))) HN.out h2 rfl).mono ?_; rw [HP.out]; rintro e w1 ⟨hb, rfl⟩; have N1 := has_belowT (has_alloc (has_new w w.heap.size _ _ rfl) _) hb; have nc1 := has_cell N1; have nf1 := has_free N1; have ns1 := has_lt N1; have Y1 := has_belowT (has_new (w.alloc _) (w.heap.size + 1) _ _ (by simp)) hb; have ys1 := has_lt Y1; have B1 := thenB (((Below.refl _ w).alloc (Nat.le_refl _) _).alloc (by simp) _) hb; obtain ⟨pb', off', v', hpe, o0, o1, o2, o3, o4, o5, o6⟩ := shared_cells (objAt_eq hsh.out (M' := M) (w' := w1) ⟨B1.size, fun k hk _ => B1.block k hk⟩ (fun _ _ h => h) (fun k hk => by simp [OPl.bs] at hk)); cases hpe; obtain ⟨sg, so, vc, rfl, s0, s1⟩ := valsR_cells o6 hne.out; have hcp := copy_vals (vc := vc) s1 s0; replace s1 := Lib.hid s1; clear o6; replace B1 := Lib.hid B1; replace N1 := Lib.hid N1; replace Y1 := Lib.hid Y1))
  have B2 : Below w1.heap.size w1 ((w1.alloc (.cells (vrow (List.replicate o.Vals.length ⟨0, 0, 0, 0⟩)).toArray 46)).setRow w1.heap.size (vrow o.Vals).toArray) := below_setRow ((Below.refl _ w1).alloc (Nat.le_refl _) _) (Nat.le_refl _) _
  have G2 : Has ((w1.alloc (.cells (vrow (List.replicate o.Vals.length ⟨0, 0, 0, 0⟩)).toArray 46)).setRow w1.heap.size (vrow o.Vals).toArray) w1.heap.size (vrow o.Vals).toArray 46 := setRow_heap _ _ _ _ _ _ (row_alloc_new w1 _ _ rfl)
  clear hcp hmk nc1 nf1
  generalize World.setRow _ _ _ = w2 at B2 G2 ⊢
  have z0 : w2.cell? ⟨pb, off, none⟩ = some (.int .u8 o.Kind) := (B2.cell (p := ⟨pb, _, none⟩) o0).trans o1
  have z1 : w2.cell? ⟨pb, off + 1, none⟩ = some (.int .i64 o.Of) := (B2.cell (p := ⟨pb, _, none⟩) o0).trans o2
  have z2 : pb < w2.heap.size := Nat.lt_of_lt_of_le o0 B2.size
  have gl2 := has_lt G2
  replace B2 := Lib.hid B2
  replace G2 := Lib.hid G2
  clear o0 o1 o2 o3 o4 o5
  go_region
  have P3 : Has (w2.alloc (.cells #[.int .u8 o.Kind, .int .i64 o.Of, .string ⟨#[]⟩, .slice (some ⟨w1.heap.size, 0, none⟩) o.Vals.length o.Vals.length, .bool false] 75)).drew w2.heap.size #[.int .u8 o.Kind, .int .i64 o.Of, .string ⟨#[]⟩, .slice (some ⟨w1.heap.size, 0, none⟩) o.Vals.length o.Vals.length, .bool false] 75 := has_drew (has_new w2 _ _ _ rfl)
  have B3 : Below w2.heap.size w2 (w2.alloc (.cells #[.int .u8 o.Kind, .int .i64 o.Of, .string ⟨#[]⟩, .slice (some ⟨w1.heap.size, 0, none⟩) o.Vals.length o.Vals.length, .bool false] 75)).drew := belowN ((Below.refl _ w2).alloc (Nat.le_refl _) _) 1
  have S3 : Hid ((w2.alloc (.cells #[.int .u8 o.Kind, .int .i64 o.Of, .string ⟨#[]⟩, .slice (some ⟨w1.heap.size, 0, none⟩) o.Vals.length o.Vals.length, .bool false] 75)).drew.heap.size = w2.heap.size + 1) := Lib.hid (by simp [World.drew])
  have BW := thenB (thenB B1.out B2.out) B3
  have G3 := has_belowT G2.out B3
  have N3 := has_belowT (has_belowT N1.out B2.out) B3
  have Y3 := has_belowT (has_belowT Y1.out B2.out) B3
  have H3 := has_belowT h.head BW
  have R3 := has_belowT hrb.out BW
  generalize World.drew _ = w3 at P3 B3 S3 BW G3 N3 Y3 H3 R3 ⊢
  have pc3 := has_cell P3
  have pl3 := has_lt P3
  have nc3 := has_cell N3
  have nl3 := has_lt N3
  have hc3 := has_cell H3
  have hl3 := has_lt H3
  have rl3 := has_lt R3
  have rf3 := has_free R3
  have rc3 : w3.cell? ⟨rb, i, none⟩ = some (cur[i]'hrc.out) := (has_cell R3 i).trans (Array.getElem?_eq_getElem hrc.out)
  replace P3 := Lib.hid P3
  replace B3 := Lib.hid B3
  replace BW := Lib.hid BW
  replace G3 := Lib.hid G3
  replace N3 := Lib.hid N3
  replace Y3 := Lib.hid Y3
  replace H3 := Lib.hid H3
  replace R3 := Lib.hid R3
  have gne := Lib.hid gl2
  clear z0 z1 z2 gl2
  go_wp2_with fail
  go_region
  have hbw := h.lt ((h.owns rb).2 (List.mem_append.2 (.inl (by simp [Value.ownBlock]))))
  have e1 := B1.out.size
  have e2 := B2.out.size
  have P4 : Has (w3.setCell ⟨rb, i, none⟩ (.pointer (some ⟨w2.heap.size, 0, none⟩))).drew w2.heap.size #[.int .u8 o.Kind, .int .i64 o.Of, .string ⟨#[]⟩, .slice (some ⟨w1.heap.size, 0, none⟩) o.Vals.length o.Vals.length, .bool false] 75 := has_drew (has_setCell P3.out _ _ (fun e => by have e : rb = w2.heap.size := e; omega))
  have Y4 := has_drew (has_setCell Y3.out ⟨rb, i, none⟩ (.pointer (some ⟨w2.heap.size, 0, none⟩)) (fun e => by have e : rb = w.heap.size + 1 := e; omega))
  have G4 := has_drew (has_setCell G3.out ⟨rb, i, none⟩ (.pointer (some ⟨w2.heap.size, 0, none⟩)) (fun e => by have e : rb = w1.heap.size := e; omega))
  have R4 := has_drew (has_set_same R3.out i (.pointer (some ⟨w2.heap.size, 0, none⟩)))
  have M4 : Mod (fun k => rb = k) w (w3.setCell ⟨rb, i, none⟩ (.pointer (some ⟨w2.heap.size, 0, none⟩))).drew := ((((Mod.of_below BW.out).mono (T := fun k => rb = k) fun k hk hs => absurd hk (by omega))).setCell _ _ (.inr rfl)).drew
  generalize World.drew _ = w4 at P4 Y4 G4 R4 M4 ⊢
  have V4 : w4.ownsRow 0 46 4 (.slice (some ⟨w1.heap.size, 0, none⟩) o.Vals.length o.Vals.length) o.Vals.length (vrow o.Vals) := ⟨vrow_len _, .inr ⟨_, _, _, rfl, Nat.zero_le _, G4, Nat.le_refl _, by have := HL0.out; simp only [maxLen]; omega, by simp [vrow_len], by rw [List.toList_toArray]; exact List.take_of_length_le (by simp [vrow_len])⟩⟩
  obtain ⟨v0, v1, v2, v3, v4, v5⟩ := own_cells V4 rfl hj
  have pc4 := has_cell P4
  have pl4 := has_lt P4
  have yc4 := has_cell Y4
  have yl4 := has_lt Y4
  replace P4 := Lib.hid P4
  replace Y4 := Lib.hid Y4
  replace G4 := Lib.hid G4
  replace R4 := Lib.hid R4
  replace M4 := Lib.hid M4
  replace V4 := Lib.hid V4
  replace e1 := Lib.hid e1
  replace e2 := Lib.hid e2
  replace hbw := Lib.hid hbw
  clear pc3 pl3 nc3 nl3 hc3 hl3 rl3 rf3 rc3
  go_wp2_with fail
  go_region
  all_goals
    go_wp2_with fail
    go_ret
    refine ⟨rfl, ?_⟩
    have s3 := S3.out
    have f1 := e1.out
    have f2 := e2.out
    have hlrow : w4.ownsRow 0 73 1 (.slice (some ⟨rb, 0, none⟩) H.l.length lc) ps.length (ps.set i (.pointer (some ⟨w2.heap.size, 0, none⟩))) := by
      rw [hnl.out]
      refine ⟨by rw [List.length_set, hnl.out, Nat.mul_one], .inr ⟨rb, lc, _, rfl, Nat.zero_le _, R4.out, hr1.out, hr2.out, by simpa using hr3.out, ?_⟩⟩
      rw [Array.toList_setIfInBounds, List.take_set, hr4.out]
    have A1 := swap_own (g := w1.heap.size) h HMb.out HMo.out h1 h2 h3 HQ.out (show w.heap.size ≤ w2.heap.size by omega) (by omega) (by have := has_lt G4.out; have := gne.out; omega) (v' := .slice (some ⟨w1.heap.size, 0, none⟩) o.Vals.length o.Vals.length) (by rw [HO.out]; have := P4.out; unfold objCells; rw [HT.out]; exact this) (by rw [HO.out]; exact ⟨V4.out, rfl⟩) hlrow (M4.out.mono fun k _ e => by rw [← e]; rfl)
    have A2 := put_own A1 (fun k hk => by
      rcases hk with hk | hk | hk
      · exact .inl (HMo.out k hk)
      · exact .inr (by omega)
      · exact .inr (by omega)) x (i := i) (j := j) (q := w1.heap.size) (pb := w2.heap.size) (vc := o.Vals.length) (o := o) h1 (by simpa using h2) (by simpa using h3) HO.out (by simp) (by simp) hj (by have := P4.out; unfold objCells; rw [HT.out]; exact this) V4.out
    have A3 := A2.below (belowN (Below.refl _ _) 1)
    refine ⟨_, ⟨_, _, _, A3.ext (Ext.refl _ _) (fun k _ hm => ?_) rfl fun _ _ => rfl⟩, ?_, fun k hk => ?_⟩
    · rcases hm with hm | hm | hm | hm
      · exact .inl hm
      · exact .inl (HMo.out k hm)
      · exact .inr (by omega)
      · exact .inr (by omega)
    · have m4 := (M4.out.mono (T := fun k => k = b ∨ own k) fun k _ e => .inr ((h.owns k).2 (List.mem_append.2 (.inl (by simp [Value.ownBlock, e])))))
      exact (m4.step (set4_mod _ w1.heap.size j x) fun k hk e => absurd hk (by omega)).drew
    · have z := has_lt P4.out
      have z2 := has_lt G4.out
      have z3 : ((((w4.setCell ⟨w1.heap.size, j * 4, none⟩ (.int .u8 x.Kind)).setCell ⟨w1.heap.size, j * 4 + 1, none⟩ (.int .i64 x.N)).setCell ⟨w1.heap.size, j * 4 + 2, none⟩ (.int .i64 x.Re)).setCell ⟨w1.heap.size, j * 4 + 3, none⟩ (.int .i64 x.Im)).drew.heap.size = w4.heap.size := set4_size w4 w1.heap.size j x
      rcases hk with hk | hk | hk
      · exact .inl hk
      · exact .inr (by rw [z3]; omega)
      · exact .inr (by rw [z3]; omega)
end Go.Proofs.Ytblikpgdepjhdaa

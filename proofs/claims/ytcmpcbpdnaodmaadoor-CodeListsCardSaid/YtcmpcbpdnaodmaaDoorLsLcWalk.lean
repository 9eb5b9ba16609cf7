/- Parts of the proof. -/
import Derived.Test.YtcmpcbpdnaodmaaDoorLsLcNum
import Derived.Deep.RegionHeld3
namespace Go.Proofs.YtcmpcbpdnaodmaaDoor
open Go.RowKit Go.Great
set_option linter.unusedVariables false
set_option maxHeartbeats 8000000
set_option maxRecDepth 100000
theorem mayFM_at {n : Int} : ∀ {l : List GApiEntry} {a e : Int}, mayFM n a l = some e → ∀ {i : Nat} {f : GApiEntry}, l[i]? = some f → 0 ≤ a → 0 ≤ f.At ∧ 0 ≤ f.Len ∧ f.At + f.Len ≤ n
  | [], a, e, h, i, f, hf, _ => by simp at hf
  | g :: l, a, e, h, i, f, hf, h0 => by
    rw [show mayFM n a (g :: l) = if fnOkM g a ∧ g.Len ≤ n - a then mayFM n (a + g.Len) l else none from rfl] at h
    split at h
    · rename_i c
      obtain ⟨⟨c1, c2, _⟩, c3⟩ := c
      cases i with
      | zero =>
        simp at hf
        subst hf
        omega
      | succ i => exact mayFM_at h (by simpa using hf) (by omega)
    · cases h
structure MayK (c : GApiCode) : Prop where
  ins : c.Ins.length ≤ 65536
  at_ : ∀ {i : Nat} {f : GApiEntry}, c.Fns[i]? = some f → 0 ≤ f.At ∧ 0 ≤ f.Len ∧ f.At + f.Len ≤ c.Ins.length
  op : ∀ x ∈ c.Ins, 1 ≤ x.Op ∧ x.Op ≤ 26
theorem mayK {c : GApiCode} (h : mayB c = true) : MayK c := by
  unfold mayB at h
  simp only [Bool.and_eq_true] at h
  obtain ⟨h1, h2, h3, h4⟩ := h
  cases hm : mayFM c.Ins.length 0 c.Fns with
  | none => rw [hm] at h4; cases h4
  | some e =>
    rw [hm] at h4
    simp only [Bool.and_eq_true] at h4
    refine ⟨of_decide_eq_true h2, fun hf => mayFM_at hm hf (Int.le_refl _), fun x hx => ?_⟩
    have := List.all_eq_true.1 h4.2.1 x hx
    unfold insOkM at this
    simp only [Bool.and_eq_true, decide_eq_true_eq] at this
    omega
theorem insName_len (op : Int) : (insName op).length ≤ 6 := by
  unfold insName
  cases h : insNames[op.toNat]? with
  | none => exact Nat.zero_le _
  | some s =>
    have hm := List.mem_of_getElem? h
    have : ∀ s ∈ insNames, s.length ≤ 6 := by decide
    exact this s hm
theorem insLine_len (i : Nat) (x : GApiIns) (hi : i ≤ 70000) (hA : bareB x.Op = false → -9223372036854775808 ≤ x.A ∧ x.A ≤ 9223372036854775807) : (insLine i x).length ≤ 64 := by
  unfold insLine
  have h1 := decL_len (n := (i : Int)) (by omega) (by omega)
  have h2 := insName_len x.Op
  have h3 : (if bareB x.Op then [] else 32 :: decL x.A : List UInt8).length ≤ 22 := by
    cases hb : bareB x.Op with
    | true => exact Nat.zero_le _
    | false =>
      obtain ⟨a, b⟩ := hA hb
      have := decL_len a b
      rw [if_neg (by decide), List.length_cons]
      omega
  simp only [List.length_append, List.length_singleton]
  omega
theorem listL_len : ∀ (l : List GApiIns) (i : Nat), (∀ x ∈ l, bareB x.Op = false → -9223372036854775808 ≤ x.A ∧ x.A ≤ 9223372036854775807) → i + l.length ≤ 70000 → (listL i l).length ≤ 64 * l.length
  | [], i, _, _ => Nat.zero_le _
  | x :: l, i, h, hi => by
    have h1 := listL_len l (i + 1) (fun y hy => h y (List.mem_cons_of_mem _ hy)) (by rw [List.length_cons] at hi; omega)
    have h2 := insLine_len i x (by omega) (h x List.mem_cons_self)
    show (insLine i x ++ listL (i + 1) l).length ≤ 64 * (l.length + 1)
    rw [List.length_append]
    omega
theorem cells_line (a b : List UInt8) : Lib.strCells (mkS a ++ ⟨#[32]⟩ ++ mkS b) = Lib.byteCells (a ++ ([32] ++ b)) := by
  rw [Lib.strCells_eq]
  simp [ByteArray.data_append]
theorem cells_num (a : List UInt8) : Lib.strCells (⟨#[32]⟩ ++ mkS a) = Lib.byteCells (32 :: a) := by
  rw [Lib.strCells_eq]
  simp [ByteArray.data_append]
theorem kp_drew {W : World} {q : Nat} {u : Value} {o : Obj} (h : W.cell? ⟨q, 0, none⟩ = some u ∧ W.heap[q]? = some o) : W.drew.cell? ⟨q, 0, none⟩ = some u ∧ W.drew.heap[q]? = some o := h
theorem kp_below {W W' : World} {q : Nat} {u : Value} {o : Obj} (h : W.cell? ⟨q, 0, none⟩ = some u ∧ W.heap[q]? = some o) (hb : Below W.heap.size W W') : W'.cell? ⟨q, 0, none⟩ = some u ∧ W'.heap[q]? = some o := by
  have hq : q < W.heap.size := (Array.getElem?_eq_some_iff.1 h.2).1
  exact ⟨(hb.cell (p := ⟨q, 0, none⟩) hq).trans h.1, (hb.block q hq).trans h.2⟩
theorem kp_others {W W' : World} {q b : Nat} {u : Value} {c : Array Value} {T : TypeId} (h : W.cell? ⟨q, 0, none⟩ = some u ∧ W.heap[q]? = some (.cells c T (0, 0))) (hk : Lib.OthersKept 5 (some b) W W') (hqb : q ≠ b) (hT : T ≠ 5) : W'.cell? ⟨q, 0, none⟩ = some u ∧ W'.heap[q]? = some (.cells c T (0, 0)) := by
  have h2 := hk q _ h.2 (fun e => hqb (Option.some.inj e)) (fun c' fz e => hT (by injection e))
  refine ⟨?_, h2⟩
  rw [Lib.cell_of_heap h2, ← Lib.cell_of_heap h.2]
  exact h.1
theorem listing_walk (w : World) (c : GApiCode) (v1 v2 v3 : Value) (fn : Nat) (f : GApiEntry) (hv : CodeV w (fun _ => False) c v1 v2 v3) (hf : c.Fns[fn]? = some f) (hm : mayB c = true) (hne : c.Ins ≠ []) (hl0 : f.Len ≠ 0)
    (hN : ∀ i : Nat, (i : Int) < f.Len → NumOk w i) (hA : ∀ x ∈ c.Ins, bareB x.Op = false → NumOk w x.A) :
    Calls Tryd.prog 6 #[.agg #[v1, v2, v3], .int .i64 fn] w fun e w' => e = .returned (.string (mkS (listL 0 ((c.Ins.drop f.At.toNat).take f.Len.toNat)))) ∧ Below w.heap.size w w' := by
  have hk := mayK hm
  obtain ⟨a1, k1, rfl, n1, m1, r1⟩ := rowC_of hv.r1 cellI (fun x j hj => by
    match j, hj with
    | 0, _ => rfl
    | 1, _ => rfl
    | 2, _ => rfl)
  obtain ⟨a2, k2, rfl, n2, m2, r2⟩ := rowC_of hv.r2 cellE (fun x j hj => by
    match j, hj with
    | 0, _ => rfl
    | 1, _ => rfl
    | 2, _ => rfl
    | 3, _ => rfl
    | 4, _ => rfl)
  obtain ⟨b1, o1, rfl, l1, g1⟩ := r1 hne
  obtain ⟨b2, o2, rfl, l2, g2⟩ := r2 (fun h => by rw [h] at hf; simp at hf)
  obtain ⟨hfl, hfe⟩ := List.getElem?_eq_some_iff.1 hf
  have fA := g2 fn hfl 0 (by omega)
  have fL := g2 fn hfl 1 (by omega)
  have fP := g2 fn hfl 2 (by omega)
  have fS := g2 fn hfl 3 (by omega)
  have fR := g2 fn hfl 4 (by omega)
  rw [hfe] at fA fL fP fS fR
  unfold cellE at fA fL fP fS fR
  simp only [Nat.add_zero, ← Nat.add_assoc] at fA fL fP fS fR
  obtain ⟨p0, p1, p2⟩ := hk.at_ hf
  have hi := hk.ins
  have t0 : ¬ (fn : Int) < 0 := by omega
  have t1 : (fn : Int) < c.Fns.length := by omega
  have G1 := Lib.hid g1; clear g1 r1
  have HV := Lib.hid hv; clear hv r2 g2
  have HN := Lib.hid hN; clear hN
  have HA := Lib.hid hA; clear hA
  have HM := Lib.hid hm; clear hm
  have HK := Lib.hid hk; clear hk
  obtain ⟨fa, fl, fp, fs, fr⟩ := f
  simp only at fA fL fP fS fR p0 p1 p2
  obtain ⟨at0, rfl⟩ : ∃ n : Nat, fa = (n : Int) := ⟨fa.toNat, by omega⟩
  obtain ⟨ln, rfl⟩ : ∃ n : Nat, fl = (n : Int) := ⟨fl.toNat, by omega⟩
  have t2 : ¬ c.Fns.length ≤ fn := by omega
  have t3 : ¬ k1 = at0 := by simp only at hl0; omega
  have t4 : ln ≠ 0 := by simp only at hl0; omega
  clear hl0
  go_enter Tryd.func6, Tryd.ntmps6
  go_wp2_with (go_at_call 12; go_must (refine (may_call (HV.out.to ((Below.refl _ _).alloc (Nat.le_refl _) _))).mono ?_; rintro e w1 ⟨rfl, hb1⟩; rw [HM.out]; (have h1 := (hb1.block w.heap.size (by simp)).trans (heap_alloc_last w _)); (have hw1 : Below w.heap.size w w1 := ((Below.refl _ w).alloc (Nat.le_refl _) _).trans (hb1.mono (by simp))); (have s1 : w.heap.size < w1.heap.size := by have := hb1.size; simp at this; omega); (have q0 := Lib.cell_of_heap h1 0); (have q1 := Lib.cell_of_heap h1 1); simp only [List.getElem?_toArray, List.getElem?_cons_zero, List.getElem?_cons_succ] at q0 q1; rw [← hw1.cell (p := ⟨b2, _, none⟩) l2] at fA fL fP fS fR; (have l2' : b2 < w1.heap.size := by omega); have HB := Lib.hid hw1; clear h1 hb1 hw1))
  have e0 : ((w1.alloc (Obj.cells #[Value.pointer none, Value.slice none 0 0] 42)).alloc (Obj.cells #[Value.int IntKind.i64 (at0 : Int), Value.int IntKind.i64 (ln : Int), Value.int IntKind.i64 fp, Value.int IntKind.i64 fs, Value.int IntKind.i64 fr] 39)).heap.size = w1.heap.size + 2 := by simp
  have hbl : Lib.IsBuilderF 42 5 w1.heap.size w1.heap.size (Lib.byteCells []) ((w1.alloc (Obj.cells #[Value.pointer none, Value.slice none 0 0] 42)).alloc (Obj.cells #[Value.int IntKind.i64 (at0 : Int), Value.int IntKind.i64 (ln : Int), Value.int IntKind.i64 fp, Value.int IntKind.i64 fs, Value.int IntKind.i64 fr] 39)) := (Lib.IsBuilderF.of (Lib.fresh_isBuilder 42 5 w1)).alloc _
  have hbw : Below w.heap.size w ((w1.alloc (Obj.cells #[Value.pointer none, Value.slice none 0 0] 42)).alloc (Obj.cells #[Value.int IntKind.i64 (at0 : Int), Value.int IntKind.i64 (ln : Int), Value.int IntKind.i64 fp, Value.int IntKind.i64 fs, Value.int IntKind.i64 fr] 39)) := (HB.out.alloc (by omega) _).alloc (by simp; omega) _
  generalize ((w1.alloc (Obj.cells #[Value.pointer none, Value.slice none 0 0] 42)).alloc (Obj.cells #[Value.int IntKind.i64 (at0 : Int), Value.int IntKind.i64 (ln : Int), Value.int IntKind.i64 fp, Value.int IntKind.i64 fs, Value.int IntKind.i64 fr] 39)) = W0 at e0 hbl hbw ⊢
  generalize hbk : w1.heap.size = bk at *
  clear q0 q1 fA fL fP fS fR
  go_loopw [7,8,39] (fun u7 u8 i wr => ∃ k : Nat, k ≤ ln ∧ i = .int .i64 k ∧ Lib.IsBuilderF 42 5 bk bk (Lib.byteCells (listL 0 (((c.Ins.drop at0).take ln).take k))) wr ∧ Below w.heap.size w wr ∧ bk ≤ wr.heap.size) (fun _ _ i _ => ln - (intOf i).toNat)
  case atStart => exact ⟨0, Nat.zero_le _, rfl, hbl, hbw, by omega⟩
  case round =>
    obtain ⟨k, hkl, rfl, hB, hW, hs⟩ := hrel
    by_cases hlt : k < ln
    · have hkn : at0 + k < c.Ins.length := by omega
      have hbl1 : b1 < wr.heap.size := by have := hW.size; omega
      have x0 := G1.out (at0 + k) hkn 0 (by omega)
      have x1 := G1.out (at0 + k) hkn 1 (by omega)
      have x2 := G1.out (at0 + k) hkn 2 (by omega)
      rw [← hW.cell (p := ⟨b1, _, none⟩) l1] at x0 x1 x2
      have hop := HK.out.op c.Ins[at0 + k] (List.getElem_mem hkn)
      have hA1 := HA.out c.Ins[at0 + k] (List.getElem_mem hkn)
      have hLk : ((c.Ins.drop at0).take ln).take (k + 1) = ((c.Ins.drop at0).take ln).take k ++ [c.Ins[at0 + k]] := by
        rw [List.take_add_one]
        congr 1
        rw [List.getElem?_take_of_lt hlt, List.getElem?_drop, List.getElem?_eq_getElem hkn]
        rfl
      have hacc : (listL 0 (((c.Ins.drop at0).take ln).take k)).length ≤ 64 * k := by
        have h := listL_len (((c.Ins.drop at0).take ln).take k) 0 (fun x hx hb => (HA.out x (List.mem_of_mem_drop (List.mem_of_mem_take (List.mem_of_mem_take hx))) hb).range) (by simp only [List.length_take, List.length_drop]; omega)
        simp only [List.length_take, List.length_drop] at h
        omega
      generalize c.Ins[at0 + k] = x at *
      obtain ⟨op, A, ln2⟩ := x
      unfold cellI at x0 x1 x2
      simp only at x0 x1 x2 hop hA1
      rw [show o1 + ((at0 + k) * 3 + 0) = o1 + at0 * 3 + k * 3 by omega] at x0
      rw [show o1 + ((at0 + k) * 3 + 1) = o1 + at0 * 3 + k * 3 + 1 by omega] at x1
      rw [show o1 + ((at0 + k) * 3 + 2) = o1 + at0 * 3 + k * 3 + 2 by omega] at x2
      have hk2 : (k : Int) < ln := by omega
      have HBL := Lib.hid hB; clear hB
      have HW := Lib.hid hW; clear hW
      have HA1 := Lib.hid hA1; clear hA1
      go_wp2_with fail
      have hq := heap_alloc_last wr (Obj.cells #[Value.int IntKind.u8 op, Value.int IntKind.i64 A, Value.int IntKind.i64 ln2] 37)
      have hq0 : (wr.alloc (Obj.cells #[Value.int IntKind.u8 op, Value.int IntKind.i64 A, Value.int IntKind.i64 ln2] 37)).cell? ⟨wr.heap.size, 0, none⟩ = some (.int .u8 op) := by rw [Lib.cell_of_heap hq]; rfl
      have HB1 := Lib.hid (HBL.out.alloc (Obj.cells #[Value.int IntKind.u8 op, Value.int IntKind.i64 A, Value.int IntKind.i64 ln2] 37))
      have HW1 := Lib.hid (HW.out.alloc (by have := HW.out.size; omega) (Obj.cells #[Value.int IntKind.u8 op, Value.int IntKind.i64 A, Value.int IntKind.i64 ln2] 37))
      have hz : (wr.alloc (Obj.cells #[Value.int IntKind.u8 op, Value.int IntKind.i64 A, Value.int IntKind.i64 ln2] 37)).heap.size = wr.heap.size + 1 := by simp
      generalize wr.alloc (Obj.cells #[Value.int IntKind.u8 op, Value.int IntKind.i64 A, Value.int IntKind.i64 ln2] 37) = W1 at hq hq0 HB1 HW1 hz ⊢
      have hqb : wr.heap.size ≠ bk := by
        intro e
        obtain ⟨_, v, hbk', _⟩ | ⟨_, v, hbk', _⟩ := HBL.out
        · have := (Array.getElem?_eq_some_iff.1 hbk').1; omega
        · have := (Array.getElem?_eq_some_iff.1 hbk').1; omega
      generalize hqe : wr.heap.size = q at hq hq0 hz hqb ⊢
      have hSS : W1.cell? ⟨q, 0, none⟩ = some (.int .u8 op) ∧ W1.heap[q]? = some (Obj.cells #[Value.int IntKind.u8 op, Value.int IntKind.i64 A, Value.int IntKind.i64 ln2] 37) := ⟨hq0, hq⟩
      clear x0 x1 x2 hbl1
      have HN1 := Lib.hid ((HN.out k hk2).below HW1.out)
      obtain ⟨sk, hsk⟩ : ∃ s : ByteArray, s = mkS (decL k) := ⟨_, rfl⟩
      obtain ⟨nm, hnm⟩ : ∃ s : ByteArray, s = mkS (insName op) := ⟨_, rfl⟩
      have z1 : sk.size ≤ 21 := by rw [hsk]; exact decL_len HN1.out.range.1 HN1.out.range.2
      have z2 : nm.size ≤ 6 := by rw [hnm]; exact insName_len op
      have cI : ∀ W : World, NumOk W k → Calls Tryd.prog 14 #[.int .i64 k] W fun e w' => e = .returned (.string sk) ∧ Below W.heap.size W w' := fun W h => by rw [hsk]; exact num_itoa h
      have cN : ∀ W : World, Calls Tryd.prog 7 #[.int .u8 op] W fun e w' => e = .returned (.string nm) ∧ Below W.heap.size W w' := fun W => by rw [hnm]; exact name_walk op (by omega) (by omega) W
      have CI := Lib.hid cI; clear cI
      have CN := Lib.hid cN; clear cN
      have f1 : ¬ 9223372036854775807 < sk.size + 1 := by omega
      have f2 : ¬ 9223372036854775807 < sk.size + 1 + nm.size := by omega
      have HLEN : Hid ((Lib.byteCells (listL 0 (((c.Ins.drop at0).take ln).take k))).length + (sk ++ ⟨#[32]⟩ ++ nm).size ≤ 140737488355328) := Lib.hid (by
        rw [Lib.byteCells_length, ByteArray.size_append, ByteArray.size_append]
        show _ + (sk.size + 1 + nm.size) ≤ _
        omega)
      have HBK : Hid (bk ≤ W1.heap.size) := Lib.hid (by omega)
      have Z1 := Lib.hid z1; clear z1
      have Z2 := Lib.hid z2; clear z2
      have HSK := Lib.hid hsk; clear hsk
      have HNM := Lib.hid hnm; clear hnm
      go_region_held3 (fun W => W.cell? ⟨q, 0, none⟩ = some (.int .u8 op) ∧ W.heap[q]? = some (Obj.cells #[Value.int IntKind.u8 op, Value.int IntKind.i64 A, Value.int IntKind.i64 ln2] 37)) (first | assumption | (exact kp_drew (by assumption)) | (exact kp_below (by assumption) (by assumption))) (first | (go_at_call 14; refine (CI.out _ (by exact HN1.out)).mono ?_; rintro e w2 ⟨rfl, hb2⟩) | (go_at_call 7; refine (CN.out _).mono ?_; rintro e w3 ⟨rfl, hb3⟩) | (go_at_call 13; refine (bld_string bk bk _ _ _ (bld_below (by exact (bld_below (by exact HB1.out) hb2)) hb3) HLEN.out (Nat.le_trans HBK.out (Nat.le_trans (by exact hb2.size) (by exact hb3.size)))).mono ?_; rintro e w4 ⟨rfl, hb4, hw4, ho4⟩; have hS4 := kp_others (by assumption) ho4 hqb (by decide)))
      have y0 := hS4.1
      have y1 : w4.cell? ⟨q, 1, none⟩ = some (.int .i64 A) := by rw [Lib.cell_of_heap hS4.2]; rfl
      have hq4 : q < w4.heap.size := (Array.getElem?_eq_some_iff.1 hS4.2).1
      have HW4 : Hid (Below w.heap.size w w4) := Lib.hid (((HW1.out.drew.trans (hb2.mono (by exact HW1.out.size))).trans (hb3.mono (Nat.le_trans HW1.out.size (by exact hb2.size)))).trans (hw4.mono (by have := HW.out.size; omega)))
      have HB4 := Lib.hid hb4
      have hs4 : bk ≤ w4.heap.size := by omega
      have HL5 : Hid ((Lib.byteCells (listL 0 (((c.Ins.drop at0).take ln).take k)) ++ Lib.strCells (sk ++ ⟨#[32]⟩ ++ nm)).length ≤ 7000000) := Lib.hid (by
        rw [List.length_append, Lib.strCells_length, Lib.byteCells_length, ByteArray.size_append, ByteArray.size_append]
        show _ + (sk.size + 1 + nm.size) ≤ _
        have := Z1.out; have := Z2.out
        omega)
      have HB4L : Hid ((Lib.byteCells (listL 0 (((c.Ins.drop at0).take ln).take k)) ++ Lib.strCells (sk ++ ⟨#[32]⟩ ++ nm)).length ≤ 140737488355328) := Lib.hid (by
        rw [List.length_append, Lib.strCells_length]
        exact HLEN.out)
      clear hS4 hb4 hw4 ho4 hb2 hb3 hq hq0 hSS
      have el : (((c.Ins.drop at0).take ln).take k).length = k := by
        rw [List.length_take, List.length_take, List.length_drop]
        clear f1 f2 HLEN HL5 HB4L
        omega
      have hfin : Lib.byteCells (listL 0 (((c.Ins.drop at0).take ln).take (k + 1))) = (Lib.byteCells (listL 0 (((c.Ins.drop at0).take ln).take k)) ++ Lib.strCells (sk ++ ⟨#[32]⟩ ++ nm)) ++ Lib.byteCells ((if bareB op then [] else 32 :: decL A) ++ [10]) := by
        rw [hLk, listL_snoc, HSK.out, HNM.out, cells_line, ← Lib.byteCells_append, ← Lib.byteCells_append]
        rw [el, Nat.zero_add]
        unfold insLine
        simp only [List.append_assoc]
      have HF := Lib.hid hfin; clear hfin hLk
      cases hbb : bareB op with
      | true =>
        rw [hbb] at HF
        go_wp2_with (first | (go_at_call 15; go_must (refine (bare_walk op (by omega) (by omega) _).mono ?_; rintro e w5 ⟨rfl, rfl⟩; rw [hbb])) | (go_at_call 17; go_must (refine (bld_byte bk bk _ 10 _ (.inr HB4.out) (by have := HB4L.out; have := HL5.out; omega) hs4).mono ?_; rintro e w6 ⟨rfl, hb6, hw6, ho6⟩)))
        go_roundw
        case rel =>
          rw [show at0 + ln - at0 = ln by clear f1 f2; omega]
          refine ⟨_, _, _, _, _, _, _, _, _, _, _, _, _, _, _, _, _, _, _, _, _, _, _, _, _, _, ⟨k + 1, by clear f1 f2; omega, rfl, .inr ?_, HW4.out.trans (hw6.mono (by have := HW.out.size; clear f1 f2; omega)), Nat.le_trans hs4 hw6.size⟩, rfl⟩
          rw [HF.out]
          exact hb6
        case measure => clear f1 f2; simp [intOf]; omega
      | false =>
        rw [hbb] at HF
        have HA2 := Lib.hid ((HA1.out hbb).below HW4.out)
        obtain ⟨sa, hsa⟩ : ∃ s : ByteArray, s = mkS (decL A) := ⟨_, rfl⟩
        have z3 : sa.size ≤ 21 := by rw [hsa]; exact decL_len HA2.out.range.1 HA2.out.range.2
        have cF : ∀ W : World, NumOk W A → Calls Tryd.prog 16 #[.int .i64 A, .int .i64 10] W fun e w' => e = .returned (.string sa) ∧ Below W.heap.size W w' := fun W h => by rw [hsa]; exact num_fmt h
        have CF := Lib.hid cF; clear cF
        have HSA := Lib.hid hsa; clear hsa
        have f3 : ¬ 9223372036854775807 < 1 + sa.size := by clear f1 f2; omega
        have HL6 : Hid ((Lib.byteCells (listL 0 (((c.Ins.drop at0).take ln).take k)) ++ Lib.strCells (sk ++ ⟨#[32]⟩ ++ nm)).length + (⟨#[32]⟩ ++ sa).size ≤ 8000000) := Lib.hid (by
          rw [ByteArray.size_append]
          show _ + (1 + sa.size) ≤ _
          have := HL5.out
          clear f1 f2 f3
          omega)
        have Z3 := Lib.hid z3; clear z3
        go_wp2_with (first | (go_at_call 15; go_must (refine (bare_walk op (by omega) (by omega) _).mono ?_; rintro e w5 ⟨rfl, rfl⟩; rw [hbb])) | (go_at_call 16; go_must (refine (CF.out _ HA2.out).mono ?_; rintro e w5 ⟨rfl, hb5⟩)) | (go_at_call 13; go_must (refine (bld_string bk bk _ _ _ (bld_below (.inr HB4.out) hb5) (by have := HL6.out; clear f1 f2 f3; omega) (Nat.le_trans hs4 hb5.size)).mono ?_; rintro e w6 ⟨rfl, hb6, hw6, ho6⟩)) | (go_at_call 17; go_must (refine (bld_byte bk bk _ 10 _ (.inr hb6) (by rw [List.length_append, Lib.strCells_length]; have := HL6.out; clear f1 f2 f3; omega) (Nat.le_trans hs4 (Nat.le_trans hb5.size hw6.size))).mono ?_; rintro e w7 ⟨rfl, hb7, hw7, ho7⟩)))
        go_roundw
        case rel =>
          rw [show at0 + ln - at0 = ln by clear f1 f2 f3; omega]
          refine ⟨_, _, _, _, _, _, _, _, _, _, _, _, _, _, _, _, _, _, _, _, _, _, _, _, _, _, ⟨k + 1, by clear f1 f2 f3; omega, rfl, .inr ?_, HW4.out.trans ((hb5.mono (by exact HW4.out.size)).trans ((hw6.mono (by have := HW.out.size; clear f1 f2 f3; omega)).trans (hw7.mono (by have := HW.out.size; clear f1 f2 f3; omega)))), Nat.le_trans hs4 (Nat.le_trans hb5.size (Nat.le_trans hw6.size hw7.size))⟩, rfl⟩
          rw [HF.out, if_neg (by decide), Lib.byteCells_append, ← cells_num, ← HSA.out, ← List.append_assoc]
          exact hb7
        case measure => clear f1 f2 f3; simp [intOf]; omega
    · have hk2 : ¬ (k : Int) < ln := by omega
      have hbl1 : b1 < wr.heap.size := by have := hW.size; omega
      have HBL := Lib.hid hB; clear hB
      have HW := Lib.hid hW; clear hW
      go_wp2_with (go_at_call 18; go_must (refine (Tryd.Builder_String_any_k bk bk _ _ HBL.out hs).mono ?_; rintro e w2 ⟨rfl, _, hb2, _⟩))
      go_ret
      have ek : k = ln := by omega
      subst ek
      refine ⟨?_, HW.out.trans (hb2.mono (by have := HW.out.size; omega))⟩
      simp only [Int.toNat_natCast]
      have e2 : ((c.Ins.drop at0).take k).take k = (c.Ins.drop at0).take k := by rw [List.take_take, Nat.min_self]
      rw [e2]
      rfl
end Go.Proofs.YtcmpcbpdnaodmaaDoor

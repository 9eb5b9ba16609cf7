/- Parts of the proof. -/
import Derived.Test.YtblikpgdepjhdaaHbHpPut6
namespace Go.Proofs.Ytblikpgdepjhdaa
open Go.RowKit
set_option maxRecDepth 100000
set_option linter.unusedVariables false
def ocell (o : GApiObj) (v : Value) : List Value := [.int .u8 o.Kind, .int .i64 o.Of, .string (mkS o.Text), v]
def ocells : List GApiObj → List Value → List Value
  | o :: l, v :: vs => ocell o v ++ ocells l vs
  | _, _ => []
theorem ocells_snoc : ∀ (l : List GApiObj) (vs : List Value) (o : GApiObj) (v : Value), l.length = vs.length → ocells (l ++ [o]) (vs ++ [v]) = ocells l vs ++ ocell o v
  | [], [], o, v, _ => by simp [ocells]
  | a :: l, b :: vs, o, v, h => by simp [ocells, ocells_snoc l vs o v (by simpa using h)]
  | [], b :: vs, o, v, h => by simp at h
  | a :: l, [], o, v, h => by simp at h
theorem ocells_len : ∀ (l : List GApiObj) (vs : List Value), l.length = vs.length → (ocells l vs).length = l.length * 4
  | [], [], _ => rfl
  | a :: l, b :: vs, h => by simp [ocells, ocell, ocells_len l vs (by simpa using h)]; omega
  | [], b :: vs, h => by simp at h
  | a :: l, [], h => by simp at h
structure AllR (l : List GApiObj) (w wr : World) (k : Nat) (vs : List Value) (v : Value) : Prop where
  below : Below w.heap.size w wr
  own : wr.ownsRow w.heap.size 27 4 v k (ocells (l.take k) vs)
  len : vs.length = k
  vals : ∀ i (h : i < vs.length) (h' : i < l.length), ∃ g, valsAt wr vs[i] l[i].Vals g ∧ ∀ q, g = some q → w.heap.size ≤ q ∧ v.ownBlock ≠ some q
  apart : ∀ i j q n n' c c' (hi : i < vs.length) (hj : j < vs.length), i < j → vs[i] = .slice (some ⟨q, 0, none⟩) n c → vs[j] = .slice (some ⟨q, 0, none⟩) n' c' → n ≠ 0 → n' ≠ 0 → False
theorem valsAt_blk {w : World} {v : Value} {l : List GApiValue} {g : Option Nat} (h : valsAt w v l g) {k n c : Nat} (e : v = .slice (some ⟨k, 0, none⟩) n c) (hn : n ≠ 0) : g = some k := by
  subst e
  cases g with
  | none => obtain ⟨_, a, c', _, e⟩ := h; cases e; exact absurd rfl hn
  | some g => rw [← h.2]; rfl
theorem objinfo : ∃ i, Try.prog.info? 27 = some i ∧ i.zero = some (.agg #[.int .u8 0, .int .i64 0, .string ⟨#[]⟩, .slice none 0 0]) ∧ i.size = 4 ∧ i.bytes = 56 := ⟨_, rfl, by kernel_rfl, by kernel_rfl, by kernel_rfl⟩
theorem meas (n k : Nat) (h : k < n) : n - (intOf (.int .i64 ((k + 1 : Nat) : Int))).toNat < n - (intOf (.int .i64 (k : Int))).toNat := by simp only [intOf, Int.toNat_natCast]; omega
theorem wpList_append_elemN {P : Program} {w : World} {ops : Array Oper} {rest : List Oper} {o : Oper} {a : Act} {Q : Exit → Act → World → Prop} (hgd : o.guard = none) (s x : Operand) (t : TypeId)
    (ho : o.op = .call { callee := .builtin .append, args := #[s, x], argTypes := #[t, t] })
    (base : Nat) (e : TypeId) (i : TypeInfo) (z : Value) (size bytes : Nat) (ht : P.underlying t = some (.slice e)) (hi : P.info? e = some i) (hz : i.zero = some z)
    (hsize : i.size = size) (hby : i.bytes = bytes) (hzs : z.cells.size = size) (hsz : 0 < size)
    (a0 : Option Addr) (c0 n : Nat) (xs us : List Value) (et : TypeId) (hs : a.eval s = .slice a0 n c0) (hown : w.ownsRow base e size (.slice a0 n c0) n xs)
    (nb : Nat) (hx : a.eval x = .slice (some ⟨nb, 0, none⟩) 1 1) (hnb : nb = w.heap.size) (hl : us.length = size) (h1 : ∀ u ∈ us, u.oneCell' = true)
    (h63 : n + 1 ≤ maxLen) (hbytes : (n + 1) * bytes ≤ 140737488355328) (hbase : base ≤ w.heap.size)
    (h : ∀ a' c' w', w'.ownsRow base e size (.slice a' (n + 1) c') (n + 1) (xs ++ us) → w.grownBy w' (Value.ownBlock (.slice a0 n c0)) → (∀ g, Value.ownBlock (.slice a' (n + 1) c') = some g → Value.ownBlock (.slice a0 n c0) = some g ∨ w.heap.size ≤ g) → wpList P ops Q rest (a.put o.dst (.slice a' (n + 1) c')) w') :
    wpList P ops Q (o :: rest) a (w.alloc (.cells us.toArray et)) := by
  subst hnb
  exact wpList_append_elem hgd s x t ho base e i z size bytes ht hi hz hsize hby hzs hsz a0 c0 n xs us et hs hown hx hl h1 h63 hbytes hbase h
theorem allR_next {l : List GApiObj} {w wr w1 w2 : World} {k : Nat} {vs : List Value} {a a' va2 : Option Addr} {c c' vc2 : Nat} {o : GApiObj} {g : Option Nat} {ob : Obj} {x : Value} (A : AllR l w wr k vs (.slice a k c)) (hk : k ≤ l.length) (hlt : k < l.length) (hok : l[k] = o)
    (hb1 : Below (wr.alloc ob).heap.size (wr.alloc ob) w1) (hv1 : valsAt w1 (.slice va2 o.Vals.length vc2) o.Vals g) (hg1 : ∀ q, g = some q → (wr.alloc ob).heap.size ≤ q)
    (ho : w2.ownsRow w.heap.size 27 4 (.slice a' (k + 1) c') (k + 1) (ocells (l.take k) vs ++ ocell o (.slice va2 o.Vals.length vc2))) (hg : (w1.setCell ⟨wr.heap.size, 3, none⟩ x).grownBy w2 (Value.ownBlock (.slice a k c)))
    (hpl : ∀ q, Value.ownBlock (.slice a' (k + 1) c') = some q → Value.ownBlock (.slice a k c) = some q ∨ (w1.setCell ⟨wr.heap.size, 3, none⟩ x).heap.size ≤ q) : AllR l w w2 (k + 1) (vs ++ [.slice va2 o.Vals.length vc2]) (.slice a' (k + 1) c') := by
  have hsb := A.below.size
  have hs1 := hb1.size
  simp only [World.size_alloc, World.size_setCell] at hs1 hg1 hpl
  have hold : ∀ g, Value.ownBlock (.slice a k c) = some g → w.heap.size ≤ g ∧ g < wr.heap.size := fun g hx => by
    refine ⟨?_, owns_lt A.own hx⟩
    rcases A.own.2 with ⟨e1, e2⟩ | ⟨g', cap, cur, e, h3, _⟩
    · first | (rw [e1] at hx; simp [Value.ownBlock] at hx) | (rw [e2] at hx; simp [Value.ownBlock] at hx)
    · rw [e] at hx; simp [Value.ownBlock] at hx; omega
  have key : ∀ q, q < w1.heap.size → q ≠ wr.heap.size → Value.ownBlock (.slice a k c) ≠ some q → w2.heap[q]? = w1.heap[q]? := fun q h1 h2 h3 => by
    rw [hg.block q (by simp; omega) (fun e => h3 e.symm), Below.heap_setCell _ _ _ _ (by show q ≠ wr.heap.size; omega)]
  have key0 : ∀ q, q < wr.heap.size → Value.ownBlock (.slice a k c) ≠ some q → w2.heap[q]? = wr.heap[q]? := fun q h1 h3 => by
    rw [key q (by omega) (by omega) h3, hb1.block q (by simp; omega)]
    exact row_alloc_old _ _ _ h1
  refine ⟨?_, ?_, ?_, ?_, ?_⟩
  · have hsz2 := hg.size
    simp only [World.size_setCell] at hsz2
    refine ⟨hg.os.trans (hb1.os.trans A.below.os), hg.tape.trans (hb1.tape.trans A.below.tape), hg.output.trans (hb1.output.trans A.below.output), by omega, fun q hq => ?_⟩
    rw [key0 q (by omega) (fun e => by have := hold q e; omega)]
    exact A.below.block q hq
  · have e : l.take (k + 1) = l.take k ++ [o] := by rw [← List.take_append_getElem hlt, hok]
    have e2 : (l.take k).length = vs.length := by rw [List.length_take, A.len, Nat.min_eq_left hk]
    rw [e, ocells_snoc _ _ _ _ e2]
    exact ho
  · simp [A.len]
  · intro i hi hi'
    by_cases hik : i < vs.length
    · obtain ⟨g', r1, r2⟩ := A.vals i hik hi'
      rw [List.getElem_append_left hik]
      refine ⟨g', valsAt_eq r1 fun q hq => ?_, fun q hq => ⟨(r2 q hq).1, fun e => ?_⟩⟩
      · subst hq; exact key0 q (owns_lt r1.1 r1.2) (r2 q rfl).2
      · subst hq
        have hql := owns_lt r1.1 r1.2
        rcases hpl q e with h | h
        · exact (r2 q rfl).2 h
        · omega
    · have hik' : i = vs.length := by simp at hi; omega
      subst hik'
      rw [List.getElem_append_right (Nat.le_refl _)]
      simp only [Nat.sub_self, List.getElem_cons_zero]
      have e : l[vs.length] = o := by rw [← hok]; congr 1; exact A.len
      rw [e]
      refine ⟨g, valsAt_eq hv1 fun q hq => ?_, fun q hq => ⟨by have := hg1 q hq; omega, fun e => ?_⟩⟩
      · have h1 := hg1 q hq
        subst hq
        exact key q (owns_lt hv1.1 hv1.2) (by omega) fun e => by have := hold q e; omega
      · have h1 := hg1 q hq
        subst hq
        have h2 := owns_lt hv1.1 hv1.2
        rcases hpl q e with h | h
        · have := hold q h; omega
        · omega
  · intro i j q n n' c1 c2 hi hj hij e1 e2 n1 n2
    have hi2 : i < vs.length := by simp at hj; omega
    rw [List.getElem_append_left hi2] at e1
    by_cases hjk : j < vs.length
    · rw [List.getElem_append_left hjk] at e2
      exact A.apart i j q n n' c1 c2 hi2 hjk hij e1 e2 n1 n2
    · have hj' : j = vs.length := by simp at hj; omega
      subst hj'
      rw [List.getElem_append_right (Nat.le_refl _)] at e2
      simp only [Nat.sub_self, List.getElem_cons_zero] at e2
      obtain ⟨g', r1, r2⟩ := A.vals i hi2 (by have := A.len; omega)
      have h1 := valsAt_blk r1 e1 n1
      subst h1
      have h2 := owns_lt r1.1 r1.2
      have h3 := hg1 q (valsAt_blk hv1 e2 n2)
      omega
set_option maxHeartbeats 8000000 in
set_option maxRecDepth 100000 in
theorem heap_All {H : GHeapHeap} {M own : Nat → Prop} {b : Nat} {pls : List OPl} {ps : List Value} {lv : Value} {w : World} (h : HeapAt H w M own b pls ps lv) (hvb : ∀ o ∈ H.l, o.Vals.length ≤ 65536) :
    Calls Try.prog 14 #[.pointer (some ⟨b, 0, none⟩)] w fun e w' => ∃ v vs, e = .returned v ∧ AllR H.l w w' H.l.length vs v := by
  obtain ⟨i1, hi1, hy0, hy1, hy2⟩ := objinfo
  have hbd : (H.l.length : Int) ≤ 65536 := by have := h.wf; omega
  have hc := has_cell h.head
  have hsz := has_lt h.head
  have hrow : w.ownsRow 0 73 1 lv H.l.length ps := by have := h.row; rw [h.n2] at this; exact this
  obtain ⟨la, lc, rfl⟩ := owns_slice hrow
  have HR := Lib.hid hrow
  have HV := Lib.hid hvb
  have HB := Lib.hid hbd
  clear hrow hvb hbd
  go_enter Try.func14, Try.ntmps14
  go_wp2_with fail
  go_loopw [3, 14] (fun v q wr => ∃ (k : Nat) (vs : List Value), q = .int .i64 k ∧ k ≤ H.l.length ∧ AllR H.l w wr k vs v) (fun _ q _ => H.l.length - (intOf q).toNat)
  case atStart => exact ⟨0, [], rfl, Nat.zero_le _, Below.refl _ _, ⟨rfl, .inl (by first | exact ⟨rfl, rfl⟩ | exact ⟨rfl, trivial⟩)⟩, rfl, fun i h => by simp at h, fun i j q n n' c c' hi => by simp at hi⟩
  case round =>
    obtain ⟨k, vs, rfl, hk, hA⟩ := hrel
    have HA := Lib.hid hA
    by_cases hkn : k = H.l.length
    · clear hA
      have ht : ¬ (k : Int) < H.l.length := by omega
      go_wp2_with fail
      go_ret
      have := HA.out
      rw [hkn] at this
      exact ⟨_, rfl, vs, this⟩
    · have hlt : k < H.l.length := by omega
      have ht : (k : Int) < H.l.length := by omega
      have hk0 : (0 : Int) ≤ k := by omega
      have hp : k < ps.length := by rw [h.n2]; exact hlt
      have hq : k < pls.length := by rw [h.n1]; exact hlt
      have h' := h.below hA.below
      obtain ⟨pb, off, ov, fl, hpe, o0, o1, o2, o3, o4, o5, o6⟩ := obj_cells (h'.objs k hlt hp hq)
      rw [Nat.add_zero] at o1
      have hla : ∃ rb, la = some ⟨rb, 0, none⟩ ∧ rb < wr.heap.size ∧ wr.cell? ⟨rb, k, none⟩ = some (.pointer (some ⟨pb, off, none⟩)) := by
        have row := h'.row
        rw [h'.n2] at row
        rcases row.2 with ⟨e1, e2⟩ | ⟨g', cap, cur, e, _⟩
        · exact absurd (show H.l.length = 0 by first | exact e1 | exact e2) (by omega)
        · cases e
          refine ⟨g', rfl, owns_lt row rfl, ?_⟩
          have := row.cells (g := g') rfl k (ps[k]) (List.getElem?_eq_getElem hp)
          have hadd : (⟨g', 0, none⟩ : Addr).add k = ⟨g', k, none⟩ := by unfold Addr.add; split <;> simp_all
          rw [hadd, hpe] at this
          exact this
      obtain ⟨rb, rfl, hrb, hrc⟩ := hla
      obtain ⟨ova, ovc, rfl, _⟩ := id o6
      obtain ⟨a, c, rfl⟩ := owns_slice hA.own
      have hvl := HV.out H.l[k] (List.getElem_mem hlt)
      replace hvl := Lib.hid hvl
      replace o6 := Lib.hid o6
      replace hpe := Lib.hid hpe
      replace h' := Lib.hid h'
      have hk2 : Hid (k ≤ 65536) := Lib.hid (by have := HB.out; omega)
      have hsb : w.heap.size ≤ wr.heap.size := hA.below.size
      generalize hok : H.l[k] = o at *
      replace hok := Lib.hid hok
      clear hA hc
      go_wp2_with (first
        | (go_at_call 31; go_must (refine (clone_vals (l := o.Vals) (o6.out.below ((Below.refl _ wr).alloc (Nat.le_refl _) _)) (by have := hvl.out; omega)).mono ?_; rintro e w1 ⟨v1, g, rfl, hb1, hv1, hg1⟩; obtain ⟨va, vc, rfl⟩ := vals_slice hv1; have L1 := has_belowT (has_new wr wr.heap.size _ _ rfl) hb1; have lc1 := has_cell L1; have lf1 := has_free L1; have ll1 := has_lt L1; replace hv1 := Lib.hid hv1; replace hg1 := Lib.hid hg1; have OW := ownsRow_eq HA.out.own (w' := w1.setCell ⟨wr.heap.size, 3, none⟩ (.slice va o.Vals.length vc)) (fun g hg => by have hl := owns_lt HA.out.own hg; rw [Below.heap_setCell _ _ _ _ (by show g ≠ wr.heap.size; omega)]; exact (hb1.block g (by simp; omega)).trans (row_alloc_old _ _ _ hl)); replace OW := Lib.hid OW; replace L1 := Lib.hid L1))
        | (at_builtin; go_must (refine wpList_append_elemN rfl _ _ 22 rfl w.heap.size 27 i1 (.agg #[.int .u8 0, .int .i64 0, .string ⟨#[]⟩, .slice none 0 0]) 4 56 (by kernel_rfl) hi1 hy0 hy1 hy2 rfl (by decide) a c k (ocells (H.l.take k) vs) [.int .u8 o.Kind, .int .i64 o.Of, .string (mkS o.Text), .slice va o.Vals.length vc] 27 rfl OW.out _ rfl (by simp) rfl (by simp [Value.oneCell']) (by have := hk2.out; simp only [maxLen]; omega) (by have := hk2.out; omega) (by have := hb1.size; simp at this ⊢; omega) ?_); go_must (intro a' c' w2 ho hgr hpl; replace ho := Lib.hid ho; replace hgr := Lib.hid hgr; replace hpl := Lib.hid hpl)))
      have wk : RowKit.wrap64 ((k : Int) + 1) = ((k + 1 : Nat) : Int) := by have := hk2.out; unfold RowKit.wrap64; omega
      rw [wk]
      exact ⟨⟨k + 1, _, rfl, hlt, allR_next HA.out hk hlt hok.out hb1 hv1.out hg1.out ho.out hgr.out hpl.out⟩, meas _ _ hlt⟩
end Go.Proofs.Ytblikpgdepjhdaa

/- Parts of the proof. -/
import Derived.Test.YtblikpgdepjhdaaHbXF
import Derived.Test.YtblikpgdepjhdaaHbBase
import Derived.Test.YtblikpgdepjhdaaChecked
import Derived.WalkSpells
import Derived.Deep.RegionLaw
import Derived.Laws.ResultCell
import Derived.RegionTactic
import Derived.BigRegion
namespace Go.Proofs.Ytblikpgdepjhdaa
open Go.RowKit
set_option linter.unusedVariables false
structure GHeapHeap where
  room : Int
  cells : Int
  l : List GApiObj
inductive OPl where
  | shared
  | own (b : Nat) (g : Option Nat)
def OPl.bs : OPl → List Nat
  | .shared => []
  | .own b g => b :: g.toList
def vcells (x : GApiValue) : List Value := [.int .u8 x.Kind, .int .i64 x.N, .int .i64 x.Re, .int .i64 x.Im]
def vrow (l : List GApiValue) : List Value := l.flatMap vcells
def valsAt (w : World) (v : Value) (l : List GApiValue) : Option Nat → Prop
  | none => l = [] ∧ ∃ a c, c ≤ maxLen ∧ v = .slice a 0 c
  | some g => w.ownsRow 0 46 4 v l.length (vrow l) ∧ v.ownBlock = some g
def objCells (o : GApiObj) (v : Value) : Array Value := #[.int .u8 o.Kind, .int .i64 o.Of, .string (mkS o.Text), v, .bool false]
def ShF (w : World) (p : Value) : Prop := ∀ b off, p = .pointer (some ⟨b, off, none⟩) → w.frozen? ⟨b, off + 4, none⟩ = false
theorem fp_block {w : World} {M : Nat → Prop} {cells : List T} {b off : Nat} (h : RepT w M (.fp cells) (.pointer (some ⟨b, off, none⟩))) : b < w.heap.size ∧ ¬ M b := by
  generalize hx : T.fp cells = x at h
  generalize hv : Value.pointer (some ⟨b, off, none⟩) = v at h
  cases h with
  | fp cells b' off' c hb hM hc hr => cases hv; exact ⟨hb, hM⟩
  | v x h => cases hx
  | nil => cases hx
  | sl => cases hx
  | clo => cases hx
  | any => cases hx
def objAt (w : World) (M : Nat → Prop) (o : GApiObj) (p : Value) : OPl → Prop
  | .shared => RepT w M (.fp (c_GHeapObject ⟨o, true⟩)) p ∧ ShF w p
  | .own b g => p = .pointer (some ⟨b, 0, none⟩) ∧ ∃ v, Has w b (objCells o v) 75 ∧ valsAt w v o.Vals g
structure HeapAt (H : GHeapHeap) (w : World) (M own : Nat → Prop) (b : Nat) (pls : List OPl) (ps : List Value) (lv : Value) : Prop where
  wf : (H.l.length : Int) ≤ H.cells ∧ H.cells ≤ H.room ∧ H.room ≤ 65536
  n1 : pls.length = H.l.length
  n2 : ps.length = H.l.length
  head : Has w b #[.int .i64 H.room, .int .i64 H.cells, lv] 72
  row : w.ownsRow 0 73 1 lv ps.length ps
  objs : ∀ i (h1 : i < H.l.length) (h2 : i < ps.length) (h3 : i < pls.length), objAt w M H.l[i] ps[i] pls[i]
  nodup : (b :: (lv.ownBlock.toList ++ pls.flatMap OPl.bs)).Nodup
  owns : ∀ k, own k ↔ k ∈ lv.ownBlock.toList ++ pls.flatMap OPl.bs
theorem ownsRow_eq {w w' : World} {base : Nat} {e : TypeId} {k : Nat} {v : Value} {n : Nat} {xs : List Value} (h : w.ownsRow base e k v n xs) (hb : ∀ g, v.ownBlock = some g → w'.heap[g]? = w.heap[g]?) : w'.ownsRow base e k v n xs := by
  refine ⟨h.1, ?_⟩
  rcases h.2 with ⟨h1, h2⟩ | ⟨g, cap, cur, rfl, h3, h4, h5⟩
  · exact .inl ⟨h1, h2⟩
  · exact .inr ⟨g, cap, cur, rfl, h3, by rw [hb g (by simp [Value.ownBlock])]; exact h4, h5⟩
theorem valsAt_eq {w w' : World} {v : Value} {l : List GApiValue} {g : Option Nat} (h : valsAt w v l g) (hb : ∀ k, g = some k → w'.heap[k]? = w.heap[k]?) : valsAt w' v l g := by
  cases g with
  | none => exact h
  | some g => exact ⟨ownsRow_eq h.1 fun k hk => hb k (by rw [← h.2, hk]), h.2⟩
theorem objAt_eq {w w' : World} {M M' : Nat → Prop} {o : GApiObj} {p : Value} {q : OPl} (h : objAt w M o p q) (he : Ext M w w') (hM : ∀ k, k < w.heap.size → M' k → M k) (hb : ∀ k ∈ q.bs, w'.heap[k]? = w.heap[k]?) : objAt w' M' o p q := by
  cases q with
  | shared =>
    refine ⟨RepT.ext h.1 he hM, fun b off e => ?_⟩
    subst e
    obtain ⟨h1, h2⟩ := fp_block h.1
    exact (World.frozen?_of_block (he.block b h1 h2)).trans (h.2 b off rfl)
  | own b g =>
    obtain ⟨h1, v, h2, h3⟩ := h
    exact ⟨h1, v, (hb b (by simp [OPl.bs])).trans h2, valsAt_eq h3 fun k hk => hb k (by simp [OPl.bs, hk])⟩
theorem HeapAt.ext {H : GHeapHeap} {w w' : World} {M M' own : Nat → Prop} {b : Nat} {pls : List OPl} {ps : List Value} {lv : Value} (h : HeapAt H w M own b pls ps lv) (he : Ext M w w') (hM : ∀ k, k < w.heap.size → M' k → M k)
    (hb : w'.heap[b]? = w.heap[b]?) (ho : ∀ k, own k → w'.heap[k]? = w.heap[k]?) : HeapAt H w' M' own b pls ps lv :=
  ⟨h.wf, h.n1, h.n2, hb.trans h.head, ownsRow_eq h.row fun g hg => ho g ((h.owns g).2 (List.mem_append.2 (.inl (by simp [hg])))),
    fun i h1 h2 h3 => objAt_eq (h.objs i h1 h2 h3) he hM fun k hk => ho k ((h.owns k).2 (List.mem_append.2 (.inr (List.mem_flatMap.2 ⟨_, List.getElem_mem h3, hk⟩)))), h.nodup, h.owns⟩
def rep_GHeapHeap (H : GHeapHeap) : RepP where
  rep := fun w M own b => ∃ pls ps lv, HeapAt H w M own b pls ps lv
  ext := fun ⟨pls, ps, lv, h⟩ he hM hb ho => ⟨pls, ps, lv, h.ext he hM hb ho⟩
end Go.Proofs.Ytblikpgdepjhdaa
namespace Go.Proofs.Ytblikpgdepjhdaa
open Go.RowKit
set_option linter.unusedVariables false
def objSize (kind : Int) (text : List UInt8) (n : Nat) : Int := if kind = 3 then RowKit.wrap64 (1 + RowKit.wrap64 ((RowKit.wrap64 ((text.length : Int) + 7)).tdiv 8)) else RowKit.wrap64 (1 + (n : Int))
set_option maxRecDepth 100000 in
theorem heap_size (kind of_ : Int) (text : List UInt8) (a : Option Addr) (n c : Nat) (w : World) :
    Calls Try.prog 49 #[.agg #[.int .u8 kind, .int .i64 of_, .string (mkS text), .slice a n c]] w fun e w' => e = .returned (.int .i64 (objSize kind text n)) ∧ Below w.heap.size w w' := by
  have hts : (mkS text).size = text.length := by simp [ByteArray.size]
  by_cases hk : kind = 3
  · subst hk
    go_enter Try.func49, Try.ntmps49
    go_wp2_with fail
    go_ret
    exact ⟨by simp [objSize], (Below.refl _ w).alloc (Nat.le_refl _) _⟩
  · go_enter Try.func49, Try.ntmps49
    go_wp2_with fail
    go_ret
    exact ⟨by simp [objSize, hk], (Below.refl _ w).alloc (Nat.le_refl _) _⟩
theorem step_append_own2 {P : Program} {ops : Array Oper} {o : Oper} {a : Act} {w : World} {K : Act → World → Prop} {Q : Exit → Act → World → Prop} {E : Prop}
    (hgd : o.guard = none) (s x : Operand) (t : TypeId) (ho : o.op = Op.call { callee := Callee.builtin Builtin.append, args := #[s, x], argTypes := #[t, t] })
    (base : Nat) (e : TypeId) (i : TypeInfo) (z : Value) (size bytes : Nat) (ht : P.underlying t = some (.slice e)) (hi : P.info? e = some i) (hz : i.zero = some z)
    (hsize : i.size = size) (hby : i.bytes = bytes) (hzs : z.cells.size = size) (hsz : 0 < size)
    (v : Value) (n : Nat) (xs : List Value) (hs : a.eval s = v) (hown : w.ownsRow base e size v n xs)
    (ad : Addr) (m c : Nat) (news : List Value) (hx : a.eval x = .slice (some ad) m c) (hl : news.length = m * size) (hnews : ∀ j u, news[j]? = some u → w.cell? (ad.add j) = some u) (h1 : ∀ u ∈ news, u.oneCell' = true)
    (h63 : n + m ≤ maxLen) (hbytes : (n + m) * bytes ≤ 140737488355328) (hbase : base ≤ w.heap.size)
    (hK : ∀ a' c' w', w'.ownsRow base e size (.slice a' (n + m) c') (n + m) (xs ++ news) → w.grownBy w' v.ownBlock → (∀ g, Value.ownBlock (.slice a' (n + m) c') = some g → v.ownBlock = some g ∨ w.heap.size ≤ g) → K (a.put o.dst (.slice a' (n + m) c')) w') :
    if Region.wanted o (yielded ops a.tmps) = true then Oper.wp P o a w K Q else E := by
  have hw : Region.wanted o (yielded ops a.tmps) = true := by simp [Region.wanted, hgd]
  rw [if_pos hw]
  subst hsize; subst hby
  obtain ⟨v', w', hr, h2, h3, h4⟩ := run_append_own2 (P := P) w base t o.type e i z ht hi hz hzs hsz v n xs hown ad m c news hl hnews h1 h63 hbytes hbase
  have hv : ∃ a' c', v' = .slice a' (n + m) c' := by
    rcases h2.2 with ⟨rfl, h0⟩ | ⟨g, cap, cur, rfl, _⟩
    · rw [h0]; exact ⟨_, _, rfl⟩
    · exact ⟨_, _, rfl⟩
  obtain ⟨a', c', rfl⟩ := hv
  unfold Oper.wp execOp
  simp only [ho, resolve, invoke, builtin, Sem.run_bind, Sem.run_pure, Result.andThen_ok, List.map_toArray, List.map_cons, List.map_nil, hs, hx, hr]
  exact hK _ _ _ h2 h3 h4
theorem owns_lt {w : World} {base : Nat} {e : TypeId} {k : Nat} {v : Value} {n : Nat} {xs : List Value} (h : w.ownsRow base e k v n xs) {g : Nat} (hg : v.ownBlock = some g) : g < w.heap.size := by
  rcases h.2 with ⟨h1, h2⟩ | ⟨q, cap, cur, rfl, _, h4, _⟩
  · first | (rw [h1] at hg; simp [Value.ownBlock] at hg) | (rw [h2] at hg; simp [Value.ownBlock] at hg)
  · simp [Value.ownBlock] at hg; subst hg; exact lt_of_block h4
theorem has_drewN_eq {w : World} {k : Nat} (n : Nat) : (w.drewN n).heap[k]? = w.heap[k]? := rfl
theorem ownsRow_alloc2 {w : World} {base : Nat} {e : TypeId} {k : Nat} {v : Value} {n : Nat} {xs : List Value} (h : w.ownsRow base e k v n xs) {o1 o2 : Obj} : ((w.drew.alloc o1).alloc o2).ownsRow base e k v n xs := ownsRow_eq h fun g hg => (row_alloc_old _ _ _ (by have := owns_lt h hg; simp; omega)).trans (row_alloc_old _ _ _ (owns_lt h hg))
theorem ptrinfo : (Try.prog.info? 73).map (fun i => (i.zero, i.size, i.bytes)) = some (some (.pointer none), 1, 8) := by kernel_rfl
theorem ret_row_tmp {P : Program} {fn : Func} {R : Ending → World → Prop} {a : Act} {w : World} {p u : Tmp} {ty : TypeId} (h : fn.results = #[.cell p ty, .tmp u]) (g : Nat) (t : TypeId) (cs : Array Value) (fr : Nat × Nat) (d : TypeDesc)
    (hp : a.tmps.getD p undef = .pointer (some ⟨g, 0, none⟩)) (hg : w.heap[g]? = some (.cells cs t fr))
    (hu : P.underlying ty = some d) (hd : (match d with | .struct _ | .array _ _ => true | _ => false) = true) (hi : (P.info? ty).map (·.size) = some cs.size)
    (hde : a.defers = []) (y : Value) (hy : a.tmps.getD u undef = y) (hR : R (.returned (.tuple #[.agg cs, y])) w) : bodyPost P fn R .ret a w :=
  bodyPost_ret (by
    rw [results_cell_tmp h, hp, hy]
    simp [asAddr, Sem.run_pure, Result.andThen_ok, run_loadVar_row w g t ty cs fr d hg hu hd hi]) hde hR
theorem new_cells (w : World) (us : List Value) (t : TypeId) (b : Nat) (hb : b = w.heap.size) : ∀ j u, us[j]? = some u → (w.alloc (.cells us.toArray t)).cell? ((⟨b, 0, none⟩ : Addr).add j) = some u := by
  subst hb
  intro j u hj
  have hadd : (⟨w.heap.size, 0, none⟩ : Addr).add j = ⟨w.heap.size, j, none⟩ := by unfold Addr.add; split <;> simp_all
  rw [hadd, World.cell?_alloc_at _ _ _ _ rfl]
  simpa using hj
structure Added (H : GHeapHeap) (o : GApiObj) (v : Value) (b n : Nat) (ps : List Value) (lv : Value) (w w' : World) (p : Nat) (a' : Option Addr) (c' : Nat) : Prop where
  fresh : w.heap.size ≤ p
  head : Has w' b #[.int .i64 H.room, .int .i64 (H.cells + objSize o.Kind o.Text o.Vals.length), .slice a' (n + 1) c'] 72
  obj : Has w' p (objCells o v) 75
  row : w'.ownsRow 0 73 1 (.slice a' (n + 1) c') (n + 1) (ps ++ [.pointer (some ⟨p, 0, none⟩)])
  rowB : ∀ g, Value.ownBlock (.slice a' (n + 1) c') = some g → lv.ownBlock = some g ∨ (w.heap.size ≤ g ∧ g ≠ p)
  mod : Mod (fun k => k = b ∨ lv.ownBlock = some k) w w'
set_option maxHeartbeats 8000000 in
set_option maxRecDepth 100000 in
theorem heap_add (H : GHeapHeap) (M own : Nat → Prop) (b : Nat) (pls : List OPl) (ps : List Value) (lv : Value) (o : GApiObj) (v : Value) (g : Option Nat) (w : World) (h : HeapAt H w M own b pls ps lv) (hv : valsAt w v o.Vals g) (hsz0 : 0 ≤ objSize o.Kind o.Text o.Vals.length) :
    Calls Try.prog 32 #[.pointer (some ⟨b, 0, none⟩), .agg #[.int .u8 o.Kind, .int .i64 o.Of, .string (mkS o.Text), v]] w fun e w' =>
      (H.room - H.cells < objSize o.Kind o.Text o.Vals.length ∧ e = .returned (.tuple #[.agg #[.int .u8 0, .int .i64 0, .int .i64 0, .int .i64 0], .bool false]) ∧ Below w.heap.size w w') ∨
      (¬ H.room - H.cells < objSize o.Kind o.Text o.Vals.length ∧ e = .returned (.tuple #[.agg #[.int .u8 o.Kind, .int .i64 ((H.l.length + 1 : Nat) : Int), .int .i64 0, .int .i64 0], .bool true]) ∧ ∃ p a' c', Added H o v b H.l.length ps lv w w' p a' c') := by
  obtain ⟨wf, n1, n2, head, row, objs, nodup, owns⟩ := h
  obtain ⟨wf1, wf2, wf3⟩ := wf
  rw [n2] at row
  replace n2 := Lib.hid n2
  have ws : IntKind.i64.wrap (H.room - H.cells) = H.room - H.cells := by rw [IntKind.wrap_i64]; omega
  have hc := has_cell head
  have hf := has_free head
  have hsz := has_lt head
  have hvs : ∃ a c, v = .slice a o.Vals.length c := by
    cases g with
    | none => obtain ⟨h1, a, c, _, h2⟩ := hv; exact ⟨a, c, by rw [h2, h1]; rfl⟩
    | some g => exact owns_slice hv.1
  obtain ⟨va, vc, rfl⟩ := hvs
  have hbl : ∀ g, lv.ownBlock = some g → g ≠ b := fun g hg e => by
    have := (List.nodup_cons.1 nodup).1
    exact this (List.mem_append.2 (.inl (by rw [hg, e]; simp)))
  have hrl : ∀ g, lv.ownBlock = some g → g < w.heap.size := fun g hg => owns_lt row hg
  generalize hk : objSize o.Kind o.Text o.Vals.length = K at hsz0 ⊢
  by_cases hlt : H.room - H.cells < K
  · generalize hPost : (fun (e : Ending) (w' : World) => (H.room - H.cells < K ∧ e = .returned (.tuple #[.agg #[.int .u8 0, .int .i64 0, .int .i64 0, .int .i64 0], .bool false]) ∧ Below w.heap.size w w') ∨ (¬ H.room - H.cells < K ∧ e = .returned (.tuple #[.agg #[.int .u8 o.Kind, .int .i64 ((H.l.length + 1 : Nat) : Int), .int .i64 0, .int .i64 0], .bool true]) ∧ ∃ p a' c', Added H o (.slice va o.Vals.length vc) b H.l.length ps lv w w' p a' c')) = Post
    go_enter Try.func32, Try.ntmps32
    go_wp2_with (go_at_call 49; go_must (refine (heap_size o.Kind o.Of o.Text va o.Vals.length vc _).mono ?_; rw [hk]; rintro e w1 ⟨rfl, hb⟩; have X1 := has_belowT (has_alloc (has_alloc head _) _) hb; have N1 := has_belowT (has_new (w.alloc _) _ _ _ rfl) hb; have hc1 := has_cell X1; have hf1 := has_free X1; have hs1 := has_lt X1; have nc1 := has_cell N1; have nf1 := has_free N1; have ns1 := has_lt N1; simp only [World.size_alloc] at N1 nc1 nf1 ns1; replace X1 := Lib.hid X1; replace N1 := Lib.hid N1))
    go_quiet (fail)
    go_wp2_with fail
    have N2 := has_drewN (has_set_same (has_set_same (has_set_same (has_set_same N1.out 0 (.int .u8 0)) 1 (.int .i64 0)) 2 (.int .i64 0)) 3 (.int .i64 0)) nq
    have B2 : Below w.heap.size w ((((((w1.setCell ⟨w.heap.size + 1, 0, none⟩ (.int .u8 0)).setCell ⟨w.heap.size + 1, 1, none⟩ (.int .i64 0)).setCell ⟨w.heap.size + 1, 2, none⟩ (.int .i64 0)).setCell ⟨w.heap.size + 1, 3, none⟩ (.int .i64 0)).drewN nq)) := belowN (((((((Below.refl _ w).alloc (Nat.le_refl _) _).alloc (by simp) _).trans (hb.mono (by simp; omega))).setCell (by simp) _).setCell (by simp) _).setCell (by simp) _ |>.setCell (by simp) _) nq
    refine ret_row_tmp (p := 4) (u := 5) (by rfl) (w.heap.size + 1) 46 _ (0, 0) _ (by rfl) N2 Try.underlying46 rfl (by kernel_rfl) (by rfl) (.bool false) (by rfl) ?_
    subst hPost
    exact .inl ⟨hlt, rfl, B2⟩
  · have wc : RowKit.wrap64 (H.cells + K) = H.cells + K := by unfold RowKit.wrap64; omega
    generalize hPost : (fun (e : Ending) (w' : World) => (H.room - H.cells < K ∧ e = .returned (.tuple #[.agg #[.int .u8 0, .int .i64 0, .int .i64 0, .int .i64 0], .bool false]) ∧ Below w.heap.size w w') ∨ (¬ H.room - H.cells < K ∧ e = .returned (.tuple #[.agg #[.int .u8 o.Kind, .int .i64 ((H.l.length + 1 : Nat) : Int), .int .i64 0, .int .i64 0], .bool true]) ∧ ∃ p a' c', Added H o (.slice va o.Vals.length vc) b H.l.length ps lv w w' p a' c')) = Post
    go_enter Try.func32, Try.ntmps32
    go_wp2_with (go_at_call 49; go_must (refine (heap_size o.Kind o.Of o.Text va o.Vals.length vc _).mono ?_; rw [hk]; rintro e w1 ⟨rfl, hb⟩; have X1 := has_belowT (has_alloc (has_alloc head _) _) hb; have N1 := has_belowT (has_new (w.alloc _) _ _ _ rfl) hb; have O1 := has_belowT (has_alloc (has_new w _ _ _ rfl) _) hb; have hc1 := has_cell X1; have hf1 := has_free X1; have hs1 := has_lt X1; have nc1 := has_cell N1; have nf1 := has_free N1; have ns1 := has_lt N1; have oc1 := has_cell O1; have of1 := has_free O1; have os1 := has_lt O1; simp only [World.size_alloc] at N1 nc1 nf1 ns1; replace X1 := Lib.hid X1; replace N1 := Lib.hid N1; replace O1 := Lib.hid O1))
    go_quiet (fail)
    go_wp2_with fail
    try simp only [wc]
    have X2 : Has _ b #[.int .i64 H.room, .int .i64 (H.cells + K), lv] 72 := has_drewN (has_set_same X1.out 1 (.int .i64 (H.cells + K))) nq
    have O2 := has_drewN (has_setCell O1.out ⟨b, 1, none⟩ (.int .i64 (H.cells + K)) (fun e => by have e' : b = w.heap.size := e; omega)) nq
    have N2 := has_drewN (has_setCell N1.out ⟨b, 1, none⟩ (.int .i64 (H.cells + K)) (fun e => by have e' : b = w.heap.size + 1 := e; omega)) nq
    have R2 : World.ownsRow (World.drewN _ nq) 0 73 1 lv H.l.length ps := ownsRow_eq row fun g hg => (has_drewN_eq nq).trans ((Below.heap_setCell w1 ⟨b, 1, none⟩ (.int .i64 (H.cells + K)) g (hbl g hg)).trans ((hb.block g (by have := owns_lt row hg; simp; omega)).trans ((row_alloc_old _ _ _ (by have := owns_lt row hg; simp; omega)).trans (row_alloc_old _ _ _ (owns_lt row hg)))))
    have M2 : Mod (fun k => k = b ∨ lv.ownBlock = some k) w ((w1.setCell ⟨b, 1, none⟩ (.int .i64 (H.cells + K))).drewN nq) := (((((Mod.refl _ w).alloc _).alloc _).trans (Mod.of_below hb |>.mono (fun k hk h => by omega))).setCell ⟨b, 1, none⟩ _ (.inr (.inl rfl))).drewN nq
    generalize World.drewN _ nq = w2 at X2 O2 N2 R2 M2 ⊢
    have xc2 := has_cell X2
    have xf2 := has_free X2
    have xs2 := has_lt X2
    have oc2 := has_cell O2
    have of2 := has_free O2
    have os2 := has_lt O2
    have ns2 := has_lt N2
    clear hc1 hf1 hs1 nc1 nf1 ns1 oc1 of1 os1 hc hf
    obtain ⟨i0, hi, hz0, hz1, hz2⟩ := info_parts ptrinfo
    have hlen : H.l.length ≤ 65536 := by omega
    replace X2 := Lib.hid X2
    replace O2 := Lib.hid O2
    replace N2 := Lib.hid N2
    replace R2 := Lib.hid R2
    replace M2 := Lib.hid M2
    go_region_law (refine step_append_own2 rfl (.tmp 33) (.tmp 37) 70 rfl 0 73 i0 (.pointer none) 1 8 (by kernel_rfl) hi hz0 hz1 hz2 rfl (by decide) lv H.l.length ps (by simp [Act.eval]) (ownsRow_alloc2 R2.out) ⟨w2.heap.size + 1, 0, none⟩ 1 1 [.pointer (some ⟨w2.heap.size, 0, none⟩)] (by simp [Act.eval]) rfl (new_cells _ [_] _ _ (by simp)) (by simp [Value.oneCell']) (by simp [maxLen]; omega) (by omega) (Nat.zero_le _) ?_; intro a' c' w' h1 h2 h3; have X3 : Has w' b _ 72 := (h2.block b (by simp; omega) (fun e => hbl b e.symm rfl)).trans (has_alloc (has_alloc (has_drew X2.out) _) _); have xc3 := has_cell X3; have xf3 := has_free X3; have xs3 := has_lt X3; have O3 : Has w' w.heap.size _ 27 := (h2.block _ (by simp; omega) (fun e => by have := hrl _ e.symm; omega)).trans (has_alloc (has_alloc (has_drew O2.out) _) _); have N3 : Has w' (w.heap.size + 1) _ 46 := (h2.block _ (by simp; omega) (fun e => by have := hrl _ e.symm; omega)).trans (has_alloc (has_alloc (has_drew N2.out) _) _); have P3 : Has w' w2.heap.size _ 75 := (h2.block _ (by simp; omega) (fun e => by have := hrl _ e.symm; have := M2.out.size; omega)).trans (has_alloc (has_new w2.drew w2.heap.size _ _ rfl) _); have M3 := h2)
    all_goals
      have X4 := has_set_same X3 2 (.slice a' (H.l.length + 1) c')
      have xc4 := has_cell X4
      have xf4 := has_free X4
      have xs4 := has_lt X4
      have O4 := has_setCell O3 ⟨b, 2, none⟩ (.slice a' (H.l.length + 1) c') (fun e => by have e' : b = w.heap.size := e; omega)
      have N4 := has_setCell N3 ⟨b, 2, none⟩ (.slice a' (H.l.length + 1) c') (fun e => by have e' : b = w.heap.size + 1 := e; omega)
      have P4 := has_setCell P3 ⟨b, 2, none⟩ (.slice a' (H.l.length + 1) c') (fun e => by have e' : b = w2.heap.size := e; omega)
      have oc4 := has_cell O4
      have of4 := has_free O4
      have os4 := has_lt O4
      have nc4 := has_cell N4
      have nf4 := has_free N4
      have ns4 := has_lt N4
      generalize hw4 : World.setCell w' ⟨b, 2, none⟩ _ = w4 at X4 O4 N4 P4 xc4 xf4 xs4 oc4 of4 os4 nc4 nf4 ns4 ⊢
      clear xc3 xf3 xs3
      go_wp2_with fail
      go_region
      all_goals
        go_wp2_with fail
        have N5 := has_drew (has_set_same (has_set_same (has_set_same (has_set_same N4 0 (.int .u8 o.Kind)) 1 (.int .i64 ((H.l.length : Int) + 1))) 2 (.int .i64 0)) 3 (.int .i64 0))
        refine ret_row_tmp (p := 4) (u := 5) (by rfl) (w.heap.size + 1) 46 _ (0, 0) _ (by rfl) N5 Try.underlying46 rfl (by kernel_rfl) (by rfl) (.bool true) (by rfl) ?_
        subst hPost
        subst hw4
        have hw2 := M2.out.size
        refine .inr ⟨hlt, by simp, w2.heap.size, a', c', hw2, ?_, ?_, ?_, ?_, ?_⟩
        · rw [hk]
          exact has_drew (has_setCell (has_setCell (has_setCell (has_setCell X4 _ _ (fun e => by have e' : w.heap.size + 1 = b := e; omega)) _ _ (fun e => by have e' : w.heap.size + 1 = b := e; omega)) _ _ (fun e => by have e' : w.heap.size + 1 = b := e; omega)) _ _ (fun e => by have e' : w.heap.size + 1 = b := e; omega))
        · exact has_drew (has_setCell (has_setCell (has_setCell (has_setCell P4 _ _ (fun e => by have e' : w.heap.size + 1 = w2.heap.size := e; omega)) _ _ (fun e => by have e' : w.heap.size + 1 = w2.heap.size := e; omega)) _ _ (fun e => by have e' : w.heap.size + 1 = w2.heap.size := e; omega)) _ _ (fun e => by have e' : w.heap.size + 1 = w2.heap.size := e; omega))
        · refine ownsRow_eq h1 fun g hg => ?_
          have hg1 : g ≠ b ∧ g ≠ w.heap.size + 1 := by
            rcases h3 g hg with h | h
            · have q1 := hbl g h
              have q2 := hrl g h
              omega
            · have h' : w2.heap.size + 2 ≤ g := by simpa using h
              omega
          show (World.setCell _ _ _).heap[g]? = _
          rw [Below.heap_setCell _ _ _ _ hg1.2, Below.heap_setCell _ _ _ _ hg1.2, Below.heap_setCell _ _ _ _ hg1.2, Below.heap_setCell _ _ _ _ hg1.2, Below.heap_setCell _ _ _ _ hg1.1]
        · intro g hg
          rcases h3 g hg with h | h
          · exact .inl h
          · have h' : w2.heap.size + 2 ≤ g := by simpa using h
            exact .inr (by omega)
        · have M5 : Mod (fun k => k = b ∨ lv.ownBlock = some k) w w' := ((M2.out.alloc _).alloc _).drew.step (Mod.of_grown h2) (fun i hi h => .inr h.symm)
          exact (((((M5.setCell _ _ (.inr (.inl rfl))).setCell _ _ (.inl (by simp))).setCell _ _ (.inl (by simp))).setCell _ _ (.inl (by simp))).setCell _ _ (.inl (by simp))).drew
end Go.Proofs.Ytblikpgdepjhdaa
namespace Go.Proofs.Ytblikpgdepjhdaa
open Go.RowKit
set_option linter.unusedVariables false
theorem objAt_lt {w : World} {M : Nat → Prop} {o : GApiObj} {p : Value} {q : OPl} (h : objAt w M o p q) {k : Nat} (hk : k ∈ q.bs) : k < w.heap.size := by
  cases q with
  | shared => simp [OPl.bs] at hk
  | own b g =>
    obtain ⟨_, v, h2, h3⟩ := h
    simp only [OPl.bs, List.mem_cons] at hk
    rcases hk with rfl | hk
    · exact has_lt h2
    · cases g with
      | none => simp at hk
      | some g => simp at hk; subst hk; exact owns_lt h3.1 h3.2
theorem HeapAt.lt {H : GHeapHeap} {w : World} {M own : Nat → Prop} {b : Nat} {pls : List OPl} {ps : List Value} {lv : Value} (h : HeapAt H w M own b pls ps lv) {k : Nat} (hk : own k) : k < w.heap.size := by
  rcases List.mem_append.1 ((h.owns k).1 hk) with h1 | h1
  · cases hl : lv.ownBlock with
    | none => rw [hl] at h1; simp at h1
    | some g => rw [hl] at h1; simp at h1; subst h1; exact owns_lt h.row hl
  · obtain ⟨q, hq, hkq⟩ := List.mem_flatMap.1 h1
    obtain ⟨i, hi, rfl⟩ := List.getElem_of_mem hq
    exact objAt_lt (h.objs i (by rw [← h.n1]; exact hi) (by rw [h.n2, ← h.n1]; exact hi) hi) hkq
def GHeapHeap.plus (H : GHeapHeap) (o : GApiObj) : GHeapHeap := ⟨H.room, H.cells + objSize o.Kind o.Text o.Vals.length, H.l ++ [o]⟩
theorem added_heap {H : GHeapHeap} {o : GApiObj} {v : Value} {g : Option Nat} {M own : Nat → Prop} {b : Nat} {pls : List OPl} {ps : List Value} {lv : Value} {w w' : World} {p : Nat} {a' : Option Addr} {c' : Nat}
    (h : HeapAt H w M own b pls ps lv) (hv : valsAt w v o.Vals g) (ad : Added H o v b H.l.length ps lv w w' p a' c') (hk : 1 ≤ objSize o.Kind o.Text o.Vals.length) (hlt : ¬ H.room - H.cells < objSize o.Kind o.Text o.Vals.length)
    (hg : ∀ k, g = some k → k ≠ b ∧ ¬ own k ∧ k < w.heap.size ∧ M k) (hown : ∀ k, own k → M k) (hb : M b) :
    ∃ own', HeapAt (H.plus o) w' (fun k => M k ∨ own' k) own' b (pls ++ [.own p g]) (ps ++ [.pointer (some ⟨p, 0, none⟩)]) (.slice a' (H.l.length + 1) c') ∧ ∀ k, own' k → own k ∨ g = some k ∨ (w.heap.size ≤ k ∧ k < w'.heap.size) := by
  obtain ⟨f1, f2, f3, f4, f5, f6⟩ := ad
  have hlv : ∀ k, lv.ownBlock = some k → own k := fun k hk => (h.owns k).2 (List.mem_append.2 (.inl (by simp [hk])))
  have hE : Ext M w w' := ⟨f6.size, fun k hk hm => f6.block k hk (fun hs => hm (hs.elim (fun e => e ▸ hb) fun e => hown _ (hlv _ e)))⟩
  have hF : ∀ k, k ∈ pls.flatMap OPl.bs → own k := fun k hk => (h.owns k).2 (List.mem_append.2 (.inr hk))
  have hbn := (List.nodup_cons.1 h.nodup).1
  have hnd := (List.nodup_cons.1 h.nodup).2
  have hbl : b < w.heap.size := has_lt h.head
  have hrow : ∀ k, Value.ownBlock (.slice a' (H.l.length + 1) c') = some k → k ≠ b ∧ k ≠ p ∧ g ≠ some k ∧ k ∉ pls.flatMap OPl.bs ∧ (own k ∨ w.heap.size ≤ k) := fun k hk => by
    rcases f5 k hk with h1 | ⟨h1, h2⟩
    · have hko := hlv k h1
      have hlt' := h.lt hko
      refine ⟨fun e => hbn (e ▸ List.mem_append.2 (.inl (by simp [h1]))), by omega, fun e => (hg k e).2.1 hko, fun hm => ?_, .inl hko⟩
      rw [List.nodup_append] at hnd
      exact hnd.2.2 k (by simp [h1]) k hm rfl
    · exact ⟨by omega, h2, fun e => by have := (hg k e).2.2.1; omega, fun hm => by have := h.lt (hF k hm); omega, .inr h1⟩
  have hfm : (pls ++ [OPl.own p g]).flatMap OPl.bs = pls.flatMap OPl.bs ++ (p :: g.toList) := by simp [OPl.bs]
  refine ⟨fun k => k ∈ (Value.ownBlock (.slice a' (H.l.length + 1) c')).toList ++ (pls ++ [OPl.own p g]).flatMap OPl.bs, ⟨?_, ?_, ?_, ?_, ?_, ?_, ?_, fun k => Iff.rfl⟩, ?_⟩
  · obtain ⟨w1, w2, w3⟩ := h.wf
    simp only [GHeapHeap.plus, List.length_append, List.length_singleton]
    omega
  · simp [GHeapHeap.plus, h.n1]
  · simp [GHeapHeap.plus, h.n2]
  · exact f2
  · have : (ps ++ [Value.pointer (some ⟨p, 0, none⟩)]).length = H.l.length + 1 := by simp [h.n2]
    rw [this]; exact f4
  · intro i h1 h2 h3
    by_cases hi : i < H.l.length
    · have hp : i < pls.length := by rw [h.n1]; exact hi
      have hq : i < ps.length := by rw [h.n2]; exact hi
      have e1 : (H.plus o).l[i] = H.l[i] := by simp only [GHeapHeap.plus]; exact List.getElem_append_left hi
      rw [e1, List.getElem_append_left hq, List.getElem_append_left hp]
      refine objAt_eq (h.objs i hi hq hp) hE (fun k hk hm => ?_) fun k hk => ?_
      · rcases hm with hm | hm
        · exact hm
        · rcases List.mem_append.1 hm with hm | hm
          · rcases (hrow k (by simpa using hm)).2.2.2.2 with h | h
            · exact hown k h
            · omega
          · rw [hfm] at hm
            rcases List.mem_append.1 hm with hm | hm
            · exact hown k (hF k hm)
            · rcases List.mem_cons.1 hm with rfl | hm
              · omega
              · exact (hg k (by simpa using hm)).2.2.2
      · have hk' : k ∈ pls.flatMap OPl.bs := List.mem_flatMap.2 ⟨_, List.getElem_mem hp, hk⟩
        refine f6.block k (h.lt (hF k hk')) fun hs => ?_
        rcases hs with rfl | hs
        · exact hbn (List.mem_append.2 (.inr hk'))
        · rw [List.nodup_append] at hnd
          exact hnd.2.2 k (by simp [hs]) k hk' rfl
    · have e : i = H.l.length := by simp [GHeapHeap.plus] at h1; omega
      subst e
      have e1 : (H.plus o).l[H.l.length]'h1 = o := by simp [GHeapHeap.plus]
      have e2 : (ps ++ [Value.pointer (some ⟨p, 0, none⟩)])[H.l.length]'h2 = .pointer (some ⟨p, 0, none⟩) := by simp [← h.n2]
      have e3 : (pls ++ [OPl.own p g])[H.l.length]'h3 = .own p g := by simp [← h.n1]
      rw [e1, e2, e3]
      refine ⟨rfl, v, f3, valsAt_eq hv fun k hk => f6.block k (hg k hk).2.2.1 fun hs => ?_⟩
      rcases hs with hs | hs
      · exact (hg k hk).1 hs
      · exact (hg k hk).2.1 (hlv k hs)
  · rw [hfm]
    have hgp : ∀ k, g = some k → k ≠ p := fun k hk => by have := (hg k hk).2.2.1; omega
    refine List.nodup_cons.2 ⟨fun hm => ?_, ?_⟩
    · rcases List.mem_append.1 hm with hm | hm
      · exact (hrow b (by simpa using hm)).1 rfl
      · rcases List.mem_append.1 hm with hm | hm
        · exact hbn (List.mem_append.2 (.inr hm))
        · rcases List.mem_cons.1 hm with hm | hm
          · omega
          · exact (hg b (by simpa using hm)).1 rfl
    · refine List.nodup_append.2 ⟨?_, List.nodup_append.2 ⟨(List.nodup_append.1 hnd).2.1, ?_, ?_⟩, ?_⟩
      · cases Value.ownBlock (.slice a' (H.l.length + 1) c') <;> simp
      · refine List.nodup_cons.2 ⟨fun hm => hgp p (by simpa using hm) rfl, ?_⟩
        cases g <;> simp
      · intro k hk q hq e
        subst e
        have hko := hF k hk
        rcases List.mem_cons.1 hq with rfl | hq
        · have := h.lt hko; omega
        · exact (hg k (by simpa using hq)).2.1 hko
      · intro k hk q hq e
        subst e
        obtain ⟨q1, q2, q3, q4, q5⟩ := hrow k (by simpa using hk)
        rcases List.mem_append.1 hq with hq | hq
        · exact q4 hq
        · rcases List.mem_cons.1 hq with hq | hq
          · exact q2 hq
          · exact q3 (by simpa using hq)
  · intro k hk
    have hpl : p < w'.heap.size := has_lt f3
    rcases List.mem_append.1 hk with hk | hk
    · rcases (hrow k (by simpa using hk)).2.2.2.2 with h | h
      · exact .inl h
      · exact .inr (.inr ⟨h, owns_lt f4 (by simpa using hk)⟩)
    · rw [hfm] at hk
      rcases List.mem_append.1 hk with hk | hk
      · exact .inl (hF k hk)
      · rcases List.mem_cons.1 hk with rfl | hk
        · exact .inr (.inr ⟨f1, hpl⟩)
        · exact .inr (.inl (by simpa using hk))
end Go.Proofs.Ytblikpgdepjhdaa
namespace Go.Proofs.Ytblikpgdepjhdaa
open Go.RowKit
set_option linter.unusedVariables false
theorem heap_io {P : Program} {f : FuncId} {xs : List A} {H H' : GHeapHeap} {r : A} (hpl : plainFn P f = true) (hr : scal3 r = true) (hfl : ∀ a ∈ xs, flat2 a = true)
    (h : ∀ (w : World) (M own : Nat → Prop) (b : Nat) (pls : List OPl) (ps : List Value) (lv : Value) (vals : Array Value), HeapAt H w M own b pls ps lv → (∀ k, M k → k < w.heap.size) → M b → (∀ k, own k → M k) → vals.size = xs.length + 1 →
      vals.getD 0 undef = .pointer (some ⟨b, 0, none⟩) → (∀ i (hi : i < xs.length), RepF w M (xs[i]) (vals.getD (i + 1) undef)) →
      Calls P f vals w fun e w' => ∃ v own', e = .returned v ∧ RepF w' (fun _ => False) r v ∧ (∃ pls ps lv, HeapAt H' w' (fun k => M k ∨ own' k) own' b pls ps lv) ∧ Mod (fun k => k = b ∨ own k) w w' ∧ ∀ k, own' k → own k ∨ (w.heap.size ≤ k ∧ k < w'.heap.size)) :
    FnIO P f (A.ob 900 :: xs) [(900, .obj (.any (rep_GHeapHeap H)))] r [(900, .obj (.any (rep_GHeapHeap H')))] := by
  refine ⟨hpl, fun C L vals hP hpin hs hsz hrep => ?_⟩
  have hmem : (mst [(900, Blk.obj (.any (rep_GHeapHeap H)))]).mem 900 = some (.obj (.any (rep_GHeapHeap H))) := rfl
  obtain ⟨b, ob, hb, hw, pls, ps, lv, hat⟩ := (hs.mem 900 _ hmem).2
  have hM : ∀ k, Mut C (mst [(900, Blk.obj (.any (rep_GHeapHeap H)))]) L k → k < C.w0.heap.size := fun k hk => by
    rcases hk with hx | ⟨i, h1, h2⟩
    · exact hs.old k hx
    · exact (hs.out i k h1 h2).2.1
  have hMb : Mut C (mst [(900, Blk.obj (.any (rep_GHeapHeap H)))]) L b := .inr ⟨900, rfl, .inl hb⟩
  have hMo : ∀ k, (L 900).own k → Mut C (mst [(900, Blk.obj (.any (rep_GHeapHeap H)))]) L k := fun k hk => .inr ⟨900, rfl, .inr hk⟩
  have hv0 : vals.getD 0 undef = .pointer (some ⟨b, 0, none⟩) := by
    have h0 := hrep 0 (by simp)
    simp only [List.getElem_cons_zero] at h0
    generalize vals.getD 0 undef = v0 at h0
    cases h0 with
    | ob _ _ h1 hu hq => rw [hq _ hmem]; simp [Loc.ob, Od.isMap, hb]
  refine (h C.w0 _ (L 900).own b pls ps lv vals hat hM hMb hMo (by simpa using hsz) hv0 fun i hi => ?_).mono ?_
  · have := hrep (i + 1) (by simpa using hi)
    simp only [List.getElem_cons_succ] at this
    exact repF_of (hfl _ (List.getElem_mem hi)) this
  rintro e w' ⟨v, own', rfl, hrv, ⟨pls', ps', lv', hat'⟩, hmod, hown'⟩
  have key : ∀ (Hx : GHeapHeap) i, ((mst [(900, Blk.obj (.any (rep_GHeapHeap Hx)))]).mem i).isSome = true → i = 900 := fun Hx i hi => by
    by_cases e : i = 900
    · exact e
    · simp [mkSt, look, e] at hi
  have keyU : ∀ (Hx : GHeapHeap) i, (mst [(900, Blk.obj (.any (rep_GHeapHeap Hx)))]).used i = true → i = 900 := fun Hx i hi => key Hx i hi
  have hsim : SimL C (mst [(900, Blk.obj (.any (rep_GHeapHeap H')))]) (upd L 900 ⟨some b, (L 900).cap, own'⟩) noAct w' := by
    refine hs.next0 rfl rfl rfl hmod.os hmod.tape hmod.output hmod.size (fun k hk hn => hmod.block k hk fun hx => hn ⟨900, rfl, ?_⟩) (fun i hi => ?_) (fun i hi b' hb' => ?_) (fun i k hi hl => ?_) (fun i j k hi hj _ _ => by rw [key _ i hi, key _ j hj]) (fun i hi hf => ?_) (fun i b' hb' => ?_) (fun t => .inl ⟨rfl, rfl⟩)
    · rcases hx with rfl | hx
      · exact .inl hb
      · exact .inr hx
    · rw [keyU _ i hi]; rfl
    · have := keyU _ i hi
      subst this
      refine ⟨_, hmem, ?_, ?_⟩
      · cases hb'; rfl
      · rw [upd_same]; exact ⟨hb.symm, rfl⟩
    · have := key _ i hi
      subst this
      rw [upd_same] at hl
      rcases hl with hl | hl
      · exact .inr ⟨900, rfl, .inl (by rw [hb]; exact hl)⟩
      · rcases hown' k hl with h1 | h1
        · exact .inr ⟨900, rfl, .inr h1⟩
        · exact .inl h1
    · have := key _ i hi
      subst this
      cases hf
    · have := key H' i (by rw [hb']; rfl)
      subst this
      cases hb'
      refine ⟨rfl, .inr ⟨b, _, by rw [upd_same], hat'.head, ?_⟩⟩
      rw [upd_same]
      refine ⟨pls', ps', lv', hat'.ext (Ext.refl _ _) (fun k hk hm => ?_) rfl fun _ _ => rfl⟩
      rcases hm with hx | ⟨i, hi, hl⟩
      · exact .inl (.inl hx)
      · have := key _ i hi
        subst this
        rw [upd_same] at hl
        rcases hl with hl | hl
        · cases hl; exact .inl hMb
        · exact .inr hl
  exact ⟨v, _, rfl, hsim, repF_to (scal_any hr hrv)⟩
end Go.Proofs.Ytblikpgdepjhdaa
namespace Go.Proofs.Ytblikpgdepjhdaa
open Go.RowKit
set_option linter.unusedVariables false
def ValsR (w : World) (v : Value) (l : List GApiValue) : Prop :=
  ∃ a c, v = .slice a l.length c ∧ ∀ i (hi : i < l.length), ∃ g off, a = some ⟨g, off, none⟩ ∧ g < w.heap.size ∧ ∀ j (hj : j < 4), w.cell? ⟨g, off + (i * 4 + j), none⟩ = (vcells l[i])[j]?
theorem flat4 {α : Type} (f : α → List Value) (k : Nat) (hk : ∀ x, (f x).length = k) : ∀ (l : List α) (i j : Nat) (hi : i < l.length), j < k → (l.flatMap f)[i * k + j]? = (f l[i])[j]?
  | x :: l, 0, j, _, hj => by
    rw [List.flatMap_cons, Nat.zero_mul, Nat.zero_add, List.getElem?_append_left (by rw [hk]; exact hj)]; rfl
  | x :: l, i + 1, j, hi, hj => by
    rw [List.flatMap_cons, List.getElem?_append_right (by rw [hk, Nat.add_mul]; omega), hk]
    rw [show (i + 1) * k + j - k = i * k + j by rw [Nat.add_mul]; omega]
    exact flat4 f k hk l i j (by simpa using hi) hj
theorem valsR_own {w : World} {v : Value} {l : List GApiValue} {g : Option Nat} (h : valsAt w v l g) : ValsR w v l := by
  cases g with
  | none =>
    obtain ⟨rfl, a, c, _, rfl⟩ := h
    exact ⟨a, c, rfl, fun i hi => by simp at hi⟩
  | some g =>
    obtain ⟨h1, h2⟩ := h
    obtain ⟨a, c, rfl⟩ := owns_slice h1
    refine ⟨a, c, rfl, fun i hi => ?_⟩
    have ha : a = some ⟨g, 0, none⟩ := by
      rcases h1.2 with ⟨e1, e2⟩ | ⟨g', cap, cur, e, _⟩
      · rw [show l.length = 0 by first | exact e1 | exact e2] at hi; omega
      · cases e
        simp [Value.ownBlock] at h2
        rw [h2]
    subst ha
    refine ⟨g, 0, rfl, owns_lt h1 rfl, fun j hj => ?_⟩
    have hx := flat4 vcells 4 (fun x => rfl) l i j hi hj
    have hlt : j < (vcells l[i]).length := hj
    have := h1.cells (g := g) rfl (i * 4 + j) ((vcells l[i])[j]) (by unfold vrow; rw [hx]; exact List.getElem?_eq_getElem hlt)
    have hadd : (⟨g, 0, none⟩ : Addr).add (i * 4 + j) = ⟨g, 0 + (i * 4 + j), none⟩ := by unfold Addr.add; split <;> simp_all
    rw [hadd] at this
    rw [this]; exact (List.getElem?_eq_getElem hlt).symm
theorem repT_v {w : World} {M : Nat → Prop} {x y : Value} (h : RepT w M (.v x) y) : y = x := by
  generalize hz : T.v x = z at h
  cases h <;> cases hz
  rfl
theorem valsR_t {w : World} {M : Nat → Prop} {v : Value} {l : List GApiValue} (h : RepT w M (.sl 4 (l.map c_GApiValue)) v) : ValsR w v l := by
  generalize hx : l.map c_GApiValue = xs at h
  cases h with
  | nil k a cap hcm =>
    have : l = [] := List.map_eq_nil_iff.1 hx
    subst this
    exact ⟨a, cap, rfl, fun i hi => by simp at hi⟩
  | sl k xs b off cap c hb hM hcap hcm hk hc hr =>
    have hl : xs.length = l.length := by rw [← hx]; simp
    rw [hl]
    refine ⟨_, cap, rfl, fun i hi => ⟨b, off, rfl, hb, fun j hj => ?_⟩⟩
    have hi' : i < xs.length := by omega
    rw [hc i hi' j hj]
    have hxi : xs[i] = c_GApiValue l[i] := by subst hx; simp
    have hjl : j < (xs[i]).length := by rw [hxi]; exact hj
    have := hr i hi' j hjl
    match j, hj with
    | 0, _ => rw [show xs[i][0] = tI .u8 l[i].Kind by simp [hxi, c_GApiValue]] at this; rw [repT_v this]; rfl
    | 1, _ => rw [show xs[i][1] = tI .i64 l[i].N by simp [hxi, c_GApiValue]] at this; rw [repT_v this]; rfl
    | 2, _ => rw [show xs[i][2] = tI .i64 l[i].Re by simp [hxi, c_GApiValue]] at this; rw [repT_v this]; rfl
    | 3, _ => rw [show xs[i][3] = tI .i64 l[i].Im by simp [hxi, c_GApiValue]] at this; rw [repT_v this]; rfl
theorem obj_cells {w : World} {M : Nat → Prop} {o : GApiObj} {p : Value} {q : OPl} (h : objAt w M o p q) : ∃ b off v s, p = .pointer (some ⟨b, off, none⟩) ∧ b < w.heap.size ∧ w.cell? ⟨b, off + 0, none⟩ = some (.int .u8 o.Kind) ∧ w.cell? ⟨b, off + 1, none⟩ = some (.int .i64 o.Of) ∧
    w.cell? ⟨b, off + 2, none⟩ = some (.string (mkS o.Text)) ∧ w.cell? ⟨b, off + 3, none⟩ = some v ∧ w.cell? ⟨b, off + 4, none⟩ = some (.bool s) ∧ ValsR w v o.Vals := by
  cases q with
  | own b g =>
    obtain ⟨rfl, v, h2, h3⟩ := h
    have hc := has_cell h2
    exact ⟨b, 0, v, false, rfl, has_lt h2, hc 0, hc 1, hc 2, hc 3, hc 4, valsR_own h3⟩
  | shared =>
    obtain ⟨h, _⟩ := h
    cases h with
    | fp cells b off c hb hM hc hr =>
      have e0 : c 0 = .int .u8 o.Kind := by have := hr 0 (by simp [c_GHeapObject]); simp only [c_GHeapObject] at this; exact repT_v this
      have e1 : c 1 = .int .i64 o.Of := by have := hr 1 (by simp [c_GHeapObject]); simp only [c_GHeapObject] at this; exact repT_v this
      have e2 : c 2 = .string (mkS o.Text) := by have := hr 2 (by simp [c_GHeapObject]); simp only [c_GHeapObject] at this; exact repT_v this
      have e4 : c 4 = .bool true := by have := hr 4 (by simp [c_GHeapObject]); simp only [c_GHeapObject] at this; exact repT_v this
      exact ⟨b, off, c 3, true, rfl, hb, e0 ▸ hc 0 (by simp [c_GHeapObject]), e1 ▸ hc 1 (by simp [c_GHeapObject]), e2 ▸ hc 2 (by simp [c_GHeapObject]), hc 3 (by simp [c_GHeapObject]), e4 ▸ hc 4 (by simp [c_GHeapObject]), valsR_t (hr 3 (by simp [c_GHeapObject]))⟩
end Go.Proofs.Ytblikpgdepjhdaa
namespace Go.Proofs.Ytblikpgdepjhdaa
open Go.RowKit
set_option linter.unusedVariables false
def GHeapHeap.at_ (H : GHeapHeap) (kind n : Int) : Option GApiObj := (getI H.l (n - 1)).bind fun o => if o.Kind = kind then some o else none
set_option maxHeartbeats 8000000 in
set_option maxRecDepth 100000 in
theorem heap_at (H : GHeapHeap) (M own : Nat → Prop) (b : Nat) (pls : List OPl) (ps : List Value) (lv : Value) (x : GApiValue) (w : World) (h : HeapAt H w M own b pls ps lv) :
    Calls Try.prog 44 #[.pointer (some ⟨b, 0, none⟩), .agg #[.int .u8 x.Kind, .int .i64 x.N, .int .i64 x.Re, .int .i64 x.Im]] w fun e w' => Below w.heap.size w w' ∧ ∃ p, e = .returned p ∧
      ((H.at_ x.Kind x.N = none ∧ p = .pointer none) ∨ ∃ i, ∃ (h1 : i < H.l.length) (h2 : i < ps.length), H.at_ x.Kind x.N = some H.l[i] ∧ p = ps[i] ∧ x.N = (i : Int) + 1) := by
  obtain ⟨wf, n1, n2, head, row, objs, nodup, owns⟩ := h
  have X0 := has_alloc head (.cells #[.int .u8 x.Kind, .int .i64 x.N, .int .i64 x.Re, .int .i64 x.Im] 46)
  have hc := has_cell head
  have hf := has_free head
  have hsz := has_lt head
  by_cases c1 : x.N < 1
  · have g1 : getI H.l (x.N - 1) = none := by unfold getI; rw [if_neg (by omega)]
    go_enter Try.func44, Try.ntmps44
    go_wp2_with fail
    go_quiet (fail)
    go_wp2_with fail
    go_ret
    exact ⟨belowN ((Below.refl _ w).alloc (Nat.le_refl _) _) _, _, rfl, .inl ⟨by unfold GHeapHeap.at_; rw [g1]; rfl, rfl⟩⟩
  · rw [n2] at row
    obtain ⟨la, lc, rfl⟩ := owns_slice row
    by_cases c2 : (H.l.length : Int) < x.N
    · have g1 : getI H.l (x.N - 1) = none := by unfold getI; rw [if_pos (by omega), List.getElem?_eq_none (by omega)]
      have c1' : decide (x.N < 1) = false := by simpa using c1
      go_enter Try.func44, Try.ntmps44
      go_wp2_with fail
      go_quiet (fail)
      go_wp2_with fail
      go_ret
      exact ⟨belowN ((Below.refl _ w).alloc (Nat.le_refl _) _) _, _, rfl, .inl ⟨by unfold GHeapHeap.at_; rw [g1]; rfl, rfl⟩⟩
    · obtain ⟨i, hi⟩ : ∃ i : Nat, x.N = (i : Int) + 1 := ⟨(x.N - 1).toNat, by omega⟩
      have hil : i < H.l.length := by omega
      have hip : i < ps.length := by rw [n2]; exact hil
      have hiq : i < pls.length := by rw [n1]; exact hil
      have g1 : getI H.l (x.N - 1) = some H.l[i] := by unfold getI; rw [if_pos (by omega), hi, show ((i : Int) + 1 - 1).toNat = i by omega]; exact List.getElem?_eq_getElem hil
      have hwf : (H.l.length : Int) ≤ 65536 := by omega
      obtain ⟨pb, off, pv, ps_, hpe, hpb, k0, k1, k2, k3, k4, _⟩ := obj_cells (objs i hil hip hiq)
      rw [Nat.add_zero] at k0
      have hla : ∃ rb, la = some ⟨rb, 0, none⟩ ∧ rb < w.heap.size ∧ w.cell? ⟨rb, i, none⟩ = some (.pointer (some ⟨pb, off, none⟩)) := by
        rcases row.2 with ⟨e1, e2⟩ | ⟨g', cap, cur, e, _⟩
        · exact absurd (show H.l.length = 0 by first | exact e1 | exact e2) (by omega)
        · cases e
          refine ⟨g', rfl, owns_lt row rfl, ?_⟩
          have := row.cells (g := g') rfl i (ps[i]) (List.getElem?_eq_getElem hip)
          have hadd : (⟨g', 0, none⟩ : Addr).add i = ⟨g', i, none⟩ := by unfold Addr.add; split <;> simp_all
          rw [hadd, hpe] at this
          exact this
      obtain ⟨rb, rfl, hrb, hrc⟩ := hla
      have ws : IntKind.i64.wrap (i : Int) = i := by rw [IntKind.wrap_i64]; omega
      have hi0 : (0 : Int) ≤ i := by omega
      have c1' : decide ((i : Int) + 1 < 1) = false := by simp; omega
      have c2' : decide ((H.l.length : Int) < (i : Int) + 1) = false := by simp; omega
      have hii : (i : Int) < H.l.length := by omega
      have H1 := Lib.hid n1
      have H2 := Lib.hid n2
      clear n1 n2
      rw [hi]
      by_cases ck : H.l[i].Kind = x.Kind
      · go_enter Try.func44, Try.ntmps44
        go_wp2_with fail
        go_quiet (fail)
        go_wp2_with fail
        go_quiet (fail)
        go_wp2_with fail
        go_ret
        refine ⟨belowN (belowN ((Below.refl _ w).alloc (Nat.le_refl _) _) _) _, _, rfl, .inr ⟨i, hil, hip, by unfold GHeapHeap.at_; rw [← hi, g1]; simp [ck], hpe.symm, rfl⟩⟩
      · have ck' : (H.l[i].Kind == x.Kind) = false := by simpa using ck
        go_enter Try.func44, Try.ntmps44
        go_wp2_with fail
        go_quiet (fail)
        go_wp2_with fail
        go_ret
        exact ⟨belowN ((Below.refl _ w).alloc (Nat.le_refl _) _) _, _, rfl, .inl ⟨by unfold GHeapHeap.at_; rw [← hi, g1]; simp [ck], rfl⟩⟩
end Go.Proofs.Ytblikpgdepjhdaa
namespace Go.Proofs.Ytblikpgdepjhdaa
open Go.RowKit
set_option linter.unusedVariables false
theorem HeapAt.below {H : GHeapHeap} {w w' : World} {M own : Nat → Prop} {b : Nat} {pls : List OPl} {ps : List Value} {lv : Value} (h : HeapAt H w M own b pls ps lv) (hb : Below w.heap.size w w') : HeapAt H w' M own b pls ps lv :=
  h.ext ⟨hb.size, fun k hk _ => hb.block k hk⟩ (fun k _ hk => hk) (hb.block b (has_lt h.head)) fun k hk => hb.block k (h.lt hk)
structure ObjR (w : World) (o : GApiObj) (pb off : Nat) (v : Value) : Prop where
  lt : pb < w.heap.size
  c0 : w.cell? ⟨pb, off, none⟩ = some (.int .u8 o.Kind)
  c1 : w.cell? ⟨pb, off + 1, none⟩ = some (.int .i64 o.Of)
  c2 : w.cell? ⟨pb, off + 2, none⟩ = some (.string (mkS o.Text))
  c3 : w.cell? ⟨pb, off + 3, none⟩ = some v
  vals : ValsR w v o.Vals
theorem heap_atR (H : GHeapHeap) (M own : Nat → Prop) (b : Nat) (pls : List OPl) (ps : List Value) (lv : Value) (x : GApiValue) (w : World) (h : HeapAt H w M own b pls ps lv) :
    Calls Try.prog 44 #[.pointer (some ⟨b, 0, none⟩), .agg #[.int .u8 x.Kind, .int .i64 x.N, .int .i64 x.Re, .int .i64 x.Im]] w fun e w' => Below w.heap.size w w' ∧
      ((H.at_ x.Kind x.N = none ∧ e = .returned (.pointer none)) ∨ ∃ o pb off v, H.at_ x.Kind x.N = some o ∧ e = .returned (.pointer (some ⟨pb, off, none⟩)) ∧ ObjR w' o pb off v) := by
  refine (heap_at H M own b pls ps lv x w h).mono ?_
  rintro e w' ⟨hb, p, rfl, hp⟩
  refine ⟨hb, ?_⟩
  rcases hp with ⟨h1, rfl⟩ | ⟨i, h1, h2, h3, rfl, _⟩
  · exact .inl ⟨h1, rfl⟩
  · have h' := h.below hb
    obtain ⟨pb, off, v, s, e1, e2, k0, k1, k2, k3, k4, k5⟩ := obj_cells (h'.objs i h1 h2 (by rw [h'.n1]; exact h1))
    exact .inr ⟨_, pb, off, v, h3, by rw [e1], ⟨e2, k0, k1, k2, k3, k5⟩⟩
theorem ObjR.below {w w' : World} {o : GApiObj} {pb off : Nat} {v : Value} (h : ObjR w o pb off v) (hb : Below w.heap.size w w') : ObjR w' o pb off v := by
  have e : ∀ j, w'.cell? ⟨pb, j, none⟩ = w.cell? ⟨pb, j, none⟩ := fun j => hb.cell (p := ⟨pb, j, none⟩) h.lt
  obtain ⟨a, c, hv, hx⟩ := h.vals
  refine ⟨Nat.lt_of_lt_of_le h.lt hb.size, (e _).trans h.c0, (e _).trans h.c1, (e _).trans h.c2, (e _).trans h.c3, a, c, hv, fun i hi => ?_⟩
  obtain ⟨g, of_, h1, h2, h3⟩ := hx i hi
  exact ⟨g, of_, h1, Nat.lt_of_lt_of_le h2 hb.size, fun j hj => (hb.cell (p := ⟨g, _, none⟩) h2).trans (h3 j hj)⟩
theorem heap_at0 {H : GHeapHeap} {M own : Nat → Prop} {b : Nat} {pls : List OPl} {ps : List Value} {lv : Value} {w : World} (kd n re im : Int) (h : HeapAt H w M own b pls ps lv) (hn : H.at_ kd n = none) :
    Calls Try.prog 44 #[.pointer (some ⟨b, 0, none⟩), .agg #[.int .u8 kd, .int .i64 n, .int .i64 re, .int .i64 im]] w fun e w' => Below w.heap.size w w' ∧ e = .returned (.pointer none) := by
  refine (heap_atR H M own b pls ps lv ⟨kd, n, re, im⟩ w h).mono ?_
  rintro e w' ⟨hb, ⟨_, rfl⟩ | ⟨o, pb, off, v, h1, _⟩⟩
  · exact ⟨hb, rfl⟩
  · rw [show H.at_ _ _ = none from hn] at h1; cases h1
theorem heap_at1 {H : GHeapHeap} {M own : Nat → Prop} {b : Nat} {pls : List OPl} {ps : List Value} {lv : Value} {w : World} (kd n re im : Int) (h : HeapAt H w M own b pls ps lv) {o : GApiObj} (hn : H.at_ kd n = some o) :
    Calls Try.prog 44 #[.pointer (some ⟨b, 0, none⟩), .agg #[.int .u8 kd, .int .i64 n, .int .i64 re, .int .i64 im]] w fun e w' => Below w.heap.size w w' ∧ ∃ pb off v, e = .returned (.pointer (some ⟨pb, off, none⟩)) ∧ ObjR w' o pb off v := by
  refine (heap_atR H M own b pls ps lv ⟨kd, n, re, im⟩ w h).mono ?_
  rintro e w' ⟨hb, ⟨h1, rfl⟩ | ⟨o', pb, off, v, h1, rfl, h2⟩⟩
  · rw [show H.at_ _ _ = some o from hn] at h1; cases h1
  · rw [show H.at_ _ _ = some o from hn] at h1; cases h1; exact ⟨hb, pb, off, v, rfl, h2⟩
theorem heap_empty (kd n re im : Int) (c : Bool) (hc : (decide (kd = 3) && decide (n = 0)) = c) (w : World) : Calls Try.prog 46 #[.agg #[.int .u8 kd, .int .i64 n, .int .i64 re, .int .i64 im]] w fun e w' => e = .returned (.bool c) ∧ Below w.heap.size w w' := by
  subst hc
  by_cases c1 : kd = 3
  · by_cases c2 : n = 0
    · go_enter Try.func46, Try.ntmps46
      go_wp2_with fail
      go_ret
      exact ⟨by simp [c1, c2], (Below.refl _ w).alloc (Nat.le_refl _) _⟩
    · go_enter Try.func46, Try.ntmps46
      go_wp2_with fail
      go_ret
      exact ⟨by simp [c1, c2], (Below.refl _ w).alloc (Nat.le_refl _) _⟩
  · go_enter Try.func46, Try.ntmps46
    go_wp2_with fail
    go_ret
    exact ⟨by simp [c1], (Below.refl _ w).alloc (Nat.le_refl _) _⟩
def GHeapHeap.text (H : GHeapHeap) (k n : Int) : List UInt8 × Bool :=
  if k = 3 ∧ n = 0 then ([], true) else match H.at_ k n with | some o => if k = 3 then (o.Text, true) else ([], false) | none => ([], false)
def GHeapHeap.size (H : GHeapHeap) (k n : Int) : Int × Int :=
  if k = 3 ∧ n = 0 then (0, 0) else match H.at_ k n with | some o => if k = 3 then (o.Text.length, 0) else (o.Vals.length, 0) | none => (0, 3)
def GHeapHeap.of_ (H : GHeapHeap) (k n : Int) : Int := match H.at_ k n with | some o => o.Of | none => 0
theorem at_zero (H : GHeapHeap) (k : Int) : H.at_ k 0 = none := rfl
set_option maxHeartbeats 8000000 in set_option maxRecDepth 100000 in
theorem heap_Text {H : GHeapHeap} {M own : Nat → Prop} {b : Nat} {pls : List OPl} {ps : List Value} {lv : Value} {w : World} (kd n re im : Int) (h : HeapAt H w M own b pls ps lv) :
    Calls Try.prog 25 #[.pointer (some ⟨b, 0, none⟩), .agg #[.int .u8 kd, .int .i64 n, .int .i64 re, .int .i64 im]] w fun e w' => Below w.heap.size w w' ∧ e = .returned (.tuple #[.string (mkS (H.text kd n).1), .bool (H.text kd n).2]) := by
  have B0 : Below w.heap.size w (w.alloc (.cells #[.int .u8 kd, .int .i64 n, .int .i64 re, .int .i64 im] 46)) := (Below.refl _ w).alloc (Nat.le_refl _) _
  by_cases c1 : kd = 3
  · subst c1
    by_cases c2 : n = 0
    · subst c2
      have hn := at_zero H 3
      have ce := Lib.hid (show (decide ((3 : Int) = 3) && decide ((0 : Int) = 0)) = true from rfl)
      go_enter Try.func25, Try.ntmps25
      go_wp2_with (first | (go_at_call 44; go_must (refine (heap_at0 3 0 re im (h.below ((Below.refl _ w).alloc (Nat.le_refl _) _)) hn).mono ?_; rintro e w1 ⟨hb, rfl⟩; have N1 := has_belowT (has_new w w.heap.size _ _ rfl) hb; have nc1 := has_cell N1; have nf1 := has_free N1; have ns1 := has_lt N1)) | (go_at_call 46; go_must (refine (heap_empty 3 0 re im true ce.out _).mono ?_; rintro e w2 ⟨rfl, hb2⟩)))
      go_ret2
      exact ⟨thenB (thenB B0 hb) hb2, by simp [GHeapHeap.text] <;> rfl⟩
    · have ce := Lib.hid (show (decide ((3 : Int) = 3) && decide (n = 0)) = false by simp [c2])
      have c0 : ¬ ((3 : Int) = 3 ∧ n = 0) := by simp [c2]
      cases hn : H.at_ 3 n with
      | none =>
        go_enter Try.func25, Try.ntmps25
        go_wp2_with (first | (go_at_call 44; go_must (refine (heap_at0 3 n re im (h.below ((Below.refl _ w).alloc (Nat.le_refl _) _)) hn).mono ?_; rintro e w1 ⟨hb, rfl⟩; have N1 := has_belowT (has_new w w.heap.size _ _ rfl) hb; have nc1 := has_cell N1; have nf1 := has_free N1; have ns1 := has_lt N1)) | (go_at_call 46; go_must (refine (heap_empty 3 n re im false ce.out _).mono ?_; rintro e w2 ⟨rfl, hb2⟩; have N2 := has_belowT N1 hb2; have nc2 := has_cell N2; have nf2 := has_free N2; have ns2 := has_lt N2)))
        go_ret2
        exact ⟨thenB (thenB B0 hb) hb2, by simp only [GHeapHeap.text, if_neg c0, hn]; rfl⟩
      | some o =>
        go_enter Try.func25, Try.ntmps25
        go_wp2_with (first | (go_at_call 44; go_must (refine (heap_at1 3 n re im (h.below ((Below.refl _ w).alloc (Nat.le_refl _) _)) hn).mono ?_; rintro e w1 ⟨hb, pb, off, v, rfl, ho⟩; have N1 := has_belowT (has_new w w.heap.size _ _ rfl) hb; have nc1 := has_cell N1; have nf1 := has_free N1; have ns1 := has_lt N1; obtain ⟨o0, o1, o2, o3, o4, va, vc, rfl, o5⟩ := id ho; replace ho := Lib.hid ho; replace o5 := Lib.hid o5)) | (go_at_call 46; go_must (refine (heap_empty 3 n re im false ce.out _).mono ?_; rintro e w2 ⟨rfl, hb2⟩; have N2 := has_belowT N1 hb2; have nc2 := has_cell N2; have nf2 := has_free N2; have ns2 := has_lt N2; obtain ⟨p0, p1, p2, p3, p4, p5⟩ := id (ho.out.below hb2); replace p5 := Lib.hid p5)))
        go_ret2
        exact ⟨thenB (thenB B0 hb) hb2, by simp only [GHeapHeap.text, if_neg c0, hn]; rfl⟩
  · have ce := Lib.hid (show (decide (kd = 3) && decide (n = 0)) = false by simp [c1])
    have c0 : ¬ (kd = 3 ∧ n = 0) := by simp [c1]
    cases hn : H.at_ kd n with
    | none =>
      go_enter Try.func25, Try.ntmps25
      go_wp2_with (first | (go_at_call 44; go_must (refine (heap_at0 kd n re im (h.below ((Below.refl _ w).alloc (Nat.le_refl _) _)) hn).mono ?_; rintro e w1 ⟨hb, rfl⟩; have N1 := has_belowT (has_new w w.heap.size _ _ rfl) hb; have nc1 := has_cell N1; have nf1 := has_free N1; have ns1 := has_lt N1)) | (go_at_call 46; go_must (refine (heap_empty kd n re im false ce.out _).mono ?_; rintro e w2 ⟨rfl, hb2⟩; have N2 := has_belowT N1 hb2; have nc2 := has_cell N2; have nf2 := has_free N2; have ns2 := has_lt N2)))
      go_ret2
      exact ⟨thenB (thenB B0 hb) hb2, by simp only [GHeapHeap.text, if_neg c0, hn]; rfl⟩
    | some o =>
      go_enter Try.func25, Try.ntmps25
      go_wp2_with (first | (go_at_call 44; go_must (refine (heap_at1 kd n re im (h.below ((Below.refl _ w).alloc (Nat.le_refl _) _)) hn).mono ?_; rintro e w1 ⟨hb, pb, off, v, rfl, ho⟩; have N1 := has_belowT (has_new w w.heap.size _ _ rfl) hb; have nc1 := has_cell N1; have nf1 := has_free N1; have ns1 := has_lt N1; obtain ⟨o0, o1, o2, o3, o4, va, vc, rfl, o5⟩ := id ho; replace ho := Lib.hid ho; replace o5 := Lib.hid o5)) | (go_at_call 46; go_must (refine (heap_empty kd n re im false ce.out _).mono ?_; rintro e w2 ⟨rfl, hb2⟩; have N2 := has_belowT N1 hb2; have nc2 := has_cell N2; have nf2 := has_free N2; have ns2 := has_lt N2; obtain ⟨p0, p1, p2, p3, p4, p5⟩ := id (ho.out.below hb2); replace p5 := Lib.hid p5)))
      go_ret2
      exact ⟨thenB (thenB B0 hb) hb2, by simp only [GHeapHeap.text, if_neg c0, hn, if_neg c1]; rfl⟩
set_option maxHeartbeats 8000000 in set_option maxRecDepth 100000 in
theorem heap_Size {H : GHeapHeap} {M own : Nat → Prop} {b : Nat} {pls : List OPl} {ps : List Value} {lv : Value} {w : World} (kd n re im : Int) (h : HeapAt H w M own b pls ps lv) :
    Calls Try.prog 26 #[.pointer (some ⟨b, 0, none⟩), .agg #[.int .u8 kd, .int .i64 n, .int .i64 re, .int .i64 im]] w fun e w' => Below w.heap.size w w' ∧ e = .returned (.tuple #[.int .i64 (H.size kd n).1, .int .u8 (H.size kd n).2]) := by
  have B0 : Below w.heap.size w (w.alloc (.cells #[.int .u8 kd, .int .i64 n, .int .i64 re, .int .i64 im] 46)) := (Below.refl _ w).alloc (Nat.le_refl _) _
  by_cases c1 : kd = 3
  · subst c1
    by_cases c2 : n = 0
    · subst c2
      have hn := at_zero H 3
      have ce := Lib.hid (show (decide ((3 : Int) = 3) && decide ((0 : Int) = 0)) = true from rfl)
      go_enter Try.func26, Try.ntmps26
      go_wp2_with (first | (go_at_call 44; go_must (refine (heap_at0 3 0 re im (h.below ((Below.refl _ w).alloc (Nat.le_refl _) _)) hn).mono ?_; rintro e w1 ⟨hb, rfl⟩; have N1 := has_belowT (has_new w w.heap.size _ _ rfl) hb; have nc1 := has_cell N1; have nf1 := has_free N1; have ns1 := has_lt N1)) | (go_at_call 46; go_must (refine (heap_empty 3 0 re im true ce.out _).mono ?_; rintro e w2 ⟨rfl, hb2⟩)))
      go_ret2
      exact ⟨thenB (thenB B0 hb) hb2, by simp [GHeapHeap.size] <;> rfl⟩
    · have ce := Lib.hid (show (decide ((3 : Int) = 3) && decide (n = 0)) = false by simp [c2])
      have c0 : ¬ ((3 : Int) = 3 ∧ n = 0) := by simp [c2]
      cases hn : H.at_ 3 n with
      | none =>
        go_enter Try.func26, Try.ntmps26
        go_wp2_with (first | (go_at_call 44; go_must (refine (heap_at0 3 n re im (h.below ((Below.refl _ w).alloc (Nat.le_refl _) _)) hn).mono ?_; rintro e w1 ⟨hb, rfl⟩; have N1 := has_belowT (has_new w w.heap.size _ _ rfl) hb; have nc1 := has_cell N1; have nf1 := has_free N1; have ns1 := has_lt N1)) | (go_at_call 46; go_must (refine (heap_empty 3 n re im false ce.out _).mono ?_; rintro e w2 ⟨rfl, hb2⟩; have N2 := has_belowT N1 hb2; have nc2 := has_cell N2; have nf2 := has_free N2; have ns2 := has_lt N2)))
        go_ret2
        exact ⟨thenB (thenB B0 hb) hb2, by simp only [GHeapHeap.size, if_neg c0, hn]; rfl⟩
      | some o =>
        go_enter Try.func26, Try.ntmps26
        go_wp2_with (first | (go_at_call 44; go_must (refine (heap_at1 3 n re im (h.below ((Below.refl _ w).alloc (Nat.le_refl _) _)) hn).mono ?_; rintro e w1 ⟨hb, pb, off, v, rfl, ho⟩; have N1 := has_belowT (has_new w w.heap.size _ _ rfl) hb; have nc1 := has_cell N1; have nf1 := has_free N1; have ns1 := has_lt N1; obtain ⟨o0, o1, o2, o3, o4, va, vc, rfl, o5⟩ := id ho; replace ho := Lib.hid ho; replace o5 := Lib.hid o5)) | (go_at_call 46; go_must (refine (heap_empty 3 n re im false ce.out _).mono ?_; rintro e w2 ⟨rfl, hb2⟩; have N2 := has_belowT N1 hb2; have nc2 := has_cell N2; have nf2 := has_free N2; have ns2 := has_lt N2; obtain ⟨p0, p1, p2, p3, p4, p5⟩ := id (ho.out.below hb2); replace p5 := Lib.hid p5)))
        go_ret2
        exact ⟨thenB (thenB B0 hb) hb2, by simp only [GHeapHeap.size, if_neg c0, hn]; rfl⟩
  · have ce := Lib.hid (show (decide (kd = 3) && decide (n = 0)) = false by simp [c1])
    have c0 : ¬ (kd = 3 ∧ n = 0) := by simp [c1]
    cases hn : H.at_ kd n with
    | none =>
      go_enter Try.func26, Try.ntmps26
      go_wp2_with (first | (go_at_call 44; go_must (refine (heap_at0 kd n re im (h.below ((Below.refl _ w).alloc (Nat.le_refl _) _)) hn).mono ?_; rintro e w1 ⟨hb, rfl⟩; have N1 := has_belowT (has_new w w.heap.size _ _ rfl) hb; have nc1 := has_cell N1; have nf1 := has_free N1; have ns1 := has_lt N1)) | (go_at_call 46; go_must (refine (heap_empty kd n re im false ce.out _).mono ?_; rintro e w2 ⟨rfl, hb2⟩; have N2 := has_belowT N1 hb2; have nc2 := has_cell N2; have nf2 := has_free N2; have ns2 := has_lt N2)))
      go_ret2
      exact ⟨thenB (thenB B0 hb) hb2, by simp only [GHeapHeap.size, if_neg c0, hn]; rfl⟩
    | some o =>
      go_enter Try.func26, Try.ntmps26
      go_wp2_with (first | (go_at_call 44; go_must (refine (heap_at1 kd n re im (h.below ((Below.refl _ w).alloc (Nat.le_refl _) _)) hn).mono ?_; rintro e w1 ⟨hb, pb, off, v, rfl, ho⟩; have N1 := has_belowT (has_new w w.heap.size _ _ rfl) hb; have nc1 := has_cell N1; have nf1 := has_free N1; have ns1 := has_lt N1; obtain ⟨o0, o1, o2, o3, o4, va, vc, rfl, o5⟩ := id ho; replace ho := Lib.hid ho; replace o5 := Lib.hid o5)) | (go_at_call 46; go_must (refine (heap_empty kd n re im false ce.out _).mono ?_; rintro e w2 ⟨rfl, hb2⟩; have N2 := has_belowT N1 hb2; have nc2 := has_cell N2; have nf2 := has_free N2; have ns2 := has_lt N2; obtain ⟨p0, p1, p2, p3, p4, p5⟩ := id (ho.out.below hb2); replace p5 := Lib.hid p5)))
      go_ret2
      exact ⟨thenB (thenB B0 hb) hb2, by simp only [GHeapHeap.size, if_neg c0, hn, if_neg c1]; rfl⟩
set_option maxHeartbeats 8000000 in set_option maxRecDepth 100000 in
theorem heap_Of {H : GHeapHeap} {M own : Nat → Prop} {b : Nat} {pls : List OPl} {ps : List Value} {lv : Value} {w : World} (kd n re im : Int) (h : HeapAt H w M own b pls ps lv) :
    Calls Try.prog 43 #[.pointer (some ⟨b, 0, none⟩), .agg #[.int .u8 kd, .int .i64 n, .int .i64 re, .int .i64 im]] w fun e w' => Below w.heap.size w w' ∧ e = .returned (.int .i64 (H.of_ kd n)) := by
  have B0 : Below w.heap.size w (w.alloc (.cells #[.int .u8 kd, .int .i64 n, .int .i64 re, .int .i64 im] 46)) := (Below.refl _ w).alloc (Nat.le_refl _) _
  cases hn : H.at_ kd n with
  | none =>
    go_enter Try.func43, Try.ntmps43
    go_wp2_with (go_at_call 44; go_must (refine (heap_at0 kd n re im (h.below ((Below.refl _ w).alloc (Nat.le_refl _) _)) hn).mono ?_; rintro e w1 ⟨hb, rfl⟩; have N1 := has_belowT (has_new w w.heap.size _ _ rfl) hb; have nc1 := has_cell N1; have nf1 := has_free N1; have ns1 := has_lt N1))
    go_ret
    exact ⟨thenB B0 hb, by simp only [GHeapHeap.of_, hn]; rfl⟩
  | some o =>
    go_enter Try.func43, Try.ntmps43
    go_wp2_with (go_at_call 44; go_must (refine (heap_at1 kd n re im (h.below ((Below.refl _ w).alloc (Nat.le_refl _) _)) hn).mono ?_; rintro e w1 ⟨hb, pb, off, v, rfl, ho⟩; have N1 := has_belowT (has_new w w.heap.size _ _ rfl) hb; have nc1 := has_cell N1; have nf1 := has_free N1; have ns1 := has_lt N1; obtain ⟨o0, o1, o2, o3, o4, va, vc, rfl, o5⟩ := id ho; replace ho := Lib.hid ho; replace o5 := Lib.hid o5))
    go_ret
    exact ⟨thenB B0 hb, by simp only [GHeapHeap.of_, hn]; rfl⟩
set_option maxHeartbeats 8000000 in set_option maxRecDepth 100000 in
theorem heap_Cells {H : GHeapHeap} {M own : Nat → Prop} {b : Nat} {pls : List OPl} {ps : List Value} {lv : Value} {w : World} (h : HeapAt H w M own b pls ps lv) :
    Calls Try.prog 13 #[.pointer (some ⟨b, 0, none⟩)] w fun e w' => Below w.heap.size w w' ∧ e = .returned (.int .i64 H.cells) := by
  have hc := has_cell h.head
  have hf := has_free h.head
  have hsz := has_lt h.head
  go_enter Try.func13, Try.ntmps13
  go_wp2_with fail
  go_ret
  exact ⟨Below.refl _ _, rfl⟩
theorem getD_lt {α : Type} (l : List α) (j : Nat) (d : α) (h : j < l.length) : l.getD j d = l[j] := by rw [List.getD_eq_getElem?_getD, List.getElem?_eq_getElem h]; rfl
theorem byte_at (t : List UInt8) (j : Nat) (hj : j < t.length) (h : j < (mkS t).size) : RowKit.wrap64 (((mkS t)[j].toNat : Nat) : Int) = ((t.getD j 0).toNat : Int) := by
  have e : (mkS t)[j] = t.getD j 0 := by rw [getD_lt _ _ _ hj]; rfl
  rw [e]
  have := (t.getD j 0).toNat_lt
  unfold RowKit.wrap64; omega
def GHeapHeap.get (H : GHeapHeap) (k n i : Int) : GApiValue × Int :=
  if (H.size k n).2 ≠ 0 then (⟨0, 0, 0, 0⟩, (H.size k n).2) else if i < 0 ∨ (H.size k n).1 ≤ i then (⟨0, 0, 0, 0⟩, 2)
  else match H.at_ k n with
    | some o => if k = 3 then (⟨1, ((o.Text.getD i.toNat 0).toNat : Int), 0, 0⟩, 0) else (o.Vals.getD i.toNat ⟨0, 0, 0, 0⟩, 0)
    | none => (⟨0, 0, 0, 0⟩, 0)
set_option maxHeartbeats 8000000 in set_option maxRecDepth 100000 in
theorem heap_Get {H : GHeapHeap} {M own : Nat → Prop} {b : Nat} {pls : List OPl} {ps : List Value} {lv : Value} {w : World} (kd n re im i : Int) (h : HeapAt H w M own b pls ps lv) :
    Calls Try.prog 20 #[.pointer (some ⟨b, 0, none⟩), .agg #[.int .u8 kd, .int .i64 n, .int .i64 re, .int .i64 im], .int .i64 i] w fun e w' => Below w.heap.size w w' ∧ e = .returned (.tuple #[.agg (vcells (H.get kd n i).1).toArray, .int .u8 (H.get kd n i).2]) := by
  have B0 : Below w.heap.size w ((w.alloc (.cells #[.int .u8 kd, .int .i64 n, .int .i64 re, .int .i64 im] 46)).alloc (.cells #[.int .u8 0, .int .i64 0, .int .i64 0, .int .i64 0] 46)) := ((Below.refl _ w).alloc (Nat.le_refl _) _).alloc (by simp) _
  cases hsv : H.size kd n with
  | mk m t =>
  by_cases ht : t = 0
  · subst ht
    by_cases h0 : i < 0
    · go_enter Try.func20, Try.ntmps20
      go_wp2_with (go_at_call 26; go_must (refine (heap_Size kd n re im (h.below (((Below.refl _ w).alloc (Nat.le_refl _) _).alloc (by simp) _))).mono ?_; rw [hsv]; rintro e w1 ⟨hb, rfl⟩; have X1 := has_belowT (has_alloc (has_new w w.heap.size _ _ rfl) _) hb; have xc1 := has_cell X1; have xf1 := has_free X1; have xs1 := has_lt X1; have N1 := has_belowT (has_new (w.alloc _) _ _ _ rfl) hb; have nc1 := has_cell N1; have nf1 := has_free N1; have ns1 := has_lt N1; simp only [World.size_alloc] at N1 nc1 nf1 ns1))
      refine ret_row_tmp (p := 6) (u := 7) (by rfl) (w.heap.size + 1) 46 _ (0, 0) _ (by rfl) (has_set_same (has_set_same (has_set_same (has_set_same N1 0 _) 1 _) 2 _) 3 _) Try.underlying46 rfl (by kernel_rfl) (by rfl) (.int .u8 2) (by rfl) ?_
      exact ⟨(by repeat' (first | exact Below.refl _ _ | assumption | (refine thenB ?_ (by assumption)) | (refine belowN ?_ _) | (refine Below.alloc ?_ (by first | simp; done | (simp; omega) | omega) _) | (refine below_setRow ?_ (by first | simp; done | (simp; omega) | omega) _) | (refine Below.setCell ?_ (by first | simp; done | (simp; omega) | omega) _))), by unfold GHeapHeap.get; rw [hsv, if_neg (by simp), if_pos (.inl h0)]; rfl⟩
    · by_cases h1 : m ≤ i
      · go_enter Try.func20, Try.ntmps20
        go_wp2_with (go_at_call 26; go_must (refine (heap_Size kd n re im (h.below (((Below.refl _ w).alloc (Nat.le_refl _) _).alloc (by simp) _))).mono ?_; rw [hsv]; rintro e w1 ⟨hb, rfl⟩; have X1 := has_belowT (has_alloc (has_new w w.heap.size _ _ rfl) _) hb; have xc1 := has_cell X1; have xf1 := has_free X1; have xs1 := has_lt X1; have N1 := has_belowT (has_new (w.alloc _) _ _ _ rfl) hb; have nc1 := has_cell N1; have nf1 := has_free N1; have ns1 := has_lt N1; simp only [World.size_alloc] at N1 nc1 nf1 ns1))
        refine ret_row_tmp (p := 6) (u := 7) (by rfl) (w.heap.size + 1) 46 _ (0, 0) _ (by rfl) (has_set_same (has_set_same (has_set_same (has_set_same N1 0 _) 1 _) 2 _) 3 _) Try.underlying46 rfl (by kernel_rfl) (by rfl) (.int .u8 2) (by rfl) ?_
        exact ⟨(by repeat' (first | exact Below.refl _ _ | assumption | (refine thenB ?_ (by assumption)) | (refine belowN ?_ _) | (refine Below.alloc ?_ (by first | simp; done | (simp; omega) | omega) _) | (refine below_setRow ?_ (by first | simp; done | (simp; omega) | omega) _) | (refine Below.setCell ?_ (by first | simp; done | (simp; omega) | omega) _))), by unfold GHeapHeap.get; rw [hsv, if_neg (by simp), if_pos (.inr h1)]; rfl⟩
      · obtain ⟨j, rfl⟩ : ∃ j : Nat, i = j := ⟨i.toNat, by omega⟩
        have c0 : ¬ (kd = 3 ∧ n = 0) := fun e => by
          have : H.size kd n = (0, 0) := if_pos e
          rw [this] at hsv; cases hsv; omega
        have hz : H.size kd n = _ := hsv
        unfold GHeapHeap.size at hz
        rw [if_neg c0] at hz
        cases hn : H.at_ kd n with
        | none => rw [hn] at hz; cases hz
        | some o =>
          rw [hn] at hz
          have e1 : H.get kd n j = if kd = 3 then (⟨1, ((o.Text.getD j 0).toNat : Int), 0, 0⟩, 0) else (o.Vals.getD j ⟨0, 0, 0, 0⟩, 0) := by
            unfold GHeapHeap.get
            rw [hsv, if_neg (by simp), if_neg (by simp; omega), hn]
            rfl
          by_cases ck : kd = 3
          · subst ck
            obtain rfl : (o.Text.length : Int) = m := by simpa using hz
            have hj : j < o.Text.length := by omega
            clear hz
            go_enter Try.func20, Try.ntmps20
            go_wp2_with (first | (go_at_call 26; go_must (refine (heap_Size 3 n re im (h.below (((Below.refl _ w).alloc (Nat.le_refl _) _).alloc (by simp) _))).mono ?_; rw [hsv]; rintro e w1 ⟨hb, rfl⟩; have X1 := has_belowT (has_alloc (has_new w w.heap.size _ _ rfl) _) hb; have xc1 := has_cell X1; have xf1 := has_free X1; have xs1 := has_lt X1; have N1 := has_belowT (has_new (w.alloc _) _ _ _ rfl) hb; have nc1 := has_cell N1; have nf1 := has_free N1; have ns1 := has_lt N1; simp only [World.size_alloc] at N1 nc1 nf1 ns1)) | (go_at_call 44; go_must (refine (heap_at1 3 n re im ((h.below (((Below.refl _ w).alloc (Nat.le_refl _) _).alloc (by simp) _)).below hb) hn).mono ?_; rintro e w2 ⟨hb2, pb, off, v, rfl, ho⟩; have X2 := has_belowT X1 hb2; have xc2 := has_cell X2; have xf2 := has_free X2; have xs2 := has_lt X2; have N2 := has_belowT N1 hb2; have nc2 := has_cell N2; have nf2 := has_free N2; have ns2 := has_lt N2; obtain ⟨o0, o1, o2, o3, o4, va, vc, rfl, o5⟩ := id ho; replace ho := Lib.hid ho; replace o5 := Lib.hid o5)))
            refine ret_row_tmp (p := 6) (u := 7) (by rfl) (w.heap.size + 1) 46 _ (0, 0) _ (by rfl) (has_set_same (has_set_same (has_set_same (has_set_same N2 0 _) 1 _) 2 _) 3 _) Try.underlying46 rfl (by kernel_rfl) (by rfl) (.int .u8 0) (by rfl) ?_
            have e2 : H.get 3 n j = (⟨1, ((o.Text.getD j 0).toNat : Int), 0, 0⟩, 0) := e1
            refine ⟨(by repeat' (first | exact Below.refl _ _ | assumption | (refine thenB ?_ (by assumption)) | (refine belowN ?_ _) | (refine Below.alloc ?_ (by first | simp; done | (simp; omega) | omega) _) | (refine below_setRow ?_ (by first | simp; done | (simp; omega) | omega) _) | (refine Below.setCell ?_ (by first | simp; done | (simp; omega) | omega) _))), ?_⟩
            rw [e2, show RowKit.wrap64 (((mkS o.Text)[j].toNat : Nat) : Int) = ((o.Text.getD j 0).toNat : Int) from byte_at o.Text j hj _]
            rfl
          · obtain rfl : (o.Vals.length : Int) = m := by simpa [ck] using hz
            have hj : j < o.Vals.length := by omega
            clear hz
            go_enter Try.func20, Try.ntmps20
            go_wp2_with (first | (go_at_call 26; go_must (refine (heap_Size kd n re im (h.below (((Below.refl _ w).alloc (Nat.le_refl _) _).alloc (by simp) _))).mono ?_; rw [hsv]; rintro e w1 ⟨hb, rfl⟩; have X1 := has_belowT (has_alloc (has_new w w.heap.size _ _ rfl) _) hb; have xc1 := has_cell X1; have xf1 := has_free X1; have xs1 := has_lt X1; have N1 := has_belowT (has_new (w.alloc _) _ _ _ rfl) hb; have nc1 := has_cell N1; have nf1 := has_free N1; have ns1 := has_lt N1; simp only [World.size_alloc] at N1 nc1 nf1 ns1)) | (go_at_call 44; go_must (refine (heap_at1 kd n re im ((h.below (((Below.refl _ w).alloc (Nat.le_refl _) _).alloc (by simp) _)).below hb) hn).mono ?_; rintro e w2 ⟨hb2, pb, off, v, rfl, ho⟩; have X2 := has_belowT X1 hb2; have xc2 := has_cell X2; have xf2 := has_free X2; have xs2 := has_lt X2; have N2 := has_belowT N1 hb2; have nc2 := has_cell N2; have nf2 := has_free N2; have ns2 := has_lt N2; obtain ⟨o0, o1, o2, o3, o4, va, vc, rfl, o5⟩ := id ho; replace ho := Lib.hid ho; obtain ⟨g, off2, rfl, q0, q1⟩ := o5 j hj; have q2 := q1 0 (by omega); have q3 := q1 1 (by omega); have q4 := q1 2 (by omega); have q5 := q1 3 (by omega); clear o5 q1; rw [Nat.add_zero] at q2; rw [← Nat.add_assoc] at q3 q4 q5; simp only [vcells, List.getElem?_cons_zero, List.getElem?_cons_succ] at q2 q3 q4 q5)))
            refine ret_row_tmp (p := 6) (u := 7) (by rfl) (w.heap.size + 1) 46 _ (0, 0) _ (by rfl) (has_set_same (has_set_same (has_set_same (has_set_same N2 0 _) 1 _) 2 _) 3 _) Try.underlying46 rfl (by kernel_rfl) (by rfl) (.int .u8 0) (by rfl) ?_
            have e2 : H.get kd n j = (o.Vals.getD j ⟨0, 0, 0, 0⟩, 0) := by rw [e1, if_neg ck]
            refine ⟨(by repeat' (first | exact Below.refl _ _ | assumption | (refine thenB ?_ (by assumption)) | (refine belowN ?_ _) | (refine Below.alloc ?_ (by first | simp; done | (simp; omega) | omega) _) | (refine below_setRow ?_ (by first | simp; done | (simp; omega) | omega) _) | (refine Below.setCell ?_ (by first | simp; done | (simp; omega) | omega) _))), ?_⟩
            rw [e2, getD_lt _ _ _ hj]
            rfl
  · go_enter Try.func20, Try.ntmps20
    go_wp2_with (go_at_call 26; go_must (refine (heap_Size kd n re im (h.below (((Below.refl _ w).alloc (Nat.le_refl _) _).alloc (by simp) _))).mono ?_; rw [hsv]; rintro e w1 ⟨hb, rfl⟩; have X1 := has_belowT (has_alloc (has_new w w.heap.size _ _ rfl) _) hb; have xc1 := has_cell X1; have xf1 := has_free X1; have xs1 := has_lt X1; have N1 := has_belowT (has_new (w.alloc _) _ _ _ rfl) hb; have nc1 := has_cell N1; have nf1 := has_free N1; have ns1 := has_lt N1; simp only [World.size_alloc] at N1 nc1 nf1 ns1))
    refine ret_row_tmp (p := 6) (u := 7) (by rfl) (w.heap.size + 1) 46 _ (0, 0) _ (by rfl) (has_set_same (has_set_same (has_set_same (has_set_same N1 0 _) 1 _) 2 _) 3 _) Try.underlying46 rfl (by kernel_rfl) (by rfl) (.int .u8 t) (by rfl) ?_
    exact ⟨(by repeat' (first | exact Below.refl _ _ | assumption | (refine thenB ?_ (by assumption)) | (refine belowN ?_ _) | (refine Below.alloc ?_ (by first | simp; done | (simp; omega) | omega) _) | (refine below_setRow ?_ (by first | simp; done | (simp; omega) | omega) _) | (refine Below.setCell ?_ (by first | simp; done | (simp; omega) | omega) _))), by simp only [GHeapHeap.get, hsv, if_pos ht]; rfl⟩
end Go.Proofs.Ytblikpgdepjhdaa
namespace Go.Proofs.Ytblikpgdepjhdaa
open Go.RowKit
set_option linter.unusedVariables false
def GHeapHeap.addR (H : GHeapHeap) (o : GApiObj) : GApiValue × Bool × GHeapHeap :=
  if H.room - H.cells < objSize o.Kind o.Text o.Vals.length then (⟨0, 0, 0, 0⟩, false, H) else (⟨o.Kind, ((H.l.length + 1 : Nat) : Int), 0, 0⟩, true, H.plus o)
def HeapOut (H' : GHeapHeap) (M own : Nat → Prop) (b : Nat) (w w' : World) : Prop :=
  ∃ own', (∃ pls ps lv, HeapAt H' w' (fun k => M k ∨ own' k) own' b pls ps lv) ∧ Mod (fun k => k = b ∨ own k) w w' ∧ ∀ k, own' k → own k ∨ (w.heap.size ≤ k ∧ k < w'.heap.size)
theorem HeapOut.refl {H : GHeapHeap} {M own : Nat → Prop} {b : Nat} {pls : List OPl} {ps : List Value} {lv : Value} {w w' : World} (h : HeapAt H w M own b pls ps lv) (hb : Below w.heap.size w w') (ho : ∀ k, own k → M k) : HeapOut H M own b w w' :=
  ⟨own, ⟨pls, ps, lv, (h.below hb).ext (Ext.refl _ _) (fun k _ hm => hm.elim id (ho k)) rfl fun _ _ => rfl⟩, (Mod.of_below hb).mono fun k hk hs => absurd hk (by omega), fun k hk => .inl hk⟩
theorem HeapOut.below {H' : GHeapHeap} {M own : Nat → Prop} {b : Nat} {w w' w'' : World} (h : HeapOut H' M own b w w') (hb : Below w'.heap.size w' w'') : HeapOut H' M own b w w'' := by
  obtain ⟨own', ⟨pls, ps, lv, hat⟩, hm, ho⟩ := h
  exact ⟨own', ⟨pls, ps, lv, hat.below hb⟩, hm.step (Mod.of_below hb) fun i hi hs => absurd hs (by have := hm.size; omega), fun k hk => (ho k hk).imp id fun h => ⟨h.1, Nat.lt_of_lt_of_le h.2 hb.size⟩⟩
def HeapMid (H' : GHeapHeap) (M own : Nat → Prop) (b : Nat) (w w1 w' : World) (g : Option Nat) : Prop :=
  ∃ own', (∃ pls ps lv, HeapAt H' w' (fun k => (M k ∨ w.heap.size ≤ k) ∨ own' k) own' b pls ps lv) ∧ Mod (fun k => k = b ∨ own k) w1 w' ∧ ∀ k, own' k → own k ∨ g = some k ∨ (w1.heap.size ≤ k ∧ k < w'.heap.size)
theorem HeapMid.mod {H' : GHeapHeap} {M own : Nat → Prop} {b : Nat} {w w1 w' : World} {g : Option Nat} (h : HeapMid H' M own b w w1 w' g) : Mod (fun k => k = b ∨ own k) w1 w' := by
  obtain ⟨_, _, hm, _⟩ := h
  exact hm
theorem HeapMid.out {H' : GHeapHeap} {M own : Nat → Prop} {b : Nat} {w w1 w' w'' : World} {g : Option Nat} {X : Nat → Prop} (h : HeapMid H' M own b w w1 w' g) (hb : Below w.heap.size w w1) (hlt : ∀ k, M k → k < w.heap.size) (hMb : M b) (hMo : ∀ k, own k → M k)
    (hg : ∀ k, g = some k → w.heap.size ≤ k ∧ k < w1.heap.size) (hx : Mod X w' w'') (hX : ∀ k, X k → w.heap.size ≤ k ∧ k < w1.heap.size ∧ g ≠ some k) : HeapOut H' M own b w w'' := by
  obtain ⟨own', ⟨pls, ps, lv, hat⟩, hm, ho⟩ := h
  have hn : ∀ k, X k → ¬ own' k := fun k hk hk' => by
    obtain ⟨x1, x2, x3⟩ := hX k hk
    rcases ho k hk' with h | h | h
    · have := hlt k (hMo k h); omega
    · exact x3 h
    · omega
  have hs := hb.size
  have hs2 := hm.size
  have hs3 := hx.size
  refine ⟨own', ⟨pls, ps, lv, hat.ext ⟨hx.size, fun k hk hM => hx.block k hk fun hX' => hM (.inl (.inr (hX k hX').1))⟩ (fun k _ hk => hk.elim (fun x => .inl (.inl x)) .inr) (hx.block b (has_lt hat.head) fun hX' => by have := (hX b hX').1; have := hlt b hMb; omega) fun k hk => hx.block k (hat.lt hk) fun hX' => hn k hX' hk⟩, ?_, fun k hk => ?_⟩
  · exact (((Mod.of_below hb).mono (T := fun k => k = b ∨ own k) fun k hk hs => absurd hk (by omega)).step hm fun i _ h => h).step hx fun i hi h => absurd hi (by have := (hX i h).1; omega)
  · rcases ho k hk with h | h | h
    · exact .inl h
    · have := hg k h; exact .inr (by omega)
    · exact .inr (by omega)
theorem mod_set4 (w : World) (b : Nat) (x0 x1 x2 x3 : Value) : Mod (fun k => k = b) w ((((w.setCell ⟨b, 0, none⟩ x0).setCell ⟨b, 1, none⟩ x1).setCell ⟨b, 2, none⟩ x2).setCell ⟨b, 3, none⟩ x3) :=
  ((((Mod.refl (fun k => k = b) w).setCell ⟨b, 0, none⟩ x0 (.inr rfl)).setCell ⟨b, 1, none⟩ x1 (.inr rfl)).setCell ⟨b, 2, none⟩ x2 (.inr rfl)).setCell ⟨b, 3, none⟩ x3 (.inr rfl)
theorem heap_addR {H : GHeapHeap} {M own : Nat → Prop} {b : Nat} {pls : List OPl} {ps : List Value} {lv : Value} {w w1 : World} (o : GApiObj) (v : Value) (g : Option Nat)
    (h : HeapAt H w M own b pls ps lv) (hlt : ∀ k, M k → k < w.heap.size) (hMb : M b) (hMo : ∀ k, own k → M k) (hb : Below w.heap.size w w1) (hv : valsAt w1 v o.Vals g) (hg : ∀ k, g = some k → w.heap.size ≤ k) (hsz : 1 ≤ objSize o.Kind o.Text o.Vals.length) :
    Calls Try.prog 32 #[.pointer (some ⟨b, 0, none⟩), .agg #[.int .u8 o.Kind, .int .i64 o.Of, .string (mkS o.Text), v]] w1 fun e w' =>
      e = .returned (.tuple #[.agg #[.int .u8 (H.addR o).1.Kind, .int .i64 (H.addR o).1.N, .int .i64 (H.addR o).1.Re, .int .i64 (H.addR o).1.Im], .bool (H.addR o).2.1]) ∧ HeapMid (H.addR o).2.2 M own b w w1 w' g := by
  have h1 : HeapAt H w1 (fun k => M k ∨ w.heap.size ≤ k) own b pls ps lv := h.ext ⟨hb.size, fun k hk _ => hb.block k hk⟩ (fun k hk hm => hm.elim id fun x => by omega) (hb.block b (has_lt h.head)) fun k hk => hb.block k (h.lt hk)
  refine (heap_add H _ own b pls ps lv o v g w1 h1 hv (by omega)).mono ?_
  rintro e w' (⟨c, rfl, hb'⟩ | ⟨c, rfl, p, a', c', had⟩)
  · have e1 : H.addR o = (⟨0, 0, 0, 0⟩, false, H) := if_pos c
    rw [e1]
    exact ⟨rfl, own, ⟨pls, ps, lv, (h1.below hb').ext (Ext.refl _ _) (fun k _ hm => hm.elim id fun x => .inl (hMo k x)) rfl fun _ _ => rfl⟩, (Mod.of_below hb').mono fun k hk hs => absurd hk (by omega), fun k hk => .inl hk⟩
  · have e1 : H.addR o = (⟨o.Kind, ((H.l.length + 1 : Nat) : Int), 0, 0⟩, true, H.plus o) := if_neg c
    rw [e1]
    refine ⟨rfl, ?_⟩
    have hgc : ∀ k, g = some k → k ≠ b ∧ ¬ own k ∧ k < w1.heap.size ∧ (M k ∨ w.heap.size ≤ k) := fun k hk => by
      subst hk
      have hk' := hg k rfl
      have := has_lt h.head
      exact ⟨by omega, fun hx => by have := h.lt hx; omega, owns_lt hv.1 hv.2, .inr hk'⟩
    obtain ⟨own', hat, ho⟩ := added_heap h1 hv had hsz c hgc (fun k hk => .inl (hMo k hk)) (.inl hMb)
    refine ⟨own', ⟨_, _, _, hat⟩, had.mod.mono fun k _ hs => hs.imp id fun hl => ?_, ho⟩
    exact (h.owns k).2 (List.mem_append.2 (.inl (by simp [hl])))
theorem heap_addR2 {H : GHeapHeap} {M own : Nat → Prop} {b : Nat} {pls : List OPl} {ps : List Value} {lv : Value} {w w1 : World} {o : GApiObj} {v : Value} {g : Option Nat} {rk rn rre rim : Int} {rok : Bool} {rH : GHeapHeap} (hr : H.addR o = (⟨rk, rn, rre, rim⟩, rok, rH))
    (h : HeapAt H w M own b pls ps lv) (hlt : ∀ k, M k → k < w.heap.size) (hMb : M b) (hMo : ∀ k, own k → M k) (hb : Below w.heap.size w w1) (hv : valsAt w1 v o.Vals g) (hg : ∀ k, g = some k → w.heap.size ≤ k) (hsz : 1 ≤ objSize o.Kind o.Text o.Vals.length) :
    Calls Try.prog 32 #[.pointer (some ⟨b, 0, none⟩), .agg #[.int .u8 o.Kind, .int .i64 o.Of, .string (mkS o.Text), v]] w1 fun e w' =>
      e = .returned (.tuple #[.agg #[.int .u8 rk, .int .i64 rn, .int .i64 rre, .int .i64 rim], .bool rok]) ∧ HeapMid rH M own b w w1 w' g := by
  have A := heap_addR o v g h hlt hMb hMo hb hv hg hsz
  rw [hr] at A
  exact A
def GHeapHeap.str (H : GHeapHeap) (s : List UInt8) : GApiValue × Bool × GHeapHeap := if s = [] then (⟨3, 0, 0, 0⟩, true, H) else H.addR ⟨3, 0, s, []⟩
theorem objSize3 (s : List UInt8) (n : Nat) (h : s.length < 4611686018427387904) : 1 ≤ objSize 3 s n := by
  unfold objSize
  rw [if_pos rfl]
  have e : RowKit.wrap64 ((s.length : Int) + 7) = (s.length : Int) + 7 := by unfold RowKit.wrap64; omega
  rw [e]
  have e2 : ((s.length : Int) + 7).tdiv 8 = ((s.length : Int) + 7) / 8 := Int.tdiv_eq_ediv_of_nonneg (by omega)
  rw [e2]
  unfold RowKit.wrap64
  omega
set_option maxHeartbeats 8000000 in
set_option maxRecDepth 100000 in
theorem heap_Str {H : GHeapHeap} {M own : Nat → Prop} {b : Nat} {pls : List OPl} {ps : List Value} {lv : Value} {w : World} (s : List UInt8)
    (h : HeapAt H w M own b pls ps lv) (hlt : ∀ k, M k → k < w.heap.size) (hMb : M b) (hMo : ∀ k, own k → M k) (hs : s.length < 4611686018427387904) :
    Calls Try.prog 22 #[.pointer (some ⟨b, 0, none⟩), .string (mkS s)] w fun e w' =>
      e = .returned (.tuple #[.agg (vcells (H.str s).1).toArray, .bool (H.str s).2.1]) ∧ HeapOut (H.str s).2.2 M own b w w' := by
  replace hlt := Lib.hid hlt
  replace hMb := Lib.hid hMb
  replace hMo := Lib.hid hMo
  by_cases hn : s = []
  · subst hn
    go_enter Try.func22, Try.ntmps22
    go_wp2_with fail
    refine ret_row_tmp (p := 4) (u := 5) (by rfl) w.heap.size 46 _ (0, 0) _ (by rfl) (has_new w w.heap.size _ _ rfl) Try.underlying46 rfl (by kernel_rfl) (by rfl) (.bool true) (by rfl) ?_
    exact ⟨rfl, HeapOut.refl h (by repeat' (first | exact Below.refl _ _ | assumption | (refine thenB ?_ (by assumption)) | (refine belowN ?_ _) | (refine Below.alloc ?_ (by first | simp; done | (simp; omega) | omega) _) | (refine below_setRow ?_ (by first | simp; done | (simp; omega) | omega) _) | (refine Below.setCell ?_ (by first | simp; done | (simp; omega) | omega) _))) hMo.out⟩
  · have e1 : H.str s = H.addR ⟨3, 0, s, []⟩ := if_neg hn
    have hz : s.isEmpty = false := by simpa using hn
    rw [e1]
    clear e1
    generalize hr : H.addR ⟨3, 0, s, []⟩ = r
    obtain ⟨⟨rk, rn, rre, rim⟩, rok, rH⟩ := r
    replace hr := Lib.hid hr
    go_enter Try.func22, Try.ntmps22
    go_wp2_with (go_at_call 32; go_must (refine (heap_addR2 (v := .slice none 0 0) (g := none) hr.out h hlt.out hMb.out hMo.out ((Below.refl _ w).alloc (Nat.le_refl _) _) ⟨rfl, none, 0, by simp [maxLen], rfl⟩ (fun k hk => by cases hk) (objSize3 _ _ hs)).mono ?_; rintro e w1 ⟨rfl, hmid⟩; have N1 := has_mod (has_new w w.heap.size _ _ rfl) hmid.mod (fun hx => hx.elim (fun e => absurd (hlt.out _ hMb.out) (by omega)) (fun e => absurd (hlt.out _ (hMo.out _ e)) (by omega))); have nc1 := has_cell N1; have nf1 := has_free N1; have ns1 := has_lt N1))
    have N2 := has_set_same (has_set_same (has_set_same (has_set_same N1 0 (.int .u8 rk)) 1 (.int .i64 rn)) 2 (.int .i64 rre)) 3 (.int .i64 rim)
    refine ret_row_tmp (p := 4) (u := 5) (by rfl) w.heap.size 46 _ (0, 0) _ (by rfl) N2 Try.underlying46 rfl (by kernel_rfl) (by rfl) (.bool rok) (by rfl) ?_
    exact ⟨rfl, hmid.out (X := fun k => k = w.heap.size) ((Below.refl _ w).alloc (Nat.le_refl _) _) hlt.out hMb.out hMo.out (fun k hk => by cases hk) (mod_set4 _ _ _ _ _ _) fun k hk => ⟨by omega, by simp; omega, by simp⟩⟩
end Go.Proofs.Ytblikpgdepjhdaa
namespace Go.Proofs.Ytblikpgdepjhdaa
open Go.RowKit
set_option linter.unusedVariables false
theorem vrow_len (l : List GApiValue) : (vrow l).length = l.length * 4 := by
  induction l with
  | nil => rfl
  | cons x l ih => simp only [vrow, List.flatMap_cons, List.length_append, List.length_cons] at *; rw [ih, Nat.add_mul]; simp [vcells]; omega
theorem vrow_one (l : List GApiValue) : ∀ u ∈ vrow l, u.oneCell' = true := by
  intro u hu
  obtain ⟨x, _, hx⟩ := List.mem_flatMap.1 hu
  simp only [vcells, List.mem_cons, List.not_mem_nil, or_false] at hx
  rcases hx with rfl | rfl | rfl | rfl <;> rfl
theorem valsR_cells {w : World} {v : Value} {l : List GApiValue} (h : ValsR w v l) (hl : l ≠ []) : ∃ g off c, v = .slice (some ⟨g, off, none⟩) l.length c ∧ g < w.heap.size ∧ ∀ j u, (vrow l)[j]? = some u → w.cell? ⟨g, off + j, none⟩ = some u := by
  obtain ⟨a, c, rfl, h⟩ := h
  have h0 : 0 < l.length := by cases l with
    | nil => exact absurd rfl hl
    | cons => simp
  obtain ⟨g, off, rfl, hg, _⟩ := h 0 h0
  refine ⟨g, off, c, rfl, hg, fun j u hj => ?_⟩
  have hlt : j < l.length * 4 := by
    rw [← vrow_len]
    exact (List.getElem?_eq_some_iff.1 hj).1
  have hi : j / 4 < l.length := by omega
  obtain ⟨g', off', e, _, hc⟩ := h (j / 4) hi
  cases e
  have hm : j % 4 < 4 := by omega
  have e1 : j / 4 * 4 + j % 4 = j := by omega
  have := hc (j % 4) hm
  rw [e1] at this
  rw [this, ← flat4 vcells 4 (fun x => rfl) l (j / 4) (j % 4) hi hm, e1]
  exact hj
theorem nilcmp_val (w : World) (a : Option Addr) (n c : Nat) : Sem.run Try.prog (binOp .eql 25 (.slice a n c) (.slice none 0 0)) w = .ok (.bool a.isNone) w := by
  unfold binOp
  simp only [run_equal_slice_nil (P := Try.prog) w 25 46 a n c (by kernel_rfl), Sem.run_bind, Result.andThen_ok, Sem.run_pure]
set_option maxRecDepth 100000 in
theorem valueinfo : ∃ i, Try.prog.info? 46 = some i ∧ i.zero = some (.agg #[.int .u8 0, .int .i64 0, .int .i64 0, .int .i64 0]) ∧ i.size = 4 ∧ i.bytes = 32 := ⟨_, rfl, by kernel_rfl, by kernel_rfl, by kernel_rfl⟩
set_option maxHeartbeats 8000000 in
set_option maxRecDepth 100000 in
theorem clone_vals {w : World} {v : Value} {l : List GApiValue} (h : ValsR w v l) (hl : l.length ≤ 4000000000000) :
    Calls Try.prog 31 #[v] w fun e w' => ∃ v' g, e = .returned v' ∧ Below w.heap.size w w' ∧ valsAt w' v' l g ∧ ∀ k, g = some k → w.heap.size ≤ k := by
  obtain ⟨i0, hi, hz0, hz1, hz2⟩ := valueinfo
  have hq := nilcmp_val w
  by_cases hn : l = []
  · subst hn
    obtain ⟨a, c, rfl, _⟩ := h
    cases a with
    | none =>
      go_enter Try.func31, Try.ntmps31
      go_wp2_with fail
      go_ret
      exact ⟨_, none, rfl, Below.refl _ _, ⟨rfl, none, 0, by simp [maxLen], rfl⟩, fun k hk => by cases hk⟩
    | some a =>
      go_enter Try.func31, Try.ntmps31
      go_wp2_with fail
      go_ret
      exact ⟨_, none, rfl, (by repeat' (first | exact Below.refl _ _ | assumption | (refine thenB ?_ (by assumption)) | (refine belowN ?_ _) | (refine Below.alloc ?_ (by first | simp; done | (simp; omega) | omega) _) | (refine below_setRow ?_ (by first | simp; done | (simp; omega) | omega) _) | (refine Below.setCell ?_ (by first | simp; done | (simp; omega) | omega) _))), ⟨rfl, _, 0, by simp [maxLen], rfl⟩, fun k hk => by cases hk⟩
  · obtain ⟨g, off, c, rfl, hg, hc⟩ := valsR_cells h hn
    replace hc := Lib.hid hc
    have X0 : Hid ((w.alloc (.cells #[] 46)).ownsRow w.heap.size 46 4 (.slice (some ⟨w.heap.size, 0, none⟩) 0 0) 0 []) := Lib.hid ⟨rfl, .inr ⟨w.heap.size, 0, #[], rfl, Nat.le_refl _, row_alloc_new w _ _ rfl, Nat.le_refl _, by simp [maxLen], rfl, rfl⟩⟩
    have C0 : Hid (∀ j u, (vrow l)[j]? = some u → (w.alloc (.cells #[] 46)).cell? ((⟨g, off, none⟩ : Addr).add j) = some u) := Lib.hid fun j u hj => by
      have hadd : (⟨g, off, none⟩ : Addr).add j = ⟨g, off + j, none⟩ := by unfold Addr.add; split <;> simp_all
      rw [hadd]
      exact ((Below.refl _ w).alloc (Nat.le_refl _) (.cells #[] 46)).cell (p := ⟨g, _, none⟩) hg |>.trans (hc.out j u hj)
    go_enter Try.func31, Try.ntmps31
    go_wp2_with (at_builtin; go_must (refine wpList_append_own2 rfl _ _ 25 rfl w.heap.size 46 i0 (.agg #[.int .u8 0, .int .i64 0, .int .i64 0, .int .i64 0]) 4 32 (by kernel_rfl) hi hz0 hz1 hz2 rfl (by decide) _ 0 [] rfl X0.out ⟨g, off, none⟩ l.length c (vrow l) rfl (vrow_len l) C0.out (vrow_one l) (by simp only [maxLen]; omega) (by omega) (by simp) ?_); go_must (intro a' c' w1 ho hgr hp; rw [Nat.zero_add, List.nil_append] at ho; replace ho := Lib.hid ho; replace hgr := Lib.hid hgr; replace hp := Lib.hid hp))
    go_ret
    have ho := ho.out
    have hgr : (w.alloc (.cells #[] 46)).grownBy w1 (some w.heap.size) := hgr.out
    have h0 : 0 < l.length := by cases l with
      | nil => exact absurd rfl hn
      | cons => simp
    have hgg : ∃ q, Value.ownBlock (.slice a' l.length c') = some q ∧ w.heap.size ≤ q := by
      rcases ho.2 with ⟨e1, e2⟩ | ⟨q, cap, cur, e, hq, _⟩
      · exact absurd (show l.length = 0 by first | exact e1 | exact e2) (by omega)
      · cases e; exact ⟨q, rfl, hq⟩
    obtain ⟨q, hq1, hq2⟩ := hgg
    refine ⟨_, some q, rfl, ⟨hgr.os, hgr.tape, hgr.output, Nat.le_trans (by simp) hgr.size, fun k hk => ?_⟩, ⟨⟨ho.1, ho.2.imp id fun ⟨g', cap, cur, e, _, r⟩ => ⟨g', cap, cur, e, Nat.zero_le _, r⟩⟩, hq1⟩, fun k hk => by cases hk; exact hq2⟩
    rw [hgr.block k (by simp; omega) (fun e => by cases e; omega)]
    exact row_alloc_old w _ k hk
end Go.Proofs.Ytblikpgdepjhdaa

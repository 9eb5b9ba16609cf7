/- Parts of the proof. -/
import Derived.Test.YtblikpgdepjhdaaHaXF
import Derived.Test.YtblikpgdepjhdaaHaBase
import Derived.Test.YtblikpgdepjhdaaChecked
import Derived.WalkSpells
import Derived.Deep.RegionLaw
import Derived.Laws.ResultCell
import Derived.RegionTactic
import Derived.BigRegion
namespace Go.Proofs.Ytblikpgdepjhdaa
open Go.RowKit
set_option linter.unusedVariables false
structure GHeapHeap where
  room : Int
  cells : Int
  l : List GApiObj
inductive OPl where
  | shared
  | own (b : Nat) (g : Option Nat)
def OPl.bs : OPl → List Nat
  | .shared => []
  | .own b g => b :: g.toList
def vcells (x : GApiValue) : List Value := [.int .u8 x.Kind, .int .i64 x.N, .int .i64 x.Re, .int .i64 x.Im]
def vrow (l : List GApiValue) : List Value := l.flatMap vcells
def valsAt (w : World) (v : Value) (l : List GApiValue) : Option Nat → Prop
  | none => l = [] ∧ ∃ a c, c ≤ maxLen ∧ v = .slice a 0 c
  | some g => w.ownsRow 0 46 4 v l.length (vrow l) ∧ v.ownBlock = some g
def objCells (o : GApiObj) (v : Value) : Array Value := #[.int .u8 o.Kind, .int .i64 o.Of, .string (mkS o.Text), v, .bool false]
def ShF (w : World) (p : Value) : Prop := ∀ b off, p = .pointer (some ⟨b, off, none⟩) → w.frozen? ⟨b, off + 4, none⟩ = false
theorem fp_block {w : World} {M : Nat → Prop} {cells : List T} {b off : Nat} (h : RepT w M (.fp cells) (.pointer (some ⟨b, off, none⟩))) : b < w.heap.size ∧ ¬ M b := by
  generalize hx : T.fp cells = x at h
  generalize hv : Value.pointer (some ⟨b, off, none⟩) = v at h
  cases h with
  | fp cells b' off' c hb hM hc hr => cases hv; exact ⟨hb, hM⟩
  | v x h => cases hx
  | nil => cases hx
  | sl => cases hx
  | clo => cases hx
  | any => cases hx
def objAt (w : World) (M : Nat → Prop) (o : GApiObj) (p : Value) : OPl → Prop
  | .shared => RepT w M (.fp (c_GHeapObject ⟨o, true⟩)) p ∧ ShF w p
  | .own b g => p = .pointer (some ⟨b, 0, none⟩) ∧ ∃ v, Has w b (objCells o v) 75 ∧ valsAt w v o.Vals g
structure HeapAt (H : GHeapHeap) (w : World) (M own : Nat → Prop) (b : Nat) (pls : List OPl) (ps : List Value) (lv : Value) : Prop where
  wf : (H.l.length : Int) ≤ H.cells ∧ H.cells ≤ H.room ∧ H.room ≤ 65536
  n1 : pls.length = H.l.length
  n2 : ps.length = H.l.length
  head : Has w b #[.int .i64 H.room, .int .i64 H.cells, lv] 72
  row : w.ownsRow 0 73 1 lv ps.length ps
  objs : ∀ i (h1 : i < H.l.length) (h2 : i < ps.length) (h3 : i < pls.length), objAt w M H.l[i] ps[i] pls[i]
  nodup : (b :: (lv.ownBlock.toList ++ pls.flatMap OPl.bs)).Nodup
  owns : ∀ k, own k ↔ k ∈ lv.ownBlock.toList ++ pls.flatMap OPl.bs
theorem ownsRow_eq {w w' : World} {base : Nat} {e : TypeId} {k : Nat} {v : Value} {n : Nat} {xs : List Value} (h : w.ownsRow base e k v n xs) (hb : ∀ g, v.ownBlock = some g → w'.heap[g]? = w.heap[g]?) : w'.ownsRow base e k v n xs := by
  refine ⟨h.1, ?_⟩
  rcases h.2 with ⟨h1, h2⟩ | ⟨g, cap, cur, rfl, h3, h4, h5⟩
  · exact .inl ⟨h1, h2⟩
  · exact .inr ⟨g, cap, cur, rfl, h3, by rw [hb g (by simp [Value.ownBlock])]; exact h4, h5⟩
theorem valsAt_eq {w w' : World} {v : Value} {l : List GApiValue} {g : Option Nat} (h : valsAt w v l g) (hb : ∀ k, g = some k → w'.heap[k]? = w.heap[k]?) : valsAt w' v l g := by
  cases g with
  | none => exact h
  | some g => exact ⟨ownsRow_eq h.1 fun k hk => hb k (by rw [← h.2, hk]), h.2⟩
theorem objAt_eq {w w' : World} {M M' : Nat → Prop} {o : GApiObj} {p : Value} {q : OPl} (h : objAt w M o p q) (he : Ext M w w') (hM : ∀ k, k < w.heap.size → M' k → M k) (hb : ∀ k ∈ q.bs, w'.heap[k]? = w.heap[k]?) : objAt w' M' o p q := by
  cases q with
  | shared =>
    refine ⟨RepT.ext h.1 he hM, fun b off e => ?_⟩
    subst e
    obtain ⟨h1, h2⟩ := fp_block h.1
    exact (World.frozen?_of_block (he.block b h1 h2)).trans (h.2 b off rfl)
  | own b g =>
    obtain ⟨h1, v, h2, h3⟩ := h
    exact ⟨h1, v, (hb b (by simp [OPl.bs])).trans h2, valsAt_eq h3 fun k hk => hb k (by simp [OPl.bs, hk])⟩
theorem HeapAt.ext {H : GHeapHeap} {w w' : World} {M M' own : Nat → Prop} {b : Nat} {pls : List OPl} {ps : List Value} {lv : Value} (h : HeapAt H w M own b pls ps lv) (he : Ext M w w') (hM : ∀ k, k < w.heap.size → M' k → M k)
    (hb : w'.heap[b]? = w.heap[b]?) (ho : ∀ k, own k → w'.heap[k]? = w.heap[k]?) : HeapAt H w' M' own b pls ps lv :=
  ⟨h.wf, h.n1, h.n2, hb.trans h.head, ownsRow_eq h.row fun g hg => ho g ((h.owns g).2 (List.mem_append.2 (.inl (by simp [hg])))),
    fun i h1 h2 h3 => objAt_eq (h.objs i h1 h2 h3) he hM fun k hk => ho k ((h.owns k).2 (List.mem_append.2 (.inr (List.mem_flatMap.2 ⟨_, List.getElem_mem h3, hk⟩)))), h.nodup, h.owns⟩
def rep_GHeapHeap (H : GHeapHeap) : RepP where
  rep := fun w M own b => ∃ pls ps lv, HeapAt H w M own b pls ps lv
  ext := fun ⟨pls, ps, lv, h⟩ he hM hb ho => ⟨pls, ps, lv, h.ext he hM hb ho⟩
end Go.Proofs.Ytblikpgdepjhdaa
namespace Go.Proofs.Ytblikpgdepjhdaa
open Go.RowKit
set_option linter.unusedVariables false
def objSize (kind : Int) (text : List UInt8) (n : Nat) : Int := if kind = 3 then RowKit.wrap64 (1 + RowKit.wrap64 ((RowKit.wrap64 ((text.length : Int) + 7)).tdiv 8)) else RowKit.wrap64 (1 + (n : Int))
set_option maxRecDepth 100000 in
theorem heap_size (kind of_ : Int) (text : List UInt8) (a : Option Addr) (n c : Nat) (w : World) :
    Calls Try.prog 49 #[.agg #[.int .u8 kind, .int .i64 of_, .string (mkS text), .slice a n c]] w fun e w' => e = .returned (.int .i64 (objSize kind text n)) ∧ Below w.heap.size w w' := by
  have hts : (mkS text).size = text.length := by simp [ByteArray.size]
  by_cases hk : kind = 3
  · subst hk
    go_enter Try.func49, Try.ntmps49
    go_wp2_with fail
    go_ret
    exact ⟨by simp [objSize], (Below.refl _ w).alloc (Nat.le_refl _) _⟩
  · go_enter Try.func49, Try.ntmps49
    go_wp2_with fail
    go_ret
    exact ⟨by simp [objSize, hk], (Below.refl _ w).alloc (Nat.le_refl _) _⟩
theorem step_append_own2 {P : Program} {ops : Array Oper} {o : Oper} {a : Act} {w : World} {K : Act → World → Prop} {Q : Exit → Act → World → Prop} {E : Prop}
    (hgd : o.guard = none) (s x : Operand) (t : TypeId) (ho : o.op = Op.call { callee := Callee.builtin Builtin.append, args := #[s, x], argTypes := #[t, t] })
    (base : Nat) (e : TypeId) (i : TypeInfo) (z : Value) (size bytes : Nat) (ht : P.underlying t = some (.slice e)) (hi : P.info? e = some i) (hz : i.zero = some z)
    (hsize : i.size = size) (hby : i.bytes = bytes) (hzs : z.cells.size = size) (hsz : 0 < size)
    (v : Value) (n : Nat) (xs : List Value) (hs : a.eval s = v) (hown : w.ownsRow base e size v n xs)
    (ad : Addr) (m c : Nat) (news : List Value) (hx : a.eval x = .slice (some ad) m c) (hl : news.length = m * size) (hnews : ∀ j u, news[j]? = some u → w.cell? (ad.add j) = some u) (h1 : ∀ u ∈ news, u.oneCell' = true)
    (h63 : n + m ≤ maxLen) (hbytes : (n + m) * bytes ≤ 140737488355328) (hbase : base ≤ w.heap.size)
    (hK : ∀ a' c' w', w'.ownsRow base e size (.slice a' (n + m) c') (n + m) (xs ++ news) → w.grownBy w' v.ownBlock → (∀ g, Value.ownBlock (.slice a' (n + m) c') = some g → v.ownBlock = some g ∨ w.heap.size ≤ g) → K (a.put o.dst (.slice a' (n + m) c')) w') :
    if Region.wanted o (yielded ops a.tmps) = true then Oper.wp P o a w K Q else E := by
  have hw : Region.wanted o (yielded ops a.tmps) = true := by simp [Region.wanted, hgd]
  rw [if_pos hw]
  subst hsize; subst hby
  obtain ⟨v', w', hr, h2, h3, h4⟩ := run_append_own2 (P := P) w base t o.type e i z ht hi hz hzs hsz v n xs hown ad m c news hl hnews h1 h63 hbytes hbase
  have hv : ∃ a' c', v' = .slice a' (n + m) c' := by
    rcases h2.2 with ⟨rfl, h0⟩ | ⟨g, cap, cur, rfl, _⟩
    · rw [h0]; exact ⟨_, _, rfl⟩
    · exact ⟨_, _, rfl⟩
  obtain ⟨a', c', rfl⟩ := hv
  unfold Oper.wp execOp
  simp only [ho, resolve, invoke, builtin, Sem.run_bind, Sem.run_pure, Result.andThen_ok, List.map_toArray, List.map_cons, List.map_nil, hs, hx, hr]
  exact hK _ _ _ h2 h3 h4
theorem owns_lt {w : World} {base : Nat} {e : TypeId} {k : Nat} {v : Value} {n : Nat} {xs : List Value} (h : w.ownsRow base e k v n xs) {g : Nat} (hg : v.ownBlock = some g) : g < w.heap.size := by
  rcases h.2 with ⟨h1, h2⟩ | ⟨q, cap, cur, rfl, _, h4, _⟩
  · first | (rw [h1] at hg; simp [Value.ownBlock] at hg) | (rw [h2] at hg; simp [Value.ownBlock] at hg)
  · simp [Value.ownBlock] at hg; subst hg; exact lt_of_block h4
theorem has_drewN_eq {w : World} {k : Nat} (n : Nat) : (w.drewN n).heap[k]? = w.heap[k]? := rfl
theorem ownsRow_alloc2 {w : World} {base : Nat} {e : TypeId} {k : Nat} {v : Value} {n : Nat} {xs : List Value} (h : w.ownsRow base e k v n xs) {o1 o2 : Obj} : ((w.drew.alloc o1).alloc o2).ownsRow base e k v n xs := ownsRow_eq h fun g hg => (row_alloc_old _ _ _ (by have := owns_lt h hg; simp; omega)).trans (row_alloc_old _ _ _ (owns_lt h hg))
theorem ptrinfo : (Try.prog.info? 73).map (fun i => (i.zero, i.size, i.bytes)) = some (some (.pointer none), 1, 8) := by kernel_rfl
theorem ret_row_tmp {P : Program} {fn : Func} {R : Ending → World → Prop} {a : Act} {w : World} {p u : Tmp} {ty : TypeId} (h : fn.results = #[.cell p ty, .tmp u]) (g : Nat) (t : TypeId) (cs : Array Value) (fr : Nat × Nat) (d : TypeDesc)
    (hp : a.tmps.getD p undef = .pointer (some ⟨g, 0, none⟩)) (hg : w.heap[g]? = some (.cells cs t fr))
    (hu : P.underlying ty = some d) (hd : (match d with | .struct _ | .array _ _ => true | _ => false) = true) (hi : (P.info? ty).map (·.size) = some cs.size)
    (hde : a.defers = []) (y : Value) (hy : a.tmps.getD u undef = y) (hR : R (.returned (.tuple #[.agg cs, y])) w) : bodyPost P fn R .ret a w :=
  bodyPost_ret (by
    rw [results_cell_tmp h, hp, hy]
    simp [asAddr, Sem.run_pure, Result.andThen_ok, run_loadVar_row w g t ty cs fr d hg hu hd hi]) hde hR
theorem new_cells (w : World) (us : List Value) (t : TypeId) (b : Nat) (hb : b = w.heap.size) : ∀ j u, us[j]? = some u → (w.alloc (.cells us.toArray t)).cell? ((⟨b, 0, none⟩ : Addr).add j) = some u := by
  subst hb
  intro j u hj
  have hadd : (⟨w.heap.size, 0, none⟩ : Addr).add j = ⟨w.heap.size, j, none⟩ := by unfold Addr.add; split <;> simp_all
  rw [hadd, World.cell?_alloc_at _ _ _ _ rfl]
  simpa using hj
structure Added (H : GHeapHeap) (o : GApiObj) (v : Value) (b n : Nat) (ps : List Value) (lv : Value) (w w' : World) (p : Nat) (a' : Option Addr) (c' : Nat) : Prop where
  fresh : w.heap.size ≤ p
  head : Has w' b #[.int .i64 H.room, .int .i64 (H.cells + objSize o.Kind o.Text o.Vals.length), .slice a' (n + 1) c'] 72
  obj : Has w' p (objCells o v) 75
  row : w'.ownsRow 0 73 1 (.slice a' (n + 1) c') (n + 1) (ps ++ [.pointer (some ⟨p, 0, none⟩)])
  rowB : ∀ g, Value.ownBlock (.slice a' (n + 1) c') = some g → lv.ownBlock = some g ∨ (w.heap.size ≤ g ∧ g ≠ p)
  mod : Mod (fun k => k = b ∨ lv.ownBlock = some k) w w'
set_option maxHeartbeats 8000000 in
set_option maxRecDepth 100000 in
theorem heap_add (H : GHeapHeap) (M own : Nat → Prop) (b : Nat) (pls : List OPl) (ps : List Value) (lv : Value) (o : GApiObj) (v : Value) (g : Option Nat) (w : World) (h : HeapAt H w M own b pls ps lv) (hv : valsAt w v o.Vals g) (hsz0 : 0 ≤ objSize o.Kind o.Text o.Vals.length) :
    Calls Try.prog 32 #[.pointer (some ⟨b, 0, none⟩), .agg #[.int .u8 o.Kind, .int .i64 o.Of, .string (mkS o.Text), v]] w fun e w' =>
      (H.room - H.cells < objSize o.Kind o.Text o.Vals.length ∧ e = .returned (.tuple #[.agg #[.int .u8 0, .int .i64 0, .int .i64 0, .int .i64 0], .bool false]) ∧ Below w.heap.size w w') ∨
      (¬ H.room - H.cells < objSize o.Kind o.Text o.Vals.length ∧ e = .returned (.tuple #[.agg #[.int .u8 o.Kind, .int .i64 ((H.l.length + 1 : Nat) : Int), .int .i64 0, .int .i64 0], .bool true]) ∧ ∃ p a' c', Added H o v b H.l.length ps lv w w' p a' c') := by
  obtain ⟨wf, n1, n2, head, row, objs, nodup, owns⟩ := h
  obtain ⟨wf1, wf2, wf3⟩ := wf
  rw [n2] at row
  replace n2 := Lib.hid n2
  have ws : IntKind.i64.wrap (H.room - H.cells) = H.room - H.cells := by rw [IntKind.wrap_i64]; omega
  have hc := has_cell head
  have hf := has_free head
  have hsz := has_lt head
  have hvs : ∃ a c, v = .slice a o.Vals.length c := by
    cases g with
    | none => obtain ⟨h1, a, c, _, h2⟩ := hv; exact ⟨a, c, by rw [h2, h1]; rfl⟩
    | some g => exact owns_slice hv.1
  obtain ⟨va, vc, rfl⟩ := hvs
  have hbl : ∀ g, lv.ownBlock = some g → g ≠ b := fun g hg e => by
    have := (List.nodup_cons.1 nodup).1
    exact this (List.mem_append.2 (.inl (by rw [hg, e]; simp)))
  have hrl : ∀ g, lv.ownBlock = some g → g < w.heap.size := fun g hg => owns_lt row hg
  generalize hk : objSize o.Kind o.Text o.Vals.length = K at hsz0 ⊢
  by_cases hlt : H.room - H.cells < K
  · generalize hPost : (fun (e : Ending) (w' : World) => (H.room - H.cells < K ∧ e = .returned (.tuple #[.agg #[.int .u8 0, .int .i64 0, .int .i64 0, .int .i64 0], .bool false]) ∧ Below w.heap.size w w') ∨ (¬ H.room - H.cells < K ∧ e = .returned (.tuple #[.agg #[.int .u8 o.Kind, .int .i64 ((H.l.length + 1 : Nat) : Int), .int .i64 0, .int .i64 0], .bool true]) ∧ ∃ p a' c', Added H o (.slice va o.Vals.length vc) b H.l.length ps lv w w' p a' c')) = Post
    go_enter Try.func32, Try.ntmps32
    go_wp2_with (go_at_call 49; go_must (refine (heap_size o.Kind o.Of o.Text va o.Vals.length vc _).mono ?_; rw [hk]; rintro e w1 ⟨rfl, hb⟩; have X1 := has_belowT (has_alloc (has_alloc head _) _) hb; have N1 := has_belowT (has_new (w.alloc _) _ _ _ rfl) hb; have hc1 := has_cell X1; have hf1 := has_free X1; have hs1 := has_lt X1; have nc1 := has_cell N1; have nf1 := has_free N1; have ns1 := has_lt N1; simp only [World.size_alloc] at N1 nc1 nf1 ns1; replace X1 := Lib.hid X1; replace N1 := Lib.hid N1))
    go_quiet (fail)
    go_wp2_with fail
    have N2 := has_drewN (has_set_same (has_set_same (has_set_same (has_set_same N1.out 0 (.int .u8 0)) 1 (.int .i64 0)) 2 (.int .i64 0)) 3 (.int .i64 0)) nq
    have B2 : Below w.heap.size w ((((((w1.setCell ⟨w.heap.size + 1, 0, none⟩ (.int .u8 0)).setCell ⟨w.heap.size + 1, 1, none⟩ (.int .i64 0)).setCell ⟨w.heap.size + 1, 2, none⟩ (.int .i64 0)).setCell ⟨w.heap.size + 1, 3, none⟩ (.int .i64 0)).drewN nq)) := belowN (((((((Below.refl _ w).alloc (Nat.le_refl _) _).alloc (by simp) _).trans (hb.mono (by simp; omega))).setCell (by simp) _).setCell (by simp) _).setCell (by simp) _ |>.setCell (by simp) _) nq
    refine ret_row_tmp (p := 4) (u := 5) (by rfl) (w.heap.size + 1) 46 _ (0, 0) _ (by rfl) N2 Try.underlying46 rfl (by kernel_rfl) (by rfl) (.bool false) (by rfl) ?_
    subst hPost
    exact .inl ⟨hlt, rfl, B2⟩
  · have wc : RowKit.wrap64 (H.cells + K) = H.cells + K := by unfold RowKit.wrap64; omega
    generalize hPost : (fun (e : Ending) (w' : World) => (H.room - H.cells < K ∧ e = .returned (.tuple #[.agg #[.int .u8 0, .int .i64 0, .int .i64 0, .int .i64 0], .bool false]) ∧ Below w.heap.size w w') ∨ (¬ H.room - H.cells < K ∧ e = .returned (.tuple #[.agg #[.int .u8 o.Kind, .int .i64 ((H.l.length + 1 : Nat) : Int), .int .i64 0, .int .i64 0], .bool true]) ∧ ∃ p a' c', Added H o (.slice va o.Vals.length vc) b H.l.length ps lv w w' p a' c')) = Post
    go_enter Try.func32, Try.ntmps32
    go_wp2_with (go_at_call 49; go_must (refine (heap_size o.Kind o.Of o.Text va o.Vals.length vc _).mono ?_; rw [hk]; rintro e w1 ⟨rfl, hb⟩; have X1 := has_belowT (has_alloc (has_alloc head _) _) hb; have N1 := has_belowT (has_new (w.alloc _) _ _ _ rfl) hb; have O1 := has_belowT (has_alloc (has_new w _ _ _ rfl) _) hb; have hc1 := has_cell X1; have hf1 := has_free X1; have hs1 := has_lt X1; have nc1 := has_cell N1; have nf1 := has_free N1; have ns1 := has_lt N1; have oc1 := has_cell O1; have of1 := has_free O1; have os1 := has_lt O1; simp only [World.size_alloc] at N1 nc1 nf1 ns1; replace X1 := Lib.hid X1; replace N1 := Lib.hid N1; replace O1 := Lib.hid O1))
    go_quiet (fail)
    go_wp2_with fail
    try simp only [wc]
    have X2 : Has _ b #[.int .i64 H.room, .int .i64 (H.cells + K), lv] 72 := has_drewN (has_set_same X1.out 1 (.int .i64 (H.cells + K))) nq
    have O2 := has_drewN (has_setCell O1.out ⟨b, 1, none⟩ (.int .i64 (H.cells + K)) (fun e => by have e' : b = w.heap.size := e; omega)) nq
    have N2 := has_drewN (has_setCell N1.out ⟨b, 1, none⟩ (.int .i64 (H.cells + K)) (fun e => by have e' : b = w.heap.size + 1 := e; omega)) nq
    have R2 : World.ownsRow (World.drewN _ nq) 0 73 1 lv H.l.length ps := ownsRow_eq row fun g hg => (has_drewN_eq nq).trans ((Below.heap_setCell w1 ⟨b, 1, none⟩ (.int .i64 (H.cells + K)) g (hbl g hg)).trans ((hb.block g (by have := owns_lt row hg; simp; omega)).trans ((row_alloc_old _ _ _ (by have := owns_lt row hg; simp; omega)).trans (row_alloc_old _ _ _ (owns_lt row hg)))))
    have M2 : Mod (fun k => k = b ∨ lv.ownBlock = some k) w ((w1.setCell ⟨b, 1, none⟩ (.int .i64 (H.cells + K))).drewN nq) := (((((Mod.refl _ w).alloc _).alloc _).trans (Mod.of_below hb |>.mono (fun k hk h => by omega))).setCell ⟨b, 1, none⟩ _ (.inr (.inl rfl))).drewN nq
    generalize World.drewN _ nq = w2 at X2 O2 N2 R2 M2 ⊢
    have xc2 := has_cell X2
    have xf2 := has_free X2
    have xs2 := has_lt X2
    have oc2 := has_cell O2
    have of2 := has_free O2
    have os2 := has_lt O2
    have ns2 := has_lt N2
    clear hc1 hf1 hs1 nc1 nf1 ns1 oc1 of1 os1 hc hf
    obtain ⟨i0, hi, hz0, hz1, hz2⟩ := info_parts ptrinfo
    have hlen : H.l.length ≤ 65536 := by omega
    replace X2 := Lib.hid X2
    replace O2 := Lib.hid O2
    replace N2 := Lib.hid N2
    replace R2 := Lib.hid R2
    replace M2 := Lib.hid M2
    go_region_law (refine step_append_own2 rfl (.tmp 33) (.tmp 37) 70 rfl 0 73 i0 (.pointer none) 1 8 (by kernel_rfl) hi hz0 hz1 hz2 rfl (by decide) lv H.l.length ps (by simp [Act.eval]) (ownsRow_alloc2 R2.out) ⟨w2.heap.size + 1, 0, none⟩ 1 1 [.pointer (some ⟨w2.heap.size, 0, none⟩)] (by simp [Act.eval]) rfl (new_cells _ [_] _ _ (by simp)) (by simp [Value.oneCell']) (by simp [maxLen]; omega) (by omega) (Nat.zero_le _) ?_; intro a' c' w' h1 h2 h3; have X3 : Has w' b _ 72 := (h2.block b (by simp; omega) (fun e => hbl b e.symm rfl)).trans (has_alloc (has_alloc (has_drew X2.out) _) _); have xc3 := has_cell X3; have xf3 := has_free X3; have xs3 := has_lt X3; have O3 : Has w' w.heap.size _ 27 := (h2.block _ (by simp; omega) (fun e => by have := hrl _ e.symm; omega)).trans (has_alloc (has_alloc (has_drew O2.out) _) _); have N3 : Has w' (w.heap.size + 1) _ 46 := (h2.block _ (by simp; omega) (fun e => by have := hrl _ e.symm; omega)).trans (has_alloc (has_alloc (has_drew N2.out) _) _); have P3 : Has w' w2.heap.size _ 75 := (h2.block _ (by simp; omega) (fun e => by have := hrl _ e.symm; have := M2.out.size; omega)).trans (has_alloc (has_new w2.drew w2.heap.size _ _ rfl) _); have M3 := h2)
    all_goals
      have X4 := has_set_same X3 2 (.slice a' (H.l.length + 1) c')
      have xc4 := has_cell X4
      have xf4 := has_free X4
      have xs4 := has_lt X4
      have O4 := has_setCell O3 ⟨b, 2, none⟩ (.slice a' (H.l.length + 1) c') (fun e => by have e' : b = w.heap.size := e; omega)
      have N4 := has_setCell N3 ⟨b, 2, none⟩ (.slice a' (H.l.length + 1) c') (fun e => by have e' : b = w.heap.size + 1 := e; omega)
      have P4 := has_setCell P3 ⟨b, 2, none⟩ (.slice a' (H.l.length + 1) c') (fun e => by have e' : b = w2.heap.size := e; omega)
      have oc4 := has_cell O4
      have of4 := has_free O4
      have os4 := has_lt O4
      have nc4 := has_cell N4
      have nf4 := has_free N4
      have ns4 := has_lt N4
      generalize hw4 : World.setCell w' ⟨b, 2, none⟩ _ = w4 at X4 O4 N4 P4 xc4 xf4 xs4 oc4 of4 os4 nc4 nf4 ns4 ⊢
      clear xc3 xf3 xs3
      go_wp2_with fail
      go_region
      all_goals
        go_wp2_with fail
        have N5 := has_drew (has_set_same (has_set_same (has_set_same (has_set_same N4 0 (.int .u8 o.Kind)) 1 (.int .i64 ((H.l.length : Int) + 1))) 2 (.int .i64 0)) 3 (.int .i64 0))
        refine ret_row_tmp (p := 4) (u := 5) (by rfl) (w.heap.size + 1) 46 _ (0, 0) _ (by rfl) N5 Try.underlying46 rfl (by kernel_rfl) (by rfl) (.bool true) (by rfl) ?_
        subst hPost
        subst hw4
        have hw2 := M2.out.size
        refine .inr ⟨hlt, by simp, w2.heap.size, a', c', hw2, ?_, ?_, ?_, ?_, ?_⟩
        · rw [hk]
          exact has_drew (has_setCell (has_setCell (has_setCell (has_setCell X4 _ _ (fun e => by have e' : w.heap.size + 1 = b := e; omega)) _ _ (fun e => by have e' : w.heap.size + 1 = b := e; omega)) _ _ (fun e => by have e' : w.heap.size + 1 = b := e; omega)) _ _ (fun e => by have e' : w.heap.size + 1 = b := e; omega))
        · exact has_drew (has_setCell (has_setCell (has_setCell (has_setCell P4 _ _ (fun e => by have e' : w.heap.size + 1 = w2.heap.size := e; omega)) _ _ (fun e => by have e' : w.heap.size + 1 = w2.heap.size := e; omega)) _ _ (fun e => by have e' : w.heap.size + 1 = w2.heap.size := e; omega)) _ _ (fun e => by have e' : w.heap.size + 1 = w2.heap.size := e; omega))
        · refine ownsRow_eq h1 fun g hg => ?_
          have hg1 : g ≠ b ∧ g ≠ w.heap.size + 1 := by
            rcases h3 g hg with h | h
            · have q1 := hbl g h
              have q2 := hrl g h
              omega
            · have h' : w2.heap.size + 2 ≤ g := by simpa using h
              omega
          show (World.setCell _ _ _).heap[g]? = _
          rw [Below.heap_setCell _ _ _ _ hg1.2, Below.heap_setCell _ _ _ _ hg1.2, Below.heap_setCell _ _ _ _ hg1.2, Below.heap_setCell _ _ _ _ hg1.2, Below.heap_setCell _ _ _ _ hg1.1]
        · intro g hg
          rcases h3 g hg with h | h
          · exact .inl h
          · have h' : w2.heap.size + 2 ≤ g := by simpa using h
            exact .inr (by omega)
        · have M5 : Mod (fun k => k = b ∨ lv.ownBlock = some k) w w' := ((M2.out.alloc _).alloc _).drew.step (Mod.of_grown h2) (fun i hi h => .inr h.symm)
          exact (((((M5.setCell _ _ (.inr (.inl rfl))).setCell _ _ (.inl (by simp))).setCell _ _ (.inl (by simp))).setCell _ _ (.inl (by simp))).setCell _ _ (.inl (by simp))).drew
end Go.Proofs.Ytblikpgdepjhdaa

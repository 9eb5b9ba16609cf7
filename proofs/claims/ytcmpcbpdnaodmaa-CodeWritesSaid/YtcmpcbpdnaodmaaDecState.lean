/- code.Decode: what stands in memory between two steps. -/
import Derived.Test.YtcmpcbpdnaodmaaCodeReader3
import Derived.Test.YtcmpcbpdnaodmaaCodeEncode
import Derived.Deep.RegionLaw
import Derived.Laws.ResultCell
namespace Go.Proofs.Ytcmpcbpdnaodmaa
open Go.RowKit
set_option linter.unusedVariables false

/-- A call of a function by its contract, as a step of a region that draws. -/
theorem step_call {P : Program} {ops : Array Oper} {o : Oper} {a : Act} {w : World} {K : Act → World → Prop} {Q : Exit → Act → World → Prop} {E : Prop} (hgd : o.guard = none) (n : Nat) (args : Array Operand) (tys : Array TypeId)
    {fn : Func} (hf : P.funcs[n]? = some fn) (hname : (fn.name == "runtime.NumGoroutine") = false) (hb : fn.body.isNone = false)
    (ho : o.op = .call { callee := .value (.func n), args := args, argTypes := tys }) (vals : Array Value) (hv' : args.toList.map a.eval = vals.toList) {R : Ending → World → Prop} (hc : Calls P n vals w R)
    (hR : ∀ e w', R e w' → ∃ v, e = .returned v ∧ K (a.put o.dst v) w') :
    if Region.wanted o (yielded ops a.tmps) = true then Oper.wp P o a w K Q else E := by
  have hw : Region.wanted o (yielded ops a.tmps) = true := by simp [Region.wanted, hgd]
  rw [if_pos hw]
  have hv : args.map a.eval = vals := by apply Array.ext'; rw [Array.toList_map]; exact hv'
  have hcf : (callFunc n vals).run P w = .ok (.enter n vals) w := by
    have hn2 : ¬ fn.name = "runtime.NumGoroutine" := by simpa using hname
    have hb2 : ¬ fn.body = none := by intro e; rw [e] at hb; simp at hb
    simp [callFunc, hf, hn2, hb2]
  subst hv
  have hfe : a.eval (.func n) = .func (.func n) #[] #[] := rfl
  unfold Oper.wp
  simp only [execOp, ho, resolve, invoke, hfe, Deferred.ofValue, Sem.run_bind, Sem.run_pure, Result.andThen_ok, Array.empty_append, Array.append_empty, hcf, Oper.upon_enter]
  refine hc.mono ?_
  intro e w' he
  obtain ⟨v, rfl, hK⟩ := hR e w' he
  exact hK
theorem wpList_append_elemN {P : Program} {w : World} {ops : Array Oper} {rest : List Oper} {o : Oper} {a : Act} {Q : Exit → Act → World → Prop} (hgd : o.guard = none) (s x : Operand) (t : TypeId)
    (ho : o.op = .call { callee := .builtin .append, args := #[s, x], argTypes := #[t, t] })
    (base : Nat) (e : TypeId) (i : TypeInfo) (z : Value) (size bytes : Nat) (ht : P.underlying t = some (.slice e)) (hi : P.info? e = some i) (hz : i.zero = some z)
    (hsize : i.size = size) (hby : i.bytes = bytes) (hzs : z.cells.size = size) (hsz : 0 < size)
    (a0 : Option Addr) (c0 n : Nat) (xs us : List Value) (et : TypeId) (hs : a.eval s = .slice a0 n c0) (hown : w.ownsRow base e size (.slice a0 n c0) n xs)
    (nb : Nat) (hx : a.eval x = .slice (some ⟨nb, 0, none⟩) 1 1) (hnb : nb = w.heap.size) (hl : us.length = size) (h1 : ∀ u ∈ us, u.oneCell' = true)
    (h63 : n + 1 ≤ maxLen) (hbytes : (n + 1) * bytes ≤ 140737488355328) (hbase : base ≤ w.heap.size)
    (h : ∀ a' c' w', w'.ownsRow base e size (.slice a' (n + 1) c') (n + 1) (xs ++ us) → w.grownBy w' (Value.ownBlock (.slice a0 n c0)) → (∀ g, Value.ownBlock (.slice a' (n + 1) c') = some g → Value.ownBlock (.slice a0 n c0) = some g ∨ w.heap.size ≤ g) → wpList P ops Q rest (a.put o.dst (.slice a' (n + 1) c')) w') :
    wpList P ops Q (o :: rest) a (w.alloc (.cells us.toArray et)) := by
  subst hnb
  exact wpList_append_elem hgd s x t ho base e i z size bytes ht hi hz hsize hby hzs hsz a0 c0 n xs us et hs hown hx hl h1 h63 hbytes hbase h
/-- Two results, the first one a struct that lies in a variable. -/
theorem ret_row_tmp {P : Program} {fn : Func} {R : Ending → World → Prop} {a : Act} {w : World} {p u : Tmp} {ty : TypeId} (h : fn.results = #[.cell p ty, .tmp u]) (g : Nat) (t : TypeId) (cs : Array Value) (fr : Nat × Nat) (d : TypeDesc)
    (hp : a.tmps.getD p undef = .pointer (some ⟨g, 0, none⟩)) (hg : w.heap[g]? = some (.cells cs t fr))
    (hu : P.underlying ty = some d) (hd : (match d with | .struct _ | .array _ _ => true | _ => false) = true) (hi : (P.info? ty).map (·.size) = some cs.size)
    (hde : a.defers = []) (y : Value) (hy : a.tmps.getD u undef = y) (hR : R (.returned (.tuple #[.agg cs, y])) w) : bodyPost P fn R .ret a w :=
  bodyPost_ret (by
    rw [results_cell_tmp h, hp, hy]
    simp [asAddr, Sem.run_pure, Result.andThen_ok, run_loadVar_row w g t ty cs fr d hg hu hd hi]) hde hR
/-- Every k-th cell. -/
theorem flat_at {α : Type} (f : α → List Value) (k : Nat) (hk : ∀ x, (f x).length = k) : ∀ (l : List α) (i j : Nat) (hi : i < l.length), j < k → (l.flatMap f)[i * k + j]? = (f l[i])[j]?
  | x :: l, 0, j, _, hj => by
    rw [List.flatMap_cons, Nat.zero_mul, Nat.zero_add, List.getElem?_append_left (by rw [hk]; exact hj)]; rfl
  | x :: l, i + 1, j, hi, hj => by
    rw [List.flatMap_cons, List.getElem?_append_right (by rw [hk, Nat.add_mul]; omega), hk]
    rw [show (i + 1) * k + j - k = i * k + j by rw [Nat.add_mul]; omega]
    exact flat_at f k hk l i j (by simpa using hi) hj
theorem has_set3 {w : World} {b : Nat} {x0 x1 x2 : Value} {t : TypeId} (h : Has w b #[x0, x1, x2] t) (u0 u1 u2 : Value) : Has (((w.setCell ⟨b, 0, none⟩ u0).setCell ⟨b, 1, none⟩ u1).setCell ⟨b, 2, none⟩ u2) b #[u0, u1, u2] t :=
  has_set_same (has_set_same (has_set_same h 0 u0) 1 u1) 2 u2
/-- An owned row stands where only other blocks turn. -/
theorem owns_mod {w w' : World} {base : Nat} {e : TypeId} {k : Nat} {v : Value} {n : Nat} {xs : List Value} {S : Nat → Prop} (h : w.ownsRow base e k v n xs) (hm : Mod S w w') (hS : ∀ g, base ≤ g → g < w.heap.size → ¬S g) : w'.ownsRow base e k v n xs := by
  obtain ⟨hl, h⟩ := h
  rcases h with h | ⟨g, cap, cur, hv, hg, hh, h1, h2, h3, h4⟩
  · exact ⟨hl, .inl h⟩
  · exact ⟨hl, .inr ⟨g, cap, cur, hv, hg, (hm.block g (lt_of_block hh) (hS g hg (lt_of_block hh))).trans hh, h1, h2, h3, h4⟩⟩
theorem grown_alloc1 {w w' : World} {r : Option Nat} {o : Obj} (hg : ((w.alloc o).drew).grownBy w' r) : w.grownBy w' r :=
  ⟨hg.os, hg.tape, hg.output, Nat.le_trans (by show w.heap.size ≤ (w.alloc o).heap.size; rw [World.size_alloc]; omega) hg.size, fun k hk hr => by
    rw [hg.block k (by show k < (w.alloc o).heap.size; rw [World.size_alloc]; omega) hr]
    exact row_alloc_old w _ k hk⟩
theorem grown_alloc0 {w w' : World} {r : Option Nat} {o : Obj} (hg : (w.alloc o).grownBy w' r) : w.grownBy w' r :=
  ⟨hg.os, hg.tape, hg.output, Nat.le_trans (by rw [World.size_alloc]; omega) hg.size, fun k hk hr => by
    rw [hg.block k (by rw [World.size_alloc]; omega) hr]
    exact row_alloc_old w _ k hk⟩
def entL (f : CEnt) : List Value := [.int .i64 f.1, .int .i64 f.2.1, .int .i64 f.2.2.1, .int .i64 f.2.2.2.1, .int .i64 f.2.2.2.2]
def insL (x : CIns) : List Value := [.int .u8 x.1, .int .i64 x.2.1, .int .i64 x.2.2]
theorem rCount_le (m : Nat) (r : Rd) : (rCount m r).1 ≤ m := by unfold rCount; split <;> simp_all
def nil3 : Array Value := #[.slice none 0 0, .slice none 0 0, .slice none 0 0]
/-- w: the world of the call; wi: that of this loop's beginning. -/
structure DecR (w wi : World) (cs : Array Value) (r : Rd) (wr : World) : Prop where
  rd : RdAt w (w.heap.size + 1) r wr
  res : Has wr w.heap.size nil3 26
  code : Has wr (w.heap.size + 2) cs 26
  mod : Mod (fun k => k = w.heap.size + 1 ∨ k = w.heap.size + 2) wi wr
  big : w.heap.size + 3 ≤ wi.heap.size
theorem DecR.read {w wi wr w' : World} {cs : Array Value} {r r' : Rd} (h : DecR w wi cs r wr) (hr : RdAt w (w.heap.size + 1) r' w') (ho : One (w.heap.size + 1) wr w') : DecR w wi cs r' w' :=
  ⟨hr, has_mod h.res ho (by omega), has_mod h.code ho (by omega), h.mod.step ho (fun i _ hi => .inl hi), h.big⟩
theorem rd_drew {w wr : World} {bw : Nat} {r : Rd} (h : RdAt w bw r wr) : RdAt w bw r wr.drew := by
  obtain ⟨a, cap, h1, h2, h3, h4⟩ := h
  exact ⟨a, cap, h1, h2, h3, h4.drew⟩
theorem rd_alloc {w wr : World} {bw : Nat} {r : Rd} (h : RdAt w bw r wr) (o : Obj) : RdAt w bw r (wr.alloc o) := by
  obtain ⟨a, cap, h1, h2, h3, h4⟩ := h
  exact ⟨a, cap, has_alloc h1 o, h2, h3, h4.alloc (by have := h4.size; omega) o⟩
theorem DecR.drew {w wi wr : World} {cs : Array Value} {r : Rd} (h : DecR w wi cs r wr) : DecR w wi cs r wr.drew :=
  ⟨rd_drew h.rd, has_drew h.res, has_drew h.code, h.mod.drew, h.big⟩
theorem DecR.alloc {w wi wr : World} {cs : Array Value} {r : Rd} (h : DecR w wi cs r wr) (o : Obj) : DecR w wi cs r (wr.alloc o) :=
  ⟨rd_alloc h.rd o, has_alloc h.res o, has_alloc h.code o, h.mod.alloc o, h.big⟩
theorem DecR.rows {w wr w' : World} {base : Nat} {e : TypeId} {k : Nat} {v : Value} {n : Nat} {xs : List Value} (h : wr.ownsRow base e k v n xs) (ho : One (w.heap.size + 1) wr w') (hb : w.heap.size + 3 ≤ base) : w'.ownsRow base e k v n xs :=
  owns_mod h ho (fun g hg _ e => by omega)
/-- One element more. -/
theorem DecR.add {w wi wr w1 : World} {cs : Array Value} {r : Rd} {e : TypeId} {k n n' : Nat} {v v' : Value} {xs xs' : List Value} (h : DecR w wi cs r wr) (hv : wr.ownsRow wi.heap.size e k v n xs) (hg : wr.grownBy w1 v.ownBlock)
    (hv' : w1.ownsRow wi.heap.size e k v' n' xs') (j : Nat) (cs' : Array Value) (hcs : cs' = cs.setIfInBounds j v') :
    DecR w wi cs' r (w1.setCell ⟨w.heap.size + 2, j, none⟩ v') ∧ (w1.setCell ⟨w.heap.size + 2, j, none⟩ v').ownsRow wi.heap.size e k v' n' xs' := by
  have hbig := h.big
  have hlt := hv.lt
  have hm : Mod (fun k => some k = v.ownBlock) wr w1 := Mod.of_grown hg
  have hno : ∀ b, b < wi.heap.size → ¬ (some b = v.ownBlock) := fun b hb e => by have := (hlt b e.symm).1; omega
  obtain ⟨a, cap, h1, h2, h3, h4⟩ := h.rd
  subst hcs
  refine ⟨⟨⟨a, cap, ?_, h2, h3, ?_⟩, ?_, ?_, ?_, hbig⟩, ?_⟩
  · exact has_setCell (has_mod h1 hm (hno _ (by omega))) _ _ (by simp)
  · exact (h4.grown hg h4.size (fun b hb => by have := (hlt b hb).1; omega)).setCell (by show w.heap.size ≤ w.heap.size + 2; omega) _
  · exact has_setCell (has_mod h.res hm (hno _ (by omega))) _ _ (by simp)
  · exact has_set_same (has_mod h.code hm (hno _ (by omega))) j v'
  · exact (h.mod.step hm (fun i hi e => absurd e (hno i hi))).setCell _ _ (.inr (.inr rfl))
  · exact owns_mod hv' ((Mod.refl (fun k => k = w.heap.size + 2) w1).setCell _ _ (.inr rfl)) (fun g hg _ e => by omega)
theorem DecR.grown {w wi wr w1 : World} {cs : Array Value} {r : Rd} {e : TypeId} {k n : Nat} {v : Value} {xs : List Value} (h : DecR w wi cs r wr) (hv : wr.ownsRow wi.heap.size e k v n xs) (hg : wr.grownBy w1 v.ownBlock) :
    (∀ j, w1.cell? ⟨w.heap.size + 2, j, none⟩ = cs[j]?) ∧ (∀ j, w1.frozen? ⟨w.heap.size + 2, j, none⟩ = false) ∧ w.heap.size + 2 < w1.heap.size := by
  have hq := has_mod h.code (Mod.of_grown hg) (fun e => by have := (hv.lt _ e.symm).1; have := h.big; omega)
  exact ⟨has_cell hq, has_free hq, has_lt hq⟩
/-- A new beginning. -/
theorem DecR.next {w wi wr : World} {cs : Array Value} {r : Rd} (h : DecR w wi cs r wr) : DecR w wr cs r wr :=
  ⟨h.rd, h.res, h.code, Mod.refl _ _, Nat.le_trans h.big h.mod.size⟩
theorem DecR.open {w wi wr : World} {cs : Array Value} {e : Nat} {rb : List UInt8} (h : DecR w wi cs (e, rb) wr) : ∃ a cap, (∀ j, wr.cell? ⟨w.heap.size + 1, j, none⟩ = #[Value.slice a rb.length cap, .int .i64 (e : Int)][j]?) ∧ (∀ j, wr.cell? ⟨w.heap.size + 2, j, none⟩ = cs[j]?) ∧ (∀ j, wr.frozen? ⟨w.heap.size + 2, j, none⟩ = false) ∧ w.heap.size + 2 < wr.heap.size := by
  obtain ⟨a, cap, hc, hf, hl, -⟩ := rd_open h.rd
  exact ⟨a, cap, hc, has_cell h.code, has_free h.code, has_lt h.code⟩
theorem strinfo : (Try.prog.info? 9).map (fun i => (i.zero, i.size, i.bytes)) = some (some (.string ⟨#[]⟩), 1, 16) := by kernel_rfl
theorem entinfo : (Try.prog.info? 43).map (fun i => (i.zero, i.size, i.bytes)) = some (some (.agg #[.int .i64 0, .int .i64 0, .int .i64 0, .int .i64 0, .int .i64 0]), 5, 40) := by kernel_rfl
theorem insinfo : (Try.prog.info? 41).map (fun i => (i.zero, i.size, i.bytes)) = some (some (.agg #[.int .u8 0, .int .i64 0, .int .i64 0]), 3, 24) := by kernel_rfl
/-- What is read at the end is a code. -/
theorem code_of {w : World} {s1 s2 s3 : Value} {li : List CIns} {lf : List CEnt} {ls : List (List UInt8)} {B1 B2 B3 : Nat}
    (h1 : w.ownsRow B1 41 3 s1 li.length (li.flatMap insL)) (h2 : w.ownsRow B2 43 5 s2 lf.length (lf.flatMap entL)) (h3 : w.ownsRow B3 9 1 s3 ls.length (ls.map strV))
    (wi : ∀ x ∈ li, insWide x) (wf : ∀ x ∈ lf, entWide x) (ws : ∀ x ∈ ls, x.length ≤ 1048576) : CodeAt w s1 s2 s3 (li, lf, ls) := by
  refine ⟨SliceF.of_owns h1 _ (fun i j hi hj => ?_), SliceF.of_owns h2 _ (fun i j hi hj => ?_), SliceF.of_owns h3 _ (fun i j hi hj => ?_), wi, wf, fun s hs => by have := ws s hs; unfold maxLen; omega⟩
  · rw [flat_at insL 3 (fun _ => rfl) li i j hi hj]; unfold FI; rw [getD_of hi]
    rcases (show j = 0 ∨ j = 1 ∨ j = 2 by omega) with rfl | rfl | rfl <;> rfl
  · rw [flat_at entL 5 (fun _ => rfl) lf i j hi hj]; unfold FE; rw [getD_of hi]
    rcases (show j = 0 ∨ j = 1 ∨ j = 2 ∨ j = 3 ∨ j = 4 by omega) with rfl | rfl | rfl | rfl | rfl <;> rfl
  · obtain rfl : j = 0 := by omega
    unfold FS
    rw [getD_of hi, Nat.mul_one, Nat.add_zero]; simp [hi]
theorem code_nil (w : World) : CodeAt w (.slice none 0 0) (.slice none 0 0) (.slice none 0 0) ([], [], []) :=
  ⟨SliceF.nil _ _ _, SliceF.nil _ _ _, SliceF.nil _ _ _, by simp, by simp, by simp⟩
theorem DecR.out {w wi wr : World} {cs : Array Value} {r : Rd} (h : DecR w wi cs r wr) : Below w.heap.size w wr := by
  obtain ⟨_, _, _, _, _, hb⟩ := h.rd
  exact hb
end Go.Proofs.Ytcmpcbpdnaodmaa

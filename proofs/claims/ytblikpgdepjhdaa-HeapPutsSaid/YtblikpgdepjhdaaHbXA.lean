/- Parts of the proof. -/
import Derived.Below
import Derived.Laws.Rows
import Derived.Deep.MidRow
import Derived.WalkKit
import Derived.Great.BuildSlice
namespace Go.Proofs.Ytblikpgdepjhdaa
open Go.RowKit
set_option linter.unusedVariables false
inductive T where
  | v (x : Value)
  | sl (k : Nat) (xs : List (List T))
  | fp (cells : List T)
  | clo (f : FuncId) (caps : List (List T))
  | any
inductive RepT (w : World) (M : Nat → Prop) : T → Value → Prop
  | v (x : Value) (h : x.oneCell' = true) : RepT w M (.v x) x
  | nil (k : Nat) (a : Option Addr) (cap : Nat) (hcm : cap ≤ maxLen) : RepT w M (.sl k []) (.slice a 0 cap)
  | sl (k : Nat) (xs : List (List T)) (b off cap : Nat) (c : Nat → Nat → Value) (hb : b < w.heap.size) (hM : ¬ M b) (hcap : xs.length ≤ cap) (hcm : cap ≤ maxLen)
      (hk : ∀ i (hi : i < xs.length), (xs[i]).length = k)
      (hc : ∀ i (hi : i < xs.length) j (hj : j < k), w.cell? ⟨b, off + (i * k + j), none⟩ = some (c i j))
      (hr : ∀ i (hi : i < xs.length) j (hj : j < (xs[i]).length), RepT w M (xs[i][j]) (c i j)) :
      RepT w M (.sl k xs) (.slice (some ⟨b, off, none⟩) xs.length cap)
  | fp (cells : List T) (b off : Nat) (c : Nat → Value) (hb : b < w.heap.size) (hM : ¬ M b)
      (hc : ∀ j (hj : j < cells.length), w.cell? ⟨b, off + j, none⟩ = some (c j))
      (hr : ∀ j (hj : j < cells.length), RepT w M (cells[j]) (c j)) : RepT w M (.fp cells) (.pointer (some ⟨b, off, none⟩))
  | clo (f : FuncId) (caps : List (List T)) (vs : Array Value) (b off : Nat → Nat) (c : Nat → Nat → Value) (hs : vs.size = caps.length)
      (hv : ∀ i (hi : i < caps.length), vs.getD i undef = .pointer (some ⟨b i, off i, none⟩) ∧ b i < w.heap.size ∧ ¬ M (b i))
      (hc : ∀ i (hi : i < caps.length) j (hj : j < (caps[i]).length), w.cell? ⟨b i, off i + j, none⟩ = some (c i j))
      (hr : ∀ i (hi : i < caps.length) j (hj : j < (caps[i]).length), RepT w M (caps[i][j]) (c i j)) : RepT w M (.clo f caps) (.func (.func f) #[] vs)
  | any (v : Value) (h : v.oneCell' = true) : RepT w M .any v
structure Ext (M : Nat → Prop) (w w' : World) : Prop where
  size : w.heap.size ≤ w'.heap.size
  block : ∀ k, k < w.heap.size → ¬ M k → w'.heap[k]? = w.heap[k]?
theorem Ext.refl (M : Nat → Prop) (w : World) : Ext M w w := ⟨Nat.le_refl _, fun _ _ _ => rfl⟩
theorem RepT.ext {w w' : World} {M M' : Nat → Prop} {t : T} {v : Value} (h : RepT w M t v) (he : Ext M w w') (hM : ∀ b, b < w.heap.size → M' b → M b) : RepT w' M' t v := by
  induction h with
  | v x h => exact .v x h
  | any v h => exact .any v h
  | nil k a cap h => exact .nil k a cap h
  | sl k xs b off cap c hb hm hcap hcm hk hc hr ih =>
    refine .sl k xs b off cap c (Nat.lt_of_lt_of_le hb he.size) (fun h => hm (hM b hb h)) hcap hcm hk (fun i hi j hj => ?_) ih
    rw [World.cell?_of_block (w := w) (he.block b hb hm)]
    exact hc i hi j hj
  | fp cells b off c hb hm hc hr ih =>
    refine .fp cells b off c (Nat.lt_of_lt_of_le hb he.size) (fun h => hm (hM b hb h)) (fun j hj => ?_) ih
    rw [World.cell?_of_block (w := w) (he.block b hb hm)]
    exact hc j hj
  | clo f caps vs b off c hs hv hc hr ih =>
    refine .clo f caps vs b off c hs (fun i hi => ⟨(hv i hi).1, Nat.lt_of_lt_of_le (hv i hi).2.1 he.size, fun h => (hv i hi).2.2 (hM _ (hv i hi).2.1 h)⟩) (fun i hi j hj => ?_) ih
    rw [World.cell?_of_block (w := w) (he.block _ (hv i hi).2.1 (hv i hi).2.2)]
    exact hc i hi j hj
theorem RepT.one {w : World} {M : Nat → Prop} {t : T} {v : Value} (h : RepT w M t v) : v.oneCell' = true := by
  cases h with
  | v x h => exact h
  | nil => rfl
  | sl => rfl
  | fp => rfl
  | clo => rfl
  | any v h => exact h
structure RepP where
  rep : World → (Nat → Prop) → (Nat → Prop) → Nat → Prop
  ext : ∀ {w w' : World} {M M' own : Nat → Prop} {b : Nat}, rep w M own b → Ext M w w' → (∀ k, k < w.heap.size → M' k → M k) → w'.heap[b]? = w.heap[b]? → (∀ k, own k → w'.heap[k]? = w.heap[k]?) → rep w' M' own b
inductive Od where
  | iter (s : ByteArray) (pos : Nat)
  | map (es : List (Value × List T))
  | any (R : RepP)
def Od.isMap : Od → Bool
  | .map _ => true
  | _ => false
def RepO (w : World) (M own : Nat → Prop) (b : Nat) : Od → Obj → Prop
  | .iter s pos, o => o = .stringIter s pos
  | .map es, o => ∃ ents clock, o = .map ents clock ∧ ents.size = es.length ∧ (∀ i j (hi : i < ents.size) (hj : j < ents.size), (ents[i]).born = (ents[j]).born → i = j) ∧ (∀ i (hi : i < ents.size), (ents[i]).born < clock) ∧
      ∀ i (hi : i < es.length) (hi' : i < ents.size), (ents[i]).key = es[i].1 ∧ ((ents[i]).val).cells.size = es[i].2.length ∧ (∀ j (hj : j < es[i].2.length) (hj' : j < ((ents[i]).val).cells.size), RepT w M (es[i].2[j]) (((ents[i]).val).cells[j])) ∧ (es[i].2.length = 1 → ((ents[i]).val).oneCell' = true)
  | .any R, _ => R.rep w M own b
theorem RepO.ext {w w' : World} {M M' own : Nat → Prop} {b : Nat} {od : Od} {o : Obj} (h : RepO w M own b od o) (he : Ext M w w') (hM : ∀ b, b < w.heap.size → M' b → M b) (hb : w'.heap[b]? = w.heap[b]?) (ho : ∀ k, own k → w'.heap[k]? = w.heap[k]?) : RepO w' M' own b od o := by
  cases od with
  | iter s pos => exact h
  | any R => exact R.ext h he hM hb ho
  | map es =>
    obtain ⟨ents, clock, h1, h2, h3, h4, h5⟩ := h
    exact ⟨ents, clock, h1, h2, h3, h4, fun i hi hi' => ⟨(h5 i hi hi').1, (h5 i hi hi').2.1, fun j hj hj' => ((h5 i hi hi').2.2.1 j hj hj').ext he hM, (h5 i hi hi').2.2.2⟩⟩
def Od.plain : Od → Bool
  | .any _ => false
  | _ => true
theorem RepO.move {w w' : World} {M M' own own' : Nat → Prop} {b b' : Nat} {od : Od} {o : Obj} (h : RepO w M own b od o) (hp : od.plain = true) (he : Ext M w w') (hM : ∀ b, b < w.heap.size → M' b → M b) : RepO w' M' own' b' od o := by
  cases od with
  | iter s pos => exact h
  | any R => cases hp
  | map es =>
    obtain ⟨ents, clock, h1, h2, h3, h4, h5⟩ := h
    exact ⟨ents, clock, h1, h2, h3, h4, fun i hi hi' => ⟨(h5 i hi hi').1, (h5 i hi hi').2.1, fun j hj hj' => ((h5 i hi hi').2.2.1 j hj hj').ext he hM, (h5 i hi hi').2.2.2⟩⟩
inductive A where
  | t (x : T)
  | agg (cs : List A)
  | tup (cs : List A)
  | ref (id : Nat)
  | ptr (id off : Nat)
  | rptr (id i j : Nat)
  | ob (id : Nat)
  | ifc (ty : TypeId) (id off : Nat)
  | fel (cells : List T)
  | dead
abbrev A.v (x : Value) : A := .t (.v x)
def A.single : A → Bool
  | .agg _ | .tup _ | .dead => false
  | _ => true
inductive Blk where
  | box (ty : TypeId) (cells : List A)
  | row (e : TypeId) (k : Nat) (xs : List (List T))
  | obj (od : Od)
def Blk.alike : Blk → Blk → Prop
  | .box _ _, .box _ _ => True
  | .row _ k xs, .row _ k' ys => k = k' ∧ xs.length = ys.length
  | .obj x, .obj y => x.isMap = y.isMap
  | _, _ => False
theorem Blk.alike_refl (b : Blk) : b.alike b := by cases b <;> simp [Blk.alike]
structure St where
  n : Nat
  env : Nat → A
  mem : Nat → Option Blk
  used : Nat → Bool
structure Loc where
  blk : Option Nat
  cap : Nat
  own : Nat → Prop
def Loc.has (l : Loc) (b : Nat) : Prop := l.blk = some b ∨ l.own b
abbrev nol : Loc := ⟨none, 0, fun _ => False⟩
abbrev Loc.at_ (b cap : Nat) : Loc := ⟨some b, cap, fun _ => False⟩
theorem at_has {b cap q : Nat} (h : (Loc.at_ b cap).has q) : q = b := by rcases h with h | h <;> cases h; rfl
theorem nol_has {b : Nat} : ¬ nol.has b := fun h => by rcases h with h | h <;> cases h
def Loc.like (l l' : Loc) : Prop := l.blk = l'.blk ∧ l.cap = l'.cap
theorem Loc.like_refl (l : Loc) : l.like l := ⟨rfl, rfl⟩
theorem Loc.like.of {l l' : Loc} (h : l = l') : l.like l' := h ▸ l.like_refl
def Loc.slice (l : Loc) (n : Nat) : Value := .slice (l.blk.map fun b => ⟨b, 0, none⟩) n l.cap
def Loc.ob (l : Loc) (od : Od) : Value := match od.isMap with | true => .map l.blk | false => .pointer (l.blk.map fun b => ⟨b, 0, none⟩)
def Loc.ptr (l : Loc) (off : Nat) : Value := .pointer (l.blk.map fun b => ⟨b, off, none⟩)
theorem Loc.like.slice {l l' : Loc} (h : l.like l') (n : Nat) : l.slice n = l'.slice n := by unfold Loc.slice; rw [h.1, h.2]
theorem Loc.like.ob {l l' : Loc} (h : l.like l') (od : Od) : l.ob od = l'.ob od := by unfold Loc.ob; rw [h.1]
theorem Loc.like.ptr {l l' : Loc} (h : l.like l') (n : Nat) : l.ptr n = l'.ptr n := by unfold Loc.ptr; rw [h.1]
def upd {α : Type} (f : Nat → α) (i : Nat) (x : α) : Nat → α := fun j => if j = i then x else f j
theorem upd_same {α : Type} (f : Nat → α) (i : Nat) (x : α) : upd f i x i = x := by simp [upd]
theorem upd_other {α : Type} (f : Nat → α) (i j : Nat) (x : α) (h : j ≠ i) : upd f i x j = f j := by simp [upd, h]
inductive RepA (st : St) (L : Nat → Loc) (w : World) (M : Nat → Prop) : A → Value → Prop
  | t (x : T) (v : Value) (h : RepT w M x v) : RepA st L w M (.t x) v
  | agg (cs : List A) (vs : Array Value) (hs : vs.size = cs.length) (h1 : ∀ i (hi : i < cs.length), (cs[i]).single = true) (hr : ∀ i (hi : i < cs.length), RepA st L w M (cs[i]) (vs[i]'(by omega))) : RepA st L w M (.agg cs) (.agg vs)
  | tup (cs : List A) (vs : Array Value) (hs : vs.size = cs.length) (hr : ∀ i (hi : i < cs.length), RepA st L w M (cs[i]) (vs[i]'(by omega))) : RepA st L w M (.tup cs) (.tuple vs)
  | ref (id : Nat) (v : Value) (h1 : v.oneCell' = true) (hu : st.used id = true) (h : ∀ e k xs, st.mem id = some (.row e k xs) → v = (L id).slice xs.length) : RepA st L w M (.ref id) v
  | ptr (id off : Nat) (v : Value) (h1 : v.oneCell' = true) (hu : st.used id = true) (h : ∀ ty cs, st.mem id = some (.box ty cs) → v = (L id).ptr off) : RepA st L w M (.ptr id off) v
  | ifc (ty : TypeId) (id off : Nat) (v : Value) (h1 : v.oneCell' = true) (hu : st.used id = true) (h : ∀ bty cs, st.mem id = some (.box bty cs) → v = .iface ty ((L id).ptr off)) : RepA st L w M (.ifc ty id off) v
  | rptr (id i j : Nat) (v : Value) (h1 : v.oneCell' = true) (hu : st.used id = true) (h : ∀ e k xs, st.mem id = some (.row e k xs) → v = (L id).ptr (i * k + j)) : RepA st L w M (.rptr id i j) v
  | ob (id : Nat) (v : Value) (h1 : v.oneCell' = true) (hu : st.used id = true) (h : ∀ od, st.mem id = some (.obj od) → v = (L id).ob od) : RepA st L w M (.ob id) v
  | fel (cells : List T) (b off : Nat) (c : Nat → Value) (hb : b < w.heap.size) (hM : ¬ M b) (hc : ∀ j (hj : j < cells.length), w.cell? ⟨b, off + j, none⟩ = some (c j)) (hr : ∀ j (hj : j < cells.length), RepT w M (cells[j]) (c j)) :
      RepA st L w M (.fel cells) (.pointer (some ⟨b, off, none⟩))
  | dead (v : Value) : RepA st L w M .dead v
theorem RepA.one {st : St} {L : Nat → Loc} {w : World} {M : Nat → Prop} {a : A} {v : Value} (h : RepA st L w M a v) (hs : a.single = true) : v.oneCell' = true := by
  cases h with
  | t x _ h => exact h.one
  | ref _ _ h1 => exact h1
  | ptr _ _ _ h1 => exact h1
  | ifc _ _ _ _ h1 => exact h1
  | rptr _ _ _ _ h1 => exact h1
  | ob _ _ h1 => exact h1
  | fel => rfl
  | _ => simp [A.single] at hs
theorem RepA.ext {st st' : St} {L L' : Nat → Loc} {w w' : World} {M M' : Nat → Prop} {a : A} {v : Value} (h : RepA st L w M a v) (he : Ext M w w') (hM : ∀ b, b < w.heap.size → M' b → M b)
    (hu : ∀ id, st.used id = true → st'.used id = true)
    (hs : ∀ id, st.used id = true → ∀ b', st'.mem id = some b' → ∃ b, st.mem id = some b ∧ b.alike b' ∧ (L' id).like (L id)) : RepA st' L' w' M' a v := by
  induction h with
  | t x v h => exact .t x v (h.ext he hM)
  | agg cs vs hsz h1 hr ih => exact .agg cs vs hsz h1 fun i hi => ih i hi
  | tup cs vs hsz hr ih => exact .tup cs vs hsz fun i hi => ih i hi
  | ref id v h1 hus h =>
    refine .ref id v h1 (hu id hus) fun e k xs hm => ?_
    obtain ⟨b, hb, hal, hL⟩ := hs id hus _ hm
    cases b with
    | box => exact hal.elim
    | obj => exact hal.elim
    | row e' k' xs' =>
      have hl : xs'.length = xs.length := hal.2
      rw [hL.slice, ← hl]; exact h e' k' xs' hb
  | ptr id off v h1 hus h =>
    refine .ptr id off v h1 (hu id hus) fun ty cs hm => ?_
    obtain ⟨b, hb, hal, hL⟩ := hs id hus _ hm
    cases b with
    | box ty' cs' => rw [hL.ptr]; exact h ty' cs' hb
    | row => exact hal.elim
    | obj => exact hal.elim
  | ifc t id off v h1 hus h =>
    refine .ifc t id off v h1 (hu id hus) fun ty cs hm => ?_
    obtain ⟨b, hb, hal, hL⟩ := hs id hus _ hm
    cases b with
    | box ty' cs' => rw [hL.ptr]; exact h ty' cs' hb
    | row => exact hal.elim
    | obj => exact hal.elim
  | rptr id i j v h1 hus h =>
    refine .rptr id i j v h1 (hu id hus) fun e k xs hm => ?_
    obtain ⟨b, hb, hal, hL⟩ := hs id hus _ hm
    cases b with
    | box => exact hal.elim
    | obj => exact hal.elim
    | row e' k' xs' => rw [hL.ptr, ← hal.1]; exact h e' k' xs' hb
  | ob id v h1 hus h =>
    refine .ob id v h1 (hu id hus) fun od hm => ?_
    obtain ⟨b, hb, hal, hL⟩ := hs id hus _ hm
    cases b with
    | box => exact hal.elim
    | row => exact hal.elim
    | obj od' =>
      have e : od'.isMap = od.isMap := hal
      rw [hL.ob, h od' hb]
      unfold Loc.ob
      rw [e]
  | fel cells b off c hb hm hc hr =>
    refine .fel cells b off c (Nat.lt_of_lt_of_le hb he.size) (fun h => hm (hM b hb h)) (fun j hj => ?_) fun j hj => (hr j hj).ext he hM
    rw [World.cell?_of_block (w := w) (he.block b hb hm)]
    exact hc j hj
  | dead v => exact .dead v
def RepB (st : St) (L : Nat → Loc) (w : World) (M : Nat → Prop) (id : Nat) : Blk → Prop
  | .box ty cells => ∃ b cs, (L id).blk = some b ∧ w.heap[b]? = some (.cells cs ty (0, 0)) ∧ ∃ hs : cs.size = cells.length, ∀ i (hi : i < cells.length), (cells[i]).single = true ∧ RepA st L w M (cells[i]) (cs[i]'(by omega))
  | .row e k xs => 0 < k ∧ (∀ i (hi : i < xs.length), (xs[i]).length = k) ∧ ((xs = [] ∧ L id = nol) ∨
      ∃ b cur, (L id).blk = some b ∧ w.heap[b]? = some (.cells cur e (0, 0)) ∧ xs.length ≤ (L id).cap ∧ (L id).cap ≤ maxLen ∧ cur.size = (L id).cap * k ∧
        ∀ i (hi : i < xs.length) j (hj : j < (xs[i]).length), ∃ c, cur[i * k + j]? = some c ∧ RepT w M (xs[i][j]) c)
  | .obj od => ∃ b o, (L id).blk = some b ∧ w.heap[b]? = some o ∧ RepO w M (L id).own b od o
theorem RepB.ext {st st' : St} {L L' : Nat → Loc} {w w' : World} {M M' : Nat → Prop} {id : Nat} {blk : Blk} (h : RepB st L w M id blk) (he : Ext M w w') (hM : ∀ b, b < w.heap.size → M' b → M b)
    (hu : ∀ id, st.used id = true → st'.used id = true)
    (hs : ∀ id, st.used id = true → ∀ b', st'.mem id = some b' → ∃ b, st.mem id = some b ∧ b.alike b' ∧ (L' id).like (L id))
    (hL : L' id = L id) (hblk : ∀ b, (L id).has b → w'.heap[b]? = w.heap[b]?) : RepB st' L' w' M' id blk := by
  cases blk with
  | box ty cells =>
    obtain ⟨b, cs, hb, hw, hsz, hr⟩ := h
    exact ⟨b, cs, by rw [hL]; exact hb, by rw [hblk b (.inl hb)]; exact hw, hsz, fun i hi => ⟨(hr i hi).1, (hr i hi).2.ext he hM hu hs⟩⟩
  | row e k xs =>
    obtain ⟨h0, hk, hr⟩ := h
    refine ⟨h0, hk, ?_⟩
    rcases hr with ⟨hx, hn⟩ | ⟨b, cur, hb, hw, hl, hm, hsz, hc⟩
    · exact .inl ⟨hx, by rw [hL]; exact hn⟩
    · refine .inr ⟨b, cur, by rw [hL]; exact hb, by rw [hblk b (.inl hb)]; exact hw, by rw [hL]; exact hl, by rw [hL]; exact hm, by rw [hL]; exact hsz, fun i hi j hj => ?_⟩
      obtain ⟨c, hc1, hc2⟩ := hc i hi j hj
      exact ⟨c, hc1, hc2.ext he hM⟩
  | obj od =>
    obtain ⟨b, o, hb, hw, hr⟩ := h
    exact ⟨b, o, by rw [hL]; exact hb, by rw [hblk b (.inl hb)]; exact hw, (by rw [hL]; exact hr.ext he hM (hblk b (.inl hb)) fun k hk => hblk k (.inr hk))⟩
structure Ctx where
  P : Program
  X : Nat → Prop
  M0 : Nat → Prop
  w0 : World
  pin : Nat → Option Nat
def Mut (C : Ctx) (st : St) (L : Nat → Loc) (b : Nat) : Prop := C.X b ∨ ∃ id, (st.mem id).isSome = true ∧ (L id).has b
structure SimL (C : Ctx) (st : St) (L : Nat → Loc) (a : Act) (w : World) : Prop where
  hn : a.tmps.size = st.n
  hd : a.defers = []
  env : ∀ t, RepA st L w (Mut C st L) (st.env t) (a.tmps.getD t undef)
  mem : ∀ id blk, st.mem id = some blk → st.used id = true ∧ RepB st L w (Mut C st L) id blk
  inj : ∀ i j b, (st.mem i).isSome = true → (st.mem j).isSome = true → (L i).has b → (L j).has b → i = j
  out : ∀ i b, (st.mem i).isSome = true → (L i).has b → ¬ C.X b ∧ b < w.heap.size ∧ (C.M0 b ∨ C.w0.heap.size ≤ b)
  old : ∀ b, C.X b → b < C.w0.heap.size
  os : w.os = C.w0.os
  tape : w.tape = C.w0.tape
  output : w.output = C.w0.output
  size : C.w0.heap.size ≤ w.heap.size
  block : ∀ b, b < C.w0.heap.size → ¬ C.M0 b → w.heap[b]? = C.w0.heap[b]?
  pinN : ∀ id b, C.pin id = some b → st.n ≤ id ∧ id < 1000
  pin : ∀ id b, C.pin id = some b → (st.mem id).isSome = true → (L id).blk = some b
def Sim (C : Ctx) (st : St) (a : Act) (w : World) : Prop := ∃ L, SimL C st L a w
theorem SimL.next0 {C : Ctx} {st : St} {L : Nat → Loc} {a : Act} {w : World} (h : SimL C st L a w) {st' : St} {L' : Nat → Loc} {a' : Act} {w' : World}
    (hnn : st'.n = st.n) (hn : a'.tmps.size = st'.n) (hd : a'.defers = [])
    (os : w'.os = w.os) (tape : w'.tape = w.tape) (output : w'.output = w.output) (size : w.heap.size ≤ w'.heap.size)
    (block : ∀ b, b < w.heap.size → ¬ (∃ id, (st.mem id).isSome = true ∧ (L id).has b) → w'.heap[b]? = w.heap[b]?)
    (used : ∀ id, st.used id = true → st'.used id = true)
    (shape : ∀ id, st.used id = true → ∀ b', st'.mem id = some b' → ∃ b, st.mem id = some b ∧ b.alike b' ∧ (L' id).like (L id))
    (from_ : ∀ id b, (st'.mem id).isSome = true → (L' id).has b → (w.heap.size ≤ b ∧ b < w'.heap.size) ∨ ∃ i, (st.mem i).isSome = true ∧ (L i).has b)
    (inj : ∀ i j b, (st'.mem i).isSome = true → (st'.mem j).isSome = true → (L' i).has b → (L' j).has b → i = j)
    (fr : ∀ id, (st'.mem id).isSome = true → st.used id = false → id < st.n ∨ 1000 ≤ id)
    (mem : ∀ id b', st'.mem id = some b' → st'.used id = true ∧ ((st.mem id = some b' ∧ L' id = L id ∧ ∀ b, (L id).has b → w'.heap[b]? = w.heap[b]?) ∨ RepB st' L' w' (Mut C st' L') id b'))
    (env : ∀ t, (st'.env t = st.env t ∧ a'.tmps.getD t undef = a.tmps.getD t undef) ∨ RepA st' L' w' (Mut C st' L') (st'.env t) (a'.tmps.getD t undef)) :
    SimL C st' L' a' w' := by
  have hM : ∀ b, b < w.heap.size → Mut C st' L' b → Mut C st L b := by
    rintro b hb (hx | ⟨id, hs, hl⟩)
    · exact .inl hx
    · rcases from_ id b hs hl with h1 | ⟨i, h1, h2⟩
      · omega
      · exact .inr ⟨i, h1, h2⟩
  have he : Ext (Mut C st L) w w' := ⟨size, fun k hk hm => block k hk fun hx => hm (.inr hx)⟩
  refine ⟨hn, hd, fun t => ?_, fun id b' hb' => ?_, inj, fun i b hi hl => ?_, h.old, os.trans h.os, tape.trans h.tape, output.trans h.output, Nat.le_trans h.size size, fun b hb hm => ?_, fun id b hp => by rw [hnn]; exact h.pinN id b hp, fun id b hp hs => ?_⟩
  · rcases env t with ⟨h1, h2⟩ | h1
    · rw [h1, h2]; exact (h.env t).ext he hM used shape
    · exact h1
  · obtain ⟨hu, h1⟩ := mem id b' hb'
    refine ⟨hu, ?_⟩
    rcases h1 with ⟨h1, h2, h3⟩ | h1
    · exact (h.mem id b' h1).2.ext he hM used shape h2 h3
    · exact h1
  · rcases from_ i b hi hl with h1 | ⟨q, h1, h2⟩
    · have hs := h.size
      exact ⟨fun hx => by have := h.old b hx; omega, h1.2, .inr (by omega)⟩
    · have := h.out q b h1 h2
      exact ⟨this.1, Nat.lt_of_lt_of_le this.2.1 size, this.2.2⟩
  · rw [block b (Nat.lt_of_lt_of_le hb h.size) ?_, h.block b hb hm]
    rintro ⟨id, hs, hl⟩
    rcases (h.out id b hs hl).2.2 with h1 | h1
    · exact hm h1
    · omega
  · have hpn := h.pinN id b hp
    by_cases hu : st.used id = true
    · obtain ⟨b', hb'⟩ := Option.isSome_iff_exists.1 hs
      obtain ⟨c, hc, _, hL⟩ := shape id hu _ hb'
      rw [hL.1]
      exact h.pin id b hp (by rw [hc]; rfl)
    · have := fr id hs (by simpa using hu)
      omega
theorem SimL.next {C : Ctx} {st : St} {L : Nat → Loc} {a : Act} {w : World} (h : SimL C st L a w) {st' : St} {L' : Nat → Loc} {a' : Act} {w' : World}
    (hnn : st'.n = st.n) (hn : a'.tmps.size = st'.n) (hd : a'.defers = [])
    (os : w'.os = w.os) (tape : w'.tape = w.tape) (output : w'.output = w.output) (size : w.heap.size ≤ w'.heap.size)
    (block : ∀ b, b < w.heap.size → ¬ (∃ id, (st.mem id).isSome = true ∧ (L id).has b) → w'.heap[b]? = w.heap[b]?)
    (used : ∀ id, st.used id = true → st'.used id = true)
    (shape : ∀ id, st.used id = true → ∀ b', st'.mem id = some b' → ∃ b, st.mem id = some b ∧ b.alike b' ∧ L' id = L id)
    (fresh : ∀ id, (st'.mem id).isSome = true → st.used id = false → ∀ b, (L' id).has b → (w.heap.size ≤ b ∧ b < w'.heap.size) ∨ ∃ i, (st.mem i).isSome = true ∧ (L i).has b ∧ st'.mem i = none)
    (fr : ∀ id, (st'.mem id).isSome = true → st.used id = false → id < st.n ∨ 1000 ≤ id)
    (apart : ∀ i j b, (st'.mem i).isSome = true → (st'.mem j).isSome = true → st.used i = false → st.used j = false → (L' i).has b → (L' j).has b → i = j)
    (mem : ∀ id b', st'.mem id = some b' → st'.used id = true ∧ ((st.mem id = some b' ∧ L' id = L id ∧ ∀ b, (L id).has b → w'.heap[b]? = w.heap[b]?) ∨ RepB st' L' w' (Mut C st' L') id b'))
    (env : ∀ t, (st'.env t = st.env t ∧ a'.tmps.getD t undef = a.tmps.getD t undef) ∨ RepA st' L' w' (Mut C st' L') (st'.env t) (a'.tmps.getD t undef)) :
    SimL C st' L' a' w' := by
  refine h.next0 hnn hn hd os tape output size block used (fun id hu b' hb' => ?_) (fun id b hs hl => ?_) (fun i j b hi hj hli hlj => ?_) fr mem env
  · obtain ⟨b, h1, h2, h3⟩ := shape id hu b' hb'
    exact ⟨b, h1, h2, Loc.like.of h3⟩
  · by_cases hu : st.used id = true
    · obtain ⟨blk', hb'⟩ := Option.isSome_iff_exists.1 hs
      obtain ⟨blk, hbk, _, hL⟩ := shape id hu _ hb'
      exact .inr ⟨id, by rw [hbk]; rfl, by rw [← hL]; exact hl⟩
    · rcases fresh id hs (by simpa using hu) b hl with h1 | ⟨i, h1, h2, _⟩
      · exact .inl h1
      · exact .inr ⟨i, h1, h2⟩
  · by_cases hui : st.used i = true
    · obtain ⟨bi, hbi⟩ := Option.isSome_iff_exists.1 hi
      obtain ⟨ci, hci, _, hLi⟩ := shape i hui _ hbi
      have hi' : (st.mem i).isSome = true := by rw [hci]; rfl
      rw [hLi] at hli
      have hlt := (h.out i b hi' hli).2.1
      by_cases huj : st.used j = true
      · obtain ⟨bj, hbj⟩ := Option.isSome_iff_exists.1 hj
        obtain ⟨cj, hcj, _, hLj⟩ := shape j huj _ hbj
        rw [hLj] at hlj
        exact h.inj i j b hi' (by rw [hcj]; rfl) hli hlj
      · rcases fresh j hj (by simpa using huj) b hlj with h1 | ⟨q, h1, h2, h3⟩
        · omega
        · have := h.inj i q b hi' h1 hli h2
          subst this
          rw [h3] at hi; cases hi
    · by_cases huj : st.used j = true
      · obtain ⟨bj, hbj⟩ := Option.isSome_iff_exists.1 hj
        obtain ⟨cj, hcj, _, hLj⟩ := shape j huj _ hbj
        have hj' : (st.mem j).isSome = true := by rw [hcj]; rfl
        rw [hLj] at hlj
        have hlt := (h.out j b hj' hlj).2.1
        rcases fresh i hi (by simpa using hui) b hli with h1 | ⟨q, h1, h2, h3⟩
        · omega
        · have := h.inj j q b hj' h1 hlj h2
          subst this
          rw [h3] at hj; cases hj
      · exact apart i j b hi hj (by simpa using hui) (by simpa using huj) hli hlj
end Go.Proofs.Ytblikpgdepjhdaa
namespace Go.Proofs.Ytblikpgdepjhdaa
open Go.RowKit
set_option linter.unusedVariables false
structure TI where
  size : Nat
  bytes : Nat
  agg : Bool
  zero : List Value
  elem : Option TypeId
  int : Option IntKind
  fs : List (Nat × Nat × Bool)
def isRowB : Option TypeDesc → Bool
  | some (.struct _) | some (.array _ _) => true
  | _ => false
def fieldsOf (P : Program) (d : TypeDesc) : Option (List (Nat × Nat × Bool)) :=
  match d with
  | .struct fields => fields.toList.mapM fun f => match P.info? f.type, P.underlying f.type with | some i, some d => some (f.offset, i.size, isRowB (some d)) | _, _ => none
  | _ => some []
def tinfo (P : Program) (t : TypeId) : Option TI :=
  match P.info? t, P.underlying t with
  | some i, some d =>
    match i.zero, fieldsOf P d with
    | some z, some fs =>
      if z.cells.toList.all (·.oneCell') && z.cells.size == i.size then
        some { size := i.size, bytes := i.bytes, agg := isRowB (some d), zero := z.cells.toList,
               elem := match d with | .slice e => some e | _ => none,
               int := match d with | .int k => some k | _ => none,
               fs := fs }
      else none
    | _, _ => none
  | _, _ => none
inductive Kd where
  | str | bool | ptr | slice | int | strct | other
def kindOf : TypeDesc → Kd
  | .string => .str | .bool => .bool | .pointer _ => .ptr | .slice _ => .slice | .int _ => .int | .struct _ => .strct | _ => .other
def tkind (P : Program) (t : TypeId) : Kd := match P.underlying t with | some d => kindOf d | none => .other
def constA (v : Value) : A := if v.oneCell' then .v v else .dead
def St.ev (st : St) : Operand → A
  | .tmp t => st.env t
  | .const v => constA v
  | .global g => .v (.pointer (some ⟨g, 0, none⟩))
  | .func f => .v (.func (.func f) #[] #[])
def St.put (st : St) (d : Option Nat) (a : A) : St := match d with | some d => { st with env := upd st.env d a } | none => st
def St.new (st : St) (id : Nat) (b : Blk) : St := { st with mem := upd st.mem id (some b), used := upd st.used id true }
def St.setm (st : St) (id : Nat) (b : Blk) : St := { st with mem := upd st.mem id (some b) }
def St.del (st : St) (id : Nat) : St := { st with mem := upd st.mem id none }
def pickA (t : Bool) (a b : A) : A := match t with | true => a | false => b
def cellsOf : A → Option (List A)
  | .agg cs => some cs
  | .tup _ | .dead => none
  | a => some [a]
def takeCells (cells : List A) (off size : Nat) (agg : Bool) : Option A :=
  if agg then (if off + size ≤ cells.length then some (.agg ((cells.drop off).take size)) else none) else cells[off]?
def peek (st : St) (a : A) (ti : TI) : Option A :=
  match a with
  | .ptr id off => match st.mem id with | some (.box _ cells) => takeCells cells off ti.size ti.agg | _ => none
  | .rptr id i j => match st.mem id with | some (.row _ _ xs) => (xs[i]?).bind fun el => takeCells ((el.drop j).map .t) 0 ti.size ti.agg | _ => none
  | .fel el => takeCells (el.map .t) 0 ti.size ti.agg
  | .t (.fp el) => takeCells (el.map .t) 0 ti.size ti.agg
  | _ => none
def asList (st : St) : A → Option (Nat × List (List T))
  | .t (.sl k xs) => some (k, xs)
  | .t (.v (.slice none 0 0)) => some (0, [])
  | .ref id => match st.mem id with | some (.row _ k xs) => some (k, xs) | _ => none
  | _ => none
def fillA (fs : List (Nat × Nat × Bool)) (cells : List A) : List (Nat × A) → Option (List A)
  | [] => some cells
  | (i, a) :: rest =>
    match fs[i]?, cellsOf a with
    | some (off, size, _), some cs => if cs.length = size ∧ off + size ≤ cells.length then fillA fs (cells.take off ++ cs ++ cells.drop (off + size)) rest else none
    | _, _ => none
def semPure : Sem Value → Option Value
  | .pure v => some v
  | _ => none
def binF (P : Program) (op : BinOp) (ty : TypeId) : Value → Value → Option Value
  | .int k a, .int k' b => semPure (binOp op ty (.int k a) (.int k' b))
  | .string a, .string b => semPure (Op.stringOp op a b)
  | .bool a, .bool b =>
    match tkind P ty with
    | .bool => match op with | .eql => some (.bool (a == b)) | .neq => some (.bool (!(a == b))) | _ => none
    | _ => none
  | _, _ => none
def isPtr (st : St) : A → Bool
  | .ptr id _ => match st.mem id with | some (.box _ _) => true | _ => false
  | .fel _ => true
  | .t (.fp _) => true
  | .rptr id i j => match st.mem id with | some (.row _ _ xs) => decide (i < xs.length) | _ => false
  | .ob id => match st.mem id with | some (.obj (.any _)) => true | _ => false
  | _ => false
def nilCmp (P : Program) (op : BinOp) (ty : TypeId) : Option Value :=
  match tkind P ty with
  | .ptr => (match op with | .eql => some (.bool false) | .neq => some (.bool true) | _ => none)
  | _ => none
def binB (P : Program) (isp : Bool) (op : BinOp) (ty : TypeId) (x y : A) : Option Value :=
  match y with
  | .t (.v (.pointer none)) => (match x with
    | .t (.v (.pointer none)) => (match tkind P ty with | .ptr => (match op with | .eql => some (.bool true) | .neq => some (.bool false) | _ => none) | _ => none)
    | _ => if isp then nilCmp P op ty else none)
  | .t (.v y) => (match x with | .t (.v x) => binF P op ty x y | _ => none)
  | _ => none
def binA (P : Program) (st : St) (op : BinOp) (ty : TypeId) (x y : A) : Option Value := binB P (isPtr st x) op ty x y
def unF (op : UnOp) (x : Value) : Option Value := semPure (Op.unary op x)
def convA (P : Program) (src dst : TypeId) : A → Option A
  | .t (.v (.int k n)) => ((tinfo P dst).bind (·.int)).map fun k' => .v (.int k' (k'.wrap n))
  | .t (.v (.string s)) => match tkind P dst with | .str => some (.v (.string s)) | _ => none
  | _ => none
def subA (ti : TI) (a : A) (f : Nat) : Option A :=
  match ti.fs[f]?, a with
  | some (off, size, agg), .agg cs => takeCells cs off size agg
  | _, _ => none
def fieldA (ti : TI) (a : A) (f : Nat) : Option A :=
  match ti.fs[f]? with
  | some (off, size, _) =>
    if size = 0 then none else
    match a with
    | .ptr id o => some (.ptr id (o + off))
    | .fel el => some (.fel (el.drop off))
    | .t (.fp el) => some (.t (.fp (el.drop off)))
    | .rptr id i j => some (.rptr id i (j + off))
    | _ => none
  | none => none
def lenA (P : Program) (st : St) (ty : TypeId) (a : A) : Option Value :=
  match tkind P ty, a with
  | .str, .t (.v (.string s)) => some (.int .i64 s.size)
  | .slice, a => (asList st a).map fun p => .int .i64 p.2.length
  | _, _ => none
def cellT : A → Option T
  | .t x => some x
  | _ => none
def cellsT : List A → Option (List T)
  | [] => some []
  | a :: l => match cellT a, cellsT l with | some x, some l => some (x :: l) | _, _ => none
def partsT (size : Nat) : Nat → List (Nat × A) → Option (List (List T))
  | _, [] => some []
  | i, (j, a) :: rest =>
    if j = i then match cellsOf a with
      | some cs => match cellsT cs with
        | some l => if l.length = size then match partsT size (i + 1) rest with | some r => some (l :: r) | none => none else none
        | none => none
      | none => none
    else none
def arg1 (st : St) : A → A
  | .ref id => match st.mem id with | some (.row _ k xs) => .t (.sl k xs) | _ => .ref id
  | a => a
def arg2 (st : St) : A → A
  | .agg cs => .agg (cs.map (arg1 st))
  | a => arg1 st a
def lookC (st : St) : A → Option T
  | .t x => some x
  | .ref id => match st.mem id with | some (.row _ k xs) => some (.sl k xs) | _ => none
  | .ob _ => some .any
  | _ => none
def lookCs (st : St) : List A → Option (List T)
  | [] => some []
  | a :: l => match lookC st a, lookCs st l with | some x, some l => some (x :: l) | _, _ => none
def look1 (st : St) : A → A
  | .ptr id off => match st.mem id with | some (.box _ cs) => (match lookCs st (cs.drop off) with | some ts => .t (.fp ts) | none => .ptr id off) | _ => .ptr id off
  | a => arg1 st a
def look2 (st : St) : A → A
  | .agg cs => .agg (cs.map (look1 st))
  | a => look1 st a
def flat1 : A → Bool
  | .t _ => true
  | _ => false
def flat2 : A → Bool
  | .agg cs => cs.all flat1
  | a => flat1 a
def flat3 : A → Bool
  | .tup cs => cs.all flat2
  | a => flat2 a
def scal1 : A → Bool
  | .t (.v _) => true
  | _ => false
def scal2 : A → Bool
  | .agg cs => cs.all scal1
  | a => scal1 a
def scal3 : A → Bool
  | .tup cs => cs.all scal2
  | a => scal2 a
def refs1 : A → List Nat
  | .ref id => [id]
  | _ => []
def refs2 : A → List Nat
  | .agg cs => cs.flatMap refs1
  | a => refs1 a
def sub1 (id : Nat) (x : T) : A → A
  | .ref i => if i = id then (match x with | .sl _ _ => .t x | _ => .ref i) else .ref i
  | .ptr i o => if i = id then (match x with | .fp cells => .t (.fp (cells.drop o)) | _ => .ptr i o) else .ptr i o
  | a => a
def sub2 (id : Nat) (x : T) : A → A
  | .agg cs => .agg (cs.map (sub1 id x))
  | a => sub1 id x a
def sub3 (id : Nat) (x : T) : A → A
  | .tup cs => .tup (cs.map (sub2 id x))
  | a => sub2 id x a
def Blk.sub (id : Nat) (x : T) : Blk → Blk
  | .box ty cells => .box ty (cells.map (sub1 id x))
  | b => b
def St.sub (st : St) (id : Nat) (x : T) : St := { st with env := fun t => sub3 id x (st.env t), mem := fun i => if i = id then none else (st.mem i).map (Blk.sub id x) }
def St.frz (st : St) (id : Nat) : St :=
  match st.mem id with
  | some (.row _ k xs) => st.sub id (.sl k xs)
  | some (.box _ cs) => (match cellsT cs with | some ts => st.sub id (.fp ts) | none => st)
  | _ => st
def St.frzs (st : St) : List Nat → St
  | [] => st
  | id :: l => (st.frz id).frzs l
def RepF (w : World) (M : Nat → Prop) (a : A) (v : Value) : Prop := RepA ⟨0, fun _ => .dead, fun _ => none, fun _ => false⟩ (fun _ => nol) w M a v
def plainFn (P : Program) (f : FuncId) : Bool :=
  match P.funcs[f]? with
  | some fn => fn.body.isSome && !(fn.name == "runtime.NumGoroutine")
  | none => false
def FnP (P : Program) (f : FuncId) (args : List A) (r : A) : Prop :=
  plainFn P f = true ∧ ∀ (w : World) (X : Nat → Prop) (vals : Array Value), (∀ b, X b → b < w.heap.size) → vals.size = args.length → (∀ i (hi : i < args.length), RepF w X (args[i]) (vals.getD i undef)) →
    Calls P f vals w fun e w' => ∃ v, e = .returned v ∧ Below w.heap.size w w' ∧ RepF w' X r v
def FnC (P : Program) (x : T) (args : List A) (r : A) : Prop :=
  (∃ f caps, x = .clo f caps ∧ FnP P f (args ++ caps.map fun c => .t (.fp c)) r) ∨ ∃ f, x = .v (.func (.func f) #[] #[]) ∧ FnP P f args r
end Go.Proofs.Ytblikpgdepjhdaa
namespace Go.Proofs.Ytblikpgdepjhdaa
open Go.RowKit
set_option linter.unusedVariables false
variable {C : Ctx} {st st' : St} {L L' : Nat → Loc} {a : Act} {w : World}
theorem shape_refl (st : St) (L : Nat → Loc) : ∀ id, st.used id = true → ∀ b', st.mem id = some b' → ∃ b, st.mem id = some b ∧ b.alike b' ∧ L id = L id := fun id _ b' h => ⟨b', h, b'.alike_refl, rfl⟩
theorem shape_like (st : St) (L : Nat → Loc) : ∀ id, st.used id = true → ∀ b', st.mem id = some b' → ∃ b, st.mem id = some b ∧ b.alike b' ∧ (L id).like (L id) := fun id _ b' h => ⟨b', h, b'.alike_refl, Loc.like_refl _⟩
theorem RepA.same {w : World} {M : Nat → Prop} {x : A} {v : Value} (h : RepA st L w M x v) (hm : st'.mem = st.mem) (hu : st'.used = st.used) : RepA st' L w M x v :=
  h.ext (Ext.refl M w) (fun _ _ h => h) (fun id h => by rw [hu]; exact h) (fun id _ b' h => ⟨b', by rw [← hm]; exact h, b'.alike_refl, Loc.like_refl _⟩)
theorem ev_rep (h : SimL C st L a w) (x : Operand) : RepA st L w (Mut C st L) (st.ev x) (a.eval x) := by
  cases x with
  | tmp t => exact h.env t
  | const v =>
    show RepA st L w _ (constA v) v
    unfold constA
    split
    · exact .t _ _ (.v v (by assumption))
    · exact .dead v
  | global g => exact .t _ _ (.v _ rfl)
  | func f => exact .t _ _ (.v _ rfl)
theorem put_getD (a : Act) (d t : Nat) (v : Value) (hd : d < a.tmps.size) : (a.put (some d) v).tmps.getD t undef = if t = d then v else a.tmps.getD t undef := by
  simp only [Act.put, Array.getD_eq_getD_getElem?, Array.getElem?_setIfInBounds]
  by_cases h : t = d
  · subst h; simp [hd]
  · rw [if_neg (fun e => h e.symm), if_neg h]
theorem put_size (a : Act) (d : Option Nat) (v : Value) : (a.put d v).tmps.size = a.tmps.size := by cases d <;> simp [Act.put]
theorem put_defers (a : Act) (d : Option Nat) (v : Value) : (a.put d v).defers = a.defers := by cases d <;> rfl
theorem put_env (st : St) (a : Act) (d : Option Nat) (hd : ∀ x, d = some x → x < a.tmps.size) (av : A) (v : Value) (t : Nat) :
    ((st.put d av).env t = st.env t ∧ (a.put d v).tmps.getD t undef = a.tmps.getD t undef) ∨ ((st.put d av).env t = av ∧ (a.put d v).tmps.getD t undef = v) := by
  cases d with
  | none => exact .inl ⟨rfl, rfl⟩
  | some d =>
    rw [put_getD a d t v (hd d rfl)]
    by_cases h : t = d
    · right; subst h; simp [St.put, upd]
    · left; simp [St.put, upd, h]
@[simp] theorem put_mem (st : St) (d : Option Nat) (x : A) : (st.put d x).mem = st.mem := by cases d <;> rfl
@[simp] theorem put_used (st : St) (d : Option Nat) (x : A) : (st.put d x).used = st.used := by cases d <;> rfl
@[simp] theorem put_n (st : St) (d : Option Nat) (x : A) : (st.put d x).n = st.n := by cases d <;> rfl
theorem SimL.put' (h : SimL C st L a w) (d : Option Nat) (hd : ∀ x, d = some x → x < st.n) {av : A} {v : Value} (hr : RepA st L w (Mut C st L) av v) {w' : World} (hh : w'.heap = w.heap) (ho : w'.os = w.os) (ht : w'.tape = w.tape) (hu : w'.output = w.output) :
    SimL C (st.put d av) L (a.put d v) w' := by
  have hM : Mut C (st.put d av) L = Mut C st L := by unfold Mut; simp
  refine h.next (by simp) (by rw [put_size, put_n]; exact h.hn) (by rw [put_defers]; exact h.hd) ho ht hu (by rw [hh]; exact Nat.le_refl _) (fun b _ _ => by rw [hh]) (fun id hi => by simpa using hi) (fun id hi b' hb => ⟨b', by simpa using hb, b'.alike_refl, rfl⟩)
    (fun id hs hf b hl => ?_) (fun id hs hf => ?_) (fun i j b hi hj hfi hfj => ?_) (fun id b' hb => ⟨by simpa using (h.mem id b' (by simpa using hb)).1, .inl ⟨by simpa using hb, rfl, fun b _ => by rw [hh]⟩⟩) (fun t => ?_)
  · obtain ⟨x, hx⟩ := Option.isSome_iff_exists.1 hs
    have := (h.mem id x (by simpa using hx)).1
    rw [hf] at this; cases this
  · obtain ⟨x, hx⟩ := Option.isSome_iff_exists.1 hs
    have := (h.mem id x (by simpa using hx)).1
    rw [hf] at this; cases this
  · obtain ⟨x, hx⟩ := Option.isSome_iff_exists.1 hi
    have := (h.mem i x (by simpa using hx)).1
    rw [hfi] at this; cases this
  · rcases put_env st a d (fun x hx => by rw [h.hn]; exact hd x hx) av v t with h1 | ⟨h1, h2⟩
    · exact .inl h1
    · right
      rw [h1, h2, hM]
      refine hr.ext ⟨by rw [hh]; exact Nat.le_refl _, fun k _ _ => by rw [hh]⟩ (fun _ _ h => h) (fun id hi => by simpa using hi) (fun id hi b' hb => ⟨b', by simpa using hb, b'.alike_refl, Loc.like_refl _⟩)
theorem SimL.put (h : SimL C st L a w) (d : Option Nat) (hd : ∀ x, d = some x → x < st.n) {av : A} {v : Value} (hr : RepA st L w (Mut C st L) av v) : SimL C (st.put d av) L (a.put d v) w :=
  h.put' d hd hr rfl rfl rfl rfl
theorem SimL.new (h : SimL C st L a w) (id : Nat) (hid : id < st.n ∨ 1000 ≤ id) (hu : st.used id = false) (blk : Blk) (loc : Loc) {w' : World} (os : w'.os = w.os) (tape : w'.tape = w.tape) (output : w'.output = w.output) (size : w.heap.size ≤ w'.heap.size)
    (block : ∀ b, b < w.heap.size → w'.heap[b]? = w.heap[b]?) (hl : ∀ b, loc.has b → w.heap.size ≤ b ∧ b < w'.heap.size)
    (hb : (∀ M : Nat → Prop, (∀ b, b < w.heap.size → M b → Mut C st L b) → RepB (st.new id blk) (upd L id loc) w' M id blk)) : SimL C (st.new id blk) (upd L id loc) a w' := by
  have hne : ∀ i, st.used i = true → i ≠ id := fun i hi e => by rw [e, hu] at hi; cases hi
  have hmu : ∀ i b, st.mem i = some b → i ≠ id := fun i b hi => hne i (h.mem i b hi).1
  have hM : ∀ b, b < w.heap.size → Mut C (st.new id blk) (upd L id loc) b → Mut C st L b := by
    rintro b hb (hx | ⟨i, hs, hli⟩)
    · exact .inl hx
    · by_cases e : i = id
      · subst e
        rw [upd_same] at hli
        have := hl b hli
        omega
      · rw [upd_other _ _ _ _ e] at hli
        refine .inr ⟨i, ?_, hli⟩
        simpa [St.new, upd, e] using hs
  refine h.next rfl h.hn h.hd os tape output size (fun b hb _ => block b hb) (fun i hi => by simp [St.new, upd, hi]) (fun i hi b' hb' => ?_) (fun i hs hf b hli => ?_) (fun i hs hf => ?_) (fun i j b hi hj hfi hfj _ _ => ?_) (fun i b' hb' => ?_) (fun t => .inl ⟨rfl, rfl⟩)
  · have e := hne i hi
    refine ⟨b', by simpa [St.new, upd, e] using hb', b'.alike_refl, upd_other _ _ _ _ e⟩
  · by_cases e : i = id
    · subst e; rw [upd_same] at hli; exact .inl (hl b hli)
    · obtain ⟨x, hx⟩ := Option.isSome_iff_exists.1 hs
      have hx' : st.mem i = some x := by simpa [St.new, upd, e] using hx
      have := (h.mem i x hx').1
      rw [hf] at this; cases this
  · by_cases e : i = id
    · subst e; exact hid
    · obtain ⟨x, hx⟩ := Option.isSome_iff_exists.1 hs
      have hx' : st.mem i = some x := by simpa [St.new, upd, e] using hx
      have := (h.mem i x hx').1
      rw [hf] at this; cases this
  · have key : ∀ i, ((st.new id blk).mem i).isSome = true → st.used i = false → i = id := fun i hi hf => by
      by_cases e : i = id
      · exact e
      · obtain ⟨x, hx⟩ := Option.isSome_iff_exists.1 hi
        have := (h.mem i x (by simpa [St.new, upd, e] using hx)).1
        rw [hf] at this; cases this
    rw [key i hi hfi, key j hj hfj]
  · by_cases e : i = id
    · subst e
      have : b' = blk := by simpa [St.new, upd] using hb'.symm
      subst this
      exact ⟨by simp [St.new, upd], .inr (hb _ hM)⟩
    · have hx : st.mem i = some b' := by simpa [St.new, upd, e] using hb'
      exact ⟨by simp [St.new, upd, (h.mem i b' hx).1], .inl ⟨hx, upd_other _ _ _ _ e, fun b hlb => block b (h.out i b (by rw [hx]; rfl) hlb).2.1⟩⟩
theorem SimL.later (h : SimL C st L a w) {w' : World} (os : w'.os = w.os) (tape : w'.tape = w.tape) (output : w'.output = w.output) (size : w.heap.size ≤ w'.heap.size)
    (block : ∀ b, b < w.heap.size → w'.heap[b]? = w.heap[b]?) : SimL C st L a w' := by
  refine h.next rfl h.hn h.hd os tape output size (fun b hb _ => block b hb) (fun i hi => hi) (shape_refl st L) (fun i hs hf b hl => ?_) (fun i hs hf => ?_) (fun i j b hi hj hfi hfj _ _ => ?_) (fun i b' hb' => ⟨(h.mem i b' hb').1, .inl ⟨hb', rfl, fun b hl => block b (h.out i b (by rw [hb']; rfl) hl).2.1⟩⟩) (fun t => .inl ⟨rfl, rfl⟩)
  · obtain ⟨x, hx⟩ := Option.isSome_iff_exists.1 hs
    have := (h.mem i x hx).1
    rw [hf] at this; cases this
  · obtain ⟨x, hx⟩ := Option.isSome_iff_exists.1 hs
    have := (h.mem i x hx).1
    rw [hf] at this; cases this
  · obtain ⟨x, hx⟩ := Option.isSome_iff_exists.1 hi
    have := (h.mem i x hx).1
    rw [hfi] at this; cases this
theorem SimL.setm (h : SimL C st L a w) (id : Nat) (old blk : Blk) (ho : st.mem id = some old) (hal : old.alike blk) (g : Nat) (hg : (L id).blk = some g) {cs : Array Value}
    (hb : RepB (st.setm id blk) L (w.setRow g cs) (Mut C st L) id blk) : SimL C (st.setm id blk) L a (w.setRow g cs) := by
  have hM : ∀ b, Mut C (st.setm id blk) L b → Mut C st L b := by
    rintro b (hx | ⟨i, hs, hli⟩)
    · exact .inl hx
    · refine .inr ⟨i, ?_, hli⟩
      by_cases e : i = id
      · subst e; rw [ho]; rfl
      · simpa [St.setm, upd, e] using hs
  have hM' : ∀ b, Mut C st L b → Mut C (st.setm id blk) L b := by
    rintro b (hx | ⟨i, hs, hli⟩)
    · exact .inl hx
    · refine .inr ⟨i, ?_, hli⟩
      by_cases e : i = id
      · subst e; simp [St.setm, upd]
      · simpa [St.setm, upd, e] using hs
  refine h.next rfl h.hn h.hd rfl rfl rfl (by simp) (fun b hb hm => setRow_other w g b cs fun e => hm ⟨id, by rw [ho]; rfl, by rw [e]; exact .inl hg⟩) (fun i hi => hi) (fun i hi b' hb' => ?_) (fun i hs hf b hl => ?_) (fun i hs hf => ?_) (fun i j b hi hj hfi hfj _ _ => ?_) (fun i b' hb' => ?_) (fun t => .inl ⟨rfl, rfl⟩)
  · by_cases e : i = id
    · subst e
      have : b' = blk := by simpa [St.setm, upd] using hb'.symm
      subst this
      exact ⟨old, ho, hal, rfl⟩
    · exact ⟨b', by simpa [St.setm, upd, e] using hb', b'.alike_refl, rfl⟩
  · have hx : ∃ x, st.mem i = some x := by
      by_cases e : i = id
      · exact ⟨old, by rw [e]; exact ho⟩
      · exact Option.isSome_iff_exists.1 (by simpa [St.setm, upd, e] using hs)
    obtain ⟨x, hx⟩ := hx
    have := (h.mem i x hx).1
    rw [hf] at this; cases this
  · have hx : ∃ x, st.mem i = some x := by
      by_cases e : i = id
      · exact ⟨old, by rw [e]; exact ho⟩
      · exact Option.isSome_iff_exists.1 (by simpa [St.setm, upd, e] using hs)
    obtain ⟨x, hx⟩ := hx
    have := (h.mem i x hx).1
    rw [hf] at this; cases this
  · have hx : ∃ x, st.mem i = some x := by
      by_cases e : i = id
      · exact ⟨old, by rw [e]; exact ho⟩
      · exact Option.isSome_iff_exists.1 (by simpa [St.setm, upd, e] using hi)
    obtain ⟨x, hx⟩ := hx
    have := (h.mem i x hx).1
    rw [hfi] at this; cases this
  · by_cases e : i = id
    · subst e
      have : b' = blk := by simpa [St.setm, upd] using hb'.symm
      subst this
      refine ⟨(h.mem i old ho).1, .inr ?_⟩
      exact hb.ext (Ext.refl _ _) (fun b _ h => hM b h) (fun i h => h) (shape_like _ L) rfl (fun _ _ => rfl)
    · have hx : st.mem i = some b' := by simpa [St.setm, upd, e] using hb'
      refine ⟨(h.mem i b' hx).1, .inl ⟨hx, rfl, fun b hl => setRow_other w g b cs fun eb => ?_⟩⟩
      subst eb
      exact e (h.inj i id b (by rw [hx]; rfl) (by rw [ho]; rfl) hl (.inl hg))
end Go.Proofs.Ytblikpgdepjhdaa
namespace Go.Proofs.Ytblikpgdepjhdaa
open Go.RowKit
set_option linter.unusedVariables false
variable {C : Ctx} {st st' : St} {L L' : Nat → Loc} {a : Act} {w : World}
theorem row_rep {M M' : Nat → Prop} {id : Nat} {e : TypeId} {k : Nat} {xs : List (List T)} (h : RepB st L w M id (.row e k xs)) (hlt : ∀ b, (L id).blk = some b → b < w.heap.size ∧ ¬ M' b) (hM : ∀ b, b < w.heap.size → M' b → M b) :
    RepT w M' (.sl k xs) ((L id).slice xs.length) := by
  obtain ⟨h0, hk, hr⟩ := h
  rcases hr with ⟨hx, hn⟩ | ⟨b, cur, hb, hw, hl, hm, hsz, hc⟩
  · subst hx; rw [hn]; exact .nil k none 0 (Nat.zero_le _)
  · have e : (L id).slice xs.length = .slice (some ⟨b, 0, none⟩) xs.length (L id).cap := by simp [Loc.slice, hb]
    rw [e]
    refine .sl k xs b 0 (L id).cap (fun i j => (cur[i * k + j]?).getD undef) (hlt b hb).1 (hlt b hb).2 hl hm hk (fun i hi j hj => ?_) (fun i hi j hj => ?_)
    · obtain ⟨c, hc1, hc2⟩ := hc i hi j (by rw [hk i hi]; exact hj)
      rw [Nat.zero_add, cell_of_row w b (i * k + j) cur _ _ hw, hc1]
      rfl
    · obtain ⟨c, hc1, hc2⟩ := hc i hi j hj
      show RepT w M' _ ((cur[i * k + j]?).getD undef)
      rw [hc1]
      exact hc2.ext (Ext.refl _ _) hM
theorem frz_row {id : Nat} {e : TypeId} {k : Nat} {xs : List (List T)} (h : st.mem id = some (.row e k xs)) : st.frz id = st.sub id (.sl k xs) := by
  unfold St.frz; rw [h]
theorem frz_obj {id : Nat} {od : Od} (h : st.mem id = some (.obj od)) : st.frz id = st := by
  unfold St.frz; rw [h]
theorem frz_box {id : Nat} {ty : TypeId} {cs : List A} {ts : List T} (h : st.mem id = some (.box ty cs)) (hc : cellsT cs = some ts) : st.frz id = st.sub id (.fp ts) := by
  unfold St.frz; rw [h]; simp only; rw [hc]
@[simp] theorem frz_n (st : St) (id : Nat) : (st.frz id).n = st.n := by
  unfold St.frz; split
  · rfl
  · split <;> rfl
  · rfl
@[simp] theorem frz_used (st : St) (id : Nat) : (st.frz id).used = st.used := by
  unfold St.frz; split
  · rfl
  · split <;> rfl
  · rfl
@[simp] theorem frzs_n (l : List Nat) : ∀ st : St, (st.frzs l).n = st.n := by
  induction l with
  | nil => intro st; rfl
  | cons i l ih => intro st; rw [St.frzs, ih, frz_n]
@[simp] theorem frzs_used (l : List Nat) : ∀ st : St, (st.frzs l).used = st.used := by
  induction l with
  | nil => intro st; rfl
  | cons i l ih => intro st; rw [St.frzs, ih, frz_used]
theorem sub1_single (id : Nat) (x : T) (y : A) (h : y.single = true) : (sub1 id x y).single = true := by
  cases y with
  | ref i => unfold sub1; dsimp only; split <;> (try split) <;> rfl
  | ptr i o => unfold sub1; dsimp only; split <;> (try split) <;> rfl
  | _ => exact h
theorem Blk.sub_alike (id : Nat) (x : T) (b : Blk) : b.alike (b.sub id x) := by cases b <;> simp [Blk.alike, Blk.sub]
structure SubOk (st : St) (L : Nat → Loc) (w : World) (M' : Nat → Prop) (id : Nat) (x : T) : Prop where
  row : ∀ k xs, x = .sl k xs → ∃ e, st.mem id = some (.row e k xs) ∧ RepT w M' x ((L id).slice xs.length)
  box : ∀ cells, x = .fp cells → ∃ ty cs, st.mem id = some (.box ty cs) ∧ ∀ o, RepT w M' (.fp (cells.drop o)) ((L id).ptr o)
section frz
variable {M M' : Nat → Prop} {id : Nat} {x : T}
theorem RepA.sub1 (hx : SubOk st L w M' id x)
    (hM : ∀ b, b < w.heap.size → M' b → M b) (hu : st'.used = st.used) (hs : ∀ i b', st'.mem i = some b' → ∃ b, st.mem i = some b ∧ b.alike b') {y : A} {v : Value} (h : RepA st L w M y v) : RepA st' L w M' (sub1 id x y) v := by
  have go : RepA st' L w M' y v := h.ext (Ext.refl _ _) hM (fun i hi => by rw [hu]; exact hi) (fun i _ b' hb => by obtain ⟨b, h1, h2⟩ := hs i b' hb; exact ⟨b, h1, h2, Loc.like_refl _⟩)
  cases y with
  | ref i =>
    unfold Go.Proofs.Ytblikpgdepjhdaa.sub1
    dsimp only
    by_cases hi : i = id
    · subst hi
      rw [if_pos rfl]
      split
      · rename_i k xs
        obtain ⟨e, hm, hr⟩ := hx.row k xs rfl
        cases h with
        | ref _ _ h1 hus h => exact .t _ _ (by rw [h e k xs hm]; exact hr)
      · exact go
    · rw [if_neg hi]; exact go
  | ptr i o =>
    unfold Go.Proofs.Ytblikpgdepjhdaa.sub1
    dsimp only
    by_cases hi : i = id
    · subst hi
      rw [if_pos rfl]
      split
      · rename_i cells
        obtain ⟨ty, cs, hm, hr⟩ := hx.box cells rfl
        cases h with
        | ptr _ _ _ h1 hus h => exact .t _ _ (by rw [h ty cs hm]; exact hr o)
      · exact go
    · rw [if_neg hi]; exact go
  | _ => exact go
theorem RepA.sub2 (hx : SubOk st L w M' id x)
    (hM : ∀ b, b < w.heap.size → M' b → M b) (hu : st'.used = st.used) (hs : ∀ i b', st'.mem i = some b' → ∃ b, st.mem i = some b ∧ b.alike b') {y : A} {v : Value} (h : RepA st L w M y v) : RepA st' L w M' (sub2 id x y) v := by
  cases y with
  | agg cs =>
    cases h with
    | agg _ vs hsz h1 hr =>
      refine .agg _ vs (by simpa using hsz) (fun i hi => ?_) (fun i hi => ?_)
      · rw [List.getElem_map]; exact sub1_single _ _ _ (h1 i (by simpa using hi))
      · simp only [List.getElem_map]; exact (hr i (by simpa using hi)).sub1 hx hM hu hs
  | _ => exact h.sub1 hx hM hu hs
theorem RepA.sub3 (hx : SubOk st L w M' id x)
    (hM : ∀ b, b < w.heap.size → M' b → M b) (hu : st'.used = st.used) (hs : ∀ i b', st'.mem i = some b' → ∃ b, st.mem i = some b ∧ b.alike b') {y : A} {v : Value} (h : RepA st L w M y v) : RepA st' L w M' (sub3 id x y) v := by
  cases y with
  | tup cs =>
    cases h with
    | tup _ vs hsz hr =>
      refine .tup _ vs (by simpa using hsz) (fun i hi => ?_)
      simp only [List.getElem_map]; exact (hr i (by simpa using hi)).sub2 hx hM hu hs
  | _ => exact h.sub2 hx hM hu hs
end frz
theorem cellsT_all : ∀ {cs : List A} {ts : List T}, cellsT cs = some ts → cs.length = ts.length ∧ ∀ i (hi : i < cs.length) (hi' : i < ts.length), cs[i] = .t ts[i]
  | [], ts, h => by cases h; exact ⟨rfl, fun i hi => by simp at hi⟩
  | a :: l, ts, h => by
    unfold cellsT at h
    split at h
    · rename_i x l' hx hl
      cases h
      obtain ⟨h1, h2⟩ := cellsT_all hl
      refine ⟨by simp [h1], fun i hi hi' => ?_⟩
      cases i with
      | zero =>
        unfold cellT at hx
        split at hx
        · cases hx; rfl
        · cases hx
      | succ i => exact h2 i (by simpa using hi) (by simpa using hi')
    · cases h
theorem box_rep {M M' : Nat → Prop} {id : Nat} {ty : TypeId} {cs : List A} {ts : List T} (h : RepB st L w M id (.box ty cs)) (hc : cellsT cs = some ts) (hlt : ∀ b, (L id).blk = some b → b < w.heap.size ∧ ¬ M' b) (hM : ∀ b, b < w.heap.size → M' b → M b) (o : Nat) :
    RepT w M' (.fp (ts.drop o)) ((L id).ptr o) := by
  obtain ⟨b, vs, hb, hw, hsz, hr⟩ := h
  obtain ⟨hl, hg⟩ := cellsT_all hc
  have e : (L id).ptr o = .pointer (some ⟨b, o, none⟩) := by simp [Loc.ptr, hb]
  rw [e]
  refine .fp _ b o (fun j => (vs[o + j]?).getD undef) (hlt b hb).1 (hlt b hb).2 (fun j hj => ?_) (fun j hj => ?_)
  · have hj' : o + j < vs.size := by simp at hj; omega
    rw [cell_of_row w b (o + j) vs _ _ hw]
    simp [hj']
  · have hj' : o + j < cs.length := by simp at hj; omega
    have hj2 : o + j < vs.size := by omega
    have h1 := (hr (o + j) hj').2
    rw [hg (o + j) hj' (by omega)] at h1
    simp only [List.getElem_drop]
    rw [Array.getElem?_eq_getElem hj2, Option.getD_some]
    cases h1 with
    | t _ _ h1 => exact h1.ext (Ext.refl _ _) hM
theorem SimL.subst (h : SimL C st L a w) (id : Nat) (x : T) (hsome : (st.mem id).isSome = true) (hok : ∀ M' : Nat → Prop, (∀ b, (L id).blk = some b → b < w.heap.size ∧ ¬ M' b) → (∀ b, b < w.heap.size → M' b → Mut C st L b) → SubOk st L w M' id x) : SimL C (st.sub id x) L a w := by
  obtain ⟨blk0, hm⟩ := Option.isSome_iff_exists.1 hsome
  generalize hst : st.sub id x = st'
  have hu : st'.used = st.used := by subst hst; rfl
  have hs : ∀ i b', st'.mem i = some b' → i ≠ id ∧ ∃ b, st.mem i = some b ∧ b' = b.sub id x := fun i b' hb => by
    subst hst
    simp only [St.sub] at hb
    by_cases e : i = id
    · rw [if_pos e] at hb; cases hb
    · rw [if_neg e] at hb
      obtain ⟨b, h1, h2⟩ := Option.map_eq_some_iff.1 hb
      exact ⟨e, b, h1, h2.symm⟩
  have hs' : ∀ i b', st'.mem i = some b' → ∃ b, st.mem i = some b ∧ b.alike b' := fun i b' hb => by
    obtain ⟨_, b, h1, rfl⟩ := hs i b' hb
    exact ⟨b, h1, Blk.sub_alike _ _ _⟩
  have hM : ∀ b, Mut C st' L b → Mut C st L b := by
    rintro b (hx | ⟨i, hi, hl⟩)
    · exact .inl hx
    · obtain ⟨b', hb'⟩ := Option.isSome_iff_exists.1 hi
      obtain ⟨_, c, hc, _⟩ := hs i b' hb'
      exact .inr ⟨i, by rw [hc]; rfl, hl⟩
  have hx : SubOk st L w (Mut C st' L) id x := by
    refine hok _ (fun b hb => ?_) (fun b _ => hM b)
    have ho := h.out id b (by rw [hm]; rfl) (.inl hb)
    refine ⟨ho.2.1, ?_⟩
    rintro (hx | ⟨i, hi, hl⟩)
    · exact ho.1 hx
    · obtain ⟨b', hb'⟩ := Option.isSome_iff_exists.1 hi
      obtain ⟨hne, c, hc, _⟩ := hs i b' hb'
      exact hne (h.inj i id b (by rw [hc]; rfl) (by rw [hm]; rfl) hl (.inl hb))
  refine h.next (by subst hst; rfl) (by subst hst; exact h.hn) h.hd rfl rfl rfl (Nat.le_refl _) (fun _ _ _ => rfl) (fun i hi => by rw [hu]; exact hi) (fun i _ b' hb => by obtain ⟨b, h1, h2⟩ := hs' i b' hb; exact ⟨b, h1, h2, rfl⟩)
    (fun i hi hf b hl => ?_) (fun i hi hf => ?_) (fun i j b hi hj hfi hfj _ _ => ?_) (fun i b' hb' => ?_) (fun t => .inr ?_)
  · obtain ⟨b', hb'⟩ := Option.isSome_iff_exists.1 hi
    obtain ⟨c, hc, _⟩ := hs' i b' hb'
    have := (h.mem i c hc).1
    rw [hf] at this; cases this
  · obtain ⟨b', hb'⟩ := Option.isSome_iff_exists.1 hi
    obtain ⟨c, hc, _⟩ := hs' i b' hb'
    have := (h.mem i c hc).1
    rw [hf] at this; cases this
  · obtain ⟨b', hb'⟩ := Option.isSome_iff_exists.1 hi
    obtain ⟨c, hc, _⟩ := hs' i b' hb'
    have := (h.mem i c hc).1
    rw [hfi] at this; cases this
  · obtain ⟨hne, c, hc, rfl⟩ := hs i b' hb'
    have hmem := h.mem i c hc
    refine ⟨by rw [hu]; exact hmem.1, .inr ?_⟩
    cases c with
    | obj od =>
      exact hmem.2.ext (Ext.refl _ _) (fun b _ => hM b) (fun i hi => by rw [hu]; exact hi) (fun i _ b' hb => by obtain ⟨b, h1, h2⟩ := hs' i b' hb; exact ⟨b, h1, h2, Loc.like_refl _⟩) rfl (fun _ _ => rfl)
    | row e' k' ys =>
      exact hmem.2.ext (Ext.refl _ _) (fun b _ => hM b) (fun i hi => by rw [hu]; exact hi) (fun i _ b' hb => by obtain ⟨b, h1, h2⟩ := hs' i b' hb; exact ⟨b, h1, h2, Loc.like_refl _⟩) rfl (fun _ _ => rfl)
    | box ty cells =>
      obtain ⟨b, cs, hb, hw, hsz, hr⟩ := hmem.2
      refine ⟨b, cs, hb, hw, by simpa using hsz, fun j hj => ?_⟩
      have hj' : j < cells.length := by simpa using hj
      simp only [List.getElem_map]
      exact ⟨sub1_single _ _ _ (hr j hj').1, (hr j hj').2.sub1 hx (fun b _ => hM b) hu hs'⟩
  · have : st'.env t = Go.Proofs.Ytblikpgdepjhdaa.sub3 id x (st.env t) := by subst hst; rfl
    rw [this]
    exact (h.env t).sub3 hx (fun b _ => hM b) hu hs'
theorem SimL.frz (h : SimL C st L a w) (id : Nat) : SimL C (st.frz id) L a w := by
  cases hm : st.mem id with
  | none => have : st.frz id = st := by unfold St.frz; rw [hm]
            rw [this]; exact h
  | some blk =>
    cases blk with
    | obj od => rw [frz_obj hm]; exact h
    | box ty cs =>
      cases hc : cellsT cs with
      | none => have : st.frz id = st := by unfold St.frz; rw [hm]; simp only; rw [hc]
                rw [this]; exact h
      | some ts =>
        rw [frz_box hm hc]
        exact h.subst id _ (by rw [hm]; rfl) fun M' h1 h2 => ⟨fun k xs e => (by cases e), fun cells e => by cases e; exact ⟨ty, cs, hm, box_rep (h.mem id _ hm).2 hc h1 h2⟩⟩
    | row e k xs =>
      rw [frz_row hm]
      exact h.subst id _ (by rw [hm]; rfl) fun M' h1 h2 => ⟨fun k' xs' e' => by cases e'; exact ⟨e, hm, row_rep (h.mem id _ hm).2 h1 h2⟩, fun cells e => (by cases e)⟩
theorem SimL.frzs (l : List Nat) : ∀ {st : St}, SimL C st L a w → SimL C (st.frzs l) L a w := by
  induction l with
  | nil => intro st h; exact h
  | cons i l ih => intro st h; exact ih (h.frz i)
theorem SimL.del (h : SimL C st L a w) (id : Nat) : SimL C (st.del id) L a w := by
  have hs : ∀ i b', (st.del id).mem i = some b' → st.mem i = some b' := fun i b' hb => by
    by_cases e : i = id
    · subst e; simp [St.del, upd] at hb
    · simpa [St.del, upd, e] using hb
  have hM : ∀ b, Mut C (st.del id) L b → Mut C st L b := by
    rintro b (hx | ⟨i, hi, hl⟩)
    · exact .inl hx
    · obtain ⟨b', hb'⟩ := Option.isSome_iff_exists.1 hi
      exact .inr ⟨i, by rw [hs i b' hb']; rfl, hl⟩
  refine h.next rfl h.hn h.hd rfl rfl rfl (Nat.le_refl _) (fun _ _ _ => rfl) (fun i hi => hi) (fun i _ b' hb => ⟨b', hs i b' hb, b'.alike_refl, rfl⟩) (fun i hi hf b hl => ?_) (fun i hi hf => ?_) (fun i j b hi hj hfi hfj _ _ => ?_) (fun i b' hb' => ⟨(h.mem i b' (hs i b' hb')).1, .inl ⟨hs i b' hb', rfl, fun _ _ => rfl⟩⟩) (fun t => .inl ⟨rfl, rfl⟩)
  · obtain ⟨b', hb'⟩ := Option.isSome_iff_exists.1 hi
    have := (h.mem i b' (hs i b' hb')).1
    rw [hf] at this; cases this
  · obtain ⟨b', hb'⟩ := Option.isSome_iff_exists.1 hi
    have := (h.mem i b' (hs i b' hb')).1
    rw [hf] at this; cases this
  · obtain ⟨b', hb'⟩ := Option.isSome_iff_exists.1 hi
    have := (h.mem i b' (hs i b' hb')).1
    rw [hfi] at this; cases this
end Go.Proofs.Ytblikpgdepjhdaa
namespace Go.Proofs.Ytblikpgdepjhdaa
open Go.RowKit
set_option linter.unusedVariables false
variable {C : Ctx} {st st' : St} {L L' : Nat → Loc} {a : Act} {w : World} {P : Program}
structure TParts (P : Program) (t : TypeId) (ti : TI) : Prop where
  ex : ∃ i d z, P.info? t = some i ∧ P.underlying t = some d ∧ i.zero = some z ∧ ti.size = i.size ∧ ti.bytes = i.bytes ∧ ti.agg = isRowB (some d) ∧ ti.zero = z.cells.toList ∧
    (∀ v ∈ z.cells.toList, v.oneCell' = true) ∧ (∀ e, ti.elem = some e → d = .slice e) ∧ (∀ k, ti.int = some k → d = .int k) ∧ fieldsOf P d = some ti.fs ∧ z.cells.size = i.size
theorem tparts {t : TypeId} {ti : TI} (h : tinfo P t = some ti) : TParts P t ti := by
  unfold tinfo at h
  split at h
  · rename_i i d hi hd
    split at h
    · rename_i z fs hz hfs
      split at h
      · rename_i hall
        cases h
        simp only [Bool.and_eq_true, beq_iff_eq] at hall
        refine ⟨i, d, z, hi, hd, hz, rfl, rfl, rfl, rfl, fun v hv => List.all_eq_true.1 hall.1 v hv, fun e he => ?_, fun k hk => ?_, hfs, hall.2⟩
        · dsimp only at he; split at he <;> simp_all
        · dsimp only at hk; split at hk <;> simp_all
      · cases h
    · cases h
  · cases h
theorem tkind_ex {t : TypeId} {k : Kd} (h : tkind P t = k) (hk : k ≠ .other) : ∃ d, P.underlying t = some d ∧ kindOf d = k := by
  unfold tkind at h
  split at h
  · exact ⟨_, by assumption, h⟩
  · exact absurd h.symm hk
theorem kind_str {t : TypeId} (h : tkind P t = .str) : P.underlying t = some .string := by
  obtain ⟨d, hd, hk⟩ := tkind_ex h (by simp)
  cases d <;> simp_all [kindOf]
theorem kind_bool {t : TypeId} (h : tkind P t = .bool) : P.underlying t = some .bool := by
  obtain ⟨d, hd, hk⟩ := tkind_ex h (by simp)
  cases d <;> simp_all [kindOf]
theorem kind_slice {t : TypeId} (h : tkind P t = .slice) : ∃ e, P.underlying t = some (.slice e) := by
  obtain ⟨d, hd, hk⟩ := tkind_ex h (by simp)
  cases d <;> simp_all [kindOf]
theorem kind_strct {t : TypeId} (h : tkind P t = .strct) : ∃ fs, P.underlying t = some (.struct fs) := by
  obtain ⟨d, hd, hk⟩ := tkind_ex h (by simp)
  cases d <;> simp_all [kindOf]
theorem rep_val {M : Nat → Prop} {x v : Value} (h : RepA st L w M (.v x) v) : v = x := by
  cases h with | t _ _ h => cases h with | v => rfl
theorem cells_one {v : Value} (h : v.oneCell' = true) : v.cells = #[v] := by cases v <;> first | rfl | (simp [Value.oneCell'] at h)
theorem cells_rep {M : Nat → Prop} {x : A} {cs : List A} {v : Value} (hc : cellsOf x = some cs) (h : RepA st L w M x v) :
    ∃ hs : v.cells.size = cs.length, ∀ i (hi : i < cs.length), (cs[i]).single = true ∧ RepA st L w M (cs[i]) (v.cells[i]'(by omega)) := by
  have one : x.single = true → cs = [x] → ∃ hs : v.cells.size = cs.length, ∀ i (hi : i < cs.length), (cs[i]).single = true ∧ RepA st L w M (cs[i]) (v.cells[i]'(by omega)) := by
    intro hs hcs
    subst hcs
    have h1 := cells_one (h.one hs)
    refine ⟨by rw [h1]; rfl, fun i hi => ?_⟩
    have hi0 : i = 0 := by simp at hi; omega
    subst hi0
    simp only [h1]
    exact ⟨hs, h⟩
  cases x with
  | agg l =>
    cases hc
    cases h with
    | agg _ vs hsz h1 hr => exact ⟨hsz, fun i hi => ⟨h1 i hi, hr i hi⟩⟩
  | tup => cases hc
  | dead => cases hc
  | t y => cases hc; exact one rfl rfl
  | ref id => cases hc; exact one rfl rfl
  | ptr id off => cases hc; exact one rfl rfl
  | ifc id i j => cases hc; exact one rfl rfl
  | rptr id i j => cases hc; exact one rfl rfl
  | ob id => cases hc; exact one rfl rfl
  | fel el => cases hc; exact one rfl rfl
theorem wp_value {o : Oper} {next : Act → World → Prop} {Q : Exit → Act → World → Prop} {v : Value} {w' : World} (h : (execOp a.eval o).run P w = .ok (.value v) w') (hn : next (a.put o.dst v) w') : o.wp P a w next Q := by
  unfold Oper.wp; rw [h]; exact hn
theorem wp_skipped {o : Oper} {next : Act → World → Prop} {Q : Exit → Act → World → Prop} {w' : World} (h : (execOp a.eval o).run P w = .ok .skip w') (hn : next (a.put o.dst undef) w') : o.wp P a w next Q := by
  unfold Oper.wp; rw [h]; exact hn
def Opk (P : Program) (o : Oper) (st : St) (K : St → Prop) : Prop :=
  ∀ (C : Ctx) (a : Act) (w : World), C.P = P → Sim C st a w → (∀ d, o.dst = some d → d < st.n) → ∀ (next : Act → World → Prop) (Q : Exit → Act → World → Prop),
    (∀ st' a' w', st'.n = st.n → K st' → Sim C st' a' w' → next a' w') → o.wp P a w next Q
theorem op_move {o : Oper} {K : St → Prop} (x : Operand) (ho : o.op = .move x ∨ o.op = .assign x) (h : K (st.put o.dst (st.ev x))) : Opk P o st K := by
  intro C a w hP ⟨L, hs⟩ hd next Q hn
  refine wp_value (v := a.eval x) (w' := w) (by rcases ho with ho | ho <;> (unfold execOp; simp only [ho]; rfl)) (hn _ _ _ (by simp) h ⟨L, hs.put _ hd (ev_rep hs x)⟩)
theorem op_pick {o : Oper} {K : St → Prop} (c x y : Operand) (ho : o.op = .pick c x y) (t : Bool) (hc : st.ev c = .v (.bool t)) (h : K (st.put o.dst (pickA t (st.ev x) (st.ev y)))) : Opk P o st K := by
  intro C a w hP ⟨L, hs⟩ hd next Q hn
  have e := rep_val (hc ▸ ev_rep hs c)
  refine wp_value (v := if t then a.eval x else a.eval y) (w' := w) (by unfold execOp; simp only [ho, e]; cases t <;> rfl) (hn _ _ _ (by simp) h ⟨L, hs.put _ hd ?_⟩)
  cases t
  · exact ev_rep hs y
  · exact ev_rep hs x
theorem new_box (hs : SimL C st L a w) (d : Nat) (hu : st.used d = false) (ty : TypeId) (cs : List A) (vs : Array Value) (hsz : vs.size = cs.length) (hr : ∀ i (hi : i < cs.length), (cs[i]).single = true ∧ RepA st L w (Mut C st L) (cs[i]) (vs[i]'(by omega))) (dst : Option Nat) (hdst : dst = some d) (hlt : d < st.n) :
    Sim C ((st.new d (.box ty cs)).put dst (.ptr d 0)) (a.put dst (.pointer (some ⟨w.heap.size, 0, none⟩))) (w.alloc (.cells vs ty)) := by
  have h1 : SimL C (st.new d (.box ty cs)) (upd L d (Loc.at_ w.heap.size 0)) a (w.alloc (.cells vs ty)) := by
    refine hs.new d (.inl hlt) hu _ _ rfl rfl rfl (by simp) (fun b hb => Below.heap_alloc w _ _ hb) (fun b hb => by cases at_has hb; simp) (fun M hM => ⟨w.heap.size, vs, by rw [upd_same], heap_alloc_new w _, hsz, fun i hi => ⟨(hr i hi).1, ?_⟩⟩)
    refine (hr i hi).2.ext ⟨by simp, fun k hk _ => Below.heap_alloc w _ _ hk⟩ hM (fun i hi => by simp [St.new, upd, hi]) (fun i hi b' hb' => ?_)
    have e : i ≠ d := fun e => by rw [e, hu] at hi; cases hi
    exact ⟨b', by simpa [St.new, upd, e] using hb', b'.alike_refl, Loc.like.of (upd_other _ _ _ _ e)⟩
  refine ⟨_, h1.put dst (fun x hx => by rw [hdst] at hx; cases hx; exact hlt) (.ptr d 0 _ rfl (by simp [St.new, upd]) fun ty' cs' hm => by rw [upd_same]; rfl)⟩
theorem op_alloc {o : Oper} {K : St → Prop} (ty : TypeId) (ho : o.op = .alloc ty) (d : Nat) (ti : TI) (hdst : o.dst = some d) (ht : tinfo P ty = some ti) (hu : st.used d = false) (h : K ((st.new d (.box ty (ti.zero.map .v))).put o.dst (.ptr d 0))) : Opk P o st K := by
  intro C a w hP ⟨L, hs⟩ hd next Q hn
  obtain ⟨i, td, z, hi, hud, hz, h1, h2, h3, h4, h5, h6, h7, h8, h9⟩ := (tparts ht).ex
  refine wp_value (v := .pointer (some ⟨w.heap.size, 0, none⟩)) (w' := w.alloc (.cells z.cells ty)) ?_ (hn _ _ _ (by simp; rfl) h ?_)
  · unfold execOp
    simp [ho, Instr.alloc, zeroValue, typeInfo, hi, hz, newVar, newRow]
  · refine new_box hs d hu ty _ z.cells (by rw [h4]; simp) (fun j hj => ?_) _ hdst (hd d hdst)
    simp only [h4, List.getElem_map, Array.getElem_toList]
    exact ⟨rfl, .t _ _ (.v _ (h5 _ (by simp)))⟩
theorem op_box {o : Oper} {K : St → Prop} (ty : TypeId) (x : Operand) (ho : o.op = .box ty x) (d : Nat) (cs : List A) (hdst : o.dst = some d) (hc : cellsOf (st.ev x) = some cs) (hu : st.used d = false) (h : K ((st.new d (.box ty cs)).put o.dst (.ptr d 0))) : Opk P o st K := by
  intro C a w hP ⟨L, hs⟩ hd next Q hn
  obtain ⟨hsz, hr⟩ := cells_rep hc (ev_rep hs x)
  refine wp_value (v := .pointer (some ⟨w.heap.size, 0, none⟩)) (w' := w.alloc (.cells (a.eval x).cells ty)) ?_ (hn _ _ _ (by simp; rfl) h ?_)
  · unfold execOp
    simp [ho, Instr.box, newVar, newRow]
  · exact new_box hs d hu ty _ _ hsz hr _ hdst (hd d hdst)
theorem op_extract {o : Oper} {K : St → Prop} (x : Operand) (i : Nat) (ho : o.op = .extract x i) (cs : List A) (y : A) (hx : st.ev x = .tup cs) (hy : cs[i]? = some y) (h : K (st.put o.dst y)) : Opk P o st K := by
  intro C a w hP ⟨L, hs⟩ hd next Q hn
  have hr := ev_rep hs x
  rw [hx] at hr
  generalize hv : a.eval x = v at hr
  cases hr with
  | tup _ vs hsz hr =>
    obtain ⟨hi, rfl⟩ := List.getElem?_eq_some_iff.1 hy
    refine wp_value (v := vs[i]'(by omega)) (w' := w) ?_ (hn _ _ _ (by simp) h ⟨L, hs.put _ hd (hr i hi)⟩)
    unfold execOp
    simp only [ho, hv, Instr.extract, Array.getElem?_eq_getElem (show i < vs.size by omega)]
    rfl
theorem ptr_ex (hs : SimL C st L a w) {y : A} {v : Value} (hr : RepA st L w (Mut C st L) y v) (hx : isPtr st y = true) : ∃ ad, v = .pointer (some ad) := by
  cases hr with
  | ptr id off _ h1 hus hp =>
    unfold isPtr at hx
    dsimp only at hx
    split at hx
    · rename_i ty cs hm
      obtain ⟨b, _, hb, _⟩ := (hs.mem _ _ hm).2
      exact ⟨⟨b, off, none⟩, by rw [hp _ _ hm]; simp [Loc.ptr, hb]⟩
    · cases hx
  | rptr id i j _ h1 hus hp =>
    unfold isPtr at hx
    dsimp only at hx
    split at hx
    · rename_i e k xs hm
      have hlt : i < xs.length := of_decide_eq_true hx
      obtain ⟨_, _, hq⟩ := (hs.mem _ _ hm).2
      rcases hq with ⟨hxs, _⟩ | ⟨b, _, hb, _⟩
      · subst hxs; simp at hlt
      · exact ⟨⟨b, i * k + j, none⟩, by rw [hp _ _ _ hm]; simp [Loc.ptr, hb]⟩
    · cases hx
  | ob id _ h1 hus hp =>
    unfold isPtr at hx
    dsimp only at hx
    split at hx
    · rename_i R hm
      obtain ⟨b, _, hb, _⟩ := (hs.mem _ _ hm).2
      exact ⟨⟨b, 0, none⟩, by rw [hp _ hm]; simp [Loc.ob, Od.isMap, hb]⟩
    · cases hx
  | fel el b off c => exact ⟨_, rfl⟩
  | t y _ h =>
    cases h with
    | fp => exact ⟨_, rfl⟩
    | _ => simp [isPtr] at hx
  | _ => simp [isPtr] at hx
theorem op_nil {o : Oper} {K : St → Prop} (x : Operand) (ho : o.op = .nilCheck x) (hx : isPtr st (st.ev x) = true) (h : K (st.put o.dst (st.ev x))) : Opk P o st K := by
  intro C a w hP ⟨L, hs⟩ hd next Q hn
  have hr := ev_rep hs x
  obtain ⟨ad, hv⟩ := ptr_ex hs hr hx
  refine wp_value (v := a.eval x) (w' := w) ?_ (hn _ _ _ (by simp) h ⟨L, hs.put _ hd hr⟩)
  unfold execOp
  simp only [ho, hv]
  rfl
theorem semPure_run {s : Sem Value} {v : Value} (h : semPure s = some v) (w : World) : s.run P w = .ok v w := by
  cases s <;> simp [semPure] at h
  subst h; rfl
theorem guard_int (op : BinOp) (t : TypeId) (x y : Operand) (k k' : IntKind) (n m : Int) (w : World) : (eqGuard op t x y (.int k n) (.int k' m)).run P w = .ok () w := by
  cases op <;> rfl
theorem guard_str (op : BinOp) (t : TypeId) (x y : Operand) (n m : ByteArray) (w : World) : (eqGuard op t x y (.string n) (.string m)).run P w = .ok () w := by
  cases op <;> rfl
theorem guard_bool (op : BinOp) (t : TypeId) (x y : Operand) (n m : Bool) (w : World) : (eqGuard op t x y (.bool n) (.bool m)).run P w = .ok () w := by
  cases op <;> rfl
theorem bin_str (op : BinOp) (t : TypeId) (s u : ByteArray) : binOp op t (.string s) (.string u) = Op.stringOp op s u := by cases op <;> rfl
theorem equal_bool {t : TypeId} (hu : P.underlying t = some .bool) (b c : Bool) (w : World) : (Op.equal t (.bool b) (.bool c)).run P w = .ok (b == c) w := by
  show (Op.equalIn (9999 + 1) t (.bool b) (.bool c)).run P w = _
  rw [Op.equalIn, Sem.run_bind, run_underlying hu]
  rfl
theorem binF_run {op : BinOp} {t : TypeId} {x y z : Value} (h : binF P op t x y = some z) (p q : Operand) (w : World) : (do eqGuard op t p q x y; binOp op t x y : Sem Value).run P w = .ok z w := by
  rw [Sem.run_bind]
  cases x <;> cases y <;> simp only [binF] at h <;> try (cases h; done)
  case int.int => rw [guard_int]; exact semPure_run h w
  case string.string => rw [guard_str, Result.andThen_ok, bin_str]; exact semPure_run h w
  case bool.bool b c =>
    rw [guard_bool, Result.andThen_ok]
    split at h
    · rename_i hk
      have hu := kind_bool hk
      split at h
      · cases h
        have e : binOp .eql t (.bool b) (.bool c) = (do pure (.bool (← Op.equal t (.bool b) (.bool c)))) := rfl
        rw [e, Sem.run_bind, equal_bool hu]; rfl
      · cases h
        have e : binOp .neq t (.bool b) (.bool c) = (do pure (.bool (!(← Op.equal t (.bool b) (.bool c))))) := rfl
        rw [e, Sem.run_bind, equal_bool hu]; rfl
      · cases h
    · cases h
theorem kind_ptr {t : TypeId} (h : tkind P t = .ptr) : ∃ e, P.underlying t = some (.pointer e) := by
  obtain ⟨d, hd, hk⟩ := tkind_ex h (by simp)
  cases d <;> simp_all [kindOf]
theorem equal_ptr {t e : TypeId} (hu : P.underlying t = some (.pointer e)) (x : Option Addr) (w : World) : (Op.equal t (.pointer x) (.pointer none)).run P w = .ok x.isNone w := by
  show (Op.equalIn (9999 + 1) t (.pointer x) (.pointer none)).run P w = _
  rw [Op.equalIn, Sem.run_bind, run_underlying hu]
  cases x <;> rfl
theorem ptr_run {t e : TypeId} (hu : P.underlying t = some (.pointer e)) (op : BinOp) (x : Option Addr) (p q : Operand) (w : World) :
    (do eqGuard .eql t p q (.pointer x) (.pointer none); binOp .eql t (.pointer x) (.pointer none) : Sem Value).run P w = .ok (.bool x.isNone) w ∧
    (do eqGuard .neq t p q (.pointer x) (.pointer none); binOp .neq t (.pointer x) (.pointer none) : Sem Value).run P w = .ok (.bool (!x.isNone)) w := by
  have e1 : binOp .eql t (.pointer x) (.pointer none) = (do pure (.bool (← Op.equal t (.pointer x) (.pointer none)))) := by cases x <;> rfl
  have e2 : binOp .neq t (.pointer x) (.pointer none) = (do pure (.bool (!(← Op.equal t (.pointer x) (.pointer none))))) := by cases x <;> rfl
  have g1 : (eqGuard .eql t p q (.pointer x) (.pointer none)).run P w = .ok () w := rfl
  have g2 : (eqGuard .neq t p q (.pointer x) (.pointer none)).run P w = .ok () w := rfl
  refine ⟨?_, ?_⟩
  · rw [Sem.run_bind, g1, Result.andThen_ok, e1, Sem.run_bind, equal_ptr hu]; rfl
  · rw [Sem.run_bind, g2, Result.andThen_ok, e2, Sem.run_bind, equal_ptr hu]; rfl
theorem op_bin {o : Oper} {K : St → Prop} (op : BinOp) (ty ty2 : TypeId) (x y : Operand) (ho : o.op = .binOp op ty x y ty2) (z : Value) (hz1 : z.oneCell' = true) (hz : binA P st op ty (st.ev x) (st.ev y) = some z) (h : K (st.put o.dst (.v z))) : Opk P o st K := by
  intro C a w hP ⟨L, hs⟩ hd next Q hn
  have fin : (do eqGuard op ty x y (a.eval x) (a.eval y); binOp op ty (a.eval x) (a.eval y) : Sem Value).run P w = .ok z w → o.wp P a w next Q := fun hrun => by
    refine wp_value (v := z) (w' := w) ?_ (hn _ _ _ (by simp) h ⟨L, hs.put _ hd (.t _ _ (.v _ hz1))⟩)
    unfold execOp
    simp only [ho]
    rw [Sem.run_bind, hrun]
    rfl
  unfold binA binB at hz
  split at hz
  · rename_i hy
    have e2 := rep_val (hy ▸ ev_rep hs y)
    split at hz
    · rename_i hx
      have e1 := rep_val (hx ▸ ev_rep hs x)
      split at hz
      · rename_i hk
        obtain ⟨e, hu⟩ := kind_ptr hk
        split at hz
        · cases hz; exact fin (by rw [e1, e2]; exact (ptr_run hu .eql none x y w).1)
        · cases hz; exact fin (by rw [e1, e2]; exact (ptr_run hu .eql none x y w).2)
        · cases hz
      · cases hz
    · split at hz
      · rename_i hp
        obtain ⟨ad, hv⟩ := ptr_ex hs (ev_rep hs x) hp
        unfold nilCmp at hz
        split at hz
        · rename_i hk
          obtain ⟨e, hu⟩ := kind_ptr hk
          split at hz
          · cases hz; exact fin (by rw [hv, e2]; exact (ptr_run hu .eql (some ad) x y w).1)
          · cases hz; exact fin (by rw [hv, e2]; exact (ptr_run hu .eql (some ad) x y w).2)
          · cases hz
        · cases hz
      · cases hz
  · rename_i v _ hv
    split at hz
    · rename_i u hu
      have e1 := rep_val (hu ▸ ev_rep hs x)
      have e2 := rep_val (hv ▸ ev_rep hs y)
      exact fin (by rw [e1, e2]; exact binF_run hz x y w)
    · cases hz
  · cases hz
theorem op_un {o : Oper} {K : St → Prop} (op : UnOp) (ty : TypeId) (x : Operand) (ho : o.op = .unOp op ty x) (y z : Value) (hx : st.ev x = .v y) (hz : unF op y = some z) (hz1 : z.oneCell' = true) (h : K (st.put o.dst (.v z))) : Opk P o st K := by
  intro C a w hP ⟨L, hs⟩ hd next Q hn
  have e1 := rep_val (hx ▸ ev_rep hs x)
  refine wp_value (v := z) (w' := w) ?_ (hn _ _ _ (by simp) h ⟨L, hs.put _ hd (.t _ _ (.v _ hz1))⟩)
  unfold execOp
  simp only [ho, e1]
  rw [Sem.run_bind, semPure_run hz]
  rfl
end Go.Proofs.Ytblikpgdepjhdaa
namespace Go.Proofs.Ytblikpgdepjhdaa
open Go.RowKit
set_option linter.unusedVariables false
variable {C : Ctx} {st st' : St} {L L' : Nat → Loc} {a : Act} {w : World} {P : Program}
theorem run_isAgg {t : TypeId} {d : TypeDesc} (hu : P.underlying t = some d) (w : World) : (isAgg t).run P w = .ok (isRowB (some d)) w := by
  unfold isAgg
  rw [Sem.run_bind, run_underlying hu w]
  cases d <;> rfl
theorem run_size {t : TypeId} {i : TypeInfo} (hi : P.info? t = some i) (w : World) : (sizeOf t).run P w = .ok i.size w := by simp [sizeOf, typeInfo, hi]
def CellsAt (st : St) (L : Nat → Loc) (w : World) (M : Nat → Prop) (b f : Nat) (cells : List A) : Prop :=
  ∀ j (hj : j < cells.length), ∃ c, w.cell? ⟨b, f + j, none⟩ = some c ∧ (cells[j]).single = true ∧ RepA st L w M (cells[j]) c
theorem take_load {M : Nat → Prop} {t : TypeId} {ti : TI} (ht : tinfo P t = some ti) {b f : Nat} {cells : List A} (hc : CellsAt st L w M b f cells) {o : Nat} {y : A} (hy : takeCells cells o ti.size ti.agg = some y) :
    ∃ v, (loadVar t ⟨b, f + o, none⟩).run P w = .ok v w ∧ RepA st L w M y v := by
  obtain ⟨i, d, z, hi, hu, hz, h1, h2, h3, h4, h5, h6, h7, h8, h9⟩ := (tparts ht).ex
  unfold takeCells at hy
  split at hy
  · rename_i hagg
    rw [h3] at hagg
    split at hy
    · rename_i hle
      cases hy
      rw [h1] at hle ⊢
      have hvl : ((List.range i.size).map fun j => (w.cell? ⟨b, f + o + j, none⟩).getD undef).length = i.size := by simp
      refine ⟨_, run_loadVar_mid w b (f + o) t ((List.range i.size).map fun j => (w.cell? ⟨b, f + o + j, none⟩).getD undef) d (fun j v hv => ?_) hu (by cases d <;> first | rfl | (simp [isRowB] at hagg)) (by rw [hi]; simp), ?_⟩
      · have hj : j < i.size := by have := (List.getElem?_eq_some_iff.1 hv).1; simpa using this
        obtain ⟨c, hc1, _⟩ := hc (o + j) (by omega)
        rw [show f + o + j = f + (o + j) by omega, hc1]
        simp only [List.getElem?_map, List.getElem?_range hj, Option.map_some, Option.some.injEq] at hv
        rw [show f + o + j = f + (o + j) by omega, hc1] at hv
        exact congrArg some hv
      · have hget : ∀ j (hj : j < i.size), ((cells.drop o).take i.size)[j]'(by simp; omega) = cells[o + j]'(by omega) := fun j hj => by simp
        refine .agg _ _ (by simp; omega) (fun j hj => ?_) (fun j hj => ?_)
        · have hj' : j < i.size := by simp at hj; omega
          rw [hget j hj']
          obtain ⟨c, _, hc2, _⟩ := hc (o + j) (by omega)
          exact hc2
        · have hj' : j < i.size := by simp at hj; omega
          rw [hget j hj']
          obtain ⟨c, hc1, _, hc3⟩ := hc (o + j) (by omega)
          have : (((List.range i.size).map fun j => (w.cell? ⟨b, f + o + j, none⟩).getD undef).toArray)[j]'(by simp; omega) = c := by
            simp only [List.getElem_toArray, List.getElem_map, List.getElem_range]
            rw [show f + o + j = f + (o + j) by omega, hc1]; rfl
          rw [this]
          exact hc3
    · cases hy
  · rename_i hagg
    rw [h3] at hagg
    obtain ⟨hlt, rfl⟩ := List.getElem?_eq_some_iff.1 hy
    obtain ⟨c, hc1, _, hc3⟩ := hc o hlt
    refine ⟨c, ?_, hc3⟩
    unfold loadVar
    rw [Sem.run_bind, run_isAgg hu w]
    simp only [Bool.not_eq_true] at hagg
    simp [Result.andThen_ok, hagg, hc1]
theorem box_cells {M : Nat → Prop} {id : Nat} {ty : TypeId} {cells : List A} (h : RepB st L w M id (.box ty cells)) : ∃ b, (L id).blk = some b ∧ CellsAt st L w M b 0 cells := by
  obtain ⟨b, cs, hb, hw, hsz, hr⟩ := h
  refine ⟨b, hb, fun j hj => ⟨cs[j]'(by omega), ?_, hr j hj⟩⟩
  rw [Nat.zero_add, cell_of_row w b j cs _ _ hw, Array.getElem?_eq_getElem (by omega)]
theorem peek_load (hs : SimL C st L a w) {t : TypeId} {ti : TI} (ht : tinfo P t = some ti) {x y : A} {v : Value} (hr : RepA st L w (Mut C st L) x v) (hy : peek st x ti = some y) :
    ∃ u, (Instr.loadAt t v).run P w = .ok u w ∧ RepA st L w (Mut C st L) y u := by
  have fin : ∀ b f o, v = .pointer (some ⟨b, f + o, none⟩) → ∀ cells, CellsAt st L w (Mut C st L) b f cells → takeCells cells o ti.size ti.agg = some y → ∃ u, (Instr.loadAt t v).run P w = .ok u w ∧ RepA st L w (Mut C st L) y u := by
    intro b f o hv cells hc hy
    obtain ⟨u, hu1, hu2⟩ := take_load ht hc hy
    refine ⟨u, ?_, hu2⟩
    subst hv
    simp [Instr.loadAt, Instr.sureAddr, hu1]
  cases hr with
  | ptr id off _ h1 hus hp =>
    unfold peek at hy
    dsimp only at hy
    split at hy
    · rename_i ty cells hm
      obtain ⟨b, hb, hc⟩ := box_cells (hs.mem _ _ hm).2
      exact fin b 0 off (by rw [hp _ _ hm]; simp [Loc.ptr, hb]) cells hc hy
    · cases hy
  | rptr id i j _ h1 hus hp =>
    unfold peek at hy
    dsimp only at hy
    split at hy
    · rename_i e k xs hm
      obtain ⟨el, hel, hy⟩ := Option.bind_eq_some_iff.1 hy
      obtain ⟨hi, rfl⟩ := List.getElem?_eq_some_iff.1 hel
      obtain ⟨_, hk, hq⟩ := (hs.mem _ _ hm).2
      rcases hq with ⟨hxs, _⟩ | ⟨b, cur, hb, hw, hl, hcm, hsz, hc⟩
      · subst hxs; simp at hi
      · refine fin b (i * k + j) 0 (by rw [hp _ _ _ hm]; simp [Loc.ptr, hb]) _ (fun q hq => ?_) hy
        have hq' : j + q < (xs[i]).length := by simp at hq; omega
        obtain ⟨c, hc1, hc2⟩ := hc i hi (j + q) hq'
        refine ⟨c, ?_, ?_, ?_⟩
        · rw [show i * k + j + q = i * k + (j + q) by omega, cell_of_row w b _ cur _ _ hw, hc1]
        · simp [A.single]
        · simp only [List.getElem_map, List.getElem_drop]; exact .t _ _ hc2
    · cases hy
  | fel el b off c hb hM hc hr =>
    unfold peek at hy
    dsimp only at hy
    refine fin b off 0 (by simp) _ (fun q hq => ?_) hy
    have hq' : q < el.length := by simpa using hq
    refine ⟨c q, hc q hq', ?_, ?_⟩
    · simp [A.single]
    · simp only [List.getElem_map]; exact .t _ _ (hr q hq')
  | t z _ h =>
    cases h with
    | fp el b off c hb hM hc hr =>
      unfold peek at hy
      dsimp only at hy
      refine fin b off 0 (by simp) _ (fun q hq => ?_) hy
      have hq' : q < el.length := by simpa using hq
      refine ⟨c q, hc q hq', ?_, ?_⟩
      · simp [A.single]
      · simp only [List.getElem_map]; exact .t _ _ (hr q hq')
    | _ => simp [peek] at hy
  | _ => simp [peek] at hy
theorem op_load {o : Oper} {K : St → Prop} (t : TypeId) (x : Operand) (ho : o.op = .load t x) (ti : TI) (y : A) (ht : tinfo P t = some ti) (hy : peek st (st.ev x) ti = some y) (h : K (st.put o.dst y)) : Opk P o st K := by
  intro C a w hP ⟨L, hs⟩ hd next Q hn
  obtain ⟨u, hu1, hu2⟩ := peek_load hs ht (ev_rep hs x) hy
  refine wp_value (v := u) (w' := w) ?_ (hn _ _ _ (by simp) h ⟨L, hs.put _ hd hu2⟩)
  unfold execOp
  simp only [ho]
  rw [Sem.run_bind, hu1]
  rfl
theorem splice_get {α : Type} (l vs : List α) (o i : Nat) (h : o + vs.length ≤ l.length) :
    (l.take o ++ vs ++ l.drop (o + vs.length))[i]? = if i < o then l[i]? else if i < o + vs.length then vs[i - o]? else l[i]? := by
  by_cases h1 : i < o
  · rw [if_pos h1, List.append_assoc, List.getElem?_append_left (by simp; omega), List.getElem?_take_of_lt h1]
  · rw [if_neg h1, List.append_assoc, List.getElem?_append_right (by simp; omega)]
    have e : (l.take o).length = o := by simp; omega
    rw [e]
    by_cases h2 : i < o + vs.length
    · rw [if_pos h2, List.getElem?_append_left (by omega)]
    · rw [if_neg h2, List.getElem?_append_right (by omega), List.getElem?_drop]
      congr 1; omega
theorem splice_len {α : Type} (l vs : List α) (o : Nat) (h : o + vs.length ≤ l.length) : (l.take o ++ vs ++ l.drop (o + vs.length)).length = l.length := by simp; omega
theorem run_store {g : Nat} {cur : Array Value} {t' : TypeId} (hg : w.heap[g]? = some (.cells cur t' (0, 0))) {t : TypeId} {i : TypeInfo} (hi : P.info? t = some i) (v : Value) (off : Nat) (hsz : v.cells.size = i.size) (hfit : off + v.cells.size ≤ cur.size) (h1 : ∀ u ∈ v.cells.toList, u.oneCell' = true) :
    (Instr.storeAt t (.pointer (some ⟨g, off, none⟩)) v).run P w = .ok () (w.setRow g (cur.toList.take off ++ v.cells.toList ++ cur.toList.drop (off + v.cells.toList.length)).toArray) := by
  have := run_storeCells_at P g off t' v.cells.toList 0 cur w hg (by simpa using hfit) h1
  simp only [Nat.add_zero] at this
  simp [Instr.storeAt, Instr.sureAddr, storeVar, sizeOf, typeInfo, hi, hsz, this]
theorem op_store {o : Oper} {K : St → Prop} (t : TypeId) (p x : Operand) (ho : o.op = .store t p x) (ti : TI) (cs : List A) (id off : Nat) (ty : TypeId) (cells : List A) (ht : tinfo P t = some ti) (hc : cellsOf (st.ev x) = some cs) (hsz : cs.length = ti.size)
    (hp : st.ev p = .ptr id off) (hm : st.mem id = some (.box ty cells)) (hfit : off + cs.length ≤ cells.length) (h : K ((st.setm id (.box ty (cells.take off ++ cs ++ cells.drop (off + cs.length)))).put o.dst .dead)) : Opk P o st K := by
  intro C a w hP ⟨L, hs⟩ hd next Q hn
  obtain ⟨i, d, z, hi, hu, hz, h1, h2, h3, h4, h5, h6, h7, h8, h9⟩ := (tparts ht).ex
  obtain ⟨hvs, hvr⟩ := cells_rep hc (ev_rep hs x)
  have hpr := ev_rep hs p
  rw [hp] at hpr
  generalize hv : a.eval p = v at hpr
  cases hpr with
  | ptr _ _ _ q1 q2 q3 =>
    obtain ⟨b, bcs, hb, hw, hbs, hbr⟩ := (hs.mem _ _ hm).2
    have e1 : v = .pointer (some ⟨b, off, none⟩) := by rw [q3 _ _ hm]; simp [Loc.ptr, hb]
    have hone : ∀ u ∈ (a.eval x).cells.toList, u.oneCell' = true := fun u hu => by
      obtain ⟨q, hq, rfl⟩ := List.getElem_of_mem hu
      have hq' : q < cs.length := by simp at hq; omega
      have := hvr q hq'
      simpa using this.2.one this.1
    have hrun := run_store (P := P) hw hi (a.eval x) off (by rw [hvs, hsz, h1]) (by rw [hvs, hbs]; exact hfit) hone
    refine wp_skipped (w' := _) (by unfold execOp; simp only [ho, hv, e1]; rw [Sem.run_bind, hrun]; rfl) (hn _ _ _ (by simp; rfl) h ⟨L, SimL.put (hs.setm id _ (.box ty (cells.take off ++ cs ++ cells.drop (off + cs.length))) hm trivial b hb ?_) _ hd (.dead _)⟩)
    have hl1 := splice_len cells cs off hfit
    have hl2 : ((bcs.toList.take off ++ (a.eval x).cells.toList ++ bcs.toList.drop (off + (a.eval x).cells.toList.length)).toArray).size = bcs.size := by
      rw [List.size_toArray, splice_len _ _ _ (by simp; omega)]; simp
    refine ⟨b, _, hb, setRow_heap w b bcs _ ty _ hw, by rw [hl2, hl1, hbs], fun q hq => ?_⟩
    have hext : ∀ {y : A} {u : Value}, RepA st L w (Mut C st L) y u → RepA (st.setm id (.box ty (cells.take off ++ cs ++ cells.drop (off + cs.length)))) L (w.setRow b (bcs.toList.take off ++ (a.eval x).cells.toList ++ bcs.toList.drop (off + (a.eval x).cells.toList.length)).toArray) (Mut C st L) y u := fun hy =>
      hy.ext ⟨by simp, fun k hk hm' => setRow_other w b k _ fun e => hm' (.inr ⟨id, by rw [hm]; rfl, by rw [e]; exact .inl hb⟩)⟩ (fun _ _ h => h) (fun i hi => hi) (fun i hi b' hb' => by
        by_cases e : i = id
        · subst e
          have : b' = .box ty (cells.take off ++ cs ++ cells.drop (off + cs.length)) := by simpa [St.setm, upd] using hb'.symm
          subst this
          exact ⟨_, hm, trivial, Loc.like_refl _⟩
        · exact ⟨b', by simpa [St.setm, upd, e] using hb', b'.alike_refl, Loc.like_refl _⟩)
    have hq' : q < cells.length := by rw [hl1] at hq; exact hq
    have g1 := splice_get cells cs off q hfit
    have g2 := splice_get bcs.toList (a.eval x).cells.toList off q (by simp; omega)
    have hA : ∀ y u, (cells.take off ++ cs ++ cells.drop (off + cs.length))[q]? = some y → (bcs.toList.take off ++ (a.eval x).cells.toList ++ bcs.toList.drop (off + (a.eval x).cells.toList.length))[q]? = some u → y.single = true ∧ RepA st L w (Mut C st L) y u := by
      intro y u hy hu
      rw [g1] at hy
      rw [g2] at hu
      have el : (a.eval x).cells.toList.length = cs.length := by simpa using hvs
      rw [el] at hu
      have old : cells[q]? = some y → bcs.toList[q]? = some u → y.single = true ∧ RepA st L w (Mut C st L) y u := by
        intro hy hu
        obtain ⟨z1, rfl⟩ := List.getElem?_eq_some_iff.1 hy
        obtain ⟨z2, rfl⟩ := List.getElem?_eq_some_iff.1 hu
        simpa using hbr q z1
      by_cases c1 : q < off
      · rw [if_pos c1] at hy hu; exact old hy hu
      · rw [if_neg c1] at hy hu
        by_cases c2 : q < off + cs.length
        · rw [if_pos c2] at hy hu
          obtain ⟨z1, rfl⟩ := List.getElem?_eq_some_iff.1 hy
          obtain ⟨z2, rfl⟩ := List.getElem?_eq_some_iff.1 hu
          simpa using hvr (q - off) z1
        · rw [if_neg c2] at hy hu; exact old hy hu
    have := hA _ _ (List.getElem?_eq_getElem hq) (List.getElem?_eq_getElem (by rw [splice_len _ _ _ (by simp; omega)]; simp; omega))
    refine ⟨this.1, ?_⟩
    simp only [List.getElem_toArray]
    exact hext this.2
end Go.Proofs.Ytblikpgdepjhdaa
namespace Go.Proofs.Ytblikpgdepjhdaa
open Go.RowKit
set_option linter.unusedVariables false
variable {C : Ctx} {st st' : St} {L L' : Nat → Loc} {a : Act} {w : World} {P : Program}
theorem mapM_get {α β : Type} (f : α → Option β) : ∀ (l : List α) (r : List β), l.mapM f = some r → ∀ (i : Nat) (y : β), r[i]? = some y → ∃ x, l[i]? = some x ∧ f x = some y
  | [], r, h, i, y, hy => by simp at h; subst h; simp at hy
  | x :: l, r, h, i, y, hy => by
    simp only [List.mapM_cons, Option.bind_eq_bind, Option.pure_def] at h
    obtain ⟨z, hz, h⟩ := Option.bind_eq_some_iff.1 h
    obtain ⟨rs, hr, h⟩ := Option.bind_eq_some_iff.1 h
    cases h
    cases i with
    | zero => simp at hy; subst hy; exact ⟨x, rfl, hz⟩
    | succ i => simp at hy; simpa using mapM_get f l rs hr i y hy
theorem fields_get {d : TypeDesc} {fs : List (Nat × Nat × Bool)} (h : fieldsOf P d = some fs) {f : Nat} {off size : Nat} {agg : Bool} (hf : fs[f]? = some (off, size, agg)) :
    ∃ (fds : Array Field) (fd : Field) (i : TypeInfo) (d' : TypeDesc), d = .struct fds ∧ fds[f]? = some fd ∧ fd.offset = off ∧ P.info? fd.type = some i ∧ P.underlying fd.type = some d' ∧ i.size = size ∧ agg = isRowB (some d') := by
  unfold fieldsOf at h
  split at h
  · rename_i fds
    obtain ⟨fd, h1, h2⟩ := mapM_get _ _ _ h f _ hf
    split at h2
    · rename_i i d' hi hd
      cases h2
      exact ⟨fds, fd, i, d', rfl, by simpa using h1, rfl, hi, hd, rfl, rfl⟩
    · cases h2
  · cases h; simp at hf
theorem op_field {o : Oper} {K : St → Prop} (s : TypeId) (x : Operand) (f : Nat) (ho : o.op = .field s x f) (ti : TI) (y : A) (ht : tinfo P s = some ti) (hy : subA ti (st.ev x) f = some y) (h : K (st.put o.dst y)) : Opk P o st K := by
  intro C a w hP ⟨L, hs⟩ hd next Q hn
  obtain ⟨i, d, z, hi, hu, hz, h1, h2, h3, h4, h5, h6, h7, h8, h9⟩ := (tparts ht).ex
  have hr := ev_rep hs x
  unfold subA at hy
  split at hy
  · rename_i off size agg cs hf hx
    obtain ⟨fds, fd, fi, d', rfl, hfd, ho1, hi', hu', hsz, hag⟩ := fields_get h8 hf
    rw [hx] at hr
    generalize hv : a.eval x = v at hr
    cases hr with
    | agg _ vs hvs h1' hr =>
      have key : ∃ u, (part fd.type vs fd.offset).run P w = .ok u w ∧ RepA st L w (Mut C st L) y u := by
        unfold takeCells at hy
        unfold part
        rw [Sem.run_bind, run_isAgg hu' w, Result.andThen_ok, ← hag, ho1]
        split at hy
        · rename_i hagg
          split at hy
          · rename_i hle
            cases hy
            rw [hagg]
            refine ⟨.agg (vs.extract off (off + size)), by simp [run_size hi', hsz], .agg _ _ (by simp; omega) (fun j hj => ?_) (fun j hj => ?_)⟩
            · simp only [List.getElem_take, List.getElem_drop]; exact h1' _ _
            · simp only [List.getElem_take, List.getElem_drop, Array.getElem_extract]; exact hr _ _
          · cases hy
        · rename_i hagg
          obtain ⟨hlt, rfl⟩ := List.getElem?_eq_some_iff.1 hy
          simp only [Bool.not_eq_true] at hagg
          rw [hagg]
          refine ⟨vs[off]'(by omega), ?_, hr _ hlt⟩
          simp [Array.getElem?_eq_getElem (show off < vs.size by omega)]
      obtain ⟨u, hu1, hu2⟩ := key
      refine wp_value (v := u) (w' := w) ?_ (hn _ _ _ (by simp) h ⟨L, hs.put _ hd hu2⟩)
      unfold execOp
      simp only [ho, hv]
      rw [Sem.run_bind]
      unfold Instr.field
      rw [Sem.run_bind, run_underlying hu, Result.andThen_ok]
      simp only [hfd]
      simp [asAgg, hu1]
  · cases hy
theorem op_fieldAddr {o : Oper} {K : St → Prop} (s : TypeId) (x : Operand) (f : Nat) (ho : o.op = .fieldAddr s x f) (ti : TI) (y : A) (ht : tinfo P s = some ti) (hx : isPtr st (st.ev x) = true) (hy : fieldA ti (st.ev x) f = some y) (h : K (st.put o.dst y)) : Opk P o st K := by
  intro C a w hP ⟨L, hs⟩ hd next Q hn
  obtain ⟨i, d, z, hi, hu, hz, h1, h2, h3, h4, h5, h6, h7, h8, h9⟩ := (tparts ht).ex
  have hr := ev_rep hs x
  obtain ⟨ad, hv⟩ := ptr_ex hs hr hx
  unfold fieldA at hy
  split at hy
  · rename_i off size agg hf
    obtain ⟨fds, fd, fi, d', rfl, hfd, ho1, hi', hu', hsz, hag⟩ := fields_get h8 hf
    split at hy
    · cases hy
    · rename_i hne
      have hrun : (execOp a.eval o).run P w = .ok (.value (.pointer (some (ad.add off)))) w := by
        unfold execOp
        simp only [ho, hv]
        rw [Sem.run_bind]
        unfold Instr.fieldAt
        rw [Sem.run_bind, run_underlying hu, Result.andThen_ok]
        simp only [hfd]
        simp [Instr.sureAddr, fieldPlace, run_size hi', hsz, hne, ho1]
      refine wp_value hrun (hn _ _ _ (by simp) h ⟨L, hs.put _ hd ?_⟩)
      split at hy
      · rename_i id q hp
        cases hy
        rw [hp, hv] at hr
        cases hr with
        | ptr _ _ _ q1 q2 q3 =>
          refine .ptr id (q + off) _ rfl q2 fun ty cs hm => ?_
          have hq := q3 _ _ hm
          unfold Loc.ptr at hq ⊢
          cases hb : (L id).blk with
          | none => rw [hb] at hq; simp at hq
          | some b =>
            rw [hb] at hq
            simp only [Option.map_some, Value.pointer.injEq, Option.some.injEq] at hq
            rw [hq, Addr.add_mid]; rfl
      · rename_i el hp
        cases hy
        rw [hp, hv] at hr
        cases hr with
        | fel _ b q c hb hM hc hr =>
          rw [Addr.add_mid]
          refine .fel _ b (q + off) (fun j => c (off + j)) hb hM (fun j hj => ?_) (fun j hj => ?_)
          · rw [Nat.add_assoc]; exact hc _ (by simp at hj; omega)
          · simp only [List.getElem_drop]; exact hr _ _
      · rename_i el hp
        cases hy
        rw [hp, hv] at hr
        cases hr with
        | t _ _ hr =>
          cases hr with
          | fp _ b q c hb hM hc hr =>
            rw [Addr.add_mid]
            refine .t _ _ (.fp _ b (q + off) (fun j => c (off + j)) hb hM (fun j hj => ?_) (fun j hj => ?_))
            · rw [Nat.add_assoc]; exact hc _ (by simp at hj; omega)
            · simp only [List.getElem_drop]; exact hr _ _
      · rename_i id i' j' hp
        cases hy
        rw [hp, hv] at hr
        cases hr with
        | rptr _ _ _ _ q1 q2 q3 =>
          refine .rptr id i' (j' + off) _ rfl q2 fun e k xs hm => ?_
          have hq := q3 _ _ _ hm
          unfold Loc.ptr at hq ⊢
          cases hb : (L id).blk with
          | none => rw [hb] at hq; simp at hq
          | some b =>
            rw [hb] at hq
            simp only [Option.map_some, Value.pointer.injEq, Option.some.injEq] at hq
            rw [hq, Addr.add_mid, Nat.add_assoc]; rfl
      · cases hy
  · cases hy
theorem list_len (hs : SimL C st L a w) {y : A} {v : Value} (hr : RepA st L w (Mut C st L) y v) {k : Nat} {xs : List (List T)} (hl : asList st y = some (k, xs)) : ∃ ad cap, v = .slice ad xs.length cap ∧ xs.length ≤ cap ∧ cap ≤ maxLen := by
  unfold asList at hl
  split at hl
  · cases hl
    cases hr with
    | t _ _ h =>
      cases h with
      | nil _ a cap hcm => exact ⟨_, _, rfl, Nat.zero_le _, hcm⟩
      | sl _ _ b off cap c hb hM hcap hcm => exact ⟨_, _, rfl, hcap, hcm⟩
  · cases hl
    have := rep_val hr
    subst this
    exact ⟨_, _, rfl, Nat.le_refl _, Nat.zero_le _⟩
  · split at hl
    · rename_i id _ e k' xs' hm
      cases hl
      cases hr with
      | ref _ _ h1 hus h =>
        have := h _ _ _ hm
        subst this
        obtain ⟨_, _, hq⟩ := (hs.mem _ _ hm).2
        rcases hq with ⟨hxs, hn⟩ | ⟨b, cur, hb, hw, hle, hcm, hsz, hc⟩
        · subst hxs; rw [hn]; exact ⟨_, _, rfl, Nat.le_refl _, Nat.zero_le _⟩
        · exact ⟨_, _, rfl, hle, hcm⟩
    · cases hl
  · cases hl
theorem op_len {o : Oper} {K : St → Prop} (x : Operand) (ts : Array TypeId) (ho : o.op = .call { callee := .builtin .len, args := #[x], argTypes := ts }) (ty : TypeId) (z : Value) (hty : ts[0]? = some ty) (hz : lenA P st ty (st.ev x) = some z) (h : K (st.put o.dst (.v z))) : Opk P o st K := by
  intro C a w hP ⟨L, hs⟩ hd next Q hn
  have hr := ev_rep hs x
  have key : (Builtin.len_ ts o.type #[a.eval x]).run P w = .ok z w ∧ z.oneCell' = true := by
    unfold lenA at hz
    split at hz
    · rename_i s hk hx
      cases hz
      have e := rep_val (hx ▸ hr)
      have hu := kind_str hk
      exact ⟨by simp [Builtin.len_, hty, e, run_underlying hu, goInt], rfl⟩
    · rename_i y hk
      obtain ⟨⟨k, xs⟩, hl, hz⟩ := Option.map_eq_some_iff.1 hz
      subst hz
      obtain ⟨e, hu⟩ := kind_slice hk
      obtain ⟨ad, cap, hv, _, _⟩ := list_len hs hr hl
      exact ⟨by simp [Builtin.len_, hty, hv, run_underlying hu, goInt], rfl⟩
    · cases hz
  refine wp_value (v := z) (w' := w) ?_ (hn _ _ _ (by simp) h ⟨L, hs.put _ hd (.t _ _ (.v _ key.2))⟩)
  unfold execOp
  simp only [ho, resolve, invoke, builtin, Sem.run_bind, Sem.run_pure, Result.andThen_ok, List.map_toArray, List.map_cons, List.map_nil, key.1]
theorem op_convert {o : Oper} {K : St → Prop} (src dst : TypeId) (x : Operand) (ho : o.op = .convert src dst x) (z : A) (hsrc : (tinfo P src).isSome = true) (hz : convA P src dst (st.ev x) = some z) (h : K (st.put o.dst z)) : Opk P o st K := by
  intro C a w hP ⟨L, hs⟩ hd next Q hn
  have hr := ev_rep hs x
  obtain ⟨si, hsi⟩ := Option.isSome_iff_exists.1 hsrc
  obtain ⟨i, d, _, hi, hu, _⟩ := (tparts hsi).ex
  unfold convA at hz
  split at hz
  · rename_i k n hx
    have e := rep_val (hx ▸ hr)
    obtain ⟨k', hk, rfl⟩ := Option.map_eq_some_iff.1 hz
    obtain ⟨ti, hti, hint⟩ := Option.bind_eq_some_iff.1 hk
    obtain ⟨i', d', _, hi', hu', _, _, _, _, _, _, _, h7, _⟩ := (tparts hti).ex
    have := h7 k' hint
    subst this
    refine wp_value (v := .int k' (k'.wrap n)) (w' := w) ?_ (hn _ _ _ (by simp) h ⟨L, hs.put _ hd (.t _ _ (.v _ rfl))⟩)
    unfold execOp
    simp only [ho, e]
    simp [convert, run_underlying hu, run_underlying hu', Conv.intToInt]
  · rename_i s hx
    have e := rep_val (hx ▸ hr)
    split at hz
    · rename_i hk
      cases hz
      have hu' := kind_str hk
      refine wp_value (v := .string s) (w' := w) ?_ (hn _ _ _ (by simp) h ⟨L, hs.put _ hd (.t _ _ (.v _ rfl))⟩)
      unfold execOp
      simp only [ho, e]
      simp [convert, run_underlying hu, run_underlying hu']
    · cases hz
  · cases hz
theorem op_index {o : Oper} {K : St → Prop} (t : TypeId) (x y : Operand) (ho : o.op = .index t x y) (s : ByteArray) (k : IntKind) (n : Nat) (b : UInt8) (hk : tkind P t = .str) (hx : st.ev x = .v (.string s)) (hy : st.ev y = .v (.int k (n : Int))) (hb : s[n]? = some b) (h : K (st.put o.dst (.v (.int .u8 b.toNat)))) : Opk P o st K := by
  intro C a w hP ⟨L, hs⟩ hd next Q hn
  have e1 := rep_val (hx ▸ ev_rep hs x)
  have e2 := rep_val (hy ▸ ev_rep hs y)
  have hu := kind_str hk
  refine wp_value (v := .int .u8 b.toNat) (w' := w) ?_ (hn _ _ _ (by simp) h ⟨L, hs.put _ hd (.t _ _ (.v _ rfl))⟩)
  unfold execOp
  simp only [ho, e1, e2]
  simp [Instr.index, asIntOf, run_underlying hu, hb]
theorem op_indexAddr {o : Oper} {K : St → Prop} (t : TypeId) (x y : Operand) (ho : o.op = .indexAddr t x y) (ti : TI) (e : TypeId) (te : TI) (k' : Nat) (xs : List (List T)) (k : IntKind) (n : Nat) (el : List T) (ht : tinfo P t = some ti) (he : ti.elem = some e) (hte : tinfo P e = some te)
    (hl : asList st (st.ev x) = some (k', xs)) (hy : st.ev y = .v (.int k (n : Int))) (hel : xs[n]? = some el) (hk : k' = te.size) (h : K (st.put o.dst (match st.ev x with | .ref id => .rptr id n 0 | _ => .fel el))) : Opk P o st K := by
  intro C a w hP ⟨L, hs⟩ hd next Q hn
  obtain ⟨i, d, _, hi, hu, _, _, _, _, _, _, h6, _⟩ := (tparts ht).ex
  obtain ⟨i', d', _, hi', hu', _, h1', _⟩ := (tparts hte).ex
  have := h6 e he
  subst this
  have hr := ev_rep hs x
  have e2 := rep_val (hy ▸ ev_rep hs y)
  obtain ⟨hn', rfl⟩ := List.getElem?_eq_some_iff.1 hel
  have run : ∀ b off cap, a.eval x = .slice (some ⟨b, off, none⟩) xs.length cap → (execOp a.eval o).run P w = .ok (.value (.pointer (some ⟨b, off + n * k', none⟩))) w := by
    intro b off cap hv
    unfold execOp
    simp only [ho, hv, e2]
    simp [Instr.indexAt, asIntOf, run_underlying hu, hn', run_size hi', Addr.add_mid, hk, h1']
  unfold asList at hl
  generalize hv : a.eval x = v at hr run
  split at hl
  · rename_i k'' xs' hx
    cases hl
    rw [hx] at hr h
    cases hr with
    | t _ _ hr =>
      cases hr with
      | nil => simp at hn'
      | sl _ _ b off cap c hb hM hcap hcm hkk hc hrr =>
        refine wp_value (run b off cap rfl) (hn _ _ _ (by simp) h ⟨L, hs.put _ hd ?_⟩)
        exact .fel _ b (off + n * k') (fun j => c n j) hb hM (fun j hj => by rw [Nat.add_assoc]; exact hc n hn' j (by rw [← hkk n hn']; exact hj)) (fun j hj => hrr n hn' j hj)
  · cases hl; simp at hn'
  · rename_i id hx
    split at hl
    · rename_i e' k'' xs' hm
      cases hl
      rw [hx] at hr h
      cases hr with
      | ref _ _ h1 hus hrr =>
        obtain ⟨_, _, hq⟩ := (hs.mem _ _ hm).2
        rcases hq with ⟨hxs, _⟩ | ⟨b, cur, hb, hw, hle, hcm, hsz, hc⟩
        · subst hxs; simp at hn'
        · have := hrr _ _ _ hm
          subst this
          have e3 : (L id).slice xs.length = .slice (some ⟨b, 0, none⟩) xs.length (L id).cap := by simp [Loc.slice, hb]
          refine wp_value (run b 0 _ e3) (hn _ _ _ (by simp) h ⟨L, hs.put _ hd ?_⟩)
          refine .rptr id n 0 _ rfl hus fun e4 k4 xs4 hm4 => ?_
          rw [hm] at hm4
          cases hm4
          simp [Loc.ptr, hb]
    · cases hl
  · cases hl
end Go.Proofs.Ytblikpgdepjhdaa
namespace Go.Proofs.Ytblikpgdepjhdaa
open Go.RowKit
set_option linter.unusedVariables false
variable {C : Ctx} {st st' : St} {L L' : Nat → Loc} {a : Act} {w : World} {P : Program}
def RepCs (st : St) (L : Nat → Loc) (w : World) (M : Nat → Prop) (cs : List A) (vs : Array Value) : Prop :=
  vs.size = cs.length ∧ ∀ (i : Nat) (y : A), cs[i]? = some y → y.single = true ∧ ∃ u, vs[i]? = some u ∧ RepA st L w M y u
theorem repCs_cells {M : Nat → Prop} {x : A} {cs : List A} {v : Value} (hc : cellsOf x = some cs) (h : RepA st L w M x v) : RepCs st L w M cs v.cells := by
  obtain ⟨hs, hr⟩ := cells_rep hc h
  refine ⟨hs, fun i y hy => ?_⟩
  obtain ⟨hi, rfl⟩ := List.getElem?_eq_some_iff.1 hy
  exact ⟨(hr i hi).1, _, Array.getElem?_eq_getElem (by omega), (hr i hi).2⟩
theorem RepCs.agg {M : Nat → Prop} {cs : List A} {vs : Array Value} (h : RepCs st L w M cs vs) : RepA st L w M (.agg cs) (.agg vs) := by
  refine .agg cs vs h.1 (fun i hi => (h.2 i _ (List.getElem?_eq_getElem hi)).1) fun i hi => ?_
  obtain ⟨_, u, hu, hr⟩ := h.2 i _ (List.getElem?_eq_getElem hi)
  rw [Array.getElem?_eq_getElem (by have := h.1; omega)] at hu
  cases hu
  exact hr
theorem foldl_cells (off : Nat) : ∀ (l : List Value) (k : Nat) (cells : Array Value), off + k + l.length ≤ cells.size →
    ((l.zipIdx k).foldl (fun cs (x : Value × Nat) => cs.setIfInBounds (off + x.2) x.1) cells).toList = cells.toList.take (off + k) ++ l ++ cells.toList.drop (off + k + l.length)
  | [], k, cells, h => by simp
  | v :: l, k, cells, h => by
    simp only [List.zipIdx_cons, List.foldl_cons]
    rw [foldl_cells off l (k + 1) _ (by simp at h ⊢; omega)]
    have := list_seg_step cells.toList (off + k) v l (by simp at h ⊢; omega)
    simpa [Array.toList_setIfInBounds, Nat.add_assoc] using this
theorem fill_step (off : Nat) (v : Value) (cells : Array Value) (h : off + v.cells.size ≤ cells.size) :
    (v.cells.zipIdx.foldl (fun cs (x : Value × Nat) => cs.setIfInBounds (off + x.2) x.1) cells).toList = cells.toList.take off ++ v.cells.toList ++ cells.toList.drop (off + v.cells.toList.length) := by
  rw [← Array.foldl_toList, Array.toList_zipIdx]
  have := foldl_cells off v.cells.toList 0 cells (by simpa using h)
  simpa using this
theorem splice_rep {M : Nat → Prop} {cells cs : List A} {vs us : Array Value} {off : Nat} (h : RepCs st L w M cells vs) (h' : RepCs st L w M cs us) (hfit : off + cs.length ≤ cells.length) {out : Array Value}
    (ho : out.toList = vs.toList.take off ++ us.toList ++ vs.toList.drop (off + us.toList.length)) : RepCs st L w M (cells.take off ++ cs ++ cells.drop (off + cs.length)) out := by
  have hl := h.1
  have hl' := h'.1
  have hfit' : off + us.toList.length ≤ vs.toList.length := by simp; omega
  refine ⟨?_, fun i y hy => ?_⟩
  · rw [splice_len _ _ _ hfit, ← hl, ← Array.length_toList, ho, splice_len _ _ _ hfit']; simp
  · rw [splice_get _ _ _ _ hfit] at hy
    have ho' : out[i]? = out.toList[i]? := by simp
    rw [ho', ho, splice_get _ _ _ _ hfit']
    have el : us.toList.length = cs.length := by simpa using hl'
    rw [el]
    by_cases c1 : i < off
    · rw [if_pos c1] at hy ⊢; simpa using h.2 i y hy
    · rw [if_neg c1] at hy ⊢
      by_cases c2 : i < off + cs.length
      · rw [if_pos c2] at hy ⊢; simpa using h'.2 (i - off) y hy
      · rw [if_neg c2] at hy ⊢; simpa using h.2 i y hy
theorem fill_rep {M : Nat → Prop} {fs : List (Nat × Nat × Bool)} {place : Nat → Option (Nat × Nat)} (hp : ∀ i off size agg, fs[i]? = some (off, size, agg) → place i = some (off, size)) :
    ∀ (parts : List (Nat × A × Value)) (cells : List A) (vs : Array Value) (out : List A), (∀ p ∈ parts, RepA st L w M p.2.1 p.2.2) → RepCs st L w M cells vs → fillA fs cells (parts.map fun p => (p.1, p.2.1)) = some out →
      ∃ us, Instr.fill place vs (parts.map fun p => (p.1, p.2.2)) = some us ∧ RepCs st L w M out us
  | [], cells, vs, out, hr, hc, h => by
    simp only [List.map_nil, fillA, Option.some.injEq] at h
    subst h
    exact ⟨vs, rfl, hc⟩
  | (i, x, v) :: rest, cells, vs, out, hr, hc, h => by
    simp only [List.map_cons, fillA] at h
    split at h
    · rename_i off size agg cs hf hcs
      split at h
      · rename_i hsz
        have hx := repCs_cells hcs (hr _ (List.mem_cons_self))
        have hl := hc.1
        have hl' := hx.1
        have e1 : v.cells.size = size := by rw [hl', hsz.1]
        have hst := fill_step off v vs (by dsimp only at hl'; omega)
        rw [← hsz.1] at h
        have hc2 := splice_rep hc hx (by omega) hst
        obtain ⟨us, hu1, hu2⟩ := fill_rep hp rest _ _ out (fun p hp => hr p (List.mem_cons_of_mem _ hp)) hc2 h
        refine ⟨us, ?_, hu2⟩
        simp only [List.map_cons, Instr.fill, hp _ _ _ _ hf]
        have e2 : ¬ (v.cells.size ≠ size ∨ off + v.cells.size > vs.size) := by omega
        simp only [ne_eq, gt_iff_lt, Bool.or_eq_true, decide_eq_true_eq] at e2 ⊢
        rw [if_neg e2]
        exact hu1
      · cases h
    · cases h
theorem places_get {fds : List Field} {fs : List (Nat × Nat × Bool)} (h : (fds.mapM fun f => match P.info? f.type, P.underlying f.type with | some i, some d => some (f.offset, i.size, isRowB (some d)) | _, _ => none) = some fs) :
    fds.mapM (fun f => (P.info? f.type).map fun i => (f.offset, i.size)) = some (fs.map fun p => (p.1, p.2.1)) := by
  induction fds generalizing fs with
  | nil => simp at h; subst h; rfl
  | cons f fds ih =>
    simp only [List.mapM_cons, Option.bind_eq_bind, Option.pure_def] at h ⊢
    obtain ⟨z, hz, h⟩ := Option.bind_eq_some_iff.1 h
    obtain ⟨rs, hr, h⟩ := Option.bind_eq_some_iff.1 h
    cases h
    split at hz
    · rename_i i d hi hd
      cases hz
      rw [ih hr, hi]
      rfl
    · cases hz
theorem op_build {o : Oper} {K : St → Prop} (t : TypeId) (parts : Array (Nat × Operand)) (ho : o.op = .build t parts) (ti : TI) (cs : List A) (ht : tinfo P t = some ti) (hk : tkind P t = .strct)
    (hf : fillA ti.fs (ti.zero.map .v) (parts.toList.map fun (i, x) => (i, st.ev x)) = some cs) (h : K (st.put o.dst (.agg cs))) : Opk P o st K := by
  intro C a w hP ⟨L, hs⟩ hd next Q hn
  obtain ⟨i, d, z, hi, hu, hz, h1, h2, h3, h4, h5, h6, h7, h8, h9⟩ := (tparts ht).ex
  obtain ⟨fds, hfd⟩ := kind_strct hk
  rw [hu] at hfd
  cases hfd
  unfold fieldsOf at h8
  have hpl := places_get h8
  have hp : ∀ (i off size : Nat) (agg : Bool), ti.fs[i]? = some (off, size, agg) → (fun j => (ti.fs.map fun p => (p.1, p.2.1)).toArray[j]?) i = some (off, size) := fun i off size agg h => by simp [h]
  have hz0 : RepCs st L w (Mut C st L) (ti.zero.map .v) z.cells := by
    refine ⟨by rw [h4]; simp, fun j y hy => ?_⟩
    rw [h4, List.getElem?_map] at hy
    obtain ⟨u, hu1, rfl⟩ := Option.map_eq_some_iff.1 hy
    exact ⟨rfl, u, by simpa using hu1, .t _ _ (.v _ (h5 u (List.mem_of_getElem? hu1)))⟩
  obtain ⟨us, hu1, hu2⟩ := fill_rep (st := st) (L := L) (w := w) (M := Mut C st L) hp (parts.toList.map fun p => (p.1, st.ev p.2, a.eval p.2)) (ti.zero.map .v) z.cells cs (fun p hp => by
    obtain ⟨q, _, rfl⟩ := List.mem_map.1 hp
    exact ev_rep hs q.2) hz0 (by rw [List.map_map]; exact hf)
  have hb : P.built t (parts.map fun (i, x) => (i, a.eval x)).toList = some us := by
    unfold Program.built
    rw [hi, hu]
    dsimp only
    rw [hz, hpl]
    dsimp only
    rw [List.map_map] at hu1
    rw [Array.toList_map]
    exact hu1
  refine wp_value (v := .agg us) (w' := w) ?_ (hn _ _ _ (by simp) h ⟨L, hs.put _ hd hu2.agg⟩)
  unfold execOp
  simp only [ho]
  rw [Sem.run_bind, run_build w t _ us hb]
  rfl
end Go.Proofs.Ytblikpgdepjhdaa
namespace Go.Proofs.Ytblikpgdepjhdaa
open Go.RowKit
set_option linter.unusedVariables false
variable {C : Ctx} {st st' : St} {L L' : Nat → Loc} {a : Act} {w : World} {P : Program}
theorem cellsT_get : ∀ (cs : List A) (l : List T), cellsT cs = some l → l.length = cs.length ∧ ∀ (i : Nat) (y : A) (x : T), cs[i]? = some y → l[i]? = some x → y = .t x
  | [], l, h => by simp [cellsT] at h; subst h; simp
  | a :: cs, l, h => by
    simp only [cellsT] at h
    split at h
    · rename_i x l' hx hl'
      cases h
      obtain ⟨h1, h2⟩ := cellsT_get cs l' hl'
      refine ⟨by simp [h1], fun i y z hy hz => ?_⟩
      cases i with
      | zero =>
        simp at hy hz
        subst hy; subst hz
        cases a <;> simp [cellT] at hx
        rw [hx]
      | succ i => simp at hy hz; exact h2 i y z hy hz
    · cases h
theorem rep_t {M : Nat → Prop} {x : T} {v : Value} (h : RepA st L w M (.t x) v) : RepT w M x v := by cases h with | t _ _ h => exact h
theorem fill_row {M : Nat → Prop} (size : Nat) (h0 : 0 < size) : ∀ (parts : List (Nat × A × Value)) (i N : Nat) (xs : List (List T)) (vs : Array Value), (∀ p ∈ parts, RepA st L w M p.2.1 p.2.2) →
    partsT size i (parts.map fun p => (p.1, p.2.1)) = some xs → i + parts.length ≤ N → vs.size = N * size →
      ∃ us, Instr.fill (fun i => some (i * size, size)) vs (parts.map fun p => (p.1, p.2.2)) = some us ∧ us.size = vs.size ∧ xs.length = parts.length ∧ (∀ q, q < i * size → us[q]? = vs[q]?) ∧
        ∀ (p : Nat) (x : List T), xs[p]? = some x → x.length = size ∧ ∀ (j : Nat) (t : T), x[j]? = some t → ∃ c, us[(i + p) * size + j]? = some c ∧ RepT w M t c
  | [], i, N, xs, vs, hr, h, hi, hv => by
    simp only [List.map_nil, partsT, Option.some.injEq] at h
    subst h
    exact ⟨vs, rfl, rfl, rfl, fun _ _ => rfl, fun p x hx => by simp at hx⟩
  | (j, y, v) :: rest, i, N, xs, vs, hr, h, hi, hv => by
    simp only [List.map_cons, partsT] at h
    split at h
    · rename_i hji
      subst hji
      split at h
      · rename_i cs hcs
        split at h
        · rename_i l hl
          split at h
          · rename_i hsz
            split at h
            · rename_i r hrr
              cases h
              have hx := repCs_cells hcs (hr _ (List.mem_cons_self))
              obtain ⟨hlen, hget⟩ := cellsT_get cs l hl
              have hvl : v.cells.size = size := by have := hx.1; dsimp only at this; omega
              have hN : (j + 1) * size ≤ N * size := Nat.mul_le_mul_right _ (by simp at hi; omega)
              have hj1 : (j + 1) * size = j * size + size := by rw [Nat.add_mul, Nat.one_mul]
              have hfit : j * size + v.cells.size ≤ vs.size := by omega
              have hst := fill_step (j * size) v vs hfit
              generalize hmid : v.cells.zipIdx.foldl (fun cs (x : Value × Nat) => cs.setIfInBounds (j * size + x.2) x.1) vs = mid at hst
              have hfit' : j * size + v.cells.toList.length ≤ vs.toList.length := by simpa using hfit
              have hms : mid.size = vs.size := by rw [← Array.length_toList, hst, splice_len _ _ _ hfit']; simp
              obtain ⟨us, hu1, hu2, hu3, hu4, hu5⟩ := fill_row size h0 rest (j + 1) N r mid (fun p hp => hr p (List.mem_cons_of_mem _ hp)) hrr (by simp at hi; omega) (by rw [hms]; exact hv)
              have hm : ∀ q, mid[q]? = if q < j * size then vs[q]? else if q < j * size + size then v.cells[q - j * size]? else vs[q]? := fun q => by
                have e1 : mid[q]? = mid.toList[q]? := by simp
                rw [e1, hst, splice_get _ _ _ _ hfit']
                simp [hvl]
              refine ⟨us, ?_, by rw [hu2, hms], by simp [hu3], fun q hq => ?_, fun p x hx' => ?_⟩
              · simp only [List.map_cons, Instr.fill]
                have e2 : ¬ (v.cells.size ≠ size ∨ j * size + v.cells.size > vs.size) := by omega
                simp only [ne_eq, gt_iff_lt, Bool.or_eq_true, decide_eq_true_eq] at e2 ⊢
                rw [if_neg e2]
                have e3 : (Array.foldl (fun cs x => cs.setIfInBounds (j * size + x.snd) x.fst) vs v.cells.zipIdx) = mid := hmid
                rw [e3]
                exact hu1
              · rw [hu4 q (by omega), hm q, if_pos hq]
              · cases p with
                | zero =>
                  simp at hx'
                  subst hx'
                  refine ⟨hsz, fun q t ht => ?_⟩
                  have hq : q < size := by rw [← hsz]; exact (List.getElem?_eq_some_iff.1 ht).1
                  have hcsq : ∃ z, cs[q]? = some z := ⟨_, List.getElem?_eq_getElem (by omega)⟩
                  obtain ⟨z, hz⟩ := hcsq
                  have := hget q z t hz ht
                  subst this
                  obtain ⟨_, u, hu, hrep⟩ := hx.2 q _ hz
                  refine ⟨u, ?_, rep_t hrep⟩
                  rw [Nat.add_zero, hu4 _ (by omega), hm, if_neg (by omega), if_pos (by omega)]
                  rw [show j * size + q - j * size = q by omega]
                  exact hu
                | succ p =>
                  simp at hx'
                  have := hu5 p x hx'
                  rw [show j + (p + 1) = j + 1 + p by omega]
                  exact this
            · cases h
          · cases h
        · cases h
      · cases h
    · cases h
theorem new_row (hs : SimL C st L a w) (d : Nat) (hu : st.used d = false) (e : TypeId) (k : Nat) (h0 : 0 < k) (xs : List (List T)) (hk : ∀ (i : Nat) x, xs[i]? = some x → x.length = k) (cur : Array Value) (cap : Nat) (hle : xs.length ≤ cap) (hcm : cap ≤ maxLen) (hsz : cur.size = cap * k)
    {w1 : World} (hh : w1.heap = w.heap) (os : w1.os = w.os) (tape : w1.tape = w.tape) (output : w1.output = w.output)
    (hr : ∀ (p : Nat) x, xs[p]? = some x → ∀ (j : Nat) (t : T), x[j]? = some t → ∃ c, cur[p * k + j]? = some c ∧ RepT w (Mut C st L) t c) (dst : Option Nat) (hdst : dst = some d) (hlt : d < st.n) :
    Sim C ((st.new d (.row e k xs)).put dst (.ref d)) (a.put dst (.slice (some ⟨w.heap.size, 0, none⟩) xs.length cap)) (w1.alloc (.cells cur e)) := by
  have hsize : w1.heap.size = w.heap.size := by rw [hh]
  have hold : ∀ b, b < w.heap.size → (w1.alloc (.cells cur e)).heap[b]? = w.heap[b]? := fun b hb => by rw [Below.heap_alloc w1 _ _ (by omega), hh]
  have h1 : SimL C (st.new d (.row e k xs)) (upd L d (Loc.at_ w.heap.size cap)) a (w1.alloc (.cells cur e)) := by
    refine hs.new d (.inl hlt) hu _ _ os tape output (by simp; omega) hold (fun b hb => by cases at_has hb; simp; omega) (fun M hM => ⟨h0, fun i hi => hk i _ (List.getElem?_eq_getElem hi), .inr ⟨w.heap.size, cur, by rw [upd_same], ?_, by rw [upd_same]; exact hle, by rw [upd_same]; exact hcm, by rw [upd_same]; exact hsz, fun i hi j hj => ?_⟩⟩)
    · rw [← hsize]; exact heap_alloc_new w1 _
    · obtain ⟨c, hc1, hc2⟩ := hr i _ (List.getElem?_eq_getElem hi) j _ (List.getElem?_eq_getElem hj)
      exact ⟨c, hc1, hc2.ext ⟨by simp; omega, fun k hk _ => hold k hk⟩ hM⟩
  refine ⟨_, h1.put dst (fun x hx => by rw [hdst] at hx; cases hx; exact hlt) (.ref d _ rfl (by simp [St.new, upd]) fun e' k' xs' hm => ?_)⟩
  have : xs' = xs := by simpa [St.new, upd] using (by simpa [St.new, upd] using hm : e = e' ∧ k = k' ∧ xs = xs').2.2.symm
  subst this
  rw [upd_same]; rfl
theorem op_buildSlice {o : Oper} {K : St → Prop} (t : TypeId) (len : Nat) (parts : Array (Nat × Operand)) (ho : o.op = .buildSlice t len parts) (d : Nat) (ti : TI) (e : TypeId) (te : TI) (xs : List (List T)) (hdst : o.dst = some d) (ht : tinfo P t = some ti) (he : ti.elem = some e) (hte : tinfo P e = some te) (hu : st.used d = false)
    (h0 : 0 < te.size) (hlen : parts.size = len) (hsmall : len * te.size ≤ 16777216) (ids : List Nat)
    (hparts : partsT te.size 0 (parts.toList.map fun (i, x) => (i, (st.frzs ids).ev x)) = some xs)
    (h : K (((st.frzs ids).new d (.row e te.size xs)).put o.dst (.ref d))) : Opk P o st K := by
  intro C a w hP ⟨L, hs0⟩ hd next Q hn
  have hs := hs0.frzs ids
  obtain ⟨i, td, z, hi, hud, hz, h1, h2, h3, h4, h5, h6, h7, h8, h9⟩ := (tparts ht).ex
  obtain ⟨ie, tde, ze, hie, hue, hze, g1, g2, g3, g4, g5, g6, g7, g8, g9⟩ := (tparts hte).ex
  have := h6 e he
  subst this
  obtain ⟨us, hu1, hu2, hu3, _, hu5⟩ := fill_row (st := st.frzs ids) (L := L) (w := w) (M := Mut C (st.frzs ids) L) te.size h0 (parts.toList.map fun p => (p.1, (st.frzs ids).ev p.2, a.eval p.2)) 0 len xs ((Array.range (len * te.size)).map (ze.cells[· % ze.cells.size]!)) (fun p hp => by
    obtain ⟨q, _, rfl⟩ := List.mem_map.1 hp
    exact ev_rep hs q.2) (by rw [List.map_map]; exact hparts) (by simp [hlen]) (by simp)
  have hxl : xs.length = len := by rw [hu3]; simp [hlen]
  have hrun : (Instr.buildSlice t len (parts.map fun (i, x) => (i, a.eval x))).run P w = .ok (.slice (some ⟨w.heap.size, 0, none⟩) xs.length len) (w.alloc (.cells us e)) := by
    rw [hxl]
    have hfill : Instr.fill (fun i => some (i * ie.size, ie.size)) ((Array.range (len * ie.size)).map (ze.cells[· % ze.cells.size]!)) (parts.map fun (i, x) => (i, a.eval x)).toList = some us := by
      rw [← g1, Array.toList_map]
      rw [List.map_map] at hu1
      exact hu1
    by_cases hpos : len * ie.size = 0
    · have hl0 : len = 0 := by rcases Nat.mul_eq_zero.1 hpos with h | h <;> omega
      subst hl0
      have hp0 : parts = #[] := Array.eq_empty_of_size_eq_zero hlen
      subst hp0
      have e0 : ∀ (f : Nat → Value), (Array.range 0).map f = #[] := fun f => Array.eq_empty_of_size_eq_zero (by simp)
      have hus : us = #[] := by
        have := hfill.symm
        simp only [Nat.zero_mul, e0] at this
        simpa [Instr.fill] using this
      subst hus
      simp [Instr.buildSlice, run_underlying hud, sizeOf, typeInfo, hie, Instr.fill, newRow, e0]
      try exact congrArg (fun c => w.alloc (.cells c e)) (Array.eq_empty_of_size_eq_zero (by simp))
    · exact run_buildSlice w t e len _ us ie ze hud hie hze (by rw [← g1]; omega) hpos hfill
  have hbn : (st.frzs ids).n = st.n := frzs_n _ _
  refine wp_value (v := .slice (some ⟨w.heap.size, 0, none⟩) xs.length len) (w' := w.alloc (.cells us e)) ?_ (hn _ _ _ (by simp [St.new]) h ?_)
  · unfold execOp
    simp only [ho]
    rw [Sem.run_bind, hrun]
    rfl
  · refine new_row hs d (by simpa using hu) e te.size h0 xs (fun p x hx => (hu5 p x hx).1) us len (by omega) (by unfold maxLen; have := Nat.le_mul_of_pos_right len h0; omega) (by rw [hu2]; simp) rfl rfl rfl rfl (fun p x hx j t ht => ?_) _ hdst (by rw [hbn]; exact hd d hdst)
    have := (hu5 p x hx).2 j t ht
    rwa [Nat.zero_add] at this
end Go.Proofs.Ytblikpgdepjhdaa
namespace Go.Proofs.Ytblikpgdepjhdaa
open Go.RowKit
set_option linter.unusedVariables false
variable {C : Ctx} {st st' : St} {L L' : Nat → Loc} {a : Act} {w : World} {P : Program}
theorem flat_cells {M : Nat → Prop} {k : Nat} (h0 : 0 < k) (ys : List (List T)) (hk : ∀ i (hi : i < ys.length), (ys[i]).length = k) (at_ : Nat → Option Value)
    (h : ∀ i (hi : i < ys.length) j (hj : j < (ys[i]).length), ∃ c, at_ (i * k + j) = some c ∧ RepT w M (ys[i][j]) c) :
    ∃ news : List Value, news.length = ys.length * k ∧ (∀ (q : Nat) u, news[q]? = some u → at_ q = some u) ∧ (∀ u ∈ news, u.oneCell' = true) ∧
      ∀ (p : Nat) x, ys[p]? = some x → x.length = k ∧ ∀ (j : Nat) (t : T), x[j]? = some t → ∃ c, news[p * k + j]? = some c ∧ RepT w M t c := by
  have hq : ∀ q, q < ys.length * k → ∃ (hi : q / k < ys.length) (hj : q % k < (ys[q / k]).length), (q / k) * k + q % k = q := fun q hq => by
    have hi : q / k < ys.length := Nat.div_lt_of_lt_mul (by rw [Nat.mul_comm]; exact hq)
    exact ⟨hi, by rw [hk _ hi]; exact Nat.mod_lt _ h0, Nat.div_add_mod' q k⟩
  refine ⟨(List.range (ys.length * k)).map fun q => (at_ q).getD undef, by simp, fun q u hu => ?_, fun u hu => ?_, fun p x hx => ?_⟩
  · have hlt : q < ys.length * k := by have := (List.getElem?_eq_some_iff.1 hu).1; simpa using this
    obtain ⟨hi, hj, e⟩ := hq q hlt
    obtain ⟨c, hc, _⟩ := h _ hi _ hj
    rw [e] at hc
    simp only [List.getElem?_map, List.getElem?_range hlt, Option.map_some, hc, Option.getD_some, Option.some.injEq] at hu
    rw [hc, hu]
  · obtain ⟨q, hq', rfl⟩ := List.mem_map.1 hu
    obtain ⟨hi, hj, e⟩ := hq q (List.mem_range.1 hq')
    obtain ⟨c, hc, hr⟩ := h _ hi _ hj
    rw [e] at hc
    rw [hc]
    exact hr.one
  · obtain ⟨hp, rfl⟩ := List.getElem?_eq_some_iff.1 hx
    refine ⟨hk p hp, fun j t ht => ?_⟩
    obtain ⟨hj, rfl⟩ := List.getElem?_eq_some_iff.1 ht
    obtain ⟨c, hc, hr⟩ := h p hp j hj
    have hlt : p * k + j < ys.length * k := by
      have h1 : (p + 1) * k ≤ ys.length * k := Nat.mul_le_mul_right _ hp
      have h2 := hk p hp
      rw [Nat.add_mul] at h1
      omega
    exact ⟨c, by simp [List.getElem?_range hlt, hc], hr⟩
theorem list_news (hs : SimL C st L a w) {y : A} {v : Value} (hr : RepA st L w (Mut C st L) y v) {k : Nat} {ys : List (List T)} (hl : asList st y = some (k, ys)) {k' : Nat} (h0 : 0 < k') (hk : ys = [] ∨ k = k') :
    ∃ ad cap, v = .slice ad ys.length cap ∧ (ys = [] ∨ ∃ b off, ad = some ⟨b, off, none⟩ ∧ ∃ news : List Value, news.length = ys.length * k' ∧ (∀ (q : Nat) u, news[q]? = some u → w.cell? ⟨b, off + q, none⟩ = some u) ∧ (∀ u ∈ news, u.oneCell' = true) ∧
      ∀ (p : Nat) x, ys[p]? = some x → x.length = k' ∧ ∀ (j : Nat) (t : T), x[j]? = some t → ∃ c, news[p * k' + j]? = some c ∧ RepT w (Mut C st L) t c) := by
  rcases hk with rfl | rfl
  · obtain ⟨ad, cap, hv, _, _⟩ := list_len hs hr hl
    exact ⟨ad, cap, hv, .inl rfl⟩
  · unfold asList at hl
    split at hl
    · cases hl
      cases hr with
      | t _ _ h =>
        cases h with
        | nil => exact ⟨_, _, rfl, .inl rfl⟩
        | sl _ _ b off cap c hb hM hcap hcm hk hc hrr =>
          exact ⟨_, _, rfl, .inr ⟨b, off, rfl, flat_cells h0 ys hk (fun q => w.cell? ⟨b, off + q, none⟩) fun i hi j hj => ⟨c i j, hc i hi j (by rw [← hk i hi]; exact hj), hrr i hi j hj⟩⟩⟩
    · cases hl
      have := rep_val hr
      subst this
      exact ⟨_, _, rfl, .inl rfl⟩
    · split at hl
      · rename_i id _ e k'' ys' hm
        cases hl
        cases hr with
        | ref _ _ h1 hus h =>
          have := h _ _ _ hm
          subst this
          obtain ⟨_, hk, hq⟩ := (hs.mem _ _ hm).2
          rcases hq with ⟨hxs, hn⟩ | ⟨b, cur, hb, hw, hle, hcm, hsz, hc⟩
          · subst hxs; rw [hn]; exact ⟨_, _, rfl, .inl rfl⟩
          · refine ⟨_, _, rfl, .inr ⟨b, 0, by simp [hb], flat_cells h0 ys hk (fun q => w.cell? ⟨b, 0 + q, none⟩) fun i hi j hj => ?_⟩⟩
            obtain ⟨c, hc1, hc2⟩ := hc i hi j hj
            exact ⟨c, by rw [Nat.zero_add, cell_of_row w b _ cur _ _ hw, hc1], hc2⟩
      · cases hl
    · cases hl
theorem SimL.renew (h : SimL C st L a w) (id d : Nat) (hdn : d < st.n ∨ 1000 ≤ d) (hu : st.used d = false) (blk : Blk) (old : Blk) (hm : st.mem id = some old) (b : Nat) (hb : (L id).blk = some b) {w' : World} (os : w'.os = w.os) (tape : w'.tape = w.tape) (output : w'.output = w.output) (size : w'.heap.size = w.heap.size)
    (block : ∀ q, q ≠ b → w'.heap[q]? = w.heap[q]?) (hrep : ∀ M : Nat → Prop, (∀ q, M q → Mut C st L q) → RepB ((st.del id).new d blk) (upd L d (L id)) w' M d blk) : SimL C ((st.del id).new d blk) (upd L d (L id)) a w' := by
  have hidd : id ≠ d := fun e => by have := (h.mem id old hm).1; rw [e, hu] at this; cases this
  have hne : ∀ i, st.used i = true → i ≠ d := fun i hi e => by rw [e, hu] at hi; cases hi
  have hmem : ∀ i b', ((st.del id).new d blk).mem i = some b' → (i = d ∧ b' = blk) ∨ (i ≠ d ∧ i ≠ id ∧ st.mem i = some b') := fun i b' hb' => by
    by_cases e : i = d
    · subst e; left; exact ⟨rfl, by simpa [St.new, upd] using hb'.symm⟩
    · right
      by_cases e2 : i = id
      · subst e2; simp [St.new, St.del, upd, e] at hb'
      · exact ⟨e, e2, by simpa [St.new, St.del, upd, e, e2] using hb'⟩
  have hM : ∀ q, Mut C ((st.del id).new d blk) (upd L d (L id)) q → Mut C st L q := by
    rintro q (hx | ⟨i, hi, hl⟩)
    · exact .inl hx
    · obtain ⟨b', hb'⟩ := Option.isSome_iff_exists.1 hi
      rcases hmem i b' hb' with ⟨e, _⟩ | ⟨e, _, hi'⟩
      · subst e; rw [upd_same] at hl; exact .inr ⟨id, by rw [hm]; rfl, hl⟩
      · rw [upd_other _ _ _ _ e] at hl; exact .inr ⟨i, by rw [hi']; rfl, hl⟩
  have hfr : ∀ i, (((st.del id).new d blk).mem i).isSome = true → st.used i = false → i = d := fun i hi hf => by
    obtain ⟨b', hb'⟩ := Option.isSome_iff_exists.1 hi
    rcases hmem i b' hb' with ⟨e, _⟩ | ⟨e, _, hi'⟩
    · exact e
    · have := (h.mem i b' hi').1
      rw [hf] at this; cases this
  refine h.next rfl h.hn h.hd os tape output (by rw [size]; exact Nat.le_refl _) (fun q _ hq => block q fun e => hq ⟨id, by rw [hm]; rfl, by rw [e]; exact .inl hb⟩) (fun i hi => by simp [St.new, St.del, upd, hi]) (fun i hi b' hb' => ?_) (fun i hi hf q hl => .inr ⟨id, by rw [hm]; rfl, ?_, ?_⟩) (fun i hi hf => by rw [hfr i hi hf]; exact hdn) (fun i j q hi hj hfi hfj _ _ => by rw [hfr i hi hfi, hfr j hj hfj]) (fun i b' hb' => ?_) (fun t => .inl ⟨rfl, rfl⟩)
  · rcases hmem i b' hb' with ⟨e, _⟩ | ⟨e, _, hi'⟩
    · exact absurd e (hne i hi)
    · exact ⟨b', hi', b'.alike_refl, upd_other _ _ _ _ e⟩
  · have := hfr i hi hf
    subst this
    rw [upd_same] at hl; exact hl
  · simp [St.new, St.del, upd, hidd]
  · rcases hmem i b' hb' with ⟨e, rfl⟩ | ⟨e, e2, hi'⟩
    · subst e; exact ⟨by simp [St.new, upd], .inr (hrep _ hM)⟩
    · refine ⟨by simp [St.new, St.del, upd, (h.mem i b' hi').1], .inl ⟨hi', upd_other _ _ _ _ e, fun q hq => block q fun eq => ?_⟩⟩
      subst eq
      exact e2 (h.inj i id q (by rw [hi']; rfl) (by rw [hm]; rfl) hq (.inl hb))
structure AppendParts (P : Program) (st : St) (t : TypeId) (e : TypeId) (te : TI) (y : A) (ys : List (List T)) : Prop where
  elem : ∃ ti, tinfo P t = some ti ∧ ti.elem = some e
  size : tinfo P e = some te
  pos : 0 < te.size
  list : ∃ k, asList st y = some (k, ys) ∧ (ys = [] ∨ k = te.size)
theorem firstCells_zero (size : Nat) (ad : Option Addr) (c : Nat) (w : World) : (Builtin.firstCells size 0 (.slice ad 0 c)).run P w = .ok #[] w := by
  cases ad <;> simp [Builtin.firstCells, loadCells, loadCellsFrom]
theorem nil_row (hs : SimL C st L a w) (d : Nat) (hu : st.used d = false) (e : TypeId) (k : Nat) (h0 : 0 < k) (dst : Option Nat) (hdst : dst = some d) (hlt : d < st.n) :
    Sim C ((st.new d (.row e k [])).put dst (.ref d)) (a.put dst (.slice none 0 0)) w := by
  have h1 : SimL C (st.new d (.row e k [])) (upd L d nol) a w :=
    hs.new d (.inl hlt) hu _ _ rfl rfl rfl (Nat.le_refl _) (fun _ _ => rfl) (fun b hb => (nol_has hb).elim) (fun M hM => ⟨h0, fun i hi => by simp at hi, .inl ⟨rfl, by rw [upd_same]⟩⟩)
  refine ⟨_, h1.put dst (fun x hx => by rw [hdst] at hx; cases hx; exact hlt) (.ref d _ rfl (by simp [St.new, upd]) fun e' k' xs' hm => ?_)⟩
  have : [] = xs' := (by simpa [St.new, upd] using hm : e = e' ∧ k = k' ∧ xs' = []).2.2.symm
  subst this
  rw [upd_same]; rfl
theorem append_nil (hs : SimL C st L a w) (t ty e : TypeId) (te : TI) (y : A) (ys : List (List T)) (hp : AppendParts P st t e te y ys) {v : Value} (hr : RepA st L w (Mut C st L) y v) (hb : ys.length * te.bytes ≤ 140737488355328) (hl : ys.length ≤ maxLen)
    (d : Nat) (hu : st.used d = false) (dst : Option Nat) (hdst : dst = some d) (hlt : d < st.n) :
    ∃ u w', (Builtin.append_ #[t, t] ty #[.slice none 0 0, v]).run P w = .ok u w' ∧ Sim C ((st.new d (.row e te.size ys)).put dst (.ref d)) (a.put dst u) w' := by
  obtain ⟨⟨ti, hti, he⟩, hte, hpos, ⟨k, hyl, hk⟩⟩ := hp
  obtain ⟨i, td, z, hi, hud, hz, h1, h2, h3, h4, h5, h6, h7, h8, h9⟩ := (tparts hti).ex
  obtain ⟨ie, tde, ze, hie, hue, hze, g1, g2, g3, g4, g5, g6, g7, g8, g9⟩ := (tparts hte).ex
  have := h6 e he
  subst this
  obtain ⟨ad, cap, hv, hc⟩ := list_news hs hr hyl hpos hk
  subst hv
  rcases hc with rfl | ⟨b, off, rfl, news, hn1, hn2, hn3, hn4⟩
  · exact ⟨.slice none 0 0, w, by simp [Builtin.append_, run_underlying hud, sizeOf, typeInfo, hie, Builtin.lenOf, firstCells_zero], nil_row hs d hu e te.size hpos dst hdst hlt⟩
  · by_cases h0 : ys = []
    · subst h0
      exact ⟨.slice none 0 0, w, by simp [Builtin.append_, run_underlying hud, sizeOf, typeInfo, hie, Builtin.lenOf, Builtin.firstCells, loadCells, loadCellsFrom], nil_row hs d hu e te.size hpos dst hdst hlt⟩
    · have hlen : 0 < ys.length := List.length_pos_iff.2 h0
      have hrun := run_append_nil (P := P) w t ty e ie ze hud hie hze ⟨b, off, none⟩ ys.length cap news (by rw [hn1, g1]) (fun j u hu => by rw [Addr.add_mid]; exact hn2 j u hu) hlen (by unfold maxLen at hl; omega) (by rw [← g2]; omega)
      have hge := grownCap_ge w ys.length 0 e
      refine ⟨_, _, hrun, new_row hs d hu e te.size hpos ys (fun p x hx => (hn4 p x hx).1) _ _ hge (grownCap_le_maxLen w ys.length 0 e hl) ?_ (w1 := w.drew) rfl rfl rfl rfl (fun p x hx j tt ht => ?_) dst hdst hlt⟩
      · simp only [Array.size_append, List.size_toArray, size_zeroCells, hn1, g9, ← g1, ← Nat.add_mul]
        congr 1; omega
      · obtain ⟨c, hc1, hc2⟩ := (hn4 p x hx).2 j tt ht
        refine ⟨c, ?_, hc2⟩
        have hlt := (List.getElem?_eq_some_iff.1 hc1).1
        rw [Array.getElem?_append_left (by simpa using hlt)]
        simpa using hc1
theorem append_ref (hs : SimL C st L a w) (t ty e : TypeId) (te : TI) (y : A) (ys : List (List T)) (hp : AppendParts P st t e te y ys) {v : Value} (hr : RepA st L w (Mut C st L) y v) (id : Nat) (xs : List (List T)) (hm : st.mem id = some (.row e te.size xs))
    (hb : (xs.length + ys.length) * te.bytes ≤ 140737488355328) (hl : xs.length + ys.length ≤ maxLen) (d : Nat) (hu : st.used d = false) (dst : Option Nat) (hdst : dst = some d) (hlt : d < st.n) :
    ∃ u w', (Builtin.append_ #[t, t] ty #[(L id).slice xs.length, v]).run P w = .ok u w' ∧ Sim C (((st.del id).new d (.row e te.size (xs ++ ys))).put dst (.ref d)) (a.put dst u) w' := by
  have hp0 := hp
  obtain ⟨⟨ti, hti, he⟩, hte, hpos, ⟨k, hyl, hk⟩⟩ := hp
  obtain ⟨i, td, z, hi, hud, hz, h1, h2, h3, h4, h5, h6, h7, h8, h9⟩ := (tparts hti).ex
  obtain ⟨ie, tde, ze, hie, hue, hze, g1, g2, g3, g4, g5, g6, g7, g8, g9⟩ := (tparts hte).ex
  have := h6 e he
  subst this
  have hud' : (st.del id).used d = false := hu
  obtain ⟨_, hkx, hq⟩ := (hs.mem _ _ hm).2
  rcases hq with ⟨hxs, hnil⟩ | ⟨b, cur, hbk, hw, hle, hcm, hsz, hc⟩
  · subst hxs
    have hs' := hs.del id
    obtain ⟨ad, cap, hv, hcs⟩ := list_news hs hr hyl hpos hk
    subst hv
    have e1 : (L id).slice ([] : List (List T)).length = .slice none 0 0 := by rw [hnil]; rfl
    rw [e1, List.nil_append]
    have hMd : ∀ q, Mut C (st.del id) L q → Mut C st L q := by
      rintro q (hx | ⟨i, hi, hl⟩)
      · exact .inl hx
      · refine .inr ⟨i, ?_, hl⟩
        by_cases e : i = id
        · subst e; simp [St.del, upd] at hi
        · simpa [St.del, upd, e] using hi
    by_cases h0 : ys = []
    · subst h0
      exact ⟨.slice none 0 0, w, by simp [Builtin.append_, run_underlying hud, sizeOf, typeInfo, hie, Builtin.lenOf, firstCells_zero], nil_row hs' d hud' e te.size hpos dst hdst hlt⟩
    · rcases hcs with hcs | ⟨b, off, rfl, news, hn1, hn2, hn3, hn4⟩
      · exact absurd hcs h0
      · have hlen : 0 < ys.length := List.length_pos_iff.2 h0
        have hrun := run_append_nil (P := P) w t ty e ie ze hud hie hze ⟨b, off, none⟩ ys.length cap news (by rw [hn1, g1]) (fun j u hu => by rw [Addr.add_mid]; exact hn2 j u hu) hlen (by unfold maxLen at hl; simp at hl; omega) (by rw [← g2]; simp at hb; omega)
        have hge := grownCap_ge w ys.length 0 e
        refine ⟨_, _, hrun, new_row hs' d hud' e te.size hpos ys (fun p x hx => (hn4 p x hx).1) _ _ hge (grownCap_le_maxLen w ys.length 0 e (by simpa using hl)) ?_ (w1 := w.drew) rfl rfl rfl rfl (fun p x hx j tt ht => ?_) dst hdst hlt⟩
        · simp only [Array.size_append, List.size_toArray, size_zeroCells, hn1, g9, ← g1, ← Nat.add_mul]
          congr 1; omega
        · obtain ⟨c, hc1, hc2⟩ := (hn4 p x hx).2 j tt ht
          refine ⟨c, ?_, hc2.ext (Ext.refl _ _) (fun q _ => hMd q)⟩
          have hlt := (List.getElem?_eq_some_iff.1 hc1).1
          rw [Array.getElem?_append_left (by simpa using hlt)]
          simpa using hc1
  · have e1 : (L id).slice xs.length = .slice (some ⟨b, 0, none⟩) xs.length (L id).cap := by simp [Loc.slice, hbk]
    rw [e1]
    obtain ⟨ad, cap, hv, hcs⟩ := list_news hs hr hyl hpos hk
    subst hv
    have fin : ∀ w' : World, w'.os = w.os → w'.tape = w.tape → w'.output = w.output → w'.heap.size = w.heap.size → (∀ q, q ≠ b → w'.heap[q]? = w.heap[q]?) → ∀ cur', w'.heap[b]? = some (.cells cur' e (0, 0)) → xs.length + ys.length ≤ (L id).cap → cur'.size = (L id).cap * te.size →
        (∀ (p : Nat) x, (xs ++ ys)[p]? = some x → x.length = te.size ∧ ∀ (j : Nat) (tt : T), x[j]? = some tt → ∃ c, cur'[p * te.size + j]? = some c ∧ RepT w (Mut C st L) tt c) →
        Sim C (((st.del id).new d (.row e te.size (xs ++ ys))).put dst (.ref d)) (a.put dst (.slice (some ⟨b, 0, none⟩) (xs.length + ys.length) (L id).cap)) w' := by
      intro w' q1 q2 q3 q4 q5 cur' q6 q7 q8 q9
      have hsim := hs.renew id d (.inl hlt) hu (.row e te.size (xs ++ ys)) _ hm b hbk q1 q2 q3 q4 q5 (fun M hM => ⟨hpos, fun i hi => (q9 i _ (List.getElem?_eq_getElem hi)).1, .inr ⟨b, cur', by rw [upd_same]; exact hbk, q6, by rw [upd_same, List.length_append]; exact q7, by rw [upd_same]; exact hcm, by rw [upd_same]; exact q8, fun i hi j hj => ?_⟩⟩)
      · refine ⟨_, hsim.put dst (fun x hx => by rw [hdst] at hx; cases hx; exact hlt) (.ref d _ rfl (by simp [St.new, upd]) fun e' k' xs' hm' => ?_)⟩
        have : xs ++ ys = xs' := by
          have := hm'
          simp only [St.new, upd_same, Option.some.injEq, Blk.row.injEq] at this
          exact this.2.2
        subst this
        rw [upd_same, List.length_append]
        simp [Loc.slice, hbk]
      · obtain ⟨c, hc1, hc2⟩ := (q9 i _ (List.getElem?_eq_getElem hi)).2 j _ (List.getElem?_eq_getElem hj)
        exact ⟨c, hc1, hc2.ext ⟨by omega, fun k hk hm' => q5 k fun e => hm' (.inr ⟨id, by rw [hm]; rfl, by rw [e]; exact .inl hbk⟩)⟩ (fun q _ => hM q)⟩
    have holdx : ∀ (p : Nat) x, xs[p]? = some x → x.length = te.size ∧ ∀ (j : Nat) (tt : T), x[j]? = some tt → ∃ c, cur[p * te.size + j]? = some c ∧ RepT w (Mut C st L) tt c := fun p x hx => by
      obtain ⟨hp, rfl⟩ := List.getElem?_eq_some_iff.1 hx
      refine ⟨hkx p hp, fun j tt ht => ?_⟩
      obtain ⟨hj, rfl⟩ := List.getElem?_eq_some_iff.1 ht
      exact hc p hp j hj
    by_cases h0 : ys = []
    · subst h0
      have hrun : (Builtin.append_ #[t, t] ty #[.slice (some ⟨b, 0, none⟩) xs.length (L id).cap, .slice ad ([] : List (List T)).length cap]).run P w = .ok (.slice (some ⟨b, 0, none⟩) (xs.length + ([] : List (List T)).length) (L id).cap) w := by
        simp [Builtin.append_, run_underlying hud, sizeOf, typeInfo, hie, Builtin.lenOf, firstCells_zero, hle, storeCells]
      refine ⟨_, _, hrun, fin w rfl rfl rfl rfl (fun _ _ => rfl) cur hw (by simpa using hle) hsz (fun p x hx => holdx p x (by simpa using hx))⟩
    · rcases hcs with hcs | ⟨b', off, rfl, news, hn1, hn2, hn3, hn4⟩
      · exact absurd hcs h0
      · have hxk : xs.length * te.size ≤ (L id).cap * te.size := Nat.mul_le_mul_right _ hle
        by_cases hroom : xs.length + ys.length ≤ (L id).cap
        · have hrk : (xs.length + ys.length) * te.size ≤ (L id).cap * te.size := Nat.mul_le_mul_right _ hroom
          rw [Nat.add_mul] at hrk
          have hfit : xs.length * ie.size + news.length ≤ cur.size := by rw [hn1, hsz, ← g1]; exact hrk
          have hrun := run_append_room (P := P) w t ty e ie hud hie b xs.length (L id).cap cur hw ⟨b', off, none⟩ ys.length cap news (by rw [hn1, g1]) (fun j u hu => by rw [Addr.add_mid]; exact hn2 j u hu) hn3 hroom hfit
          rw [← g1] at hrun hfit
          refine ⟨_, _, hrun, fin _ rfl rfl rfl (by simp) (fun q hq => setRow_other w b q _ hq) _ (setRow_heap w b cur _ e _ hw) hroom ?_ (fun p x hx => ?_)⟩
          · rw [List.size_toArray, splice_len _ _ _ (by simpa using hfit)]; simp [hsz]
          · have hg := fun q => splice_get cur.toList news (xs.length * te.size) q (by simpa using hfit)
            by_cases hpx : p < xs.length
            · rw [List.getElem?_append_left hpx] at hx
              obtain ⟨hx1, hx2⟩ := holdx p x hx
              refine ⟨hx1, fun j tt ht => ?_⟩
              obtain ⟨c, hc1, hc2⟩ := hx2 j tt ht
              have hj : j < te.size := by rw [← hx1]; exact (List.getElem?_eq_some_iff.1 ht).1
              have h1 : (p + 1) * te.size ≤ xs.length * te.size := Nat.mul_le_mul_right _ hpx
              rw [Nat.add_mul] at h1
              refine ⟨c, ?_, hc2⟩
              rw [List.getElem?_toArray, hg, if_pos (by omega)]
              simpa using hc1
            · rw [List.getElem?_append_right (by omega)] at hx
              obtain ⟨hx1, hx2⟩ := hn4 _ x hx
              refine ⟨hx1, fun j tt ht => ?_⟩
              obtain ⟨c, hc1, hc2⟩ := hx2 j tt ht
              have hj : j < te.size := by rw [← hx1]; exact (List.getElem?_eq_some_iff.1 ht).1
              have e3 : p * te.size = xs.length * te.size + (p - xs.length) * te.size := by rw [← Nat.add_mul]; congr 1; omega
              have hlt := (List.getElem?_eq_some_iff.1 hc1).1
              refine ⟨c, ?_, hc2⟩
              rw [List.getElem?_toArray, hg, if_neg (by omega), if_pos (by omega), show p * te.size + j - xs.length * te.size = (p - xs.length) * te.size + j by omega]
              exact hc1
        · obtain ⟨olds, ho1, ho2, ho3, ho4⟩ := flat_cells (w := w) (M := Mut C st L) hpos xs hkx (fun q => w.cell? ⟨b, 0 + q, none⟩) fun i hi j hj => by
            obtain ⟨c, hc1, hc2⟩ := hc i hi j hj
            exact ⟨c, by rw [Nat.zero_add, cell_of_row w b _ cur _ _ hw, hc1], hc2⟩
          have hrun := run_append_grow (P := P) w t ty e ie ze hud hie hze ⟨b, 0, none⟩ xs.length (L id).cap olds (by rw [ho1, g1]) (fun j u hu => by rw [Addr.add_mid]; exact ho2 j u hu) ⟨b', off, none⟩ ys.length cap news (by rw [hn1, g1]) (fun j u hu => by rw [Addr.add_mid]; exact hn2 j u hu) (by omega) (by unfold maxLen at hl; omega) (growslice_fits (by omega) (by rw [← g2]; exact hb))
          have hge := grownCap_ge w (xs.length + ys.length) (L id).cap e
          have hs' := hs.del id
          have hMd : ∀ q, Mut C (st.del id) L q → Mut C st L q := by
            rintro q (hx | ⟨i, hi, hl⟩)
            · exact .inl hx
            · refine .inr ⟨i, ?_, hl⟩
              by_cases e : i = id
              · subst e; simp [St.del, upd] at hi
              · simpa [St.del, upd, e] using hi
          have hnr := new_row hs' d hud' e te.size hpos (xs ++ ys) (fun p x hx => ?_) (olds.toArray ++ news.toArray ++ Builtin.zeroCells ze.cells (grownCap w (xs.length + ys.length) (L id).cap e - (xs.length + ys.length))) _ (by rw [List.length_append]; exact hge) (grownCap_le_maxLen w _ _ e hl) ?_ (w1 := w.drew) rfl rfl rfl rfl (fun p x hx j tt ht => ?_) dst hdst hlt
          · rw [List.length_append] at hnr
            exact ⟨_, _, hrun, hnr⟩
          · by_cases hpx : p < xs.length
            · rw [List.getElem?_append_left hpx] at hx; exact (ho4 p x hx).1
            · rw [List.getElem?_append_right (by omega)] at hx; exact (hn4 _ x hx).1
          · simp only [Array.size_append, List.size_toArray, size_zeroCells, ho1, hn1, g9, ← g1, ← Nat.add_mul]
            congr 1; omega
          · have e2 : (olds.toArray ++ news.toArray ++ Builtin.zeroCells ze.cells (grownCap w (xs.length + ys.length) (L id).cap e - (xs.length + ys.length)))[p * te.size + j]? = if p * te.size + j < olds.length then olds[p * te.size + j]? else if p * te.size + j < olds.length + news.length then news[p * te.size + j - olds.length]? else (Builtin.zeroCells ze.cells (grownCap w (xs.length + ys.length) (L id).cap e - (xs.length + ys.length)))[p * te.size + j - (olds.length + news.length)]? := by
              rw [Array.getElem?_append, Array.getElem?_append]
              simp only [Array.size_append, List.size_toArray, List.getElem?_toArray]
              by_cases c1 : p * te.size + j < olds.length
              · rw [if_pos (by omega), if_pos c1, if_pos c1]
              · by_cases c2 : p * te.size + j < olds.length + news.length
                · rw [if_pos c2, if_neg c1, if_neg c1, if_pos c2]
                · rw [if_neg c2, if_neg c1, if_neg c2]
            by_cases hpx : p < xs.length
            · rw [List.getElem?_append_left hpx] at hx
              obtain ⟨c, hc1, hc2⟩ := (ho4 p x hx).2 j tt ht
              have hlt := (List.getElem?_eq_some_iff.1 hc1).1
              exact ⟨c, by rw [e2, if_pos hlt]; exact hc1, hc2.ext (Ext.refl _ _) (fun q _ => hMd q)⟩
            · rw [List.getElem?_append_right (by omega)] at hx
              obtain ⟨c, hc1, hc2⟩ := (hn4 _ x hx).2 j tt ht
              have hlt := (List.getElem?_eq_some_iff.1 hc1).1
              have e3 : p * te.size = xs.length * te.size + (p - xs.length) * te.size := by rw [← Nat.add_mul]; congr 1; omega
              refine ⟨c, ?_, hc2.ext (Ext.refl _ _) (fun q _ => hMd q)⟩
              rw [e2, if_neg (by omega), if_pos (by omega), show p * te.size + j - olds.length = (p - xs.length) * te.size + j by omega]
              exact hc1
end Go.Proofs.Ytblikpgdepjhdaa

/- Parts of the proof. -/
import Derived.Below
import Derived.Laws.Rows
import Derived.Deep.MidRow
import Derived.WalkKit
namespace Go.Proofs.Ytmffhifkdbfbfaa
open Go.RowKit
set_option linter.unusedVariables false
inductive T where
  | v (x : Value)
  | sl (k : Nat) (xs : List (List T))
  | fp (cells : List T)
  | clo (f : FuncId) (caps : List (List T))
inductive RepT (w : World) (M : Nat → Prop) : T → Value → Prop
  | v (x : Value) (h : x.oneCell' = true) : RepT w M (.v x) x
  | nil (k : Nat) (a : Option Addr) (cap : Nat) (hcm : cap ≤ maxLen) : RepT w M (.sl k []) (.slice a 0 cap)
  | sl (k : Nat) (xs : List (List T)) (b off cap : Nat) (c : Nat → Nat → Value) (hb : b < w.heap.size) (hM : ¬ M b) (hcap : xs.length ≤ cap) (hcm : cap ≤ maxLen)
      (hk : ∀ i (hi : i < xs.length), (xs[i]).length = k)
      (hc : ∀ i (hi : i < xs.length) j (hj : j < k), w.cell? ⟨b, off + (i * k + j), none⟩ = some (c i j))
      (hr : ∀ i (hi : i < xs.length) j (hj : j < (xs[i]).length), RepT w M (xs[i][j]) (c i j)) :
      RepT w M (.sl k xs) (.slice (some ⟨b, off, none⟩) xs.length cap)
  | fp (cells : List T) (b off : Nat) (c : Nat → Value) (hb : b < w.heap.size) (hM : ¬ M b)
      (hc : ∀ j (hj : j < cells.length), w.cell? ⟨b, off + j, none⟩ = some (c j))
      (hr : ∀ j (hj : j < cells.length), RepT w M (cells[j]) (c j)) : RepT w M (.fp cells) (.pointer (some ⟨b, off, none⟩))
  | clo (f : FuncId) (caps : List (List T)) (vs : Array Value) (b off : Nat → Nat) (c : Nat → Nat → Value) (hs : vs.size = caps.length)
      (hv : ∀ i (hi : i < caps.length), vs.getD i undef = .pointer (some ⟨b i, off i, none⟩) ∧ b i < w.heap.size ∧ ¬ M (b i))
      (hc : ∀ i (hi : i < caps.length) j (hj : j < (caps[i]).length), w.cell? ⟨b i, off i + j, none⟩ = some (c i j))
      (hr : ∀ i (hi : i < caps.length) j (hj : j < (caps[i]).length), RepT w M (caps[i][j]) (c i j)) : RepT w M (.clo f caps) (.func (.func f) #[] vs)
structure Ext (M : Nat → Prop) (w w' : World) : Prop where
  size : w.heap.size ≤ w'.heap.size
  block : ∀ k, k < w.heap.size → ¬ M k → w'.heap[k]? = w.heap[k]?
theorem Ext.refl (M : Nat → Prop) (w : World) : Ext M w w := ⟨Nat.le_refl _, fun _ _ _ => rfl⟩
theorem RepT.ext {w w' : World} {M M' : Nat → Prop} {t : T} {v : Value} (h : RepT w M t v) (he : Ext M w w') (hM : ∀ b, b < w.heap.size → M' b → M b) : RepT w' M' t v := by
  induction h with
  | v x h => exact .v x h
  | nil k a cap h => exact .nil k a cap h
  | sl k xs b off cap c hb hm hcap hcm hk hc hr ih =>
    refine .sl k xs b off cap c (Nat.lt_of_lt_of_le hb he.size) (fun h => hm (hM b hb h)) hcap hcm hk (fun i hi j hj => ?_) ih
    rw [World.cell?_of_block (w := w) (he.block b hb hm)]
    exact hc i hi j hj
  | fp cells b off c hb hm hc hr ih =>
    refine .fp cells b off c (Nat.lt_of_lt_of_le hb he.size) (fun h => hm (hM b hb h)) (fun j hj => ?_) ih
    rw [World.cell?_of_block (w := w) (he.block b hb hm)]
    exact hc j hj
  | clo f caps vs b off c hs hv hc hr ih =>
    refine .clo f caps vs b off c hs (fun i hi => ⟨(hv i hi).1, Nat.lt_of_lt_of_le (hv i hi).2.1 he.size, fun h => (hv i hi).2.2 (hM _ (hv i hi).2.1 h)⟩) (fun i hi j hj => ?_) ih
    rw [World.cell?_of_block (w := w) (he.block _ (hv i hi).2.1 (hv i hi).2.2)]
    exact hc i hi j hj
theorem RepT.one {w : World} {M : Nat → Prop} {t : T} {v : Value} (h : RepT w M t v) : v.oneCell' = true := by
  cases h with
  | v x h => exact h
  | nil => rfl
  | sl => rfl
  | fp => rfl
  | clo => rfl
structure RepP where
  rep : World → (Nat → Prop) → (Nat → Prop) → Nat → Prop
  ext : ∀ {w w' : World} {M M' own : Nat → Prop} {b : Nat}, rep w M own b → Ext M w w' → (∀ k, k < w.heap.size → M' k → M k) → w'.heap[b]? = w.heap[b]? → (∀ k, own k → w'.heap[k]? = w.heap[k]?) → rep w' M' own b
inductive Od where
  | iter (s : ByteArray) (pos : Nat)
  | map (es : List (Value × List T))
  | any (R : RepP)
def Od.isMap : Od → Bool
  | .map _ => true
  | _ => false
def RepO (w : World) (M own : Nat → Prop) (b : Nat) : Od → Obj → Prop
  | .iter s pos, o => o = .stringIter s pos
  | .map es, o => ∃ ents clock, o = .map ents clock ∧ ents.size = es.length ∧ (∀ i j (hi : i < ents.size) (hj : j < ents.size), (ents[i]).born = (ents[j]).born → i = j) ∧ (∀ i (hi : i < ents.size), (ents[i]).born < clock) ∧
      ∀ i (hi : i < es.length) (hi' : i < ents.size), (ents[i]).key = es[i].1 ∧ ((ents[i]).val).cells.size = es[i].2.length ∧ ∀ j (hj : j < es[i].2.length) (hj' : j < ((ents[i]).val).cells.size), RepT w M (es[i].2[j]) (((ents[i]).val).cells[j])
  | .any R, _ => R.rep w M own b
theorem RepO.ext {w w' : World} {M M' own : Nat → Prop} {b : Nat} {od : Od} {o : Obj} (h : RepO w M own b od o) (he : Ext M w w') (hM : ∀ b, b < w.heap.size → M' b → M b) (hb : w'.heap[b]? = w.heap[b]?) (ho : ∀ k, own k → w'.heap[k]? = w.heap[k]?) : RepO w' M' own b od o := by
  cases od with
  | iter s pos => exact h
  | any R => exact R.ext h he hM hb ho
  | map es =>
    obtain ⟨ents, clock, h1, h2, h3, h4, h5⟩ := h
    exact ⟨ents, clock, h1, h2, h3, h4, fun i hi hi' => ⟨(h5 i hi hi').1, (h5 i hi hi').2.1, fun j hj hj' => ((h5 i hi hi').2.2 j hj hj').ext he hM⟩⟩
def Od.plain : Od → Bool
  | .any _ => false
  | _ => true
theorem RepO.move {w w' : World} {M M' own own' : Nat → Prop} {b b' : Nat} {od : Od} {o : Obj} (h : RepO w M own b od o) (hp : od.plain = true) (he : Ext M w w') (hM : ∀ b, b < w.heap.size → M' b → M b) : RepO w' M' own' b' od o := by
  cases od with
  | iter s pos => exact h
  | any R => cases hp
  | map es =>
    obtain ⟨ents, clock, h1, h2, h3, h4, h5⟩ := h
    exact ⟨ents, clock, h1, h2, h3, h4, fun i hi hi' => ⟨(h5 i hi hi').1, (h5 i hi hi').2.1, fun j hj hj' => ((h5 i hi hi').2.2 j hj hj').ext he hM⟩⟩
inductive A where
  | t (x : T)
  | agg (cs : List A)
  | tup (cs : List A)
  | ref (id : Nat)
  | ptr (id off : Nat)
  | rptr (id i j : Nat)
  | ob (id : Nat)
  | fel (cells : List T)
  | dead
abbrev A.v (x : Value) : A := .t (.v x)
def A.single : A → Bool
  | .agg _ | .tup _ | .dead => false
  | _ => true
inductive Blk where
  | box (ty : TypeId) (cells : List A)
  | row (e : TypeId) (k : Nat) (xs : List (List T))
  | obj (od : Od)
def Blk.alike : Blk → Blk → Prop
  | .box _ _, .box _ _ => True
  | .row _ k xs, .row _ k' ys => k = k' ∧ xs.length = ys.length
  | .obj x, .obj y => x.isMap = y.isMap
  | _, _ => False
theorem Blk.alike_refl (b : Blk) : b.alike b := by cases b <;> simp [Blk.alike]
structure St where
  n : Nat
  env : Nat → A
  mem : Nat → Option Blk
  used : Nat → Bool
structure Loc where
  blk : Option Nat
  cap : Nat
  own : Nat → Prop
def Loc.has (l : Loc) (b : Nat) : Prop := l.blk = some b ∨ l.own b
abbrev nol : Loc := ⟨none, 0, fun _ => False⟩
abbrev Loc.at_ (b cap : Nat) : Loc := ⟨some b, cap, fun _ => False⟩
theorem at_has {b cap q : Nat} (h : (Loc.at_ b cap).has q) : q = b := by rcases h with h | h <;> cases h; rfl
theorem nol_has {b : Nat} : ¬ nol.has b := fun h => by rcases h with h | h <;> cases h
def Loc.like (l l' : Loc) : Prop := l.blk = l'.blk ∧ l.cap = l'.cap
theorem Loc.like_refl (l : Loc) : l.like l := ⟨rfl, rfl⟩
theorem Loc.like.of {l l' : Loc} (h : l = l') : l.like l' := h ▸ l.like_refl
def Loc.slice (l : Loc) (n : Nat) : Value := .slice (l.blk.map fun b => ⟨b, 0, none⟩) n l.cap
def Loc.ob (l : Loc) (od : Od) : Value := match od.isMap with | true => .map l.blk | false => .pointer (l.blk.map fun b => ⟨b, 0, none⟩)
def Loc.ptr (l : Loc) (off : Nat) : Value := .pointer (l.blk.map fun b => ⟨b, off, none⟩)
theorem Loc.like.slice {l l' : Loc} (h : l.like l') (n : Nat) : l.slice n = l'.slice n := by unfold Loc.slice; rw [h.1, h.2]
theorem Loc.like.ob {l l' : Loc} (h : l.like l') (od : Od) : l.ob od = l'.ob od := by unfold Loc.ob; rw [h.1]
theorem Loc.like.ptr {l l' : Loc} (h : l.like l') (n : Nat) : l.ptr n = l'.ptr n := by unfold Loc.ptr; rw [h.1]
def upd {α : Type} (f : Nat → α) (i : Nat) (x : α) : Nat → α := fun j => if j = i then x else f j
theorem upd_same {α : Type} (f : Nat → α) (i : Nat) (x : α) : upd f i x i = x := by simp [upd]
theorem upd_other {α : Type} (f : Nat → α) (i j : Nat) (x : α) (h : j ≠ i) : upd f i x j = f j := by simp [upd, h]
inductive RepA (st : St) (L : Nat → Loc) (w : World) (M : Nat → Prop) : A → Value → Prop
  | t (x : T) (v : Value) (h : RepT w M x v) : RepA st L w M (.t x) v
  | agg (cs : List A) (vs : Array Value) (hs : vs.size = cs.length) (h1 : ∀ i (hi : i < cs.length), (cs[i]).single = true) (hr : ∀ i (hi : i < cs.length), RepA st L w M (cs[i]) (vs[i]'(by omega))) : RepA st L w M (.agg cs) (.agg vs)
  | tup (cs : List A) (vs : Array Value) (hs : vs.size = cs.length) (hr : ∀ i (hi : i < cs.length), RepA st L w M (cs[i]) (vs[i]'(by omega))) : RepA st L w M (.tup cs) (.tuple vs)
  | ref (id : Nat) (v : Value) (h1 : v.oneCell' = true) (hu : st.used id = true) (h : ∀ e k xs, st.mem id = some (.row e k xs) → v = (L id).slice xs.length) : RepA st L w M (.ref id) v
  | ptr (id off : Nat) (v : Value) (h1 : v.oneCell' = true) (hu : st.used id = true) (h : ∀ ty cs, st.mem id = some (.box ty cs) → v = (L id).ptr off) : RepA st L w M (.ptr id off) v
  | rptr (id i j : Nat) (v : Value) (h1 : v.oneCell' = true) (hu : st.used id = true) (h : ∀ e k xs, st.mem id = some (.row e k xs) → v = (L id).ptr (i * k + j)) : RepA st L w M (.rptr id i j) v
  | ob (id : Nat) (v : Value) (h1 : v.oneCell' = true) (hu : st.used id = true) (h : ∀ od, st.mem id = some (.obj od) → v = (L id).ob od) : RepA st L w M (.ob id) v
  | fel (cells : List T) (b off : Nat) (c : Nat → Value) (hb : b < w.heap.size) (hM : ¬ M b) (hc : ∀ j (hj : j < cells.length), w.cell? ⟨b, off + j, none⟩ = some (c j)) (hr : ∀ j (hj : j < cells.length), RepT w M (cells[j]) (c j)) :
      RepA st L w M (.fel cells) (.pointer (some ⟨b, off, none⟩))
  | dead (v : Value) : RepA st L w M .dead v
theorem RepA.one {st : St} {L : Nat → Loc} {w : World} {M : Nat → Prop} {a : A} {v : Value} (h : RepA st L w M a v) (hs : a.single = true) : v.oneCell' = true := by
  cases h with
  | t x _ h => exact h.one
  | ref _ _ h1 => exact h1
  | ptr _ _ _ h1 => exact h1
  | rptr _ _ _ _ h1 => exact h1
  | ob _ _ h1 => exact h1
  | fel => rfl
  | _ => simp [A.single] at hs
theorem RepA.ext {st st' : St} {L L' : Nat → Loc} {w w' : World} {M M' : Nat → Prop} {a : A} {v : Value} (h : RepA st L w M a v) (he : Ext M w w') (hM : ∀ b, b < w.heap.size → M' b → M b)
    (hu : ∀ id, st.used id = true → st'.used id = true)
    (hs : ∀ id, st.used id = true → ∀ b', st'.mem id = some b' → ∃ b, st.mem id = some b ∧ b.alike b' ∧ (L' id).like (L id)) : RepA st' L' w' M' a v := by
  induction h with
  | t x v h => exact .t x v (h.ext he hM)
  | agg cs vs hsz h1 hr ih => exact .agg cs vs hsz h1 fun i hi => ih i hi
  | tup cs vs hsz hr ih => exact .tup cs vs hsz fun i hi => ih i hi
  | ref id v h1 hus h =>
    refine .ref id v h1 (hu id hus) fun e k xs hm => ?_
    obtain ⟨b, hb, hal, hL⟩ := hs id hus _ hm
    cases b with
    | box => exact hal.elim
    | obj => exact hal.elim
    | row e' k' xs' =>
      have hl : xs'.length = xs.length := hal.2
      rw [hL.slice, ← hl]; exact h e' k' xs' hb
  | ptr id off v h1 hus h =>
    refine .ptr id off v h1 (hu id hus) fun ty cs hm => ?_
    obtain ⟨b, hb, hal, hL⟩ := hs id hus _ hm
    cases b with
    | box ty' cs' => rw [hL.ptr]; exact h ty' cs' hb
    | row => exact hal.elim
    | obj => exact hal.elim
  | rptr id i j v h1 hus h =>
    refine .rptr id i j v h1 (hu id hus) fun e k xs hm => ?_
    obtain ⟨b, hb, hal, hL⟩ := hs id hus _ hm
    cases b with
    | box => exact hal.elim
    | obj => exact hal.elim
    | row e' k' xs' => rw [hL.ptr, ← hal.1]; exact h e' k' xs' hb
  | ob id v h1 hus h =>
    refine .ob id v h1 (hu id hus) fun od hm => ?_
    obtain ⟨b, hb, hal, hL⟩ := hs id hus _ hm
    cases b with
    | box => exact hal.elim
    | row => exact hal.elim
    | obj od' =>
      have e : od'.isMap = od.isMap := hal
      rw [hL.ob, h od' hb]
      unfold Loc.ob
      rw [e]
  | fel cells b off c hb hm hc hr =>
    refine .fel cells b off c (Nat.lt_of_lt_of_le hb he.size) (fun h => hm (hM b hb h)) (fun j hj => ?_) fun j hj => (hr j hj).ext he hM
    rw [World.cell?_of_block (w := w) (he.block b hb hm)]
    exact hc j hj
  | dead v => exact .dead v
def RepB (st : St) (L : Nat → Loc) (w : World) (M : Nat → Prop) (id : Nat) : Blk → Prop
  | .box ty cells => ∃ b cs, (L id).blk = some b ∧ w.heap[b]? = some (.cells cs ty (0, 0)) ∧ ∃ hs : cs.size = cells.length, ∀ i (hi : i < cells.length), (cells[i]).single = true ∧ RepA st L w M (cells[i]) (cs[i]'(by omega))
  | .row e k xs => 0 < k ∧ (∀ i (hi : i < xs.length), (xs[i]).length = k) ∧ ((xs = [] ∧ L id = nol) ∨
      ∃ b cur, (L id).blk = some b ∧ w.heap[b]? = some (.cells cur e (0, 0)) ∧ xs.length ≤ (L id).cap ∧ (L id).cap ≤ maxLen ∧ cur.size = (L id).cap * k ∧
        ∀ i (hi : i < xs.length) j (hj : j < (xs[i]).length), ∃ c, cur[i * k + j]? = some c ∧ RepT w M (xs[i][j]) c)
  | .obj od => ∃ b o, (L id).blk = some b ∧ w.heap[b]? = some o ∧ RepO w M (L id).own b od o
theorem RepB.ext {st st' : St} {L L' : Nat → Loc} {w w' : World} {M M' : Nat → Prop} {id : Nat} {blk : Blk} (h : RepB st L w M id blk) (he : Ext M w w') (hM : ∀ b, b < w.heap.size → M' b → M b)
    (hu : ∀ id, st.used id = true → st'.used id = true)
    (hs : ∀ id, st.used id = true → ∀ b', st'.mem id = some b' → ∃ b, st.mem id = some b ∧ b.alike b' ∧ (L' id).like (L id))
    (hL : L' id = L id) (hblk : ∀ b, (L id).has b → w'.heap[b]? = w.heap[b]?) : RepB st' L' w' M' id blk := by
  cases blk with
  | box ty cells =>
    obtain ⟨b, cs, hb, hw, hsz, hr⟩ := h
    exact ⟨b, cs, by rw [hL]; exact hb, by rw [hblk b (.inl hb)]; exact hw, hsz, fun i hi => ⟨(hr i hi).1, (hr i hi).2.ext he hM hu hs⟩⟩
  | row e k xs =>
    obtain ⟨h0, hk, hr⟩ := h
    refine ⟨h0, hk, ?_⟩
    rcases hr with ⟨hx, hn⟩ | ⟨b, cur, hb, hw, hl, hm, hsz, hc⟩
    · exact .inl ⟨hx, by rw [hL]; exact hn⟩
    · refine .inr ⟨b, cur, by rw [hL]; exact hb, by rw [hblk b (.inl hb)]; exact hw, by rw [hL]; exact hl, by rw [hL]; exact hm, by rw [hL]; exact hsz, fun i hi j hj => ?_⟩
      obtain ⟨c, hc1, hc2⟩ := hc i hi j hj
      exact ⟨c, hc1, hc2.ext he hM⟩
  | obj od =>
    obtain ⟨b, o, hb, hw, hr⟩ := h
    exact ⟨b, o, by rw [hL]; exact hb, by rw [hblk b (.inl hb)]; exact hw, (by rw [hL]; exact hr.ext he hM (hblk b (.inl hb)) fun k hk => hblk k (.inr hk))⟩
structure Ctx where
  P : Program
  X : Nat → Prop
  M0 : Nat → Prop
  w0 : World
  pin : Nat → Option Nat
def Mut (C : Ctx) (st : St) (L : Nat → Loc) (b : Nat) : Prop := C.X b ∨ ∃ id, (st.mem id).isSome = true ∧ (L id).has b
structure SimL (C : Ctx) (st : St) (L : Nat → Loc) (a : Act) (w : World) : Prop where
  hn : a.tmps.size = st.n
  hd : a.defers = []
  env : ∀ t, RepA st L w (Mut C st L) (st.env t) (a.tmps.getD t undef)
  mem : ∀ id blk, st.mem id = some blk → st.used id = true ∧ RepB st L w (Mut C st L) id blk
  inj : ∀ i j b, (st.mem i).isSome = true → (st.mem j).isSome = true → (L i).has b → (L j).has b → i = j
  out : ∀ i b, (st.mem i).isSome = true → (L i).has b → ¬ C.X b ∧ b < w.heap.size ∧ (C.M0 b ∨ C.w0.heap.size ≤ b)
  old : ∀ b, C.X b → b < C.w0.heap.size
  os : w.os = C.w0.os
  tape : w.tape = C.w0.tape
  output : w.output = C.w0.output
  size : C.w0.heap.size ≤ w.heap.size
  block : ∀ b, b < C.w0.heap.size → ¬ C.M0 b → w.heap[b]? = C.w0.heap[b]?
  pinN : ∀ id b, C.pin id = some b → st.n ≤ id ∧ id < 1000
  pin : ∀ id b, C.pin id = some b → (st.mem id).isSome = true → (L id).blk = some b
def Sim (C : Ctx) (st : St) (a : Act) (w : World) : Prop := ∃ L, SimL C st L a w
theorem SimL.next0 {C : Ctx} {st : St} {L : Nat → Loc} {a : Act} {w : World} (h : SimL C st L a w) {st' : St} {L' : Nat → Loc} {a' : Act} {w' : World}
    (hnn : st'.n = st.n) (hn : a'.tmps.size = st'.n) (hd : a'.defers = [])
    (os : w'.os = w.os) (tape : w'.tape = w.tape) (output : w'.output = w.output) (size : w.heap.size ≤ w'.heap.size)
    (block : ∀ b, b < w.heap.size → ¬ (∃ id, (st.mem id).isSome = true ∧ (L id).has b) → w'.heap[b]? = w.heap[b]?)
    (used : ∀ id, st.used id = true → st'.used id = true)
    (shape : ∀ id, st.used id = true → ∀ b', st'.mem id = some b' → ∃ b, st.mem id = some b ∧ b.alike b' ∧ (L' id).like (L id))
    (from_ : ∀ id b, (st'.mem id).isSome = true → (L' id).has b → (w.heap.size ≤ b ∧ b < w'.heap.size) ∨ ∃ i, (st.mem i).isSome = true ∧ (L i).has b)
    (inj : ∀ i j b, (st'.mem i).isSome = true → (st'.mem j).isSome = true → (L' i).has b → (L' j).has b → i = j)
    (fr : ∀ id, (st'.mem id).isSome = true → st.used id = false → id < st.n ∨ 1000 ≤ id)
    (mem : ∀ id b', st'.mem id = some b' → st'.used id = true ∧ ((st.mem id = some b' ∧ L' id = L id ∧ ∀ b, (L id).has b → w'.heap[b]? = w.heap[b]?) ∨ RepB st' L' w' (Mut C st' L') id b'))
    (env : ∀ t, (st'.env t = st.env t ∧ a'.tmps.getD t undef = a.tmps.getD t undef) ∨ RepA st' L' w' (Mut C st' L') (st'.env t) (a'.tmps.getD t undef)) :
    SimL C st' L' a' w' := by
  have hM : ∀ b, b < w.heap.size → Mut C st' L' b → Mut C st L b := by
    rintro b hb (hx | ⟨id, hs, hl⟩)
    · exact .inl hx
    · rcases from_ id b hs hl with h1 | ⟨i, h1, h2⟩
      · omega
      · exact .inr ⟨i, h1, h2⟩
  have he : Ext (Mut C st L) w w' := ⟨size, fun k hk hm => block k hk fun hx => hm (.inr hx)⟩
  refine ⟨hn, hd, fun t => ?_, fun id b' hb' => ?_, inj, fun i b hi hl => ?_, h.old, os.trans h.os, tape.trans h.tape, output.trans h.output, Nat.le_trans h.size size, fun b hb hm => ?_, fun id b hp => by rw [hnn]; exact h.pinN id b hp, fun id b hp hs => ?_⟩
  · rcases env t with ⟨h1, h2⟩ | h1
    · rw [h1, h2]; exact (h.env t).ext he hM used shape
    · exact h1
  · obtain ⟨hu, h1⟩ := mem id b' hb'
    refine ⟨hu, ?_⟩
    rcases h1 with ⟨h1, h2, h3⟩ | h1
    · exact (h.mem id b' h1).2.ext he hM used shape h2 h3
    · exact h1
  · rcases from_ i b hi hl with h1 | ⟨q, h1, h2⟩
    · have hs := h.size
      exact ⟨fun hx => by have := h.old b hx; omega, h1.2, .inr (by omega)⟩
    · have := h.out q b h1 h2
      exact ⟨this.1, Nat.lt_of_lt_of_le this.2.1 size, this.2.2⟩
  · rw [block b (Nat.lt_of_lt_of_le hb h.size) ?_, h.block b hb hm]
    rintro ⟨id, hs, hl⟩
    rcases (h.out id b hs hl).2.2 with h1 | h1
    · exact hm h1
    · omega
  · have hpn := h.pinN id b hp
    by_cases hu : st.used id = true
    · obtain ⟨b', hb'⟩ := Option.isSome_iff_exists.1 hs
      obtain ⟨c, hc, _, hL⟩ := shape id hu _ hb'
      rw [hL.1]
      exact h.pin id b hp (by rw [hc]; rfl)
    · have := fr id hs (by simpa using hu)
      omega
theorem SimL.next {C : Ctx} {st : St} {L : Nat → Loc} {a : Act} {w : World} (h : SimL C st L a w) {st' : St} {L' : Nat → Loc} {a' : Act} {w' : World}
    (hnn : st'.n = st.n) (hn : a'.tmps.size = st'.n) (hd : a'.defers = [])
    (os : w'.os = w.os) (tape : w'.tape = w.tape) (output : w'.output = w.output) (size : w.heap.size ≤ w'.heap.size)
    (block : ∀ b, b < w.heap.size → ¬ (∃ id, (st.mem id).isSome = true ∧ (L id).has b) → w'.heap[b]? = w.heap[b]?)
    (used : ∀ id, st.used id = true → st'.used id = true)
    (shape : ∀ id, st.used id = true → ∀ b', st'.mem id = some b' → ∃ b, st.mem id = some b ∧ b.alike b' ∧ L' id = L id)
    (fresh : ∀ id, (st'.mem id).isSome = true → st.used id = false → ∀ b, (L' id).has b → (w.heap.size ≤ b ∧ b < w'.heap.size) ∨ ∃ i, (st.mem i).isSome = true ∧ (L i).has b ∧ st'.mem i = none)
    (fr : ∀ id, (st'.mem id).isSome = true → st.used id = false → id < st.n ∨ 1000 ≤ id)
    (apart : ∀ i j b, (st'.mem i).isSome = true → (st'.mem j).isSome = true → st.used i = false → st.used j = false → (L' i).has b → (L' j).has b → i = j)
    (mem : ∀ id b', st'.mem id = some b' → st'.used id = true ∧ ((st.mem id = some b' ∧ L' id = L id ∧ ∀ b, (L id).has b → w'.heap[b]? = w.heap[b]?) ∨ RepB st' L' w' (Mut C st' L') id b'))
    (env : ∀ t, (st'.env t = st.env t ∧ a'.tmps.getD t undef = a.tmps.getD t undef) ∨ RepA st' L' w' (Mut C st' L') (st'.env t) (a'.tmps.getD t undef)) :
    SimL C st' L' a' w' := by
  refine h.next0 hnn hn hd os tape output size block used (fun id hu b' hb' => ?_) (fun id b hs hl => ?_) (fun i j b hi hj hli hlj => ?_) fr mem env
  · obtain ⟨b, h1, h2, h3⟩ := shape id hu b' hb'
    exact ⟨b, h1, h2, Loc.like.of h3⟩
  · by_cases hu : st.used id = true
    · obtain ⟨blk', hb'⟩ := Option.isSome_iff_exists.1 hs
      obtain ⟨blk, hbk, _, hL⟩ := shape id hu _ hb'
      exact .inr ⟨id, by rw [hbk]; rfl, by rw [← hL]; exact hl⟩
    · rcases fresh id hs (by simpa using hu) b hl with h1 | ⟨i, h1, h2, _⟩
      · exact .inl h1
      · exact .inr ⟨i, h1, h2⟩
  · by_cases hui : st.used i = true
    · obtain ⟨bi, hbi⟩ := Option.isSome_iff_exists.1 hi
      obtain ⟨ci, hci, _, hLi⟩ := shape i hui _ hbi
      have hi' : (st.mem i).isSome = true := by rw [hci]; rfl
      rw [hLi] at hli
      have hlt := (h.out i b hi' hli).2.1
      by_cases huj : st.used j = true
      · obtain ⟨bj, hbj⟩ := Option.isSome_iff_exists.1 hj
        obtain ⟨cj, hcj, _, hLj⟩ := shape j huj _ hbj
        rw [hLj] at hlj
        exact h.inj i j b hi' (by rw [hcj]; rfl) hli hlj
      · rcases fresh j hj (by simpa using huj) b hlj with h1 | ⟨q, h1, h2, h3⟩
        · omega
        · have := h.inj i q b hi' h1 hli h2
          subst this
          rw [h3] at hi; cases hi
    · by_cases huj : st.used j = true
      · obtain ⟨bj, hbj⟩ := Option.isSome_iff_exists.1 hj
        obtain ⟨cj, hcj, _, hLj⟩ := shape j huj _ hbj
        have hj' : (st.mem j).isSome = true := by rw [hcj]; rfl
        rw [hLj] at hlj
        have hlt := (h.out j b hj' hlj).2.1
        rcases fresh i hi (by simpa using hui) b hli with h1 | ⟨q, h1, h2, h3⟩
        · omega
        · have := h.inj j q b hj' h1 hlj h2
          subst this
          rw [h3] at hj; cases hj
      · exact apart i j b hi hj (by simpa using hui) (by simpa using huj) hli hlj
end Go.Proofs.Ytmffhifkdbfbfaa
namespace Go.Proofs.Ytmffhifkdbfbfaa
open Go.RowKit
set_option linter.unusedVariables false
structure TI where
  size : Nat
  bytes : Nat
  agg : Bool
  zero : List Value
  elem : Option TypeId
  int : Option IntKind
  fs : List (Nat × Nat × Bool)
def isRowB : Option TypeDesc → Bool
  | some (.struct _) | some (.array _ _) => true
  | _ => false
def fieldsOf (P : Program) (d : TypeDesc) : Option (List (Nat × Nat × Bool)) :=
  match d with
  | .struct fields => fields.toList.mapM fun f => match P.info? f.type, P.underlying f.type with | some i, some d => some (f.offset, i.size, isRowB (some d)) | _, _ => none
  | _ => some []
def tinfo (P : Program) (t : TypeId) : Option TI :=
  match P.info? t, P.underlying t with
  | some i, some d =>
    match i.zero, fieldsOf P d with
    | some z, some fs =>
      if z.cells.toList.all (·.oneCell') && z.cells.size == i.size then
        some { size := i.size, bytes := i.bytes, agg := isRowB (some d), zero := z.cells.toList,
               elem := match d with | .slice e => some e | _ => none,
               int := match d with | .int k => some k | _ => none,
               fs := fs }
      else none
    | _, _ => none
  | _, _ => none
inductive Kd where
  | str | bool | ptr | slice | int | strct | other
def kindOf : TypeDesc → Kd
  | .string => .str | .bool => .bool | .pointer _ => .ptr | .slice _ => .slice | .int _ => .int | .struct _ => .strct | _ => .other
def tkind (P : Program) (t : TypeId) : Kd := match P.underlying t with | some d => kindOf d | none => .other
def constA (v : Value) : A := if v.oneCell' then .v v else .dead
def St.ev (st : St) : Operand → A
  | .tmp t => st.env t
  | .const v => constA v
  | .global g => .v (.pointer (some ⟨g, 0, none⟩))
  | .func f => .v (.func (.func f) #[] #[])
def St.put (st : St) (d : Option Nat) (a : A) : St := match d with | some d => { st with env := upd st.env d a } | none => st
def St.new (st : St) (id : Nat) (b : Blk) : St := { st with mem := upd st.mem id (some b), used := upd st.used id true }
def St.setm (st : St) (id : Nat) (b : Blk) : St := { st with mem := upd st.mem id (some b) }
def St.del (st : St) (id : Nat) : St := { st with mem := upd st.mem id none }
def pickA (t : Bool) (a b : A) : A := match t with | true => a | false => b
def cellsOf : A → Option (List A)
  | .agg cs => some cs
  | .tup _ | .dead => none
  | a => some [a]
def takeCells (cells : List A) (off size : Nat) (agg : Bool) : Option A :=
  if agg then (if off + size ≤ cells.length then some (.agg ((cells.drop off).take size)) else none) else cells[off]?
def peek (st : St) (a : A) (ti : TI) : Option A :=
  match a with
  | .ptr id off => match st.mem id with | some (.box _ cells) => takeCells cells off ti.size ti.agg | _ => none
  | .rptr id i j => match st.mem id with | some (.row _ _ xs) => (xs[i]?).bind fun el => takeCells ((el.drop j).map .t) 0 ti.size ti.agg | _ => none
  | .fel el => takeCells (el.map .t) 0 ti.size ti.agg
  | .t (.fp el) => takeCells (el.map .t) 0 ti.size ti.agg
  | _ => none
def asList (st : St) : A → Option (Nat × List (List T))
  | .t (.sl k xs) => some (k, xs)
  | .t (.v (.slice none 0 0)) => some (0, [])
  | .ref id => match st.mem id with | some (.row _ k xs) => some (k, xs) | _ => none
  | _ => none
def fillA (fs : List (Nat × Nat × Bool)) (cells : List A) : List (Nat × A) → Option (List A)
  | [] => some cells
  | (i, a) :: rest =>
    match fs[i]?, cellsOf a with
    | some (off, size, _), some cs => if cs.length = size ∧ off + size ≤ cells.length then fillA fs (cells.take off ++ cs ++ cells.drop (off + size)) rest else none
    | _, _ => none
def semPure : Sem Value → Option Value
  | .pure v => some v
  | _ => none
def binF (P : Program) (op : BinOp) (ty : TypeId) : Value → Value → Option Value
  | .int k a, .int k' b => semPure (binOp op ty (.int k a) (.int k' b))
  | .string a, .string b => semPure (Op.stringOp op a b)
  | .bool a, .bool b =>
    match tkind P ty with
    | .bool => match op with | .eql => some (.bool (a == b)) | .neq => some (.bool (!(a == b))) | _ => none
    | _ => none
  | _, _ => none
def isPtr (st : St) : A → Bool
  | .ptr id _ => match st.mem id with | some (.box _ _) => true | _ => false
  | .fel _ => true
  | .t (.fp _) => true
  | .rptr id i j => match st.mem id with | some (.row _ _ xs) => decide (i < xs.length) | _ => false
  | .ob id => match st.mem id with | some (.obj (.any _)) => true | _ => false
  | _ => false
def nilCmp (P : Program) (op : BinOp) (ty : TypeId) : Option Value :=
  match tkind P ty with
  | .ptr => (match op with | .eql => some (.bool false) | .neq => some (.bool true) | _ => none)
  | _ => none
def binB (P : Program) (isp : Bool) (op : BinOp) (ty : TypeId) (x y : A) : Option Value :=
  match y with
  | .t (.v (.pointer none)) => (match x with
    | .t (.v (.pointer none)) => (match tkind P ty with | .ptr => (match op with | .eql => some (.bool true) | .neq => some (.bool false) | _ => none) | _ => none)
    | _ => if isp then nilCmp P op ty else none)
  | .t (.v y) => (match x with | .t (.v x) => binF P op ty x y | _ => none)
  | _ => none
def binA (P : Program) (st : St) (op : BinOp) (ty : TypeId) (x y : A) : Option Value := binB P (isPtr st x) op ty x y
def unF (op : UnOp) (x : Value) : Option Value := semPure (Op.unary op x)
def convA (P : Program) (src dst : TypeId) : A → Option A
  | .t (.v (.int k n)) => ((tinfo P dst).bind (·.int)).map fun k' => .v (.int k' (k'.wrap n))
  | .t (.v (.string s)) => match tkind P dst with | .str => some (.v (.string s)) | _ => none
  | _ => none
def subA (ti : TI) (a : A) (f : Nat) : Option A :=
  match ti.fs[f]?, a with
  | some (off, size, agg), .agg cs => takeCells cs off size agg
  | _, _ => none
def fieldA (ti : TI) (a : A) (f : Nat) : Option A :=
  match ti.fs[f]? with
  | some (off, size, _) =>
    if size = 0 then none else
    match a with
    | .ptr id o => some (.ptr id (o + off))
    | .fel el => some (.fel (el.drop off))
    | .t (.fp el) => some (.t (.fp (el.drop off)))
    | .rptr id i j => some (.rptr id i (j + off))
    | _ => none
  | none => none
def lenA (P : Program) (st : St) (ty : TypeId) (a : A) : Option Value :=
  match tkind P ty, a with
  | .str, .t (.v (.string s)) => some (.int .i64 s.size)
  | .slice, a => (asList st a).map fun p => .int .i64 p.2.length
  | _, _ => none
def cellT : A → Option T
  | .t x => some x
  | _ => none
def cellsT : List A → Option (List T)
  | [] => some []
  | a :: l => match cellT a, cellsT l with | some x, some l => some (x :: l) | _, _ => none
def partsT (size : Nat) : Nat → List (Nat × A) → Option (List (List T))
  | _, [] => some []
  | i, (j, a) :: rest =>
    if j = i then match cellsOf a with
      | some cs => match cellsT cs with
        | some l => if l.length = size then match partsT size (i + 1) rest with | some r => some (l :: r) | none => none else none
        | none => none
      | none => none
    else none
def arg1 (st : St) : A → A
  | .ref id => match st.mem id with | some (.row _ k xs) => .t (.sl k xs) | _ => .ref id
  | a => a
def arg2 (st : St) : A → A
  | .agg cs => .agg (cs.map (arg1 st))
  | a => arg1 st a
def flat1 : A → Bool
  | .t _ => true
  | _ => false
def flat2 : A → Bool
  | .agg cs => cs.all flat1
  | a => flat1 a
def scal1 : A → Bool
  | .t (.v _) => true
  | _ => false
def scal2 : A → Bool
  | .agg cs => cs.all scal1
  | a => scal1 a
def scal3 : A → Bool
  | .tup cs => cs.all scal2
  | a => scal2 a
def refs1 : A → List Nat
  | .ref id => [id]
  | _ => []
def refs2 : A → List Nat
  | .agg cs => cs.flatMap refs1
  | a => refs1 a
def sub1 (id : Nat) (x : T) : A → A
  | .ref i => if i = id then (match x with | .sl _ _ => .t x | _ => .ref i) else .ref i
  | .ptr i o => if i = id then (match x with | .fp cells => .t (.fp (cells.drop o)) | _ => .ptr i o) else .ptr i o
  | a => a
def sub2 (id : Nat) (x : T) : A → A
  | .agg cs => .agg (cs.map (sub1 id x))
  | a => sub1 id x a
def sub3 (id : Nat) (x : T) : A → A
  | .tup cs => .tup (cs.map (sub2 id x))
  | a => sub2 id x a
def Blk.sub (id : Nat) (x : T) : Blk → Blk
  | .box ty cells => .box ty (cells.map (sub1 id x))
  | b => b
def St.sub (st : St) (id : Nat) (x : T) : St := { st with env := fun t => sub3 id x (st.env t), mem := fun i => if i = id then none else (st.mem i).map (Blk.sub id x) }
def St.frz (st : St) (id : Nat) : St :=
  match st.mem id with
  | some (.row _ k xs) => st.sub id (.sl k xs)
  | some (.box _ cs) => (match cellsT cs with | some ts => st.sub id (.fp ts) | none => st)
  | _ => st
def St.frzs (st : St) : List Nat → St
  | [] => st
  | id :: l => (st.frz id).frzs l
def RepF (w : World) (M : Nat → Prop) (a : A) (v : Value) : Prop := RepA ⟨0, fun _ => .dead, fun _ => none, fun _ => false⟩ (fun _ => nol) w M a v
def plainFn (P : Program) (f : FuncId) : Bool :=
  match P.funcs[f]? with
  | some fn => fn.body.isSome && !(fn.name == "runtime.NumGoroutine")
  | none => false
def FnP (P : Program) (f : FuncId) (args : List A) (r : A) : Prop :=
  plainFn P f = true ∧ ∀ (w : World) (X : Nat → Prop) (vals : Array Value), (∀ b, X b → b < w.heap.size) → vals.size = args.length → (∀ i (hi : i < args.length), RepF w X (args[i]) (vals.getD i undef)) →
    Calls P f vals w fun e w' => ∃ v, e = .returned v ∧ Below w.heap.size w w' ∧ RepF w' X r v
def FnC (P : Program) (x : T) (args : List A) (r : A) : Prop :=
  (∃ f caps, x = .clo f caps ∧ FnP P f (args ++ caps.map fun c => .t (.fp c)) r) ∨ ∃ f, x = .v (.func (.func f) #[] #[]) ∧ FnP P f args r
end Go.Proofs.Ytmffhifkdbfbfaa
namespace Go.Proofs.Ytmffhifkdbfbfaa
open Go.RowKit
set_option linter.unusedVariables false
variable {C : Ctx} {st st' : St} {L L' : Nat → Loc} {a : Act} {w : World}
theorem shape_refl (st : St) (L : Nat → Loc) : ∀ id, st.used id = true → ∀ b', st.mem id = some b' → ∃ b, st.mem id = some b ∧ b.alike b' ∧ L id = L id := fun id _ b' h => ⟨b', h, b'.alike_refl, rfl⟩
theorem shape_like (st : St) (L : Nat → Loc) : ∀ id, st.used id = true → ∀ b', st.mem id = some b' → ∃ b, st.mem id = some b ∧ b.alike b' ∧ (L id).like (L id) := fun id _ b' h => ⟨b', h, b'.alike_refl, Loc.like_refl _⟩
theorem RepA.same {w : World} {M : Nat → Prop} {x : A} {v : Value} (h : RepA st L w M x v) (hm : st'.mem = st.mem) (hu : st'.used = st.used) : RepA st' L w M x v :=
  h.ext (Ext.refl M w) (fun _ _ h => h) (fun id h => by rw [hu]; exact h) (fun id _ b' h => ⟨b', by rw [← hm]; exact h, b'.alike_refl, Loc.like_refl _⟩)
theorem ev_rep (h : SimL C st L a w) (x : Operand) : RepA st L w (Mut C st L) (st.ev x) (a.eval x) := by
  cases x with
  | tmp t => exact h.env t
  | const v =>
    show RepA st L w _ (constA v) v
    unfold constA
    split
    · exact .t _ _ (.v v (by assumption))
    · exact .dead v
  | global g => exact .t _ _ (.v _ rfl)
  | func f => exact .t _ _ (.v _ rfl)
theorem put_getD (a : Act) (d t : Nat) (v : Value) (hd : d < a.tmps.size) : (a.put (some d) v).tmps.getD t undef = if t = d then v else a.tmps.getD t undef := by
  simp only [Act.put, Array.getD_eq_getD_getElem?, Array.getElem?_setIfInBounds]
  by_cases h : t = d
  · subst h; simp [hd]
  · rw [if_neg (fun e => h e.symm), if_neg h]
theorem put_size (a : Act) (d : Option Nat) (v : Value) : (a.put d v).tmps.size = a.tmps.size := by cases d <;> simp [Act.put]
theorem put_defers (a : Act) (d : Option Nat) (v : Value) : (a.put d v).defers = a.defers := by cases d <;> rfl
theorem put_env (st : St) (a : Act) (d : Option Nat) (hd : ∀ x, d = some x → x < a.tmps.size) (av : A) (v : Value) (t : Nat) :
    ((st.put d av).env t = st.env t ∧ (a.put d v).tmps.getD t undef = a.tmps.getD t undef) ∨ ((st.put d av).env t = av ∧ (a.put d v).tmps.getD t undef = v) := by
  cases d with
  | none => exact .inl ⟨rfl, rfl⟩
  | some d =>
    rw [put_getD a d t v (hd d rfl)]
    by_cases h : t = d
    · right; subst h; simp [St.put, upd]
    · left; simp [St.put, upd, h]
@[simp] theorem put_mem (st : St) (d : Option Nat) (x : A) : (st.put d x).mem = st.mem := by cases d <;> rfl
@[simp] theorem put_used (st : St) (d : Option Nat) (x : A) : (st.put d x).used = st.used := by cases d <;> rfl
@[simp] theorem put_n (st : St) (d : Option Nat) (x : A) : (st.put d x).n = st.n := by cases d <;> rfl
theorem SimL.put' (h : SimL C st L a w) (d : Option Nat) (hd : ∀ x, d = some x → x < st.n) {av : A} {v : Value} (hr : RepA st L w (Mut C st L) av v) {w' : World} (hh : w'.heap = w.heap) (ho : w'.os = w.os) (ht : w'.tape = w.tape) (hu : w'.output = w.output) :
    SimL C (st.put d av) L (a.put d v) w' := by
  have hM : Mut C (st.put d av) L = Mut C st L := by unfold Mut; simp
  refine h.next (by simp) (by rw [put_size, put_n]; exact h.hn) (by rw [put_defers]; exact h.hd) ho ht hu (by rw [hh]; exact Nat.le_refl _) (fun b _ _ => by rw [hh]) (fun id hi => by simpa using hi) (fun id hi b' hb => ⟨b', by simpa using hb, b'.alike_refl, rfl⟩)
    (fun id hs hf b hl => ?_) (fun id hs hf => ?_) (fun i j b hi hj hfi hfj => ?_) (fun id b' hb => ⟨by simpa using (h.mem id b' (by simpa using hb)).1, .inl ⟨by simpa using hb, rfl, fun b _ => by rw [hh]⟩⟩) (fun t => ?_)
  · obtain ⟨x, hx⟩ := Option.isSome_iff_exists.1 hs
    have := (h.mem id x (by simpa using hx)).1
    rw [hf] at this; cases this
  · obtain ⟨x, hx⟩ := Option.isSome_iff_exists.1 hs
    have := (h.mem id x (by simpa using hx)).1
    rw [hf] at this; cases this
  · obtain ⟨x, hx⟩ := Option.isSome_iff_exists.1 hi
    have := (h.mem i x (by simpa using hx)).1
    rw [hfi] at this; cases this
  · rcases put_env st a d (fun x hx => by rw [h.hn]; exact hd x hx) av v t with h1 | ⟨h1, h2⟩
    · exact .inl h1
    · right
      rw [h1, h2, hM]
      refine hr.ext ⟨by rw [hh]; exact Nat.le_refl _, fun k _ _ => by rw [hh]⟩ (fun _ _ h => h) (fun id hi => by simpa using hi) (fun id hi b' hb => ⟨b', by simpa using hb, b'.alike_refl, Loc.like_refl _⟩)
theorem SimL.put (h : SimL C st L a w) (d : Option Nat) (hd : ∀ x, d = some x → x < st.n) {av : A} {v : Value} (hr : RepA st L w (Mut C st L) av v) : SimL C (st.put d av) L (a.put d v) w :=
  h.put' d hd hr rfl rfl rfl rfl
theorem SimL.new (h : SimL C st L a w) (id : Nat) (hid : id < st.n ∨ 1000 ≤ id) (hu : st.used id = false) (blk : Blk) (loc : Loc) {w' : World} (os : w'.os = w.os) (tape : w'.tape = w.tape) (output : w'.output = w.output) (size : w.heap.size ≤ w'.heap.size)
    (block : ∀ b, b < w.heap.size → w'.heap[b]? = w.heap[b]?) (hl : ∀ b, loc.has b → w.heap.size ≤ b ∧ b < w'.heap.size)
    (hb : (∀ M : Nat → Prop, (∀ b, b < w.heap.size → M b → Mut C st L b) → RepB (st.new id blk) (upd L id loc) w' M id blk)) : SimL C (st.new id blk) (upd L id loc) a w' := by
  have hne : ∀ i, st.used i = true → i ≠ id := fun i hi e => by rw [e, hu] at hi; cases hi
  have hmu : ∀ i b, st.mem i = some b → i ≠ id := fun i b hi => hne i (h.mem i b hi).1
  have hM : ∀ b, b < w.heap.size → Mut C (st.new id blk) (upd L id loc) b → Mut C st L b := by
    rintro b hb (hx | ⟨i, hs, hli⟩)
    · exact .inl hx
    · by_cases e : i = id
      · subst e
        rw [upd_same] at hli
        have := hl b hli
        omega
      · rw [upd_other _ _ _ _ e] at hli
        refine .inr ⟨i, ?_, hli⟩
        simpa [St.new, upd, e] using hs
  refine h.next rfl h.hn h.hd os tape output size (fun b hb _ => block b hb) (fun i hi => by simp [St.new, upd, hi]) (fun i hi b' hb' => ?_) (fun i hs hf b hli => ?_) (fun i hs hf => ?_) (fun i j b hi hj hfi hfj _ _ => ?_) (fun i b' hb' => ?_) (fun t => .inl ⟨rfl, rfl⟩)
  · have e := hne i hi
    refine ⟨b', by simpa [St.new, upd, e] using hb', b'.alike_refl, upd_other _ _ _ _ e⟩
  · by_cases e : i = id
    · subst e; rw [upd_same] at hli; exact .inl (hl b hli)
    · obtain ⟨x, hx⟩ := Option.isSome_iff_exists.1 hs
      have hx' : st.mem i = some x := by simpa [St.new, upd, e] using hx
      have := (h.mem i x hx').1
      rw [hf] at this; cases this
  · by_cases e : i = id
    · subst e; exact hid
    · obtain ⟨x, hx⟩ := Option.isSome_iff_exists.1 hs
      have hx' : st.mem i = some x := by simpa [St.new, upd, e] using hx
      have := (h.mem i x hx').1
      rw [hf] at this; cases this
  · have key : ∀ i, ((st.new id blk).mem i).isSome = true → st.used i = false → i = id := fun i hi hf => by
      by_cases e : i = id
      · exact e
      · obtain ⟨x, hx⟩ := Option.isSome_iff_exists.1 hi
        have := (h.mem i x (by simpa [St.new, upd, e] using hx)).1
        rw [hf] at this; cases this
    rw [key i hi hfi, key j hj hfj]
  · by_cases e : i = id
    · subst e
      have : b' = blk := by simpa [St.new, upd] using hb'.symm
      subst this
      exact ⟨by simp [St.new, upd], .inr (hb _ hM)⟩
    · have hx : st.mem i = some b' := by simpa [St.new, upd, e] using hb'
      exact ⟨by simp [St.new, upd, (h.mem i b' hx).1], .inl ⟨hx, upd_other _ _ _ _ e, fun b hlb => block b (h.out i b (by rw [hx]; rfl) hlb).2.1⟩⟩
theorem SimL.later (h : SimL C st L a w) {w' : World} (os : w'.os = w.os) (tape : w'.tape = w.tape) (output : w'.output = w.output) (size : w.heap.size ≤ w'.heap.size)
    (block : ∀ b, b < w.heap.size → w'.heap[b]? = w.heap[b]?) : SimL C st L a w' := by
  refine h.next rfl h.hn h.hd os tape output size (fun b hb _ => block b hb) (fun i hi => hi) (shape_refl st L) (fun i hs hf b hl => ?_) (fun i hs hf => ?_) (fun i j b hi hj hfi hfj _ _ => ?_) (fun i b' hb' => ⟨(h.mem i b' hb').1, .inl ⟨hb', rfl, fun b hl => block b (h.out i b (by rw [hb']; rfl) hl).2.1⟩⟩) (fun t => .inl ⟨rfl, rfl⟩)
  · obtain ⟨x, hx⟩ := Option.isSome_iff_exists.1 hs
    have := (h.mem i x hx).1
    rw [hf] at this; cases this
  · obtain ⟨x, hx⟩ := Option.isSome_iff_exists.1 hs
    have := (h.mem i x hx).1
    rw [hf] at this; cases this
  · obtain ⟨x, hx⟩ := Option.isSome_iff_exists.1 hi
    have := (h.mem i x hx).1
    rw [hfi] at this; cases this
theorem SimL.setm (h : SimL C st L a w) (id : Nat) (old blk : Blk) (ho : st.mem id = some old) (hal : old.alike blk) (g : Nat) (hg : (L id).blk = some g) {cs : Array Value}
    (hb : RepB (st.setm id blk) L (w.setRow g cs) (Mut C st L) id blk) : SimL C (st.setm id blk) L a (w.setRow g cs) := by
  have hM : ∀ b, Mut C (st.setm id blk) L b → Mut C st L b := by
    rintro b (hx | ⟨i, hs, hli⟩)
    · exact .inl hx
    · refine .inr ⟨i, ?_, hli⟩
      by_cases e : i = id
      · subst e; rw [ho]; rfl
      · simpa [St.setm, upd, e] using hs
  have hM' : ∀ b, Mut C st L b → Mut C (st.setm id blk) L b := by
    rintro b (hx | ⟨i, hs, hli⟩)
    · exact .inl hx
    · refine .inr ⟨i, ?_, hli⟩
      by_cases e : i = id
      · subst e; simp [St.setm, upd]
      · simpa [St.setm, upd, e] using hs
  refine h.next rfl h.hn h.hd rfl rfl rfl (by simp) (fun b hb hm => setRow_other w g b cs fun e => hm ⟨id, by rw [ho]; rfl, by rw [e]; exact .inl hg⟩) (fun i hi => hi) (fun i hi b' hb' => ?_) (fun i hs hf b hl => ?_) (fun i hs hf => ?_) (fun i j b hi hj hfi hfj _ _ => ?_) (fun i b' hb' => ?_) (fun t => .inl ⟨rfl, rfl⟩)
  · by_cases e : i = id
    · subst e
      have : b' = blk := by simpa [St.setm, upd] using hb'.symm
      subst this
      exact ⟨old, ho, hal, rfl⟩
    · exact ⟨b', by simpa [St.setm, upd, e] using hb', b'.alike_refl, rfl⟩
  · have hx : ∃ x, st.mem i = some x := by
      by_cases e : i = id
      · exact ⟨old, by rw [e]; exact ho⟩
      · exact Option.isSome_iff_exists.1 (by simpa [St.setm, upd, e] using hs)
    obtain ⟨x, hx⟩ := hx
    have := (h.mem i x hx).1
    rw [hf] at this; cases this
  · have hx : ∃ x, st.mem i = some x := by
      by_cases e : i = id
      · exact ⟨old, by rw [e]; exact ho⟩
      · exact Option.isSome_iff_exists.1 (by simpa [St.setm, upd, e] using hs)
    obtain ⟨x, hx⟩ := hx
    have := (h.mem i x hx).1
    rw [hf] at this; cases this
  · have hx : ∃ x, st.mem i = some x := by
      by_cases e : i = id
      · exact ⟨old, by rw [e]; exact ho⟩
      · exact Option.isSome_iff_exists.1 (by simpa [St.setm, upd, e] using hi)
    obtain ⟨x, hx⟩ := hx
    have := (h.mem i x hx).1
    rw [hfi] at this; cases this
  · by_cases e : i = id
    · subst e
      have : b' = blk := by simpa [St.setm, upd] using hb'.symm
      subst this
      refine ⟨(h.mem i old ho).1, .inr ?_⟩
      exact hb.ext (Ext.refl _ _) (fun b _ h => hM b h) (fun i h => h) (shape_like _ L) rfl (fun _ _ => rfl)
    · have hx : st.mem i = some b' := by simpa [St.setm, upd, e] using hb'
      refine ⟨(h.mem i b' hx).1, .inl ⟨hx, rfl, fun b hl => setRow_other w g b cs fun eb => ?_⟩⟩
      subst eb
      exact e (h.inj i id b (by rw [hx]; rfl) (by rw [ho]; rfl) hl (.inl hg))
end Go.Proofs.Ytmffhifkdbfbfaa
namespace Go.Proofs.Ytmffhifkdbfbfaa
open Go.RowKit
set_option linter.unusedVariables false
variable {C : Ctx} {st st' : St} {L L' : Nat → Loc} {a : Act} {w : World}
theorem row_rep {M M' : Nat → Prop} {id : Nat} {e : TypeId} {k : Nat} {xs : List (List T)} (h : RepB st L w M id (.row e k xs)) (hlt : ∀ b, (L id).blk = some b → b < w.heap.size ∧ ¬ M' b) (hM : ∀ b, b < w.heap.size → M' b → M b) :
    RepT w M' (.sl k xs) ((L id).slice xs.length) := by
  obtain ⟨h0, hk, hr⟩ := h
  rcases hr with ⟨hx, hn⟩ | ⟨b, cur, hb, hw, hl, hm, hsz, hc⟩
  · subst hx; rw [hn]; exact .nil k none 0 (Nat.zero_le _)
  · have e : (L id).slice xs.length = .slice (some ⟨b, 0, none⟩) xs.length (L id).cap := by simp [Loc.slice, hb]
    rw [e]
    refine .sl k xs b 0 (L id).cap (fun i j => (cur[i * k + j]?).getD undef) (hlt b hb).1 (hlt b hb).2 hl hm hk (fun i hi j hj => ?_) (fun i hi j hj => ?_)
    · obtain ⟨c, hc1, hc2⟩ := hc i hi j (by rw [hk i hi]; exact hj)
      rw [Nat.zero_add, cell_of_row w b (i * k + j) cur _ _ hw, hc1]
      rfl
    · obtain ⟨c, hc1, hc2⟩ := hc i hi j hj
      show RepT w M' _ ((cur[i * k + j]?).getD undef)
      rw [hc1]
      exact hc2.ext (Ext.refl _ _) hM
theorem frz_row {id : Nat} {e : TypeId} {k : Nat} {xs : List (List T)} (h : st.mem id = some (.row e k xs)) : st.frz id = st.sub id (.sl k xs) := by
  unfold St.frz; rw [h]
theorem frz_obj {id : Nat} {od : Od} (h : st.mem id = some (.obj od)) : st.frz id = st := by
  unfold St.frz; rw [h]
theorem frz_box {id : Nat} {ty : TypeId} {cs : List A} {ts : List T} (h : st.mem id = some (.box ty cs)) (hc : cellsT cs = some ts) : st.frz id = st.sub id (.fp ts) := by
  unfold St.frz; rw [h]; simp only; rw [hc]
@[simp] theorem frz_n (st : St) (id : Nat) : (st.frz id).n = st.n := by
  unfold St.frz; split
  · rfl
  · split <;> rfl
  · rfl
@[simp] theorem frz_used (st : St) (id : Nat) : (st.frz id).used = st.used := by
  unfold St.frz; split
  · rfl
  · split <;> rfl
  · rfl
@[simp] theorem frzs_n (l : List Nat) : ∀ st : St, (st.frzs l).n = st.n := by
  induction l with
  | nil => intro st; rfl
  | cons i l ih => intro st; rw [St.frzs, ih, frz_n]
@[simp] theorem frzs_used (l : List Nat) : ∀ st : St, (st.frzs l).used = st.used := by
  induction l with
  | nil => intro st; rfl
  | cons i l ih => intro st; rw [St.frzs, ih, frz_used]
theorem sub1_single (id : Nat) (x : T) (y : A) (h : y.single = true) : (sub1 id x y).single = true := by
  cases y with
  | ref i => unfold sub1; dsimp only; split <;> (try split) <;> rfl
  | ptr i o => unfold sub1; dsimp only; split <;> (try split) <;> rfl
  | _ => exact h
theorem Blk.sub_alike (id : Nat) (x : T) (b : Blk) : b.alike (b.sub id x) := by cases b <;> simp [Blk.alike, Blk.sub]
structure SubOk (st : St) (L : Nat → Loc) (w : World) (M' : Nat → Prop) (id : Nat) (x : T) : Prop where
  row : ∀ k xs, x = .sl k xs → ∃ e, st.mem id = some (.row e k xs) ∧ RepT w M' x ((L id).slice xs.length)
  box : ∀ cells, x = .fp cells → ∃ ty cs, st.mem id = some (.box ty cs) ∧ ∀ o, RepT w M' (.fp (cells.drop o)) ((L id).ptr o)
section frz
variable {M M' : Nat → Prop} {id : Nat} {x : T}
theorem RepA.sub1 (hx : SubOk st L w M' id x)
    (hM : ∀ b, b < w.heap.size → M' b → M b) (hu : st'.used = st.used) (hs : ∀ i b', st'.mem i = some b' → ∃ b, st.mem i = some b ∧ b.alike b') {y : A} {v : Value} (h : RepA st L w M y v) : RepA st' L w M' (sub1 id x y) v := by
  have go : RepA st' L w M' y v := h.ext (Ext.refl _ _) hM (fun i hi => by rw [hu]; exact hi) (fun i _ b' hb => by obtain ⟨b, h1, h2⟩ := hs i b' hb; exact ⟨b, h1, h2, Loc.like_refl _⟩)
  cases y with
  | ref i =>
    unfold Go.Proofs.Ytmffhifkdbfbfaa.sub1
    dsimp only
    by_cases hi : i = id
    · subst hi
      rw [if_pos rfl]
      split
      · rename_i k xs
        obtain ⟨e, hm, hr⟩ := hx.row k xs rfl
        cases h with
        | ref _ _ h1 hus h => exact .t _ _ (by rw [h e k xs hm]; exact hr)
      · exact go
    · rw [if_neg hi]; exact go
  | ptr i o =>
    unfold Go.Proofs.Ytmffhifkdbfbfaa.sub1
    dsimp only
    by_cases hi : i = id
    · subst hi
      rw [if_pos rfl]
      split
      · rename_i cells
        obtain ⟨ty, cs, hm, hr⟩ := hx.box cells rfl
        cases h with
        | ptr _ _ _ h1 hus h => exact .t _ _ (by rw [h ty cs hm]; exact hr o)
      · exact go
    · rw [if_neg hi]; exact go
  | _ => exact go
theorem RepA.sub2 (hx : SubOk st L w M' id x)
    (hM : ∀ b, b < w.heap.size → M' b → M b) (hu : st'.used = st.used) (hs : ∀ i b', st'.mem i = some b' → ∃ b, st.mem i = some b ∧ b.alike b') {y : A} {v : Value} (h : RepA st L w M y v) : RepA st' L w M' (sub2 id x y) v := by
  cases y with
  | agg cs =>
    cases h with
    | agg _ vs hsz h1 hr =>
      refine .agg _ vs (by simpa using hsz) (fun i hi => ?_) (fun i hi => ?_)
      · rw [List.getElem_map]; exact sub1_single _ _ _ (h1 i (by simpa using hi))
      · simp only [List.getElem_map]; exact (hr i (by simpa using hi)).sub1 hx hM hu hs
  | _ => exact h.sub1 hx hM hu hs
theorem RepA.sub3 (hx : SubOk st L w M' id x)
    (hM : ∀ b, b < w.heap.size → M' b → M b) (hu : st'.used = st.used) (hs : ∀ i b', st'.mem i = some b' → ∃ b, st.mem i = some b ∧ b.alike b') {y : A} {v : Value} (h : RepA st L w M y v) : RepA st' L w M' (sub3 id x y) v := by
  cases y with
  | tup cs =>
    cases h with
    | tup _ vs hsz hr =>
      refine .tup _ vs (by simpa using hsz) (fun i hi => ?_)
      simp only [List.getElem_map]; exact (hr i (by simpa using hi)).sub2 hx hM hu hs
  | _ => exact h.sub2 hx hM hu hs
end frz
theorem cellsT_all : ∀ {cs : List A} {ts : List T}, cellsT cs = some ts → cs.length = ts.length ∧ ∀ i (hi : i < cs.length) (hi' : i < ts.length), cs[i] = .t ts[i]
  | [], ts, h => by cases h; exact ⟨rfl, fun i hi => by simp at hi⟩
  | a :: l, ts, h => by
    unfold cellsT at h
    split at h
    · rename_i x l' hx hl
      cases h
      obtain ⟨h1, h2⟩ := cellsT_all hl
      refine ⟨by simp [h1], fun i hi hi' => ?_⟩
      cases i with
      | zero =>
        unfold cellT at hx
        split at hx
        · cases hx; rfl
        · cases hx
      | succ i => exact h2 i (by simpa using hi) (by simpa using hi')
    · cases h
theorem box_rep {M M' : Nat → Prop} {id : Nat} {ty : TypeId} {cs : List A} {ts : List T} (h : RepB st L w M id (.box ty cs)) (hc : cellsT cs = some ts) (hlt : ∀ b, (L id).blk = some b → b < w.heap.size ∧ ¬ M' b) (hM : ∀ b, b < w.heap.size → M' b → M b) (o : Nat) :
    RepT w M' (.fp (ts.drop o)) ((L id).ptr o) := by
  obtain ⟨b, vs, hb, hw, hsz, hr⟩ := h
  obtain ⟨hl, hg⟩ := cellsT_all hc
  have e : (L id).ptr o = .pointer (some ⟨b, o, none⟩) := by simp [Loc.ptr, hb]
  rw [e]
  refine .fp _ b o (fun j => (vs[o + j]?).getD undef) (hlt b hb).1 (hlt b hb).2 (fun j hj => ?_) (fun j hj => ?_)
  · have hj' : o + j < vs.size := by simp at hj; omega
    rw [cell_of_row w b (o + j) vs _ _ hw]
    simp [hj']
  · have hj' : o + j < cs.length := by simp at hj; omega
    have hj2 : o + j < vs.size := by omega
    have h1 := (hr (o + j) hj').2
    rw [hg (o + j) hj' (by omega)] at h1
    simp only [List.getElem_drop]
    rw [Array.getElem?_eq_getElem hj2, Option.getD_some]
    cases h1 with
    | t _ _ h1 => exact h1.ext (Ext.refl _ _) hM
theorem SimL.subst (h : SimL C st L a w) (id : Nat) (x : T) (hsome : (st.mem id).isSome = true) (hok : ∀ M' : Nat → Prop, (∀ b, (L id).blk = some b → b < w.heap.size ∧ ¬ M' b) → (∀ b, b < w.heap.size → M' b → Mut C st L b) → SubOk st L w M' id x) : SimL C (st.sub id x) L a w := by
  obtain ⟨blk0, hm⟩ := Option.isSome_iff_exists.1 hsome
  generalize hst : st.sub id x = st'
  have hu : st'.used = st.used := by subst hst; rfl
  have hs : ∀ i b', st'.mem i = some b' → i ≠ id ∧ ∃ b, st.mem i = some b ∧ b' = b.sub id x := fun i b' hb => by
    subst hst
    simp only [St.sub] at hb
    by_cases e : i = id
    · rw [if_pos e] at hb; cases hb
    · rw [if_neg e] at hb
      obtain ⟨b, h1, h2⟩ := Option.map_eq_some_iff.1 hb
      exact ⟨e, b, h1, h2.symm⟩
  have hs' : ∀ i b', st'.mem i = some b' → ∃ b, st.mem i = some b ∧ b.alike b' := fun i b' hb => by
    obtain ⟨_, b, h1, rfl⟩ := hs i b' hb
    exact ⟨b, h1, Blk.sub_alike _ _ _⟩
  have hM : ∀ b, Mut C st' L b → Mut C st L b := by
    rintro b (hx | ⟨i, hi, hl⟩)
    · exact .inl hx
    · obtain ⟨b', hb'⟩ := Option.isSome_iff_exists.1 hi
      obtain ⟨_, c, hc, _⟩ := hs i b' hb'
      exact .inr ⟨i, by rw [hc]; rfl, hl⟩
  have hx : SubOk st L w (Mut C st' L) id x := by
    refine hok _ (fun b hb => ?_) (fun b _ => hM b)
    have ho := h.out id b (by rw [hm]; rfl) (.inl hb)
    refine ⟨ho.2.1, ?_⟩
    rintro (hx | ⟨i, hi, hl⟩)
    · exact ho.1 hx
    · obtain ⟨b', hb'⟩ := Option.isSome_iff_exists.1 hi
      obtain ⟨hne, c, hc, _⟩ := hs i b' hb'
      exact hne (h.inj i id b (by rw [hc]; rfl) (by rw [hm]; rfl) hl (.inl hb))
  refine h.next (by subst hst; rfl) (by subst hst; exact h.hn) h.hd rfl rfl rfl (Nat.le_refl _) (fun _ _ _ => rfl) (fun i hi => by rw [hu]; exact hi) (fun i _ b' hb => by obtain ⟨b, h1, h2⟩ := hs' i b' hb; exact ⟨b, h1, h2, rfl⟩)
    (fun i hi hf b hl => ?_) (fun i hi hf => ?_) (fun i j b hi hj hfi hfj _ _ => ?_) (fun i b' hb' => ?_) (fun t => .inr ?_)
  · obtain ⟨b', hb'⟩ := Option.isSome_iff_exists.1 hi
    obtain ⟨c, hc, _⟩ := hs' i b' hb'
    have := (h.mem i c hc).1
    rw [hf] at this; cases this
  · obtain ⟨b', hb'⟩ := Option.isSome_iff_exists.1 hi
    obtain ⟨c, hc, _⟩ := hs' i b' hb'
    have := (h.mem i c hc).1
    rw [hf] at this; cases this
  · obtain ⟨b', hb'⟩ := Option.isSome_iff_exists.1 hi
    obtain ⟨c, hc, _⟩ := hs' i b' hb'
    have := (h.mem i c hc).1
    rw [hfi] at this; cases this
  · obtain ⟨hne, c, hc, rfl⟩ := hs i b' hb'
    have hmem := h.mem i c hc
    refine ⟨by rw [hu]; exact hmem.1, .inr ?_⟩
    cases c with
    | obj od =>
      exact hmem.2.ext (Ext.refl _ _) (fun b _ => hM b) (fun i hi => by rw [hu]; exact hi) (fun i _ b' hb => by obtain ⟨b, h1, h2⟩ := hs' i b' hb; exact ⟨b, h1, h2, Loc.like_refl _⟩) rfl (fun _ _ => rfl)
    | row e' k' ys =>
      exact hmem.2.ext (Ext.refl _ _) (fun b _ => hM b) (fun i hi => by rw [hu]; exact hi) (fun i _ b' hb => by obtain ⟨b, h1, h2⟩ := hs' i b' hb; exact ⟨b, h1, h2, Loc.like_refl _⟩) rfl (fun _ _ => rfl)
    | box ty cells =>
      obtain ⟨b, cs, hb, hw, hsz, hr⟩ := hmem.2
      refine ⟨b, cs, hb, hw, by simpa using hsz, fun j hj => ?_⟩
      have hj' : j < cells.length := by simpa using hj
      simp only [List.getElem_map]
      exact ⟨sub1_single _ _ _ (hr j hj').1, (hr j hj').2.sub1 hx (fun b _ => hM b) hu hs'⟩
  · have : st'.env t = Go.Proofs.Ytmffhifkdbfbfaa.sub3 id x (st.env t) := by subst hst; rfl
    rw [this]
    exact (h.env t).sub3 hx (fun b _ => hM b) hu hs'
theorem SimL.frz (h : SimL C st L a w) (id : Nat) : SimL C (st.frz id) L a w := by
  cases hm : st.mem id with
  | none => have : st.frz id = st := by unfold St.frz; rw [hm]
            rw [this]; exact h
  | some blk =>
    cases blk with
    | obj od => rw [frz_obj hm]; exact h
    | box ty cs =>
      cases hc : cellsT cs with
      | none => have : st.frz id = st := by unfold St.frz; rw [hm]; simp only; rw [hc]
                rw [this]; exact h
      | some ts =>
        rw [frz_box hm hc]
        exact h.subst id _ (by rw [hm]; rfl) fun M' h1 h2 => ⟨fun k xs e => (by cases e), fun cells e => by cases e; exact ⟨ty, cs, hm, box_rep (h.mem id _ hm).2 hc h1 h2⟩⟩
    | row e k xs =>
      rw [frz_row hm]
      exact h.subst id _ (by rw [hm]; rfl) fun M' h1 h2 => ⟨fun k' xs' e' => by cases e'; exact ⟨e, hm, row_rep (h.mem id _ hm).2 h1 h2⟩, fun cells e => (by cases e)⟩
theorem SimL.frzs (l : List Nat) : ∀ {st : St}, SimL C st L a w → SimL C (st.frzs l) L a w := by
  induction l with
  | nil => intro st h; exact h
  | cons i l ih => intro st h; exact ih (h.frz i)
theorem SimL.del (h : SimL C st L a w) (id : Nat) : SimL C (st.del id) L a w := by
  have hs : ∀ i b', (st.del id).mem i = some b' → st.mem i = some b' := fun i b' hb => by
    by_cases e : i = id
    · subst e; simp [St.del, upd] at hb
    · simpa [St.del, upd, e] using hb
  have hM : ∀ b, Mut C (st.del id) L b → Mut C st L b := by
    rintro b (hx | ⟨i, hi, hl⟩)
    · exact .inl hx
    · obtain ⟨b', hb'⟩ := Option.isSome_iff_exists.1 hi
      exact .inr ⟨i, by rw [hs i b' hb']; rfl, hl⟩
  refine h.next rfl h.hn h.hd rfl rfl rfl (Nat.le_refl _) (fun _ _ _ => rfl) (fun i hi => hi) (fun i _ b' hb => ⟨b', hs i b' hb, b'.alike_refl, rfl⟩) (fun i hi hf b hl => ?_) (fun i hi hf => ?_) (fun i j b hi hj hfi hfj _ _ => ?_) (fun i b' hb' => ⟨(h.mem i b' (hs i b' hb')).1, .inl ⟨hs i b' hb', rfl, fun _ _ => rfl⟩⟩) (fun t => .inl ⟨rfl, rfl⟩)
  · obtain ⟨b', hb'⟩ := Option.isSome_iff_exists.1 hi
    have := (h.mem i b' (hs i b' hb')).1
    rw [hf] at this; cases this
  · obtain ⟨b', hb'⟩ := Option.isSome_iff_exists.1 hi
    have := (h.mem i b' (hs i b' hb')).1
    rw [hf] at this; cases this
  · obtain ⟨b', hb'⟩ := Option.isSome_iff_exists.1 hi
    have := (h.mem i b' (hs i b' hb')).1
    rw [hfi] at this; cases this
end Go.Proofs.Ytmffhifkdbfbfaa

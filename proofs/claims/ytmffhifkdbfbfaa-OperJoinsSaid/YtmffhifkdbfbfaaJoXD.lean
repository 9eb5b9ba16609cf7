/- Parts of the proof. -/
import Derived.Test.YtmffhifkdbfbfaaJoXC
import Derived.Orders
namespace Go.Proofs.Ytmffhifkdbfbfaa
open Go.RowKit
set_option linter.unusedVariables false
variable {C : Ctx} {st st' : St} {L L' : Nat → Loc} {a : Act} {w : World} {P : Program}
def AtIx (xs : List (List T)) (n : Int) (K : Nat → List T → Prop) : Prop := ∃ (m : Nat) (el : List T), n = (m : Int) ∧ xs[m]? = some el ∧ K m el
def AtStr (s : ByteArray) (n : Int) (K : UInt8 → Prop) : Prop := ∃ (m : Nat) (b : UInt8), n = (m : Int) ∧ s[m]? = some b ∧ K b
def OtherM (P : Program) (o : Oper) (xs : List A) (st : St) (K : St → Prop) : Prop := xs = argsOf o st → Other P o st K
def stepM (P : Program) (o : Oper) (st : St) (K : St → Prop) : Prop :=
  match o.op with
  | .move x | .assign x => K (st.put o.dst (st.ev x))
  | .pick c a b => match st.ev c with | .t (.v (.bool t)) => K (st.put o.dst (pickA t (st.ev a) (st.ev b))) | _ => False
  | .alloc ty => match o.dst, tinfo P ty with | some d, some ti => st.used d = false ∧ K ((st.new d (.box ty (ti.zero.map .v))).put (some d) (.ptr d 0)) | _, _ => False
  | .box ty x => match o.dst, cellsOf (st.ev x) with | some d, some cs => st.used d = false ∧ K ((st.new d (.box ty cs)).put (some d) (.ptr d 0)) | _, _ => False
  | .build t parts => match tinfo P t with
    | some ti => match tkind P t, fillA ti.fs (ti.zero.map .v) (parts.toList.map fun (i, x) => (i, st.ev x)) with | .strct, some cs => K (st.put o.dst (.agg cs)) | _, _ => False
    | none => False
  | .buildSlice t len parts => match o.dst, tinfo P t with
    | some d, some ti => match ti.elem with
      | some e => match tinfo P e with
        | some te => st.used d = false ∧ 0 < te.size ∧ parts.size = len ∧ len * te.size ≤ 16777216 ∧
            match partsT te.size 0 (parts.toList.map fun (i, x) => (i, (st.frzs (parts.toList.flatMap fun (_, x) => refs2 (st.ev x))).ev x)) with
            | some xs => K (((st.frzs (parts.toList.flatMap fun (_, x) => refs2 (st.ev x))).new d (.row e te.size xs)).put (some d) (.ref d))
            | none => False
        | none => False
      | none => False
    | _, _ => False
  | .load t a => match tinfo P t with
    | some ti => match peek st (st.ev a) ti with | some x => K (st.put o.dst x) | none => False
    | none => False
  | .store t a x => match tinfo P t, cellsOf (st.ev x) with
    | some ti, some cs => cs.length = ti.size ∧
      match st.ev a with
      | .ptr id off => (match st.mem id with
        | some (.box ty cells) => off + cs.length ≤ cells.length ∧ K ((st.setm id (.box ty (cells.take off ++ cs ++ cells.drop (off + cs.length)))).put o.dst .dead)
        | _ => False)
      | .rptr id i j => (match st.mem id, cellsT cs with
        | some (.row e k xs), some l => ∃ el, xs[i]? = some el ∧ j + l.length ≤ el.length ∧ K ((st.setm id (.row e k (xs.set i (el.take j ++ l ++ el.drop (j + l.length))))).put o.dst .dead)
        | _, _ => False)
      | _ => False
    | _, _ => False
  | .nilCheck x => isPtr st (st.ev x) = true ∧ K (st.put o.dst (st.ev x))
  | .binOp op ty x y _ => match binA P st op ty (st.ev x) (st.ev y) with | some z => z.oneCell' = true ∧ K (st.put o.dst (.v z)) | none => OtherM P o [arg2 st (st.ev x), arg2 st (st.ev y)] st K
  | .unOp op _ x => match st.ev x with
    | .t (.v y) => (match unF op y with | some z => z.oneCell' = true ∧ K (st.put o.dst (.v z)) | none => False)
    | _ => False
  | .convert src dst x => match convA P src dst (st.ev x) with | some z => (tinfo P src).isSome = true ∧ K (st.put o.dst z) | none => OtherM P o [arg2 st (st.ev x)] st K
  | .fieldAddr s x f => match tinfo P s, tkind P s with
    | some ti, .strct => isPtr st (st.ev x) = true ∧ (match fieldA ti (st.ev x) f with | some z => K (st.put o.dst z) | none => False)
    | _, _ => False
  | .field s x f => match tinfo P s, tkind P s with
    | some ti, .strct => (match subA ti (st.ev x) f with | some z => K (st.put o.dst z) | none => False)
    | _, _ => False
  | .indexAddr t x i => match tinfo P t with
    | some ti => match ti.elem with
      | some e => match tinfo P e, asList st (st.ev x), st.ev i with
        | some te, some (k', xs), .t (.v (.int k n)) => k' = te.size ∧ AtIx xs n fun m el => K (st.put o.dst (match st.ev x with | .ref id => .rptr id m 0 | _ => .fel el))
        | _, _, _ => False
      | none => False
    | none => False
  | .index t x i => match tkind P t, st.ev x, st.ev i with
    | .str, .t (.v (.string s)), .t (.v (.int k n)) => AtStr s n fun b => K (st.put o.dst (.v (.int .u8 b.toNat)))
    | _, _, _ => False
  | .extract x i => match st.ev x with
    | .tup cs => (match cs[i]? with | some y => K (st.put o.dst y) | none => False)
    | _ => False
  | .call c =>
    match c.callee, c.args.toList, c.argTypes.toList with
    | .builtin .len, [x], ty :: _ => (match lenA P st ty (st.ev x) with | some z => K (st.put o.dst (.v z)) | none => False)
    | .builtin .append, [x, y], [t, t'] => (match o.dst, tinfo P t with
      | some d, some ti => (match ti.elem with
        | some e => (match tinfo P e, asList st (st.ev y) with
          | some te, some (k'', ys) => t = t' ∧ 0 < te.size ∧ st.used d = false ∧ (ys = [] ∨ k'' = te.size) ∧
            (match st.ev x with
            | .t (.v (.slice none 0 0)) => ys.length * te.bytes ≤ 140737488355328 ∧ ys.length ≤ maxLen ∧ K ((st.new d (.row e te.size ys)).put (some d) (.ref d))
            | .ref id => (match st.mem id with
              | some (.row e' k' xs) => e' = e ∧ k' = te.size ∧ (xs.length + ys.length) * te.bytes ≤ 140737488355328 ∧ xs.length + ys.length ≤ maxLen ∧ K (((st.del id).new d (.row e te.size (xs ++ ys))).put (some d) (.ref d))
              | _ => False)
            | _ => False)
          | _, _ => False)
        | none => False)
      | _, _ => False)
    | .value (.func f), args, _ => CallAny P f o.dst (args.map fun x => arg2 st (st.ev x)) (args.map st.ev) st K
    | .builtin _, args, _ => OtherM P o (args.map fun x => arg2 st (st.ev x)) st K
    | _, _, _ => False
  | op => OtherM P o ((opL op).map fun x => arg2 st (st.ev x)) st K
theorem stepM_W {o : Oper} {K : St → Prop} (h : stepM P o st K) : stepW P o st K := by
  unfold stepM at h
  split at h
  · rename_i x ho; refine .inl ?_; unfold stepW0; simp only [ho]; exact h
  · rename_i x ho; refine .inl ?_; unfold stepW0; simp only [ho]; exact h
  · rename_i c x y ho
    refine .inl ?_
    unfold stepW0
    simp only [ho]
    split at h
    · rename_i t ht; exact ⟨t, ht, h⟩
    · exact h.elim
  · rename_i ty ho
    refine .inl ?_
    unfold stepW0
    simp only [ho]
    split at h
    · rename_i d ti hd ht; exact ⟨d, ti, hd, ht, h.1, by rw [hd]; exact h.2⟩
    · exact h.elim
  · rename_i ty x ho
    refine .inl ?_
    unfold stepW0
    simp only [ho]
    split at h
    · rename_i d ti hd ht; exact ⟨d, ti, hd, ht, h.1, by rw [hd]; exact h.2⟩
    · exact h.elim
  · rename_i t parts ho
    refine .inl ?_
    unfold stepW0
    simp only [ho]
    split at h
    · rename_i ti ht
      split at h
      · rename_i cs hk hc; exact ⟨ti, cs, ht, hk, hc, h⟩
      · exact h.elim
    · exact h.elim
  · rename_i t len parts ho
    refine .inl ?_
    unfold stepW0
    simp only [ho]
    split at h
    · rename_i d ti hd ht
      split at h
      · rename_i e he
        split at h
        · rename_i te hte
          obtain ⟨h1, h2, h3, h4, h⟩ := h
          split at h
          · rename_i xs hx; exact ⟨d, ti, e, te, xs, hd, ht, he, hte, h1, h2, h3, h4, hx, by rw [hd]; exact h⟩
          · exact h.elim
        · exact h.elim
      · exact h.elim
    · exact h.elim
  · rename_i t x ho
    refine .inl ?_
    unfold stepW0
    simp only [ho]
    split at h
    · rename_i ti ht
      split at h
      · rename_i y hy; exact ⟨ti, y, ht, hy, h⟩
      · exact h.elim
    · exact h.elim
  · rename_i t p x ho
    refine .inl ?_
    unfold stepW0
    simp only [ho]
    split at h
    · rename_i ti cs ht hc
      obtain ⟨h1, h⟩ := h
      refine ⟨ti, cs, ht, hc, h1, ?_⟩
      split at h
      · rename_i id off hp
        split at h
        · rename_i ty cells hm; exact .inl ⟨id, off, ty, cells, hp, hm, h.1, h.2⟩
        · exact h.elim
      · rename_i id i j hp
        split at h
        · rename_i e k xs l hm hl
          obtain ⟨el, h2, h3, h4⟩ := h
          exact .inr ⟨id, i, j, e, k, xs, el, l, hp, hm, h2, hl, h3, h4⟩
        · exact h.elim
      · exact h.elim
    · exact h.elim
  · rename_i x ho; refine .inl ?_; unfold stepW0; simp only [ho]; exact h
  · rename_i op ty x y ty2 ho
    split at h
    · rename_i z hz
      refine .inl ?_
      unfold stepW0
      simp only [ho]
      exact ⟨z, hz, h.1, h.2⟩
    · exact .inr (.inl (h (by simp [argsOf, ho, opL])))
  · rename_i op ty x ho
    refine .inl ?_
    unfold stepW0
    simp only [ho]
    split at h
    · rename_i y hy
      split at h
      · rename_i z hz; exact ⟨y, z, hy, hz, h.1, h.2⟩
      · exact h.elim
    · exact h.elim
  · rename_i src dst x ho
    split at h
    · rename_i z hz
      refine .inl ?_
      unfold stepW0
      simp only [ho]
      exact ⟨z, h.1, hz, h.2⟩
    · exact .inr (.inl (h (by simp [argsOf, ho, opL])))
  · rename_i s x f ho
    refine .inl ?_
    unfold stepW0
    simp only [ho]
    split at h
    · rename_i ti ht hk
      obtain ⟨h1, h⟩ := h
      split at h
      · rename_i z hz; exact ⟨ti, z, ht, hk, h1, hz, h⟩
      · exact h.elim
    · exact h.elim
  · rename_i s x f ho
    refine .inl ?_
    unfold stepW0
    simp only [ho]
    split at h
    · rename_i ti ht hk
      split at h
      · rename_i z hz; exact ⟨ti, z, ht, hk, hz, h⟩
      · exact h.elim
    · exact h.elim
  · rename_i t x i ho
    refine .inl ?_
    unfold stepW0
    simp only [ho]
    split at h
    · rename_i ti ht
      split at h
      · rename_i e he
        split at h
        · rename_i te k' xs k n hte hl hi
          obtain ⟨h1, m, el, rfl, h2, h3⟩ := h
          exact ⟨ti, e, te, k', xs, k, m, el, ht, he, hte, hl, hi, h2, h1, h3⟩
        · exact h.elim
      · exact h.elim
    · exact h.elim
  · rename_i t x i ho
    refine .inl ?_
    unfold stepW0
    simp only [ho]
    split at h
    · rename_i s k n hk hx hi
      obtain ⟨m, b, rfl, h1, h2⟩ := h
      exact ⟨s, k, m, b, hk, hx, hi, h1, h2⟩
    · exact h.elim
  · rename_i x i ho
    refine .inl ?_
    unfold stepW0
    simp only [ho]
    split at h
    · rename_i cs hx
      split at h
      · rename_i y hy; exact ⟨cs, y, hx, hy, h⟩
      · exact h.elim
    · exact h.elim
  · rename_i c ho
    obtain ⟨callee, args, ts⟩ := c
    dsimp only at h
    have inl : (stepW0 P { o with op := .call ⟨callee, args, ts⟩ } st K) → stepW P o st K := fun h => .inl (by
      have : { o with op := .call ⟨callee, args, ts⟩ } = o := by cases o; cases ho; rfl
      rw [this] at h; exact h)
    split at h
    · rename_i x ty tl ha ht
      refine inl ?_
      unfold stepW0
      simp only [ha, ht]
      split at h
      · rename_i z hz; exact ⟨z, hz, h⟩
      · exact h.elim
    · rename_i x y t t' ha ht
      refine inl ?_
      unfold stepW0
      simp only [ha, ht]
      split at h
      · rename_i d ti hd hti
        split at h
        · rename_i e he
          split at h
          · rename_i te k'' ys hte hl
            obtain ⟨h1, h2, h3, h4, h⟩ := h
            refine ⟨d, ti, e, te, k'', ys, h1, hd, hti, he, hte, h2, h3, hl, h4, ?_⟩
            split at h
            · rename_i hx; exact .inl ⟨hx, h.1, h.2.1, by rw [hd]; exact h.2.2⟩
            · rename_i id hx
              split at h
              · rename_i e' k' xs hm
                obtain ⟨rfl, h5, h6, h7, h8⟩ := h
                exact .inr ⟨id, k', xs, hx, hm, h5, h6, h7, by rw [hd]; exact h8⟩
              · exact h.elim
            · exact h.elim
          · exact h.elim
        · exact h.elim
      · exact h.elim
    · rename_i f
      refine inl ?_
      unfold stepW0
      exact h
    · exact .inr (.inl (h (by simp [argsOf, ho, opL])))
    · exact h.elim
  · rename_i op _ _ _ _ _ _ _ _ _ _ _ _ _ _ _ _ _ _ _
    exact .inr (.inl (h rfl))
def nthOp : List Oper → Nat → Option Oper
  | [], _ => none
  | o :: _, 0 => some o
  | _ :: l, n + 1 => nthOp l n
theorem nthOp_eq : ∀ (l : List Oper) (n : Nat), nthOp l n = l[n]?
  | [], n => by simp [nthOp]
  | o :: l, 0 => rfl
  | o :: l, n + 1 => by simp [nthOp, nthOp_eq l n]
def guardL (ops : List Oper) (st : St) (j : Nat) : A := match nthOp ops j with | some o => (match o.dst with | some d => st.env d | none => .dead) | none => .dead
end Go.Proofs.Ytmffhifkdbfbfaa
namespace Go.Proofs.Ytmffhifkdbfbfaa
open Go.RowKit
set_option linter.unusedVariables false
variable {C : Ctx} {st st' st2 : St} {L L' : Nat → Loc} {a : Act} {w : World} {P : Program}
def opTmps (o : Oper) : List Nat := o.op.operands.toList.filterMap fun x => match x with | .tmp t => some t | _ => none
def fpOf (o : Oper) (st : St) : List Nat := (opL o.op).flatMap fun x => ids3 (st.ev x)
def wrOf (o : Oper) (st : St) : List Nat :=
  match o.op with
  | .alloc _ | .box _ _ | .buildSlice _ _ _ => o.dst.toList
  | .store _ a _ => ids1 (st.ev a)
  | .makeSlice _ _ _ => o.dst.toList
  | .slice _ _ _ _ _ => (match ((opL o.op).flatMap fun x => own1 (st.ev x)) with | [] => [] | l => o.dst.toList ++ l)
  | .range _ _ | .makeMap _ _ => o.dst.toList
  | .next _ _ | .mapUpdate _ _ _ _ => (opL o.op).flatMap fun x => own1 (st.ev x)
  | .convert _ _ x => if isStr (st.ev x) then o.dst.toList else []
  | .call c => (match c.callee, c.args.toList with | .builtin .append, x :: _ => o.dst.toList ++ ids1 (st.ev x) | .builtin .copy, _ => (opL o.op).flatMap fun x => own1 (st.ev x) | .builtin .clear, _ => (opL o.op).flatMap fun x => own1 (st.ev x) | .builtin .delete, _ => (opL o.op).flatMap fun x => own1 (st.ev x) | .value _, args => (if hasPtr (args.map st.ev) then reach st (args.map st.ev) else []) ++ freshIds o.dst | _, _ => [])
  | _ => []
def over (st2 st' : St) (d : Option Nat) (wr : List Nat) : St :=
  { n := st2.n, env := fun t => if d = some t then st'.env t else st2.env t, mem := fun i => if i ∈ wr then st'.mem i else st2.mem i, used := fun i => if i ∈ wr then st'.used i else st2.used i }
structure Agree (o : Oper) (st st2 : St) : Prop where
  n : st2.n = st.n
  env : ∀ x ∈ o.op.operands.toList, st2.ev x = st.ev x
  mem : ∀ i, i ∈ fpOf o st ∨ i ∈ wrOf o st → st2.mem i = st.mem i
  used : ∀ i, i ∈ wrOf o st → st2.used i = st.used i
structure Frame1 (o : Oper) (st st' : St) (wr : List Nat) : Prop where
  n : st'.n = st.n
  env : ∀ t, o.dst ≠ some t → st'.env t = st.env t
  mem : ∀ i, i ∉ wr → st'.mem i = st.mem i
  used : ∀ i, i ∉ wr → st'.used i = st.used i
def keepsRows (o : Oper) (st : St) : Bool :=
  match o.op with
  | .buildSlice _ _ parts => (parts.toList.flatMap fun (_, x) => refs2 (st.ev x)).isEmpty
  | .call c => (match c.callee with | .value _ => (c.args.toList.flatMap fun x => refs2 (st.ev x)).isEmpty | _ => true)
  | _ => true
theorem over_put (st2 st : St) (d : Option Nat) (x : A) : over st2 (st.put d x) d [] = st2.put d x := by
  cases d with
  | none => simp [over, St.put]
  | some d =>
    simp only [over, St.put, List.not_mem_nil, if_false, Option.some.injEq]
    congr 1
    funext t
    by_cases h : d = t
    · subst h; simp [upd]
    · have h' : t ≠ d := fun e => h e.symm
      simp [upd, h, h']
theorem frame_put (o : Oper) (st : St) (x : A) : Frame1 o st (st.put o.dst x) [] := by
  refine ⟨by simp, fun t ht => ?_, fun i _ => by simp, fun i _ => by simp⟩
  cases hd : o.dst with
  | none => rfl
  | some d =>
    rw [hd] at ht
    have : t ≠ d := fun e => ht (by rw [e])
    simp [St.put, upd, this]
def Local (P : Program) (o : Oper) (st : St) (K : St → Prop) : Prop :=
  ∃ st', K st' ∧ Frame1 o st st' (wrOf o st) ∧ ∀ st2, Agree o st st2 → ∀ K2 : St → Prop, K2 (over st2 st' o.dst (wrOf o st)) → stepW P o st2 K2
theorem local_put {o : Oper} {K : St → Prop} (x : A) (hw : wrOf o st = []) (hK : K (st.put o.dst x)) (h : ∀ st2, Agree o st st2 → ∀ K2 : St → Prop, K2 (st2.put o.dst x) → stepW P o st2 K2) : Local P o st K := by
  refine ⟨_, hK, by rw [hw]; exact frame_put o st x, fun st2 ha K2 hK2 => h st2 ha K2 ?_⟩
  rw [hw, over_put] at hK2
  exact hK2
theorem St.ext' {a b : St} (hn : a.n = b.n) (he : a.env = b.env) (hm : a.mem = b.mem) (hu : a.used = b.used) : a = b := by
  cases a; cases b; simp_all
theorem local_sup {o : Oper} {K : St → Prop} (x : A) (hK : K (st.put o.dst x)) (h : ∀ st2, Agree o st st2 → ∀ K2 : St → Prop, K2 (st2.put o.dst x) → stepW P o st2 K2) : Local P o st K := by
  refine ⟨_, hK, ?_, fun st2 ha K2 hK2 => h st2 ha K2 ?_⟩
  · have := frame_put o st x
    exact ⟨this.n, this.env, fun i _ => this.mem i (by simp), fun i _ => this.used i (by simp)⟩
  · have e1 : over st2 (st.put o.dst x) o.dst (wrOf o st) = st2.put o.dst x := by
      rw [← over_put st2 st]
      refine St.ext' rfl rfl ?_ ?_
      · funext i
        show (if i ∈ wrOf o st then (st.put o.dst x).mem i else st2.mem i) = st2.mem i
        split
        · rename_i hi; rw [put_mem, ha.mem i (.inr hi)]
        · rfl
      · funext i
        show (if i ∈ wrOf o st then (st.put o.dst x).used i else st2.used i) = st2.used i
        split
        · rename_i hi; rw [put_used, ha.used i hi]
        · rfl
    rw [e1] at hK2
    exact hK2
theorem over_new (st2 st : St) (d : Nat) (b : Blk) (x : A) : over st2 ((st.new d b).put (some d) x) (some d) [d] = (st2.new d b).put (some d) x := by
  simp only [over, St.put, St.new, List.mem_singleton, Option.some.injEq]
  congr 1
  · funext t
    by_cases h : d = t
    · subst h; simp [upd]
    · have h' : t ≠ d := fun e => h e.symm
      simp [upd, h, h']
  · funext i
    by_cases h : i = d <;> simp [upd, h]
  · funext i
    by_cases h : i = d <;> simp [upd, h]
theorem frame_new (o : Oper) (st : St) (d : Nat) (hd : o.dst = some d) (b : Blk) (x : A) : Frame1 o st ((st.new d b).put o.dst x) [d] := by
  rw [hd]
  refine ⟨rfl, fun t ht => ?_, fun i hi => ?_, fun i hi => ?_⟩
  · have : t ≠ d := fun e => ht (by rw [hd, e])
    simp [St.put, St.new, upd, this]
  · have : i ≠ d := by simpa using hi
    simp [St.put, St.new, upd, this]
  · have : i ≠ d := by simpa using hi
    simp [St.put, St.new, upd, this]
theorem local_new {o : Oper} {K : St → Prop} (d : Nat) (hd : o.dst = some d) (b : Blk) (x : A) (hw : wrOf o st = [d]) (hK : K ((st.new d b).put o.dst x)) (h : ∀ st2, Agree o st st2 → ∀ K2 : St → Prop, K2 ((st2.new d b).put o.dst x) → stepW P o st2 K2) : Local P o st K := by
  refine ⟨_, hK, by rw [hw]; exact frame_new o st d hd b x, fun st2 ha K2 hK2 => h st2 ha K2 ?_⟩
  rw [hw, hd, over_new] at hK2
  rw [hd]
  exact hK2
theorem over_set (st2 st : St) (d : Option Nat) (id : Nat) (b : Blk) (x : A) (hu : st2.used id = st.used id) : over st2 ((st.setm id b).put d x) d [id] = (st2.setm id b).put d x := by
  have e1 : (fun i => if i ∈ [id] then ((st.setm id b).put d x).mem i else st2.mem i) = upd st2.mem id (some b) := by
    funext i
    by_cases h : i = id <;> simp [upd, h, St.setm]
  have e2 : (fun i => if i ∈ [id] then ((st.setm id b).put d x).used i else st2.used i) = st2.used := by
    funext i
    by_cases h : i = id
    · subst h; simp [St.setm, hu]
    · simp [h]
  have e3 : (fun t => if d = some t then ((st.setm id b).put d x).env t else st2.env t) = ((st2.setm id b).put d x).env := by
    funext t
    cases d with
    | none => simp [St.put, St.setm]
    | some d =>
      by_cases h : d = t
      · subst h; simp [upd, St.put]
      · have h' : t ≠ d := fun e => h e.symm
        simp [upd, h, h', St.put, St.setm]
  unfold over
  rw [e1, e2, e3]
  cases d <;> rfl
theorem frame_set (o : Oper) (st : St) (id : Nat) (b : Blk) (x : A) : Frame1 o st ((st.setm id b).put o.dst x) [id] := by
  refine ⟨by simp [St.setm], fun t ht => ?_, fun i hi => ?_, fun i hi => by simp [St.setm]⟩
  · cases hd : o.dst with
    | none => rfl
    | some d =>
      rw [hd] at ht
      have : t ≠ d := fun e => ht (by rw [e])
      simp [St.put, upd, this, St.setm]
  · have : i ≠ id := by simpa using hi
    simp [St.setm, upd, this]
theorem local_set {o : Oper} {K : St → Prop} (id : Nat) (b : Blk) (x : A) (hw : wrOf o st = [id]) (hK : K ((st.setm id b).put o.dst x)) (h : ∀ st2, Agree o st st2 → ∀ K2 : St → Prop, K2 ((st2.setm id b).put o.dst x) → stepW P o st2 K2) : Local P o st K := by
  refine ⟨_, hK, by rw [hw]; exact frame_set o st id b x, fun st2 ha K2 hK2 => h st2 ha K2 ?_⟩
  rw [hw, over_set _ _ _ _ _ _ (ha.used id (by rw [hw]; simp))] at hK2
  exact hK2
theorem over_app (st2 st : St) (d id : Nat) (b : Blk) (x : A) (hne : id ≠ d) (hu : st2.used id = st.used id) : over st2 (((st.del id).new d b).put (some d) x) (some d) [d, id] = ((st2.del id).new d b).put (some d) x := by
  simp only [over, St.put, St.new, St.del, Option.some.injEq, List.mem_cons, List.not_mem_nil, or_false]
  congr 1
  · funext t
    by_cases h : d = t
    · subst h; simp [upd]
    · have h' : t ≠ d := fun e => h e.symm
      simp [upd, h, h']
  · funext i
    by_cases h : i = d
    · simp [upd, h]
    · by_cases h2 : i = id <;> simp [upd, h, h2]
  · funext i
    by_cases h : i = d
    · simp [upd, h]
    · by_cases h2 : i = id
      · subst h2; simp [upd, h, hu]
      · simp [upd, h, h2]
theorem frame_app (o : Oper) (st : St) (d id : Nat) (hd : o.dst = some d) (b : Blk) (x : A) : Frame1 o st (((st.del id).new d b).put o.dst x) [d, id] := by
  rw [hd]
  refine ⟨rfl, fun t ht => ?_, fun i hi => ?_, fun i hi => ?_⟩
  · have : t ≠ d := fun e => ht (by rw [hd, e])
    simp [St.put, St.new, St.del, upd, this]
  · simp only [List.mem_cons, List.not_mem_nil, or_false, not_or] at hi
    simp [St.put, St.new, St.del, upd, hi]
  · simp only [List.mem_cons, List.not_mem_nil, or_false, not_or] at hi
    simp [St.put, St.new, St.del, upd, hi]
theorem asList_agree {x : A} (h : ∀ i ∈ ids1 x, st2.mem i = st.mem i) : asList st2 x = asList st x := by
  unfold asList
  split <;> try rfl
  rename_i id
  rw [h id (by simp [ids1])]
theorem peek_agree {x : A} {ti : TI} (h : ∀ i ∈ ids1 x, st2.mem i = st.mem i) : peek st2 x ti = peek st x ti := by
  unfold peek
  split <;> try rfl
  · rename_i id off; rw [h id (by simp [ids1])]
  · rename_i id i j; rw [h id (by simp [ids1])]
theorem isPtr_agree {x : A} (h : ∀ i ∈ ids1 x, st2.mem i = st.mem i) : isPtr st2 x = isPtr st x := by
  unfold isPtr
  split <;> try rfl
  · rename_i id off; rw [h id (by simp [ids1])]
  · rename_i id i j; rw [h id (by simp [ids1])]
  · rename_i id; rw [h id (by simp [ids1])]
theorem arg1_agree {x : A} (h : ∀ i ∈ ids1 x, st2.mem i = st.mem i) : arg1 st2 x = arg1 st x := by
  unfold arg1
  split <;> try rfl
  rename_i id
  rw [h id (by simp [ids1])]
theorem arg2_agree {x : A} (h : ∀ i ∈ ids2 x, st2.mem i = st.mem i) : arg2 st2 x = arg2 st x := by
  unfold arg2
  split
  · rename_i cs
    congr 1
    exact List.map_congr_left fun y hy => arg1_agree fun i hi => h i (by simp only [ids2, List.mem_flatMap]; exact ⟨y, hy, hi⟩)
  · rename_i hne
    refine arg1_agree fun i hi => h i ?_
    cases x <;> first | exact hi | (simp [ids1] at hi)
theorem ids12 {x : A} {i : Nat} (h : i ∈ ids1 x) : i ∈ ids3 x := by cases x <;> first | exact h | (simp [ids1] at h)
theorem ids23 {x : A} {i : Nat} (h : i ∈ ids2 x) : i ∈ ids3 x := by cases x <;> first | exact h | (simp [ids2, ids1] at h)
theorem Agree.at {o : Oper} (h : Agree o st st2) {x : Operand} (hx : x ∈ o.op.operands.toList) : (∀ i ∈ ids1 (st.ev x), st2.mem i = st.mem i) ∧ (∀ i ∈ ids2 (st.ev x), st2.mem i = st.mem i) :=
  ⟨fun i hi => h.mem i (.inl (List.mem_flatMap.2 ⟨x, by rw [opL_eq]; exact hx, ids12 hi⟩)), fun i hi => h.mem i (.inl (List.mem_flatMap.2 ⟨x, by rw [opL_eq]; exact hx, ids23 hi⟩))⟩
theorem List.flatMap_congr {α β : Type} {l : List α} {f g : α → List β} (h : ∀ x ∈ l, f x = g x) : l.flatMap f = l.flatMap g := by
  induction l with
  | nil => rfl
  | cons x l ih => rw [List.flatMap_cons, List.flatMap_cons, h x List.mem_cons_self, ih fun y hy => h y (List.mem_cons_of_mem _ hy)]
theorem le1_congr {ρ : Nat → Option Nat} {s s2 : St} {ms : List (Nat × Blk)} (h : s2.mem = s.mem) (x y : A) : le1 ρ s2 ms x y = le1 ρ s ms x y := by
  unfold le1; rw [h]
theorem leCells_congr {ρ : Nat → Option Nat} {s s2 : St} {ms : List (Nat × Blk)} (h : s2.mem = s.mem) : ∀ (x y : List A), leCells ρ s2 ms x y = leCells ρ s ms x y
  | [], [] => rfl
  | x :: l, y :: r => by simp only [leCells, le1_congr h, leCells_congr h l r]
  | [], _ :: _ => rfl
  | _ :: _, [] => rfl
theorem le2_congr {ρ : Nat → Option Nat} {s s2 : St} {ms : List (Nat × Blk)} (h : s2.mem = s.mem) (x y : A) : le2 ρ s2 ms x y = le2 ρ s ms x y := by
  unfold le2
  split
  · exact leCells_congr h _ _
  · exact le1_congr h _ _
theorem le3s_congr {ρ : Nat → Option Nat} {s s2 : St} {ms : List (Nat × Blk)} (h : s2.mem = s.mem) : ∀ {x y : List A}, le3s ρ s ms x y → le3s ρ s2 ms x y
  | [], [], _ => trivial
  | x :: l, y :: r, ⟨h1, h2⟩ => ⟨by rw [le2_congr h]; exact h1, le3s_congr h h2⟩
theorem leB_congr {ρ : Nat → Option Nat} {s s2 : St} {ms : List (Nat × Blk)} (h : s2.mem = s.mem) (x y : Blk) : leB ρ s2 ms x y = leB ρ s ms x y := by
  cases x <;> cases y <;> first | rfl | (simp only [leB]; rw [leCells_congr h])
theorem fitR_congr {ρ : Nat → Option Nat} {s s2 : St} {m : List (Nat × Blk)} (h : s2.mem = s.mem) (hf : FitR ρ s [] m) : FitR ρ s2 [] m :=
  ⟨fun p hp => by simp at hp, fun p hp => by
    have := hf.hms p hp
    unfold leM at this ⊢
    split at this
    · rename_i j hj
      obtain ⟨b, hb, hle⟩ := this
      exact ⟨b, by rw [h]; exact hb, by rw [leB_congr h]; exact hle⟩
    · exact this, hf.inj⟩
theorem stepW0_local {o : Oper} {K : St → Prop} (hk : keepsRows o st = true) (h : stepW0 P o st K) : Local P o st K := by
  unfold stepW0 at h
  split at h
  · rename_i x ho
    exact local_put _ (by simp [wrOf, ho]) h fun st2 ha K2 hK => by
      left; unfold stepW0; simp only [ho]; rw [ha.env x (by simp [ho, Op.operands])]; exact hK
  · rename_i x ho
    exact local_put _ (by simp [wrOf, ho]) h fun st2 ha K2 hK => by
      left; unfold stepW0; simp only [ho]; rw [ha.env x (by simp [ho, Op.operands])]; exact hK
  · rename_i c x y ho
    obtain ⟨t, hc, h⟩ := h
    exact local_put _ (by simp [wrOf, ho]) h fun st2 ha K2 hK => by
      left; unfold stepW0; simp only [ho]; rw [ha.env c (by simp [ho, Op.operands]), ha.env x (by simp [ho, Op.operands]), ha.env y (by simp [ho, Op.operands])]; exact ⟨t, hc, hK⟩
  · rename_i ty ho
    obtain ⟨d, ti, h1, h2, h3, h⟩ := h
    exact local_new d h1 _ _ (by simp [wrOf, ho, h1]) h fun st2 ha K2 hK => by
      left; unfold stepW0; simp only [ho]; exact ⟨d, ti, h1, h2, by rw [ha.used d (by simp [wrOf, ho, h1])]; exact h3, hK⟩
  · rename_i ty x ho
    obtain ⟨d, cs, h1, h2, h3, h⟩ := h
    exact local_new d h1 _ _ (by simp [wrOf, ho, h1]) h fun st2 ha K2 hK => by
      left; unfold stepW0; simp only [ho]; rw [ha.env x (by simp [ho, Op.operands])]
      exact ⟨d, cs, h1, h2, by rw [ha.used d (by simp [wrOf, ho, h1])]; exact h3, hK⟩
  · rename_i t parts ho
    obtain ⟨ti, cs, h1, h2, h3, h⟩ := h
    exact local_put _ (by simp [wrOf, ho]) h fun st2 ha K2 hK => by
      left; unfold stepW0; simp only [ho]
      refine ⟨ti, cs, h1, h2, ?_, hK⟩
      rw [← h3]
      congr 1
      exact List.map_congr_left fun p hp => by
        rw [ha.env p.2 (by simp only [ho, Op.operands]; exact List.mem_map.2 ⟨p, hp, rfl⟩)]
  · rename_i t len parts ho
    obtain ⟨d, ti, e, te, xs, h1, h2, h3, h4, h5, h6, h7, h8, h9, h⟩ := h
    have hnil : (parts.toList.flatMap fun (_, x) => refs2 (st.ev x)) = [] := by
      simp only [keepsRows, ho, List.isEmpty_iff] at hk; exact hk
    rw [hnil] at h9 h
    exact local_new d h1 _ _ (by simp [wrOf, ho, h1]) h fun st2 ha K2 hK => by
      have hev : ∀ p ∈ parts.toList, st2.ev p.2 = st.ev p.2 := fun p hp => ha.env p.2 (by simp only [ho, Op.operands]; exact List.mem_map.2 ⟨p, hp, rfl⟩)
      have hnil2 : (parts.toList.flatMap fun (x : Nat × Operand) => refs2 (st2.ev x.2)) = [] := by
        rw [List.flatMap_eq_nil_iff] at hnil ⊢
        intro p hp
        rw [hev p hp]; exact hnil p hp
      left; unfold stepW0; simp only [ho]
      refine ⟨d, ti, e, te, xs, h1, h2, h3, h4, by rw [ha.used d (by simp [wrOf, ho, h1])]; exact h5, h6, h7, h8, ?_, ?_⟩
      · rw [hnil2, ← h9]
        congr 1
        exact List.map_congr_left fun p hp => by
          show (p.1, st2.ev p.2) = (p.1, st.ev p.2)
          rw [hev p hp]
      · rw [hnil2]; exact hK
  · rename_i t x ho
    obtain ⟨ti, y, h1, h2, h⟩ := h
    exact local_put _ (by simp [wrOf, ho]) h fun st2 ha K2 hK => by
      have hx : x ∈ o.op.operands.toList := by simp [ho, Op.operands]
      left; unfold stepW0; simp only [ho]; rw [ha.env x hx]; exact ⟨ti, y, h1, by rw [peek_agree (ha.at hx).1]; exact h2, hK⟩
  · rename_i t p x ho
    obtain ⟨ti, cs, h1, h2, h3, h⟩ := h
    rcases h with ⟨id, off, ty, cells, h4, h5, h6, h⟩ | ⟨id, i, j, e, k, xs, el, l, h4, h5, h6, h7, h8, h⟩
    · exact local_set id _ _ (by simp [wrOf, ho, h4, ids1]) h fun st2 ha K2 hK => by
        left; unfold stepW0; simp only [ho]
        rw [ha.env x (by simp [ho, Op.operands]), ha.env p (by simp [ho, Op.operands])]
        exact ⟨ti, cs, h1, h2, h3, .inl ⟨id, off, ty, cells, h4, by rw [ha.mem id (.inr (by simp [wrOf, ho, h4, ids1]))]; exact h5, h6, hK⟩⟩
    · exact local_set id _ _ (by simp [wrOf, ho, h4, ids1]) h fun st2 ha K2 hK => by
        left; unfold stepW0; simp only [ho]
        rw [ha.env x (by simp [ho, Op.operands]), ha.env p (by simp [ho, Op.operands])]
        exact ⟨ti, cs, h1, h2, h3, .inr ⟨id, i, j, e, k, xs, el, l, h4, by rw [ha.mem id (.inr (by simp [wrOf, ho, h4, ids1]))]; exact h5, h6, h7, h8, hK⟩⟩
  · rename_i x ho
    exact local_put _ (by simp [wrOf, ho]) h.2 fun st2 ha K2 hK => by
      have hx : x ∈ o.op.operands.toList := by simp [ho, Op.operands]
      left; unfold stepW0; simp only [ho]; rw [ha.env x hx]; exact ⟨by rw [isPtr_agree (ha.at hx).1]; exact h.1, hK⟩
  · rename_i op ty x y ty2 ho
    obtain ⟨z, h1, h2, h⟩ := h
    exact local_put _ (by simp [wrOf, ho]) h fun st2 ha K2 hK => by
      have hx : x ∈ o.op.operands.toList := by simp [ho, Op.operands]
      left; unfold stepW0; simp only [ho]; rw [ha.env x hx, ha.env y (by simp [ho, Op.operands])]
      refine ⟨z, ?_, h2, hK⟩
      rw [← h1]
      unfold binA
      rw [isPtr_agree (ha.at hx).1]
  · rename_i op ty x ho
    obtain ⟨y, z, h1, h2, h3, h⟩ := h
    exact local_put _ (by simp [wrOf, ho]) h fun st2 ha K2 hK => by
      left; unfold stepW0; simp only [ho]; rw [ha.env x (by simp [ho, Op.operands])]; exact ⟨y, z, h1, h2, h3, hK⟩
  · rename_i src dst x ho
    obtain ⟨z, h1, h2, h⟩ := h
    exact local_sup _ h fun st2 ha K2 hK => by
      left; unfold stepW0; simp only [ho]; rw [ha.env x (by simp [ho, Op.operands])]; exact ⟨z, h1, h2, hK⟩
  · rename_i s x f ho
    obtain ⟨ti, z, h1, h2, h3, h4, h⟩ := h
    exact local_put _ (by simp [wrOf, ho]) h fun st2 ha K2 hK => by
      have hx : x ∈ o.op.operands.toList := by simp [ho, Op.operands]
      left; unfold stepW0; simp only [ho]; rw [ha.env x hx]; exact ⟨ti, z, h1, h2, by rw [isPtr_agree (ha.at hx).1]; exact h3, h4, hK⟩
  · rename_i s x f ho
    obtain ⟨ti, z, h1, h2, h3, h⟩ := h
    exact local_put _ (by simp [wrOf, ho]) h fun st2 ha K2 hK => by
      left; unfold stepW0; simp only [ho]; rw [ha.env x (by simp [ho, Op.operands])]; exact ⟨ti, z, h1, h2, h3, hK⟩
  · rename_i t x i ho
    obtain ⟨ti, e, te, k', xs, k, n, el, h1, h2, h3, h4, h5, h6, h7, h⟩ := h
    exact local_put _ (by simp [wrOf, ho]) h fun st2 ha K2 hK => by
      have hx : x ∈ o.op.operands.toList := by simp [ho, Op.operands]
      left; unfold stepW0; simp only [ho]; rw [ha.env x hx, ha.env i (by simp [ho, Op.operands])]
      exact ⟨ti, e, te, k', xs, k, n, el, h1, h2, h3, by rw [asList_agree (ha.at hx).1]; exact h4, h5, h6, h7, hK⟩
  · rename_i t x i ho
    obtain ⟨s, k, n, b, h1, h2, h3, h4, h⟩ := h
    exact local_put _ (by simp [wrOf, ho]) h fun st2 ha K2 hK => by
      left; unfold stepW0; simp only [ho]; rw [ha.env x (by simp [ho, Op.operands]), ha.env i (by simp [ho, Op.operands])]
      exact ⟨s, k, n, b, h1, h2, h3, h4, hK⟩
  · rename_i x i ho
    obtain ⟨cs, y, h1, h2, h⟩ := h
    exact local_put _ (by simp [wrOf, ho]) h fun st2 ha K2 hK => by
      left; unfold stepW0; simp only [ho]; rw [ha.env x (by simp [ho, Op.operands])]; exact ⟨cs, y, h1, h2, hK⟩
  · rename_i c ho
    obtain ⟨callee, args, ts⟩ := c
    dsimp only at h
    split at h
    · rename_i x ty tl hargs hts
      obtain ⟨z, h1, h⟩ := h
      exact local_put _ (by simp [wrOf, ho]) h fun st2 ha K2 hK => by
        have hx : x ∈ o.op.operands.toList := by simp [ho, Op.operands, Call.operands, hargs]
        left; unfold stepW0; simp only [ho, hargs, hts]; rw [ha.env x hx]
        refine ⟨z, ?_, hK⟩
        rw [← h1]
        unfold lenA
        split <;> try rfl
        rw [asList_agree (ha.at hx).1]
    · rename_i x y t t' hargs hts
      obtain ⟨d, ti, e, te, k'', ys, h0, h1, h2, h3, h4, h5, h6, h7, h8, h⟩ := h
      have hx : x ∈ o.op.operands.toList := by simp [ho, Op.operands, Call.operands, hargs]
      have hy : y ∈ o.op.operands.toList := by simp [ho, Op.operands, Call.operands, hargs]
      rcases h with ⟨q1, q2, q3, h⟩ | ⟨id, k', xs, q1, q2, q3, q4, q5, h⟩
      · have hw : wrOf o st = [d] := by simp [wrOf, ho, hargs, h1, q1, ids1, A.v]
        exact local_new d h1 _ _ hw h fun st2 ha K2 hK => by
          left; unfold stepW0; simp only [ho, hargs, hts]; rw [ha.env x hx, ha.env y hy]
          exact ⟨d, ti, e, te, k'', ys, h0, h1, h2, h3, h4, h5, by rw [ha.used d (by rw [hw]; simp)]; exact h6, by rw [asList_agree (ha.at hy).1]; exact h7, h8, .inl ⟨q1, q2, q3, hK⟩⟩
      · have hw : wrOf o st = [d, id] := by simp [wrOf, ho, hargs, h1, q1, ids1]
        refine ⟨_, h, by rw [hw]; exact frame_app o st d id h1 _ _, fun st2 ha K2 hK => ?_⟩
        have hid : id ∈ wrOf o st := by rw [hw]; simp
        have hne : id ≠ d ∨ id = d := by omega
        left; unfold stepW0; simp only [ho, hargs, hts]; rw [ha.env x hx, ha.env y hy]
        refine ⟨d, ti, e, te, k'', ys, h0, h1, h2, h3, h4, h5, by rw [ha.used d (by rw [hw]; simp)]; exact h6, by rw [asList_agree (ha.at hy).1]; exact h7, h8, .inr ⟨id, k', xs, q1, by rw [ha.mem id (.inr hid)]; exact q2, q3, q4, q5, ?_⟩⟩
        rw [hw, h1] at hK
        rw [h1]
        rcases hne with hne | rfl
        · rw [over_app _ _ _ _ _ _ hne (ha.used id hid)] at hK; exact hK
        · have e1 : over st2 (((st.del id).new id (.row e te.size (xs ++ ys))).put (some id) (.ref id)) (some id) [id, id] = ((st2.del id).new id (.row e te.size (xs ++ ys))).put (some id) (.ref id) := by
            simp only [over, St.put, St.new, St.del, Option.some.injEq, List.mem_cons, List.not_mem_nil, or_false, or_self]
            congr 1
            · funext t
              by_cases h : id = t
              · subst h; simp [upd]
              · have h' : t ≠ id := fun e => h e.symm
                simp [upd, h, h']
            · funext i
              by_cases h : i = id <;> simp [upd, h]
            · funext i
              by_cases h : i = id <;> simp [upd, h]
          rw [e1] at hK; exact hK
    · rename_i f
      have hmem : ∀ x ∈ args.toList, x ∈ o.op.operands.toList := fun x hx => by simp [ho, Op.operands, Call.operands]; right; simpa using hx
      have hwr : wrOf o st = (if hasPtr (args.toList.map st.ev) then reach st (args.toList.map st.ev) else []) ++ freshIds o.dst := by simp [wrOf, ho]
      rcases h with ⟨r, h1, h2, h⟩ | ⟨cargs, m, r, m', ρ, ν, h1, h2, h3, h4, h5, h6, h⟩
      · have hnil : (args.toList.map st.ev).flatMap refs2 = [] := by
          rw [List.flatMap_map]
          simp only [keepsRows, ho, List.isEmpty_iff] at hk; exact hk
        have hK : K (st.put o.dst r) := by
          rcases h with ⟨_, h⟩ | h
          · exact h
          · rw [hnil] at h; exact h
        refine ⟨_, hK, ?_, fun st2 ha K2 hK2 => ?_⟩
        · have := frame_put o st r
          exact ⟨this.n, this.env, fun i _ => this.mem i (by simp), fun i _ => this.used i (by simp)⟩
        · have hev : args.toList.map st2.ev = args.toList.map st.ev := List.map_congr_left fun x hx => ha.env x (hmem x hx)
          have hmap : (args.toList.map fun x => arg2 st2 (st2.ev x)) = args.toList.map fun x => arg2 st (st.ev x) := List.map_congr_left fun x hx => by
            rw [ha.env x (hmem x hx), arg2_agree (ha.at (hmem x hx)).2]
          have e1 : over st2 (st.put o.dst r) o.dst (wrOf o st) = st2.put o.dst r := by
            rw [← over_put st2 st]
            refine St.ext' rfl rfl ?_ ?_
            · funext i
              show (if i ∈ wrOf o st then (st.put o.dst r).mem i else st2.mem i) = st2.mem i
              split
              · rename_i hi; rw [put_mem, ha.mem i (.inr hi)]
              · rfl
            · funext i
              show (if i ∈ wrOf o st then (st.put o.dst r).used i else st2.used i) = st2.used i
              split
              · rename_i hi; rw [put_used, ha.used i hi]
              · rfl
          rw [e1] at hK2
          left; unfold stepW0; simp only [ho]
          refine .inl ⟨r, by rw [hmap]; exact h1, by rw [hmap]; exact h2, .inr ?_⟩
          rw [hev, hnil]; exact hK2
      · generalize hJ : reach st (args.toList.map st.ev) = J at h4 h6 h
        have hJw : ∀ i, J.contains i = true → i ∈ wrOf o st := fun i hi => by
          rw [hwr]
          rcases h3 with h3 | h3
          · rw [if_pos h3, hJ]; exact List.mem_append.2 (.inl (by simpa using hi))
          · have : reach st (args.toList.map st.ev) = [] := by unfold reach; rw [h3]; rfl
            rw [← hJ, this] at hi; simp at hi
        have hνw : ∀ i p, fnd m' ν i = some p → i ∈ wrOf o st := fun i p hp => by
          obtain ⟨hpm, hν⟩ := fnd_mem hp
          cases hpp : pers p.1 with
          | true =>
            obtain ⟨hρ, _, hlk, _⟩ := h4.old p hpm hpp
            exact hJw i (h4.image _ (look_mem hlk) i (by rw [← hν]; exact hρ))
          | false => rw [hwr]; exact List.mem_append.2 (.inr (by rw [← hν]; exact h5 p hpm hpp))
        have hback : ∀ s2 : St, ∀ i, i ∉ wrOf o st → (s2.back J m' ν).mem i = s2.mem i ∧ (s2.back J m' ν).used i = s2.used i := fun s2 i hi => by
          have hn : fnd m' ν i = none := by
            cases h : fnd m' ν i with
            | none => rfl
            | some p => exact absurd (hνw i p h) hi
          have hj : J.contains i = false := by
            cases h : J.contains i with
            | false => rfl
            | true => exact absurd (hJw i h) hi
          have hj' : i ∉ J := by simpa using hj
          simp [St.back, hn, hj']
        refine ⟨_, h, ⟨by simp [St.back], fun t ht => ?_, fun i hi => ?_, fun i hi => ?_⟩, fun st2 ha K2 hK2 => ?_⟩
        · cases hd : o.dst with
          | none => rfl
          | some d =>
            rw [hd] at ht
            have : t ≠ d := fun e => ht (by rw [e])
            simp [St.put, upd, this, St.back]
        · rw [put_mem]; exact (hback st i hi).1
        · rw [put_used]; exact (hback st i hi).2
        · have hev : args.toList.map st2.ev = args.toList.map st.ev := List.map_congr_left fun x hx => ha.env x (hmem x hx)
          have hmw : ∀ i ∈ wrOf o st, st2.mem i = st.mem i := fun i hi => ha.mem i (.inr hi)
          have hcell : ∀ i ∈ wrOf o st, cellIds st2 i = cellIds st i := fun i hi => by unfold cellIds; rw [hmw i hi]
          have hreach : reach st2 (args.toList.map st.ev) = J := by
            rcases h3 with h3 | h3
            · rw [← hJ]
              unfold reach
              have hl0 : ∀ i ∈ (args.toList.map st.ev).flatMap ids3, i ∈ wrOf o st := fun i hi => hJw i (by rw [← hJ]; unfold reach; simp only [List.contains_eq_mem, decide_eq_true_eq]; exact List.mem_append.2 (.inl hi))
              have e1 : ((args.toList.map st.ev).flatMap ids3).flatMap (cellIds st2) = ((args.toList.map st.ev).flatMap ids3).flatMap (cellIds st) := List.flatMap_congr fun i hi => hcell i (hl0 i hi)
              have hl1 : ∀ i ∈ ((args.toList.map st.ev).flatMap ids3).flatMap (cellIds st), i ∈ wrOf o st := fun i hi => hJw i (by rw [← hJ]; unfold reach; simp only [List.contains_eq_mem, decide_eq_true_eq]; exact List.mem_append.2 (.inr (List.mem_append.2 (.inl hi))))
              rw [e1]
              congr 2
              exact List.flatMap_congr fun i hi => hcell i (hl1 i hi)
            · rw [← hJ]; unfold reach; rw [h3]; rfl
          have honly : (st2.only J).mem = (st.only J).mem := by
            funext i
            simp only [St.only]
            split
            · rename_i hi; exact hmw i (hJw i hi)
            · rfl
          have hc2 : CallOk st2 J ρ ν m m' := ⟨fitR_congr honly h4.fit, h4.image, h4.keys, h4.inj, h4.old, fun p hp hpp => by
            have := h4.new p hp hpp
            rw [ha.used _ (by rw [hwr]; exact List.mem_append.2 (.inr (h5 p hp hpp))), ha.n]
            exact this⟩
          left; unfold stepW0; simp only [ho]
          refine .inr ⟨cargs, m, r, m', ρ, ν, h1, h2, by rw [hev]; exact h3, by rw [hev, hreach]; exact hc2, h5, by rw [hev, hreach]; exact le3s_congr honly h6, ?_⟩
          rw [hev, hreach]
          have e1 : over st2 ((st.back J m' ν).put o.dst (ren3 ν r)) o.dst (wrOf o st) = (st2.back J m' ν).put o.dst (ren3 ν r) := by
            refine St.ext' (by simp [over, St.back]) ?_ ?_ ?_
            · funext t
              show (if o.dst = some t then ((st.back J m' ν).put o.dst (ren3 ν r)).env t else st2.env t) = _
              cases hd : o.dst with
              | none => rfl
              | some d =>
                by_cases ht : t = d
                · subst ht; simp [St.put, upd]
                · have ht' : d ≠ t := fun e => ht e.symm
                  simp [St.put, upd, ht, ht', St.back]
            · funext i
              show (if i ∈ wrOf o st then ((st.back J m' ν).put o.dst (ren3 ν r)).mem i else st2.mem i) = _
              rw [put_mem, put_mem]
              split
              · rename_i hi; simp only [St.back, hmw i hi]
              · rename_i hi; exact (hback st2 i hi).1.symm
            · funext i
              show (if i ∈ wrOf o st then ((st.back J m' ν).put o.dst (ren3 ν r)).used i else st2.used i) = _
              rw [put_used, put_used]
              split
              · rename_i hi; simp only [St.back, ha.used i hi]
              · rename_i hi; exact (hback st2 i hi).2.symm
          rw [e1] at hK2
          exact hK2
    · exact h.elim
  · exact h.elim
theorem argsOf_agree {o : Oper} (ha : Agree o st st2) : argsOf o st2 = argsOf o st ∧ noRefs o st2 = noRefs o st := by
  have hev : ∀ x ∈ opL o.op, st2.ev x = st.ev x := fun x hx => ha.env x (by rw [← opL_eq]; exact hx)
  refine ⟨List.map_congr_left fun x hx => ?_, ?_⟩
  · rw [hev x hx, arg2_agree (ha.at (by rw [← opL_eq]; exact hx)).2]
  · unfold noRefs
    rw [List.flatMap_congr fun x hx => by rw [hev x hx]]
theorem other_local {o : Oper} {K : St → Prop} (h : Other P o st K) : Local P o st K := by
  obtain ⟨hf, h⟩ := h
  rcases h with ⟨x, h1, h2, hK⟩ | ⟨d, e, k, ys, h1, h2, h3, ⟨h4, h5⟩, hK⟩
  · refine local_sup x hK fun st2 ha K2 hK2 => ?_
    obtain ⟨e1, e2⟩ := argsOf_agree ha
    exact .inr (.inl ⟨by rw [e1]; exact hf, .inl ⟨x, by rw [e1]; exact h1, by rw [e2]; exact h2, hK2⟩⟩)
  · have hdw : d ∈ wrOf o st := by
      unfold makesRow at h5
      unfold wrOf
      split at h5
      · rename_i ho; simp [ho, h1]
      · rename_i ho; simp only [ho]; rw [if_pos h5, h1]; simp
      · rename_i c ho
        simp only [ho]
        split at h5
        · rename_i hc ha; rw [hc, ha]; simp [h1]
        · cases h5
      · cases h5
    refine ⟨_, hK, ?_, fun st2 ha K2 hK2 => ?_⟩
    · have := frame_new o st d h1 (.row e k ys) (.ref d)
      exact ⟨this.n, this.env, fun i hi => this.mem i (fun h => hi (by rw [List.mem_singleton.1 h]; exact hdw)), fun i hi => this.used i (fun h => hi (by rw [List.mem_singleton.1 h]; exact hdw))⟩
    · have e1 : over st2 ((st.new d (.row e k ys)).put o.dst (.ref d)) o.dst (wrOf o st) = (st2.new d (.row e k ys)).put o.dst (.ref d) := by
        have e0 := over_new st2 st d (.row e k ys) (.ref d)
        rw [← h1] at e0
        rw [← e0]
        refine St.ext' rfl rfl ?_ ?_
        · funext i
          show (if i ∈ wrOf o st then ((st.new d (.row e k ys)).put o.dst (.ref d)).mem i else st2.mem i) = (if i ∈ [d] then ((st.new d (.row e k ys)).put o.dst (.ref d)).mem i else st2.mem i)
          by_cases hi : i = d
          · subst hi; simp [hdw]
          · by_cases hw : i ∈ wrOf o st
            · rw [if_pos hw, if_neg (by simpa using hi), put_mem]
              simp only [St.new, upd, hi, if_false]
              exact (ha.mem i (.inr hw)).symm
            · rw [if_neg hw, if_neg (by simpa using hi)]
        · funext i
          show (if i ∈ wrOf o st then ((st.new d (.row e k ys)).put o.dst (.ref d)).used i else st2.used i) = (if i ∈ [d] then ((st.new d (.row e k ys)).put o.dst (.ref d)).used i else st2.used i)
          by_cases hi : i = d
          · subst hi; simp [hdw]
          · by_cases hw : i ∈ wrOf o st
            · rw [if_pos hw, if_neg (by simpa using hi), put_used]
              simp only [St.new, upd, hi, if_false]
              exact (ha.used i hw).symm
            · rw [if_neg hw, if_neg (by simpa using hi)]
      rw [e1] at hK2
      obtain ⟨q1, q2⟩ := argsOf_agree ha
      have hmk : makesRow o st2 = makesRow o st := by
        unfold makesRow
        split <;> try rfl
        rename_i ho
        rw [ha.env _ (by rw [← opL_eq, ho]; simp [opL])]
      exact .inr (.inl ⟨by rw [q1]; exact hf, .inr ⟨d, e, k, ys, h1, by rw [ha.used d hdw]; exact h2, by rw [q1]; exact h3, ⟨by rw [q2]; exact h4, by rw [hmk]; exact h5⟩, hK2⟩⟩)
theorem refs_at {o : Oper} {i id : Nat} {y : A} (h : ((opL o.op).map st.ev)[i]? = some y) (hy : own1 y = [id]) : id ∈ (opL o.op).flatMap fun x => own1 (st.ev x) := by
  rw [List.getElem?_map] at h
  obtain ⟨x, hx, he⟩ := Option.map_eq_some_iff.1 h
  exact List.mem_flatMap.2 ⟨x, List.mem_of_getElem? hx, by rw [he, hy]; simp⟩
theorem newobj_local {o : Oper} {K : St → Prop} (od : Od) (d : Nat) (h0 : newsObj o = true) (h1 : o.dst = some d) (h2 : st.used d = false) (h3 : noRefs o st = true) (h4 : (argsOf o st).all flat2 = true) (h5 : NewObj P o (argsOf o st) od) (hK : K ((st.new d (.obj od)).put o.dst (.ob d))) : Local P o st K := by
  have hw : wrOf o st = [d] := by
    unfold newsObj at h0
    unfold wrOf
    split at h0
    · rename_i ho; simp [ho, h1]
    · rename_i ho; simp [ho, h1]
    · cases h0
  refine local_new d h1 _ _ hw hK fun st2 ha K2 hK2 => ?_
  obtain ⟨e1, e2⟩ := argsOf_agree ha
  exact .inr (.inr (.inl (.inr (.inr ⟨od, d, h0, h1, by rw [ha.used d (by rw [hw]; simp)]; exact h2, by rw [e2]; exact h3, by rw [e1]; exact h4, by rw [e1]; exact h5, hK2⟩))))
theorem owns_local {o : Oper} {K : St → Prop} (h : Owns P o st K) : Local P o st K := by
  have hev : ∀ st2, Agree o st st2 → (opL o.op).map st2.ev = (opL o.op).map st.ev := fun st2 ha => List.map_congr_left fun x hx => ha.env x (by rw [← opL_eq]; exact hx)
  rcases h with ⟨i, b, xs, b', id, d, h0, h1, h2, h3, h4, h5, h6, hK⟩ | ⟨i, b, xs, b', r, id, h0, h1, h2, h3, h4, h5, hK⟩ | ⟨od, d, h0, h1, h2, h3, h4, h5, hK⟩
  · have hid := refs_at h2 rfl
    have hw : id ∈ wrOf o st ∧ d ∈ wrOf o st := by
      unfold movesRow at h0
      unfold wrOf
      split at h0
      · rename_i ho
        simp only [ho] at hid ⊢
        split
        · rename_i e; rw [e] at hid; simp at hid
        · rename_i l e; exact ⟨List.mem_append.2 (.inr hid), by simp [h1]⟩
      · rename_i c ho
        simp only [ho] at hid ⊢
        split at h0
        · rename_i hc
          have hi0 : i = 0 := Nat.eq_of_beq_eq_true h0
          subst hi0
          simp only [ho, opL, hc, List.nil_append] at h2
          simp only [hc]
          cases hl : c.args.toList with
          | nil => rw [hl] at h2; simp at h2
          | cons x l =>
            rw [hl] at h2
            simp only [List.map_cons, List.getElem?_cons_zero, Option.some.injEq] at h2
            simp only
            exact ⟨List.mem_append.2 (.inr (by rw [h2]; simp [ids1])), by simp [h1]⟩
        · cases h0
      · cases h0
    have hne : id ≠ d ∨ id = d := (Decidable.em (id = d)).symm
    refine ⟨_, hK, ?_, fun st2 ha K2 hK2 => ?_⟩
    · have := frame_app o st d id h1 b' (.ref d)
      exact ⟨this.n, this.env, fun j hj => this.mem j (fun h => by simp at h; rcases h with rfl | rfl <;> simp_all), fun j hj => this.used j (fun h => by simp at h; rcases h with rfl | rfl <;> simp_all)⟩
    · refine .inr (.inr (.inl (.inl ⟨i, b, xs, b', id, d, h0, h1, by rw [hev st2 ha]; exact h2, by rw [hev st2 ha]; exact h3, by rw [ha.mem id (.inr hw.1)]; exact h4, by rw [ha.used d hw.2]; exact h5, h6, ?_⟩)))
      have e1 : over st2 (((st.del id).new d b').put o.dst (.ref d)) o.dst (wrOf o st) = ((st2.del id).new d b').put o.dst (.ref d) := by
        rw [h1]
        refine St.ext' rfl ?_ ?_ ?_
        · funext t
          show (if some d = some t then (((st.del id).new d b').put (some d) (.ref d)).env t else st2.env t) = _
          by_cases ht : d = t
          · subst ht; simp [St.put, upd]
          · have ht' : t ≠ d := fun e => ht e.symm
            simp [St.put, upd, ht, ht', St.new, St.del]
        · funext j
          show (if j ∈ wrOf o st then (((st.del id).new d b').put (some d) (.ref d)).mem j else st2.mem j) = _
          rw [put_mem, put_mem]
          simp only [St.new, St.del, upd]
          by_cases hj : j = d
          · simp [hj, hw.2]
          · by_cases hj2 : j = id
            · subst hj2; simp [hj, hw.1]
            · by_cases hj3 : j ∈ wrOf o st
              · simp [hj, hj2, hj3, ha.mem j (.inr hj3)]
              · simp [hj, hj2, hj3]
        · funext j
          show (if j ∈ wrOf o st then (((st.del id).new d b').put (some d) (.ref d)).used j else st2.used j) = _
          rw [put_used, put_used]
          simp only [St.new, St.del, upd]
          by_cases hj : j = d
          · simp [hj, hw.2]
          · by_cases hj3 : j ∈ wrOf o st
            · simp [hj, hj3, ha.used j hj3]
            · simp [hj, hj3]
      rw [e1] at hK2
      exact hK2
  · have hid := refs_at h1 (own1_name b id)
    have hw : id ∈ wrOf o st := by
      unfold setsRow at h0
      unfold wrOf
      split at h0
      · rename_i c ho
        simp only [ho] at hid ⊢
        split at h0
        · rename_i hc; simp only [hc]; exact hid
        · rename_i hc; simp only [hc]; exact hid
        · rename_i hc; simp only [hc]; exact hid
        · cases h0
      · rename_i ho; simp only [ho] at hid ⊢; exact hid
      · rename_i ho; simp only [ho] at hid ⊢; exact hid
      · cases h0
    refine ⟨_, hK, ?_, fun st2 ha K2 hK2 => ?_⟩
    · have := frame_set o st id b' r
      exact ⟨this.n, this.env, fun j hj => this.mem j (fun h => by simp at h; subst h; exact hj hw), fun j hj => this.used j (fun h => by simp at h; subst h; exact hj hw)⟩
    · refine .inr (.inr (.inl (.inr (.inl ⟨i, b, xs, b', r, id, h0, by rw [hev st2 ha]; exact h1, by rw [hev st2 ha]; exact h2, by rw [ha.mem id (.inr hw)]; exact h3, by rw [ha.used id hw]; exact h4, h5, ?_⟩))))
      have e1 : over st2 ((st.setm id b').put o.dst r) o.dst (wrOf o st) = (st2.setm id b').put o.dst r := by
        refine St.ext' (by simp [over, St.setm]) ?_ ?_ ?_
        · funext t
          show (if o.dst = some t then ((st.setm id b').put o.dst r).env t else st2.env t) = _
          cases hd : o.dst with
          | none => rfl
          | some d =>
            by_cases ht : d = t
            · subst ht; simp [St.put, upd]
            · have ht' : t ≠ d := fun e => ht e.symm
              simp [St.put, upd, ht, ht', St.setm]
        · funext j
          show (if j ∈ wrOf o st then ((st.setm id b').put o.dst r).mem j else st2.mem j) = _
          rw [put_mem, put_mem]
          simp only [St.setm, upd]
          by_cases hj2 : j = id
          · subst hj2; simp [hw]
          · by_cases hj3 : j ∈ wrOf o st
            · simp [hj2, hj3, ha.mem j (.inr hj3)]
            · simp [hj2, hj3]
        · funext j
          show (if j ∈ wrOf o st then ((st.setm id b').put o.dst r).used j else st2.used j) = _
          rw [put_used, put_used]
          simp only [St.setm]
          by_cases hj3 : j ∈ wrOf o st
          · simp [hj3, ha.used j hj3]
          · simp [hj3]
      rw [e1] at hK2
      exact hK2
  · exact newobj_local od d h0 h1 h2 h3 h4 h5 hK
theorem callv_local {o : Oper} {K : St → Prop} (h : CallV P o st K) : Local P o st K := by
  obtain ⟨c, x, t, r, h1, h2, h3, h4, h5, h6, hK⟩ := h
  refine local_sup r hK fun st2 ha K2 hK2 => ?_
  have hx : x ∈ o.op.operands.toList := by rw [h1]; simp [Op.operands, Call.operands, h2]
  have hmem : ∀ y ∈ c.args.toList, y ∈ o.op.operands.toList := fun y hy => by rw [h1]; simp [Op.operands, Call.operands, h2]; right; simpa using hy
  have hev : c.args.toList.map st2.ev = c.args.toList.map st.ev := List.map_congr_left fun y hy => ha.env y (hmem y hy)
  have hmap : (c.args.toList.map fun y => arg2 st2 (st2.ev y)) = c.args.toList.map fun y => arg2 st (st.ev y) := List.map_congr_left fun y hy => by
    rw [ha.env y (hmem y hy), arg2_agree (ha.at (hmem y hy)).2]
  exact .inr (.inr (.inr ⟨c, x, t, r, h1, h2, by rw [ha.env x hx]; exact h3, by rw [hmap]; exact h4, by rw [hmap]; exact h5, by rw [hev]; exact h6, hK2⟩))
theorem stepW_local {o : Oper} {K : St → Prop} (hk : keepsRows o st = true) (h : stepW P o st K) : Local P o st K := by
  rcases h with h | h | h | h
  · exact stepW0_local hk h
  · exact other_local h
  · exact owns_local h
  · exact callv_local h
end Go.Proofs.Ytmffhifkdbfbfaa
namespace Go.Proofs.Ytmffhifkdbfbfaa
open Go.RowKit
set_option linter.unusedVariables false
variable {C : Ctx} {st st' st2 : St} {L L' : Nat → Loc} {a : Act} {w : World} {P : Program}
structure Tr where
  s : Nat → St
  d : Nat → Option Nat
  wr : Nat → List Nat
def mix (t : Tr) (S : Nat → Bool) : Nat → St
  | 0 => t.s 0
  | m + 1 => if S m then over (mix t S m) (t.s (m + 1)) (t.d m) (t.wr m) else mix t S m
structure TrOk (t : Tr) (n : Nat) : Prop where
  hn : ∀ i, i < n → (t.s (i + 1)).n = (t.s i).n
  env : ∀ i, i < n → ∀ x, t.d i ≠ some x → (t.s (i + 1)).env x = (t.s i).env x
  mem : ∀ i, i < n → ∀ x, x ∉ t.wr i → (t.s (i + 1)).mem x = (t.s i).mem x
  used : ∀ i, i < n → ∀ x, x ∉ t.wr i → (t.s (i + 1)).used x = (t.s i).used x
theorem mix_n {t : Tr} {n : Nat} (h : TrOk t n) (S : Nat → Bool) : ∀ m, m ≤ n → (mix t S m).n = (t.s 0).n
  | 0, _ => rfl
  | m + 1, hm => by
    unfold mix
    split
    · exact mix_n h S m (by omega)
    · exact mix_n h S m (by omega)
theorem s_n {t : Tr} {n : Nat} (h : TrOk t n) : ∀ m, m ≤ n → (t.s m).n = (t.s 0).n
  | 0, _ => rfl
  | m + 1, hm => by rw [h.hn m (by omega), s_n h m (by omega)]
theorem mix_env {t : Tr} {n : Nat} (h : TrOk t n) (S : Nat → Bool) (x j : Nat) (hS : ∀ k, k < n → t.d k = some x → (S k = true ↔ k < j)) : ∀ m, m ≤ n → (mix t S m).env x = (t.s (min m j)).env x
  | 0, _ => by simp [mix]
  | m + 1, hm => by
    have ih := mix_env h S x j hS m (by omega)
    unfold mix
    by_cases hd : t.d m = some x
    · have := hS m (by omega) hd
      by_cases hs : S m = true
      · rw [if_pos hs]
        have hlt := this.1 hs
        simp only [over, hd, if_true]
        rw [show min (m + 1) j = m + 1 by omega]
      · rw [if_neg hs, ih]
        have hlt : ¬ m < j := fun hl => hs (this.2 hl)
        rw [show min m j = j by omega, show min (m + 1) j = j by omega]
    · have e : (if S m = true then over (mix t S m) (t.s (m + 1)) (t.d m) (t.wr m) else mix t S m).env x = (mix t S m).env x := by
        split
        · simp [over, hd]
        · rfl
      rw [e, ih]
      by_cases hl : m < j
      · rw [show min m j = m by omega, show min (m + 1) j = m + 1 by omega, h.env m (by omega) x hd]
      · rw [show min m j = j by omega, show min (m + 1) j = j by omega]
theorem mix_mem {t : Tr} {n : Nat} (h : TrOk t n) (S : Nat → Bool) (x j : Nat) (hS : ∀ k, k < n → x ∈ t.wr k → (S k = true ↔ k < j)) : ∀ m, m ≤ n → (mix t S m).mem x = (t.s (min m j)).mem x ∧ (mix t S m).used x = (t.s (min m j)).used x
  | 0, _ => by simp [mix]
  | m + 1, hm => by
    have ih := mix_mem h S x j hS m (by omega)
    unfold mix
    by_cases hd : x ∈ t.wr m
    · have := hS m (by omega) hd
      by_cases hs : S m = true
      · rw [if_pos hs]
        have hlt := this.1 hs
        simp only [over, hd, if_true]
        rw [show min (m + 1) j = m + 1 by omega]
        exact ⟨rfl, rfl⟩
      · rw [if_neg hs, ih.1, ih.2]
        have hlt : ¬ m < j := fun hl => hs (this.2 hl)
        rw [show min m j = j by omega, show min (m + 1) j = j by omega]
        exact ⟨rfl, rfl⟩
    · have e : (if S m = true then over (mix t S m) (t.s (m + 1)) (t.d m) (t.wr m) else mix t S m).mem x = (mix t S m).mem x ∧ (if S m = true then over (mix t S m) (t.s (m + 1)) (t.d m) (t.wr m) else mix t S m).used x = (mix t S m).used x := by
        split
        · simp [over, hd]
        · exact ⟨rfl, rfl⟩
      rw [e.1, e.2, ih.1, ih.2]
      by_cases hl : m < j
      · rw [show min m j = m by omega, show min (m + 1) j = m + 1 by omega, h.mem m (by omega) x hd, h.used m (by omega) x hd]
        exact ⟨rfl, rfl⟩
      · rw [show min m j = j by omega, show min (m + 1) j = j by omega]
        exact ⟨rfl, rfl⟩
theorem mix_all {t : Tr} {n : Nat} (h : TrOk t n) (S : Nat → Bool) (hS : ∀ k, k < n → S k = true) : mix t S n = t.s n := by
  refine St.ext' (by rw [mix_n h S n (Nat.le_refl _), s_n h n (Nat.le_refl _)]) ?_ ?_ ?_
  · funext x; rw [mix_env h S x n (fun k hk _ => by simp [hS k hk, hk]) n (Nat.le_refl _), Nat.min_self]
  · funext x; rw [(mix_mem h S x n (fun k hk _ => by simp [hS k hk, hk]) n (Nat.le_refl _)).1, Nat.min_self]
  · funext x; rw [(mix_mem h S x n (fun k hk _ => by simp [hS k hk, hk]) n (Nat.le_refl _)).2, Nat.min_self]
theorem mix_more {t : Tr} (S S' : Nat → Bool) (j : Nat) (hj : S j = false) (hS' : ∀ k, S' k = (if k = j then true else S k)) : ∀ m, (∀ k, j < k → k < m → S k = true → (∀ x, t.d j = some x → t.d k ≠ some x) ∧ ∀ x, x ∈ t.wr j → x ∉ t.wr k) →
    mix t S' m = if j < m then over (mix t S m) (t.s (j + 1)) (t.d j) (t.wr j) else mix t S m
  | 0, _ => by simp [mix]
  | m + 1, h => by
    have ih := mix_more S S' j hj hS' m (fun k h1 h2 => h k h1 (by omega))
    unfold mix
    rw [hS' m, ih]
    by_cases e : m = j
    · subst e
      simp [hj]
    · rw [if_neg e]
      by_cases hl : j < m
      · rw [if_pos hl, if_pos (show j < m + 1 by omega)]
        by_cases hs : S m = true
        · rw [if_pos hs, if_pos hs]
          obtain ⟨h1, h2⟩ := h m hl (by omega) hs
          refine St.ext' rfl ?_ ?_ ?_
          · funext x
            simp only [over]
            by_cases c1 : t.d j = some x
            · rw [if_neg (h1 x c1), if_pos c1, if_pos c1]
            · rw [if_neg c1, if_neg c1]
          · funext x
            simp only [over]
            by_cases c1 : x ∈ t.wr j
            · rw [if_neg (h2 x c1), if_pos c1, if_pos c1]
            · rw [if_neg c1, if_neg c1]
          · funext x
            simp only [over]
            by_cases c1 : x ∈ t.wr j
            · rw [if_neg (h2 x c1), if_pos c1, if_pos c1]
            · rw [if_neg c1, if_neg c1]
        · rw [if_neg hs, if_neg hs]
      · rw [if_neg hl, if_neg (show ¬ j < m + 1 by omega)]
def bound (o : Oper) : List Nat := o.after.toList.filterMap fun e => if Region.binds .any e then some e.on else none
def maskOf (ms : List Nat) (o : Oper) : Nat := (bound o).foldl (fun s j => s ||| (2 ^ j ||| ms.getD j 0)) 0
def masksFrom : List Oper → List Nat → List Nat
  | [], acc => acc
  | o :: l, acc => masksFrom l (acc ++ [maskOf acc o])
def masks (ops : List Oper) : List Nat := masksFrom ops []
def slotsOf (ops : List Oper) (o : Oper) : List Nat := opTmps o ++ (match o.guard with | some (j, _) => (match nthOp ops j with | some g => g.dst.toList | none => []) | none => [])
def apartO (ops : List Oper) (x y : Oper) : Bool :=
  x.dst.toList.all (fun d => !(slotsOf ops y).contains d && !(y.dst.toList).contains d) && y.dst.toList.all (fun d => !(slotsOf ops x).contains d)
def disj (l r : List Nat) : Bool := l.all fun x => !r.contains x
def openPair (ms : List Nat) (i k : Nat) : Bool := !(ms.getD k 0).testBit i
def forPairs (n : Nat) (f : Nat → Nat → Bool) : Bool := (List.range n).all fun k => (List.range k).all fun i => f i k
def downwards (ops : List Oper) : Bool := (List.range ops.length).all fun i => match nthOp ops i with | some o => (bound o).all fun j => decide (j < i) | none => true
def textOkM (ops : List Oper) (ms : List Nat) : Bool :=
  downwards ops && forPairs ops.length fun i k => match nthOp ops i, nthOp ops k with | some x, some y => !openPair ms i k || apartO ops x y | _, _ => true
def textOk (ops : List Oper) : Bool := textOkM ops (masks ops)
def opensM (ms : List Nat) (n : Nat) : List (Nat × Nat) := (List.range n).flatMap fun k => (List.range k).filterMap fun i => if openPair ms i k then some (i, k) else none
def opens (ops : List Oper) : List (Nat × Nat) := opensM (masks ops) ops.length
def fpAt (fps : List (List Nat × List Nat)) (i : Nat) : List Nat × List Nat := fps.getD i ([], [])
def metOk (ops : List Oper) (fps : List (List Nat × List Nat)) : Bool :=
  (opens ops).all fun p => disj (fpAt fps p.1).2 ((fpAt fps p.2).1 ++ (fpAt fps p.2).2) && disj (fpAt fps p.2).2 (fpAt fps p.1).1
theorem opens_mem {ops : List Oper} {i k : Nat} (hk : k < ops.length) (hi : i < k) (h : openPair (masks ops) i k = true) : (i, k) ∈ opens ops := by
  refine List.mem_flatMap.2 ⟨k, List.mem_range.2 hk, List.mem_filterMap.2 ⟨i, List.mem_range.2 hi, by rw [if_pos h]⟩⟩
theorem mask_bit (ms : List Nat) (i : Nat) : ∀ (l : List Nat) (s : Nat), (l.foldl (fun s j => s ||| (2 ^ j ||| ms.getD j 0)) s).testBit i = true → s.testBit i = true ∨ ∃ q ∈ l, q = i ∨ (ms.getD q 0).testBit i = true
  | [], s, h => .inl h
  | q :: l, s, h => by
    rcases mask_bit ms i l _ h with h | ⟨x, hx, h⟩
    · simp only [Nat.testBit_or, Bool.or_eq_true, Nat.testBit_two_pow, decide_eq_true_eq] at h
      rcases h with h | h | h
      · exact .inl h
      · exact .inr ⟨q, List.mem_cons_self, .inl h⟩
      · exact .inr ⟨q, List.mem_cons_self, .inr h⟩
    · exact .inr ⟨x, List.mem_cons_of_mem _ hx, h⟩
def MaskOk (ops : List Oper) (ms : List Nat) : Prop := ∀ k o i, nthOp ops k = some o → (ms.getD k 0).testBit i = true → ∃ q ∈ bound o, q = i ∨ (q < k ∧ (ms.getD q 0).testBit i = true)
theorem masksFrom_ok (ops : List Oper) : ∀ (l : List Oper) (acc : List Nat), ops.drop acc.length = l → MaskOk ops acc → MaskOk ops (masksFrom l acc)
  | [], acc, _, h => h
  | o :: l, acc, hd, h => by
    refine masksFrom_ok ops l _ ?_ ?_
    · rw [List.length_append, List.length_singleton, ← List.drop_drop, hd]; rfl
    · intro k o' i ho hb
      rcases Nat.lt_trichotomy k acc.length with hk | hk | hk
      · have e : (acc ++ [maskOf acc o]).getD k 0 = acc.getD k 0 := by simp [List.getD_eq_getElem?_getD, List.getElem?_append_left hk]
        rw [e] at hb
        obtain ⟨q, hq, h'⟩ := h k o' i ho hb
        refine ⟨q, hq, h'.imp_right fun ⟨h1, h2⟩ => ⟨h1, ?_⟩⟩
        have e : (acc ++ [maskOf acc o]).getD q 0 = acc.getD q 0 := by simp [List.getD_eq_getElem?_getD, List.getElem?_append_left (show q < acc.length by omega)]
        rw [e]; exact h2
      · subst hk
        have e : (acc ++ [maskOf acc o]).getD acc.length 0 = maskOf acc o := by simp [List.getD_eq_getElem?_getD]
        rw [e] at hb
        have ho' : o' = o := by
          have hl : acc.length < ops.length := by
            apply Nat.lt_of_not_le; intro hle
            rw [List.drop_eq_nil_of_le hle] at hd; cases hd
          have := List.getElem_cons_drop hl
          rw [hd] at this
          injection this with h1 _
          rw [nthOp_eq, List.getElem?_eq_getElem hl, h1] at ho
          cases ho; rfl
        subst ho'
        unfold maskOf at hb
        rcases mask_bit acc i (bound o') 0 hb with h0 | ⟨q, hq, h'⟩
        · simp at h0
        · refine ⟨q, hq, h'.imp_right fun h2 => ?_⟩
          have hql : q < acc.length := by
            apply Nat.lt_of_not_le; intro hle
            rw [List.getD_eq_getElem?_getD, List.getElem?_eq_none hle] at h2
            simp at h2
          refine ⟨hql, ?_⟩
          have e : (acc ++ [maskOf acc o']).getD q 0 = acc.getD q 0 := by simp [List.getD_eq_getElem?_getD, List.getElem?_append_left hql]
          rw [e]; exact h2
      · have e : (acc ++ [maskOf acc o]).getD k 0 = 0 := by rw [List.getD_eq_getElem?_getD, List.getElem?_eq_none (by simp; omega)]; rfl
        rw [e] at hb
        simp at hb
theorem masks_ok (ops : List Oper) : MaskOk ops (masks ops) := masksFrom_ok ops ops [] rfl fun k o i _ h => by simp at h
theorem mask_ready {ops : List Oper} {S : Nat → Bool} (hS : ∀ i o, S i = true → nthOp ops i = some o → ∀ j ∈ bound o, S j = true) (hops : ∀ i, S i = true → ∃ o, nthOp ops i = some o) : ∀ (k : Nat) (o : Oper), nthOp ops k = some o → (∀ j ∈ bound o, S j = true) → ∀ i, ((masks ops).getD k 0).testBit i = true → S i = true := by
  intro k
  induction k using Nat.strongRecOn with
  | _ k ih =>
    intro o ho hr i hb
    obtain ⟨q, hq, rfl | ⟨hlt, h⟩⟩ := masks_ok ops k o i ho hb
    · exact hr _ hq
    · obtain ⟨o', ho'⟩ := hops q (hr q hq)
      exact ih q hlt o' ho' (hS q o' (hr q hq) ho') i h
end Go.Proofs.Ytmffhifkdbfbfaa
namespace Go.Proofs.Ytmffhifkdbfbfaa
open Go.RowKit
set_option linter.unusedVariables false
variable {C : Ctx} {st st' st2 : St} {L L' : Nat → Loc} {a : Act} {w : World} {P : Program}
def Exec (P : Program) (o : Oper) (s s' : St) (fp wr : List Nat) : Prop :=
  ∀ st2, st2.n = s.n → (∀ x ∈ o.op.operands.toList, st2.ev x = s.ev x) → (∀ i, i ∈ fp ∨ i ∈ wr → st2.mem i = s.mem i ∧ st2.used i = s.used i) → ∀ K2 : St → Prop, K2 (over st2 s' o.dst wr) → stepW P o st2 K2
def Does (P : Program) (ops : List Oper) (o : Oper) (s s' : St) (fp wr : List Nat) : Prop :=
  match o.guard with
  | none => Exec P o s s' fp wr
  | some (j, want) => (∃ b, guardL ops s j = .v (.bool b) ∧ (b = want → Exec P o s s' fp wr) ∧ (b ≠ want → s' = s.put o.dst (.tup []) ∧ wr = [])) ∨ (guardL ops s j = .tup [] ∧ s' = s.put o.dst (.tup []) ∧ wr = [])
inductive Trail (P : Program) (ops : List Oper) : List Oper → St → List (List Nat × List Nat) → St → Prop
  | nil (s : St) : Trail P ops [] s [] s
  | cons (o : Oper) (rest : List Oper) (s s' e : St) (fp wr : List Nat) (fps : List (List Nat × List Nat)) (hf : Frame1 o s s' wr) (hd : Does P ops o s s' fp wr) (h : Trail P ops rest s' fps e) : Trail P ops (o :: rest) s ((fp, wr) :: fps) e
theorem trail_tr (ops : List Oper) : ∀ (l : List Oper) (s : St) (fps : List (List Nat × List Nat)) (e : St), Trail P ops l s fps e → fps.length = l.length ∧ ∃ f : Nat → St, f 0 = s ∧ f l.length = e ∧
    ∀ i o, nthOp l i = some o → Frame1 o (f i) (f (i + 1)) (fpAt fps i).2 ∧ Does P ops o (f i) (f (i + 1)) (fpAt fps i).1 (fpAt fps i).2
  | _, _, _, _, .nil s => ⟨rfl, fun _ => s, rfl, rfl, fun i o h => by simp [nthOp] at h⟩
  | _, _, _, _, .cons o rest s s' e fp wr fps hf hd h => by
    obtain ⟨hl, f, h0, he, hall⟩ := trail_tr ops rest s' fps e h
    refine ⟨by simp [hl], fun i => match i with | 0 => s | i + 1 => f i, rfl, he, fun i o' ho => ?_⟩
    cases i with
    | zero =>
      simp only [nthOp, Option.some.injEq] at ho
      subst ho
      show Frame1 o s (f 0) wr ∧ Does P ops o s (f 0) fp wr
      rw [h0]
      exact ⟨hf, hd⟩
    | succ i => exact hall i o' ho
def listedS (listed : Array Bool) (i : Nat) : Bool := listed.getD i false
def left (n : Nat) (S : Nat → Bool) : Nat := ((List.range n).filter fun i => !S i).length
theorem left_zero {n : Nat} {S : Nat → Bool} (h : left n S = 0) : ∀ k, k < n → S k = true := by
  intro k hk
  have : (List.range n).filter (fun i => !S i) = [] := List.eq_nil_of_length_eq_zero h
  rw [List.filter_eq_nil_iff] at this
  simpa using this k (List.mem_range.2 hk)
theorem filter_len (S S' : Nat → Bool) (i : Nat) (hi : S i = false) (hS' : ∀ k, S' k = (if k = i then true else S k)) : ∀ l : List Nat, l.Nodup → i ∈ l → (l.filter fun k => !S k).length = (l.filter fun k => !S' k).length + 1
  | [], _, h => by simp at h
  | x :: l, hn, h => by
    obtain ⟨hx, hl⟩ := List.nodup_cons.1 hn
    by_cases e : x = i
    · subst e
      have e1 : (l.filter fun k => !S k) = l.filter fun k => !S' k := List.filter_congr fun k hk => by
        have : k ≠ x := fun e => hx (e ▸ hk)
        rw [hS' k, if_neg this]
      simp [hi, hS' x, e1]
    · have hmem : i ∈ l := by
        rcases List.mem_cons.1 h with h1 | h1
        · exact absurd h1.symm e
        · exact h1
      have ih := filter_len S S' i hi hS' l hl hmem
      have e2 : S' x = S x := by rw [hS' x, if_neg e]
      simp only [List.filter_cons, e2]
      split <;> simp [ih]
theorem left_set {n : Nat} {S S' : Nat → Bool} {i : Nat} (hin : i < n) (hi : S i = false) (hS' : ∀ k, S' k = (if k = i then true else S k)) : left n S = left n S' + 1 :=
  filter_len S S' i hi hS' _ List.nodup_range (List.mem_range.2 hin)
theorem toList_nth (ops : Array Oper) (i : Nat) : nthOp ops.toList i = ops[i]? := by rw [nthOp_eq, Array.getElem?_toList]
theorem forPairs_get {n : Nat} {f : Nat → Nat → Bool} (h : forPairs n f = true) {i k : Nat} (hk : k < n) (hi : i < k) : f i k = true := by
  unfold forPairs at h
  exact List.all_eq_true.1 (List.all_eq_true.1 h k (List.mem_range.2 hk)) i (List.mem_range.2 hi)
theorem disj_get {l r : List Nat} (h : disj l r = true) {x : Nat} (hx : x ∈ l) : x ∉ r := by
  have := List.all_eq_true.1 h x hx
  simpa using this
theorem open_sound {ops : Array Oper} {Q : Exit → Act → World → Prop} (ht : textOk ops.toList = true) (f : Nat → St) (fps : List (List Nat × List Nat)) (hm : metOk ops.toList fps = true)
    (hall : ∀ i o, nthOp ops.toList i = some o → Frame1 o (f i) (f (i + 1)) (fpAt fps i).2 ∧ Does P ops.toList o (f i) (f (i + 1)) (fpAt fps i).1 (fpAt fps i).2)
    (hok : opsOk ops (f 0).n = true) (hP : C.P = P) (hQ : ∀ a w, Sim C (f ops.size) a w → Q .normal a w) :
    ∀ (fuel : Nat) (listed : Array Bool), listed.size = ops.size → left ops.size (listedS listed) = fuel → (∀ i o, listedS listed i = true → nthOp ops.toList i = some o → ∀ j ∈ bound o, listedS listed j = true) →
      ∀ a w, Sim C (mix ⟨f, fun i => (nthOp ops.toList i).bind (·.dst), fun i => (fpAt fps i).2⟩ (listedS listed) ops.size) a w → wpAny P .any ops Q fuel listed a w := by
  obtain ⟨hdown, hpairs⟩ : downwards ops.toList = true ∧ forPairs ops.toList.length (fun i k => match nthOp ops.toList i, nthOp ops.toList k with | some x, some y => !openPair (masks ops.toList) i k || apartO ops.toList x y | _, _ => true) = true := by
    unfold textOk textOkM at ht; rw [Bool.and_eq_true] at ht; exact ht
  generalize hT : (⟨f, fun i => (nthOp ops.toList i).bind (·.dst), fun i => (fpAt fps i).2⟩ : Tr) = T
  have hTs : T.s = f := by rw [← hT]
  have hTd : ∀ i, T.d i = (nthOp ops.toList i).bind (·.dst) := fun i => by rw [← hT]
  have hTw : ∀ i, T.wr i = (fpAt fps i).2 := fun i => by rw [← hT]
  have hsz : ops.toList.length = ops.size := by simp
  have hop : ∀ i, i < ops.size → ∃ o, nthOp ops.toList i = some o := fun i hi => ⟨ops[i], by rw [toList_nth]; simp [hi]⟩
  have hTok : TrOk T ops.size := by
    refine ⟨fun i hi => ?_, fun i hi x hx => ?_, fun i hi x hx => ?_, fun i hi x hx => ?_⟩
    all_goals obtain ⟨o, ho⟩ := hop i hi
    all_goals have hfr := (hall i o ho).1
    all_goals rw [hTs]
    · exact hfr.n
    · exact hfr.env x (by rw [hTd, ho] at hx; exact hx)
    · exact hfr.mem x (by rw [hTw] at hx; exact hx)
    · exact hfr.used x (by rw [hTw] at hx; exact hx)
  have hpair : ∀ i k x y, i < k → nthOp ops.toList i = some x → nthOp ops.toList k = some y → k < ops.size → openPair (masks ops.toList) i k = true → apartO ops.toList x y = true ∧ disj (T.wr i) ((fpAt fps k).1 ++ T.wr k) = true ∧ disj (T.wr k) (fpAt fps i).1 = true := by
    intro i k x y hik hx hy hk ho
    have h1 := forPairs_get hpairs (i := i) (k := k) (by rw [hsz]; exact hk) hik
    rw [hx, hy] at h1
    simp only [ho, Bool.not_true, Bool.false_or] at h1
    have h2 := List.all_eq_true.1 hm _ (opens_mem (by rw [hsz]; exact hk) hik ho)
    simp only [Bool.and_eq_true] at h2
    rw [hTw, hTw]
    exact ⟨h1, h2.1, h2.2⟩
  intro fuel
  induction fuel with
  | zero =>
    intro listed hls hleft hclosed a w hs
    have hallS := left_zero hleft
    refine ⟨?_, ?_⟩
    · unfold Region.ready
      rw [List.filter_eq_nil_iff]
      intro i hi
      have := hallS i (List.mem_range.1 hi)
      unfold listedS at this
      have hlt : i < listed.size := by rw [hls]; exact List.mem_range.1 hi
      simp only [Array.getD_eq_getD_getElem?, Array.getElem?_eq_getElem hlt, Option.getD_some] at this ⊢
      simp [this]
    · rw [mix_all hTok _ hallS, hTs] at hs
      exact hQ a w hs
  | succ fuel ih =>
    intro listed hls hleft hclosed a w hs
    refine ⟨fun hnil => ?_, fun i hi => ?_⟩
    · exfalso
      have hex : ∃ k, k < ops.size ∧ listedS listed k = false := by
        apply Classical.byContradiction
        intro hno
        have : left ops.size (listedS listed) = 0 := by
          unfold left
          rw [List.filter_eq_nil_iff.2 ?_]
          · rfl
          · intro k hk
            have : ¬ listedS listed k = false := fun h => hno ⟨k, List.mem_range.1 hk, h⟩
            simpa using this
        omega
      obtain ⟨k, ⟨hk, hkf⟩, hmin⟩ := exists_least hex
      obtain ⟨o, ho⟩ := hop k hk
      have hb : ∀ j ∈ bound o, listedS listed j = true := fun j hj => by
        have := List.all_eq_true.1 hdown k (List.mem_range.2 (by rw [hsz]; exact hk))
        rw [ho] at this
        have hjk : j < k := of_decide_eq_true (List.all_eq_true.1 this j hj)
        apply Classical.byContradiction
        intro hn
        have := hmin j ⟨by omega, by simpa using hn⟩
        omega
      have : k ∈ Region.ready .any ops listed := by
        unfold Region.ready
        rw [List.mem_filter]
        refine ⟨List.mem_range.2 hk, ?_⟩
        have hlt : k < listed.size := by rw [hls]; exact hk
        have e1 : listed.getD k true = false := by
          unfold listedS at hkf
          simp only [Array.getD_eq_getD_getElem?, Array.getElem?_eq_getElem hlt, Option.getD_some] at hkf ⊢
          exact hkf
        rw [toList_nth] at ho
        rw [ho, e1]
        simp only [Bool.not_false, Option.map_some, Option.getD_some, Bool.true_and]
        rw [Array.all_eq_true']
        intro e he
        by_cases hbi : Region.binds .any e = true
        · have := hb e.on (List.mem_filterMap.2 ⟨e, by simpa using he, by rw [if_pos hbi]⟩)
          unfold listedS at this
          simp [this]
        · simp [hbi]
      rw [hnil] at this
      simp at this
    · unfold Region.ready at hi
      rw [List.mem_filter] at hi
      obtain ⟨hin, hi⟩ := hi
      have hin := List.mem_range.1 hin
      obtain ⟨o, ho⟩ := hop i hin
      have hlt : i < listed.size := by rw [hls]; exact hin
      have ho' : ops[i]? = some o := by rw [← toList_nth]; exact ho
      rw [ho'] at hi
      simp only [Option.map_some, Option.getD_some, Bool.and_eq_true, Bool.not_eq_true'] at hi
      obtain ⟨hiS', hib⟩ := hi
      have hiS : listedS listed i = false := by
        unfold listedS
        simp only [Array.getD_eq_getD_getElem?, Array.getElem?_eq_getElem hlt, Option.getD_some] at hiS' ⊢
        exact hiS'
      have hbnd : ∀ j ∈ bound o, listedS listed j = true := fun j hj => by
        obtain ⟨e, he, hej⟩ := List.mem_filterMap.1 hj
        split at hej
        · rename_i hbi
          cases hej
          rw [Array.all_eq_true'] at hib
          have := hib e (by simpa using he)
          simpa [hbi, listedS] using this
        · cases hej
      have hlisted : ∀ k, listedS listed k = true → ∃ o, nthOp ops.toList k = some o := fun k hk => hop k (by
        unfold listedS at hk
        apply Nat.lt_of_not_le; intro hle
        simp [Array.getD_eq_getD_getElem?, Array.getElem?_eq_none (show listed.size ≤ k by omega)] at hk)
      have hahead : ∀ j, ((masks ops.toList).getD i 0).testBit j = true → listedS listed j = true := mask_ready hclosed hlisted i o ho hbnd
      have hbehind : ∀ k, listedS listed k = true → ¬ ((masks ops.toList).getD k 0).testBit i = true := fun k hk hmem => by
        obtain ⟨y, hy⟩ := hlisted k hk
        have := mask_ready hclosed hlisted k y hy (hclosed k y hk hy) i hmem
        rw [hiS] at this; cases this
      have hopen1 : ∀ k, k < i → listedS listed k = false → openPair (masks ops.toList) k i = true := fun k hk hkf => by
        unfold openPair
        rw [Bool.not_eq_true']
        apply Bool.eq_false_iff.2
        intro hmem
        have := hahead k hmem
        rw [hkf] at this; cases this
      have hopen2 : ∀ k, listedS listed k = true → openPair (masks ops.toList) i k = true := fun k hk => by
        unfold openPair
        rw [Bool.not_eq_true']
        exact Bool.eq_false_iff.2 (hbehind k hk)
      have hslot : ∀ x ∈ slotsOf ops.toList o, ∀ k, k < ops.size → T.d k = some x → (listedS listed k = true ↔ k < i) := by
        intro x hx k hk hd
        obtain ⟨y, hy⟩ := hop k hk
        rw [hTd, hy] at hd
        simp only [Option.bind_some] at hd
        rcases Nat.lt_trichotomy k i with h | h | h
        · refine ⟨fun _ => h, fun _ => ?_⟩
          apply Classical.byContradiction
          intro hn
          have hap := (hpair k i y o h hy ho hin (hopen1 k h (by simpa using hn))).1
          unfold apartO at hap
          simp only [Bool.and_eq_true, hd, Option.toList_some, List.all_cons, List.all_nil, Bool.and_true, Bool.not_eq_true', List.contains_eq_mem, decide_eq_false_iff_not] at hap
          exact hap.1.1 hx
        · subst h; simp [hiS]
        · refine ⟨fun hS => ?_, fun h' => by omega⟩
          have hap := (hpair i k o y h ho hy hk (hopen2 k hS)).1
          unfold apartO at hap
          simp only [Bool.and_eq_true, hd, Option.toList_some, List.all_cons, List.all_nil, Bool.and_true, Bool.not_eq_true', List.contains_eq_mem, decide_eq_false_iff_not] at hap
          exact absurd hx hap.2
      have hid : ∀ x, x ∈ (fpAt fps i).1 ∨ x ∈ (fpAt fps i).2 → ∀ k, k < ops.size → x ∈ T.wr k → (listedS listed k = true ↔ k < i) := by
        intro x hx k hk hd
        obtain ⟨y, hy⟩ := hop k hk
        rcases Nat.lt_trichotomy k i with h | h | h
        · refine ⟨fun _ => h, fun _ => ?_⟩
          apply Classical.byContradiction
          intro hn
          have hap := (hpair k i y o h hy ho hin (hopen1 k h (by simpa using hn))).2.1
          have := disj_get hap hd
          rw [hTw] at this
          exact this (List.mem_append.2 hx)
        · subst h; simp [hiS]
        · refine ⟨fun hS => ?_, fun h' => by omega⟩
          have hap := (hpair i k o y h ho hy hk (hopen2 k hS)).2
          rcases hx with hx | hx
          · exact absurd hx (disj_get hap.2 hd)
          · rw [← hTw] at hx
            exact absurd (List.mem_append.2 (.inr hd)) (disj_get hap.1 hx)
      have henv : ∀ x ∈ slotsOf ops.toList o, (mix T (listedS listed) ops.size).env x = (f i).env x := fun x hx => by
        rw [mix_env hTok (listedS listed) x i (hslot x hx) ops.size (Nat.le_refl _), hTs, Nat.min_eq_right (by omega)]
      have hev : ∀ x ∈ o.op.operands.toList, (mix T (listedS listed) ops.size).ev x = (f i).ev x := fun x hx => by
        cases x with
        | tmp t => exact henv t (List.mem_append.2 (.inl (List.mem_filterMap.2 ⟨_, hx, rfl⟩)))
        | _ => rfl
      have hmem : ∀ x, x ∈ (fpAt fps i).1 ∨ x ∈ (fpAt fps i).2 → (mix T (listedS listed) ops.size).mem x = (f i).mem x ∧ (mix T (listedS listed) ops.size).used x = (f i).used x := fun x hx => by
        have := mix_mem hTok (listedS listed) x i (hid x hx) ops.size (Nat.le_refl _)
        rw [hTs, Nat.min_eq_right (by omega)] at this
        exact this
      have hnn : (mix T (listedS listed) ops.size).n = (f i).n := by
        rw [mix_n hTok _ _ (Nat.le_refl _), ← s_n hTok i (by omega), hTs]
      have hS' : ∀ k, listedS (listed.setIfInBounds i true) k = (if k = i then true else listedS listed k) := fun k => by
        unfold listedS
        simp only [Array.getD_eq_getD_getElem?, Array.getElem?_setIfInBounds]
        by_cases e : k = i
        · subst e; simp [hlt]
        · rw [if_neg (fun h => e h.symm), if_neg e]
      have hnext : mix T (listedS (listed.setIfInBounds i true)) ops.size = over (mix T (listedS listed) ops.size) (f (i + 1)) o.dst (fpAt fps i).2 := by
        rw [mix_more (listedS listed) _ i hiS hS' ops.size (fun k hik hkn hk => ?_), if_pos hin, hTs, hTw, hTd, ho]
        · rfl
        · obtain ⟨y, hy⟩ := hop k hkn
          have hap := hpair i k o y hik ho hy hkn (hopen2 k hk)
          refine ⟨fun x hx hxk => ?_, fun x hx hxk => absurd (List.mem_append.2 (.inr hxk)) (disj_get hap.2.1 hx)⟩
          rw [hTd, ho] at hx
          rw [hTd, hy] at hxk
          simp only [Option.bind_some] at hx hxk
          have := hap.1
          unfold apartO at this
          simp [hx, hxk] at this
      have hnext_ok : ∀ a' w', Sim C (mix T (listedS (listed.setIfInBounds i true)) ops.size) a' w' → wpAny P .any ops Q fuel (listed.setIfInBounds i true) a' w' := fun a' w' hs' => by
        refine ih _ (by simpa using hls) ?_ (fun k y hk hy j hj => ?_) a' w' hs'
        · have := left_set hin hiS hS'
          omega
        · rw [hS'] at hk ⊢
          by_cases e : j = i
          · rw [if_pos e]
          · rw [if_neg e]
            by_cases e2 : k = i
            · subst e2; rw [ho] at hy; cases hy; exact hbnd j hj
            · rw [if_neg e2] at hk; exact hclosed k y hk hy j hj
      have hdst : ∀ d, o.dst = some d → d < (mix T (listedS listed) ops.size).n := by
        rw [mix_n hTok _ _ (Nat.le_refl _), hTs]
        exact opsOk_dst hok ho'
      have hdoes := (hall i o ho).2
      have exec : Exec P o (f i) (f (i + 1)) (fpAt fps i).1 (fpAt fps i).2 → o.wp P a w (wpAny P .any ops Q fuel (listed.setIfInBounds i true)) Q := fun hx =>
        step_sound (hx _ hnn hev hmem (fun s => s = mix T (listedS (listed.setIfInBounds i true)) ops.size) hnext.symm) C a w hP hs hdst _ Q fun st' a' w' _ h1 h2 => hnext_ok a' w' (h1 ▸ h2)
      unfold wpOp
      rw [ho']
      simp only
      unfold Does at hdoes
      split at hdoes
      · rename_i hg
        have : Region.wanted o (yielded ops a.tmps) = true := by simp [Region.wanted, hg]
        rw [if_pos this]
        exact .inl (exec hdoes)
      · rename_i j want hg
        have skip : f (i + 1) = (f i).put o.dst (.tup []) ∧ (fpAt fps i).2 = [] → Sim C (mix T (listedS (listed.setIfInBounds i true)) ops.size) (a.put o.dst undef) w := fun ⟨e1, e2⟩ => by
          obtain ⟨L, hs'⟩ := hs
          rw [hnext, e1, e2, over_put]
          exact ⟨L, hs'.put _ hdst (.tup _ _ rfl fun i hi => by simp at hi)⟩
        rcases hdoes with ⟨b, hb, h1, h2⟩ | ⟨hb, h2⟩
        case inr =>
          have hy : yielded ops a.tmps j = none := by
            unfold guardL at hb
            unfold yielded
            rw [toList_nth] at hb
            cases hj : ops[j]? with
            | none => rw [hj] at hb; cases hb
            | some oj =>
              rw [hj] at hb
              simp only [Option.bind_some]
              simp only at hb
              cases hd' : oj.dst with
              | none => rw [hd'] at hb; cases hb
              | some d =>
                rw [hd'] at hb
                simp only at hb
                have hsl : d ∈ slotsOf ops.toList o := List.mem_append.2 (.inr (by rw [hg]; simp only; rw [toList_nth, hj]; simp [hd']))
                obtain ⟨L, hs⟩ := hs
                have e := henv d hsl ▸ hs.env d
                rw [hb] at e
                generalize hv : a.tmps.getD d undef = v at e
                cases e with
                | tup _ vs hsz _ =>
                  rw [Array.getD_eq_getD_getElem?] at hv
                  cases ht : a.tmps[d]? with
                  | none => simp [ht]
                  | some v => rw [ht] at hv; simp at hv; subst hv; simp [ht]
          have : ¬ Region.wanted o (yielded ops a.tmps) = true := by simp [Region.wanted, hg, hy]
          rw [if_neg this]
          exact hnext_ok _ _ (skip h2)
        have hy : yielded ops a.tmps j = some b := by
          unfold guardL at hb
          unfold yielded
          rw [toList_nth] at hb
          cases hj : ops[j]? with
          | none => rw [hj] at hb; cases hb
          | some oj =>
            rw [hj] at hb
            simp only [Option.bind_some]
            simp only at hb
            cases hd' : oj.dst with
            | none => rw [hd'] at hb; cases hb
            | some d =>
              rw [hd'] at hb
              simp only at hb
              have hsl : d ∈ slotsOf ops.toList o := List.mem_append.2 (.inr (by rw [hg]; simp only; rw [toList_nth, hj]; simp [hd']))
              obtain ⟨L, hs⟩ := hs
              have e := rep_val (show RepA _ L w _ (.v (.bool b)) _ from hb ▸ (henv d hsl ▸ hs.env d))
              rw [Array.getD_eq_getD_getElem?] at e
              cases ht : a.tmps[d]? with
              | none => rw [ht] at e; simp [undef] at e
              | some v => rw [ht] at e; simp at e; subst e; simp [ht]
        by_cases hbw : b = want
        · subst hbw
          have : Region.wanted o (yielded ops a.tmps) = true := by simp [Region.wanted, hg, hy]
          rw [if_pos this]
          exact .inl (exec (h1 rfl))
        · have : ¬ Region.wanted o (yielded ops a.tmps) = true := by simp [Region.wanted, hg, hy, hbw]
          rw [if_neg this]
          exact hnext_ok _ _ (skip (h2 hbw))
theorem W_openT {id : Nat} {ops : Array Oper} {e : St} {fps : List (List Nat × List Nat)} {Q : Exit → St → Prop} (hmix : P.follows .mixedOrders = true) (hok : opsOk ops st.n = true) (ht : textOk ops.toList = true) (htr : Trail P ops.toList ops.toList st fps e) (hm : metOk ops.toList fps = true) (hK : Q .normal e) : W P (.region id ops true) st Q := by
  intro C a w hP hs
  refine wp_region_any hmix ?_
  obtain ⟨hl, f, h0, he, hall⟩ := trail_tr ops.toList _ _ _ _ htr
  obtain ⟨L, hs⟩ := hs
  have hs1 : Sim C st a { w with drawn := w.drawn + 1 } := ⟨L, hs.later rfl rfl rfl (Nat.le_refl _) fun _ _ => rfl⟩
  have hfn : ∀ i, i ≤ ops.size → (f i).n = st.n := fun i => by
    induction i with
    | zero => intro _; rw [h0]
    | succ i ih =>
      intro hi
      have := (hall i (ops[i]'(by omega)) (by rw [toList_nth]; simp [show i < ops.size by omega])).1.n
      rw [this]; exact ih (by omega)
  refine open_sound ht f fps hm hall (by rw [h0]; exact hok) hP (fun a' w' hs' => ?_) ops.size (Array.replicate ops.size false) (by simp) ?_ (fun i o hi => ?_) a _ ?_
  · rw [Array.length_toList] at he
    rw [he] at hs'
    refine ⟨e, ?_, hK, hs'⟩
    rw [← he]; exact hfn _ (Nat.le_refl _)
  · unfold left
    have : (List.range ops.size).filter (fun i => !listedS (Array.replicate ops.size false) i) = List.range ops.size := by
      rw [List.filter_eq_self]
      intro i hi
      unfold listedS
      simp [Array.getD_eq_getD_getElem?, List.mem_range.1 hi]
    rw [this, List.length_range]
  · exfalso
    unfold listedS at hi
    simp only [Array.getD_eq_getD_getElem?, Array.getElem?_replicate] at hi
    split at hi <;> simp at hi
  · have hS : ∀ i, listedS (Array.replicate ops.size false) i = false := fun i => by
      unfold listedS
      simp only [Array.getD_eq_getD_getElem?, Array.getElem?_replicate]
      split <;> rfl
    have : ∀ m, mix ⟨f, fun i => (nthOp ops.toList i).bind (·.dst), fun i => (fpAt fps i).2⟩ (listedS (Array.replicate ops.size false)) m = f 0 := fun m => by
      induction m with
      | zero => rfl
      | succ m ih => unfold mix; rw [hS m, if_neg (by simp), ih]
    rw [this, h0]
    exact hs1
end Go.Proofs.Ytmffhifkdbfbfaa

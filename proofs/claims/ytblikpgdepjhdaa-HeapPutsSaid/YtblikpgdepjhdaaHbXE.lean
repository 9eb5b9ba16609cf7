/- Parts of the proof. -/
import Derived.Test.YtblikpgdepjhdaaHbXC
namespace Go.Proofs.Ytblikpgdepjhdaa
open Go.RowKit
set_option linter.unusedVariables false
variable {P : Program}
structure LS where
  n : Nat
  es : List (Nat × A)
  ms : List (Nat × Option Blk)
def lkE : List (Nat × A) → Nat → A
  | [], _ => .dead
  | (i, x) :: l, t => match Nat.beq t i with | true => x | false => lkE l t
def lkM : List (Nat × Option Blk) → Nat → Option (Option Blk)
  | [], _ => none
  | (i, x) :: l, t => match Nat.beq t i with | true => some x | false => lkM l t
def getM (ms : List (Nat × Option Blk)) (i : Nat) : Option Blk := match lkM ms i with | some (some b) => some b | _ => none
def usedM (ms : List (Nat × Option Blk)) (i : Nat) : Bool := match lkM ms i with | some _ => true | none => false
def LS.st (s : LS) : St := ⟨s.n, lkE s.es, getM s.ms, usedM s.ms⟩
def LS.put (s : LS) (d : Option Nat) (a : A) : LS := match d with | some d => ⟨s.n, (d, a) :: s.es, s.ms⟩ | none => s
def LS.new (s : LS) (id : Nat) (b : Blk) : LS := ⟨s.n, s.es, (id, some b) :: s.ms⟩
def LS.del (s : LS) (id : Nat) : LS := ⟨s.n, s.es, (id, none) :: s.ms⟩
theorem beq_t {t i : Nat} (h : Nat.beq t i = true) : t = i := Nat.eq_of_beq_eq_true h
theorem beq_f {t i : Nat} (h : Nat.beq t i = false) : t ≠ i := fun e => by rw [e] at h; simp at h
theorem lkE_cons (i : Nat) (x : A) (l : List (Nat × A)) : lkE ((i, x) :: l) = upd (lkE l) i x := by
  funext t
  unfold lkE upd
  cases h : Nat.beq t i with
  | true => simp [beq_t h]
  | false => simp [beq_f h]
theorem lkM_cons (i : Nat) (x : Option Blk) (l : List (Nat × Option Blk)) (t : Nat) : lkM ((i, x) :: l) t = if t = i then some x else lkM l t := by
  show (match Nat.beq t i with | true => some x | false => lkM l t) = _
  cases h : Nat.beq t i with
  | true => rw [if_pos (beq_t h)]
  | false => rw [if_neg (beq_f h)]
theorem getM_some (i : Nat) (b : Blk) (l : List (Nat × Option Blk)) : getM ((i, some b) :: l) = upd (getM l) i (some b) := by
  funext t
  simp only [getM, upd, lkM_cons]
  by_cases h : t = i <;> simp [h]
theorem getM_none (i : Nat) (l : List (Nat × Option Blk)) : getM ((i, none) :: l) = upd (getM l) i none := by
  funext t
  simp only [getM, upd, lkM_cons]
  by_cases h : t = i <;> simp [h]
theorem usedM_cons (i : Nat) (x : Option Blk) (l : List (Nat × Option Blk)) : usedM ((i, x) :: l) = upd (usedM l) i true := by
  funext t
  simp only [usedM, upd, lkM_cons]
  by_cases h : t = i <;> simp [h]
theorem put_st (s : LS) (d : Option Nat) (a : A) : (s.put d a).st = s.st.put d a := by
  cases d with
  | none => rfl
  | some d => simp only [LS.put, LS.st, St.put, lkE_cons]
theorem new_st (s : LS) (id : Nat) (b : Blk) : (s.new id b).st = s.st.new id b := by
  simp only [LS.new, LS.st, St.new, getM_some, usedM_cons]
theorem used_of {ms : List (Nat × Option Blk)} {id : Nat} {b : Blk} (h : getM ms id = some b) : usedM ms id = true := by
  unfold getM at h
  unfold usedM
  split at h
  · rename_i b' hb; rw [hb]
  · cases h
theorem upd_id {α : Type} (f : Nat → α) (i : Nat) (x : α) (h : f i = x) : upd f i x = f := by
  funext t; unfold upd; split
  · rename_i e; rw [e, h]
  · rfl
theorem setm_st (s : LS) (id : Nat) (b b' : Blk) (h : s.st.mem id = some b') : (s.new id b).st = s.st.setm id b := by
  simp only [LS.new, LS.st, St.setm, getM_some, usedM_cons]
  rw [upd_id (usedM s.ms) id true (used_of h)]
theorem del_st (s : LS) (id : Nat) (b' : Blk) (h : s.st.mem id = some b') : (s.del id).st = s.st.del id := by
  simp only [LS.del, LS.st, St.del, getM_none, usedM_cons]
  rw [upd_id (usedM s.ms) id true (used_of h)]
def AllP : List Prop → Prop
  | [] => True
  | p :: l => p ∧ AllP l
theorem allP_append {l r : List Prop} (h : AllP (l ++ r)) : AllP l ∧ AllP r := by
  induction l with
  | nil => exact ⟨trivial, h⟩
  | cons p l ih => exact ⟨⟨h.1, (ih h.2).1⟩, (ih h.2).2⟩
def IxOb (xs : List (List T)) (n : Int) (m : Nat) (el : List T) : Prop := n = (m : Int) ∧ xs[m]? = some el
def SxOb (s : ByteArray) (n : Int) (m : Nat) (b : UInt8) : Prop := n = (m : Int) ∧ s[m]? = some b
def AppOb (by_ n : Nat) : Prop := n * by_ ≤ 140737488355328 ∧ n ≤ maxLen
def RowOb (x y : List (List T)) : Prop := x = y
def BinOb (P : Program) (op : BinOp) (ty : TypeId) (x y z : Value) : Prop := binF P op ty x y = some z
inductive NilTo where
  | sl (k : Nat)
  | row (id : Nat)
def nilTo : List (Nat × Nat × NilTo) → Nat → Nat → Option NilTo
  | [], _, _ => none
  | (i, j, k) :: l, i', j' => match Nat.beq i i' && Nat.beq j j' with | true => some k | false => nilTo l i' j'
def rnm : List (Nat × Nat) → Nat → Option Nat
  | [], _ => none
  | (j, i) :: l, j' => match Nat.beq j j' with | true => some i | false => rnm l j'
def rback : List (Nat × Nat) → Nat → Option Nat
  | [], _ => none
  | (j, i) :: l, i' => match Nat.beq i i' with | true => some j | false => rback l i'
def memN : List Nat → Nat → Bool
  | [], _ => false
  | i :: l, j => match Nat.beq i j with | true => true | false => memN l j
def noId : Option Nat → Bool
  | none => true
  | some _ => false
def isId (j : Nat) : Option Nat → Bool
  | some i => Nat.beq i j
  | none => false
def emptyRow : Option Blk → Bool
  | some (.row _ _ []) => true
  | _ => false
def isRow : Option Blk → Bool
  | some _ => true
  | _ => false
def distinctX : List (Option Nat) → Bool
  | [] => true
  | none :: l => distinctX l
  | some x :: l => (l.all fun y => !(isId x y)) && distinctX l
structure IOV where
  B : List (Nat × Nat)
  R : List (Nat × Nat)
  F : List Nat
  Z : List (Nat × Nat × Nat)
  N : List (Nat × Nat × NilTo)
  M : List (Nat × Nat × NilTo)
  V : List (Nat × Nat)
def rhoIO (v : IOV) (i : Nat) : Option Nat := match rback v.B i with | some j => some j | none => rback v.R i
def nuIO (v : IOV) (i : Nat) : Nat := match rnm v.V i with | some j => j | none => i
def onlyM (J : List Nat) (ms : List (Nat × Option Blk)) (i : Nat) : Option Blk := match memN J i with | true => getM ms i | false => none
def ioL (v : IOV) (gm : Nat → Option Blk) (nt : Option NilTo) (a : A) : Option A :=
  match a with
  | .t x => (match nt, x with
    | some (.sl k), .v (.slice none 0 0) => some (.t (.sl k []))
    | some (.row id), .v (.slice none 0 0) => (match memN (v.Z.map (·.1)) id with | true => some (.ref id) | false => none)
    | _, x => some (.t x))
  | .ref j => (match rnm v.R j with
    | some i => some (.ref i)
    | none => (match memN v.F j, gm j with | true, some (.row e k xs) => some (.t (.sl k xs)) | _, _ => none))
  | .ptr j o => (match rnm v.B j with | some i => some (.ptr i o) | none => none)
  | .ifc t j o => (match rnm v.B j with | some i => some (.ifc t i o) | none => none)
  | .rptr j p q => (match rnm v.R j with | some i => some (.rptr i p q) | none => none)
  | .ob j => (match rnm v.R j with | some i => some (.ob i) | none => none)
  | .fel x => some (.fel x)
  | _ => none
def ioCs (v : IOV) (gm : Nat → Option Blk) (sp : List (Nat × Nat × NilTo)) (t : Nat) : Nat → List A → Option (List A)
  | _, [] => some []
  | j, a :: l => match ioL v gm (nilTo sp t j) a, ioCs v gm sp t (j + 1) l with | some x, some r => some (x :: r) | _, _ => none
def ioArg (v : IOV) (gm : Nat → Option Blk) (i : Nat) (a : A) : Option A :=
  match a with
  | .agg cs => (match ioCs v gm v.N i 0 cs with | some r => some (.agg r) | none => none)
  | a => ioL v gm (nilTo v.N i 0) a
def ioArgs (v : IOV) (gm : Nat → Option Blk) : Nat → List A → Option (List A)
  | _, [] => some []
  | i, a :: l => match ioArg v gm i a, ioArgs v gm (i + 1) l with | some x, some r => some (x :: r) | _, _ => none
def ioB (v : IOV) (gm : Nat → Option Blk) : List (Nat × Nat) → Option (List (Nat × Blk))
  | [] => some []
  | (j, i) :: l => match gm j with
    | some (.box ty cells) => (match ioCs v gm v.M i 0 cells, ioB v gm l with | some r, some rest => some ((i, .box ty r) :: rest) | _, _ => none)
    | _ => none
def ioR (gm : Nat → Option Blk) : List (Nat × Nat) → Option (List (Nat × Blk))
  | [] => some []
  | (j, i) :: l => match gm j with
    | some (.row e k xs) => (match ioR gm l with | some rest => some ((i, .row e k xs) :: rest) | none => none)
    | some (.obj od) => (match ioR gm l with | some rest => some ((i, .obj od) :: rest) | none => none)
    | _ => none
def ioZ : List (Nat × Nat × Nat) → List (Nat × Blk)
  | [] => []
  | (i, e, k) :: l => (i, .row e k []) :: ioZ l
def isKin : Option Blk → Blk → Bool
  | some (.box _ _), .box _ _ => true
  | some (.obj x), .obj y => (match x.isMap, y.isMap with | true, true => true | false, false => true | _, _ => false)
  | _, _ => false
def nodupN : List Nat → Bool
  | [] => true
  | i :: l => (match memN l i with | true => false | false => true) && nodupN l
def insM (p : Nat × Blk) : List (Nat × Blk) → List (Nat × Blk)
  | [] => [p]
  | q :: l => match Nat.ble p.1 q.1 with | true => p :: q :: l | false => q :: insM p l
def sortM : List (Nat × Blk) → List (Nat × Blk)
  | [] => []
  | p :: l => insM p (sortM l)
def ioOk (v : IOV) (J : List Nat) (m : List (Nat × Blk)) : Bool :=
  (v.R.all fun p => isId p.1 (rhoIO v p.2) && isRow (look m p.2)) &&
  ((v.B.all fun p => isId p.1 (rhoIO v p.2) && isRow (look m p.2)) &&
  ((v.Z.all fun p => noId (rhoIO v p.1) && emptyRow (look m p.1) && Nat.blt 0 p.2.2) &&
  (distinctX (m.map fun p => rhoIO v p.1) &&
  ((v.F.all fun j => m.all fun p => !(isId j (rhoIO v p.1))) &&
  (m.all fun p => match rhoIO v p.1 with | some j => memN J j | none => true)))))
def ioBack (v : IOV) (s : LS) (d : Option Nat) (m m' : List (Nat × Blk)) : Bool :=
  nodupN (m'.map (·.1)) && (nodupN (m'.map fun p => nuIO v p.1) &&
  (m'.all fun p => match pers p.1 with
    | true => isId (nuIO v p.1) (rhoIO v p.1) && isKin (look m p.1) p.2
    | false => (match usedM s.ms (nuIO v p.1) with | true => false | false => true) && (Nat.blt (nuIO v p.1) s.n || Nat.ble 1000 (nuIO v p.1)) && memN (freshIds d) (nuIO v p.1)))
def backM (v : IOV) : List (Nat × Blk) → List (Nat × Option Blk)
  | [] => []
  | (i, b) :: l => (nuIO v i, some (b.ren (nuIO v))) :: backM v l
def goneM (ms : List (Nat × Option Blk)) : List Nat → List (Nat × Option Blk)
  | [] => []
  | j :: l => match usedM ms j with | true => (j, none) :: goneM ms l | false => goneM ms l
def LS.back (s : LS) (v : IOV) (J : List Nat) (m' : List (Nat × Blk)) : LS := ⟨s.n, s.es, backM v m' ++ (goneM s.ms J ++ s.ms)⟩
inductive Orc where
  | no
  | ix (m : Nat) (el : List T)
  | sx (m : Nat) (b : UInt8)
  | rows (xs : List (List T))
  | set (el : List T) (xs : List (List T))
  | len (n : Nat)
  | dec (b : Bool)
  | val (z : Value)
  | call (nils : List (Nat × Nat × Nat)) (r : A)
  | quiet (x : A)
  | makes (e : TypeId) (k : Nat) (ys : List (List T))
  | moves (i : Nat) (b : Blk)
  | sets (i : Nat) (b : Blk) (r : A)
  | io (v : IOV) (r : A) (m' : List (Nat × Blk))
  | callv (r : A)
  | newo (od : Od)
  | look (nils : List (Nat × Nat × Nat)) (r : A)
def pickX (t : Bool) (x y : A) : A :=
  match t with
  | true => x
  | false => y
def pickV (t : Bool) (x y : Value) : Value :=
  match x, y with
  | .bool a, .bool b => .bool (cond t a b)
  | .int .i64 a, .int .i64 b => .int .i64 (cond t a b)
  | .int .u8 a, .int .u8 b => .int .u8 (cond t a b)
  | .string a, .string b => .string (cond t a b)
  | x, y => match t with | true => x | false => y
theorem pickV_eq (t : Bool) (x y : Value) : pickV t x y = (match t with | true => x | false => y) := by
  unfold pickV
  split <;> cases t <;> rfl
def pickA' (t : Bool) (x y : A) : A :=
  match x, y with
  | .t (.v a), .t (.v b) => .t (.v (pickV t a b))
  | x, y => pickA t x y
theorem pickA'_eq (t : Bool) (x y : A) : pickA' t x y = pickA t x y := by
  unfold pickA'
  split
  · rw [pickV_eq]; cases t <;> rfl
  · rfl
def nilT (k : Option Nat) (x : A) : A := match k, x with | some k, .t (.v (.slice none 0 0)) => .t (.sl k []) | _, x => x
def nilAt : List (Nat × Nat × Nat) → Nat → Nat → Option Nat
  | [], _, _ => none
  | (i, j, k) :: l, i', j' => match Nat.beq i i' && Nat.beq j j' with | true => some k | false => nilAt l i' j'
def nilCells (ns : List (Nat × Nat × Nat)) (i : Nat) : Nat → List A → List A
  | _, [] => []
  | j, x :: l => nilT (nilAt ns i j) x :: nilCells ns i (j + 1) l
def nilArg (ns : List (Nat × Nat × Nat)) (i : Nat) (x : A) : A := match x with | .agg cs => .agg (nilCells ns i 0 cs) | x => nilT (nilAt ns i 0) x
def nilArgs (ns : List (Nat × Nat × Nat)) : Nat → List A → List A
  | _, [] => []
  | i, x :: l => nilArg ns i x :: nilArgs ns (i + 1) l
theorem nilT_le1 (k : Option Nat) (x : A) (h : flat1 x = true) : leF1 x (nilT k x) := by
  unfold nilT
  split
  · exact .nil _
  · cases x <;> simp [flat1] at h
    exact .refl _
theorem nilCells_le (ns : List (Nat × Nat × Nat)) (i : Nat) : ∀ (l : List A) (j : Nat), l.all flat1 = true → leFs l (nilCells ns i j l)
  | [], _, _ => trivial
  | x :: l, j, h => by
    simp only [List.all_cons, Bool.and_eq_true] at h
    exact ⟨nilT_le1 _ x h.1, nilCells_le ns i l (j + 1) h.2⟩
theorem leF1_2 {x y : A} (h : leF1 x y) : leF2 x y := by
  cases x <;> cases y <;> first | exact h | exact h.elim
theorem nilArg_le (ns : List (Nat × Nat × Nat)) (i : Nat) (x : A) (h : flat2 x = true) : leF2 x (nilArg ns i x) := by
  cases x with
  | agg cs => exact nilCells_le ns i cs 0 h
  | _ => exact leF1_2 (nilT_le1 _ _ h)
theorem nilArgs_len (ns : List (Nat × Nat × Nat)) : ∀ (l : List A) (i : Nat), (nilArgs ns i l).length = l.length
  | [], _ => rfl
  | x :: l, i => by simp [nilArgs, nilArgs_len ns l]
theorem nilArgs_le (ns : List (Nat × Nat × Nat)) : ∀ (l : List A) (i j : Nat) (h : j < l.length) (h' : j < (nilArgs ns i l).length), l.all flat2 = true → leF2 l[j] (nilArgs ns i l)[j]
  | x :: l, i, 0, _, _, ha => by
    simp only [List.all_cons, Bool.and_eq_true] at ha
    exact nilArg_le ns i x ha.1
  | x :: l, i, j + 1, h, h', ha => by
    simp only [List.all_cons, Bool.and_eq_true] at ha
    exact nilArgs_le ns l (i + 1) j (by simpa using h) (by simpa [nilArgs] using h') ha.2
theorem leF2_repF {w : World} {M : Nat → Prop} {x y : A} {v : Value} (h : leF2 x y) (hr : RepF w M x v) : RepF w M y v := leF2_rep h hr
theorem fnP_nil {f : FuncId} {args : List A} {r : A} (ns : List (Nat × Nat × Nat)) (ha : args.all flat2 = true) (h : FnP P f (nilArgs ns 0 args) r) : FnP P f args r := by
  refine ⟨h.1, fun w X vals hX hsz hargs => h.2 w X vals hX (by rw [hsz, nilArgs_len]) fun i hi => ?_⟩
  have hi' : i < args.length := by rw [nilArgs_len] at hi; exact hi
  exact leF2_repF (nilArgs_le ns args 0 i hi' hi ha) (hargs i hi')
def ptrOb (s : LS) (q : Orc) (a : A) : Option (List Prop) :=
  match a with
  | .rptr id i j => (match getM s.ms id, q with | some (.row _ _ xs), .ix _ el => some [xs[i]? = some el] | _, _ => none)
  | a => match isPtr s.st a with | true => some [] | false => none
theorem ptrOb_ok {s : LS} {q : Orc} {a : A} {obs : List Prop} (h : ptrOb s q a = some obs) (ho : AllP obs) : isPtr s.st a = true := by
  unfold ptrOb at h
  split at h
  · rename_i id i j
    split at h
    · rename_i e' k' xs m el hm
      cases h
      show (match s.st.mem id with | some (.row _ _ xs) => decide (i < xs.length) | _ => false) = true
      rw [show s.st.mem id = some (.row _ _ xs) from hm]
      have := ho.1
      simp only [decide_eq_true_eq]
      apply Nat.lt_of_not_le
      intro hle
      rw [List.getElem?_eq_none hle] at this
      cases this
    · cases h
  · split at h
    · rename_i hp; exact hp
    · cases h
def stepX0 (P : Program) (o : Oper) (q : Orc) (s : LS) : Option (List Prop × LS) :=
  match o.op with
  | .move x | .assign x => some ([], s.put o.dst (s.st.ev x))
  | .pick c a b => match s.st.ev c with
    | .t (.v (.bool t)) => (match q with
      | .dec b' => some ([t = b'], s.put o.dst (pickX b' (s.st.ev a) (s.st.ev b)))
      | _ => some ([], s.put o.dst (pickA' t (s.st.ev a) (s.st.ev b))))
    | _ => none
  | .alloc ty => match o.dst, tinfo P ty with | some d, some ti => (match usedM s.ms d with | false => some ([], (s.new d (.box ty (ti.zero.map .v))).put (some d) (.ptr d 0)) | true => none) | _, _ => none
  | .box ty x => match o.dst, cellsOf (s.st.ev x) with | some d, some cs => (match usedM s.ms d with | false => some ([], (s.new d (.box ty cs)).put (some d) (.ptr d 0)) | true => none) | _, _ => none
  | .build t parts => match tinfo P t with
    | some ti => match tkind P t, fillA ti.fs (ti.zero.map .v) (parts.toList.map fun (i, x) => (i, s.st.ev x)) with | .strct, some cs => some ([], s.put o.dst (.agg cs)) | _, _ => none
    | none => none
  | .buildSlice t len parts => match o.dst, tinfo P t with
    | some d, some ti => match ti.elem with
      | some e => match tinfo P e with
        | some te => match usedM s.ms d, Nat.blt 0 te.size && Nat.beq parts.size len && Nat.ble (len * te.size) 16777216, (parts.toList.flatMap fun (_, x) => refs2 (s.st.ev x)) with
          | false, true, [] => (match partsT te.size 0 (parts.toList.map fun (i, x) => (i, s.st.ev x)) with
            | some xs => some ([], (s.new d (.row e te.size xs)).put (some d) (.ref d))
            | none => none)
          | _, _, _ => none
        | none => none
      | none => none
    | _, _ => none
  | .load t a => match tinfo P t with
    | some ti =>
      (match q with
      | .ix m el => (match s.st.ev a with
        | .rptr id i j => (match getM s.ms id, takeCells ((el.drop j).map .t) 0 ti.size ti.agg with
          | some (.row _ _ xs), some x => some ([xs[i]? = some el], s.put o.dst x)
          | _, _ => none)
        | _ => none)
      | _ => match peek s.st (s.st.ev a) ti with | some x => some ([], s.put o.dst x) | none => none)
    | none => none
  | .store t a x => match tinfo P t, cellsOf (s.st.ev x) with
    | some ti, some cs => (match Nat.beq cs.length ti.size with
      | true => (match s.st.ev a with
        | .ptr id off => (match getM s.ms id with
          | some (.box ty cells) => (match Nat.ble (off + cs.length) cells.length with
            | true => some ([], (s.new id (.box ty (cells.take off ++ cs ++ cells.drop (off + cs.length)))).put o.dst .dead)
            | false => none)
          | _ => none)
        | .rptr id i j => (match getM s.ms id, cellsT cs, q with
          | some (.row e k xs), some l, .set el ys => (match Nat.ble (j + l.length) el.length with
            | true => some ([xs[i]? = some el, RowOb (xs.set i (el.take j ++ l ++ el.drop (j + l.length))) ys], (s.new id (.row e k ys)).put o.dst .dead)
            | false => none)
          | _, _, _ => none)
        | _ => none)
      | false => none)
    | _, _ => none
  | .nilCheck x => match ptrOb s q (s.st.ev x) with | some obs => some (obs, s.put o.dst (s.st.ev x)) | none => none
  | .binOp op ty x y _ =>
    match q with
    | .val z => (match s.st.ev x, s.st.ev y, z.oneCell' with
      | .t (.v x), .t (.v y), true => some ([binA P s.st op ty (.t (.v x)) (.t (.v y)) = some z], s.put o.dst (.v z))
      | _, _, _ => none)
    | _ => match binA P s.st op ty (s.st.ev x) (s.st.ev y) with | some z => (match z.oneCell' with | true => some ([], s.put o.dst (.v z)) | false => none) | none => none
  | .unOp op _ x => match s.st.ev x with
    | .t (.v y) => (match unF op y with | some z => (match z.oneCell' with | true => some ([], s.put o.dst (.v z)) | false => none) | none => none)
    | _ => none
  | .convert src dst x =>
    match convA P src dst (s.st.ev x), tinfo P src with | some z, some _ => some ([], s.put o.dst z) | _, _ => none
  | .fieldAddr t x f => match tinfo P t, tkind P t with
    | some ti, .strct => (match ptrOb s q (s.st.ev x), fieldA ti (s.st.ev x) f with | some obs, some z => some (obs, s.put o.dst z) | _, _ => none)
    | _, _ => none
  | .field t x f => match tinfo P t, tkind P t with
    | some ti, .strct => (match subA ti (s.st.ev x) f with | some z => some ([], s.put o.dst z) | none => none)
    | _, _ => none
  | .indexAddr t x i => match tinfo P t with
    | some ti => match ti.elem with
      | some e => match tinfo P e, asList s.st (s.st.ev x), s.st.ev i, q with
        | some te, some (k', xs), .t (.v (.int k n)), .ix m el => (match Nat.beq k' te.size with
          | true => some ([IxOb xs n m el], s.put o.dst (match s.st.ev x with | .ref id => .rptr id m 0 | _ => .fel el))
          | false => none)
        | _, _, _, _ => none
      | none => none
    | none => none
  | .index t x i => match tkind P t, s.st.ev x, s.st.ev i, q with
    | .str, .t (.v (.string s')), .t (.v (.int k n)), .sx m b => some ([SxOb s' n m b], s.put o.dst (.v (.int .u8 b.toNat)))
    | _, _, _, _ => none
  | .extract x i => match s.st.ev x with
    | .tup cs => (match cs[i]? with | some y => some ([], s.put o.dst y) | none => none)
    | _ => none
  | .call c =>
    match c.callee, c.args.toList, c.argTypes.toList with
    | .builtin .len, [x], ty :: _ => (match q with
      | .len n => (match tkind P ty, asList s.st (s.st.ev x) with | .slice, some (k, xs) => some ([xs.length = n], s.put o.dst (.v (.int .i64 n))) | _, _ => none)
      | _ => match lenA P s.st ty (s.st.ev x) with | some z => some ([], s.put o.dst (.v z)) | none => none)
    | .builtin .append, [x, y], [t, t'] => (match o.dst, tinfo P t, q with
      | some d, some ti, .rows zs => (match ti.elem with
        | some e => (match tinfo P e, asList s.st (s.st.ev y) with
          | some te, some (k'', ys) => (match Nat.beq t t' && Nat.blt 0 te.size && Nat.beq k'' te.size, usedM s.ms d with
            | true, false =>
              (match s.st.ev x with
              | .t (.v (.slice none 0 0)) => some ([AppOb te.bytes ys.length, RowOb ys zs], (s.new d (.row e te.size zs)).put (some d) (.ref d))
              | .ref id => (match getM s.ms id with
                | some (.row e' k' xs) => (match Nat.beq e' e && Nat.beq k' te.size with
                  | true => some ([AppOb te.bytes (xs.length + ys.length), RowOb (xs ++ ys) zs], ((s.del id).new d (.row e te.size zs)).put (some d) (.ref d))
                  | false => none)
                | _ => none)
              | _ => none)
            | _, _ => none)
          | _, _ => none)
        | none => none)
      | _, _, _ => none)
    | .value (.func f), args, _ => (match q with
      | .call ns r => (match (args.map fun x => arg2 s.st (s.st.ev x)).all flat2, (args.map s.st.ev).flatMap refs2, scal3 r with
        | true, [], _ => some ([FnP P f (nilArgs ns 0 (args.map fun x => arg2 s.st (s.st.ev x))) r], s.put o.dst r)
        | true, _, true => some ([FnP P f (nilArgs ns 0 (args.map fun x => arg2 s.st (s.st.ev x))) r], s.put o.dst r)
        | _, _, _ => none)
      | _ => none)
    | _, _, _ => none
  | _ => none
def stepX (P : Program) (o : Oper) (q : Orc) (s : LS) : Option (List Prop × LS) :=
  match q with
  | .quiet z => (match (noRefs o s.st || scal3 z) && (argsOf o s.st).all flat2 with | true => some ([Quiet P o (argsOf o s.st) z], s.put o.dst z) | false => none)
  | .makes e k ys => (match o.dst, noRefs o s.st && makesRow o s.st && (argsOf o s.st).all flat2 with
    | some d, true => (match usedM s.ms d with | false => some ([Makes P o (argsOf o s.st) e k ys], (s.new d (.row e k ys)).put (some d) (.ref d)) | true => none)
    | _, _ => none)
  | .moves i b' => (match o.dst, ((opL o.op).map s.st.ev)[i]? with
    | some d, some (.ref id) => (match getM s.ms id, usedM s.ms d, movesRow o i with
      | some b, false, true => some ([OwnMove P o i b (((opL o.op).map s.st.ev).set i .dead) b'], ((s.del id).new d b').put (some d) (.ref d))
      | _, _, _ => none)
    | _, _ => none)
  | .sets i b' r => (match ((opL o.op).map s.st.ev)[i]? with
    | some y => (match own1 y with
      | [id] => (match getM s.ms id, setsRow o with
        | some (.obj od), true => (match y with | .ob _ => some ([OwnSet P o i (.obj od) (((opL o.op).map s.st.ev).set i .dead) b' r], (s.new id b').put o.dst r) | _ => none)
        | some (.row e k xs), true => (match y with | .ref _ => some ([OwnSet P o i (.row e k xs) (((opL o.op).map s.st.ev).set i .dead) b' r], (s.new id b').put o.dst r) | _ => none)
        | _, _ => none)
      | _ => none)
    | _ => none)
  | .newo od => (match o.dst, newsObj o && (noRefs o s.st && (argsOf o s.st).all flat2) with
    | some d, true => (match usedM s.ms d with | false => some ([NewObj P o (argsOf o s.st) od], (s.new d (.obj od)).put (some d) (.ob d)) | true => none)
    | _, _ => none)
  | .io v r m' => (match o.op with
    | .call c => (match c.callee, (c.args.toList.map s.st.ev) with
      | .value (.func f), evs =>
        (match ioArgs v (onlyM (reach s.st evs) s.ms) 0 evs, ioB v (onlyM (reach s.st evs) s.ms) v.B, ioR (onlyM (reach s.st evs) s.ms) v.R, tupOk r && (hasPtr evs || (evs.flatMap ids3).isEmpty) with
        | some cargs, some bs, some rs, true =>
          (match ioOk v (reach s.st evs) (sortM (bs ++ rs ++ ioZ v.Z)), ioBack v s o.dst (sortM (bs ++ rs ++ ioZ v.Z)) m' with
          | true, true => some ([FnIO P f cargs (sortM (bs ++ rs ++ ioZ v.Z)) r m'], (s.back v (reach s.st evs) m').put o.dst (ren3 (nuIO v) r))
          | _, _ => none)
        | _, _, _, _ => none)
      | _, _ => none)
    | _ => none)
  | .callv r => (match o.op with
    | .call c => (match c.callee with
      | .value x => (match s.st.ev x with
        | .t t => (match (c.args.toList.map fun y => arg2 s.st (s.st.ev y)).all flat2 && (((c.args.toList.map s.st.ev).flatMap refs2).isEmpty || scal3 r) with
          | true => some ([FnC P t (c.args.toList.map fun y => arg2 s.st (s.st.ev y)) r], s.put o.dst r)
          | false => none)
        | _ => none)
      | _ => none)
    | _ => none)
  | .look ns r => (match o.op with
    | .call c => (match c.callee with
      | .value (.func f) => (match (c.args.toList.map fun y => look2 s.st (s.st.ev y)).all flat2 && scal3 r with
        | true => some ([FnP P f (nilArgs ns 0 (c.args.toList.map fun y => look2 s.st (s.st.ev y))) r], s.put o.dst r)
        | false => none)
      | _ => none)
    | _ => none)
  | q => stepX0 P o q s
end Go.Proofs.Ytblikpgdepjhdaa
namespace Go.Proofs.Ytblikpgdepjhdaa
open Go.RowKit
set_option linter.unusedVariables false
variable {P : Program}
theorem leM_some {ρ : Nat → Option Nat} {st : St} {ms : List (Nat × Blk)} {i j : Nat} {b' b : Blk} (h : ρ i = some j) (hb : st.mem j = some b) (hl : leB ρ st ms b b') : leM ρ st ms (i, b') := by
  unfold leM; rw [h]; exact ⟨b, hb, hl⟩
theorem leM_none {ρ : Nat → Option Nat} {st : St} {ms : List (Nat × Blk)} {i : Nat} {e k : Nat} (h : ρ i = none) (h0 : 0 < k) : leM ρ st ms (i, .row e k []) := by
  unfold leM; rw [h]; exact ⟨e, k, rfl, h0⟩
theorem isId_iff {j : Nat} {x : Option Nat} (h : isId j x = true) : x = some j := by
  cases x with
  | none => cases h
  | some i => exact congrArg some (Nat.eq_of_beq_eq_true h)
theorem isId_self (j : Nat) : isId j (some j) = true := by simp [isId]
theorem memN_iff : ∀ {l : List Nat} {j : Nat}, memN l j = true → j ∈ l
  | i :: l, j, h => by
    unfold memN at h
    split at h
    · rename_i e; rw [beq_t e]; exact List.mem_cons_self
    · exact List.mem_cons_of_mem _ (memN_iff h)
theorem rnm_mem : ∀ {R : List (Nat × Nat)} {j i : Nat}, rnm R j = some i → (j, i) ∈ R
  | (a, b) :: l, j, i, h => by
    unfold rnm at h
    split at h
    · rename_i e; cases h; rw [← beq_t e]; exact List.mem_cons_self
    · exact List.mem_cons_of_mem _ (rnm_mem h)
theorem le1_2 {ρ : Nat → Option Nat} {st : St} {ms : List (Nat × Blk)} {x y : A} (h : le1 ρ st ms x y) : le2 ρ st ms x y := by
  cases x <;> cases y <;> first | exact h | exact h.elim
theorem distinctX_get : ∀ (l : List (Option Nat)), distinctX l = true → ∀ (i j x : Nat), l[i]? = some (some x) → l[j]? = some (some x) → i = j
  | [], _, i, j, x, h1, _ => by simp at h1
  | none :: l, h, i, j, x, h1, h2 => by
    cases i with
    | zero => simp at h1
    | succ i => cases j with
      | zero => simp at h2
      | succ j => simp at h1 h2; rw [distinctX_get l h i j x h1 h2]
  | some y :: l, h, i, j, x, h1, h2 => by
    simp only [distinctX, Bool.and_eq_true, List.all_eq_true, Bool.not_eq_true'] at h
    have no : ∀ k : Nat, l[k]? = some (some y) → False := fun k hk => by
      have := h.1 _ (List.mem_of_getElem? hk)
      rw [isId_self] at this; cases this
    cases i with
    | zero =>
      simp at h1
      subst h1
      cases j with
      | zero => rfl
      | succ j => simp at h2; exact (no _ h2).elim
    | succ i => cases j with
      | zero =>
        simp at h2
        subst h2
        simp at h1
        exact (no _ h1).elim
      | succ j => simp at h1 h2; rw [distinctX_get l h.2 i j x h1 h2]
theorem memN_of : ∀ {l : List Nat} {j : Nat}, j ∈ l → memN l j = true
  | i :: l, j, h => by
    unfold memN
    split
    · rfl
    · rename_i e
      rcases List.mem_cons.1 h with rfl | h
      · exact absurd rfl (beq_f e)
      · exact memN_of h
theorem memN_contains (l : List Nat) (j : Nat) : memN l j = l.contains j := by
  cases h : l.contains j with
  | true => exact memN_of (by simpa using h)
  | false =>
    cases h2 : memN l j with
    | false => rfl
    | true => have := memN_iff h2; simp at h; exact absurd this h
theorem onlyM_st (J : List Nat) (s : LS) : onlyM J s.ms = (s.st.only J).mem := by
  funext i
  unfold onlyM
  show _ = if J.contains i = true then getM s.ms i else none
  rw [memN_contains]
  cases J.contains i <;> rfl
theorem nodupN_iff : ∀ {l : List Nat}, nodupN l = true → l.Nodup
  | [], _ => List.nodup_nil
  | i :: l, h => by
    simp only [nodupN, Bool.and_eq_true] at h
    refine List.nodup_cons.2 ⟨fun hi => ?_, nodupN_iff h.2⟩
    have h1 := h.1
    rw [memN_of hi] at h1
    cases h1
theorem isKin_iff {b : Option Blk} {c : Blk} (h : isKin b c = true) : ∃ x, b = some x ∧ x.alike c ∧ ∀ e k xs, x ≠ .row e k xs := by
  unfold isKin at h
  split at h
  · exact ⟨_, rfl, trivial, fun _ _ _ h => by cases h⟩
  · refine ⟨_, rfl, ?_, fun _ _ _ h => by cases h⟩
    split at h
    · rename_i h1 h2; show Od.isMap _ = Od.isMap _; rw [h1, h2]
    · rename_i h1 h2; show Od.isMap _ = Od.isMap _; rw [h1, h2]
    · cases h
  · cases h
section
variable {v : IOV} {s : LS} {J : List Nat} {m : List (Nat × Blk)}
theorem ioL_le (hk : ioOk v J m = true) {nt : Option NilTo} {a a' : A} (h : ioL v (onlyM J s.ms) nt a = some a') : le1 (rhoIO v) (s.st.only J) m a a' := by
  simp only [ioOk, Bool.and_eq_true, List.all_eq_true] at hk
  obtain ⟨h1, h2, h3, h4, h5, h6⟩ := hk
  have renR : ∀ {j i : Nat}, rnm v.R j = some i → rhoIO v i = some j ∧ (look m i).isSome = true := fun {j i} h => by
    have := h1 _ (rnm_mem h)
    refine ⟨isId_iff this.1, ?_⟩
    have h2 := this.2
    cases hl : look m i with
    | none => rw [hl] at h2; cases h2
    | some b => rfl
  have renB : ∀ {j i : Nat}, rnm v.B j = some i → rhoIO v i = some j ∧ (look m i).isSome = true := fun {j i} h => by
    have := h2 _ (rnm_mem h)
    refine ⟨isId_iff this.1, ?_⟩
    have h2 := this.2
    cases hl : look m i with
    | none => rw [hl] at h2; cases h2
    | some b => rfl
  unfold ioL at h
  split at h
  · split at h
    · cases h; exact .nil _
    · split at h
      · rename_i id hz
        cases h
        obtain ⟨p, hp, hpe⟩ := List.mem_map.1 (memN_iff hz)
        have := h3 p hp
        subst hpe
        refine ⟨rfl, ?_, ?_⟩
        · have h3 := this.1.1
          cases hr : rhoIO v p.1 with
          | none => rfl
          | some i => rw [hr] at h3; cases h3
        · have h3 := this.1.2
          unfold emptyRow at h3
          split at h3
          · rename_i e k hl; exact ⟨e, k, hl⟩
          · cases h3
      · cases h
    · cases h; exact .refl _
  · split at h
    · rename_i j i hr; cases h; exact renR hr
    · split at h
      · rename_i j _ e k xs hF hm
        cases h
        refine ⟨e, k, xs, by rw [← onlyM_st]; exact hm, .refl _, fun p hp hq => ?_⟩
        have := h5 _ (memN_iff hF) p hp
        rw [hq] at this
        simp [isId_self] at this
      · cases h
  · split at h
    · rename_i j o i hb; cases h; exact ⟨(renB hb).1, rfl, (renB hb).2⟩
    · cases h
  · split at h
    · rename_i t0 j o i hb; cases h; exact ⟨(renB hb).1, ⟨rfl, rfl⟩, (renB hb).2⟩
    · cases h
  · split at h
    · rename_i j p q i hr; cases h; exact ⟨(renR hr).1, rfl, rfl, (renR hr).2⟩
    · cases h
  · split at h
    · rename_i j i hr; cases h; exact ⟨(renR hr).1, (renR hr).2⟩
    · cases h
  · cases h; rfl
  · cases h
theorem ioCs_le (hk : ioOk v J m = true) {sp : List (Nat × Nat × NilTo)} {t : Nat} : ∀ {l r : List A} {j : Nat}, ioCs v (onlyM J s.ms) sp t j l = some r → leCells (rhoIO v) (s.st.only J) m l r
  | [], r, j, h => by cases h; trivial
  | a :: l, r, j, h => by
    unfold ioCs at h
    split at h
    · rename_i x r' hx hr; cases h; exact ⟨ioL_le hk hx, ioCs_le hk hr⟩
    · cases h
theorem ioArg_le (hk : ioOk v J m = true) {i : Nat} {a a' : A} (h : ioArg v (onlyM J s.ms) i a = some a') : le2 (rhoIO v) (s.st.only J) m a a' := by
  unfold ioArg at h
  split at h
  · split at h
    · rename_i r hr; cases h; exact ioCs_le hk hr
    · cases h
  · exact le1_2 (ioL_le hk h)
theorem ioArgs_le (hk : ioOk v J m = true) : ∀ {l r : List A} {i : Nat}, ioArgs v (onlyM J s.ms) i l = some r → le3s (rhoIO v) (s.st.only J) m l r
  | [], r, i, h => by cases h; trivial
  | a :: l, r, i, h => by
    unfold ioArgs at h
    split at h
    · rename_i x r' hx hr; cases h; exact ⟨ioArg_le hk hx, ioArgs_le hk hr⟩
    · cases h
theorem ioB_le (hk : ioOk v J m = true) : ∀ {B : List (Nat × Nat)} {bs : List (Nat × Blk)}, ioB v (onlyM J s.ms) B = some bs → (∀ p ∈ B, p ∈ v.B) → ∀ p ∈ bs, leM (rhoIO v) (s.st.only J) m p
  | [], bs, h, _, p, hp => by cases h; cases hp
  | (j, i) :: l, bs, h, hB, p, hp => by
    unfold ioB at h
    split at h
    · rename_i ty cells hm
      split at h
      · rename_i r rest hr hrest
        cases h
        rcases List.mem_cons.1 hp with rfl | hp
        · have h3 := hk
          simp only [ioOk, Bool.and_eq_true, List.all_eq_true] at h3
          rw [onlyM_st] at hm
          exact leM_some (isId_iff (h3.2.1 _ (hB _ List.mem_cons_self)).1) hm ⟨rfl, ioCs_le hk hr⟩
        · exact ioB_le hk hrest (fun x hx => hB x (List.mem_cons_of_mem _ hx)) p hp
      · cases h
    · cases h
theorem ioR_le (hk : ioOk v J m = true) : ∀ {R : List (Nat × Nat)} {rs : List (Nat × Blk)}, ioR (onlyM J s.ms) R = some rs → (∀ p ∈ R, p ∈ v.R) → ∀ p ∈ rs, leM (rhoIO v) (s.st.only J) m p
  | [], rs, h, _, p, hp => by cases h; cases hp
  | (j, i) :: l, rs, h, hR, p, hp => by
    unfold ioR at h
    split at h
    · rename_i e k xs hm
      split at h
      · rename_i rest hrest
        cases h
        rcases List.mem_cons.1 hp with rfl | hp
        · have h3 := hk
          simp only [ioOk, Bool.and_eq_true, List.all_eq_true] at h3
          rw [onlyM_st] at hm
          exact leM_some (isId_iff (h3.1 _ (hR _ List.mem_cons_self)).1) hm ⟨rfl, rfl, leRows_refl xs⟩
        · exact ioR_le hk hrest (fun x hx => hR x (List.mem_cons_of_mem _ hx)) p hp
      · cases h
    · rename_i od hm
      split at h
      · rename_i rest hrest
        cases h
        rcases List.mem_cons.1 hp with rfl | hp
        · have h3 := hk
          simp only [ioOk, Bool.and_eq_true, List.all_eq_true] at h3
          rw [onlyM_st] at hm
          exact leM_some (isId_iff (h3.1 _ (hR _ List.mem_cons_self)).1) hm rfl
        · exact ioR_le hk hrest (fun x hx => hR x (List.mem_cons_of_mem _ hx)) p hp
      · cases h
    · cases h
theorem ioZ_le (hk : ioOk v J m = true) : ∀ {Z : List (Nat × Nat × Nat)}, (∀ p ∈ Z, p ∈ v.Z) → ∀ p ∈ ioZ Z, leM (rhoIO v) (s.st.only J) m p
  | [], _, p, hp => by cases hp
  | (i, e, k) :: l, hZ, p, hp => by
    rcases List.mem_cons.1 hp with rfl | hp
    · have h3 := hk
      simp only [ioOk, Bool.and_eq_true, List.all_eq_true] at h3
      have := h3.2.2.1 _ (hZ _ List.mem_cons_self)
      have e1 : rhoIO v i = none := by
        have h4 := this.1.1
        cases hr : rhoIO v i with
        | none => rfl
        | some x => rw [hr] at h4; cases h4
      exact leM_none e1 (Nat.lt_of_succ_le (Nat.le_of_ble_eq_true this.2))
    · exact ioZ_le hk (fun x hx => hZ x (List.mem_cons_of_mem _ hx)) p hp
end
theorem lkM_append (l r : List (Nat × Option Blk)) (i : Nat) : lkM (l ++ r) i = match lkM l i with | some x => some x | none => lkM r i := by
  induction l with
  | nil => rfl
  | cons p l ih =>
    obtain ⟨j, b⟩ := p
    rw [List.cons_append, lkM_cons, lkM_cons]
    split
    · rfl
    · exact ih
theorem lkM_back (v : IOV) (i : Nat) : ∀ m' : List (Nat × Blk), lkM (backM v m') i = (fnd m' (nuIO v) i).map fun p => some (p.2.ren (nuIO v))
  | [] => rfl
  | (j, b) :: l => by
    rw [backM, lkM_cons, lkM_back v i l]
    show _ = (if i = nuIO v j then some (j, b) else fnd l (nuIO v) i).map _
    split <;> rfl
theorem lkM_gone (ms : List (Nat × Option Blk)) (i : Nat) : ∀ J : List Nat, lkM (goneM ms J) i = if J.contains i = true ∧ usedM ms i = true then some none else none
  | [] => by simp [goneM, lkM]
  | j :: l => by
    unfold goneM
    have ih := lkM_gone ms i l
    split
    · rename_i hj
      rw [lkM_cons, ih]
      by_cases e : i = j
      · subst e; simp [hj]
      · simp [e]
    · rename_i hj
      rw [ih]
      by_cases e : i = j
      · subst e; simp [hj]
      · simp [e]
theorem back_st (s : LS) (v : IOV) (J : List Nat) (m' : List (Nat × Blk)) : (s.back v J m').st = s.st.back J m' (nuIO v) := by
  unfold LS.back LS.st St.back
  congr 1
  · funext i
    show getM (backM v m' ++ (goneM s.ms J ++ s.ms)) i = match fnd m' (nuIO v) i with | some p => some (p.2.ren (nuIO v)) | none => if J.contains i then none else getM s.ms i
    unfold getM
    rw [lkM_append, lkM_back]
    cases fnd m' (nuIO v) i with
    | some p => rfl
    | none =>
      simp only [Option.map_none]
      rw [lkM_append, lkM_gone]
      by_cases h1 : J.contains i = true
      · by_cases h2 : usedM s.ms i = true
        · rw [if_pos ⟨h1, h2⟩, if_pos h1]
        · rw [if_neg (fun h => h2 h.2), if_pos h1]
          cases h3 : lkM s.ms i with
          | none => rfl
          | some x => exact absurd (show usedM s.ms i = true by simp [usedM, h3]) h2
      · rw [if_neg (fun h => h1 h.1), if_neg h1]
  · funext i
    show usedM (backM v m' ++ (goneM s.ms J ++ s.ms)) i = match fnd m' (nuIO v) i with | some _ => true | none => usedM s.ms i
    unfold usedM
    rw [lkM_append, lkM_back]
    cases fnd m' (nuIO v) i with
    | some p => rfl
    | none =>
      simp only [Option.map_none]
      rw [lkM_append, lkM_gone]
      by_cases h2 : J.contains i = true ∧ usedM s.ms i = true
      · rw [if_pos h2]
        have := h2.2
        unfold usedM at this
        exact this.symm
      · rw [if_neg h2]
theorem insM_mem {p q : Nat × Blk} : ∀ {l : List (Nat × Blk)}, q ∈ insM p l → q = p ∨ q ∈ l
  | [], h => by simp [insM] at h; exact .inl h
  | r :: l, h => by
    unfold insM at h
    split at h
    · rcases List.mem_cons.1 h with h | h
      · exact .inl h
      · exact .inr h
    · rcases List.mem_cons.1 h with h | h
      · exact .inr (by rw [h]; exact List.mem_cons_self)
      · rcases insM_mem h with h | h
        · exact .inl h
        · exact .inr (List.mem_cons_of_mem _ h)
theorem sortM_mem {q : Nat × Blk} : ∀ {l : List (Nat × Blk)}, q ∈ sortM l → q ∈ l
  | [], h => h
  | p :: l, h => by
    rcases insM_mem h with h | h
    · rw [h]; exact List.mem_cons_self
    · exact List.mem_cons_of_mem _ (sortM_mem h)
theorem io_ok {d : Option Nat} {v : IOV} {r : A} {m' : List (Nat × Blk)} {s : LS} {evs : List A} {f : FuncId} {cargs : List A} {bs rs : List (Nat × Blk)}
    (ha : ioArgs v (onlyM (reach s.st evs) s.ms) 0 evs = some cargs) (hb : ioB v (onlyM (reach s.st evs) s.ms) v.B = some bs) (hr : ioR (onlyM (reach s.st evs) s.ms) v.R = some rs)
    (ht : tupOk r = true) (hp : hasPtr evs = true ∨ evs.flatMap ids3 = []) (hok : ioOk v (reach s.st evs) (sortM (bs ++ rs ++ ioZ v.Z)) = true) (hbk : ioBack v s d (sortM (bs ++ rs ++ ioZ v.Z)) m' = true)
    (hf : FnIO P f cargs (sortM (bs ++ rs ++ ioZ v.Z)) r m') (K : St → Prop) (hK : K ((s.back v (reach s.st evs) m').put d (ren3 (nuIO v) r)).st) : CallIO P f d evs s.st K := by
  generalize hJ : reach s.st evs = J at *
  have h3 := hok
  simp only [ioOk, Bool.and_eq_true, List.all_eq_true] at h3
  obtain ⟨k1, k2, k3, k4, k5, k6⟩ := h3
  simp only [ioBack, Bool.and_eq_true, List.all_eq_true] at hbk
  obtain ⟨b1, b2, b3⟩ := hbk
  have inj : ∀ {α : Type} {l : List α} {g : α → Nat}, (l.map g).Nodup → ∀ p ∈ l, ∀ q ∈ l, g p = g q → p = q := fun {α l g} hn p hp q hq he => by
    obtain ⟨i, hi, rfl⟩ := List.getElem_of_mem hp
    obtain ⟨j, hj, rfl⟩ := List.getElem_of_mem hq
    have hi' : i < (l.map g).length := by simpa using hi
    have hj' : j < (l.map g).length := by simpa using hj
    have := (List.getElem_inj (i := i) (j := j) (h₀ := hi') (h₁ := hj') hn).1 (by simpa using he)
    subst this; rfl
  have hkeys := inj (nodupN_iff b1)
  have hnu := inj (nodupN_iff b2)
  refine ⟨cargs, _, r, m', rhoIO v, nuIO v, hf, ht, hp, ⟨⟨fun p hp => (by cases hp), fun p hp => ?_, fun p hp q hq j h1 h2 => ?_⟩, fun p hp j hj => ?_, fun p hp => ?_, fun p hp q hq he => by rw [hnu p hp q hq he], fun p hp hpp => ?_, fun p hp hpp => ?_⟩, fun p hp hpp => ?_, by rw [hJ]; exact ioArgs_le hok ha, by rw [hJ, ← back_st, ← put_st]; exact hK⟩
  all_goals try rw [hJ]
  · rcases List.mem_append.1 (sortM_mem hp) with hp | hp
    · rcases List.mem_append.1 hp with hp | hp
      · exact ioB_le hok hb (fun _ h => h) p hp
      · exact ioR_le hok hr (fun _ h => h) p hp
    · exact ioZ_le hok (fun _ h => h) p hp
  · obtain ⟨i, hi, rfl⟩ := List.getElem_of_mem hp
    obtain ⟨i', hi', rfl⟩ := List.getElem_of_mem hq
    have := distinctX_get _ k4 i i' j (by rw [List.getElem?_map, List.getElem?_eq_getElem hi, Option.map_some, h1]) (by rw [List.getElem?_map, List.getElem?_eq_getElem hi', Option.map_some, h2])
    subst this
    rfl
  · have := k6 p hp
    rw [hj] at this
    rw [← memN_contains]; exact this
  · cases hl : look m' p.1 with
    | none =>
      exfalso
      have : ∀ l : List (Nat × Blk), p ∈ l → look l p.1 ≠ none := fun l => by
        induction l with
        | nil => intro h; cases h
        | cons q l ih =>
          intro h
          obtain ⟨k, b⟩ := q
          unfold look
          split
          · simp
          · rename_i e
            rcases List.mem_cons.1 h with h | h
            · exact absurd (by rw [h]) e
            · exact ih h
      exact this m' hp hl
    | some b =>
      have := hkeys p hp _ (look_mem hl) rfl
      rw [this]
  · have := b3 p hp
    rw [hpp] at this
    simp only [Bool.and_eq_true] at this
    obtain ⟨q1, q2⟩ := this
    exact ⟨isId_iff q1, isKin_iff q2⟩
  · have := b3 p hp
    rw [hpp] at this
    simp only [Bool.and_eq_true, Bool.or_eq_true] at this
    refine ⟨?_, ?_⟩
    · have h1 := this.1.1
      show usedM s.ms (nuIO v p.1) = false
      cases hu : usedM s.ms (nuIO v p.1) with
      | false => rfl
      | true => rw [hu] at h1; cases h1
    · rcases this.1.2 with h | h
      · exact .inl (Nat.lt_of_succ_le (Nat.le_of_ble_eq_true h))
      · exact .inr (Nat.le_of_ble_eq_true h)
  · have := b3 p hp
    rw [hpp] at this
    simp only [Bool.and_eq_true] at this
    exact memN_iff this.2
end Go.Proofs.Ytblikpgdepjhdaa
namespace Go.Proofs.Ytblikpgdepjhdaa
open Go.RowKit
set_option linter.unusedVariables false
variable {P : Program}
theorem stepX0_ok {o : Oper} {q : Orc} {s s' : LS} {obs : List Prop} (h : stepX0 P o q s = some (obs, s')) (ho : AllP obs) (K : St → Prop) (hK : K s'.st) : stepW P o s.st K := by
  unfold stepX0 at h
  split at h
  · rename_i x e; cases h; refine stepM_W ?_; unfold stepM; simp only [e]; rw [← put_st]; exact hK
  · rename_i x e; cases h; refine stepM_W ?_; unfold stepM; simp only [e]; rw [← put_st]; exact hK
  · rename_i c x y e
    refine stepM_W ?_; unfold stepM; simp only [e]
    split at h
    · rename_i t ht
      split at h
      · rename_i b'
        cases h
        have e1 : t = b' := ho.1
        subst e1
        rw [ht]; simp only; rw [← put_st]
        have : pickA t (s.st.ev x) (s.st.ev y) = pickX t (s.st.ev x) (s.st.ev y) := by cases t <;> rfl
        rw [this]; exact hK
      · cases h; rw [ht]; simp only; rw [← pickA'_eq, ← put_st]; exact hK
    · cases h
  · rename_i ty e
    refine stepM_W ?_; unfold stepM; simp only [e]
    split at h
    · rename_i d ti hd hti
      split at h
      · rename_i hu; cases h; rw [hd, hti]; simp only; exact ⟨hu, by rw [← new_st, ← put_st]; exact hK⟩
      · cases h
    · cases h
  · rename_i ty x e
    refine stepM_W ?_; unfold stepM; simp only [e]
    split at h
    · rename_i d cs hd hcs
      split at h
      · rename_i hu; cases h; rw [hd, hcs]; simp only; exact ⟨hu, by rw [← new_st, ← put_st]; exact hK⟩
      · cases h
    · cases h
  · rename_i t parts e
    refine stepM_W ?_; unfold stepM; simp only [e]
    split at h
    · rename_i ti hti
      split at h
      · rename_i cs hk hf; cases h; rw [hti]; simp only; rw [hk, hf]; simp only; rw [← put_st]; exact hK
      · cases h
    · cases h
  · rename_i t len parts e
    refine stepM_W ?_; unfold stepM; simp only [e]
    split at h
    · rename_i d ti hd hti
      split at h
      · rename_i el hel
        split at h
        · rename_i te hte
          split at h
          · rename_i hu hb hr
            split at h
            · rename_i xs hxs
              cases h
              rw [hd, hti]; simp only; rw [hel]; simp only; rw [hte]; simp only
              simp only [Bool.and_eq_true] at hb
              refine ⟨hu, Nat.lt_of_succ_le (Nat.le_of_ble_eq_true hb.1.1), Nat.eq_of_beq_eq_true hb.1.2, Nat.le_of_ble_eq_true hb.2, ?_⟩
              rw [hr]
              show (match partsT te.size 0 (parts.toList.map fun (i, x) => (i, s.st.ev x)) with | some xs => _ | none => False)
              rw [hxs]
              simp only [St.frzs]
              rw [← new_st, ← put_st]; exact hK
            · cases h
          · cases h
        · cases h
      · cases h
    · cases h
  · rename_i t x e
    refine stepM_W ?_; unfold stepM; simp only [e]
    split at h
    · rename_i ti hti
      split at h
      · rename_i m el
        split at h
        · rename_i id i j ha
          split at h
          · rename_i e' k xs y hm hy
            cases h
            rw [hti]; simp only
            have : peek s.st (s.st.ev x) ti = some y := by
              rw [ha]
              show (match s.st.mem id with | some (.row _ _ xs) => (xs[i]?).bind fun el => takeCells ((el.drop j).map .t) 0 ti.size ti.agg | _ => none) = _
              rw [show s.st.mem id = some (.row e' k xs) from hm]
              simp only
              rw [show xs[i]? = some el from ho.1]
              exact hy
            rw [this]; simp only; rw [← put_st]; exact hK
          · cases h
        · cases h
      · split at h
        · rename_i y hy; cases h; rw [hti]; simp only; rw [hy]; simp only; rw [← put_st]; exact hK
        · cases h
    · cases h
  · rename_i t x y e
    split at h
    · rename_i ti cs hti hcs
      split at h
      · rename_i hsz
        have hsz := Nat.eq_of_beq_eq_true hsz
        split at h
        · rename_i id off ha
          split at h
          · rename_i ty cells hm
            split at h
            · rename_i hle
              cases h
              refine stepM_W ?_; unfold stepM; simp only [e]
              rw [hti, hcs]; simp only
              refine ⟨hsz, ?_⟩
              rw [ha]; simp only
              rw [show s.st.mem id = some (.box ty cells) from hm]; simp only
              refine ⟨Nat.le_of_ble_eq_true hle, ?_⟩
              rw [← setm_st s id _ _ hm, ← put_st]; exact hK
            · cases h
          · cases h
        · rename_i id i j ha
          split at h
          · rename_i e' k xs l el ys hm hl
            split at h
            · rename_i hle
              cases h
              obtain ⟨h2, h3, _⟩ := ho
              refine stepM_W ?_; unfold stepM; simp only [e]
              rw [hti, hcs]; simp only
              refine ⟨hsz, ?_⟩
              rw [ha]; simp only
              rw [show s.st.mem id = some (.row e' k xs) from hm, hl]; simp only
              refine ⟨el, h2, Nat.le_of_ble_eq_true hle, ?_⟩
              rw [show xs.set i (el.take j ++ l ++ el.drop (j + l.length)) = ys from h3, ← setm_st s id _ _ hm, ← put_st]; exact hK
            · cases h
          · cases h
        · cases h
      · cases h
    · cases h
  · rename_i x e
    refine stepM_W ?_; unfold stepM; simp only [e]
    split at h
    · rename_i ob hp; cases h; exact ⟨ptrOb_ok hp ho, by rw [← put_st]; exact hK⟩
    · cases h
  · rename_i op ty x y ty2 e
    split at h
    · rename_i z
      split at h
      · rename_i a b hx hy hz
        cases h
        refine stepM_W ?_; unfold stepM; simp only [e]
        rw [hx, hy, show binA P s.st op ty (.t (.v a)) (.t (.v b)) = some z from ho.1]
        exact ⟨hz, by rw [← put_st]; exact hK⟩
      · cases h
    · split at h
      · rename_i z hz
        split at h
        · rename_i h1
          cases h
          refine stepM_W ?_; unfold stepM; simp only [e]
          rw [hz]
          exact ⟨h1, by rw [← put_st]; exact hK⟩
        · cases h
      · cases h
  · rename_i op ty x e
    refine stepM_W ?_; unfold stepM; simp only [e]
    split at h
    · rename_i y hy
      split at h
      · rename_i z hz
        split at h
        · rename_i h1
          cases h
          rw [hy]; simp only; rw [hz]
          exact ⟨h1, by rw [← put_st]; exact hK⟩
        · cases h
      · cases h
    · cases h
  · rename_i src dst x e
    split at h
    · rename_i z ti hz hti
      cases h
      refine stepM_W ?_; unfold stepM; simp only [e]
      rw [hz]
      exact ⟨by rw [hti]; rfl, by rw [← put_st]; exact hK⟩
    · cases h
  · rename_i t x f e
    refine stepM_W ?_; unfold stepM; simp only [e]
    split at h
    · rename_i ti hti hk
      split at h
      · rename_i ob z hp hz
        cases h
        rw [hti, hk]; simp only
        refine ⟨ptrOb_ok hp ho, ?_⟩
        rw [hz]; simp only; rw [← put_st]; exact hK
      · cases h
    · cases h
  · rename_i t x f e
    refine stepM_W ?_; unfold stepM; simp only [e]
    split at h
    · rename_i ti hti hk
      split at h
      · rename_i z hz
        cases h
        rw [hti, hk]; simp only
        rw [hz]; simp only; rw [← put_st]; exact hK
      · cases h
    · cases h
  · rename_i t x i e
    refine stepM_W ?_; unfold stepM; simp only [e]
    split at h
    · rename_i ti hti
      split at h
      · rename_i el hel
        split at h
        · rename_i te k' xs k n m el' hte hl hi
          split at h
          · rename_i hk
            cases h
            rw [hti]; simp only; rw [hel]; simp only; rw [hte, hl, hi]; simp only
            obtain ⟨⟨h1, h2⟩, _⟩ := ho
            exact ⟨Nat.eq_of_beq_eq_true hk, m, el', h1, h2, by rw [put_st] at hK; exact hK⟩
          · cases h
        · cases h
      · cases h
    · cases h
  · rename_i t x i e
    refine stepM_W ?_; unfold stepM; simp only [e]
    split at h
    · rename_i s' k n m b hk hx hi
      cases h
      rw [hk, hx, hi]; simp only
      obtain ⟨⟨h1, h2⟩, _⟩ := ho
      exact ⟨m, b, h1, h2, by rw [put_st] at hK; exact hK⟩
    · cases h
  · rename_i x i e
    refine stepM_W ?_; unfold stepM; simp only [e]
    split at h
    · rename_i cs hx
      split at h
      · rename_i y hy
        cases h
        rw [hx]; simp only; rw [hy]; simp only; rw [← put_st]; exact hK
      · cases h
    · cases h
  · rename_i c e
    obtain ⟨callee, args, ts⟩ := c
    dsimp only at h
    split at h
    · rename_i x ty tl ha hts
      refine stepM_W ?_; unfold stepM; simp only [e, ha, hts]
      split at h
      · rename_i n
        split at h
        · rename_i k xs hk hl
          cases h
          have : lenA P s.st ty (s.st.ev x) = some (.int .i64 n) := by
            unfold lenA
            rw [hk]
            simp only
            rw [hl, Option.map_some, ← show xs.length = n from ho.1]
          rw [this]; simp only; rw [← put_st]; exact hK
        · cases h
      · split at h
        · rename_i z hz
          cases h
          rw [hz]; simp only; rw [← put_st]; exact hK
        · cases h
    · rename_i x y t t' ha hts
      split at h
      · rename_i d ti zs hd hti
        split at h
        · rename_i el hel
          split at h
          · rename_i te k'' ys hte hl
            split at h
            · rename_i hb hu
              simp only [Bool.and_eq_true] at hb
              have h1 := Nat.eq_of_beq_eq_true hb.1.1
              have h2 := Nat.lt_of_succ_le (Nat.le_of_ble_eq_true hb.1.2)
              have h3 := Nat.eq_of_beq_eq_true hb.2
              split at h
              · rename_i hx
                cases h
                obtain ⟨h4, h5, _⟩ := ho
                refine stepM_W ?_; unfold stepM; simp only [e, ha, hts, hd, hti, hel, hte, hl, hx]
                refine ⟨h1, h2, hu, .inr h3, h4.1, h4.2, ?_⟩
                rw [show ys = zs from h5, ← new_st, ← put_st]; exact hK
              · rename_i id hx
                split at h
                · rename_i e' k' xs hm
                  split at h
                  · rename_i hb2
                    simp only [Bool.and_eq_true] at hb2
                    have h6 := Nat.eq_of_beq_eq_true hb2.1
                    have h7 := Nat.eq_of_beq_eq_true hb2.2
                    cases h
                    obtain ⟨h4, h5, _⟩ := ho
                    refine stepM_W ?_; unfold stepM; simp only [e, ha, hts, hd, hti, hel, hte, hl, hx]
                    refine ⟨h1, h2, hu, .inr h3, ?_⟩
                    rw [show s.st.mem id = some (.row e' k' xs) from hm]; simp only
                    refine ⟨h6, h7, h4.1, h4.2, ?_⟩
                    rw [show xs ++ ys = zs from h5, ← del_st s id _ hm, ← new_st, ← put_st]; exact hK
                  · cases h
                · cases h
              · cases h
            · cases h
          · cases h
        · cases h
      · cases h
    · rename_i f _ _
      split at h
      · rename_i ns r
        refine stepM_W ?_; unfold stepM; simp only [e]
        split at h
        · rename_i hf hr
          cases h
          refine .inl ⟨r, fnP_nil ns hf ho.1, hf, .inr ?_⟩
          rw [hr]; simp only [St.frzs]; rw [← put_st]; exact hK
        · rename_i hf hs _
          cases h
          exact .inl ⟨r, fnP_nil ns hf ho.1, hf, .inl ⟨hs, by rw [← put_st]; exact hK⟩⟩
        · cases h
      · cases h
    · cases h
  · cases h
theorem stepX_ok {o : Oper} {q : Orc} {s s' : LS} {obs : List Prop} (h : stepX P o q s = some (obs, s')) (ho : AllP obs) (K : St → Prop) (hK : K s'.st) : stepW P o s.st K := by
  unfold stepX at h
  split at h
  · rename_i z
    split at h
    · rename_i hz
      cases h
      simp only [Bool.and_eq_true, Bool.or_eq_true] at hz
      exact .inr (.inl ⟨hz.2, .inl ⟨z, ho.1, hz.1.symm, by rw [← put_st]; exact hK⟩⟩)
    · cases h
  · rename_i e' k ys
    split at h
    · rename_i d hd hb
      split at h
      · rename_i hu
        cases h
        simp only [Bool.and_eq_true] at hb
        exact .inr (.inl ⟨hb.2, .inr ⟨d, e', k, ys, hd, hu, ho.1, hb.1, by rw [hd, ← new_st, ← put_st]; exact hK⟩⟩)
      · cases h
    · cases h
  · rename_i i b'
    split at h
    · rename_i d id hd hi
      split at h
      · rename_i b hb hu hmv
        cases h
        exact .inr (.inr (.inl (.inl ⟨i, b, _, b', id, d, hmv, hd, hi, rfl, hb, hu, ho.1, by rw [hd, ← del_st s id b hb, ← new_st, ← put_st]; exact hK⟩)))
      · cases h
    · cases h
  · rename_i i b' r
    split at h
    · rename_i y hi
      split at h
      · rename_i id hy
        split at h
        · rename_i od hb hmv
          split at h
          · rename_i q
            cases h
            simp only [own1, List.cons.injEq, and_true] at hy
            subst hy
            exact .inr (.inr (.inl (.inr (.inl ⟨i, .obj od, _, b', r, _, hmv, hi, rfl, hb, used_of hb, ho.1, by rw [← setm_st s _ _ _ hb, ← put_st]; exact hK⟩))))
          · cases h
        · rename_i e k xs hb hmv
          split at h
          · rename_i q
            cases h
            simp only [own1, List.cons.injEq, and_true] at hy
            subst hy
            exact .inr (.inr (.inl (.inr (.inl ⟨i, .row e k xs, _, b', r, _, hmv, hi, rfl, hb, used_of hb, ho.1, by rw [← setm_st s _ _ _ hb, ← put_st]; exact hK⟩))))
          · cases h
        · cases h
      · cases h
    · cases h
  · rename_i od
    split at h
    · rename_i d hd hg
      split at h
      · rename_i hu
        cases h
        simp only [Bool.and_eq_true] at hg
        exact .inr (.inr (.inl (.inr (.inr ⟨od, d, hg.1, hd, hu, hg.2.1, hg.2.2, ho.1, by rw [hd, ← new_st, ← put_st]; exact hK⟩))))
      · cases h
    · cases h
  · rename_i v r m'
    split at h
    · rename_i c ho'
      split at h
      · rename_i f hc
        split at h
        · rename_i cargs bs rs ha hb hr hg
          split at h
          · rename_i hok hbk
            cases h
            simp only [Bool.and_eq_true, Bool.or_eq_true, List.isEmpty_iff] at hg
            obtain ⟨callee, args, ts⟩ := c
            dsimp only at hc
            subst hc
            left
            unfold stepW0
            simp only [ho']
            exact .inr (io_ok ha hb hr hg.1 hg.2 hok hbk ho.1 K hK)
          · cases h
        · cases h
      · cases h
    · cases h
  · rename_i r
    split at h
    · rename_i c ho'
      split at h
      · rename_i x hc
        split at h
        · rename_i t hx
          split at h
          · rename_i hg
            cases h
            simp only [Bool.and_eq_true, Bool.or_eq_true, List.isEmpty_iff] at hg
            exact .inr (.inr (.inr (.inl ⟨c, x, t, r, ho', hc, hx, ho.1, hg.1, hg.2.symm, by rw [← put_st]; exact hK⟩)))
          · cases h
        · cases h
      · cases h
    · cases h
  · rename_i ns r
    split at h
    · rename_i c hc
      split at h
      · rename_i f hf
        split at h
        · rename_i hk
          cases h
          simp only [Bool.and_eq_true] at hk
          exact .inr (.inr (.inr (.inr ⟨c, f, r, hc, hf, fnP_nil ns hk.1 ho.1, hk.1, hk.2, by rw [← put_st]; exact hK⟩)))
        · cases h
      · cases h
    · cases h
  · exact stepX0_ok h ho K hK
end Go.Proofs.Ytblikpgdepjhdaa
namespace Go.Proofs.Ytblikpgdepjhdaa
open Go.RowKit
set_option linter.unusedVariables false
variable {P : Program}
structure CV where
  G : List Nat
  N : List (Nat × Nat × NilTo)
  B : List Nat
  M : List (Nat × Nat × NilTo)
  R : List (Nat × Nat)
  F : List Nat
  Z : List (Nat × Nat × Nat)
def rho (R : List (Nat × Nat)) (i : Nat) : Option Nat := match Nat.blt i 1000 with | true => some i | false => rback R i
def convL (v : CV) (ms : List (Nat × Option Blk)) (nt : Option NilTo) (a : A) : Option A :=
  match a with
  | .t x => (match nt, x with
    | some (.sl k), .v (.slice none 0 0) => some (.t (.sl k []))
    | some (.row id), .v (.slice none 0 0) => (match memN (v.Z.map (·.1)) id with | true => some (.ref id) | false => none)
    | _, x => some (.t x))
  | .ref j => (match rnm v.R j with
    | some i => some (.ref i)
    | none => (match memN v.F j, getM ms j with | true, some (.row e k xs) => some (.t (.sl k xs)) | _, _ => none))
  | .ptr j o => (match memN v.B j with | true => some (.ptr j o) | false => none)
  | .ifc t j o => (match memN v.B j with | true => some (.ifc t j o) | false => none)
  | .rptr j p q => (match rnm v.R j with | some i => some (.rptr i p q) | none => none)
  | .ob j => (match rnm v.R j with | some i => some (.ob i) | none => none)
  | .fel x => some (.fel x)
  | _ => none
def convCs (v : CV) (ms : List (Nat × Option Blk)) (sp : List (Nat × Nat × NilTo)) (t : Nat) : Nat → List A → Option (List A)
  | _, [] => some []
  | j, a :: l => match convL v ms (nilTo sp t j) a, convCs v ms sp t (j + 1) l with | some x, some r => some (x :: r) | _, _ => none
def convS (v : CV) (ms : List (Nat × Option Blk)) (t : Nat) (a : A) : A :=
  match a with
  | .agg cs => (match convCs v ms v.N t 0 cs with | some r => .agg r | none => .dead)
  | .tup cs => (match convCs v ms v.N t 0 cs with | some r => .tup r | none => .dead)
  | a => (match convL v ms (nilTo v.N t 0) a with | some x => x | none => .dead)
def convG (v : CV) (s : LS) : List Nat → List (Nat × A)
  | [] => []
  | t :: l => (t, convS v s.ms t (lkE s.es t)) :: convG v s l
def convB (v : CV) (ms : List (Nat × Option Blk)) : List Nat → Option (List (Nat × Blk))
  | [] => some []
  | b :: l => match getM ms b with
    | some (.box ty cells) => (match convCs v ms v.M b 0 cells, convB v ms l with | some r, some rest => some ((b, .box ty r) :: rest) | _, _ => none)
    | _ => none
def convR (ms : List (Nat × Option Blk)) : List (Nat × Nat) → Option (List (Nat × Blk))
  | [] => some []
  | (j, i) :: l => match getM ms j with
    | some (.row e k xs) => (match convR ms l with | some rest => some ((i, .row e k xs) :: rest) | none => none)
    | some (.obj od) => (match convR ms l with | some rest => some ((i, .obj od) :: rest) | none => none)
    | _ => none
def convZ : List (Nat × Nat × Nat) → List (Nat × Blk)
  | [] => []
  | (i, e, k) :: l => (i, .row e k []) :: convZ l
def someMs : List (Nat × Blk) → List (Nat × Option Blk)
  | [] => []
  | (i, b) :: l => (i, some b) :: someMs l
def convOk (v : CV) (ms' : List (Nat × Blk)) : Bool :=
  (v.R.all fun p => isId p.1 (rho v.R p.2) && isRow (look ms' p.2)) &&
  ((v.Z.all fun p => noId (rho v.R p.1) && emptyRow (look ms' p.1) && Nat.blt 0 p.2.2) &&
  ((v.B.all fun b => Nat.blt b 1000 && isRow (look ms' b)) &&
  (distinctX (ms'.map fun p => rho v.R p.1) &&
  (v.F.all fun j => ms'.all fun p => !(isId j (rho v.R p.1))))))
def convX (v : CV) (s : LS) : Option LS :=
  match convB v s.ms v.B, convR s.ms v.R with
  | some bs, some rs =>
    (match convOk v (bs ++ rs ++ convZ v.Z) with
    | true => some ⟨s.n, convG v s v.G, someMs (bs ++ rs ++ convZ v.Z)⟩
    | false => none)
  | _, _ => none
theorem some_look (ms : List (Nat × Blk)) (i : Nat) : getM (someMs ms) i = look ms i ∧ usedM (someMs ms) i = (look ms i).isSome := by
  have : ∀ ms : List (Nat × Blk), lkM (someMs ms) i = (look ms i).map some := fun ms => by
    induction ms with
    | nil => rfl
    | cons p l ih =>
      obtain ⟨j, b⟩ := p
      show lkM ((j, some b) :: someMs l) i = _
      rw [lkM_cons, ih]
      show _ = (if i = j then some b else look l i).map some
      split <;> rfl
  unfold getM usedM
  rw [this]
  cases look ms i <;> simp
theorem lkE_look : ∀ (es : List (Nat × A)) (t : Nat), lkE es t = (look es t).getD .dead
  | [], t => rfl
  | (i, x) :: l, t => by
    rw [lkE_cons]
    unfold look upd
    split
    · rfl
    · exact lkE_look l t
theorem mk_LS (n : Nat) (es : List (Nat × A)) (ms : List (Nat × Blk)) : (LS.mk n es (someMs ms)).st = mkSt n es ms := by
  unfold LS.st mkSt
  congr 1
  · funext t; exact lkE_look es t
  · funext t; exact (some_look ms t).1
  · funext t; exact (some_look ms t).2
section
variable {v : CV} {s : LS} {ms' : List (Nat × Blk)}
theorem convL_le (hk : convOk v ms' = true) {nt : Option NilTo} {a a' : A} (h : convL v s.ms nt a = some a') : le1 (rho v.R) s.st ms' a a' := by
  simp only [convOk, Bool.and_eq_true, List.all_eq_true] at hk
  obtain ⟨h1, h2, h3, h4, h5⟩ := hk
  have ren : ∀ {j i : Nat}, rnm v.R j = some i → rho v.R i = some j ∧ (look ms' i).isSome = true := fun {j i} h => by
    have := h1 _ (rnm_mem h)
    refine ⟨isId_iff this.1, ?_⟩
    have h2 := this.2
    cases hl : look ms' i with
    | none => rw [hl] at h2; cases h2
    | some b => rfl
  unfold convL at h
  split at h
  · split at h
    · cases h; exact .nil _
    · split at h
      · rename_i id hz
        cases h
        obtain ⟨p, hp, hpe⟩ := List.mem_map.1 (memN_iff hz)
        have := h2 p hp
        subst hpe
        refine ⟨rfl, ?_, ?_⟩
        · have h3 := this.1.1
          cases hr : rho v.R p.1 with
          | none => rfl
          | some i => rw [hr] at h3; cases h3
        · have h3 := this.1.2
          unfold emptyRow at h3
          split at h3
          · rename_i e k hl; exact ⟨e, k, hl⟩
          · cases h3
      · cases h
    · cases h; exact .refl _
  · split at h
    · rename_i j i hr; cases h; exact ren hr
    · split at h
      · rename_i j _ e k xs hF hm
        cases h
        refine ⟨e, k, xs, hm, .refl _, fun p hp hq => ?_⟩
        have := h5 _ (memN_iff hF) p hp
        rw [hq] at this
        simp [isId_self] at this
      · cases h
  · rename_i j o
    split at h
    · rename_i hb
      cases h
      have := h3 _ (memN_iff hb)
      refine ⟨?_, rfl, ?_⟩
      · unfold rho; rw [this.1]
      · cases hl : look ms' j with
        | none => rw [hl] at this; cases this.2
        | some b => rfl
    · cases h
  · rename_i t0 j o
    split at h
    · rename_i hb
      cases h
      have := h3 _ (memN_iff hb)
      refine ⟨?_, ⟨rfl, rfl⟩, ?_⟩
      · unfold rho; rw [this.1]
      · cases hl : look ms' j with
        | none => rw [hl] at this; cases this.2
        | some b => rfl
    · cases h
  · split at h
    · rename_i j p q i hr; cases h; exact ⟨(ren hr).1, rfl, rfl, (ren hr).2⟩
    · cases h
  · split at h
    · rename_i j i hr; cases h; exact ⟨(ren hr).1, (ren hr).2⟩
    · cases h
  · cases h; rfl
  · cases h
theorem convCs_le (hk : convOk v ms' = true) {sp : List (Nat × Nat × NilTo)} {t : Nat} : ∀ {l r : List A} {j : Nat}, convCs v s.ms sp t j l = some r → leCells (rho v.R) s.st ms' l r
  | [], r, j, h => by cases h; trivial
  | a :: l, r, j, h => by
    unfold convCs at h
    split at h
    · rename_i x r' hx hr; cases h; exact ⟨convL_le hk hx, convCs_le hk hr⟩
    · cases h
theorem le2_A {ρ : Nat → Option Nat} {st : St} {ms : List (Nat × Blk)} {x y : A} (h : le2 ρ st ms x y) : leA ρ st ms x y := by
  cases y with
  | dead => cases x <;> trivial
  | tup ds => cases x <;> exact h.elim
  | _ => exact h
theorem convS_le (hk : convOk v ms' = true) {t : Nat} (a : A) : leA (rho v.R) s.st ms' a (convS v s.ms t a) := by
  unfold convS
  split
  · split
    · rename_i r hr; exact convCs_le hk hr
    · trivial
  · split
    · rename_i r hr; exact convCs_le hk hr
    · trivial
  · split
    · rename_i x hx; exact le2_A (le1_2 (convL_le hk hx))
    · cases a <;> trivial
theorem convG_le (hk : convOk v ms' = true) : ∀ (G : List Nat), ∀ p ∈ convG v s G, leA (rho v.R) s.st ms' (s.st.env p.1) p.2
  | [], p, h => by cases h
  | t :: l, p, h => by
    rcases List.mem_cons.1 h with rfl | h
    · exact convS_le hk _
    · exact convG_le hk l p h
theorem convB_le (hk : convOk v ms' = true) : ∀ {B : List Nat} {bs : List (Nat × Blk)}, convB v s.ms B = some bs → (∀ b ∈ B, b ∈ v.B) → ∀ p ∈ bs, leM (rho v.R) s.st ms' p
  | [], bs, h, _, p, hp => by cases h; cases hp
  | b :: l, bs, h, hB, p, hp => by
    unfold convB at h
    split at h
    · rename_i ty cells hm
      split at h
      · rename_i r rest hr hrest
        cases h
        rcases List.mem_cons.1 hp with rfl | hp
        · have hb := hB b List.mem_cons_self
          have h3 := hk
          simp only [convOk, Bool.and_eq_true, List.all_eq_true] at h3
          have := h3.2.2.1 b hb
          have e : rho v.R b = some b := by unfold rho; rw [this.1]
          exact leM_some e hm ⟨rfl, convCs_le hk hr⟩
        · exact convB_le hk hrest (fun x hx => hB x (List.mem_cons_of_mem _ hx)) p hp
      · cases h
    · cases h
theorem convR_le (hk : convOk v ms' = true) : ∀ {R : List (Nat × Nat)} {rs : List (Nat × Blk)}, convR s.ms R = some rs → (∀ p ∈ R, p ∈ v.R) → ∀ p ∈ rs, leM (rho v.R) s.st ms' p
  | [], rs, h, _, p, hp => by cases h; cases hp
  | (j, i) :: l, rs, h, hR, p, hp => by
    unfold convR at h
    split at h
    · rename_i e k xs hm
      split at h
      · rename_i rest hrest
        cases h
        rcases List.mem_cons.1 hp with rfl | hp
        · have h3 := hk
          simp only [convOk, Bool.and_eq_true, List.all_eq_true] at h3
          exact leM_some (isId_iff (h3.1 _ (hR _ List.mem_cons_self)).1) hm ⟨rfl, rfl, leRows_refl xs⟩
        · exact convR_le hk hrest (fun x hx => hR x (List.mem_cons_of_mem _ hx)) p hp
      · cases h
    · rename_i od hm
      split at h
      · rename_i rest hrest
        cases h
        rcases List.mem_cons.1 hp with rfl | hp
        · have h3 := hk
          simp only [convOk, Bool.and_eq_true, List.all_eq_true] at h3
          exact leM_some (isId_iff (h3.1 _ (hR _ List.mem_cons_self)).1) hm rfl
        · exact convR_le hk hrest (fun x hx => hR x (List.mem_cons_of_mem _ hx)) p hp
      · cases h
    · cases h
theorem convZ_le (hk : convOk v ms' = true) : ∀ {Z : List (Nat × Nat × Nat)}, (∀ p ∈ Z, p ∈ v.Z) → ∀ p ∈ convZ Z, leM (rho v.R) s.st ms' p
  | [], _, p, hp => by cases hp
  | (i, e, k) :: l, hZ, p, hp => by
    rcases List.mem_cons.1 hp with rfl | hp
    · have h3 := hk
      simp only [convOk, Bool.and_eq_true, List.all_eq_true] at h3
      have := h3.2.1 _ (hZ _ List.mem_cons_self)
      have e1 : rho v.R i = none := by
        have h4 := this.1.1
        cases hr : rho v.R i with
        | none => rfl
        | some x => rw [hr] at h4; cases h4
      exact leM_none e1 (Nat.lt_of_succ_le (Nat.le_of_ble_eq_true this.2))
    · exact convZ_le hk (fun x hx => hZ x (List.mem_cons_of_mem _ hx)) p hp
theorem convX_fits {s' : LS} (h : convX v s = some s') : Fits s.st s'.st := by
  unfold convX at h
  split at h
  · rename_i bs rs hb hr
    split at h
    · rename_i hk
      cases h
      rw [mk_LS]
      refine fits (fun i hi => ?_) ⟨convG_le hk v.G, fun p hp => ?_, fun p hp q hq j h1 h2 => ?_⟩
      · unfold rho; rw [show Nat.blt i 1000 = true from Nat.ble_eq_true_of_le hi]
      · rcases List.mem_append.1 hp with hp | hp
        · rcases List.mem_append.1 hp with hp | hp
          · exact convB_le hk hb (fun _ h => h) p hp
          · exact convR_le hk hr (fun _ h => h) p hp
        · exact convZ_le hk (fun _ h => h) p hp
      · have h3 := hk
        simp only [convOk, Bool.and_eq_true, List.all_eq_true] at h3
        obtain ⟨i, hi, rfl⟩ := List.getElem_of_mem hp
        obtain ⟨i', hi', rfl⟩ := List.getElem_of_mem hq
        have := distinctX_get _ h3.2.2.2.1 i i' j (by rw [List.getElem?_map, List.getElem?_eq_getElem hi, Option.map_some, h1]) (by rw [List.getElem?_map, List.getElem?_eq_getElem hi', Option.map_some, h2])
        subst this
        rfl
    · cases h
  · cases h
end
end Go.Proofs.Ytblikpgdepjhdaa
namespace Go.Proofs.Ytblikpgdepjhdaa
open Go.RowKit
set_option linter.unusedVariables false
variable {P : Program}
def LS.subst (s : LS) (id : Nat) (x : T) : LS := ⟨s.n, s.es.map (fun p => (p.1, sub3 id x p.2)), (id, none) :: s.ms.map fun p => (p.1, p.2.map (Blk.sub id x))⟩
def LS.frz (s : LS) (id : Nat) : LS :=
  match getM s.ms id with
  | some (.row _ k xs) => s.subst id (.sl k xs)
  | some (.box _ cs) => (match cellsT cs with | some ts => s.subst id (.fp ts) | none => s)
  | _ => s
def LS.frzs (s : LS) : List Nat → LS
  | [] => s
  | id :: l => (s.frz id).frzs l
theorem lkE_map (g : A → A) (hg : g .dead = .dead) (t : Nat) : ∀ es : List (Nat × A), lkE (es.map fun p => (p.1, g p.2)) t = g (lkE es t)
  | [] => hg.symm
  | (i, x) :: l => by
    show lkE ((i, g x) :: l.map _) t = _
    rw [lkE_cons, lkE_cons]
    unfold upd
    split
    · rfl
    · exact lkE_map g hg t l
theorem lkM_map (g : Blk → Blk) (t : Nat) : ∀ ms : List (Nat × Option Blk), lkM (ms.map fun p => (p.1, p.2.map g)) t = (lkM ms t).map fun b => b.map g
  | [] => rfl
  | (i, x) :: l => by
    show lkM ((i, x.map g) :: l.map _) t = _
    rw [lkM_cons, lkM_cons, lkM_map g t l]
    split <;> rfl
theorem subst_st (s : LS) (id : Nat) (x : T) (hu : usedM s.ms id = true) : (s.subst id x).st = s.st.sub id x := by
  show St.mk _ _ _ _ = St.mk _ _ _ _
  congr 1
  · funext t; exact lkE_map _ rfl t s.es
  · funext i
    show getM ((id, none) :: _) i = if i = id then none else (getM s.ms i).map _
    unfold getM
    rw [lkM_cons, lkM_map]
    by_cases h : i = id
    · simp [h]
    · simp only [h, if_false]
      cases lkM s.ms i with
      | none => rfl
      | some b => cases b <;> rfl
  · funext i
    show usedM ((id, none) :: _) i = usedM s.ms i
    unfold usedM
    rw [lkM_cons, lkM_map]
    by_cases h : i = id
    · subst h
      unfold usedM at hu
      simp only [if_true]; exact hu.symm
    · simp only [h, if_false]
      cases lkM s.ms i <;> rfl
theorem frz_st (s : LS) (id : Nat) : (s.frz id).st = s.st.frz id := by
  unfold LS.frz St.frz
  show _ = match getM s.ms id with
    | some (.row _ k xs) => s.st.sub id (.sl k xs)
    | some (.box _ cs) => (match cellsT cs with | some ts => s.st.sub id (.fp ts) | none => s.st)
    | _ => s.st
  cases hm : getM s.ms id with
  | none => rfl
  | some b =>
    cases b with
    | row e k xs => exact subst_st s id _ (used_of hm)
    | obj od => rfl
    | box ty cs =>
      simp only
      cases cellsT cs with
      | none => rfl
      | some ts => exact subst_st s id _ (used_of hm)
theorem frzs_st : ∀ (l : List Nat) (s : LS), (s.frzs l).st = s.st.frzs l
  | [], _ => rfl
  | id :: l, s => by
    show ((s.frz id).frzs l).st = (s.st.frz id).frzs l
    rw [frzs_st l, frz_st]
def decV (d : Option Bool) (b : Bool) : Bool := match d with | some b' => b' | none => b
def decOb (d : Option Bool) (b : Bool) : List Prop := match d with | some b' => [b = b'] | none => []
def eqB (x y : Bool) : Bool := match x, y with | true, true => true | false, false => true | _, _ => false
def looks (o : Oper) (q : Orc) : Bool :=
  match o.op with
  | .call c => (match c.callee with
    | .value (.func _) => (match q with | .call _ r => scal3 r | .io _ _ _ => true | .look _ _ => true | _ => false)
    | _ => false)
  | _ => false
def fpQ (o : Oper) (q : Orc) (st : St) : List Nat := match q with | .look _ _ => fpOf o st ++ wrOf o st | _ => fpOf o st
def wrQ (o : Oper) (q : Orc) (st : St) : List Nat := match q with | .look _ _ => [] | _ => wrOf o st
theorem look_inv {P : Program} {o : Oper} {ns : List (Nat × Nat × Nat)} {r : A} {s s1 : LS} {obs : List Prop} (h : stepX P o (.look ns r) s = some (obs, s1)) (ho : AllP obs) :
    ∃ c f, o.op = .call c ∧ c.callee = .value (.func f) ∧ FnP P f (c.args.toList.map fun y => look2 s.st (s.st.ev y)) r ∧ (c.args.toList.map fun y => look2 s.st (s.st.ev y)).all flat2 = true ∧ scal3 r = true ∧ s1 = s.put o.dst r := by
  unfold stepX at h
  dsimp only at h
  split at h
  · rename_i c hc
    split at h
    · rename_i f hf
      split at h
      · rename_i hk
        cases h
        simp only [Bool.and_eq_true] at hk
        exact ⟨c, f, hc, hf, fnP_nil ns hk.1 ho.1, hk.1, hk.2, rfl⟩
      · cases h
    · cases h
  · cases h
theorem look_exec {P : Program} {o : Oper} {ns : List (Nat × Nat × Nat)} {r : A} {s s1 : LS} {obs : List Prop} (h : stepX P o (.look ns r) s = some (obs, s1)) (ho : AllP obs) :
    Frame1 o s.st s1.st [] ∧ Exec P o s.st s1.st (fpOf o s.st ++ wrOf o s.st) [] := by
  obtain ⟨c, f, h1, h2, h3, h4, h5, rfl⟩ := look_inv h ho
  rw [put_st]
  refine ⟨frame_put o s.st r, fun st2 hn he hm K2 hK2 => ?_⟩
  rw [over_put] at hK2
  have hmap := look_agree h1 h2 he fun i hi => (hm i (.inl (List.mem_append.2 hi))).1
  exact .inr (.inr (.inr (.inr ⟨c, f, r, h1, h2, by rw [hmap]; exact h3, by rw [hmap]; exact h4, h5, hK2⟩)))
theorem look_local {P : Program} {o : Oper} {q : Orc} {s s1 : LS} {obs : List Prop} (hl : looks o q = true) (h : stepX P o q s = some (obs, s1)) (ho : AllP obs) : Local P o s.st (fun st => st = s1.st) := by
  unfold looks at hl
  split at hl
  · rename_i c e
    split at hl
    · rename_i f hc
      split at hl
      · rename_i ns r
        change stepX0 P o (.call ns r) s = some (obs, s1) at h
        unfold stepX0 at h
        simp only [e, hc] at h
        have key : (c.args.toList.map fun x => arg2 s.st (s.st.ev x)).all flat2 = true ∧ AllP [FnP P f (nilArgs ns 0 (c.args.toList.map fun x => arg2 s.st (s.st.ev x))) r] ∧ s1 = s.put o.dst r := by
          split at h
          · rename_i hf _; cases h; exact ⟨hf, ho, rfl⟩
          · rename_i hf _ _; cases h; exact ⟨hf, ho, rfl⟩
          · cases h
        obtain ⟨hf, h1, rfl⟩ := key
        have hmem : ∀ x ∈ c.args.toList, x ∈ o.op.operands.toList := fun x hx => by
          rw [← opL_eq, e]; simp only [opL, hc]; exact List.mem_append_right _ hx
        refine local_sup r (put_st s o.dst r).symm fun st2 ha K2 hK2 => .inl ?_
        have hmap : (c.args.toList.map fun x => arg2 st2 (st2.ev x)) = c.args.toList.map fun x => arg2 s.st (s.st.ev x) := List.map_congr_left fun x hx => by
          rw [ha.env x (hmem x hx), arg2_agree (ha.at (hmem x hx)).2]
        unfold stepW0
        simp only [e, hc]
        exact .inl ⟨r, by rw [hmap]; exact fnP_nil ns hf h1.1, by rw [hmap]; exact hf, .inl ⟨hl, hK2⟩⟩
      · rename_i v r m'
        unfold stepX at h
        simp only [e, hc] at h
        split at h
        · rename_i cargs bs rs ha hb hr hg
          split at h
          · rename_i hok hbk
            cases h
            simp only [Bool.and_eq_true, Bool.or_eq_true, List.isEmpty_iff] at hg
            exact callio_local e hc (io_ok ha hb hr hg.1 hg.2 hok hbk ho.1 _ rfl)
          · cases h
        · cases h
      · obtain ⟨c, f, h1, h2, h3, h4, h5, rfl⟩ := look_inv h ho
        exact lookw_local ⟨c, f, _, h1, h2, h3, h4, h5, (put_st s o.dst _).symm⟩
      · cases hl
    · cases hl
  · cases hl
def runX (P : Program) (dr : Bool) (ops : List Oper) : List Oper → List (Option Bool × List Nat × Orc) → LS → Option (List Prop × LS × List (List Nat × List Nat))
  | [], _, s => some ([], s, [])
  | o :: rest, qs, s =>
    match qs with
    | [] => none
    | q :: qs =>
    match o.guard with
    | none =>
      (match !dr || (q.2.1.isEmpty && (keepsRows o s.st || looks o q.2.2)), stepX P o q.2.2 (s.frzs q.2.1) with
      | true, some (obs, s') => (match runX P dr ops rest qs s' with | some (obs', s'', fps) => some (obs ++ obs', s'', (fpQ o q.2.2 s.st, wrQ o q.2.2 s.st) :: fps) | none => none)
      | _, _ => none)
    | some (j, want) =>
      match guardL ops s.st j with
      | .t (.v (.bool b)) =>
        (match eqB (decV q.1 b) want with
        | true =>
          (match !dr || (q.2.1.isEmpty && (keepsRows o s.st || looks o q.2.2)), stepX P o q.2.2 (s.frzs q.2.1) with
          | true, some (obs, s') => (match runX P dr ops rest qs s' with | some (obs', s'', fps) => some (decOb q.1 b ++ (obs ++ obs'), s'', (fpQ o q.2.2 s.st, wrQ o q.2.2 s.st) :: fps) | none => none)
          | _, _ => none)
        | false => (match runX P dr ops rest qs (s.put o.dst (.tup [])) with | some (obs', s'', fps) => some (decOb q.1 b ++ obs', s'', ([], []) :: fps) | none => none))
      | .tup [] => (match runX P dr ops rest qs (s.put o.dst (.tup [])) with | some (obs', s'', fps) => some (obs', s'', ([], []) :: fps) | none => none)
      | _ => none
theorem dec_eq {d : Option Bool} {b want : Bool} (ho : AllP (decOb d b)) : (eqB (decV d b) want = true → b = want) ∧ (eqB (decV d b) want = false → b ≠ want) := by
  cases d with
  | none => cases b <;> cases want <;> simp [eqB, decV]
  | some b' =>
    have : b = b' := ho.1
    subst this
    cases b <;> cases want <;> simp [eqB, decV]
theorem runX_W (ops : Array Oper) : ∀ (l : List Oper) (i : Nat) (qs : List (Option Bool × List Nat × Orc)) (s s' : LS) (obs : List Prop) (fps : List (List Nat × List Nat)) (K : St → Prop), ops.toList.drop i = l →
    runX P false ops.toList l qs s = some (obs, s', fps) → AllP obs → K s'.st → runW P ops (List.range' i l.length) s.st K
  | [], i, qs, s, s', obs, fps, K, hd, h, ho, hK => by
    simp only [runX, Option.some.injEq, Prod.mk.injEq] at h
    obtain ⟨-, rfl, -⟩ := h
    exact hK
  | o :: rest, i, qs, s, s', obs, fps, K, hd, h, ho, hK => by
    have hlt : i < ops.toList.length := by
      apply Nat.lt_of_not_le
      intro hle
      rw [List.drop_eq_nil_of_le hle] at hd; cases hd
    have hoi : ops[i]? = some o := by
      have := List.getElem_cons_drop hlt
      rw [hd] at this
      cases this
      rw [← Array.getElem?_toList]; simp
    have hd' : ops.toList.drop (i + 1) = rest := by
      have := List.getElem_cons_drop hlt
      rw [hd] at this
      injection this
    simp only [List.length_cons, List.range'_succ, runW, hoi]
    unfold runX at h
    split at h
    · cases h
    · rename_i q qs
      split at h
      · rename_i hg
        simp only [hg]
        split at h
        · rename_i o1 s1 _ hst
          split at h
          · rename_i o2 s2 fps2 hr
            cases h
            obtain ⟨h1, h2⟩ := allP_append ho
            exact ⟨_, by rw [← frzs_st]; exact step_sound (stepX_ok hst h1 _ (runX_W ops rest (i + 1) qs s1 s' _ _ K hd' hr h2 hK))⟩
          · cases h
        · cases h
      · rename_i j want hg
        simp only [hg]
        split at h
        · rename_i b hb
          have hgd : guardOf ops s.st j = .v (.bool b) := by
            unfold guardL at hb
            unfold guardOf
            rw [nthOp_eq, Array.getElem?_toList] at hb
            cases hj : ops[j]? with
            | none => rw [hj] at hb; cases hb
            | some oj =>
              rw [hj] at hb
              simp only [Option.bind_some]
              exact hb
          refine .inl ⟨b, hgd, ?_⟩
          split at h
          · rename_i he
            split at h
            · rename_i o1 s1 _ hst
              split at h
              · rename_i o2 s2 fps2 hr
                cases h
                obtain ⟨h0, h12⟩ := allP_append ho
                obtain ⟨h1, h2⟩ := allP_append h12
                exact ⟨fun _ => ⟨_, by rw [← frzs_st]; exact step_sound (stepX_ok hst h1 _ (runX_W ops rest (i + 1) qs s1 s' _ _ K hd' hr h2 hK))⟩, fun hn => absurd ((dec_eq h0).1 he) hn⟩
              · cases h
            · cases h
          · rename_i he
            split at h
            · rename_i o2 s2 fps2 hr
              cases h
              obtain ⟨h0, h2⟩ := allP_append ho
              refine ⟨fun hy => absurd hy ((dec_eq h0).2 he), fun _ => ?_⟩
              rw [← put_st]
              exact runX_W ops rest (i + 1) qs _ s' _ _ K hd' hr h2 hK
            · cases h
        · rename_i hb
          have hgd : guardOf ops s.st j = .tup [] := by
            unfold guardL at hb
            unfold guardOf
            rw [nthOp_eq, Array.getElem?_toList] at hb
            cases hj : ops[j]? with
            | none => rw [hj] at hb; cases hb
            | some oj =>
              rw [hj] at hb
              simp only [Option.bind_some]
              exact hb
          split at h
          · rename_i o2 s2 fps2 hr
            cases h
            refine .inr ⟨hgd, ?_⟩
            rw [← put_st]
            exact runX_W ops rest (i + 1) qs _ s' _ _ K hd' hr ho hK
          · cases h
        · cases h
theorem runX_trail (ops : List Oper) : ∀ (l : List Oper) (qs : List (Option Bool × List Nat × Orc)) (s s' : LS) (obs : List Prop) (fps : List (List Nat × List Nat)),
    runX P true ops l qs s = some (obs, s', fps) → AllP obs → Trail P ops l s.st fps s'.st
  | [], qs, s, s', obs, fps, h, ho => by
    simp only [runX, Option.some.injEq, Prod.mk.injEq] at h
    obtain ⟨-, rfl, rfl⟩ := h
    exact .nil _
  | o :: rest, qs, s, s', obs, fps, h, ho => by
    have go : ∀ {q : List Nat × Orc} {o1 : List Prop} {s1 : LS}, (q.1.isEmpty && (keepsRows o s.st || looks o q.2)) = true → stepX P o q.2 (s.frzs q.1) = some (o1, s1) → AllP o1 →
        Frame1 o s.st s1.st (wrQ o q.2 s.st) ∧ Exec P o s.st s1.st (fpQ o q.2 s.st) (wrQ o q.2 s.st) := fun {q o1 s1} hk hst h1 => by
      simp only [Bool.and_eq_true, List.isEmpty_iff] at hk
      obtain ⟨hq0, hk⟩ := hk
      rw [hq0] at hst
      change stepX P o q.2 s = some (o1, s1) at hst
      by_cases hlk : ∃ ns r, q.2 = .look ns r
      · obtain ⟨ns, r, e⟩ := hlk
        rw [e] at hst ⊢
        exact look_exec hst h1
      have ef : fpQ o q.2 s.st = fpOf o s.st := by unfold fpQ; split <;> first | rfl | (rename_i e; exact absurd ⟨_, _, e⟩ hlk)
      have ew : wrQ o q.2 s.st = wrOf o s.st := by unfold wrQ; split <;> first | rfl | (rename_i e; exact absurd ⟨_, _, e⟩ hlk)
      rw [ef, ew]
      have hlocal : Local P o s.st (fun st => st = s1.st) := by
        rcases (by simpa [or_comm] using hk : looks o q.2 = true ∨ keepsRows o s.st = true) with hl | hk
        · exact look_local hl hst h1
        · exact stepW_local hk (stepX_ok hst h1 (fun st => st = s1.st) rfl)
      obtain ⟨s', hK, hf, hloc⟩ := hlocal
      subst hK
      exact ⟨hf, fun st2 h0 h1 h2 K2 hK2 => hloc st2 ⟨h0, h1, fun i hi => (h2 i hi).1, fun i hi => (h2 i (.inr hi)).2⟩ K2 hK2⟩
    unfold runX at h
    split at h
    · cases h
    · rename_i q qs
      split at h
      · rename_i hg
        split at h
        · rename_i o1 s1 hk hst
          split at h
          · rename_i o2 s2 fps2 hr
            cases h
            obtain ⟨h1, h2⟩ := allP_append ho
            obtain ⟨hf, hx⟩ := go (by simpa using hk) hst h1
            exact .cons o rest _ _ _ _ _ _ hf (by unfold Does; rw [hg]; exact hx) (runX_trail ops rest qs s1 s' _ _ hr h2)
          · cases h
        · cases h
      · rename_i j want hg
        split at h
        · rename_i b hb
          split at h
          · rename_i he
            split at h
            · rename_i o1 s1 hk hst
              split at h
              · rename_i o2 s2 fps2 hr
                cases h
                obtain ⟨h0, h12⟩ := allP_append ho
                obtain ⟨h1, h2⟩ := allP_append h12
                obtain ⟨hf, hx⟩ := go (by simpa using hk) hst h1
                exact .cons o rest _ _ _ _ _ _ hf (by unfold Does; rw [hg]; exact .inl ⟨b, hb, fun _ => hx, fun hn => absurd ((dec_eq h0).1 he) hn⟩) (runX_trail ops rest qs s1 s' _ _ hr h2)
              · cases h
            · cases h
          · rename_i he
            split at h
            · rename_i o2 s2 fps2 hr
              cases h
              obtain ⟨h0, h2⟩ := allP_append ho
              refine .cons o rest _ (s.put o.dst (.tup [])).st _ [] [] _ (by rw [put_st]; exact frame_put o s.st (.tup [])) (by unfold Does; rw [hg]; exact .inl ⟨b, hb, fun hy => absurd hy ((dec_eq h0).2 he), fun _ => ⟨put_st _ _ _, rfl⟩⟩) (runX_trail ops rest qs _ s' _ _ hr h2)
            · cases h
        · rename_i hb
          split at h
          · rename_i o2 s2 fps2 hr
            cases h
            exact .cons o rest _ (s.put o.dst (.tup [])).st _ [] [] _ (by rw [put_st]; exact frame_put o s.st (.tup [])) (by unfold Does; rw [hg]; exact .inr ⟨hb, put_st _ _ _, rfl⟩) (runX_trail ops rest qs _ s' _ _ hr ho)
          · cases h
        · cases h
theorem W_fit {c : Code} {st : St} {Q : Exit → St → Prop} (h : W P c st (fun e st' => ∃ st'', Fits st' st'' ∧ Q e st'')) : W P c st Q := fun C a w hP hs =>
  wp_mono (h C a w hP hs) fun e a' w' ⟨st', hn, ⟨st'', hf, hq⟩, hs'⟩ => ⟨st'', by rw [hf.1, hn], hq, hf.2 C a' w' hs'⟩
def regX (P : Program) (dr : Bool) (ops : Array Oper) (qs : List (Option Bool × List Nat × Orc)) (v : CV) (s : LS) : Option (List Prop × LS) :=
  match opsOk ops s.n, runX P dr ops.toList ops.toList qs s with
  | true, some (obs, s', fps) =>
    (match dr with
    | false => (match convX v s' with | some s'' => some (obs, s'') | none => none)
    | true => (match textOk ops.toList && metOk ops.toList fps, convX v s' with | true, some s'' => some (obs, s'') | _, _ => none))
  | _, _ => none
theorem W_x (hmix : P.follows .mixedOrders = true) {id : Nat} {dr : Bool} {ops : Array Oper} {s s' : LS} {Q : Exit → St → Prop} (qs : List (Option Bool × List Nat × Orc)) (v : CV) (obs : List Prop)
    (hx : regX P dr ops qs v s = some (obs, s')) (ho : AllP obs) (h : Q .normal s'.st) : W P (.region id ops dr) s.st Q := by
  refine W_fit ?_
  unfold regX at hx
  split at hx
  · rename_i o1 s1 fps hok hr
    split at hx
    · split at hx
      · rename_i s2 hc
        cases hx
        refine W_region hok ?_
        have := runX_W ops ops.toList 0 qs s s1 _ _ (fun st' => ∃ st'', Fits st' st'' ∧ Q .normal st'') (by simp) hr ho ⟨_, convX_fits hc, h⟩
        rw [Array.length_toList] at this
        rw [List.range_eq_range']
        exact this
      · cases hx
    · split at hx
      · rename_i s2 hb hc
        cases hx
        simp only [Bool.and_eq_true] at hb
        exact W_openT hmix hok hb.1 (runX_trail ops.toList ops.toList qs s s1 _ _ hr ho) hb.2 ⟨_, convX_fits hc, h⟩
      · cases hx
  · cases hx
def retX (P : Program) (ns : List (Nat × Nat × Nat)) (rs : List ResultVar) (s : LS) : Option A :=
  match resA P s.st rs with
  | some x => (match arg3 s.st x with
    | .tup cs => (match cs.all flat2 with | true => some (.tup (nilArgs ns 0 cs)) | false => none)
    | y => (match flat2 y with | true => some (nilArg ns 0 y) | false => none))
  | none => none
theorem leF2s_of {cs ds : List A} (hl : cs.length = ds.length) (h : ∀ i (hi : i < cs.length) (hi' : i < ds.length), leF2 cs[i] ds[i]) : leF2s cs ds := by
  induction cs generalizing ds with
  | nil => cases ds with
    | nil => trivial
    | cons => cases hl
  | cons x l ih => cases ds with
    | nil => cases hl
    | cons y r => exact ⟨h 0 (by simp) (by simp), ih (by simpa using hl) fun i hi hi' => h (i + 1) (by simpa using hi) (by simpa using hi')⟩
theorem leF2_3 {x y : A} (h : leF2 x y) : leF x y := by
  unfold leF
  split
  · rename_i cs ds; exact h.elim
  · exact h
theorem ret_of {fn : Func} {r : A} {s : LS} (ns : List (Nat × Nat × Nat)) (h : retX P ns fn.results.toList s = some r) : ∃ x, resA P s.st fn.results.toList = some x ∧ leF (arg3 s.st x) r := by
  unfold retX at h
  split at h
  · rename_i x hx
    refine ⟨x, hx, ?_⟩
    split at h
    · rename_i cs hcs
      split at h
      · rename_i hf
        cases h
        rw [hcs]
        exact leF2s_of (nilArgs_len _ _ _).symm fun i hi hi' => nilArgs_le ns cs 0 i hi hi' hf
      · cases h
    · split at h
      · rename_i hf
        cases h
        exact leF2_3 (nilArg_le ns 0 _ hf)
      · cases h
  · cases h
theorem ret_ok {fn : Func} {r : A} {s : LS} (ns : List (Nat × Nat × Nat)) (h : retX P ns fn.results.toList s = some r) : retQ P fn r .ret s.st := ret_of ns h
theorem ret_end {fn : Func} {r : A} {s : LS} (ns : List (Nat × Nat × Nat)) (h : retX P ns fn.results.toList s = some r) : retQ P fn r .normal s.st := ret_of ns h
def entE : Nat → List A → List (Nat × A)
  | _, [] => []
  | i, x :: l => (i, x) :: entE (i + 1) l
theorem entE_get : ∀ (l : List A) (i t : Nat), lkE (entE i l) t = if i ≤ t then (l[t - i]?).getD .dead else .dead
  | [], i, t => by simp [entE, lkE]
  | x :: l, i, t => by
    show lkE ((i, x) :: entE (i + 1) l) t = _
    rw [lkE_cons]
    unfold upd
    rw [entE_get l (i + 1) t]
    by_cases h : t = i
    · subst h; simp
    · rw [if_neg h]
      by_cases h2 : i + 1 ≤ t
      · rw [if_pos h2, if_pos (by omega), show t - i = (t - (i + 1)) + 1 by omega, List.getElem?_cons_succ]
      · rw [if_neg h2, if_neg (by omega)]
theorem entry_LS (n : Nat) (args : List A) : (LS.mk n (entE 0 args) []).st = entry n args := by
  unfold LS.st entry
  congr 1
  funext t
  rw [entE_get]; simp
theorem fn_pureX {f : FuncId} {fn : Func} {c : Code} {args : List A} {r : A} (hf : P.funcs[f]? = some fn) (hb : fn.body = some c) (hpl : plainFn P f = true) (hn : args.length ≤ fn.ntmps) (h : W P c (LS.mk fn.ntmps (entE 0 args) []).st (retQ P fn r)) : FnP P f args r := by
  rw [entry_LS] at h
  exact fn_pure hf hb hpl hn h
end Go.Proofs.Ytblikpgdepjhdaa
namespace Go.Proofs.Ytblikpgdepjhdaa
open Go.RowKit
set_option linter.unusedVariables false
variable {P : Program}
def convT (v : CV) (ms : List (Nat × Option Blk)) : Nat → List A → Option (List A)
  | _, [] => some []
  | i, .agg cs :: l => (match convCs v ms v.N i 0 cs, convT v ms (i + 1) l with | some r, some rest => some (.agg r :: rest) | _, _ => none)
  | i, a :: l => (match convL v ms (nilTo v.N i 0) a, convT v ms (i + 1) l with | some r, some rest => some (r :: rest) | _, _ => none)
def conv3 (v : CV) (ms : List (Nat × Option Blk)) (x : A) : Option A :=
  match x with
  | .tup cs => (match convT v ms 0 cs with | some r => some (.tup r) | none => none)
  | .agg cs => (match convCs v ms v.N 0 0 cs with | some r => some (.agg r) | none => none)
  | a => convL v ms (nilTo v.N 0 0) a
def retIOX (P : Program) (v : CV) (rs : List ResultVar) (s : LS) : Option (A × List (Nat × Blk)) :=
  match resA P s.st rs, convB v s.ms v.B, convR s.ms v.R with
  | some x, some bs, some rs =>
    (match convOk v (sortM (bs ++ rs ++ convZ v.Z)), conv3 v s.ms x with
    | true, some r => some (r, sortM (bs ++ rs ++ convZ v.Z))
    | _, _ => none)
  | _, _, _ => none
section
variable {v : CV} {s : LS} {ms' : List (Nat × Blk)}
theorem convT_le (hk : convOk v ms' = true) : ∀ {l r : List A} {i : Nat}, convT v s.ms i l = some r → le3s (rho v.R) s.st ms' l r
  | [], r, i, h => by simp only [convT, Option.some.injEq] at h; subst h; trivial
  | x :: l, r, i, h => by
    unfold convT at h
    split at h
    · rename_i e; cases e
    · rename_i cs l' e
      cases e
      split at h
      · rename_i r1 rest h1 h2; cases h; exact ⟨convCs_le hk h1, convT_le hk h2⟩
      · cases h
    · rename_i a l' _ e
      cases e
      split at h
      · rename_i r1 rest h1 h2; cases h; exact ⟨le1_2 (convL_le hk h1), convT_le hk h2⟩
      · cases h
theorem le2_3 {ρ : Nat → Option Nat} {st : St} {ms : List (Nat × Blk)} {x y : A} (h : le2 ρ st ms x y) : le3 ρ st ms x y := by
  unfold le3
  split
  · exact h.elim
  · exact h
theorem conv3_le (hk : convOk v ms' = true) {x r : A} (h : conv3 v s.ms x = some r) : le3 (rho v.R) s.st ms' x r := by
  unfold conv3 at h
  split at h
  · split at h
    · rename_i r' hr; cases h; exact convT_le hk hr
    · cases h
  · split at h
    · rename_i r' hr; cases h; exact le2_3 (convCs_le hk hr)
    · cases h
  · exact le2_3 (le1_2 (convL_le hk h))
theorem conv_fit (hk : convOk v ms' = true) {bs rs : List (Nat × Blk)} (hb : convB v s.ms v.B = some bs) (hr : convR s.ms v.R = some rs) (e : ms' = sortM (bs ++ rs ++ convZ v.Z)) : FitR (rho v.R) s.st [] ms' := by
  refine ⟨fun p hp => (by cases hp), fun p hp => ?_, fun p hp q hq j h1 h2 => ?_⟩
  · rw [e] at hp
    rcases List.mem_append.1 (sortM_mem hp) with hp | hp
    · rcases List.mem_append.1 hp with hp | hp
      · exact convB_le hk hb (fun _ h => h) p hp
      · exact convR_le hk hr (fun _ h => h) p hp
    · exact convZ_le hk (fun _ h => h) p hp
  · have h3 := hk
    simp only [convOk, Bool.and_eq_true, List.all_eq_true] at h3
    obtain ⟨i, hi, rfl⟩ := List.getElem_of_mem hp
    obtain ⟨i', hi', rfl⟩ := List.getElem_of_mem hq
    have := distinctX_get _ h3.2.2.2.1 i i' j (by rw [List.getElem?_map, List.getElem?_eq_getElem hi, Option.map_some, h1]) (by rw [List.getElem?_map, List.getElem?_eq_getElem hi', Option.map_some, h2])
    subst this
    rfl
end
theorem retIO_of {fn : Func} {r : A} {m' : List (Nat × Blk)} {s : LS} (v : CV) (h : retIOX P v fn.results.toList s = some (r, m')) :
    ∃ ρ : Nat → Option Nat, (∀ i, i < 1000 → ρ i = some i) ∧ ∃ x, resA P s.st fn.results.toList = some x ∧ le3 ρ s.st m' x r ∧ FitR ρ s.st [] m' := by
  unfold retIOX at h
  split at h
  · rename_i x bs rs hx hb hr
    split at h
    · rename_i r' hk hc
      cases h
      exact ⟨rho v.R, fun i hi => by unfold rho; rw [show Nat.blt i 1000 = true from Nat.ble_eq_true_of_le hi], x, hx, conv3_le hk hc, conv_fit hk hb hr rfl⟩
    · cases h
  · cases h
theorem retIO_ret {fn : Func} {r : A} {m' : List (Nat × Blk)} {s : LS} (v : CV) (h : retIOX P v fn.results.toList s = some (r, m')) : retIO P fn r m' .ret s.st := retIO_of v h
theorem retIO_end {fn : Func} {r : A} {m' : List (Nat × Blk)} {s : LS} (v : CV) (h : retIOX P v fn.results.toList s = some (r, m')) : retIO P fn r m' .normal s.st := retIO_of v h
theorem entry_IO (n : Nat) (args : List A) (m : List (Nat × Blk)) : (LS.mk n (entE 0 args) (someMs m)).st = entryIO n args m := by
  unfold LS.st entryIO
  congr 1
  · funext t
    rw [entE_get]; simp
  · funext i; exact (some_look m i).1
  · funext i; exact (some_look m i).2
theorem fn_ioX {f : FuncId} {fn : Func} {c : Code} {args : List A} {m m' : List (Nat × Blk)} {r : A} (hf : P.funcs[f]? = some fn) (hb : fn.body = some c) (hpl : plainFn P f = true) (hn : args.length ≤ fn.ntmps) (h9 : fn.ntmps ≤ 900) (h : W P c (LS.mk fn.ntmps (entE 0 args) (someMs m)).st (retIO P fn r m')) : FnIO P f args m r m' := by
  rw [entry_IO] at h
  exact fn_io hf hb hpl hn h9 h
end Go.Proofs.Ytblikpgdepjhdaa

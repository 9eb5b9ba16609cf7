/- Parts of the proof. -/
import Derived.Test.YtcmpcbpdnaodmaaDoorLsXI
import Derived.Test.YtcmpcbpdnaodmaaDoorLsEvH
namespace Go.Proofs.YtcmpcbpdnaodmaaDoor
open Go.RowKit
set_option linter.unusedVariables false
variable {B : Tab} {P : Program}
def mkifcV (P : Program) (o : Oper) (s : TS B) (t : TypeId) (x : Operand) : Act B :=
  match notIfc (P.underlying t) with
  | true => (match s.ev x with
    | .v (.c (.ptr id off)) => (match isBoxB s id with | true => .sem (s.put o.dst (.c (.ifc t id off))) | false => .no)
    | .v (.c (.d (.t (.v y)))) => .sem (s.put o.dst (.c (.d (.t (.v (.iface t y))))))
    | _ => .no)
  | false => .no
theorem isBoxB_ok {s : TS B} {id : Nat} (h : isBoxB s id = true) : ∃ ty cs, s.er.st.mem id = some (.box ty cs) := by
  unfold isBoxB at h
  split at h
  · rename_i bt cs hg
    refine ⟨bt, cs.map C1.er, ?_⟩
    show getM s.er.ms id = _
    rw [mem_er, hg]; rfl
  · cases h
theorem mkifcV_ok {o : Oper} {s : TS B} {t : TypeId} {x : Operand} (ho : o.op = .makeInterface t x) : Sound P o s (mkifcV P o s t x) := by
  unfold mkifcV
  split
  · rename_i ht
    split
    · rename_i id off hx
      split
      · rename_i hb
        intro K hK
        refine op_mkifc t x ho ht id off (by rw [ev_er, hx]; rfl) (isBoxB_ok hb) ?_
        rw [put_er, put_st] at hK
        exact hK
      · trivial
    · rename_i y hx
      intro K hK
      refine op_mkifcV t x ho ht y (by rw [ev_er, hx]; rfl) ?_
      rw [put_er, put_st] at hK
      exact hK
    · trivial
  · trivial
def assertV (P : Program) (o : Oper) (s : TS B) (x : Operand) (t : TypeId) : Act B :=
  match notIfc (P.underlying t), s.ev x with
  | true, .v (.c (.d (.t (.v (.iface t' (.int k n)))))) => (match Nat.beq t' t with | true => .sem (s.put o.dst (.tup [.c (.d (.t (.v (.int k n)))), .c (.d (.t (.v (.bool true))))])) | false => .no)
  | _, _ => .no
theorem assertV_ok {o : Oper} {s : TS B} {x : Operand} {xt t : TypeId} (ho : o.op = .typeAssert x xt t true) : Sound P o s (assertV P o s x t) := by
  unfold assertV
  split
  · rename_i t' k n ht hx
    split
    · rename_i e
      intro K hK
      refine op_assertV x xt t ho ht (.int k n) rfl (by rw [ev_er, hx, beq_t e]; rfl) ?_
      rw [put_er, put_st] at hK
      exact hK
    · trivial
  · trivial
def semS (sc : Bool) (s : TS B) : Act B := match sc with | true => .sem s | false => .no
def callMP (P : Program) (t : LT) (g : (i : Ix B t) → Option (Bx B t i)) (o : Oper) (s : TS B) (c : Call) (f : FuncId) (rv : V2 B) (l : Nat) : Act B :=
  match vsOf (c.args.toList.map s.ev) with
  | some vs => callP2 P t semS g o s f l (rv :: vs) (hAs B (t.lb l).sh.sl (rv :: vs))
  | none => .no
theorem ifcOf_ok {s : TS B} {x : Operand} {name : String} {f : FuncId} {rv : V2 B} (hi : ifcOf P s x name = some (f, rv)) :
    ∃ ty id off rc, s.er.st.ev x = .ifc ty id off ∧ (∃ bt cs, s.er.st.mem id = some (.box bt cs)) ∧ methFn P ty name = some (f, rc) ∧ (rc = .ptr → rv.er = .ptr id off) ∧ ∀ e, rc = .val e → ∃ ti, tinfo P e = some ti ∧ peek s.er.st (.ptr id off) ti = some rv.er := by
  unfold ifcOf at hi
  split at hi
  · rename_i ty id off hx
    split at hi
    · rename_i f' rc hbx hme
      split at hi
      · rename_i rv' hrv
        cases hi
        obtain ⟨r1, r2⟩ := recvV_er hrv
        exact ⟨ty, id, off, rc, by rw [ev_er, hx]; rfl, isBoxB_ok hbx, hme, r1, r2⟩
      · cases hi
    · cases hi
  · cases hi
theorem callMP_ok {t : LT} {g : (i : Ix B t) → Option (Bx B t i)} (hm : Means P t g) {o : Oper} {s : TS B} {c : Call} {x : Operand} {name : String} {f : FuncId} {rv : V2 B} {l : Nat} (ho : o.op = .call c) (hc : c.callee = .invoke x name) (hi : ifcOf P s x name = some (f, rv)) : Sound P o s (callMP P t g o s c f rv l) := by
  unfold callMP
  split
  · rename_i vs hvs
    have hev : c.args.toList.map s.er.st.ev = vs.map V2.er := by
      rw [vsOf_er hvs, List.map_map]
      exact List.map_congr_left fun x _ => ev_er s x
    obtain ⟨ty, id, off, rc, h1, h2, h3, h4, h5⟩ := ifcOf_ok hi
    refine callP2_ok hm fun rd ns hP e8 k3 => ?_
    unfold semS
    split
    · rename_i hsc
      intro K hK
      obtain ⟨callee, args, ts⟩ := c
      cases hc
      rw [put_er, put_st] at hK
      have he : ((rv.er :: args.toList.map s.er.st.ev).map (arg2 s.er.st)) = (rv :: vs).map fun x => arg2 s.er.st x.er := by
        rw [show args.toList.map s.er.st.ev = vs.map V2.er from hev, List.map_cons, List.map_map]; rfl
      exact op_invokeP x name args ts ho ty id off h1 h2 f rc h3 rv.er h4 h5 rd.er (by rw [he]; exact fnP_nil ns e8 hP) (by rw [he]; exact e8) hsc hK
    · trivial
  · trivial
def swapV (P : Program) (sw : List FuncId) (o : Oper) (s : TS B) (x : Operand) (name : String) (args : List Operand) : Act B :=
  match s.ev x, args.map s.ev with
  | .v (.c (.ifc ty id off)), [.v (.c (.d (.t (.v (.int .i64 i))))), .v (.c (.d (.t (.v (.int .i64 j)))))] => (match isBoxB s id, methFn P ty name with
    | true, some (f, .val e') => (match memN sw f, tinfo P e' with
      | true, some ti => (match peekV s (.v (.c (.ptr id off))) ti with
        | some (.v (.c (.ref r))) => (match getB s.ms r with
          | some (.row e (.int .i64) xs) => .bnd (getI xs i) fun p => .bnd (getI xs j) fun q => .sem ((s.new r (.row e (.int .i64) ((xs.set i.toNat q).set j.toNat p))).put o.dst (.tup []))
          | _ => .no)
        | _ => .no)
      | _, _ => .no)
    | _, _ => .no)
  | _, _ => .no
theorem swapV_ok {sw : List FuncId} (hsw : ∀ f, memN sw f = true → SwapFn P f) {o : Oper} {s : TS B} {c : Call} {x : Operand} {name : String} (ho : o.op = .call c) (hc : c.callee = .invoke x name) : Sound P o s (swapV P sw o s x name c.args.toList) := by
  unfold swapV
  split
  · rename_i ty id off i j hx hargs
    split
    · rename_i f e' hbx hme
      split
      · rename_i ti hf hti
        split
        · rename_i r hpk
          split
          · rename_i e xs hg
            intro p hp q hq K hK
            obtain ⟨callee, args, ts⟩ := c
            cases hc
            obtain ⟨i0, hp⟩ := getI_nat hp
            obtain ⟨j0, hq⟩ := getI_nat hq
            match args, hargs with
            | ⟨[]⟩, hargs => cases hargs
            | ⟨[_]⟩, hargs => exact absurd (congrArg List.length hargs) (by simp)
            | ⟨_ :: _ :: _ :: _⟩, hargs => exact absurd (congrArg List.length hargs) (by simp)
            | ⟨[x1, x2]⟩, hargs =>
              simp only [List.map_cons, List.map_nil, List.cons.injEq, and_true] at hargs
              have hpk' := peekV_er hpk
              have hr : s.er.st.mem r = some (.row e 1 (xs.map (enc B (.int .i64)))) := by
                show getM s.er.ms r = _
                rw [mem_er, hg]
                rfl
              refine op_swap x name x1 x2 ts ho ty id off (by rw [ev_er, hx]; rfl) (isBoxB_ok hbx) f e' hme ti hti r hpk' (hsw f hf) e (xs.map (enc B (.int .i64))) hr i.toNat j.toNat (by rw [ev_er, hargs.1, Int.toNat_of_nonneg i0]; rfl) (by rw [ev_er, hargs.2, Int.toNat_of_nonneg j0]; rfl) p q (by rw [List.getElem?_map, hp]; rfl) (by rw [List.getElem?_map, hq]; rfl) ?_
              rw [put_er, new_er, put_st, setm_st s.er r _ _ hr] at hK
              have e1 : (TB.row e (.int .i64) ((xs.set i.toNat q).set j.toNat p) : TB B).er = .row e 1 (((xs.map (enc B (.int .i64))).set i.toNat (enc B (.int .i64) q)).set j.toNat (enc B (.int .i64) p)) := by
                show Blk.row e (sz B (.int .i64)) (((xs.set i.toNat q).set j.toNat p).map (enc B (.int .i64))) = _
                rw [List.map_set, List.map_set]
                rfl
              rw [e1] at hK
              exact hK
          · trivial
        · trivial
      · trivial
    · trivial
  · trivial
def evOp2 (P : Program) (dof : TypeId → Option D) (o : Oper) (s : TS B) : Act B :=
  match o.op with
  | .makeInterface t x => mkifcV P o s t x
  | .typeAssert x _ t true => assertV P o s x t
  | _ => evOp1 P dof o s
theorem evOp2_ok {dof : TypeId → Option D} {o : Oper} {s : TS B} : Sound P o s (evOp2 P dof o s) := by
  unfold evOp2
  split
  · rename_i t x ho; exact mkifcV_ok ho
  · rename_i x xt t ho; exact assertV_ok ho
  · exact evOp1_ok
end Go.Proofs.YtcmpcbpdnaodmaaDoor
namespace Go.Proofs.YtcmpcbpdnaodmaaDoor
open Go.RowKit
set_option linter.unusedVariables false
variable {B : Tab} {P : Program} {t : LT}
def firstA (f : Nat → Act B) : List Nat → Act B
  | [] => .no
  | l :: ls => match f l with | .no => firstA f ls | a => a
theorem firstA_ok {o : Oper} {s : TS B} {f : Nat → Act B} (h : ∀ l, Sound P o s (f l)) : ∀ ls, Sound P o s (firstA f ls)
  | [] => trivial
  | l :: ls => by
    unfold firstA
    split
    · exact firstA_ok h ls
    · exact h l
def orA (a b : Act B) : Act B := match a with | .no => b | a => a
def unlessA (m : Nat) (a : Act B) : Act B := match m with | 1 => .no | _ => a
def callA (P : Program) (t : LT) (io pu lo : FuncId → List Nat) (g : (i : Ix B t) → Option (Bx B t i)) (m : Nat) (o : Oper) (s : TS B) (c : Call) (f : FuncId) : Act B :=
  orA (unlessA m (firstA (callL P t g o s c f) (lo f))) (orA (unlessA m (firstA (callIO P t g o s c f) (io f))) (firstA (callP P t g o s c f) (pu f)))
def actsA (P : Program) (t : LT) (dof : TypeId → Option D) (sw : List FuncId) (io pu lo : FuncId → List Nat) : Acts B t := fun g v rp i o s =>
  match o.op with
  | .call c => (match c.callee with
    | .value (.func f) => callA P t io pu lo g (t.hm v rp i) o s c f
    | .invoke x name => (match ifcOf P s x name with
      | some q => orA (swapV P sw o s x name c.args.toList) (orA (firstA (callM P t g o s c q.1 q.2) (io q.1)) (firstA (callMP P t g o s c q.1 q.2) (pu q.1)))
      | none => .no)
    | _ => evOp2 P dof o s)
  | _ => (match t.hm v rp i with | 0 => evOp2 P dof o s | m => evOpM P dof m o s)
theorem actsA_ok {dof : TypeId → Option D} {sw : List FuncId} (hsw : ∀ f, memN sw f = true → SwapFn P f) {io pu lo : FuncId → List Nat} {g : (i : Ix B t) → Option (Bx B t i)} (hm : Means P t g) (v : Nat) (rp : List Nat) (i : Nat) (o : Oper) (s : TS B) : Sound P o s (actsA P t dof sw io pu lo g v rp i o s) := by
  unfold actsA
  split
  · rename_i c ho
    split
    · rename_i f hc
      unfold callA
      have h1 := firstA_ok (P := P) (o := o) (s := s) (f := callIO P t g o s c f) (fun l => callIO_ok hm ho hc) (io f)
      have h2 := firstA_ok (P := P) (o := o) (s := s) (f := callP P t g o s c f) (fun l => callP_ok hm ho hc) (pu f)
      have h3 : ∀ m, Sound P o s (unlessA m (firstA (callIO P t g o s c f) (io f))) := fun m => by
        unfold unlessA
        split
        · trivial
        · exact h1
      have h4 : ∀ m, Sound P o s (unlessA m (firstA (callL P t g o s c f) (lo f))) := fun m => by
        unfold unlessA
        split
        · trivial
        · exact firstA_ok (fun l => callL_ok hm ho hc) (lo f)
      have hor : ∀ {a b : Act B}, Sound P o s a → Sound P o s b → Sound P o s (orA a b) := fun {a b} ha hb => by
        unfold orA
        split
        · exact hb
        · exact ha
      exact hor (h4 _) (hor (h3 _) h2)
    · rename_i x name hc
      split
      · rename_i q hq
        have hor : ∀ {a b : Act B}, Sound P o s a → Sound P o s b → Sound P o s (orA a b) := fun {a b} ha hb => by
          unfold orA
          split
          · exact hb
          · exact ha
        exact hor (swapV_ok hsw ho hc) (hor (firstA_ok (fun l => callM_ok hm ho hc hq) (io q.1)) (firstA_ok (fun l => callMP_ok hm ho hc hq) (pu q.1)))
      · trivial
    · exact evOp2_ok
  · split
    · exact evOp2_ok
    · exact evOpM_ok
theorem evA_means {hand : (i : Ix B t) → Option (Bx B t i)} {dof : TypeId → Option D} {sw : List FuncId} (hsw : ∀ f, memN sw f = true → SwapFn P f) {io pu lo : FuncId → List Nat} {fuel : Nat} (hmix : P.follows .mixedOrders = true) (hfn : ∀ l v, (t.lb l).v = v → t.hd l = false → ∃ fn, P.funcs[t.fn v]? = some fn) (hh : ∀ l x r, t.hd l = true → hand ⟨l, x⟩ = some r → MeanH P t l x r) :
    Means P t (fixD (EVB (B := B) P t hand (actsA P t dof sw io pu lo) fuel)) :=
  ev_means hmix hfn hh fun g hm v rp i o s => actsA_ok hsw hm v rp i o s
abbrev Gt (B : Tab) (t : LT) : Type := (i : Ix B t) → Option (Bx B t i)
theorem fin_cond {ρ : Type} (b : Bool) {F G : Gt B t → Option ρ} (h1 : Fin1 F) (h2 : Fin1 G) : Fin1 fun g => cond b (F g) (G g) := by
  cases b
  · exact h2
  · exact h1
def FinA (f : Gt B t → Act B) : Prop := ∀ {ρ : Type} (k : Gt B t → TS B → Nat → Option ρ), (∀ s lk, Fin1 fun g => k g s lk) → Fin1 fun g => runA (f g) (k g)
theorem finA_const : ∀ a : Act B, FinA (t := t) fun _ => a
  | .no => fun k hk => fin_const none
  | .st s lk => fun k hk => hk s _
  | .bnd x f => fun k hk => fin_bind (fin_const x) fun y => finA_const (f y) k hk
  | .cas b x y => fun k hk => fin_cond b (finA_const x k hk) (finA_const y k hk)
  | .lo s => fun k hk => hk s 2
  | .sem s => fun k hk => hk s 3
theorem finA_ask (i : Ix B t) (f : Bx B t i → Act B) : FinA (t := t) fun g => .bnd (g i) f := fun k hk => fin_bind (fin_ask i) fun y => finA_const (f y) k hk
def AskA (f : Gt B t → Act B) : Prop := (∃ a, ∀ g, f g = a) ∨ ∃ i k, ∀ g, f g = .bnd (g i) k
theorem ask_fin {f : Gt B t → Act B} (h : AskA f) : FinA f := by
  rcases h with ⟨a, ha⟩ | ⟨i, k, hk⟩
  · rw [show f = fun _ => a from funext ha]; exact finA_const a
  · rw [show f = fun g => .bnd (g i) k from funext hk]; exact finA_ask i k
theorem ask_first {f : Gt B t → Nat → Act B} (h : ∀ l, AskA fun g => f g l) : ∀ ls, AskA fun g => firstA (f g) ls
  | [] => .inl ⟨.no, fun _ => rfl⟩
  | l :: ls => by
    rcases h l with ⟨a, ha⟩ | ⟨i, k, hk⟩
    · cases a with
      | no =>
        rcases ask_first h ls with ⟨b, hb⟩ | ⟨i, k, hk⟩
        · exact .inl ⟨b, fun g => by show (match f g l with | .no => firstA (f g) ls | a => a) = b; rw [show f g l = _ from ha g]; exact hb g⟩
        · exact .inr ⟨i, k, fun g => by show (match f g l with | .no => firstA (f g) ls | a => a) = _; rw [show f g l = _ from ha g]; exact hk g⟩
      | st s lk => exact .inl ⟨.st s lk, fun g => by show (match f g l with | .no => firstA (f g) ls | a => a) = _; rw [show f g l = _ from ha g]⟩
      | bnd x k => exact .inl ⟨.bnd x k, fun g => by show (match f g l with | .no => firstA (f g) ls | a => a) = _; rw [show f g l = _ from ha g]⟩
      | lo s => exact .inl ⟨.lo s, fun g => by show (match f g l with | .no => firstA (f g) ls | a => a) = _; rw [show f g l = _ from ha g]⟩
      | sem s => exact .inl ⟨.sem s, fun g => by show (match f g l with | .no => firstA (f g) ls | a => a) = _; rw [show f g l = _ from ha g]⟩
      | cas b x y => exact .inl ⟨.cas b x y, fun g => by show (match f g l with | .no => firstA (f g) ls | a => a) = _; rw [show f g l = _ from ha g]⟩
    · exact .inr ⟨i, k, fun g => by show (match f g l with | .no => firstA (f g) ls | a => a) = _; rw [show f g l = _ from hk g]⟩
theorem ask_or {f f' : Gt B t → Act B} (h1 : AskA f) (h2 : AskA f') : AskA fun g => orA (f g) (f' g) := by
  rcases h1 with ⟨a, ha⟩ | ⟨i, k, hk⟩
  · cases a with
    | no =>
      rcases h2 with ⟨b, hb⟩ | ⟨i, k, hk⟩
      · exact .inl ⟨b, fun g => by show orA (f g) (f' g) = b; rw [ha g]; exact hb g⟩
      · exact .inr ⟨i, k, fun g => by show orA (f g) (f' g) = _; rw [ha g]; exact hk g⟩
    | st s lk => exact .inl ⟨.st s lk, fun g => by show orA (f g) (f' g) = _; rw [ha g]; rfl⟩
    | bnd x k => exact .inl ⟨.bnd x k, fun g => by show orA (f g) (f' g) = _; rw [ha g]; rfl⟩
    | lo s => exact .inl ⟨.lo s, fun g => by show orA (f g) (f' g) = _; rw [ha g]; rfl⟩
    | sem s => exact .inl ⟨.sem s, fun g => by show orA (f g) (f' g) = _; rw [ha g]; rfl⟩
    | cas b x y => exact .inl ⟨.cas b x y, fun g => by show orA (f g) (f' g) = _; rw [ha g]; rfl⟩
  · exact .inr ⟨i, k, fun g => by show orA (f g) (f' g) = _; rw [hk g]; rfl⟩
theorem ask_io (P : Program) (o : Oper) (s : TS B) (c : Call) (f : FuncId) (l : Nat) : AskA fun g => callIO P t g o s c f l := by
  unfold callIO callIO2
  split
  · split
    · split
      · split
        · exact .inr ⟨_, _, fun g => rfl⟩
        · exact .inl ⟨_, fun g => rfl⟩
      · exact .inl ⟨_, fun g => rfl⟩
    · exact .inl ⟨_, fun g => rfl⟩
  · exact .inl ⟨_, fun g => rfl⟩
theorem ask_m (P : Program) (o : Oper) (s : TS B) (c : Call) (f : FuncId) (rv : V2 B) (l : Nat) : AskA fun g => callM P t g o s c f rv l := by
  unfold callM callIO2
  split
  · split
    · split
      · split
        · exact .inr ⟨_, _, fun g => rfl⟩
        · exact .inl ⟨_, fun g => rfl⟩
      · exact .inl ⟨_, fun g => rfl⟩
    · exact .inl ⟨_, fun g => rfl⟩
  · exact .inl ⟨_, fun g => rfl⟩
theorem ask_mp (P : Program) (o : Oper) (s : TS B) (c : Call) (f : FuncId) (rv : V2 B) (l : Nat) : AskA fun g => callMP P t g o s c f rv l := by
  unfold callMP callP2
  repeat' split
  all_goals first
    | exact .inr ⟨_, _, fun g => rfl⟩
    | exact .inl ⟨_, fun g => rfl⟩
theorem ask_pu (P : Program) (o : Oper) (s : TS B) (c : Call) (f : FuncId) (l : Nat) : AskA fun g => callP P t g o s c f l := by
  unfold callP callP2
  repeat' split
  all_goals first
    | exact .inr ⟨_, _, fun g => rfl⟩
    | exact .inl ⟨_, fun g => rfl⟩
theorem ask_lo (P : Program) (o : Oper) (s : TS B) (c : Call) (f : FuncId) (l : Nat) : AskA fun g => callL P t g o s c f l := by
  unfold callL callL2
  repeat' split
  all_goals first
    | exact .inr ⟨_, _, fun g => rfl⟩
    | exact .inl ⟨_, fun g => rfl⟩
theorem ask_callA (P : Program) (io pu lo : FuncId → List Nat) (m : Nat) (o : Oper) (s : TS B) (c : Call) (f : FuncId) : AskA fun g => callA P t io pu lo g m o s c f := by
  have h1 : AskA fun g => unlessA m (firstA (callIO P t g o s c f) (io f)) := by
    unfold unlessA
    split
    · exact .inl ⟨_, fun g => rfl⟩
    · exact ask_first (f := fun g => callIO P t g o s c f) (fun l => ask_io P o s c f l) (io f)
  have h2 : AskA fun g => unlessA m (firstA (callL P t g o s c f) (lo f)) := by
    unfold unlessA
    split
    · exact .inl ⟨_, fun g => rfl⟩
    · exact ask_first (f := fun g => callL P t g o s c f) (fun l => ask_lo P o s c f l) (lo f)
  refine ask_or h2 ?_
  exact ask_or h1 (ask_first (f := fun g => callP P t g o s c f) (fun l => ask_pu P o s c f l) (pu f))
theorem fin_actsA (P : Program) (dof : TypeId → Option D) (sw : List FuncId) (io pu lo : FuncId → List Nat) (v : Nat) (rp : List Nat) (i : Nat) (o : Oper) (s : TS B) : FinA fun g => actsA P t dof sw io pu lo g v rp i o s := by
  unfold actsA
  split
  · split
    · exact ask_fin (ask_callA P io pu lo _ o s _ _)
    · split
      · exact ask_fin (ask_or (f := fun _ => swapV P sw o s _ _ _) (.inl ⟨_, fun _ => rfl⟩) (ask_or (ask_first (f := fun g => callM P t g o s _ _ _) (fun l => ask_m P o s _ _ _ l) _) (ask_first (f := fun g => callMP P t g o s _ _ _) (fun l => ask_mp P o s _ _ _ l) _)))
      · exact finA_const _
    · exact finA_const _
  · exact finA_const _
section
variable {act : Gt B t → List Nat → Nat → Oper → TS B → Act B}
theorem fin_step {ρ : Type} {act : Gt B t → Oper → TS B → Act B} (ha : ∀ o s, FinA fun g => act g o s) (dr : Bool) (fz : List Nat) (o : Oper) (s : TS B) {k : Gt B t → TS B → Nat → Option ρ} (hk : ∀ s m, Fin1 fun g => k g s m) : Fin1 fun g => evStep dr (act g) fz o s (k g) := by
  unfold evStep
  split
  · rename_i s1 _
    refine ha o s1 (fun g s' m => match !dr || (!Nat.beq m 3 && (keepsRows o s.er.st || !Nat.beq m 0)) with | true => k g s' m | false => none) fun s' m => ?_
    split
    · exact hk s' m
    · exact fin_const none
  · exact fin_const none
theorem fin_ops {ρ : Type} {act : Gt B t → Nat → Oper → TS B → Act B} (ha : ∀ i o s, FinA fun g => act g i o s) (dr : Bool) (hz : Nat → List Nat) (ops : List Oper) {k : Gt B t → TS B → Fps → Option ρ} (hk : ∀ s f, Fin1 fun g => k g s f) : ∀ (l : List Oper) (i : Nat) (s : TS B) (acc : Fps), Fin1 fun g => evOps dr hz (act g) ops i l s acc (k g)
  | [], i, s, acc => hk s acc
  | o :: rest, i, s, acc => by
    have go := fun s acc => fin_ops ha dr hz ops hk rest (i + 1) s acc
    unfold evOps
    split
    · exact fin_step (ha i) dr _ o s (k := fun g s' m => evOps dr hz (act g) ops (i + 1) rest s' _ (k g)) fun s' m => go s' _
    · split
      · exact fin_const none
      · split
        · refine fin_cond _ ?_ ?_
          · split
            · exact fin_step (ha i) dr _ o _ (k := fun g s' m => evOps dr hz (act g) ops (i + 1) rest s' _ (k g)) fun s' m => go s' _
            · exact go _ _
          · split
            · exact fin_step (ha i) dr _ o _ (k := fun g s' m => evOps dr hz (act g) ops (i + 1) rest s' _ (k g)) fun s' m => go s' _
            · exact go _ _
        · exact go _ _
        · exact fin_const none
theorem fin_reg {ρ : Type} {act : Gt B t → Nat → Oper → TS B → Act B} (ha : ∀ i o s, FinA fun g => act g i o s) (dr : Bool) (hz : Nat → List Nat) (ops : Array Oper) (s : TS B) {k : Gt B t → TS B → Option ρ} (hk : ∀ s, Fin1 fun g => k g s) : Fin1 fun g => evReg dr hz (act g) ops s (k g) := by
  unfold evReg
  split
  · exact fin_const none
  · split
    · refine fin_ops ha dr hz _ (k := fun g s' fps => match !dr || (textOk ops.toList && metOk ops.toList fps.reverse) with | true => k g s' | false => none) (fun s f => ?_) _ 0 _ []
      split
      · exact hk s
      · exact fin_const none
    · exact fin_const none
theorem fin_cast {a b : Nat} (h : a = b) {F : Gt B t → Option (Res B (t.rh a))} (hF : Fin1 F) : Fin1 fun g => castR h (F g) := by subst h; exact hF
theorem fin_goto (P : Program) (v l : Nat) (s : TS B) : Fin1 fun g => evGoto P t g v l s := by
  unfold evGoto
  split
  · rename_i h _
    split
    · exact fin_cast h (fin_ask _)
    · exact fin_const none
  · exact fin_const none
theorem fin_evM (P : Program) (ha : ∀ rp i o s, FinA fun g => act g rp i o s) (v : Nat) : ∀ (n : Nat) (m : Md) (s : TS B), Fin1 fun g => evM P t g (act g) v n m s
  | 0, m, s => fin_const none
  | n + 1, m, s => by
    have ih := fin_evM P ha v n
    cases m with
    | go rp =>
      unfold evM
      split
      · split
        · exact fin_goto P v _ s
        · exact fin_const none
      · exact ih _ _
    | inn rp =>
      unfold evM
      split
      · exact fin_reg (ha rp) _ _ _ s (k := fun g s' => evM P t g (act g) v n (.up rp .normal) s') fun s' => ih _ _
      · exact ih _ _
      · split
        · exact fin_cond _ (ih _ _) (ih _ _)
        · exact fin_const none
      · exact ih _ _
      · exact ih _ _
      · exact ih _ _
      · exact ih _ _
      · exact fin_const none
    | up rp e =>
      cases rp with
      | nil =>
        unfold evM
        split <;> exact fin_const _
      | cons i rp =>
        unfold evM
        repeat' split
        all_goals first
          | exact ih _ _
          | exact fin_goto P v _ s
          | exact fin_const none
end
theorem fin_EVB (P : Program) (hand : Gt B t) (dof : TypeId → Option D) (sw : List FuncId) (io pu lo : FuncId → List Nat) (fuel : Nat) (i : Ix B t) : Fin1 fun g => EVB P t hand (actsA P t dof sw io pu lo) fuel g i := by
  unfold EVB
  split
  · exact fin_const _
  · unfold evL
    split
    · exact fin_evM P (act := fun g => actsA P t dof sw io pu lo g (t.lb i.1).v) (fun rp i o s => fin_actsA P dof sw io pu lo _ rp i o s) _ fuel _ _
    · exact fin_evM P (act := fun g => actsA P t dof sw io pu lo g (t.lb i.1).v) (fun rp i o s => fin_actsA P dof sw io pu lo _ rp i o s) _ fuel _ _
end Go.Proofs.YtcmpcbpdnaodmaaDoor
namespace Go.Proofs.YtcmpcbpdnaodmaaDoor
open Go.RowKit
set_option linter.unusedVariables false
structure VR where
  fn : FuncId
  rh : Rh
  lat : List (List Nat × Nat)
  hz : List (List Nat × Nat × List Nat)
  hm : List (List Nat × Nat × Nat)
def lb0 : Lb := ⟨0, [], ⟨[], []⟩⟩
def vr0 : VR := ⟨0, ⟨[], []⟩, [], [], []⟩
def nth16 {α : Type} (d : α) (l : List (List α)) (n : Nat) : α := (l.getD (n / 16) []).getD (n % 16) d
def latL : List (List Nat × Nat) → List Nat → Option Nat
  | [], _ => none
  | (p, l) :: r, q => match eqP p q with | true => some l | false => latL r q
def hzL : List (List Nat × Nat × List Nat) → List Nat → Nat → List Nat
  | [], _, _ => []
  | (p, i, z) :: r, q, j => match Nat.beq i j && eqP p q with | true => z | false => hzL r q j
def hmL : List (List Nat × Nat × Nat) → List Nat → Nat → Nat
  | [], _, _ => 0
  | (p, i, z) :: r, q, j => match Nat.beq i j && eqP p q with | true => z | false => hmL r q j
def tblF : List (FuncId × List Nat) → FuncId → List Nat
  | [], _ => []
  | (f, l) :: r, g => match Nat.beq f g with | true => l | false => tblF r g
def mkLT (lbs : List (List Lb)) (vs : List (List VR)) (hands : List Nat) : LT where
  lb := nth16 lb0 lbs
  fn := fun v => (nth16 vr0 vs v).fn
  rh := fun v => (nth16 vr0 vs v).rh
  lat := fun v => latL (nth16 vr0 vs v).lat
  hd := fun l => memN hands l
  hz := fun v => hzL (nth16 vr0 vs v).hz
  hm := fun v => hmL (nth16 vr0 vs v).hm
noncomputable def bumpH : Nat := (fun (_ : (((i : Unit) → Option Unit) → (i : Unit) → Option Unit) → (i : Unit) → Option Unit) => 0) (fixD (ι := Unit) (β := fun _ => Unit))
noncomputable def castT {α β : Type} (h : α = β) (x : α) : β := (fun (_ : Nat) => h ▸ x) bumpH
noncomputable def mkI {B : Tab} {t : LT} {α : Type} (l : Nat) (x : α) (h : α = Vars B (t.lb l).sh := by kernel_rfl) : Ix B t := ⟨l, castT h x⟩
noncomputable def outI {α β : Type} (o : Option α) (h : α = β := by kernel_rfl) : Option β := castT (congrArg Option h) o
theorem outq {B : Tab} {t : LT} {F : Gt B t → Gt B t} (hq : ∀ i, fixD F i = F (fixD F) i) (i : Ix B t) {β : Type} (h : Bx B t i = β) : outI (fixD F i) h = outI (F (fixD F) i) h := by rw [hq i]
section
variable {ι : Type} {β : ι → Type}
end
theorem fnio_of {P : Program} {f : FuncId} {args : List A} {r : A} (h : FnP P f args r) (hf : args.all flat2 = true) : FnIO P f args [] r [] := by
  refine ⟨h.1, fun C L vals hP hpin hs hsz hrep => ?_⟩
  have hX : ∀ b, Mut C (mst []) L b → b < C.w0.heap.size := by
    rintro b (hx | ⟨i, hi, _⟩)
    · exact hs.old b hx
    · cases hi
  refine (h.2 C.w0 (Mut C (mst []) L) vals hX hsz fun i hi => leF_rep (x := args[i]) ?_ (hrep i hi)).mono ?_
  · have h1 : flat2 (args[i]) = true := List.all_eq_true.1 hf _ (List.getElem_mem hi)
    generalize args[i] = x at h1
    cases x with
    | tup cs => cases h1
    | _ => exact leF2_refl h1
  · rintro e w' ⟨v, rfl, hb, hr⟩
    exact ⟨v, L, rfl, hs.later hb.os hb.tape hb.output hb.size hb.block, RepA.ext hr (Ext.refl _ _) (fun b _ h => h) (fun id hi => by simp at hi) (fun id hi => by simp at hi)⟩
structure Hand (B : Tab) (t : LT) (P : Program) where
  l : Nat
  f : Vars B (t.lb l).sh → Option (Res B (t.rh (t.lb l).v))
  ok : ∀ x r, f x = some r → MeanH P t l x r
def handL {B : Tab} {t : LT} {P : Program} : List (Hand B t P) → (i : Ix B t) → Option (Bx B t i)
  | [], _ => none
  | h :: hs, ⟨l, x⟩ => match Nat.decEq h.l l with
    | .isTrue e => (e ▸ h.f : Vars B (t.lb l).sh → Option (Res B (t.rh (t.lb l).v))) x
    | .isFalse _ => handL hs ⟨l, x⟩
theorem handL_ok {B : Tab} {t : LT} {P : Program} : ∀ (hs : List (Hand B t P)) (l : Nat) (x : Vars B (t.lb l).sh) (r : Res B (t.rh (t.lb l).v)), handL hs ⟨l, x⟩ = some r → MeanH P t l x r
  | [], l, x, r, h => by cases h
  | k :: hs, l, x, r, h => by
    unfold handL at h
    split at h
    · rename_i e _
      subst e
      exact k.ok x r h
    · exact handL_ok hs l x r h
noncomputable def mkHand {B : Tab} {t : LT} {P : Program} {α β : Type} (l : Nat) (f : α → Option β) (hα : Vars B (t.lb l).sh = α := by kernel_rfl) (hβ : β = Res B (t.rh (t.lb l).v) := by kernel_rfl) (ok : ∀ x r, f x = some r → MeanH P t l (castT hα.symm x) (castT hβ r)) : Hand B t P where
  l := l
  f := fun x => castT (congrArg Option hβ) (f (castT hα x))
  ok := fun x r h => by
    subst hα
    subst hβ
    exact ok x r h
theorem nth16_all {α : Type} {d : α} {l : List (List α)} {p : α → Bool} (hd : p d = true) (h : (l.all fun c => c.all p) = true) (n : Nat) : p (nth16 d l n) = true := by
  unfold nth16
  have key : ∀ (c : List α) (m : Nat), c.all p = true → p (c.getD m d) = true := fun c m hc => by
    rw [List.getD_eq_getElem?_getD]
    cases hm : c[m]? with
    | none => exact hd
    | some x => exact List.all_eq_true.1 hc x (List.mem_of_getElem? hm)
  refine key _ _ ?_
  rw [List.getD_eq_getElem?_getD]
  cases hm : l[n / 16]? with
  | none => rfl
  | some c => exact List.all_eq_true.1 h c (List.mem_of_getElem? hm)
theorem fns_of {P : Program} {lbs : List (List Lb)} {vs : List (List VR)} {hands : List Nat} (h0 : (P.funcs[vr0.fn]?).isSome = true) (h : (vs.all fun c => c.all fun r => (P.funcs[r.fn]?).isSome) = true) (l v : Nat) (_ : ((mkLT lbs vs hands).lb l).v = v) (_ : (mkLT lbs vs hands).hd l = false) : ∃ fn, P.funcs[(mkLT lbs vs hands).fn v]? = some fn :=
  Option.isSome_iff_exists.1 (nth16_all (p := fun r : VR => (P.funcs[r.fn]?).isSome) h0 h v)
theorem map_ok {α β : Type} {o : Option α} {f : α → β} {r : β} (h : o.map f = some r) : ∃ x, o = some x ∧ f x = r := by
  cases o with
  | none => cases h
  | some x => exact ⟨x, rfl, Option.some.inj h⟩
theorem law_fn {B : Tab} {P : Program} {t : LT} {g : Gt B t} (hm : Means P t g) {l : Nat} {α β : Type} {x : α} {hx : α = Vars B (t.lb l).sh} {hT : Res B (t.rh (t.lb l).v) = β} {r : β} (h : outI (g (mkI l x hx)) hT = some r)
    (hk : (eqP (t.lb l).rp [] && (slots 0 (t.lb l).sh.sl && (okFn P (t.fn (t.lb l).v) (argI (t.lb l).sh.sl (castT hx x).1).length && (Nat.ble (ntF P (t.fn (t.lb l).v)) 900 && (nilL (memI (t.lb l).sh (castT hx x)) &&
      (nilL (t.rh (t.lb l).v).bx && (nodupN ((RLrows (t.rh (t.lb l).v).rs (castT hT.symm r).1).map (·.1)) && ((t.rh (t.lb l).v).rs.all (noMapV B) && flat3 (resD (t.rh (t.lb l).v) (castT hT.symm r)).er)))))))) = true) :
    FnP P (t.fn (t.lb l).v) (argI (t.lb l).sh.sl (castT hx x).1) (resD (t.rh (t.lb l).v) (castT hT.symm r)).er := by
  subst hx
  subst hT
  simp only [Bool.and_eq_true] at hk
  obtain ⟨e1, e3, e4, e5, e6, k0, k1, k4, k2⟩ := hk
  have hr : g ⟨l, x⟩ = some r := h
  have hio := (hm l x r hr (eqP_eq e1)).elim (fun hm => mean_io hm e3 e4 e5) id
  have hrm : resM (t.rh (t.lb l).v) r = RLrows (t.rh (t.lb l).v).rs r.1 := resM_rows k0 r
  rw [show memI (t.lb l).sh x = [] from nilL_eq e6, hrm] at hio
  exact fnio_pure hio (resD_er k4 (hasR_mst k1)) k2
end Go.Proofs.YtcmpcbpdnaodmaaDoor

/- Parts of the proof. -/
import Derived.Test.YtabmahknlebhpaaGreatVdXI
import Derived.Test.YtabmahknlebhpaaGreatVdEvL
namespace Go.Proofs.YtabmahknlebhpaaGreat
open Go.RowKit
set_option linter.unusedVariables false
variable {B : Tab} {P : Program}
def mkifcV (P : Program) (o : Oper) (s : TS B) (t : TypeId) (x : Operand) : Act B :=
  match notIfc (P.underlying t) with
  | true => (match s.ev x with
    | .v (.c (.ptr id off)) => (match isBoxB s id with | true => .sem (s.put o.dst (.c (.ifc t id off))) | false => .no)
    | .v (.c (.d (.t (.v y)))) => .sem (s.put o.dst (.c (.d (.t (.v (.iface t y))))))
    | _ => .no)
  | false => .no
theorem isBoxB_ok {s : TS B} {id : Nat} (h : isBoxB s id = true) : ∃ ty cs, s.er.st.mem id = some (.box ty cs) := by
  unfold isBoxB at h
  split at h
  · rename_i bt cs hg
    refine ⟨bt, cs.map C1.er, ?_⟩
    show getM s.er.ms id = _
    rw [mem_er, hg]; rfl
  · cases h
theorem mkifcV_ok {o : Oper} {s : TS B} {t : TypeId} {x : Operand} (ho : o.op = .makeInterface t x) : Sound P o s (mkifcV P o s t x) := by
  unfold mkifcV
  split
  · rename_i ht
    split
    · rename_i id off hx
      split
      · rename_i hb
        intro K hK
        refine op_mkifc t x ho ht id off (by rw [ev_er, hx]; rfl) (isBoxB_ok hb) ?_
        rw [put_er, put_st] at hK
        exact hK
      · trivial
    · rename_i y hx
      intro K hK
      refine op_mkifcV t x ho ht y (by rw [ev_er, hx]; rfl) ?_
      rw [put_er, put_st] at hK
      exact hK
    · trivial
  · trivial
def assertV (P : Program) (o : Oper) (s : TS B) (x : Operand) (t : TypeId) : Act B :=
  match notIfc (P.underlying t), s.ev x with
  | true, .v (.c (.d (.t (.v (.iface t' (.int k n)))))) => (match Nat.beq t' t with | true => .sem (s.put o.dst (.tup [.c (.d (.t (.v (.int k n)))), .c (.d (.t (.v (.bool true))))])) | false => .no)
  | _, _ => .no
theorem assertV_ok {o : Oper} {s : TS B} {x : Operand} {xt t : TypeId} (ho : o.op = .typeAssert x xt t true) : Sound P o s (assertV P o s x t) := by
  unfold assertV
  split
  · rename_i t' k n ht hx
    split
    · rename_i e
      intro K hK
      refine op_assertV x xt t ho ht (.int k n) rfl (by rw [ev_er, hx, beq_t e]; rfl) ?_
      rw [put_er, put_st] at hK
      exact hK
    · trivial
  · trivial
def semS (sc : Bool) (s : TS B) : Act B := match sc with | true => .sem s | false => .no
def callMP (P : Program) (t : LT) (g : (i : Ix B t) → Option (Bx B t i)) (o : Oper) (s : TS B) (c : Call) (f : FuncId) (rv : V2 B) (l : Nat) : Act B :=
  match vsOf (c.args.toList.map s.ev) with
  | some vs => callP2 P t semS g o s f l (rv :: vs) (hAs B (t.lb l).sh.sl (rv :: vs))
  | none => .no
theorem ifcOf_ok {s : TS B} {x : Operand} {name : String} {f : FuncId} {rv : V2 B} (hi : ifcOf P s x name = some (f, rv)) :
    ∃ ty id off rc, s.er.st.ev x = .ifc ty id off ∧ (∃ bt cs, s.er.st.mem id = some (.box bt cs)) ∧ methFn P ty name = some (f, rc) ∧ (rc = .ptr → rv.er = .ptr id off) ∧ ∀ e, rc = .val e → ∃ ti, tinfo P e = some ti ∧ peek s.er.st (.ptr id off) ti = some rv.er := by
  unfold ifcOf at hi
  split at hi
  · rename_i ty id off hx
    split at hi
    · rename_i f' rc hbx hme
      split at hi
      · rename_i rv' hrv
        cases hi
        obtain ⟨r1, r2⟩ := recvV_er hrv
        exact ⟨ty, id, off, rc, by rw [ev_er, hx]; rfl, isBoxB_ok hbx, hme, r1, r2⟩
      · cases hi
    · cases hi
  · cases hi
theorem callMP_ok {t : LT} {g : (i : Ix B t) → Option (Bx B t i)} (hm : Means P t g) {o : Oper} {s : TS B} {c : Call} {x : Operand} {name : String} {f : FuncId} {rv : V2 B} {l : Nat} (ho : o.op = .call c) (hc : c.callee = .invoke x name) (hi : ifcOf P s x name = some (f, rv)) : Sound P o s (callMP P t g o s c f rv l) := by
  unfold callMP
  split
  · rename_i vs hvs
    have hev : c.args.toList.map s.er.st.ev = vs.map V2.er := by
      rw [vsOf_er hvs, List.map_map]
      exact List.map_congr_left fun x _ => ev_er s x
    obtain ⟨ty, id, off, rc, h1, h2, h3, h4, h5⟩ := ifcOf_ok hi
    refine callP2_ok hm fun rd ns hP e8 k3 => ?_
    unfold semS
    split
    · rename_i hsc
      intro K hK
      obtain ⟨callee, args, ts⟩ := c
      cases hc
      rw [put_er, put_st] at hK
      have he : ((rv.er :: args.toList.map s.er.st.ev).map (arg2 s.er.st)) = (rv :: vs).map fun x => arg2 s.er.st x.er := by
        rw [show args.toList.map s.er.st.ev = vs.map V2.er from hev, List.map_cons, List.map_map]; rfl
      exact op_invokeP x name args ts ho ty id off h1 h2 f rc h3 rv.er h4 h5 rd.er (by rw [he]; exact fnP_nil ns e8 hP) (by rw [he]; exact e8) hsc hK
    · trivial
  · trivial
def swapV (P : Program) (sw : List FuncId) (o : Oper) (s : TS B) (x : Operand) (name : String) (args : List Operand) : Act B :=
  match s.ev x, args.map s.ev with
  | .v (.c (.ifc ty id off)), [.v (.c (.d (.t (.v (.int .i64 i))))), .v (.c (.d (.t (.v (.int .i64 j)))))] => (match isBoxB s id, methFn P ty name with
    | true, some (f, .val e') => (match memN sw f, tinfo P e' with
      | true, some ti => (match peekV s (.v (.c (.ptr id off))) ti with
        | some (.v (.c (.ref r))) => (match getB s.ms r with
          | some (.row e (.int .i64) xs) => .bnd (getI xs i) fun p => .bnd (getI xs j) fun q => .sem ((s.new r (.row e (.int .i64) ((xs.set i.toNat q).set j.toNat p))).put o.dst (.tup []))
          | _ => .no)
        | _ => .no)
      | _, _ => .no)
    | _, _ => .no)
  | _, _ => .no
theorem swapV_ok {sw : List FuncId} (hsw : ∀ f, memN sw f = true → SwapFn P f) {o : Oper} {s : TS B} {c : Call} {x : Operand} {name : String} (ho : o.op = .call c) (hc : c.callee = .invoke x name) : Sound P o s (swapV P sw o s x name c.args.toList) := by
  unfold swapV
  split
  · rename_i ty id off i j hx hargs
    split
    · rename_i f e' hbx hme
      split
      · rename_i ti hf hti
        split
        · rename_i r hpk
          split
          · rename_i e xs hg
            intro p hp q hq K hK
            obtain ⟨callee, args, ts⟩ := c
            cases hc
            obtain ⟨i0, hp⟩ := getI_nat hp
            obtain ⟨j0, hq⟩ := getI_nat hq
            match args, hargs with
            | ⟨[]⟩, hargs => cases hargs
            | ⟨[_]⟩, hargs => exact absurd (congrArg List.length hargs) (by simp)
            | ⟨_ :: _ :: _ :: _⟩, hargs => exact absurd (congrArg List.length hargs) (by simp)
            | ⟨[x1, x2]⟩, hargs =>
              simp only [List.map_cons, List.map_nil, List.cons.injEq, and_true] at hargs
              have hpk' := peekV_er hpk
              have hr : s.er.st.mem r = some (.row e 1 (xs.map (enc B (.int .i64)))) := by
                show getM s.er.ms r = _
                rw [mem_er, hg]
                rfl
              refine op_swap x name x1 x2 ts ho ty id off (by rw [ev_er, hx]; rfl) (isBoxB_ok hbx) f e' hme ti hti r hpk' (hsw f hf) e (xs.map (enc B (.int .i64))) hr i.toNat j.toNat (by rw [ev_er, hargs.1, Int.toNat_of_nonneg i0]; rfl) (by rw [ev_er, hargs.2, Int.toNat_of_nonneg j0]; rfl) p q (by rw [List.getElem?_map, hp]; rfl) (by rw [List.getElem?_map, hq]; rfl) ?_
              rw [put_er, new_er, put_st, setm_st s.er r _ _ hr] at hK
              have e1 : (TB.row e (.int .i64) ((xs.set i.toNat q).set j.toNat p) : TB B).er = .row e 1 (((xs.map (enc B (.int .i64))).set i.toNat (enc B (.int .i64) q)).set j.toNat (enc B (.int .i64) p)) := by
                show Blk.row e (sz B (.int .i64)) (((xs.set i.toNat q).set j.toNat p).map (enc B (.int .i64))) = _
                rw [List.map_set, List.map_set]
                rfl
              rw [e1] at hK
              exact hK
          · trivial
        · trivial
      · trivial
    · trivial
  · trivial
def evOp2 (P : Program) (dof : TypeId → Option D) (o : Oper) (s : TS B) : Act B :=
  match o.op with
  | .makeInterface t x => mkifcV P o s t x
  | .typeAssert x _ t true => assertV P o s x t
  | _ => evOp1 P dof o s
theorem evOp2_ok {dof : TypeId → Option D} {o : Oper} {s : TS B} : Sound P o s (evOp2 P dof o s) := by
  unfold evOp2
  split
  · rename_i t x ho; exact mkifcV_ok ho
  · rename_i x xt t ho; exact assertV_ok ho
  · exact evOp1_ok
end Go.Proofs.YtabmahknlebhpaaGreat

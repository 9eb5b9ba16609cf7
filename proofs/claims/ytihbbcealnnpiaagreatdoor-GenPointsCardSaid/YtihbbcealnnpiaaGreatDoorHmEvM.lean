/- Parts of the proof. -/
import Derived.Test.YtihbbcealnnpiaaGreatDoorHmXI
import Derived.Test.YtihbbcealnnpiaaGreatDoorHmEvH
set_option linter.unusedVariables false
namespace Go.Proofs.YtihbbcealnnpiaaGreatDoor
noncomputable section
section
open Go.RowKit
variable{B:Tab}{P:Program}
def uY(P:Program)(o:Oper)(s:TS B)(t:TypeId)(x:Operand):Act B:=
 match Vy (P.underlying t)with
 |true=>(match s.ev x with
  |.v (.c (.ptr id off))=>(match Lo s id with|true=>.sem (s.put o.dst (.c (.ifc t id off)))|false=>.no)
  |.v (.c (.d (.t (.v y))))=>.sem (s.put o.dst (.c (.d (.t (.v (.iface t y))))))
  |_=>.no)
 |false=>.no
theorem CL{s:TS B}{id:Nat}(h:Lo s id=true):∃ty cs,s.er.st.mem id=some (.box ty cs):=by
 unfold Lo at h;split at h
 ·rename_i bt cs hg;refine⟨bt,cs.map C1.er,?_⟩;show x7 s.er.ms id=_;rw[L4,hg];rfl
 ·cases h
theorem a4T{o:Oper}{s:TS B}{t:TypeId}{x:Operand}(ho:o.op=.makeInterface t x):v6 P o s (uY P o s t x):=by
 unfold uY;split
 ·rename_i ht;split
  ·rename_i id off hx;split
   ·rename_i hb;intro K hK;refine a4B t x ho ht id off (by rw[A1,hx];rfl) (CL hb) ?_;rw[M2,C0]at hK;exact hK
   ·trivial
  ·rename_i y hx;intro K hK;refine ZK t x ho ht y (by rw[A1,hx];rfl) ?_;rw[M2,C0]at hK;exact hK
  ·trivial
 ·trivial
def AN(P:Program)(o:Oper)(s:TS B)(x:Operand)(t:TypeId):Act B:=
 match Vy (P.underlying t),s.ev x with
 |true,.v (.c (.d (.t (.v (.iface t' (.int k n))))))=>(match Nat.beq t' t with|true=>.sem (s.put o.dst (.tup [.c (.d (.t (.v (.int k n)))),.c (.d (.t (.v (.bool true))))]))|false=>.no)
 |_,_=>.no
theorem a2s{o:Oper}{s:TS B}{x:Operand}{xt t:TypeId}(ho:o.op=.typeAssert x xt t true):v6 P o s (AN P o s x t):=by
 unfold AN;split
 ·rename_i t' k n ht hx;split
  ·rename_i e;intro K hK;refine a95 x xt t ho ht (.int k n) rfl (by rw[A1,hx,D2 e];rfl) ?_;rw[M2,C0]at hK;exact hK
  ·trivial
 ·trivial
def VZ(sc:Bool)(s:TS B):Act B:=match sc with|true=>.sem s|false=>.no
def Ni(P:Program)(t:LT)(g:(i:Ix B t)→Option (Bx B t i))(o:Oper)(s:TS B)(c:Call)(f:FuncId)(rv:V2 B)(l:Nat):Act B:=
 match Gz (c.args.toList.map s.ev)with
 |some vs=>Mm P t VZ g o s f l (rv::vs) (hAs B (t.lb l).sh.sl (rv::vs))
 |none=>.no
theorem a6k{s:TS B}{x:Operand}{name:String}{f:FuncId}{rv:V2 B}(hi:Oq P s x name=some (f,rv)):∃ty id off rc,s.er.st.ev x=.ifc ty id off∧(∃bt cs,s.er.st.mem id=some (.box bt cs))∧Fj P ty name=some (f,rc)∧(rc=.ptr→rv.er=.ptr id off)∧∀e,rc=.val e→∃ti,p8 P e=some ti∧K5 s.er.st (.ptr id off) ti=some rv.er:=by
 unfold Oq at hi;split at hi
 ·rename_i ty id off hx;split at hi
  ·rename_i f' rc hbx hme;split at hi
   ·rename_i rv' hrv;cases hi;obtain⟨r1,r2⟩:=OY hrv;exact⟨ty,id,off,rc,by rw[A1,hx];rfl,CL hbx,hme,r1,r2⟩
   ·cases hi
  ·cases hi
 ·cases hi
theorem a5F{t:LT}{g:(i:Ix B t)→Option (Bx B t i)}(hm:T9 P t g){o:Oper}{s:TS B}{c:Call}{x:Operand}{name:String}{f:FuncId}{rv:V2 B}{l:Nat}(ho:o.op=.call c)(hc:c.callee=.invoke x name)(hi:Oq P s x name=some (f,rv)):v6 P o s (Ni P t g o s c f rv l):=by
 unfold Ni;split
 ·rename_i vs hvs;have hev:c.args.toList.map s.er.st.ev=vs.map V2.er:=by rw[Nh hvs,List.map_map];exact List.map_congr_left fun x _=>A1 s x
  obtain⟨ty,id,off,rc,h1,h2,h3,h4,h5⟩:=a6k hi;refine GK hm fun rd ns hP e8 k3=>?_;unfold VZ;split
  ·rename_i hsc;intro K hK;obtain⟨callee,args,ts⟩:=c;cases hc;rw[M2,C0]at hK;have he:((rv.er::args.toList.map s.er.st.ev).map (u0 s.er.st))=(rv::vs).map fun x=>u0 s.er.st x.er:=by rw[show args.toList.map s.er.st.ev=vs.map V2.er from hev,List.map_cons,List.map_map];rfl
   exact a0b x name args ts ho ty id off h1 h2 f rc h3 rv.er h4 h5 rd.er (by rw[he];exact Mo ns e8 hP) (by rw[he];exact e8) hsc hK
  ·trivial
 ·trivial
def eJ(P:Program)(sw:List FuncId)(o:Oper)(s:TS B)(x:Operand)(name:String)(args:List Operand):Act B:=
 match s.ev x,args.map s.ev with
 |.v (.c (.ifc ty id off)),[.v (.c (.d (.t (.v (.int .i64 i))))),.v (.c (.d (.t (.v (.int .i64 j)))))]=>(match Lo s id,Fj P ty name with
  |true,some (f,.val e')=>(match B5 sw f,p8 P e' with
   |true,some ti=>(match Gp s (.v (.c (.ptr id off))) ti with
    |some (.v (.c (.ref r)))=>(match A9 s.ms r with
     |some (.row e (.int .i64) xs)=>.bnd (f5 xs i) fun p=>.bnd (f5 xs j) fun q=>.sem ((s.new r (.row e (.int .i64) ((xs.set i.toNat q).set j.toNat p))).put o.dst (.tup []))
     |_=>.no)
    |_=>.no)
   |_,_=>.no)
  |_,_=>.no)
 |_,_=>.no
theorem a9k{sw:List FuncId}(hsw:∀f,B5 sw f=true→Nv P f){o:Oper}{s:TS B}{c:Call}{x:Operand}{name:String}(ho:o.op=.call c)(hc:c.callee=.invoke x name):v6 P o s (eJ P sw o s x name c.args.toList):=by
 unfold eJ;split
 ·rename_i ty id off i j hx hargs;split
  ·rename_i f e' hbx hme;split
   ·rename_i ti hf hti;split
    ·rename_i r hpk;split
     ·rename_i e xs hg;intro p hp q hq K hK;obtain⟨callee,args,ts⟩:=c;cases hc;obtain⟨i0,hp⟩:=gY hp;obtain⟨j0,hq⟩:=gY hq
      match args,hargs with
      |⟨[]⟩,hargs=>cases hargs
      |⟨[_]⟩,hargs=>exact absurd (congrArg List.length hargs) (by simp)
      |⟨_::_::_::_⟩,hargs=>exact absurd (congrArg List.length hargs) (by simp)
      |⟨[x1,x2]⟩,hargs=>
       simp only[List.map_cons,List.map_nil,List.cons.injEq,and_true]at hargs;have hpk':=mB hpk;have hr:s.er.st.mem r=some (.row e 1 (xs.map (enc B (.int .i64)))):=by show x7 s.er.ms r=_;rw[L4,hg];rfl
       refine a7c x name x1 x2 ts ho ty id off (by rw[A1,hx];rfl) (CL hbx) f e' hme ti hti r hpk' (hsw f hf) e (xs.map (enc B (.int .i64))) hr i.toNat j.toNat (by rw[A1,hargs.1,Int.toNat_of_nonneg i0];rfl) (by rw[A1,hargs.2,Int.toNat_of_nonneg j0];rfl) p q (by rw[I6,hp];rfl) (by rw[I6,hq];rfl) ?_;rw[M2,Ki,C0,Ub s.er r _ _ hr]at hK;have e1:(TB.row e (.int .i64) ((xs.set i.toNat q).set j.toNat p):TB B).er=.row e 1 (((xs.map (enc B (.int .i64))).set i.toNat (enc B (.int .i64) q)).set j.toNat (enc B (.int .i64) p)):=by show Blk.row e (sz B (.int .i64)) (((xs.set i.toNat q).set j.toNat p).map (enc B (.int .i64)))=_;rw[List.map_set,List.map_set];rfl
       rw[e1]at hK;exact hK
     ·trivial
    ·trivial
   ·trivial
  ·trivial
 ·trivial
def oX(P:Program)(dof:TypeId→Option D)(o:Oper)(s:TS B):Act B:=
 match o.op with
 |.makeInterface t x=>uY P o s t x
 |.typeAssert x _ t true=>AN P o s x t
 |_=>zY P dof o s
theorem FR{dof:TypeId→Option D}{o:Oper}{s:TS B}:v6 P o s (oX P dof o s):=by
 unfold oX;split
 ·rename_i t x ho;exact a4T ho
 ·rename_i x xt t ho;exact a2s ho
 ·exact YU
end
section
open Go.RowKit
variable{B:Tab}{P:Program}{t:LT}
def N9(f:Nat→Act B):List Nat→Act B
 | []=>.no
 |l::ls=>match f l with|.no=>N9 f ls|a=>a
theorem Nu{o:Oper}{s:TS B}{f:Nat→Act B}(h:∀l,v6 P o s (f l)):∀ls,v6 P o s (N9 f ls)
 | []=>trivial
 |l::ls=>by
  unfold N9;split
  ·exact Nu h ls
  ·exact h l
def orA(a b:Act B):Act B:=match a with|.no=>b|a=>a
def Ce(m:Nat)(a:Act B):Act B:=match m with|1=>.no|_=>a
def yJ(P:Program)(t:LT)(io pu lo:FuncId→List Nat)(g:(i:Ix B t)→Option (Bx B t i))(m:Nat)(o:Oper)(s:TS B)(c:Call)(f:FuncId):Act B:=
 orA (Ce m (N9 (Hv P t g o s c f) (lo f))) (orA (Ce m (N9 (Ey P t g o s c f) (io f))) (N9 (Jt P t g o s c f) (pu f)))
def Cm(P:Program)(t:LT)(dof:TypeId→Option D)(sw:List FuncId)(io pu lo:FuncId→List Nat):rO B t:=fun g v rp i o s=>
 match o.op with
 |.call c=>(match c.callee with
  |.value (.func f)=>yJ P t io pu lo g (t.hm v rp i) o s c f
  |.invoke x name=>(match Oq P s x name with
   |some q=>orA (eJ P sw o s x name c.args.toList) (orA (N9 (Nk P t g o s c q.1 q.2) (io q.1)) (N9 (Ni P t g o s c q.1 q.2) (pu q.1)))
   |none=>.no)
  |_=>oX P dof o s)
 |_=>(match t.hm v rp i with|0=>oX P dof o s|m=>zJ P dof m o s)
theorem a09{dof:TypeId→Option D}{sw:List FuncId}(hsw:∀f,B5 sw f=true→Nv P f){io pu lo:FuncId→List Nat}{g:(i:Ix B t)→Option (Bx B t i)}(hm:T9 P t g)(v:Nat)(rp:List Nat)(i:Nat)(o:Oper)(s:TS B):v6 P o s (Cm P t dof sw io pu lo g v rp i o s):=by
 unfold Cm;split
 ·rename_i c ho;split
  ·rename_i f hc;unfold yJ;have h1:=Nu (P:=P) (o:=o) (s:=s) (f:=Ey P t g o s c f) (fun l=>a16 hm ho hc) (io f);have h2:=Nu (P:=P) (o:=o) (s:=s) (f:=Jt P t g o s c f) (fun l=>a43 hm ho hc) (pu f);have h3:∀m,v6 P o s (Ce m (N9 (Ey P t g o s c f) (io f))):=fun m=>by
    unfold Ce;split
    ·trivial
    ·exact h1
   have h4:∀m,v6 P o s (Ce m (N9 (Hv P t g o s c f) (lo f))):=fun m=>by
    unfold Ce;split
    ·trivial
    ·exact Nu (fun l=>a6T hm ho hc) (lo f)
   have hor:∀{a b:Act B},v6 P o s a→v6 P o s b→v6 P o s (orA a b):=fun{a b} ha hb=>by
    unfold orA;split
    ·exact hb
    ·exact ha
   exact hor (h4 _) (hor (h3 _) h2)
  ·rename_i x name hc;split
   ·rename_i q hq;have hor:∀{a b:Act B},v6 P o s a→v6 P o s b→v6 P o s (orA a b):=fun{a b} ha hb=>by
     unfold orA;split
     ·exact hb
     ·exact ha
    exact hor (a9k hsw ho hc) (hor (Nu (fun l=>a7X hm ho hc hq) (io q.1)) (Nu (fun l=>a5F hm ho hc hq) (pu q.1)))
   ·trivial
  ·exact FR
 ·split
  ·exact FR
  ·exact a9f
theorem VE{hand:(i:Ix B t)→Option (Bx B t i)}{dof:TypeId→Option D}{sw:List FuncId}(hsw:∀f,B5 sw f=true→Nv P f){io pu lo:FuncId→List Nat}{fuel:Nat}(hmix:P.follows .mixedOrders=true)(hfn:∀l v,(t.lb l).v=v→t.hd l=false→∃fn,P.funcs[t.fn v]? =some fn)(hh:∀l x r,t.hd l=true→hand ⟨l,x⟩=some r→Ed P t l x r):T9 P t (G4 (EVB (B:=B) P t hand (Cm P t dof sw io pu lo) fuel)):=
 a7g hmix hfn hh fun g hm v rp i o s=>a09 hsw hm v rp i o s
abbrev Gt(B:Tab)(t:LT):Type:=(i:Ix B t)→Option (Bx B t i)
theorem tU{ρ:Type}(b:Bool){F G:Gt B t→Option ρ}(h1:G6 F)(h2:G6 G):G6 fun g=>cond b (F g) (G g):=by
 cases b
 ·exact h2
 ·exact h1
def Ho(f:Gt B t→Act B):Prop:=∀{ρ:Type} (k:Gt B t→TS B→Nat→Option ρ),(∀s lk,G6 fun g=>k g s lk)→G6 fun g=>Kx (f g) (k g)
theorem Fu:∀a:Act B,Ho (t:=t) fun _=>a
 |.no=>fun k hk=>P5 none
 |.st s lk=>fun k hk=>hk s _
 |.bnd x f=>fun k hk=>zH (P5 x) fun y=>Fu (f y) k hk
 |.cas b x y=>fun k hk=>tU b (Fu x k hk) (Fu y k hk)
 |.lo s=>fun k hk=>hk s 2
 |.sem s=>fun k hk=>hk s 3
theorem b2p(i:Ix B t)(f:Bx B t i→Act B):Ho (t:=t) fun g=>.bnd (g i) f:=fun k hk=>zH (CH i) fun y=>Fu (f y) k hk
def W8(f:Gt B t→Act B):Prop:=(∃a,∀g,f g=a)∨∃i k,∀g,f g=.bnd (g i) k
theorem JG{f:Gt B t→Act B}(h:W8 f):Ho f:=by
 rcases h with⟨a,ha⟩|⟨i,k,hk⟩
 ·rw[show f=fun _=>a from funext ha];exact Fu a
 ·rw[show f=fun g=>.bnd (g i) k from funext hk];exact b2p i k
theorem Nn{f:Gt B t→Nat→Act B}(h:∀l,W8 fun g=>f g l):∀ls,W8 fun g=>N9 (f g) ls
 | []=>.inl ⟨.no,fun _=>rfl⟩
 |l::ls=>by
  rcases h l with⟨a,ha⟩|⟨i,k,hk⟩
  ·cases a with
   |no=>
    rcases Nn h ls with⟨b,hb⟩|⟨i,k,hk⟩
    ·exact .inl ⟨b,fun g=>by show(match f g l with|.no=>N9 (f g) ls|a=>a)=b;rw[show f g l=_ from ha g];exact hb g⟩
    ·exact .inr ⟨i,k,fun g=>by show(match f g l with|.no=>N9 (f g) ls|a=>a)=_;rw[show f g l=_ from ha g];exact hk g⟩
   |st s lk=>exact .inl ⟨.st s lk,fun g=>by show(match f g l with|.no=>N9 (f g) ls|a=>a)=_;rw[show f g l=_ from ha g]⟩
   |bnd x k=>exact .inl ⟨.bnd x k,fun g=>by show(match f g l with|.no=>N9 (f g) ls|a=>a)=_;rw[show f g l=_ from ha g]⟩
   |lo s=>exact .inl ⟨.lo s,fun g=>by show(match f g l with|.no=>N9 (f g) ls|a=>a)=_;rw[show f g l=_ from ha g]⟩
   |sem s=>exact .inl ⟨.sem s,fun g=>by show(match f g l with|.no=>N9 (f g) ls|a=>a)=_;rw[show f g l=_ from ha g]⟩
   |cas b x y=>exact .inl ⟨.cas b x y,fun g=>by show(match f g l with|.no=>N9 (f g) ls|a=>a)=_;rw[show f g l=_ from ha g]⟩
  ·exact .inr ⟨i,k,fun g=>by show(match f g l with|.no=>N9 (f g) ls|a=>a)=_;rw[show f g l=_ from hk g]⟩
theorem Zf{f f':Gt B t→Act B}(h1:W8 f)(h2:W8 f'):W8 fun g=>orA (f g) (f' g):=by
 rcases h1 with⟨a,ha⟩|⟨i,k,hk⟩
 ·cases a with
  |no=>
   rcases h2 with⟨b,hb⟩|⟨i,k,hk⟩
   ·exact .inl ⟨b,fun g=>by show orA (f g) (f' g)=b;rw[ha g];exact hb g⟩
   ·exact .inr ⟨i,k,fun g=>by show orA (f g) (f' g)=_;rw[ha g];exact hk g⟩
  |st s lk=>exact .inl ⟨.st s lk,fun g=>by show orA (f g) (f' g)=_;rw[ha g];rfl⟩
  |bnd x k=>exact .inl ⟨.bnd x k,fun g=>by show orA (f g) (f' g)=_;rw[ha g];rfl⟩
  |lo s=>exact .inl ⟨.lo s,fun g=>by show orA (f g) (f' g)=_;rw[ha g];rfl⟩
  |sem s=>exact .inl ⟨.sem s,fun g=>by show orA (f g) (f' g)=_;rw[ha g];rfl⟩
  |cas b x y=>exact .inl ⟨.cas b x y,fun g=>by show orA (f g) (f' g)=_;rw[ha g];rfl⟩
 ·exact .inr ⟨i,k,fun g=>by show orA (f g) (f' g)=_;rw[hk g];rfl⟩
theorem a4e(P:Program)(o:Oper)(s:TS B)(c:Call)(f:FuncId)(l:Nat):W8 fun g=>Ey P t g o s c f l:=by
 unfold Ey Lr;split
 ·split
  ·split
   ·split
    ·exact .inr ⟨_,_,fun g=>rfl⟩
    ·exact .inl ⟨_,fun g=>rfl⟩
   ·exact .inl ⟨_,fun g=>rfl⟩
  ·exact .inl ⟨_,fun g=>rfl⟩
 ·exact .inl ⟨_,fun g=>rfl⟩
theorem a3d(P:Program)(o:Oper)(s:TS B)(c:Call)(f:FuncId)(rv:V2 B)(l:Nat):W8 fun g=>Nk P t g o s c f rv l:=by
 unfold Nk Lr;split
 ·split
  ·split
   ·split
    ·exact .inr ⟨_,_,fun g=>rfl⟩
    ·exact .inl ⟨_,fun g=>rfl⟩
   ·exact .inl ⟨_,fun g=>rfl⟩
  ·exact .inl ⟨_,fun g=>rfl⟩
 ·exact .inl ⟨_,fun g=>rfl⟩
theorem a56(P:Program)(o:Oper)(s:TS B)(c:Call)(f:FuncId)(rv:V2 B)(l:Nat):W8 fun g=>Ni P t g o s c f rv l:=by
 unfold Ni Mm
 repeat' split
 all_goals first
  |exact .inr ⟨_,_,fun g=>rfl⟩
  |exact .inl ⟨_,fun g=>rfl⟩
theorem a5l(P:Program)(o:Oper)(s:TS B)(c:Call)(f:FuncId)(l:Nat):W8 fun g=>Jt P t g o s c f l:=by
 unfold Jt Mm
 repeat' split
 all_goals first
  |exact .inr ⟨_,_,fun g=>rfl⟩
  |exact .inl ⟨_,fun g=>rfl⟩
theorem ZY(P:Program)(o:Oper)(s:TS B)(c:Call)(f:FuncId)(l:Nat):W8 fun g=>Hv P t g o s c f l:=by
 unfold Hv uL
 repeat' split
 all_goals first
  |exact .inr ⟨_,_,fun g=>rfl⟩
  |exact .inl ⟨_,fun g=>rfl⟩
theorem b1k(P:Program)(io pu lo:FuncId→List Nat)(m:Nat)(o:Oper)(s:TS B)(c:Call)(f:FuncId):W8 fun g=>yJ P t io pu lo g m o s c f:=by
 have h1:W8 fun g=>Ce m (N9 (Ey P t g o s c f) (io f)):=by
  unfold Ce;split
  ·exact .inl ⟨_,fun g=>rfl⟩
  ·exact Nn (f:=fun g=>Ey P t g o s c f) (fun l=>a4e P o s c f l) (io f)
 have h2:W8 fun g=>Ce m (N9 (Hv P t g o s c f) (lo f)):=by
  unfold Ce;split
  ·exact .inl ⟨_,fun g=>rfl⟩
  ·exact Nn (f:=fun g=>Hv P t g o s c f) (fun l=>ZY P o s c f l) (lo f)
 refine Zf h2 ?_;exact Zf h1 (Nn (f:=fun g=>Jt P t g o s c f) (fun l=>a5l P o s c f l) (pu f))
theorem PN(P:Program)(dof:TypeId→Option D)(sw:List FuncId)(io pu lo:FuncId→List Nat)(v:Nat)(rp:List Nat)(i:Nat)(o:Oper)(s:TS B):Ho fun g=>Cm P t dof sw io pu lo g v rp i o s:=by
 unfold Cm;split
 ·split
  ·exact JG (b1k P io pu lo _ o s _ _)
  ·split
   ·exact JG (Zf (f:=fun _=>eJ P sw o s _ _ _) (.inl ⟨_,fun _=>rfl⟩) (Zf (Nn (f:=fun g=>Nk P t g o s _ _ _) (fun l=>a3d P o s _ _ _ l) _) (Nn (f:=fun g=>Ni P t g o s _ _ _) (fun l=>a56 P o s _ _ _ l) _)))
   ·exact Fu _
  ·exact Fu _
 ·exact Fu _
section
variable{act:Gt B t→List Nat→Nat→Oper→TS B→Act B}
theorem tO{ρ:Type}{act:Gt B t→Oper→TS B→Act B}(ha:∀o s,Ho fun g=>act g o s)(dr:Bool)(fz:List Nat)(o:Oper)(s:TS B){k:Gt B t→TS B→Nat→Option ρ}(hk:∀s m,G6 fun g=>k g s m):G6 fun g=>Bu dr (act g) fz o s (k g):=by
 unfold Bu;split
 ·rename_i s1 _;refine ha o s1 (fun g s' m=>match !dr||(!Nat.beq m 3&&(V6 o s.er.st|| !Nat.beq m 0))with|true=>k g s' m|false=>none) fun s' m=>?_;split
  ·exact hk s' m
  ·exact P5 none
 ·exact P5 none
theorem RA{ρ:Type}{act:Gt B t→Nat→Oper→TS B→Act B}(ha:∀i o s,Ho fun g=>act g i o s)(dr:Bool)(hz:Nat→List Nat)(ops:List Oper){k:Gt B t→TS B→Fps→Option ρ}(hk:∀s f,G6 fun g=>k g s f):∀(l:List Oper) (i:Nat) (s:TS B) (acc:Fps),G6 fun g=>N7 dr hz (act g) ops i l s acc (k g)
 | [],i,s,acc=>hk s acc
 |o::rest,i,s,acc=>by
  have go:=fun s acc=>RA ha dr hz ops hk rest (i+1) s acc;unfold N7;split
  ·exact tO (ha i) dr _ o s (k:=fun g s' m=>N7 dr hz (act g) ops (i+1) rest s' _ (k g)) fun s' m=>go s' _
  ·split
   ·exact P5 none
   ·split
    ·refine tU _ ?_ ?_
     ·split
      ·exact tO (ha i) dr _ o _ (k:=fun g s' m=>N7 dr hz (act g) ops (i+1) rest s' _ (k g)) fun s' m=>go s' _
      ·exact go _ _
     ·split
      ·exact tO (ha i) dr _ o _ (k:=fun g s' m=>N7 dr hz (act g) ops (i+1) rest s' _ (k g)) fun s' m=>go s' _
      ·exact go _ _
    ·exact go _ _
    ·exact P5 none
theorem b0c{ρ:Type}{act:Gt B t→Nat→Oper→TS B→Act B}(ha:∀i o s,Ho fun g=>act g i o s)(dr:Bool)(hz:Nat→List Nat)(ops:Array Oper)(s:TS B){k:Gt B t→TS B→Option ρ}(hk:∀s,G6 fun g=>k g s):G6 fun g=>Xf dr hz (act g) ops s (k g):=by
 unfold Xf;split
 ·exact P5 none
 ·split
  ·refine RA ha dr hz _ (k:=fun g s' fps=>match !dr||(Tg ops.toList&&gG ops.toList fps.reverse)with|true=>k g s'|false=>none) (fun s f=>?_) _ 0 _ [];split
   ·exact hk s
   ·exact P5 none
  ·exact P5 none
theorem a7R{a b:Nat}(h:a=b){F:Gt B t→Option (Res B (t.rh a))}(hF:G6 F):G6 fun g=>Cv h (F g):=by subst h;exact hF
theorem UD(P:Program)(v l:Nat)(s:TS B):G6 fun g=>Kg P t g v l s:=by
 unfold Kg;split
 ·rename_i h _;split
  ·exact a7R h (CH _)
  ·exact P5 none
 ·exact P5 none
theorem zX(P:Program)(ha:∀rp i o s,Ho fun g=>act g rp i o s)(v:Nat):∀(n:Nat) (m:Md) (s:TS B),G6 fun g=>evM P t g (act g) v n m s
 |0,m,s=>P5 none
 |n+1,m,s=>by
  have ih:=zX P ha v n;cases m with
  |go rp=>
   unfold evM;split
   ·split
    ·exact UD P v _ s
    ·exact P5 none
   ·exact ih _ _
  |inn rp=>
   unfold evM;split
   ·exact b0c (ha rp) _ _ _ s (k:=fun g s'=>evM P t g (act g) v n (.up rp .normal) s') fun s'=>ih _ _
   ·exact ih _ _
   ·split
    ·exact tU _ (ih _ _) (ih _ _)
    ·exact P5 none
   ·exact ih _ _
   ·exact ih _ _
   ·exact ih _ _
   ·exact ih _ _
   ·exact P5 none
  |up rp e=>
   cases rp with
   |nil=>unfold evM;split<;>exact P5 _
   |cons i rp=>
    unfold evM
    repeat' split
    all_goals first
     |exact ih _ _
     |exact UD P v _ s
     |exact P5 none
end
theorem LP(P:Program)(hand:Gt B t)(dof:TypeId→Option D)(sw:List FuncId)(io pu lo:FuncId→List Nat)(fuel:Nat)(i:Ix B t):G6 fun g=>EVB P t hand (Cm P t dof sw io pu lo) fuel g i:=by
 unfold EVB;split
 ·exact P5 _
 ·unfold evL;split
  ·exact zX P (act:=fun g=>Cm P t dof sw io pu lo g (t.lb i.1).v) (fun rp i o s=>PN P dof sw io pu lo _ rp i o s) _ fuel _ _
  ·exact zX P (act:=fun g=>Cm P t dof sw io pu lo g (t.lb i.1).v) (fun rp i o s=>PN P dof sw io pu lo _ rp i o s) _ fuel _ _
end
section
open Go.RowKit
structure VR where
 fn:FuncId
 rh:Rh
 lat:List (List Nat × Nat)
 hz:List (List Nat × Nat × List Nat)
 hm:List (List Nat × Nat × Nat)
def lb0:Lb:=⟨0,[],⟨[],[]⟩⟩
def vr0:VR:=⟨0,⟨[],[]⟩,[],[],[]⟩
def Fy{α:Type}(d:α)(l:List (List α))(n:Nat):α:=(l.getD (n/16) []).getD (n%16) d
def NK:List (List Nat × Nat)→List Nat→Option Nat
 | [],_=>none
 |(p,l)::r,q=>match eqP p q with|true=>some l|false=>NK r q
def hzL:List (List Nat × Nat × List Nat)→List Nat→Nat→List Nat
 | [],_,_=>[]
 |(p,i,z)::r,q,j=>match Nat.beq i j&&eqP p q with|true=>z|false=>hzL r q j
def hmL:List (List Nat × Nat × Nat)→List Nat→Nat→Nat
 | [],_,_=>0
 |(p,i,z)::r,q,j=>match Nat.beq i j&&eqP p q with|true=>z|false=>hmL r q j
def Y9:List (FuncId × List Nat)→FuncId→List Nat
 | [],_=>[]
 |(f,l)::r,g=>match Nat.beq f g with|true=>l|false=>Y9 r g
def Sc(lbs:List (List Lb))(vs:List (List VR))(hands:List Nat):LT where
 lb:=Fy lb0 lbs
 fn:=fun v=>(Fy vr0 vs v).fn
 rh:=fun v=>(Fy vr0 vs v).rh
 lat:=fun v=>NK (Fy vr0 vs v).lat
 hd:=fun l=>B5 hands l
 hz:=fun v=>hzL (Fy vr0 vs v).hz
 hm:=fun v=>hmL (Fy vr0 vs v).hm
def a9r:Nat:=(fun(_:(((i:Unit)→Option Unit)→(i:Unit)→Option Unit)→(i:Unit)→Option Unit)=>0) (G4 (ι:=Unit) (β:=fun _=>Unit))
def Ar{α β:Type}(h:α=β)(x:α):β:=(fun(_:Nat)=>h▸x) a9r
def mkI{B:Tab}{t:LT}{α:Type}(l:Nat)(x:α)(h:α=Vars B (t.lb l).sh:=by kernel_rfl):Ix B t:=⟨l,Ar h x⟩
def Xm{α β:Type}(o:Option α)(h:α=β:=by kernel_rfl):Option β:=Ar (congrArg Option h) o
theorem IQ{B:Tab}{t:LT}{F:Gt B t→Gt B t}(hq:∀i,G4 F i=F (G4 F) i)(i:Ix B t){β:Type}(h:Bx B t i=β):Xm (G4 F i) h=Xm (F (G4 F) i) h:=by rw[hq i]
section
variable{ι:Type}{β:ι→Type}
theorem a3E{γ:Type}(b:Bool){F G:((i:ι)→Option (β i))→Option γ}(h1:G6 F)(h2:G6 G):G6 fun g=>cond b (F g) (G g):=by
 cases b
 ·exact h2
 ·exact h1
theorem a9p{N:((i:ι)→Option (β i))→(i:ι)→Option (β i)}{nm:(i:ι)→Option (β i)}(hf:∀i,G6 fun g=>N g i)(he:∀i,nm i=N nm i){i:ι}{r:β i}(h:G4 N i=some r):nm i=some r:=by
 obtain⟨n,hn⟩:=rQ h;clear h
 induction n generalizing i with
 |zero=>cases hn
 |succ n ih=>rw[he i];exact uA (hf i) (fun j x hx=>ih hx) hn
end
theorem Zq{P:Program}{f:FuncId}{args:List A}{r:A}(h:FnP P f args r)(hf:args.all C4=true):T5 P f args [] r []:=by
 refine⟨h.1,fun C L vals hP hpin hs hsz hrep=>?_⟩;have hX:∀b,Mut C (mst []) L b→b<C.w0.heap.size:=by
  rintro b (hx|⟨i,hi,_⟩)
  ·exact hs.old b hx
  ·cases hi
 refine(h.2 C.w0 (Mut C (mst []) L) vals hX hsz fun i hi=>PC (x:=args[i]) ?_ (hrep i hi)).mono ?_
 ·have h1:C4 (args[i])=true:=List.all_eq_true.1 hf _ (A4 hi);generalize args[i]=x at h1;cases x with
  |tup cs=>cases h1
  |_=>exact ER h1
 ·rintro e w' ⟨v,rfl,hb,hr⟩;exact⟨v,L,rfl,hs.later hb.os hb.tape hb.output hb.size hb.block,RepA.ext hr (Ext.refl _ _) (fun b _ h=>h) (fun id hi=>by simp at hi) (fun id hi=>by simp at hi)⟩
structure Jy(B:Tab)(t:LT)(P:Program) where
 l:Nat
 f:Vars B (t.lb l).sh→Option (Res B (t.rh (t.lb l).v))
 ok:∀x r,f x=some r→Ed P t l x r
def sI{B:Tab}{t:LT}{P:Program}:List (Jy B t P)→(i:Ix B t)→Option (Bx B t i)
 | [],_=>none
 |h::hs,⟨l,x⟩=>match Nat.decEq h.l l with
  |.isTrue e=>(e▸h.f:Vars B (t.lb l).sh→Option (Res B (t.rh (t.lb l).v))) x
  |.isFalse _=>sI hs ⟨l,x⟩
theorem UC{B:Tab}{t:LT}{P:Program}:∀(hs:List (Jy B t P)) (l:Nat) (x:Vars B (t.lb l).sh) (r:Res B (t.rh (t.lb l).v)),sI hs ⟨l,x⟩=some r→Ed P t l x r
 | [],l,x,r,h=>by cases h
 |k::hs,l,x,r,h=>by
  unfold sI at h;split at h
  ·rename_i e _;subst e;exact k.ok x r h
  ·exact UC hs l x r h
def gB{B:Tab}{t:LT}{P:Program}{α β:Type}(l:Nat)(f:α→Option β)(hα:Vars B (t.lb l).sh=α:=by kernel_rfl)(hβ:β=Res B (t.rh (t.lb l).v):=by kernel_rfl)(ok:∀x r,f x=some r→Ed P t l (Ar hα.symm x) (Ar hβ r)):Jy B t P where
 l:=l
 f:=fun x=>Ar (congrArg Option hβ) (f (Ar hα x))
 ok:=fun x r h=>by subst hα;subst hβ;exact ok x r h
theorem a02{α:Type}{d:α}{l:List (List α)}{p:α→Bool}(hd:p d=true)(h:(l.all fun c=>c.all p)=true)(n:Nat):p (Fy d l n)=true:=by
 unfold Fy;have key:∀(c:List α) (m:Nat),c.all p=true→p (c.getD m d)=true:=fun c m hc=>by
  rw[List.getD_eq_getElem?_getD];cases hm:c[m]? with
  |none=>exact hd
  |some x=>exact List.all_eq_true.1 hc x (M7 hm)
 refine key _ _ ?_;rw[List.getD_eq_getElem?_getD];cases hm:l[n/16]? with
 |none=>rfl
 |some c=>exact List.all_eq_true.1 h c (M7 hm)
theorem IB{P:Program}{lbs:List (List Lb)}{vs:List (List VR)}{hands:List Nat}(h0:(P.funcs[vr0.fn]?).isSome=true)(h:(vs.all fun c=>c.all fun r=>(P.funcs[r.fn]?).isSome)=true)(l v:Nat)(_:((Sc lbs vs hands).lb l).v=v)(_:(Sc lbs vs hands).hd l=false):∃fn,P.funcs[(Sc lbs vs hands).fn v]? =some fn:=
 z8.1 (a02 (p:=fun r:VR=>(P.funcs[r.fn]?).isSome) h0 h v)
theorem XA{α β:Type}{o:Option α}{f:α→β}{r:β}(h:o.map f=some r):∃x,o=some x∧f x=r:=by
 cases o with
 |none=>cases h
 |some x=>exact⟨x,rfl,Option.some.inj h⟩
theorem WG{B:Tab}{P:Program}{t:LT}{g:Gt B t}(hm:T9 P t g){l:Nat}{α β:Type}{x:α}{hx:α=Vars B (t.lb l).sh}{hT:Res B (t.rh (t.lb l).v)=β}{r:β}(h:Xm (g (mkI l x hx)) hT=some r)(hk:(eqP (t.lb l).rp []&&(slots 0 (t.lb l).sh.sl&&(Kt P (t.fn (t.lb l).v) (M6 (t.lb l).sh.sl (Ar hx x).1).length&&(Nat.ble (ntF P (t.fn (t.lb l).v)) 900&&(Ev (Q1 (t.lb l).sh (Ar hx x))&&(Ev (t.rh (t.lb l).v).bx&&(V9 ((X0 (t.rh (t.lb l).v).rs (Ar hT.symm r).1).map (·.1))&&((t.rh (t.lb l).v).rs.all (Mv B)&&aD (V4 (t.rh (t.lb l).v) (Ar hT.symm r)).er))))))))=true):FnP P (t.fn (t.lb l).v) (M6 (t.lb l).sh.sl (Ar hx x).1) (V4 (t.rh (t.lb l).v) (Ar hT.symm r)).er:=by subst hx;subst hT;simp only[w8]at hk;obtain⟨e1,e3,e4,e5,e6,k0,k1,k4,k2⟩:=hk;have hr:g ⟨l,x⟩=some r:=h;have hio:=(hm l x r hr (Ik e1)).elim (fun hm=>Yq hm e3 e4 e5) id;have hrm:O6 (t.rh (t.lb l).v) r=X0 (t.rh (t.lb l).v).rs r.1:=BL k0 r;rw[show Q1 (t.lb l).sh x=[]from Yg e6,hrm]at hio;exact AV hio (wY k4 (CQ k1)) k2
end
end
end Go.Proofs.YtihbbcealnnpiaaGreatDoor

/- Parts of the proof. -/
import Derived.Test.YtihbbcealnnpiaaGreatDoorGmXI
import Derived.Test.YtihbbcealnnpiaaGreatDoorGmEvH
set_option linter.unusedVariables false
namespace Go.Proofs.YtihbbcealnnpiaaGreatDoor
noncomputable section
section
open Go.RowKit
variable{B:Tab}{P:Program}
def wB(P:Program)(o:Oper)(s:TS B)(t:TypeId)(x:Operand):Act B:=
 match Wr (P.underlying t)with
 |true=>(match s.ev x with
  |.v (.c (.ptr id off))=>(match Ly s id with|true=>.sem (s.put o.dst (.c (.ifc t id off)))|false=>.no)
  |.v (.c (.d (.t (.v y))))=>.sem (s.put o.dst (.c (.d (.t (.v (.iface t y))))))
  |_=>.no)
 |false=>.no
theorem DN{s:TS B}{id:Nat}(h:Ly s id=true):∃ty cs,s.er.st.mem id=some (.box ty cs):=by
 unfold Ly at h;split at h
 ·rename_i bt cs hg;refine⟨bt,cs.map C1.er,?_⟩;show x7 s.er.ms id=_;rw[L8,hg];rfl
 ·cases h
theorem a4R{o:Oper}{s:TS B}{t:TypeId}{x:Operand}(ho:o.op=.makeInterface t x):v7 P o s (wB P o s t x):=by
 unfold wB;split
 ·rename_i ht;split
  ·rename_i id off hx;split
   ·rename_i hb;intro K hK;refine a4B t x ho ht id off (by rw[A3,hx];rfl) (DN hb) ?_;rw[M6,C3]at hK;exact hK
   ·trivial
  ·rename_i y hx;intro K hK;refine ZO t x ho ht y (by rw[A3,hx];rfl) ?_;rw[M6,C3]at hK;exact hK
  ·trivial
 ·trivial
def BQ(P:Program)(o:Oper)(s:TS B)(x:Operand)(t:TypeId):Act B:=
 match Wr (P.underlying t),s.ev x with
 |true,.v (.c (.d (.t (.v (.iface t' (.int k n))))))=>(match Nat.beq t' t with|true=>.sem (s.put o.dst (.tup [.c (.d (.t (.v (.int k n)))),.c (.d (.t (.v (.bool true))))]))|false=>.no)
 |_,_=>.no
theorem a2y{o:Oper}{s:TS B}{x:Operand}{xt t:TypeId}(ho:o.op=.typeAssert x xt t true):v7 P o s (BQ P o s x t):=by
 unfold BQ;split
 ·rename_i t' k n ht hx;split
  ·rename_i e;intro K hK;refine a97 x xt t ho ht (.int k n) rfl (by rw[A3,hx,D5 e];rfl) ?_;rw[M6,C3]at hK;exact hK
  ·trivial
 ·trivial
def WJ(sc:Bool)(s:TS B):Act B:=match sc with|true=>.sem s|false=>.no
def Np(P:Program)(t:LT)(g:(i:Ix B t)→Option (Bx B t i))(o:Oper)(s:TS B)(c:Call)(f:FuncId)(rv:V2 B)(l:Nat):Act B:=
 match Hb (c.args.toList.map s.ev)with
 |some vs=>Mw P t WJ g o s f l (rv::vs) (hAs B (t.lb l).sh.sl (rv::vs))
 |none=>.no
theorem a6k{s:TS B}{x:Operand}{name:String}{f:FuncId}{rv:V2 B}(hi:Pd P s x name=some (f,rv)):∃ty id off rc,s.er.st.ev x=.ifc ty id off∧(∃bt cs,s.er.st.mem id=some (.box bt cs))∧Fk P ty name=some (f,rc)∧(rc=.ptr→rv.er=.ptr id off)∧∀e,rc=.val e→∃ti,p8 P e=some ti∧K7 s.er.st (.ptr id off) ti=some rv.er:=by
 unfold Pd at hi;split at hi
 ·rename_i ty id off hx;split at hi
  ·rename_i f' rc hbx hme;split at hi
   ·rename_i rv' hrv;cases hi;obtain⟨r1,r2⟩:=PU hrv;exact⟨ty,id,off,rc,by rw[A3,hx];rfl,DN hbx,hme,r1,r2⟩
   ·cases hi
  ·cases hi
 ·cases hi
theorem a5F{t:LT}{g:(i:Ix B t)→Option (Bx B t i)}(hm:U5 P t g){o:Oper}{s:TS B}{c:Call}{x:Operand}{name:String}{f:FuncId}{rv:V2 B}{l:Nat}(ho:o.op=.call c)(hc:c.callee=.invoke x name)(hi:Pd P s x name=some (f,rv)):v7 P o s (Np P t g o s c f rv l):=by
 unfold Np;split
 ·rename_i vs hvs;have hev:c.args.toList.map s.er.st.ev=vs.map V2.er:=by rw[Nn hvs,List.map_map];exact List.map_congr_left fun x _=>A3 s x
  obtain⟨ty,id,off,rc,h1,h2,h3,h4,h5⟩:=a6k hi;refine HQ hm fun rd ns hP e8 k3=>?_;unfold WJ;split
  ·rename_i hsc;intro K hK;obtain⟨callee,args,ts⟩:=c;cases hc;rw[M6,C3]at hK;have he:((rv.er::args.toList.map s.er.st.ev).map (u0 s.er.st))=(rv::vs).map fun x=>u0 s.er.st x.er:=by rw[show args.toList.map s.er.st.ev=vs.map V2.er from hev,List.map_cons,List.map_map];rfl
   exact a0g x name args ts ho ty id off h1 h2 f rc h3 rv.er h4 h5 rd.er (by rw[he];exact Mz ns e8 hP) (by rw[he];exact e8) hsc hK
  ·trivial
 ·trivial
def fM(P:Program)(sw:List FuncId)(o:Oper)(s:TS B)(x:Operand)(name:String)(args:List Operand):Act B:=
 match s.ev x,args.map s.ev with
 |.v (.c (.ifc ty id off)),[.v (.c (.d (.t (.v (.int .i64 i))))),.v (.c (.d (.t (.v (.int .i64 j)))))]=>(match Ly s id,Fk P ty name with
  |true,some (f,.val e')=>(match B7 sw f,p8 P e' with
   |true,some ti=>(match Gr s (.v (.c (.ptr id off))) ti with
    |some (.v (.c (.ref r)))=>(match B1 s.ms r with
     |some (.row e (.int .i64) xs)=>.bnd (f5 xs i) fun p=>.bnd (f5 xs j) fun q=>.sem ((s.new r (.row e (.int .i64) ((xs.set i.toNat q).set j.toNat p))).put o.dst (.tup []))
     |_=>.no)
    |_=>.no)
   |_,_=>.no)
  |_,_=>.no)
 |_,_=>.no
theorem a9n{sw:List FuncId}(hsw:∀f,B7 sw f=true→Oh P f){o:Oper}{s:TS B}{c:Call}{x:Operand}{name:String}(ho:o.op=.call c)(hc:c.callee=.invoke x name):v7 P o s (fM P sw o s x name c.args.toList):=by
 unfold fM;split
 ·rename_i ty id off i j hx hargs;split
  ·rename_i f e' hbx hme;split
   ·rename_i ti hf hti;split
    ·rename_i r hpk;split
     ·rename_i e xs hg;intro p hp q hq K hK;obtain⟨callee,args,ts⟩:=c;cases hc;obtain⟨i0,hp⟩:=iT hp;obtain⟨j0,hq⟩:=iT hq
      match args,hargs with
      |⟨[]⟩,hargs=>cases hargs
      |⟨[_]⟩,hargs=>exact absurd (congrArg List.length hargs) (by simp)
      |⟨_::_::_::_⟩,hargs=>exact absurd (congrArg List.length hargs) (by simp)
      |⟨[x1,x2]⟩,hargs=>
       simp only[List.map_cons,List.map_nil,List.cons.injEq,and_true]at hargs;have hpk':=nE hpk;have hr:s.er.st.mem r=some (.row e 1 (xs.map (enc B (.int .i64)))):=by show x7 s.er.ms r=_;rw[L8,hg];rfl
       refine a7a x name x1 x2 ts ho ty id off (by rw[A3,hx];rfl) (DN hbx) f e' hme ti hti r hpk' (hsw f hf) e (xs.map (enc B (.int .i64))) hr i.toNat j.toNat (by rw[A3,hargs.1,Int.toNat_of_nonneg i0];rfl) (by rw[A3,hargs.2,Int.toNat_of_nonneg j0];rfl) p q (by rw[L5,hp];rfl) (by rw[L5,hq];rfl) ?_;rw[M6,Ku,C3,Ur s.er r _ _ hr]at hK;have e1:(TB.row e (.int .i64) ((xs.set i.toNat q).set j.toNat p):TB B).er=.row e 1 (((xs.map (enc B (.int .i64))).set i.toNat (enc B (.int .i64) q)).set j.toNat (enc B (.int .i64) p)):=by show Blk.row e (sz B (.int .i64)) (((xs.set i.toNat q).set j.toNat p).map (enc B (.int .i64)))=_;rw[List.map_set,List.map_set];rfl
       rw[e1]at hK;exact hK
     ·trivial
    ·trivial
   ·trivial
  ·trivial
 ·trivial
def qA(P:Program)(dof:TypeId→Option D)(o:Oper)(s:TS B):Act B:=
 match o.op with
 |.makeInterface t x=>wB P o s t x
 |.typeAssert x _ t true=>BQ P o s x t
 |_=>BB P dof o s
theorem GR{dof:TypeId→Option D}{o:Oper}{s:TS B}:v7 P o s (qA P dof o s):=by
 unfold qA;split
 ·rename_i t x ho;exact a4R ho
 ·rename_i x xt t ho;exact a2y ho
 ·exact YX
end
section
open Go.RowKit
variable{B:Tab}{P:Program}{t:LT}
def O5(f:Nat→Act B):List Nat→Act B
 | []=>.no
 |l::ls=>match f l with|.no=>O5 f ls|a=>a
theorem Og{o:Oper}{s:TS B}{f:Nat→Act B}(h:∀l,v7 P o s (f l)):∀ls,v7 P o s (O5 f ls)
 | []=>trivial
 |l::ls=>by
  unfold O5;split
  ·exact Og h ls
  ·exact h l
def orA(a b:Act B):Act B:=match a with|.no=>b|a=>a
def Ch(m:Nat)(a:Act B):Act B:=match m with|1=>.no|_=>a
def zL(P:Program)(t:LT)(io pu lo:FuncId→List Nat)(g:(i:Ix B t)→Option (Bx B t i))(m:Nat)(o:Oper)(s:TS B)(c:Call)(f:FuncId):Act B:=
 orA (Ch m (O5 (Hx P t g o s c f) (lo f))) (orA (Ch m (O5 (Ez P t g o s c f) (io f))) (O5 (Kf P t g o s c f) (pu f)))
def Cr(P:Program)(t:LT)(dof:TypeId→Option D)(sw:List FuncId)(io pu lo:FuncId→List Nat):sU B t:=fun g v rp i o s=>
 match o.op with
 |.call c=>(match c.callee with
  |.value (.func f)=>zL P t io pu lo g (t.hm v rp i) o s c f
  |.invoke x name=>(match Pd P s x name with
   |some q=>orA (fM P sw o s x name c.args.toList) (orA (O5 (Nr P t g o s c q.1 q.2) (io q.1)) (O5 (Np P t g o s c q.1 q.2) (pu q.1)))
   |none=>.no)
  |_=>qA P dof o s)
 |_=>(match t.hm v rp i with|0=>qA P dof o s|m=>AN P dof m o s)
theorem a1e{dof:TypeId→Option D}{sw:List FuncId}(hsw:∀f,B7 sw f=true→Oh P f){io pu lo:FuncId→List Nat}{g:(i:Ix B t)→Option (Bx B t i)}(hm:U5 P t g)(v:Nat)(rp:List Nat)(i:Nat)(o:Oper)(s:TS B):v7 P o s (Cr P t dof sw io pu lo g v rp i o s):=by
 unfold Cr;split
 ·rename_i c ho;split
  ·rename_i f hc;unfold zL;have h1:=Og (P:=P) (o:=o) (s:=s) (f:=Ez P t g o s c f) (fun l=>a2b hm ho hc) (io f);have h2:=Og (P:=P) (o:=o) (s:=s) (f:=Kf P t g o s c f) (fun l=>a42 hm ho hc) (pu f);have h3:∀m,v7 P o s (Ch m (O5 (Ez P t g o s c f) (io f))):=fun m=>by
    unfold Ch;split
    ·trivial
    ·exact h1
   have h4:∀m,v7 P o s (Ch m (O5 (Hx P t g o s c f) (lo f))):=fun m=>by
    unfold Ch;split
    ·trivial
    ·exact Og (fun l=>a6T hm ho hc) (lo f)
   have hor:∀{a b:Act B},v7 P o s a→v7 P o s b→v7 P o s (orA a b):=fun{a b} ha hb=>by
    unfold orA;split
    ·exact hb
    ·exact ha
   exact hor (h4 _) (hor (h3 _) h2)
  ·rename_i x name hc;split
   ·rename_i q hq;have hor:∀{a b:Act B},v7 P o s a→v7 P o s b→v7 P o s (orA a b):=fun{a b} ha hb=>by
     unfold orA;split
     ·exact hb
     ·exact ha
    exact hor (a9n hsw ho hc) (hor (Og (fun l=>a7X hm ho hc hq) (io q.1)) (Og (fun l=>a5F hm ho hc hq) (pu q.1)))
   ·trivial
  ·exact GR
 ·split
  ·exact GR
  ·exact a9h
theorem VP{hand:(i:Ix B t)→Option (Bx B t i)}{dof:TypeId→Option D}{sw:List FuncId}(hsw:∀f,B7 sw f=true→Oh P f){io pu lo:FuncId→List Nat}{fuel:Nat}(hmix:P.follows .mixedOrders=true)(hfn:∀l v,(t.lb l).v=v→t.hd l=false→∃fn,P.funcs[t.fn v]? =some fn)(hh:∀l x r,t.hd l=true→hand ⟨l,x⟩=some r→Eh P t l x r):U5 P t (H1 (EVB (B:=B) P t hand (Cr P t dof sw io pu lo) fuel)):=
 a7e hmix hfn hh fun g hm v rp i o s=>a1e hsw hm v rp i o s
abbrev Gt(B:Tab)(t:LT):Type:=(i:Ix B t)→Option (Bx B t i)
theorem uY{ρ:Type}(b:Bool){F G:Gt B t→Option ρ}(h1:H2 F)(h2:H2 G):H2 fun g=>cond b (F g) (G g):=by
 cases b
 ·exact h2
 ·exact h1
def Hq(f:Gt B t→Act B):Prop:=∀{ρ:Type} (k:Gt B t→TS B→Nat→Option ρ),(∀s lk,H2 fun g=>k g s lk)→H2 fun g=>Lh (f g) (k g)
theorem Fv:∀a:Act B,Hq (t:=t) fun _=>a
 |.no=>fun k hk=>Q1 none
 |.st s lk=>fun k hk=>hk s _
 |.bnd x f=>fun k hk=>AJ (Q1 x) fun y=>Fv (f y) k hk
 |.cas b x y=>fun k hk=>uY b (Fv x k hk) (Fv y k hk)
 |.lo s=>fun k hk=>hk s 2
 |.sem s=>fun k hk=>hk s 3
theorem b2r(i:Ix B t)(f:Bx B t i→Act B):Hq (t:=t) fun g=>.bnd (g i) f:=fun k hk=>AJ (DL i) fun y=>Fv (f y) k hk
def X5(f:Gt B t→Act B):Prop:=(∃a,∀g,f g=a)∨∃i k,∀g,f g=.bnd (g i) k
theorem KJ{f:Gt B t→Act B}(h:X5 f):Hq f:=by
 rcases h with⟨a,ha⟩|⟨i,k,hk⟩
 ·rw[show f=fun _=>a from funext ha];exact Fv a
 ·rw[show f=fun g=>.bnd (g i) k from funext hk];exact b2r i k
theorem Nx{f:Gt B t→Nat→Act B}(h:∀l,X5 fun g=>f g l):∀ls,X5 fun g=>O5 (f g) ls
 | []=>.inl ⟨.no,fun _=>rfl⟩
 |l::ls=>by
  rcases h l with⟨a,ha⟩|⟨i,k,hk⟩
  ·cases a with
   |no=>
    rcases Nx h ls with⟨b,hb⟩|⟨i,k,hk⟩
    ·exact .inl ⟨b,fun g=>by show(match f g l with|.no=>O5 (f g) ls|a=>a)=b;rw[show f g l=_ from ha g];exact hb g⟩
    ·exact .inr ⟨i,k,fun g=>by show(match f g l with|.no=>O5 (f g) ls|a=>a)=_;rw[show f g l=_ from ha g];exact hk g⟩
   |st s lk=>exact .inl ⟨.st s lk,fun g=>by show(match f g l with|.no=>O5 (f g) ls|a=>a)=_;rw[show f g l=_ from ha g]⟩
   |bnd x k=>exact .inl ⟨.bnd x k,fun g=>by show(match f g l with|.no=>O5 (f g) ls|a=>a)=_;rw[show f g l=_ from ha g]⟩
   |lo s=>exact .inl ⟨.lo s,fun g=>by show(match f g l with|.no=>O5 (f g) ls|a=>a)=_;rw[show f g l=_ from ha g]⟩
   |sem s=>exact .inl ⟨.sem s,fun g=>by show(match f g l with|.no=>O5 (f g) ls|a=>a)=_;rw[show f g l=_ from ha g]⟩
   |cas b x y=>exact .inl ⟨.cas b x y,fun g=>by show(match f g l with|.no=>O5 (f g) ls|a=>a)=_;rw[show f g l=_ from ha g]⟩
  ·exact .inr ⟨i,k,fun g=>by show(match f g l with|.no=>O5 (f g) ls|a=>a)=_;rw[show f g l=_ from hk g]⟩
theorem aE{f f':Gt B t→Act B}(h1:X5 f)(h2:X5 f'):X5 fun g=>orA (f g) (f' g):=by
 rcases h1 with⟨a,ha⟩|⟨i,k,hk⟩
 ·cases a with
  |no=>
   rcases h2 with⟨b,hb⟩|⟨i,k,hk⟩
   ·exact .inl ⟨b,fun g=>by show orA (f g) (f' g)=b;rw[ha g];exact hb g⟩
   ·exact .inr ⟨i,k,fun g=>by show orA (f g) (f' g)=_;rw[ha g];exact hk g⟩
  |st s lk=>exact .inl ⟨.st s lk,fun g=>by show orA (f g) (f' g)=_;rw[ha g];rfl⟩
  |bnd x k=>exact .inl ⟨.bnd x k,fun g=>by show orA (f g) (f' g)=_;rw[ha g];rfl⟩
  |lo s=>exact .inl ⟨.lo s,fun g=>by show orA (f g) (f' g)=_;rw[ha g];rfl⟩
  |sem s=>exact .inl ⟨.sem s,fun g=>by show orA (f g) (f' g)=_;rw[ha g];rfl⟩
  |cas b x y=>exact .inl ⟨.cas b x y,fun g=>by show orA (f g) (f' g)=_;rw[ha g];rfl⟩
 ·exact .inr ⟨i,k,fun g=>by show orA (f g) (f' g)=_;rw[hk g];rfl⟩
theorem a4g(P:Program)(o:Oper)(s:TS B)(c:Call)(f:FuncId)(l:Nat):X5 fun g=>Ez P t g o s c f l:=by
 unfold Ez Lz;split
 ·split
  ·split
   ·split
    ·exact .inr ⟨_,_,fun g=>rfl⟩
    ·exact .inl ⟨_,fun g=>rfl⟩
   ·exact .inl ⟨_,fun g=>rfl⟩
  ·exact .inl ⟨_,fun g=>rfl⟩
 ·exact .inl ⟨_,fun g=>rfl⟩
theorem a3e(P:Program)(o:Oper)(s:TS B)(c:Call)(f:FuncId)(rv:V2 B)(l:Nat):X5 fun g=>Nr P t g o s c f rv l:=by
 unfold Nr Lz;split
 ·split
  ·split
   ·split
    ·exact .inr ⟨_,_,fun g=>rfl⟩
    ·exact .inl ⟨_,fun g=>rfl⟩
   ·exact .inl ⟨_,fun g=>rfl⟩
  ·exact .inl ⟨_,fun g=>rfl⟩
 ·exact .inl ⟨_,fun g=>rfl⟩
theorem a57(P:Program)(o:Oper)(s:TS B)(c:Call)(f:FuncId)(rv:V2 B)(l:Nat):X5 fun g=>Np P t g o s c f rv l:=by
 unfold Np Mw
 repeat' split
 all_goals first
  |exact .inr ⟨_,_,fun g=>rfl⟩
  |exact .inl ⟨_,fun g=>rfl⟩
theorem a5k(P:Program)(o:Oper)(s:TS B)(c:Call)(f:FuncId)(l:Nat):X5 fun g=>Kf P t g o s c f l:=by
 unfold Kf Mw
 repeat' split
 all_goals first
  |exact .inr ⟨_,_,fun g=>rfl⟩
  |exact .inl ⟨_,fun g=>rfl⟩
theorem a0d(P:Program)(o:Oper)(s:TS B)(c:Call)(f:FuncId)(l:Nat):X5 fun g=>Hx P t g o s c f l:=by
 unfold Hx vQ
 repeat' split
 all_goals first
  |exact .inr ⟨_,_,fun g=>rfl⟩
  |exact .inl ⟨_,fun g=>rfl⟩
theorem b1l(P:Program)(io pu lo:FuncId→List Nat)(m:Nat)(o:Oper)(s:TS B)(c:Call)(f:FuncId):X5 fun g=>zL P t io pu lo g m o s c f:=by
 have h1:X5 fun g=>Ch m (O5 (Ez P t g o s c f) (io f)):=by
  unfold Ch;split
  ·exact .inl ⟨_,fun g=>rfl⟩
  ·exact Nx (f:=fun g=>Ez P t g o s c f) (fun l=>a4g P o s c f l) (io f)
 have h2:X5 fun g=>Ch m (O5 (Hx P t g o s c f) (lo f)):=by
  unfold Ch;split
  ·exact .inl ⟨_,fun g=>rfl⟩
  ·exact Nx (f:=fun g=>Hx P t g o s c f) (fun l=>a0d P o s c f l) (lo f)
 refine aE h2 ?_;exact aE h1 (Nx (f:=fun g=>Kf P t g o s c f) (fun l=>a5k P o s c f l) (pu f))
theorem QF(P:Program)(dof:TypeId→Option D)(sw:List FuncId)(io pu lo:FuncId→List Nat)(v:Nat)(rp:List Nat)(i:Nat)(o:Oper)(s:TS B):Hq fun g=>Cr P t dof sw io pu lo g v rp i o s:=by
 unfold Cr;split
 ·split
  ·exact KJ (b1l P io pu lo _ o s _ _)
  ·split
   ·exact KJ (aE (f:=fun _=>fM P sw o s _ _ _) (.inl ⟨_,fun _=>rfl⟩) (aE (Nx (f:=fun g=>Nr P t g o s _ _ _) (fun l=>a3e P o s _ _ _ l) _) (Nx (f:=fun g=>Np P t g o s _ _ _) (fun l=>a57 P o s _ _ _ l) _)))
   ·exact Fv _
  ·exact Fv _
 ·exact Fv _
section
variable{act:Gt B t→List Nat→Nat→Oper→TS B→Act B}
theorem uV{ρ:Type}{act:Gt B t→Oper→TS B→Act B}(ha:∀o s,Hq fun g=>act g o s)(dr:Bool)(fz:List Nat)(o:Oper)(s:TS B){k:Gt B t→TS B→Nat→Option ρ}(hk:∀s m,H2 fun g=>k g s m):H2 fun g=>Ca dr (act g) fz o s (k g):=by
 unfold Ca;split
 ·rename_i s1 _;refine ha o s1 (fun g s' m=>match !dr||(!Nat.beq m 3&&(W8 o s.er.st|| !Nat.beq m 0))with|true=>k g s' m|false=>none) fun s' m=>?_;split
  ·exact hk s' m
  ·exact Q1 none
 ·exact Q1 none
theorem RS{ρ:Type}{act:Gt B t→Nat→Oper→TS B→Act B}(ha:∀i o s,Hq fun g=>act g i o s)(dr:Bool)(hz:Nat→List Nat)(ops:List Oper){k:Gt B t→TS B→Fps→Option ρ}(hk:∀s f,H2 fun g=>k g s f):∀(l:List Oper) (i:Nat) (s:TS B) (acc:Fps),H2 fun g=>O3 dr hz (act g) ops i l s acc (k g)
 | [],i,s,acc=>hk s acc
 |o::rest,i,s,acc=>by
  have go:=fun s acc=>RS ha dr hz ops hk rest (i+1) s acc;unfold O3;split
  ·exact uV (ha i) dr _ o s (k:=fun g s' m=>O3 dr hz (act g) ops (i+1) rest s' _ (k g)) fun s' m=>go s' _
  ·split
   ·exact Q1 none
   ·split
    ·refine uY _ ?_ ?_
     ·split
      ·exact uV (ha i) dr _ o _ (k:=fun g s' m=>O3 dr hz (act g) ops (i+1) rest s' _ (k g)) fun s' m=>go s' _
      ·exact go _ _
     ·split
      ·exact uV (ha i) dr _ o _ (k:=fun g s' m=>O3 dr hz (act g) ops (i+1) rest s' _ (k g)) fun s' m=>go s' _
      ·exact go _ _
    ·exact go _ _
    ·exact Q1 none
theorem b0e{ρ:Type}{act:Gt B t→Nat→Oper→TS B→Act B}(ha:∀i o s,Hq fun g=>act g i o s)(dr:Bool)(hz:Nat→List Nat)(ops:Array Oper)(s:TS B){k:Gt B t→TS B→Option ρ}(hk:∀s,H2 fun g=>k g s):H2 fun g=>Yc dr hz (act g) ops s (k g):=by
 unfold Yc;split
 ·exact Q1 none
 ·split
  ·refine RS ha dr hz _ (k:=fun g s' fps=>match !dr||(Ub ops.toList&&iE ops.toList fps.reverse)with|true=>k g s'|false=>none) (fun s f=>?_) _ 0 _ [];split
   ·exact hk s
   ·exact Q1 none
  ·exact Q1 none
theorem a7R{a b:Nat}(h:a=b){F:Gt B t→Option (Res B (t.rh a))}(hF:H2 F):H2 fun g=>Da h (F g):=by subst h;exact hF
theorem UO(P:Program)(v l:Nat)(s:TS B):H2 fun g=>Kt P t g v l s:=by
 unfold Kt;split
 ·rename_i h _;split
  ·exact a7R h (DL _)
  ·exact Q1 none
 ·exact Q1 none
theorem BA(P:Program)(ha:∀rp i o s,Hq fun g=>act g rp i o s)(v:Nat):∀(n:Nat) (m:Md) (s:TS B),H2 fun g=>evM P t g (act g) v n m s
 |0,m,s=>Q1 none
 |n+1,m,s=>by
  have ih:=BA P ha v n;cases m with
  |go rp=>
   unfold evM;split
   ·split
    ·exact UO P v _ s
    ·exact Q1 none
   ·exact ih _ _
  |inn rp=>
   unfold evM;split
   ·exact b0e (ha rp) _ _ _ s (k:=fun g s'=>evM P t g (act g) v n (.up rp .normal) s') fun s'=>ih _ _
   ·exact ih _ _
   ·split
    ·exact uY _ (ih _ _) (ih _ _)
    ·exact Q1 none
   ·exact ih _ _
   ·exact ih _ _
   ·exact ih _ _
   ·exact ih _ _
   ·exact Q1 none
  |up rp e=>
   cases rp with
   |nil=>unfold evM;split<;>exact Q1 _
   |cons i rp=>
    unfold evM
    repeat' split
    all_goals first
     |exact ih _ _
     |exact UO P v _ s
     |exact Q1 none
end
theorem MT(P:Program)(hand:Gt B t)(dof:TypeId→Option D)(sw:List FuncId)(io pu lo:FuncId→List Nat)(fuel:Nat)(i:Ix B t):H2 fun g=>EVB P t hand (Cr P t dof sw io pu lo) fuel g i:=by
 unfold EVB;split
 ·exact Q1 _
 ·unfold evL;split
  ·exact BA P (act:=fun g=>Cr P t dof sw io pu lo g (t.lb i.1).v) (fun rp i o s=>QF P dof sw io pu lo _ rp i o s) _ fuel _ _
  ·exact BA P (act:=fun g=>Cr P t dof sw io pu lo g (t.lb i.1).v) (fun rp i o s=>QF P dof sw io pu lo _ rp i o s) _ fuel _ _
end
section
open Go.RowKit
structure VR where
 fn:FuncId
 rh:Rh
 lat:List (List Nat × Nat)
 hz:List (List Nat × Nat × List Nat)
 hm:List (List Nat × Nat × Nat)
def lb0:Lb:=⟨0,[],⟨[],[]⟩⟩
def vr0:VR:=⟨0,⟨[],[]⟩,[],[],[]⟩
def Ga{α:Type}(d:α)(l:List (List α))(n:Nat):α:=(l.getD (n/16) []).getD (n%16) d
def OH:List (List Nat × Nat)→List Nat→Option Nat
 | [],_=>none
 |(p,l)::r,q=>match eqP p q with|true=>some l|false=>OH r q
def hzL:List (List Nat × Nat × List Nat)→List Nat→Nat→List Nat
 | [],_,_=>[]
 |(p,i,z)::r,q,j=>match Nat.beq i j&&eqP p q with|true=>z|false=>hzL r q j
def hmL:List (List Nat × Nat × Nat)→List Nat→Nat→Nat
 | [],_,_=>0
 |(p,i,z)::r,q,j=>match Nat.beq i j&&eqP p q with|true=>z|false=>hmL r q j
def Aa:List (FuncId × List Nat)→FuncId→List Nat
 | [],_=>[]
 |(f,l)::r,g=>match Nat.beq f g with|true=>l|false=>Aa r g
def Sx(lbs:List (List Lb))(vs:List (List VR))(hands:List Nat):LT where
 lb:=Ga lb0 lbs
 fn:=fun v=>(Ga vr0 vs v).fn
 rh:=fun v=>(Ga vr0 vs v).rh
 lat:=fun v=>OH (Ga vr0 vs v).lat
 hd:=fun l=>B7 hands l
 hz:=fun v=>hzL (Ga vr0 vs v).hz
 hm:=fun v=>hmL (Ga vr0 vs v).hm
def a9v:Nat:=(fun(_:(((i:Unit)→Option Unit)→(i:Unit)→Option Unit)→(i:Unit)→Option Unit)=>0) (H1 (ι:=Unit) (β:=fun _=>Unit))
def Az{α β:Type}(h:α=β)(x:α):β:=(fun(_:Nat)=>h▸x) a9v
def mkI{B:Tab}{t:LT}{α:Type}(l:Nat)(x:α)(h:α=Vars B (t.lb l).sh:=by kernel_rfl):Ix B t:=⟨l,Az h x⟩
def Yi{α β:Type}(o:Option α)(h:α=β:=by kernel_rfl):Option β:=Az (congrArg Option h) o
theorem JQ{B:Tab}{t:LT}{F:Gt B t→Gt B t}(hq:∀i,H1 F i=F (H1 F) i)(i:Ix B t){β:Type}(h:Bx B t i=β):Yi (H1 F i) h=Yi (F (H1 F) i) h:=by rw[hq i]
section
variable{ι:Type}{β:ι→Type}
theorem a3E{γ:Type}(b:Bool){F G:((i:ι)→Option (β i))→Option γ}(h1:H2 F)(h2:H2 G):H2 fun g=>cond b (F g) (G g):=by
 cases b
 ·exact h2
 ·exact h1
theorem a9s{N:((i:ι)→Option (β i))→(i:ι)→Option (β i)}{nm:(i:ι)→Option (β i)}(hf:∀i,H2 fun g=>N g i)(he:∀i,nm i=N nm i){i:ι}{r:β i}(h:H1 N i=some r):nm i=some r:=by
 obtain⟨n,hn⟩:=sW h;clear h
 induction n generalizing i with
 |zero=>cases hn
 |succ n ih=>rw[he i];exact vE (hf i) (fun j x hx=>ih hx) hn
end
theorem aP{P:Program}{f:FuncId}{args:List A}{r:A}(h:FnP P f args r)(hf:args.all C7=true):U2 P f args [] r []:=by
 refine⟨h.1,fun C L vals hP hpin hs hsz hrep=>?_⟩;have hX:∀b,Mut C (mst []) L b→b<C.w0.heap.size:=by
  rintro b (hx|⟨i,hi,_⟩)
  ·exact hs.old b hx
  ·cases hi
 refine(h.2 C.w0 (Mut C (mst []) L) vals hX hsz fun i hi=>PX (x:=args[i]) ?_ (hrep i hi)).mono ?_
 ·have h1:C7 (args[i])=true:=List.all_eq_true.1 hf _ (B0 hi);generalize args[i]=x at h1;cases x with
  |tup cs=>cases h1
  |_=>exact FU h1
 ·rintro e w' ⟨v,rfl,hb,hr⟩;exact⟨v,L,rfl,hs.later hb.os hb.tape hb.output hb.size hb.block,RepA.ext hr (Ext.refl _ _) (fun b _ h=>h) (fun id hi=>by simp at hi) (fun id hi=>by simp at hi)⟩
structure Kl(B:Tab)(t:LT)(P:Program) where
 l:Nat
 f:Vars B (t.lb l).sh→Option (Res B (t.rh (t.lb l).v))
 ok:∀x r,f x=some r→Eh P t l x r
def tO{B:Tab}{t:LT}{P:Program}:List (Kl B t P)→(i:Ix B t)→Option (Bx B t i)
 | [],_=>none
 |h::hs,⟨l,x⟩=>match Nat.decEq h.l l with
  |.isTrue e=>(e▸h.f:Vars B (t.lb l).sh→Option (Res B (t.rh (t.lb l).v))) x
  |.isFalse _=>tO hs ⟨l,x⟩
theorem UN{B:Tab}{t:LT}{P:Program}:∀(hs:List (Kl B t P)) (l:Nat) (x:Vars B (t.lb l).sh) (r:Res B (t.rh (t.lb l).v)),tO hs ⟨l,x⟩=some r→Eh P t l x r
 | [],l,x,r,h=>by cases h
 |k::hs,l,x,r,h=>by
  unfold tO at h;split at h
  ·rename_i e _;subst e;exact k.ok x r h
  ·exact UN hs l x r h
def iA{B:Tab}{t:LT}{P:Program}{α β:Type}(l:Nat)(f:α→Option β)(hα:Vars B (t.lb l).sh=α:=by kernel_rfl)(hβ:β=Res B (t.rh (t.lb l).v):=by kernel_rfl)(ok:∀x r,f x=some r→Eh P t l (Az hα.symm x) (Az hβ r)):Kl B t P where
 l:=l
 f:=fun x=>Az (congrArg Option hβ) (f (Az hα x))
 ok:=fun x r h=>by subst hα;subst hβ;exact ok x r h
theorem a06{α:Type}{d:α}{l:List (List α)}{p:α→Bool}(hd:p d=true)(h:(l.all fun c=>c.all p)=true)(n:Nat):p (Ga d l n)=true:=by
 unfold Ga;have key:∀(c:List α) (m:Nat),c.all p=true→p (c.getD m d)=true:=fun c m hc=>by
  rw[List.getD_eq_getElem?_getD];cases hm:c[m]? with
  |none=>exact hd
  |some x=>exact List.all_eq_true.1 hc x (O6 hm)
 refine key _ _ ?_;rw[List.getD_eq_getElem?_getD];cases hm:l[n/16]? with
 |none=>rfl
 |some c=>exact List.all_eq_true.1 h c (O6 hm)
theorem JE{P:Program}{lbs:List (List Lb)}{vs:List (List VR)}{hands:List Nat}(h0:(P.funcs[vr0.fn]?).isSome=true)(h:(vs.all fun c=>c.all fun r=>(P.funcs[r.fn]?).isSome)=true)(l v:Nat)(_:((Sx lbs vs hands).lb l).v=v)(_:(Sx lbs vs hands).hd l=false):∃fn,P.funcs[(Sx lbs vs hands).fn v]? =some fn:=
 A2.1 (a06 (p:=fun r:VR=>(P.funcs[r.fn]?).isSome) h0 h v)
theorem XI{α β:Type}{o:Option α}{f:α→β}{r:β}(h:o.map f=some r):∃x,o=some x∧f x=r:=by
 cases o with
 |none=>cases h
 |some x=>exact⟨x,rfl,Option.some.inj h⟩
theorem WR{B:Tab}{P:Program}{t:LT}{g:Gt B t}(hm:U5 P t g){l:Nat}{α β:Type}{x:α}{hx:α=Vars B (t.lb l).sh}{hT:Res B (t.rh (t.lb l).v)=β}{r:β}(h:Yi (g (mkI l x hx)) hT=some r)(hk:(eqP (t.lb l).rp []&&(slots 0 (t.lb l).sh.sl&&(Lc P (t.fn (t.lb l).v) (N0 (t.lb l).sh.sl (Az hx x).1).length&&(Nat.ble (ntF P (t.fn (t.lb l).v)) 900&&(Ew (Q5 (t.lb l).sh (Az hx x))&&(Ew (t.rh (t.lb l).v).bx&&(X0 ((X7 (t.rh (t.lb l).v).rs (Az hT.symm r).1).map (·.1))&&((t.rh (t.lb l).v).rs.all (Nf B)&&bB (W6 (t.rh (t.lb l).v) (Az hT.symm r)).er))))))))=true):FnP P (t.fn (t.lb l).v) (N0 (t.lb l).sh.sl (Az hx x).1) (W6 (t.rh (t.lb l).v) (Az hT.symm r)).er:=by subst hx;subst hT;simp only[w9]at hk;obtain⟨e1,e3,e4,e5,e6,k0,k1,k4,k2⟩:=hk;have hr:g ⟨l,x⟩=some r:=h;have hio:=(hm l x r hr (Im e1)).elim (fun hm=>Zo hm e3 e4 e5) id;have hrm:P2 (t.rh (t.lb l).v) r=X7 (t.rh (t.lb l).v).rs r.1:=CQ k0 r;rw[show Q5 (t.lb l).sh x=[]from Zd e6,hrm]at hio;exact BY hio (xZ k4 (DR k1)) k2
end
end
end Go.Proofs.YtihbbcealnnpiaaGreatDoor

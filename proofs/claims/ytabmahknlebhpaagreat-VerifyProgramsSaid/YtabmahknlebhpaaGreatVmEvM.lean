/- Parts of the proof. -/
import Derived.Test.YtabmahknlebhpaaGreatVmXI
import Derived.Test.YtabmahknlebhpaaGreatVmEvH
set_option linter.unusedVariables false
namespace Go.Proofs.YtabmahknlebhpaaGreat
noncomputable section
section
open Go.RowKit
variable{B:Tab}{P:Program}
def FY(P:Program)(o:Oper)(s:TS B)(t:TypeId)(x:Operand):Act B:=
 match Yz (P.underlying t)with
 |true=>(match s.ev x with
  |.v (.c (.ptr id off))=>(match Mm s id with|true=>.sem (s.put o.dst (.c (.ifc t id off)))|false=>.no)
  |.v (.c (.d (.t (.v y))))=>.sem (s.put o.dst (.c (.d (.t (.v (.iface t y))))))
  |_=>.no)
 |false=>.no
theorem DO{s:TS B}{id:Nat}(h:Mm s id=true):∃ty cs,s.er.st.mem id=some (.box ty cs):=by
 unfold Mm at h;split at h
 ·rename_i bt cs hg;refine⟨bt,cs.map C1.er,?_⟩;show x7 s.er.ms id=_;rw[L7,hg];rfl
 ·cases h
theorem a95{o:Oper}{s:TS B}{t:TypeId}{x:Operand}(ho:o.op=.makeInterface t x):v9 P o s (FY P o s t x):=by
 unfold FY;split
 ·rename_i ht;split
  ·rename_i id off hx;split
   ·rename_i hb;intro K hK;refine b5A t x ho ht id off (by rw[A3,hx];rfl) (DO hb) ?_;rw[M2,B4]at hK;exact hK
   ·trivial
  ·rename_i y hx;intro K hK;refine a2R t x ho ht y (by rw[A3,hx];rfl) ?_;rw[M2,B4]at hK;exact hK
  ·trivial
 ·trivial
def AR(P:Program)(o:Oper)(s:TS B)(x:Operand)(t:TypeId):Act B:=
 match Yz (P.underlying t),s.ev x with
 |true,.v (.c (.d (.t (.v (.iface t' (.int k n))))))=>(match Nat.beq t' t with|true=>.sem (s.put o.dst (.tup [.c (.d (.t (.v (.int k n)))),.c (.d (.t (.v (.bool true))))]))|false=>.no)
 |_,_=>.no
theorem a5i{o:Oper}{s:TS B}{x:Operand}{xt t:TypeId}(ho:o.op=.typeAssert x xt t true):v9 P o s (AR P o s x t):=by
 unfold AR;split
 ·rename_i t' k n ht hx;split
  ·rename_i e;intro K hK;refine a4N x xt t ho ht (.int k n) rfl (by rw[A3,hx,C9 e];rfl) ?_;rw[M2,B4]at hK;exact hK
  ·trivial
 ·trivial
def NC(sc:Bool)(s:TS B):Act B:=match sc with|true=>.sem s|false=>.no
def Qd(P:Program)(t:LT)(g:(i:Ix B t)→Option (Bx B t i))(o:Oper)(s:TS B)(c:Call)(f:FuncId)(rv:V2 B)(l:Nat):Act B:=
 match Gu (c.args.toList.map s.ev)with
 |some vs=>Lx P t NC g o s f l (rv::vs) (hAs B (t.lb l).sh.sl (rv::vs))
 |none=>.no
theorem a7f{s:TS B}{x:Operand}{name:String}{f:FuncId}{rv:V2 B}(hi:Qj P s x name=some (f,rv)):∃ty id off rc,s.er.st.ev x=.ifc ty id off∧(∃bt cs,s.er.st.mem id=some (.box bt cs))∧Fi P ty name=some (f,rc)∧(rc=.ptr→rv.er=.ptr id off)∧∀e,rc=.val e→∃ti,t8 P e=some ti∧J8 s.er.st (.ptr id off) ti=some rv.er:=by
 unfold Qj at hi;split at hi
 ·rename_i ty id off hx;split at hi
  ·rename_i f' rc hbx hme;split at hi
   ·rename_i rv' hrv;cases hi;obtain⟨r1,r2⟩:=TR hrv;exact⟨ty,id,off,rc,by rw[A3,hx];rfl,DO hbx,hme,r1,r2⟩
   ·cases hi
  ·cases hi
 ·cases hi
theorem a6z{t:LT}{g:(i:Ix B t)→Option (Bx B t i)}(hm:V5 P t g){o:Oper}{s:TS B}{c:Call}{x:Operand}{name:String}{f:FuncId}{rv:V2 B}{l:Nat}(ho:o.op=.call c)(hc:c.callee=.invoke x name)(hi:Qj P s x name=some (f,rv)):v9 P o s (Qd P t g o s c f rv l):=by
 unfold Qd;split
 ·rename_i vs hvs;have hev:c.args.toList.map s.er.st.ev=vs.map V2.er:=by rw[Nq hvs,List.map_map];exact List.map_congr_left fun x _=>A3 s x
  obtain⟨ty,id,off,rc,h1,h2,h3,h4,h5⟩:=a7f hi;refine SC hm fun rd ns hP e8 k3=>?_;unfold NC;split
  ·rename_i hsc;intro K hK;obtain⟨callee,args,ts⟩:=c;cases hc;rw[M2,B4]at hK;have he:((rv.er::args.toList.map s.er.st.ev).map (v7 s.er.st))=(rv::vs).map fun x=>v7 s.er.st x.er:=by rw[show args.toList.map s.er.st.ev=vs.map V2.er from hev,List.map_cons,List.map_map];rfl
   exact b0V x name args ts ho ty id off h1 h2 f rc h3 rv.er h4 h5 rd.er (by rw[he];exact Oo ns e8 hP) (by rw[he];exact e8) hsc hK
  ·trivial
 ·trivial
def iX(P:Program)(sw:List FuncId)(o:Oper)(s:TS B)(x:Operand)(name:String)(args:List Operand):Act B:=
 match s.ev x,args.map s.ev with
 |.v (.c (.ifc ty id off)),[.v (.c (.d (.t (.v (.int .i64 i))))),.v (.c (.d (.t (.v (.int .i64 j)))))]=>(match Mm s id,Fi P ty name with
  |true,some (f,.val e')=>(match B3 sw f,t8 P e' with
   |true,some ti=>(match Hy s (.v (.c (.ptr id off))) ti with
    |some (.v (.c (.ref r)))=>(match A7 s.ms r with
     |some (.row e (.int .i64) xs)=>.bnd (i6 xs i) fun p=>.bnd (i6 xs j) fun q=>.sem ((s.new r (.row e (.int .i64) ((xs.set i.toNat q).set j.toNat p))).put o.dst (.tup []))
     |_=>.no)
    |_=>.no)
   |_,_=>.no)
  |_,_=>.no)
 |_,_=>.no
theorem a7Z{sw:List FuncId}(hsw:∀f,B3 sw f=true→Pr P f){o:Oper}{s:TS B}{c:Call}{x:Operand}{name:String}(ho:o.op=.call c)(hc:c.callee=.invoke x name):v9 P o s (iX P sw o s x name c.args.toList):=by
 unfold iX;split
 ·rename_i ty id off i j hx hargs;split
  ·rename_i f e' hbx hme;split
   ·rename_i ti hf hti;split
    ·rename_i r hpk;split
     ·rename_i e xs hg;intro p hp q hq K hK;obtain⟨callee,args,ts⟩:=c;cases hc;obtain⟨i0,hp⟩:=bT hp;obtain⟨j0,hq⟩:=bT hq
      match args,hargs with
      |⟨[]⟩,hargs=>cases hargs
      |⟨[_]⟩,hargs=>exact absurd (congrArg List.length hargs) (by simp)
      |⟨_::_::_::_⟩,hargs=>exact absurd (congrArg List.length hargs) (by simp)
      |⟨[x1,x2]⟩,hargs=>
       simp only[List.map_cons,List.map_nil,List.cons.injEq,and_true]at hargs;have hpk':=uX hpk;have hr:s.er.st.mem r=some (.row e 1 (xs.map (enc B (.int .i64)))):=by show x7 s.er.ms r=_;rw[L7,hg];rfl
       refine b1a x name x1 x2 ts ho ty id off (by rw[A3,hx];rfl) (DO hbx) f e' hme ti hti r hpk' (hsw f hf) e (xs.map (enc B (.int .i64))) hr i.toNat j.toNat (by rw[A3,hargs.1,Int.toNat_of_nonneg i0];rfl) (by rw[A3,hargs.2,Int.toNat_of_nonneg j0];rfl) p q (by rw[M1,hp];rfl) (by rw[M1,hq];rfl) ?_;rw[M2,Lj,B4,Ta s.er r _ _ hr]at hK;have e1:(TB.row e (.int .i64) ((xs.set i.toNat q).set j.toNat p):TB B).er=.row e 1 (((xs.map (enc B (.int .i64))).set i.toNat (enc B (.int .i64) q)).set j.toNat (enc B (.int .i64) p)):=by show Blk.row e (sz B (.int .i64)) (((xs.set i.toNat q).set j.toNat p).map (enc B (.int .i64)))=_;rw[List.map_set,List.map_set];rfl
       rw[e1]at hK;exact hK
     ·trivial
    ·trivial
   ·trivial
  ·trivial
 ·trivial
def cR(P:Program)(dof:TypeId→Option D)(o:Oper)(s:TS B):Act B:=
 match o.op with
 |.makeInterface t x=>FY P o s t x
 |.typeAssert x _ t true=>AR P o s x t
 |_=>CB P dof o s
theorem MM{dof:TypeId→Option D}{o:Oper}{s:TS B}:v9 P o s (cR P dof o s):=by
 unfold cR;split
 ·rename_i t x ho;exact a95 ho
 ·rename_i x xt t ho;exact a5i ho
 ·exact a4M
end
section
open Go.RowKit
variable{B:Tab}{P:Program}{t:LT}
def N7(f:Nat→Act B):List Nat→Act B
 | []=>.no
 |l::ls=>match f l with|.no=>N7 f ls|a=>a
theorem Qi{o:Oper}{s:TS B}{f:Nat→Act B}(h:∀l,v9 P o s (f l)):∀ls,v9 P o s (N7 f ls)
 | []=>trivial
 |l::ls=>by
  unfold N7;split
  ·exact Qi h ls
  ·exact h l
def orA(a b:Act B):Act B:=match a with|.no=>b|a=>a
def Dw(m:Nat)(a:Act B):Act B:=match m with|1=>.no|_=>a
def FH(P:Program)(t:LT)(io pu lo:FuncId→List Nat)(g:(i:Ix B t)→Option (Bx B t i))(m:Nat)(o:Oper)(s:TS B)(c:Call)(f:FuncId):Act B:=
 orA (Dw m (N7 (Ie P t g o s c f) (lo f))) (orA (Dw m (N7 (Ew P t g o s c f) (io f))) (N7 (Jt P t g o s c f) (pu f)))
def Ec(P:Program)(t:LT)(dof:TypeId→Option D)(sw:List FuncId)(io pu lo:FuncId→List Nat):gD B t:=fun g v rp i o s=>
 match o.op with
 |.call c=>(match c.callee with
  |.value (.func f)=>FH P t io pu lo g (t.hm v rp i) o s c f
  |.invoke x name=>(match Qj P s x name with
   |some q=>orA (iX P sw o s x name c.args.toList) (orA (N7 (Mg P t g o s c q.1 q.2) (io q.1)) (N7 (Qd P t g o s c q.1 q.2) (pu q.1)))
   |none=>.no)
  |_=>cR P dof o s)
 |_=>(match t.hm v rp i with|0=>cR P dof o s|m=>FL P dof m o s)
theorem b1v{dof:TypeId→Option D}{sw:List FuncId}(hsw:∀f,B3 sw f=true→Pr P f){io pu lo:FuncId→List Nat}{g:(i:Ix B t)→Option (Bx B t i)}(hm:V5 P t g)(v:Nat)(rp:List Nat)(i:Nat)(o:Oper)(s:TS B):v9 P o s (Ec P t dof sw io pu lo g v rp i o s):=by
 unfold Ec;split
 ·rename_i c ho;split
  ·rename_i f hc;unfold FH;have h1:=Qi (P:=P) (o:=o) (s:=s) (f:=Ew P t g o s c f) (fun l=>a9i hm ho hc) (io f);have h2:=Qi (P:=P) (o:=o) (s:=s) (f:=Jt P t g o s c f) (fun l=>a6v hm ho hc) (pu f);have h3:∀m,v9 P o s (Dw m (N7 (Ew P t g o s c f) (io f))):=fun m=>by
    unfold Dw;split
    ·trivial
    ·exact h1
   have h4:∀m,v9 P o s (Dw m (N7 (Ie P t g o s c f) (lo f))):=fun m=>by
    unfold Dw;split
    ·trivial
    ·exact Qi (fun l=>a5I hm ho hc) (lo f)
   have hor:∀{a b:Act B},v9 P o s a→v9 P o s b→v9 P o s (orA a b):=fun{a b} ha hb=>by
    unfold orA;split
    ·exact hb
    ·exact ha
   exact hor (h4 _) (hor (h3 _) h2)
  ·rename_i x name hc;split
   ·rename_i q hq;have hor:∀{a b:Act B},v9 P o s a→v9 P o s b→v9 P o s (orA a b):=fun{a b} ha hb=>by
     unfold orA;split
     ·exact hb
     ·exact ha
    exact hor (a7Z hsw ho hc) (hor (Qi (fun l=>a1n hm ho hc hq) (io q.1)) (Qi (fun l=>a6z hm ho hc hq) (pu q.1)))
   ·trivial
  ·exact MM
 ·split
  ·exact MM
  ·exact a9O
theorem b4V{hand:(i:Ix B t)→Option (Bx B t i)}{dof:TypeId→Option D}{sw:List FuncId}(hsw:∀f,B3 sw f=true→Pr P f){io pu lo:FuncId→List Nat}{fuel:Nat}(hmix:P.follows .mixedOrders=true)(hfn:∀l v,(t.lb l).v=v→t.hd l=false→∃fn,P.funcs[t.fn v]? =some fn)(hh:∀l x r,t.hd l=true→hand ⟨l,x⟩=some r→Hh P t l x r):V5 P t (I6 (EVB (B:=B) P t hand (Ec P t dof sw io pu lo) fuel)):=
 b2R hmix hfn hh fun g hm v rp i o s=>b1v hsw hm v rp i o s
abbrev Gt(B:Tab)(t:LT):Type:=(i:Ix B t)→Option (Bx B t i)
theorem yQ{ρ:Type}(b:Bool){F G:Gt B t→Option ρ}(h1:G3 F)(h2:G3 G):G3 fun g=>cond b (F g) (G g):=by
 cases b
 ·exact h2
 ·exact h1
def Gr(f:Gt B t→Act B):Prop:=∀{ρ:Type} (k:Gt B t→TS B→Nat→Option ρ),(∀s lk,G3 fun g=>k g s lk)→G3 fun g=>Lk (f g) (k g)
theorem Hq:∀a:Act B,Gr (t:=t) fun _=>a
 |.no=>fun k hk=>P3 none
 |.st s lk=>fun k hk=>hk s _
 |.bnd x f=>fun k hk=>EV (P3 x) fun y=>Hq (f y) k hk
 |.cas b x y=>fun k hk=>yQ b (Hq x k hk) (Hq y k hk)
 |.lo s=>fun k hk=>hk s 2
 |.sem s=>fun k hk=>hk s 3
theorem b5j(i:Ix B t)(f:Bx B t i→Act B):Gr (t:=t) fun g=>.bnd (g i) f:=fun k hk=>EV (BY i) fun y=>Hq (f y) k hk
def Y7(f:Gt B t→Act B):Prop:=(∃a,∀g,f g=a)∨∃i k,∀g,f g=.bnd (g i) k
theorem a0V{f:Gt B t→Act B}(h:Y7 f):Gr f:=by
 rcases h with⟨a,ha⟩|⟨i,k,hk⟩
 ·rw[show f=fun _=>a from funext ha];exact Hq a
 ·rw[show f=fun g=>.bnd (g i) k from funext hk];exact b5j i k
theorem Nt{f:Gt B t→Nat→Act B}(h:∀l,Y7 fun g=>f g l):∀ls,Y7 fun g=>N7 (f g) ls
 | []=>.inl ⟨.no,fun _=>rfl⟩
 |l::ls=>by
  rcases h l with⟨a,ha⟩|⟨i,k,hk⟩
  ·cases a with
   |no=>
    rcases Nt h ls with⟨b,hb⟩|⟨i,k,hk⟩
    ·exact .inl ⟨b,fun g=>by show(match f g l with|.no=>N7 (f g) ls|a=>a)=b;rw[show f g l=_ from ha g];exact hb g⟩
    ·exact .inr ⟨i,k,fun g=>by show(match f g l with|.no=>N7 (f g) ls|a=>a)=_;rw[show f g l=_ from ha g];exact hk g⟩
   |st s lk=>exact .inl ⟨.st s lk,fun g=>by show(match f g l with|.no=>N7 (f g) ls|a=>a)=_;rw[show f g l=_ from ha g]⟩
   |bnd x k=>exact .inl ⟨.bnd x k,fun g=>by show(match f g l with|.no=>N7 (f g) ls|a=>a)=_;rw[show f g l=_ from ha g]⟩
   |lo s=>exact .inl ⟨.lo s,fun g=>by show(match f g l with|.no=>N7 (f g) ls|a=>a)=_;rw[show f g l=_ from ha g]⟩
   |sem s=>exact .inl ⟨.sem s,fun g=>by show(match f g l with|.no=>N7 (f g) ls|a=>a)=_;rw[show f g l=_ from ha g]⟩
   |cas b x y=>exact .inl ⟨.cas b x y,fun g=>by show(match f g l with|.no=>N7 (f g) ls|a=>a)=_;rw[show f g l=_ from ha g]⟩
  ·exact .inr ⟨i,k,fun g=>by show(match f g l with|.no=>N7 (f g) ls|a=>a)=_;rw[show f g l=_ from hk g]⟩
theorem vM{f f':Gt B t→Act B}(h1:Y7 f)(h2:Y7 f'):Y7 fun g=>orA (f g) (f' g):=by
 rcases h1 with⟨a,ha⟩|⟨i,k,hk⟩
 ·cases a with
  |no=>
   rcases h2 with⟨b,hb⟩|⟨i,k,hk⟩
   ·exact .inl ⟨b,fun g=>by show orA (f g) (f' g)=b;rw[ha g];exact hb g⟩
   ·exact .inr ⟨i,k,fun g=>by show orA (f g) (f' g)=_;rw[ha g];exact hk g⟩
  |st s lk=>exact .inl ⟨.st s lk,fun g=>by show orA (f g) (f' g)=_;rw[ha g];rfl⟩
  |bnd x k=>exact .inl ⟨.bnd x k,fun g=>by show orA (f g) (f' g)=_;rw[ha g];rfl⟩
  |lo s=>exact .inl ⟨.lo s,fun g=>by show orA (f g) (f' g)=_;rw[ha g];rfl⟩
  |sem s=>exact .inl ⟨.sem s,fun g=>by show orA (f g) (f' g)=_;rw[ha g];rfl⟩
  |cas b x y=>exact .inl ⟨.cas b x y,fun g=>by show orA (f g) (f' g)=_;rw[ha g];rfl⟩
 ·exact .inr ⟨i,k,fun g=>by show orA (f g) (f' g)=_;rw[hk g];rfl⟩
theorem b5c(P:Program)(o:Oper)(s:TS B)(c:Call)(f:FuncId)(l:Nat):Y7 fun g=>Ew P t g o s c f l:=by
 unfold Ew Nw;split
 ·split
  ·split
   ·split
    ·exact .inr ⟨_,_,fun g=>rfl⟩
    ·exact .inl ⟨_,fun g=>rfl⟩
   ·exact .inl ⟨_,fun g=>rfl⟩
  ·exact .inl ⟨_,fun g=>rfl⟩
 ·exact .inl ⟨_,fun g=>rfl⟩
theorem a6q(P:Program)(o:Oper)(s:TS B)(c:Call)(f:FuncId)(rv:V2 B)(l:Nat):Y7 fun g=>Mg P t g o s c f rv l:=by
 unfold Mg Nw;split
 ·split
  ·split
   ·split
    ·exact .inr ⟨_,_,fun g=>rfl⟩
    ·exact .inl ⟨_,fun g=>rfl⟩
   ·exact .inl ⟨_,fun g=>rfl⟩
  ·exact .inl ⟨_,fun g=>rfl⟩
 ·exact .inl ⟨_,fun g=>rfl⟩
theorem a6o(P:Program)(o:Oper)(s:TS B)(c:Call)(f:FuncId)(rv:V2 B)(l:Nat):Y7 fun g=>Qd P t g o s c f rv l:=by
 unfold Qd Lx
 repeat' split
 all_goals first
  |exact .inr ⟨_,_,fun g=>rfl⟩
  |exact .inl ⟨_,fun g=>rfl⟩
theorem a2J(P:Program)(o:Oper)(s:TS B)(c:Call)(f:FuncId)(l:Nat):Y7 fun g=>Jt P t g o s c f l:=by
 unfold Jt Lx
 repeat' split
 all_goals first
  |exact .inr ⟨_,_,fun g=>rfl⟩
  |exact .inl ⟨_,fun g=>rfl⟩
theorem b4q(P:Program)(o:Oper)(s:TS B)(c:Call)(f:FuncId)(l:Nat):Y7 fun g=>Ie P t g o s c f l:=by
 unfold Ie xM
 repeat' split
 all_goals first
  |exact .inr ⟨_,_,fun g=>rfl⟩
  |exact .inl ⟨_,fun g=>rfl⟩
theorem a3g(P:Program)(io pu lo:FuncId→List Nat)(m:Nat)(o:Oper)(s:TS B)(c:Call)(f:FuncId):Y7 fun g=>FH P t io pu lo g m o s c f:=by
 have h1:Y7 fun g=>Dw m (N7 (Ew P t g o s c f) (io f)):=by
  unfold Dw;split
  ·exact .inl ⟨_,fun g=>rfl⟩
  ·exact Nt (f:=fun g=>Ew P t g o s c f) (fun l=>b5c P o s c f l) (io f)
 have h2:Y7 fun g=>Dw m (N7 (Ie P t g o s c f) (lo f)):=by
  unfold Dw;split
  ·exact .inl ⟨_,fun g=>rfl⟩
  ·exact Nt (f:=fun g=>Ie P t g o s c f) (fun l=>b4q P o s c f l) (lo f)
 refine vM h2 ?_;exact vM h1 (Nt (f:=fun g=>Jt P t g o s c f) (fun l=>a2J P o s c f l) (pu f))
theorem YD(P:Program)(dof:TypeId→Option D)(sw:List FuncId)(io pu lo:FuncId→List Nat)(v:Nat)(rp:List Nat)(i:Nat)(o:Oper)(s:TS B):Gr fun g=>Ec P t dof sw io pu lo g v rp i o s:=by
 unfold Ec;split
 ·split
  ·exact a0V (a3g P io pu lo _ o s _ _)
  ·split
   ·exact a0V (vM (f:=fun _=>iX P sw o s _ _ _) (.inl ⟨_,fun _=>rfl⟩) (vM (Nt (f:=fun g=>Mg P t g o s _ _ _) (fun l=>a6q P o s _ _ _ l) _) (Nt (f:=fun g=>Qd P t g o s _ _ _) (fun l=>a6o P o s _ _ _ l) _)))
   ·exact Hq _
  ·exact Hq _
 ·exact Hq _
section
variable{act:Gt B t→List Nat→Nat→Oper→TS B→Act B}
theorem DM{ρ:Type}{act:Gt B t→Oper→TS B→Act B}(ha:∀o s,Gr fun g=>act g o s)(dr:Bool)(fz:List Nat)(o:Oper)(s:TS B){k:Gt B t→TS B→Nat→Option ρ}(hk:∀s m,G3 fun g=>k g s m):G3 fun g=>Bw dr (act g) fz o s (k g):=by
 unfold Bw;split
 ·rename_i s1 _;refine ha o s1 (fun g s' m=>match !dr||(!Nat.beq m 3&&(X0 o s.er.st|| !Nat.beq m 0))with|true=>k g s' m|false=>none) fun s' m=>?_;split
  ·exact hk s' m
  ·exact P3 none
 ·exact P3 none
theorem UU{ρ:Type}{act:Gt B t→Nat→Oper→TS B→Act B}(ha:∀i o s,Gr fun g=>act g i o s)(dr:Bool)(hz:Nat→List Nat)(ops:List Oper){k:Gt B t→TS B→Fps→Option ρ}(hk:∀s f,G3 fun g=>k g s f):∀(l:List Oper) (i:Nat) (s:TS B) (acc:Fps),G3 fun g=>N8 dr hz (act g) ops i l s acc (k g)
 | [],i,s,acc=>hk s acc
 |o::rest,i,s,acc=>by
  have go:=fun s acc=>UU ha dr hz ops hk rest (i+1) s acc;unfold N8;split
  ·exact DM (ha i) dr _ o s (k:=fun g s' m=>N8 dr hz (act g) ops (i+1) rest s' _ (k g)) fun s' m=>go s' _
  ·split
   ·exact P3 none
   ·split
    ·refine yQ _ ?_ ?_
     ·split
      ·exact DM (ha i) dr _ o _ (k:=fun g s' m=>N8 dr hz (act g) ops (i+1) rest s' _ (k g)) fun s' m=>go s' _
      ·exact go _ _
     ·split
      ·exact DM (ha i) dr _ o _ (k:=fun g s' m=>N8 dr hz (act g) ops (i+1) rest s' _ (k g)) fun s' m=>go s' _
      ·exact go _ _
    ·exact go _ _
    ·exact P3 none
theorem a3F{ρ:Type}{act:Gt B t→Nat→Oper→TS B→Act B}(ha:∀i o s,Gr fun g=>act g i o s)(dr:Bool)(hz:Nat→List Nat)(ops:Array Oper)(s:TS B){k:Gt B t→TS B→Option ρ}(hk:∀s,G3 fun g=>k g s):G3 fun g=>Rm dr hz (act g) ops s (k g):=by
 unfold Rm;split
 ·exact P3 none
 ·split
  ·refine UU ha dr hz _ (k:=fun g s' fps=>match !dr||(Yk ops.toList&&lM ops.toList fps.reverse)with|true=>k g s'|false=>none) (fun s f=>?_) _ 0 _ [];split
   ·exact hk s
   ·exact P3 none
  ·exact P3 none
theorem a6N{a b:Nat}(h:a=b){F:Gt B t→Option (Res B (t.rh a))}(hF:G3 F):G3 fun g=>Dx h (F g):=by subst h;exact hF
theorem ZA(P:Program)(v l:Nat)(s:TS B):G3 fun g=>Iw P t g v l s:=by
 unfold Iw;split
 ·rename_i h _;split
  ·exact a6N h (BY _)
  ·exact P3 none
 ·exact P3 none
theorem IV(P:Program)(ha:∀rp i o s,Gr fun g=>act g rp i o s)(v:Nat):∀(n:Nat) (m:Md) (s:TS B),G3 fun g=>evM P t g (act g) v n m s
 |0,m,s=>P3 none
 |n+1,m,s=>by
  have ih:=IV P ha v n;cases m with
  |go rp=>
   unfold evM;split
   ·split
    ·exact ZA P v _ s
    ·exact P3 none
   ·exact ih _ _
  |inn rp=>
   unfold evM;split
   ·exact a3F (ha rp) _ _ _ s (k:=fun g s'=>evM P t g (act g) v n (.up rp .normal) s') fun s'=>ih _ _
   ·exact ih _ _
   ·split
    ·exact yQ _ (ih _ _) (ih _ _)
    ·exact P3 none
   ·exact ih _ _
   ·exact ih _ _
   ·exact ih _ _
   ·exact ih _ _
   ·exact P3 none
  |up rp e=>
   cases rp with
   |nil=>unfold evM;split<;>exact P3 _
   |cons i rp=>
    unfold evM
    repeat' split
    all_goals first
     |exact ih _ _
     |exact ZA P v _ s
     |exact P3 none
end
theorem a3h(P:Program)(hand:Gt B t)(dof:TypeId→Option D)(sw:List FuncId)(io pu lo:FuncId→List Nat)(fuel:Nat)(i:Ix B t):G3 fun g=>EVB P t hand (Ec P t dof sw io pu lo) fuel g i:=by
 unfold EVB;split
 ·exact P3 _
 ·unfold evL;split
  ·exact IV P (act:=fun g=>Ec P t dof sw io pu lo g (t.lb i.1).v) (fun rp i o s=>YD P dof sw io pu lo _ rp i o s) _ fuel _ _
  ·exact IV P (act:=fun g=>Ec P t dof sw io pu lo g (t.lb i.1).v) (fun rp i o s=>YD P dof sw io pu lo _ rp i o s) _ fuel _ _
end
section
open Go.RowKit
structure VR where
 fn:FuncId
 rh:Rh
 lat:List (List Nat × Nat)
 hz:List (List Nat × Nat × List Nat)
 hm:List (List Nat × Nat × Nat)
def lb0:Lb:=⟨0,[],⟨[],[]⟩⟩
def vr0:VR:=⟨0,⟨[],[]⟩,[],[],[]⟩
def Gn{α:Type}(d:α)(l:List (List α))(n:Nat):α:=(l.getD (n/16) []).getD (n%16) d
def LJ:List (List Nat × Nat)→List Nat→Option Nat
 | [],_=>none
 |(p,l)::r,q=>match eqP p q with|true=>some l|false=>LJ r q
def hzL:List (List Nat × Nat × List Nat)→List Nat→Nat→List Nat
 | [],_,_=>[]
 |(p,i,z)::r,q,j=>match Nat.beq i j&&eqP p q with|true=>z|false=>hzL r q j
def hmL:List (List Nat × Nat × Nat)→List Nat→Nat→Nat
 | [],_,_=>0
 |(p,i,z)::r,q,j=>match Nat.beq i j&&eqP p q with|true=>z|false=>hmL r q j
def Ki:List (FuncId × List Nat)→FuncId→List Nat
 | [],_=>[]
 |(f,l)::r,g=>match Nat.beq f g with|true=>l|false=>Ki r g
def fF(lbs:List (List Lb))(vs:List (List VR))(hands:List Nat):LT where
 lb:=Gn lb0 lbs
 fn:=fun v=>(Gn vr0 vs v).fn
 rh:=fun v=>(Gn vr0 vs v).rh
 lat:=fun v=>LJ (Gn vr0 vs v).lat
 hd:=fun l=>B3 hands l
 hz:=fun v=>hzL (Gn vr0 vs v).hz
 hm:=fun v=>hmL (Gn vr0 vs v).hm
def a5E:Nat:=(fun(_:(((i:Unit)→Option Unit)→(i:Unit)→Option Unit)→(i:Unit)→Option Unit)=>0) (I6 (ι:=Unit) (β:=fun _=>Unit))
def Al{α β:Type}(h:α=β)(x:α):β:=(fun(_:Nat)=>h▸x) a5E
def mkI{B:Tab}{t:LT}{α:Type}(l:Nat)(x:α)(h:α=Vars B (t.lb l).sh:=by kernel_rfl):Ix B t:=⟨l,Al h x⟩
def tE{α β:Type}(o:Option α)(h:α=β:=by kernel_rfl):Option β:=Al (congrArg Option h) o
theorem b3K{B:Tab}{t:LT}{F:Gt B t→Gt B t}(hq:∀i,I6 F i=F (I6 F) i)(i:Ix B t){β:Type}(h:Bx B t i=β):tE (I6 F i) h=tE (F (I6 F) i) h:=by rw[hq i]
section
variable{ι:Type}{β:ι→Type}
theorem a5y{γ:Type}(b:Bool){F G:((i:ι)→Option (β i))→Option γ}(h1:G3 F)(h2:G3 G):G3 fun g=>cond b (F g) (G g):=by
 cases b
 ·exact h2
 ·exact h1
theorem a8s{N:((i:ι)→Option (β i))→(i:ι)→Option (β i)}{nm:(i:ι)→Option (β i)}(hf:∀i,G3 fun g=>N g i)(he:∀i,nm i=N nm i){i:ι}{r:β i}(h:I6 N i=some r):nm i=some r:=by
 obtain⟨n,hn⟩:=uF h;clear h
 induction n generalizing i with
 |zero=>cases hn
 |succ n ih=>rw[he i];exact BL (hf i) (fun j x hx=>ih hx) hn
end
theorem CL{P:Program}{f:FuncId}{args:List A}{r:A}(h:FnP P f args r)(hf:args.all C3=true):T9 P f args [] r []:=by
 refine⟨h.1,fun C L vals hP hpin hs hsz hrep=>?_⟩;have hX:∀b,Mut C (mst []) L b→b<C.w0.heap.size:=by
  rintro b (hx|⟨i,hi,_⟩)
  ·exact hs.old b hx
  ·cases hi
 refine(h.2 C.w0 (Mut C (mst []) L) vals hX hsz fun i hi=>QO (x:=args[i]) ?_ (hrep i hi)).mono ?_
 ·have h1:C3 (args[i])=true:=List.all_eq_true.1 hf _ (y5 hi);generalize args[i]=x at h1;cases x with
  |tup cs=>cases h1
  |_=>exact CP h1
 ·rintro e w' ⟨v,rfl,hb,hr⟩;exact⟨v,L,rfl,hs.later hb.os hb.tape hb.output hb.size hb.block,RepA.ext hr (Ext.refl _ _) (fun b _ h=>h) (fun id hi=>by simp at hi) (fun id hi=>by simp at hi)⟩
structure Nc(B:Tab)(t:LT)(P:Program) where
 l:Nat
 f:Vars B (t.lb l).sh→Option (Res B (t.rh (t.lb l).v))
 ok:∀x r,f x=some r→Hh P t l x r
def pO{B:Tab}{t:LT}{P:Program}:List (Nc B t P)→(i:Ix B t)→Option (Bx B t i)
 | [],_=>none
 |h::hs,⟨l,x⟩=>match Nat.decEq h.l l with
  |.isTrue e=>(e▸h.f:Vars B (t.lb l).sh→Option (Res B (t.rh (t.lb l).v))) x
  |.isFalse _=>pO hs ⟨l,x⟩
theorem LH{B:Tab}{t:LT}{P:Program}:∀(hs:List (Nc B t P)) (l:Nat) (x:Vars B (t.lb l).sh) (r:Res B (t.rh (t.lb l).v)),pO hs ⟨l,x⟩=some r→Hh P t l x r
 | [],l,x,r,h=>by cases h
 |k::hs,l,x,r,h=>by
  unfold pO at h;split at h
  ·rename_i e _;subst e;exact k.ok x r h
  ·exact LH hs l x r h
def DR{B:Tab}{t:LT}{P:Program}{α β:Type}(l:Nat)(f:α→Option β)(hα:Vars B (t.lb l).sh=α:=by kernel_rfl)(hβ:β=Res B (t.rh (t.lb l).v):=by kernel_rfl)(ok:∀x r,f x=some r→Hh P t l (Al hα.symm x) (Al hβ r)):Nc B t P where
 l:=l
 f:=fun x=>Al (congrArg Option hβ) (f (Al hα x))
 ok:=fun x r h=>by subst hα;subst hβ;exact ok x r h
theorem a2r{α:Type}{d:α}{l:List (List α)}{p:α→Bool}(hd:p d=true)(h:(l.all fun c=>c.all p)=true)(n:Nat):p (Gn d l n)=true:=by
 unfold Gn;have key:∀(c:List α) (m:Nat),c.all p=true→p (c.getD m d)=true:=fun c m hc=>by
  rw[List.getD_eq_getElem?_getD];cases hm:c[m]? with
  |none=>exact hd
  |some x=>exact List.all_eq_true.1 hc x (K8 hm)
 refine key _ _ ?_;rw[List.getD_eq_getElem?_getD];cases hm:l[n/16]? with
 |none=>rfl
 |some c=>exact List.all_eq_true.1 h c (K8 hm)
theorem b3N{P:Program}{lbs:List (List Lb)}{vs:List (List VR)}{hands:List Nat}(h0:(P.funcs[vr0.fn]?).isSome=true)(h:(vs.all fun c=>c.all fun r=>(P.funcs[r.fn]?).isSome)=true)(l v:Nat)(_:((fF lbs vs hands).lb l).v=v)(_:(fF lbs vs hands).hd l=false):∃fn,P.funcs[(fF lbs vs hands).fn v]? =some fn:=
 A1.1 (a2r (p:=fun r:VR=>(P.funcs[r.fn]?).isSome) h0 h v)
theorem b4S{α β:Type}{o:Option α}{f:α→β}{r:β}(h:o.map f=some r):∃x,o=some x∧f x=r:=by
 cases o with
 |none=>cases h
 |some x=>exact⟨x,rfl,Option.some.inj h⟩
theorem b2n{B:Tab}{P:Program}{t:LT}{g:Gt B t}(hm:V5 P t g){l:Nat}{α β:Type}{x:α}{hx:α=Vars B (t.lb l).sh}{hT:Res B (t.rh (t.lb l).v)=β}{r:β}(h:tE (g (mkI l x hx)) hT=some r)(hk:(eqP (t.lb l).rp []&&(slots 0 (t.lb l).sh.sl&&(Iz P (t.fn (t.lb l).v) (M3 (t.lb l).sh.sl (Al hx x).1).length&&(Nat.ble (ntF P (t.fn (t.lb l).v)) 900&&(Fj (P4 (t.lb l).sh (Al hx x))&&(Fj (t.rh (t.lb l).v).bx&&(V4 ((Y2 (t.rh (t.lb l).v).rs (Al hT.symm r).1).map (·.1))&&((t.rh (t.lb l).v).rs.all (Oc B)&&mX (W6 (t.rh (t.lb l).v) (Al hT.symm r)).er))))))))=true):FnP P (t.fn (t.lb l).v) (M3 (t.lb l).sh.sl (Al hx x).1) (W6 (t.rh (t.lb l).v) (Al hT.symm r)).er:=by subst hx;subst hT;simp only[w8]at hk;obtain⟨e1,e3,e4,e5,e6,k0,k1,k4,k2⟩:=hk;have hr:g ⟨l,x⟩=some r:=h;have hio:=(hm l x r hr (Jj e1)).elim (fun hm=>kW hm e3 e4 e5) id;have hrm:O7 (t.rh (t.lb l).v) r=Y2 (t.rh (t.lb l).v).rs r.1:=EC k0 r;rw[show P4 (t.lb l).sh x=[]from iC e6,hrm]at hio;exact AG hio (yZ k4 (zW k1)) k2
end
end
end Go.Proofs.YtabmahknlebhpaaGreat

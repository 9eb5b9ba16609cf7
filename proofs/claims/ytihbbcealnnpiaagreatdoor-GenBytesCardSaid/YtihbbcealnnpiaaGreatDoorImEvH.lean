/- Parts of the proof. -/
import Derived.Test.YtihbbcealnnpiaaGreatDoorImXI
set_option linter.unusedVariables false
namespace Go.Proofs.YtihbbcealnnpiaaGreatDoor
section
section
open Go.RowKit
variable{B:Tab}{P:Program}
def h0:Hn:=⟨[],[],[],[],[]⟩
def Hn.add(a b:Hn):Hn:=⟨a.R++b.R,a.F++b.F,a.Z++b.Z,a.N++b.N,a.M++b.M⟩
def Hn.inM(a:Hn):Hn:=⟨a.R,a.F,a.Z,[],a.N⟩
def hC(B:Tab)(t j:Nat):UV->C1 B->Hn
 |.own id _ _,.ref k=>⟨[(k,id)],[],[],[],[]⟩
 |.own id e d,.d (.t (.v (.slice none 0 0)))=>⟨[],[],[(id,e,sz B d)],[(t,j,.row id)],[]⟩
 |.map id _ _,.ob k=>⟨[(k,id)],[],[],[],[]⟩
 |.dat (.sl _),.ref k=>⟨[],[k],[],[],[]⟩
 |.dat (.sl k),.d (.t (.v (.slice none 0 0)))=>⟨[],[],[],[(t,j,.sl (sz B k))],[]⟩
 |_,_=>h0
def hL(B:Tab)(t:Nat):Nat->List UV->List (C1 B)->Hn
 |j,u::l,c::cs=>(hC B t j u c).add (hL B t (j+1) l cs)
 |_,_,_=>h0
def hSt(B:Tab)(t:Nat)(own:List (Nat × TypeId))(base:Nat):Nat->List D->List (C1 B)->Hn
 |c,d::l,y::cs=>(match d with
  |.sl k=>(match Ew own c with|some e=>hC B t c (.own (base+c) e k) y|none=>hC B t c (.dat (.sl k)) y)
  |.map k d=>hC B t c (.map (base+c) k d) y
  |_=>h0).add (hSt B t own base (c+1) l cs)
 |_,_,_=>h0
def hV(B:Tab)(t:Nat):SV->V2 B->Hn
 |.one u,.c c=>hC B t 0 u c
 |.agg l,.agg cs=>hL B t 0 l cs
 |.st i own base,.agg cs=>hSt B t own base 0 (B.lv i) cs
 |_,_=>h0
def hSl(s:TS B):List (Nat × SV)->Hn
 | []=>h0
 |p::l=>(match lkT s.es p.1 with|.v a=>hV B p.1 p.2 a|_=>h0).add (hSl s l)
def hMb(s:TS B):MB->Hn
 |.box id _ l=>(match C4 s.ms id with|some (.box _ cs)=>(hL B id 0 l cs).inM|_=>h0)
 |.st id _ i own base=>(match C4 s.ms id with|some (.box _ cs)=>(hSt B id own base 0 (B.lv i) cs).inM|_=>h0)
def hBx(s:TS B):List MB->Hn
 | []=>h0
 |m::l=>(hMb s m).add (hBx s l)
def a5T(sh:Sh)(s:TS B):Hn:=(hSl s sh.sl).add (hBx s sh.bx)
def hRl(B:Tab):Nat->List SV->List (V2 B)->Hn
 |i,w::l,a::vs=>(hV B i w a).add (hRl B (i+1) l vs)
 |_,_,_=>h0
def a7Q(P:Program)(f:FuncId)(rh:Rh)(s:TS B):Hn:=(match Wc P s (rvF P f)with|some l=>hRl B 0 rh.rs l|none=>h0).add (hBx s rh.bx)
def goS(sh:Sh)(s:TS B):Option (Vars B sh):=EY sh (a5T sh s) s
def goR(P:Program)(f:FuncId)(rh:Rh)(s:TS B):Option (Res B rh):=BQ P f rh (a7Q P f rh s) s
theorem a8w{z:Sh}{s:TS B}{x:Vars B z}(h:goS z s=some x):X7 s.er.st (z.inst s.n x).er.st:=a6V h
end
section
open Go.RowKit
variable{B:Tab}{P:Program}
structure Lb where
 v:Nat
 rp:List Nat
 sh:Sh
structure LT where
 lb:Nat->Lb
 fn:Nat->FuncId
 rh:Nat->Rh
 lat:Nat->List Nat->Option Nat
 hd:Nat->Bool
 hz:Nat->List Nat->Nat->List Nat
 hm:Nat->List Nat->Nat->Nat
abbrev Ix(B:Tab)(t:LT):Type:=Σ l:Nat,Vars B (t.lb l).sh
abbrev Bx(B:Tab)(t:LT):Ix B t->Type:=λi=>Res B (t.rh (t.lb i.1).v)
def Gb{B:Tab}{t:LT}{a b:Nat}(h:a=b)(x:Option (Res B (t.rh a))):Option (Res B (t.rh b)):=h▸x
inductive Md where
 |go(rp:List Nat)
 |inn(rp:List Nat)
 |up(rp:List Nat)(e:Exit)
def chC:Code->Nat->Code
 |.seq a _,0=>a
 |.seq _ b,1=>b
 |.cond _ a _,0=>a
 |.cond _ _ b,1=>b
 |.block _ b,0=>b
 |.loop b,0=>b
 |_,_=>.skip
section
variable(P)(t:LT)(g:(i:Ix B t)->Option (Bx B t i))(act:List Nat->Nat->Oper->TS B->Act B)(v:Nat)
def Nq(l:Nat)(s:TS B):Option (Res B (t.rh v)):=
 match Nat.decEq (t.lb l).v v with
 |.isTrue h=>(match t.hd l,Nat.beq s.n (ntF P (t.fn v)),goS (t.lb l).sh s with|false,true,some x=>Gb h (g ⟨l,x⟩)|_,_,_=>none)
 |.isFalse _=>none
def zR(s:TS B)(c:Operand)(b:Bool):TS B:=match c with|.tmp d=>s.setS d (.c (.v (.bool b)))|_=>s
def G7:List Nat->Code
 | []=>Vm P (t.fn v)
 |i::rp=>chC (G7 rp) i
def eqP:List Nat->List Nat->Bool
 | [],[]=>true
 |a::l,b::r=>Nat.beq a b&&eqP l r
 |_,_=>false
def evM:Nat->Md->TS B->Option (Res B (t.rh v))
 |0,_,_=>none
 |n+1,.go rp,s=>(match t.lat v rp with
  |some l=>(match eqP (t.lb l).rp rp with|true=>Nq P t g v l s|false=>none)
  |none=>evM n (.inn rp) s)
 |n+1,.inn rp,s=>(match G7 P t v rp with
  |.region id ops dr=>aJ dr (t.hz v rp) (act rp) ops s λs'=>evM n (.up rp .normal) s'
  |.seq _ _=>evM n (.go (0::rp)) s
  |.cond c _ _=>(match s.ev c with
   |.v (.c (.d (.t (.v (.bool b)))))=>cond b (evM n (.go (0::rp)) (zR s c true)) (evM n (.go (1::rp)) (zR s c false))
   |_=>none)
  |.block _ _=>evM n (.go (0::rp)) s
  |.skip=>evM n (.up rp .normal) s
  |.exit i=>evM n (.up rp (.exit i)) s
  |.ret=>evM n (.up rp .ret) s
  |_=>none)
 |n+1,.up [] e,s=>(match e with
  |.ret=>goR P (t.fn v) (t.rh v) s
  |.normal=>goR P (t.fn v) (t.rh v) s
  |_=>none)
 |n+1,.up (i::rp) e,s=>(match G7 P t v rp with
  |.seq _ _=>(match i,e with
   |0,.normal=>evM n (.go (1::rp)) s
   |_,e=>evM n (.up rp e) s)
  |.loop _=>(match e with
   |.normal=>(match t.lat v rp with
    |some l=>(match eqP (t.lb l).rp rp with|true=>Nq P t g v l s|false=>none)
    |none=>none)
   |e=>evM n (.up rp e) s)
  |.block id _=>(match e with
   |.exit j=>(match Nat.beq j id with|true=>evM n (.up rp .normal) s|false=>evM n (.up rp (.exit j)) s)
   |e=>evM n (.up rp e) s)
  |.cond _ _ _=>evM n (.up rp e) s
  |_=>none)
def evL(n:Nat)(rp:List Nat)(s:TS B):Option (Res B (t.rh v)):=
 match G7 P t v rp with
 |.loop _=>evM P t g act v n (.go (0::rp)) s
 |_=>evM P t g act v n (.inn rp) s
end
abbrev uR(B:Tab)(t:LT):Type 1:=((i:Ix B t)->Option (Bx B t i))->Nat->List Nat->Nat->Oper->TS B->Act B
def EVB(P:Program)(t:LT)(hand:(i:Ix B t)->Option (Bx B t i))(acts:uR B t)(fuel:Nat)(g:(i:Ix B t)->Option (Bx B t i))(i:Ix B t):Option (Bx B t i):=
 match t.hd i.1 with
 |true=>hand i
 |false=>evL P t g (acts g (t.lb i.1).v) (t.lb i.1).v fuel (t.lb i.1).rp ((t.lb i.1).sh.inst (ntF P (t.fn (t.lb i.1).v)) i.2)
end
section
open Go.RowKit
variable{B:Tab}{P:Program}{t:LT}{v:Nat}
def QP(P:Program)(t:LT)(v:Nat)(N:(l:Nat)->Vars B (t.lb l).sh->Prop)(r:Res B (t.rh v)):List Nat->Exit->St->Prop
 | [],e,st=>∃fn,P.funcs[t.fn v]? =some fn/\Dr P fn (Cn (t.rh v) r) (erM (R8 (t.rh v) r)) e st
 |i::rp,e,st=>match G7 P t v rp with
  |.seq _ y=>(match i with|0=>uG P y (QP P t v N r rp) e st|_=>QP P t v N r rp e st)
  |.loop _=>(match e with
   |.normal=>∃l x,(t.lb l).rp=rp/\(t.lb l).v=v/\t.lat v rp=some l/\N l x/\X7 st ((t.lb l).sh.inst (ntF P (t.fn v)) x).er.st
   |e=>QP P t v N r rp e st)
  |.block id _=>Pu id (QP P t v N r rp) e st
  |_=>QP P t v N r rp e st
theorem Lv:∀{l r:List Nat},eqP l r=true->l=r
 | [],[],_=>rfl
 |a::l,b::r,h=>by simp only[eqP,x7]at h;rw[F2 h.1,Lv h.2]
 | [],_::_,h=>by cases h
 |_::_,[],h=>by cases h
section
variable{N N':(l:Nat)->Vars B (t.lb l).sh->Prop}{r:Res B (t.rh v)}
theorem rX{c:Code}{st:St}{Q z:Exit->St->Prop}(h:W P c st Q)(G:∀e st,Q e st->z e st):W P c st z:=λC a w F H=>wp_mono (h C a w F H) λe I w' ⟨st',h1,h2,h3⟩=>⟨st',h1,G e st' h2,h3⟩
theorem Fl(C:∀l x,N l x->N' l x):∀(z:List Nat) (e:Exit) (st:St),QP P t v N r z e st->QP P t v N' r z e st
 | [],e,st,h=>h
 |i::z,e,st,h=>by
  unfold QP at h⊢;split at h
  ·split at h
   ·cases e with
    |normal=>exact rX h (Fl C z)
    |_=>exact Fl C z _ st h
   ·exact Fl C z e st h
  ·split at h
   ·obtain⟨l,x,I,G,K,H,J⟩:=h;exact⟨l,x,I,G,K,C l x H,J⟩
   ·exact Fl C z e st h
  ·rename_i id c L;cases e with
   |exit j=>
    simp only[Pu]at h⊢;split at h
    ·rename_i F;rw[if_pos F];exact Fl C z _ st h
    ·rename_i F;rw[if_neg F];exact Fl C z _ st h
   |_=>exact Fl C z _ st h
  ·exact Fl C z e st h
end
structure QC(P:Program)(t:LT)(v:Nat)(g:(i:Ix B t)->Option (Bx B t i))(N:(l:Nat)->Vars B (t.lb l).sh->Prop)(r:Res B (t.rh v)):Prop where
 n:∀l x (h:(t.lb l).v=v),t.hd l=false->Gb h (g ⟨l,x⟩)=some r->N l x
 w:∀l x (h:(t.lb l).v=v),t.hd l=false->Gb h (g ⟨l,x⟩)=some r->W P (G7 P t v (t.lb l).rp) ((t.lb l).sh.inst (ntF P (t.fn v)) x).er.st (QP P t v N r (t.lb l).rp)
theorem NS{g:(i:Ix B t)->Option (Bx B t i)}{l:Nat}{s:TS B}{r:Res B (t.rh v)}(h:Nq P t g v l s=some r):∃(z:(t.lb l).v=v) (x:Vars B (t.lb l).sh),t.hd l=false/\Gb z (g ⟨l,x⟩)=some r/\X7 s.er.st ((t.lb l).sh.inst (ntF P (t.fn v)) x).er.st:=by
 unfold Nq at h;split at h
 ·rename_i z _;split at h
  ·rename_i x hd C hx;refine⟨z,x,hd,h,?_⟩;rw[<-F2 C];exact a8w hx
  ·cases h
 ·cases h
theorem a1C{c:Code}{st z:St}{Q:Exit->St->Prop}(C:X7 st z)(h:W P c z Q):W P c st Q:=b0P C h
theorem a5F{f:FuncId}{z:Func}(h:P.funcs[f]? =some z):rvF P f=z.results.toList:=by unfold rvF;rw[h]
theorem RH{z:Rh}{f:FuncId}{F:Func}(G:P.funcs[f]? =some F){s:TS B}{x:Res B z}{e:Exit}(H:e=.ret\/e=.normal)(h:goR P f z s=some x):Dr P F (Cn z x) (erM (R8 z x)) e s.er.st:=by
 obtain⟨J,C,I⟩:=a9s h;rw[a5F G]at C;refine a9c I ?_;rcases H with rfl|rfl
 ·exact b1v _ C
 ·exact a91 _ C
theorem OQ{s:TS B}{c:Operand}{b:Bool}(h:s.ev c=.c (.v (.bool b))):zR s c b=s:=by
 cases c with
 |tmp d=>exact Xn h
 |_=>rfl
section
variable{N:(l:Nat)->Vars B (t.lb l).sh->Prop}{r:Res B (t.rh v)}
theorem FJ{z:List Nat}{x y:Code}(C:G7 P t v z=.seq x y):QP P t v N r (0::z)=uG P y (QP P t v N r z):=by
 funext e st
 show(match G7 P t v z with
  |.seq _ y=>uG P y (QP P t v N r z) e st
  |.loop _=>_
  |.block id _=>_
  |_=>_)=_
 rw[C]
theorem YO{z:List Nat}{x y:Code}{i:Nat}(C:G7 P t v z=.seq x y):QP P t v N r ((i+1)::z)=QP P t v N r z:=by
 funext e st
 show(match G7 P t v z with
  |.seq _ y=>QP P t v N r z e st
  |.loop _=>_
  |.block id _=>_
  |_=>_)=_
 rw[C]
theorem BK{z:List Nat}{c:Operand}{x y:Code}{i:Nat}(C:G7 P t v z=.cond c x y):QP P t v N r (i::z)=QP P t v N r z:=by
 funext e st
 unfold QP;rw[C];cases z<;>rfl
theorem QD{z:List Nat}{id:Nat}{x:Code}{i:Nat}(C:G7 P t v z=.block id x):QP P t v N r (i::z)=Pu id (QP P t v N r z):=by
 funext e st
 show(match G7 P t v z with
  |.seq _ y=>_
  |.loop _=>_
  |.block id _=>Pu id (QP P t v N r z) e st
  |_=>_)=_
 rw[C]
theorem UB{z:List Nat}{x:Code}{i:Nat}{st:St}(C:G7 P t v z=.loop x):QP P t v N r (i::z) .normal st=∃l x,(t.lb l).rp=z/\(t.lb l).v=v/\t.lat v z=some l/\N l x/\X7 st ((t.lb l).sh.inst (ntF P (t.fn v)) x).er.st:=by
 show(match G7 P t v z with
  |.seq _ y=>_
  |.loop _=>_
  |.block id _=>_
  |_=>_)=_
 rw[C]
theorem Rm{z:List Nat}{x:Code}{i:Nat}{e:Exit}{st:St}(F:G7 P t v z=.loop x)(C:e≠ .normal):QP P t v N r (i::z) e st=QP P t v N r z e st:=by
 cases e with
 |normal=>exact(C rfl).elim
 |_=>
  show(match G7 P t v z with
   |.seq _ y=>_
   |.loop _=>_
   |.block id _=>_
   |_=>_)=_
  rw[F]
end
section
variable{g:(i:Ix B t)->Option (Bx B t i)}{act:List Nat->Nat->Oper->TS B->Act B}{N:(l:Nat)->Vars B (t.lb l).sh->Prop}{r:Res B (t.rh v)}
theorem CW(I:P.follows .mixedOrders=true)(ha:∀z i o s,A5 P o s (act z i o s))(S:QC P t v g N r){V:Func}(K:P.funcs[t.fn v]? =some V):∀(n:Nat),(∀z s,evM P t g act v n (.go z) s=some r->W P (G7 P t v z) s.er.st (QP P t v N r z))/\(∀z s,evM P t g act v n (.inn z) s=some r->W P (G7 P t v z) s.er.st (QP P t v N r z))/\(∀z e s,evM P t g act v n (.up z e) s=some r->QP P t v N r z e s.er.st)
 |0=>⟨λ_ _ h=>(by cases h),λ_ _ h=>(by cases h),λ_ _ _ h=>(by cases h)⟩
 |n+1=>by
  obtain⟨G,X,F⟩:=CW I ha S K n;refine⟨λz s h=>?_,λz s h=>?_,λz e s h=>?_⟩
  ·unfold evM at h;split at h
   ·rename_i l hl;split at h
    ·rename_i Y;obtain⟨M,x,hd,hx,H⟩:=NS h;have:=S.w l x M hd hx;rw[Lv Y]at this;exact a1C H this
    ·cases h
   ·exact X z s h
  ·unfold evM at h;split at h
   ·rename_i id ab dr C;rw[C];exact b51 I (ha z) h λs' Q=>F z .normal s' Q
   ·rename_i x y C;have h1:=G (0::z) s h;have L:G7 P t v (0::z)=x:=(by show chC (G7 P t v z) 0=x;rw[C];rfl);have e2:=FJ (N:=N) (r:=r) C;rw[L,e2]at h1;rw[C];exact b5s h1
   ·rename_i c x y C;split at h
    ·rename_i b R;have aa:s.er.st.ev c=.v (.bool b):=(by rw[C8,R];rfl);have O:G7 P t v (0::z)=x:=(by show chC (G7 P t v z) 0=x;rw[C];rfl);have L:G7 P t v (1::z)=y:=(by show chC (G7 P t v z) 1=y;rw[C];rfl);rw[C];refine b0D b aa (λht=>?_) (λU=>?_)
     ·subst ht;rw[OQ R]at h;have:=G (0::z) s h;rw[O,BK C]at this;exact this
     ·subst U;rw[OQ R]at h;have:=G (1::z) s h;rw[L,BK C]at this;exact this
    ·cases h
   ·rename_i id x C;have O:G7 P t v (0::z)=x:=(by show chC (G7 P t v z) 0=x;rw[C];rfl);have:=G (0::z) s h;rw[O,QD C]at this;rw[C];exact b25 this
   ·rename_i C;rw[C];exact a6X (F z .normal s h)
   ·rename_i i C;rw[C];exact a9o (F z (.exit i) s h)
   ·rename_i C;rw[C];exact b54 (F z .ret s h)
   ·cases h
  ·cases z with
   |nil=>
    unfold evM at h;split at h
    ·exact⟨V,K,RH K (.inl rfl) h⟩
    ·exact⟨V,K,RH K (.inr rfl) h⟩
    ·cases h
   |cons i z=>
    unfold evM at h;split at h
    ·rename_i x y C;split at h
     ·have L:G7 P t v (1::z)=y:=(by show chC (G7 P t v z) 1=y;rw[C];rfl);have:=G (1::z) s h;rw[L,YO (i:=0) C]at this;rw[FJ C];exact this
     ·rename_i J;have:=F z e s h;cases i with
      |zero=>
       rw[FJ C];cases e with
       |normal=>exact(J rfl rfl).elim
       |_=>exact this
      |succ i=>rw[YO C];exact this
    ·rename_i x C;cases e with
     |normal=>
      rw[UB C]
      replace h:(match t.lat v z with
       |some l=>(match eqP (t.lb l).rp z with|true=>Nq P t g v l s|false=>none)
       |none=>none)=some r:=h
      split at h
      ·rename_i l hl;split at h
       ·rename_i Y;obtain⟨M,x,hd,hx,H⟩:=NS h;exact⟨l,x,Lv Y,M,hl,S.n l x M hd hx,H⟩
       ·cases h
      ·cases h
     |exit j=>rw[Rm C (by simp)];exact F z _ s h
     |goto j=>rw[Rm C (by simp)];exact F z _ s h
     |ret=>rw[Rm C (by simp)];exact F z _ s h
     |panic j=>rw[Rm C (by simp)];exact F z _ s h
     |outgrown=>rw[Rm C (by simp)];exact F z _ s h
    ·rename_i id x C;rw[QD C];split at h
     ·rename_i j;split at h
      ·rename_i Z;show(if j=id then QP P t v N r z .normal s.er.st else _);rw[if_pos (F2 Z)];exact F z .normal s h
      ·rename_i Z;show(if j=id then _ else QP P t v N r z (.exit j) s.er.st);rw[if_neg (Qt Z)];exact F z _ s h
     ·rename_i J;have:=F z e s h;cases e with
      |exit j=>exact(J j rfl).elim
      |_=>exact this
    ·rename_i c x y C;rw[BK C];exact F z e s h
    ·cases h
end
end
section
open Go.RowKit
variable{B:Tab}{P:Program}{t:LT}
def IA(P:Program)(t:LT)(l:Nat)(x:Vars B (t.lb l).sh)(r:Res B (t.rh (t.lb l).v)):Prop:=
 W P (Vm P (t.fn (t.lb l).v)) ((t.lb l).sh.inst (ntF P (t.fn (t.lb l).v)) x).er.st λe st=>∃fn,P.funcs[t.fn (t.lb l).v]? =some fn/\Dr P fn (Cn (t.rh (t.lb l).v) r) (erM (R8 (t.rh (t.lb l).v) r)) e st
def Q1:(l:List (Nat × SV))->SLt B l->List A
 | [],_=>[]
 |p::l,x=>(p.2.inst x.1).er::Q1 l x.2
def Hp(P:Program)(t:LT)(l:Nat)(x:Vars B (t.lb l).sh)(r:Res B (t.rh (t.lb l).v)):Prop:=
 Y7 P (t.fn (t.lb l).v) (Q1 (t.lb l).sh.sl x.1) (erM (U1 (t.lb l).sh x)) (Cn (t.rh (t.lb l).v) r) (erM (R8 (t.rh (t.lb l).v) r))
def Bf(P:Program)(t:LT)(g:(i:Ix B t)->Option (Bx B t i)):Prop:=∀l x r,g ⟨l,x⟩=some r->(t.lb l).rp=[]->IA P t l x r\/Hp P t l x r
section
variable{hand:(i:Ix B t)->Option (Bx B t i)}{acts:uR B t}{fuel:Nat}
def NF(P:Program)(t:LT)(hand:(i:Ix B t)->Option (Bx B t i))(acts:uR B t)(fuel n v:Nat)(r:Res B (t.rh v))(l:Nat)(x:Vars B (t.lb l).sh):Prop:=
 ∃(h:(t.lb l).v=v) (m:Nat),m<=n/\t.hd l=false/\Gb h (P6 (EVB P t hand acts fuel) m ⟨l,x⟩)=some r
theorem MT{l:Nat}{x:Vars B (t.lb l).sh}{v k:Nat}(h:(t.lb l).v=v)(hd:t.hd l=false):Gb h (P6 (EVB P t hand acts fuel) (k+1) ⟨l,x⟩)=evL P t (P6 (EVB P t hand acts fuel) k) (acts (P6 (EVB P t hand acts fuel) k) v) v fuel (t.lb l).rp ((t.lb l).sh.inst (ntF P (t.fn v)) x):=by subst h;show(match t.hd l with|true=>_|false=>_)=_;rw[hd]
theorem LD{l:Nat}{x:Vars B (t.lb l).sh}{v:Nat}{r:Res B (t.rh v)}(h:(t.lb l).v=v)(e:Gb h (P6 (EVB P t hand acts fuel) 0 ⟨l,x⟩)=some r):False:=by subst h;cases e
theorem JV{l:Nat}{x:Vars B (t.lb l).sh}{k:Nat}{r:Res B (t.rh (t.lb l).v)}(hd:t.hd l=true)(e:P6 (EVB P t hand acts fuel) k ⟨l,x⟩=some r):hand ⟨l,x⟩=some r:=by
 cases k with
 |zero=>cases e
 |succ k=>
  replace e:(match t.hd l with|true=>hand ⟨l,x⟩|false=>_)=some r:=e
  rw[hd]at e;exact e
theorem a7P{g:(i:Ix B t)->Option (Bx B t i)}{act:List Nat->Nat->Oper->TS B->Act B}{v:Nat}{z:List Nat}{c:Code}{s:TS B}(C:G7 P t v z=.loop c):evL P t g act v fuel z s=evM P t g act v fuel (.go (0::z)) s:=by unfold evL;rw[C]
theorem b1o{g:(i:Ix B t)->Option (Bx B t i)}{act:List Nat->Nat->Oper->TS B->Act B}{v:Nat}{z:List Nat}{s:TS B}(C:∀c,G7 P t v z≠ .loop c):evL P t g act v fuel z s=evM P t g act v fuel (.inn z) s:=by
 unfold evL;split
 ·rename_i c h;exact(C c h).elim
 ·rfl
theorem a6C(G:P.follows .mixedOrders=true)(U:∀l v,(t.lb l).v=v->t.hd l=false->∃Y,P.funcs[t.fn v]? =some Y)(hh:∀l x r,t.hd l=true->hand ⟨l,x⟩=some r->Hp P t l x r)(Z:∀g,Bf P t g->∀v rp i o s,A5 P o s (acts g v rp i o s)):∀(n:Nat),∀l x v (h:(t.lb l).v=v) (r:Res B (t.rh v)),t.hd l=false->Gb h (P6 (EVB P t hand acts fuel) n ⟨l,x⟩)=some r->W P (G7 P t v (t.lb l).rp) ((t.lb l).sh.inst (ntF P (t.fn v)) x).er.st (QP P t v (NF P t hand acts fuel n v r) r (t.lb l).rp):=by
 intro n
 induction n using Nat.strongRecOn with
 |_ n ih=>
 intro l x v h r hd C;cases n with
 |zero=>exact(LD h C).elim
 |succ m=>
  have F:∀k,k<m+1->Bf P t (P6 (EVB P t hand acts fuel) k):=λk O l x r C I=>by
   cases hd:t.hd l with
   |true=>exact .inr (hh l x r hd (JV hd C))
   |false=>have:=ih k O l x _ rfl r hd C;rw[I]at this;exact .inl this
  have z:∀k,k<m+1->QC P t v (P6 (EVB P t hand acts fuel) k) (NF P t hand acts fuel k v r) r:=λk O=>⟨λl x h hd C=>⟨h,k,l5 _,hd,C⟩,λl x h hd C=>ih k O l x v h r hd C⟩
  obtain⟨Y,X⟩:=U l v h hd;by_cases H:∃c,G7 P t v (t.lb l).rp=.loop c
  ·obtain⟨c,H⟩:=H;rw[H];have:=b4w (P:=P) (σ:=Ix B t) (c:=c) (Q:=QP P t v (NF P t hand acts fuel (m+1) v r) r (t.lb l).rp) (λk i=>k<=m+1/\∃S:(t.lb i.1).v=v,t.hd i.1=false/\(t.lb i.1).rp=(t.lb l).rp/\Gb S (P6 (EVB P t hand acts fuel) k i)=some r) (λi=>((t.lb i.1).sh.inst (ntF P (t.fn v)) i.2).er)
    (λi hi=>LD hi.2.1 hi.2.2.2.2) (λ_ _=>rfl) (λk i hi=>?_) (m+1) ⟨l,x⟩ ⟨l5 _,h,hd,rfl,C⟩
   ·exact this
   ·obtain⟨O,S,V,I,hi⟩:=hi;rw[MT S V,I,a7P H]at hi;have L:k<m+1:=O;have K:=(CW G (Z _ (F k L) v) (z k L) X fuel).1 _ _ hi;have e0:G7 P t v (0::(t.lb l).rp)=c:=(by show chC (G7 P t v (t.lb l).rp) 0=c;rw[H];rfl);rw[e0]at K;refine rX K λe st J=>?_;cases e with
    |normal=>rw[UB H]at J;obtain⟨l',x',M,h3,h4,⟨h5,R,h6,h9,h7⟩,h8⟩:=J;exact⟨R,⟨l',x'⟩,h6,⟨by omega,h5,h9,M,h7⟩,h8⟩
    |_=>rw[Rm H (by simp)]at J;exact Fl (λl x ⟨h,R,K,M⟩=>⟨h,R,by omega,M⟩) _ _ _ J
  ·rw[MT h hd,b1o (λc h=>H ⟨c,h⟩)]at C;have K:=(CW G (Z _ (F m (Nat.lt_succ_self m)) v) (z m (Nat.lt_succ_self m)) X fuel).2.1 _ _ C;exact rX K λe st J=>Fl (λl x ⟨h,R,K,M⟩=>⟨h,R,by omega,M⟩) _ _ _ J
theorem a9a(z:P.follows .mixedOrders=true)(F:∀l v,(t.lb l).v=v->t.hd l=false->∃I,P.funcs[t.fn v]? =some I)(hh:∀l x r,t.hd l=true->hand ⟨l,x⟩=some r->Hp P t l x r)(K:∀g,Bf P t g->∀v H i o s,A5 P o s (acts g v H i o s)):Bf P t (J0 (EVB P t hand acts fuel)):=λl x r J C=>by
 obtain⟨n,G⟩:=uT J;cases hd:t.hd l with
 |true=>exact .inr (hh l x r hd (JV hd G))
 |false=>have:=a6C z F hh K n l x _ rfl r hd G;rw[C]at this;exact .inl this
end
end
section
open Go.RowKit
variable{B:Tab}{P:Program}
def C1.ren(ν:Nat->Nat):C1 B->C1 B
 |.ref i=>.ref (ν i)
 |.ptr i o=>.ptr (ν i) o
 |.ifc t i o=>.ifc t (ν i) o
 |.rptr i p q=>.rptr (ν i) p q
 |.ob i=>.ob (ν i)
 |x=>x
def V2.ren(ν:Nat->Nat):V2 B->V2 B
 |.c x=>.c (x.ren ν)
 |.agg cs=>.agg (cs.map (C1.ren ν))
def TV.ren(ν:Nat->Nat):TV B->TV B
 |.v x=>.v (x.ren ν)
 |.tup cs=>.tup (cs.map (V2.ren ν))
def TB.ren(ν:Nat->Nat):TB B->TB B
 |.box ty cs=>.box ty (cs.map (C1.ren ν))
 |b=>b
theorem C1.ren_er(z:Nat->Nat)(x:C1 B):(x.ren z).er=Ja z x.er:=by cases x<;>rfl
theorem V2.ren_er(z:Nat->Nat)(x:V2 B):(x.ren z).er=Yz z x.er:=by
 cases x with
 |c x=>cases x<;>rfl
 |agg cs=>show A.agg ((cs.map (C1.ren z)).map C1.er)=A.agg ((cs.map C1.er).map (Ja z));rw[List.map_map,List.map_map];congr 1;exact List.map_congr_left λx _=>C1.ren_er z x
theorem TV.ren_er(z:Nat->Nat)(x:TV B):(x.ren z).er=Ed z x.er:=by
 cases x with
 |v x=>
  cases x with
  |c x=>cases x<;>rfl
  |agg cs=>exact V2.ren_er z (.agg cs)
 |tup cs=>show A.tup ((cs.map (V2.ren z)).map V2.er)=A.tup ((cs.map V2.er).map (Yz z));rw[List.map_map,List.map_map];congr 1;exact List.map_congr_left λx _=>V2.ren_er z x
theorem TB.ren_er(z:Nat->Nat)(b:TB B):(b.ren z).er=b.er.ren z:=by
 cases b with
 |box ty cs=>show Blk.box ty ((cs.map (C1.ren z)).map C1.er)=Blk.box ty ((cs.map C1.er).map (Ja z));rw[List.map_map,List.map_map];congr 1;exact List.map_congr_left λx _=>C1.ren_er z x
 |_=>rfl
def Ub(v:IOV):List (Nat × TB B)->List (Nat × Option (TB B))
 | []=>[]
 |p::l=>(J4 v p.1,some (p.2.ren (J4 v)))::Ub v l
def Ol(ms:List (Nat × Option (TB B))):List Nat->List (Nat × Option (TB B))
 | []=>[]
 |j::l=>match Am ms j with|true=>(j,none)::Ol ms l|false=>Ol ms l
def TS.back(s:TS B)(v:IOV)(J:List Nat)(m':List (Nat × TB B)):TS B:=⟨s.n,s.es,Ub v m'++(Ol s.ms J++s.ms)⟩
theorem a0S(v:IOV):∀l:List (Nat × TB B),(Ub v l).map (λp=>(p.1,p.2.map TB.er))=Kk v (erM l)
 | []=>rfl
 |p::l=>by show(J4 v p.1,some (p.2.ren (J4 v)).er)::(Ub v l).map _=(J4 v p.1,some (p.2.er.ren (J4 v)))::Kk v (erM l);rw[a0S v l,TB.ren_er]
theorem FX(s:TS B):∀l:List Nat,(Ol s.ms l).map (λp=>(p.1,p.2.map TB.er))=Dv s.er.ms l
 | []=>rfl
 |j::l=>by
  unfold Ol Dv;rw[Hz];cases Am s.ms j with
  |true=>show(j,none)::(Ol s.ms l).map _=(j,none)::Dv s.er.ms l;rw[FX s l]
  |false=>exact FX s l
theorem a4c(s:TS B)(v:IOV)(J:List Nat)(z:List (Nat × TB B)):(s.back v J z).er=s.er.back v J (erM z):=by show LS.mk _ _ ((Ub v z++(Ol s.ms J++s.ms)).map _)=LS.mk _ _ _;rw[I8,I8,a0S,FX];rfl
theorem a9v{f:FuncId}{args:List A}{m J:List (Nat × Blk)}{r:A}(z:Nz P f args.length=true)(G:Nat.ble (ntF P f) 900=true)(h:W P (Vm P f) (LS.mk (ntF P f) (Fu 0 args) (W5 m)).st λe st=>∃F,P.funcs[f]? =some F/\Dr P F r J e st):Y7 P f args m r J:=by
 unfold Nz at z;split at z
 ·rename_i F C;split at z
  ·rename_i c H;simp only[x7]at z;have I:ntF P f=F.ntmps:=(by unfold ntF;rw[C]);have K:Vm P f=c:=(by unfold Vm;rw[C];simp only[H]);rw[I]at G;rw[K,I]at h;refine a3f C H z.1 (Nat.le_of_ble_eq_true z.2) (Nat.le_of_ble_eq_true G) (rX h λe st ⟨fn',hf',hr⟩=>?_);rw[C]at hf';cases hf';exact hr
  ·cases z
 ·cases z
def slots(i:Nat):List (Nat × SV)->Bool
 | []=>true
 |p::l=>Nat.beq p.1 i&&slots (i+1) l
theorem LN:∀{l:List (Nat × SV)} {i:Nat} (x:SLt B l),slots i l=true->(Jj l x).map (λp=>(p.1,p.2.er))=Fu i (Q1 l x)
 | [],_,_,_=>rfl
 |p::l,i,x,h=>by simp only[slots,x7]at h;show(p.1,(p.2.inst x.1).er)::(Jj l x.2).map _=(i,(p.2.inst x.1).er)::Fu (i+1) (Q1 l x.2);rw[LN x.2 h.2,F2 h.1]
variable{t:LT}
theorem bX{l:Nat}{x:Vars B (t.lb l).sh}{r:Res B (t.rh (t.lb l).v)}(h:IA P t l x r)(F:slots 0 (t.lb l).sh.sl=true)(z:Nz P (t.fn (t.lb l).v) (Q1 (t.lb l).sh.sl x.1).length=true)(C:Nat.ble (ntF P (t.fn (t.lb l).v)) 900=true):Y7 P (t.fn (t.lb l).v) (Q1 (t.lb l).sh.sl x.1) (erM (U1 (t.lb l).sh x)) (Cn (t.rh (t.lb l).v) r) (erM (R8 (t.rh (t.lb l).v) r)):=by
 refine a9v z C ?_;have e:((t.lb l).sh.inst (ntF P (t.fn (t.lb l).v)) x).er=LS.mk (ntF P (t.fn (t.lb l).v)) (Fu 0 (Q1 (t.lb l).sh.sl x.1)) (W5 (erM (U1 (t.lb l).sh x))):=by show LS.mk _ _ ((Uk (U1 (t.lb l).sh x)).map _)=_;rw[YT];congr 1;exact LN x.1 F
 unfold IA at h;rw[e]at h;exact h
end
section
open Go.RowKit
variable{B:Tab}{P:Program}
def V9(J:List Nat):List (Nat × Option (TB B))->List (Nat × Option (TB B))
 | []=>[]
 |p::l=>match D9 J p.1 with|true=>p::V9 J l|false=>V9 J l
theorem RP(J:List Nat)(i:Nat):∀ms:List (Nat × Option (TB B)),lkB (V9 J ms) i=match D9 J i with|true=>lkB ms i|false=>none
 | []=>by show none=_;cases D9 J i<;>rfl
 |p::l=>by
  have z:=RP J i l;obtain⟨a,b⟩:=p;unfold V9;cases h:D9 J a with
  |true=>
   show(match Nat.beq i a with|true=>some b|false=>lkB (V9 J l) i)=(match D9 J i with|true=>(match Nat.beq i a with|true=>some b|false=>lkB l i)|false=>none);cases hi:Nat.beq i a with
   |true=>rw[F2 hi,h]
   |false=>simp only;rw[z]
  |false=>
   simp only;rw[z];show _=(match D9 J i with|true=>(match Nat.beq i a with|true=>some b|false=>lkB l i)|false=>none);cases hi:Nat.beq i a with
   |true=>rw[F2 hi,h]
   |false=>rfl
theorem a8X(J:List Nat)(i:Nat)(ms:List (Nat × Option (TB B))):C4 (V9 J ms) i=match D9 J i with|true=>C4 ms i|false=>none:=by unfold C4;rw[RP];cases D9 J i<;>rfl
theorem jP(J:List Nat)(s:TS B):(λj=>(C4 (V9 J s.ms) j).map TB.er)=G4 J s.er.ms:=by
 funext j
 unfold G4;rw[a8X,R0];cases D9 J j<;>rfl
def Fz(v:CC)(ms:List (Nat × Option (TB B)))(sp:List (Nat × Nat × A8)):Nat->(l:List (Nat × SV))->List (V2 B)->Option (SLt B l)
 |_,[],[]=>some ()
 |i,p::l,a::vs=>(match p.2.pack v ms sp i a,Fz v ms sp (i+1) l vs with|some x,some r=>some (x,r)|_,_=>none)
 |_,_,_=>none
theorem QG{v:IOV}{J:List Nat}{s:TS B}:∀{l:List (Nat × SV)} {i:Nat} {vs:List (V2 B)} {x:SLt B l},Fz v.cc (V9 J s.ms) v.N i l vs=some x->Lc v (G4 J s.er.ms) i (vs.map V2.er)=some (Q1 l x)
 | [],_,[],_,_=>rfl
 | [],_,_::_,_,h=>by cases h
 |_::_,_,[],_,h=>by cases h
 |p::l,i,a::vs,x,h=>by
  replace h:(match p.2.pack v.cc (V9 J s.ms) v.N i a,Fz v.cc (V9 J s.ms) v.N (i+1) l vs with|some x,some r=>some (x,r)|_,_=>none)=some x:=h
  split at h
  ·rename_i y r K G;cases h;have z:=SV.pack_ok K;rw[jP]at z;have F:=QG G;show(match Lw v (G4 J s.er.ms) i a.er,Lc v (G4 J s.er.ms) (i+1) (vs.map V2.er)with|some x,some r=>some (x::r)|_,_=>none)=some ((p.2.inst y).er::Q1 l r);have H:Lw v (G4 J s.er.ms) i a.er=some (p.2.inst y).er:=by
    cases a with
    |agg cs=>show(match Gk v (G4 J s.er.ms) v.N i 0 (cs.map C1.er)with|some r=>some (A.agg r)|none=>none)=_;rw[AK];exact z
    |c c=>have I:Lw v (G4 J s.er.ms) i c.er=ioL v (G4 J s.er.ms) (D5 v.N i 0) c.er:=(by cases c<;>rfl);have C:cv2 v.cc (G4 J s.er.ms) v.N i c.er=cvL v.cc (G4 J s.er.ms) (D5 v.N i 0) c.er:=(by cases c<;>rfl);show Lw v (G4 J s.er.ms) i c.er=_;rw[I,SB,<-C];exact z
   rw[H,F]
  ·cases h
theorem NB{v:CC}{ms:List (Nat × Option (TB B))}{M:List (Nat × Blk)}(C:Src v ms M){z:List (Nat × Nat × A8)}:∀{l:List (Nat × SV)} {i:Nat} {vs:List (V2 B)} {x:SLt B l},Fz v ms z i l vs=some x->S5 M (iW l x)
 | [],_,_,_,_=>λp F=>by cases F
 |_::_,_,[],_,h=>by cases h
 |p::l,i,a::vs,x,h=>by
  replace h:(match p.2.pack v ms z i a,Fz v ms z (i+1) l vs with|some x,some r=>some (x,r)|_,_=>none)=some x:=h
  split at h
  ·rename_i y r H G;cases h;exact(SV.pack_in C H).app (NB C G)
  ·cases h
def Jw(v:CC)(ms:List (Nat × Option (TB B)))(sp:List (Nat × Nat × A8)):(l:List MB)->List (Nat × Nat)->Option (BXt B l)
 | [],[]=>some ()
 |m::l,p::js=>(match Nat.beq p.2 m.id,m.pack v ms sp (C4 ms p.1),Jw v ms sp l js with|true,some x,some r=>some (x,r)|_,_,_=>none)
 |_,_=>none
theorem WG{v:IOV}{J:List Nat}{s:TS B}:∀{l:List MB} {z:List (Nat × Nat)} {x:BXt B l},Jw v.cc (V9 J s.ms) v.M l z=some x->ioB v (G4 J s.er.ms) z=some (erM (S0 l x))
 | [],[],_,_=>rfl
 | [],_::_,_,h=>by cases h
 |_::_,[],_,h=>by cases h
 |m::l,p::z,x,h=>by
  replace h:(match Nat.beq p.2 m.id,m.pack v.cc (V9 J s.ms) v.M (C4 (V9 J s.ms) p.1),Jw v.cc (V9 J s.ms) v.M l z with|true,some x,some r=>some (x,r)|_,_,_=>none)=some x:=h
  split at h
  ·rename_i y r F I H;cases h;obtain⟨C,cs,L,O,K,G⟩:=MB.pack_ok I;rw[jP]at G;have Q:G4 J s.er.ms p.1=(C4 (V9 J s.ms) p.1).map TB.er:=(congrFun (jP J s) p.1).symm;obtain⟨j,i⟩:=p;have hi:i=m.id:=F2 F;subst hi;show(match G4 J s.er.ms j with
    |some (.box C cells)=>(match Gk v (G4 J s.er.ms) v.M m.id 0 cells,ioB v (G4 J s.er.ms) z with|some r,some rest=>some ((m.id,Blk.box C r)::rest)|_,_=>none)
    |_=>none)=some ((m.id,(m.inst y).er)::erM (S0 l r))
   rw[Q,O,WG H,K];show(match Gk v (G4 J s.er.ms) v.M m.id 0 (cs.map C1.er),some (erM (S0 l r))with|some r,some rest=>some ((m.id,Blk.box C r)::rest)|_,_=>none)=_;rw[AK,G]
  ·cases h
theorem a0E{v:CC}{ms:List (Nat × Option (TB B))}{M:List (Nat × Blk)}(F:Src v ms M){z:List (Nat × Nat × A8)}:∀{l:List MB} {C:List (Nat × Nat)} {x:BXt B l},Jw v ms z l C=some x->S5 M (Vf l x)
 | [],_,_,_=>λp G=>by cases G
 |_::_,[],_,h=>by cases h
 |m::l,p::C,x,h=>by
  replace h:(match Nat.beq p.2 m.id,m.pack v ms z (C4 ms p.1),Jw v ms z l C with|true,some x,some r=>some (x,r)|_,_,_=>none)=some x:=h
  split at h
  ·rename_i y r J I H;cases h;exact(MB.pack_in F I).app (a0E F H)
  ·cases h
theorem cC:∀l:List (Nat × Nat × Nat),ioZ l=N8 l
 | []=>rfl
 |(i,e,k)::l=>by show(i,Blk.row e k [])::ioZ l=(i,Blk.row e k [])::N8 l;rw[cC l]
theorem wL:∀{R:List (Nat × Nat)} {G:Nat->Option Blk} {C:List (Nat × Blk)} {j i:Nat} {b:Blk},ioR G R=some C->(j,i)∈R->G j=some b->(i,b)∈C
 |(a,c)::R,G,C,j,i,b,h,z,hb=>by
  unfold ioR at h;rcases D0.1 z with H|z
  ·cases H;rw[hb]at h;cases b with
   |box=>cases h
   |row e k xs=>
    simp only at h;split at h
    ·cases h;exact I2
    ·cases h
   |obj od=>
    simp only at h;split at h
    ·cases h;exact I2
    ·cases h
  ·split at h
   ·split at h
    ·rename_i rest F;cases h;exact J1 _ (wL F z hb)
    ·cases h
   ·split at h
    ·rename_i rest F;cases h;exact J1 _ (wL F z hb)
    ·cases h
   ·cases h
theorem CD:∀{R:List (Nat × Nat)} {F:Nat->Option Blk} {z:List (Nat × Blk)},ioR F R=some z->z.map (·.1)=R.map (·.2)
 | [],_,_,h=>by cases h;rfl
 |(j,i)::R,F,z,h=>by
  unfold ioR at h;split at h
  ·split at h
   ·rename_i rest C;cases h;show i::rest.map _=i::R.map _;rw[CD C]
   ·cases h
  ·split at h
   ·rename_i rest C;cases h;show i::rest.map _=i::R.map _;rw[CD C]
   ·cases h
  ·cases h
end
section
open Go.RowKit
variable{B:Tab}{P:Program}{t:LT}
def FQ(rh:Rh)(x:Res B rh):TV B:=
 match Jz rh.rs x.1 with
 | [y]=>.v y
 |l=>.tup l
theorem b36(C:Rh)(x:Res B C):(FQ C x).er=Cn C x:=by
 unfold FQ Cn
 match Jz C.rs x.1 with
 | []=>rfl
 | [y]=>rfl
 |y::z::l=>rfl
def bC:UV->C1 B->List (Nat × Nat)
 |.ptr id _,.ptr j _=>[(j,id)]
 |.ifc _ id _,.ifc _ j _=>[(j,id)]
 |_,_=>[]
def bV:SV->V2 B->List (Nat × Nat)
 |.one u,.c c=>bC u c
 |_,_=>[]
def bAs:List (Nat × SV)->List (V2 B)->List (Nat × Nat)
 |p::l,a::vs=>bV p.2 a++bAs l vs
 |_,_=>[]
def hAs(B:Tab):List (Nat × SV)->List (V2 B)->Hn
 |p::l,a::vs=>(hV B p.1 p.2 a).add (hAs B l vs)
 |_,_=>h0
def hMc(s:TS B)(j:Nat):MB->Hn
 |.box id _ l=>(match C4 s.ms j with|some (.box _ cs)=>(hL B id 0 l cs).inM|_=>h0)
 |.st id _ i own base=>(match C4 s.ms j with|some (.box _ cs)=>(hSt B id own base 0 (B.lv i) cs).inM|_=>h0)
def hBc(s:TS B):List MB->List (Nat × Nat)->Hn
 |m::l,p::js=>(hMc s p.1 m).add (hBc s l js)
 |_,_=>h0
def Sg(d:Option Nat)(b:List (Nat × Nat)):Nat->List Nat->List (Nat × Nat)
 |_,[]=>[]
 |n,i::l=>(match Xc b i with|some j=>(i,j)::Sg d b n l|none=>(i,1000000+1000*(d.getD 0)+n)::Sg d b (n+1) l)
def Qq:List (TV B)->Option (List (V2 B))
 | []=>some []
 |.v x::l=>(match Qq l with|some r=>some (x::r)|none=>none)
 |.tup _::_=>none
theorem lL:∀{l:List (TV B)} {vs:List (V2 B)},Qq l=some vs->vs.map V2.er=l.map TV.er
 | [],_,h=>by cases h;rfl
 |.v x::l,vs,h=>by
  replace h:(match Qq l with|some r=>some (x::r)|none=>none)=some vs:=h
  split at h
  ·rename_i r z;cases h;show x.er::r.map _=x.er::l.map _;rw[lL z]
  ·cases h
 |.tup _::_,_,h=>by cases h
def SV.ids:(l:List D)->SV->List Nat
 |_,.one (.own id _ _)=>[id]
 |_,.one _=>[]
 |_,.agg l=>l.flatMap λu=>match u with|.own id _ _=>[id]|_=>[]
 |_,.st i own base=>own.map λp=>base+p.1
def Cu(h:Hn)(b V:List (Nat × Nat)):IOV:=⟨b,h.R,h.F,h.Z,h.N,h.M,V⟩
def xP(t:LT)(fin:TS B->Act B)(o:Oper)(s:TS B)(l:Nat)(h:Hn)(b:List (Nat × Nat))(J:List Nat)(M0:List (Nat × Blk))(r:Res B (t.rh (t.lb l).v)):Act B:=
 match Mo (Cn (t.rh (t.lb l).v) r)&&Zb (Cu h b (Sg o.dst b 0 ((R8 (t.rh (t.lb l).v) r).map (·.1)))) s.er o.dst M0 (erM (R8 (t.rh (t.lb l).v) r))with
 |true=>fin ((s.back (Cu h b (Sg o.dst b 0 ((R8 (t.rh (t.lb l).v) r).map (·.1)))) J (R8 (t.rh (t.lb l).v) r)).put o.dst ((FQ (t.rh (t.lb l).v) r).ren (J4 (Cu h b (Sg o.dst b 0 ((R8 (t.rh (t.lb l).v) r).map (·.1)))))))
 |false=>.no
def bP(P:Program)(t:LT)(fin:TS B->Act B)(g:(i:Ix B t)->Option (Bx B t i))(o:Oper)(s:TS B)(f:FuncId)(l:Nat)(vs:List (V2 B))(h:Hn)(b:List (Nat × Nat))(J:List Nat):Act B:=
 match Fz (Cu h b []).cc (V9 J s.ms) h.N 0 (t.lb l).sh.sl vs,Jw (Cu h b []).cc (V9 J s.ms) h.M (t.lb l).sh.bx b with
 |some a,some bb=>
  (match ioR (G4 J s.er.ms) h.R with
  |some rs=>
   (match(eqP (t.lb l).rp []&&Nat.beq (t.fn (t.lb l).v) f)&&(slots 0 (t.lb l).sh.sl&&(Nz P f (Q1 (t.lb l).sh.sl a).length&&(Nat.ble (ntF P f) 900&&((Ey (vs.map V2.er)||((vs.map V2.er).flatMap Z4).isEmpty)&&
     (W9 (Cu h b []) J (S7 (erM (S0 (t.lb l).sh.bx bb)++rs++ioZ h.Z))&&(Ax ((t.lb l).sh.bx.map MB.id++(h.R.map (·.2)++h.Z.map (·.1)))&&(Ax ((U1 (t.lb l).sh (a,bb)).map (·.1))&&
      AU ((t.lb l).sh.bx.map MB.id++(h.R.map (·.2)++h.Z.map (·.1))) ((U1 (t.lb l).sh (a,bb)).map (·.1)))))))))
    with
   |true=>.bnd (g ⟨l,(a,bb)⟩) λr=>xP t fin o s l h b J (S7 (erM (S0 (t.lb l).sh.bx bb)++rs++ioZ h.Z)) r
   |false=>.no)
  |none=>.no)
 |_,_=>.no
def Ih(P:Program)(t:LT)(g:(i:Ix B t)->Option (Bx B t i))(o:Oper)(s:TS B)(c:Call)(f:FuncId)(l:Nat):Act B:=
 match Qq (c.args.toList.map s.ev)with
 |some vs=>bP P t (λs'=>.st s' true) g o s f l vs ((hAs B (t.lb l).sh.sl vs).add (hBc s (t.lb l).sh.bx (bAs (t.lb l).sh.sl vs))) (bAs (t.lb l).sh.sl vs) (H6 s.er.st (vs.map V2.er))
 |none=>.no
end
section
open Go.RowKit
variable{B:Tab}{P:Program}{t:LT}
def b5d(P:Program)(f:FuncId)(d:Option Nat)(s:LS)(evs:List A)(s':LS):Prop:=
 ∃v cargs bs rs r m',Y7 P f cargs (S7 (bs++rs++ioZ v.Z)) r m'/\Lc v (G4 (H6 s.st evs) s.ms) 0 evs=some cargs/\ioB v (G4 (H6 s.st evs) s.ms) v.B=some bs/\ioR (G4 (H6 s.st evs) s.ms) v.R=some rs/\
  Mo r=true/\(Ey evs||(evs.flatMap Z4).isEmpty)=true/\W9 v (H6 s.st evs) (S7 (bs++rs++ioZ v.Z))=true/\Zb v s d (S7 (bs++rs++ioZ v.Z)) m'=true/\s'=(s.back v (H6 s.st evs) m').put d (Ed (J4 v) r)
theorem a21{g:(i:Ix B t)->Option (Bx B t i)}(Q:Bf P t g){o:Oper}{s:TS B}{f:FuncId}{l:Nat}{H:TS B->Act B}{vs:List (V2 B)}{h:Hn}{b:List (Nat × Nat)}(L:∀s',b5d P f o.dst s.er (vs.map V2.er) s'.er->A5 P o s (H s')):A5 P o s (bP P t H g o s f l vs h b (H6 s.er.st (vs.map V2.er))):=by
  generalize M:H6 s.er.st (vs.map V2.er)=J;unfold bP;split
  ·rename_i a F ha hb;split
   ·rename_i K I;split
    ·rename_i hk;intro r hr;show A5 P o s (xP t H o s l h b J _ r);unfold xP;split
     ·rename_i z;simp only[x7,Bool.or_eq_true,List.isEmpty_iff]at hk z;obtain⟨⟨e1,e2⟩,e3,e4,e5,e6,e7,e8,e9,ab⟩:=hk;have hf:t.fn (t.lb l).v=f:=F2 e2;have X:=(Q l (a,F) r hr (Lv e1)).elim (λQ=>bX Q e3 (by rw[hf];exact e4) (by rw[hf];exact e5)) id;rw[hf]at X;generalize hV:Sg o.dst b 0 ((R8 (t.rh (t.lb l).v) r).map (·.1))=V at z⊢;have aa:ioB (Cu h b V) (G4 J s.er.ms) (Cu h b V).B=some (erM (S0 (t.lb l).sh.bx F)):=WG (v:=Cu h b V) hb;have ac:J6 (erM (U1 (t.lb l).sh (a,F))) (S7 (erM (S0 (t.lb l).sh.bx F)++K++ioZ h.Z)):=by
       have hR:K.map (·.1)=h.R.map (·.2):=CD I;have G:Src (Cu h b []).cc (V9 J s.ms) (K++N8 h.Z):=⟨λj i bl Q hg=>A3.2 (.inl (wL I Q (by
        have:=congrFun (jP J s) j;rw[<-this];simp only[hg,G6]))),λp hp=>A3.2 (.inr hp)⟩
       have S:=NB G ha;have Y:=a0E G hb;have O:((erM (S0 (t.lb l).sh.bx F)++K++ioZ h.Z).map (·.1)).Nodup:=by have:=Fv e8;rw[I8,I8,Cf,Mu,hR,cC,Mi,G5];exact this
       have h1:J6 (erM (S0 (t.lb l).sh.bx F)++K++ioZ h.Z) (erM (U1 (t.lb l).sh (a,F))):=by
        refine J6.of O ?_ ?_ ?_
        ·rw[Cf];exact Fv e9
        ·intro p hp;obtain⟨q,C,rfl⟩:=List.mem_map.1 hp;rcases A3.1 C with C|C
         ·exact A3.2 (.inl (A3.2 (.inl (List.mem_map.2 ⟨q,C,rfl⟩))))
         ·have:(q.1,q.2.er)∈K++N8 h.Z:=by
           rcases A3.1 C with C|C
           ·exact S q C
           ·exact Y q C
          rw[cC,G5];exact A3.2 (.inr this)
        ·intro i hi;rw[Cf];refine Cq (List.all_eq_true.1 ab i ?_);rw[I8,I8,Cf,Mu,hR,cC,Mi,G5]at hi;exact hi
       exact h1.symm.trans (J6.perm (((Uw _).map _).nodup_iff.2 O) (Uw _)).symm
      have U:=a5V X ac ⟨rfl,λ_=>Iff.rfl⟩;refine L _ ⟨Cu h b V,Q1 (t.lb l).sh.sl a,erM (S0 (t.lb l).sh.bx F),K,Cn (t.rh (t.lb l).v) r,erM (R8 (t.rh (t.lb l).v) r),U,?_,?_,?_,z.1,?_,?_,?_,?_⟩
      ·rw[M];exact QG (v:=Cu h b V) ha
      ·rw[M];exact aa
      ·rw[M];exact I
      ·simp only[Bool.or_eq_true,List.isEmpty_iff];exact e6
      ·rw[M];exact e7
      ·exact z.2
      ·rw[V5,a4c,TV.ren_er,b36,M]
     ·trivial
    ·trivial
   ·trivial
  ·trivial
theorem a3H{g:(i:Ix B t)->Option (Bx B t i)}(Y:Bf P t g){o:Oper}{s:TS B}{c:Call}{f:FuncId}{l:Nat}(H:o.op=.call c)(J:c.callee=.value (.func f)):A5 P o s (Ih P t g o s c f l):=by
 unfold Ih;split
 ·rename_i vs F;have C:c.args.toList.map s.er.st.ev=vs.map V2.er:=by rw[lL F,List.map_map];exact List.map_congr_left λx _=>C8 s x
  refine a21 Y λs' h=>?_;obtain⟨v,z,L,U,r,I,G,O,K,X,M,R,h6,Q,V⟩:=h;refine⟨.io v r I,[Y7 P f z (S7 (L++U++ioZ v.Z)) r I],?_,⟨G,trivial⟩,λ_=>?_,rfl⟩
  ·unfold P4;simp only[H,J];rw[C];have S:(Mo r&&(Ey (vs.map V2.er)||((vs.map V2.er).flatMap Z4).isEmpty))=true:=(by rw[M,R];rfl);rw[O,K,X,S];simp only;rw[h6,Q,V]
  ·unfold Z9;simp only[H,J]
 ·trivial
end
section
open Go.RowKit
variable{B:Tab}{P:Program}{t:LT}
def kOf:Option A8->Option Nat
 |some (.sl k)=>some k
 |_=>none
def Ui:List (Nat × Nat × A8)->Option (List (Nat × Nat × Nat))
 | []=>some []
 |(i,j,.sl k)::l=>(match Ui l with|some r=>some ((i,j,k)::r)|none=>none)
 |(_,_,.row _)::_=>none
theorem DC:∀{C:List (Nat × Nat × A8)} {z:List (Nat × Nat × Nat)},Ui C=some z->∀i j,Gv z i j=kOf (D5 C i j)
 | [],z,h,i,j=>by cases h;rfl
 |(a,b,.row k)::l,z,h,i,j=>by cases h
 |(a,b,.sl k)::l,z,h,i,j=>by
  replace h:(match Ui l with|some r=>some ((a,b,k)::r)|none=>none)=some z:=h
  split at h
  ·rename_i r F;cases h;unfold Gv D5;cases Nat.beq a i&&Nat.beq b j with
   |true=>rfl
   |false=>exact DC F i j
  ·cases h
def ccP(F:List Nat):CC:=⟨[],F,[],λ_=>none⟩
theorem KS{F:List Nat}{s:LS}{C:Option A8}{a z:A}(h:cvL (ccP F) (A6 s.ms) C a=some z)(J:Bw z=true):Gc (kOf C) (H8 s.st a)=z:=by
 cases a with
 |t x=>
  by_cases hx:x=.v (.slice none 0 0)
  ·subst hx;cases C with
   |none=>cases h;rfl
   |some w=>
    cases w with
    |sl k=>cases h;rfl
    |row id=>cases h
  ·rw[dS hx]at h;cases h;show Gc (kOf C) (.t x)=.t x;unfold Gc;split
   ·rename_i k G I;injection I with e3
    exact(hx e3).elim
   ·rfl
 |ref j=>
  replace h:(match D9 F j,A6 s.ms j with|true,some (.row e k xs)=>some (A.t (.sl k xs))|_,_=>none)=some z:=h
  split at h
  ·rename_i e k xs K H;cases h;have G:H8 s.st (.ref j)=.t (.sl k xs):=by show(match A6 s.ms j with|some (.row _ k xs)=>A.t (.sl k xs)|_=>.ref j)=_;rw[H]
   rw[G];cases kOf C<;>rfl
  ·cases h
 |ptr j o=>cases h
 |ifc t j o=>cases h
 |rptr j p q=>cases h
 |ob j=>cases h
 |fel x=>cases h;cases J
 |agg l=>cases h
 |tup l=>cases h
 |dead=>cases h
theorem LI{F:List Nat}{s:LS}{C:List (Nat × Nat × A8)}{z:List (Nat × Nat × Nat)}(G:∀i j,Gv z i j=kOf (D5 C i j)){i:Nat}:∀{l r:List A} {j:Nat},V3 (ccP F) (A6 s.ms) C i j l=some r->r.all Bw=true->Qv z i j (l.map (H8 s.st))=r
 | [],r,j,h,_=>by cases h;rfl
 |a::l,r,j,h,hf=>by
  unfold V3 at h;split at h
  ·rename_i x J I H;cases h;simp only[List.all_cons,x7]at hf;show Gc (Gv z i j) (H8 s.st a)::Qv z i (j+1) (l.map (H8 s.st))=_;rw[G,KS I hf.1,LI G H hf.2]
  ·cases h
theorem a6D{z:List (Nat × Nat × Nat)}{i:Nat}{x:A}(h:∀cs,x≠ .agg cs):Pq z i x=Gc (Gv z i 0) x:=by
 cases x with
 |agg cs=>exact(h cs rfl).elim
 |_=>rfl
theorem a6z(s:LS)(c:C1 B)(cs:List A):H8 s.st c.er≠ .agg cs:=by
 cases c with
 |ref j=>show(match A6 s.ms j with|some (.row _ k xs)=>A.t (.sl k xs)|_=>.ref j)≠_;split<;>(intro h;cases h)
 |_=>intro h;cases h
theorem HJ{F:List Nat}{s:TS B}{G:List (Nat × Nat × A8)}{H:List (Nat × Nat × Nat)}(M:∀i j,Gv H i j=kOf (D5 G i j)):∀{l:List (Nat × SV)} {i:Nat} {vs:List (V2 B)} {x:SLt B l},Fz (ccP F) s.ms G i l vs=some x->(Q1 l x).all E2=true->Z6 H i (vs.map λa=>y7 s.er.st a.er)=Q1 l x
 | [],_,[],_,_,_=>rfl
 | [],_,_::_,_,h,_=>by cases h
 |_::_,_,[],_,h,_=>by cases h
 |p::l,i,a::vs,x,h,J=>by
  replace h:(match p.2.pack (ccP F) s.ms G i a,Fz (ccP F) s.ms G (i+1) l vs with|some x,some r=>some (x,r)|_,_=>none)=some x:=h
  split at h
  ·rename_i y r V R;cases h
   replace J:(((p.2.inst y).er::Q1 l r).all E2)=true:=J
   simp only[List.all_cons,x7]at J;have I:=SV.pack_ok V;have Y:(λj=>(C4 s.ms j).map TB.er)=A6 s.er.ms:=(by funext j;exact(R0 s j).symm);rw[Y]at I;show Pq H i (y7 s.er.st a.er)::Z6 H (i+1) (vs.map λa=>y7 s.er.st a.er)=(p.2.inst y).er::Q1 l r;rw[HJ M R J.2];congr 1;cases a with
   |agg cs=>
    replace I:(match V3 (ccP F) (A6 s.er.ms) G i 0 (cs.map C1.er)with|some r=>some (A.agg r)|none=>none)=some (p.2.inst y).er:=I
    split at I
    ·rename_i U L;have O:=Option.some.inj I;have C:=J.1;rw[<-O]at C;rw[<-O];show A.agg (Qv H i 0 ((cs.map C1.er).map (H8 s.er.st)))=A.agg U;rw[LI M L C]
    ·cases I
   |c c=>
    have Q:cv2 (ccP F) (A6 s.er.ms) G i c.er=cvL (ccP F) (A6 s.er.ms) (D5 G i 0) c.er:=(by cases c<;>rfl);have z:cvL (ccP F) (A6 s.er.ms) (D5 G i 0) c.er=some (p.2.inst y).er:=Q.symm.trans I;have L:Bw (p.2.inst y).er=true:=by
     have C:=J.1;cases K:(p.2.inst y).er with
     |agg l=>
      rw[K]at z;exfalso;unfold cvL at z;cases c with
      |d x=>
       simp only[C1.er]at z;split at z
       ·cases z
       ·split at z<;>cases z
       ·cases z
      |_=>first|(simp only[C1.er]at z;split at z<;>first|cases z|(split at z<;>cases z))|cases z
     |_=>rw[K]at C;exact C
    have S:=KS z L;have X:Pq H i (y7 s.er.st c.er)=Gc (Gv H i 0) (H8 s.er.st c.er):=by have:y7 s.er.st c.er=H8 s.er.st c.er:=(by cases c<;>rfl);rw[this];exact a6D (a6z s.er c)
    show Pq H i (y7 s.er.st c.er)=_;rw[X,M,S]
  ·cases h
def Ie{α:Type}:List α->Bool
 | []=>true
 |_=>false
theorem bL{α:Type}{l:List α}(h:Ie l=true):l=[]:=by cases l<;>first|rfl|cases h
def Ue:(u:UV)->UVt B u->C1 B
 |.own _ _ d,x=>.d (.l d x)
 |.dat d,x=>.d (Q0 d x)
 |.lit v,_=>.d (.t (.v v))
 |.ptr i o,_=>.ptr i o
 |.map i _ _,_=>.ob i
 |.fpd i,x=>.d (.fp i x 0)
 |.ifc t i o,_=>.ifc t i o
 |.ifi t k,x=>.d (.t (.v (.iface t (.int k x))))
def fI:(l:List UV)->ULt B l->List (C1 B)
 | [],_=>[]
 |u::l,x=>Ue u x.1::fI l x.2
def JC:(w:SV)->SVt B w->V2 B
 |.one u,x=>.c (Ue u x)
 |.agg l,x=>.agg (fI l x)
 |.st i _ _,x=>.agg ((Nx (B.lv i) (B.cells i x)).map C1.d)
def Xr:(l:List SV)->RLt B l->List (V2 B)
 | [],_=>[]
 |w::l,x=>JC w x.1::Xr l x.2
def VI:D->Bool
 |.map _ _=>false
 |_=>true
def Qi(B:Tab):SV->Bool
 |.st i _ _=>(B.lv i).all VI
 |_=>true
def T7(st:St)(l:List (Nat × TB B)):Prop:=∀id e d xs,(id,TB.row e d xs)∈l->st.mem id=some (.row e (sz B d) (xs.map (enc B d)))
theorem T7.app{st:St}{l r:List (Nat × TB B)}(h:T7 st (l++r)):T7 st l/\T7 st r:=
 ⟨λid e d xs z=>h id e d xs (A3.2 (.inl z)),λid e d xs z=>h id e d xs (A3.2 (.inr z))⟩
theorem VF{st:St}{id e:Nat}{d:D}{xs:List (E B d)}(h:T7 st [(id,TB.row e d xs)]):H8 st (.ref id)=.t (.sl (sz B d) (xs.map (enc B d))):=by have:=h id e d xs (K4.2 rfl);show(match st.mem id with|some (.row _ k xs)=>A.t (.sl k xs)|_=>.ref id)=_;rw[this]
theorem RZ{st:St}:∀(u:UV) (x:UVt B u),T7 st (u.rows x)->H8 st (u.inst x).er=(Ue u x).er
 |.own id e d,x,h=>VF h
 |.dat d,x,_=>rfl
 |.lit v,_,_=>rfl
 |.ptr i o,_,_=>rfl
 |.ifc t i o,_,_=>rfl
 |.ifi t k,_,_=>rfl
 |.map i _ _,_,_=>rfl
 |.fpd _,_,_=>rfl
theorem LH{st:St}:∀(l:List UV) (x:ULt B l),T7 st (Sc l x)->((Np l x).map C1.er).map (H8 st)=(fI l x).map C1.er
 | [],_,_=>rfl
 |u::l,x,h=>by obtain⟨C,z⟩:=T7.app (show T7 st (u.rows x.1++Sc l x.2)from h);show H8 st (u.inst x.1).er::((Np l x.2).map C1.er).map (H8 st)=(Ue u x.1).er::(fI l x.2).map C1.er;rw[RZ u x.1 C,LH l x.2 z]
theorem a0q{st:St}{own:List (Nat × TypeId)}{z:Nat}:∀(l:List D) (c:Nat) (x:Tup B.toTab0 l),l.all VI=true->T7 st (stR own z c l x)->((stC own z c l x).map C1.er).map (H8 st)=((Nx l x).map C1.d).map C1.er
 | [],_,_,_,_=>rfl
 |d::l,c,x,hm,h=>by
  obtain⟨C,G⟩:=T7.app (show T7 st (xY own z c d x.1++stR own z (c+1) l x.2)from h);simp only[List.all_cons,x7]at hm;show H8 st (qU own z c d x.1).er::((stC own z (c+1) l x.2).map C1.er).map (H8 st)=(C1.d (Q0 d x.1)).er::((Nx l x.2).map C1.d).map C1.er;rw[a0q l (c+1) x.2 hm.2 G];congr 1;cases d with
  |sl k=>
   replace C:T7 st (match Ew own c with|some e=>[(z+c,TB.row e k x.1)]|none=>[]):=C
   show H8 st (match Ew own c with|some _=>.ref (z+c)|none=>.d (.l k x.1):C1 B).er=_;split
   ·rename_i e F;rw[F]at C;exact VF C
   ·rfl
  |map k d=>cases hm.1
  |_=>rfl
theorem b2d{st:St}(w:SV)(x:SVt B w)(z:Qi B w=true)(h:T7 st (w.rows x)):y7 st (w.inst x).er=(JC w x).er:=by
 cases w with
 |one u=>have C:=RZ u x h;show y7 st (u.inst x).er=(Ue u x).er;rw[<-C];cases u<;>rfl
 |agg l=>exact congrArg A.agg (LH l x h)
 |st i own base=>exact congrArg A.agg (a0q _ 0 _ z h)
theorem a0B{st:St}:∀(l:List SV) (x:RLt B l),l.all (Qi B)=true->T7 st (Bi l x)->((Jz l x).map V2.er).map (y7 st)=(Xr l x).map V2.er
 | [],_,_,_=>rfl
 |w::l,x,hm,h=>by obtain⟨C,z⟩:=T7.app (show T7 st (w.rows x.1++Bi l x.2)from h);simp only[List.all_cons,x7]at hm;show y7 st (w.inst x.1).er::((Jz l x.2).map V2.er).map (y7 st)=(JC w x.1).er::(Xr l x.2).map V2.er;rw[b2d w x.1 hm.1 C,a0B l x.2 hm.2 z]
def Ap(rh:Rh)(x:Res B rh):TV B:=
 match Xr rh.rs x.1 with
 | [y]=>.v y
 |l=>.tup l
theorem b3K(st:St):∀l:List A,(∀a∈l,∀cs,a≠ .tup cs)->Vx st (Mh l)=Mh (l.map (y7 st))
 | [],_=>rfl
 | [y],h=>by
  show Vx st y=y7 st y;cases y with
  |tup cs=>exact(h _ I2 cs rfl).elim
  |_=>rfl
 |y::z::l,_=>rfl
theorem AC{C:Rh}{x:Res B C}{st:St}(F:C.rs.all (Qi B)=true)(h:T7 st (Bi C.rs x.1)):Vx st (Cn C x)=(Ap C x).er:=by
 unfold Cn;rw[b3K,a0B C.rs x.1 F h]
 ·unfold Ap
  match Xr C.rs x.1 with
  | []=>rfl
  | [y]=>rfl
  |y::z::l=>rfl
 ·intro a G cs e;obtain⟨v,H,rfl⟩:=List.mem_map.1 G;cases v with
  |c c=>cases c<;>cases e
  |agg l=>cases e
theorem FU{l:List (Nat × TB B)}(C:Ax (l.map (·.1))=true):T7 (mst (erM l)) l:=λid e d xs z=>by show look (erM l) id=_;refine Ri (x:=Blk.row e (sz B d) (xs.map (enc B d))) (by rw[Cf];exact Fv C) ?_;exact List.mem_map.2 ⟨_,z,rfl⟩
theorem EP:∀{z:Rh},Ie z.bx=true->∀x:Res B z,R8 z x=Bi z.rs x.1
 |⟨rs,[]⟩,_,x=>by show []++(Bi rs x.1++[])=_;rw[T4];rfl
 |⟨_,_::_⟩,h,_=>nomatch h
def BJ(t:LT)(fin:Bool->TS B->Act B)(o:Oper)(s:TS B)(l:Nat)(refs:List Nat)(r:Res B (t.rh (t.lb l).v)):Act B:=
 match Ie (t.rh (t.lb l).v).bx&&(Ax ((Bi (t.rh (t.lb l).v).rs r.1).map (·.1))&&((t.rh (t.lb l).v).rs.all (Qi B)&&(dK (Ap (t.rh (t.lb l).v) r).er&&(Ie refs||R6 (Ap (t.rh (t.lb l).v) r).er))))with
 |true=>fin (R6 (Ap (t.rh (t.lb l).v) r).er) (s.put o.dst (Ap (t.rh (t.lb l).v) r))
 |false=>.no
def gQ(P:Program)(t:LT)(fin:Bool->TS B->Act B)(g:(i:Ix B t)->Option (Bx B t i))(o:Oper)(s:TS B)(f:FuncId)(l:Nat)(vs:List (V2 B))(h:Hn):Act B:=
 match Fz (ccP h.F) s.ms h.N 0 (t.lb l).sh.sl vs,Jw (ccP h.F) s.ms h.M (t.lb l).sh.bx [],Ui h.N with
 |some a,some bb,some _=>
  (match(eqP (t.lb l).rp []&&Nat.beq (t.fn (t.lb l).v) f)&&(slots 0 (t.lb l).sh.sl&&(Nz P f (Q1 (t.lb l).sh.sl a).length&&(Nat.ble (ntF P f) 900&&(Ie (U1 (t.lb l).sh (a,bb))&&
    ((Q1 (t.lb l).sh.sl a).all E2&&(vs.map λx=>y7 s.er.st x.er).all E2)))))with
  |true=>.bnd (g ⟨l,(a,bb)⟩) λr=>BJ t fin o s l ((vs.map V2.er).flatMap E9) r
  |false=>.no)
 |_,_,_=>.no
def Nh(P:Program)(t:LT)(g:(i:Ix B t)->Option (Bx B t i))(o:Oper)(s:TS B)(c:Call)(f:FuncId)(l:Nat):Act B:=
 match Qq (c.args.toList.map s.ev)with
 |some vs=>gQ P t (λsc s'=>.st s' sc) g o s f l vs (hAs B (t.lb l).sh.sl vs)
 |none=>.no
theorem a16{g:(i:Ix B t)->Option (Bx B t i)}(M:Bf P t g){o:Oper}{s:TS B}{f:FuncId}{l:Nat}{z:Bool->TS B->Act B}{vs:List (V2 B)}{h:Hn}(G:∀(I:TV B) (J:List (Nat × Nat × Nat)),FnP P f (Z6 J 0 (vs.map λx=>y7 s.er.st x.er)) I.er->(vs.map λx=>y7 s.er.st x.er).all E2=true->((vs.map V2.er).flatMap E9=[]\/R6 I.er=true)->A5 P o s (z (R6 I.er) (s.put o.dst I))):A5 P o s (gQ P t z g o s f l vs h):=by
 unfold gQ;split
 ·rename_i a V J ha hb L;split
  ·rename_i Q;intro r hr;show A5 P o s (BJ t z o s l _ r);unfold BJ;split
   ·rename_i F;simp only[x7,Bool.or_eq_true]at Q F;obtain⟨⟨e1,e2⟩,e3,e4,S,X,U,e8⟩:=Q;obtain⟨Z,R,k4,k2,Y⟩:=F;have K:t.fn (t.lb l).v=f:=F2 e2;have H:=(M l (a,V) r hr (Lv e1)).elim (λM=>bX M e3 (by rw[K];exact e4) (by rw[K];exact S)) id;have O:R8 (t.rh (t.lb l).v) r=Bi (t.rh (t.lb l).v).rs r.1:=EP Z r;rw[K,bL X,O]at H;have hP:FnP P f (Q1 (t.lb l).sh.sl a) (Ap (t.rh (t.lb l).v) r).er:=EB H (AC k4 (FU R)) k2;have C:=HJ (DC L) ha U;exact G _ J (by rw[C];exact hP) e8 (Y.imp_left bL)
   ·trivial
  ·trivial
 ·trivial
theorem a6O{g:(i:Ix B t)->Option (Bx B t i)}(Q:Bf P t g){o:Oper}{s:TS B}{c:Call}{f:FuncId}{l:Nat}(J:o.op=.call c)(K:c.callee=.value (.func f)):A5 P o s (Nh P t g o s c f l):=by
 unfold Nh;split
 ·rename_i vs I;have z:c.args.toList.map s.er.st.ev=vs.map V2.er:=by rw[lL I,List.map_map];exact List.map_congr_left λx _=>C8 s x
  refine a16 Q λH G R O C=>?_;have F:(c.args.toList.map λx=>y7 s.er.st (s.er.st.ev x))=vs.map λx=>y7 s.er.st x.er:=by have:=congrArg (List.map (y7 s.er.st)) z;rw[List.map_map,List.map_map]at this;exact this
  refine⟨.call G H.er,[FnP P f (Z6 G 0 (vs.map λx=>y7 s.er.st x.er)) H.er],?_,⟨R,trivial⟩,λM=>?_,rfl⟩
  ·show C6 P o (.call G H.er) s.er=_;unfold C6;simp only[J,K];rw[F,z,O];rw[V5];rcases C with C|C
   ·rw[C]
   ·rw[C];split
    ·rfl
    ·rfl
    ·rename_i S L;exact(L rfl rfl).elim
  ·unfold Z9;simp only[J,K];exact M
 ·trivial
end
section
open Go.RowKit
variable{B:Tab}{P:Program}{t:LT}
def UM(ms:List (Nat × Option (TB B))):C1 B->Option (TC B)
 |.d x=>some x
 |.ref j=>(match C4 ms j with|some (.row _ d xs)=>some (.l d xs)|_=>none)
 |.ob j=>(match C4 ms j with|some (.map k d es)=>some (.m k d es)|_=>none)
 |_=>none
def nA(ms:List (Nat × Option (TB B))):List (C1 B)->Option (List (TC B))
 | []=>some []
 |c::l=>match UM ms c,nA ms l with|some x,some r=>some (x::r)|_,_=>none
theorem WR{s:TS B}:∀{cs:List (C1 B)} {ts:List (TC B)},nA s.ms cs=some ts->Cr s.er.st (cs.map C1.er)=some (ts.map TC.er)
 | [],_,h=>by cases h;rfl
 |c::cs,ts,h=>by
  unfold nA at h;split at h
  ·rename_i x r z F;cases h;have C:He s.er.st c.er=some x.er:=by
    unfold UM at z;split at z
    ·cases z;rfl
    ·rename_i j;split at z
     ·rename_i e d xs G;cases z;show(match A6 s.er.ms j with|some (.row _ k xs)=>some (T.sl k xs)|_=>none)=_;rw[R0,G];rfl
     ·cases z
    ·rename_i j;split at z
     ·cases z;rfl
     ·cases z
    ·cases z
   show(match He s.er.st c.er,Cr s.er.st (cs.map C1.er)with|some x,some l=>some (x::l)|_,_=>none)=_;rw[C,WR F];rfl
  ·cases h
def FY(B:Tab)(ms:List (Nat × Option (TB B))):SV->V2 B->Option (V2 B)
 |.one (.fpd i),.c (.ptr id 0)=>(match C4 ms id with
  |some (.box _ cs)=>(match nA ms cs with
   |some ts=>(match Qm (B.lv i) ts with|some x=>some (.c (.d (.fp i (B.put i x) 0)))|none=>none)
   |none=>none)
  |_=>none)
 |_,.c (.ptr _ _)=>none
 |_,.agg cs=>(match cs.all λc=>match c with|.ptr _ _=>false|_=>true with|true=>some (.agg cs)|false=>none)
 |_,a=>some a
def kE(ms:List (Nat × Option (TB B))):List (Nat × SV)->List (V2 B)->Option (List (V2 B))
 | [],[]=>some []
 |p::l,a::vs=>match FY B ms p.2 a,kE ms l vs with|some x,some r=>some (x::r)|_,_=>none
 |_,_=>none
theorem KW{st:St}{c:C1 B}(h:∀i o,c≠ .ptr i o):Bm st c.er=H8 st c.er:=by
 cases c with
 |ptr i o=>exact(h i o rfl).elim
 |_=>rfl
theorem a0Y{s:TS B}{w:SV}{a z:V2 B}(h:FY B s.ms w a=some z):T6 s.er.st a.er=y7 s.er.st z.er:=by
 unfold FY at h;split at h
 ·rename_i i id;split at h
  ·rename_i O cs G;split at h
   ·rename_i ts F;split at h
    ·rename_i x hx;cases h;show(match A6 s.er.ms id with|some (.box _ cs)=>(match Cr s.er.st (cs.drop 0)with|some ts=>A.t (.fp ts)|none=>.ptr id 0)|_=>.ptr id 0)=A.t (.fp ((B.enc i (B.put i x)).drop 0));rw[R0,G];show(match Cr s.er.st (cs.map C1.er)with|some ts=>A.t (.fp ts)|none=>.ptr id 0)=_;rw[WR F,W3,B.ok i x,AB hx]
    ·cases h
   ·cases h
  ·cases h
 ·cases h
 ·rename_i cs;split at h
  ·rename_i H;cases h;show A.agg ((cs.map C1.er).map (Bm s.er.st))=A.agg ((cs.map C1.er).map (H8 s.er.st));rw[List.map_map,List.map_map];congr 1;refine List.map_congr_left λc L=>KW λi o e=>?_;have:=List.all_eq_true.1 H c L;rw[e]at this;cases this
  ·cases h
 ·rename_i h0 I M;cases h;cases a with
  |agg cs=>exact(I cs rfl).elim
  |c c=>have C:∀i o,c≠ .ptr i o:=λi o e=>h0 i o (by rw[e]);have K:T6 s.er.st c.er=Bm s.er.st c.er:=(by cases c<;>rfl);have J:y7 s.er.st c.er=H8 s.er.st c.er:=(by cases c<;>rfl);show T6 s.er.st c.er=y7 s.er.st c.er;rw[K,J,KW C]
theorem QL{s:TS B}:∀{l:List (Nat × SV)} {vs z:List (V2 B)},kE s.ms l vs=some z->(vs.map λa=>T6 s.er.st a.er)=z.map λa=>y7 s.er.st a.er
 | [],[],_,h=>by cases h;rfl
 | [],_::_,_,h=>by cases h
 |_::_,[],_,h=>by cases h
 |p::l,a::vs,z,h=>by
  unfold kE at h;split at h
  ·rename_i x r F C;cases h;show T6 s.er.st a.er::_=y7 s.er.st x.er::_;rw[a0Y F,QL C]
  ·cases h
def BH(t:LT)(o:Oper)(s:TS B)(l:Nat)(r:Res B (t.rh (t.lb l).v)):Act B:=
 match Ie (t.rh (t.lb l).v).bx&&(Ax ((Bi (t.rh (t.lb l).v).rs r.1).map (·.1))&&((t.rh (t.lb l).v).rs.all (Qi B)&&(dK (Ap (t.rh (t.lb l).v) r).er&&R6 (Ap (t.rh (t.lb l).v) r).er)))with
 |true=>.lo (s.put o.dst (Ap (t.rh (t.lb l).v) r))
 |false=>.no
def xO(P:Program)(t:LT)(g:(i:Ix B t)->Option (Bx B t i))(o:Oper)(s:TS B)(f:FuncId)(l:Nat)(vs:List (V2 B))(h:Hn):Act B:=
 match Fz (ccP h.F) s.ms h.N 0 (t.lb l).sh.sl vs,Jw (ccP h.F) s.ms h.M (t.lb l).sh.bx [],Ui h.N with
 |some a,some bb,some _=>
  (match(eqP (t.lb l).rp []&&Nat.beq (t.fn (t.lb l).v) f)&&(slots 0 (t.lb l).sh.sl&&(Nz P f (Q1 (t.lb l).sh.sl a).length&&(Nat.ble (ntF P f) 900&&(Ie (U1 (t.lb l).sh (a,bb))&&
    ((Q1 (t.lb l).sh.sl a).all E2&&(vs.map λx=>y7 s.er.st x.er).all E2)))))with
  |true=>.bnd (g ⟨l,(a,bb)⟩) λr=>BH t o s l r
  |false=>.no)
 |_,_,_=>.no
def Le(P:Program)(t:LT)(g:(i:Ix B t)->Option (Bx B t i))(o:Oper)(s:TS B)(c:Call)(f:FuncId)(l:Nat):Act B:=
 match Qq (c.args.toList.map s.ev)with
 |some vs=>(match kE s.ms (t.lb l).sh.sl vs with
  |some zs=>xO P t g o s f l zs (hAs B (t.lb l).sh.sl zs)
  |none=>.no)
 |none=>.no
theorem a8N{g:(i:Ix B t)->Option (Bx B t i)}(L:Bf P t g){o:Oper}{s:TS B}{c:Call}{f:FuncId}{l:Nat}(U:o.op=.call c)(V:c.callee=.value (.func f)):A5 P o s (Le P t g o s c f l):=by
 unfold Le;split
 ·rename_i M O;split
  ·rename_i vs K;have H:c.args.toList.map s.er.st.ev=M.map V2.er:=by rw[lL O,List.map_map];exact List.map_congr_left λx _=>C8 s x
   have C:(c.args.toList.map λx=>T6 s.er.st (s.er.st.ev x))=vs.map λx=>y7 s.er.st x.er:=by have:=congrArg (List.map (T6 s.er.st)) H;rw[List.map_map,List.map_map]at this;exact this.trans (QL K)
   generalize hAs B (t.lb l).sh.sl vs=h;unfold xO;split
   ·rename_i a bb R ha hb J;split
    ·rename_i S;intro r hr;show A5 P o s (BH t o s l r);unfold BH;split
     ·rename_i F;simp only[x7]at S F;obtain⟨⟨e1,e2⟩,e3,e4,Y,e6,Z,e8⟩:=S;obtain⟨k0,X,k4,k2,k3⟩:=F;have I:t.fn (t.lb l).v=f:=F2 e2;have G:=(L l (a,bb) r hr (Lv e1)).elim (λL=>bX L e3 (by rw[I];exact e4) (by rw[I];exact Y)) id;have Q:R8 (t.rh (t.lb l).v) r=Bi (t.rh (t.lb l).v).rs r.1:=EP k0 r;rw[I,bL e6,Q]at G;have hP:FnP P f (Q1 (t.lb l).sh.sl a) (Ap (t.rh (t.lb l).v) r).er:=EB G (AC k4 (FU X)) k2;have z:=HJ (DC J) ha Z;refine⟨R,(Ap (t.rh (t.lb l).v) r).er,[FnP P f (Z6 R 0 (vs.map λx=>y7 s.er.st x.er)) (Ap (t.rh (t.lb l).v) r).er],?_,⟨by rw[z];exact hP,trivial⟩,?_⟩
      ·unfold P4;simp only[U,V];rw[C,e8,k3,V5];rfl
      ·unfold Z9;simp only[U,V]
     ·trivial
    ·trivial
   ·trivial
  ·trivial
 ·trivial
end
end
end Go.Proofs.YtihbbcealnnpiaaGreatDoor

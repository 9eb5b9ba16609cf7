/- Parts of the proof. -/
import Derived.Test.YtihbbcealnnpiaaGreatDoorHmXI
set_option linter.unusedVariables false
namespace Go.Proofs.YtihbbcealnnpiaaGreatDoor
section
section
open Go.RowKit
variable{B:Tab}{P:Program}
def h0:Hn:=⟨[],[],[],[],[]⟩
def Hn.add(a b:Hn):Hn:=⟨a.R++b.R,a.F++b.F,a.Z++b.Z,a.N++b.N,a.M++b.M⟩
def Hn.inM(a:Hn):Hn:=⟨a.R,a.F,a.Z,[],a.N⟩
def hC(B:Tab)(t j:Nat):UV→C1 B→Hn
 |.own id _ _,.ref k=>⟨[(k,id)],[],[],[],[]⟩
 |.own id e d,.d (.t (.v (.slice none 0 0)))=>⟨[],[],[(id,e,sz B d)],[(t,j,.row id)],[]⟩
 |.map id _ _,.ob k=>⟨[(k,id)],[],[],[],[]⟩
 |.dat (.sl _),.ref k=>⟨[],[k],[],[],[]⟩
 |.dat (.sl k),.d (.t (.v (.slice none 0 0)))=>⟨[],[],[],[(t,j,.sl (sz B k))],[]⟩
 |_,_=>h0
def hL(B:Tab)(t:Nat):Nat→List UV→List (C1 B)→Hn
 |j,u::l,c::cs=>(hC B t j u c).add (hL B t (j+1) l cs)
 |_,_,_=>h0
def hSt(B:Tab)(t:Nat)(own:List (Nat × TypeId))(base:Nat):Nat→List D→List (C1 B)→Hn
 |c,d::l,y::cs=>(match d with
  |.sl k=>(match Bw own c with|some e=>hC B t c (.own (base+c) e k) y|none=>hC B t c (.dat (.sl k)) y)
  |.map k d=>hC B t c (.map (base+c) k d) y
  |_=>h0).add (hSt B t own base (c+1) l cs)
 |_,_,_=>h0
def hV(B:Tab)(t:Nat):SV→V2 B→Hn
 |.one u,.c c=>hC B t 0 u c
 |.agg l,.agg cs=>hL B t 0 l cs
 |.st i own base,.agg cs=>hSt B t own base 0 (B.lv i) cs
 |_,_=>h0
def hSl(s:TS B):List (Nat × SV)→Hn
 | []=>h0
 |p::l=>(match lkT s.es p.1 with|.v a=>hV B p.1 p.2 a|_=>h0).add (hSl s l)
def hMb(s:TS B):MB→Hn
 |.box id _ l=>(match A9 s.ms id with|some (.box _ cs)=>(hL B id 0 l cs).inM|_=>h0)
 |.st id _ i own base=>(match A9 s.ms id with|some (.box _ cs)=>(hSt B id own base 0 (B.lv i) cs).inM|_=>h0)
def hBx(s:TS B):List MB→Hn
 | []=>h0
 |m::l=>(hMb s m).add (hBx s l)
def a4h(sh:Sh)(s:TS B):Hn:=(hSl s sh.sl).add (hBx s sh.bx)
def hRl(B:Tab):Nat→List SV→List (V2 B)→Hn
 |i,w::l,a::vs=>(hV B i w a).add (hRl B (i+1) l vs)
 |_,_,_=>h0
def a50(P:Program)(f:FuncId)(rh:Rh)(s:TS B):Hn:=(match Sr P s (rvF P f)with|some l=>hRl B 0 rh.rs l|none=>h0).add (hBx s rh.bx)
def goS(sh:Sh)(s:TS B):Option (Vars B sh):=BU sh (a4h sh s) s
def goR(P:Program)(f:FuncId)(rh:Rh)(s:TS B):Option (Res B rh):=yM P f rh (a50 P f rh s) s
theorem a6F{sh:Sh}{s:TS B}{x:Vars B sh}(h:goS sh s=some x):S0 s.er.st (sh.inst s.n x).er.st:=a5a h
end
section
open Go.RowKit
variable{B:Tab}{P:Program}
structure Lb where
 v:Nat
 rp:List Nat
 sh:Sh
structure LT where
 lb:Nat→Lb
 fn:Nat→FuncId
 rh:Nat→Rh
 lat:Nat→List Nat→Option Nat
 hd:Nat→Bool
 hz:Nat→List Nat→Nat→List Nat
 hm:Nat→List Nat→Nat→Nat
abbrev Ix(B:Tab)(t:LT):Type:=Σ l:Nat,Vars B (t.lb l).sh
abbrev Bx(B:Tab)(t:LT):Ix B t→Type:=fun i=>Res B (t.rh (t.lb i.1).v)
def Cv{B:Tab}{t:LT}{a b:Nat}(h:a=b)(x:Option (Res B (t.rh a))):Option (Res B (t.rh b)):=h▸x
inductive Md where
 |go(rp:List Nat)
 |inn(rp:List Nat)
 |up(rp:List Nat)(e:Exit)
def chC:Code→Nat→Code
 |.seq a _,0=>a
 |.seq _ b,1=>b
 |.cond _ a _,0=>a
 |.cond _ _ b,1=>b
 |.block _ b,0=>b
 |.loop b,0=>b
 |_,_=>.skip
section
variable(P)(t:LT)(g:(i:Ix B t)→Option (Bx B t i))(act:List Nat→Nat→Oper→TS B→Act B)(v:Nat)
def Kg(l:Nat)(s:TS B):Option (Res B (t.rh v)):=
 match Nat.decEq (t.lb l).v v with
 |.isTrue h=>(match t.hd l,Nat.beq s.n (ntF P (t.fn v)),goS (t.lb l).sh s with|false,true,some x=>Cv h (g ⟨l,x⟩)|_,_,_=>none)
 |.isFalse _=>none
def wP(s:TS B)(c:Operand)(b:Bool):TS B:=match c with|.tmp d=>s.setS d (.c (.v (.bool b)))|_=>s
def E7:List Nat→Code
 | []=>Sb P (t.fn v)
 |i::rp=>chC (E7 rp) i
def eqP:List Nat→List Nat→Bool
 | [],[]=>true
 |a::l,b::r=>Nat.beq a b&&eqP l r
 |_,_=>false
def evM:Nat→Md→TS B→Option (Res B (t.rh v))
 |0,_,_=>none
 |n+1,.go rp,s=>(match t.lat v rp with
  |some l=>(match eqP (t.lb l).rp rp with|true=>Kg P t g v l s|false=>none)
  |none=>evM n (.inn rp) s)
 |n+1,.inn rp,s=>(match E7 P t v rp with
  |.region id ops dr=>Xf dr (t.hz v rp) (act rp) ops s fun s'=>evM n (.up rp .normal) s'
  |.seq _ _=>evM n (.go (0::rp)) s
  |.cond c _ _=>(match s.ev c with
   |.v (.c (.d (.t (.v (.bool b)))))=>cond b (evM n (.go (0::rp)) (wP s c true)) (evM n (.go (1::rp)) (wP s c false))
   |_=>none)
  |.block _ _=>evM n (.go (0::rp)) s
  |.skip=>evM n (.up rp .normal) s
  |.exit i=>evM n (.up rp (.exit i)) s
  |.ret=>evM n (.up rp .ret) s
  |_=>none)
 |n+1,.up [] e,s=>(match e with
  |.ret=>goR P (t.fn v) (t.rh v) s
  |.normal=>goR P (t.fn v) (t.rh v) s
  |_=>none)
 |n+1,.up (i::rp) e,s=>(match E7 P t v rp with
  |.seq _ _=>(match i,e with
   |0,.normal=>evM n (.go (1::rp)) s
   |_,e=>evM n (.up rp e) s)
  |.loop _=>(match e with
   |.normal=>(match t.lat v rp with
    |some l=>(match eqP (t.lb l).rp rp with|true=>Kg P t g v l s|false=>none)
    |none=>none)
   |e=>evM n (.up rp e) s)
  |.block id _=>(match e with
   |.exit j=>(match Nat.beq j id with|true=>evM n (.up rp .normal) s|false=>evM n (.up rp (.exit j)) s)
   |e=>evM n (.up rp e) s)
  |.cond _ _ _=>evM n (.up rp e) s
  |_=>none)
def evL(n:Nat)(rp:List Nat)(s:TS B):Option (Res B (t.rh v)):=
 match E7 P t v rp with
 |.loop _=>evM P t g act v n (.go (0::rp)) s
 |_=>evM P t g act v n (.inn rp) s
end
abbrev rO(B:Tab)(t:LT):Type 1:=((i:Ix B t)→Option (Bx B t i))→Nat→List Nat→Nat→Oper→TS B→Act B
def EVB(P:Program)(t:LT)(hand:(i:Ix B t)→Option (Bx B t i))(acts:rO B t)(fuel:Nat)(g:(i:Ix B t)→Option (Bx B t i))(i:Ix B t):Option (Bx B t i):=
 match t.hd i.1 with
 |true=>hand i
 |false=>evL P t g (acts g (t.lb i.1).v) (t.lb i.1).v fuel (t.lb i.1).rp ((t.lb i.1).sh.inst (ntF P (t.fn (t.lb i.1).v)) i.2)
end
section
open Go.RowKit
variable{B:Tab}{P:Program}{t:LT}{v:Nat}
def QP(P:Program)(t:LT)(v:Nat)(N:(l:Nat)→Vars B (t.lb l).sh→Prop)(r:Res B (t.rh v)):List Nat→Exit→St→Prop
 | [],e,st=>∃fn,P.funcs[t.fn v]? =some fn∧Aw P fn (Z4 (t.rh v) r) (erM (O6 (t.rh v) r)) e st
 |i::rp,e,st=>match E7 P t v rp with
  |.seq _ y=>(match i with|0=>rF P y (QP P t v N r rp) e st|_=>QP P t v N r rp e st)
  |.loop _=>(match e with
   |.normal=>∃l x,(t.lb l).rp=rp∧(t.lb l).v=v∧t.lat v rp=some l∧N l x∧S0 st ((t.lb l).sh.inst (ntF P (t.fn v)) x).er.st
   |e=>QP P t v N r rp e st)
  |.block id _=>Mh id (QP P t v N r rp) e st
  |_=>QP P t v N r rp e st
theorem Ik:∀{l r:List Nat},eqP l r=true→l=r
 | [],[],_=>rfl
 |a::l,b::r,h=>by simp only[eqP,w8]at h;rw[D2 h.1,Ik h.2]
 | [],_::_,h=>by cases h
 |_::_,[],h=>by cases h
section
variable{N N':(l:Nat)→Vars B (t.lb l).sh→Prop}{r:Res B (t.rh v)}
theorem oU{c:Code}{st:St}{Q Q':Exit→St→Prop}(h:W P c st Q)(hQ:∀e st,Q e st→Q' e st):W P c st Q':=fun C a w hP hs=>wp_mono (h C a w hP hs) fun e a' w' ⟨st',h1,h2,h3⟩=>⟨st',h1,hQ e st' h2,h3⟩
theorem Cj(hN:∀l x,N l x→N' l x):∀(rp:List Nat) (e:Exit) (st:St),QP P t v N r rp e st→QP P t v N' r rp e st
 | [],e,st,h=>h
 |i::rp,e,st,h=>by
  unfold QP at h⊢;split at h
  ·split at h
   ·cases e with
    |normal=>exact oU h (Cj hN rp)
    |_=>exact Cj hN rp _ st h
   ·exact Cj hN rp e st h
  ·split at h
   ·obtain⟨l,x,h1,h2,h3,h4,h5⟩:=h;exact⟨l,x,h1,h2,h3,hN l x h4,h5⟩
   ·exact Cj hN rp e st h
  ·rename_i id c hc;cases e with
   |exit j=>
    simp only[Mh]at h⊢;split at h
    ·rename_i hj;rw[if_pos hj];exact Cj hN rp _ st h
    ·rename_i hj;rw[if_neg hj];exact Cj hN rp _ st h
   |_=>exact Cj hN rp _ st h
  ·exact Cj hN rp e st h
end
structure MQ(P:Program)(t:LT)(v:Nat)(g:(i:Ix B t)→Option (Bx B t i))(N:(l:Nat)→Vars B (t.lb l).sh→Prop)(r:Res B (t.rh v)):Prop where
 n:∀l x (h:(t.lb l).v=v),t.hd l=false→Cv h (g ⟨l,x⟩)=some r→N l x
 w:∀l x (h:(t.lb l).v=v),t.hd l=false→Cv h (g ⟨l,x⟩)=some r→W P (E7 P t v (t.lb l).rp) ((t.lb l).sh.inst (ntF P (t.fn v)) x).er.st (QP P t v N r (t.lb l).rp)
theorem KH{g:(i:Ix B t)→Option (Bx B t i)}{l:Nat}{s:TS B}{r:Res B (t.rh v)}(h:Kg P t g v l s=some r):∃(hv:(t.lb l).v=v) (x:Vars B (t.lb l).sh),t.hd l=false∧Cv hv (g ⟨l,x⟩)=some r∧S0 s.er.st ((t.lb l).sh.inst (ntF P (t.fn v)) x).er.st:=by
 unfold Kg at h;split at h
 ·rename_i hv _;split at h
  ·rename_i x hd hn hx;refine⟨hv,x,hd,h,?_⟩;rw[←D2 hn];exact a6F hx
  ·cases h
 ·cases h
theorem a0c{c:Code}{st st':St}{Q:Exit→St→Prop}(hf:S0 st st')(h:W P c st' Q):W P c st Q:=a8J hf h
theorem a33{f:FuncId}{fn:Func}(h:P.funcs[f]? =some fn):rvF P f=fn.results.toList:=by unfold rvF;rw[h]
theorem NV{rh:Rh}{f:FuncId}{fn:Func}(hf:P.funcs[f]? =some fn){s:TS B}{x:Res B rh}{e:Exit}(he:e=.ret∨e=.normal)(h:goR P f rh s=some x):Aw P fn (Z4 rh x) (erM (O6 rh x)) e s.er.st:=by
 obtain⟨m',h1,h2⟩:=a7v h;rw[a33 hf]at h1;refine a7i h2 ?_;rcases he with rfl|rfl
 ·exact a9j _ h1
 ·exact a71 _ h1
theorem LG{s:TS B}{c:Operand}{b:Bool}(h:s.ev c=.c (.v (.bool b))):wP s c b=s:=by
 cases c with
 |tmp d=>exact Uk h
 |_=>rfl
section
variable{N:(l:Nat)→Vars B (t.lb l).sh→Prop}{r:Res B (t.rh v)}
theorem CD{rp:List Nat}{x y:Code}(hc:E7 P t v rp=.seq x y):QP P t v N r (0::rp)=rF P y (QP P t v N r rp):=by
 funext e st
 show(match E7 P t v rp with
  |.seq _ y=>rF P y (QP P t v N r rp) e st
  |.loop _=>_
  |.block id _=>_
  |_=>_)=_
 rw[hc]
theorem VD{rp:List Nat}{x y:Code}{i:Nat}(hc:E7 P t v rp=.seq x y):QP P t v N r ((i+1)::rp)=QP P t v N r rp:=by
 funext e st
 show(match E7 P t v rp with
  |.seq _ y=>QP P t v N r rp e st
  |.loop _=>_
  |.block id _=>_
  |_=>_)=_
 rw[hc]
theorem yG{rp:List Nat}{c:Operand}{x y:Code}{i:Nat}(hc:E7 P t v rp=.cond c x y):QP P t v N r (i::rp)=QP P t v N r rp:=by
 funext e st
 unfold QP;rw[hc];cases rp<;>rfl
theorem MR{rp:List Nat}{id:Nat}{x:Code}{i:Nat}(hc:E7 P t v rp=.block id x):QP P t v N r (i::rp)=Mh id (QP P t v N r rp):=by
 funext e st
 show(match E7 P t v rp with
  |.seq _ y=>_
  |.loop _=>_
  |.block id _=>Mh id (QP P t v N r rp) e st
  |_=>_)=_
 rw[hc]
theorem QN{rp:List Nat}{x:Code}{i:Nat}{st:St}(hc:E7 P t v rp=.loop x):QP P t v N r (i::rp) .normal st=∃l x,(t.lb l).rp=rp∧(t.lb l).v=v∧t.lat v rp=some l∧N l x∧S0 st ((t.lb l).sh.inst (ntF P (t.fn v)) x).er.st:=by
 show(match E7 P t v rp with
  |.seq _ y=>_
  |.loop _=>_
  |.block id _=>_
  |_=>_)=_
 rw[hc]
theorem Nz{rp:List Nat}{x:Code}{i:Nat}{e:Exit}{st:St}(hc:E7 P t v rp=.loop x)(he:e≠ .normal):QP P t v N r (i::rp) e st=QP P t v N r rp e st:=by
 cases e with
 |normal=>exact(he rfl).elim
 |_=>
  show(match E7 P t v rp with
   |.seq _ y=>_
   |.loop _=>_
   |.block id _=>_
   |_=>_)=_
  rw[hc]
end
section
variable{g:(i:Ix B t)→Option (Bx B t i)}{act:List Nat→Nat→Oper→TS B→Act B}{N:(l:Nat)→Vars B (t.lb l).sh→Prop}{r:Res B (t.rh v)}
theorem zN(hmix:P.follows .mixedOrders=true)(ha:∀rp i o s,v6 P o s (act rp i o s))(hk:MQ P t v g N r){fn:Func}(hf:P.funcs[t.fn v]? =some fn):∀(n:Nat),(∀rp s,evM P t g act v n (.go rp) s=some r→W P (E7 P t v rp) s.er.st (QP P t v N r rp))∧(∀rp s,evM P t g act v n (.inn rp) s=some r→W P (E7 P t v rp) s.er.st (QP P t v N r rp))∧(∀rp e s,evM P t g act v n (.up rp e) s=some r→QP P t v N r rp e s.er.st)
 |0=>⟨fun _ _ h=>(by cases h),fun _ _ h=>(by cases h),fun _ _ _ h=>(by cases h)⟩
 |n+1=>by
  obtain⟨ih1,ih2,ih3⟩:=zN hmix ha hk hf n;refine⟨fun rp s h=>?_,fun rp s h=>?_,fun rp e s h=>?_⟩
  ·unfold evM at h;split at h
   ·rename_i l hl;split at h
    ·rename_i he;obtain⟨hv,x,hd,hx,hfit⟩:=KH h;have:=hk.w l x hv hd hx;rw[Ik he]at this;exact a0c hfit this
    ·cases h
   ·exact ih2 rp s h
  ·unfold evM at h;split at h
   ·rename_i id ops dr hc;rw[hc];exact b3w hmix (ha rp) h fun s' hs'=>ih3 rp .normal s' hs'
   ·rename_i x y hc;have h1:=ih1 (0::rp) s h;have e1:E7 P t v (0::rp)=x:=(by show chC (E7 P t v rp) 0=x;rw[hc];rfl);have e2:=CD (N:=N) (r:=r) hc;rw[e1,e2]at h1;rw[hc];exact b2Z h1
   ·rename_i c x y hc;split at h
    ·rename_i b hb;have hcv:s.er.st.ev c=.v (.bool b):=(by rw[A1,hb];rfl);have e0:E7 P t v (0::rp)=x:=(by show chC (E7 P t v rp) 0=x;rw[hc];rfl);have e1:E7 P t v (1::rp)=y:=(by show chC (E7 P t v rp) 1=y;rw[hc];rfl);rw[hc];refine a8x b hcv (fun ht=>?_) (fun hf'=>?_)
     ·subst ht;rw[LG hb]at h;have:=ih1 (0::rp) s h;rw[e0,yG hc]at this;exact this
     ·subst hf';rw[LG hb]at h;have:=ih1 (1::rp) s h;rw[e1,yG hc]at this;exact this
    ·cases h
   ·rename_i id x hc;have e0:E7 P t v (0::rp)=x:=(by show chC (E7 P t v rp) 0=x;rw[hc];rfl);have:=ih1 (0::rp) s h;rw[e0,MR hc]at this;rw[hc];exact b0P this
   ·rename_i hc;rw[hc];exact a5c (ih3 rp .normal s h)
   ·rename_i i hc;rw[hc];exact a7s (ih3 rp (.exit i) s h)
   ·rename_i hc;rw[hc];exact b3z (ih3 rp .ret s h)
   ·cases h
  ·cases rp with
   |nil=>
    unfold evM at h;split at h
    ·exact⟨fn,hf,NV hf (.inl rfl) h⟩
    ·exact⟨fn,hf,NV hf (.inr rfl) h⟩
    ·cases h
   |cons i rp=>
    unfold evM at h;split at h
    ·rename_i x y hc;split at h
     ·have e1:E7 P t v (1::rp)=y:=(by show chC (E7 P t v rp) 1=y;rw[hc];rfl);have:=ih1 (1::rp) s h;rw[e1,VD (i:=0) hc]at this;rw[CD hc];exact this
     ·rename_i hne;have:=ih3 rp e s h;cases i with
      |zero=>
       rw[CD hc];cases e with
       |normal=>exact(hne rfl rfl).elim
       |_=>exact this
      |succ i=>rw[VD hc];exact this
    ·rename_i x hc;cases e with
     |normal=>
      rw[QN hc]
      replace h:(match t.lat v rp with
       |some l=>(match eqP (t.lb l).rp rp with|true=>Kg P t g v l s|false=>none)
       |none=>none)=some r:=h
      split at h
      ·rename_i l hl;split at h
       ·rename_i he;obtain⟨hv,x,hd,hx,hfit⟩:=KH h;exact⟨l,x,Ik he,hv,hl,hk.n l x hv hd hx,hfit⟩
       ·cases h
      ·cases h
     |exit j=>rw[Nz hc (by simp)];exact ih3 rp _ s h
     |goto j=>rw[Nz hc (by simp)];exact ih3 rp _ s h
     |ret=>rw[Nz hc (by simp)];exact ih3 rp _ s h
     |panic j=>rw[Nz hc (by simp)];exact ih3 rp _ s h
     |outgrown=>rw[Nz hc (by simp)];exact ih3 rp _ s h
    ·rename_i id x hc;rw[MR hc];split at h
     ·rename_i j;split at h
      ·rename_i hj;show(if j=id then QP P t v N r rp .normal s.er.st else _);rw[if_pos (D2 hj)];exact ih3 rp .normal s h
      ·rename_i hj;show(if j=id then _ else QP P t v N r rp (.exit j) s.er.st);rw[if_neg (Nj hj)];exact ih3 rp _ s h
     ·rename_i hne;have:=ih3 rp e s h;cases e with
      |exit j=>exact(hne j rfl).elim
      |_=>exact this
    ·rename_i c x y hc;rw[yG hc];exact ih3 rp e s h
    ·cases h
end
end
section
open Go.RowKit
variable{B:Tab}{P:Program}{t:LT}
def DU(P:Program)(t:LT)(l:Nat)(x:Vars B (t.lb l).sh)(r:Res B (t.rh (t.lb l).v)):Prop:=
 W P (Sb P (t.fn (t.lb l).v)) ((t.lb l).sh.inst (ntF P (t.fn (t.lb l).v)) x).er.st fun e st=>∃fn,P.funcs[t.fn (t.lb l).v]? =some fn∧Aw P fn (Z4 (t.rh (t.lb l).v) r) (erM (O6 (t.rh (t.lb l).v) r)) e st
def M6:(l:List (Nat × SV))→SLt B l→List A
 | [],_=>[]
 |p::l,x=>(p.2.inst x.1).er::M6 l x.2
def Ed(P:Program)(t:LT)(l:Nat)(x:Vars B (t.lb l).sh)(r:Res B (t.rh (t.lb l).v)):Prop:=
 T5 P (t.fn (t.lb l).v) (M6 (t.lb l).sh.sl x.1) (erM (Q1 (t.lb l).sh x)) (Z4 (t.rh (t.lb l).v) r) (erM (O6 (t.rh (t.lb l).v) r))
def T9(P:Program)(t:LT)(g:(i:Ix B t)→Option (Bx B t i)):Prop:=∀l x r,g ⟨l,x⟩=some r→(t.lb l).rp=[]→DU P t l x r∨Ed P t l x r
section
variable{hand:(i:Ix B t)→Option (Bx B t i)}{acts:rO B t}{fuel:Nat}
def NF(P:Program)(t:LT)(hand:(i:Ix B t)→Option (Bx B t i))(acts:rO B t)(fuel n v:Nat)(r:Res B (t.rh v))(l:Nat)(x:Vars B (t.lb l).sh):Prop:=
 ∃(h:(t.lb l).v=v) (m:Nat),m≤n∧t.hd l=false∧Cv h (M1 (EVB P t hand acts fuel) m ⟨l,x⟩)=some r
theorem JH{l:Nat}{x:Vars B (t.lb l).sh}{v k:Nat}(h:(t.lb l).v=v)(hd:t.hd l=false):Cv h (M1 (EVB P t hand acts fuel) (k+1) ⟨l,x⟩)=evL P t (M1 (EVB P t hand acts fuel) k) (acts (M1 (EVB P t hand acts fuel) k) v) v fuel (t.lb l).rp ((t.lb l).sh.inst (ntF P (t.fn v)) x):=by subst h;show(match t.hd l with|true=>_|false=>_)=_;rw[hd]
theorem HD{l:Nat}{x:Vars B (t.lb l).sh}{v:Nat}{r:Res B (t.rh v)}(h:(t.lb l).v=v)(e:Cv h (M1 (EVB P t hand acts fuel) 0 ⟨l,x⟩)=some r):False:=by subst h;cases e
theorem FQ{l:Nat}{x:Vars B (t.lb l).sh}{k:Nat}{r:Res B (t.rh (t.lb l).v)}(hd:t.hd l=true)(e:M1 (EVB P t hand acts fuel) k ⟨l,x⟩=some r):hand ⟨l,x⟩=some r:=by
 cases k with
 |zero=>cases e
 |succ k=>
  replace e:(match t.hd l with|true=>hand ⟨l,x⟩|false=>_)=some r:=e
  rw[hd]at e;exact e
theorem a5Z{g:(i:Ix B t)→Option (Bx B t i)}{act:List Nat→Nat→Oper→TS B→Act B}{v:Nat}{rp:List Nat}{c:Code}{s:TS B}(hc:E7 P t v rp=.loop c):evL P t g act v fuel rp s=evM P t g act v fuel (.go (0::rp)) s:=by unfold evL;rw[hc]
theorem a9e{g:(i:Ix B t)→Option (Bx B t i)}{act:List Nat→Nat→Oper→TS B→Act B}{v:Nat}{rp:List Nat}{s:TS B}(hc:∀c,E7 P t v rp≠ .loop c):evL P t g act v fuel rp s=evM P t g act v fuel (.inn rp) s:=by
 unfold evL;split
 ·rename_i c h;exact(hc c h).elim
 ·rfl
theorem a4U(hmix:P.follows .mixedOrders=true)(hfn:∀l v,(t.lb l).v=v→t.hd l=false→∃fn,P.funcs[t.fn v]? =some fn)(hh:∀l x r,t.hd l=true→hand ⟨l,x⟩=some r→Ed P t l x r)(ha:∀g,T9 P t g→∀v rp i o s,v6 P o s (acts g v rp i o s)):∀(n:Nat),∀l x v (h:(t.lb l).v=v) (r:Res B (t.rh v)),t.hd l=false→Cv h (M1 (EVB P t hand acts fuel) n ⟨l,x⟩)=some r→W P (E7 P t v (t.lb l).rp) ((t.lb l).sh.inst (ntF P (t.fn v)) x).er.st (QP P t v (NF P t hand acts fuel n v r) r (t.lb l).rp):=by
 intro n
 induction n using Nat.strongRecOn with
 |_ n ih=>
 intro l x v h r hd hr;cases n with
 |zero=>exact(HD h hr).elim
 |succ m=>
  have means:∀k,k<m+1→T9 P t (M1 (EVB P t hand acts fuel) k):=fun k hk l x r hr hrp=>by
   cases hd:t.hd l with
   |true=>exact .inr (hh l x r hd (FQ hd hr))
   |false=>have:=ih k hk l x _ rfl r hd hr;rw[hrp]at this;exact .inl this
  have knows:∀k,k<m+1→MQ P t v (M1 (EVB P t hand acts fuel) k) (NF P t hand acts fuel k v r) r:=fun k hk=>⟨fun l x h hd hr=>⟨h,k,i4 _,hd,hr⟩,fun l x h hd hr=>ih k hk l x v h r hd hr⟩
  obtain⟨fn,hf⟩:=hfn l v h hd;by_cases hc:∃c,E7 P t v (t.lb l).rp=.loop c
  ·obtain⟨c,hc⟩:=hc;rw[hc];have:=b12 (P:=P) (σ:=Ix B t) (c:=c) (Q:=QP P t v (NF P t hand acts fuel (m+1) v r) r (t.lb l).rp) (fun k i=>k≤m+1∧∃h':(t.lb i.1).v=v,t.hd i.1=false∧(t.lb i.1).rp=(t.lb l).rp∧Cv h' (M1 (EVB P t hand acts fuel) k i)=some r) (fun i=>((t.lb i.1).sh.inst (ntF P (t.fn v)) i.2).er)
    (fun i hi=>HD hi.2.1 hi.2.2.2.2) (fun _ _=>rfl) (fun k i hi=>?_) (m+1) ⟨l,x⟩ ⟨i4 _,h,hd,rfl,hr⟩
   ·exact this
   ·obtain⟨hk,h',hd',hrp,hi⟩:=hi;rw[JH h' hd',hrp,a5Z hc]at hi;have hkm:k<m+1:=hk;have h1:=(zN hmix (ha _ (means k hkm) v) (knows k hkm) hf fuel).1 _ _ hi;have e0:E7 P t v (0::(t.lb l).rp)=c:=(by show chC (E7 P t v (t.lb l).rp) 0=c;rw[hc];rfl);rw[e0]at h1;refine oU h1 fun e st hq=>?_;cases e with
    |normal=>rw[QN hc]at hq;obtain⟨l',x',h2,h3,h4,⟨h5,m',h6,h9,h7⟩,h8⟩:=hq;exact⟨m',⟨l',x'⟩,h6,⟨by omega,h5,h9,h2,h7⟩,h8⟩
    |_=>rw[Nz hc (by simp)]at hq;exact Cj (fun l x ⟨h,m',h1,h2⟩=>⟨h,m',by omega,h2⟩) _ _ _ hq
  ·rw[JH h hd,a9e (fun c h=>hc ⟨c,h⟩)]at hr;have h1:=(zN hmix (ha _ (means m (Nat.lt_succ_self m)) v) (knows m (Nat.lt_succ_self m)) hf fuel).2.1 _ _ hr;exact oU h1 fun e st hq=>Cj (fun l x ⟨h,m',h1,h2⟩=>⟨h,m',by omega,h2⟩) _ _ _ hq
theorem a7g(hmix:P.follows .mixedOrders=true)(hfn:∀l v,(t.lb l).v=v→t.hd l=false→∃fn,P.funcs[t.fn v]? =some fn)(hh:∀l x r,t.hd l=true→hand ⟨l,x⟩=some r→Ed P t l x r)(ha:∀g,T9 P t g→∀v rp i o s,v6 P o s (acts g v rp i o s)):T9 P t (G4 (EVB P t hand acts fuel)):=fun l x r hr hrp=>by
 obtain⟨n,hn⟩:=rQ hr;cases hd:t.hd l with
 |true=>exact .inr (hh l x r hd (FQ hd hn))
 |false=>have:=a4U hmix hfn hh ha n l x _ rfl r hd hn;rw[hrp]at this;exact .inl this
end
end
section
open Go.RowKit
variable{B:Tab}{P:Program}
def C1.ren(ν:Nat→Nat):C1 B→C1 B
 |.ref i=>.ref (ν i)
 |.ptr i o=>.ptr (ν i) o
 |.ifc t i o=>.ifc t (ν i) o
 |.rptr i p q=>.rptr (ν i) p q
 |.ob i=>.ob (ν i)
 |x=>x
def V2.ren(ν:Nat→Nat):V2 B→V2 B
 |.c x=>.c (x.ren ν)
 |.agg cs=>.agg (cs.map (C1.ren ν))
def TV.ren(ν:Nat→Nat):TV B→TV B
 |.v x=>.v (x.ren ν)
 |.tup cs=>.tup (cs.map (V2.ren ν))
def TB.ren(ν:Nat→Nat):TB B→TB B
 |.box ty cs=>.box ty (cs.map (C1.ren ν))
 |b=>b
theorem C1.ren_er(ν:Nat→Nat)(x:C1 B):(x.ren ν).er=Fo ν x.er:=by cases x<;>rfl
theorem V2.ren_er(ν:Nat→Nat)(x:V2 B):(x.ren ν).er=Vv ν x.er:=by
 cases x with
 |c x=>cases x<;>rfl
 |agg cs=>show A.agg ((cs.map (C1.ren ν)).map C1.er)=A.agg ((cs.map C1.er).map (Fo ν));rw[List.map_map,List.map_map];congr 1;exact List.map_congr_left fun x _=>C1.ren_er ν x
theorem TV.ren_er(ν:Nat→Nat)(x:TV B):(x.ren ν).er=Bh ν x.er:=by
 cases x with
 |v x=>
  cases x with
  |c x=>cases x<;>rfl
  |agg cs=>exact V2.ren_er ν (.agg cs)
 |tup cs=>show A.tup ((cs.map (V2.ren ν)).map V2.er)=A.tup ((cs.map V2.er).map (Vv ν));rw[List.map_map,List.map_map];congr 1;exact List.map_congr_left fun x _=>V2.ren_er ν x
theorem TB.ren_er(ν:Nat→Nat)(b:TB B):(b.ren ν).er=b.er.ren ν:=by
 cases b with
 |box ty cs=>show Blk.box ty ((cs.map (C1.ren ν)).map C1.er)=Blk.box ty ((cs.map C1.er).map (Fo ν));rw[List.map_map,List.map_map];congr 1;exact List.map_congr_left fun x _=>C1.ren_er ν x
 |_=>rfl
def Qo(v:IOV):List (Nat × TB B)→List (Nat × Option (TB B))
 | []=>[]
 |p::l=>(G8 v p.1,some (p.2.ren (G8 v)))::Qo v l
def Ld(ms:List (Nat × Option (TB B))):List Nat→List (Nat × Option (TB B))
 | []=>[]
 |j::l=>match V0 ms j with|true=>(j,none)::Ld ms l|false=>Ld ms l
def TS.back(s:TS B)(v:IOV)(J:List Nat)(m':List (Nat × TB B)):TS B:=⟨s.n,s.es,Qo v m'++(Ld s.ms J++s.ms)⟩
theorem YO(v:IOV):∀l:List (Nat × TB B),(Qo v l).map (fun p=>(p.1,p.2.map TB.er))=Hc v (erM l)
 | []=>rfl
 |p::l=>by show(G8 v p.1,some (p.2.ren (G8 v)).er)::(Qo v l).map _=(G8 v p.1,some (p.2.er.ren (G8 v)))::Hc v (erM l);rw[YO v l,TB.ren_er]
theorem CS(s:TS B):∀l:List Nat,(Ld s.ms l).map (fun p=>(p.1,p.2.map TB.er))=Ba s.er.ms l
 | []=>rfl
 |j::l=>by
  unfold Ld Ba;rw[Eo];cases V0 s.ms j with
  |true=>show(j,none)::(Ld s.ms l).map _=(j,none)::Ba s.er.ms l;rw[CS s l]
  |false=>exact CS s l
theorem a2A(s:TS B)(v:IOV)(J:List Nat)(m':List (Nat × TB B)):(s.back v J m').er=s.er.back v J (erM m'):=by show LS.mk _ _ ((Qo v m'++(Ld s.ms J++s.ms)).map _)=LS.mk _ _ _;rw[D9,D9,YO,CS];rfl
theorem a7w{f:FuncId}{args:List A}{m m':List (Nat × Blk)}{r:A}(hk:Kt P f args.length=true)(h9:Nat.ble (ntF P f) 900=true)(h:W P (Sb P f) (LS.mk (ntF P f) (Cp 0 args) (R4 m)).st fun e st=>∃fn,P.funcs[f]? =some fn∧Aw P fn r m' e st):T5 P f args m r m':=by
 unfold Kt at hk;split at hk
 ·rename_i fn hf;split at hk
  ·rename_i c hb;simp only[w8]at hk;have e2:ntF P f=fn.ntmps:=(by unfold ntF;rw[hf]);have e1:Sb P f=c:=(by unfold Sb;rw[hf];simp only[hb]);rw[e2]at h9;rw[e1,e2]at h;refine a1F hf hb hk.1 (Nat.le_of_ble_eq_true hk.2) (Nat.le_of_ble_eq_true h9) (oU h fun e st ⟨fn',hf',hr⟩=>?_);rw[hf]at hf';cases hf';exact hr
  ·cases hk
 ·cases hk
def slots(i:Nat):List (Nat × SV)→Bool
 | []=>true
 |p::l=>Nat.beq p.1 i&&slots (i+1) l
theorem HS:∀{l:List (Nat × SV)} {i:Nat} (x:SLt B l),slots i l=true→(Fz l x).map (fun p=>(p.1,p.2.er))=Cp i (M6 l x)
 | [],_,_,_=>rfl
 |p::l,i,x,h=>by simp only[slots,w8]at h;show(p.1,(p.2.inst x.1).er)::(Fz l x.2).map _=(i,(p.2.inst x.1).er)::Cp (i+1) (M6 l x.2);rw[HS x.2 h.2,D2 h.1]
variable{t:LT}
theorem Yq{l:Nat}{x:Vars B (t.lb l).sh}{r:Res B (t.rh (t.lb l).v)}(h:DU P t l x r)(hs:slots 0 (t.lb l).sh.sl=true)(hk:Kt P (t.fn (t.lb l).v) (M6 (t.lb l).sh.sl x.1).length=true)(h9:Nat.ble (ntF P (t.fn (t.lb l).v)) 900=true):T5 P (t.fn (t.lb l).v) (M6 (t.lb l).sh.sl x.1) (erM (Q1 (t.lb l).sh x)) (Z4 (t.rh (t.lb l).v) r) (erM (O6 (t.rh (t.lb l).v) r)):=by
 refine a7w hk h9 ?_;have e:((t.lb l).sh.inst (ntF P (t.fn (t.lb l).v)) x).er=LS.mk (ntF P (t.fn (t.lb l).v)) (Cp 0 (M6 (t.lb l).sh.sl x.1)) (R4 (erM (Q1 (t.lb l).sh x))):=by show LS.mk _ _ ((Qy (Q1 (t.lb l).sh x)).map _)=_;rw[VI];congr 1;exact HS x.1 hs
 unfold DU at h;rw[e]at h;exact h
end
section
open Go.RowKit
variable{B:Tab}{P:Program}
def R2(J:List Nat):List (Nat × Option (TB B))→List (Nat × Option (TB B))
 | []=>[]
 |p::l=>match B5 J p.1 with|true=>p::R2 J l|false=>R2 J l
theorem OC(J:List Nat)(i:Nat):∀ms:List (Nat × Option (TB B)),lkB (R2 J ms) i=match B5 J i with|true=>lkB ms i|false=>none
 | []=>by show none=_;cases B5 J i<;>rfl
 |p::l=>by
  have ih:=OC J i l;obtain⟨a,b⟩:=p;unfold R2;cases h:B5 J a with
  |true=>
   show(match Nat.beq i a with|true=>some b|false=>lkB (R2 J l) i)=(match B5 J i with|true=>(match Nat.beq i a with|true=>some b|false=>lkB l i)|false=>none);cases hi:Nat.beq i a with
   |true=>rw[D2 hi,h]
   |false=>simp only;rw[ih]
  |false=>
   simp only;rw[ih];show _=(match B5 J i with|true=>(match Nat.beq i a with|true=>some b|false=>lkB l i)|false=>none);cases hi:Nat.beq i a with
   |true=>rw[D2 hi,h]
   |false=>rfl
theorem a63(J:List Nat)(i:Nat)(ms:List (Nat × Option (TB B))):A9 (R2 J ms) i=match B5 J i with|true=>A9 ms i|false=>none:=by unfold A9;rw[OC];cases B5 J i<;>rfl
theorem fF(J:List Nat)(s:TS B):(fun j=>(A9 (R2 J s.ms) j).map TB.er)=E4 J s.er.ms:=by
 funext j
 unfold E4;rw[a63,L4];cases B5 J j<;>rfl
def Ct(v:CC)(ms:List (Nat × Option (TB B)))(sp:List (Nat × Nat × x9)):Nat→(l:List (Nat × SV))→List (V2 B)→Option (SLt B l)
 |_,[],[]=>some ()
 |i,p::l,a::vs=>(match p.2.pack v ms sp i a,Ct v ms sp (i+1) l vs with|some x,some r=>some (x,r)|_,_=>none)
 |_,_,_=>none
theorem MV{v:IOV}{J:List Nat}{s:TS B}:∀{l:List (Nat × SV)} {i:Nat} {vs:List (V2 B)} {x:SLt B l},Ct v.cc (R2 J s.ms) v.N i l vs=some x→Ht v (E4 J s.er.ms) i (vs.map V2.er)=some (M6 l x)
 | [],_,[],_,_=>rfl
 | [],_,_::_,_,h=>by cases h
 |_::_,_,[],_,h=>by cases h
 |p::l,i,a::vs,x,h=>by
  replace h:(match p.2.pack v.cc (R2 J s.ms) v.N i a,Ct v.cc (R2 J s.ms) v.N (i+1) l vs with|some x,some r=>some (x,r)|_,_=>none)=some x:=h
  split at h
  ·rename_i y r h1 h2;cases h;have e2:=SV.pack_ok h1;rw[fF]at e2;have ih:=MV h2;show(match Il v (E4 J s.er.ms) i a.er,Ht v (E4 J s.er.ms) (i+1) (vs.map V2.er)with|some x,some r=>some (x::r)|_,_=>none)=some ((p.2.inst y).er::M6 l r);have e3:Il v (E4 J s.er.ms) i a.er=some (p.2.inst y).er:=by
    cases a with
    |agg cs=>show(match Dd v (E4 J s.er.ms) v.N i 0 (cs.map C1.er)with|some r=>some (A.agg r)|none=>none)=_;rw[xG];exact e2
    |c c=>have e4:Il v (E4 J s.er.ms) i c.er=ioL v (E4 J s.er.ms) (C3 v.N i 0) c.er:=(by cases c<;>rfl);have e5:cv2 v.cc (E4 J s.er.ms) v.N i c.er=cvL v.cc (E4 J s.er.ms) (C3 v.N i 0) c.er:=(by cases c<;>rfl);show Il v (E4 J s.er.ms) i c.er=_;rw[e4,OO,←e5];exact e2
   rw[e3,ih]
  ·cases h
theorem JP{v:CC}{ms:List (Nat × Option (TB B))}{M:List (Nat × Blk)}(hs:Src v ms M){sp:List (Nat × Nat × x9)}:∀{l:List (Nat × SV)} {i:Nat} {vs:List (V2 B)} {x:SLt B l},Ct v ms sp i l vs=some x→O9 M (eI l x)
 | [],_,_,_,_=>fun p hp=>by cases hp
 |_::_,_,[],_,h=>by cases h
 |p::l,i,a::vs,x,h=>by
  replace h:(match p.2.pack v ms sp i a,Ct v ms sp (i+1) l vs with|some x,some r=>some (x,r)|_,_=>none)=some x:=h
  split at h
  ·rename_i y r h1 h2;cases h;exact(SV.pack_in hs h1).app (JP hs h2)
  ·cases h
def Gm(v:CC)(ms:List (Nat × Option (TB B)))(sp:List (Nat × Nat × x9)):(l:List MB)→List (Nat × Nat)→Option (BXt B l)
 | [],[]=>some ()
 |m::l,p::js=>(match Nat.beq p.2 m.id,m.pack v ms sp (A9 ms p.1),Gm v ms sp l js with|true,some x,some r=>some (x,r)|_,_,_=>none)
 |_,_=>none
theorem SQ{v:IOV}{J:List Nat}{s:TS B}:∀{l:List MB} {js:List (Nat × Nat)} {x:BXt B l},Gm v.cc (R2 J s.ms) v.M l js=some x→ioB v (E4 J s.er.ms) js=some (erM (O8 l x))
 | [],[],_,_=>rfl
 | [],_::_,_,h=>by cases h
 |_::_,[],_,h=>by cases h
 |m::l,p::js,x,h=>by
  replace h:(match Nat.beq p.2 m.id,m.pack v.cc (R2 J s.ms) v.M (A9 (R2 J s.ms) p.1),Gm v.cc (R2 J s.ms) v.M l js with|true,some x,some r=>some (x,r)|_,_,_=>none)=some x:=h
  split at h
  ·rename_i y r hid h1 h2;cases h;obtain⟨ty,cs,cs',e1,e2,e3⟩:=MB.pack_ok h1;rw[fF]at e3;have e4:E4 J s.er.ms p.1=(A9 (R2 J s.ms) p.1).map TB.er:=(congrFun (fF J s) p.1).symm;obtain⟨j,i⟩:=p;have hi:i=m.id:=D2 hid;subst hi;show(match E4 J s.er.ms j with
    |some (.box ty cells)=>(match Dd v (E4 J s.er.ms) v.M m.id 0 cells,ioB v (E4 J s.er.ms) js with|some r,some rest=>some ((m.id,Blk.box ty r)::rest)|_,_=>none)
    |_=>none)=some ((m.id,(m.inst y).er)::erM (O8 l r))
   rw[e4,e1,SQ h2,e2];show(match Dd v (E4 J s.er.ms) v.M m.id 0 (cs.map C1.er),some (erM (O8 l r))with|some r,some rest=>some ((m.id,Blk.box ty r)::rest)|_,_=>none)=_;rw[xG,e3]
  ·cases h
theorem XW{v:CC}{ms:List (Nat × Option (TB B))}{M:List (Nat × Blk)}(hs:Src v ms M){sp:List (Nat × Nat × x9)}:∀{l:List MB} {js:List (Nat × Nat)} {x:BXt B l},Gm v ms sp l js=some x→O9 M (Rv l x)
 | [],_,_,_=>fun p hp=>by cases hp
 |_::_,[],_,h=>by cases h
 |m::l,p::js,x,h=>by
  replace h:(match Nat.beq p.2 m.id,m.pack v ms sp (A9 ms p.1),Gm v ms sp l js with|true,some x,some r=>some (x,r)|_,_,_=>none)=some x:=h
  split at h
  ·rename_i y r hid h1 h2;cases h;exact(MB.pack_in hs h1).app (XW hs h2)
  ·cases h
theorem Yw:∀l:List (Nat × Nat × Nat),ioZ l=K4 l
 | []=>rfl
 |(i,e,k)::l=>by show(i,Blk.row e k [])::ioZ l=(i,Blk.row e k [])::K4 l;rw[Yw l]
theorem tE:∀{R:List (Nat × Nat)} {gm:Nat→Option Blk} {rs:List (Nat × Blk)} {j i:Nat} {b:Blk},ioR gm R=some rs→(j,i)∈R→gm j=some b→(i,b)∈rs
 |(a,c)::R,gm,rs,j,i,b,h,hm,hb=>by
  unfold ioR at h;rcases F9.1 hm with he|hm
  ·cases he;rw[hb]at h;cases b with
   |box=>cases h
   |row e k xs=>
    simp only at h;split at h
    ·cases h;exact G0
    ·cases h
   |obj od=>
    simp only at h;split at h
    ·cases h;exact G0
    ·cases h
  ·split at h
   ·split at h
    ·rename_i rest hr;cases h;exact H6 _ (tE hr hm hb)
    ·cases h
   ·split at h
    ·rename_i rest hr;cases h;exact H6 _ (tE hr hm hb)
    ·cases h
   ·cases h
theorem zA:∀{R:List (Nat × Nat)} {gm:Nat→Option Blk} {rs:List (Nat × Blk)},ioR gm R=some rs→rs.map (·.1)=R.map (·.2)
 | [],_,_,h=>by cases h;rfl
 |(j,i)::R,gm,rs,h=>by
  unfold ioR at h;split at h
  ·split at h
   ·rename_i rest hr;cases h;show i::rest.map _=i::R.map _;rw[zA hr]
   ·cases h
  ·split at h
   ·rename_i rest hr;cases h;show i::rest.map _=i::R.map _;rw[zA hr]
   ·cases h
  ·cases h
end
section
open Go.RowKit
variable{B:Tab}{P:Program}{t:LT}
def CM(rh:Rh)(x:Res B rh):TV B:=
 match Gr rh.rs x.1 with
 | [y]=>.v y
 |l=>.tup l
theorem b1G(rh:Rh)(x:Res B rh):(CM rh x).er=Z4 rh x:=by
 unfold CM Z4
 match Gr rh.rs x.1 with
 | []=>rfl
 | [y]=>rfl
 |y::z::l=>rfl
def bC:UV→C1 B→List (Nat × Nat)
 |.ptr id _,.ptr j _=>[(j,id)]
 |.ifc _ id _,.ifc _ j _=>[(j,id)]
 |_,_=>[]
def bV:SV→V2 B→List (Nat × Nat)
 |.one u,.c c=>bC u c
 |_,_=>[]
def bAs:List (Nat × SV)→List (V2 B)→List (Nat × Nat)
 |p::l,a::vs=>bV p.2 a++bAs l vs
 |_,_=>[]
def hAs(B:Tab):List (Nat × SV)→List (V2 B)→Hn
 |p::l,a::vs=>(hV B p.1 p.2 a).add (hAs B l vs)
 |_,_=>h0
def hMc(s:TS B)(j:Nat):MB→Hn
 |.box id _ l=>(match A9 s.ms j with|some (.box _ cs)=>(hL B id 0 l cs).inM|_=>h0)
 |.st id _ i own base=>(match A9 s.ms j with|some (.box _ cs)=>(hSt B id own base 0 (B.lv i) cs).inM|_=>h0)
def hBc(s:TS B):List MB→List (Nat × Nat)→Hn
 |m::l,p::js=>(hMc s p.1 m).add (hBc s l js)
 |_,_=>h0
def Pb(d:Option Nat)(b:List (Nat × Nat)):Nat→List Nat→List (Nat × Nat)
 |_,[]=>[]
 |n,i::l=>(match Tz b i with|some j=>(i,j)::Pb d b n l|none=>(i,1000000+1000*(d.getD 0)+n)::Pb d b (n+1) l)
def Gz:List (TV B)→Option (List (V2 B))
 | []=>some []
 |.v x::l=>(match Gz l with|some r=>some (x::r)|none=>none)
 |.tup _::_=>none
theorem Nh:∀{l:List (TV B)} {vs:List (V2 B)},Gz l=some vs→vs.map V2.er=l.map TV.er
 | [],_,h=>by cases h;rfl
 |.v x::l,vs,h=>by
  replace h:(match Gz l with|some r=>some (x::r)|none=>none)=some vs:=h
  split at h
  ·rename_i r hr;cases h;show x.er::r.map _=x.er::l.map _;rw[Nh hr]
  ·cases h
 |.tup _::_,_,h=>by cases h
def SV.ids:(l:List D)→SV→List Nat
 |_,.one (.own id _ _)=>[id]
 |_,.one _=>[]
 |_,.agg l=>l.flatMap fun u=>match u with|.own id _ _=>[id]|_=>[]
 |_,.st i own base=>own.map fun p=>base+p.1
def Ab(h:Hn)(b V:List (Nat × Nat)):IOV:=⟨b,h.R,h.F,h.Z,h.N,h.M,V⟩
def uM(t:LT)(fin:TS B→Act B)(o:Oper)(s:TS B)(l:Nat)(h:Hn)(b:List (Nat × Nat))(J:List Nat)(M0:List (Nat × Blk))(r:Res B (t.rh (t.lb l).v)):Act B:=
 match Jg (Z4 (t.rh (t.lb l).v) r)&&Vx (Ab h b (Pb o.dst b 0 ((O6 (t.rh (t.lb l).v) r).map (·.1)))) s.er o.dst M0 (erM (O6 (t.rh (t.lb l).v) r))with
 |true=>fin ((s.back (Ab h b (Pb o.dst b 0 ((O6 (t.rh (t.lb l).v) r).map (·.1)))) J (O6 (t.rh (t.lb l).v) r)).put o.dst ((CM (t.rh (t.lb l).v) r).ren (G8 (Ab h b (Pb o.dst b 0 ((O6 (t.rh (t.lb l).v) r).map (·.1)))))))
 |false=>.no
def Lr(P:Program)(t:LT)(fin:TS B→Act B)(g:(i:Ix B t)→Option (Bx B t i))(o:Oper)(s:TS B)(f:FuncId)(l:Nat)(vs:List (V2 B))(h:Hn)(b:List (Nat × Nat))(J:List Nat):Act B:=
 match Ct (Ab h b []).cc (R2 J s.ms) h.N 0 (t.lb l).sh.sl vs,Gm (Ab h b []).cc (R2 J s.ms) h.M (t.lb l).sh.bx b with
 |some a,some bb=>
  (match ioR (E4 J s.er.ms) h.R with
  |some rs=>
   (match(eqP (t.lb l).rp []&&Nat.beq (t.fn (t.lb l).v) f)&&(slots 0 (t.lb l).sh.sl&&(Kt P f (M6 (t.lb l).sh.sl a).length&&(Nat.ble (ntF P f) 900&&((Bz (vs.map V2.er)||((vs.map V2.er).flatMap U0).isEmpty)&&
     (R7 (Ab h b []) J (P1 (erM (O8 (t.lb l).sh.bx bb)++rs++ioZ h.Z))&&(V9 ((t.lb l).sh.bx.map MB.id++(h.R.map (·.2)++h.Z.map (·.1)))&&(V9 ((Q1 (t.lb l).sh (a,bb)).map (·.1))&&
      xQ ((t.lb l).sh.bx.map MB.id++(h.R.map (·.2)++h.Z.map (·.1))) ((Q1 (t.lb l).sh (a,bb)).map (·.1)))))))))
    with
   |true=>.bnd (g ⟨l,(a,bb)⟩) fun r=>uM t fin o s l h b J (P1 (erM (O8 (t.lb l).sh.bx bb)++rs++ioZ h.Z)) r
   |false=>.no)
  |none=>.no)
 |_,_=>.no
def Ey(P:Program)(t:LT)(g:(i:Ix B t)→Option (Bx B t i))(o:Oper)(s:TS B)(c:Call)(f:FuncId)(l:Nat):Act B:=
 match Gz (c.args.toList.map s.ev)with
 |some vs=>Lr P t (fun s'=>.st s' true) g o s f l vs ((hAs B (t.lb l).sh.sl vs).add (hBc s (t.lb l).sh.bx (bAs (t.lb l).sh.sl vs))) (bAs (t.lb l).sh.sl vs) (E6 s.er.st (vs.map V2.er))
 |none=>.no
def PM(P:Program)(s:TS B)(id off:Nat):Rcv→Option (V2 B)
 |.ptr=>some (.c (.ptr id off))
 |.val e=>(match p8 P e with
  |some ti=>(match Gp s (.v (.c (.ptr id off))) ti with|some (.v x)=>some x|_=>none)
  |none=>none)
def Nk(P:Program)(t:LT)(g:(i:Ix B t)→Option (Bx B t i))(o:Oper)(s:TS B)(c:Call)(f:FuncId)(rv:V2 B)(l:Nat):Act B:=
 match Gz (c.args.toList.map s.ev)with
 |some vs=>Lr P t .sem g o s f l (rv::vs) ((hAs B (t.lb l).sh.sl (rv::vs)).add (hBc s (t.lb l).sh.bx (bAs (t.lb l).sh.sl (rv::vs)))) (bAs (t.lb l).sh.sl (rv::vs)) (E6 s.er.st ((rv::vs).map V2.er))
 |none=>.no
def Lo(s:TS B)(id:Nat):Bool:=match A9 s.ms id with|some (.box _ _)=>true|_=>false
def Oq(P:Program)(s:TS B)(x:Operand)(name:String):Option (FuncId × V2 B):=
 match s.ev x with
 |.v (.c (.ifc ty id off))=>(match Lo s id,Fj P ty name with
  |true,some (f,rc)=>(match PM P s id off rc with|some rv=>some (f,rv)|none=>none)
  |_,_=>none)
 |_=>none
end
section
open Go.RowKit
variable{B:Tab}{P:Program}{t:LT}
def b2I(P:Program)(f:FuncId)(d:Option Nat)(s:LS)(evs:List A)(s':LS):Prop:=
 ∃v cargs bs rs r m',T5 P f cargs (P1 (bs++rs++ioZ v.Z)) r m'∧Ht v (E4 (E6 s.st evs) s.ms) 0 evs=some cargs∧ioB v (E4 (E6 s.st evs) s.ms) v.B=some bs∧ioR (E4 (E6 s.st evs) s.ms) v.R=some rs∧
  Jg r=true∧(Bz evs||(evs.flatMap U0).isEmpty)=true∧R7 v (E6 s.st evs) (P1 (bs++rs++ioZ v.Z))=true∧Vx v s d (P1 (bs++rs++ioZ v.Z)) m'=true∧s'=(s.back v (E6 s.st evs) m').put d (Bh (G8 v) r)
theorem HY{g:(i:Ix B t)→Option (Bx B t i)}(hm:T9 P t g){o:Oper}{s:TS B}{f:FuncId}{l:Nat}{fin:TS B→Act B}{vs:List (V2 B)}{h:Hn}{b:List (Nat × Nat)}(hfin:∀s',b2I P f o.dst s.er (vs.map V2.er) s'.er→v6 P o s (fin s')):v6 P o s (Lr P t fin g o s f l vs h b (E6 s.er.st (vs.map V2.er))):=by
  generalize hJ:E6 s.er.st (vs.map V2.er)=J;unfold Lr;split
  ·rename_i a bb ha hb;split
   ·rename_i rs hrs;split
    ·rename_i hk;intro r hr;show v6 P o s (uM t fin o s l h b J _ r);unfold uM;split
     ·rename_i hk2;simp only[w8,Bool.or_eq_true,List.isEmpty_iff]at hk hk2;obtain⟨⟨e1,e2⟩,e3,e4,e5,e6,e7,e8,e9,e10⟩:=hk;have hf:t.fn (t.lb l).v=f:=D2 e2;have hio:=(hm l (a,bb) r hr (Ik e1)).elim (fun hm=>Yq hm e3 (by rw[hf];exact e4) (by rw[hf];exact e5)) id;rw[hf]at hio;generalize hV:Pb o.dst b 0 ((O6 (t.rh (t.lb l).v) r).map (·.1))=V at hk2⊢;have hbs:ioB (Ab h b V) (E4 J s.er.ms) (Ab h b V).B=some (erM (O8 (t.lb l).sh.bx bb)):=SQ (v:=Ab h b V) hb;have hal:H0 (erM (Q1 (t.lb l).sh (a,bb))) (P1 (erM (O8 (t.lb l).sh.bx bb)++rs++ioZ h.Z)):=by
       have hR:rs.map (·.1)=h.R.map (·.2):=zA hrs;have hsrc:Src (Ab h b []).cc (R2 J s.ms) (rs++K4 h.Z):=⟨fun j i bl hm hg=>A7.2 (.inl (tE hrs hm (by
        have:=congrFun (fF J s) j;rw[←this];simp only[hg,F4]))),fun p hp=>A7.2 (.inr hp)⟩
       have hin1:=JP hsrc ha;have hin2:=XW hsrc hb;have hnd:((erM (O8 (t.lb l).sh.bx bb)++rs++ioZ h.Z).map (·.1)).Nodup:=by have:=Cq e8;rw[D9,D9,Y6,Jl,hR,Yw,Iz,G5];exact this
       have h1:H0 (erM (O8 (t.lb l).sh.bx bb)++rs++ioZ h.Z) (erM (Q1 (t.lb l).sh (a,bb))):=by
        refine H0.of hnd ?_ ?_ ?_
        ·rw[Y6];exact Cq e9
        ·intro p hp;obtain⟨q,hq,rfl⟩:=List.mem_map.1 hp;rcases A7.1 hq with hq|hq
         ·exact A7.2 (.inl (A7.2 (.inl (List.mem_map.2 ⟨q,hq,rfl⟩))))
         ·have:(q.1,q.2.er)∈rs++K4 h.Z:=by
           rcases A7.1 hq with hq|hq
           ·exact hin1 q hq
           ·exact hin2 q hq
          rw[Yw,G5];exact A7.2 (.inr this)
        ·intro i hi;rw[Y6];refine Z8 (List.all_eq_true.1 e10 i ?_);rw[D9,D9,Y6,Jl,hR,Yw,Iz,G5]at hi;exact hi
       exact h1.symm.trans (H0.perm (((Rj _).map _).nodup_iff.2 hnd) (Rj _)).symm
      have hio2:=a4i hio hal ⟨rfl,fun _=>Iff.rfl⟩;refine hfin _ ⟨Ab h b V,M6 (t.lb l).sh.sl a,erM (O8 (t.lb l).sh.bx bb),rs,Z4 (t.rh (t.lb l).v) r,erM (O6 (t.rh (t.lb l).v) r),hio2,?_,?_,?_,hk2.1,?_,?_,?_,?_⟩
      ·rw[hJ];exact MV (v:=Ab h b V) ha
      ·rw[hJ];exact hbs
      ·rw[hJ];exact hrs
      ·simp only[Bool.or_eq_true,List.isEmpty_iff];exact e6
      ·rw[hJ];exact e7
      ·exact hk2.2
      ·rw[M2,a2A,TV.ren_er,b1G,hJ]
     ·trivial
    ·trivial
   ·trivial
  ·trivial
theorem a16{g:(i:Ix B t)→Option (Bx B t i)}(hm:T9 P t g){o:Oper}{s:TS B}{c:Call}{f:FuncId}{l:Nat}(ho:o.op=.call c)(hc:c.callee=.value (.func f)):v6 P o s (Ey P t g o s c f l):=by
 unfold Ey;split
 ·rename_i vs hvs;have hev:c.args.toList.map s.er.st.ev=vs.map V2.er:=by rw[Nh hvs,List.map_map];exact List.map_congr_left fun x _=>A1 s x
  refine HY hm fun s' h=>?_;obtain⟨v,cargs,bs,rs,r,m',hio,h1,h2,h3,h4,h5,h6,h7,h8⟩:=h;refine⟨.io v r m',[T5 P f cargs (P1 (bs++rs++ioZ v.Z)) r m'],?_,⟨hio,trivial⟩,fun _=>?_,rfl⟩
  ·unfold L8;simp only[ho,hc];rw[hev];have q3:(Jg r&&(Bz (vs.map V2.er)||((vs.map V2.er).flatMap U0).isEmpty))=true:=(by rw[h4,h5];rfl);rw[h1,h2,h3,q3];simp only;rw[h6,h7,h8]
  ·unfold U3;simp only[ho,hc]
 ·trivial
theorem OY{s:TS B}{id off:Nat}{rc:Rcv}{rv:V2 B}(h:PM P s id off rc=some rv):(rc=.ptr→rv.er=.ptr id off)∧∀e,rc=.val e→∃ti,p8 P e=some ti∧K5 s.er.st (.ptr id off) ti=some rv.er:=by
 cases rc with
 |ptr=>cases h;exact⟨fun _=>rfl,fun e he=>(nomatch he)⟩
 |val e=>
  refine⟨fun he=>(nomatch he),fun e' he=>?_⟩;cases he
  replace h:(match p8 P e with
   |some ti=>(match Gp s (.v (.c (.ptr id off))) ti with|some (.v x)=>some x|_=>none)
   |none=>none)=some rv:=h
  split at h
  ·rename_i ti hti;split at h
   ·rename_i x hx;cases h;exact⟨ti,hti,mB hx⟩
   ·cases h
  ·cases h
theorem a7X{g:(i:Ix B t)→Option (Bx B t i)}(hm:T9 P t g){o:Oper}{s:TS B}{c:Call}{x:Operand}{name:String}{f:FuncId}{rv:V2 B}{l:Nat}(ho:o.op=.call c)(hc:c.callee=.invoke x name)(hi:Oq P s x name=some (f,rv)):v6 P o s (Nk P t g o s c f rv l):=by
 unfold Nk;split
 ·rename_i vs hvs;have hev:c.args.toList.map s.er.st.ev=vs.map V2.er:=by rw[Nh hvs,List.map_map];exact List.map_congr_left fun x _=>A1 s x
  unfold Oq at hi;split at hi
  ·rename_i ty id off hx;split at hi
   ·rename_i f' rc hbx hme;split at hi
    ·rename_i rv' hrv;cases hi;obtain⟨r1,r2⟩:=OY hrv;refine HY hm fun s' h=>?_;obtain⟨v,cargs,bs,rs,r,m',hio,h1,h2,h3,h4,h5,h6,h7,h8⟩:=h;intro K hK;obtain⟨callee,args,ts⟩:=c;cases hc;refine a3a x name args ts ho ty id off (by rw[A1,hx];rfl) ?_ f rc hme rv.er r1 r2 ?_
     ·unfold Lo at hbx;split at hbx
      ·rename_i bt cs hg;refine⟨bt,cs.map C1.er,?_⟩;show x7 s.er.ms id=_;rw[L4,hg];rfl
      ·cases hbx
     ·rw[show args.toList.map s.er.st.ev=vs.map V2.er from hev];refine BX h1 h2 h3 h4 (by simpa[List.isEmpty_iff]using h5) h6 h7 hio K ?_;have:s'.er=_:=h8;rw[←this];exact hK
    ·cases hi
   ·cases hi
  ·cases hi
 ·trivial
end
section
open Go.RowKit
variable{B:Tab}{P:Program}{t:LT}
def kOf:Option x9→Option Nat
 |some (.sl k)=>some k
 |_=>none
def Qw:List (Nat × Nat × x9)→Option (List (Nat × Nat × Nat))
 | []=>some []
 |(i,j,.sl k)::l=>(match Qw l with|some r=>some ((i,j,k)::r)|none=>none)
 |(_,_,.row _)::_=>none
theorem zU:∀{sp:List (Nat × Nat × x9)} {ns:List (Nat × Nat × Nat)},Qw sp=some ns→∀i j,Dl ns i j=kOf (C3 sp i j)
 | [],ns,h,i,j=>by cases h;rfl
 |(a,b,.row k)::l,ns,h,i,j=>by cases h
 |(a,b,.sl k)::l,ns,h,i,j=>by
  replace h:(match Qw l with|some r=>some ((a,b,k)::r)|none=>none)=some ns:=h
  split at h
  ·rename_i r hr;cases h;unfold Dl C3;cases Nat.beq a i&&Nat.beq b j with
   |true=>rfl
   |false=>exact zU hr i j
  ·cases h
def ccP(F:List Nat):CC:=⟨[],F,[],fun _=>none⟩
theorem GO{F:List Nat}{s:LS}{nt:Option x9}{a z:A}(h:cvL (ccP F) (x7 s.ms) nt a=some z)(hz:X9 z=true):Cw (kOf nt) (F3 s.st a)=z:=by
 cases a with
 |t x=>
  by_cases hx:x=.v (.slice none 0 0)
  ·subst hx;cases nt with
   |none=>cases h;rfl
   |some w=>
    cases w with
    |sl k=>cases h;rfl
    |row id=>cases h
  ·rw[aJ hx]at h;cases h;show Cw (kOf nt) (.t x)=.t x;unfold Cw;split
   ·rename_i k e1 e2;injection e2 with e3
    exact(hx e3).elim
   ·rfl
 |ref j=>
  replace h:(match B5 F j,x7 s.ms j with|true,some (.row e k xs)=>some (A.t (.sl k xs))|_,_=>none)=some z:=h
  split at h
  ·rename_i e k xs h1 h2;cases h;have e1:F3 s.st (.ref j)=.t (.sl k xs):=by show(match x7 s.ms j with|some (.row _ k xs)=>A.t (.sl k xs)|_=>.ref j)=_;rw[h2]
   rw[e1];cases kOf nt<;>rfl
  ·cases h
 |ptr j o=>cases h
 |ifc t j o=>cases h
 |rptr j p q=>cases h
 |ob j=>cases h
 |fel x=>cases h;cases hz
 |agg l=>cases h
 |tup l=>cases h
 |dead=>cases h
theorem HJ{F:List Nat}{s:LS}{sp:List (Nat × Nat × x9)}{ns:List (Nat × Nat × Nat)}(hn:∀i j,Dl ns i j=kOf (C3 sp i j)){i:Nat}:∀{l r:List A} {j:Nat},Q9 (ccP F) (x7 s.ms) sp i j l=some r→r.all X9=true→Nl ns i j (l.map (F3 s.st))=r
 | [],r,j,h,_=>by cases h;rfl
 |a::l,r,j,h,hf=>by
  unfold Q9 at h;split at h
  ·rename_i x r' h1 h2;cases h;simp only[List.all_cons,w8]at hf;show Cw (Dl ns i j) (F3 s.st a)::Nl ns i (j+1) (l.map (F3 s.st))=_;rw[hn,GO h1 hf.1,HJ hn h2 hf.2]
  ·cases h
theorem a4V{ns:List (Nat × Nat × Nat)}{i:Nat}{x:A}(h:∀cs,x≠ .agg cs):Mf ns i x=Cw (Dl ns i 0) x:=by
 cases x with
 |agg cs=>exact(h cs rfl).elim
 |_=>rfl
theorem a4R(s:LS)(c:C1 B)(cs:List A):F3 s.st c.er≠ .agg cs:=by
 cases c with
 |ref j=>show(match x7 s.ms j with|some (.row _ k xs)=>A.t (.sl k xs)|_=>.ref j)≠_;split<;>(intro h;cases h)
 |_=>intro h;cases h
theorem DS{F:List Nat}{s:TS B}{sp:List (Nat × Nat × x9)}{ns:List (Nat × Nat × Nat)}(hn:∀i j,Dl ns i j=kOf (C3 sp i j)):∀{l:List (Nat × SV)} {i:Nat} {vs:List (V2 B)} {x:SLt B l},Ct (ccP F) s.ms sp i l vs=some x→(M6 l x).all C4=true→U2 ns i (vs.map fun a=>u0 s.er.st a.er)=M6 l x
 | [],_,[],_,_,_=>rfl
 | [],_,_::_,_,h,_=>by cases h
 |_::_,_,[],_,h,_=>by cases h
 |p::l,i,a::vs,x,h,hf=>by
  replace h:(match p.2.pack (ccP F) s.ms sp i a,Ct (ccP F) s.ms sp (i+1) l vs with|some x,some r=>some (x,r)|_,_=>none)=some x:=h
  split at h
  ·rename_i y r h1 h2;cases h
   replace hf:(((p.2.inst y).er::M6 l r).all C4)=true:=hf
   simp only[List.all_cons,w8]at hf;have e2:=SV.pack_ok h1;have e3:(fun j=>(A9 s.ms j).map TB.er)=x7 s.er.ms:=(by funext j;exact(L4 s j).symm);rw[e3]at e2;show Mf ns i (u0 s.er.st a.er)::U2 ns (i+1) (vs.map fun a=>u0 s.er.st a.er)=(p.2.inst y).er::M6 l r;rw[DS hn h2 hf.2];congr 1;cases a with
   |agg cs=>
    replace e2:(match Q9 (ccP F) (x7 s.er.ms) sp i 0 (cs.map C1.er)with|some r=>some (A.agg r)|none=>none)=some (p.2.inst y).er:=e2
    split at e2
    ·rename_i zs hz;have e4:=Option.some.inj e2;have hf1:=hf.1;rw[←e4]at hf1;rw[←e4];show A.agg (Nl ns i 0 ((cs.map C1.er).map (F3 s.er.st)))=A.agg zs;rw[HJ hn hz hf1]
    ·cases e2
   |c c=>
    have e5:cv2 (ccP F) (x7 s.er.ms) sp i c.er=cvL (ccP F) (x7 s.er.ms) (C3 sp i 0) c.er:=(by cases c<;>rfl);have e6:cvL (ccP F) (x7 s.er.ms) (C3 sp i 0) c.er=some (p.2.inst y).er:=e5.symm.trans e2;have hz:X9 (p.2.inst y).er=true:=by
     have hf1:=hf.1;cases hzz:(p.2.inst y).er with
     |agg l=>
      rw[hzz]at e6;exfalso;unfold cvL at e6;cases c with
      |d x=>
       simp only[C1.er]at e6;split at e6
       ·cases e6
       ·split at e6<;>cases e6
       ·cases e6
      |_=>first|(simp only[C1.er]at e6;split at e6<;>first|cases e6|(split at e6<;>cases e6))|cases e6
     |_=>rw[hzz]at hf1;exact hf1
    have e7:=GO e6 hz;have e8:Mf ns i (u0 s.er.st c.er)=Cw (Dl ns i 0) (F3 s.er.st c.er):=by have:u0 s.er.st c.er=F3 s.er.st c.er:=(by cases c<;>rfl);rw[this];exact a4V (a4R s.er c)
    show Mf ns i (u0 s.er.st c.er)=_;rw[e8,hn,e7]
  ·cases h
def Ev{α:Type}:List α→Bool
 | []=>true
 |_=>false
theorem Yg{α:Type}{l:List α}(h:Ev l=true):l=[]:=by cases l<;>first|rfl|cases h
def Qr:(u:UV)→UVt B u→C1 B
 |.own _ _ d,x=>.d (.l d x)
 |.dat d,x=>.d (M5 d x)
 |.lit v,_=>.d (.t (.v v))
 |.ptr i o,_=>.ptr i o
 |.map i _ _,_=>.ob i
 |.fpd i,x=>.d (.fp i x 0)
 |.ifc t i o,_=>.ifc t i o
 |.ifi t k,x=>.d (.t (.v (.iface t (.int k x))))
def bX:(l:List UV)→ULt B l→List (C1 B)
 | [],_=>[]
 |u::l,x=>Qr u x.1::bX l x.2
def EX:(w:SV)→SVt B w→V2 B
 |.one u,x=>.c (Qr u x)
 |.agg l,x=>.agg (bX l x)
 |.st i _ _,x=>.agg ((Ko (B.lv i) (B.cells i x)).map C1.d)
def Uo:(l:List SV)→RLt B l→List (V2 B)
 | [],_=>[]
 |w::l,x=>EX w x.1::Uo l x.2
def RU:D→Bool
 |.map _ _=>false
 |_=>true
def Mv(B:Tab):SV→Bool
 |.st i _ _=>(B.lv i).all RU
 |_=>true
def P7(st:St)(l:List (Nat × TB B)):Prop:=∀id e d xs,(id,TB.row e d xs)∈l→st.mem id=some (.row e (sz B d) (xs.map (enc B d)))
theorem P7.app{st:St}{l r:List (Nat × TB B)}(h:P7 st (l++r)):P7 st l∧P7 st r:=
 ⟨fun id e d xs hm=>h id e d xs (A7.2 (.inl hm)),fun id e d xs hm=>h id e d xs (A7.2 (.inr hm))⟩
theorem RS{st:St}{id e:Nat}{d:D}{xs:List (E B d)}(h:P7 st [(id,TB.row e d xs)]):F3 st (.ref id)=.t (.sl (sz B d) (xs.map (enc B d))):=by have:=h id e d xs (O0.2 rfl);show(match st.mem id with|some (.row _ k xs)=>A.t (.sl k xs)|_=>.ref id)=_;rw[this]
theorem ON{st:St}:∀(u:UV) (x:UVt B u),P7 st (u.rows x)→F3 st (u.inst x).er=(Qr u x).er
 |.own id e d,x,h=>RS h
 |.dat d,x,_=>rfl
 |.lit v,_,_=>rfl
 |.ptr i o,_,_=>rfl
 |.ifc t i o,_,_=>rfl
 |.ifi t k,_,_=>rfl
 |.map i _ _,_,_=>rfl
 |.fpd _,_,_=>rfl
theorem HI{st:St}:∀(l:List UV) (x:ULt B l),P7 st (Ox l x)→((Kf l x).map C1.er).map (F3 st)=(bX l x).map C1.er
 | [],_,_=>rfl
 |u::l,x,h=>by obtain⟨h1,h2⟩:=P7.app (show P7 st (u.rows x.1++Ox l x.2)from h);show F3 st (u.inst x.1).er::((Kf l x.2).map C1.er).map (F3 st)=(Qr u x.1).er::(bX l x.2).map C1.er;rw[ON u x.1 h1,HI l x.2 h2]
theorem XH{st:St}{own:List (Nat × TypeId)}{base:Nat}:∀(l:List D) (c:Nat) (x:Tup B.toTab0 l),l.all RU=true→P7 st (stR own base c l x)→((stC own base c l x).map C1.er).map (F3 st)=((Ko l x).map C1.d).map C1.er
 | [],_,_,_,_=>rfl
 |d::l,c,x,hm,h=>by
  obtain⟨h1,h2⟩:=P7.app (show P7 st (uU own base c d x.1++stR own base (c+1) l x.2)from h);simp only[List.all_cons,w8]at hm;show F3 st (nT own base c d x.1).er::((stC own base (c+1) l x.2).map C1.er).map (F3 st)=(C1.d (M5 d x.1)).er::((Ko l x.2).map C1.d).map C1.er;rw[XH l (c+1) x.2 hm.2 h2];congr 1;cases d with
  |sl k=>
   replace h1:P7 st (match Bw own c with|some e=>[(base+c,TB.row e k x.1)]|none=>[]):=h1
   show F3 st (match Bw own c with|some _=>.ref (base+c)|none=>.d (.l k x.1):C1 B).er=_;split
   ·rename_i e he;rw[he]at h1;exact RS h1
   ·rfl
  |map k d=>cases hm.1
  |_=>rfl
theorem a9X{st:St}(w:SV)(x:SVt B w)(hm:Mv B w=true)(h:P7 st (w.rows x)):u0 st (w.inst x).er=(EX w x).er:=by
 cases w with
 |one u=>have h1:=ON u x h;show u0 st (u.inst x).er=(Qr u x).er;rw[←h1];cases u<;>rfl
 |agg l=>exact congrArg A.agg (HI l x h)
 |st i own base=>exact congrArg A.agg (XH _ 0 _ hm h)
theorem XS{st:St}:∀(l:List SV) (x:RLt B l),l.all (Mv B)=true→P7 st (X0 l x)→((Gr l x).map V2.er).map (u0 st)=(Uo l x).map V2.er
 | [],_,_,_=>rfl
 |w::l,x,hm,h=>by obtain⟨h1,h2⟩:=P7.app (show P7 st (w.rows x.1++X0 l x.2)from h);simp only[List.all_cons,w8]at hm;show u0 st (w.inst x.1).er::((Gr l x.2).map V2.er).map (u0 st)=(EX w x.1).er::(Uo l x.2).map V2.er;rw[a9X w x.1 hm.1 h1,XS l x.2 hm.2 h2]
def V4(rh:Rh)(x:Res B rh):TV B:=
 match Uo rh.rs x.1 with
 | [y]=>.v y
 |l=>.tup l
theorem b1p(st:St):∀l:List A,(∀a∈l,∀cs,a≠ .tup cs)→Sm st (Iy l)=Iy (l.map (u0 st))
 | [],_=>rfl
 | [y],h=>by
  show Sm st y=u0 st y;cases y with
  |tup cs=>exact(h _ G0 cs rfl).elim
  |_=>rfl
 |y::z::l,_=>rfl
theorem wY{rh:Rh}{x:Res B rh}{st:St}(hm:rh.rs.all (Mv B)=true)(h:P7 st (X0 rh.rs x.1)):Sm st (Z4 rh x)=(V4 rh x).er:=by
 unfold Z4;rw[b1p,XS rh.rs x.1 hm h]
 ·unfold V4
  match Uo rh.rs x.1 with
  | []=>rfl
  | [y]=>rfl
  |y::z::l=>rfl
 ·intro a ha cs e;obtain⟨v,hv,rfl⟩:=List.mem_map.1 ha;cases v with
  |c c=>cases c<;>cases e
  |agg l=>cases e
theorem CQ{l:List (Nat × TB B)}(hn:V9 (l.map (·.1))=true):P7 (mst (erM l)) l:=fun id e d xs hm=>by show look (erM l) id=_;refine Nx (x:=Blk.row e (sz B d) (xs.map (enc B d))) (by rw[Y6];exact Cq hn) ?_;exact List.mem_map.2 ⟨_,hm,rfl⟩
theorem BL:∀{rh:Rh},Ev rh.bx=true→∀x:Res B rh,O6 rh x=X0 rh.rs x.1
 |⟨rs,[]⟩,_,x=>by show []++(X0 rs x.1++[])=_;rw[O1];rfl
 |⟨_,_::_⟩,h,_=>nomatch h
def yF(t:LT)(fin:Bool→TS B→Act B)(o:Oper)(s:TS B)(l:Nat)(refs:List Nat)(r:Res B (t.rh (t.lb l).v)):Act B:=
 match Ev (t.rh (t.lb l).v).bx&&(V9 ((X0 (t.rh (t.lb l).v).rs r.1).map (·.1))&&((t.rh (t.lb l).v).rs.all (Mv B)&&(aD (V4 (t.rh (t.lb l).v) r).er&&(Ev refs||N5 (V4 (t.rh (t.lb l).v) r).er))))with
 |true=>fin (N5 (V4 (t.rh (t.lb l).v) r).er) (s.put o.dst (V4 (t.rh (t.lb l).v) r))
 |false=>.no
def Mm(P:Program)(t:LT)(fin:Bool→TS B→Act B)(g:(i:Ix B t)→Option (Bx B t i))(o:Oper)(s:TS B)(f:FuncId)(l:Nat)(vs:List (V2 B))(h:Hn):Act B:=
 match Ct (ccP h.F) s.ms h.N 0 (t.lb l).sh.sl vs,Gm (ccP h.F) s.ms h.M (t.lb l).sh.bx [],Qw h.N with
 |some a,some bb,some _=>
  (match(eqP (t.lb l).rp []&&Nat.beq (t.fn (t.lb l).v) f)&&(slots 0 (t.lb l).sh.sl&&(Kt P f (M6 (t.lb l).sh.sl a).length&&(Nat.ble (ntF P f) 900&&(Ev (Q1 (t.lb l).sh (a,bb))&&
    ((M6 (t.lb l).sh.sl a).all C4&&(vs.map fun x=>u0 s.er.st x.er).all C4)))))with
  |true=>.bnd (g ⟨l,(a,bb)⟩) fun r=>yF t fin o s l ((vs.map V2.er).flatMap D1) r
  |false=>.no)
 |_,_,_=>.no
def Jt(P:Program)(t:LT)(g:(i:Ix B t)→Option (Bx B t i))(o:Oper)(s:TS B)(c:Call)(f:FuncId)(l:Nat):Act B:=
 match Gz (c.args.toList.map s.ev)with
 |some vs=>Mm P t (fun sc s'=>.st s' sc) g o s f l vs (hAs B (t.lb l).sh.sl vs)
 |none=>.no
theorem GK{g:(i:Ix B t)→Option (Bx B t i)}(hm:T9 P t g){o:Oper}{s:TS B}{f:FuncId}{l:Nat}{fin:Bool→TS B→Act B}{vs:List (V2 B)}{h:Hn}(hfin:∀(rd:TV B) (ns:List (Nat × Nat × Nat)),FnP P f (U2 ns 0 (vs.map fun x=>u0 s.er.st x.er)) rd.er→(vs.map fun x=>u0 s.er.st x.er).all C4=true→((vs.map V2.er).flatMap D1=[]∨N5 rd.er=true)→v6 P o s (fin (N5 rd.er) (s.put o.dst rd))):v6 P o s (Mm P t fin g o s f l vs h):=by
 unfold Mm;split
 ·rename_i a bb ns ha hb hns;split
  ·rename_i hk;intro r hr;show v6 P o s (yF t fin o s l _ r);unfold yF;split
   ·rename_i hk2;simp only[w8,Bool.or_eq_true]at hk hk2;obtain⟨⟨e1,e2⟩,e3,e4,e5,e6,e7,e8⟩:=hk;obtain⟨k0,k1,k4,k2,k3⟩:=hk2;have hf:t.fn (t.lb l).v=f:=D2 e2;have hio:=(hm l (a,bb) r hr (Ik e1)).elim (fun hm=>Yq hm e3 (by rw[hf];exact e4) (by rw[hf];exact e5)) id;have hrm:O6 (t.rh (t.lb l).v) r=X0 (t.rh (t.lb l).v).rs r.1:=BL k0 r;rw[hf,Yg e6,hrm]at hio;have hP:FnP P f (M6 (t.lb l).sh.sl a) (V4 (t.rh (t.lb l).v) r).er:=AV hio (wY k4 (CQ k1)) k2;have hargs:=DS (zU hns) ha e7;exact hfin _ ns (by rw[hargs];exact hP) e8 (k3.imp_left Yg)
   ·trivial
  ·trivial
 ·trivial
theorem a43{g:(i:Ix B t)→Option (Bx B t i)}(hm:T9 P t g){o:Oper}{s:TS B}{c:Call}{f:FuncId}{l:Nat}(ho:o.op=.call c)(hc:c.callee=.value (.func f)):v6 P o s (Jt P t g o s c f l):=by
 unfold Jt;split
 ·rename_i vs hvs;have hev:c.args.toList.map s.er.st.ev=vs.map V2.er:=by rw[Nh hvs,List.map_map];exact List.map_congr_left fun x _=>A1 s x
  refine GK hm fun rd ns hP e8 k3=>?_;have hmap:(c.args.toList.map fun x=>u0 s.er.st (s.er.st.ev x))=vs.map fun x=>u0 s.er.st x.er:=by have:=congrArg (List.map (u0 s.er.st)) hev;rw[List.map_map,List.map_map]at this;exact this
  refine⟨.call ns rd.er,[FnP P f (U2 ns 0 (vs.map fun x=>u0 s.er.st x.er)) rd.er],?_,⟨hP,trivial⟩,fun hl=>?_,rfl⟩
  ·show B1 P o (.call ns rd.er) s.er=_;unfold B1;simp only[ho,hc];rw[hmap,hev,e8];rw[M2];rcases k3 with k3|k3
   ·rw[k3]
   ·rw[k3];split
    ·rfl
    ·rfl
    ·rename_i h1 h2;exact(h2 rfl rfl).elim
  ·unfold U3;simp only[ho,hc];exact hl
 ·trivial
end
section
open Go.RowKit
variable{B:Tab}{P:Program}{t:LT}
def QW(ms:List (Nat × Option (TB B))):C1 B→Option (TC B)
 |.d x=>some x
 |.ref j=>(match A9 ms j with|some (.row _ d xs)=>some (.l d xs)|_=>none)
 |.ob j=>(match A9 ms j with|some (.map k d es)=>some (.m k d es)|_=>none)
 |_=>none
def jV(ms:List (Nat × Option (TB B))):List (C1 B)→Option (List (TC B))
 | []=>some []
 |c::l=>match QW ms c,jV ms l with|some x,some r=>some (x::r)|_,_=>none
theorem TD{s:TS B}:∀{cs:List (C1 B)} {ts:List (TC B)},jV s.ms cs=some ts→Z9 s.er.st (cs.map C1.er)=some (ts.map TC.er)
 | [],_,h=>by cases h;rfl
 |c::cs,ts,h=>by
  unfold jV at h;split at h
  ·rename_i x r h1 h2;cases h;have e1:Dt s.er.st c.er=some x.er:=by
    unfold QW at h1;split at h1
    ·cases h1;rfl
    ·rename_i j;split at h1
     ·rename_i e d xs hg;cases h1;show(match x7 s.er.ms j with|some (.row _ k xs)=>some (T.sl k xs)|_=>none)=_;rw[L4,hg];rfl
     ·cases h1
    ·rename_i j;split at h1
     ·cases h1;rfl
     ·cases h1
    ·cases h1
   show(match Dt s.er.st c.er,Z9 s.er.st (cs.map C1.er)with|some x,some l=>some (x::l)|_,_=>none)=_;rw[e1,TD h2];rfl
  ·cases h
def CT(B:Tab)(ms:List (Nat × Option (TB B))):SV→V2 B→Option (V2 B)
 |.one (.fpd i),.c (.ptr id 0)=>(match A9 ms id with
  |some (.box _ cs)=>(match jV ms cs with
   |some ts=>(match My (B.lv i) ts with|some x=>some (.c (.d (.fp i (B.put i x) 0)))|none=>none)
   |none=>none)
  |_=>none)
 |_,.c (.ptr _ _)=>none
 |_,.agg cs=>(match cs.all fun c=>match c with|.ptr _ _=>false|_=>true with|true=>some (.agg cs)|false=>none)
 |_,a=>some a
def fX(ms:List (Nat × Option (TB B))):List (Nat × SV)→List (V2 B)→Option (List (V2 B))
 | [],[]=>some []
 |p::l,a::vs=>match CT B ms p.2 a,fX ms l vs with|some x,some r=>some (x::r)|_,_=>none
 |_,_=>none
theorem GT{st:St}{c:C1 B}(h:∀i o,c≠ .ptr i o):X2 st c.er=F3 st c.er:=by
 cases c with
 |ptr i o=>exact(h i o rfl).elim
 |_=>rfl
theorem YV{s:TS B}{w:SV}{a z:V2 B}(h:CT B s.ms w a=some z):P6 s.er.st a.er=u0 s.er.st z.er:=by
 unfold CT at h;split at h
 ·rename_i i id;split at h
  ·rename_i ty cs hg;split at h
   ·rename_i ts hts;split at h
    ·rename_i x hx;cases h;show(match x7 s.er.ms id with|some (.box _ cs)=>(match Z9 s.er.st (cs.drop 0)with|some ts=>A.t (.fp ts)|none=>.ptr id 0)|_=>.ptr id 0)=A.t (.fp ((B.enc i (B.put i x)).drop 0));rw[L4,hg];show(match Z9 s.er.st (cs.map C1.er)with|some ts=>A.t (.fp ts)|none=>.ptr id 0)=_;rw[TD hts,T4,B.ok i x,wX hx]
    ·cases h
   ·cases h
  ·cases h
 ·cases h
 ·rename_i cs;split at h
  ·rename_i hk;cases h;show A.agg ((cs.map C1.er).map (X2 s.er.st))=A.agg ((cs.map C1.er).map (F3 s.er.st));rw[List.map_map,List.map_map];congr 1;refine List.map_congr_left fun c hc=>GT fun i o e=>?_;have:=List.all_eq_true.1 hk c hc;rw[e]at this;cases this
  ·cases h
 ·rename_i h0 h1 h2;cases h;cases a with
  |agg cs=>exact(h1 cs rfl).elim
  |c c=>have hne:∀i o,c≠ .ptr i o:=fun i o e=>h0 i o (by rw[e]);have e1:P6 s.er.st c.er=X2 s.er.st c.er:=(by cases c<;>rfl);have e2:u0 s.er.st c.er=F3 s.er.st c.er:=(by cases c<;>rfl);show P6 s.er.st c.er=u0 s.er.st c.er;rw[e1,e2,GT hne]
theorem MZ{s:TS B}:∀{l:List (Nat × SV)} {vs zs:List (V2 B)},fX s.ms l vs=some zs→(vs.map fun a=>P6 s.er.st a.er)=zs.map fun a=>u0 s.er.st a.er
 | [],[],_,h=>by cases h;rfl
 | [],_::_,_,h=>by cases h
 |_::_,[],_,h=>by cases h
 |p::l,a::vs,zs,h=>by
  unfold fX at h;split at h
  ·rename_i x r h1 h2;cases h;show P6 s.er.st a.er::_=u0 s.er.st x.er::_;rw[YV h1,MZ h2]
  ·cases h
def yD(t:LT)(o:Oper)(s:TS B)(l:Nat)(r:Res B (t.rh (t.lb l).v)):Act B:=
 match Ev (t.rh (t.lb l).v).bx&&(V9 ((X0 (t.rh (t.lb l).v).rs r.1).map (·.1))&&((t.rh (t.lb l).v).rs.all (Mv B)&&(aD (V4 (t.rh (t.lb l).v) r).er&&N5 (V4 (t.rh (t.lb l).v) r).er)))with
 |true=>.lo (s.put o.dst (V4 (t.rh (t.lb l).v) r))
 |false=>.no
def uL(P:Program)(t:LT)(g:(i:Ix B t)→Option (Bx B t i))(o:Oper)(s:TS B)(f:FuncId)(l:Nat)(vs:List (V2 B))(h:Hn):Act B:=
 match Ct (ccP h.F) s.ms h.N 0 (t.lb l).sh.sl vs,Gm (ccP h.F) s.ms h.M (t.lb l).sh.bx [],Qw h.N with
 |some a,some bb,some _=>
  (match(eqP (t.lb l).rp []&&Nat.beq (t.fn (t.lb l).v) f)&&(slots 0 (t.lb l).sh.sl&&(Kt P f (M6 (t.lb l).sh.sl a).length&&(Nat.ble (ntF P f) 900&&(Ev (Q1 (t.lb l).sh (a,bb))&&
    ((M6 (t.lb l).sh.sl a).all C4&&(vs.map fun x=>u0 s.er.st x.er).all C4)))))with
  |true=>.bnd (g ⟨l,(a,bb)⟩) fun r=>yD t o s l r
  |false=>.no)
 |_,_,_=>.no
def Hv(P:Program)(t:LT)(g:(i:Ix B t)→Option (Bx B t i))(o:Oper)(s:TS B)(c:Call)(f:FuncId)(l:Nat):Act B:=
 match Gz (c.args.toList.map s.ev)with
 |some vs=>(match fX s.ms (t.lb l).sh.sl vs with
  |some zs=>uL P t g o s f l zs (hAs B (t.lb l).sh.sl zs)
  |none=>.no)
 |none=>.no
theorem a6T{g:(i:Ix B t)→Option (Bx B t i)}(hm:T9 P t g){o:Oper}{s:TS B}{c:Call}{f:FuncId}{l:Nat}(ho:o.op=.call c)(hc:c.callee=.value (.func f)):v6 P o s (Hv P t g o s c f l):=by
 unfold Hv;split
 ·rename_i vs0 hvs;split
  ·rename_i vs hzs;have hev:c.args.toList.map s.er.st.ev=vs0.map V2.er:=by rw[Nh hvs,List.map_map];exact List.map_congr_left fun x _=>A1 s x
   have hlook:(c.args.toList.map fun x=>P6 s.er.st (s.er.st.ev x))=vs.map fun x=>u0 s.er.st x.er:=by have:=congrArg (List.map (P6 s.er.st)) hev;rw[List.map_map,List.map_map]at this;exact this.trans (MZ hzs)
   generalize hAs B (t.lb l).sh.sl vs=h;unfold uL;split
   ·rename_i a bb ns ha hb hns;split
    ·rename_i hk;intro r hr;show v6 P o s (yD t o s l r);unfold yD;split
     ·rename_i hk2;simp only[w8]at hk hk2;obtain⟨⟨e1,e2⟩,e3,e4,e5,e6,e7,e8⟩:=hk;obtain⟨k0,k1,k4,k2,k3⟩:=hk2;have hf:t.fn (t.lb l).v=f:=D2 e2;have hio:=(hm l (a,bb) r hr (Ik e1)).elim (fun hm=>Yq hm e3 (by rw[hf];exact e4) (by rw[hf];exact e5)) id;have hrm:O6 (t.rh (t.lb l).v) r=X0 (t.rh (t.lb l).v).rs r.1:=BL k0 r;rw[hf,Yg e6,hrm]at hio;have hP:FnP P f (M6 (t.lb l).sh.sl a) (V4 (t.rh (t.lb l).v) r).er:=AV hio (wY k4 (CQ k1)) k2;have hargs:=DS (zU hns) ha e7;refine⟨ns,(V4 (t.rh (t.lb l).v) r).er,[FnP P f (U2 ns 0 (vs.map fun x=>u0 s.er.st x.er)) (V4 (t.rh (t.lb l).v) r).er],?_,⟨by rw[hargs];exact hP,trivial⟩,?_⟩
      ·unfold L8;simp only[ho,hc];rw[hlook,e8,k3,M2];rfl
      ·unfold U3;simp only[ho,hc]
     ·trivial
    ·trivial
   ·trivial
  ·trivial
 ·trivial
end
end
end Go.Proofs.YtihbbcealnnpiaaGreatDoor

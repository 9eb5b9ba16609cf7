/- Parts of the proof. -/
import Derived.Test.YtihbbcealnnpiaaGreatDoorImXI
import Derived.Test.YtihbbcealnnpiaaGreatDoorImEvH
set_option linter.unusedVariables false
namespace Go.Proofs.YtihbbcealnnpiaaGreatDoor
noncomputable section
section
open Go.RowKit
variable{B:Tab}{P:Program}{t:LT}
def U4(f:Nat->Act B):List Nat->Act B
 | []=>.no
 |l::ls=>match f l with|.no=>U4 f ls|a=>a
theorem nV{o:Oper}{s:TS B}{f:Nat->Act B}(h:∀l,A5 P o s (f l)):∀z,A5 P o s (U4 f z)
 | []=>trivial
 |l::z=>by
  unfold U4;split
  ·exact nV h z
  ·exact h l
def orA(a b:Act B):Act B:=match a with|.no=>b|a=>a
def Fe(m:Nat)(a:Act B):Act B:=match m with|1=>.no|_=>a
def BN(P:Program)(t:LT)(io pu lo:FuncId->List Nat)(g:(i:Ix B t)->Option (Bx B t i))(m:Nat)(o:Oper)(s:TS B)(c:Call)(f:FuncId):Act B:=
 orA (Fe m (U4 (Le P t g o s c f) (lo f))) (orA (Fe m (U4 (Ih P t g o s c f) (io f))) (U4 (Nh P t g o s c f) (pu f)))
def Fp(P:Program)(t:LT)(dof:TypeId->Option D)(io pu lo:FuncId->List Nat):uR B t:=λg v rp i o s=>
 match o.op with
 |.call c=>(match c.callee with
  |.value (.func f)=>BN P t io pu lo g (t.hm v rp i) o s c f
  |_=>oF P dof o s)
 |_=>(match t.hm v rp i with|0=>oF P dof o s|m=>CR P dof m o s)
theorem a2F{dof:TypeId->Option D}{io pu lo:FuncId->List Nat}{g:(i:Ix B t)->Option (Bx B t i)}(F:Bf P t g)(v:Nat)(I:List Nat)(i:Nat)(o:Oper)(s:TS B):A5 P o s (Fp P t dof io pu lo g v I i o s):=by
 unfold Fp;split
 ·rename_i c C;split
  ·rename_i f G;unfold BN;have K:=nV (P:=P) (o:=o) (s:=s) (f:=Ih P t g o s c f) (λl=>a3H F C G) (io f);have H:=nV (P:=P) (o:=o) (s:=s) (f:=Nh P t g o s c f) (λl=>a6O F C G) (pu f);have L:∀m,A5 P o s (Fe m (U4 (Ih P t g o s c f) (io f))):=λm=>by
    unfold Fe;split
    ·trivial
    ·exact K
   have J:∀m,A5 P o s (Fe m (U4 (Le P t g o s c f) (lo f))):=λm=>by
    unfold Fe;split
    ·trivial
    ·exact nV (λl=>a8N F C G) (lo f)
   have z:∀{a b:Act B},A5 P o s a->A5 P o s b->A5 P o s (orA a b):=λ{a b} ha hb=>by
    unfold orA;split
    ·exact hb
    ·exact ha
   exact z (J _) (z (L _) H)
  ·exact JF
 ·split
  ·exact JF
  ·exact b1p
theorem YP{hand:(i:Ix B t)->Option (Bx B t i)}{dof:TypeId->Option D}{io pu lo:FuncId->List Nat}{fuel:Nat}(z:P.follows .mixedOrders=true)(C:∀l v,(t.lb l).v=v->t.hd l=false->∃G,P.funcs[t.fn v]? =some G)(hh:∀l x r,t.hd l=true->hand ⟨l,x⟩=some r->Hp P t l x r):Bf P t (J0 (EVB (B:=B) P t hand (Fp P t dof io pu lo) fuel)):=
 a9a z C hh λg H v F i o s=>a2F H v F i o s
abbrev Gt(B:Tab)(t:LT):Type:=(i:Ix B t)->Option (Bx B t i)
theorem wZ{z:Type}(b:Bool){F G:Gt B t->Option z}(H:J2 F)(C:J2 G):J2 λg=>cond b (F g) (G g):=by
 cases b
 ·exact C
 ·exact H
def Ky(f:Gt B t->Act B):Prop:=∀{ρ:Type} (k:Gt B t->TS B->Nat->Option ρ),(∀s lk,J2 λg=>k g s lk)->J2 λg=>Oe (f g) (k g)
theorem Lj:∀a:Act B,Ky (t:=t) λ_=>a
 |.no=>λk z=>T5 none
 |.st s lk=>λk z=>z s _
 |.bnd x f=>λk z=>CM (T5 x) λy=>Lj (f y) k z
 |.cas b x y=>λk z=>wZ b (Lj x k z) (Lj y k z)
 |.lo s=>λk z=>z s 2
 |.sem s=>λk z=>z s 3
theorem b4V(i:Ix B t)(f:Bx B t i->Act B):Ky (t:=t) λg=>.bnd (g i) f:=λk z=>CM (FM i) λy=>Lj (f y) k z
def Cv(f:Gt B t->Act B):Prop:=(∃a,∀g,f g=a)\/∃i k,∀g,f g=.bnd (g i) k
theorem a4q{f:Gt B t->Act B}(h:Cv f):Ky f:=by
 rcases h with⟨a,C⟩|⟨i,k,z⟩
 ·rw[show f=λ_=>a from funext C];exact Lj a
 ·rw[show f=λg=>.bnd (g i) k from funext z];exact b4V i k
theorem mM{f:Gt B t->Nat->Act B}(h:∀l,Cv λg=>f g l):∀z,Cv λg=>U4 (f g) z
 | []=>.inl ⟨.no,λ_=>rfl⟩
 |l::z=>by
  rcases h l with⟨a,C⟩|⟨i,k,F⟩
  ·cases a with
   |no=>
    rcases mM h z with⟨b,G⟩|⟨i,k,F⟩
    ·exact .inl ⟨b,λg=>by show(match f g l with|.no=>U4 (f g) z|a=>a)=b;rw[show f g l=_ from C g];exact G g⟩
    ·exact .inr ⟨i,k,λg=>by show(match f g l with|.no=>U4 (f g) z|a=>a)=_;rw[show f g l=_ from C g];exact F g⟩
   |st s lk=>exact .inl ⟨.st s lk,λg=>by show(match f g l with|.no=>U4 (f g) z|a=>a)=_;rw[show f g l=_ from C g]⟩
   |bnd x k=>exact .inl ⟨.bnd x k,λg=>by show(match f g l with|.no=>U4 (f g) z|a=>a)=_;rw[show f g l=_ from C g]⟩
   |lo s=>exact .inl ⟨.lo s,λg=>by show(match f g l with|.no=>U4 (f g) z|a=>a)=_;rw[show f g l=_ from C g]⟩
   |sem s=>exact .inl ⟨.sem s,λg=>by show(match f g l with|.no=>U4 (f g) z|a=>a)=_;rw[show f g l=_ from C g]⟩
   |cas b x y=>exact .inl ⟨.cas b x y,λg=>by show(match f g l with|.no=>U4 (f g) z|a=>a)=_;rw[show f g l=_ from C g]⟩
  ·exact .inr ⟨i,k,λg=>by show(match f g l with|.no=>U4 (f g) z|a=>a)=_;rw[show f g l=_ from F g]⟩
theorem KL{f z:Gt B t->Act B}(H:Cv f)(G:Cv z):Cv λg=>orA (f g) (z g):=by
 rcases H with⟨a,C⟩|⟨i,k,F⟩
 ·cases a with
  |no=>
   rcases G with⟨b,I⟩|⟨i,k,F⟩
   ·exact .inl ⟨b,λg=>by show orA (f g) (z g)=b;rw[C g];exact I g⟩
   ·exact .inr ⟨i,k,λg=>by show orA (f g) (z g)=_;rw[C g];exact F g⟩
  |st s lk=>exact .inl ⟨.st s lk,λg=>by show orA (f g) (z g)=_;rw[C g];rfl⟩
  |bnd x k=>exact .inl ⟨.bnd x k,λg=>by show orA (f g) (z g)=_;rw[C g];rfl⟩
  |lo s=>exact .inl ⟨.lo s,λg=>by show orA (f g) (z g)=_;rw[C g];rfl⟩
  |sem s=>exact .inl ⟨.sem s,λg=>by show orA (f g) (z g)=_;rw[C g];rfl⟩
  |cas b x y=>exact .inl ⟨.cas b x y,λg=>by show orA (f g) (z g)=_;rw[C g];rfl⟩
 ·exact .inr ⟨i,k,λg=>by show orA (f g) (z g)=_;rw[F g];rfl⟩
theorem a5R(P:Program)(o:Oper)(s:TS B)(c:Call)(f:FuncId)(l:Nat):Cv λg=>Ih P t g o s c f l:=by
 unfold Ih bP;split
 ·split
  ·split
   ·split
    ·exact .inr ⟨_,_,λg=>rfl⟩
    ·exact .inl ⟨_,λg=>rfl⟩
   ·exact .inl ⟨_,λg=>rfl⟩
  ·exact .inl ⟨_,λg=>rfl⟩
 ·exact .inl ⟨_,λg=>rfl⟩
theorem a66(P:Program)(o:Oper)(s:TS B)(c:Call)(f:FuncId)(l:Nat):Cv λg=>Nh P t g o s c f l:=by
 unfold Nh gQ
 repeat' split
 all_goals first
  |exact .inr ⟨_,_,λg=>rfl⟩
  |exact .inl ⟨_,λg=>rfl⟩
theorem a1z(P:Program)(o:Oper)(s:TS B)(c:Call)(f:FuncId)(l:Nat):Cv λg=>Le P t g o s c f l:=by
 unfold Le xO
 repeat' split
 all_goals first
  |exact .inr ⟨_,_,λg=>rfl⟩
  |exact .inl ⟨_,λg=>rfl⟩
theorem b3F(P:Program)(io pu lo:FuncId->List Nat)(m:Nat)(o:Oper)(s:TS B)(c:Call)(f:FuncId):Cv λg=>BN P t io pu lo g m o s c f:=by
 have C:Cv λg=>Fe m (U4 (Ih P t g o s c f) (io f)):=by
  unfold Fe;split
  ·exact .inl ⟨_,λg=>rfl⟩
  ·exact mM (f:=λg=>Ih P t g o s c f) (λl=>a5R P o s c f l) (io f)
 have z:Cv λg=>Fe m (U4 (Le P t g o s c f) (lo f)):=by
  unfold Fe;split
  ·exact .inl ⟨_,λg=>rfl⟩
  ·exact mM (f:=λg=>Le P t g o s c f) (λl=>a1z P o s c f l) (lo f)
 refine KL z ?_;exact KL C (mM (f:=λg=>Nh P t g o s c f) (λl=>a66 P o s c f l) (pu f))
theorem SY(P:Program)(dof:TypeId->Option D)(io pu lo:FuncId->List Nat)(v:Nat)(z:List Nat)(i:Nat)(o:Oper)(s:TS B):Ky λg=>Fp P t dof io pu lo g v z i o s:=by
 unfold Fp;split
 ·split
  ·exact a4q (b3F P io pu lo _ o s _ _)
  ·exact Lj _
 ·exact Lj _
section
variable{act:Gt B t->List Nat->Nat->Oper->TS B->Act B}
theorem wW{H:Type}{act:Gt B t->Oper->TS B->Act B}(I:∀o s,Ky λg=>act g o s)(C:Bool)(F:List Nat)(o:Oper)(s:TS B){k:Gt B t->TS B->Nat->Option H}(G:∀s m,J2 λg=>k g s m):J2 λg=>Er C (act g) F o s (k g):=by
 unfold Er;split
 ·rename_i J _;refine I o J (λg z m=>match !C||(!Nat.beq m 3&&(Au o s.er.st|| !Nat.beq m 0))with|true=>k g z m|false=>none) λz m=>?_;split
  ·exact G z m
  ·exact T5 none
 ·exact T5 none
theorem UR{K:Type}{act:Gt B t->Nat->Oper->TS B->Act B}(I:∀i o s,Ky λg=>act g i o s)(G:Bool)(H:Nat->List Nat)(F:List Oper){k:Gt B t->TS B->Fps->Option K}(J:∀s f,J2 λg=>k g s f):∀(l:List Oper) (i:Nat) (s:TS B) (z:Fps),J2 λg=>R1 G H (act g) F i l s z (k g)
 | [],i,s,z=>J s z
 |o::rest,i,s,z=>by
  have go:=λs z=>UR I G H F J rest (i+1) s z;unfold R1;split
  ·exact wW (I i) G _ o s (k:=λg C m=>R1 G H (act g) F (i+1) rest C _ (k g)) λC m=>go C _
  ·split
   ·exact T5 none
   ·split
    ·refine wZ _ ?_ ?_
     ·split
      ·exact wW (I i) G _ o _ (k:=λg C m=>R1 G H (act g) F (i+1) rest C _ (k g)) λC m=>go C _
      ·exact go _ _
     ·split
      ·exact wW (I i) G _ o _ (k:=λg C m=>R1 G H (act g) F (i+1) rest C _ (k g)) λC m=>go C _
      ·exact go _ _
    ·exact go _ _
    ·exact T5 none
theorem b2t{J:Type}{act:Gt B t->Nat->Oper->TS B->Act B}(K:∀i o s,Ky λg=>act g i o s)(F:Bool)(G:Nat->List Nat)(z:Array Oper)(s:TS B){k:Gt B t->TS B->Option J}(H:∀s,J2 λg=>k g s):J2 λg=>aJ F G (act g) z s (k g):=by
 unfold aJ;split
 ·exact T5 none
 ·split
  ·refine UR K F G _ (k:=λg I C=>match !F||(Wn z.toList&&kL z.toList C.reverse)with|true=>k g I|false=>none) (λs f=>?_) _ 0 _ [];split
   ·exact H s
   ·exact T5 none
  ·exact T5 none
theorem a9U{a b:Nat}(h:a=b){F:Gt B t->Option (Res B (t.rh a))}(z:J2 F):J2 λg=>Gb h (F g):=by subst h;exact z
theorem XO(P:Program)(v l:Nat)(s:TS B):J2 λg=>Nq P t g v l s:=by
 unfold Nq;split
 ·rename_i h _;split
  ·exact a9U h (FM _)
  ·exact T5 none
 ·exact T5 none
theorem DF(P:Program)(G:∀C i o s,Ky λg=>act g C i o s)(v:Nat):∀(n:Nat) (m:Md) (s:TS B),J2 λg=>evM P t g (act g) v n m s
 |0,m,s=>T5 none
 |n+1,m,s=>by
  have z:=DF P G v n;cases m with
  |go C=>
   unfold evM;split
   ·split
    ·exact XO P v _ s
    ·exact T5 none
   ·exact z _ _
  |inn C=>
   unfold evM;split
   ·exact b2t (G C) _ _ _ s (k:=λg F=>evM P t g (act g) v n (.up C .normal) F) λF=>z _ _
   ·exact z _ _
   ·split
    ·exact wZ _ (z _ _) (z _ _)
    ·exact T5 none
   ·exact z _ _
   ·exact z _ _
   ·exact z _ _
   ·exact z _ _
   ·exact T5 none
  |up C e=>
   cases C with
   |nil=>unfold evM;split<;>exact T5 _
   |cons i C=>
    unfold evM
    repeat' split
    all_goals first
     |exact z _ _
     |exact XO P v _ s
     |exact T5 none
end
theorem PB(P:Program)(hand:Gt B t)(dof:TypeId->Option D)(io pu lo:FuncId->List Nat)(fuel:Nat)(i:Ix B t):J2 λg=>EVB P t hand (Fp P t dof io pu lo) fuel g i:=by
 unfold EVB;split
 ·exact T5 _
 ·unfold evL;split
  ·exact DF P (act:=λg=>Fp P t dof io pu lo g (t.lb i.1).v) (λz i o s=>SY P dof io pu lo _ z i o s) _ fuel _ _
  ·exact DF P (act:=λg=>Fp P t dof io pu lo g (t.lb i.1).v) (λz i o s=>SY P dof io pu lo _ z i o s) _ fuel _ _
end
section
open Go.RowKit
structure VR where
 fn:FuncId
 rh:Rh
 lat:List (List Nat × Nat)
 hz:List (List Nat × Nat × List Nat)
 hm:List (List Nat × Nat × Nat)
def lb0:Lb:=⟨0,[],⟨[],[]⟩⟩
def vr0:VR:=⟨0,⟨[],[]⟩,[],[],[]⟩
def Jh{α:Type}(d:α)(l:List (List α))(n:Nat):α:=(l.getD (n/16) []).getD (n%16) d
def QU:List (List Nat × Nat)->List Nat->Option Nat
 | [],_=>none
 |(p,l)::r,q=>match eqP p q with|true=>some l|false=>QU r q
def hzL:List (List Nat × Nat × List Nat)->List Nat->Nat->List Nat
 | [],_,_=>[]
 |(p,i,z)::r,q,j=>match Nat.beq i j&&eqP p q with|true=>z|false=>hzL r q j
def hmL:List (List Nat × Nat × Nat)->List Nat->Nat->Nat
 | [],_,_=>0
 |(p,i,z)::r,q,j=>match Nat.beq i j&&eqP p q with|true=>z|false=>hmL r q j
def Cj:List (FuncId × List Nat)->FuncId->List Nat
 | [],_=>[]
 |(f,l)::r,g=>match Nat.beq f g with|true=>l|false=>Cj r g
def Vn(lbs:List (List Lb))(vs:List (List VR))(hands:List Nat):LT where
 lb:=Jh lb0 lbs
 fn:=λv=>(Jh vr0 vs v).fn
 rh:=λv=>(Jh vr0 vs v).rh
 lat:=λv=>QU (Jh vr0 vs v).lat
 hd:=λl=>D9 hands l
 hz:=λv=>hzL (Jh vr0 vs v).hz
 hm:=λv=>hmL (Jh vr0 vs v).hm
def b1E:Nat:=(λ(_:(((i:Unit)->Option Unit)->(i:Unit)->Option Unit)->(i:Unit)->Option Unit)=>0) (J0 (ι:=Unit) (β:=λ_=>Unit))
def Dm{α β:Type}(h:α=β)(x:α):β:=(λ(_:Nat)=>h▸x) b1E
def mkI{B:Tab}{t:LT}{α:Type}(l:Nat)(x:α)(h:α=Vars B (t.lb l).sh:=by kernel_rfl):Ix B t:=⟨l,Dm h x⟩
def aP{α β:Type}(o:Option α)(h:α=β:=by kernel_rfl):Option β:=Dm (congrArg Option h) o
theorem MD{B:Tab}{t:LT}{F:Gt B t->Gt B t}(z:∀i,J0 F i=F (J0 F) i)(i:Ix B t){β:Type}(h:Bx B t i=β):aP (J0 F i) h=aP (F (J0 F) i) h:=by rw[z i]
section
variable{ι:Type}{β:ι->Type}
theorem a5d{H:Type}(b:Bool){F G:((i:ι)->Option (β i))->Option H}(C:J2 F)(z:J2 G):J2 λg=>cond b (F g) (G g):=by
 cases b
 ·exact z
 ·exact C
theorem b1B{N:((i:ι)->Option (β i))->(i:ι)->Option (β i)}{z:(i:ι)->Option (β i)}(F:∀i,J2 λg=>N g i)(G:∀i,z i=N z i){i:ι}{r:β i}(h:J0 N i=some r):z i=some r:=by
 obtain⟨n,C⟩:=uT h;clear h
 induction n generalizing i with
 |zero=>cases C
 |succ n ih=>rw[G i];exact xE (F i) (λj x hx=>ih hx) C
end
theorem Pf{P:Program}{f:FuncId}{args:List A}{r:A}(h:FnP P f args r)(N:args.all E2=true):Y7 P f args [] r []:=by
 refine⟨h.1,λC L z Q J K I G=>?_⟩;have M:∀b,Mut C (mst []) L b->b<C.w0.heap.size:=by
  rintro b (hx|⟨i,hi,_⟩)
  ·exact K.old b hx
  ·cases hi
 refine(h.2 C.w0 (Mut C (mst []) L) z M I λi hi=>SO (x:=args[i]) ?_ (G i hi)).mono ?_
 ·have H:E2 (args[i])=true:=List.all_eq_true.1 N _ (B0 hi);generalize args[i]=x at H;cases x with
  |tup cs=>cases H
  |_=>exact IV H
 ·rintro e w' ⟨v,rfl,F,O⟩;exact⟨v,L,rfl,K.later F.os F.tape F.output F.size F.block,RepA.ext O (Ext.refl _ _) (λb _ h=>h) (λid hi=>by simp at hi) (λid hi=>by simp at hi)⟩
structure Ib(B:Tab)(t:LT)(P:Program) where
 l:Nat
 f:Vars B (t.lb l).sh->Option (Res B (t.rh (t.lb l).v))
 ok:∀x r,f x=some r->Hp P t l x r
def vK{B:Tab}{t:LT}{P:Program}:List (Ib B t P)->(i:Ix B t)->Option (Bx B t i)
 | [],_=>none
 |h::hs,⟨l,x⟩=>match Nat.decEq h.l l with
  |.isTrue e=>(e▸h.f:Vars B (t.lb l).sh->Option (Res B (t.rh (t.lb l).v))) x
  |.isFalse _=>vK hs ⟨l,x⟩
theorem XN{B:Tab}{t:LT}{P:Program}:∀(z:List (Ib B t P)) (l:Nat) (x:Vars B (t.lb l).sh) (r:Res B (t.rh (t.lb l).v)),vK z ⟨l,x⟩=some r->Hp P t l x r
 | [],l,x,r,h=>by cases h
 |k::z,l,x,r,h=>by
  unfold vK at h;split at h
  ·rename_i e _;subst e;exact k.ok x r h
  ·exact XN z l x r h
def Qj{B:Tab}{t:LT}{P:Program}{α β:Type}(l:Nat)(f:α->Option β)(hα:Vars B (t.lb l).sh=α:=by kernel_rfl)(hβ:β=Res B (t.rh (t.lb l).v):=by kernel_rfl)(ok:∀x r,f x=some r->Hp P t l (Dm hα.symm x) (Dm hβ r)):Ib B t P where
 l:=l
 f:=λx=>Dm (congrArg Option hβ) (f (Dm hα x))
 ok:=λx r h=>by subst hα;subst hβ;exact ok x r h
theorem a2z{α:Type}{d:α}{l:List (List α)}{p:α->Bool}(hd:p d=true)(h:(l.all λc=>c.all p)=true)(n:Nat):p (Jh d l n)=true:=by
 unfold Jh;have C:∀(c:List α) (m:Nat),c.all p=true->p (c.getD m d)=true:=λc m F=>by
  rw[List.getD_eq_getElem?_getD];cases z:c[m]? with
  |none=>exact hd
  |some x=>exact List.all_eq_true.1 F x (O8 z)
 refine C _ _ ?_;rw[List.getD_eq_getElem?_getD];cases z:l[n/16]? with
 |none=>rfl
 |some c=>exact List.all_eq_true.1 h c (O8 z)
theorem LV{P:Program}{lbs:List (List Lb)}{vs:List (List VR)}{hands:List Nat}(h0:(P.funcs[vr0.fn]?).isSome=true)(h:(vs.all λc=>c.all λr=>(P.funcs[r.fn]?).isSome)=true)(l v:Nat)(_:((Vn lbs vs hands).lb l).v=v)(_:(Vn lbs vs hands).hd l=false):∃z,P.funcs[(Vn lbs vs hands).fn v]? =some z:=
 B5.1 (a2z (p:=λr:VR=>(P.funcs[r.fn]?).isSome) h0 h v)
theorem a0k{α β:Type}{o:Option α}{f:α->β}{r:β}(h:o.map f=some r):∃x,o=some x/\f x=r:=by
 cases o with
 |none=>cases h
 |some x=>exact⟨x,rfl,Option.some.inj h⟩
theorem ZQ{B:Tab}{P:Program}{t:LT}{g:Gt B t}(C:Bf P t g){l:Nat}{α β:Type}{x:α}{hx:α=Vars B (t.lb l).sh}{hT:Res B (t.rh (t.lb l).v)=β}{r:β}(h:aP (g (mkI l x hx)) hT=some r)(G:(eqP (t.lb l).rp []&&(slots 0 (t.lb l).sh.sl&&(Nz P (t.fn (t.lb l).v) (Q1 (t.lb l).sh.sl (Dm hx x).1).length&&(Nat.ble (ntF P (t.fn (t.lb l).v)) 900&&(Ie (U1 (t.lb l).sh (Dm hx x))&&(Ie (t.rh (t.lb l).v).bx&&(Ax ((Bi (t.rh (t.lb l).v).rs (Dm hT.symm r).1).map (·.1))&&((t.rh (t.lb l).v).rs.all (Qi B)&&dK (Ap (t.rh (t.lb l).v) (Dm hT.symm r)).er))))))))=true):FnP P (t.fn (t.lb l).v) (Q1 (t.lb l).sh.sl (Dm hx x).1) (Ap (t.rh (t.lb l).v) (Dm hT.symm r)).er:=by subst hx;subst hT;simp only[x7]at G;obtain⟨N,O,Q,I,J,K,H,R,M⟩:=G;have L:g ⟨l,x⟩=some r:=h;have z:=(C l x r L (Lv N)).elim (λC=>bX C O Q I) id;have F:R8 (t.rh (t.lb l).v) r=Bi (t.rh (t.lb l).v).rs r.1:=EP K r;rw[show U1 (t.lb l).sh x=[]from bL J,F]at z;exact EB z (AC R (FU H)) M
end
end
end Go.Proofs.YtihbbcealnnpiaaGreatDoor

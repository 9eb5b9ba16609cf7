/- Parts of the proof. -/
import Derived.Test.YtihbbcealnnpiaaGreatDoorImXA
import Derived.Deep.LoopGhost
import Derived.Orders
set_option linter.unusedVariables false
namespace Go.Proofs.YtihbbcealnnpiaaGreatDoor
section
section
open Go.RowKit
variable{C:Ctx}{st st':St}{L L':Nat->Loc}{a:Act}{w:World}{P:Program}
inductive LeT:T->T->Prop
 |refl(x:T):LeT x x
 |nil(k:Nat):LeT (.v (.slice none 0 0)) (.sl k [])
 |nil0(k k':Nat):LeT (.sl k []) (.sl k' [])
 |sl(k:Nat)(xs ys:List (List T))(hl:xs.length=ys.length)(hk:∀i (hi:i<xs.length) (hi':i<ys.length),(xs[i]).length=(ys[i]).length)
   (h:∀i (hi:i<xs.length) (hi':i<ys.length) j (hj:j<(xs[i]).length) (hj':j<(ys[i]).length),LeT (xs[i][j]) (ys[i][j])):LeT (.sl k xs) (.sl k ys)
theorem LeT.rep{w:World}{M:Nat->Prop}{x y:T}(h:LeT x y):∀{v:Value},RepT w M x v->RepT w M y v:=by
 induction h with
 |refl x=>intro v h;exact h
 |nil k=>intro v h;cases h;exact .nil k none 0 (D2 _)
 |nil0 k k'=>
  intro v h;cases h with
  |nil _ a cap hcm=>exact .nil k' a cap hcm
  |sl _ _ b off cap c hb hM hcap hcm hk hc hr=>exact .sl k' [] b off cap c hb hM hcap hcm (λi hi=>by simp at hi) (λi hi=>by simp at hi) (λi hi=>by simp at hi)
 |sl k xs ys hl hk h ih=>
  intro v h;cases h with
  |nil _ a cap hcm=>have:ys=[]:=List.eq_nil_of_length_eq_zero (by simpa using hl.symm);subst this;exact .nil k a cap hcm
  |sl _ _ b off cap c hb hM hcap hcm hkk hc hr=>rw[hl];refine .sl k ys b off cap c hb hM (by omega) hcm (λi hi=>by rw[<-hk i (by omega) hi];exact hkk i (by omega)) (λi hi j B=>hc i (by omega) j B) (λi hi j B=>?_);have z:j<(xs[i]'(by omega)).length:=(by rw[hk i (by omega) hi];exact B);exact ih i (by omega) hi j z B (hr i (by omega) j z)
theorem LeT.map{α:Type}{k:Nat}(f:α->List T)(l:List α)(xs:List (List T))(h:xs=l.map f):LeT (.sl k xs) (.sl k (l.map f)):=by subst h;exact .refl _
def look{α:Type}:List (Nat × α)->Nat->Option α
 | [],_=>none
 |(k,x)::l,i=>if i=k then some x else look l i
def R7(n:Nat)(es:List (Nat × A))(ms:List (Nat × Blk)):St:=⟨n,λt=>(look es t).getD .dead,look ms,λi=>(look ms i).isSome⟩
theorem V4{α:Type}:∀{l:List (Nat × α)} {i:Nat} {x:α},look l i=some x->(i,x)∈l
 | [],i,x,h=>by cases h
 |(k,y)::l,i,x,h=>by
  unfold look at h;split at h
  ·rename_i e;subst e;cases h;exact I2
  ·exact J1 _ (V4 h)
def QE(i:Nat):A->Option Nat
 |.ref j=>some j
 |.t (.v (.slice none 0 0))=>none
 |_=>some i
def b1e(i c:Nat):Option Blk->Option Nat
 |some (.box _ cells)=>QE i ((cells[c]?).getD .dead)
 |_=>some i
def Tj(st:St)(i:Nat):Option Nat:=
 if i<1000 then some i
 else if i<100000 then QE i (st.env (i-1000))
 else b1e i ((i-100000)%100) (st.mem ((i-100000)/100))
def le1(ρ:Nat->Option Nat)(st:St)(ms:List (Nat × Blk)):A->A->Prop
 |.t x,.t y=>LeT x y
 |.t x,.ref i=>x=.v (.slice none 0 0)/\ρ i=none/\∃e k,look ms i=some (.row e k [])
 |.ref j,.ref i=>ρ i=some j/\(look ms i).isSome=true
 |.ref j,.t y=>∃e k xs,st.mem j=some (.row e k xs)/\LeT (.sl k xs) y/\∀p∈ms,ρ p.1≠some j
 |.ptr j o,.ptr i o'=>ρ i=some j/\o=o'/\(look ms i).isSome=true
 |.ifc t j o,.ifc t' i o'=>ρ i=some j/\(t=t'/\o=o')/\(look ms i).isSome=true
 |.rptr j p q,.rptr i p' q'=>ρ i=some j/\p=p'/\q=q'/\(look ms i).isSome=true
 |.ob j,.ob i=>ρ i=some j/\(look ms i).isSome=true
 |.fel x,.fel y=>x=y
 |_,_=>False
def Dh(ρ:Nat->Option Nat)(st:St)(ms:List (Nat × Blk)):List A->List A->Prop
 | [],[]=>True
 |x::l,y::r=>le1 ρ st ms x y/\Dh ρ st ms l r
 |_,_=>False
def le2(ρ:Nat->Option Nat)(st:St)(ms:List (Nat × Blk)):A->A->Prop
 |.agg cs,.agg ds=>Dh ρ st ms cs ds
 |x,y=>le1 ρ st ms x y
def leA(ρ:Nat->Option Nat)(st:St)(ms:List (Nat × Blk)):A->A->Prop
 |_,.dead=>True
 |.tup cs,.tup ds=>Dh ρ st ms cs ds
 |x,y=>le2 ρ st ms x y
def WY:List (List T)->List (List T)->Prop
 |xs,ys=>xs.length=ys.length/\(∀i (hi:i<xs.length) (hi':i<ys.length),(xs[i]).length=(ys[i]).length)/\∀i (hi:i<xs.length) (hi':i<ys.length) j (hj:j<(xs[i]).length) (hj':j<(ys[i]).length),LeT (xs[i][j]) (ys[i][j])
theorem a0R(xs:List (List T)):WY xs xs:=⟨rfl,λ_ _ _=>rfl,λ_ _ _ _ _ _=>.refl _⟩
def leB(ρ:Nat->Option Nat)(st:St)(ms:List (Nat × Blk)):Blk->Blk->Prop
 |.box ty cs,.box ty' ds=>ty=ty'/\Dh ρ st ms cs ds
 |.row e k xs,.row e' k' ys=>e=e'/\k=k'/\WY xs ys
 |.obj x,.obj y=>x=y
 |_,_=>False
def leM(ρ:Nat->Option Nat)(st:St)(ms:List (Nat × Blk))(p:Nat × Blk):Prop:=
 match ρ p.1 with
 |some j=>∃b,st.mem j=some b/\leB ρ st ms b p.2
 |none=>∃e k,p.2=.row e k []/\0<k
theorem BU{ρ:Nat->Option Nat}{ms:List (Nat × Blk)}{x y:A}(h:le1 ρ st ms x y):y.single=true:=by unfold le1 at h;split at h<;>first|rfl|exact h.elim
theorem Xu{ρ:Nat->Option Nat}{ms:List (Nat × Blk)}:∀{cs B:List A},Dh ρ st ms cs B->cs.length=B.length/\∀i (hi:i<cs.length) (z:i<B.length),le1 ρ st ms (cs[i]) (B[i])
 | [],[],_=>⟨rfl,λi hi=>by simp at hi⟩
 |x::l,y::r,h=>by
  obtain⟨H,F⟩:=h;obtain⟨I,G⟩:=Xu F;refine⟨by simp[I],λi hi z=>?_⟩;cases i with
  |zero=>exact H
  |succ i=>exact G i (by simpa using hi) (by simpa using z)
 | [],y::r,h=>h.elim
 |x::l,[],h=>h.elim
section fit
variable{ρ:Nat->Option Nat}{es:List (Nat × A)}{ms:List (Nat × Blk)}
structure V0(ρ:Nat->Option Nat)(st:St)(es:List (Nat × A))(ms:List (Nat × Blk)):Prop where
 hes:∀p∈es,leA ρ st ms (st.env p.1) p.2
 hms:∀p∈ms,leM ρ st ms p
 inj:∀p∈ms,∀q∈ms,∀j,ρ p.1=some j->ρ q.1=some j->p.1=q.1
theorem aH(S:z8 C st L a w)(U:V0 ρ st es ms){L':Nat->Loc}(hL:∀i,L' i=match ρ i with|some j=>L j|none=>nol){M':Nat->Prop}(M:∀b,M' b->Mut C st L b)(O:∀j,(∀p∈ms,ρ p.1≠some j)->(st.mem j).isSome=true->∀b,(L j).has b->¬M' b){n:Nat}{x y:A}{v:Value}(h:le1 ρ st ms x y)(J:RepA st L w (Mut C st L) x v):RepA (R7 n es ms) L' w M' y v:=by
 have G:∀{i:Nat} {b':Blk},look ms i=some b'->∀{j},ρ i=some j->∃b,st.mem j=some b/\leB ρ st ms b b':=λ{i b'} hi {j} F=>by have:=U.hms _ (V4 hi);unfold leM at this;rw[F]at this;exact this
 unfold le1 at h;split at h
 ·exact .t _ _ (h.rep ((Di J).ext (Ext.refl _ _) (λb _=>M b)))
 ·obtain⟨rfl,Y,e,k,I⟩:=h;have:=D3 J;subst this;refine .ref _ _ rfl (by simp[R7,I]) λQ R K B=>?_;have:look ms _=some (.row Q R K):=B;rw[I]at this;cases this;rw[hL,Y];rfl
 ·rename_i j i;obtain⟨F,I⟩:=h;cases J with
  |ref _ _ h1 hus hq=>
   refine .ref _ _ h1 I λQ R K B=>?_;obtain⟨b,H,z⟩:=G B F;cases b with
   |box=>exact z.elim
   |obj=>exact z.elim
   |row e k xs=>rw[hL,F];have:=hq _ _ _ H;rw[this,z.2.2.1]
 ·rename_i j y;obtain⟨e,k,xs,B,z,N⟩:=h;cases J with
  |ref _ _ h1 hus hq=>rw[hq _ _ _ B];exact .t _ _ (z.rep (hY (S.mem _ _ B).2 (λb H=>⟨(S.out j b (by rw[B];rfl) (.inl H)).2.1,O j N (by rw[B];rfl) b (.inl H)⟩) (λb _=>M b)))
 ·rename_i j o i X;obtain⟨F,rfl,I⟩:=h;cases J with
  |ptr _ _ _ h1 hus hq=>
   refine .ptr _ _ _ h1 I λV cs B=>?_;obtain⟨b,H,z⟩:=G B F;cases b with
   |box ty' cs'=>rw[hL,F];exact hq _ _ H
   |row=>exact z.elim
   |obj=>exact z.elim
 ·rename_i t1 j o Z i X;obtain⟨F,⟨rfl,rfl⟩,I⟩:=h;cases J with
  |ifc _ _ _ _ h1 hus hq=>
   refine .ifc _ _ _ _ h1 I λV cs B=>?_;obtain⟨b,H,z⟩:=G B F;cases b with
   |box ty' cs'=>rw[hL,F];exact hq _ _ H
   |row=>exact z.elim
   |obj=>exact z.elim
 ·rename_i j p q i p' q';obtain⟨F,rfl,rfl,I⟩:=h;cases J with
  |rptr _ _ _ _ h1 hus hq=>
   refine .rptr _ _ _ _ h1 I λe k xs B=>?_;obtain⟨b,H,z⟩:=G B F;cases b with
   |box=>exact z.elim
   |obj=>exact z.elim
   |row Q R K=>rw[hL,F,<-z.2.1];exact hq _ _ _ H
 ·rename_i j i;obtain⟨F,I⟩:=h;cases J with
  |ob _ _ h1 hus hq=>
   refine .ob _ _ h1 I λod B=>?_;obtain⟨b,H,z⟩:=G B F;cases b with
   |box=>exact z.elim
   |row=>exact z.elim
   |obj od'=>have e:od'=od:=z;subst e;rw[hL,F];exact hq _ H
 ·subst h;cases J with
  |fel _ b off c H B hc J=>exact .fel _ b off c H (λh=>B (M b h)) hc λj F=>(J j F).ext (Ext.refl _ _) (λb _=>M b)
 ·exact h.elim
theorem sF(I:z8 C st L a w)(H:V0 ρ st es ms){L':Nat->Loc}(hL:∀i,L' i=match ρ i with|some j=>L j|none=>nol){M':Nat->Prop}(F:∀b,M' b->Mut C st L b)(z:∀j,(∀p∈ms,ρ p.1≠some j)->(st.mem j).isSome=true->∀b,(L j).has b->¬M' b){n:Nat}{x y:A}{v:Value}(h:le2 ρ st ms x y)(B:RepA st L w (Mut C st L) x v):RepA (R7 n es ms) L' w M' y v:=by
 unfold le2 at h;split at h
 ·rename_i cs J;obtain⟨K,G⟩:=Xu h;cases B with
  |agg _ vs hsz h1 B=>exact .agg J vs (by omega) (λi hi=>BU (G i (by omega) hi)) (λi hi=>aH I H hL F z (G i (by omega) hi) (B i (by omega)))
 ·exact aH I H hL F z h B
end fit
end
section
open Go.RowKit
variable{C:Ctx}{st st' st2:St}{L L':Nat->Loc}{a:Act}{w:World}{P:Program}
def Pa:Act:={tmps:= #[],defers:=[]}
abbrev mst(m:List (Nat × Blk)):St:=R7 0 [] m
def Y7(P:Program)(f:FuncId)(args:List A)(m:List (Nat × Blk))(r:A)(m':List (Nat × Blk)):Prop:=
 Lg P f=true/\∀(C:Ctx) (L:Nat->Loc) (vals:Array Value),C.P=P->(∀id b,C.pin id=some b->900<=id)->z8 C (mst m) L Pa C.w0->vals.size=args.length->
  (∀i (hi:i<args.length),RepA (mst m) L C.w0 (Mut C (mst m) L) (args[i]) (vals.getD i undef))->
  Calls P f vals C.w0 λe w'=>∃v L',e=.returned v/\z8 C (mst m') L' Pa w'/\RepA (mst m') L' w' (Mut C (mst m') L') r v
def Ec(ρ:Nat->Option Nat)(st:St)(ms:List (Nat × Blk)):List A->List A->Prop
 | [],[]=>True
 |x::l,y::r=>le2 ρ st ms x y/\Ec ρ st ms l r
 |_,_=>False
def le3(ρ:Nat->Option Nat)(st:St)(ms:List (Nat × Blk)):A->A->Prop
 |.tup cs,.tup ds=>Ec ρ st ms cs ds
 |x,y=>le2 ρ st ms x y
theorem wY{ρ:Nat->Option Nat}{ms:List (Nat × Blk)}:∀{cs B:List A},Ec ρ st ms cs B->cs.length=B.length/\∀i (hi:i<cs.length) (z:i<B.length),le2 ρ st ms (cs[i]) (B[i])
 | [],[],_=>⟨rfl,λi hi=>by simp at hi⟩
 |x::l,y::r,h=>by
  obtain⟨H,F⟩:=h;obtain⟨I,G⟩:=wY F;refine⟨by simp[I],λi hi z=>?_⟩;cases i with
  |zero=>exact H
  |succ i=>exact G i (by simpa using hi) (by simpa using z)
 | [],y::r,h=>h.elim
 |x::l,[],h=>h.elim
section fit
variable{ρ:Nat->Option Nat}{ms:List (Nat × Blk)}
def P8(ρ:Nat->Option Nat)(L:Nat->Loc):Nat->Loc:=λi=>match ρ i with|some j=>L j|none=>nol
theorem Hb(F:V0 ρ st [] ms){i:Nat}{b':Blk}(hi:look ms i=some b'){b:Nat}(z:(P8 ρ L i).has b):∃j,ρ i=some j/\(st.mem j).isSome=true/\(L j).has b:=by
 have:=F.hms _ (V4 hi);unfold leM at this;unfold P8 at z;cases B:ρ i with
 |none=>rw[B]at z;exact(zP z).elim
 |some j=>rw[B]at z this;obtain⟨c,G,_⟩:=this;exact⟨j,rfl,by rw[G];rfl,z⟩
theorem VY(J:z8 C st L a w)(F:V0 ρ st [] ms):∀j,(∀p∈ms,ρ p.1≠some j)->(st.mem j).isSome=true->∀b,(L j).has b->¬(∃i,(look ms i).isSome=true/\(P8 ρ L i).has b):=by rintro j B G b M ⟨i,hi,H⟩;obtain⟨b',z⟩:=B5.1 hi;obtain⟨q,h0,K,I⟩:=Hb F z H;have:=J.inj q j b K G I M;subst this;exact B _ (V4 z) h0
theorem LZ(hs:z8 C st L a w)(hf:V0 ρ st [] ms){M':Nat->Prop}(Q:∀b,M' b->Mut C st L b)(Y:∀j,(∀p∈ms,ρ p.1≠some j)->(st.mem j).isSome=true->∀b,(L j).has b->¬M' b){i:Nat}{b':Blk}(hi:look ms i=some b'):Bv (R7 0 [] ms) (P8 ρ L) w M' i b':=by
 have I:∀i,P8 ρ L i=match ρ i with|some j=>L j|none=>nol:=λi=>rfl
 have:=hf.hms _ (V4 hi);unfold leM at this;cases N:ρ i with
 |none=>rw[N]at this;obtain⟨e,k,rfl,h0⟩:=this;exact⟨h0,λq F=>by simp at F,.inl ⟨rfl,by rw[I,N]⟩⟩
 |some j=>
  rw[N]at this;obtain⟨b,hb,z⟩:=this;have H:=(hs.mem j b hb).2;have B:P8 ρ L i=L j:=(by rw[I,N]);cases b with
  |obj od=>
   cases b' with
   |row=>exact z.elim
   |box=>exact z.elim
   |obj od'=>have e:od=od':=z;subst e;obtain⟨g,o,G,K,V⟩:=H;exact⟨g,o,by rw[B];exact G,K,by rw[B];exact V.ext (Ext.refl _ _) (λb _=>Q b) rfl (λ_ _=>rfl)⟩
  |box ty cs=>
   cases b' with
   |row=>exact z.elim
   |obj=>exact z.elim
   |box ty' ds=>obtain⟨rfl,z⟩:=z;obtain⟨hl,hg⟩:=Xu z;obtain⟨g,vs,G,K,J,V⟩:=H;exact⟨g,vs,by rw[B];exact G,K,by omega,λq F=>⟨BU (hg q (by omega) F),aH hs hf I Q Y (hg q (by omega) F) (V q (by omega)).2⟩⟩
  |row e k xs=>
   cases b' with
   |box=>exact z.elim
   |obj=>exact z.elim
   |row e' k' ys=>
    obtain⟨rfl,rfl,hl,hk,z⟩:=z;obtain⟨h0,S,F⟩:=H;refine⟨h0,λq F=>by rw[<-hk q (by omega) F];exact S q (by omega),?_⟩;rcases F with⟨R,hn⟩|⟨g,U,G,K,aa,O,J,hc⟩
    ·subst R;exact .inl ⟨List.eq_nil_of_length_eq_zero (by simpa using hl.symm),by rw[B];exact hn⟩
    ·refine .inr ⟨g,U,by rw[B];exact G,K,by rw[B];omega,by rw[B];exact O,by rw[B];exact J,λp hp q F=>?_⟩;have M:q<(xs[p]'(by omega)).length:=(by rw[hk p (by omega) hp];exact F);obtain⟨c,Z,X⟩:=hc p (by omega) q M;exact⟨c,Z,(z p (by omega) hp q M F).rep (X.ext (Ext.refl _ _) (λb _=>Q b))⟩
theorem b5R(I:z8 C st L a w)(G:V0 ρ st [] ms){M':Nat->Prop}(H:∀b,M' b->Mut C st L b)(z:∀j,(∀p∈ms,ρ p.1≠some j)->(st.mem j).isSome=true->∀b,(L j).has b->¬M' b){x y:A}{v:Value}(h:le3 ρ st ms x y)(F:RepA st L w (Mut C st L) x v):RepA (R7 0 [] ms) (P8 ρ L) w M' y v:=by
 have B:∀i,P8 ρ L i=match ρ i with|some j=>L j|none=>nol:=λi=>rfl
 unfold le3 at h;split at h
 ·obtain⟨K,J⟩:=wY h;cases F with
  |tup _ vs hsz F=>exact .tup _ vs (by omega) λi hi=>sF I G B H z (J i (by omega) hi) (F i (by omega))
 ·exact sF I G B H z h F
theorem a4x(z:z8 C st L a w)(X:∀i,i<1000->ρ i=some i)(F:V0 ρ st [] ms):z8 C (mst ms) (P8 ρ L) Pa w/\∀{x y:A} {v:Value},le3 ρ st ms x y->RepA st L w (Mut C st L) x v->RepA (mst ms) (P8 ρ L) w (Mut C (mst ms) (P8 ρ L)) y v:=by
 have hM:∀b,Mut C (mst ms) (P8 ρ L) b->Mut C st L b:=by
  rintro b (hx|⟨i,hi,U⟩)
  ·exact .inl hx
  ·obtain⟨b',G⟩:=B5.1 hi;obtain⟨j,_,h1,h2⟩:=Hb F G U;exact .inr ⟨j,h1,h2⟩
 have M:∀j,(∀p∈ms,ρ p.1≠some j)->(st.mem j).isSome=true->∀b,(L j).has b->¬Mut C (mst ms) (P8 ρ L) b:=by
  rintro j R O b hb (hx|h)
  ·exact(z.out j b O hb).1 hx
  ·exact VY z F j R O b hb h
 refine⟨⟨rfl,rfl,λt=>.dead _,λi b' G=>⟨?_,LZ z F hM M G⟩,λi j b hi O Z Y=>?_,λi b hi U=>?_,z.old,z.os,z.tape,z.output,z.size,z.block,λi b N=>⟨D2 _,(z.pinN i b N).2⟩,λi b N hi=>?_⟩,λh hr=>b5R z F hM M h hr⟩
 ·have:look ms i=some b':=G;simp[R7,this]
 ·obtain⟨bi,B⟩:=B5.1 hi;obtain⟨bj,K⟩:=B5.1 O;obtain⟨p,V,H,I⟩:=Hb F B Z;obtain⟨q,S,Q,aa⟩:=Hb F K Y;have:=z.inj p q b H Q I aa;subst this;exact F.inj _ (V4 B) _ (V4 K) p V S
 ·obtain⟨bi,B⟩:=B5.1 hi;obtain⟨p,_,H,I⟩:=Hb F B U;exact z.out p b H I
 ·obtain⟨bi,B⟩:=B5.1 hi;have J:=X i (z.pinN i b N).2;have:=F.hms _ (V4 B);unfold leM at this;rw[J]at this;obtain⟨c,hc,_⟩:=this;show(P8 ρ L i).blk=some b;unfold P8;rw[J];exact z.pin i b N (by rw[hc];rfl)
end fit
end
section
open Go.RowKit
variable{C:Ctx}{st st' st2:St}{L L':Nat->Loc}{a:Act}{w:World}{P:Program}
def Ja(ν:Nat->Nat):A->A
 |.ref i=>.ref (ν i)
 |.ptr i o=>.ptr (ν i) o
 |.ifc t i o=>.ifc t (ν i) o
 |.rptr i p q=>.rptr (ν i) p q
 |.ob i=>.ob (ν i)
 |x=>x
def Yz(ν:Nat->Nat):A->A
 |.agg cs=>.agg (cs.map (Ja ν))
 |x=>Ja ν x
def Ed(ν:Nat->Nat):A->A
 |.tup cs=>.tup (cs.map (Yz ν))
 |x=>Yz ν x
def Blk.ren(ν:Nat->Nat):Blk->Blk
 |.box ty cells=>.box ty (cells.map (Ja ν))
 |b=>b
def fnd:List (Nat × Blk)->(Nat->Nat)->Nat->Option (Nat × Blk)
 | [],_,_=>none
 |p::l,ν,i=>if i=ν p.1 then some p else fnd l ν i
def St.back(st:St)(J:List Nat)(m':List (Nat × Blk))(ν:Nat->Nat):St:=
 {st with mem:=λi=>match fnd m' ν i with|some p=>some (p.2.ren ν)|none=>if J.contains i then none else st.mem i,used:=λi=>match fnd m' ν i with|some _=>true|none=>st.used i}
def St.only(st:St)(J:List Nat):St:={st with mem:=λi=>if J.contains i then st.mem i else none}
def W7(id:Nat):Bool:=Nat.ble 900 id&&Nat.blt id 1000
theorem Fa:∀{l:List (Nat × Blk)} {z:Nat->Nat} {i:Nat} {p:Nat × Blk},fnd l z i=some p->p∈l/\z p.1=i
 | [],z,i,p,h=>by cases h
 |q::l,z,i,p,h=>by
  unfold fnd at h;split at h
  ·rename_i e;cases h;exact⟨I2,e.symm⟩
  ·obtain⟨F,B⟩:=Fa h;exact⟨J1 _ F,B⟩
theorem TA:∀{l:List (Nat × Blk)} {B:Nat->Nat} {i:Nat},fnd l B i=none->∀p∈l,B p.1≠i
 | [],B,i,h,p,z=>by cases z
 |q::l,B,i,h,p,z=>by
  unfold fnd at h;split at h
  ·cases h
  ·rename_i e;rcases D0.1 z with rfl|z
   ·exact λF=>e F.symm
   ·exact TA h p z
def EQ:A->Bool
 |.tup _=>false
 |_=>true
def Mo:A->Bool
 |.tup cs=>cs.all EQ
 |_=>true
structure IR(st:St)(J:List Nat)(ρ:Nat->Option Nat)(ν:Nat->Nat)(m m':List (Nat × Blk)):Prop where
 fit:V0 ρ (st.only J) [] m
 image:∀p∈m,∀j,ρ p.1=some j->J.contains j=true
 keys:∀p∈m',look m' p.1=some p.2
 inj:∀p∈m',∀q∈m',ν p.1=ν q.1->p.1=q.1
 old:∀p∈m',W7 p.1=true->ρ p.1=some (ν p.1)/\∃b,look m p.1=some b/\b.alike p.2/\∀e k xs,b≠ .row e k xs
 new:∀p∈m',W7 p.1=false->st.used (ν p.1)=false/\(ν p.1<st.n\/1000<=ν p.1)
theorem b0K{b c:Blk}{z:Nat->Nat}(h:b.alike c):b.alike (c.ren z):=by cases b<;>cases c<;>exact h
theorem b20{l z:Loc}{b:Nat}(F:l.blk=z.blk)(B:l.own=z.own):l.has b↔z.has b:=by unfold Loc.has;rw[F,B]
theorem a3b(hs:z8 C st L a w){f:FuncId}{av:List A}{m H:List (Nat × Blk)}{r:A}(hf:Y7 C.P f av m r H){J:List Nat}{ρ:Nat->Option Nat}{I:Nat->Nat}(hc:IR st J ρ I m H)(an:Array Value)(b6u:List A)(ag:an.size=b6u.length)(ai:∀i (hi:i<b6u.length),RepA st L w (Mut C st L) (b6u[i]) (an.getD i undef))(a4:Ec ρ (st.only J) m b6u av)(bs:Mo r=true):Calls C.P f an w λe w'=>∃v L3,e=.returned v/\z8 C (st.back J H I) L3 a w'/\RepA (st.back J H I) L3 w' (Mut C (st.back J H I) L3) (Ed I r) v:=by
 let X':Nat->Prop:=λb=>C.X b\/∃i,J.contains i=false/\(st.mem i).isSome=true/\(L i).has b
 have G:∀i b',(st.only J).mem i=some b'->J.contains i=true/\st.mem i=some b':=λi b' h=>by
  simp only[St.only]at h;split at h
  ·exact⟨by assumption,h⟩
  ·cases h
 have ax:∀b,X' b\/(∃i,((st.only J).mem i).isSome=true/\(L i).has b)↔Mut C st L b:=λb=>by
  constructor
  ·rintro((h|⟨i,_,M,h2⟩)|⟨i,M,h2⟩)
   ·exact .inl h
   ·exact .inr ⟨i,M,h2⟩
   ·obtain⟨b',B⟩:=B5.1 M;exact .inr ⟨i,by rw[(G i b' B).2];rfl,h2⟩
  ·rintro(h|⟨i,M,h2⟩)
   ·exact .inl (.inl h)
   ·by_cases hj:J.contains i=true
    ·exact .inr ⟨i,by simp only[St.only,hj,if_true];exact M,h2⟩
    ·exact .inl (.inr ⟨i,by simpa using hj,M,h2⟩)
 let C1:Ctx:=⟨C.P,X',λb=>∃id,(look m id).isSome=true/\(P8 ρ L id).has b,w,λid=>if W7 id&&(look m id).isSome then(P8 ρ L id).blk else none⟩
 have ar:∀{x:A} {v:Value},RepA st L w (Mut C st L) x v->RepA (st.only J) L w (Mut C st L) x v:=λh=>h.ext (Ext.refl _ _) (λ_ _ h=>h) (λ_ h=>h) (λi _ b' N=>⟨b',(G i b' N).2,b'.alike_refl,Loc.like_refl _⟩)
 have ak:Mut C1 (st.only J) L=Mut C st L:=funext λb=>propext (ax b);have am:z8 ⟨C.P,X',λ_=>True,w,λ_=>none⟩ (st.only J) L a w:=by
  have br:Mut ⟨C.P,X',λ_=>True,w,λ_=>none⟩ (st.only J) L=Mut C st L:=ak;refine⟨hs.hn,hs.hd,λt=>?_,λi b' B=>?_,λi j b hi hj ac R=>?_,λi b hi hl=>?_,λb N=>?_,rfl,rfl,rfl,l5 _,λ_ _ _=>rfl,λ_ _ h=>(by cases h),λ_ _ h=>(by cases h)⟩
  ·rw[br];exact ar (hs.env t)
  ·rw[br];have:=hs.mem i b' (G i b' B).2;exact⟨this.1,this.2.ext (Ext.refl _ _) (λ_ _ h=>h) (λ_ h=>h) (λi _ b' N=>⟨b',(G i b' N).2,b'.alike_refl,Loc.like_refl _⟩) rfl (λ_ _=>rfl)⟩
  ·obtain⟨bi,ab⟩:=B5.1 hi;obtain⟨bj,ad⟩:=B5.1 hj;exact hs.inj i j b (by rw[(G i bi ab).2];rfl) (by rw[(G j bj ad).2];rfl) ac R
  ·obtain⟨bi,ab⟩:=B5.1 hi;obtain⟨hJ,z⟩:=G i bi ab;have ho:=hs.out i b (by rw[z];rfl) hl;refine⟨?_,ho.2.1,.inl trivial⟩;rintro(hx|⟨q,S,M,h2⟩)
   ·exact ho.1 hx
   ·have:=hs.inj q i b M (by rw[z];rfl) h2 hl;subst this;rw[hJ]at S;cases S
  ·rcases N with hx|⟨q,_,M,h2⟩
   ·exact Nat.lt_of_lt_of_le (hs.old b hx) hs.size
   ·exact(hs.out q b M h2).2.1
 have bh:∀b,Mut C1 (mst m) (P8 ρ L) b->Mut C st L b:=by
  rintro b (hx|⟨i,hi,hl⟩)
  ·exact(ax b).1 (.inl hx)
  ·obtain⟨b',B⟩:=B5.1 hi;obtain⟨j,_,M,h2⟩:=Hb hc.fit B hl;exact(ax b).1 (.inr ⟨j,M,h2⟩)
 have bq:∀j,(∀p∈m,ρ p.1≠some j)->((st.only J).mem j).isSome=true->∀b,(L j).has b->¬Mut C1 (mst m) (P8 ρ L) b:=by
  rintro j bv hj b N (hx|h)
  ·exact(am.out j b hj N).1 hx
  ·exact VY am hc.fit j bv hj b N h
 have a0:∀b,C1.M0 b->∃p∈m,∃j,ρ p.1=some j/\J.contains j=true/\(st.mem j).isSome=true/\(L j).has b:=by rintro b ⟨id,b9,hl⟩;obtain⟨b',B⟩:=B5.1 b9;obtain⟨j,M,h2,h3⟩:=Hb hc.fit B hl;obtain⟨bj,ad⟩:=B5.1 h2;exact⟨_,V4 B,j,M,(G j bj ad).1,by rw[(G j bj ad).2];rfl,h3⟩
 have bz:z8 C1 (mst m) (P8 ρ L) Pa C1.w0:=by
  refine⟨rfl,rfl,λt=>.dead _,λi b' B=>⟨?_,LZ am hc.fit (by intro b N;rw[show Mut ⟨C.P,X',λ_=>True,w,λ_=>none⟩ (st.only J) L=Mut C st L from ak];exact bh b N) bq B⟩,λi j b hi hj ac R=>?_,λi b hi hl=>?_,am.old,rfl,rfl,rfl,l5 _,λ_ _ _=>rfl,λi b F=>⟨D2 _,?_⟩,λi b F hi=>?_⟩
  ·have:look m i=some b':=B;simp[R7,this]
  ·obtain⟨bi,ab⟩:=B5.1 hi;obtain⟨bj,ad⟩:=B5.1 hj;obtain⟨p,cd,ba,a7⟩:=Hb hc.fit ab ac;obtain⟨q,b2,ca,b5⟩:=Hb hc.fit ad R;have:=am.inj p q b ba ca a7 b5;subst this;exact hc.fit.inj _ (V4 ab) _ (V4 ad) p cd b2
  ·obtain⟨bi,ab⟩:=B5.1 hi;obtain⟨p,_,ba,a7⟩:=Hb hc.fit ab hl;have:=am.out p b ba a7;exact⟨this.1,this.2.1,.inl ⟨i,hi,hl⟩⟩
  ·simp only[C1]at F;split at F
   ·rename_i h;simp only[x7,W7]at h;exact Nat.lt_of_succ_le (Nat.le_of_ble_eq_true h.1.2)
   ·cases F
  ·simp only[C1]at F;split at F
   ·exact F
   ·cases F
 obtain⟨hl,hg⟩:=wY a4;refine(hf.2 C1 (P8 ρ L) an rfl (λid b F=>?_) bz (by omega) λi hi=>?_).mono ?_
 ·simp only[C1]at F;split at F
  ·rename_i h;simp only[x7,W7]at h;exact Nat.le_of_ble_eq_true h.1.1
  ·cases F
 ·have bl:Mut ⟨C.P,X',λ_=>True,w,λ_=>none⟩ (st.only J) L=Mut C st L:=ak;refine sF am hc.fit (λi=>rfl) (by intro b N;rw[bl];exact bh b N) bq (hg i (by omega) hi) ?_;rw[bl];exact ar (ai i (by omega))
 rintro e w' ⟨v,L2,rfl,V,bg⟩
 let L3:Nat->Loc:=λi=>match fnd H I i with|some p=>⟨(L2 p.1).blk,if W7 p.1 then(L i).cap else(L2 p.1).cap,(L2 p.1).own⟩|none=>L i
 have U:∀{i p},fnd H I i=some p->L3 i=⟨(L2 p.1).blk,if W7 p.1 then(L i).cap else(L2 p.1).cap,(L2 p.1).own⟩:=λ{i p} h=>by simp only[L3,h]
 have Y:∀{i},fnd H I i=none->L3 i=L i:=λ{i} h=>by simp only[L3,h]
 have be:∀p∈H,fnd H I (I p.1)=some p:=λp F=>by
  cases h:fnd H I (I p.1)with
  |none=>exact absurd rfl (TA h p F)
  |some q=>obtain⟨S,Z⟩:=Fa h;have:=hc.inj q S p F Z;have e1:=hc.keys q S;have e2:=hc.keys p F;rw[this,e2]at e1;have:q=p:=(by cases q;cases p;simp_all);rw[this]
 have ao:∀{i p},fnd H I i=some p->∀{b},(L3 i).has b↔(L2 p.1).has b:=λ{i p} h {b}=>by rw[U h];exact b20 rfl rfl
 have a1:∀p∈H,W7 p.1=true->∃g c,st.mem (I p.1)=some c/\c.alike p.2/\(L (I p.1)).blk=some g/\(L2 p.1).blk=some g/\J.contains (I p.1)=true:=λp F aa=>by
  obtain⟨bo,c,ah,aj,ap⟩:=hc.old p F aa;have z:=hc.fit.hms _ (V4 ah);unfold leM at z;rw[show ρ (p.1,c).1=some (I p.1)from bo]at z;obtain⟨b,N,aq⟩:=z;obtain⟨hJ,B⟩:=G _ _ N;have bm:∀g,(L (I p.1)).blk=some g->b.alike c->∃g c,st.mem (I p.1)=some c/\c.alike p.2/\(L (I p.1)).blk=some g/\(L2 p.1).blk=some g/\J.contains (I p.1)=true:=λg hg bf=>by
   have cb:C1.pin p.1=some g:=by simp only[C1,aa,ah,Option.isSome_some,Bool.and_self,if_true];show(P8 ρ L p.1).blk=some g;unfold P8;rw[bo];exact hg
   refine⟨g,b,B,?_,hg,V.pin p.1 g cb (by show(look H p.1).isSome=true;rw[hc.keys p F];rfl),hJ⟩;generalize p.2=d at aj;cases b<;>cases c<;>cases d<;>first|trivial|exact aj.elim|exact bf.elim|exact(bf.trans aj)|exact absurd rfl (ap _ _ _)
  cases b with
  |row=>cases c with
   |row=>exact absurd rfl (ap _ _ _)
   |_=>exact aq.elim
  |obj od=>cases c with
   |obj od'=>obtain⟨g,_,hg,_⟩:=(hs.mem _ _ B).2;have e:od=od':=aq;exact bm g hg (by rw[e];exact rfl)
   |_=>exact aq.elim
  |box ty' cs'=>cases c with
   |box ty cs=>obtain⟨g,_,hg,_⟩:=(hs.mem _ _ B).2;exact bm g hg trivial
   |_=>exact aq.elim
 have O:∀i b',(st.back J H I).mem i=some b'->(∃p,fnd H I i=some p/\b'=p.2.ren I)\/(fnd H I i=none/\J.contains i=false/\st.mem i=some b'):=λi b' h=>by
  simp only[St.back]at h;split at h
  ·rename_i p F;cases h;exact .inl ⟨p,F,rfl⟩
  ·rename_i hn;split at h
   ·cases h
   ·rename_i hJ;exact .inr ⟨hn,by simpa using hJ,h⟩
 have au:∀b,Mut C (st.back J H I) L3 b->Mut C1 (mst H) L2 b:=by
  rintro b (hx|⟨i,hi,hl⟩)
  ·exact .inl (.inl hx)
  ·obtain⟨b',B⟩:=B5.1 hi;rcases O i b' B with⟨p,F,_⟩|⟨hn,hJ,z⟩
   ·rw[U F]at hl;exact .inr ⟨p.1,by show(look H p.1).isSome=true;rw[hc.keys p (Fa F).1];rfl,hl⟩
   ·rw[Y hn]at hl;exact .inl (.inr ⟨i,hJ,by rw[z];rfl,hl⟩)
 have a6:∀{x:A} {u:Value},RepA (mst H) L2 w' (Mut C1 (mst H) L2) x u->RepA (st.back J H I) L3 w' (Mut C (st.back J H I) L3) (Ja I x) u\/x.single=false:=λ{x u} h=>by
  have ah:∀i,(mst H).used i=true->∃b,look H i=some b/\fnd H I (I i)=some (i,b):=λi hi=>by obtain⟨b,N⟩:=B5.1 (show(look H i).isSome=true from hi);exact⟨b,N,be _ (V4 N)⟩
  cases h with
  |t x u h=>exact .inl (.t _ _ (h.ext (Ext.refl _ _) (λb _=>au b)))
  |agg=>exact .inr rfl
  |tup=>exact .inr rfl
  |dead=>exact .inr rfl
  |fel cells b off c N z bc hr=>exact .inl (.fel cells b off c N (λh=>z (au b h)) bc λj hj=>(hr j hj).ext (Ext.refl _ _) (λb _=>au b))
  |ref i u M hus S=>
   obtain⟨b,N,K⟩:=ah i hus;refine .inl (.ref _ _ M (by simp[St.back,K]) λe k xs z=>?_);simp only[St.back,K,P1]at z;cases b with
   |box ty cs=>cases z
   |obj=>cases z
   |row e' k' xs'=>
    have:xs'=xs:=(by cases z;rfl);subst this;have a5:W7 i=false:=by
     cases F:W7 i with
     |false=>rfl
     |true=>obtain⟨_,c,_,aj,ap⟩:=hc.old _ (V4 N) F;cases c<;>first|exact aj.elim|exact absurd rfl (ap _ _ _)
    rw[U K,S _ _ _ N];simp[Loc.slice,a5]
  |ptr i o u M hus S=>
   obtain⟨b,N,K⟩:=ah i hus;refine .inl (.ptr _ _ _ M (by simp[St.back,K]) λty cs z=>?_);simp only[St.back,K,P1]at z;cases b with
   |row=>cases z
   |obj=>cases z
   |box ty' cs'=>rw[U K,S _ _ N];rfl
  |ifc ty0 i o u M hus S=>
   obtain⟨b,N,K⟩:=ah i hus;refine .inl (.ifc _ _ _ _ M (by simp[St.back,K]) λty cs z=>?_);simp only[St.back,K,P1]at z;cases b with
   |row=>cases z
   |obj=>cases z
   |box ty' cs'=>rw[U K,S _ _ N];rfl
  |rptr i p q u M hus S=>
   obtain⟨b,N,K⟩:=ah i hus;refine .inl (.rptr _ _ _ _ M (by simp[St.back,K]) λe k xs z=>?_);simp only[St.back,K,P1]at z;cases b with
   |box ty cs=>cases z
   |obj=>cases z
   |row e' k' xs'=>have:k'=k:=(by cases z;rfl);subst this;rw[U K,S _ _ _ N];rfl
  |ob i u M hus S=>
   obtain⟨b,N,K⟩:=ah i hus;refine .inl (.ob _ _ M (by simp[St.back,K]) λod z=>?_);simp only[St.back,K,P1]at z;cases b with
   |box ty cs=>cases z
   |row=>cases z
   |obj od'=>have:od'=od:=(by cases z;rfl);subst this;rw[U K,S _ N];rfl
 have ay:∀(x:A),x.single=true->(Ja I x).single=true:=λx h=>by cases x<;>first|exact h|rfl
 have ae:∀{x:A} {u:Value},x.single=true->RepA (mst H) L2 w' (Mut C1 (mst H) L2) x u->RepA (st.back J H I) L3 w' (Mut C (st.back J H I) L3) (Ja I x) u:=λ{x u} hx h=>by
  rcases a6 h with h|h
  ·exact h
  ·rw[hx]at h;cases h
 have az:∀{x:A} {u:Value},RepA (mst H) L2 w' (Mut C1 (mst H) L2) x u->(∀cs,x≠ .tup cs)->RepA (st.back J H I) L3 w' (Mut C (st.back J H I) L3) (Yz I x) u:=λ{x u} h hx=>by
  cases x with
  |agg cs=>
   cases h with
   |agg _ vs ag M hr=>
    refine .agg _ vs (by simpa using ag) (λi hi=>?_) (λi hi=>?_)
    ·rw[List.getElem_map];exact ay _ (M i (by simpa using hi))
    ·simp only[List.getElem_map];exact ae (M i (by simpa using hi)) (hr i (by simpa using hi))
  |tup cs=>exact absurd rfl (hx cs)
  |dead=>exact .dead _
  |_=>exact ae rfl h
 have af:∀p∈H,((mst H).mem p.1).isSome=true:=λp F=>by show(look H p.1).isSome=true;rw[hc.keys p F];rfl
 have bt:z8 C (st.back J H I) L3 a w':=by
  refine hs.next0 rfl hs.hn hs.hd V.os V.tape V.output V.size (λb N z=>V.block b N λal=>?_) (λi hi=>?_) (λi hi b' B=>?_) (λi b hi hl=>?_) (λi j b hi hj ac R=>?_) (λi hi hf=>?_) (λi b' B=>?_) (λt=>.inl ⟨rfl,rfl⟩)
  ·obtain⟨_,_,j,_,_,M,h2⟩:=a0 b al;exact z ⟨j,M,h2⟩
  ·simp only[St.back];split<;>first|rfl|exact hi
  ·rcases O i b' B with⟨p,F,rfl⟩|⟨hn,hJ,z⟩
   ·obtain⟨Q,Z⟩:=Fa F;cases aa:W7 p.1 with
    |false=>have:=(hc.new p Q aa).1;rw[Z,hi]at this;cases this
    |true=>obtain⟨g,c,M,ce,h2,h3,_⟩:=a1 p Q aa;rw[Z]at M h2;refine⟨_,M,b0K ce,?_⟩;rw[U F,aa];exact⟨by rw[h2];exact h3,rfl⟩
   ·exact⟨b',z,b'.alike_refl,.of (Y hn)⟩
  ·obtain⟨b',B⟩:=B5.1 hi;rcases O i b' B with⟨p,F,rfl⟩|⟨hn,hJ,z⟩
   ·obtain⟨Q,Z⟩:=Fa F;rw[ao F]at hl;have ho:=V.out p.1 b (af p Q) hl;rcases ho.2.2 with al|a9
    ·obtain⟨q,S,j,b1,bu,bd,bb⟩:=a0 b al;exact .inr ⟨j,bd,bb⟩
    ·exact .inl ⟨a9,ho.2.1⟩
   ·rw[Y hn]at hl;exact .inr ⟨i,by rw[z];rfl,hl⟩
  ·have mixed:∀i j,(∃p∈H,fnd H I i=some p/\(L2 p.1).has b)->J.contains j=false->(st.mem j).isSome=true->(L j).has b->False:=by
    rintro i j ⟨p,Q,F,hl⟩ hJ z R;rcases(V.out p.1 b (af p Q) hl).2.2 with al|a9
    ·obtain⟨q,S,j',b1,bu,bd,bb⟩:=a0 b al;have:=hs.inj j' j b bd z bb R;subst this;rw[bu]at hJ;cases hJ
    ·have:=(hs.out j b z R).2.1;have cg:w.heap.size<=b:=a9;omega
   obtain⟨bi,ab⟩:=B5.1 hi;obtain⟨bj,ad⟩:=B5.1 hj;rcases O i bi ab with⟨p,F,rfl⟩|⟨hn,hJ,z⟩
   ·obtain⟨Q,Z⟩:=Fa F;rw[ao F]at ac;rcases O j bj ad with⟨q,S,rfl⟩|⟨hn,hJ,z⟩
    ·obtain⟨a3,a2⟩:=Fa S;rw[ao S]at R;have:=V.inj p.1 q.1 b (af p Q) (af q a3) ac R;rw[<-Z,<-a2,this]
    ·rw[Y hn]at R;exact(mixed i j ⟨p,Q,F,ac⟩ hJ (by rw[z];rfl) R).elim
   ·rw[Y hn]at ac;rcases O j bj ad with⟨q,S,rfl⟩|⟨b3,ch,b0⟩
    ·obtain⟨a3,a2⟩:=Fa S;rw[ao S]at R;exact(mixed j i ⟨q,a3,S,R⟩ hJ (by rw[z];rfl) ac).elim
    ·rw[Y b3]at R;exact hs.inj i j b (by rw[z];rfl) (by rw[b0];rfl) ac R
  ·obtain⟨b',B⟩:=B5.1 hi;rcases O i b' B with⟨p,F,rfl⟩|⟨hn,hJ,z⟩
   ·obtain⟨Q,Z⟩:=Fa F;cases aa:W7 p.1 with
    |false=>have:=(hc.new p Q aa).2;rwa [Z]at this
    |true=>obtain⟨g,c,M,_⟩:=a1 p Q aa;rw[Z]at M;have:=(hs.mem i _ M).1;rw[hf]at this;cases this
   ·have:=(hs.mem i b' z).1;rw[hf]at this;cases this
  ·rcases O i b' B with⟨p,F,rfl⟩|⟨hn,hJ,z⟩
   ·obtain⟨Q,Z⟩:=Fa F;refine⟨by simp[St.back,F],.inr ?_⟩;have ai:=(V.mem p.1 p.2 (hc.keys p Q)).2;obtain⟨id,b7⟩:=p;cases b7 with
    |obj od=>obtain⟨g,o,hg,hw,hr⟩:=ai;exact⟨g,o,by rw[U F];exact hg,hw,by rw[U F];exact hr.ext (Ext.refl _ _) (λb _=>au b) rfl (λ_ _=>rfl)⟩
    |box ty cells=>obtain⟨g,cs,hg,hw,ag,hr⟩:=ai;refine⟨g,cs,by rw[U F];exact hg,hw,by simpa using ag,λq S=>?_⟩;have a8:q<cells.length:=(by simpa using S);simp only[List.getElem_map];exact⟨ay _ (hr q a8).1,ae (hr q a8).1 (hr q a8).2⟩
    |row e k xs=>
     have a5:W7 id=false:=by
      cases aa:W7 id with
      |false=>rfl
      |true=>obtain⟨_,c,_,aj,ap⟩:=hc.old _ Q aa;cases c<;>first|exact aj.elim|exact absurd rfl (ap _ _ _)
     have aw:L3 i=L2 id:=(by rw[U F];simp only[a5];cases hX:L2 id;rfl);obtain⟨h0,hk,S⟩:=ai;refine⟨h0,hk,?_⟩;rcases S with⟨hx,hn⟩|⟨g,bx,hg,hw,aq,b6,ag,bc⟩
     ·exact .inl ⟨hx,by rw[aw];exact hn⟩
     ·refine .inr ⟨g,bx,by rw[aw];exact hg,hw,by rw[aw];exact aq,by rw[aw];exact b6,by rw[aw];exact ag,λp bw q S=>?_⟩;obtain⟨c,cf,b4⟩:=bc p bw q S;exact⟨c,cf,b4.ext (Ext.refl _ _) (λb _=>au b)⟩
   ·refine⟨by simp[St.back,hn];exact(hs.mem i b' z).1,.inl ⟨z,Y hn,λb N=>V.block b (hs.out i b (by rw[z];rfl) N).2.1 λal=>?_⟩⟩;obtain⟨_,_,j,_,bp,M,h2⟩:=a0 b al;have:=hs.inj j i b M (by rw[z];rfl) h2 N;subst this;rw[hJ]at bp;cases bp
 refine⟨v,L3,rfl,bt,?_⟩;cases r with
 |tup cs=>
  cases bg with
  |tup _ vs ag hr=>refine .tup _ vs (by simpa using ag) λi hi=>?_;simp only[List.getElem_map];have bk:i<cs.length:=(by simpa using hi);refine az (hr i bk) λds he=>?_;have:=List.all_eq_true.1 bs _ (B0 bk);rw[he]at this;cases this
 |_=>exact az bg (λcs h=>by cases h)
end
section
open Go.RowKit
variable{C:Ctx}{st st' st2:St}{L L':Nat->Loc}{a:Act}{w:World}{P:Program}
def G9:A->List Nat
 |.ref id=>[id]
 |.ptr id _=>[id]
 |.ifc _ id _=>[id]
 |.rptr id _ _=>[id]
 |.ob id=>[id]
 |_=>[]
def Ga:A->List Nat
 |.agg cs=>cs.flatMap G9
 |a=>G9 a
def Z4:A->List Nat
 |.tup cs=>cs.flatMap Ga
 |a=>Ga a
def opL:Op->List Operand
 |.move x|.assign x|.box _ x|.load _ x|.nilCheck x|.unOp _ _ x|.convert _ _ x|.fieldAddr _ x _|.field _ x _|.extract x _=>[x]
 |.pick c a b=>[c,a,b]
 |.alloc _=>[]
 |.build _ ps|.buildSlice _ _ ps=>ps.toList.map (·.2)
 |.store _ a v|.binOp _ _ a v _|.makeSlice _ a v|.indexAddr _ a v|.index _ a v=>[a,v]
 |.slice _ x l h m=>x::(l.toList++(h.toList++m.toList))
 |.call c=>(match c.callee with|.value f=>[f]|.invoke r _=>[r]|.builtin _=>[])++c.args.toList
 |op=>op.operands.toList
theorem Iy(op:Op):opL op=op.operands.toList:=by
 cases op<;>first
  |rfl
  |(simp[opL,Op.operands];done)
  |(rename_i c;simp only[opL,Op.operands,Call.operands];cases c.callee<;>simp)
def Cy(st:St)(i:Nat):List Nat:=match st.mem i with|some (.box _ cells)=>cells.flatMap G9|_=>[]
def H6(st:St)(evs:List A):List Nat:=
 evs.flatMap Z4++((evs.flatMap Z4).flatMap (Cy st)++((evs.flatMap Z4).flatMap (Cy st)).flatMap (Cy st))
def EE:A->Bool
 |.ptr _ _=>true
 |.ifc _ _ _=>true
 |.ob _=>true
 |_=>false
def a5p:A->Bool
 |.ref _=>true
 |_=>false
def ND:A->Bool
 |.agg cs=>cs.any λx=>EE x||a5p x
 |x=>EE x
def Ey(evs:List A):Bool:=evs.any ND
def Rc:Option Nat->List Nat
 |some d=>d::(List.range 24).map λi=>1000000+1000*d+i
 |none=>[]
def b27(P:Program)(f:FuncId)(d:Option Nat)(b6u evs:List A)(st:St)(K:St->Prop):Prop:=
 ∃r,FnP P f b6u r/\b6u.all E2=true/\((R6 r=true/\K (st.put d r))\/K ((st.frzs (evs.flatMap E9)).put d r))
def tE(P:Program)(f:FuncId)(d:Option Nat)(evs:List A)(st:St)(K:St->Prop):Prop:=
 ∃cargs m r m' ρ ν,Y7 P f cargs m r m'/\Mo r=true/\(Ey evs=true\/evs.flatMap Z4=[])/\IR st (H6 st evs) ρ ν m m'/\(∀p∈m',W7 p.1=false->ν p.1∈Rc d)/\
  Ec ρ (st.only (H6 st evs)) m evs cargs/\K ((st.back (H6 st evs) m' ν).put d (Ed ν r))
def WI(P:Program)(f:FuncId)(d:Option Nat)(b6u evs:List A)(st:St)(K:St->Prop):Prop:=b27 P f d b6u evs st K\/tE P f d evs st K
def C9(P:Program)(o:Oper)(st:St)(K:St->Prop):Prop:=
 match o.op with
 |.move x|.assign x=>K (st.put o.dst (st.ev x))
 |.pick c a b=>∃t,st.ev c=.v (.bool t)/\K (st.put o.dst (Nl t (st.ev a) (st.ev b)))
 |.alloc ty=>∃d ti,o.dst=some d/\x9 P ty=some ti/\st.used d=false/\K ((st.new d (.box ty (ti.zero.map .v))).put o.dst (.ptr d 0))
 |.box ty x=>∃d cs,o.dst=some d/\cellsOf (st.ev x)=some cs/\st.used d=false/\K ((st.new d (.box ty cs)).put o.dst (.ptr d 0))
 |.build t parts=>∃ti cs,x9 P t=some ti/\I9 P t=.strct/\Gl ti.fs (ti.zero.map .v) (parts.toList.map λ(i,x)=>(i,st.ev x))=some cs/\K (st.put o.dst (.agg cs))
 |.buildSlice t len parts=>∃d ti e te xs,o.dst=some d/\x9 P t=some ti/\ti.elem=some e/\x9 P e=some te/\st.used d=false/\
   0<te.size/\parts.size=len/\len*te.size<=16777216/\
   Dn te.size 0 (parts.toList.map λ(i,x)=>(i,(st.frzs (parts.toList.flatMap λ(_,x)=>E9 (st.ev x))).ev x))=some xs/\
   K (((st.frzs (parts.toList.flatMap λ(_,x)=>E9 (st.ev x))).new d (.row e te.size xs)).put o.dst (.ref d))
 |.load t a=>∃ti x,x9 P t=some ti/\U6 st (st.ev a) ti=some x/\K (st.put o.dst x)
 |.store t a x=>∃ti cs,x9 P t=some ti/\cellsOf (st.ev x)=some cs/\cs.length=ti.size/\
   ((∃id off ty cells,st.ev a=.ptr id off/\st.mem id=some (.box ty cells)/\off+cs.length<=cells.length/\
     K ((st.setm id (.box ty (cells.take off++cs++cells.drop (off+cs.length)))).put o.dst .dead))\/
    (∃id i j e k xs el l,st.ev a=.rptr id i j/\st.mem id=some (.row e k xs)/\xs[i]? =some el/\O3 cs=some l/\j+l.length<=el.length/\
     K ((st.setm id (.row e k (xs.set i (el.take j++l++el.drop (j+l.length))))).put o.dst .dead)))
 |.nilCheck x=>S6 st (st.ev x)=true/\K (st.put o.dst (st.ev x))
 |.binOp op ty x y _=>∃z,Db P st op ty (st.ev x) (st.ev y)=some z/\z.oneCell'=true/\K (st.put o.dst (.v z))
 |.unOp op _ x=>∃y z,st.ev x=.v y/\unF op y=some z/\z.oneCell'=true/\K (st.put o.dst (.v z))
 |.convert src dst x=>∃z,(x9 P src).isSome=true/\Py P src dst (st.ev x)=some z/\K (st.put o.dst z)
 |.fieldAddr s x f=>∃ti z,x9 P s=some ti/\I9 P s=.strct/\S6 st (st.ev x)=true/\Mb ti (st.ev x) f=some z/\K (st.put o.dst z)
 |.field s x f=>∃ti z,x9 P s=some ti/\I9 P s=.strct/\Nb ti (st.ev x) f=some z/\K (st.put o.dst z)
 |.indexAddr t x i=>∃(ti:TI) (e:TypeId) (te:TI) (k':Nat) (xs:List (List T)) (k:IntKind) (n:Nat) (el:List T),x9 P t=some ti/\ti.elem=some e/\x9 P e=some te/\S9 st (st.ev x)=some (k',xs)/\st.ev i=.v (.int k (n:Int))/\xs[n]? =some el/\k'=te.size/\K (st.put o.dst (match st.ev x with|.ref id=>.rptr id n 0|_=>.fel el))
 |.index t x i=>∃(s:ByteArray) (k:IntKind) (n:Nat) (b:UInt8),I9 P t=.str/\st.ev x=.v (.string s)/\st.ev i=.v (.int k (n:Int))/\s[n]? =some b/\K (st.put o.dst (.v (.int .u8 b.toNat)))
 |.extract x i=>∃cs y,st.ev x=.tup cs/\cs[i]? =some y/\K (st.put o.dst y)
 |.call c=>
  match c.callee,c.args.toList,c.argTypes.toList with
  |.builtin .len,[x],ty::_=>∃z,Fm P st ty (st.ev x)=some z/\K (st.put o.dst (.v z))
  |.builtin .append,[x,y],[t,t']=>∃d ti e te k'' ys,t=t'/\o.dst=some d/\x9 P t=some ti/\ti.elem=some e/\x9 P e=some te/\0<te.size/\st.used d=false/\
   S9 st (st.ev y)=some (k'',ys)/\(ys=[]\/k''=te.size)/\
   ((st.ev x=.v (.slice none 0 0)/\ys.length*te.bytes<=140737488355328/\ys.length<=maxLen/\K ((st.new d (.row e te.size ys)).put o.dst (.ref d)))\/
    (∃id k' xs,st.ev x=.ref id/\st.mem id=some (.row e k' xs)/\k'=te.size/\(xs.length+ys.length)*te.bytes<=140737488355328/\xs.length+ys.length<=maxLen/\K (((st.del id).new d (.row e te.size (xs++ys))).put o.dst (.ref d))))
  |.value (.func f),args,_=>WI P f o.dst (args.map λx=>y7 st (st.ev x)) (args.map st.ev) st K
  |_,_,_=>False
 |_=>False
def De(P:Program)(o:Oper)(xs:List A)(x:A):Prop:=
 ∀(w:World) (M:Nat->Prop) (ρ:Operand->Value),(∀b,M b->b<w.heap.size)->xs.length=(opL o.op).length->(∀i (hi:i<xs.length) (hi':i<(opL o.op).length),D4 w M (xs[i]) (ρ ((opL o.op)[i])))->∃v w',(execOp ρ o).run P w=.ok (.value v) w'/\Below w.heap.size w w'/\D4 w' M x v
def Jn(P:Program)(o:Oper)(xs:List A)(e:TypeId)(k:Nat)(ys:List (List T)):Prop:=
 0<k/\∀(w:World) (M:Nat->Prop) (ρ:Operand->Value),xs.length=(opL o.op).length->(∀i (hi:i<xs.length) (hi':i<(opL o.op).length),D4 w M (xs[i]) (ρ ((opL o.op)[i])))->
  ∃(cur:Array Value) (cap:Nat) (w1:World),w1.heap=w.heap/\w1.os=w.os/\w1.tape=w.tape/\w1.output=w.output/\ys.length<=cap/\cap<=maxLen/\cur.size=cap*k/\(∀(i:Nat) x,ys[i]? =some x->x.length=k)/\
   (∀(p:Nat) x,ys[p]? =some x->∀(j:Nat) (t:T),x[j]? =some t->∃c,cur[p*k+j]? =some c/\RepT w M t c)/\
   (execOp ρ o).run P w=.ok (.value (.slice (some ⟨w.heap.size,0,none⟩) ys.length cap)) (w1.alloc (.cells cur e))
def LG:A->Bool
 |.t (.v (.string _))=>true
 |_=>false
def Iv(o:Oper)(st:St):Bool:=
 match o.op with
 |.makeSlice _ _ _=>true
 |.convert _ _ x=>LG (st.ev x)
 |.call c=>(match c.callee,c.args.toList with|.builtin .append,_::_=>true|_,_=>false)
 |_=>false
def D1(o:Oper)(st:St):List A:=(opL o.op).map λx=>y7 st (st.ev x)
def N0(o:Oper)(st:St):Bool:=((opL o.op).flatMap λx=>E9 (st.ev x)).isEmpty
def gH(P:Program)(o:Oper)(st:St)(K:St->Prop):Prop:=
 (D1 o st).all E2=true/\
 ((∃x,De P o (D1 o st) x/\(R6 x=true\/N0 o st=true)/\K (st.put o.dst x))\/
  (∃d e k ys,o.dst=some d/\st.used d=false/\Jn P o (D1 o st) e k ys/\(N0 o st=true/\Iv o st=true)/\K ((st.new d (.row e k ys)).put o.dst (.ref d))))
def Ct:A->List Nat
 |.ref id=>[id]
 |.ob id=>[id]
 |_=>[]
def Yp(b:Blk)(id:Nat):A:=match b with|.obj _=>.ob id|_=>.ref id
theorem a9Z(b:Blk)(id:Nat):Ct (Yp b id)=[id]:=by cases b<;>rfl
def Qe(P:Program)(o:Oper)(i:Nat)(b:Blk)(xs:List A)(b':Blk):Prop:=
 ∀(st:St) (id d:Nat) (K:St->Prop),o.dst=some d->((opL o.op).map st.ev)[i]? =some (.ref id)->((opL o.op).map st.ev).set i .dead=xs->st.mem id=some b->st.used d=false->
  K (((st.del id).new d b').put o.dst (.ref d))->Opk P o st K
def Mm(P:Program)(o:Oper)(i:Nat)(b:Blk)(xs:List A)(b':Blk)(r:A):Prop:=
 ∀(st:St) (id:Nat) (K:St->Prop),((opL o.op).map st.ev)[i]? =some (Yp b id)->((opL o.op).map st.ev).set i .dead=xs->st.mem id=some b->K ((st.setm id b').put o.dst r)->Opk P o st K
def Jk(P:Program)(o:Oper)(xs:List A)(od:Od):Prop:=
 ∀(w:World) (M:Nat->Prop) (ρ:Operand->Value),(∀b,M b->b<w.heap.size)->xs.length=(opL o.op).length->(∀i (hi:i<xs.length) (hi':i<(opL o.op).length),D4 w M (xs[i]) (ρ ((opL o.op)[i])))->
  ∃(ob:Obj) (w1:World),w1.heap=w.heap/\w1.os=w.os/\w1.tape=w.tape/\w1.output=w.output/\Eh w M (λ_=>False) w.heap.size od ob/\od.plain=true/\(execOp ρ o).run P w=.ok (.value ((Loc.at_ w.heap.size 0).ob od)) (w1.alloc ob)
def Ot(o:Oper)(i:Nat):Bool:=
 match o.op with
 |.slice _ _ _ _ _=>true
 |.call c=>(match c.callee with|.builtin .append=>Nat.beq i 0|_=>false)
 |_=>false
def Ju(o:Oper):Bool:=
 match o.op with
 |.call c=>(match c.callee with|.builtin .copy=>true|.builtin .clear=>true|.builtin .delete=>true|_=>false)
 |.next _ _=>true
 |.mapUpdate _ _ _ _=>true
 |.lookup _ _ _ _=>true
 |_=>false
def Ho(o:Oper):Bool:=
 match o.op with
 |.range _ _=>true
 |.makeMap _ _=>true
 |_=>false
def SZ(P:Program)(o:Oper)(st:St)(K:St->Prop):Prop:=
 (∃i b xs b' id d,Ot o i=true/\o.dst=some d/\((opL o.op).map st.ev)[i]? =some (.ref id)/\((opL o.op).map st.ev).set i .dead=xs/\st.mem id=some b/\st.used d=false/\Qe P o i b xs b'/\K (((st.del id).new d b').put o.dst (.ref d)))\/
 (∃i b xs b' r id,Ju o=true/\((opL o.op).map st.ev)[i]? =some (Yp b id)/\((opL o.op).map st.ev).set i .dead=xs/\st.mem id=some b/\st.used id=true/\Mm P o i b xs b' r/\K ((st.setm id b').put o.dst r))\/
 (∃od d,Ho o=true/\o.dst=some d/\st.used d=false/\N0 o st=true/\(D1 o st).all E2=true/\Jk P o (D1 o st) od/\K ((st.new d (.obj od)).put o.dst (.ob d)))
def EX(P:Program)(o:Oper)(st:St)(K:St->Prop):Prop:=
 ∃c x t r,o.op=.call c/\c.callee=.value x/\st.ev x=.t t/\FnC P t (c.args.toList.map λy=>y7 st (st.ev y)) r/\(c.args.toList.map λy=>y7 st (st.ev y)).all E2=true/\
  (R6 r=true\/(c.args.toList.map st.ev).flatMap E9=[])/\K (st.put o.dst r)
def zI(P:Program)(o:Oper)(st:St)(K:St->Prop):Prop:=
 ∃c f r,o.op=.call c/\c.callee=.value (.func f)/\FnP P f (c.args.toList.map λy=>T6 st (st.ev y)) r/\(c.args.toList.map λy=>T6 st (st.ev y)).all E2=true/\R6 r=true/\K (st.put o.dst r)
def Dg(P:Program)(o:Oper)(st:St)(K:St->Prop):Prop:=C9 P o st K\/gH P o st K\/SZ P o st K\/EX P o st K\/zI P o st K
def Ov(ops:Array Oper)(st:St)(j:Nat):A:=match(ops[j]?).bind (·.dst)with|some d=>st.env d|none=>.dead
def Bq(P:Program)(ops:Array Oper):List Nat->St->(St->Prop)->Prop
 | [],st,K=>K st
 |i::rest,st,K=>
  match ops[i]? with
  |none=>Bq P ops rest st K
  |some o=>
   match o.guard with
   |none=>∃ids,Opk P o (st.frzs ids) λst'=>Bq P ops rest st' K
   |some (j,want)=>(∃b,Ov ops st j=.v (.bool b)/\(b=want->∃ids,Opk P o (st.frzs ids) λst'=>Bq P ops rest st' K)/\(b≠want->Bq P ops rest (st.put o.dst (.tup [])) K))\/(Ov ops st j=.tup []/\Bq P ops rest (st.put o.dst (.tup [])) K)
end
section
open Go.RowKit
variable{C:Ctx}{st st':St}{L L':Nat->Loc}{a:Act}{w:World}{P:Program}
theorem b14{o:Oper}{K:St->Prop}(x y:Operand)(t:TypeId)(ho:o.op=.call {callee:=.builtin .append,args:= #[x,y],argTypes:= #[t,t]})(d:Nat)(U:TI)(e:TypeId)(F:TI)(J:Nat)(G:List (List T))(z:o.dst=some d)(ht:x9 P t=some U)(he:U.elem=some e)(R:x9 P e=some F)(N:0<F.size)(Z:st.used d=false)(hl:S9 st (st.ev y)=some (J,G))(hk:G=[]\/J=F.size)(h:(st.ev x=.v (.slice none 0 0)/\G.length*F.bytes<=140737488355328/\G.length<=maxLen/\K ((st.new d (.row e F.size G)).put o.dst (.ref d)))\/(∃id S xs,st.ev x=.ref id/\st.mem id=some (.row e S xs)/\S=F.size/\(xs.length+G.length)*F.bytes<=140737488355328/\xs.length+G.length<=maxLen/\K (((st.del id).new d (.row e F.size (xs++G))).put o.dst (.ref d)))):Opk P o st K:=by
 intro C a w hP ⟨L,M⟩ hd next Q hn
 have Y:CY P st t e F (st.ev y) G:=⟨⟨U,ht,he⟩,R,N,⟨J,hl,hk⟩⟩;have run:∀v u w',a.eval x=v->(Builtin.append_ #[t,t] o.type #[v,a.eval y]).run P w=.ok u w'->(execOp a.eval o).run P w=.ok (.value u) w':=λv u w' X H=>by unfold execOp;simp only[ho,resolve,invoke,builtin,Sem.run_bind,Sem.run_pure,Result.andThen_ok,List.map_toArray,List.map_cons,List.map_nil,X,H]
 rcases h with⟨hx,O,V,h⟩|⟨id,S,xs,hx,I,rfl,O,V,h⟩
 ·have e1:=D3 (hx▸E0 M x);obtain⟨u,w',H,B⟩:=append_nil M t o.type e F _ G Y (E0 M y) O V d Z o.dst z (hd d z);exact L7 (run _ _ _ e1 H) (hn _ _ _ (by simp[St.new]) h B)
 ·have H:=E0 M x;rw[hx]at H;generalize X:a.eval x=v at H;cases H with
  |ref _ _ h1 hus hq=>obtain⟨u,w',H,B⟩:=a3T M t o.type e F _ G Y (E0 M y) id xs I O V d Z o.dst z (hd d z);exact L7 (run _ _ _ (by rw[X,hq _ _ _ I]) H) (hn _ _ _ (by simp[St.new,St.del]) h B)
theorem Nc{M:Nat->Prop}{x:A}{v:Value}(h:D4 w M x v):RepA st L w M x v:=
 RepA.ext h (Ext.refl _ _) (λ_ _ h=>h) (λid hi=>by simp at hi) (λid hi=>by simp at hi)
theorem rP{M:Nat->Prop}{x:A}{v:Value}(z:E2 x=true)(h:RepA st L w M x v):D4 w M x v:=by
 have one:∀{y:A} {v:Value},Bw y=true->RepA st L w M y v->D4 w M y v:=λ{y v} hy h=>by cases y<;>simp[Bw]at hy;exact .t _ _ (Di h)
 cases x with
 |agg cs=>
  cases h with
  |agg _ vs hs h1 hr=>exact .agg _ vs hs h1 λi hi=>one (by simp only[E2,List.all_eq_true]at z;exact z _ (B0 hi)) (hr i hi)
 |_=>exact one z h
theorem nN{M M':Nat->Prop}{x:A}{v:Value}(B:R6 x=true)(h:D4 w M x v):D4 w M' x v:=by
 have one:∀{y:A} {v:Value},vH y=true->D4 w M y v->D4 w M' y v:=λ{y v} hy h=>by
  unfold vH at hy;split at hy
  ·have:=Di h;cases this with
   |v x h=>exact .t _ _ (.v _ h)
  ·cases hy
 have z:∀{y:A} {v:Value},rM y=true->D4 w M y v->D4 w M' y v:=λ{y v} hy h=>by
  cases y with
  |agg cs=>
   cases h with
   |agg _ vs hs h1 hr=>exact .agg _ vs hs h1 λi hi=>one (by simp only[rM,List.all_eq_true]at hy;exact hy _ (B0 hi)) (hr i hi)
  |_=>exact one hy h
 cases x with
 |tup cs=>
  cases h with
  |tup _ vs hs hr=>exact .tup _ vs hs λi hi=>z (by simp only[R6,List.all_eq_true]at B;exact B _ (B0 hi)) (hr i hi)
 |_=>exact z B h
theorem a9T(st:St)(id i:Nat)(b':Blk)(h:(st.frz id).mem i=some b'):∃b,st.mem i=some b/\b.alike b'/\(i=id->∀e k xs,b≠ .row e k xs):=by
 cases z:st.mem id with
 |none=>have e:st.frz id=st:=(by unfold St.frz;rw[z]);rw[e]at h;exact⟨b',h,b'.alike_refl,λe=>by rw[e,z]at h;cases h⟩
 |some blk=>
  cases blk with
  |obj od=>rw[OE z]at h;exact⟨b',h,b'.alike_refl,λe=>by rw[e,z]at h;cases h;intro _ _ _ h;cases h⟩
  |box ty cs=>
   cases F:O3 cs with
   |none=>have e:st.frz id=st:=(by unfold St.frz;rw[z];simp only;rw[F]);rw[e]at h;exact⟨b',h,b'.alike_refl,λe=>by rw[e,z]at h;cases h;intro _ _ _ h;cases h⟩
   |some ts=>
    rw[LM z F]at h;simp only[St.sub]at h;by_cases e:i=id
    ·rw[if_pos e]at h;cases h
    ·rw[if_neg e]at h;obtain⟨b,B,rfl⟩:=Option.map_eq_some_iff.1 h;exact⟨b,B,Blk.sub_alike _ _ _,λh=>absurd h e⟩
  |row e k xs=>
   rw[JT z]at h;simp only[St.sub]at h;by_cases e:i=id
   ·rw[if_pos e]at h;cases h
   ·rw[if_neg e]at h;obtain⟨b,B,rfl⟩:=Option.map_eq_some_iff.1 h;exact⟨b,B,Blk.sub_alike _ _ _,λh=>absurd h e⟩
theorem b3r{a b c:Blk}(h:a.alike b)(z:b.alike c):a.alike c:=by cases a<;>cases b<;>cases c<;>simp_all [Blk.alike]
theorem MM(ids:List Nat):∀(st:St) (i:Nat) (b':Blk),(st.frzs ids).mem i=some b'->∃b,st.mem i=some b/\b.alike b'/\(i∈ids->∀e k xs,b≠ .row e k xs):=by
 induction ids with
 |nil=>intro st i b' h;exact⟨b',h,b'.alike_refl,λh=>by simp at h⟩
 |cons id ids ih=>
  intro st i b' h;obtain⟨c,M,H,F⟩:=ih (st.frz id) i b' h;obtain⟨b,I,z,B⟩:=a9T st id i c M;refine⟨b,I,b3r z H,λhi=>?_⟩;rcases D0.1 hi with G|G
  ·exact B G
  ·have J:=F G;intro e k xs K;subst K;cases c with
   |row e' k' xs'=>exact J _ _ _ rfl
   |box=>exact z.elim
   |obj=>exact z.elim
theorem aC(K:z8 C st L a w){M':Nat->Prop}(I:∀b,M' b->Mut C st L b){x:A}(hx:∀id∈E9 x,∀e k xs,st.mem id=some (.row e k xs)->∀b,(L id).has b->¬M' b){v:Value}(h:RepA st L w (Mut C st L) x v):RepA st L w M' (y7 st x) v:=by
 have one:∀{y:A} {v:Value},(∀id∈Ko y,∀e k xs,st.mem id=some (.row e k xs)->∀b,(L id).has b->¬M' b)->RepA st L w (Mut C st L) y v->RepA st L w M' (H8 st y) v:=λ{y v} G h=>by
  have z:RepA st L w M' y v:=h.ext (Ext.refl _ _) (λb _ h=>I b h) (λ_ h=>h) (aO _ _);cases y with
  |ref id=>
   unfold H8
   dsimp only
   split
   ·rename_i e k xs F;cases h with
    |ref _ _ h1 hus hq=>rw[hq _ _ _ F];exact .t _ _ (hY (K.mem _ _ F).2 (λb J=>⟨(K.out id b (by rw[F];rfl) (.inl J)).2.1,G id (by simp[Ko]) e k xs F b (.inl J)⟩) (λb _ h=>I b h))
   ·exact z
  |_=>exact z
 have B:∀(y:A),y.single=true->(H8 st y).single=true:=λy G=>by
  cases y with
  |ref id=>unfold H8;dsimp only;split<;>rfl
  |_=>exact G
 cases x with
 |agg cs=>
  cases h with
  |agg _ vs hsz h1 hr=>
   refine .agg _ vs (by simpa using hsz) (λi hi=>?_) (λi hi=>?_)
   ·simp only[List.getElem_map];exact B _ (h1 i (by simpa using hi))
   ·simp only[List.getElem_map];exact one (λid H=>hx id (by simp only[E9,List.mem_flatMap];exact⟨_,B0 _,H⟩)) (hr i (by simpa using hi))
 |_=>exact(λq=>one q h) hx
theorem Yi{f:FuncId}(h:Lg P f=true)(args:Array Value)(w:World):(callFunc f args).run P w=.ok (.enter f args) w:=by
 unfold Lg at h;split at h
 ·rename_i F z;simp only[x7,Bool.not_eq_true',beq_eq_false_iff_ne,ne_eq]at h;obtain⟨c,B⟩:=B5.1 h.1;simp[callFunc,z,h.2,B]
 ·cases h
theorem a4j{o:Oper}{K:St->Prop}(f:FuncId)(args:Array Operand)(ts:Array TypeId)(ho:o.op=.call {callee:=.value (.func f),args:=args,argTypes:=ts})(r:A)(hf:FnP P f (args.toList.map λx=>y7 st (st.ev x)) r)(B:(args.toList.map λx=>y7 st (st.ev x)).all E2=true)(h:(R6 r=true/\K (st.put o.dst r))\/K ((st.frzs ((args.toList.map st.ev).flatMap E9)).put o.dst r)):Opk P o st K:=by
 intro C a w hP ⟨L,H⟩ hd next Q hn
 have B:(args.toList.all λx=>E2 (y7 st (st.ev x)))=true:=(by rw[List.all_map]at B;exact B);have V:(args.toList.map st.ev).flatMap E9=args.toList.flatMap λx=>E9 (st.ev x):=(by rw[List.flatMap_map]);rw[V]at h;obtain⟨Y,G⟩:=hf;have run:(execOp a.eval o).run P w=.ok (.enter f (args.map a.eval)) w:=by unfold execOp;simp only[ho,resolve,Deferred.ofValue,invoke,Act.eval,Sem.run_bind,Sem.run_pure,Result.andThen_ok];rw[show #[]++Array.map a.eval args++ #[]=args.map a.eval by simp];exact Yi Y _ w
 have S:∀i (hi:i<(args.toList.map λx=>y7 st (st.ev x)).length),(args.map a.eval).getD i undef=a.eval (args[i]'(by simpa using hi)):=λi hi=>by have:i<args.size:=(by simpa using hi);simp[Array.getD_eq_getD_getElem?,this]
 have F:∀(M':Nat->Prop),(∀b,M' b->Mut C st L b)->(∀x∈args.toList,∀id∈E9 (st.ev x),∀e k xs,st.mem id=some (.row e k xs)->∀b,(L id).has b->¬M' b)->
   ∀i (hi:i<(args.toList.map λx=>y7 st (st.ev x)).length),D4 w M' ((args.toList.map λx=>y7 st (st.ev x))[i]) ((args.map a.eval).getD i undef):=λM' X hx i hi=>by
  have ac:i<args.size:=(by simpa using hi);rw[S i hi];simp only[List.getElem_map,Array.getElem_toList];have I:args[i]∈args.toList:=(by simp);exact rP (List.all_eq_true.1 B _ I) (aC H X (hx _ I) (E0 H _))
 unfold Oper.wp;rw[run];rcases h with⟨aa,h⟩|h
 ·refine(G w (λ_=>False) (args.map a.eval) (λb z=>z.elim) (by simp) (F _ (λb z=>z.elim) (λ_ _ _ _ _ _ _ _ _ _ h=>h))).mono ?_;rintro e w' ⟨v,rfl,z,Z⟩;refine hn _ _ _ (by simp) h ⟨L,(H.later z.os z.tape z.output z.size z.block).put _ hd (Nc (nN aa Z))⟩
 ·generalize M:(args.toList.flatMap λx=>E9 (st.ev x))=ids at h;have O:=H.frzs ids;have X:∀b,Mut C (st.frzs ids) L b->Mut C st L b:=by
   rintro b (hx|⟨i,hi,R⟩)
   ·exact .inl hx
   ·obtain⟨b',J⟩:=B5.1 hi;obtain⟨c,U,_⟩:=MM ids st i b' J;exact .inr ⟨i,by rw[U];rfl,R⟩
  refine(G w (Mut C (st.frzs ids) L) (args.map a.eval) (λb z=>?_) (by simp) (F _ X (λx hx id ab e k xs hm b z=>?_))).mono ?_
  ·rcases z with hx|⟨i,hi,R⟩
   ·exact Nat.lt_of_lt_of_le (H.old b hx) H.size
   ·exact(O.out i b hi R).2.1
  ·rintro(hX|⟨i,hi,R⟩)
   ·exact(H.out id b (by rw[hm];rfl) z).1 hX
   ·obtain⟨b',J⟩:=B5.1 hi;obtain⟨c,U,_,N⟩:=MM ids st i b' J;have:i=id:=H.inj i id b (by rw[U];rfl) (by rw[hm];rfl) R z;subst this;have h4:=N (by rw[<-M];exact List.mem_flatMap.2 ⟨x,hx,ab⟩);rw[hm]at U;cases U;exact h4 _ _ _ rfl
  ·rintro e w' ⟨v,rfl,z,Z⟩;exact hn _ _ _ (by simp) h ⟨L,(O.later z.os z.tape z.output z.size z.block).put _ (by simpa using hd) (Nc Z)⟩
theorem b5t(U:z8 C st L a w){x:A}{v:Value}(h:RepA st L w (Mut C st L) x v):RepA st L w (λ_=>False) (T6 st x) v:=by
 have B:∀{y:A} {v:Value},RepA st L w (Mut C st L) y v->RepA st L w (λ_=>False) y v:=λh=>h.ext (Ext.refl _ _) (λb _ h=>h.elim) (λ_ h=>h) (aO _ _);have ref:∀{id:Nat} {v:Value} {e k:Nat} {xs:List (List T)},st.mem id=some (.row e k xs)->RepA st L w (Mut C st L) (.ref id) v->RepT w (λ_=>False) (.sl k xs) v:=λ{id v e k xs} F h=>by
  cases h with
  |ref _ _ I hus hq=>rw[hq _ _ _ F];exact hY (U.mem _ _ F).2 (λb S=>⟨(U.out id b (by rw[F];rfl) (.inl S)).2.1,λh=>h⟩) (λb _ h=>h.elim)
 have cell:∀{y:A} {v:Value} {t:T},He st y=some t->RepA st L w (Mut C st L) y v->RepT w (λ_=>False) t v:=λ{y v t} hl h=>by
  unfold He at hl;split at hl
  ·cases hl;cases h with
   |t _ _ h=>exact h.ext (Ext.refl _ _) λb _ h=>h.elim
  ·split at hl
   ·rename_i e k xs F;cases hl;exact ref F h
   ·cases hl
  ·cases hl;exact .any v (h.one rfl)
  ·cases hl
 have H:∀{cs:List A} {ts:List T},Cr st cs=some ts->ts.length=cs.length/\∀j (G:j<ts.length) (Q:j<cs.length),He st (cs[j])=some (ts[j]):=λ{cs}=>by
  induction cs with
  |nil=>intro ts h;cases h;exact⟨rfl,λj G=>by simp at G⟩
  |cons c cs ih=>
   intro ts h;unfold Cr at h;split at h
   ·rename_i x l I K;cases h;obtain⟨Y,V⟩:=ih K;refine⟨by simp[Y],λj G Q=>?_⟩;cases j with
    |zero=>exact I
    |succ j=>exact V j (by simpa using G) (by simpa using Q)
   ·cases h
 have one:∀{y:A} {v:Value},RepA st L w (Mut C st L) y v->RepA st L w (λ_=>False) (Bm st y) v:=λ{y v} h=>by
  cases y with
  |ref id=>
   show RepA st L w _ (match st.mem id with|some (.row _ k xs)=>.t (.sl k xs)|_=>.ref id) v;split
   ·rename_i e k xs F;exact .t _ _ (ref F h)
   ·exact B h
  |ptr id off=>
   show RepA st L w _ (match st.mem id with|some (.box _ cs)=>(match Cr st (cs.drop off)with|some ts=>.t (.fp ts)|none=>.ptr id off)|_=>.ptr id off) v;split
   ·rename_i ty cs F;split
    ·rename_i ts Z;obtain⟨M,R⟩:=H Z;cases h with
     |ptr _ _ _ I hu hq=>
      obtain⟨b,z,S,hw,N,X⟩:=(U.mem id _ F).2;rw[hq _ _ F];unfold Loc.ptr;rw[S];rw[List.length_drop]at M;have O:∀j,j<ts.length->off+j<cs.length:=λj G=>by omega
      refine .t _ _ (.fp ts b off (λj=>z.getD (off+j) undef) (U.out id b (by rw[F];rfl) (.inl S)).2.1 (λh=>h) (λj G=>?_) λj G=>?_)
      ·have:=O j G;have K:off+j<z.size:=(by omega);simp only[World.cell?,hw];simp[K,Array.getD_eq_getD_getElem?]
      ·have I:=O j G;have K:off+j<z.size:=(by omega);have:=(X (off+j) I).2;have Y:He st (cs[off+j])=some (ts[j]):=by have:=R j G (by rw[List.length_drop];omega);rw[List.getElem_drop]at this;exact this
       have V:z.getD (off+j) undef=z[off+j]:=(by simp[Array.getD_eq_getD_getElem?,K]);rw[V];exact cell Y this
    ·exact B h
   ·exact B h
  |_=>exact B h
 have J:∀(y:A),y.single=true->(Bm st y).single=true:=λy hy=>by
  cases y with
  |ref id=>unfold Bm H8;dsimp only;split<;>rfl
  |ptr id off=>unfold Bm;dsimp only;split<;>(try split)<;>rfl
  |_=>exact hy
 cases x with
 |agg cs=>
  cases h with
  |agg _ vs N I X=>
   refine .agg _ _ (by simpa using N) (λi hi=>?_) λi hi=>?_
   ·rw[List.getElem_map];exact J _ (I i (by simpa using hi))
   ·rw[List.getElem_map];exact one (X i (by simpa using hi))
 |_=>exact one h
theorem b0N{o:Oper}{K:St->Prop}(h:zI P o st K):Opk P o st K:=by
 intro C a w Z ⟨L,M⟩ hd next Q Y
 obtain⟨⟨H,args,ts⟩,f,r,V,R,O,z,N,S⟩:=h
 dsimp only at R O z
 subst R;obtain⟨I,F⟩:=O;have run:(execOp a.eval o).run P w=.ok (.enter f (args.map a.eval)) w:=by unfold execOp;simp only[V,resolve,Deferred.ofValue,invoke,Act.eval,Sem.run_bind,Sem.run_pure,Result.andThen_ok];rw[show #[]++Array.map a.eval args++ #[]=args.map a.eval by simp];exact Yi I _ w
 unfold Oper.wp;rw[run];refine(F w (λ_=>False) (args.map a.eval) (λb B=>B.elim) (by simp) (λi hi=>?_)).mono ?_
 ·have J:i<args.size:=(by simpa using hi);have U:(args.map a.eval).getD i undef=a.eval args[i]:=by rw[Array.getD_eq_getD_getElem?,Array.getElem?_eq_getElem (by simpa using J)];simp
  rw[U];have G:E2 ((args.toList.map λy=>T6 st (st.ev y))[i])=true:=List.all_eq_true.1 z _ (B0 hi);simp only[List.getElem_map,Array.getElem_toList]at G⊢;exact rP G (b5t M (E0 M _))
 ·rintro e w' ⟨v,rfl,B,X⟩;exact Y _ _ _ (by simp) S ⟨L,(M.later B.os B.tape B.output B.size B.block).put _ hd (Nc (nN N X))⟩
theorem b1k{o:Oper}{K:St->Prop}(h:EX P o st K):Opk P o st K:=by
 intro C a w hP ⟨L,S⟩ hd next Q hn
 obtain⟨⟨aa,args,ts⟩,x,t,r,ho,hc,hx,R,J,M,hK⟩:=h
 dsimp only at hc R J M
 subst hc;have N:=E0 S x;rw[hx]at N;have ad:(args.map a.eval).size=args.size:=(by simp);have O:∀(M':Nat->Prop),(∀b,M' b->b<w.heap.size)->(∀b,M' b->Mut C st L b)->(∀y∈args.toList,∀id∈E9 (st.ev y),∀e k xs,st.mem id=some (.row e k xs)->∀b,(L id).has b->¬M' b)->
   ∃f F,(execOp a.eval o).run P w=.ok (.enter f F) w/\Calls P f F w λe w'=>∃v,e=.returned v/\Below w.heap.size w w'/\D4 w' M' r v:=λM' X hM V=>by
  have I:∀i (hi:i<args.size),D4 w M' (y7 st (st.ev args[i])) ((args.map a.eval)[i]'(by simpa using hi)):=λi hi=>by have U:args[i]∈args.toList:=(by simp);simp only[Array.getElem_map];exact rP (List.all_eq_true.1 J _ (List.mem_map.2 ⟨_,U,rfl⟩)) (aC S hM (V _ U) (E0 S _))
  rcases R with⟨f,H,rfl,R⟩|⟨f,rfl,R⟩
  ·generalize hv:a.eval x=v at N;cases N with
   |t _ _ hr=>
    cases hr with
    |clo _ _ vs b off c hsz hva hcc hrr=>
     have run:(execOp a.eval o).run P w=.ok (.enter f (args.map a.eval++vs)) w:=by unfold execOp;simp only[ho,resolve,hv,Deferred.ofValue,invoke,Sem.run_bind,Sem.run_pure,Result.andThen_ok];rw[show #[]++Array.map a.eval args++vs=args.map a.eval++vs by simp];exact Yi R.1 _ w
     refine⟨f,_,run,R.2 w M' _ X (by simp[hsz]) λi hi=>?_⟩;by_cases z:i<args.size
     ·have e1:((args.toList.map λy=>y7 st (st.ev y))++H.map λc=>A.t (.fp c))[i]=y7 st (st.ev args[i]):=by rw[List.getElem_append_left (by simpa using z)];simp
      have Y:(args.map a.eval++vs).getD i undef=(args.map a.eval)[i]'(by simpa using z):=by rw[Array.getD_eq_getD_getElem?,Array.getElem?_append_left (by simpa using z),Array.getElem?_eq_getElem (by simpa using z)];rfl
      rw[e1,Y];exact I i z
     ·have hj:i-args.size<H.length:=(by simp at hi;omega);have e1:((args.toList.map λy=>y7 st (st.ev y))++H.map λc=>A.t (.fp c))[i]=.t (.fp H[i-args.size]):=by rw[List.getElem_append_right (by simpa using z)];simp
      have Y:(args.map a.eval++vs).getD i undef=vs.getD (i-args.size) undef:=by rw[Array.getD_eq_getD_getElem?,Array.getElem?_append_right (by simpa using z),Array.getD_eq_getD_getElem?];simp
      obtain⟨q1,q2,q3⟩:=hva _ hj;rw[e1,Y,q1];exact .t _ _ (.fp _ _ _ _ q2 (λh=>q3 (hM _ h)) (hcc _ hj) λj ab=>(hrr _ hj j ab).ext (Ext.refl _ _) λb _=>hM b)
  ·have hv:=D3 N;have run:(execOp a.eval o).run P w=.ok (.enter f (args.map a.eval)) w:=by unfold execOp;simp only[ho,resolve,hv,Deferred.ofValue,invoke,Sem.run_bind,Sem.run_pure,Result.andThen_ok];rw[show #[]++Array.map a.eval args++ #[]=args.map a.eval by simp];exact Yi R.1 _ w
   refine⟨f,_,run,R.2 w M' _ X (by simp) λi hi=>?_⟩;have z:i<args.size:=(by simpa using hi);have Y:(args.map a.eval).getD i undef=(args.map a.eval)[i]'(by simpa using z):=by rw[Array.getD_eq_getD_getElem?,Array.getElem?_eq_getElem (by simpa using z)];rfl
   rw[Y];simpa using I i z
 unfold Oper.wp;rcases M with M|Z
 ·obtain⟨f,F,run,B⟩:=O (λ_=>False) (λ_ h=>h.elim) (λ_ h=>h.elim) (λ_ _ _ _ _ _ _ _ _ _ h=>h);rw[run];refine B.mono ?_;rintro e w' ⟨v,rfl,G,hr⟩;exact hn _ _ _ (by simp) hK ⟨L,(S.later G.os G.tape G.output G.size G.block).put _ hd (Nc (nN M hr))⟩
 ·obtain⟨f,F,run,B⟩:=O (Mut C st L) (λb G=>by
   rcases G with hx|⟨i,hi,hl⟩
   ·exact Nat.lt_of_lt_of_le (S.old b hx) S.size
   ·exact(S.out i b hi hl).2.1) (λ_ h=>h) (λy hy id ac e k xs hm b G=>by
    have:id∈(args.toList.map st.ev).flatMap E9:=(by rw[List.flatMap_map];exact List.mem_flatMap.2 ⟨y,hy,ac⟩);rw[Z]at this;simp at this)
  rw[run];refine B.mono ?_;rintro e w' ⟨v,rfl,G,hr⟩;exact hn _ _ _ (by simp) hK ⟨L,(S.later G.os G.tape G.output G.size G.block).put _ hd (Nc hr)⟩
theorem a2y{o:Oper}{K:St->Prop}(f:FuncId)(args:Array Operand)(ts:Array TypeId)(O:o.op=.call {callee:=.value (.func f),args:=args,argTypes:=ts})(h:tE P f o.dst (args.toList.map st.ev) st K):Opk P o st K:=by
 intro C a w U ⟨L,J⟩ hd next Q S
 obtain⟨H,m,r,Y,ρ,X,I,B,_,V,_,z,N⟩:=h;have run:(execOp a.eval o).run P w=.ok (.enter f (args.map a.eval)) w:=by unfold execOp;simp only[O,resolve,Deferred.ofValue,invoke,Act.eval,Sem.run_bind,Sem.run_pure,Result.andThen_ok];rw[show #[]++Array.map a.eval args++ #[]=args.map a.eval by simp];exact Yi I.1 _ w
 unfold Oper.wp;rw[run];subst U;refine(a3b J I V (args.map a.eval) (args.toList.map st.ev) (by simp) (λi hi=>?_) z B).mono ?_
 ·have G:i<args.size:=(by simpa using hi);have e:(args.map a.eval).getD i undef=a.eval (args[i]):=(by simp[Array.getD_eq_getD_getElem?,G]);rw[e];simp only[List.getElem_map,Array.getElem_toList];exact E0 J _
 ·rintro e w' ⟨v,M,rfl,F,R⟩;exact S _ _ _ (by simp[St.back]) N ⟨M,F.put _ hd R⟩
end
section
open Go.RowKit
variable{C:Ctx}{st st':St}{L L':Nat->Loc}{a:Act}{w:World}{P:Program}
theorem a6q{o:Oper}{K:St->Prop}(t:TypeId)(p x:Operand)(ho:o.op=.store t p x)(ti:TI)(cs:List A)(ht:x9 P t=some ti)(hc:cellsOf (st.ev x)=some cs)(aj:cs.length=ti.size)(id i j:Nat)(e:TypeId)(k:Nat)(xs:List (List T))(el l:List T)(hp:st.ev p=.rptr id i j)(hm:st.mem id=some (.row e k xs))(au:xs[i]? =some el)(hl:O3 cs=some l)(R:j+l.length<=el.length)(h:K ((st.setm id (.row e k (xs.set i (el.take j++l++el.drop (j+l.length))))).put o.dst .dead)):Opk P o st K:=by
 intro C a w hP ⟨L,hs⟩ hd next Q hn
 obtain⟨az,d,z,hi,Z,hz,h1,h2,h3,h4,h5,h6,h7,h8,h9⟩:=(P5 ht).ex;obtain⟨X,ac⟩:=EM hc (E0 hs x);obtain⟨a3,ao⟩:=DM cs l hl;have Y:=E0 hs p;rw[hp]at Y;generalize hv:a.eval p=v at Y;cases Y with
 |rptr _ _ _ _ q1 q2 q3=>
  obtain⟨V,rfl⟩:=o9.1 au;obtain⟨h0,hk,M⟩:=(hs.mem _ _ hm).2;rcases M with⟨aw,_⟩|⟨b,F,hb,hw,ae,ap,ad,ai⟩
  ·subst aw;simp at V
  ·have e1:v=.pointer (some ⟨b,i*k+j,none⟩):=(by rw[q3 _ _ _ hm];simp[Loc.ptr,hb]);have an:=hk i V;have a4:(i+1)*k<=xs.length*k:=Nat.mul_le_mul_right _ V;have a0:xs.length*k<=(L id).cap*k:=Nat.mul_le_mul_right _ ae;have ay:(i+1)*k=i*k+k:=(by rw[Nat.add_mul,Nat.one_mul]);have I:(i*k+j)+(a.eval x).cells.size<=F.size:=(by rw[X,ad];omega);have aa:∀u∈(a.eval x).cells.toList,u.oneCell'=true:=λu Z=>by obtain⟨q,M,rfl⟩:=List.getElem_of_mem Z;have J:q<cs.length:=(by simp at M;omega);obtain⟨av,u,Z,hr⟩:=ac q _ (w9 J);have:(a.eval x).cells[q]? =some u:=Z;rw[Array.getElem?_eq_getElem (by omega)]at this;cases this;exact hr.one av
   have af:=QM (P:=P) hw hi (a.eval x) (i*k+j) (by rw[X,aj,h1]) I aa;generalize N:(xs[i]).take j++l++(xs[i]).drop (j+l.length)=el' at h;have S:el'.length=k:=(by rw[<-N,Hk _ _ _ R,an]);refine AT (w':=_) (by unfold execOp;simp only[ho,hv,e1];rw[Sem.run_bind,af];rfl) (hn _ _ _ (by simp;rfl) h ⟨L,z8.put (hs.setm id _ (.row e k (xs.set i el')) hm ⟨rfl,by simp⟩ b hb ?_) _ hd (.dead _)⟩);have ar:((F.toList.take (i*k+j)++(a.eval x).cells.toList++F.toList.drop ((i*k+j)+(a.eval x).cells.toList.length)).toArray).size=F.size:=by rw[List.size_toArray,Hk _ _ _ (by simpa using I)];simp
   refine⟨h0,λq M=>?_,.inr ⟨b,_,hb,setRow_heap w b F _ e _ hw,by simpa using ae,ap,by rw[ar];exact ad,λq M r hr=>?_⟩⟩
   ·by_cases eq:q=i
    ·subst eq;simp[S]
    ·rw[List.getElem_set_ne (λh=>eq h.symm)];exact hk q (by simpa using M)
   ·have J:q<xs.length:=(by simpa using M);have ext:∀{y:T} {u:Value},RepT w (Mut C st L) y u->RepT (w.setRow b (F.toList.take (i*k+j)++(a.eval x).cells.toList++F.toList.drop ((i*k+j)+(a.eval x).cells.toList.length)).toArray) (Mut C st L) y u:=λhy=>hy.ext ⟨by simp,λk hk am=>setRow_other w b k _ λe=>am (.inr ⟨id,by rw[hm];rfl,by rw[e];exact .inl hb⟩)⟩ (λ_ _ h=>h)
    have g2:=Lf F.toList (a.eval x).cells.toList (i*k+j) (q*k+r) (by simpa using I);have a1:(a.eval x).cells.toList.length=cs.length:=(by simpa using X);rw[List.getElem?_toArray,g2];by_cases eq:q=i
    ·subst eq;have U:r<el'.length:=(by simpa using hr);have e3:(xs.set q el')[q]'M=el':=(by simp);simp only[e3];have ax:(el'[r]? :Option T)=some (el'[r]):=w9 U;have B:((xs[q]).take j++l++(xs[q]).drop (j+l.length))[r]? =some (el'[r]):=(by rw[N];exact ax);rw[Lf _ _ _ _ R]at B;have old:∀tt,(xs[q])[r]? =some tt->∃c,F.toList[q*k+r]? =some c/\RepT w (Mut C st L) tt c:=λtt ak=>by obtain⟨z1,rfl⟩:=o9.1 ak;obtain⟨c,G,H⟩:=ai q J r z1;exact⟨c,by simpa using G,H⟩
     by_cases c1:r<j
     ·rw[if_pos c1]at B;rw[if_pos (by omega)];obtain⟨c,G,H⟩:=old _ B;exact⟨c,G,ext H⟩
     ·rw[if_neg c1]at B;rw[if_neg (by omega)];by_cases c2:r<j+l.length
      ·rw[if_pos c2]at B;rw[if_pos (by omega),show q*k+r-(q*k+j)=r-j by omega];have ah:r-j<cs.length:=(by omega);have hy:=ao (r-j) _ _ (w9 ah) B;obtain⟨_,u,Z,O⟩:=ac (r-j) _ (w9 ah);rw[hy]at O;exact⟨u,by simpa using Z,ext (Di O)⟩
      ·rw[if_neg c2]at B;rw[if_neg (by omega)];obtain⟨c,G,H⟩:=old _ B;exact⟨c,G,ext H⟩
    ·have e3:(xs.set i el')[q]'M=xs[q]:=List.getElem_set_ne (λh=>eq h.symm) _;simp only[e3];have U:r<(xs[q]).length:=(by simpa[e3]using hr);have a2:=hk q J;obtain⟨c,G,H⟩:=ai q J r U;refine⟨c,?_,ext H⟩;have ab:q*k+r<i*k+j\/i*k+j+cs.length<=q*k+r:=by
      rcases Nat.lt_or_gt_of_ne eq with al|aq
      ·have:(q+1)*k<=i*k:=Nat.mul_le_mul_right _ al;rw[Nat.add_mul]at this
       left;omega
      ·have:(i+1)*k<=q*k:=Nat.mul_le_mul_right _ aq
       right;omega
     rcases ab with ag|ag
     ·rw[if_pos ag];simpa using G
     ·rw[if_neg (by omega),if_neg (by omega)];simpa using G
theorem a67{o:Oper}{K:St->Prop}(h:C9 P o st K):Opk P o st K:=by
 unfold C9 at h;split at h
 ·exact RN _ (.inl (by assumption)) h
 ·exact RN _ (.inr (by assumption)) h
 ·obtain⟨t,hc,h⟩:=h;exact a2P _ _ _ (by assumption) t hc h
 ·obtain⟨d,H,F,B,G,h⟩:=h;exact a2O _ (by assumption) d H F B G h
 ·obtain⟨d,cs,F,B,G,h⟩:=h;exact a9K _ _ (by assumption) d cs F B G h
 ·obtain⟨H,cs,F,B,G,h⟩:=h;exact a4k _ _ (by assumption) H cs F B G h
 ·obtain⟨d,H,e,R,xs,F,B,G,I,J,M,N,S,h9,h⟩:=h;exact b3w _ _ _ (by assumption) d H e R xs F B G I J M N S _ h9 h
 ·obtain⟨H,x,F,B,h⟩:=h;exact a7o _ _ (by assumption) H x F B h
 ·obtain⟨H,cs,F,B,G,h⟩:=h;rcases h with⟨id,ab,ty,O,I,J,M,h⟩|⟨id,i,j,e,k,xs,Z,l,I,J,M,N,S,h⟩
  ·exact a5X _ _ _ (by assumption) H cs id ab ty O F B G I J M h
  ·exact a6q _ _ _ (by assumption) H cs F B G id i j e k xs Z l I J M N S h
 ·exact b5E _ (by assumption) h.1 h.2
 ·obtain⟨z,F,B,h⟩:=h;exact a3M _ _ _ _ _ (by assumption) z B F h
 ·obtain⟨y,z,F,B,G,h⟩:=h;exact b3Z _ _ _ (by assumption) y z F B G h
 ·obtain⟨z,F,B,h⟩:=h;exact b04 _ _ _ (by assumption) z F B h
 ·obtain⟨H,z,F,B,G,I,h⟩:=h;exact b0z _ _ _ (by assumption) H z F G I h
 ·obtain⟨H,z,F,B,G,h⟩:=h;exact a54 _ _ _ (by assumption) H z F G h
 ·obtain⟨H,e,R,k',xs,k,n,Z,F,B,G,I,J,M,N,h⟩:=h;exact a8H _ _ _ (by assumption) H e R k' xs k n Z F B G I J M N h
 ·obtain⟨s,k,n,b,F,B,G,I,h⟩:=h;exact a6Y _ _ _ (by assumption) s k n b F B G I h
 ·obtain⟨cs,y,F,B,h⟩:=h;exact a35 _ _ (by assumption) cs y F B h
 ·rename_i c V;obtain⟨U,args,ts⟩:=c
  dsimp only at h
  split at h
  ·rename_i x ty tl ha X;obtain⟨z,B,h⟩:=h;have Q:args= #[x]:=(by rw[<-Array.toList_inj];simpa using ha);subst Q;exact a38 _ _ V ty z (by rw[<-Array.getElem?_toList,X];rfl) B h
  ·rename_i x y t t' ha X;obtain⟨d,H,e,R,Y,ys,rfl,F,B,G,I,J,M,N,S,h⟩:=h;have Q:args= #[x,y]:=(by rw[<-Array.toList_inj];simpa using ha);have aa:ts= #[t,t]:=(by rw[<-Array.toList_inj];simpa using X);subst Q aa;exact b14 _ _ _ V d H e R Y ys F B G I J M N S h
  ·rename_i f;rcases h with⟨r,F,B,h⟩|h
   ·exact a4j _ _ _ V r F B h
   ·exact a2y _ _ _ V h
  ·exact h.elim
 ·exact h.elim
theorem oL(G:z8 C st L a w){o:Oper}(z:(D1 o st).all E2=true){M':Nat->Prop}(H:∀b,M' b->Mut C st L b)(hx:∀x∈opL o.op,∀id∈E9 (st.ev x),∀e k xs,st.mem id=some (.row e k xs)->∀b,(L id).has b->¬M' b):(D1 o st).length=(opL o.op).length/\∀i (hi:i<(D1 o st).length) (B:i<(opL o.op).length),D4 w M' ((D1 o st)[i]) (a.eval ((opL o.op)[i])):=by refine⟨by simp[D1],λi hi B=>?_⟩;have F:=List.all_eq_true.1 z _ (B0 hi);simp only[D1,List.getElem_map]at F⊢;exact rP F (aC G H (hx _ (B0 B)) (E0 G _))
theorem a1e{o:Oper}{K:St->Prop}(h:gH P o st K):Opk P o st K:=by
 intro C a w hP ⟨L,G⟩ hd next Q Y
 obtain⟨z,h⟩:=h;have M:N0 o st=true->∀x∈opL o.op,∀id∈E9 (st.ev x),False:=λh x hx id F=>by have:id∈(opL o.op).flatMap λx=>E9 (st.ev x):=List.mem_flatMap.2 ⟨x,hx,F⟩;unfold N0 at h;rw[List.isEmpty_iff.1 h]at this;simp at this
 rcases h with⟨x,hq,J,S⟩|⟨d,e,k,ys,H,hu,⟨h0,hm⟩,⟨I,_⟩,S⟩
 ·rcases J with J|I
  ·obtain⟨O,N⟩:=oL G z (M':=λ_=>False) (λ_ h=>h.elim) (λ_ _ _ _ _ _ _ _ _ _ h=>h);obtain⟨v,w',Z,B,X⟩:=hq w (λ_=>False) a.eval (λ_ h=>h.elim) O N;exact L7 Z (Y _ _ _ (by simp) S ⟨L,(G.later B.os B.tape B.output B.size B.block).put _ hd (Nc (nN J X))⟩)
  ·obtain⟨O,N⟩:=oL G z (M':=Mut C st L) (λ_ h=>h) (λx hx id F _ _ _ _ _ _=>(M I x hx id F).elim);obtain⟨v,w',Z,B,X⟩:=hq w (Mut C st L) a.eval (λb B=>by
    rcases B with hx|⟨i,hi,hl⟩
    ·exact Nat.lt_of_lt_of_le (G.old b hx) G.size
    ·exact(G.out i b hi hl).2.1) O N
   exact L7 Z (Y _ _ _ (by simp) S ⟨L,(G.later B.os B.tape B.output B.size B.block).put _ hd (Nc X)⟩)
 ·obtain⟨O,N⟩:=oL G z (M':=Mut C st L) (λ_ h=>h) (λx hx id F _ _ _ _ _ _=>(M I x hx id F).elim);obtain⟨V,U,w1,q1,q2,q3,q4,q5,q6,q7,q8,q9,R⟩:=hm w (Mut C st L) a.eval O N;refine L7 R (Y _ _ _ (by simp[St.new]) S (Xm G d hu e k h0 ys q8 V U q5 q6 q7 q1 q2 q3 q4 q9 _ H (hd d H)))
theorem b6g{o:Oper}{K:St->Prop}(h:∃od d,Ho o=true/\o.dst=some d/\st.used d=false/\N0 o st=true/\(D1 o st).all E2=true/\Jk P o (D1 o st) od/\K ((st.new d (.obj od)).put o.dst (.ob d))):Opk P o st K:=by
 obtain⟨od,d,_,I,hu,H,G,hm,hK⟩:=h;intro C a w hP ⟨L,N⟩ hd next Q hn
 have R:∀x∈opL o.op,∀id∈E9 (st.ev x),False:=λx hx id F=>by have:id∈(opL o.op).flatMap λx=>E9 (st.ev x):=List.mem_flatMap.2 ⟨x,hx,F⟩;unfold N0 at H;rw[List.isEmpty_iff.1 H]at this;simp at this
 obtain⟨h1,Y⟩:=oL N G (M':=Mut C st L) (λ_ h=>h) (λx hx id F _ _ _ _ _ _=>(R x hx id F).elim);obtain⟨ob,w1,X,q2,q3,q4,q5,q6,J⟩:=hm w (Mut C st L) a.eval (λb O=>by
  rcases O with hx|⟨i,hi,hl⟩
  ·exact Nat.lt_of_lt_of_le (N.old b hx) N.size
  ·exact(N.out i b hi hl).2.1) h1 Y
 have B:w1.heap.size=w.heap.size:=(by rw[X]);have z:∀b,b<w.heap.size->(w1.alloc ob).heap[b]? =w.heap[b]? :=λb O=>by rw[Below.heap_alloc w1 _ _ (by omega),X]
 have V:z8 C (st.new d (.obj od)) (upd L d (Loc.at_ w.heap.size 0)) a (w1.alloc ob):=by refine N.new d (.inl (hd d I)) hu _ _ q2 q3 q4 (by simp;omega) z (λb O=>by cases DJ O;simp;omega) (λM Z=>⟨w.heap.size,ob,by rw[N1],by rw[<-B];exact heap_alloc_new w1 _,?_⟩);exact q5.move q6 ⟨by simp;omega,λk hk _=>z k hk⟩ Z
 refine L7 J (hn _ _ _ (by simp[St.new]) hK ⟨_,V.put _ hd (.ob d _ (by unfold Loc.ob;split<;>rfl) (by simp[St.new,upd]) λU S=>?_)⟩);have:od=U:=(by simpa[St.new,upd]using S);subst this;rw[N1]
theorem YU{o:Oper}{K:St->Prop}(h:Dg P o st K):Opk P o st K:=by
 rcases h with h|h|(⟨i,b,xs,b',id,d,_,F,z,H,B,J,I,G⟩|⟨i,b,xs,b',r,id,_,F,z,H,_,B,G⟩|h)|h|h
 ·exact a67 h
 ·exact a1e h
 ·exact I st id d K F z H B J G
 ·exact B st id K F z H G
 ·exact b6g h
 ·exact b1k h
 ·exact b0N h
def Td(ops:Array Oper)(n:Nat):Bool:=ops.toList.all λo=>match o.dst with|some d=>decide (d<n)|none=>true
theorem WZ{z:Array Oper}{n:Nat}(h:Td z n=true){i:Nat}{o:Oper}(B:z[i]? =some o):∀d,o.dst=some d->d<n:=by intro d hd;have:=List.all_eq_true.1 h o (O8 (by simpa using B));rw[hd]at this;exact F3 this
theorem jO(z:Array Oper):∀(l:List Nat) (st:St) (K:St->Prop),Bq P z l st K->Td z st.n=true->∀(C:Ctx) (a:Act) (w:World),C.P=P->Sim C st a w->∀Q:Exit->Act->World->Prop,(∀st' X w',st'.n=st.n->K st'->Sim C st' X w'->Q .normal X w')->wpOps P z Q l a w
 | [],st,K,h,hok,C,a,w,hP,B,Q,hn=>hn st a w rfl h B
 |i::rest,st,K,h,hok,C,a,w,hP,B,Q,hn=>by
  simp only[Bq]at h;simp only[wpOps];cases ho:z[i]? with
  |none=>simp only[ho]at h⊢;exact jO z rest st K h hok C a w hP B Q hn
  |some o=>
   simp only[ho]at h⊢;have hd:=WZ hok ho;have go:(∃ids,Opk P o (st.frzs ids) (λst'=>Bq P z rest st' K))->o.wp P a w (wpOps P z Q rest) Q:=λ⟨ids,h⟩=>by obtain⟨L,aa⟩:=B;have N:(st.frzs ids).n=st.n:=(by simp);exact h C a w hP ⟨L,aa.frzs ids⟩ (by rw[N];exact hd) _ Q λst' X w' V hK H=>jO z rest st' K hK (by rw[V,N];exact hok) C X w' hP H Q λs a w S F h3=>hn s a w (by rw[S,V,N]) F h3
   cases O:o.guard with
   |none=>simp only[O]at h;have:Region.wanted o (yielded z a.tmps)=true:=(by simp[Region.wanted,O]);rw[if_pos this];exact .inl (go h)
   |some jw=>
    obtain⟨j,R⟩:=jw;simp only[O]at h;have skip:Bq P z rest (st.put o.dst (.tup [])) K->¬Region.wanted o (yielded z a.tmps)=true->wpOps P z Q rest (a.put o.dst undef) w:=λF this=>by obtain⟨L,H⟩:=B;have U:Sim C (st.put o.dst (.tup [])) (a.put o.dst undef) w:=⟨L,H.put _ hd (.tup _ _ rfl λi hi=>by simp at hi)⟩;exact jO z rest _ K F (by simpa using hok) C _ w hP U Q λs a w S F h3=>hn s a w (by simpa using S) F h3
    rcases h with⟨b,G,S,F⟩|⟨G,F⟩
    case inr=>
     have Y:yielded z a.tmps j=none:=by
      unfold Ov at G;unfold yielded;split at G
      ·rename_i d M;rw[M];obtain⟨L,B⟩:=B;have e:=B.env d;rw[G]at e;generalize Z:a.tmps.getD d undef=v at e;cases e with
       |tup _ vs hsz _=>
        rw[Array.getD_eq_getD_getElem?]at Z;cases I:a.tmps[d]? with
        |none=>simp[I]
        |some v=>rw[I]at Z;simp at Z;subst Z;simp[I]
      ·cases G
     have:¬Region.wanted o (yielded z a.tmps)=true:=(by simp[Region.wanted,O,Y]);rw[if_neg this];exact skip F this
    have Y:yielded z a.tmps j=some b:=by
     unfold Ov at G;unfold yielded;split at G
     ·rename_i d M;rw[M];obtain⟨L,B⟩:=B;have e:=D3 (G▸B.env d);rw[Array.getD_eq_getD_getElem?]at e;cases I:a.tmps[d]? with
      |none=>rw[I]at e;simp[undef]at e
      |some v=>rw[I]at e;simp at e;subst e;simp[I]
     ·cases G
    by_cases J:b=R
    ·subst J;have:Region.wanted o (yielded z a.tmps)=true:=(by simp[Region.wanted,O,Y]);rw[if_pos this];exact .inl (go (S rfl))
    ·have:¬Region.wanted o (yielded z a.tmps)=true:=(by simp[Region.wanted,O,Y,J]);rw[if_neg this];exact skip (F J) this
def W(P:Program)(c:Code)(st:St)(Q:Exit->St->Prop):Prop:=
 ∀(C:Ctx) (a:Act) (w:World),C.P=P->Sim C st a w->c.wp P (λe a' w'=>∃st',st'.n=st.n/\Q e st'/\Sim C st' a' w') a w
theorem b4h{id:Nat}{z:Array Oper}{Q:Exit->St->Prop}(B:Td z st.n=true)(h:Bq P z (List.range z.size) st (Q .normal)):W P (.region id z false) st Q:=
 λC a w F J=>wp_region (jO z _ st _ h B C a w F J _ λst' K w' H G I=>⟨st',H,G,I⟩)
theorem a6X{Q:Exit->St->Prop}(h:Q .normal st):W P .skip st Q:=λC a w B z=>wp_skip ⟨st,rfl,h,z⟩
theorem a9o{id:Nat}{Q:Exit->St->Prop}(h:Q (.exit id) st):W P (.exit id) st Q:=λC a w B z=>wp_exit ⟨st,rfl,h,z⟩
theorem b54{Q:Exit->St->Prop}(h:Q .ret st):W P .ret st Q:=λC a w B z=>wp_ret ⟨st,rfl,h,z⟩
def uG(P:Program)(y:Code)(Q:Exit->St->Prop):Exit->St->Prop
 |.normal,st=>W P y st Q
 |e,st=>Q e st
theorem b5s{x y:Code}{Q:Exit->St->Prop}(h:W P x st (uG P y Q)):W P (.seq x y) st Q:=λC a w z F=>
 wp_seq (wp_mono (h C a w z F) λe B w' ⟨st',h1,h2,h3⟩=>by
  cases e with
  |normal=>exact wp_mono (h2 C B w' z h3) λe a w ⟨s,q1,q2,q3⟩=>⟨s,by rw[q1,h1],q2,q3⟩
  |_=>exact⟨st',h1,h2,h3⟩)
theorem b0D{c:Operand}{x y:Code}{Q:Exit->St->Prop}(b:Bool)(J:st.ev c=.v (.bool b))(H:b=true->W P x st Q)(G:b=false->W P y st Q):W P (.cond c x y) st Q:=λC a w F I=>by obtain⟨L,z⟩:=I;have e:=D3 (J▸E0 z c);exact wp_cond_split e (λB=>H B C a w F ⟨L,z⟩) (λB=>G B C a w F ⟨L,z⟩)
def Pu(id:Nat)(Q:Exit->St->Prop):Exit->St->Prop
 |.exit i,st=>if i=id then Q .normal st else Q (.exit i) st
 |e,st=>Q e st
theorem b25{id:Nat}{c:Code}{Q:Exit->St->Prop}(h:W P c st (Pu id Q)):W P (.block id c) st Q:=λC a w z B=>
 wp_block (wp_mono (h C a w z B) λe F w' ⟨st',h1,h2,h3⟩=>by
  cases e with
  |exit i=>
   simp only[Exit.inBlock];simp only[Pu]at h2;split
   ·rename_i hi;rw[if_pos hi]at h2;exact⟨st',h1,h2,h3⟩
   ·rename_i hi;rw[if_neg hi]at h2;exact⟨st',h1,h2,h3⟩
  |_=>exact⟨st',h1,h2,h3⟩)
def X7(st st':St):Prop:=st'.n=st.n/\∀(C:Ctx) (a:Act) (w:World),Sim C st a w->Sim C st' a w
theorem X7.refl(st:St):X7 st st:=⟨rfl,λ_ _ _ h=>h⟩
def a3D{σ:Type}(inv:σ->Prop)(μ:σ->Nat)(s:σ->St)(x:σ)(Q:Exit->St->Prop):Exit->St->Prop
 |.normal,st=>∃x',inv x'/\μ x'<μ x/\X7 st (s x')
 |e,st=>Q e st
theorem b5L{σ:Type}(z:σ->Prop)(G:σ->Nat)(s:σ->St){c:Code}{Q:Exit->St->Prop}(F:σ)(h0:z F)(N:X7 st (s F))(O:∀x,(s x).n=st.n)(h:∀x,z x->W P c (s x) (a3D z G s x Q)):W P (.loop c) st Q:=λC a w R J=>by
 refine wp_loop_ghost (λn a w=>∃x,z x/\G x=n/\Sim C (s x) a w) (G F) ⟨F,h0,rfl,N.2 C a w J⟩ ?_;rintro n a w ⟨x,hi,rfl,J⟩;refine wp_mono (h x hi C a w R J) λe M w' ⟨st',h1,h2,h3⟩=>?_;cases e with
 |normal=>obtain⟨K,I,H,B⟩:=h2;exact⟨G K,H,K,I,rfl,B.2 C M w' h3⟩
 |_=>exact⟨st',by rw[h1,O],h2,h3⟩
end
section
open Go.RowKit
variable{C:Ctx}{st st' st2:St}{L L':Nat->Loc}{a:Act}{w:World}{P:Program}
section fit
variable{ρ:Nat->Option Nat}{es:List (Nat × A)}{ms:List (Nat × Blk)}
theorem LX(ap:∀i,i<1000->ρ i=some i)(R:V0 ρ st es ms):X7 st (R7 st.n es ms):=by
 refine⟨rfl,λC a w ⟨L,hs⟩=>⟨λi=>match ρ i with|some j=>L j|none=>nol,?_⟩⟩;generalize ak:(λi=>match ρ i with|some j=>L j|none=>(nol:Loc))=L';have hL:∀i,L' i=match ρ i with|some j=>L j|none=>nol:=λi=>by rw[<-ak]
 have H:∀i b',(R7 st.n es ms).mem i=some b'->(i,b')∈ms:=λi b' h=>V4 h;have G:∀i b',(R7 st.n es ms).mem i=some b'->∀b,(L' i).has b->∃j,ρ i=some j/\(st.mem j).isSome=true/\(L j).has b:=λi b' hi b J=>by
  have:=R.hms _ (H i b' hi);unfold leM at this;rw[hL]at J;cases K:ρ i with
  |none=>rw[K]at J;exact(zP J).elim
  |some j=>rw[K]at J this;obtain⟨c,hc,_⟩:=this;exact⟨j,rfl,by rw[hc];rfl,J⟩
 have Z:∀b,Mut C (R7 st.n es ms) L' b->Mut C st L b:=by
  rintro b (hx|⟨i,hi,Q⟩)
  ·exact .inl hx
  ·obtain⟨b',B⟩:=B5.1 hi;obtain⟨j,_,h1,h2⟩:=G i b' B b Q;exact .inr ⟨j,h1,h2⟩
 have X:∀j,(∀p∈ms,ρ p.1≠some j)->(st.mem j).isSome=true->∀b,(L j).has b->¬Mut C (R7 st.n es ms) L' b:=by
  rintro j af K b J (hx|⟨i,hi,Q⟩)
  ·exact(hs.out j b K J).1 hx
  ·obtain⟨b',B⟩:=B5.1 hi;obtain⟨q,h0,h1,h2⟩:=G i b' B b Q;have:=hs.inj q j b h1 K h2 J;subst this;exact af _ (H i b' B) h0
 refine⟨hs.hn,hs.hd,λt=>?_,λi b' B=>⟨?_,?_⟩,λi j b hi K ar aq=>?_,λi b hi Q=>?_,hs.old,hs.os,hs.tape,hs.output,hs.size,hs.block,hs.pinN,λi b hp hi=>?_⟩
 ·show RepA _ _ _ _ ((look es t).getD .dead) _;cases ht:look es t with
  |none=>exact .dead _
  |some y=>
   have:=R.hes _ (V4 ht);unfold leA at this;split at this
   ·rename_i e;simp only at e;subst e;exact .dead _
   ·rename_i cs ds ha J;have V:=hs.env t;have e1:(t,y).2=y:=rfl;have ah:st.env t=.tup cs:=ha;rw[ah]at V;have B:y=.tup ds:=J;subst B;obtain⟨Q,hg⟩:=Xu this;generalize a.tmps.getD t undef=v at V;cases V with
    |tup _ vs hvs hrr=>exact .tup _ _ (by omega) λi hi=>aH hs R hL Z X (hg i (by omega) hi) (hrr i (by omega))
   ·exact sF hs R hL Z X this (hs.env t)
 ·have:look ms i=some b':=B;simp[R7,this]
 ·have:=R.hms _ (H i b' B);unfold leM at this;cases K:ρ i with
  |none=>rw[K]at this;obtain⟨e,k,rfl,h0⟩:=this;exact⟨h0,λq M=>by simp at M,.inl ⟨rfl,by rw[hL,K]⟩⟩
  |some j=>
   rw[K]at this;obtain⟨b,J,z⟩:=this;have O:=(hs.mem j b J).2;have F:L' i=L j:=(by rw[hL,K]);cases b with
   |obj od=>
    cases b' with
    |row=>exact z.elim
    |box=>exact z.elim
    |obj od'=>have e:od=od':=z;subst e;obtain⟨g,o,N,hw,V⟩:=O;exact⟨g,o,by rw[F];exact N,hw,by rw[F];exact V.ext (Ext.refl _ _) (λb _=>Z b) rfl (λ_ _=>rfl)⟩
   |box ty cs=>
    cases b' with
    |row=>exact z.elim
    |obj=>exact z.elim
    |box ty' ds=>obtain⟨rfl,z⟩:=z;obtain⟨Q,hg⟩:=Xu z;obtain⟨g,vs,N,hw,ab,V⟩:=O;exact⟨g,vs,by rw[F];exact N,hw,by omega,λq M=>⟨BU (hg q (by omega) M),aH hs R hL Z X (hg q (by omega) M) (V q (by omega)).2⟩⟩
   |row e k xs=>
    cases b' with
    |box=>exact z.elim
    |obj=>exact z.elim
    |row e' k' ys=>
     obtain⟨rfl,rfl,Q,hk,z⟩:=z;obtain⟨h0,aj,M⟩:=O;refine⟨h0,λq M=>by rw[<-hk q (by omega) M];exact aj q (by omega),?_⟩;rcases M with⟨ai,hn⟩|⟨g,am,N,hw,aw,ag,ab,hc⟩
     ·subst ai;exact .inl ⟨List.eq_nil_of_length_eq_zero (by simpa using Q.symm),by rw[F];exact hn⟩
     ·refine .inr ⟨g,am,by rw[F];exact N,hw,by rw[F];omega,by rw[F];exact ag,by rw[F];exact ab,λp hp q M=>?_⟩;have ac:q<(xs[p]'(by omega)).length:=(by rw[hk p (by omega) hp];exact M);obtain⟨c,av,an⟩:=hc p (by omega) q ac;exact⟨c,av,(z p (by omega) hp q ac M).rep (an.ext (Ext.refl _ _) (λb _=>Z b))⟩
 ·obtain⟨Y,I⟩:=B5.1 hi;obtain⟨bj,ad⟩:=B5.1 K;obtain⟨p,ao,S,U⟩:=G i Y I b ar;obtain⟨q,al,ae,au⟩:=G j bj ad b aq;have:=hs.inj p q b S ae U au;subst this;exact R.inj _ (H i Y I) _ (H j bj ad) p ao al
 ·obtain⟨Y,I⟩:=B5.1 hi;obtain⟨p,_,S,U⟩:=G i Y I b Q;exact hs.out p b S U
 ·obtain⟨Y,I⟩:=B5.1 hi;have aa:=ap i (hs.pinN i b hp).2;have:=R.hms _ (H i Y I);unfold leM at this;rw[aa]at this;obtain⟨c,hc,_⟩:=this;rw[hL,aa];exact hs.pin i b hp (by rw[hc];rfl)
end fit
abbrev cP(st:St)(es:List (Nat × A))(ms:List (Nat × Blk)):Prop:=V0 (Tj st) st es ms
theorem b2e(st:St)(i:Nat)(h:i<1000):Tj st i=some i:=if_pos h
def Ia:A->A->Prop
 |.t x,.t y=>LeT x y
 |_,_=>False
def Wh:List A->List A->Prop
 | [],[]=>True
 |x::l,y::r=>Ia x y/\Wh l r
 |_,_=>False
def Fo:A->A->Prop
 |.agg cs,.agg ds=>Wh cs ds
 |x,y=>Ia x y
def lQ:List A->List A->Prop
 | [],[]=>True
 |x::l,y::r=>Fo x y/\lQ l r
 |_,_=>False
def leF:A->A->Prop
 |.tup cs,.tup ds=>lQ cs ds
 |x,y=>Fo x y
def Vx(st:St):A->A
 |.tup cs=>.tup (cs.map (y7 st))
 |a=>y7 st a
theorem XJ{M:Nat->Prop}{x y:A}{v:Value}(h:Ia x y)(z:RepA st L w M x v):D4 w M y v:=by
 unfold Ia at h;split at h
 ·exact .t _ _ (h.rep (Di z))
 ·exact h.elim
theorem VE:∀{cs B:List A},Wh cs B->cs.length=B.length/\∀i (hi:i<cs.length) (z:i<B.length),Ia (cs[i]) (B[i])
 | [],[],_=>⟨rfl,λi hi=>by simp at hi⟩
 |x::l,y::r,h=>by
  obtain⟨H,F⟩:=h;obtain⟨I,G⟩:=VE F;refine⟨by simp[I],λi hi z=>?_⟩;cases i with
  |zero=>exact H
  |succ i=>exact G i (by simpa using hi) (by simpa using z)
 | [],y::r,h=>h.elim
 |x::l,[],h=>h.elim
theorem a0p:∀{cs B:List A},lQ cs B->cs.length=B.length/\∀i (hi:i<cs.length) (z:i<B.length),Fo (cs[i]) (B[i])
 | [],[],_=>⟨rfl,λi hi=>by simp at hi⟩
 |x::l,y::r,h=>by
  obtain⟨H,F⟩:=h;obtain⟨I,G⟩:=a0p F;refine⟨by simp[I],λi hi z=>?_⟩;cases i with
  |zero=>exact H
  |succ i=>exact G i (by simpa using hi) (by simpa using z)
 | [],y::r,h=>h.elim
 |x::l,[],h=>h.elim
theorem zT{M:Nat->Prop}{x y:A}{v:Value}(h:Fo x y)(z:RepA st L w M x v):D4 w M y v:=by
 unfold Fo at h;split at h
 ·obtain⟨F,B⟩:=VE h;cases z with
  |agg _ vs hsz h1 z=>
   refine .agg _ vs (by omega) (λi hi=>?_) (λi hi=>XJ (B i (by omega) hi) (z i (by omega)));have:=B i (by omega) hi;unfold Ia at this;split at this
   ·simp_all [A.single]
   ·exact this.elim
 ·exact XJ h z
theorem SO{M:Nat->Prop}{x y:A}{v:Value}(h:leF x y)(z:RepA st L w M x v):D4 w M y v:=by
 unfold leF at h;split at h
 ·obtain⟨F,B⟩:=a0p h;cases z with
  |tup _ vs hsz z=>exact .tup _ vs (by omega) (λi hi=>zT (B i (by omega) hi) (z i (by omega)))
 ·exact zT h z
def Tu(P:Program)(st:St):ResultVar->Option A
 |.tmp t=>some (st.env t)
 |.cell p ty=>match x9 P ty with|some ti=>U6 st (st.env p) ti|none=>none
def Im(P:Program)(st:St):List ResultVar->Option (List A)
 | []=>some []
 |r::l=>match Tu P st r,Im P st l with|some x,some l=>some (x::l)|_,_=>none
def Jp(P:Program)(st:St)(rs:List ResultVar):Option A:=
 match Im P st rs with
 |some [x]=>some x
 |some l=>some (.tup l)
 |none=>none
end
section
open Go.RowKit
variable{C:Ctx}{st st':St}{L L':Nat->Loc}{a:Act}{w:World}{P:Program}
def kO(tmps:Array Value):ResultVar->Sem Value
 |.tmp t=>pure (tmps.getD t undef)
 |.cell a t=>do loadVar t (<-asAddr (tmps.getD a undef))
theorem a2m(F:z8 C st L a w){r:ResultVar}{x:A}(h:Tu P st r=some x):∃v,(kO a.tmps r).run P w=.ok v w/\RepA st L w (Mut C st L) x v:=by
 cases r with
 |tmp t=>cases h;exact⟨_,rfl,F.env t⟩
 |cell p ty=>
  unfold Tu at h
  dsimp only at h
  split at h
  ·rename_i J I;obtain⟨u,z,B⟩:=VM F I (F.env p) h;refine⟨u,?_,B⟩;generalize H:a.tmps.getD p undef=v at z;unfold kO;simp only[H];cases v<;>simp only[Instr.loadAt,Instr.sureAddr]at z<;>try (simp at z;done)
   rename_i G;cases G with
   |none=>simp at z
   |some G=>simpa[asAddr]using z
  ·cases h
theorem KH(J:z8 C st L a w):∀(G:List ResultVar) (l:List A),Im P st G=some l->∃vs:List Value,(G.mapM (kO a.tmps)).run P w=.ok vs w/\vs.length=l.length/\∀i (hi:i<l.length) (z:i<vs.length),RepA st L w (Mut C st L) (l[i]) (vs[i])
 | [],l,h=>by simp only[Im,P1]at h;subst h;exact⟨[],by simp,rfl,λi hi=>by simp at hi⟩
 |r::G,l,h=>by
  simp only[Im]at h;split at h
  ·rename_i x M hx I;cases h;obtain⟨v,K,N⟩:=a2m (P:=P) J hx;obtain⟨vs,H,F,B⟩:=KH J G M I;refine⟨v::vs,by simp[List.mapM_cons,K,H],by simp[F],λi hi z=>?_⟩;cases i with
   |zero=>exact N
   |succ i=>exact B i (by simpa using hi) (by simpa using z)
  ·cases h
theorem b5r(B:Func)(z:Array Value):results B z=(do let vs<-B.results.mapM (kO z);pure (if h:vs.size=1 then vs[0]else .tuple vs)):=by unfold results;congr 1
theorem b2X(N:z8 C st L a w){J:Func}{x:A}(h:Jp P st J.results.toList=some x):∃v,(results J a.tmps).run P w=.ok v w/\RepA st L w (Mut C st L) x v:=by
 unfold Jp at h;have z:∀l,Im P st J.results.toList=some l->∃vs:List Value,(results J a.tmps).run P w=.ok (if h:vs.toArray.size=1 then vs.toArray[0]else .tuple vs.toArray) w/\vs.length=l.length/\∀i (hi:i<l.length) (M:i<vs.length),RepA st L w (Mut C st L) (l[i]) (vs[i]):=λl G=>by obtain⟨vs,B,F,H⟩:=KH (P:=P) N _ _ G;exact⟨vs,by rw[b5r];simp[Array.mapM_eq_mapM_toList,B],F,H⟩
 split at h
 ·rename_i y G;cases h;obtain⟨vs,B,F,H⟩:=z _ G;have O:vs.length=1:=(by simpa using F);obtain⟨v,rfl⟩:=List.length_eq_one_iff.1 O;exact⟨v,by simpa using B,H 0 (by simp) (by simp)⟩
 ·rename_i l K G;cases h;obtain⟨vs,B,F,H⟩:=z _ G;have I:vs.toArray.size≠1:=by intro e;have:l.length=1:=(by simp at e;omega);obtain⟨y,rfl⟩:=List.length_eq_one_iff.1 this;exact K y rfl
  rw[dif_neg I]at B;exact⟨_,B,.tup _ _ (by simpa using F) λi hi=>by simpa using H i hi (by omega)⟩
 ·cases h
theorem a3X(B:z8 C st L a w){M':Nat->Prop}(z:∀b,M' b->Mut C st L b)(hx:∀id e k xs,st.mem id=some (.row e k xs)->∀b,(L id).has b->¬M' b){x:A}{v:Value}(h:RepA st L w (Mut C st L) x v):RepA st L w M' (Vx st x) v:=by
 cases x with
 |tup cs=>
  cases h with
  |tup _ vs hsz hr=>exact .tup _ vs (by simpa using hsz) λi hi=>by simp only[List.getElem_map];exact aC B z (λid _=>hx id) (hr i (by simpa using hi))
 |_=>exact(λq=>aC B z q h) (λid _=>hx id)
end
section
open Go.RowKit
variable{C:Ctx}{st st' st2:St}{L L':Nat->Loc}{a:Act}{w:World}{P:Program}
def Xf(n:Nat)(args:List A)(m:List (Nat × Blk)):St:=⟨n,λt=>(args[t]?).getD .dead,look m,λi=>(look m i).isSome⟩
def Dr(P:Program)(fn:Func)(r:A)(m':List (Nat × Blk)):Exit->St->Prop
 |.ret,st|.normal,st=>∃ρ:Nat->Option Nat,(∀i,i<1000->ρ i=some i)/\∃x,Jp P st fn.results.toList=some x/\le3 ρ st m' x r/\V0 ρ st [] m'
 |_,_=>False
theorem a5z{f:FuncId}{F:Func}{c:Code}{args:List A}{m I:List (Nat × Blk)}{r:A}(hf:P.funcs[f]? =some F)(Q:F.body=some c)(U:Lg P f=true)(hn:args.length<=F.ntmps)(h9:F.ntmps<=900)(h:W P c (Xf F.ntmps args m) (Dr P F r I)):Y7 P f args m r I:=by
 refine⟨U,λC L B hP N z aa H=>?_⟩;refine calls_of_wp hf Q ?_;have M:(B++Array.replicate (F.ntmps-B.size) undef).size=F.ntmps:=(by simp;omega);have ac:Mut C (Xf F.ntmps args m) L=Mut C (mst m) L:=rfl;have hs:z8 C (Xf F.ntmps args m) L {tmps:=B++Array.replicate (F.ntmps-B.size) undef,defers:=[]} C.w0:=by
  refine⟨M,rfl,λt=>?_,λid K Q=>⟨(z.mem id K Q).1,?_⟩,z.inj,z.out,z.old,z.os,z.tape,z.output,z.size,z.block,λid b hp=>⟨G2 h9 (N id b hp),(z.pinN id b hp).2⟩,z.pin⟩
  ·show RepA _ _ _ _ ((args[t]?).getD .dead) _;cases ht:args[t]? with
   |none=>exact .dead _
   |some x=>
    obtain⟨R,rfl⟩:=o9.1 ht;have e:(B++Array.replicate (F.ntmps-B.size) undef).getD t undef=B.getD t undef:=by simp only[Array.getD_eq_getD_getElem?];rw[Array.getElem?_append_left (by omega)]
    rw[e];exact(H t R).same rfl rfl
  ·exact(z.mem id K Q).2.ext (Ext.refl _ _) (λ_ _ h=>h) (λi h=>h) (aO _ L) rfl (λ_ _=>rfl)
 refine wp_mono (h C _ _ hP ⟨_,hs⟩) ?_;rintro e a' w' ⟨st',ab,X,⟨L',G⟩⟩;have J:(∃ρ:Nat->Option Nat,(∀i,i<1000->ρ i=some i)/\∃x,Jp P st' F.results.toList=some x/\le3 ρ st' I x r/\V0 ρ st' [] I)->a'.defers=[]/\∃v,(results F a'.tmps).run P w'=.ok v w'/\∃v' L',Ending.returned v=.returned v'/\z8 C (mst I) L' Pa w'/\RepA (mst I) L' w' (Mut C (mst I) L') r v':=by rintro⟨ρ,Y,x,hx,Z,O⟩;obtain⟨v,S,V⟩:=b2X G hx;obtain⟨h1,h2⟩:=a4x G Y O;exact⟨G.hd,v,S,v,_,rfl,h1,h2 Z V⟩
 cases e with
 |ret=>exact J X
 |normal=>exact J X
 |_=>exact X.elim
end
section
open Go.RowKit
variable{C:Ctx}{st st':St}{L L':Nat->Loc}{a:Act}{w:World}{P:Program}
def a9k(xs:List (List T))(n:Int)(K:Nat->List T->Prop):Prop:=∃(m:Nat) (el:List T),n=(m:Int)/\xs[m]? =some el/\K m el
def a75(s:ByteArray)(n:Int)(K:UInt8->Prop):Prop:=∃(m:Nat) (b:UInt8),n=(m:Int)/\s[m]? =some b/\K b
def tB(P:Program)(o:Oper)(xs:List A)(st:St)(K:St->Prop):Prop:=xs=D1 o st->gH P o st K
def N4(P:Program)(o:Oper)(st:St)(K:St->Prop):Prop:=
 match o.op with
 |.move x|.assign x=>K (st.put o.dst (st.ev x))
 |.pick c a b=>match st.ev c with|.t (.v (.bool t))=>K (st.put o.dst (Nl t (st.ev a) (st.ev b)))|_=>False
 |.alloc ty=>match o.dst,x9 P ty with|some d,some ti=>st.used d=false/\K ((st.new d (.box ty (ti.zero.map .v))).put (some d) (.ptr d 0))|_,_=>False
 |.box ty x=>match o.dst,cellsOf (st.ev x)with|some d,some cs=>st.used d=false/\K ((st.new d (.box ty cs)).put (some d) (.ptr d 0))|_,_=>False
 |.build t parts=>match x9 P t with
  |some ti=>match I9 P t,Gl ti.fs (ti.zero.map .v) (parts.toList.map λ(i,x)=>(i,st.ev x))with|.strct,some cs=>K (st.put o.dst (.agg cs))|_,_=>False
  |none=>False
 |.buildSlice t len parts=>match o.dst,x9 P t with
  |some d,some ti=>match ti.elem with
   |some e=>match x9 P e with
    |some te=>st.used d=false/\0<te.size/\parts.size=len/\len*te.size<=16777216/\
      match Dn te.size 0 (parts.toList.map λ(i,x)=>(i,(st.frzs (parts.toList.flatMap λ(_,x)=>E9 (st.ev x))).ev x))with
      |some xs=>K (((st.frzs (parts.toList.flatMap λ(_,x)=>E9 (st.ev x))).new d (.row e te.size xs)).put (some d) (.ref d))
      |none=>False
    |none=>False
   |none=>False
  |_,_=>False
 |.load t a=>match x9 P t with
  |some ti=>match U6 st (st.ev a) ti with|some x=>K (st.put o.dst x)|none=>False
  |none=>False
 |.store t a x=>match x9 P t,cellsOf (st.ev x)with
  |some ti,some cs=>cs.length=ti.size/\
   match st.ev a with
   |.ptr id off=>(match st.mem id with
    |some (.box ty cells)=>off+cs.length<=cells.length/\K ((st.setm id (.box ty (cells.take off++cs++cells.drop (off+cs.length)))).put o.dst .dead)
    |_=>False)
   |.rptr id i j=>(match st.mem id,O3 cs with
    |some (.row e k xs),some l=>∃el,xs[i]? =some el/\j+l.length<=el.length/\K ((st.setm id (.row e k (xs.set i (el.take j++l++el.drop (j+l.length))))).put o.dst .dead)
    |_,_=>False)
   |_=>False
  |_,_=>False
 |.nilCheck x=>S6 st (st.ev x)=true/\K (st.put o.dst (st.ev x))
 |.binOp op ty x y _=>match Db P st op ty (st.ev x) (st.ev y)with|some z=>z.oneCell'=true/\K (st.put o.dst (.v z))|none=>tB P o [y7 st (st.ev x),y7 st (st.ev y)] st K
 |.unOp op _ x=>match st.ev x with
  |.t (.v y)=>(match unF op y with|some z=>z.oneCell'=true/\K (st.put o.dst (.v z))|none=>False)
  |_=>False
 |.convert src dst x=>match Py P src dst (st.ev x)with|some z=>(x9 P src).isSome=true/\K (st.put o.dst z)|none=>tB P o [y7 st (st.ev x)] st K
 |.fieldAddr s x f=>match x9 P s,I9 P s with
  |some ti,.strct=>S6 st (st.ev x)=true/\(match Mb ti (st.ev x) f with|some z=>K (st.put o.dst z)|none=>False)
  |_,_=>False
 |.field s x f=>match x9 P s,I9 P s with
  |some ti,.strct=>(match Nb ti (st.ev x) f with|some z=>K (st.put o.dst z)|none=>False)
  |_,_=>False
 |.indexAddr t x i=>match x9 P t with
  |some ti=>match ti.elem with
   |some e=>match x9 P e,S9 st (st.ev x),st.ev i with
    |some te,some (k',xs),.t (.v (.int k n))=>k'=te.size/\a9k xs n λm el=>K (st.put o.dst (match st.ev x with|.ref id=>.rptr id m 0|_=>.fel el))
    |_,_,_=>False
   |none=>False
  |none=>False
 |.index t x i=>match I9 P t,st.ev x,st.ev i with
  |.str,.t (.v (.string s)),.t (.v (.int k n))=>a75 s n λb=>K (st.put o.dst (.v (.int .u8 b.toNat)))
  |_,_,_=>False
 |.extract x i=>match st.ev x with
  |.tup cs=>(match cs[i]? with|some y=>K (st.put o.dst y)|none=>False)
  |_=>False
 |.call c=>
  match c.callee,c.args.toList,c.argTypes.toList with
  |.builtin .len,[x],ty::_=>(match Fm P st ty (st.ev x)with|some z=>K (st.put o.dst (.v z))|none=>False)
  |.builtin .append,[x,y],[t,t']=>(match o.dst,x9 P t with
   |some d,some ti=>(match ti.elem with
    |some e=>(match x9 P e,S9 st (st.ev y)with
     |some te,some (k'',ys)=>t=t'/\0<te.size/\st.used d=false/\(ys=[]\/k''=te.size)/\
      (match st.ev x with
      |.t (.v (.slice none 0 0))=>ys.length*te.bytes<=140737488355328/\ys.length<=maxLen/\K ((st.new d (.row e te.size ys)).put (some d) (.ref d))
      |.ref id=>(match st.mem id with
       |some (.row e' k' xs)=>e'=e/\k'=te.size/\(xs.length+ys.length)*te.bytes<=140737488355328/\xs.length+ys.length<=maxLen/\K (((st.del id).new d (.row e te.size (xs++ys))).put (some d) (.ref d))
       |_=>False)
      |_=>False)
     |_,_=>False)
    |none=>False)
   |_,_=>False)
  |.value (.func f),args,_=>WI P f o.dst (args.map λx=>y7 st (st.ev x)) (args.map st.ev) st K
  |.builtin _,args,_=>tB P o (args.map λx=>y7 st (st.ev x)) st K
  |_,_,_=>False
 |op=>tB P o ((opL op).map λx=>y7 st (st.ev x)) st K
theorem O7{o:Oper}{K:St->Prop}(h:N4 P o st K):Dg P o st K:=by
 unfold N4 at h;split at h
 ·rename_i x B;refine .inl ?_;unfold C9;simp only[B];exact h
 ·rename_i x B;refine .inl ?_;unfold C9;simp only[B];exact h
 ·rename_i c x y B;refine .inl ?_;unfold C9;simp only[B];split at h
  ·rename_i t F;exact⟨t,F,h⟩
  ·exact h.elim
 ·rename_i U B;refine .inl ?_;unfold C9;simp only[B];split at h
  ·rename_i d G hd F;exact⟨d,G,hd,F,h.1,by rw[hd];exact h.2⟩
  ·exact h.elim
 ·rename_i U x B;refine .inl ?_;unfold C9;simp only[B];split at h
  ·rename_i d G hd F;exact⟨d,G,hd,F,h.1,by rw[hd];exact h.2⟩
  ·exact h.elim
 ·rename_i t S B;refine .inl ?_;unfold C9;simp only[B];split at h
  ·rename_i G F;split at h
   ·rename_i cs Q hc;exact⟨G,cs,F,Q,hc,h⟩
   ·exact h.elim
  ·exact h.elim
 ·rename_i t len S B;refine .inl ?_;unfold C9;simp only[B];split at h
  ·rename_i d G hd F;split at h
   ·rename_i e he;split at h
    ·rename_i X I;obtain⟨J,N,R,V,h⟩:=h;split at h
     ·rename_i xs hx;exact⟨d,G,e,X,xs,hd,F,he,I,J,N,R,V,hx,by rw[hd];exact h⟩
     ·exact h.elim
    ·exact h.elim
   ·exact h.elim
  ·exact h.elim
 ·rename_i t x B;refine .inl ?_;unfold C9;simp only[B];split at h
  ·rename_i G F;split at h
   ·rename_i y Z;exact⟨G,y,F,Z,h⟩
   ·exact h.elim
  ·exact h.elim
 ·rename_i t p x B;refine .inl ?_;unfold C9;simp only[B];split at h
  ·rename_i G cs F hc;obtain⟨J,h⟩:=h;refine⟨G,cs,F,hc,J,?_⟩;split at h
   ·rename_i id ab hp;split at h
    ·rename_i U O hm;exact .inl ⟨id,ab,U,O,hp,hm,h.1,h.2⟩
    ·exact h.elim
   ·rename_i id i j hp;split at h
    ·rename_i e k xs l hm Y;obtain⟨el,N,R,V⟩:=h;exact .inr ⟨id,i,j,e,k,xs,el,l,hp,hm,N,Y,R,V⟩
    ·exact h.elim
   ·exact h.elim
  ·exact h.elim
 ·rename_i x B;refine .inl ?_;unfold C9;simp only[B];exact h
 ·rename_i op U x y ae B;split at h
  ·rename_i z M;refine .inl ?_;unfold C9;simp only[B];exact⟨z,M,h.1,h.2⟩
  ·exact .inr (.inl (h (by simp[D1,B,opL])))
 ·rename_i op U x B;refine .inl ?_;unfold C9;simp only[B];split at h
  ·rename_i y Z;split at h
   ·rename_i z M;exact⟨y,z,Z,M,h.1,h.2⟩
   ·exact h.elim
  ·exact h.elim
 ·rename_i af ad x B;split at h
  ·rename_i z M;refine .inl ?_;unfold C9;simp only[B];exact⟨z,h.1,M,h.2⟩
  ·exact .inr (.inl (h (by simp[D1,B,opL])))
 ·rename_i s x f B;refine .inl ?_;unfold C9;simp only[B];split at h
  ·rename_i G F Q;obtain⟨J,h⟩:=h;split at h
   ·rename_i z M;exact⟨G,z,F,Q,J,M,h⟩
   ·exact h.elim
  ·exact h.elim
 ·rename_i s x f B;refine .inl ?_;unfold C9;simp only[B];split at h
  ·rename_i G F Q;split at h
   ·rename_i z M;exact⟨G,z,F,Q,M,h⟩
   ·exact h.elim
  ·exact h.elim
 ·rename_i t x i B;refine .inl ?_;unfold C9;simp only[B];split at h
  ·rename_i G F;split at h
   ·rename_i e he;split at h
    ·rename_i X k' xs k n I Y hi;obtain⟨J,m,el,rfl,N,R⟩:=h;exact⟨G,e,X,k',xs,k,m,el,F,he,I,Y,hi,N,J,R⟩
    ·exact h.elim
   ·exact h.elim
  ·exact h.elim
 ·rename_i t x i B;refine .inl ?_;unfold C9;simp only[B];split at h
  ·rename_i s k n Q hx hi;obtain⟨m,b,rfl,J,N⟩:=h;exact⟨s,k,m,b,Q,hx,hi,J,N⟩
  ·exact h.elim
 ·rename_i x i B;refine .inl ?_;unfold C9;simp only[B];split at h
  ·rename_i cs hx;split at h
   ·rename_i y Z;exact⟨cs,y,hx,Z,h⟩
   ·exact h.elim
  ·exact h.elim
 ·rename_i c B;obtain⟨H,args,ts⟩:=c
  dsimp only at h
  have inl:(C9 P {o with op:=.call ⟨H,args,ts⟩} st K)->Dg P o st K:=λh=>.inl (by
   have:{o with op:=.call ⟨H,args,ts⟩}=o:=(by cases o;cases B;rfl);rw[this]at h;exact h)
  split at h
  ·rename_i x U tl ha F;refine inl ?_;unfold C9;simp only[ha,F];split at h
   ·rename_i z M;exact⟨z,M,h⟩
   ·exact h.elim
  ·rename_i x y t t' ha F;refine inl ?_;unfold C9;simp only[ha,F];split at h
   ·rename_i d G hd ac;split at h
    ·rename_i e he;split at h
     ·rename_i X aa ys I Y;obtain⟨J,N,R,V,h⟩:=h;refine⟨d,G,e,X,aa,ys,J,hd,ac,he,I,N,R,Y,V,?_⟩;split at h
      ·rename_i hx;exact .inl ⟨hx,h.1,h.2.1,by rw[hd];exact h.2.2⟩
      ·rename_i id hx;split at h
       ·rename_i e' k' xs hm;obtain⟨rfl,h5,h6,h7,h8⟩:=h;exact .inr ⟨id,k',xs,hx,hm,h5,h6,h7,by rw[hd];exact h8⟩
       ·exact h.elim
      ·exact h.elim
     ·exact h.elim
    ·exact h.elim
   ·exact h.elim
  ·rename_i f;refine inl ?_;unfold C9;exact h
  ·exact .inr (.inl (h (by simp[D1,B,opL])))
  ·exact h.elim
 ·rename_i op _ _ _ _ _ _ _ _ _ _ _ _ _ _ _ _ _ _ _;exact .inr (.inl (h rfl))
def K3:List Oper->Nat->Option Oper
 | [],_=>none
 |o::_,0=>some o
 |_::l,n+1=>K3 l n
theorem Za:∀(l:List Oper) (n:Nat),K3 l n=l[n]?
 | [],n=>by simp[K3]
 |o::l,0=>rfl
 |o::l,n+1=>by simp[K3,Za l n]
def Dw(ops:List Oper)(st:St)(j:Nat):A:=match K3 ops j with|some o=>(match o.dst with|some d=>st.env d|none=>.dead)|none=>.dead
end
section
open Go.RowKit
variable{C:Ctx}{st st' st2:St}{L L':Nat->Loc}{a:Act}{w:World}{P:Program}
def b4i(o:Oper):List Nat:=o.op.operands.toList.filterMap λx=>match x with|.tmp t=>some t|_=>none
def Ic(o:Oper)(st:St):List Nat:=(opL o.op).flatMap λx=>Z4 (st.ev x)
def x6(o:Oper)(st:St):List Nat:=
 match o.op with
 |.alloc _|.box _ _|.buildSlice _ _ _=>o.dst.toList
 |.store _ a _=>G9 (st.ev a)
 |.makeSlice _ _ _=>o.dst.toList
 |.slice _ _ _ _ _=>(match((opL o.op).flatMap λx=>Ct (st.ev x))with| []=>[]|l=>o.dst.toList++l)
 |.range _ _|.makeMap _ _=>o.dst.toList
 |.next _ _|.mapUpdate _ _ _ _|.lookup _ _ _ _=>(opL o.op).flatMap λx=>Ct (st.ev x)
 |.convert _ _ x=>if LG (st.ev x)then o.dst.toList else []
 |.call c=>(match c.callee,c.args.toList with|.builtin .append,x::_=>o.dst.toList++G9 (st.ev x)|.builtin .copy,_=>(opL o.op).flatMap λx=>Ct (st.ev x)|.builtin .clear,_=>(opL o.op).flatMap λx=>Ct (st.ev x)|.builtin .delete,_=>(opL o.op).flatMap λx=>Ct (st.ev x)|.value _,args=>(if Ey (args.map st.ev)then H6 st (args.map st.ev)else [])++Rc o.dst|_,_=>[])
 |_=>[]
def over(st2 st':St)(d:Option Nat)(wr:List Nat):St:=
 {n:=st2.n,env:=λt=>if d=some t then st'.env t else st2.env t,mem:=λi=>if i∈wr then st'.mem i else st2.mem i,used:=λi=>if i∈wr then st'.used i else st2.used i}
structure Hy(o:Oper)(st st2:St):Prop where
 n:st2.n=st.n
 env:∀x∈o.op.operands.toList,st2.ev x=st.ev x
 mem:∀i,i∈Ic o st\/i∈x6 o st->st2.mem i=st.mem i
 used:∀i,i∈x6 o st->st2.used i=st.used i
structure Dx(o:Oper)(st st':St)(wr:List Nat):Prop where
 n:st'.n=st.n
 env:∀t,o.dst≠some t->st'.env t=st.env t
 mem:∀i,i∉wr->st'.mem i=st.mem i
 used:∀i,i∉wr->st'.used i=st.used i
def Au(o:Oper)(st:St):Bool:=
 match o.op with
 |.buildSlice _ _ parts=>(parts.toList.flatMap λ(_,x)=>E9 (st.ev x)).isEmpty
 |.call c=>(match c.callee with|.value _=>(c.args.toList.flatMap λx=>E9 (st.ev x)).isEmpty|_=>true)
 |_=>true
theorem Uj(st2 st:St)(d:Option Nat)(x:A):over st2 (st.put d x) d []=st2.put d x:=by
 cases d with
 |none=>simp[over,St.put]
 |some d=>
  simp only[over,St.put,List.not_mem_nil,if_false,P1];congr 1
  funext t
  by_cases h:d=t
  ·subst h;simp[upd]
  ·have z:t≠d:=λe=>h e.symm;simp[upd,h,z]
theorem Qg(o:Oper)(st:St)(x:A):Dx o st (st.put o.dst x) []:=by
 refine⟨by simp,λt z=>?_,λi _=>by simp,λi _=>by simp⟩;cases hd:o.dst with
 |none=>rfl
 |some d=>rw[hd]at z;have:t≠d:=λe=>z (by rw[e]);simp[St.put,upd,this]
def Bo(P:Program)(o:Oper)(st:St)(K:St->Prop):Prop:=
 ∃st',K st'/\Dx o st st' (x6 o st)/\∀st2,Hy o st st2->∀K2:St->Prop,K2 (over st2 st' o.dst (x6 o st))->Dg P o st2 K2
theorem Br{o:Oper}{K:St->Prop}(x:A)(F:x6 o st=[])(H:K (st.put o.dst x))(h:∀st2,Hy o st st2->∀B:St->Prop,B (st2.put o.dst x)->Dg P o st2 B):Bo P o st K:=by refine⟨_,H,by rw[F];exact Qg o st x,λst2 G B z=>h st2 G B ?_⟩;rw[F,Uj]at z;exact z
theorem St.ext'{a b:St}(G:a.n=b.n)(B:a.env=b.env)(z:a.mem=b.mem)(F:a.used=b.used):a=b:=by cases a;cases b;simp_all
theorem Vo{o:Oper}{K:St->Prop}(x:A)(H:K (st.put o.dst x))(h:∀st2,Hy o st st2->∀B:St->Prop,B (st2.put o.dst x)->Dg P o st2 B):Bo P o st K:=by
 refine⟨_,H,?_,λst2 F B z=>h st2 F B ?_⟩
 ·have:=Qg o st x;exact⟨this.n,this.env,λi _=>this.mem i (by simp),λi _=>this.used i (by simp)⟩
 ·have G:over st2 (st.put o.dst x) o.dst (x6 o st)=st2.put o.dst x:=by
   rw[<-Uj st2 st];refine St.ext' rfl rfl ?_ ?_
   ·funext i
    show(if i∈x6 o st then(st.put o.dst x).mem i else st2.mem i)=st2.mem i;split
    ·rename_i hi;rw[Gu,F.mem i (.inr hi)]
    ·rfl
   ·funext i
    show(if i∈x6 o st then(st.put o.dst x).used i else st2.used i)=st2.used i;split
    ·rename_i hi;rw[Ha,F.used i hi]
    ·rfl
  rw[G]at z;exact z
theorem YQ(st2 st:St)(d:Nat)(b:Blk)(x:A):over st2 ((st.new d b).put (some d) x) (some d) [d]=(st2.new d b).put (some d) x:=by
 simp only[over,St.put,St.new,K4,P1];congr 1
 ·funext t
  by_cases h:d=t
  ·subst h;simp[upd]
  ·have z:t≠d:=λe=>h e.symm;simp[upd,h,z]
 ·funext i
  by_cases h:i=d<;>simp[upd,h]
 ·funext i
  by_cases h:i=d<;>simp[upd,h]
theorem UW(o:Oper)(st:St)(d:Nat)(hd:o.dst=some d)(b:Blk)(x:A):Dx o st ((st.new d b).put o.dst x) [d]:=by
 rw[hd];refine⟨rfl,λt z=>?_,λi hi=>?_,λi hi=>?_⟩
 ·have:t≠d:=λe=>z (by rw[hd,e]);simp[St.put,St.new,upd,this]
 ·have:i≠d:=(by simpa using hi);simp[St.put,St.new,upd,this]
 ·have:i≠d:=(by simpa using hi);simp[St.put,St.new,upd,this]
theorem aD{o:Oper}{K:St->Prop}(d:Nat)(hd:o.dst=some d)(b:Blk)(x:A)(F:x6 o st=[d])(H:K ((st.new d b).put o.dst x))(h:∀st2,Hy o st st2->∀B:St->Prop,B ((st2.new d b).put o.dst x)->Dg P o st2 B):Bo P o st K:=by refine⟨_,H,by rw[F];exact UW o st d hd b x,λst2 G B z=>h st2 G B ?_⟩;rw[F,hd,YQ]at z;rw[hd];exact z
theorem a3F(st2 st:St)(d:Option Nat)(id:Nat)(b:Blk)(x:A)(G:st2.used id=st.used id):over st2 ((st.setm id b).put d x) d [id]=(st2.setm id b).put d x:=by
 have B:(λi=>if i∈ [id]then((st.setm id b).put d x).mem i else st2.mem i)=upd st2.mem id (some b):=by
  funext i
  by_cases h:i=id<;>simp[upd,h,St.setm]
 have H:(λi=>if i∈ [id]then((st.setm id b).put d x).used i else st2.used i)=st2.used:=by
  funext i
  by_cases h:i=id
  ·subst h;simp[St.setm,G]
  ·simp[h]
 have F:(λt=>if d=some t then((st.setm id b).put d x).env t else st2.env t)=((st2.setm id b).put d x).env:=by
  funext t
  cases d with
  |none=>simp[St.put,St.setm]
  |some d=>
   by_cases h:d=t
   ·subst h;simp[upd,St.put]
   ·have z:t≠d:=λe=>h e.symm;simp[upd,h,z,St.put,St.setm]
 unfold over;rw[B,H,F];cases d<;>rfl
theorem YH(o:Oper)(st:St)(id:Nat)(b:Blk)(x:A):Dx o st ((st.setm id b).put o.dst x) [id]:=by
 refine⟨by simp[St.setm],λt z=>?_,λi hi=>?_,λi hi=>by simp[St.setm]⟩
 ·cases hd:o.dst with
  |none=>rfl
  |some d=>rw[hd]at z;have:t≠d:=λe=>z (by rw[e]);simp[St.put,upd,this,St.setm]
 ·have:i≠id:=(by simpa using hi);simp[St.setm,upd,this]
theorem QK{o:Oper}{K:St->Prop}(id:Nat)(b:Blk)(x:A)(F:x6 o st=[id])(H:K ((st.setm id b).put o.dst x))(h:∀st2,Hy o st st2->∀B:St->Prop,B ((st2.setm id b).put o.dst x)->Dg P o st2 B):Bo P o st K:=by refine⟨_,H,by rw[F];exact YH o st id b x,λst2 G B z=>h st2 G B ?_⟩;rw[F,a3F _ _ _ _ _ _ (G.used id (by rw[F];simp))]at z;exact z
theorem b2K(st2 st:St)(d id:Nat)(b:Blk)(x:A)(F:id≠d)(G:st2.used id=st.used id):over st2 (((st.del id).new d b).put (some d) x) (some d) [d,id]=((st2.del id).new d b).put (some d) x:=by
 simp only[over,St.put,St.new,St.del,P1,D0,List.not_mem_nil,or_false];congr 1
 ·funext t
  by_cases h:d=t
  ·subst h;simp[upd]
  ·have B:t≠d:=λe=>h e.symm;simp[upd,h,B]
 ·funext i
  by_cases h:i=d
  ·simp[upd,h]
  ·by_cases z:i=id<;>simp[upd,h,z]
 ·funext i
  by_cases h:i=d
  ·simp[upd,h]
  ·by_cases z:i=id
   ·subst z;simp[upd,h,G]
   ·simp[upd,h,z]
theorem YR(o:Oper)(st:St)(d id:Nat)(hd:o.dst=some d)(b:Blk)(x:A):Dx o st (((st.del id).new d b).put o.dst x) [d,id]:=by
 rw[hd];refine⟨rfl,λt z=>?_,λi hi=>?_,λi hi=>?_⟩
 ·have:t≠d:=λe=>z (by rw[hd,e]);simp[St.put,St.new,St.del,upd,this]
 ·simp only[D0,List.not_mem_nil,or_false,not_or]at hi;simp[St.put,St.new,St.del,upd,hi]
 ·simp only[D0,List.not_mem_nil,or_false,not_or]at hi;simp[St.put,St.new,St.del,upd,hi]
theorem iB{x:A}(h:∀i∈G9 x,st2.mem i=st.mem i):S9 st2 x=S9 st x:=by
 unfold S9;split<;>try rfl
 rename_i id;rw[h id (by simp[G9])]
theorem a7n{x:A}{z:TI}(h:∀i∈G9 x,st2.mem i=st.mem i):U6 st2 x z=U6 st x z:=by
 unfold U6;split<;>try rfl
 ·rename_i id B;rw[h id (by simp[G9])]
 ·rename_i id i j;rw[h id (by simp[G9])]
theorem zQ{x:A}(h:∀i∈G9 x,st2.mem i=st.mem i):S6 st2 x=S6 st x:=by
 unfold S6;split<;>try rfl
 ·rename_i id z;rw[h id (by simp[G9])]
 ·rename_i id i j;rw[h id (by simp[G9])]
 ·rename_i id;rw[h id (by simp[G9])]
theorem wC{x:A}(h:∀i∈G9 x,st2.mem i=st.mem i):H8 st2 x=H8 st x:=by
 unfold H8;split<;>try rfl
 rename_i id;rw[h id (by simp[G9])]
theorem sT{x:A}(h:∀i∈Ga x,st2.mem i=st.mem i):y7 st2 x=y7 st x:=by
 unfold y7;split
 ·rename_i cs;congr 1;exact List.map_congr_left λy B=>wC λi hi=>h i (by simp only[Ga,List.mem_flatMap];exact⟨y,B,hi⟩)
 ·rename_i z;refine wC λi hi=>h i ?_;cases x<;>first|exact hi|(simp[G9]at hi)
theorem a1d{x:A}{i:Nat}(h:i∈G9 x):i∈Z4 x:=by cases x<;>first|exact h|(simp[G9]at h)
theorem zL{x:A}{i:Nat}(h:i∈Ga x):i∈Z4 x:=by cases x<;>first|exact h|(simp[Ga,G9]at h)
theorem Hy.at{o:Oper}(h:Hy o st st2){x:Operand}(hx:x∈o.op.operands.toList):(∀i∈G9 (st.ev x),st2.mem i=st.mem i)/\(∀i∈Ga (st.ev x),st2.mem i=st.mem i):=
 ⟨λi hi=>h.mem i (.inl (List.mem_flatMap.2 ⟨x,by rw[Iy];exact hx,a1d hi⟩)),λi hi=>h.mem i (.inl (List.mem_flatMap.2 ⟨x,by rw[Iy];exact hx,zL hi⟩))⟩
theorem List.flatMap_congr{α β:Type}{l:List α}{f g:α->List β}(h:∀x∈l,f x=g x):l.flatMap f=l.flatMap g:=by
 induction l with
 |nil=>rfl
 |cons x l ih=>rw[List.flatMap_cons,List.flatMap_cons,h x I2,ih λy z=>h y (J1 _ z)]
theorem PG{ρ:Nat->Option Nat}{s z:St}{ms:List (Nat × Blk)}(h:z.mem=s.mem)(x y:A):le1 ρ z ms x y=le1 ρ s ms x y:=by unfold le1;rw[h]
theorem zY{ρ:Nat->Option Nat}{s z:St}{ms:List (Nat × Blk)}(h:z.mem=s.mem):∀(x y:List A),Dh ρ z ms x y=Dh ρ s ms x y
 | [],[]=>rfl
 |x::l,y::r=>by simp only[Dh,PG h,zY h l r]
 | [],_::_=>rfl
 |_::_,[]=>rfl
theorem a92{ρ:Nat->Option Nat}{s z:St}{ms:List (Nat × Blk)}(h:z.mem=s.mem)(x y:A):le2 ρ z ms x y=le2 ρ s ms x y:=by
 unfold le2;split
 ·exact zY h _ _
 ·exact PG h _ _
theorem VV{ρ:Nat->Option Nat}{s z:St}{ms:List (Nat × Blk)}(h:z.mem=s.mem):∀{x y:List A},Ec ρ s ms x y->Ec ρ z ms x y
 | [],[],_=>trivial
 |x::l,y::r,⟨h1,h2⟩=>⟨by rw[a92 h];exact h1,VV h h2⟩
theorem a9j{ρ:Nat->Option Nat}{s z:St}{ms:List (Nat × Blk)}(h:z.mem=s.mem)(x y:Blk):leB ρ z ms x y=leB ρ s ms x y:=by cases x<;>cases y<;>first|rfl|(simp only[leB];rw[zY h])
theorem a5N{ρ:Nat->Option Nat}{s G:St}{m:List (Nat × Blk)}(h:G.mem=s.mem)(F:V0 ρ s [] m):V0 ρ G [] m:=
 ⟨λp z=>by simp at z,λp z=>by
  have:=F.hms p z;unfold leM at this⊢;split at this
  ·rename_i j I;obtain⟨b,H,B⟩:=this;exact⟨b,by rw[h];exact H,by rw[a9j h];exact B⟩
  ·exact this,F.inj⟩
theorem NG{o:Oper}{c:Call}{f:FuncId}{K:St->Prop}(ho:o.op=.call c)(hc:c.callee=.value (.func f))(h:tE P f o.dst (c.args.toList.map st.ev) st K):Bo P o st K:=by
 obtain⟨af,args,ts⟩:=c
 dsimp only at hc h
 subst hc;have ad:∀x∈args.toList,x∈o.op.operands.toList:=λx hx=>by simp[ho,Op.operands,Call.operands];right;simpa using hx
 have V:x6 o st=(if Ey (args.toList.map st.ev)then H6 st (args.toList.map st.ev)else [])++Rc o.dst:=(by simp[x6,ho]);obtain⟨U,m,r,G,ρ,F,h1,h2,O,R,h5,h6,h⟩:=h;generalize Y:H6 st (args.toList.map st.ev)=J at R h6 h;have N:∀i,J.contains i=true->i∈x6 o st:=λi hi=>by
  rw[V];rcases O with O|O
  ·rw[if_pos O,Y];exact A3.2 (.inl (by simpa using hi))
  ·have:H6 st (args.toList.map st.ev)=[]:=(by unfold H6;rw[O];rfl);rw[<-Y,this]at hi;simp at hi
 have ab:∀i p,fnd G F i=some p->i∈x6 o st:=λi p hp=>by
  obtain⟨ac,ae⟩:=Fa hp;cases I:W7 p.1 with
  |true=>obtain⟨al,_,ak,_⟩:=R.old p ac I;exact N i (R.image _ (V4 ak) i (by rw[<-ae];exact al))
  |false=>rw[V];exact A3.2 (.inr (by rw[<-ae];exact h5 p ac I))
 have B:∀Z:St,∀i,i∉x6 o st->(Z.back J G F).mem i=Z.mem i/\(Z.back J G F).used i=Z.used i:=λZ i hi=>by
  have hn:fnd G F i=none:=by
   cases h:fnd G F i with
   |none=>rfl
   |some p=>exact absurd (ab i p h) hi
  have hj:J.contains i=false:=by
   cases h:J.contains i with
   |false=>rfl
   |true=>exact absurd (N i h) hi
  have ai:i∉J:=(by simpa using hj);simp[St.back,hn,ai]
 refine⟨_,h,⟨by simp[St.back],λt X=>?_,λi hi=>?_,λi hi=>?_⟩,λst2 ha K2 aa=>?_⟩
 ·cases hd:o.dst with
  |none=>rfl
  |some d=>rw[hd]at X;have:t≠d:=λe=>X (by rw[e]);simp[St.put,upd,this,St.back]
 ·rw[Gu];exact(B st i hi).1
 ·rw[Ha];exact(B st i hi).2
 ·have Q:args.toList.map st2.ev=args.toList.map st.ev:=List.map_congr_left λx hx=>ha.env x (ad x hx);have S:∀i∈x6 o st,st2.mem i=st.mem i:=λi hi=>ha.mem i (.inr hi);have M:∀i∈x6 o st,Cy st2 i=Cy st i:=λi hi=>by unfold Cy;rw[S i hi]
  have z:H6 st2 (args.toList.map st.ev)=J:=by
   rcases O with O|O
   ·rw[<-Y];unfold H6;have ag:∀i∈(args.toList.map st.ev).flatMap Z4,i∈x6 o st:=λi hi=>N i (by rw[<-Y];unfold H6;simp only[List.contains_eq_mem,decide_eq_true_eq];exact A3.2 (.inl hi));have e1:((args.toList.map st.ev).flatMap Z4).flatMap (Cy st2)=((args.toList.map st.ev).flatMap Z4).flatMap (Cy st):=List.flatMap_congr λi hi=>M i (ag i hi);have am:∀i∈((args.toList.map st.ev).flatMap Z4).flatMap (Cy st),i∈x6 o st:=λi hi=>N i (by rw[<-Y];unfold H6;simp only[List.contains_eq_mem,decide_eq_true_eq];exact A3.2 (.inr (A3.2 (.inl hi))));rw[e1];congr 2;exact List.flatMap_congr λi hi=>M i (am i hi)
   ·rw[<-Y];unfold H6;rw[O];rfl
  have H:(st2.only J).mem=(st.only J).mem:=by
   funext i
   simp only[St.only];split
   ·rename_i hi;exact S i (N i hi)
   ·rfl
  have aj:IR st2 J ρ F m G:=⟨a5N H R.fit,R.image,R.keys,R.inj,R.old,λp hp I=>by
   have:=R.new p hp I;rw[ha.used _ (by rw[V];exact A3.2 (.inr (h5 p hp I))),ha.n];exact this⟩
  left;unfold C9;simp only[ho]
  refine .inr ⟨U,m,r,G,ρ,F,h1,h2,by rw[Q];exact O,by rw[Q,z];exact aj,h5,by rw[Q,z];exact VV H h6,?_⟩;rw[Q,z];have e1:over st2 ((st.back J G F).put o.dst (Ed F r)) o.dst (x6 o st)=(st2.back J G F).put o.dst (Ed F r):=by
   refine St.ext' (by simp[over,St.back]) ?_ ?_ ?_
   ·funext t
    show(if o.dst=some t then((st.back J G F).put o.dst (Ed F r)).env t else st2.env t)=_;cases hd:o.dst with
    |none=>rfl
    |some d=>
     by_cases X:t=d
     ·subst X;simp[St.put,upd]
     ·have ah:d≠t:=λe=>X e.symm;simp[St.put,upd,X,ah,St.back]
   ·funext i
    show(if i∈x6 o st then((st.back J G F).put o.dst (Ed F r)).mem i else st2.mem i)=_;rw[Gu,Gu];split
    ·rename_i hi;simp only[St.back,S i hi]
    ·rename_i hi;exact(B st2 i hi).1.symm
   ·funext i
    show(if i∈x6 o st then((st.back J G F).put o.dst (Ed F r)).used i else st2.used i)=_;rw[Ha,Ha];split
    ·rename_i hi;simp only[St.back,ha.used i hi]
    ·rename_i hi;exact(B st2 i hi).2.symm
  rw[e1]at aa;exact aa
theorem a3O{o:Oper}{K:St->Prop}(hk:Au o st=true)(h:C9 P o st K):Bo P o st K:=by
 unfold C9 at h;split at h
 ·rename_i x B;exact Br _ (by simp[x6,B]) h λst2 F N H=>by left;unfold C9;simp only[B];rw[F.env x (by simp[B,Op.operands])];exact H
 ·rename_i x B;exact Br _ (by simp[x6,B]) h λst2 F N H=>by left;unfold C9;simp only[B];rw[F.env x (by simp[B,Op.operands])];exact H
 ·rename_i c x y B;obtain⟨t,hc,h⟩:=h;exact Br _ (by simp[x6,B]) h λst2 F N H=>by left;unfold C9;simp only[B];rw[F.env c (by simp[B,Op.operands]),F.env x (by simp[B,Op.operands]),F.env y (by simp[B,Op.operands])];exact⟨t,hc,H⟩
 ·rename_i ty B;obtain⟨d,R,G,J,M,h⟩:=h;exact aD d G _ _ (by simp[x6,B,G]) h λst2 F N H=>by left;unfold C9;simp only[B];exact⟨d,R,G,J,by rw[F.used d (by simp[x6,B,G])];exact M,H⟩
 ·rename_i ty x B;obtain⟨d,cs,G,J,M,h⟩:=h;exact aD d G _ _ (by simp[x6,B,G]) h λst2 F N H=>by
   left;unfold C9;simp only[B];rw[F.env x (by simp[B,Op.operands])]
   exact⟨d,cs,G,J,by rw[F.used d (by simp[x6,B,G])];exact M,H⟩
 ·rename_i t S B;obtain⟨R,cs,G,J,M,h⟩:=h;exact Br _ (by simp[x6,B]) h λst2 F N H=>by
   left;unfold C9;simp only[B]
   refine⟨R,cs,G,J,?_,H⟩;rw[<-M];congr 1;exact List.map_congr_left λp hp=>by rw[F.env p.2 (by simp only[B,Op.operands];exact List.mem_map.2 ⟨p,hp,rfl⟩)]
 ·rename_i t len S B;obtain⟨d,R,e,te,xs,G,J,M,Q,U,V,h7,h8,h9,h⟩:=h;have O:(S.toList.flatMap λ(_,x)=>E9 (st.ev x))=[]:=by simp only[Au,B,List.isEmpty_iff]at hk;exact hk
  rw[O]at h9 h;exact aD d G _ _ (by simp[x6,B,G]) h λst2 F N H=>by
   have aa:∀p∈S.toList,st2.ev p.2=st.ev p.2:=λp hp=>F.env p.2 (by simp only[B,Op.operands];exact List.mem_map.2 ⟨p,hp,rfl⟩);have X:(S.toList.flatMap λ(x:Nat × Operand)=>E9 (st2.ev x.2))=[]:=by rw[List.flatMap_eq_nil_iff]at O⊢;intro p hp;rw[aa p hp];exact O p hp
   left;unfold C9;simp only[B]
   refine⟨d,R,e,te,xs,G,J,M,Q,by rw[F.used d (by simp[x6,B,G])];exact U,V,h7,h8,?_,?_⟩
   ·rw[X,<-h9];congr 1;exact List.map_congr_left λp hp=>by show(p.1,st2.ev p.2)=(p.1,st.ev p.2);rw[aa p hp]
   ·rw[X];exact H
 ·rename_i t x B;obtain⟨R,y,G,J,h⟩:=h;exact Br _ (by simp[x6,B]) h λst2 F N H=>by
   have hx:x∈o.op.operands.toList:=by simp[B,Op.operands]
   left;unfold C9;simp only[B];rw[F.env x hx];exact⟨R,y,G,by rw[a7n (F.at hx).1];exact J,H⟩
 ·rename_i t p x B;obtain⟨R,cs,G,J,M,h⟩:=h;rcases h with⟨id,aj,ty,ae,Q,U,V,h⟩|⟨id,i,j,e,k,xs,el,l,Q,U,V,h7,h8,h⟩
  ·exact QK id _ _ (by simp[x6,B,Q,G9]) h λst2 F N H=>by
    left;unfold C9;simp only[B]
    rw[F.env x (by simp[B,Op.operands]),F.env p (by simp[B,Op.operands])];exact⟨R,cs,G,J,M,.inl ⟨id,aj,ty,ae,Q,by rw[F.mem id (.inr (by simp[x6,B,Q,G9]))];exact U,V,H⟩⟩
  ·exact QK id _ _ (by simp[x6,B,Q,G9]) h λst2 F N H=>by
    left;unfold C9;simp only[B]
    rw[F.env x (by simp[B,Op.operands]),F.env p (by simp[B,Op.operands])];exact⟨R,cs,G,J,M,.inr ⟨id,i,j,e,k,xs,el,l,Q,by rw[F.mem id (.inr (by simp[x6,B,Q,G9]))];exact U,V,h7,h8,H⟩⟩
 ·rename_i x B;exact Br _ (by simp[x6,B]) h.2 λst2 F N H=>by
   have hx:x∈o.op.operands.toList:=by simp[B,Op.operands]
   left;unfold C9;simp only[B];rw[F.env x hx];exact⟨by rw[zQ (F.at hx).1];exact h.1,H⟩
 ·rename_i op ty x y an B;obtain⟨z,G,J,h⟩:=h;exact Br _ (by simp[x6,B]) h λst2 F N H=>by
   have hx:x∈o.op.operands.toList:=by simp[B,Op.operands]
   left;unfold C9;simp only[B];rw[F.env x hx,F.env y (by simp[B,Op.operands])]
   refine⟨z,?_,J,H⟩;rw[<-G];unfold Db;rw[zQ (F.at hx).1]
 ·rename_i op ty x B;obtain⟨y,z,G,J,M,h⟩:=h;exact Br _ (by simp[x6,B]) h λst2 F N H=>by left;unfold C9;simp only[B];rw[F.env x (by simp[B,Op.operands])];exact⟨y,z,G,J,M,H⟩
 ·rename_i ak am x B;obtain⟨z,G,J,h⟩:=h;exact Vo _ h λst2 F N H=>by left;unfold C9;simp only[B];rw[F.env x (by simp[B,Op.operands])];exact⟨z,G,J,H⟩
 ·rename_i s x f B;obtain⟨R,z,G,J,M,Q,h⟩:=h;exact Br _ (by simp[x6,B]) h λst2 F N H=>by
   have hx:x∈o.op.operands.toList:=by simp[B,Op.operands]
   left;unfold C9;simp only[B];rw[F.env x hx];exact⟨R,z,G,J,by rw[zQ (F.at hx).1];exact M,Q,H⟩
 ·rename_i s x f B;obtain⟨R,z,G,J,M,h⟩:=h;exact Br _ (by simp[x6,B]) h λst2 F N H=>by left;unfold C9;simp only[B];rw[F.env x (by simp[B,Op.operands])];exact⟨R,z,G,J,M,H⟩
 ·rename_i t x i B;obtain⟨R,e,te,k',xs,k,n,el,G,J,M,Q,U,V,h7,h⟩:=h;exact Br _ (by simp[x6,B]) h λst2 F N H=>by
   have hx:x∈o.op.operands.toList:=by simp[B,Op.operands]
   left;unfold C9;simp only[B];rw[F.env x hx,F.env i (by simp[B,Op.operands])]
   exact⟨R,e,te,k',xs,k,n,el,G,J,M,by rw[iB (F.at hx).1];exact Q,U,V,h7,H⟩
 ·rename_i t x i B;obtain⟨s,k,n,b,G,J,M,Q,h⟩:=h;exact Br _ (by simp[x6,B]) h λst2 F N H=>by
   left;unfold C9;simp only[B];rw[F.env x (by simp[B,Op.operands]),F.env i (by simp[B,Op.operands])]
   exact⟨s,k,n,b,G,J,M,Q,H⟩
 ·rename_i x i B;obtain⟨cs,y,G,J,h⟩:=h;exact Br _ (by simp[x6,B]) h λst2 F N H=>by left;unfold C9;simp only[B];rw[F.env x (by simp[B,Op.operands])];exact⟨cs,y,G,J,H⟩
 ·rename_i c B;obtain⟨ai,args,ts⟩:=c
  dsimp only at h
  split at h
  ·rename_i x ty tl I Z;obtain⟨z,G,h⟩:=h;exact Br _ (by simp[x6,B]) h λst2 F N H=>by
    have hx:x∈o.op.operands.toList:=by simp[B,Op.operands,Call.operands,I]
    left;unfold C9;simp only[B,I,Z];rw[F.env x hx]
    refine⟨z,?_,H⟩;rw[<-G];unfold Fm;split<;>try rfl
    rw[iB (F.at hx).1]
  ·rename_i x y t t' I Z;obtain⟨d,R,e,te,af,ys,h0,G,J,M,Q,U,V,h7,h8,h⟩:=h;have hx:x∈o.op.operands.toList:=(by simp[B,Op.operands,Call.operands,I]);have hy:y∈o.op.operands.toList:=(by simp[B,Op.operands,Call.operands,I]);rcases h with⟨q1,q2,q3,h⟩|⟨id,k',xs,q1,q2,q3,q4,q5,h⟩
   ·have hw:x6 o st=[d]:=(by simp[x6,B,I,G,q1,G9,A.v]);exact aD d G _ _ hw h λst2 F N H=>by
     left;unfold C9;simp only[B,I,Z];rw[F.env x hx,F.env y hy]
     exact⟨d,R,e,te,af,ys,h0,G,J,M,Q,U,by rw[F.used d (by rw[hw];simp)];exact V,by rw[iB (F.at hy).1];exact h7,h8,.inl ⟨q1,q2,q3,H⟩⟩
   ·have hw:x6 o st=[d,id]:=(by simp[x6,B,I,G,q1,G9]);refine⟨_,h,by rw[hw];exact YR o st d id G _ _,λst2 F N H=>?_⟩;have ag:id∈x6 o st:=(by rw[hw];simp);have ac:id≠d\/id=d:=by omega
    left;unfold C9;simp only[B,I,Z];rw[F.env x hx,F.env y hy]
    refine⟨d,R,e,te,af,ys,h0,G,J,M,Q,U,by rw[F.used d (by rw[hw];simp)];exact V,by rw[iB (F.at hy).1];exact h7,h8,.inr ⟨id,k',xs,q1,by rw[F.mem id (.inr ag)];exact q2,q3,q4,q5,?_⟩⟩;rw[hw,G]at H;rw[G];rcases ac with ac|rfl
    ·rw[b2K _ _ _ _ _ _ ac (F.used id ag)]at H;exact H
    ·have e1:over st2 (((st.del id).new id (.row e te.size (xs++ys))).put (some id) (.ref id)) (some id) [id,id]=((st2.del id).new id (.row e te.size (xs++ys))).put (some id) (.ref id):=by
      simp only[over,St.put,St.new,St.del,P1,D0,List.not_mem_nil,or_false,or_self];congr 1
      ·funext t
       by_cases h:id=t
       ·subst h;simp[upd]
       ·have h':t≠id:=λe=>h e.symm;simp[upd,h,h']
      ·funext i
       by_cases h:i=id<;>simp[upd,h]
      ·funext i
       by_cases h:i=id<;>simp[upd,h]
     rw[e1]at H;exact H
  ·rename_i f;have Y:∀x∈args.toList,x∈o.op.operands.toList:=λx hx=>by simp[B,Op.operands,Call.operands];right;simpa using hx
   have al:x6 o st=(if Ey (args.toList.map st.ev)then H6 st (args.toList.map st.ev)else [])++Rc o.dst:=(by simp[x6,B]);rcases h with⟨r,G,J,h⟩|⟨ad,m,r,m',ρ,ν,G,J,M,Q,U,V,h⟩
   ·have O:(args.toList.map st.ev).flatMap E9=[]:=by rw[List.flatMap_map];simp only[Au,B,List.isEmpty_iff]at hk;exact hk
    have H:K (st.put o.dst r):=by
     rcases h with⟨_,h⟩|h
     ·exact h
     ·rw[O]at h;exact h
    refine⟨_,H,?_,λst2 F N ah=>?_⟩
    ·have:=Qg o st r;exact⟨this.n,this.env,λi _=>this.mem i (by simp),λi _=>this.used i (by simp)⟩
    ·have aa:args.toList.map st2.ev=args.toList.map st.ev:=List.map_congr_left λx hx=>F.env x (Y x hx);have ab:(args.toList.map λx=>y7 st2 (st2.ev x))=args.toList.map λx=>y7 st (st.ev x):=List.map_congr_left λx hx=>by rw[F.env x (Y x hx),sT (F.at (Y x hx)).2]
     have e1:over st2 (st.put o.dst r) o.dst (x6 o st)=st2.put o.dst r:=by
      rw[<-Uj st2 st];refine St.ext' rfl rfl ?_ ?_
      ·funext i
       show(if i∈x6 o st then(st.put o.dst r).mem i else st2.mem i)=st2.mem i;split
       ·rename_i hi;rw[Gu,F.mem i (.inr hi)]
       ·rfl
      ·funext i
       show(if i∈x6 o st then(st.put o.dst r).used i else st2.used i)=st2.used i;split
       ·rename_i hi;rw[Ha,F.used i hi]
       ·rfl
     rw[e1]at ah
     left;unfold C9;simp only[B]
     refine .inl ⟨r,by rw[ab];exact G,by rw[ab];exact J,.inr ?_⟩;rw[aa,O];exact ah
   ·exact NG (c:=⟨.value (.func f),args,ts⟩) B rfl ⟨ad,m,r,m',ρ,ν,G,J,M,Q,U,V,h⟩
  ·exact h.elim
 ·exact h.elim
theorem wP{o:Oper}(B:Hy o st st2):D1 o st2=D1 o st/\N0 o st2=N0 o st:=by
 have z:∀x∈opL o.op,st2.ev x=st.ev x:=λx hx=>B.env x (by rw[<-Iy];exact hx);refine⟨List.map_congr_left λx hx=>?_,?_⟩
 ·rw[z x hx,sT (B.at (by rw[<-Iy];exact hx)).2]
 ·unfold N0;rw[List.flatMap_congr λx hx=>by rw[z x hx]]
theorem b07{o:Oper}{K:St->Prop}(h:gH P o st K):Bo P o st K:=by
 obtain⟨V,h⟩:=h;rcases h with⟨x,H,O,Q⟩|⟨d,e,k,F,H,O,h3,⟨Y,I⟩,Q⟩
 ·refine Vo x Q λst2 G X B=>?_;obtain⟨N,Z⟩:=wP G;exact .inr (.inl ⟨by rw[N];exact V,.inl ⟨x,by rw[N];exact H,by rw[Z];exact O,B⟩⟩)
 ·have z:d∈x6 o st:=by
   unfold Iv at I;unfold x6;split at I
   ·rename_i M;simp[M,H]
   ·rename_i M;simp only[M];rw[if_pos I,H];simp
   ·rename_i c M;simp only[M];split at I
    ·rename_i hc G;rw[hc,G];simp[H]
    ·cases I
   ·cases I
  refine⟨_,Q,?_,λst2 G X B=>?_⟩
  ·have:=UW o st d H (.row e k F) (.ref d);exact⟨this.n,this.env,λi hi=>this.mem i (λh=>hi (by rw[K4.1 h];exact z)),λi hi=>this.used i (λh=>hi (by rw[K4.1 h];exact z))⟩
  ·have N:over st2 ((st.new d (.row e k F)).put o.dst (.ref d)) o.dst (x6 o st)=(st2.new d (.row e k F)).put o.dst (.ref d):=by
    have S:=YQ st2 st d (.row e k F) (.ref d);rw[<-H]at S;rw[<-S];refine St.ext' rfl rfl ?_ ?_
    ·funext i
     show(if i∈x6 o st then((st.new d (.row e k F)).put o.dst (.ref d)).mem i else st2.mem i)=(if i∈ [d]then((st.new d (.row e k F)).put o.dst (.ref d)).mem i else st2.mem i);by_cases hi:i=d
     ·subst hi;simp[z]
     ·by_cases J:i∈x6 o st
      ·rw[if_pos J,if_neg (by simpa using hi),Gu];simp only[St.new,upd,hi,if_false];exact(G.mem i (.inr J)).symm
      ·rw[if_neg J,if_neg (by simpa using hi)]
    ·funext i
     show(if i∈x6 o st then((st.new d (.row e k F)).put o.dst (.ref d)).used i else st2.used i)=(if i∈ [d]then((st.new d (.row e k F)).put o.dst (.ref d)).used i else st2.used i);by_cases hi:i=d
     ·subst hi;simp[z]
     ·by_cases J:i∈x6 o st
      ·rw[if_pos J,if_neg (by simpa using hi),Ha];simp only[St.new,upd,hi,if_false];exact(G.used i J).symm
      ·rw[if_neg J,if_neg (by simpa using hi)]
   rw[N]at B;obtain⟨U,q2⟩:=wP G;have R:Iv o st2=Iv o st:=by
    unfold Iv;split<;>try rfl
    rename_i M;rw[G.env _ (by rw[<-Iy,M];simp[opL])]
   exact .inr (.inl ⟨by rw[U];exact V,.inr ⟨d,e,k,F,H,by rw[G.used d z];exact O,by rw[U];exact h3,⟨by rw[q2];exact Y,by rw[R];exact I⟩,B⟩⟩)
theorem ZS{o:Oper}{i id:Nat}{y:A}(h:((opL o.op).map st.ev)[i]? =some y)(B:Ct y=[id]):id∈(opL o.op).flatMap λx=>Ct (st.ev x):=by rw[P2]at h;obtain⟨x,hx,z⟩:=Option.map_eq_some_iff.1 h;exact List.mem_flatMap.2 ⟨x,O8 hx,by rw[z,B];simp⟩
theorem b6h{o:Oper}{K:St->Prop}(od:Od)(d:Nat)(h0:Ho o=true)(z:o.dst=some d)(J:st.used d=false)(R:N0 o st=true)(M:(D1 o st).all E2=true)(O:Jk P o (D1 o st) od)(N:K ((st.new d (.obj od)).put o.dst (.ob d))):Bo P o st K:=by
 have G:x6 o st=[d]:=by
  unfold Ho at h0;unfold x6;split at h0
  ·rename_i F;simp[F,z]
  ·rename_i F;simp[F,z]
  ·cases h0
 refine aD d z _ _ G N λst2 I S B=>?_;obtain⟨H,Q⟩:=wP I;exact .inr (.inr (.inl (.inr (.inr ⟨od,d,h0,z,by rw[I.used d (by rw[G];simp)];exact J,by rw[Q];exact R,by rw[H];exact M,by rw[H];exact O,B⟩))))
theorem a6B{o:Oper}{K:St->Prop}(h:SZ P o st K):Bo P o st K:=by
 have Q:∀st2,Hy o st st2->(opL o.op).map st2.ev=(opL o.op).map st.ev:=λst2 F=>List.map_congr_left λx hx=>F.env x (by rw[<-Iy];exact hx);rcases h with⟨i,b,xs,b',id,d,h0,O,I,Z,V,Y,h6,X⟩|⟨i,b,xs,b',r,id,h0,O,I,Z,V,Y,X⟩|⟨od,d,h0,O,I,Z,V,Y,X⟩
 ·have z:=ZS I rfl;have N:id∈x6 o st/\d∈x6 o st:=by
   unfold Ot at h0;unfold x6;split at h0
   ·rename_i J;simp only[J]at z⊢;split
    ·rename_i e;rw[e]at z;simp at z
    ·rename_i l e;exact⟨A3.2 (.inr z),by simp[O]⟩
   ·rename_i c J;simp only[J]at z⊢;split at h0
    ·rename_i R;have aa:i=0:=Nat.eq_of_beq_eq_true h0;subst aa;simp only[J,opL,R,U7]at I;simp only[R];cases hl:c.args.toList with
     |nil=>rw[hl]at I;simp at I
     |cons x l=>rw[hl]at I;simp only[List.map_cons,List.getElem?_cons_zero,P1]at I;simp only;exact⟨A3.2 (.inr (by rw[I];simp[G9])),by simp[O]⟩
    ·cases h0
   ·cases h0
  have ab:id≠d\/id=d:=(Decidable.em (id=d)).symm;refine⟨_,X,?_,λst2 F K2 M=>?_⟩
  ·have:=YR o st d id O b' (.ref d);exact⟨this.n,this.env,λj H=>this.mem j (λh=>by simp at h;rcases h with rfl|rfl<;>simp_all),λj H=>this.used j (λh=>by simp at h;rcases h with rfl|rfl<;>simp_all)⟩
  ·refine .inr (.inr (.inl (.inl ⟨i,b,xs,b',id,d,h0,O,by rw[Q st2 F];exact I,by rw[Q st2 F];exact Z,by rw[F.mem id (.inr N.1)];exact V,by rw[F.used d N.2];exact Y,h6,?_⟩)));have e1:over st2 (((st.del id).new d b').put o.dst (.ref d)) o.dst (x6 o st)=((st2.del id).new d b').put o.dst (.ref d):=by
    rw[O];refine St.ext' rfl ?_ ?_ ?_
    ·funext t
     show(if some d=some t then(((st.del id).new d b').put (some d) (.ref d)).env t else st2.env t)=_;by_cases S:d=t
     ·subst S;simp[St.put,upd]
     ·have U:t≠d:=λe=>S e.symm;simp[St.put,upd,S,U,St.new,St.del]
    ·funext j
     show(if j∈x6 o st then(((st.del id).new d b').put (some d) (.ref d)).mem j else st2.mem j)=_;rw[Gu,Gu];simp only[St.new,St.del,upd];by_cases H:j=d
     ·simp[H,N.2]
     ·by_cases G:j=id
      ·subst G;simp[H,N.1]
      ·by_cases B:j∈x6 o st
       ·simp[H,G,B,F.mem j (.inr B)]
       ·simp[H,G,B]
    ·funext j
     show(if j∈x6 o st then(((st.del id).new d b').put (some d) (.ref d)).used j else st2.used j)=_;rw[Ha,Ha];simp only[St.new,St.del,upd];by_cases H:j=d
     ·simp[H,N.2]
     ·by_cases B:j∈x6 o st
      ·simp[H,B,F.used j B]
      ·simp[H,B]
   rw[e1]at M;exact M
 ·have z:=ZS O (a9Z b id);have N:id∈x6 o st:=by
   unfold Ju at h0;unfold x6;split at h0
   ·rename_i c J;simp only[J]at z⊢;split at h0
    ·rename_i R;simp only[R];exact z
    ·rename_i R;simp only[R];exact z
    ·rename_i R;simp only[R];exact z
    ·cases h0
   ·rename_i J;simp only[J]at z⊢;exact z
   ·rename_i J;simp only[J]at z⊢;exact z
   ·rename_i J;simp only[J]at z⊢;exact z
   ·cases h0
  refine⟨_,X,?_,λst2 F K2 M=>?_⟩
  ·have:=YH o st id b' r;exact⟨this.n,this.env,λj H=>this.mem j (λh=>by simp at h;subst h;exact H N),λj H=>this.used j (λh=>by simp at h;subst h;exact H N)⟩
  ·refine .inr (.inr (.inl (.inr (.inl ⟨i,b,xs,b',r,id,h0,by rw[Q st2 F];exact O,by rw[Q st2 F];exact I,by rw[F.mem id (.inr N)];exact Z,by rw[F.used id N];exact V,Y,?_⟩))));have e1:over st2 ((st.setm id b').put o.dst r) o.dst (x6 o st)=(st2.setm id b').put o.dst r:=by
    refine St.ext' (by simp[over,St.setm]) ?_ ?_ ?_
    ·funext t
     show(if o.dst=some t then((st.setm id b').put o.dst r).env t else st2.env t)=_;cases hd:o.dst with
     |none=>rfl
     |some d=>
      by_cases S:d=t
      ·subst S;simp[St.put,upd]
      ·have U:t≠d:=λe=>S e.symm;simp[St.put,upd,S,U,St.setm]
    ·funext j
     show(if j∈x6 o st then((st.setm id b').put o.dst r).mem j else st2.mem j)=_;rw[Gu,Gu];simp only[St.setm,upd];by_cases G:j=id
     ·subst G;simp[N]
     ·by_cases B:j∈x6 o st
      ·simp[G,B,F.mem j (.inr B)]
      ·simp[G,B]
    ·funext j
     show(if j∈x6 o st then((st.setm id b').put o.dst r).used j else st2.used j)=_;rw[Ha,Ha];simp only[St.setm];by_cases B:j∈x6 o st
     ·simp[B,F.used j B]
     ·simp[B]
   rw[e1]at M;exact M
 ·exact b6h od d h0 O I Z V Y X
theorem a5s{o:Oper}{K:St->Prop}(h:EX P o st K):Bo P o st K:=by
 obtain⟨c,x,t,r,J,H,R,N,Q,S,O⟩:=h;refine Vo r O λst2 G U M=>?_;have hx:x∈o.op.operands.toList:=(by rw[J];simp[Op.operands,Call.operands,H]);have z:∀y∈c.args.toList,y∈o.op.operands.toList:=λy F=>by rw[J];simp[Op.operands,Call.operands,H];right;simpa using F
 have I:c.args.toList.map st2.ev=c.args.toList.map st.ev:=List.map_congr_left λy F=>G.env y (z y F);have B:(c.args.toList.map λy=>y7 st2 (st2.ev y))=c.args.toList.map λy=>y7 st (st.ev y):=List.map_congr_left λy F=>by rw[G.env y (z y F),sT (G.at (z y F)).2]
 exact .inr (.inr (.inr (.inl ⟨c,x,t,r,J,H,by rw[G.env x hx];exact R,by rw[B];exact N,by rw[B];exact Q,by rw[I];exact S,M⟩)))
theorem a88{x:A}(h:∀i∈G9 x,st2.mem i=st.mem i):He st2 x=He st x:=by
 cases x with
 |ref id=>unfold He;dsimp only;rw[h id (by simp[G9])]
 |_=>rfl
theorem ZT:∀{cs:List A},(∀c∈cs,∀i∈G9 c,st2.mem i=st.mem i)->Cr st2 cs=Cr st cs
 | [],_=>rfl
 |c::cs,h=>by unfold Cr;rw[a88 (h c I2),ZT λc z=>h c (J1 _ z)]
theorem Sd{x:A}(h:∀i∈G9 x,st2.mem i=st.mem i)(B:EE x=true->∀i∈G9 x,∀j∈Cy st i,st2.mem j=st.mem j):Bm st2 x=Bm st x:=by
 cases x with
 |ptr id off=>
  unfold Bm
  dsimp only
  rw[h id (by simp[G9])];split
  ·rename_i G cs z;rw[ZT λc F i hi=>B rfl id (by simp[G9]) i (by unfold Cy;rw[z];exact List.mem_flatMap.2 ⟨c,List.mem_of_mem_drop F,hi⟩)]
  ·rfl
 |ref id=>exact wC h
 |_=>rfl
theorem b3t{x:A}(h:∀i∈Ga x,st2.mem i=st.mem i)(B:ND x=true->∀i∈Ga x,∀j∈Cy st i,st2.mem j=st.mem j):T6 st2 x=T6 st x:=by
 cases x with
 |agg cs=>show A.agg (cs.map (Bm st2))=A.agg (cs.map (Bm st));congr 1;exact List.map_congr_left λy F=>Sd (λi hi=>h i (List.mem_flatMap.2 ⟨y,F,hi⟩)) λz i hi j G=>B (List.any_eq_true.2 ⟨y,F,by simp[z]⟩) i (List.mem_flatMap.2 ⟨y,F,hi⟩) j G
 |tup cs=>rfl
 |t y=>rfl
 |fel c=>rfl
 |dead=>rfl
 |ref id=>exact Sd (x:=.ref id) h (λz=>B (by cases z))
 |ptr id o=>exact Sd (x:=.ptr id o) h (λz=>B z)
 |ifc ty id o=>exact Sd (x:=.ifc ty id o) h (λz=>B z)
 |rptr id i j=>exact Sd (x:=.rptr id i j) h (λz=>B (by cases z))
 |ob id=>exact Sd (x:=.ob id) h (λz=>B z)
theorem UU{o:Oper}{c:Call}{f:FuncId}(I:o.op=.call c)(K:c.callee=.value (.func f))(N:∀x∈o.op.operands.toList,st2.ev x=st.ev x)(J:∀i,i∈Ic o st\/i∈x6 o st->st2.mem i=st.mem i):(c.args.toList.map λy=>T6 st2 (st2.ev y))=c.args.toList.map λy=>T6 st (st.ev y):=by
 have z:∀y∈c.args.toList,y∈o.op.operands.toList:=λy B=>by rw[<-Iy,I];simp only[opL,K];exact List.mem_append_right _ B
 refine List.map_congr_left λy B=>?_;rw[N y (z y B)];have G:∀i∈Ga (st.ev y),i∈Ic o st:=λi hi=>List.mem_flatMap.2 ⟨y,by rw[Iy];exact z y B,zL hi⟩;refine b3t (λi hi=>J i (.inl (G i hi))) λM i hi j O=>J j (.inr ?_);have H:x6 o st=(if Ey (c.args.toList.map st.ev)then H6 st (c.args.toList.map st.ev)else [])++Rc o.dst:=by unfold x6;rw[I];simp only[K]
 have F:Ey (c.args.toList.map st.ev)=true:=List.any_eq_true.2 ⟨_,List.mem_map.2 ⟨y,B,rfl⟩,M⟩;rw[H,F,if_pos rfl];refine A3.2 (.inl ?_);unfold H6;refine A3.2 (.inr (A3.2 (.inl ?_)));exact List.mem_flatMap.2 ⟨i,List.mem_flatMap.2 ⟨_,List.mem_map.2 ⟨y,B,rfl⟩,zL hi⟩,O⟩
theorem YM{o:Oper}{K:St->Prop}(h:zI P o st K):Bo P o st K:=by obtain⟨c,f,r,H,G,N,I,M,J⟩:=h;refine Vo r J λst2 F O B=>?_;have z:=UU H G F.env F.mem;exact .inr (.inr (.inr (.inr ⟨c,f,r,H,G,by rw[z];exact N,by rw[z];exact I,M,B⟩)))
theorem b0R{o:Oper}{K:St->Prop}(z:Au o st=true)(h:Dg P o st K):Bo P o st K:=by
 rcases h with h|h|h|h|h
 ·exact a3O z h
 ·exact b07 h
 ·exact a6B h
 ·exact a5s h
 ·exact YM h
end
section
open Go.RowKit
variable{C:Ctx}{st st' st2:St}{L L':Nat->Loc}{a:Act}{w:World}{P:Program}
structure Tr where
 s:Nat->St
 d:Nat->Option Nat
 wr:Nat->List Nat
def mix(t:Tr)(S:Nat->Bool):Nat->St
 |0=>t.s 0
 |m+1=>if S m then over (mix t S m) (t.s (m+1)) (t.d m) (t.wr m)else mix t S m
structure Qz(t:Tr)(n:Nat):Prop where
 hn:∀i,i<n->(t.s (i+1)).n=(t.s i).n
 env:∀i,i<n->∀x,t.d i≠some x->(t.s (i+1)).env x=(t.s i).env x
 mem:∀i,i<n->∀x,x∉t.wr i->(t.s (i+1)).mem x=(t.s i).mem x
 used:∀i,i<n->∀x,x∉t.wr i->(t.s (i+1)).used x=(t.s i).used x
theorem Xd{t:Tr}{n:Nat}(h:Qz t n)(S:Nat->Bool):∀m,m<=n->(mix t S m).n=(t.s 0).n
 |0,_=>rfl
 |m+1,hm=>by
  unfold mix;split
  ·exact Xd h S m (by omega)
  ·exact Xd h S m (by omega)
theorem s_n{t:Tr}{n:Nat}(h:Qz t n):∀m,m<=n->(t.s m).n=(t.s 0).n
 |0,_=>rfl
 |m+1,hm=>by rw[h.hn m (by omega),s_n h m (by omega)]
theorem BD{t:Tr}{n:Nat}(h:Qz t n)(S:Nat->Bool)(x j:Nat)(H:∀k,k<n->t.d k=some x->(S k=true↔k<j)):∀m,m<=n->(mix t S m).env x=(t.s (min m j)).env x
 |0,_=>by simp[mix]
 |m+1,hm=>by
  have G:=BD h S x j H m (by omega);unfold mix;by_cases hd:t.d m=some x
  ·have:=H m (by omega) hd;by_cases z:S m=true
   ·rw[if_pos z];have B:=this.1 z;simp only[over,hd,if_true];rw[show min (m+1) j=m+1 by omega]
   ·rw[if_neg z,G];have B:¬m<j:=λF=>z (this.2 F);rw[show min m j=j by omega,show min (m+1) j=j by omega]
  ·have e:(if S m=true then over (mix t S m) (t.s (m+1)) (t.d m) (t.wr m)else mix t S m).env x=(mix t S m).env x:=by
    split
    ·simp[over,hd]
    ·rfl
   rw[e,G];by_cases F:m<j
   ·rw[show min m j=m by omega,show min (m+1) j=m+1 by omega,h.env m (by omega) x hd]
   ·rw[show min m j=j by omega,show min (m+1) j=j by omega]
theorem bQ{t:Tr}{n:Nat}(h:Qz t n)(S:Nat->Bool)(x j:Nat)(H:∀k,k<n->x∈t.wr k->(S k=true↔k<j)):∀m,m<=n->(mix t S m).mem x=(t.s (min m j)).mem x/\(mix t S m).used x=(t.s (min m j)).used x
 |0,_=>by simp[mix]
 |m+1,hm=>by
  have z:=bQ h S x j H m (by omega);unfold mix;by_cases hd:x∈t.wr m
  ·have:=H m (by omega) hd;by_cases B:S m=true
   ·rw[if_pos B];have F:=this.1 B;simp only[over,hd,if_true];rw[show min (m+1) j=m+1 by omega];exact⟨rfl,rfl⟩
   ·rw[if_neg B,z.1,z.2];have F:¬m<j:=λG=>B (this.2 G);rw[show min m j=j by omega,show min (m+1) j=j by omega];exact⟨rfl,rfl⟩
  ·have e:(if S m=true then over (mix t S m) (t.s (m+1)) (t.d m) (t.wr m)else mix t S m).mem x=(mix t S m).mem x/\(if S m=true then over (mix t S m) (t.s (m+1)) (t.d m) (t.wr m)else mix t S m).used x=(mix t S m).used x:=by
    split
    ·simp[over,hd]
    ·exact⟨rfl,rfl⟩
   rw[e.1,e.2,z.1,z.2];by_cases G:m<j
   ·rw[show min m j=m by omega,show min (m+1) j=m+1 by omega,h.mem m (by omega) x hd,h.used m (by omega) x hd];exact⟨rfl,rfl⟩
   ·rw[show min m j=j by omega,show min (m+1) j=j by omega];exact⟨rfl,rfl⟩
theorem a6g{t:Tr}{n:Nat}(h:Qz t n)(S:Nat->Bool)(B:∀k,k<n->S k=true):mix t S n=t.s n:=by
 refine St.ext' (by rw[Xd h S n (l5 _),s_n h n (l5 _)]) ?_ ?_ ?_
 ·funext x;rw[BD h S x n (λk z _=>by simp[B k z,z]) n (l5 _),Nat.min_self]
 ·funext x;rw[(bQ h S x n (λk z _=>by simp[B k z,z]) n (l5 _)).1,Nat.min_self]
 ·funext x;rw[(bQ h S x n (λk z _=>by simp[B k z,z]) n (l5 _)).2,Nat.min_self]
theorem LK{t:Tr}(S F:Nat->Bool)(j:Nat)(J:S j=false)(z:∀k,F k=(if k=j then true else S k)):∀m,(∀k,j<k->k<m->S k=true->(∀x,t.d j=some x->t.d k≠some x)/\∀x,x∈t.wr j->x∉t.wr k)->mix t F m=if j<m then over (mix t S m) (t.s (j+1)) (t.d j) (t.wr j)else mix t S m
 |0,_=>by simp[mix]
 |m+1,h=>by
  have K:=LK S F j J z m (λk I G=>h k I (by omega));unfold mix;rw[z m,K];by_cases e:m=j
  ·subst e;simp[J]
  ·rw[if_neg e];by_cases H:j<m
   ·rw[if_pos H,if_pos (show j<m+1 by omega)];by_cases B:S m=true
    ·rw[if_pos B,if_pos B];obtain⟨I,G⟩:=h m H (by omega) B;refine St.ext' rfl ?_ ?_ ?_
     ·funext x
      simp only[over];by_cases c1:t.d j=some x
      ·rw[if_neg (I x c1),if_pos c1,if_pos c1]
      ·rw[if_neg c1,if_neg c1]
     ·funext x
      simp only[over];by_cases c1:x∈t.wr j
      ·rw[if_neg (G x c1),if_pos c1,if_pos c1]
      ·rw[if_neg c1,if_neg c1]
     ·funext x
      simp only[over];by_cases c1:x∈t.wr j
      ·rw[if_neg (G x c1),if_pos c1,if_pos c1]
      ·rw[if_neg c1,if_neg c1]
    ·rw[if_neg B,if_neg B]
   ·rw[if_neg H,if_neg (show¬j<m+1 by omega)]
def Il(o:Oper):List Nat:=o.after.toList.filterMap λe=>if Region.binds .any e then some e.on else none
def Kw(ms:List Nat)(o:Oper):Nat:=(Il o).foldl (λs j=>s|||(2^j|||ms.getD j 0)) 0
def wT:List Oper->List Nat->List Nat
 | [],acc=>acc
 |o::l,acc=>wT l (acc++[Kw acc o])
def Ez(ops:List Oper):List Nat:=wT ops []
def Pk(ops:List Oper)(o:Oper):List Nat:=b4i o++(match o.guard with|some (j,_)=>(match K3 ops j with|some g=>g.dst.toList|none=>[])|none=>[])
def Tg(ops:List Oper)(x y:Oper):Bool:=
 x.dst.toList.all (λd=>!(Pk ops y).contains d&& !(y.dst.toList).contains d)&&y.dst.toList.all (λd=>!(Pk ops x).contains d)
def Zl(l r:List Nat):Bool:=l.all λx=>!r.contains x
def Hr(ms:List Nat)(i k:Nat):Bool:=!(ms.getD k 0).testBit i
def qT(n:Nat)(f:Nat->Nat->Bool):Bool:=(List.range n).all λk=>(List.range k).all λi=>f i k
def JG(ops:List Oper):Bool:=(List.range ops.length).all λi=>match K3 ops i with|some o=>(Il o).all λj=>decide (j<i)|none=>true
def NL(ops:List Oper)(ms:List Nat):Bool:=
 JG ops&&qT ops.length λi k=>match K3 ops i,K3 ops k with|some x,some y=>!Hr ms i k||Tg ops x y|_,_=>true
def Wn(ops:List Oper):Bool:=NL ops (Ez ops)
def b1y(ms:List Nat)(n:Nat):List (Nat × Nat):=(List.range n).flatMap λk=>(List.range k).filterMap λi=>if Hr ms i k then some (i,k)else none
def TN(ops:List Oper):List (Nat × Nat):=b1y (Ez ops) ops.length
def N7(fps:List (List Nat × List Nat))(i:Nat):List Nat × List Nat:=fps.getD i ([],[])
def kL(ops:List Oper)(fps:List (List Nat × List Nat)):Bool:=
 (TN ops).all λp=>Zl (N7 fps p.1).2 ((N7 fps p.2).1++(N7 fps p.2).2)&&Zl (N7 fps p.2).2 (N7 fps p.1).1
theorem a55{z:List Oper}{i k:Nat}(B:k<z.length)(hi:i<k)(h:Hr (Ez z) i k=true):(i,k)∈TN z:=by refine List.mem_flatMap.2 ⟨k,List.mem_range.2 B,List.mem_filterMap.2 ⟨i,List.mem_range.2 hi,by rw[if_pos h]⟩⟩
theorem TF(ms:List Nat)(i:Nat):∀(l:List Nat) (s:Nat),(l.foldl (λs j=>s|||(2^j|||ms.getD j 0)) s).testBit i=true->s.testBit i=true\/∃q∈l,q=i\/(ms.getD q 0).testBit i=true
 | [],s,h=>.inl h
 |q::l,s,h=>by
  rcases TF ms i l _ h with h|⟨x,hx,h⟩
  ·simp only[Nat.testBit_or,Bool.or_eq_true,Nat.testBit_two_pow,decide_eq_true_eq]at h;rcases h with h|h|h
   ·exact .inl h
   ·exact .inr ⟨q,I2,.inl h⟩
   ·exact .inr ⟨q,I2,.inr h⟩
  ·exact .inr ⟨x,J1 _ hx,h⟩
def yJ(ops:List Oper)(ms:List Nat):Prop:=∀k o i,K3 ops k=some o->(ms.getD k 0).testBit i=true->∃q∈Il o,q=i\/(q<k/\(ms.getD q 0).testBit i=true)
theorem XK(B:List Oper):∀(l:List Oper) (z:List Nat),B.drop z.length=l->yJ B z->yJ B (wT l z)
 | [],z,_,h=>h
 |o::l,z,hd,h=>by
  refine XK B l _ ?_ ?_
  ·rw[t8,C2,<-List.drop_drop,hd];rfl
  ·intro k K i Q F;rcases Nat.lt_trichotomy k z.length with J|J|J
   ·have e:(z++[Kw z o]).getD k 0=z.getD k 0:=(by simp[List.getD_eq_getElem?_getD,Ae J]);rw[e]at F;obtain⟨q,N,M⟩:=h k K i Q F;refine⟨q,N,M.imp_right λ⟨O,H⟩=>⟨O,?_⟩⟩;have e:(z++[Kw z o]).getD q 0=z.getD q 0:=(by simp[List.getD_eq_getElem?_getD,Ae (show q<z.length by omega)]);rw[e];exact H
   ·subst J;have e:(z++[Kw z o]).getD z.length 0=Kw z o:=(by simp[List.getD_eq_getElem?_getD]);rw[e]at F;have R:K=o:=by
     have S:z.length<B.length:=by
      apply Nat.lt_of_not_le;intro G
      rw[R3 G]at hd;cases hd
     have:=List.getElem_cons_drop S;rw[hd]at this;injection this with O _
     rw[Za,w9 S,O]at Q;cases Q;rfl
    subst R;unfold Kw at F;rcases TF z i (Il K) 0 F with h0|⟨q,N,M⟩
    ·simp at h0
    ·refine⟨q,N,M.imp_right λH=>?_⟩;have I:q<z.length:=by
      apply Nat.lt_of_not_le;intro G
      rw[List.getD_eq_getElem?_getD,List.getElem?_eq_none G]at H;simp at H
     refine⟨I,?_⟩;have e:(z++[Kw z K]).getD q 0=z.getD q 0:=(by simp[List.getD_eq_getElem?_getD,Ae I]);rw[e];exact H
   ·have e:(z++[Kw z o]).getD k 0=0:=(by rw[List.getD_eq_getElem?_getD,List.getElem?_eq_none (by simp;omega)];rfl);rw[e]at F;simp at F
theorem b5O(z:List Oper):yJ z (Ez z):=XK z z [] rfl λk o i _ h=>by simp at h
theorem OB{z:List Oper}{S:Nat->Bool}(M:∀i o,S i=true->K3 z i=some o->∀j∈Il o,S j=true)(B:∀i,S i=true->∃o,K3 z i=some o):∀(k:Nat) (o:Oper),K3 z k=some o->(∀j∈Il o,S j=true)->∀i,((Ez z).getD k 0).testBit i=true->S i=true:=by
 intro k
 induction k using Nat.strongRecOn with
 |_ k ih=>
  intro o K I i N;obtain⟨q,H,rfl|⟨G,h⟩⟩:=b5O z k o i K N
  ·exact I _ H
  ·obtain⟨J,F⟩:=B q (I q H);exact ih q G J F (M q J (I q H) F) i h
end
section
open Go.RowKit
variable{C:Ctx}{st st' st2:St}{L L':Nat->Loc}{a:Act}{w:World}{P:Program}
def Vk(P:Program)(o:Oper)(s s':St)(fp wr:List Nat):Prop:=
 ∀st2,st2.n=s.n->(∀x∈o.op.operands.toList,st2.ev x=s.ev x)->(∀i,i∈fp\/i∈wr->st2.mem i=s.mem i/\st2.used i=s.used i)->∀K2:St->Prop,K2 (over st2 s' o.dst wr)->Dg P o st2 K2
def Iu(P:Program)(ops:List Oper)(o:Oper)(s s':St)(fp wr:List Nat):Prop:=
 match o.guard with
 |none=>Vk P o s s' fp wr
 |some (j,want)=>(∃b,Dw ops s j=.v (.bool b)/\(b=want->Vk P o s s' fp wr)/\(b≠want->s'=s.put o.dst (.tup [])/\wr=[]))\/(Dw ops s j=.tup []/\s'=s.put o.dst (.tup [])/\wr=[])
inductive Tc(P:Program)(ops:List Oper):List Oper->St->List (List Nat × List Nat)->St->Prop
 |nil(s:St):Tc P ops [] s [] s
 |cons(o:Oper)(rest:List Oper)(s s' e:St)(fp wr:List Nat)(fps:List (List Nat × List Nat))(hf:Dx o s s' wr)(hd:Iu P ops o s s' fp wr)(h:Tc P ops rest s' fps e):Tc P ops (o::rest) s ((fp,wr)::fps) e
theorem a0l(B:List Oper):∀(l:List Oper) (s:St) (z:List (List Nat × List Nat)) (e:St),Tc P B l s z e->z.length=l.length/\∃f:Nat->St,f 0=s/\f l.length=e/\∀i o,K3 l i=some o->Dx o (f i) (f (i+1)) (N7 z i).2/\Iu P B o (f i) (f (i+1)) (N7 z i).1 (N7 z i).2
 |_,_,_,_,.nil s=>⟨rfl,λ_=>s,rfl,rfl,λi o h=>by simp[K3]at h⟩
 |_,_,_,_,.cons o rest s s' e fp wr z hf hd h=>by
  obtain⟨I,f,h0,H,F⟩:=a0l B rest s' z e h;refine⟨by simp[I],λi=>match i with|0=>s|i+1=>f i,rfl,H,λi J G=>?_⟩;cases i with
  |zero=>simp only[K3,P1]at G;subst G;show Dx o s (f 0) wr/\Iu P B o s (f 0) fp wr;rw[h0];exact⟨hf,hd⟩
  |succ i=>exact F i J G
def E1(listed:Array Bool)(i:Nat):Bool:=listed.getD i false
def left(n:Nat)(S:Nat->Bool):Nat:=((List.range n).filter λi=>!S i).length
theorem b4C{n:Nat}{S:Nat->Bool}(h:left n S=0):∀k,k<n->S k=true:=by intro k z;have:(List.range n).filter (λi=>!S i)=[]:=List.eq_nil_of_length_eq_zero h;rw[List.filter_eq_nil_iff]at this;simpa using this k (List.mem_range.2 z)
theorem JW(S B:Nat->Bool)(i:Nat)(hi:S i=false)(z:∀k,B k=(if k=i then true else S k)):∀l:List Nat,l.Nodup->i∈l->(l.filter λk=>!S k).length=(l.filter λk=>!B k).length+1
 | [],_,h=>by simp at h
 |x::l,hn,h=>by
  obtain⟨hx,K⟩:=List.nodup_cons.1 hn;by_cases e:x=i
  ·subst e;have I:(l.filter λk=>!S k)=l.filter λk=>!B k:=List.filter_congr λk H=>by have:k≠x:=λe=>hx (e▸H);rw[z k,if_neg this]
   simp[hi,z x,I]
  ·have F:i∈l:=by
    rcases D0.1 h with G|G
    ·exact absurd G.symm e
    ·exact G
   have J:=JW S B i hi z l K F;have M:B x=S x:=(by rw[z x,if_neg e]);simp only[List.filter_cons,M];split<;>simp[J]
theorem a2J{n:Nat}{S z:Nat->Bool}{i:Nat}(B:i<n)(hi:S i=false)(F:∀k,z k=(if k=i then true else S k)):left n S=left n z+1:=
 JW S z i hi F _ List.nodup_range (List.mem_range.2 B)
theorem Lh(z:Array Oper)(i:Nat):K3 z.toList i=z[i]? :=by rw[Za,Array.getElem?_toList]
theorem b0Q{n:Nat}{f:Nat->Nat->Bool}(h:qT n f=true){i k:Nat}(z:k<n)(hi:i<k):f i k=true:=by unfold qT at h;exact List.all_eq_true.1 (List.all_eq_true.1 h k (List.mem_range.2 z)) i (List.mem_range.2 hi)
theorem mW{l r:List Nat}(h:Zl l r=true){x:Nat}(hx:x∈l):x∉r:=by have:=List.all_eq_true.1 h x hx;simpa using this
theorem a1R{B:Array Oper}{Q:Exit->Act->World->Prop}(ht:Wn B.toList=true)(f:Nat->St)(F:List (List Nat × List Nat))(hm:kL B.toList F=true)(ay:∀i o,K3 B.toList i=some o->Dx o (f i) (f (i+1)) (N7 F i).2/\Iu P B.toList o (f i) (f (i+1)) (N7 F i).1 (N7 F i).2)(bd:Td B (f 0).n=true)(hP:C.P=P)(hQ:∀a w,Sim C (f B.size) a w->Q .normal a w):∀(fuel:Nat) (z:Array Bool),z.size=B.size->left B.size (E1 z)=fuel->(∀i o,E1 z i=true->K3 B.toList i=some o->∀j∈Il o,E1 z j=true)->∀a w,Sim C (mix ⟨f,λi=>(K3 B.toList i).bind (·.dst),λi=>(N7 F i).2⟩ (E1 z) B.size) a w->wpAny P .any B Q fuel z a w:=by
 obtain⟨hdown,hpairs⟩:JG B.toList=true/\qT B.toList.length (λi k=>match K3 B.toList i,K3 B.toList k with|some x,some y=>!Hr (Ez B.toList) i k||Tg B.toList x y|_,_=>true)=true:=by unfold Wn NL at ht;rw[x7]at ht;exact ht
 generalize hT:(⟨f,λi=>(K3 B.toList i).bind (·.dst),λi=>(N7 F i).2⟩:Tr)=T;have ac:T.s=f:=(by rw[<-hT]);have ai:∀i,T.d i=(K3 B.toList i).bind (·.dst):=λi=>by rw[<-hT]
 have ab:∀i,T.wr i=(N7 F i).2:=λi=>by rw[<-hT]
 have aq:B.toList.length=B.size:=(by simp);have aa:∀i,i<B.size->∃o,K3 B.toList i=some o:=λi hi=>⟨B[i],by rw[Lh];simp[hi]⟩;have S:Qz T B.size:=by
  refine⟨λi hi=>?_,λi hi x hx=>?_,λi hi x hx=>?_,λi hi x hx=>?_⟩
  all_goals obtain⟨o,R⟩:=aa i hi
  all_goals have au:=(ay i o R).1
  all_goals rw[ac]
  ·exact au.n
  ·exact au.env x (by rw[ai,R]at hx;exact hx)
  ·exact au.mem x (by rw[ab]at hx;exact hx)
  ·exact au.used x (by rw[ab]at hx;exact hx)
 have M:∀i k x y,i<k->K3 B.toList i=some x->K3 B.toList k=some y->k<B.size->Hr (Ez B.toList) i k=true->Tg B.toList x y=true/\Zl (T.wr i) ((N7 F k).1++T.wr k)=true/\Zl (T.wr k) (N7 F i).1=true:=by intro i k x y av hx N I R;have h1:=b0Q hpairs (i:=i) (k:=k) (by rw[aq];exact I) av;rw[hx,N]at h1;simp only[R,B8,Bool.false_or]at h1;have h2:=List.all_eq_true.1 hm _ (a55 (by rw[aq];exact I) av R);simp only[x7]at h2;rw[ab,ab];exact⟨h1,h2.1,h2.2⟩
 intro fuel
 induction fuel with
 |zero=>
  intro z an am G a w hs;have al:=b4C am;refine⟨?_,?_⟩
  ·unfold Region.ready;rw[List.filter_eq_nil_iff];intro i hi;have:=al i (List.mem_range.1 hi);unfold E1 at this;have ae:i<z.size:=(by rw[an];exact List.mem_range.1 hi);simp only[Array.getD_eq_getD_getElem?,Array.getElem?_eq_getElem ae,Option.getD_some]at this⊢;simp[this]
  ·rw[a6g S _ al,ac]at hs;exact hQ a w hs
 |succ fuel ih=>
  intro z an am G a w hs;refine⟨λa9=>?_,λi hi=>?_⟩
  ·exfalso;have bh:∃k,k<B.size/\E1 z k=false:=by
    apply Y5
    intro be;have:left B.size (E1 z)=0:=by
     unfold left;rw[List.filter_eq_nil_iff.2 ?_]
     ·rfl
     ·intro k I;have:¬E1 z k=false:=λh=>be ⟨k,List.mem_range.1 I,h⟩;simpa using this
    omega
   obtain⟨k,⟨I,ao⟩,bb⟩:=exists_least bh;obtain⟨o,R⟩:=aa k I;have K:∀j∈Il o,E1 z j=true:=λj hj=>by
    have:=List.all_eq_true.1 hdown k (List.mem_range.2 (by rw[aq];exact I));rw[R]at this;have bj:j<k:=F3 (List.all_eq_true.1 this j hj)
    apply Y5
    intro hn;have:=bb j ⟨by omega,by simpa using hn⟩;omega
   have:k∈Region.ready .any B z:=by
    unfold Region.ready;rw[List.mem_filter];refine⟨List.mem_range.2 I,?_⟩;have ae:k<z.size:=(by rw[an];exact I);have e1:z.getD k true=false:=by unfold E1 at ao;simp only[Array.getD_eq_getD_getElem?,Array.getElem?_eq_getElem ae,Option.getD_some]at ao⊢;exact ao
    rw[Lh]at R;rw[R,e1];simp only[F4,G6,Option.getD_some,Bool.true_and];rw[Array.all_eq_true'];intro e he;by_cases ap:Region.binds .any e=true
    ·have:=K e.on (List.mem_filterMap.2 ⟨e,by simpa using he,by rw[if_pos ap]⟩);unfold E1 at this;simp[this]
    ·simp[ap]
   rw[a9]at this;simp at this
  ·unfold Region.ready at hi;rw[List.mem_filter]at hi;obtain⟨Y,hi⟩:=hi;have Y:=List.mem_range.1 Y;obtain⟨o,R⟩:=aa i Y;have ae:i<z.size:=(by rw[an];exact Y);have a3:B[i]? =some o:=(by rw[<-Lh];exact R);rw[a3]at hi;simp only[G6,Option.getD_some,x7,Bool.not_eq_true']at hi;obtain⟨aw,bc⟩:=hi;have ak:E1 z i=false:=by unfold E1;simp only[Array.getD_eq_getD_getElem?,Array.getElem?_eq_getElem ae,Option.getD_some]at aw⊢;exact aw
   have a0:∀j∈Il o,E1 z j=true:=λj hj=>by
    obtain⟨e,he,a6⟩:=List.mem_filterMap.1 hj;split at a6
    ·rename_i ap;cases a6;rw[Array.all_eq_true']at bc;have:=bc e (by simpa using he);simpa[ap,E1]using this
    ·cases a6
   have O:∀k,E1 z k=true->∃o,K3 B.toList k=some o:=λk I=>aa k (by
    unfold E1 at I
    apply Nat.lt_of_not_le;intro bk
    simp[Array.getD_eq_getD_getElem?,Array.getElem?_eq_none (show z.size<=k by omega)]at I)
   have ar:∀j,((Ez B.toList).getD i 0).testBit j=true->E1 z j=true:=OB G O i o R a0;have ah:∀k,E1 z k=true->¬((Ez B.toList).getD k 0).testBit i=true:=λk I X=>by obtain⟨y,N⟩:=O k I;have:=OB G O k y N (G k y I N) i X;rw[ak]at this;cases this
   have ad:∀k,k<i->E1 z k=false->Hr (Ez B.toList) k i=true:=λk I ao=>by
    unfold Hr;rw[Bool.not_eq_true']
    apply Bool.eq_false_iff.2
    intro X;have:=ar k X;rw[ao]at this;cases this
   have U:∀k,E1 z k=true->Hr (Ez B.toList) i k=true:=λk I=>by unfold Hr;rw[Bool.not_eq_true'];exact Bool.eq_false_iff.2 (ah k I)
   have a1:∀x∈Pk B.toList o,∀k,k<B.size->T.d k=some x->(E1 z k=true↔k<i):=by
    intro x hx k I hd;obtain⟨y,N⟩:=aa k I;rw[ai,N]at hd;simp only[d6]at hd;rcases Nat.lt_trichotomy k i with h|h|h
    ·refine⟨λ_=>h,λ_=>?_⟩
     apply Y5
     intro hn;have H:=(M k i y o h N R Y (ad k h (by simpa using hn))).1;unfold Tg at H;simp only[x7,hd,Option.toList_some,List.all_cons,List.all_nil,Bool.and_true,Bool.not_eq_true',List.contains_eq_mem,decide_eq_false_iff_not]at H;exact H.1.1 hx
    ·subst h;simp[ak]
    ·refine⟨λhS=>?_,λh'=>by omega⟩;have H:=(M i k o y h R N I (U k hS)).1;unfold Tg at H;simp only[x7,hd,Option.toList_some,List.all_cons,List.all_nil,Bool.and_true,Bool.not_eq_true',List.contains_eq_mem,decide_eq_false_iff_not]at H;exact absurd hx H.2
   have bf:∀x,x∈(N7 F i).1\/x∈(N7 F i).2->∀k,k<B.size->x∈T.wr k->(E1 z k=true↔k<i):=by
    intro x hx k I hd;obtain⟨y,N⟩:=aa k I;rcases Nat.lt_trichotomy k i with h|h|h
    ·refine⟨λ_=>h,λ_=>?_⟩
     apply Y5
     intro hn;have H:=(M k i y o h N R Y (ad k h (by simpa using hn))).2.1;have:=mW H hd;rw[ab]at this;exact this (A3.2 hx)
    ·subst h;simp[ak]
    ·refine⟨λhS=>?_,λh'=>by omega⟩;have H:=(M i k o y h R N I (U k hS)).2;rcases hx with hx|hx
     ·exact absurd hx (mW H.2 hd)
     ·rw[<-ab]at hx;exact absurd (A3.2 (.inr hd)) (mW H.1 hx)
   have ag:∀x∈Pk B.toList o,(mix T (E1 z) B.size).env x=(f i).env x:=λx hx=>by rw[BD S (E1 z) x i (a1 x hx) B.size (l5 _),ac,Nat.min_eq_right (by omega)]
   have bg:∀x∈o.op.operands.toList,(mix T (E1 z) B.size).ev x=(f i).ev x:=λx hx=>by
    cases x with
    |tmp t=>exact ag t (A3.2 (.inl (List.mem_filterMap.2 ⟨_,hx,rfl⟩)))
    |_=>rfl
   have X:∀x,x∈(N7 F i).1\/x∈(N7 F i).2->(mix T (E1 z) B.size).mem x=(f i).mem x/\(mix T (E1 z) B.size).used x=(f i).used x:=λx hx=>by have:=bQ S (E1 z) x i (bf x hx) B.size (l5 _);rw[ac,Nat.min_eq_right (by omega)]at this;exact this
   have bi:(mix T (E1 z) B.size).n=(f i).n:=by rw[Xd S _ _ (l5 _),<-s_n S i (by omega),ac]
   have a7:∀k,E1 (z.setIfInBounds i true) k=(if k=i then true else E1 z k):=λk=>by
    unfold E1;simp only[Array.getD_eq_getD_getElem?,Array.getElem?_setIfInBounds];by_cases e:k=i
    ·subst e;simp[ae]
    ·rw[if_neg (λh=>e h.symm),if_neg e]
   have aj:mix T (E1 (z.setIfInBounds i true)) B.size=over (mix T (E1 z) B.size) (f (i+1)) o.dst (N7 F i).2:=by
    rw[LK (E1 z) _ i ak a7 B.size (λk av a8 I=>?_),if_pos Y,ac,ab,ai,R]
    ·rfl
    ·obtain⟨y,N⟩:=aa k a8;have H:=M i k o y av R N a8 (U k I);refine⟨λx hx af=>?_,λx hx af=>absurd (A3.2 (.inr af)) (mW H.2.1 hx)⟩;rw[ai,R]at hx;rw[ai,N]at af;simp only[d6]at hx af;have:=H.1;unfold Tg at this;simp[hx,af]at this
   have J:∀a' w',Sim C (mix T (E1 (z.setIfInBounds i true)) B.size) a' w'->wpAny P .any B Q fuel (z.setIfInBounds i true) a' w':=λa' w' a4=>by
    refine ih _ (by simpa using an) ?_ (λk y I N j hj=>?_) a' w' a4
    ·have:=a2J Y ak a7;omega
    ·rw[a7]at I⊢;by_cases e:j=i
     ·rw[if_pos e]
     ·rw[if_neg e];by_cases e2:k=i
      ·subst e2;rw[R]at N;cases N;exact a0 j hj
      ·rw[if_neg e2]at I;exact G k y I N j hj
   have ax:∀d,o.dst=some d->d<(mix T (E1 z) B.size).n:=by rw[Xd S _ _ (l5 _),ac];exact WZ bd a3
   have V:=(ay i o R).2;have az:Vk P o (f i) (f (i+1)) (N7 F i).1 (N7 F i).2->o.wp P a w (wpAny P .any B Q fuel (z.setIfInBounds i true)) Q:=λhx=>YU (hx _ bi bg X (λs=>s=mix T (E1 (z.setIfInBounds i true)) B.size) aj.symm) C a w hP hs ax _ Q λst' a' w' _ h1 h2=>J a' w' (h1▸h2)
   unfold wpOp;rw[a3];simp only;unfold Iu at V;split at V
   ·rename_i hg;have:Region.wanted o (yielded B a.tmps)=true:=(by simp[Region.wanted,hg]);rw[if_pos this];exact .inl (az V)
   ·rename_i j ba hg;have skip:f (i+1)=(f i).put o.dst (.tup [])/\(N7 F i).2=[]->Sim C (mix T (E1 (z.setIfInBounds i true)) B.size) (a.put o.dst undef) w:=λ⟨e1,e2⟩=>by obtain⟨L,a4⟩:=hs;rw[aj,e1,e2,Uj];exact⟨L,a4.put _ ax (.tup _ _ rfl λi hi=>by simp at hi)⟩
    rcases V with⟨b,K,h1,h2⟩|⟨K,h2⟩
    case inr=>
     have N:yielded B a.tmps j=none:=by
      unfold Dw at K;unfold yielded;rw[Lh]at K;cases hj:B[j]? with
      |none=>rw[hj]at K;cases K
      |some oj=>
       rw[hj]at K;simp only[d6];simp only at K;cases Z:oj.dst with
       |none=>rw[Z]at K;cases K
       |some d=>
        rw[Z]at K;simp only at K;have a2:d∈Pk B.toList o:=A3.2 (.inr (by rw[hg];simp only;rw[Lh,hj];simp[Z]));obtain⟨L,hs⟩:=hs;have e:=ag d a2▸hs.env d;rw[K]at e;generalize hv:a.tmps.getD d undef=v at e;cases e with
        |tup _ vs aq _=>
         rw[Array.getD_eq_getD_getElem?]at hv;cases ht:a.tmps[d]? with
         |none=>simp[ht]
         |some v=>rw[ht]at hv;simp at hv;subst hv;simp[ht]
     have:¬Region.wanted o (yielded B a.tmps)=true:=(by simp[Region.wanted,hg,N]);rw[if_neg this];exact J _ _ (skip h2)
    have N:yielded B a.tmps j=some b:=by
     unfold Dw at K;unfold yielded;rw[Lh]at K;cases hj:B[j]? with
     |none=>rw[hj]at K;cases K
     |some oj=>
      rw[hj]at K;simp only[d6];simp only at K;cases Z:oj.dst with
      |none=>rw[Z]at K;cases K
      |some d=>
       rw[Z]at K;simp only at K;have a2:d∈Pk B.toList o:=A3.2 (.inr (by rw[hg];simp only;rw[Lh,hj];simp[Z]));obtain⟨L,hs⟩:=hs;have e:=D3 (show RepA _ L w _ (.v (.bool b)) _ from K▸(ag d a2▸hs.env d));rw[Array.getD_eq_getD_getElem?]at e;cases ht:a.tmps[d]? with
       |none=>rw[ht]at e;simp[undef]at e
       |some v=>rw[ht]at e;simp at e;subst e;simp[ht]
    by_cases a5:b=ba
    ·subst a5;have:Region.wanted o (yielded B a.tmps)=true:=(by simp[Region.wanted,hg,N]);rw[if_pos this];exact .inl (az (h1 rfl))
    ·have:¬Region.wanted o (yielded B a.tmps)=true:=(by simp[Region.wanted,hg,N,a5]);rw[if_neg this];exact J _ _ (skip (h2 a5))
theorem b5Z{id:Nat}{z:Array Oper}{e:St}{B:List (List Nat × List Nat)}{Q:Exit->St->Prop}(G:P.follows .mixedOrders=true)(M:Td z st.n=true)(R:Wn z.toList=true)(J:Tc P z.toList z.toList st B e)(U:kL z.toList B=true)(S:Q .normal e):W P (.region id z true) st Q:=by
 intro C a w V K;refine wp_region_any G ?_;obtain⟨Z,f,h0,N,F⟩:=a0l z.toList _ _ _ _ J;obtain⟨L,K⟩:=K;have I:Sim C st a {w with drawn:=w.drawn+1}:=⟨L,K.later rfl rfl rfl (l5 _) λ_ _=>rfl⟩;have O:∀i,i<=z.size->(f i).n=st.n:=λi=>by
  induction i with
  |zero=>intro _;rw[h0]
  |succ i ih=>intro hi;have:=(F i (z[i]'(by omega)) (by rw[Lh];simp[show i<z.size by omega])).1.n;rw[this];exact ih (by omega)
 refine a1R R f B U F (by rw[h0];exact M) V (λY w' H=>?_) z.size (Array.replicate z.size false) (by simp) ?_ (λi o hi=>?_) a _ ?_
 ·rw[Array.length_toList]at N;rw[N]at H;refine⟨e,?_,S,H⟩;rw[<-N];exact O _ (l5 _)
 ·unfold left;have:(List.range z.size).filter (λi=>!E1 (Array.replicate z.size false) i)=List.range z.size:=by rw[List.filter_eq_self];intro i hi;unfold E1;simp[Array.getD_eq_getD_getElem?,List.mem_range.1 hi]
  rw[this,List.length_range]
 ·exfalso;unfold E1 at hi;simp only[Array.getD_eq_getD_getElem?,Array.getElem?_replicate]at hi;split at hi<;>simp at hi
 ·have X:∀i,E1 (Array.replicate z.size false) i=false:=λi=>by unfold E1;simp only[Array.getD_eq_getD_getElem?,Array.getElem?_replicate];split<;>rfl
  have:∀m,mix ⟨f,λi=>(K3 z.toList i).bind (·.dst),λi=>(N7 B i).2⟩ (E1 (Array.replicate z.size false)) m=f 0:=λm=>by
   induction m with
   |zero=>rfl
   |succ m ih=>unfold mix;rw[X m,if_neg (by simp),ih]
  rw[this,h0];exact I
end
end
end Go.Proofs.YtihbbcealnnpiaaGreatDoor

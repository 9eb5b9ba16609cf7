/- Parts of the proof. -/
import Derived.Test.YtihbbcealnnpiaaGreatDoorImPs1
set_option linter.unusedVariables false
set_option linter.unusedSectionVars false
namespace Go.Proofs.YtihbbcealnnpiaaGreatDoor
section
section
theorem a1O{ts:List Nat}{c:Nat}(h:c<ts.length):l9 (ts.take c)++[((ts[c]:Nat):Int)]=l9 (ts.take (c+1)):=by unfold l9;rw[List.take_add_one,w9 h,I8];rfl
section
variable{l:List d7}(hM:L0 l)(hl:l.length<=30000)(htx:∀n∈l,n.Ds.length<=65536)
include hM hl htx
theorem a1M(a:d8)(ha:a.P.No=l)(b:RT3)(G:Nat)(C:Nat)(x:d7)(hx:l[C]? =some x)(U:x.Ks=4)(st:Nat)(ap:x.Cs=(st:Int)-(C+1))(ak:st<=l.length)(ks:List Nat)(X:Kc l (C+1) st ks)(hf:Fam x.Ks x.Ns C (G8 l ks) (fkd l ks))(R:Nat)(ao:ks.length=R+2)(nr c1:Nat)(j:d8)(B:Nat)(an:C+1<=c1)(hK:Kc l c1 st (ks.drop R))(hR:RI l nr B j)(hP:j.F.Code=0->∀f∈j.P.As,PmF l j f)(hG:j.F.Code=0->∀p∈ks.take R,J5 j p)(ac:j.F.Code=0->R<=20)(hZ:∀f∈j.P.As,f.At=0/\f.Ss=0/\f.Ps<=20)(hB:B+(st-c1)+1<=80000000000):(∃J,Mn d5 a b (G:Int) (C:Int) ((l9 ks,()),()) (G:Int) j=some ((J,()),())/\RI l nr (B+(st-c1)+1) J/\Kh j J/\(∀f∈J.P.As,f.At=0/\f.Ss=0/\f.Ps<=20)/\J.F.Code≠0)\/∃J,Mn d5 a b (G:Int) (C:Int) ((l9 ks,()),()) (G:Int) j=Yo d5 a b (w64 ((G:Int)+1)) J/\RI l nr (B+(st-c1)+1) J/\Kh j J/\(∀f∈J.P.As,f.At=0/\f.Ss=0/\f.Ps<=20)/\(J.F.Code=0->∀f∈J.P.As,PmF l J f)/\J.P.As.map x8.Gs=j.P.As.map x8.Gs++[(C:Int)]:=by
 have ah:=X.le;have ew:w64 (((l9 ks).length:Int)-2)=(R:Int):=(by rw[C3,wrap64 (by omega) (by omega)];omega);obtain⟨N,n1,n2,n3,n4,n5⟩:=Qy hf U;have:N=R:=(by omega);subst this;have Q:N<ks.length:=(by omega);have g:=E3 Q;rw[P0 Q]at hK;obtain⟨ek,y,q,hy,ae,ai,aj,ab⟩:=hK.first
 have ag:=n4 Q;rw[ek,x4 hy]at ag;have af:=(o9.1 hx).1;have aq:=(o9.1 hy).1;rw[a61,fO,V6,d6];by_cases S:j.F.Code=0
 ·obtain⟨t,H,k1,k2,K,V,k5⟩:=YD hM hl htx c1 y q hy ae (by omega) j nr B hR (by omega);have al:=k2.marks;have Y:=k2.big;unfold tot at Y;rw[f6 S,B8,f9];simp only;rw[ew,g,d6,ek,k1,d6,ID];simp only;rw[Ep H (by omega) C (by omega),d6,ha,p9 af,d6];have hz:H.P.As.length+ [(x8.mk l[C].Ds (C:Int) (N:Int) t 0 0 0 0)].length<=100000000000:=(by rw[C2];omega);simp only;rw[show(A4 H C (l8.mk t (G:Int) 0)).P.As=H.P.As from rfl,Ao (by decide) hz,d6,a5i,uY];simp only;have tT:0<=t/\t<H.P.To.length:=by
   have:=k2.ty.len;rcases V with rfl|V
   ·omega
   ·have:=V.1;have:=V.2.1;omega
  have I:=k2.mark C (l8.mk t (G:Int) 0) tT.1 tT.2;refine .inr ⟨_,rfl,?_,?_,?_,?_,by simp only[I8,K.fns];rfl⟩
  ·refine RI.more (B:=B+(q-c1)+1) ⟨I.nodes,I.marks,?_,I.ty,I.mt,I.fl,I.rc,λf z=>?_,I.sl⟩ (by omega)
   ·have:=I.big;unfold tot at this⊢;simp only[t8,C2];have e:(A4 H C (l8.mk t (G:Int) 0)).P.As=H.P.As:=rfl;rw[e]at this;omega
   ·rcases A3.1 z with z|z
    ·exact I.fn f z
    ·rw[K4.1 z];exact⟨C,x,rfl,hx,U,n2.symm,V⟩
  ·exact⟨K.slots,K.vars,K.points,K.recs,K.own,K.bad⟩
  ·intro f z;rcases A3.1 z with z|z
   ·rw[K.fns]at z;exact hZ f z
   ·rw[K4.1 z];exact⟨rfl,rfl,by have:=ac S;simp only;omega⟩
  ·intro cg f z;have mk:∀p,kd l p=5->J5 j p->J5 (A4 H C (l8.mk t (G:Int) 0)) p:=λp hp hg=>(hg.ex hp K).mark C _ (λe=>by
    subst e;rw[x4 hx]at hp;omega)
   have up:∀p,J5 (A4 H C (l8.mk t (G:Int) 0)) p->J5 (⟨⟨(A4 H C (l8.mk t (G:Int) 0)).P.No,(A4 H C (l8.mk t (G:Int) 0)).P.Ms,(A4 H C (l8.mk t (G:Int) 0)).P.To,(A4 H C (l8.mk t (G:Int) 0)).P.Rs,(A4 H C (l8.mk t (G:Int) 0)).P.Hs,H.P.As++[(x8.mk l[C].Ds (C:Int) (N:Int) t 0 0 0 0)],(A4 H C (l8.mk t (G:Int) 0)).P.Ss,(A4 H C (l8.mk t (G:Int) 0)).P.Vars,(A4 H C (l8.mk t (G:Int) 0)).P.Do⟩,(A4 H C (l8.mk t (G:Int) 0)).Rs,(A4 H C (l8.mk t (G:Int) 0)).F⟩:d8) p:=λp h=>h;rcases A3.1 z with z|z
   ·rw[K.fns]at z;intro k0 O x0 Z a1 a2 a3 a4 p M L;exact up p (mk p L (hP S f z k0 O x0 Z a1 a2 a3 a4 p M L))
   ·rw[K4.1 z];intro k0 O x0 Z a1 a2 a3 a4 p M L;have aa:C=k0:=(by simp only at a1;omega);subst aa;rw[hx]at a2;cases a2;have ad:O=st:=(by omega);subst ad;have:=X.det a4;subst this;refine up p (mk p L (hG S p ?_));obtain⟨i,hi,rfl⟩:=List.getElem_of_mem M;have ar:i<N:=by
     refine Nat.lt_of_not_le λam=>?_;by_cases e1:i=N
     ·subst e1;have:=n4 hi;omega
     ·have e2:i=N+1:=(by omega);subst e2;have:=n5 hi;omega
    exact List.mem_take_iff_getElem.2 ⟨i,by omega,rfl⟩
 ·rw[d9 S];exact .inl ⟨j,rfl,hR.more (by omega),Kh.refl _,hZ,S⟩
set_option maxHeartbeats 2000000 in
theorem b2A(a:d8)(ha:a.P.No=l)(ts:List Nat)(Y:∀p∈ts,∃x,l[p]? =some x/\x.Ks=4)(ak:ts.length<=l.length)(nr:Nat):∀(n c:Nat) (d:d8) (B:Nat),ts.length-c=n->c<=ts.length->RI l nr B d->(d.F.Code=0->∀f∈d.P.As,PmF l d f)->(∀f∈d.P.As,f.At=0/\f.Ss=0/\f.Ps<=20)->d.P.As.map x8.Gs=l9 (ts.take c)->(100<c->d.F.Code≠0)->B+(l.length+1)*n<=80000000000->∃z,Yo d5 a ((l9 ts,()),()) (c:Int) d=some ((z,()),())/\RI l nr (B+(l.length+1)*n) z/\Kh d z/\(∀f∈z.P.As,f.At=0/\f.Ss=0/\f.Ps<=20)/\(z.F.Code=0->(∀f∈z.P.As,PmF l z f)/\z.P.As.map x8.Gs=l9 ts/\ts.length<=100):=by
 intro n
 induction n with
 |zero=>intro c d B hn hc hR hP hZ hN H hB;rw[RF,Ze];simp only[C3];rw[d9 (by omega),f9,b1R,gZ];exact⟨d,rfl,hR.more (by omega),Kh.refl _,hZ,λhg=>⟨hP hg,by rw[hN,List.take_of_length_le (by omega)],Nat.le_of_not_lt λh=>H (by omega) hg⟩⟩
 |succ n ih=>
  intro c d B hn hc hR hP hZ hN H hB;have N:c<ts.length:=(by omega);have g:=E3 N;obtain⟨x,hx,hk⟩:=Y _ (B0 N);have L:=(o9.1 hx).1;have X:∀p∈ts,p<l.length:=λp R=>by obtain⟨x,hx,_⟩:=Y p R;exact(o9.1 hx).1
  obtain⟨st,ks,t1,t2,t3,t4,t5,t6,t7⟩:=hM.nd _ x hx;have aj:=t5.le;obtain⟨np,n1,n2,n3,n4,n5⟩:=Qy t6 hk;have Z:=hR.nodes;have ai:B+(l.length+1)*n+(l.length+1)<=80000000000:=(by rw[Nat.mul_succ]at hB;omega);have j7:∀C:d8,C.P=d.P->C.Rs=d.Rs->(d.F.Code≠0->C.F.Code≠0)->(100<=c->C.F.Code≠0)->
    ∃z,rA d5 a ((l9 ts,()),()) (c:Int) ((ts[c]:Nat):Int) (c:Int) C=some ((z,()),())/\RI l nr (B+(l.length+1)*(n+1)) z/\Kh d z/\(∀f∈z.P.As,f.At=0/\f.Ss=0/\f.Ps<=20)/\(z.F.Code=0->(∀f∈z.P.As,PmF l z f)/\z.P.As.map x8.Gs=l9 ts/\ts.length<=100):=by
   intro C G I J Q;have V:C.F.Code=0->d.F.Code=0:=λc=>Y5 λhc=>J hc c;have ah:RI l nr B C:=by have:=hR.fault C.F V;rw[<-G,<-I]at this;exact this
   have K:Kh d C:=⟨by rw[G],by rw[G],by rw[G],by rw[G],I,J⟩;have ac:∀p,J5 d p->J5 C p:=λp h=>by unfold J5 at h⊢;rw[G];exact h
   rw[a8c,eS,ha,Z0 (by omega) hx t1 t3 t5,d6];rcases a6U hM hl htx a ha ((l9 ts,()),()) (c:Int) ((ts[c]:Nat):Int) ks np n1 (by omega) n3 nr st t3 _ 0 (ts[c]+1) C B rfl (D2 _) (by rw[W3];exact t5) ah
     (λcg f M k0 ad x0 af a1 a2 a3 a4 p aa ae=>ac p (hP (V cg) f (by rw[<-G];exact M) k0 ad x0 af a1 a2 a3 a4 p aa ae)) (λ_ p R=>by rw[List.take_zero]at R;exact nomatch R) (λ_=>D2 _) (by omega)with⟨j',m1,m2,m3,m4,m5⟩|⟨j',c1,B',m1,m2,m3,m4,m5,m6,m7,m8,m9,m10⟩
   ·exact⟨j',m1,m2.more (by rw[Nat.mul_succ];omega),K.trans m3,λf M=>by rw[m4,G]at M;exact hZ f M,λh=>absurd h m5⟩
   ·have al:=m2.le;rw[show Pe d5 a ((l9 ts,()),()) (c:Int) ((ts[c]:Nat):Int) ((ks.map (λ(k:Nat)=>(k:Int)),()),()) 0 (c:Int) C=_ from m1];rcases a1M hM hl htx a ha ((l9 ts,()),()) c ts[c] x hx hk st t1 t3 ks t5 t6 np n1 nr c1 j' B' m3 m2 m5 m8 m9 m10 (λf M=>by rw[m7,G]at M;exact hZ f M) (by omega)with⟨O,r1,r2,r3,r4,r5⟩|⟨O,r1,r2,r3,r4,r5,r6⟩
    ·exact⟨O,r1,r2.more (by rw[Nat.mul_succ];omega),(K.trans m6).trans r3,r4,λh=>absurd h r5⟩
    ·rw[r1,B7 (by omega)];obtain⟨z,z1,z2,z3,z4,z5⟩:=ih (c+1) O _ (by omega) (by omega) r2 r5 r4 (by rw[r6,m7,G,hN,a1O N]) (λh=>r3.bad (m6.bad (Q (by omega)))) (by omega);exact⟨z,z1,z2.more (by rw[Nat.mul_succ];omega),((K.trans m6).trans r3).trans z3,z4,z5⟩
  have O:∀C:d8,C.P=d.P->C.Rs=d.Rs->(d.F.Code≠0->C.F.Code≠0)->(100<=c->C.F.Code≠0)->
    ∃z,sJ d5 a ((l9 ts,()),()) (c:Int) ((ts[c]:Nat):Int) (c:Int) C=some ((z,()),())/\RI l nr (B+(l.length+1)*(n+1)) z/\Kh d z/\(∀f∈z.P.As,f.At=0/\f.Ss=0/\f.Ps<=20)/\(z.F.Code=0->(∀f∈z.P.As,PmF l z f)/\z.P.As.map x8.Gs=l9 ts/\ts.length<=100):=by
   intro C G I J Q;obtain⟨f,f1,S⟩:=Bg C 7 (by decide) ts[c] (by rw[G,Z];exact L);rw[a5P,sN,Pd,f1,d6];exact j7 ⟨C.P,C.Rs,f⟩ G I (λ_=>S) (λ_=>S)
  have U:∀C:d8,C.P=d.P->C.Rs=d.Rs->(d.F.Code≠0->C.F.Code≠0)->(100<=c->C.F.Code≠0)->
    ∃z,lS d5 a ((l9 ts,()),()) (c:Int) ((ts[c]:Nat):Int) C=some ((z,()),())/\RI l nr (B+(l.length+1)*(n+1)) z/\Kh d z/\(∀f∈z.P.As,f.At=0/\f.Ss=0/\f.Ps<=20)/\(z.F.Code=0->(∀f∈z.P.As,PmF l z f)/\z.P.As.map x8.Gs=l9 ts/\ts.length<=100):=by
   intro C G I J Q;obtain⟨b',ag⟩:=kP (l:=l) (ts.take c) (λp R=>X p (List.mem_of_mem_take R)) (by rw[List.length_take];omega) l[ts[c]].Ds;obtain⟨bt,ab,_⟩:=KP l[ts[c]].Ds;rw[b2x,cS];simp only[C3];rw[Ak (show F1 (0:Int) (c:Int) (ts.length:Int)from⟨by omega,by omega,by omega⟩),d6,ha,p9 L,d6,dC,ag,d6];cases b' with
   |true=>exact O C G I J Q
   |false=>
    rw[f9,d6,ab,d6];cases decide (bt>0)with
    |true=>exact O C G I J Q
    |false=>exact j7 C G I J Q
  rw[RF,Ze];simp only[C3];rw[f6 (by omega),l6,g,d6];by_cases c100:(c:Int)>=100
  ·obtain⟨f,f1,S⟩:=Bg d 13 (by decide) ts[c] (by rw[Z];exact L);rw[f6 c100,l6,Pd,f1,d6];exact U ⟨d.P,d.Rs,f⟩ rfl rfl (λ_=>S) (λ_=>S)
  ·rw[d9 c100,f9];exact U d rfl rfl id (λh=>absurd h (by omega))
theorem b3P{nr:Nat}{s:d8}(h:VU l nr s):∃B,xU d5 s=some ((B,()),())/\RI l nr (40*(l.length+10)*(l.length+10)) B/\Kh s B/\(∀f∈B.P.As,f.At=0/\f.Ss=0/\f.Ps<=20)/\(B.F.Code=0->(∀f∈B.P.As,PmF l B f)/\(∃ts:List Nat,B.P.As.map x8.Gs=l9 ts/\ts.Pairwise (· < ·))/\B.P.As.length<=100):=by
 obtain⟨ts,J,N,S,z⟩:=ZJ hM hl 4;have X:20*(l.length+10)*(l.length+10)=20*((l.length+10)*(l.length+10)):=Nat.mul_assoc _ _ _;have V:40*(l.length+10)*(l.length+10)=40*((l.length+10)*(l.length+10)):=Nat.mul_assoc _ _ _;have L:(l.length+1)*ts.length<=(l.length+10)*(l.length+10):=Nat.mul_le_mul (by omega) (by omega);have K:(l.length+10)*(l.length+10)<=30010*30010:=Nat.mul_le_mul (by omega) (by omega);have G:=h.ri.nodes;obtain⟨R,O,U,M,Q,I⟩:=b2A hM hl htx s G ts S N nr _ 0 s _ rfl (D2 _) h.ri (λ_ f C=>by rw[h.fns]at C;exact nomatch C) (λf C=>by rw[h.fns]at C;exact nomatch C) (by rw[h.fns];rfl) (λh=>absurd h (by omega)) (by simp only[Nat.sub_zero];omega);rw[b40,pI,G,J,d6];exact⟨R,O,U.more (by simp only[Nat.sub_zero];omega),M,Q,λH=>⟨(I H).1,⟨ts,(I H).2.1,z⟩,by
  have J:=congrArg List.length (I H).2.1;rw[F5,C3]at J;have:=(I H).2.2;omega⟩⟩
end
end
section
structure NdE(l:List d7)(s:d8)(slots:Int)(i:Nat):Prop where
 k26:kd l i=26->∃m,s.P.Ms[i]? =some m/\0<=m.Es/\m.Es<slots/\E4 s.P.To m.Ts
 k27:kd l i=27->∃m,s.P.Ms[i]? =some m/\(-8<=m.Es/\m.Es<= -1\/0<=m.Es/\m.Es<s.P.As.length)
 k32:kd l i=32->∃m,s.P.Ms[i]? =some m/\E4 s.P.To m.Ts
 k32t:kd l i=32->∃m,s.P.Ms[i]? =some m/\TKd s.P.To m.Ts (kd l (i+1))
theorem NdE.ex{l:List d7}{s F:d8}{slots:Int}{i lo hi:Nat}(h:NdE l s slots i)(e:Ex l s F lo hi)(hi:i<lo\/hi<=i):NdE l F slots i:=by
 refine⟨λz=>?_,λz=>?_,λz=>?_,λz=>?_⟩
 ·obtain⟨m,C,B,H,G⟩:=h.k26 z;exact⟨m,by rw[e.marks i hi];exact C,B,H,G.ext e.types⟩
 ·obtain⟨m,C,B⟩:=h.k27 z;exact⟨m,by rw[e.marks i hi];exact C,by rw[e.fns];exact B⟩
 ·obtain⟨m,C,B⟩:=h.k32 z;exact⟨m,by rw[e.marks i hi];exact C,B.ext e.types⟩
 ·obtain⟨m,C,B⟩:=h.k32t z;exact⟨m,by rw[e.marks i hi];exact C,B.ext e.types⟩
theorem NdE.other{l:List d7}{s:d8}{slots:Int}{i:Nat}(h:kd l i≠26/\kd l i≠27/\kd l i≠32):NdE l s slots i:=⟨λz=>absurd z h.1,λz=>absurd z h.2.1,λz=>absurd z h.2.2,λz=>absurd z h.2.2⟩
structure FI(s:d8)(fi:Nat)(At Sl:Int):Prop where
 f:∃f,s.P.As[fi]? =some f/\f.At=At/\f.Ss=Sl
 at0:0<=At
 sl0:0<=Sl
 sum:At+Sl=s.P.Ss.length
 s2:Sl<=200
theorem FI.ex{l:List d7}{s z:d8}{fi lo hi:Nat}{At Sl:Int}(h:FI s fi At Sl)(e:Ex l s z lo hi):FI z fi At Sl:=⟨by rw[e.fns];exact h.f,h.at0,h.sl0,by rw[e.slots];exact h.sum,h.s2⟩
def EOk(env:List y8)(Sl:Int)(vars:Nat):Prop:=∀v∈env,0<=v.Xs/\v.Xs<Sl/\0<=v.At/\v.At<vars
theorem b1L{l:List d7}(hl:l.length<=30000)(a:Int)(B:List y8)(z:Nat)(s:d8)(L:s.P.No=l)(H:d7)(G:l[z]? =some H)(en:Nat)(V:H.Cs=(en:Int)-(z+1))(R:en<=l.length)(N:s.F.Code=0)(q:Nat)(X:q<=en):∀(n d:Nat),q-d=n->d<=q->(∀j,d<=j->j<q->14<=kd l j/\kd l j<=20)->Ma d5 a B (z:Int) (d:Int) s=Ma d5 a B (z:Int) (q:Int) s:=by
 have J:=(o9.1 G).1;have I:=(o9.1 G).2;have O:w64 ((z:Int)+H.Cs)=(en:Int)-1:=(by rw[V,wrap64 (by omega) (by omega)];omega);intro n
 induction n with
 |zero=>
      intro d U hd K;have:d=q:=by omega
      subst this;rfl
 |succ n ih=>intro d U hd K;have C:d<l.length:=(by omega);have Q:=K d (l5 _) (by omega);have S:kd l d=l[d].Ks:=x4 (w9 C);have e:=ih (d+1) (by omega) (by omega) (λj Y M=>K j (by omega) M);rw[AG,Po,L,p9 J,d6,I,O,f6 (by omega),l6,V6,d6,f6 N,B8,f9,p9 C,d6,d9 (by omega),f9,d9 (by omega),f9,d9 (by omega),f9,sG,Lz,B7 (by omega)];exact e
theorem b4a(a:Int)(F d:Int)(s:d8)(x:d7)(Sl:Int)(B:Nat)(z:List y8)(L:EOk z Sl B)(I:z.length<=100000000000):∀(n i:Nat) (e:Int),z.length-i=n->(e= -1\/0<=e/\e<Sl)->∃G,Sw d5 a z F d e (i:Int) s x=IX d5 a z F d G s/\(G= -1\/0<=G/\G<Sl):=by
 intro n
 induction n with
 |zero=>intro i e hi H;rw[OT,Wk,d9 (by omega),f9];exact⟨e,rfl,H⟩
 |succ n ih=>
  intro i e hi H;have C:i<z.length:=(by omega);obtain⟨J,M,_,_⟩:=L _ (B0 C);have N:=ih (i+1) z[i].Xs (by omega) (.inr ⟨J,M⟩);have K:=ih (i+1) e (by omega) H;rw[OT,Wk,f6 (by omega),l6,p9 C,d6,d6,B7 (by omega)];cases decide (z[i].If=x.Ds)with
  |true=>exact N
  |false=>exact K
section
variable{l:List d7}(hM:L0 l)(hl:l.length<=30000)(htx:∀n∈l,n.Ds.length<=65536)
include hM hl htx
theorem Ht:∀(n b:Nat) (x:d7) (q:Nat),l[b]? =some x->x.Cs=(q:Int)-(b+1)->q-b=n->(14<=x.Ks/\x.Ks<=20)->∀j,b<=j->j<q->14<=kd l j/\kd l j<=20:=by
 intro n
 induction n using Nat.strongRecOn with
 |_ n ih=>
 intro b x q hx hs hn Q j h1 O;obtain⟨st,ks,t1,V,X,Y,L,J,Z⟩:=hM.nd b x hx;have C:st=q:=(by omega);subst C;by_cases e:j=b
 ·subst e;rw[x4 hx];exact Q
 by_cases c20:x.Ks=20
 ·obtain⟨I,R⟩:=J7 (J.k3 (.inr (.inr c20)));obtain⟨k,z,rfl⟩:∃k z,ks=k::z:=by
   cases ks with
   |nil=>simp at I
   |cons k ks=>exact⟨k,ks,rfl⟩
  have F:=Z8 (R 0 (by simp) (by simp));obtain⟨rfl,y,M,K,H,N,U,S⟩:=L.first
  rw[K5,x4 K]at F;have B:z=[]:=(by simp at I;exact I);subst B;have:M=st:=(by cases S;rfl);subst this;exact ih _ (by omega) (b+1) y M K H rfl (by omega) j (by omega) O
 ·have:=(J.kr (by omega)).1;have G:ks=[]:=(by unfold G8 at this;exact List.map_eq_nil_iff.1 this);subst G;have:st=b+1:=(by cases L;rfl);omega
theorem a4n(fi:Nat)(At Sl:Int)(H:List y8)(G:Nat)(x0:d7)(V:l[G]? =some x0)(en:Nat)(he:x0.Cs=(en:Int)-(G+1))(ao:en<=l.length)(nr:Nat):∀(n d:Nat) (s:d8) (B:Nat),en-d=n->G<=d->d<=en->RI l nr B s->FI s fi At Sl->EOk H Sl s.P.Vars.length->H.length<=100000000000->B+(en-d)<=80000000000->(∀(j:Nat) (y:d7) (q:Nat),d<=j->j<en->l[j]? =some y->y.Cs=(q:Int)-(j+1)->q<=en)->∃z,Ma d5 (fi:Int) H (G:Int) (d:Int) s=some ((z,()),())/\RI l nr (B+(en-d)) z/\Ex l s z d en/\(z.F.Code=0->∀i,d<=i->i<en->NdE l z Sl i):=by
 have ac:=(o9.1 V).1;have ae:=(o9.1 V).2;have ew:w64 ((G:Int)+x0.Cs)=(en:Int)-1:=(by rw[he,wrap64 (by omega) (by omega)];omega);intro n
 induction n using Nat.strongRecOn with
 |_ n ih=>
 intro d s B hn aw hd L hF hE R hB S;have aa:=L.nodes;have az:=L.marks;rw[AG,Po,aa,p9 ac,d6,ae,ew];by_cases cd:d<en
 ·have O:d<l.length:=(by omega);have hx:l[d]? =some l[d]:=w9 O;have C:kd l d=l[d].Ks:=x4 hx;rw[f6 (by omega),l6,V6,d6];by_cases cb:s.F.Code=0
  ·rw[f6 cb,B8,f9,p9 O,d6];have af:∀{r:b6v},(∃f:A7,r=some (((⟨s.P,s.Rs,f⟩:d8),()),())/\f.Code≠0)->∃z,r=some ((z,()),())/\RI l nr (B+(en-d)) z/\Ex l s z d en/\(z.F.Code=0->∀i,d<=i->i<en->NdE l z Sl i):=by rintro r ⟨f,f1,U⟩;exact⟨_,f1,(L.fault f (λh=>absurd h U)).more (by omega),Ex.fault l s f U _ _,λh=>absurd h U⟩
   have go:∀(m:l8),0<=m.Ts->m.Ts<s.P.To.length->kd l d≠5->NdE l (A4 s d m) Sl d->∃z,Pj d5 (fi:Int) H (G:Int) (d:Int) (A4 s d m)=some ((z,()),())/\RI l nr (B+(en-d)) z/\Ex l s z d en/\(z.F.Code=0->∀i,d<=i->i<en->NdE l z Sl i):=by
    intro m m0 m1 m5 mN;have I:=Ex.mark l s d m d (d+1) (l5 _) (by omega) m5;obtain⟨z,r1,r2,Q,r4⟩:=ih (en-(d+1)) (by omega) (d+1) (A4 s d m) B rfl (by omega) (by omega) (L.mark d m m0 m1) (hF.ex I) hE R (by omega) (λj y q h1 K=>S j y q (by omega) K);rw[sG,Lz,B7 (by omega)];refine⟨z,r1,r2.more (by omega),I.trans Q (l5 _) (by omega) (by omega) (l5 _),λhg i h1 K=>?_⟩;by_cases e:i=d
    ·subst e;exact mN.ex Q (by omega)
    ·exact r4 hg i (by omega) K
   by_cases c26:l[d].Ks=26
   ·rw[f6 c26,l6];obtain⟨e',g1,g2⟩:=b4a (fi:Int) (G:Int) (d:Int) s l[d] Sl s.P.Vars.length H hE R _ 0 (-1) rfl (.inl rfl);rw[show Sw d5 (fi:Int) H (G:Int) (d:Int) (-1) 0 s l[d]=_ from g1,a9b,vU];rcases g2 with rfl|⟨v1,v2⟩
    ·rw[f6 (by omega),l6];obtain⟨f,f1,U⟩:=Bg s 8 (by decide) d (by rw[aa];exact O);rw[f1];exact af ⟨f,rfl,U⟩
    ·obtain⟨f,hf,ab,ax⟩:=hF.f;have an:=(o9.1 hf).1;have ap:=(o9.1 hf).2;have ar:=hF.sum;have a3:=hF.at0;have N:=L.big;unfold tot at N;have Z:w64 (f.At+e')=(((f.At+e').toNat:Nat):Int):=(by rw[ab,wrap64 (by omega) (by omega)];omega);have X:(f.At+e').toNat<s.P.Ss.length:=(by rw[ab];omega);rw[d9 (by omega),f9,p9 an,d6,ap,Z,p9 X,d6,F9,w9 X,d6,Sv,Ep s (by omega) d (by omega),d6];have tI:=L.sl cb _ (B0 X);refine go ⟨s.P.Ss[(f.At+e').toNat],e',0⟩ (by have:=tI.1;simp only;omega) tI.2.1 (by rw[C,c26];decide) ⟨λ_=>⟨⟨s.P.Ss[(f.At+e').toNat],e',0⟩,?_,v1,v2,tI⟩,λh=>?_,λh=>?_,λh=>?_⟩
     ·unfold A4;simp only;rw[T0 (by omega)]
     ·rw[C,c26]at h;omega
     ·rw[C,c26]at h;omega
     ·rw[C,c26]at h;omega
   rw[d9 c26,f9];by_cases c27:l[d].Ks=27
   ·have N:=L.big;unfold tot at N;obtain⟨k,hk,ah,al⟩:=VT s (by omega) l[d].Ds;obtain⟨bt,aj,ay,av⟩:=KP l[d].Ds;have set:∀m:Int,(-8<=m/\m<= -1\/0<=m/\m<s.P.As.length)->∃z,jW d5 (fi:Int) H (G:Int) (d:Int) m s=some ((z,()),())/\RI l nr (B+(en-d)) z/\Ex l s z d en/\(z.F.Code=0->∀i,d<=i->i<en->NdE l z Sl i):=by
     intro m hm;rw[a68,lX,Sv,Ep s (by omega) d (by omega),d6];have h6:=L.ty.len;refine go ⟨0,m,0⟩ (R4 _) (by simp only;omega) (by rw[C,c27];decide) ⟨λh=>?_,λ_=>⟨⟨0,m,0⟩,?_,hm⟩,λh=>?_,λh=>?_⟩
     ·rw[C,c27]at h;omega
     ·unfold A4;simp only;rw[T0 (by omega)]
     ·rw[C,c27]at h;omega
     ·rw[C,c27]at h;omega
    rw[f6 c27,l6,hk,d6];by_cases ck:k<0
    ·have e0:w64 (0-bt)= -bt:=(by rw[wrap64 (by omega) (by omega)];omega);rw[f6 ck,l6,aj,d6];simp only;rw[e0];by_cases cz: -bt=0
     ·rw[f6 cz,l6];obtain⟨f,f1,U⟩:=Bg s 8 (by decide) d (by rw[aa];exact O);rw[f1];exact af ⟨f,rfl,U⟩
     ·rw[d9 cz,f9];exact set (-bt) (.inl ⟨by omega,by omega⟩)
    ·rw[d9 ck,f9];exact set k (.inr ⟨by omega,al⟩)
   rw[d9 c27,f9];by_cases c32:l[d].Ks=32
   ·rw[f6 c32,l6,B7 (by omega)];obtain⟨st,ks,t1,t2,t3,t4,t5,t6,t7⟩:=hM.nd d _ hx;have ai:ks≠ []:=by rintro rfl;rcases t6.k32 c32 with⟨h,_⟩|⟨h,_⟩<;>exact absurd h (by simp[G8])
    obtain⟨k,a2,rfl⟩:=List.exists_cons_of_ne_nil ai;have am:I3 (kd l k)=116:=by
     rcases t6.k32 c32 with⟨h,_⟩|⟨h,_⟩
     ·exact(J7 h).2 0 (by simp) (by simp)
     ·exact(J7 h).2 0 (by simp) (by simp)
    obtain⟨rfl,y,q,hy,ag,a1,a0,hr⟩:=t5.first
    have ah:=Z8 am;rw[x4 hy]at ah;have ak:=S d _ st (l5 _) cd hx t1;obtain⟨t,J,k1,k2,k3,k4,k5⟩:=VP hM hl htx (d+1) y q hy ag (by omega) s nr B L (by omega);have au:=k2.marks;have tT:0<=t/\t<J.P.To.length:=by
     have:=k2.ty.len;rcases k4 with rfl|k4
     ·omega
     ·have:=k4.1;have:=k4.2.1;omega
    rw[k1,d6];simp only;rw[Sv,Ep J (by omega) d (by omega),d6];simp only;have h5:kd l d≠5:=(by rw[C,c32];decide);have I:Ex l s (A4 J d ⟨t,0,0⟩) d q:=(k3.trans (Ex.refl l J (d+1) q) (l5 _) (l5 _) (l5 _) (l5 _)).trans (Ex.mark l J d ⟨t,0,0⟩ d (d+1) (l5 _) (by omega) h5) (by omega) (l5 _) (l5 _) (by omega);have M:=k2.mark d ⟨t,0,0⟩ tT.1 tT.2;have aq:=hF.ex I;have hV:(A4 J d ⟨t,0,0⟩).P.Vars=s.P.Vars:=k3.vars;rw[sG,Lz,B7 (by omega)];by_cases cg:J.F.Code=0
    ·have tI:E4 J.P.To t:=by
      rcases k5 cg with⟨h,_⟩|⟨_,h⟩
      ·omega
      ·exact h
     have tK:TKd J.P.To t y.Ks:=by
      rcases k5 cg with⟨h,_⟩|⟨h,_⟩
      ·omega
      ·exact h.2
     have ad:=Ht hM hl htx _ (d+1) y q hy ag rfl (by omega);rw[b1L hl (fi:Int) H G (A4 J d ⟨t,0,0⟩) M.nodes x0 V en he ao cg q (by omega) _ (d+1) rfl (by omega) ad];obtain⟨z,r1,r2,Q,r4⟩:=ih (en-q) (by omega) q (A4 J d ⟨t,0,0⟩) (B+(q-(d+1))) rfl (by omega) (by omega) M aq (by rw[hV];exact hE) R (by omega) (λj y q h1 K=>S j y q (by omega) K);refine⟨z,r1,r2.more (by omega),I.trans Q (l5 _) (by omega) (by omega) (l5 _),λhg i h1 K=>?_⟩;by_cases e:i=d
     ·subst e;refine NdE.ex (s:=A4 J i ⟨t,0,0⟩) ⟨λh=>?_,λh=>?_,λ_=>⟨⟨t,0,0⟩,?_,tI⟩,λ_=>⟨⟨t,0,0⟩,?_,by rw[x4 hy];exact tK⟩⟩ Q (by omega)
      ·rw[C,c32]at h;omega
      ·rw[C,c32]at h;omega
      ·unfold A4;simp only;rw[T0 (by omega)]
      ·unfold A4;simp only;rw[T0 (by omega)]
     ·by_cases e2:i<q
      ·have:=ad i (by omega) e2;exact NdE.other ⟨by omega,by omega,by omega⟩
      ·exact r4 hg i (by omega) K
    ·have Y:(A4 J d ⟨t,0,0⟩).F.Code≠0:=cg;obtain⟨z,r1,r2,Q,r4⟩:∃z,Ma d5 (fi:Int) H (G:Int) ((d+1:Nat):Int) (A4 J d ⟨t,0,0⟩)=some ((z,()),())/\RI l nr (B+(en-d)) z/\Ex l s z d en/\z.F.Code≠0:=by
      rw[AG,Po,M.nodes,p9 ac,d6,ae,ew];by_cases c2:d+1<en
      ·rw[f6 (by omega),l6,V6,d6,d9 Y];exact⟨_,rfl,M.more (by omega),I.trans (Ex.refl l _ d q) (l5 _) (by omega) (l5 _) (by omega),Y⟩
      ·rw[d9 (by omega),f9,SM,Tx];exact⟨_,rfl,M.more (by omega),I.trans (Ex.refl l _ d q) (l5 _) (by omega) (l5 _) (by omega),Y⟩
     exact⟨z,r1,r2,Q,λh=>absurd h r4⟩
   ·rw[d9 c32,f9,sG,Lz,B7 (by omega)];obtain⟨z,r1,r2,Q,r4⟩:=ih (en-(d+1)) (by omega) (d+1) s B rfl (by omega) (by omega) L hF hE R (by omega) (λj y q h1 K=>S j y q (by omega) K);refine⟨z,r1,r2.more (by omega),(Ex.refl l s (d+1) en).trans Q (by omega) (l5 _) (by omega) (l5 _),λhg i h1 K=>?_⟩;by_cases e:i=d
    ·subst e;exact NdE.other ⟨by omega,by omega,by omega⟩
    ·exact r4 hg i (by omega) K
  ·rw[d9 cb];exact⟨s,rfl,L.more (by omega),Ex.refl _ _ _ _,λh=>absurd h cb⟩
 ·rw[d9 (by omega),f9,SM,Tx];exact⟨s,rfl,L.more (by omega),Ex.refl _ _ _ _,λ_ i h1 K=>by omega⟩
end
end
section
theorem Kc.cover{l:List d7}{i j:Nat}{ks:List Nat}(h:Kc l i j ks):∀p,i<=p->p<j->∃k∈ks,∃(x:d7) (q:Nat),l[k]? =some x/\x.Cs=(q:Int)-(k+1)/\k<=p/\p<q/\i<=k/\q<=j:=by
 induction h with
 |nil=>intro p B z;omega
 |cons i k j x ks hx hs hk kids rest ih=>
  have:=rest.le;intro p B z;by_cases c:p<k
  ·exact⟨i,I2,x,k,hx,hs,B,c,l5 _,by omega⟩
  ·obtain⟨F,m,y,q,I,J,C,G,K,H⟩:=ih p (by omega) z;exact⟨F,J1 _ m,y,q,I,J,C,G,by omega,H⟩
structure Fx(l:List d7)(fi:Nat)(s s':d8)(lo hi:Nat):Prop where
 types:s.P.To<+:s'.P.To
 marks:∀i:Nat,(i<lo\/hi<=i)->s'.P.Ms[i]? =s.P.Ms[i]?
 par:∀i:Nat,kd l i=5->s'.P.Ms[i]? =s.P.Ms[i]?
 recs:s'.P.Rs=s.P.Rs
 fields:s'.P.Hs=s.P.Hs
 own:s'.Rs=s.Rs
 bad:s.F.Code≠0->s'.F.Code≠0
 flen:s'.P.As.length=s.P.As.length
 foth:∀i:Nat,i≠fi->s'.P.As[i]? =s.P.As[i]?
 fcur:∀f,s.P.As[fi]? =some f->∃f',s'.P.As[fi]? =some f'/\f'.Gs=f.Gs/\f'.Ps=f.Ps/\f'.By=f.By/\f'.At=f.At
 slots:s.P.Ss<+:s'.P.Ss
 vars:s.P.Vars.length<=s'.P.Vars.length
 points:s.P.Do<+:s'.P.Do
theorem Fx.refl(l:List d7)(fi:Nat)(s:d8)(lo hi:Nat):Fx l fi s s lo hi:=⟨O9 _,λ_ _=>rfl,λ_ _=>rfl,rfl,rfl,rfl,id,rfl,λ_ _=>rfl,λf z=>⟨f,z,rfl,rfl,rfl,rfl⟩,O9 _,l5 _,O9 _⟩
theorem Fx.trans{l:List d7}{fi:Nat}{s G C:d8}{lo hi F B lo2 hi2:Nat}(h:Fx l fi s G lo hi)(z:Fx l fi G C F B)(a:lo2<=lo)(b:hi<=hi2)(c:lo2<=F)(d:B<=hi2):Fx l fi s C lo2 hi2:=
 ⟨h.types.trans z.types,λi hi=>(z.marks i (by omega)).trans (h.marks i (by omega)),λi hi=>(z.par i hi).trans (h.par i hi),z.recs.trans h.recs,z.fields.trans h.fields,z.own.trans h.own,λJ=>z.bad (h.bad J),z.flen.trans h.flen,λi hi=>(z.foth i hi).trans (h.foth i hi),
  λf Q=>by
  obtain⟨L,V,X,M,O,N⟩:=h.fcur f Q;obtain⟨U,H,S,K,R,I⟩:=z.fcur L V;exact⟨U,H,S.trans X,K.trans M,R.trans O,I.trans N⟩,h.slots.trans z.slots,G2 h.vars z.vars,h.points.trans z.points⟩
theorem Ex.fx{l:List d7}{s z:d8}{lo hi:Nat}(h:Ex l s z lo hi)(fi:Nat):Fx l fi s z lo hi:=
 ⟨h.types,h.marks,h.par,h.recs,h.fields,h.own,h.bad,by rw[h.fns],λi _=>by rw[h.fns],λf B=>⟨f,by rw[h.fns];exact B,rfl,rfl,rfl,rfl⟩,by rw[h.slots];exact O9 _,by rw[h.vars];exact l5 _,by rw[h.points];exact O9 _⟩
theorem NdE.fx{l:List d7}{fi:Nat}{s F:d8}{Sl Sl':Int}{i lo hi:Nat}(h:NdE l s Sl i)(e:Fx l fi s F lo hi)(H:Sl<=Sl')(hi:i<lo\/hi<=i):NdE l F Sl' i:=by
 refine⟨λz=>?_,λz=>?_,λz=>?_,λz=>?_⟩
 ·obtain⟨m,C,B,I,G⟩:=h.k26 z;exact⟨m,by rw[e.marks i hi];exact C,B,by omega,G.ext e.types⟩
 ·obtain⟨m,C,B⟩:=h.k27 z;exact⟨m,by rw[e.marks i hi];exact C,by rw[e.flen];exact B⟩
 ·obtain⟨m,C,B⟩:=h.k32 z;exact⟨m,by rw[e.marks i hi];exact C,B.ext e.types⟩
 ·obtain⟨m,C,B⟩:=h.k32t z;exact⟨m,by rw[e.marks i hi];exact C,B.ext e.types⟩
def NdS(l:List d7)(s:d8)(Sl:Int)(i:Nat):Prop:=7<=kd l i->kd l i<=13->∃m,s.P.Ms[i]? =some m/\0<=m.Qs/\(kd l i=7->0<=m.Es/\m.Es<Sl/\E4 s.P.To m.Ts)
theorem NdS.fx{l:List d7}{fi:Nat}{s B:d8}{Sl Sl':Int}{i lo hi:Nat}(h:NdS l s Sl i)(e:Fx l fi s B lo hi)(G:Sl<=Sl')(hi:i<lo\/hi<=i):NdS l B Sl' i:=by intro a b;obtain⟨m,F,C,z⟩:=h a b;exact⟨m,by rw[e.marks i hi];exact F,C,λc=>⟨(z c).1,by have:=(z c).2.1;omega,(z c).2.2.ext e.types⟩⟩
theorem NdS.other{l:List d7}{s:d8}{Sl:Int}{i:Nat}(h:kd l i<7\/13<kd l i):NdS l s Sl i:=λa b=>by omega
def Ad(s:d8)(fi:Nat)(f:x8)(name:b6H)(t first:Int):d8:=
 ⟨⟨s.P.No,s.P.Ms,s.P.To,s.P.Rs,s.P.Hs,s.P.As.set fi ⟨f.If,f.Gs,f.Ps,f.By,f.At,w64 (f.Ss+1),f.Js,f.Do⟩,s.P.Ss++[t],s.P.Vars++[⟨fi,name,f.Ss,first,0⟩],s.P.Do⟩,s.Rs,s.F⟩
theorem YF(s:d8)(fi:Nat)(f:x8)(G:s.P.As[fi]? =some f)(B:List y8)(J:B.length<=90000000000)(O:tot s<=90000000000)(z:b6H)(t C first:Int):fX d5 s (fi:Int) B z t C first=some ((B++[⟨z,f.Ss,C,s.P.Vars.length⟩],Ad s fi f z t first,()),()):=by
 have F:=(o9.1 G).1;have H:=(o9.1 G).2;unfold tot at O;have L:([]:List y8).length+B.length<=100000000000:=(by rw[K8];omega);have I:B.length+ [(y8.mk z f.Ss C (s.P.Vars.length:Int))].length<=100000000000:=(by rw[C2];omega);have N:s.P.Vars.length+ [(M8.mk (fi:Int) z f.Ss first 0)].length<=100000000000:=(by rw[C2];omega)
 have K:s.P.Ss.length+ [t].length<=100000000000:=(by rw[C2];omega);have M:([]:List x8).length+s.P.As.length<=100000000000:=(by rw[K8];omega);rw[b32,jE,p9 F,d6,H,Ao (by decide) L,d6,U7,Ao (by decide) I,d6,Ao (by decide) N,d6,Ao (by decide) K,d6,Ao (by decide) M,d6,U7,p9 F,d6,F9,G,d6,d6];rfl
theorem a0g{l:List d7}{nr B fi:Nat}{s:d8}{f:x8}(z:RI l nr B s)(L:s.P.As[fi]? =some f)(C:b6H)(t first:Int)(H:s.F.Code=0->E4 s.P.To t):RI l nr (B+2) (Ad s fi f C t first):=by
 refine⟨z.nodes,z.marks,?_,z.ty,z.mt,z.fl,z.rc,λg G=>?_,λc x hx=>?_⟩
 ·have:=z.big;unfold tot Ad at*;simp only[t8,C2,Hf];omega
 ·rcases List.mem_or_eq_of_mem_set G with G|rfl
  ·exact z.fn g G
  ·obtain⟨k,x,M,N,I,K,J⟩:=z.fn f (O8 L);exact⟨k,x,M,N,I,K,J⟩
 ·rcases A3.1 hx with hx|hx
  ·exact z.sl c x hx
  ·rw[K4.1 hx];exact H c
theorem MJ{s:d8}{fi:Nat}{At Sl:Int}(B:FI s fi At Sl){f:x8}(F:s.P.As[fi]? =some f)(J:Sl<200)(z:b6H)(t first:Int):FI (Ad s fi f z t first) fi At (Sl+1):=by have C:=(o9.1 F).1;obtain⟨K,G,H,I⟩:=B.f;rw[F]at G;cases G;have:=B.sl0;refine⟨⟨⟨f.If,f.Gs,f.Ps,f.By,f.At,w64 (f.Ss+1),f.Js,f.Do⟩,by unfold Ad;simp only;rw[T0 C],H,by simp only;rw[I,wrap64 (by omega) (by omega)]⟩,B.at0,by omega,?_,by omega⟩;have:=B.sum;unfold Ad;simp only[t8,C2];omega
theorem HC(l:List d7){s:d8}{fi:Nat}{f:x8}(C:s.P.As[fi]? =some f)(z:b6H)(t first:Int)(lo hi:Nat):Fx l fi s (Ad s fi f z t first) lo hi:=by have B:=(o9.1 C).1;refine⟨O9 _,λ_ _=>rfl,λ_ _=>rfl,rfl,rfl,rfl,id,by unfold Ad;simp only[Hf],λi hi=>by unfold Ad;simp only;rw[Bz (Ne.symm hi)],λg F=>?_,List.prefix_append _ _,by unfold Ad;simp only[t8];omega,O9 _⟩;rw[C]at F;cases F;exact⟨⟨f.If,f.Gs,f.Ps,f.By,f.At,w64 (f.Ss+1),f.Js,f.Do⟩,by unfold Ad;simp only;rw[T0 B],rfl,rfl,rfl,rfl⟩
theorem SK{s:d8}{fi:Nat}{f:x8}{B:List y8}{Sl:Int}(G:EOk B Sl s.P.Vars.length)(h0:0<=Sl)(H:f.Ss=Sl)(z:b6H)(t F first:Int):EOk (B++[⟨z,f.Ss,F,s.P.Vars.length⟩]) (Sl+1) (Ad s fi f z t first).P.Vars.length:=by
 have e:(Ad s fi f z t first).P.Vars.length=s.P.Vars.length+1:=(by unfold Ad;simp only[t8,C2])
 rw[e];intro v C;rcases A3.1 C with C|C
 ·obtain⟨a,b,c,d⟩:=G v C;exact⟨a,by omega,c,by omega⟩
 ·rw[K4.1 C];simp only;omega
theorem EOk.mono{z:List y8}{Sl Sl':Int}{v B:Nat}(h:EOk z Sl v)(a:Sl<=Sl')(b:v<=B):EOk z Sl' B:=λx hx=>by obtain⟨C,G,F,H⟩:=h x hx;exact⟨C,by omega,F,by omega⟩
section
variable{l:List d7}(hM:L0 l)(hl:l.length<=30000)(htx:∀n∈l,n.Ds.length<=65536)
include hM hl htx
theorem My:∀(n b:Nat) (x:d7) (q:Nat),l[b]? =some x->x.Cs=(q:Int)-(b+1)->q-b=n->(14<=x.Ks/\x.Ks<=32)->∀j,b<=j->j<q->14<=kd l j/\kd l j<=32:=by
 intro n
 induction n using Nat.strongRecOn with
 |_ n ih=>
 intro b x q hx Q hn J j M I;obtain⟨st,ks,t1,U,V,X,S,B,Y⟩:=hM.nd b x hx;have C:st=q:=(by omega);subst C;by_cases e:j=b
 ·subst e;rw[x4 hx];exact J
 by_cases c20:x.Ks<=20
 ·have:=Ht hM hl htx _ b x st hx Q rfl ⟨J.1,c20⟩ j M I;omega
 obtain⟨k,F,y,L,K,R,N,O,Z,a6⟩:=S.cover j (by omega) I;have H:I3 (kd l k)=101\/I3 (kd l k)=116:=by
  have z:I3 (kd l k)∈G8 l ks:=List.mem_map.2 ⟨k,F,rfl⟩;by_cases c27:x.Ks=27
  ·exact .inl (B.k27 c27 _ z)
  by_cases c28:x.Ks=28\/x.Ks=31
  ·rw[B.k28 c28]at z;simp at z;exact .inl z
  by_cases c29:x.Ks=12\/x.Ks=29\/x.Ks=30
  ·rw[B.k12 c29]at z;simp at z;exact .inl z
  by_cases c32:x.Ks=32
  ·rcases B.k32 c32 with⟨h,_⟩|⟨h,_⟩
   ·rw[h]at z;simp at z;exact .inr z
   ·rw[h]at z;simp at z;exact z.symm
  ·have:=(B.kr (by omega)).1;rw[this]at z;exact nomatch z
 have G:14<=y.Ks/\y.Ks<=32:=by
  rw[<-x4 K];rcases H with h|h
  ·have:=M2 h;omega
  ·have:=Z8 h;omega
 exact ih (L-k) (by omega) k y L K R rfl G j N O
theorem WK(fi:Nat)(At Sl:Int)(G:List y8)(C:Nat)(J:d7)(I:l[C]? =some J)(Y:21<=J.Ks/\J.Ks<=32)(en:Nat)(R:J.Cs=(en:Int)-(C+1))(N:en<=l.length)(aa:C+1<=en)(hw:WFo l (C+1) en)(nr:Nat)(s:d8)(B:Nat)(hR:RI l nr B s)(Z:FI s fi At Sl)(hE:EOk G Sl s.P.Vars.length)(L:G.length<=100000000000)(hB:B+(en-C)<=80000000000):∃H,tU d5 s (fi:Int) G (C:Int)=some ((H,()),())/\RI l nr (B+(en-C)) H/\Ex l s H C en/\(H.F.Code=0->∀i,C<=i->i<en->NdE l H Sl i/\NdS l H Sl i):=by
 rw[a1u,fV];obtain⟨H,U,r2,S,X⟩:=a4n hM hl htx fi At Sl G C J I en R N nr _ C s B rfl (l5 _) (by omega) hR Z hE L hB (λj y q M K O hq=>by
  by_cases e:j=C
  ·subst e;rw[I]at O;cases O;omega
  ·obtain⟨z,k,Q,g2,g3,g4,g5⟩:=hw.inside j (by omega) K;rw[O]at Q;cases Q;omega)
 refine⟨H,U,r2,S,λV i M K=>⟨X V i M K,NdS.other ?_⟩⟩;have:=My hM hl htx _ C J en I R rfl (by omega) i M K;omega
end
end
section
def ptS(s:d8)(p:Q8):d8:=⟨⟨s.P.No,s.P.Ms,s.P.To,s.P.Rs,s.P.Hs,s.P.As,s.P.Ss,s.P.Vars,s.P.Do++[p]⟩,s.Rs,s.F⟩
def vrS(s:d8)(V:List M8):d8:=⟨⟨s.P.No,s.P.Ms,s.P.To,s.P.Rs,s.P.Hs,s.P.As,s.P.Ss,V,s.P.Do⟩,s.Rs,s.F⟩
theorem b0O{l:List d7}{nr B:Nat}{s:d8}(h:RI l nr B s)(p:Q8):RI l nr (B+1) (ptS s p):=by refine⟨h.nodes,h.marks,?_,h.ty,h.mt,h.fl,h.rc,h.fn,h.sl⟩;have:=h.big;unfold tot ptS at*;simp only[t8,C2];omega
theorem b16{l:List d7}{nr B:Nat}{s:d8}(h:RI l nr B s)(V:List M8)(hV:V.length=s.P.Vars.length):RI l nr B (vrS s V):=by refine⟨h.nodes,h.marks,?_,h.ty,h.mt,h.fl,h.rc,h.fn,h.sl⟩;have:=h.big;unfold tot vrS at*;simp only;omega
theorem a4J(l:List d7)(fi:Nat)(s:d8)(p:Q8)(lo hi:Nat):Fx l fi s (ptS s p) lo hi:=⟨O9 _,λ_ _=>rfl,λ_ _=>rfl,rfl,rfl,rfl,id,rfl,λ_ _=>rfl,λf z=>⟨f,z,rfl,rfl,rfl,rfl⟩,O9 _,l5 _,List.prefix_append _ _⟩
theorem a4z(l:List d7)(fi:Nat)(s:d8)(V:List M8)(hV:V.length=s.P.Vars.length)(lo hi:Nat):Fx l fi s (vrS s V) lo hi:=⟨O9 _,λ_ _=>rfl,λ_ _=>rfl,rfl,rfl,rfl,id,rfl,λ_ _=>rfl,λf z=>⟨f,z,rfl,rfl,rfl,rfl⟩,O9 _,by show _<=V.length;omega,O9 _⟩
theorem FI.of{s z:d8}{fi:Nat}{At Sl:Int}(h:FI s fi At Sl)(C:z.P.As=s.P.As)(B:z.P.Ss=s.P.Ss):FI z fi At Sl:=⟨by rw[C];exact h.f,h.at0,h.sl0,by rw[B];exact h.sum,h.s2⟩
theorem b43(s:d8)(hV:s.P.Vars.length<=90000000000)(z:List y8)(I:z.length<=90000000000)(Sl:Int)(K:EOk z Sl s.P.Vars.length)(b:Int):∃V,EK d5 z b s=some ((vrS s V,()),())/\V.length=s.P.Vars.length:=by
 have J:([]:List M8).length+s.P.Vars.length<=100000000000:=(by rw[K8];omega);have B:∀(n i:Nat) (V:List M8),z.length-i=n->V.length=s.P.Vars.length->∃C,Yk d5 z b (i:Int) s V=some ((vrS s C,()),())/\C.length=s.P.Vars.length:=by
  intro n
  induction n with
  |zero=>intro i V hi H;rw[RS,Zx,d9 (by omega),f9,a9F,sK];exact⟨V,rfl,H⟩
  |succ n ih=>
   intro i V hi H;have F:i<z.length:=(by omega);obtain⟨_,_,M,N⟩:=K _ (B0 F);have L:z[i].At=((z[i].At.toNat:Nat):Int):=(by omega);have G:z[i].At.toNat<V.length:=(by omega);have e:=λC (h:C.length=s.P.Vars.length)=>ih (i+1) C (by omega) h;rw[RS,Zx,f6 (by omega),l6,p9 F,d6,d6,B7 (by omega)];cases decide (z[i].Ys=b)with
   |false=>exact e V H
   |true=>rw[l6,L,p9 G,d6,F9,w9 G,d6,d6];simp only[U8,d6];exact e _ (by rw[Hf];exact H)
 rw[a1h,uW,Ao (by decide) J,d6,U7];exact B _ 0 _ rfl rfl
def stI(l:List d7)(lo hi:Nat):List Nat:=(List.range' lo (hi-lo)).filter λi=>decide (7<=kd l i/\kd l i<=13)
theorem Mv(l:List d7){a b c:Nat}(C:a<=b)(B:b<=c):stI l a c=stI l a b++stI l b c:=by unfold stI;rw[<-List.filter_append];have e:c-a=(b-a)+(c-b):=(by omega);have z:a+1*(b-a)=b:=(by omega);rw[e,<-List.range'_append,z]
theorem Pm{l:List d7}{a b i:Nat}(h:i∈stI l a b):(a<=i/\i<b)/\7<=kd l i/\kd l i<=13:=by unfold stI at h;rw[List.mem_filter,List.mem_range'_1]at h;have:=F3 h.2;omega
theorem Qx{l:List d7}{a b:Nat}(h:∀i,a<=i->i<b->kd l i<7\/13<kd l i):stI l a b=[]:=by unfold stI;rw[List.filter_eq_nil_iff];intro i hi;rw[List.mem_range'_1]at hi;have:=h i hi.1 (by omega);rw[decide_eq_true_eq];omega
theorem a3y(l:List d7)(a:Nat):stI l a a=[]:=Qx λi B z=>by omega
theorem wN{l:List d7}{a b:Nat}(h:7<=kd l a/\kd l a<=13)(z:a<b):stI l a b=a::stI l (a+1) b:=by rw[Mv l (Nat.le_succ a) z];have e:a+1-a=1:=(by omega);unfold stI;rw[e,List.range'_one,List.filter_cons_of_pos (by rw[decide_eq_true_eq];exact h),List.filter_nil,List.singleton_append]
theorem CQ{l:List d7}{a b:Nat}(h:kd l a<7\/13<kd l a)(z:a<b):stI l a b=stI l (a+1) b:=by rw[Mv l (Nat.le_succ a) z,Qx (a:=a) (b:=a+1) (λi C B=>by rw[show i=a by omega];exact h),U7]
def Yu(l:List d7)(fi i:Nat):Q8:=match l[i]? with|some x=>⟨fi,i,x.Ls,x.Id⟩|none=>⟨0,0,0,0⟩
theorem a1Z{l:List d7}{i:Nat}{x:d7}(h:l[i]? =some x)(fi:Nat):Yu l fi i=⟨fi,i,x.Ls,x.Id⟩:=by unfold Yu;rw[h]
structure PT(l:List d7)(fi:Nat)(s s':d8)(lo hi:Nat):Prop where
 pts:s'.P.Do=s.P.Do++(stI l lo hi).map (Yu l fi)
 num:∀i,i∈stI l lo hi->∃m,s'.P.Ms[i]? =some m/\m.Qs=(s.P.Do.length:Int)+((stI l lo i).length:Int)
theorem PT.none{l:List d7}{fi:Nat}{s z:d8}{lo hi:Nat}(h:z.P.Do=s.P.Do)(B:∀i,lo<=i->i<hi->kd l i<7\/13<kd l i):PT l fi s z lo hi:=
 ⟨by rw[Qx B,h,List.map_nil,T4],λi hi=>by rw[Qx B]at hi;exact nomatch hi⟩
theorem PT.trans{l:List d7}{fi:Nat}{s G B:d8}{lo mid hi z F:Nat}(h:PT l fi s G lo mid)(I:PT l fi G B mid hi)(J:∀i:Nat,(i<z\/F<=i)->B.P.Ms[i]? =G.P.Ms[i]?)(e:z=mid)(a:lo<=mid)(b:mid<=hi):PT l fi s B lo hi:=by
 subst e;refine⟨by rw[I.pts,h.pts,Mv l a b,I8,G5],λi hi=>?_⟩;rw[Mv l a b,A3]at hi;rcases hi with hi|hi
 ·obtain⟨m,H,C⟩:=h.num i hi;obtain⟨⟨_,c⟩,_⟩:=Pm hi;exact⟨m,by rw[J i (.inl c)];exact H,C⟩
 ·obtain⟨m,H,C⟩:=I.num i hi;obtain⟨⟨c,_⟩,_⟩:=Pm hi;refine⟨m,H,?_⟩;rw[C,h.pts,Mv l a c,t8,t8,F5];omega
theorem PT.cons{l:List d7}{fi:Nat}{s s0 B:d8}{b hi:Nat}{x:d7}{m:l8}(hx:l[b]? =some x)(G:7<=x.Ks/\x.Ks<=13)(h0:s0.P.Do=s.P.Do++[⟨fi,b,x.Ls,x.Id⟩])(K:B.P.Ms[b]? =some m)(H:m.Qs=(s.P.Do.length:Int))(h:PT l fi s0 B (b+1) hi)(C:b<hi):PT l fi s B b hi:=by
 have z:7<=kd l b/\kd l b<=13:=(by rw[x4 hx];exact G);refine⟨by rw[h.pts,h0,wN z C,List.map_cons,a1Z hx,G5,List.singleton_append],λi hi=>?_⟩;rw[wN z C,D0]at hi;rcases hi with rfl|hi
 ·exact⟨m,K,by rw[H,a3y];simp⟩
 ·obtain⟨J,I,F⟩:=h.num i hi;obtain⟨⟨c,_⟩,_⟩:=Pm hi;refine⟨J,I,?_⟩;rw[F,h0,wN z (by omega),t8,C2,F8];omega
theorem PT.skip{l:List d7}{fi:Nat}{s B:d8}{b hi:Nat}(z:kd l b<7\/13<kd l b)(h:PT l fi s B (b+1) hi)(C:b<hi):PT l fi s B b hi:=by refine⟨by rw[h.pts,CQ z C],λi hi=>?_⟩;rw[CQ z C]at hi;obtain⟨m,G,F⟩:=h.num i hi;obtain⟨⟨c,_⟩,_⟩:=Pm hi;exact⟨m,G,by rw[F,CQ z (by omega)]⟩
structure Fg(l:List d7)(nr f0:Nat)(At:Int)(s:d8)(Sl:Int)(B lo hi:Nat)(s':d8)(Sl':Int):Prop where
 ri:RI l nr (B+6*(hi-lo)) s'
 fx:Fx l f0 s s' lo hi
 fi:FI s' f0 At Sl'
 sl:Sl<=Sl'
 nd:s'.F.Code=0->∀i,lo<=i->i<hi->NdE l s' Sl' i/\NdS l s' Sl' i
 pt:s'.F.Code=0->PT l f0 s s' lo hi
def Bk(l:List d7)(nr fi:Nat)(At:Int)(n:Nat):Prop:=∀(b:Nat) (x:d7) (st:Nat),st-b=n->l[b]? =some x->x.Cs=(st:Int)-(b+1)->b+1<=st->st<=l.length->x.Ks=6->∀(s:d8) (env:List y8) (Sl:Int) (B:Nat),RI l nr B s->FI s fi At Sl->EOk env Sl s.P.Vars.length->env.length+(st-b)<=80000000000->B+6*(st-b)<=80000000000->
 ∃s' Sl',lG d5 s (fi:Int) env (b:Int)=some ((s',()),())/\Fg l nr fi At s Sl B b st s' Sl'
def Stm(l:List d7)(nr fi:Nat)(At:Int)(n:Nat):Prop:=∀(b:Nat) (x:d7) (st:Nat),st-b=n->l[b]? =some x->x.Cs=(st:Int)-(b+1)->b+1<=st->st<=l.length->7<=x.Ks/\x.Ks<=13->∀(s:d8) (env:List y8) (blk:Int) (Sl:Int) (B:Nat),RI l nr B s->FI s fi At Sl->EOk env Sl s.P.Vars.length->env.length+(st-b)<=80000000000->B+6*(st-b)<=80000000000->
 ∃env' s' Sl',GT d5 s (fi:Int) env blk (b:Int)=some ((env',s',()),())/\Fg l nr fi At s Sl B b st s' Sl'/\EOk env' Sl' s'.P.Vars.length/\env'.length<=env.length+1
section
variable{l:List d7}(hM:L0 l)(hl:l.length<=30000)(htx:∀n∈l,n.Ds.length<=65536)
include hM hl htx
theorem a4a(nr fi:Nat)(At:Int)(n:Nat)(ih:∀m,m<n->Stm l nr fi At m):Bk l nr fi At n:=by
 intro b x st hn hx hs ak ah hk s z Sl B L O S X hB;obtain⟨G,ks,t1,t2,t3,t4,t5,t6,t7⟩:=hM.nd b x hx;have ab:G=st:=(by omega);subst ab;have aj:=t5.le;have af:∀p∈ks,7<=kd l p/\kd l p<=13:=λp hp=>fK (Qo (t6.k6 hk) p hp);have ag:=L.nodes;have Y:∀(m e c0:Nat) (s:d8) (z:List y8) (Sl:Int) (B:Nat),ks.length-e=m->e<=ks.length->b+1<=c0->Kc l c0 G (ks.drop e)->RI l nr B s->FI s fi At Sl->EOk z Sl s.P.Vars.length->z.length+(G-c0)<=80000000000->B+6*(G-c0)<=80000000000->
   ∃K Sl',dY d5 (fi:Int) z (b:Int) ((l9 ks,()),()) (e:Int) s=some ((K,()),())/\Fg l nr fi At s Sl B c0 G K Sl':=by
  intro m
  induction m with
  |zero=>
   intro e c0 s z Sl B hm he ac Z L O S X hB;have hc:c0=G:=by rw[R3 (by omega)]at Z;cases Z;rfl
   have aa:=L.big;unfold tot at aa;obtain⟨V,v1,v2⟩:=b43 s (by omega) z (by omega) Sl S (b:Int);rw[JL,Zj];simp only[C3];rw[d9 (by omega),f9,v1];exact⟨_,Sl,rfl,(b16 L V v2).more (by omega),a4z l fi s V v2 _ _,O.of rfl rfl,R4 _,λ_ i h1 U=>by omega,λ_=>PT.none rfl λi h1 U=>by omega⟩
  |succ m ihm=>
   intro e c0 s z Sl B hm he ac Z L O S X hB;have H:e<ks.length:=(by omega);have g:=E3 H;have ga:=F6 H;rw[P0 H]at Z;obtain⟨ek,y,q,hy,ad,ae,ai,M⟩:=Z.first
   have Q:=af _ (B0 H);rw[ek,x4 hy]at Q;rw[JL,Zj];simp only[C3];rw[f6 (by omega),l6,V6,d6];by_cases cb:s.F.Code=0
   ·rw[f6 cb,B8,f9,g,d6,F9,ga,d6,ek,B7 (by omega)];obtain⟨R,s1,Sl1,k1,N,k3,k4⟩:=ih (q-c0) (by omega) c0 y q rfl hy ad ae (by omega) Q s z (b:Int) Sl B L O S (by omega) (by omega);rw[k1,d6];obtain⟨K,Sl',r1,C⟩:=ihm (e+1) q s1 R Sl1 (B+6*(q-c0)) (by omega) (by omega) (by omega) M N.ri N.fi k3 (by omega) (by omega);have J:K.F.Code=0->s1.F.Code=0:=λI=>Y5 λhc=>C.fx.bad hc I;refine⟨K,Sl',r1,C.ri.more (by omega),N.fx.trans C.fx (l5 _) (by omega) (by omega) (l5 _),C.fi,Int.le_trans N.sl C.sl,λI i h1 U=>?_,λI=>(N.pt (J I)).trans (C.pt I) C.fx.marks rfl (by omega) (by omega)⟩;by_cases hi:i<q
    ·have J:=J I;obtain⟨n1,n2⟩:=N.nd J i h1 hi;exact⟨n1.fx C.fx C.sl (.inl hi),n2.fx C.fx C.sl (.inl hi)⟩
    ·exact C.nd I i (by omega) U
   ·rw[d9 cb];exact⟨s,Sl,rfl,L.more (by omega),Fx.refl _ _ _ _ _,O,R4 _,λh=>absurd h cb,λh=>absurd h cb⟩
 rw[a7V,fB,ag,Z0 (by omega) hx t1 t3 t5,d6];obtain⟨K,Sl',r1,C⟩:=Y _ 0 (b+1) s z Sl B rfl (D2 _) (l5 _) (by rw[W3];exact t5) L O S (by omega) (by omega);refine⟨K,Sl',r1,C.ri.more (by omega),C.fx.trans (Fx.refl l fi K b G) (by omega) (l5 _) (l5 _) (l5 _),C.fi,C.sl,λI i h1 U=>?_,λI=>(C.pt I).skip (.inl (by rw[x4 hx];omega)) (by omega)⟩;by_cases e:i=b
 ·subst e;have:=x4 hx;exact⟨NdE.other ⟨by omega,by omega,by omega⟩,NdS.other (.inl (by omega))⟩
 ·exact C.nd I i (by omega) U
end
end
section
theorem dU{l:List d7}{ks:List Nat}(h:G8 l ks=[]):ks=[]:=by unfold G8 at h;exact List.map_eq_nil_iff.1 h
theorem WU{l:List d7}{k B:Int}{i:Nat}{ks:List Nat}(h:Fam k B i (G8 l ks) (fkd l ks))(G:8<=k/\k<=13):∀p∈ks,kd l p=6\/21<=kd l p/\kd l p<=32:=by
 intro p C;have z:I3 (kd l p)∈G8 l ks:=List.mem_map.2 ⟨p,C,rfl⟩;have F:I3 (kd l p)=101\/I3 (kd l p)=98:=by
  by_cases c8:k=8
  ·rw[(h.k8 c8).1]at z;simp at z;exact .inl z
  by_cases c9:k=9
  ·rcases h.k9 c9 with e|e
   ·rw[e]at z;simp at z;exact z
   ·rw[e]at z;simp at z;exact z
  by_cases c10:k=10
  ·rw[h.k10 c10]at z;simp at z;exact z
  by_cases c11:k=11
  ·rcases h.k11 c11 with e|e
   ·rw[e]at z;exact nomatch z
   ·rw[e]at z;simp at z;exact .inl z
  by_cases c12:k=12
  ·rw[h.k12 (.inl c12)]at z;simp at z;exact .inl z
  ·have c13:k=13:=(by omega);rw[(h.k13 c13).1]at z;simp at z;exact .inl z
 rcases F with e|e
 ·exact .inr (M2 e)
 ·exact .inl (Sr e)
section
variable{l:List d7}(hM:L0 l)(hl:l.length<=30000)(htx:∀n∈l,n.Ds.length<=65536)
include hM hl htx
theorem a5B(nr fi:Nat)(At:Int)(n:Nat)(ih:∀m,m<n->Bk l nr fi At m):Stm l nr fi At n:=by
 intro b x st hn hx hs cs cl hk s G Q Sl B hR hF hE cn hB;obtain⟨M,ks,t1,t2,t3,t4,t5,t6,t7⟩:=hM.nd b x hx;have bz:M=st:=(by omega);subst bz;have cp:=t5.le;have bh:=hR.nodes;have cm:=hR.marks;have bj:=hR.big;unfold tot at bj;have ak:=(o9.1 hx).1;have bt:=(o9.1 hx).2;have cj:=x4 hx;have h5:kd l b≠5:=(by omega);have h6:=hR.ty.len;have hz:s.P.Do.length+ [(Q8.mk (fi:Int) (b:Int) x.Ls x.Id)].length<=100000000000:=(by rw[C2];omega);have bg:b<(ptS s ⟨fi,b,x.Ls,x.Id⟩).P.Ms.length:=(by show b<s.P.Ms.length;omega);have bv:(ptS s ⟨fi,b,x.Ls,x.Id⟩).P.Ms.length<=90000000:=(by show s.P.Ms.length<=_;omega);rw[b3e,uU,bh,p9 ak,d6,bt,Ao (by decide) hz,d6,Sv];have e0:(d8.mk (w8.mk l s.P.Ms s.P.To s.P.Rs s.P.Hs s.P.As s.P.Ss s.P.Vars (s.P.Do++[(Q8.mk (fi:Int) (b:Int) x.Ls x.Id)])) s.Rs s.F)=ptS s ⟨fi,b,x.Ls,x.Id⟩:=(by rw[<-bh];rfl);rw[e0,Ep _ bv b bg,d6];have al:=(b0O hR ⟨fi,b,x.Ls,x.Id⟩).mark b ⟨0,0,s.P.Do.length⟩ (R4 _) (by show(0:Int)<s.P.To.length;omega);have bc:Fx l fi s (A4 (ptS s ⟨fi,b,x.Ls,x.Id⟩) b ⟨0,0,s.P.Do.length⟩) b M:=(a4J l fi s ⟨fi,b,x.Ls,x.Id⟩ b M).trans ((Ex.mark l _ b ⟨0,0,s.P.Do.length⟩ b M (l5 _) (by omega) h5).fx fi) (l5 _) (l5 _) (l5 _) (l5 _);have an:FI (A4 (ptS s ⟨fi,b,x.Ls,x.Id⟩) b ⟨0,0,s.P.Do.length⟩) fi At Sl:=hF.of rfl rfl;have aw:(A4 (ptS s ⟨fi,b,x.Ls,x.Id⟩) b ⟨0,0,s.P.Do.length⟩).P.Ms[b]? =some ⟨0,0,s.P.Do.length⟩:=(by unfold A4;simp only;rw[T0 bg]);have az:(A4 (ptS s ⟨fi,b,x.Ls,x.Id⟩) b ⟨0,0,s.P.Do.length⟩).P.Vars=s.P.Vars:=rfl;have ce:(A4 (ptS s ⟨fi,b,x.Ls,x.Id⟩) b ⟨0,0,s.P.Do.length⟩).F=s.F:=rfl;have ax:(A4 (ptS s ⟨fi,b,x.Ls,x.Id⟩) b ⟨0,0,s.P.Do.length⟩).P.Do=s.P.Do++[⟨fi,b,x.Ls,x.Id⟩]:=rfl;generalize A4 (ptS s ⟨fi,b,x.Ls,x.Id⟩) b ⟨0,0,s.P.Do.length⟩=s0 at*;have ao:=al.nodes;simp only;rw[ao,Z0 (by omega) hx t1 t3 t5,d6];by_cases c7:x.Ks=7
 ·
  obtain⟨e1,e2⟩:=J7 (t6.k7 c7);have bm:ks≠ []:=(by rintro rfl;simp at e1);obtain⟨k,b6,rfl⟩:=List.exists_cons_of_ne_nil bm;have bi:b6≠ []:=(by rintro rfl;simp at e1);obtain⟨J,a7,rfl⟩:=List.exists_cons_of_ne_nil bi;have ap:a7=[]:=(by simp at e1;exact e1);subst ap;have s1:=Z8 (e2 0 (by simp) (by simp));have C:=M2 (e2 1 (by simp) (by simp));simp only[K5,Dp]at s1 C;obtain⟨rfl,y,q,hy,R,be,bw,hr⟩:=t5.first
  obtain⟨rfl,z,q2,ad,ar,cr,co,bo⟩:=hr.first
  have:q2=M:=(by cases bo;rfl);subst this;rw[x4 hy]at s1;rw[x4 ad]at C;obtain⟨I,kz,z1,z2,z3,z4,z5,z6,z7⟩:=hM.nd _ z ad;have ab:I=q2:=(by omega);subst ab;have g0:f7 (l9 [b+1,J]) (0:Int)=some ((b+1:Nat):Int):=E3 (i:=0) (ks:=[b+1,J]) (by simp);have b1:(l9 [b+1,J])[Int.toNat 0]? =some ((b+1:Nat):Int):=F6 (i:=0) (ks:=[b+1,J]) (by simp);have g1:f7 (l9 [b+1,J]) (1:Int)=some ((J:Nat):Int):=E3 (i:=1) (ks:=[b+1,J]) (by simp);have b3:(l9 [b+1,J])[Int.toNat 1]? =some ((J:Nat):Int):=F6 (i:=1) (ks:=[b+1,J]) (by simp);rw[f6 c7,B8,f9];have ei:([b+1,J]:List Nat).map (λ(k:Nat)=>(k:Int))=l9 [b+1,J]:=rfl;rw[ei];simp only;rw[g0,d6,b1,d6];obtain⟨t,sa,a1,a2,a3,a4,a5⟩:=VP hM hl htx (b+1) y J hy R (by omega) s0 nr (B+1) al (by omega);have a6:=an.ex a3;have ba:sa.P.Vars=s.P.Vars:=a3.vars.trans az;rw[a1,d6,V6,d6];have cd:y.Ks≠14:=(by omega);have av:∀(C:d8),RI l nr (B+1+(J-(b+1))+(I-J)) C->Ex l sa C J I->(C.F.Code=0->sa.F.Code=0/\∀i,J<=i->i<I->NdE l C Sl i/\NdS l C Sl i)->
    ∃H K Sl',vJ d5 (fi:Int) G Q (b:Int) s ((t,sa,()),()) C x=some ((H,K,()),())/\Fg l nr fi At s Sl B b I K Sl'/\EOk H Sl' K.P.Vars.length/\H.length<=G.length+1:=by
   intro C ae aa br;have ah:Fx l fi s C b I:=(bc.trans (a3.fx fi) (l5 _) (l5 _) (by omega) (by omega)).trans (aa.fx fi) (l5 _) (l5 _) (by omega) (l5 _);have S:=a6.ex aa;have bb:C.P.Vars=s.P.Vars:=aa.vars.trans ba;have ag:=ae.nodes;have ch:=ae.marks;have j5:∀f:A7,(C.F.Code≠0->f.Code≠0)->(f.Code=0->Sl<200)->∃H K Sl',mV d5 (fi:Int) G Q (b:Int) s ((t,sa,()),()) ⟨C.P,C.Rs,f⟩ x=some ((H,K,()),())/\Fg l nr fi At s Sl B b I K Sl'/\EOk H Sl' K.P.Vars.length/\H.length<=G.length+1:=by
    intro f hf au;have O:f.Code=0->C.F.Code=0:=λc=>Y5 λhc=>hf hc c;have am:=ae.fault f O;have bl:Fx l fi C ⟨C.P,C.Rs,f⟩ b I:=⟨O9 _,λ_ _=>rfl,λ_ _=>rfl,rfl,rfl,rfl,hf,rfl,λ_ _=>rfl,λg O=>⟨g,O,rfl,rfl,rfl,rfl⟩,O9 _,l5 _,O9 _⟩;have a9:FI ⟨C.P,C.Rs,f⟩ fi At Sl:=S.of rfl rfl;rw[a7X,pK,V6,d6];by_cases cf:f.Code=0
    ·obtain⟨ga,hN⟩:=br (O cf);have tI:E4 sa.P.To t:=by
      rcases a5 ga with⟨h,_⟩|⟨_,h⟩
      ·exact absurd h cd
      ·exact h
     have af:E4 C.P.To t:=tI.ext aa.types;obtain⟨g,N,bu,a0⟩:=S.f;have aj:=(o9.1 N).1;have b5:=(o9.1 N).2;have b4:=ae.big;have ci:=S.sum;have cq:=S.at0;rw[f6 cf,B8,f9];simp only;rw[p9 aj,d6,b5,Sv,Ep _ (by simp only;omega) b (by simp only;omega),d6];have bf:=am.mark b ⟨t,g.Ss,s.P.Do.length⟩ (by have:=af.1;simp only;omega) af.2.1;have ay:=Ex.mark l (⟨C.P,C.Rs,f⟩:d8) b ⟨t,g.Ss,s.P.Do.length⟩ b I (l5 _) (by omega) h5;have bx:=bf.big;have cg:C.P.Ss.length<=tot C:=(by unfold tot;omega);simp only;rw[YF (A4 (⟨C.P,C.Rs,f⟩:d8) b ⟨t,g.Ss,s.P.Do.length⟩) fi g N G (by omega) (by omega) x.Ds t Q _];refine⟨_,_,Sl+1,rfl,⟨?_,?_,?_,by omega,λck i h1 h2=>?_,λ_=>?_⟩,?_,by simp⟩
     ·exact(a0g bf N x.Ds t _ (λ_=>af)).more (by omega)
     ·exact(ah.trans bl (l5 _) (l5 _) (l5 _) (l5 _)).trans ((ay.fx fi).trans (HC l (s:=A4 (⟨C.P,C.Rs,f⟩:d8) b ⟨t,g.Ss,s.P.Do.length⟩) N x.Ds t _ b I) (l5 _) (l5 _) (l5 _) (l5 _)) (l5 _) (l5 _) (l5 _) (l5 _)
     ·exact MJ (a9.ex ay) N (au cf) x.Ds t _
     ·by_cases e:i=b
      ·subst e;refine⟨NdE.other ⟨by omega,by omega,by omega⟩,λ_ _=>⟨⟨t,g.Ss,s.P.Do.length⟩,?_,by simp only;omega,λ_=>⟨?_,?_,af⟩⟩⟩
       ·show((A4 (⟨C.P,C.Rs,f⟩:d8) i ⟨t,g.Ss,s.P.Do.length⟩).P.Ms)[i]? =_;unfold A4;simp only;rw[T0 (by omega)]
       ·have:=S.sl0;simp only;omega
       ·simp only;omega
      ·by_cases e2:i<J
       ·have:=Ht hM hl htx _ (b+1) y J hy R rfl (by omega) i (by omega) e2;exact⟨NdE.other ⟨by omega,by omega,by omega⟩,NdS.other (.inr (by omega))⟩
       ·obtain⟨n1,n2⟩:=hN i (by omega) h2;have bq:=Ex.mark l (⟨C.P,C.Rs,f⟩:d8) b ⟨t,g.Ss,s.P.Do.length⟩ b (b+1) (l5 _) (by omega) h5;have a8:∀first:Int,Fx l fi C (Ad (A4 (⟨C.P,C.Rs,f⟩:d8) b ⟨t,g.Ss,s.P.Do.length⟩) fi g x.Ds t first) b (b+1):=λfirst=>(Fx.trans (lo2:=b) (hi2:=b+1) (⟨O9 _,λ_ _=>rfl,λ_ _=>rfl,rfl,rfl,rfl,hf,rfl,λ_ _=>rfl,λg O=>⟨g,O,rfl,rfl,rfl,rfl⟩,O9 _,l5 _,O9 _⟩:Fx l fi C ⟨C.P,C.Rs,f⟩ b (b+1)) (bq.fx fi) (l5 _) (l5 _) (l5 _) (l5 _)).trans (HC l (s:=A4 (⟨C.P,C.Rs,f⟩:d8) b ⟨t,g.Ss,s.P.Do.length⟩) N x.Ds t first b (b+1)) (l5 _) (l5 _) (l5 _) (l5 _)
        exact⟨n1.fx (a8 _) (by omega) (.inr (by omega)),n2.fx (a8 _) (by omega) (.inr (by omega))⟩
     ·refine PT.cons (s0:=s0) (m:=⟨t,g.Ss,s.P.Do.length⟩) hx hk ax ?_ rfl (PT.none (aa.points.trans a3.points) λi h1 h2=>?_) (by omega)
      ·show((A4 (⟨C.P,C.Rs,f⟩:d8) b ⟨t,g.Ss,s.P.Do.length⟩).P.Ms)[b]? =_;unfold A4;simp only;rw[T0 (by omega)]
      ·by_cases e2:i<J
       ·have:=Ht hM hl htx _ (b+1) y J hy R rfl (by omega) i h1 e2;omega
       ·have:=My hM hl htx _ J z I ad ar rfl (by omega) i (by omega) h2;omega
     ·exact SK (by show EOk G Sl C.P.Vars.length;rw[bb];exact hE) (S.sl0) a0 x.Ds t Q _
    ·rw[d9 cf];exact⟨G,_,Sl,rfl,⟨am.more (by omega),ah.trans bl (l5 _) (l5 _) (l5 _) (l5 _),a9,R4 _,λh=>absurd h cf,λh=>absurd h cf⟩,by show EOk G Sl C.P.Vars.length;rw[bb];exact hE,by omega⟩
   have j4:∀f:A7,(C.F.Code≠0->f.Code≠0)->∃H K Sl',zJ d5 (fi:Int) G Q (b:Int) s ((t,sa,()),()) ⟨C.P,C.Rs,f⟩ x=some ((H,K,()),())/\Fg l nr fi At s Sl B b I K Sl'/\EOk H Sl' K.P.Vars.length/\H.length<=G.length+1:=by
    intro f hf;obtain⟨g,N,bu,a0⟩:=S.f;have aj:=(o9.1 N).1;rw[a4E,bU];simp only;rw[p9 aj,d6];have aq:=(o9.1 N).2;by_cases c200:C.P.As[fi].Ss>=200
    ·rw[f6 c200];obtain⟨f',f1,f2⟩:=Bg ⟨C.P,C.Rs,f⟩ 13 (by decide) b (by rw[ag];exact ak);rw[l6,f1,d6];exact j5 f' (λ_=>f2) (λh=>absurd h f2)
    ·rw[d9 c200];exact j5 f hf (λ_=>by rw[aq]at c200;omega)
   have l1:∀(m i:Nat) (f:A7),G.length-i=m->(C.F.Code≠0->f.Code≠0)->∃H K Sl',Tf d5 (fi:Int) G Q (b:Int) s ((t,sa,()),()) (i:Int) ⟨C.P,C.Rs,f⟩ x=some ((H,K,()),())/\Fg l nr fi At s Sl B b I K Sl'/\EOk H Sl' K.P.Vars.length/\H.length<=G.length+1:=by
    intro m
    induction m with
    |zero=>intro i f hi hf;rw[a0G,aG,d9 (by omega),f9];exact j4 f hf
    |succ m ihm=>
     intro i f hi hf;have ca:i<G.length:=(by omega);have e:=ihm (i+1) f (by omega) hf;obtain⟨f',f1,f2⟩:=Bg ⟨C.P,C.Rs,f⟩ 7 (by decide) b (by rw[ag];exact ak);have e':=ihm (i+1) f' (by omega) (λ_=>f2);rw[a0G,aG,f6 (by omega),l6,p9 ca,d6,d6,B7 (by omega),f1];cases decide (G[i].If=x.Ds)with
     |false=>exact e
     |true=>
      rw[l6];cases decide (G[i].Ys=Q)with
      |false=>exact e
      |true=>exact e'
   rw[a7x,tA];have:=l1 _ 0 C.F rfl id;exact this
  simp only;by_cases cb:sa.F.Code=0
  ·obtain⟨C,r1,L,r3,r4⟩:=WK hM hl htx fi At Sl G J z ad C I ar z3 z2 z4 nr sa _ a2 a6 (by rw[ba];exact hE) (by omega) (by omega);rw[f6 cb,B8,F4,l6,g1,d6,b3,d6,r1,d6];exact av C L r3 (λO=>⟨cb,r4 O⟩)
  ·rw[d9 cb,F4,B8,f9];exact av sa (a2.more (by omega)) (Ex.refl _ _ _ _) (λh=>absurd h cb)
 ·
  rw[d9 c7,F4,l6];have b7:=WU t6 (show 8<=x.Ks/\x.Ks<=13 by omega);have bd:∀(m e c0:Nat) (V:d8) (SA:Int) (B':Nat),ks.length-e=m->e<=ks.length->b+1<=c0->Kc l c0 M (ks.drop e)->RI l nr B' V->FI V fi At SA->EOk G SA V.P.Vars.length->B'+6*(M-c0)<=80000000000->
    ∃K Sl',Rr d5 (fi:Int) G ((l9 ks,()),()) (e:Int) V=some ((G,K,()),())/\Fg l nr fi At V SA B' c0 M K Sl'/\EOk G Sl' K.P.Vars.length:=by
   intro m
   induction m with
   |zero=>
    intro e c0 V SA B' hm he b0 hK Y X Z b2;have hc:c0=M:=by rw[R3 (by omega)]at hK;cases hK;rfl
    rw[a0K,Wr];simp only[C3];rw[d9 (by omega),f9,b4F,jA];exact⟨V,SA,rfl,⟨Y.more (by omega),Fx.refl _ _ _ _ _,X,R4 _,λ_ i h1 h2=>by omega,λ_=>PT.none rfl λi h1 h2=>by omega⟩,Z⟩
   |succ m ihm=>
    intro e c0 V SA B' hm he b0 hK Y X Z b2;have U:e<ks.length:=(by omega);have g:=E3 U;have ga:=F6 U;rw[P0 U]at hK;obtain⟨ek,y,q,hy,R,be,bw,ai⟩:=hK.first
    have bp:=b7 _ (B0 U);rw[ek,x4 hy]at bp;have b9:=(o9.1 hy).1;have bs:=(o9.1 hy).2;have bk:=Y.nodes;rw[a0K,Wr];simp only[C3];rw[f6 (by omega),l6,V6,d6];by_cases cb:V.F.Code=0
    ·rw[f6 cb,B8,f9,g,d6,F9,ga,d6,ek,bk,p9 b9,d6,bs,B7 (by omega),d6,d6,d6,d6];have next:∀(s1:d8) (S1:Int),Fg l nr fi At V SA B' c0 q s1 S1->∃K Sl',Rr d5 (fi:Int) G ((l9 ks,()),()) ((e+1:Nat):Int) s1=some ((G,K,()),())/\Fg l nr fi At V SA B' c0 M K Sl'/\EOk G Sl' K.P.Vars.length:=by
      intro s1 S1 J;obtain⟨K,Sl',r1,L,r3⟩:=ihm (e+1) q s1 S1 (B'+6*(q-c0)) (by omega) (by omega) (by omega) ai J.ri J.fi (Z.mono J.sl J.fx.vars) (by omega);have ac:K.F.Code=0->s1.F.Code=0:=λO=>Y5 λhc=>L.fx.bad hc O;refine⟨K,Sl',r1,⟨L.ri.more (by omega),J.fx.trans L.fx (l5 _) (by omega) (by omega) (l5 _),L.fi,Int.le_trans J.sl L.sl,λO i h1 h2=>?_,λO=>(J.pt (ac O)).trans (L.pt O) L.fx.marks rfl (by omega) (by omega)⟩,r3⟩;by_cases hi:i<q
      ·have ac:=ac O;obtain⟨n1,n2⟩:=J.nd ac i h1 hi;exact⟨n1.fx L.fx L.sl (.inl hi),n2.fx L.fx L.sl (.inl hi)⟩
      ·exact L.nd O i (by omega) h2
     by_cases c6:y.Ks=6
     ·rw[f6 c6,l6];obtain⟨s1,S1,k1,J⟩:=ih (q-c0) (by omega) c0 y q rfl hy R be (by omega) c6 V G SA B' Y X Z (by omega) (by omega);rw[k1,d6];exact next s1 S1 J
     ·rw[d9 c6,f9];obtain⟨I,kz,z1,z2,z3,z4,z5,z6,z7⟩:=hM.nd _ y hy;have ab:I=q:=(by omega);subst ab;obtain⟨s1,r1,L,r3,r4⟩:=WK hM hl htx fi At SA G c0 y hy (by omega) I R z3 z2 z4 nr V B' Y X Z (by omega) (by omega);rw[r1,d6];exact next s1 SA ⟨L.more (by omega),r3.fx fi,X.ex r3,R4 _,r4,λ_=>PT.none r3.points λi h1 h2=>by have:=My hM hl htx _ c0 y I hy R rfl (by omega) i h1 h2;omega⟩
    ·rw[d9 cb];exact⟨V,SA,rfl,⟨Y.more (by omega),Fx.refl _ _ _ _ _,X,R4 _,λh=>absurd h cb,λh=>absurd h cb⟩,Z⟩
  obtain⟨K,Sl',r1,L,r3⟩:=bd _ 0 (b+1) s0 Sl (B+1) rfl (D2 _) (l5 _) (by rw[W3];exact t5) al an (by rw[az];exact hE) (by omega);refine⟨G,K,Sl',r1,⟨L.ri.more (by omega),bc.trans L.fx (l5 _) (l5 _) (by omega) (l5 _),L.fi,L.sl,λO i h1 h2=>?_,λO=>PT.cons (s0:=s0) (m:=⟨0,0,s.P.Do.length⟩) hx hk ax (by rw[L.fx.marks b (.inl (by omega))];exact aw) rfl (L.pt O) (by omega)⟩,r3,by omega⟩;by_cases e:i=b
  ·subst e;refine⟨NdE.other ⟨by omega,by omega,by omega⟩,λ_ _=>⟨⟨0,0,s.P.Do.length⟩,?_,by simp only;omega,λh=>by omega⟩⟩;rw[L.fx.marks i (.inl (by omega))];exact aw
  ·exact L.nd O i (by omega) h2
theorem a7Y(nr fi:Nat)(At:Int):∀n,Bk l nr fi At n/\Stm l nr fi At n:=by
 intro n
 induction n using Nat.strongRecOn with
 |_ n ih=>exact⟨a4a hM hl htx nr fi At n (λm h=>(ih m h).2),a5B hM hl htx nr fi At n (λm h=>(ih m h).1)⟩
end
end
section
theorem Kc.drop{l:List d7}{i j:Nat}{ks:List Nat}(h:Kc l i j ks):∀n,n<=ks.length->∃c,i<=c/\Kc l c j (ks.drop n):=by
 induction h with
 |nil i=>intro n z;exact⟨i,l5 _,by rw[List.drop_nil];exact .nil i⟩
 |cons i k j x ks hx hs hk kids rest ih=>
  intro n z;cases n with
  |zero=>exact⟨i,l5 _,.cons i k j x ks hx hs hk kids rest⟩
  |succ n=>obtain⟨c,C,B⟩:=ih n (by simp at z;omega);exact⟨c,by omega,B⟩
structure Gx(l:List d7)(fi:Nat)(s s':d8)(lo hi:Nat):Prop where
 types:s.P.To<+:s'.P.To
 marks:∀i:Nat,(i<lo\/hi<=i)->s'.P.Ms[i]? =s.P.Ms[i]?
 par:∀i:Nat,kd l i=5->s'.P.Ms[i]? =s.P.Ms[i]?
 recs:s'.P.Rs=s.P.Rs
 fields:s'.P.Hs=s.P.Hs
 own:s'.Rs=s.Rs
 bad:s.F.Code≠0->s'.F.Code≠0
 flen:s'.P.As.length=s.P.As.length
 foth:∀i:Nat,i≠fi->s'.P.As[i]? =s.P.As[i]?
 fcur:∀f,s.P.As[fi]? =some f->∃f',s'.P.As[fi]? =some f'/\f'.Gs=f.Gs/\f'.Ps=f.Ps/\f'.By=f.By
 slots:s.P.Ss<+:s'.P.Ss
theorem Fx.gx{l:List d7}{fi:Nat}{s z:d8}{lo hi:Nat}(h:Fx l fi s z lo hi):Gx l fi s z lo hi:=⟨h.types,h.marks,h.par,h.recs,h.fields,h.own,h.bad,h.flen,h.foth,λf C=>by obtain⟨H,F,G,I,B,_⟩:=h.fcur f C;exact⟨H,F,G,I,B⟩,h.slots⟩
theorem Gx.trans{l:List d7}{fi:Nat}{s G C:d8}{lo hi F B lo2 hi2:Nat}(h:Gx l fi s G lo hi)(z:Gx l fi G C F B)(a:lo2<=lo)(b:hi<=hi2)(c:lo2<=F)(d:B<=hi2):Gx l fi s C lo2 hi2:=
 ⟨h.types.trans z.types,λi hi=>(z.marks i (by omega)).trans (h.marks i (by omega)),λi hi=>(z.par i hi).trans (h.par i hi),z.recs.trans h.recs,z.fields.trans h.fields,z.own.trans h.own,λI=>z.bad (h.bad I),z.flen.trans h.flen,λi hi=>(z.foth i hi).trans (h.foth i hi),
  λf N=>by
  obtain⟨K,S,U,L,M⟩:=h.fcur f N;obtain⟨R,H,Q,J,O⟩:=z.fcur K S;exact⟨R,H,Q.trans U,J.trans L,O.trans M⟩,h.slots.trans z.slots⟩
theorem NdE.gx{l:List d7}{fi:Nat}{s F:d8}{Sl:Int}{i lo hi:Nat}(h:NdE l s Sl i)(e:Gx l fi s F lo hi)(hi:i<lo\/hi<=i):NdE l F Sl i:=by
 refine⟨λz=>?_,λz=>?_,λz=>?_,λz=>?_⟩
 ·obtain⟨m,C,B,H,G⟩:=h.k26 z;exact⟨m,by rw[e.marks i hi];exact C,B,by omega,G.ext e.types⟩
 ·obtain⟨m,C,B⟩:=h.k27 z;exact⟨m,by rw[e.marks i hi];exact C,by rw[e.flen];exact B⟩
 ·obtain⟨m,C,B⟩:=h.k32 z;exact⟨m,by rw[e.marks i hi];exact C,B.ext e.types⟩
 ·obtain⟨m,C,B⟩:=h.k32t z;exact⟨m,by rw[e.marks i hi];exact C,B.ext e.types⟩
theorem NdS.gx{l:List d7}{fi:Nat}{s B:d8}{Sl:Int}{i lo hi:Nat}(h:NdS l s Sl i)(e:Gx l fi s B lo hi)(hi:i<lo\/hi<=i):NdS l B Sl i:=by intro a b;obtain⟨m,F,C,z⟩:=h a b;exact⟨m,by rw[e.marks i hi];exact F,C,λc=>⟨(z c).1,(z c).2.1,(z c).2.2.ext e.types⟩⟩
theorem J5.gx{l:List d7}{fi:Nat}{s z:d8}{lo hi p:Nat}(h:J5 s p)(B:kd l p=5)(e:Gx l fi s z lo hi):J5 z p:=by obtain⟨m,F,C⟩:=h;exact⟨m,by rw[e.par p B];exact F,C.ext e.types⟩
def fnS(s:d8)(fi:Nat)(f:x8):d8:=⟨⟨s.P.No,s.P.Ms,s.P.To,s.P.Rs,s.P.Hs,s.P.As.set fi f,s.P.Ss,s.P.Vars,s.P.Do⟩,s.Rs,s.F⟩
theorem YZ{l:List d7}{nr B:Nat}{s:d8}(h:RI l nr B s){fi:Nat}{f g:x8}(I:s.P.As[fi]? =some f)(C:g.Gs=f.Gs)(z:g.Ps=f.Ps)(J:g.By=f.By):RI l nr B (fnS s fi g):=by
 refine⟨h.nodes,h.marks,?_,h.ty,h.mt,h.fl,h.rc,λx hx=>?_,h.sl⟩
 ·have:=h.big;unfold tot fnS at*;simp only[Hf];omega
 ·rcases List.mem_or_eq_of_mem_set hx with hx|rfl
  ·exact h.fn x hx
  ·obtain⟨k,y,K,L,F,H,G⟩:=h.fn f (O8 I);exact⟨k,y,C.trans K,L,F,z.trans H,by rw[J];exact G⟩
theorem qN(l:List d7){s:d8}{fi:Nat}{f g:x8}(B:s.P.As[fi]? =some f)(F:g.Gs=f.Gs)(C:g.Ps=f.Ps)(G:g.By=f.By)(lo hi:Nat):Gx l fi s (fnS s fi g) lo hi:=by have z:=(o9.1 B).1;refine⟨O9 _,λ_ _=>rfl,λ_ _=>rfl,rfl,rfl,rfl,id,by unfold fnS;simp only[Hf],λi hi=>by unfold fnS;simp only;rw[Bz (Ne.symm hi)],λx hx=>?_,O9 _⟩;rw[B]at hx;cases hx;exact⟨g,by unfold fnS;simp only;rw[T0 z],F,C,G⟩
def Mc(l:List d7)(s:d8)(f:x8):Prop:=∃(k st np bp:Nat) (x:d7) (ks:List Nat),f.Gs=(k:Int)/\l[k]? =some x/\x.Cs=(st:Int)-(k+1)/\Kc l (k+1) st ks/\ks.length=np+2/\ks[np+1]? =some bp/\f.Ps=(np:Int)/\0<=f.At/\(np:Int)<=f.Ss/\f.At+f.Ss<=s.P.Ss.length/\f.Ss<=200/\∀i,bp<=i->i<st->NdE l s f.Ss i/\NdS l s f.Ss i
theorem b1S{l:List d7}(hl:l.length<=30000)(nr fi:Nat)(At:Int)(ks:List Nat)(G:Nat)(ag:ks.length=G+2)(ad:ks.length<=l.length)(aa:∀p∈ks,p<l.length)(V:∀(i:Nat) (Y:i<ks.length),i<G->kd l ks[i]=5)(ah:G<=20):∀(n c:Nat) (d:d8) (C:List y8) (B:Nat),G-c=n->c<=G->RI l nr B d->FI d fi At c->EOk C c d.P.Vars.length->C.length=c->(d.F.Code=0->∀p∈ks,kd l p=5->J5 d p)->B+2*n<=80000000000->∃I z,aW d5 (fi:Int) ((l9 ks,()),()) (c:Int) d C=BE d5 (fi:Int) ((l9 ks,()),()) I z/\RI l nr (B+2*n) I/\FI I fi At G/\EOk z G I.P.Vars.length/\z.length=G/\Fx l fi d I 0 0/\I.F=d.F/\I.P.Do=d.P.Do:=by
 have ew:w64 (((l9 ks).length:Int)-2)=(G:Int):=(by rw[C3,wrap64 (by omega) (by omega)];omega);have ac:w64 ((G:Int)+1)=((G+1:Nat):Int):=B7 (by omega);intro n
 induction n with
 |zero=>intro c d C B hn hc K Q hE he hG hB;have:c=G:=(by omega);subst this;rw[KT,bA];simp only;rw[ew,d9 (by omega),f9];exact⟨d,C,rfl,K,Q,hE,he,Fx.refl _ _ _ _ _,rfl,rfl⟩
 |succ n ih=>
  intro c d C B hn hc K Q hE he hG hB;have H:c<ks.length:=(by omega);have N:G+1<ks.length:=(by omega);have hp:=aa _ (B0 H);have ab:=K.nodes;have ai:=K.marks;have ae:=K.big;have L:ks[c]<d.P.Ms.length:=(by omega);obtain⟨f,R,af,Z⟩:=Q.f;rw[KT,bA];simp only;rw[ew,f6 (by omega),l6,E3 H,d6,F9,F6 H,d6,ab,p9 hp,d6,d6,d6,p9 L,d6,ac,E3 N,d6,F9,F6 N,d6,YF d fi f R C (by omega) (by omega),d6,B7 (by omega)];have tI:d.F.Code=0->E4 d.P.To d.P.Ms[ks[c]].Ts:=λU=>by obtain⟨m,Y,h2⟩:=hG U _ (B0 H) (V c H (by omega));rw[w9 L]at Y;cases Y;exact h2
  have J:((c:Int)+1)=((c+1:Nat):Int):=(by omega);have O:=MJ Q R (by omega) l[ks[c]].Ds d.P.Ms[ks[c]].Ts (d.P.Do.length:Int);have M:=SK (fi:=fi) (t:=d.P.Ms[ks[c]].Ts) hE (by omega) Z l[ks[c]].Ds ((ks[G+1]:Nat):Int) (d.P.Do.length:Int);rw[J]at O M;obtain⟨I,z,r1,r2,r3,r4,r5,r6,r7,r8⟩:=ih (c+1) (Ad d fi f l[ks[c]].Ds d.P.Ms[ks[c]].Ts (d.P.Do.length:Int)) _ (B+2) (by omega) (by omega) (a0g K R _ _ _ tI) O M (by simp;exact he) (λU p X S=>hG U p X S) (by omega);exact⟨I,z,r1,r2.more (by omega),r3,r4,r5,(HC l R _ _ _ 0 0).trans r6 (l5 _) (l5 _) (l5 _) (l5 _),r7,r8⟩
section
variable{l:List d7}(hM:L0 l)(hl:l.length<=30000)(htx:∀n∈l,n.Ds.length<=65536)
include hM hl htx
theorem a7B{ks:List Nat}{B k st c1:Nat}(I:∀(i:Nat) (O:i<ks.length),i<B->kd l ks[i]=5)(K:∀O:B<ks.length,14<=kd l ks[B]/\kd l ks[B]<=20)(R:ks.length=B+2)(Z:Kc l (k+1) st ks)(hc:∀h:B+1<ks.length,ks[B+1]=c1):∀i,k<i->i<c1->c1<=st->kd l i<7\/13<kd l i:=by
 intro i O h2 h3;obtain⟨p,hp,y,U,C,a2,a3,S,a5,a6⟩:=Z.cover i (by omega) (by omega);obtain⟨j,M,rfl⟩:=List.getElem_of_mem hp;by_cases cj:j<B
 ·have Q:=I j M cj;rw[x4 C]at Q;obtain⟨J,Y,z1,z2,z3,z4,V,z6,z7⟩:=hM.nd _ y C;by_cases e:i=ks[j]
  ·rw[e,x4 C];omega
  ·have H:J=U:=(by omega);subst H;obtain⟨L,G,y2,q3,N,b2,X,b4,b5,b6⟩:=V.cover i (by omega) S;have z:I3 (kd l L)∈G8 l Y:=List.mem_map.2 ⟨L,G,rfl⟩;rw[z6.k3 (.inr (.inl Q))]at z;simp at z;have F:=Z8 z;rw[x4 N]at F;have:=Ht hM hl htx _ L y2 q3 N b2 rfl (by omega) i X b4;omega
 ·by_cases cn:j=B
  ·subst cn;have F:=K M;rw[x4 C]at F;have:=Ht hM hl htx _ ks[j] y U C a2 rfl F i a3 S;omega
  ·have ej:j=B+1:=(by omega);subst ej;have:=hc M;omega
theorem a63(nr fi:Nat)(s:d8)(B:Nat)(hR:RI l nr B s)(f:x8)(U:s.P.As[fi]? =some f)(hZ:f.Ss=0/\f.Ps<=20)(hP:s.F.Code=0->PmF l s f)(hB:B+10*l.length<=70000000000):∃(O:d8) (k st:Nat) (x:d7),xQ d5 s (fi:Int)=some ((O,()),())/\RI l nr (B+10*l.length) O/\f.Gs=(k:Int)/\l[k]? =some x/\x.Ks=4/\x.Cs=(st:Int)-(k+1)/\Gx l fi s O (k+1) st/\(O.F.Code=0->∃f',O.P.As[fi]? =some f'/\Mc l O f')/\(O.F.Code=0->PT l fi s O k st):=by
 have I:=(o9.1 U).1;have ab:=hR.nodes;have ac:=hR.big;unfold tot at ac;obtain⟨k,x,hk,hx,X,am,_⟩:=hR.fn f (O8 U);obtain⟨st,ks,t1,t2,t3,t4,S,t6,t7⟩:=hM.nd k x hx;have au:=S.le;obtain⟨M,n1,n2,n3,n4,n5⟩:=Qy t6 X;have al:∀p∈ks,p<l.length:=λp hp=>by obtain⟨_,h2,_⟩:=S.mem p hp;omega
 have hz:([]:List x8).length+s.P.As.length<=100000000000:=(by rw[K8];omega);rw[b1O,fH,Ao (by decide) hz,d6,U7,p9 I,d6,F9,U,d6,d6];simp only[U8,d6];have g1:(s.P.As.set fi ⟨f.If,f.Gs,f.Ps,f.By,s.P.Ss.length,f.Ss,f.Js,f.Do⟩)[fi]? =some ⟨f.If,f.Gs,f.Ps,f.By,s.P.Ss.length,f.Ss,f.Js,f.Do⟩:=T0 I;have l1:fi<(s.P.As.set fi ⟨f.If,f.Gs,f.Ps,f.By,s.P.Ss.length,f.Ss,f.Js,f.Do⟩).length:=(by rw[Hf];exact I);rw[p9 l1,d6,g1,d6,d6,List.set_set];simp only;have g2:(s.P.As.set fi ⟨f.If,f.Gs,f.Ps,f.By,s.P.Ss.length,f.Ss,s.P.Do.length,f.Do⟩)[fi]? =some ⟨f.If,f.Gs,f.Ps,f.By,s.P.Ss.length,f.Ss,s.P.Do.length,f.Do⟩:=T0 I;have l2:fi<(s.P.As.set fi ⟨f.If,f.Gs,f.Ps,f.By,s.P.Ss.length,f.Ss,s.P.Do.length,f.Do⟩).length:=(by rw[Hf];exact I);rw[p9 l2,d6,g2,d6,d6];simp only;rw[ab,hk,Z0 (by omega) hx t1 t3 S,d6];have e0:(d8.mk (w8.mk l s.P.Ms s.P.To s.P.Rs s.P.Hs (s.P.As.set fi ⟨f.If,f.Gs,f.Ps,f.By,s.P.Ss.length,f.Ss,s.P.Do.length,f.Do⟩) s.P.Ss s.P.Vars s.P.Do) s.Rs s.F)=fnS s fi ⟨f.If,f.Gs,f.Ps,f.By,s.P.Ss.length,f.Ss,s.P.Do.length,f.Do⟩:=(by rw[<-ab];rfl);rw[<-hk,e0];have ao:=YZ hR U (g:=⟨f.If,f.Gs,f.Ps,f.By,s.P.Ss.length,f.Ss,s.P.Do.length,f.Do⟩) rfl rfl rfl;have ad:=qN l U (g:=⟨f.If,f.Gs,f.Ps,f.By,s.P.Ss.length,f.Ss,s.P.Do.length,f.Do⟩) rfl rfl rfl (k+1) st;have af:FI (fnS s fi ⟨f.If,f.Gs,f.Ps,f.By,s.P.Ss.length,f.Ss,s.P.Do.length,f.Do⟩) fi s.P.Ss.length ((0:Nat):Int):=⟨⟨_,g2,rfl,hZ.1⟩,by omega,by omega,by show(s.P.Ss.length:Int)+_=s.P.Ss.length;omega,by omega⟩;obtain⟨d',V,r1,r2,r3,r4,r5,r6,r7,r8⟩:=b1S hl nr fi s.P.Ss.length ks M n1 (by omega) al n3 (by have:=hZ.2;omega) _ 0 (fnS s fi ⟨f.If,f.Gs,f.Ps,f.By,s.P.Ss.length,f.Ss,s.P.Do.length,f.Do⟩) [] B rfl (D2 _) ao af (λv hv=>nomatch hv) rfl (λhg p hp ak=>hP hg k st x ks hk hx t1 S p hp ak) (by omega);have H:M+1<ks.length:=(by omega);have ew:w64 (((l9 ks).length:Int)-2)=(M:Int):=(by rw[C3,wrap64 (by omega) (by omega)];omega);have ai:w64 ((M:Int)+1)=((M+1:Nat):Int):=B7 (by omega);obtain⟨c1,aw,hK⟩:=S.drop (M+1) (by omega);rw[P0 H,R3 (by omega)]at hK;obtain⟨ek,y,q,hy,ae,aj,ar,Q⟩:=hK.first
 have hq:q=st:=(by cases Q;rfl);subst hq;have Y:=n5 H;rw[ek,x4 hy]at Y;obtain⟨J,S2,k1,L⟩:=(a7Y hM hl htx nr fi s.P.Ss.length (q-c1)).1 c1 y q rfl hy ae aj t3 Y d' V M _ r2 r3 r4 (by omega) (by omega);obtain⟨z,C,ap,aa⟩:=L.fi.f;have N:=(o9.1 C).1;have R:=L.ri.big;unfold tot at R;have ag:([]:List x8).length+J.P.As.length<=100000000000:=(by rw[K8];omega);have ei:(ks.map (λ(k:Nat)=>(k:Int)))=l9 ks:=rfl;rw[ei,show aW d5 (fi:Int) ((l9 ks,()),()) 0 _ []=_ from r1,a9h,bZ];simp only;rw[ew,ai,E3 H,d6,F9,F6 H,d6,ek,k1,d6];simp only;rw[Ao (by decide) ag,d6,U7,p9 N,d6,F9,C,d6,d6,d6,d6,d6];simp only[U8,d6];have an:=qN l C (g:=⟨z.If,z.Gs,z.Ps,z.By,z.At,z.Ss,z.Js,w64 ((J.P.Do.length:Int)-z.Js)⟩) rfl rfl rfl (k+1) q;have hX:Gx l fi s (fnS J fi ⟨z.If,z.Gs,z.Ps,z.By,z.At,z.Ss,z.Js,w64 ((J.P.Do.length:Int)-z.Js)⟩) (k+1) q:=by
  have ah:Gx l fi (fnS s fi ⟨f.If,f.Gs,f.Ps,f.By,s.P.Ss.length,f.Ss,s.P.Do.length,f.Do⟩) d' (k+1) q:=by have:=r6.gx;exact⟨this.types,λi _=>this.marks i (by omega),this.par,this.recs,this.fields,this.own,this.bad,this.flen,this.foth,this.fcur,this.slots⟩
  exact((ad.trans ah (l5 _) (l5 _) (l5 _) (l5 _)).trans L.fx.gx (l5 _) (l5 _) (by omega) (l5 _)).trans an (l5 _) (l5 _) (l5 _) (l5 _)
 refine⟨_,k,q,x,rfl,RI.more (B:=B+2*(M-0)+6*(q-c1)) (YZ L.ri C rfl rfl rfl) (by omega),hk,hx,X,t1,hX,λhg=>?_,λhg=>?_⟩
 ·obtain⟨f3,Z,a1,a2,a3⟩:=hX.fcur f U;have K:(fnS J fi ⟨z.If,z.Gs,z.Ps,z.By,z.At,z.Ss,z.Js,w64 ((J.P.Do.length:Int)-z.Js)⟩).P.As[fi]? =some ⟨z.If,z.Gs,z.Ps,z.By,z.At,z.Ss,z.Js,w64 ((J.P.Do.length:Int)-z.Js)⟩:=(by unfold fnS;simp only;rw[T0 N]);rw[K]at Z;cases Z;have aq:=L.fi.sum;have av:=L.fi.at0;refine⟨_,K,k,q,M,c1,x,ks,a1.trans hk,hx,t1,S,n1,by rw[w9 H,ek],by rw[a2,am];exact n2,by simp only;omega,by have:=L.sl;simp only;omega,by show z.At+z.Ss<=J.P.Ss.length;omega,by have:=L.fi.s2;show z.Ss<=200;omega,λi h1 h2=>?_⟩;obtain⟨z1,z2⟩:=L.nd hg i h1 h2;rw[<-aa]at z1 z2;exact⟨z1.gx (qN l C (g:=⟨z.If,z.Gs,z.Ps,z.By,z.At,z.Ss,z.Js,w64 ((J.P.Do.length:Int)-z.Js)⟩) rfl rfl rfl 0 0) (.inr (by omega)),z2.gx (qN l C (g:=⟨z.If,z.Gs,z.Ps,z.By,z.At,z.Ss,z.Js,w64 ((J.P.Do.length:Int)-z.Js)⟩) rfl rfl rfl 0 0) (.inr (by omega))⟩
 ·have hP:=L.pt hg;have G:∀i,k<=i->i<c1->kd l i<7\/13<kd l i:=λi h1 h2=>by
   by_cases e:i=k
   ·subst e;rw[x4 hx];omega
   ·exact a7B hM hl htx n3 n4 n1 S (λ_=>ek) i (by omega) h2 (by omega)
  have e0:stI l k q=stI l c1 q:=(by rw[Mv l (show k<=c1 by omega) (show c1<=q by omega),Qx G,U7]);have eP:d'.P.Do=s.P.Do:=r8;refine⟨?_,λi hi=>?_⟩
  ·show J.P.Do=_;rw[e0,hP.pts,eP]
  ·rw[e0]at hi;obtain⟨m,m1,m2⟩:=hP.num i hi;obtain⟨⟨c,_⟩,_⟩:=Pm hi;refine⟨m,m1,?_⟩;rw[m2,eP,Mv l (show k<=c1 by omega) c,Qx G,U7]
end
end
section
def en(l:List d7)(k:Nat):Nat:=match l[k]? with|some x=>k+1+x.Cs.toNat|none=>k
theorem jH{l:List d7}{k st:Nat}{x:d7}(hx:l[k]? =some x)(z:x.Cs=(st:Int)-(k+1))(h:k+1<=st):en l k=st:=by unfold en;rw[hx];simp only;omega
def Hq(l:List d7):Nat->List Nat->List Q8
 |_,[]=>[]
 |fi,k::ts=>(stI l k (en l k)).map (Yu l fi)++Hq l (fi+1) ts
theorem rG(l:List d7)(fi k:Nat)(ts:List Nat):Hq l fi (k::ts)=(stI l k (en l k)).map (Yu l fi)++Hq l (fi+1) ts:=rfl
theorem QA(l:List d7):∀(a b:List Nat) (fi:Nat),Hq l fi (a++b)=Hq l fi a++Hq l (fi+a.length) b
 | [],b,fi=>rfl
 |k::a,b,fi=>by rw[List.cons_append,rG,rG,QA l a b (fi+1),G5,F8,show fi+1+a.length=fi+(a.length+1) by omega]
structure Pts(l:List d7)(s:d8)(ts:List Nat)(n:Nat):Prop where
 pts:s.P.Do=Hq l 0 (ts.take n)
 num:∀j k,j<n->ts[j]? =some k->∀p∈stI l k (en l k),∃m,s.P.Ms[p]? =some m/\m.Qs=((Hq l 0 (ts.take j)).length:Int)+((stI l k p).length:Int)
theorem Pts.more{l:List d7}{s C:d8}{ts:List Nat}{n k lo hi:Nat}(h:Pts l s ts n)(G:ts[n]? =some k)(J:PT l n s C k (en l k))(N:∀i:Nat,(i<lo\/hi<=i)->C.P.Ms[i]? =s.P.Ms[i]?)(hd:∀j B,j<n->ts[j]? =some B->en l B<=lo):Pts l C ts (n+1):=by
 obtain⟨M,K⟩:=o9.1 G;have e:ts.take (n+1)=ts.take n++[k]:=(by rw[List.take_add_one,G];rfl);have L:(ts.take n).length=n:=(by rw[List.length_take];omega);refine⟨?_,λj B O z p H=>?_⟩
 ·rw[J.pts,h.pts,e,QA,L,Nat.zero_add];rw[rG];exact congrArg _ (T4 _).symm
 ·by_cases c:j=n
  ·subst c;rw[G]at z;cases z;obtain⟨m,I,F⟩:=J.num p H;exact⟨m,I,by rw[F,h.pts]⟩
  ·obtain⟨m,I,F⟩:=h.num j B (by omega) z p H;obtain⟨⟨_,d⟩,_⟩:=Pm H;have:=hd j B (by omega) z;exact⟨m,by rw[N p (.inl (by omega))];exact I,F⟩
structure Zq(l:List d7)(s:d8)(nr:Nat):Prop where
 ri:RI l nr 70000000000 s
 good:s.F.Code=0
 recs:s.P.Rs.length=nr
 nr100:nr<=100
 fns:∀f∈s.P.As,Mc l s f
 pm:∀f∈s.P.As,PmF l s f
 fn100:s.P.As.length<=100
 order:∃ts:List Nat,s.P.As.map x8.Gs=l9 ts/\ts.Pairwise (· < ·)
 pts:∃ts:List Nat,s.P.As.map x8.Gs=l9 ts/\Pts l s ts ts.length
section
variable{l:List d7}(hM:L0 l)
include hM
theorem a4T:∀(n b:Nat) (x:d7) (q:Nat),l[b]? =some x->x.Cs=(q:Int)-(b+1)->q-b=n->5<=x.Ks->∀j,b<=j->j<q->5<=kd l j:=by
 intro n
 induction n using Nat.strongRecOn with
 |_ n ih=>
 intro b x q hx Z hn K j V J;obtain⟨st,ks,Y,Q,R,S,O,B,U⟩:=hM.nd b x hx;have G:st=q:=(by omega);subst G;by_cases e:j=b
 ·subst e;rw[x4 hx];exact K
 obtain⟨k,C,y,I,H,N,L,M,X,a6⟩:=O.cover j (by omega) J;have z:I3 (kd l k)∈G8 l ks:=List.mem_map.2 ⟨k,C,rfl⟩;have F:5<=kd l k:=by
  by_cases c5:x.Ks=3\/x.Ks=5\/x.Ks=20
  ·rw[B.k3 c5]at z;simp at z;have:=Z8 z;omega
  by_cases c6:x.Ks=6
  ·have:=fK (B.k6 c6 _ z);omega
  by_cases c7:x.Ks=7
  ·rw[B.k7 c7]at z;simp at z;rcases z with h|h
   ·have:=Z8 h;omega
   ·have:=M2 h;omega
  by_cases c8:8<=x.Ks/\x.Ks<=13
  ·have:=WU B c8 k C;omega
  by_cases c27:x.Ks=27
  ·have:=M2 (B.k27 c27 _ z);omega
  by_cases c28:x.Ks=28\/x.Ks=31
  ·rw[B.k28 c28]at z;simp at z;have:=M2 z;omega
  by_cases c29:x.Ks=12\/x.Ks=29\/x.Ks=30
  ·rw[B.k12 c29]at z;simp at z;have:=M2 z;omega
  by_cases c32:x.Ks=32
  ·rcases B.k32 c32 with⟨h,_⟩|⟨h,_⟩
   ·rw[h]at z;simp at z;have:=Z8 z;omega
   ·rw[h]at z;simp at z;rcases z with h|h
    ·have:=Z8 h;omega
    ·have:=M2 h;omega
  ·have:=(B.kr (by omega)).1;rw[this]at z;exact nomatch z
 rw[x4 H]at F;exact ih (I-k) (by omega) k y I H N rfl F j L M
theorem GU(b:Nat)(x:d7)(q:Nat)(hx:l[b]? =some x)(hs:x.Cs=(q:Int)-(b+1))(M:x.Ks=4):∀j,b<j->j<q->5<=kd l j:=by
 intro j Z H;obtain⟨st,ks,t1,U,V,X,R,K,Y⟩:=hM.nd b x hx;have B:st=q:=(by omega);subst B;obtain⟨C,n1,n2,J,L,I⟩:=Qy K M;obtain⟨k,F,y,S,G,Q,N,O,a5,a6⟩:=R.cover j (by omega) H;obtain⟨i,hi,rfl⟩:=List.getElem_of_mem F;have z:5<=kd l ks[i]:=by
  by_cases c:i<C
  ·have:=J i hi c;omega
  ·by_cases c2:i=C
   ·subst c2;have:=L hi;omega
   ·have:i=C+1:=(by omega);subst this;have:=I hi;omega
 rw[x4 G]at z;exact a4T hM _ ks[i] y S G Q rfl z j N O
end
theorem Gx.nodes{l:List d7}{fi:Nat}{s z:d8}{lo hi:Nat}(h:Gx l fi s z lo hi):z.P.As.map x8.Gs=s.P.As.map x8.Gs:=by
 apply List.ext_getElem?
 intro i;rw[P2,P2];by_cases e:i=fi
 ·subst e;cases B:s.P.As[i]? with
  |none=>
   have:z.P.As[i]? =none:=by rw[List.getElem?_eq_none_iff]at B⊢;rw[h.flen];exact B
   rw[this]
  |some f=>obtain⟨G,C,F,_⟩:=h.fcur f B;rw[C];simp[F]
 ·rw[h.foth i e]
theorem Mc.gx{l:List d7}{fi:Nat}{s C:d8}{lo hi:Nat}{f:x8}(h:Mc l s f)(e:Gx l fi s C lo hi)(hd:∀(k st:Nat) (x:d7),f.Gs=(k:Int)->l[k]? =some x->x.Cs=(st:Int)-(k+1)->∀i,k<i->i<st->i<lo\/hi<=i):Mc l C f:=by obtain⟨k,st,O,G,x,ks,L,M,H,J,X,K,Q,N,Y,V,B,z⟩:=h;have I:=e.slots.length_le;refine⟨k,st,O,G,x,ks,L,M,H,J,X,K,Q,N,Y,by omega,B,λi U F=>?_⟩;obtain⟨S,R⟩:=z i U F;have Z:=(J.mem G (O8 K)).1;have:=hd k st x L M H i (by omega) F;exact⟨S.gx e this,R.gx e this⟩
section
variable{l:List d7}(hM:L0 l)(hl:l.length<=30000)(htx:∀n∈l,n.Ds.length<=65536)
include hM hl htx
theorem a8U(nr N:Nat)(hN:N<=100)(ts:List Nat)(ag:ts.Pairwise (· < ·)):∀(n i:Nat) (s:d8) (B:Nat),N-i=n->i<=N->RI l nr B s->s.P.As.length=N->s.P.As.map x8.Gs=l9 ts->(s.F.Code=0->(∀f∈s.P.As,PmF l s f)/\(∀(j:Nat) (f:x8),j<i->s.P.As[j]? =some f->Mc l s f))->(∀(j:Nat) (f:x8),i<=j->s.P.As[j]? =some f->f.Ss=0/\f.Ps<=20)->B+(10*l.length)*n<=69000000000->(s.F.Code=0->Pts l s ts i)->∃G,Km d5 (N:Int) (i:Int) s=Wt d5 G/\RI l nr (B+(10*l.length)*n) G/\G.P.Rs=s.P.Rs/\G.P.As.length=N/\G.P.As.map x8.Gs=l9 ts/\(s.F.Code≠0->G.F.Code≠0)/\(G.F.Code=0->(∀f∈G.P.As,PmF l G f)/\(∀f∈G.P.As,Mc l G f)/\Pts l G ts N):=by
 intro n
 induction n with
 |zero=>intro i s B hn hi hR I z hg hz hB hQ;rw[oE,Nk,d9 (by omega),f9];refine⟨s,rfl,hR.more (by omega),rfl,I,z,id,λh=>⟨(hg h).1,λf hf=>?_,(show i=N by omega)▸hQ h⟩⟩;obtain⟨j,R,rfl⟩:=List.getElem_of_mem hf;exact(hg h).2 j _ (by omega) (w9 R)
 |succ n ih=>
  intro i s B hn hi hR I z hg hz hB hQ;rw[Nat.mul_succ]at hB;have aj:i<s.P.As.length:=(by omega);rw[oE,Nk,f6 (by omega),l6,V6,d6,B7 (by omega)];by_cases V:s.F.Code=0
  ·rw[f6 V,B8,F4,l6];have hf:s.P.As[i]? =some s.P.As[i]:=w9 aj;obtain⟨s1,k,st,x,r1,r2,r3,r4,r5,r6,K,r8,r9⟩:=a63 hM hl htx nr i s B hR _ hf (hz i _ (l5 _) hf) (λ_=>(hg V).1 _ (B0 aj)) (by omega);have X:=K.nodes.trans z;have af:∃(h:i<ts.length),ts[i]=k:=by
    have H:=congrArg (λL=>L[i]?) z;simp only[P2,hf,G6]at H;have Q:i<ts.length:=by have:=congrArg List.length z;rw[F5,C3]at this;omega
    rw[F6 Q,r3]at H;injection H with H
    exact⟨Q,by omega⟩
   obtain⟨Z,an⟩:=af;rw[r1,d6];obtain⟨G,z1,z2,z3,z4,z5,z6,z7⟩:=ih (i+1) s1 (B+10*l.length) (by omega) (by omega) r2 (by rw[K.flen];exact I) X (λaa=>by
    obtain⟨p1,p2⟩:=hg V;refine⟨λf ar=>?_,λj f R C=>?_⟩
    ·
     obtain⟨j,R,rfl⟩:=List.getElem_of_mem ar;have ai:j<s.P.As.length:=(by rw[<-K.flen];exact R);have ab:s1.P.As[j].Gs=s.P.As[j].Gs:=by have:=congrArg (λL=>L[j]?) K.nodes;simp only[P2,w9 R,w9 ai,G6]at this;injection this
     intro U M x0 aq a1 a2 a3 a4 p hp ah;exact(p1 _ (B0 ai) U M x0 aq (ab.symm.trans a1) a2 a3 a4 p hp ah).gx ah K
    ·by_cases e:j=i
     ·subst e;obtain⟨f',b1,b2⟩:=r8 aa;rw[C]at b1;cases b1;exact b2
     ·rw[K.foth j e]at C;refine(p2 j f (by omega) C).gx K (λU M x0 a1 a2 a3 i' H h2=>?_);have O:∃(h:j<ts.length),ts[j]=U:=by
       have H:=congrArg (λL=>L[j]?) z;simp only[P2,C,G6]at H;have S:j<ts.length:=(by omega);rw[F6 S,a1]at H;injection H with H
       exact⟨S,by omega⟩
      obtain⟨au,ax⟩:=O;have Y:U<k:=by have:=List.pairwise_iff_getElem.1 ag j i au Z (by omega);omega
      have ac:x0.Ks=4:=by obtain⟨kk,xx,c1,c2,c3,_⟩:=hR.fn f (O8 C);have:kk=U:=(by omega);subst this;rw[a2]at c2;cases c2;exact c3
      have:¬k<M:=λJ=>by have:=GU hM U x0 M a2 a3 ac k Y J;rw[x4 r4]at this;omega
      left
      omega) (λj f R C=>by rw[K.foth j (by omega)]at C;exact hz j f (by omega) C) (by omega) (λaa=>by
    have al:=(hM.nd k x r4);obtain⟨az,aw,y1,y2,y3,y4,y5,_⟩:=al;have yl:=y5.le;have ao:k+1<=st:=(by omega);have ap:=jH r4 r6 ao;refine(hQ V).more (lo:=k+1) (hi:=st) (by rw[w9 Z,an]) (by rw[ap];exact r9 aa) K.marks (λj U R am=>?_);obtain⟨O,ay⟩:=o9.1 am;have ad:j<s.P.As.length:=(by omega);have C:s.P.As[j]? =some s.P.As[j]:=w9 ad;have H:=congrArg (λL=>L[j]?) z;simp only[P2,C,G6]at H;rw[F6 O]at H;injection H with H
    obtain⟨kk,xx,c1,c2,c3,_⟩:=hR.fn _ (B0 ad);have ak:kk=U:=(by omega);subst ak;have Y:kk<k:=by have:=List.pairwise_iff_getElem.1 ag j i O Z (by omega);omega
    obtain⟨ae,av,w1,w2,w3,w4,w5,_⟩:=hM.nd kk xx c2;have wl:=w5.le;rw[jH c2 w1 (by omega)];have:¬k<ae:=λJ=>by have:=GU hM kk xx ae c2 w1 c3 k Y J;rw[x4 r4]at this;omega
    omega)
   exact⟨G,z1,z2.more (by rw[Nat.mul_succ];omega),z3.trans K.recs,z4,z5,λh=>absurd V h,z7⟩
  ·rw[d9 V,F4,B8,f9];obtain⟨G,z1,z2,z3,z4,z5,z6,z7⟩:=ih (i+1) s B (by omega) (by omega) hR I z (λh=>absurd h V) (λj f R C=>hz j f (by omega) C) (by omega) (λh=>absurd h V);exact⟨G,z1,z2.more (by rw[Nat.mul_succ];omega),z3,z4,z5,z6,z7⟩
theorem a90(N:Int)(s:d8)(B:N<=100000000000)(z:s.F.Code≠0):∀(n i:Nat),N.toNat-i=n->Km d5 N (i:Int) s=Wt d5 s:=by
 intro n
 induction n with
 |zero=>intro i hi;rw[oE,Nk,d9 (by omega),f9]
 |succ n ih=>intro i hi;have e:=ih (i+1) (by omega);rw[oE,Nk,f6 (by omega),l6,V6,d6,d9 z,B7 (by omega)];exact e
end
end
section
def Re(l:List d7)(r:Option ((w8 × A7 × Unit) × Unit)):Prop:=∃(P:w8) (f:A7),r=some ((P,f,()),())/\(f.Code=0->∃s nr,P=s.P/\Zq l s nr/\L0 l)
theorem QW(s:d8)(f:A7):tot ⟨s.P,s.Rs,f⟩=tot s:=rfl
theorem a23(l:List d7)(s:d8)(z:s.F.Code≠0):Re l (Wt d5 s):=by rw[QS,Tn,V6,d6,d9 z];exact⟨_,_,rfl,λh=>absurd h z⟩
section
variable{l:List d7}(hM:L0 l)(hl:l.length<=30000)(htx:∀n∈l,n.Ds.length<=65536)
include hM hl htx
theorem AA(s:d8)(z:s.F.Code≠0)(C:tot s<=90000000000):Re l (Nm d5 s):=by have B:s.P.As.length<=tot s:=(by unfold tot;omega);rw[KE,Yw,show Km d5 (s.P.As.length:Int) 0 s=_ from a90 hM hl htx (s.P.As.length:Int) s (by omega) z _ 0 rfl];exact a23 l s z
theorem TT{nr:Nat}(V:nr<=100){s:d8}(N:RI l nr (40*(l.length+10)*(l.length+10)) s)(L:s.F.Code=0->s.P.Rs.length=nr)(hZ:∀f∈s.P.As,f.At=0/\f.Ss=0/\f.Ps<=20)(hP:s.F.Code=0->(∀f∈s.P.As,PmF l s f)/\(∃ts:List Nat,s.P.As.map x8.Gs=l9 ts/\ts.Pairwise (· < ·))/\s.P.As.length<=100)(X:s.P.Do=[]):Re l (oP d5 s):=by
 have e2:40*(l.length+10)*(l.length+10)=40*((l.length+10)*(l.length+10)):=Nat.mul_assoc _ _ _;have I:(l.length+10)*(l.length+10)<=30010*30010:=Nat.mul_le_mul (by omega) (by omega);have J:=N.big;have U:tot s<=90000000000:=G2 J (by rw[e2];exact G2 (Nat.mul_le_mul_left 40 I) (by decide));have aa:s.P.As.length<=tot s:=(by unfold tot;omega);rw[b3k,nY,V6,d6];by_cases H:s.F.Code=0
 ·rw[f6 H,B8,F4,l6];obtain⟨Q,⟨ts,G,C⟩,K⟩:=hP H;obtain⟨n,hn,n1,n2⟩:=VT s (by omega) ([109,97,105,110]:b6H);rw[hn,d6];by_cases c0:n<0
  ·rw[f6 c0];exact AA hM hl htx ⟨s.P,s.Rs,⟨11,0,0⟩⟩ (show(11:Int)≠0 by decide) (by rw[QW];exact U)
  ·have en:n=((n.toNat:Nat):Int):=(by omega);have B:n.toNat<s.P.As.length:=(by omega);have M:s.P.As[n.toNat]? =some s.P.As[n.toNat]:=w9 B;have ok:Re l (Nm d5 s):=by
    have Z:(10*l.length)*s.P.As.length<=(10*l.length)*100:=Nat.mul_le_mul_left _ K;obtain⟨s',z1,z2,z3,z4,z5,z6,S⟩:=a8U hM hl htx nr s.P.As.length K ts C _ 0 s _ rfl (D2 _) N rfl G (λ_=>⟨Q,λj f Y _=>absurd Y (Nat.not_lt_zero _)⟩) (λj f _ hf=>(hZ f (O8 hf)).2) (by simp only[Nat.sub_zero];omega) (λ_=>⟨X,λj k Y=>absurd Y (Nat.not_lt_zero _)⟩);have O:ts.length=s.P.As.length:=by have:=congrArg List.length G;rw[F5,C3]at this;omega
    rw[KE,Yw,show Km d5 (s.P.As.length:Int) 0 s=_ from z1,QS,Tn,V6,d6];by_cases z:s'.F.Code=0
    ·rw[f6 z];simp only[Nat.sub_zero]at z2;exact⟨_,_,rfl,λ_=>⟨s',nr,rfl,⟨z2.more (by omega),z,by rw[z3];exact L H,V,(S z).2.1,(S z).1,by omega,⟨ts,z5,C⟩,⟨ts,z5,by rw[O];exact(S z).2.2⟩⟩,hM⟩⟩
    ·rw[d9 z];exact⟨_,_,rfl,λh=>absurd h z⟩
   have j2:Re l (tP d5 ((n,()),()) s):=by obtain⟨k,x,a1,a2,_⟩:=N.fn _ (B0 B);have R:=(o9.1 a2).1;obtain⟨f,f1,f2⟩:=Bg s 11 (by decide) k (by rw[N.nodes];exact R);rw[a7j,cY];simp only;rw[en,p9 B,d6,F9,M,d6,d6,a1,Pd,f1,d6];exact AA hM hl htx ⟨s.P,s.Rs,f⟩ f2 (by rw[QW];exact U)
   have gN:f7 s.P.As n=some s.P.As[n.toNat]:=Rf (by omega) n2;have gT:s.P.As[Int.toNat n]? =some s.P.As[n.toNat]:=M;rw[d9 c0,f9];simp only;rw[gN,d6,gT,d6,d6];cases decide (s.P.As[n.toNat].Ps>0)with
   |true=>exact j2
   |false=>
    rw[f9,d6,d6,d6];cases decide (s.P.As[n.toNat].By=0)with
    |true=>exact ok
    |false=>exact j2
 ·rw[d9 H];exact AA hM hl htx s H U
end
theorem a84{l:List d7}(hl:l.length<=30000)(htx:∀n∈l,n.Ds.length<=65536):Re l (zM d5 l):=by
 obtain⟨b,M,L⟩:=RD (by omega) htx;rw[a3q,kC,M,d6];cases b with
 |false=>exact⟨_,_,rfl,λh=>absurd h (by decide)⟩
 |true=>
  have hM:=L rfl;have G:Li 24 (l.length:Int):=(by unfold Li maxLen;omega);obtain⟨Q,nr,O,z,J⟩:=b5V hM hl htx (List.replicate (Int.toNat (l.length:Int)) ⟨0,0,0⟩) (by simp) (λm R=>by rw[List.eq_of_mem_replicate R]);have Y:20*(l.length+10)*(l.length+10)=20*((l.length+10)*(l.length+10)):=Nat.mul_assoc _ _ _;have X:40*(l.length+10)*(l.length+10)=40*((l.length+10)*(l.length+10)):=Nat.mul_assoc _ _ _;rw[B8,f9,Ak G,d6,O,d6,V6,d6];by_cases B:Q.F.Code=0
  ·obtain⟨V,K,S,H,U,N⟩:=b3P hM hl htx z;rw[f6 B,B8,F4,l6,K,d6];exact TT hM hl htx J S (λC=>by rw[H.recs];exact z.recs B) U N (by rw[H.points];exact z.points)
  ·rw[d9 B,F4,B8,f9];exact TT hM hl htx J (z.ri.more (by omega)) (λC=>absurd C B) (λf I=>by rw[z.fns]at I;exact nomatch I) (λC=>absurd C B) z.points
end
section
structure CI(l:List d7)(P:w8)(c:o0):Prop where
 nodes:c.L=l
 prog:c.P=P
 tys:c.T=P.To
 len:c.M.length=l.length
 ty:∀m∈c.M,0<=m.Ts/\m.Ts<P.To.length
 rf:∀(i:Nat) (m:l8),c.M[i]? =some m->∃m0,P.Ms[i]? =some m0/\m.Qs=m0.Qs/\(kd l i≠29->m.Es=m0.Es)/\(kd l i<21\/kd l i=32->m.Ts=m0.Ts)
theorem CI.fault{l:List d7}{P:w8}{c:o0}(h:CI l P c)(f:A7):CI l P ⟨c.L,c.M,c.P,c.T,f,c.By⟩:=⟨h.nodes,h.prog,h.tys,h.len,h.ty,h.rf⟩
structure Cx(c c':o0)(lo hi:Nat):Prop where
 marks:∀i:Nat,(i<lo\/hi<=i)->c'.M[i]? =c.M[i]?
 res:c'.By=c.By
 bad:c.F.Code≠0->c'.F.Code≠0
theorem Cx.refl(c:o0)(lo hi:Nat):Cx c c lo hi:=⟨λ_ _=>rfl,rfl,id⟩
theorem Cx.trans{c G z:o0}{lo hi B C lo2 hi2:Nat}(h:Cx c G lo hi)(F:Cx G z B C)(a:lo2<=lo)(b:hi<=hi2)(d:lo2<=B)(e:C<=hi2):Cx c z lo2 hi2:=⟨λi hi=>(F.marks i (by omega)).trans (h.marks i (by omega)),F.res.trans h.res,λH=>F.bad (h.bad H)⟩
theorem Cx.fault(c:o0)(f:A7)(z:f.Code≠0)(lo hi:Nat):Cx c ⟨c.L,c.M,c.P,c.T,f,c.By⟩ lo hi:=⟨λ_ _=>rfl,rfl,λ_=>z⟩
theorem Lx(c:o0)(e:Int)(B:e≠0)(i:Nat)(hi:i<c.L.length):∃f:A7,Hv d5 c e (i:Int)=some (((⟨c.L,c.M,c.P,c.T,f,c.By⟩:o0),()),())/\f.Code≠0:=by
 rw[a7E,vQ];by_cases z:c.F.Code=0
 ·rw[f6 z,l6,p9 hi,d6,d6];exact⟨_,rfl,B⟩
 ·rw[d9 z];exact⟨c.F,rfl,z⟩
theorem Bn(c:o0)(b:Bool)(i:Nat)(hi:i<c.L.length):∃f:A7,N2 d5 c b (i:Int)=some (((⟨c.L,c.M,c.P,c.T,f,c.By⟩:o0),()),())/\(f.Code=0->c.F.Code=0/\b=true):=by
 rw[b4j,tR];cases b with
 |true=>exact⟨c.F,rfl,λh=>⟨h,rfl⟩⟩
 |false=>obtain⟨f,B,z⟩:=Lx c 9 (by decide) i hi;rw[f9,B];exact⟨f,rfl,λh=>absurd h z⟩
theorem a8G(T:List v7)(a b:Int):∃r,ED d5 T a b=some ((r,()),())/\(r=true->0<=a/\a<T.length/\0<=b/\b<T.length/\(a=b\/a=5)):=by
 rw[b0X,hO];by_cases z:a<0
 ·rw[f6 z];exact⟨_,rfl,λh=>nomatch h⟩
 by_cases C:b<0
 ·rw[d9 z,f6 C];exact⟨_,rfl,λh=>nomatch h⟩
 by_cases F:a>=(T.length:Int)
 ·rw[d9 z,d9 C,f6 F];exact⟨_,rfl,λh=>nomatch h⟩
 by_cases G:b>=(T.length:Int)
 ·rw[d9 z,d9 C,d9 F,f6 G];exact⟨_,rfl,λh=>nomatch h⟩
 rw[d9 z,d9 C,d9 F,d9 G,f9,f9,f9,f9];by_cases B:a=5
 ·have g:f7 T b=some T[b.toNat]:=Rf (by omega) (by omega);rw[f6 B,l6,g,d6,d6];cases decide (T[b.toNat].Ks=6)with
  |true=>exact⟨_,rfl,λ_=>⟨by omega,by omega,by omega,by omega,.inr B⟩⟩
  |false=>
   rw[f9];cases decide (T[b.toNat].Ks=7)with
   |true=>exact⟨_,rfl,λ_=>⟨by omega,by omega,by omega,by omega,.inr B⟩⟩
   |false=>exact⟨_,rfl,λ_=>⟨by omega,by omega,by omega,by omega,.inr B⟩⟩
 ·rw[d9 B];exact⟨_,rfl,λh=>⟨by omega,by omega,by omega,by omega,.inl (F3 h)⟩⟩
theorem Rq(c:o0)(a b:Int):∃r,Cz d5 c a b=some ((r,()),())/\(r=true->0<=a/\a<c.T.length/\0<=b/\b<c.T.length/\(a=b\/a=5)):=by obtain⟨r,B,z⟩:=a8G c.T a b;rw[a6N,gA,B];exact⟨r,rfl,z⟩
theorem Ua(c:o0)(t:Int)(h0:0<=t)(z:t<c.T.length):∃x,c.T[t.toNat]? =some x/\f7 c.T t=some x/\Oo d5 c t=some ((x.Ks,()),()):=by have hl:t.toNat<c.T.length:=(by omega);have g:f7 c.T t=some c.T[t.toNat]:=Rf h0 z;refine⟨c.T[t.toNat],w9 hl,g,?_⟩;rw[a26,rQ,g];rfl
theorem a3o(c:o0)(t x:Int)(h0:0<=t)(C:t<c.T.length)(hT:∀y,c.T[0]? =some y->y.Ks≠7):∃r,zC d5 c t x=some ((r,()),())/\(r=true->t≠0):=by
 obtain⟨y,F,G,B⟩:=Ua c t h0 C;rw[b2l,kR];cases decide (x=105)with
 |true=>exact⟨_,rfl,λh=>by have:=F3 h;omega⟩
 |false=>
  rw[f9];cases decide (x=99)with
  |true=>exact⟨_,rfl,λh=>by have:=F3 h;omega⟩
  |false=>
   rw[f9];cases decide (x=108)with
   |true=>
    rw[l6];by_cases c3:t=3
    ·rw[f6 c3];exact⟨_,rfl,λ_=>by omega⟩
    ·rw[d9 c3,f9,B,d6];refine⟨_,rfl,λh=>?_⟩;have z:=F3 h;rintro rfl;exact hT y F z
   |false=>
    rw[f9];by_cases c1:t=1
    ·rw[f6 c1];exact⟨_,rfl,λ_=>by omega⟩
    ·rw[d9 c1,f9];by_cases c2:t=2
     ·rw[f6 c2];exact⟨_,rfl,λ_=>by omega⟩
     ·rw[d9 c2];exact⟨_,rfl,λh=>by have:=F3 h;omega⟩
def Ku(c:o0)(i:Nat)(m:l8)(t:Int):o0:=⟨c.L,c.M.set i ⟨t,m.Es,m.Qs⟩,c.P,c.T,c.F,c.By⟩
theorem a7v(c:o0)(hl:c.M.length<=90000000)(i:Nat)(m:l8)(z:c.M[i]? =some m)(t:Int):xA d5 c (i:Int) t=some ((Ku c i m t,()),()):=by have hi:=(o9.1 z).1;have B:([]:List l8).length+c.M.length<=100000000:=(by rw[K8];omega);rw[a6G,jM,N5 (by decide) B,d6,U7,p9 hi,d6,F9,z,d6,d6];rfl
theorem CI.typed{l:List d7}{P:w8}{c:o0}(h:CI l P c){i:Nat}{m:l8}(C:c.M[i]? =some m)(t:Int)(h0:0<=t)(F:t<P.To.length)(K:21<=kd l i)(z:kd l i=32->t=m.Ts):CI l P (Ku c i m t):=by
 have hi:=(o9.1 C).1;refine⟨h.nodes,h.prog,h.tys,by unfold Ku;simp only[Hf];exact h.len,λx hx=>?_,λj x hx=>?_⟩
 ·rcases List.mem_or_eq_of_mem_set hx with hx|rfl
  ·exact h.ty x hx
  ·exact⟨h0,F⟩
 ·unfold Ku at hx;simp only at hx;by_cases e:j=i
  ·subst e;rw[T0 hi]at hx;cases hx;obtain⟨B,I,J,G,H⟩:=h.rf j m C;exact⟨B,I,J,G,λhh=>by
    rcases hh with hh|hh
    ·omega
    ·show t=B.Ts;rw[z hh];exact H (.inr hh)⟩
  ·rw[Bz (Ne.symm e)]at hx;exact h.rf j x hx
theorem Cx.typed(c:o0)(i:Nat)(m:l8)(t:Int)(lo hi:Nat)(C:lo<=i)(B:i<hi):Cx c (Ku c i m t) lo hi:=⟨λj z=>by unfold Ku;simp only;rw[Bz (by omega)],rfl,id⟩
def Su(n:Int):Nat:=if n=5 then 2 else if n=0\/n=7 then 0 else 1
theorem b4J(n:Int)(B:1<=n)(z:n<=8):∃(row:b6H) (t:Int),GA d5 n=some ((row,t,()),())/\row.length=Su n/\1<=t/\t<=4:=by have:n=1\/n=2\/n=3\/n=4\/n=5\/n=6\/n=7\/n=8:=(by omega);rw[a1k,lD];rcases this with rfl|rfl|rfl|rfl|rfl|rfl|rfl|rfl<;>exact⟨_,_,rfl,rfl,by decide,by decide⟩
theorem a7S(c:o0)(op a b:Int)(h6:6<=c.T.length)(hT:∀y,c.T[0]? =some y->y.Ks<5)(a0:0<=a)(a1:a<c.T.length)(b0:0<=b)(U:b<c.T.length):∃r:Int,AR d5 c op a b=some ((r,()),())/\0<=r/\r<=4/\(0<r->a≠0/\b≠0):=by
 obtain⟨x,x1,x2,X⟩:=Ua c a a0 a1;obtain⟨y,Y,y2,y3⟩:=Ua c b b0 U;have none:∃r:Int,Jm d5=some ((r,()),())/\0<=r/\r<=4/\(0<r->a≠0/\b≠0):=⟨0,a4R,by omega,by omega,λh=>by omega⟩;have zero:∃r:Int,(some ((0,()),()):Option RT2)=some ((r,()),())/\0<=r/\r<=4/\(0<r->a≠0/\b≠0):=⟨0,rfl,by omega,by omega,λh=>by omega⟩;have R:∃r:Int,sX d5 a b=some ((r,()),())/\0<=r/\r<=4/\(0<r->a≠0/\b≠0):=by
  rw[a3C,cH];by_cases e:a=b
  ·rw[f6 e,l6];by_cases p:a>0
   ·rw[f6 p];exact⟨2,rfl,by omega,by omega,λ_=>by omega⟩
   ·rw[d9 p];exact none
  ·rw[d9 e];exact none
 have J:∃r:Int,eN d5 a b ((x.Ks,()),()) ((y.Ks,()),()) c=some ((r,()),())/\0<=r/\r<=4/\(0<r->a≠0/\b≠0):=by
  rw[b4E,rV];by_cases F:x.Ks>=5
  ·by_cases S:y.Ks>=5
   ·have I:a≠0:=(by rintro rfl;have:=hT x x1;omega);have H:b≠0:=(by rintro rfl;have:=hT y Y;omega);obtain⟨V,g1,_⟩:=Rq c a b;obtain⟨r2,Z,_⟩:=Rq c b a;have C:∃r:Int,(((Cz d5 c a b)).bind λ(f:RT0)=>(cond f.1.1 (some ((2,()),())) (((Cz d5 c b a)).bind λ(h:RT0)=>(cond h.1.1 (some ((2,()),())) (some ((0,()),()))))))=some ((r,()),())/\0<=r/\r<=4/\(0<r->a≠0/\b≠0):=by
     rw[g1,Z];cases V with
     |true=>exact⟨2,rfl,by omega,by omega,λ_=>⟨I,H⟩⟩
     |false=>
      cases r2 with
      |true=>exact⟨2,rfl,by omega,by omega,λ_=>⟨I,H⟩⟩
      |false=>exact⟨0,rfl,by omega,by omega,λ_=>⟨I,H⟩⟩
    rw[f6 F,f6 S,l6,l6];cases decide (x.Ks=5)with
    |false=>exact C
    |true=>
     rw[B8,f9];cases decide (y.Ks=5)with
     |false=>exact C
     |true=>exact zero
   ·rw[f6 F,d9 S];exact R
  ·rw[d9 F];exact R
 rw[a50,vV,X,d6,y3,d6];by_cases G:op=6
 ·rw[f6 G];exact J
 by_cases L:op=7
 ·rw[d9 G,f6 L];exact J
 rw[d9 G,d9 L,f9,f9];by_cases e:a=b
 ·have M:∃r:Int,gY d5 a=some ((r,()),())/\0<=r/\r<=4/\(0<r->a≠0/\b≠0):=by
   rw[a2A,lH];by_cases c2:a=2
   ·rw[f6 c2];exact⟨2,rfl,by omega,by omega,λ_=>by omega⟩
   ·rw[d9 c2];exact none
  have K:∃r:Int,iF d5 op a=some ((r,()),())/\0<=r/\r<=4/\(0<r->a≠0/\b≠0):=by
   rw[a74,oR];by_cases c3:a=3
   ·rw[f6 c3,l6];by_cases N:op=1
    ·rw[f6 N];exact⟨3,rfl,by omega,by omega,λ_=>by omega⟩
    ·rw[d9 N];exact none
   ·rw[d9 c3];exact none
  rw[f6 e,B8,f9];by_cases z:op=14
  ·rw[f6 z];exact M
  by_cases B:op=15
  ·rw[d9 z,f6 B];exact M
  rw[d9 z,d9 B,f9,f9];by_cases O:op>=8
  ·rw[f6 O,l6];by_cases c1:a=1
   ·rw[f6 c1];exact⟨2,rfl,by omega,by omega,λ_=>by omega⟩
   ·rw[d9 c1];exact none
  ·rw[d9 O,f9];by_cases c1:a=1
   ·rw[f6 c1];exact⟨1,rfl,by omega,by omega,λ_=>by omega⟩
   ·rw[d9 c1,f9];by_cases c4:a=4
    ·rw[f6 c4,l6];by_cases Q:op<=3
     ·rw[f6 Q];exact⟨4,rfl,by omega,by omega,λ_=>by omega⟩
     ·rw[d9 Q];exact K
    ·rw[d9 c4];exact K
 ·rw[d9 e];exact zero
end
section
structure Ba(l:List d7)(P:w8)(nr:Nat):Prop where
 may:L0 l
 small:l.length<=30000
 tx:∀n∈l,n.Ds.length<=65536
 ty:Cb nr P.To
 tl:P.To.length<=70000000000
 recs:P.Rs.length=nr
 fl:∀f∈P.Hs,E4 P.To f.Ts
 fll:P.Hs.length<=70000000000
 rc:∀r∈P.Rs,0<=r.Vs/\0<=r.Ws/\r.Vs+r.Ws<=P.Hs.length
 fnr:∀f∈P.As,f.By=0\/E4 P.To f.By
 fnp:∀f∈P.As,0<=f.At/\0<=f.Ps/\f.At+f.Ps<=P.Ss.length
 sll:P.Ss.length<=70000000000
 sl:∀t∈P.Ss,E4 P.To t
structure EnC(l:List d7)(P:w8)(i:Nat):Prop where
 k26:kd l i=26->∃m,P.Ms[i]? =some m/\E4 P.To m.Ts
 k27:kd l i=27->∃m,P.Ms[i]? =some m/\(-8<=m.Es/\m.Es<= -1\/0<=m.Es/\m.Es<P.As.length)
 k32:kd l i=32->∃m,P.Ms[i]? =some m/\E4 P.To m.Ts
 k7:kd l i=7->∃m,P.Ms[i]? =some m/\E4 P.To m.Ts
structure EF(l:List d7)(P:w8)(M:List l8)(i:Nat):Prop where
 k27:kd l i=27->∀(x:d7) (st:Nat) (ks:List Nat),l[i]? =some x->x.Cs=(st:Int)-(i+1)->Kc l (i+1) st ks->∃m,M[i]? =some m/\(m.Es<0-> -8<=m.Es/\ks.length=Su (-m.Es)/\m.Ts≠0)/\(0<=m.Es->∃f,P.As[m.Es.toNat]? =some f/\f.Ps=ks.length/\m.Ts=f.By)
 k29:kd l i=29->∃m,M[i]? =some m/\0<=m.Es/\m.Es<=70000000000
 kid:21<=kd l i->∀(x:d7) (st:Nat) (ks:List Nat),l[i]? =some x->x.Cs=(st:Int)-(i+1)->Kc l (i+1) st ks->∀k∈ks,21<=kd l k->∃m,M[k]? =some m/\m.Ts≠0
theorem EF.same{l:List d7}{P:w8}{M M':List l8}{i:Nat}{x:d7}{st:Nat}(h:EF l P M i)(hx:l[i]? =some x)(O:x.Cs=(st:Int)-(i+1))(e:∀j,i<=j->j<st->M'[j]? =M[j]?)(N:i+1<=st):EF l P M' i:=by
 refine⟨λF y z ks H K I=>?_,λF=>?_,λF y z ks H K I k C J=>?_⟩
 ·obtain⟨m,B,G,L⟩:=h.k27 F y z ks H K I;exact⟨m,by rw[e i (l5 _) (by omega)];exact B,G,L⟩
 ·obtain⟨m,B,G⟩:=h.k29 F;exact⟨m,by rw[e i (l5 _) (by omega)];exact B,G⟩
 ·obtain⟨m,B,G⟩:=h.kid F y z ks H K I k C J;rw[hx]at H;cases H;obtain⟨c1,c2,_⟩:=I.mem k C;exact⟨m,by rw[e k (by omega) (by omega)];exact B,G⟩
theorem EF.other{l:List d7}{P:w8}{M:List l8}{i:Nat}(h:kd l i<21):EF l P M i:=⟨λz=>by omega,λz=>by omega,λz=>by omega⟩
def aF(l:List d7)(P:w8)(n:Nat):Prop:=∀(b:Nat) (x:d7) (q:Nat),q-b=n->l[b]? =some x->x.Cs=(q:Int)-(b+1)->b+1<=q->q<=l.length->21<=x.Ks->x.Ks<=32->∀c:o0,CI l P c->(∀i,b<=i->i<q->c.M[i]? =P.Ms[i]?/\EnC l P i)->
 ∃t c',V1 d5 c (b:Int)=some ((t,c',()),())/\CI l P c'/\Cx c c' b q/\0<=t/\t<P.To.length/\(c'.F.Code=0->(x.Ks≠27->t≠0)/\(∃m,c'.M[b]? =some m/\m.Ts=t)/\∀i,b<=i->i<q->EF l P c'.M i)
section
variable{l:List d7}{P:w8}{nr:Nat}(hC:Ba l P nr)
include hC
theorem b6k(K:Nat)(ks:List Nat)(ag:ks.length<=l.length)(ad:∀p∈ks,21<=kd l p/\kd l p<=32)(st:Nat)(af:st<=l.length)(N:Nat)(ih:∀m,m<N->aF l P m):∀(n e c0:Nat) (d:o0) (B:List Int),ks.length-e=n->e<=ks.length->Kc l c0 st (ks.drop e)->st-c0<N->CI l P d->(∀i,c0<=i->i<st->d.M[i]? =P.Ms[i]?/\EnC l P i)->B.length=e->(∀t∈B,0<=t/\t<(P.To.length:Int))->∃G z,aK d5 (K:Int) ((l9 ks,()),()) (e:Int) d B=DK d5 (K:Int) G ((l9 ks,()),()) z/\CI l P G/\Cx d G c0 st/\z.length=ks.length/\(∀t∈z,0<=t/\t<(P.To.length:Int))/\B<+:z/\(G.F.Code=0->(∀(j:Nat) (X:j<ks.length),e<=j->∃m,G.M[ks[j]]? =some m/\z[j]? =some m.Ts)/\∀i,c0<=i->i<st->EF l P G.M i):=by
 intro n;have ae:=hC.small
 induction n with
 |zero=>
  intro e c0 d B hn he S hN hI hM hl hr;have hc:c0=st:=by rw[R3 (by omega)]at S;cases S;rfl
  rw[PF,Ur];simp only[C3];rw[d9 (by omega),f9];exact⟨d,B,rfl,hI,Cx.refl _ _ _,by omega,hr,O9 _,λ_=>⟨λj X ab=>by omega,λi H O=>by omega⟩⟩
 |succ n ihn=>
  intro e c0 d B hn he S hN hI hM hl hr;have C:e<ks.length:=(by omega);have g:=E3 C;have ga:=F6 C;rw[P0 C]at S;obtain⟨ek,y,q,U,Q,R,L,J⟩:=S.first
  have I:=ad _ (B0 C);rw[ek,x4 U]at I;have n1:ks.length-(e+1)=n:=(by omega);have n2:e+1<=ks.length:=(by omega);have n3:st-q<N:=(by omega);have n4:q<=st:=L;have n5:c0<=q:=(by omega);have n6:B.length+1<=100000000:=(by omega);have n7:w64 ((e:Int)+1)=((e+1:Nat):Int):=B7 (by omega);have n8:(e:Int)<(ks.length:Int):=(by omega);have n9:B.length+1=e+1:=(by omega);obtain⟨t,d1,r1,r2,r3,r4,r5,r6⟩:=ih (q-c0) (by omega) c0 y q rfl U Q R (by omega) I.1 I.2 d hI (λi H O=>hM i H (by omega));have hz:B.length+ [t].length<=100000000:=n6;rw[PF,Ur];simp only[C3];rw[f6 n8,l6,g,d6,F9,ga,d6,ek,r1,d6];simp only;rw[N5 (by decide) hz,d6,n7];obtain⟨G,z,k1,k2,V,k4,k5,k6,k7⟩:=ihn (e+1) q d1 (B++[t]) n1 n2 J n3 r2 (λi H O=>by rw[r3.marks i (.inr H)];exact hM i (G2 n5 H) O) (by rw[t8,C2];exact n9) (λx hx=>by
   rcases A3.1 hx with hx|hx
   ·exact hr x hx
   ·rw[K4.1 hx];exact⟨r4,r5⟩)
  refine⟨G,z,k1,k2,r3.trans V (l5 _) L n5 (l5 _),k4,k5,(List.prefix_append _ _).trans k6,λhg=>?_⟩;obtain⟨z1,z2⟩:=k7 hg;have Z:d1.F.Code=0:=Y5 λhc=>V.bad hc hg;obtain⟨w1,⟨m,w2,w3⟩,w4⟩:=r6 Z;clear r6 k7;refine⟨λj X ab=>?_,λi H O=>?_⟩
  ·by_cases ej:j=e
   ·subst ej;refine⟨m,by rw[ek,V.marks c0 (.inl (by omega))];exact w2,?_⟩;have hp:(B++[t])[j]? =some t:=(by rw[Fb (by omega),hl,Nat.sub_self];rfl);have Y:j<(B++[t]).length:=(by rw[t8,C2];omega);obtain⟨ah,ac⟩:=k6;rw[<-ac,Ae Y,hp,w3]
   ·exact z1 j X (by omega)
  ·by_cases hi:i<q
   ·obtain⟨xx,kk,g1,g2,g3,g4,g5⟩:=(WFo.cons c0 q q y U Q R (by
      obtain⟨aa,_,t1,t2,t3,t4,_⟩:=hC.may.nd c0 y U;have:aa=q:=(by omega);subst this;exact t4) (WFo.nil q)).inside i H hi
    exact(w4 i H hi).same g1 g2 (λj h3 h4=>V.marks j (.inl (by omega))) g3
   ·exact z2 i (by omega) O
end
end
section
section
variable{l:List d7}{P:w8}{nr:Nat}(hC:Ba l P nr)
include hC
theorem b4Z(row:b6H)(t:Int)(ks:List Nat)(R:ks.length<=30000)(N:∀p∈ks,p<l.length)(G:List Int)(h1:row.length=ks.length)(h2:G.length=ks.length)(hr:∀t∈G,0<=t/\t<(P.To.length:Int)):∀(n i:Nat) (d:o0),ks.length-i=n->CI l P d->∃f:A7,Yb d5 ((row,t,()),()) ((l9 ks,()),()) (i:Int) d G=GZ d5 ((row,t,()),()) ⟨d.L,d.M,d.P,d.T,f,d.By⟩/\(f.Code=0->d.F.Code=0/\∀(j:Nat) (y:Int),i<=j->G[j]? =some y->y≠0):=by
 intro n
 induction n with
 |zero=>intro i d hi J;rw[VX,Xt];simp only[C3];rw[d9 (by omega),f9];exact⟨d.F,rfl,λh=>⟨h,λj y hj B=>by have:=(o9.1 B).1;omega⟩⟩
 |succ n ih=>
  intro i d hi J;have C:i<ks.length:=(by omega);have z:i<G.length:=(by omega);have K:i<row.length:=(by omega);have O:=N _ (B0 C);have I:=hr _ (B0 z);have H:=J.tys;obtain⟨r,Z,U⟩:=a3o d G[i] (row[i].toNat:Int) I.1 (by rw[H];exact I.2) (λy B=>by
   rw[H,hC.ty.base 0 (by omega)]at B;cases B
   decide)
  obtain⟨f,X,f2⟩:=Bn d r ks[i] (by rw[J.nodes];exact O);obtain⟨f',Q,k2⟩:=ih (i+1) ⟨d.L,d.M,d.P,d.T,f,d.By⟩ (by omega) (J.fault f);rw[VX,Xt];simp only[C3];rw[f6 (by omega),l6,p9 z,d6,F9,w9 z,d6,p9 K,d6,Z,d6,E3 C,d6,F6 C,d6,X,d6,B7 (by omega)];refine⟨f',Q,λS=>?_⟩;obtain⟨Y,V⟩:=k2 S;obtain⟨w1,w2⟩:=f2 Y;refine⟨w1,λj y hj B=>?_⟩;by_cases e:j=i
  ·subst e;rw[w9 z]at B;cases B;exact U w2
  ·exact V j y (by omega) B
theorem b4z(g:x8)(ks:List Nat)(R:ks.length<=30000)(N:∀p∈ks,p<l.length)(I:List Int)(h2:I.length=ks.length)(ha:0<=g.At)(hp:g.Ps=ks.length)(hs:g.At+g.Ps<=P.Ss.length):∀(n i:Nat) (d:o0),ks.length-i=n->CI l P d->∃f:A7,Th d5 ((l9 ks,()),()) (i:Int) d g I=AX d5 ⟨d.L,d.M,d.P,d.T,f,d.By⟩ g/\(f.Code=0->d.F.Code=0/\∀(j:Nat) (y:Int),i<=j->I[j]? =some y->y≠0):=by
 have O:=hC.sll;intro n
 induction n with
 |zero=>intro i d hi J;rw[RY,Zm];simp only[C3];rw[d9 (by omega),f9];exact⟨d.F,rfl,λh=>⟨h,λj y hj G=>by have:=(o9.1 G).1;omega⟩⟩
 |succ n ih=>
  intro i d hi J;have B:i<ks.length:=(by omega);have z:i<I.length:=(by omega);have K:=N _ (B0 B);have H:=J.prog;have es:w64 (g.At+(i:Int))=(((g.At+i).toNat:Nat):Int):=(by rw[wrap64 (by omega) (by omega)];omega);have C:(g.At+i).toNat<P.Ss.length:=(by omega);have tI:=hC.sl _ (B0 C);obtain⟨r,Z,U⟩:=Rq d I[i] P.Ss[(g.At+i).toNat];obtain⟨f,X,f2⟩:=Bn d r ks[i] (by rw[J.nodes];exact K);obtain⟨f',Q,k2⟩:=ih (i+1) ⟨d.L,d.M,d.P,d.T,f,d.By⟩ (by omega) (J.fault f);rw[RY,Zm];simp only[C3];rw[f6 (by omega),l6,p9 z,d6,F9,w9 z,d6,H,es,p9 C,d6,Z,d6,E3 B,d6,F6 B,d6,X,d6,B7 (by omega)];rw[<-H];refine⟨f',Q,λS=>?_⟩;obtain⟨Y,V⟩:=k2 S;obtain⟨w1,w2⟩:=f2 Y;refine⟨w1,λj y hj G=>?_⟩;by_cases e:j=i
  ·subst e;rw[w9 z]at G;cases G;have:=(U w2).2.2.2.2;have:=tI.1;omega
  ·exact V j y (by omega) G
theorem a8I(b:Nat)(x:d7)(q:Nat)(hx:l[b]? =some x)(hs:x.Cs=(q:Int)-(b+1))(ag:b+1<=q)(hq:q<=l.length)(hk:x.Ks=27)(ih:∀m,m<q-b->aF l P m)(c:o0)(hI:CI l P c)(hM:∀i,b<=i->i<q->c.M[i]? =P.Ms[i]?/\EnC l P i)(ks:List Nat)(C:Kc l (b+1) q ks):∃t B,BW d5 c (b:Int)=some ((t,B,()),())/\CI l P B/\Cx c B (b+1) q/\0<=t/\t<(P.To.length:Int)/\(B.F.Code=0->(∀k∈ks,∃m,B.M[k]? =some m/\m.Ts≠0)/\(∃m,B.M[b]? =some m/\(m.Es<0-> -8<=m.Es/\ks.length=Su (-m.Es)/\t≠0)/\(0<=m.Es->∃f,P.As[m.Es.toNat]? =some f/\f.Ps=ks.length/\t=f.By))/\∀i,b+1<=i->i<q->EF l P B.M i):=by
 have af:=hC.small;have ae:=C.le;have h6:=hC.ty.len;have R:=(o9.1 hx).1;obtain⟨st,z,t1,t2,t3,t4,t5,t6,t7⟩:=hC.may.nd b x hx;have ad:st=q:=(by omega);subst ad;have:=t5.det C;subst this;have ac:∀p∈z,21<=kd l p/\kd l p<=32:=λp hp=>M2 (Qo (t6.k27 hk) p hp);have X:∀p∈z,p<l.length:=λp hp=>by obtain⟨_,h2,_⟩:=C.mem p hp;omega
 obtain⟨d,S,k1,J,k3,k4,k5,_,k7⟩:=b6k hC b z (by omega) ac st hq (st-b) ih _ 0 (b+1) c [] rfl (D2 _) (by rw[W3];exact C) (by omega) hI (λi h1 h2=>hM i (by omega) h2) rfl (λt ht=>nomatch ht);have G:d.M[b]? =P.Ms[b]? :=(by rw[k3.marks b (.inl (by omega))];exact(hM b (l5 _) (by omega)).1);obtain⟨m,m1,m2⟩:=(hM b (l5 _) (by omega)).2.k27 (by rw[x4 hx];exact hk);rw[m1]at G;have ab:=(o9.1 G).1;have V:=(o9.1 G).2;have ei:(z.map (λ(k:Nat)=>(k:Int)))=l9 z:=rfl;rw[a3e,oJ,hI.nodes,Z0 (by omega) hx t1 t3 C,d6,ei,show aK d5 (b:Int) ((l9 z,()),()) 0 c []=_ from k1,a7F,cR];have N:∀(f:A7),f.Code≠0->∃t B,(some ((0,(⟨d.L,d.M,d.P,d.T,f,d.By⟩:o0),()),()):b6x)=some ((t,B,()),())/\CI l P B/\Cx c B (b+1) st/\0<=t/\t<(P.To.length:Int)/\(B.F.Code=0->(∀k∈z,∃m,B.M[k]? =some m/\m.Ts≠0)/\(∃m,B.M[b]? =some m/\(m.Es<0-> -8<=m.Es/\z.length=Su (-m.Es)/\t≠0)/\(0<=m.Es->∃f,P.As[m.Es.toNat]? =some f/\f.Ps=z.length/\t=f.By))/\∀i,b+1<=i->i<st->EF l P B.M i):=λf Y=>⟨0,_,rfl,J.fault f,k3.trans (Cx.fault d f Y (b+1) st) (l5 _) (l5 _) (l5 _) (l5 _),R4 _,by omega,λh=>absurd h Y⟩;by_cases U:d.F.Code=0
 ·obtain⟨z1,z2⟩:=k7 U;have done:∀(t:Int) (f:A7),0<=t->t<(P.To.length:Int)->(f.Code=0->d.F.Code=0/\∀(j:Nat) (y:Int),0<=j->S[j]? =some y->y≠0)->((m.Es<0-> -8<=m.Es/\z.length=Su (-m.Es)/\t≠0)/\(0<=m.Es->∃f,P.As[m.Es.toNat]? =some f/\f.Ps=z.length/\t=f.By))->
    ∃Q B,(some ((t,(⟨d.L,d.M,d.P,d.T,f,d.By⟩:o0),()),()):b6x)=some ((Q,B,()),())/\CI l P B/\Cx c B (b+1) st/\0<=Q/\Q<(P.To.length:Int)/\(B.F.Code=0->(∀k∈z,∃m,B.M[k]? =some m/\m.Ts≠0)/\(∃m,B.M[b]? =some m/\(m.Es<0-> -8<=m.Es/\z.length=Su (-m.Es)/\Q≠0)/\(0<=m.Es->∃f,P.As[m.Es.toNat]? =some f/\f.Ps=z.length/\Q=f.By))/\∀i,b+1<=i->i<st->EF l P B.M i):=by
   intro t f h0 h1 Y hm;refine⟨t,_,rfl,J.fault f,k3.trans ⟨λ_ _=>rfl,rfl,λhb=>absurd U hb⟩ (l5 _) (l5 _) (l5 _) (l5 _),h0,h1,λhg=>⟨λk aa=>?_,⟨m,G,hm⟩,z2⟩⟩;obtain⟨j,hj,rfl⟩:=List.getElem_of_mem aa;obtain⟨mm,a1,a2⟩:=z1 j hj (D2 _);exact⟨mm,a1,(Y hg).2 j _ (D2 _) a2⟩
  rw[f6 U,B8,f9,p9 ab,d6,V];by_cases cr:m.Es<0
  ·have e0:w64 (0-m.Es)= -m.Es:=(by rw[wrap64 (by omega) (by omega)];omega);obtain⟨row,t,r1,r2,r3,r4⟩:=b4J (-m.Es) (by omega) (by omega);rw[f6 cr,l6,e0,r1,d6];simp only[C3];by_cases el:(row.length:Int)=(z.length:Int)
   ·obtain⟨f,O,I⟩:=b4Z hC row t z (by omega) X S (by omega) k4 k5 _ 0 d rfl J;rw[f6 el,B8,f9,show Yb d5 ((row,t,()),()) ((l9 z,()),()) 0 d S=_ from O,a4i,kF];exact done t f (by omega) (by omega) I ⟨λ_=>⟨by omega,by omega,by omega⟩,λh=>by omega⟩
   ·obtain⟨f,O,I⟩:=Lx d 10 (by decide) b (by rw[J.nodes];exact R);rw[d9 el,F4,l6,O,d6];exact N f I
  ·have er:m.Es=((m.Es.toNat:Nat):Int):=(by omega);have K:m.Es.toNat<P.As.length:=(by omega);have gF:f7 P.As m.Es=some P.As[m.Es.toNat]:=Rf (by omega) (by omega);obtain⟨p1,p2,p3⟩:=hC.fnp _ (B0 K);have H:0<=P.As[m.Es.toNat].By/\P.As[m.Es.toNat].By<(P.To.length:Int):=by
    rcases hC.fnr _ (B0 K)with h|h
    ·rw[h];omega
    ·have:=h.1;have:=h.2.1;omega
   rw[d9 cr,f9,J.prog,gF,d6];simp only[C3];by_cases Z:P.As[m.Es.toNat].Ps=(z.length:Int)
   ·obtain⟨f,O,I⟩:=b4z hC P.As[m.Es.toNat] z (by omega) X S k4 p1 Z p3 _ 0 d rfl J;rw[f6 Z,B8,f9,show Th d5 ((l9 z,()),()) 0 d P.As[m.Es.toNat] S=_ from O,b3N,qG];exact done _ f H.1 H.2 I ⟨λh=>absurd h cr,λ_=>⟨_,w9 K,Z,rfl⟩⟩
   ·obtain⟨f,O,I⟩:=Lx d 10 (by decide) b (by rw[J.nodes];exact R);rw[d9 Z,F4,l6,O,d6];exact N f I
 ·rw[d9 U];exact N d.F U
end
end
section
theorem b2g{nr:Nat}{T:List v7}(h:Cb nr T){i:Nat}{x:v7}(hx:T[i]? =some x)(z:x.Ks=6):∃j:Nat,x.Of=(j:Int)/\j<nr:=by
 by_cases c:i<6
 ·rw[h.base i c]at hx;cases hx;simp only at z;omega
 ·by_cases c2:i<6+nr
  ·have:=h.recs (i-6) (by omega);have e:6+(i-6)=i:=(by omega);rw[e,hx]at this;cases this;exact⟨i-6,rfl,by omega⟩
  ·have:=(h.lists i x (by omega) hx).1;omega
theorem a47{nr:Nat}{T:List v7}(h:Cb nr T){i:Nat}{x:v7}(hx:T[i]? =some x)(z:x.Ks=7):E4 T x.Of:=by
 by_cases c:i<6
 ·rw[h.base i c]at hx;cases hx;simp only at z;omega
 ·by_cases c2:i<6+nr
  ·have:=h.recs (i-6) (by omega);have e:6+(i-6)=i:=(by omega);rw[e,hx]at this;cases this;simp only at z;omega
  ·obtain⟨_,a,b,c⟩:=h.lists i x (by omega) hx;exact⟨a,b,c⟩
section
variable{l:List d7}{P:w8}{nr:Nat}(hC:Ba l P nr)
include hC
theorem Qw(b:Nat)(x:d7)(q:Nat)(hx:l[b]? =some x)(Q:b+1<=q)(hq:q<=l.length)(O:21<=x.Ks)(U:WFo l (b+1) q)(c c1:o0)(t:Int)(m:l8)(K:CI l P c1)(L:Cx c c1 b q)(H:c1.M[b]? =some m)(h0:0<=t)(J:t<(P.To.length:Int))(G:x.Ks=32->t=m.Ts)(V:c1.F.Code=0->(x.Ks≠27->t≠0)/\(∀i,b+1<=i->i<q->EF l P c1.M i)/\EF l P (c1.M.set b ⟨t,m.Es,m.Qs⟩) b):∃B z,M7 d5 (b:Int) t c1=some ((B,z,()),())/\CI l P z/\Cx c z b q/\0<=B/\B<(P.To.length:Int)/\(z.F.Code=0->(x.Ks≠27->B≠0)/\(∃m,z.M[b]? =some m/\m.Ts=B)/\∀i,b<=i->i<q->EF l P z.M i):=by
 have Y:=hC.small;have C:=(o9.1 H).1;rw[a3l,sR,a7v c1 (by rw[K.len];omega) b m H t];refine⟨t,_,rfl,K.typed H t h0 J (by rw[x4 hx];exact O) (λh=>G (by rw[<-x4 hx];exact h)),L.trans (Cx.typed c1 b m t b q (l5 _) (by omega)) (l5 _) (l5 _) (l5 _) (l5 _),h0,J,λN=>?_⟩;obtain⟨Z,S,e3⟩:=V N;refine⟨Z,⟨⟨t,m.Es,m.Qs⟩,by unfold Ku;simp only;rw[T0 C],rfl⟩,λi i1 I=>?_⟩;by_cases e:i=b
 ·subst e;exact e3
 ·obtain⟨y,k,X,R,g3,g4,g5⟩:=U.inside i (by omega) I;exact(S i (by omega) I).same X R (λj j1 j2=>by unfold Ku;simp only;rw[Bz (by omega)]) g3
theorem a9O(b:Nat)(O:b<l.length)(a:Int)(d:o0)(z:CI l P d)(m:l8)(I:d.M[b]? =some m)(R:kd l b=29)(g:Q3)(hg:0<=g.Vs/\0<=g.Ws/\g.Vs+g.Ws<=(P.Hs.length:Int)):∀(n i:Nat),g.Ws.toNat-i=n->∃t G,Ww d5 (b:Int) (i:Int) ((a,d,()),()) g=some ((t,G,()),())/\CI l P G/\Cx d G b (b+1)/\0<=t/\t<(P.To.length:Int)/\(∃K,G.M[b]? =some K/\(G.F.Code=0->0<=K.Es/\K.Es<=70000000000))/\(G.F.Code=0->d.F.Code=0/\E4 P.To t):=by
 have aa:=hC.small;have h6:=hC.ty.len;have Z:=hC.fll;have C:=(o9.1 I).1;have H:=z.nodes;intro n
 induction n with
 |zero=>intro i hi;obtain⟨f,S,N⟩:=Lx d 8 (by decide) b (by rw[H];exact O);rw[LL,Wu,d9 (by omega),f9,a5M,qO];simp only;rw[S];exact⟨0,_,rfl,z.fault f,Cx.fault d f N _ _,R4 _,by omega,⟨m,I,λh=>absurd h N⟩,λh=>absurd h N⟩
 |succ n ih=>
  intro i hi;have es:w64 (g.Vs+(i:Int))=(((g.Vs+i).toNat:Nat):Int):=(by rw[wrap64 (by omega) (by omega)];omega);have J:(g.Vs+i).toNat<P.Hs.length:=(by omega);have tI:=hC.fl _ (B0 J);have e:=ih (i+1) (by omega);have V:([]:List l8).length+d.M.length<=100000000:=(by rw[K8,z.len];omega);rw[LL,Wu,f6 (by omega),l6];simp only;have U:f7 d.P.Hs (((g.Vs+i).toNat:Nat):Int)=some P.Hs[(g.Vs+i).toNat]:=(by rw[z.prog,p9 J]);have gL:f7 d.L (b:Int)=some l[b]:=(by rw[H,p9 O]);rw[es,U,d6,gL,d6,B7 (by omega)];cases decide (P.Hs[(g.Vs+i).toNat].If=l[b].Ds)with
  |false=>exact e
  |true=>
   rw[l6,N5 (by decide) V,d6,U7,p9 C,d6,F9,I,d6,d6];simp only[U8,d6];refine⟨_,_,rfl,⟨z.nodes,z.prog,z.tys,by simp only[Hf];exact z.len,λy B=>?_,λj y B=>?_⟩,⟨λj hj=>by simp only;rw[Bz (by omega)],rfl,id⟩,?_,?_,⟨⟨m.Ts,i,m.Qs⟩,by simp only;rw[T0 C],λ_=>by simp only;omega⟩,λh=>⟨h,?_⟩⟩
   ·rcases List.mem_or_eq_of_mem_set B with B|rfl
    ·exact z.ty y B
    ·exact z.ty m (O8 I)
   ·simp only at B;by_cases Q:j=b
    ·subst Q;rw[T0 C]at B;cases B;obtain⟨Y,a1,a2,a3,X⟩:=z.rf j m I;exact⟨Y,a1,a2,λh=>absurd R h,X⟩
    ·rw[Bz (Ne.symm Q)]at B;exact z.rf j y B
   ·have:=tI.1;omega
   ·exact tI.2.1
   ·exact tI
end
end
section
theorem Kg{l:List d7}{i j:Nat}{ks:List Nat}(h:Kc l i j ks)(H:ks.length=2):∃(G F:Nat) (y z:d7),ks=[G,F]/\G=i/\l[G]? =some y/\y.Cs=(F:Int)-(G+1)/\G+1<=F/\l[F]? =some z/\z.Cs=(j:Int)-(F+1)/\F+1<=j:=by
 obtain⟨G,C,rfl⟩:∃k C,ks=k::C:=(by cases ks with|nil=>simp at H|cons k ks=>exact⟨k,ks,rfl⟩);obtain⟨F,B,rfl⟩:∃k B,C=k::B:=(by cases C with|nil=>simp at H|cons k ks=>exact⟨k,ks,rfl⟩);have S:B=[]:=(by simp at H;exact H);subst S;obtain⟨rfl,y,q,Q,L,I,V,R⟩:=h.first
 obtain⟨rfl,z,U,N,M,K,O,J⟩:=R.first
 have:U=j:=(by cases J;rfl);subst this;exact⟨G,F,y,z,rfl,rfl,Q,L,I,N,M,K⟩
theorem Xi{l:List d7}{i j:Nat}{ks:List Nat}(h:Kc l i j ks)(C:ks.length=1):∃(y:d7),ks=[i]/\l[i]? =some y/\y.Cs=(j:Int)-(i+1)/\i+1<=j:=by
 obtain⟨K,z,rfl⟩:∃k z,ks=k::z:=(by cases ks with|nil=>simp at C|cons k ks=>exact⟨k,ks,rfl⟩);have I:z=[]:=(by simp at C;exact C);subst I;obtain⟨rfl,y,q,G,F,B,J,H⟩:=h.first
 have:q=j:=(by cases H;rfl);subst this;exact⟨y,rfl,G,F,B⟩
theorem EF.mk'{l:List d7}{P:w8}{M:List l8}{b q:Nat}{x:d7}{ks:List Nat}(hx:l[b]? =some x)(L:x.Cs=(q:Int)-(b+1))(B:Kc l (b+1) q ks)(C:x.Ks≠27)(G:x.Ks=29->∃m,M[b]? =some m/\0<=m.Es/\m.Es<=70000000000)(J:∀k∈ks,21<=kd l k->∃m,M[k]? =some m/\m.Ts≠0):EF l P M b:=by refine⟨λh=>absurd h (by rw[x4 hx];exact C),λh=>G (by rw[<-x4 hx];exact h),λ_ y st I H N K k z F=>?_⟩;rw[hx]at H;cases H;have:st=q:=(by omega);subst this;have:=B.det K;subst this;exact J k z F
section
variable{l:List d7}{P:w8}{nr:Nat}(hC:Ba l P nr)
include hC
theorem JX(b:Nat)(x:d7)(q:Nat)(hx:l[b]? =some x)(Z:x.Cs=(q:Int)-(b+1))(J:b+1<=q)(V:q<=l.length)(U:21<=x.Ks)(K:x.Ks≠27)(N:x.Ks≠29)(Y:WFo l (b+1) q)(c:o0)(t:Int)(O:CI l P c)(h0:E4 P.To t\/t=5)(ks:List Nat)(C:Kc l (b+1) q ks)(H:∀i,b+1<=i->i<q->kd l i<21)(L:∀m,c.M[b]? =some m->x.Ks=32->t=m.Ts):∃B z,M7 d5 (b:Int) t c=some ((B,z,()),())/\CI l P z/\Cx c z b q/\0<=B/\B<(P.To.length:Int)/\(z.F.Code=0->(x.Ks≠27->B≠0)/\(∃m,z.M[b]? =some m/\m.Ts=B)/\∀i,b<=i->i<q->EF l P z.M i):=by
 have G:b<c.M.length:=(by rw[O.len];omega);have h6:=hC.ty.len;have S:1<=t/\t<(P.To.length:Int):=by
  rcases h0 with h|h
  ·exact⟨h.1,h.2.1⟩
  ·omega
 refine Qw hC b x q hx J V U Y c c t c.M[b] O (Cx.refl _ _ _) (w9 G) (by omega) S.2 (L _ (w9 G)) (λhg=>⟨λ_=>by omega,λi i1 R=>EF.other (H i i1 R),EF.mk' hx Z C K (λh=>absurd h N) (λk I X=>?_)⟩);obtain⟨Q,k2,_⟩:=C.mem k I;have:=H k Q k2;omega
end
end
section
section
variable{l:List d7}{P:w8}{nr:Nat}(hC:Ba l P nr)
include hC
set_option maxHeartbeats 4000000 in
theorem b5H(N:Nat)(ih:∀m,m<N->aF l P m):aF l P N:=by
 intro b x q hN hx hs X hq aw ce c hI hM;have ac:=aw;have b9:=hC.small;have h6:=hC.ty.len;have b7:=hC.may;obtain⟨st,ks,t1,t2,t3,t4,Z,t6,t7⟩:=hC.may.nd b x hx;have bu:st=q:=(by omega);subst bu;have bz:=Z.le;have ap:=(o9.1 hx).1;have bp:=(o9.1 hx).2;have bg:b<c.M.length:=(by rw[hI.len];omega);have S:c.M[b]? =some c.M[b]:=w9 bg;have cd:∀y,c.T[0]? =some y->y.Ks<5:=λy O=>by
  rw[hI.tys,hC.ty.base 0 (by omega)]at O;cases O
  decide
 have ei:(ks.map (λ(k:Nat)=>(k:Int)))=l9 ks:=rfl;rw[b3L,cV];by_cases cb:c.F.Code=0
 ·rw[f6 cb,B8,f9,hI.nodes,p9 ap,d6,bp,Z0 (by omega) hx t1 t3 Z,d6,ei,p9 bg,d6];by_cases c25:x.Ks<=25
  ·rw[f6 (by omega),f6 c25,l6,l6];have ax:ks=[]:=by have:=(t6.kr (by omega)).1;exact dU this
   subst ax;have a0:∀i,b+1<=i->i<st->kd l i<21:=λi i1 i2=>by cases Z;omega
   have go:∀t:Int,1<=t/\t<=5->_:=λt ht=>JX hC b x st hx hs X hq aw (by omega) (by omega) t4 c t hI (show E4 P.To t\/t=5 by
    by_cases e:t=5
    ·exact .inr e
    ·exact .inl ⟨ht.1,by omega,e⟩) [] Z a0 (λ_ _ h=>absurd h (by omega))
   have hk:x.Ks=21\/x.Ks=22\/x.Ks=23\/x.Ks=24\/x.Ks=25:=(by omega);have lit:∀(k:Int) (t:Int),x.Ks=k->f7 ([1,4,3,2,5]:List Int) (IntKind.wrap .u8 (k-21))=some t->([1,4,3,2,5]:List Int)[(Int.toNat (IntKind.wrap .u8 (k-21)))]? =some t->1<=t/\t<=5->∃t C,(((f7 ([1,4,3,2,5]:List Int) (IntKind.wrap .u8 (x.Ks-21))).bind λf=>((([1,4,3,2,5]:List Int)[(Int.toNat (IntKind.wrap .u8 (x.Ks-21)))]?).bind λh=>(M7 d5 (b:Int) h c))))=some ((t,C,()),())/\CI l P C/\Cx c C b st/\0<=t/\t<P.To.length/\(C.F.Code=0->(x.Ks≠27->t≠0)/\(∃m,C.M[b]? =some m/\m.Ts=t)/\∀i,b<=i->i<st->EF l P C.M i):=by intro k t e g1 g2 ht;rw[e,g1,d6,g2,d6,<-e];exact go t ht
   rcases hk with e|e|e|e|e
   ·exact lit 21 1 e rfl rfl (by decide)
   ·exact lit 22 4 e rfl rfl (by decide)
   ·exact lit 23 3 e rfl rfl (by decide)
   ·exact lit 24 2 e rfl rfl (by decide)
   ·exact lit 25 5 e rfl rfl (by decide)
  rw[f6 (by omega),d9 c25,l6,f9,b2k,tN];by_cases c27:x.Ks=27
  ·obtain⟨t,c1,r1,r2,r3,r4,r5,r6⟩:=a8I hC b x st hx hs X hq c27 (λm hm=>ih m (by omega)) c hI hM ks Z;have aq:b<c1.M.length:=(by rw[r2.len];omega);have bm:c1.M[b]? =some c1.M[b]:=w9 aq;rw[f6 c27,l6,r1,d6];refine Qw hC b x st hx X hq aw t4 c c1 t c1.M[b] r2 (r3.trans (Cx.refl c1 b st) (by omega) (l5 _) (l5 _) (l5 _)) bm r4 r5 (λh=>absurd h (by rw[c27];decide)) (λU=>?_);obtain⟨z1,⟨m,z2,z3,z4⟩,z5⟩:=r6 U;rw[bm]at z2;cases z2;refine⟨λh=>absurd c27 h,z5,⟨λ_ y ar bx a1 Y a3=>?_,λh=>by rw[x4 hx]at h;omega,λ_ y ar bx a1 Y a3 k V _=>?_⟩⟩
   ·rw[hx]at a1;cases a1;have:ar=st:=(by omega);subst this;have:=Z.det a3;subst this;exact⟨_,T0 aq,z3,z4⟩
   ·rw[hx]at a1;cases a1;have:ar=st:=(by omega);subst this;have:=Z.det a3;subst this;obtain⟨w1,_⟩:=Z.mem k V;obtain⟨mm,w2,w3⟩:=z1 k V;exact⟨mm,by rw[Bz (by omega)];exact w2,w3⟩
  rw[d9 c27,f9];have K:∀(k q':Nat) (y:d7) (d:o0),b+1<=k->q'<=st->l[k]? =some y->y.Cs=(q':Int)-(k+1)->k+1<=q'->21<=y.Ks->y.Ks<=32->CI l P d->(∀i,k<=i->d.M[i]? =c.M[i]?)->∃t C,V1 d5 d (k:Int)=some ((t,C,()),())/\CI l P C/\Cx d C k q'/\0<=t/\t<P.To.length/\(C.F.Code=0->(y.Ks≠27->t≠0)/\(∃m,C.M[k]? =some m/\m.Ts=t)/\∀i,k<=i->i<q'->EF l P C.M i):=by intro k q' y d a1 Y a3 a4 a5 a6 a7 a8 a9;exact ih (q'-k) (by omega) k y q' rfl a3 a4 a5 (by omega) a6 a7 d a8 (λi i1 i2=>by rw[a9 i i1];exact hM i (by omega) (by omega))
  by_cases c28:x.Ks=28\/x.Ks=31
  ·have bo:¬x.Ks=29:=(by omega);have bv:¬x.Ks=30:=(by omega);have au:¬x.Ks=28->x.Ks=31:=λh=>by omega
   have hS:=t6.k28 c28;obtain⟨e1,e2⟩:=J7 hS;obtain⟨R,I,y,z,rfl,bq,O,Q,ab,hz,am,az⟩:=Kg Z e1;have s0:=M2 (e2 0 (by simp) (by simp));have s1:=M2 (e2 1 (by simp) (by simp));simp only[K5,Dp]at s0 s1;rw[x4 O]at s0;rw[x4 hz]at s1;have g0:f7 (l9 [R,I]) (0:Int)=some ((R:Nat):Int):=E3 (i:=0) (ks:=[R,I]) (by simp);have ad:(l9 [R,I])[Int.toNat 0]? =some ((R:Nat):Int):=F6 (i:=0) (ks:=[R,I]) (by simp);have g1:f7 (l9 [R,I]) (1:Int)=some ((I:Nat):Int):=E3 (i:=1) (ks:=[R,I]) (by simp);have aj:(l9 [R,I])[Int.toNat 1]? =some ((I:Nat):Int):=F6 (i:=1) (ks:=[R,I]) (by simp);obtain⟨J,G,a1,Y,a3,a4,a5,a6⟩:=K R I y c (by omega) (by omega) O Q ab s0.1 s0.2 hI (λ_ _=>rfl);obtain⟨tb,cc,b1,b2,b3,b4,b5,b6⟩:=K I st z G (by omega) (l5 _) hz am az s1.1 s1.2 Y (λi hi=>a3.marks i (.inr hi));have hX:Cx c cc b st:=(a3.trans b3 (lo2:=b) (hi2:=st) (by omega) (by omega) (by omega) (l5 _));have ah:b<cc.M.length:=(by rw[b2.len];omega);have ae:cc.M[b]? =some cc.M[b]:=w9 ah;have ba:R<cc.L.length:=(by rw[b2.nodes];exact(o9.1 O).1);have bl:I<cc.L.length:=(by rw[b2.nodes];exact(o9.1 hz).1);have bk:b<cc.L.length:=(by rw[b2.nodes];exact ap);have an:∀(t:Int) (f:A7),0<=t->t<(P.To.length:Int)->(f.Code=0->cc.F.Code=0/\t≠0/\J≠0/\tb≠0)->∃H C,M7 d5 (b:Int) t (⟨cc.L,cc.M,cc.P,cc.T,f,cc.By⟩:o0)=some ((H,C,()),())/\CI l P C/\Cx c C b st/\0<=H/\H<(P.To.length:Int)/\(C.F.Code=0->(x.Ks≠27->H≠0)/\(∃m,C.M[b]? =some m/\m.Ts=H)/\∀i,b<=i->i<st->EF l P C.M i):=by
    intro t f h0 h1 hf;refine Qw hC b x st hx X hq ac t4 c ⟨cc.L,cc.M,cc.P,cc.T,f,cc.By⟩ t cc.M[b] (b2.fault f) ⟨hX.marks,hX.res,λhb=>absurd cb hb⟩ ae h0 h1 (λh=>absurd h (by rcases c28 with e|e<;>rw[e]<;>decide)) (λU=>?_);obtain⟨f1,f2,f3,f4⟩:=hf U;have fa:G.F.Code=0:=Y5 λhc=>b3.bad hc f1;obtain⟨p1,⟨ma,p2,p3⟩,p4⟩:=a6 fa;obtain⟨q1,⟨mb,q2,q3⟩,q4⟩:=b6 f1;clear a6 b6 K hf;refine⟨λ_=>f2,λi i1 i2=>?_,EF.mk' hx t1 Z c27 (λh=>absurd h bo) (λk V _=>?_)⟩
    ·by_cases hi:i<I
     ·obtain⟨xx,kk,w1,w2,w3,w4,w5⟩:=t4.inside i i1 i2;have af:kk<=I:=by obtain⟨ao,kz,z1,z2,z3,z4,z5,z6,z7⟩:=hC.may.nd _ y O;have:ao=I:=(by omega);subst this;obtain⟨b0,cf,v1,v2,v3,v4,v5⟩:=(WFo.cons R ao ao y O Q ab z4 (WFo.nil ao)).inside i (by omega) hi;rw[w1]at v1;cases v1;omega
      exact(p4 i (by omega) hi).same w1 w2 (λj j1 j2=>b3.marks j (.inl (by omega))) w3
     ·exact q4 i (by omega) i2
    ·simp at V;rcases V with rfl|rfl
     ·exact⟨ma,by rw[Bz (by omega),b3.marks k (.inl (by omega))];exact p2,by rw[p3];exact f3⟩
     ·exact⟨mb,by rw[Bz (by omega)];exact q2,by rw[q3];exact f4⟩
   by_cases ay:x.Ks=28
   ·obtain⟨w,w1,w2,w3⟩:=Ua cc J a4 (by rw[b2.tys];exact a5);rw[f6 ay,l6];simp only;rw[g0,d6,ad,d6,a1,d6,g1,d6,aj,d6,b1,d6];simp only;rw[w3,d6,w2];have j1:∀t:Int,0<=t->t<(P.To.length:Int)->(0<t->J≠0)->∃H C,eQ d5 (b:Int) t ((tb,cc,()),()) ((l9 [R,I],()),())=some ((H,C,()),())/\CI l P C/\Cx c C b st/\0<=H/\H<(P.To.length:Int)/\(C.F.Code=0->(x.Ks≠27->H≠0)/\(∃m,C.M[b]? =some m/\m.Ts=H)/\∀i,b<=i->i<st->EF l P C.M i):=by intro t h0 h1 ai;obtain⟨f,f1,f2⟩:=Bn cc (decide (t>0)) R ba;obtain⟨f',f3,f4⟩:=Bn ⟨cc.L,cc.M,cc.P,cc.T,f,cc.By⟩ (decide (tb=1)) I bl;rw[b5k,kU];simp only;rw[g0,d6,ad,d6,f1,d6,g1,d6,aj,d6];simp only;rw[f3,d6];refine an t f' h0 h1 (λU=>?_);obtain⟨u1,u2⟩:=f4 U;obtain⟨u3,u4⟩:=f2 u1;have v1:=F3 u2;have v2:=F3 u4;exact⟨u3,by omega,ai (by omega),by omega⟩
    have j2:∀t:Int,0<=t->t<(P.To.length:Int)->(0<t->J≠0)->∃H C,lN d5 (b:Int) t ((J,G,()),()) ((tb,cc,()),()) ((l9 [R,I],()),())=some ((H,C,()),())/\CI l P C/\Cx c C b st/\0<=H/\H<(P.To.length:Int)/\(C.F.Code=0->(x.Ks≠27->H≠0)/\(∃m,C.M[b]? =some m/\m.Ts=H)/\∀i,b<=i->i<st->EF l P C.M i):=by
     intro t h0 h1 ai;rw[b5f,eM];simp only;by_cases e3:J=3
     ·rw[f6 e3];exact j1 1 (by omega) (by omega) (λ_=>by omega)
     ·rw[d9 e3];exact j1 t h0 h1 ai
    by_cases e7:w.Ks=7
    ·rw[f6 e7,l6,d6];rw[b2.tys]at w1;have tI:=a47 hC.ty w1 e7;refine j2 w.Of (by have:=tI.1;omega) tI.2.1 (λ_ h=>?_);rw[h]at w1;have:=hC.ty.base 0 (by omega);rw[show Int.toNat 0=0 from rfl,this]at w1;cases w1;simp only at e7;omega
    ·rw[d9 e7];exact j2 0 (by omega) (by omega) (λh=>by omega)
   ·have bw:x.Ks=31:=au ay;obtain⟨r,p1,p2,p3,p4⟩:=a7S cc x.Ns J tb (by rw[b2.tys];omega) (λy O=>by
     rw[b2.tys,hC.ty.base 0 (by omega)]at O;cases O
     decide) a4 (by rw[b2.tys];exact a5) b4 (by rw[b2.tys];exact b5)
    obtain⟨f,f1,f2⟩:=Bn cc (decide (r>0)) b bk;rw[d9 ay,f9,d9 bo,f9,d9 bv,f9,f6 bw,l6];simp only;rw[g0,d6,ad,d6,a1,d6,g1,d6,aj,d6,b1,d6];simp only;rw[p1,d6,f1,d6];refine an r f p2 (by omega) (λU=>?_);obtain⟨u1,u2⟩:=f2 U;have v:=F3 u2;obtain⟨w1,w2⟩:=p4 (by omega);exact⟨u1,by omega,w1,w2⟩
  have bs:¬x.Ks=28:=λh=>c28 (.inl h);have au:¬x.Ks=31:=λh=>c28 (.inr h);have one:∀(k:Nat) (y:d7) (G:o0) (J:Int),b+1<=k->l[k]? =some y->y.Cs=(st:Int)-(k+1)->CI l P G->Cx c G k st->(G.F.Code=0->(∃m,G.M[k]? =some m/\m.Ts=J)/\∀i,k<=i->i<st->EF l P G.M i)->(∀i,b+1<=i->i<k->kd l i<21)->(∀k'∈ks,21<=kd l k'->k'=k)->¬x.Ks=29->
    ∀(t:Int) (f:A7),0<=t->t<(P.To.length:Int)->(x.Ks=32->t=c.M[b].Ts)->(f.Code=0->G.F.Code=0/\t≠0/\J≠0)->∃H C,M7 d5 (b:Int) t (⟨G.L,G.M,G.P,G.T,f,G.By⟩:o0)=some ((H,C,()),())/\CI l P C/\Cx c C b st/\0<=H/\H<(P.To.length:Int)/\(C.F.Code=0->(x.Ks≠27->H≠0)/\(∃m,C.M[b]? =some m/\m.Ts=H)/\∀i,b<=i->i<st->EF l P C.M i):=by
   intro k y G J cg O Q bb ag bh aa af br t f h0 h1 av hf;have ah:b<G.M.length:=(by rw[bb.len];omega);have ae:G.M[b]? =some G.M[b]:=w9 ah;have hX:Cx c G b st:=ag.trans (Cx.refl G b st) (by omega) (l5 _) (l5 _) (l5 _);refine Qw hC b x st hx X hq ac t4 c ⟨G.L,G.M,G.P,G.T,f,G.By⟩ t G.M[b] (bb.fault f) ⟨hX.marks,hX.res,λhb=>absurd cb hb⟩ ae h0 h1 (λh=>by
    have e:=ag.marks b (.inl (by omega));rw[ae,S]at e;injection e with e
    rw[e];exact av h) (λU=>?_)
   obtain⟨f1,f2,f3⟩:=hf U;obtain⟨⟨ma,p2,p3⟩,p4⟩:=bh f1;clear bh hf K;refine⟨λ_=>f2,λi i1 i2=>?_,EF.mk' hx t1 Z c27 (λh=>absurd h br) (λk' V bi=>?_)⟩
   ·by_cases hi:i<k
    ·exact EF.other (aa i i1 hi)
    ·exact p4 i (by omega) i2
   ·have:=af k' V bi;subst this;exact⟨ma,by rw[Bz (by omega)];exact p2,by rw[p3];exact f3⟩
  rw[d9 bs,f9];by_cases c29:x.Ks=29
  ·obtain⟨e1,e2⟩:=J7 (t6.k12 (.inr (.inl c29)));obtain⟨y,rfl,O,Q,ab⟩:=Xi Z e1;have s0:=M2 (e2 0 (by simp) (by simp));simp only[K5]at s0;rw[x4 O]at s0;have g0:f7 (l9 [b+1]) (0:Int)=some ((b+1:Nat):Int):=E3 (i:=0) (ks:=[b+1]) (by simp);have ad:(l9 [b+1])[Int.toNat 0]? =some ((b+1:Nat):Int):=F6 (i:=0) (ks:=[b+1]) (by simp);have be:kd l b=29:=(by rw[x4 hx];exact c29);obtain⟨J,G,a1,Y,a3,a4,a5,a6⟩:=K (b+1) st y c (l5 _) (l5 _) O Q ab s0.1 s0.2 hI (λ_ _=>rfl);have ak:b+1<G.L.length:=(by rw[Y.nodes];exact(o9.1 O).1);have ah:b<G.M.length:=(by rw[Y.len];exact ap);have ae:G.M[b]? =some G.M[b]:=w9 ah;have ag:Cx c G b st:=a3.trans (Cx.refl G b st) (Nat.le_succ b) (l5 _) (l5 _) (l5 _);clear one;rw[f6 c29,l6];simp only;rw[g0,d6,ad,d6,a28,mD,a1];simp only[d6];have j0:∃H C,((iU d5 ((b+1:Nat):Int) ((J,G,()),())).bind λ(t:C0)=>M7 d5 (b:Int) t.1.1 t.1.2.1)=some ((H,C,()),())/\CI l P C/\Cx c C b st/\0<=H/\H<(P.To.length:Int)/\(C.F.Code=0->(x.Ks≠27->H≠0)/\(∃m,C.M[b]? =some m/\m.Ts=H)/\∀i,b<=i->i<st->EF l P C.M i):=by obtain⟨f,f1,f2⟩:=Lx G 9 (by decide) (b+1) ak;rw[a5y,sQ];simp only;rw[f1,d6,d6];exact Qw hC b x st hx X hq ac t4 c ⟨G.L,G.M,G.P,G.T,f,G.By⟩ 0 G.M[b] (Y.fault f) ⟨ag.marks,ag.res,λhb=>absurd cb hb⟩ ae (R4 _) (by clear a6 K;omega) (λh=>absurd h (by rw[c29];decide)) (λU=>absurd U f2)
   by_cases fa:G.F.Code=0
   ·obtain⟨w,w1,w2,w3⟩:=Ua G J a4 (by rw[Y.tys];exact a5);rw[f6 fa,B8,f9,w3,d6];simp only;by_cases e6:w.Ks=6
    ·rw[Y.tys]at w1;obtain⟨j,j1,j2⟩:=b2g hC.ty w1 e6;have bf:j<P.Rs.length:=(by rw[hC.recs];exact j2);have ai:J≠0:=λh=>by rw[h,show Int.toNat 0=0 from rfl,hC.ty.base 0 (by decide)]at w1;cases w1;exact absurd e6 (by decide)
     have gR:f7 G.P.Rs w.Of=some P.Rs[j]:=(by rw[Y.prog,j1,p9 bf]);obtain⟨t,d',q1,q2,q3,q4,q5,⟨m',q6,q7⟩,q8⟩:=a9O hC b ap J G Y G.M[b] ae be P.Rs[j] (hC.rc _ (B0 bf)) _ 0 rfl;rw[f6 e6,B8,f9,w2,d6,gR,d6,show Ww d5 (b:Int) 0 ((J,G,()),()) P.Rs[j]=_ from q1,d6];refine Qw hC b x st hx X hq ac t4 c d' t m' q2 (ag.trans q3 (l5 _) (l5 _) (l5 _) X) q6 q4 q5 (λh=>absurd h (by rw[c29];decide)) (λU=>?_);obtain⟨u1,u2⟩:=q8 U;obtain⟨v1,⟨ma,v2,v3⟩,v4⟩:=a6 u1;have bt:=(o9.1 q6).1;have u3:=u2.1;clear a6 K q8;refine⟨λ_=>by omega,λi i1 i2=>?_,EF.mk' hx t1 Z c27 (λ_=>⟨_,T0 bt,q7 U⟩) (λk' V _=>?_)⟩
     ·obtain⟨xx,kk,g1,g2,g3,g4,g5⟩:=t4.inside i i1 i2;exact(v4 i i1 i2).same g1 g2 (λjj j1 j2=>q3.marks jj (.inr (by omega))) g3
     ·have:=K4.1 V;subst this;exact⟨ma,by rw[Bz (by omega),q3.marks (b+1) (.inr (l5 _))];exact v2,by rw[v3];exact ai⟩
    ·rw[d9 e6];exact j0
   ·rw[d9 fa];exact j0
  rw[d9 c29,f9];by_cases c30:x.Ks=30
  ·obtain⟨e1,e2⟩:=J7 (t6.k12 (.inr (.inr c30)));obtain⟨y,rfl,O,Q,ab⟩:=Xi Z e1;have s0:=M2 (e2 0 (by simp) (by simp));simp only[K5]at s0;rw[x4 O]at s0;have g0:f7 (l9 [b+1]) (0:Int)=some ((b+1:Nat):Int):=E3 (i:=0) (ks:=[b+1]) (by simp);have ad:(l9 [b+1])[Int.toNat 0]? =some ((b+1:Nat):Int):=F6 (i:=0) (ks:=[b+1]) (by simp);have aa:∀i,b+1<=i->i<b+1->kd l i<21:=λi i1 i2=>by omega
   have af:∀k'∈ [b+1],21<=kd l k'->k'=b+1:=λk' al _=>K4.1 al;obtain⟨J,G,a1,Y,a3,a4,a5,a6⟩:=K (b+1) st y c (l5 _) (l5 _) O Q ab s0.1 s0.2 hI (λ_ _=>rfl);have ak:b+1<G.L.length:=(by rw[Y.nodes];exact(o9.1 O).1);have an:=one (b+1) y G J (l5 _) O Q Y a3 (λh=>⟨(a6 h).2.1,(a6 h).2.2⟩) aa af c29;have mst:∀B:Bool,(B=true->J≠0)->∃H C,(((N2 d5 G B ((b+1:Nat):Int))).bind λ(r:RT4)=>(M7 d5 (b:Int) J r.1.1))=some ((H,C,()),())/\CI l P C/\Cx c C b st/\0<=H/\H<(P.To.length:Int)/\(C.F.Code=0->(x.Ks≠27->H≠0)/\(∃m,C.M[b]? =some m/\m.Ts=H)/\∀i,b<=i->i<st->EF l P C.M i):=by intro B hB;obtain⟨f,f1,f2⟩:=Bn G B (b+1) ak;rw[f1,d6];exact an J f a4 a5 (λh=>absurd h (by rw[c30];decide)) (λU=>⟨(f2 U).1,hB (f2 U).2,hB (f2 U).2⟩)
   have mT:=mst (decide (J=4)) (λh=>by have:=F3 h;rw[this];decide);have mF:=mst false (λh=>nomatch h);rw[f6 c30,l6];simp only;rw[g0,d6,ad,d6,a1,d6];simp only[d6];have tr:∀v:Int,v≠0->J=v->_:=λv hv h=>mst true (λ_=>by rw[h];exact hv);have bd:∃H C,(cond (decide (x.Ns=12)) (cond (decide (J=1)) (((N2 d5 G true ((b+1:Nat):Int))).bind λ(r:RT4)=>(M7 d5 (b:Int) J r.1.1)) (((N2 d5 G (decide (J=4)) ((b+1:Nat):Int))).bind λ(r:RT4)=>(M7 d5 (b:Int) J r.1.1))) (((N2 d5 G false ((b+1:Nat):Int))).bind λ(r:RT4)=>(M7 d5 (b:Int) J r.1.1)))=some ((H,C,()),())/\CI l P C/\Cx c C b st/\0<=H/\H<(P.To.length:Int)/\(C.F.Code=0->(x.Ks≠27->H≠0)/\(∃m,C.M[b]? =some m/\m.Ts=H)/\∀i,b<=i->i<st->EF l P C.M i):=by
    cases decide (x.Ns=12)with
    |false=>exact mF
    |true=>
     rw[l6];by_cases v1:J=1
     ·rw[f6 v1];exact tr 1 (by decide) v1
     ·rw[d9 v1];exact mT
   cases decide (x.Ns=13)with
   |false=>exact bd
   |true=>
    rw[l6];by_cases v2:J=2
    ·rw[f6 v2];exact tr 2 (by decide) v2
    ·rw[d9 v2];exact bd
  rw[d9 c30,f9,d9 au,f9];obtain⟨bj,bc⟩:=hM b (l5 _) (by omega);have rest:∀t:Int,E4 P.To t->(∀i,b+1<=i->i<st->kd l i<21)->(x.Ks=32->t=c.M[b].Ts)->∃H C,M7 d5 (b:Int) t c=some ((H,C,()),())/\CI l P C/\Cx c C b st/\0<=H/\H<(P.To.length:Int)/\(C.F.Code=0->(x.Ks≠27->H≠0)/\(∃m,C.M[b]? =some m/\m.Ts=H)/\∀i,b<=i->i<st->EF l P C.M i):=λt ht a0 av=>JX hC b x st hx hs X hq ac c27 c29 t4 c t hI (.inl ht) ks Z a0 (λm hm h=>by rw[S]at hm;injection hm with hm;rw[<-hm];exact av h);by_cases c32:x.Ks=32
  ·obtain⟨m,m1,m2⟩:=bc.k32 (by rw[x4 hx];exact c32);have em:c.M[b]=m:=by
    rw[bj,m1]at S;injection S with S
    exact S.symm
   rw[f6 c32,l6];simp only[C3];rcases t6.k32 c32 with⟨hS,_⟩|⟨hS,_⟩
   ·obtain⟨e1,e2⟩:=J7 hS;obtain⟨y,rfl,O,Q,ab⟩:=Xi Z e1;have s0:=Z8 (e2 0 (by simp) (by simp));simp only[K5]at s0;rw[x4 O]at s0;rw[d9 (by simp),f9,em];exact rest _ m2 (λi i1 i2=>by
     have:=Ht hC.may hC.small hC.tx _ (b+1) y st O Q rfl (by omega) i i1 i2;omega) (λ_=>by rw[em])
   ·obtain⟨e1,e2⟩:=J7 hS;obtain⟨R,I,y,z,rfl,bq,O,Q,ab,hz,am,az⟩:=Kg Z e1;have s0:=Z8 (e2 0 (by simp) (by simp));have s1:=M2 (e2 1 (by simp) (by simp));simp only[K5,Dp]at s0 s1;have aa:∀i,b+1<=i->i<I->kd l i<21:=λi i1 i2=>by have:=Ht hC.may hC.small hC.tx _ R y I O Q rfl (by rw[<-x4 O];omega) i (by omega) i2;omega
    have af:∀k'∈ [R,I],21<=kd l k'->k'=I:=λk' al bi=>by
     simp at al;rcases al with rfl|rfl
     ·omega
     ·rfl
    rw[x4 hz]at s1;have g1:f7 (l9 [R,I]) (1:Int)=some ((I:Nat):Int):=E3 (i:=1) (ks:=[R,I]) (by simp);have aj:(l9 [R,I])[Int.toNat 1]? =some ((I:Nat):Int):=F6 (i:=1) (ks:=[R,I]) (by simp);obtain⟨J,G,a1,Y,a3,a4,a5,a6⟩:=K I st z c (by omega) (l5 _) hz am az s1.1 s1.2 hI (λ_ _=>rfl);have ak:I<G.L.length:=(by rw[Y.nodes];exact(o9.1 hz).1);obtain⟨f,f1,f2⟩:=Bn G (decide (J=1)) I ak;have aq:b+1<=I:=(by clear a6 K one;omega);rw[f6 (by simp),l6,g1,d6,aj,d6,a1,d6];simp only[d6];rw[f1,d6,em];refine one I z G J aq hz am Y a3 (λh=>⟨(a6 h).2.1,(a6 h).2.2⟩) aa af c29 m.Ts f (Int.le_trans (by decide) m2.1) m2.2.1 (λ_=>by rw[em]) (λU=>?_);obtain⟨u1,u2⟩:=f2 U;have u3:=F3 u2;have u4:=m2.1;clear a6 K one;exact⟨u1,by omega,by omega⟩
  ·have c26:x.Ks=26:=(by clear one K;omega);obtain⟨m,m1,m2⟩:=bc.k26 (by rw[x4 hx];exact c26);have em:c.M[b]=m:=by
    rw[bj,m1]at S;injection S with S
    exact S.symm
   have ax:ks=[]:=dU (t6.kr (by clear one K;omega)).1;subst ax;rw[d9 c32,f9,em];exact rest _ m2 (λi i1 i2=>by cases Z;clear one K;omega) (λh=>absurd h c32)
 ·rw[d9 cb];exact⟨0,c,rfl,hI,Cx.refl _ _ _,R4 _,by omega,λh=>absurd h cb⟩
end
end
section
theorem Qk{l:List d7}{P:w8}{nr:Nat}(hC:Ba l P nr):∀n,aF l P n:=by
 intro n
 induction n using Nat.strongRecOn with
 |_ n ih=>exact b5H hC n ih
theorem a81{l:List d7}{s:d8}{nr:Nat}(h:Zq l s nr)(hM:L0 l)(hl:l.length<=30000)(htx:∀n∈l,n.Ds.length<=65536):Ba l s.P nr:=by
 have z:=h.ri.big;unfold tot at z;refine⟨hM,hl,htx,h.ri.ty,by omega,h.recs,h.ri.fl h.good,by omega,h.ri.rc,λf B=>?_,λf B=>?_,by omega,h.ri.sl h.good⟩
 ·obtain⟨k,x,_,_,_,_,F⟩:=h.ri.fn f B;exact F
 ·obtain⟨k,st,G,H,x,ks,_,_,_,_,_,_,I,J,K,C,_⟩:=h.fns f B;omega
theorem b3h{l:List d7}{s:d8}{Sl:Int}{i:Nat}(h:NdE l s Sl i)(B:NdS l s Sl i):EnC l s.P i:=
 ⟨λz=>by obtain⟨m,a,_,_,b⟩:=h.k26 z;exact⟨m,a,b⟩,λz=>h.k27 z,λz=>h.k32 z,λz=>by obtain⟨m,a,_,b⟩:=B (by omega) (by omega);exact⟨m,a,(b z).2.2⟩⟩
end
section
structure SF(l:List d7)(M:List l8)(R:Int)(i:Nat):Prop where
 kid:7<=kd l i->kd l i<=12->∀(x:d7) (st:Nat) (ks:List Nat),l[i]? =some x->x.Cs=(st:Int)-(i+1)->Kc l (i+1) st ks->∀k∈ks,21<=kd l k->∃m,M[k]? =some m/\m.Ts≠0
 ret:kd l i=11->∀(x:d7) (st:Nat) (ks:List Nat),l[i]? =some x->x.Cs=(st:Int)-(i+1)->Kc l (i+1) st ks->(ks=[]->R=0)/\(ks≠ []->R≠0)
theorem SF.same{l:List d7}{M M':List l8}{R:Int}{i:Nat}{x:d7}{st:Nat}(h:SF l M R i)(hx:l[i]? =some x)(K:x.Cs=(st:Int)-(i+1))(e:∀j,i<=j->j<st->M'[j]? =M[j]?):SF l M' R i:=by refine⟨λa b y C ks F J G k z B=>?_,h.ret⟩;obtain⟨m,H,I⟩:=h.kid a b y C ks F J G k z B;rw[hx]at F;cases F;obtain⟨c1,c2,_⟩:=G.mem k z;exact⟨m,by rw[e k (by omega) (by omega)];exact H,I⟩
theorem SF.other{l:List d7}{M:List l8}{R:Int}{i:Nat}(h:kd l i<7\/13<kd l i):SF l M R i:=⟨λa b=>by omega,λa=>by omega⟩
inductive En(l:List d7):Nat->Prop
 |ret(b:Nat)(x:d7)(hx:l[b]? =some x)(hk:x.Ks=11):En l b
 |both(b st k0 k1 k2:Nat)(x:d7)(hx:l[b]? =some x)(hk:x.Ks=9)(hs:x.Cs=(st:Int)-(b+1))(hks:Kc l (b+1) st [k0,k1,k2])
   (x1:d7) (st1:Nat) (ks1:List Nat) (y1:Nat) (hx1:l[k1]? =some x1) (hs1:x1.Cs=(st1:Int)-(k1+1)) (hk1:Kc l (k1+1) st1 ks1) (hy1:ks1.getLast? =some y1) (h1:En l y1)
   (x2:d7) (st2:Nat) (ks2:List Nat) (y2:Nat) (hx2:l[k2]? =some x2) (hs2:x2.Cs=(st2:Int)-(k2+1)) (hk2:Kc l (k2+1) st2 ks2) (hy2:ks2.getLast? =some y2) (h2:En l y2):En l b
def LEn(l:List d7)(ks:List Nat):Prop:=∃y,ks.getLast? =some y/\En l y
def BEn(l:List d7)(k:Nat):Prop:=∃(x:d7) (st:Nat) (ks:List Nat),l[k]? =some x/\x.Cs=(st:Int)-(k+1)/\Kc l (k+1) st ks/\LEn l ks
def zW(l:List d7)(P:w8)(n:Nat):Prop:=∀(b:Nat) (x:d7) (q:Nat),q-b=n->l[b]? =some x->x.Cs=(q:Int)-(b+1)->b+1<=q->q<=l.length->7<=x.Ks->x.Ks<=13->∀c:o0,CI l P c->(∀i,b<=i->i<q->c.M[i]? =P.Ms[i]?/\EnC l P i)->
 ∃e c',La d5 c (b:Int)=some ((e,c',()),())/\CI l P c'/\Cx c c' b q/\(c'.F.Code=0->∀i,b<=i->i<q->EF l P c'.M i/\SF l c'.M c.By i)/\(c'.F.Code=0->e=true->En l b)
def We(l:List d7)(P:w8)(n:Nat):Prop:=∀(b:Nat) (x:d7) (q:Nat),q-b=n->l[b]? =some x->x.Cs=(q:Int)-(b+1)->b+1<=q->q<=l.length->x.Ks=6->∀c:o0,CI l P c->(∀i,b<=i->i<q->c.M[i]? =P.Ms[i]?/\EnC l P i)->
 ∃e c',tF d5 c (b:Int)=some ((e,c',()),())/\CI l P c'/\Cx c c' b q/\(c'.F.Code=0->∀i,b<=i->i<q->EF l P c'.M i/\SF l c'.M c.By i)/\(c'.F.Code=0->e=true->BEn l b)
section
variable{l:List d7}{P:w8}{nr:Nat}(hC:Ba l P nr)
include hC
theorem a4Z(N:Nat)(ih:∀m,m<N->zW l P m):We l P N:=by
 intro b x q hN hx hs ah hq hk c hI hM;have ag:=hC.small;obtain⟨st,ks,t1,t2,t3,t4,Z,t6,t7⟩:=hC.may.nd b x hx;have ac:st=q:=(by omega);subst ac;have af:=Z.le;have ae:∀p∈ks,7<=kd l p/\kd l p<=13:=λp hp=>fK (Qo (t6.k6 hk) p hp);have U:∀(n e c0:Nat) (a:Bool) (d:o0),ks.length-e=n->e<=ks.length->b+1<=c0->Kc l c0 st (ks.drop e)->CI l P d->(∀i,c0<=i->i<st->d.M[i]? =P.Ms[i]?/\EnC l P i)->(d.F.Code=0->a=true->LEn l (ks.take e))->
   ∃R z,vM d5 a ((l9 ks,()),()) (e:Int) d=some ((R,z,()),())/\CI l P z/\Cx d z c0 st/\(z.F.Code=0->∀i,c0<=i->i<st->EF l P z.M i/\SF l z.M d.By i)/\(z.F.Code=0->R=true->LEn l ks):=by
  intro n
  induction n with
  |zero=>
   intro e c0 a d hn he ad X O L hA;have hc:c0=st:=by rw[R3 (by omega)]at X;cases X;rfl
   rw[TU,Vb];simp only[C3];rw[d9 (by omega),f9,a5Y,jN];exact⟨a,d,rfl,O,Cx.refl _ _ _,λ_ i C H=>by omega,by rw[List.take_of_length_le (by omega)]at hA;exact hA⟩
  |succ n ihn=>
   intro e c0 a d hn he ad X O L hA;have B:e<ks.length:=(by omega);have g:=E3 B;have ga:=F6 B;rw[P0 B]at X;obtain⟨ek,y,q,Y,S,V,ab,K⟩:=X.first
   have J:=ae _ (B0 B);rw[ek,x4 Y]at J;have n1:ks.length-(e+1)=n:=(by omega);have n2:e+1<=ks.length:=(by omega);have n3:b+1<=q:=(by omega);have n5:c0<=q:=(by omega);have n7:w64 ((e:Int)+1)=((e+1:Nat):Int):=B7 (by omega);have n8:(e:Int)<(ks.length:Int):=(by omega);obtain⟨a1,d1,r1,r2,r3,r6,r7⟩:=ih (q-c0) (by omega) c0 y q rfl Y S V (by omega) J.1 J.2 d O (λi C H=>L i C (by omega));rw[TU,Vb];simp only[C3];rw[f6 n8,l6,g,d6,F9,ga,d6,ek,r1,d6,n7];obtain⟨R,z,k1,k2,Q,k7,k8⟩:=ihn (e+1) q a1 d1 n1 n2 n3 K r2 (λi C H=>by rw[r3.marks i (.inr C)];exact L i (G2 n5 C) H) (λI ht=>⟨c0,by rw[List.take_add_one,w9 B,ek];simp,r7 I ht⟩);refine⟨R,z,k1,k2,r3.trans Q (l5 _) ab n5 (l5 _),λI i C H=>?_,k8⟩;have z2:=k7 I;have aa:d1.F.Code=0:=Y5 λhc=>Q.bad hc I;have w4:=r6 aa;rw[r3.res]at z2;clear r6 k7;by_cases hi:i<q
   ·obtain⟨G,_,u1,u2,u3,u4,_⟩:=hC.may.nd c0 y Y;have:G=q:=(by omega);subst this;obtain⟨xx,kk,g1,g2,g3,g4,g5⟩:=(WFo.cons c0 G G y Y S V u4 (WFo.nil G)).inside i C hi;obtain⟨p1,p2⟩:=w4 i C hi;exact⟨p1.same g1 g2 (λj h3 h4=>Q.marks j (.inl (by omega))) g3,p2.same g1 g2 (λj h3 h4=>Q.marks j (.inl (by omega)))⟩
   ·exact z2 i (by omega) H
 have ei:(ks.map (λ(k:Nat)=>(k:Int)))=l9 ks:=rfl;rw[a1a,lT,hI.nodes,Z0 (by omega) hx t1 t3 Z,d6,ei];obtain⟨R,z,k1,k2,Q,k4,k5⟩:=U _ 0 (b+1) false c rfl (D2 _) (l5 _) (by rw[W3];exact Z) hI (λi C H=>hM i (by omega) H) (λ_ h=>nomatch h);refine⟨R,z,k1,k2,Q.trans (Cx.refl z b st) (by omega) (l5 _) (l5 _) (l5 _),λI i C H=>?_,λI ht=>⟨x,st,ks,hx,t1,Z,k5 I ht⟩⟩;by_cases e:i=b
 ·subst e;have:=x4 hx;exact⟨EF.other (by omega),SF.other (.inl (by omega))⟩
 ·exact k4 I i (by omega) H
end
end
section
section
variable{l:List d7}{P:w8}{nr:Nat}(hC:Ba l P nr)
include hC
theorem a6R(N:Nat)(ih:∀m,m<N->We l P m)(b st:Nat)(af:st<=l.length)(hN:st-b=N)(ks:List Nat)(ah:ks.length<=l.length):∀(n e c0:Nat) (a:Bool) (d:o0),ks.length-e=n->e<=ks.length->b+1<=c0->(∀(j:Nat) (H:j<ks.length),e<=j->kd l ks[j]=6)->Kc l c0 st (ks.drop e)->CI l P d->(∀i,c0<=i->i<st->d.M[i]? =P.Ms[i]?/\EnC l P i)->∃L z,Rx d5 a (e:Int) d ((l9 ks,()),())=some ((L,z,()),())/\CI l P z/\Cx d z c0 st/\(z.F.Code=0->∀i,c0<=i->i<st->EF l P z.M i/\SF l z.M d.By i)/\(z.F.Code=0->L=true->a=true/\∀(j:Nat) (H:j<ks.length),e<=j->BEn l ks[j]):=by
 have ae:=hC.small;intro n
 induction n with
 |zero=>
  intro e c0 a d hn he ab h6 Y O K;have Z:c0=st:=by rw[R3 (by omega)]at Y;cases Y;rfl
  rw[NJ,Vy];simp only[C3];rw[d9 (by omega),f9,a8E,vL];exact⟨a,d,rfl,O,Cx.refl _ _ _,λ_ i G S=>by omega,λ_ ha=>⟨ha,λj H ac=>by omega⟩⟩
 |succ n ihn=>
  intro e c0 a d hn he ab h6 Y O K;have C:e<ks.length:=(by omega);have g:=E3 C;have ga:=F6 C;have R:=h6 e C (l5 _);rw[P0 C]at Y;obtain⟨ek,y,q,hy,V,X,aa,I⟩:=Y.first
  rw[ek,x4 hy]at R;have n1:ks.length-(e+1)=n:=(by omega);have n2:e+1<=ks.length:=(by omega);have n3:b+1<=q:=(by omega);have n5:c0<=q:=(by omega);have n7:w64 ((e:Int)+1)=((e+1:Nat):Int):=B7 (by omega);have n8:(e:Int)<(ks.length:Int):=(by omega);obtain⟨a1,d1,r1,r2,r3,r6,r7⟩:=ih (q-c0) (by omega) c0 y q rfl hy V X (by omega) R d O (λi G S=>K i G (by omega));have next:∀a2:Bool,(a2=true->a=true/\a1=true)->∃L z,Rx d5 a2 ((e+1:Nat):Int) d1 ((l9 ks,()),())=some ((L,z,()),())/\CI l P z/\Cx d z c0 st/\(z.F.Code=0->∀i,c0<=i->i<st->EF l P z.M i/\SF l z.M d.By i)/\(z.F.Code=0->L=true->a=true/\∀(j:Nat) (H:j<ks.length),e<=j->BEn l ks[j]):=by
   intro a2 ad;obtain⟨L,z,k1,k2,U,k7,k8⟩:=ihn (e+1) q a2 d1 n1 n2 n3 (λj H ag=>h6 j H (by omega)) I r2 (λi G S=>by rw[r3.marks i (.inr G)];exact K i (G2 n5 G) S);refine⟨L,z,k1,k2,r3.trans U (l5 _) aa n5 (l5 _),λQ i G S=>?_,λQ ht=>?_⟩
   rotate_left
   ·obtain⟨w1,w2⟩:=k8 Q ht;obtain⟨w3,w4⟩:=ad w1;have J:d1.F.Code=0:=Y5 λZ=>U.bad Z Q;refine⟨w3,λj H ac=>?_⟩;by_cases ej:e=j
    ·subst ej;rw[ek];exact r7 J w4
    ·exact w2 j H (by omega)
   have z2:=k7 Q;have J:d1.F.Code=0:=Y5 λZ=>U.bad Z Q;have w4:=r6 J;rw[r3.res]at z2;clear r6 k7;by_cases hi:i<q
   ·obtain⟨B,_,u1,u2,u3,u4,_⟩:=hC.may.nd c0 y hy;have:B=q:=(by omega);subst this;obtain⟨xx,kk,g1,g2,g3,g4,g5⟩:=(WFo.cons c0 B B y hy V X u4 (WFo.nil B)).inside i G hi;obtain⟨p1,p2⟩:=w4 i G hi;exact⟨p1.same g1 g2 (λj h3 h4=>U.marks j (.inl (by omega))) g3,p2.same g1 g2 (λj h3 h4=>U.marks j (.inl (by omega)))⟩
   ·exact z2 i (by omega) S
  rw[NJ,Vy];simp only[C3];rw[f6 n8,l6,g,d6,F9,ga,d6,ek,r1,d6,n7];cases a with
  |true=>exact next a1 (λh=>⟨rfl,h⟩)
  |false=>exact next false (λh=>nomatch h)
end
end
section
section
variable{l:List d7}{P:w8}{nr:Nat}(hC:Ba l P nr)
include hC
theorem DD(b:Nat)(x:d7)(st:Nat)(hx:l[b]? =some x)(hs:x.Cs=(st:Int)-(b+1))(ks:List Nat)(J:Kc l (b+1) st ks)(hk:7<=x.Ks/\x.Ks<=13)(c B:o0)(k:Nat)(y:d7)(ta:Int)(ae:b+1<=k)(aa:k<=st)(hy:l[k]? =some y)(af:21<=y.Ks/\y.Ks<=32)(V:y.Cs=(st:Int)-(k+1))(hI:CI l P B)(Z:Cx c B k st)(f:A7)(hE:f.Code=0->(∃m,B.M[k]? =some m/\m.Ts=ta)/\∀i,k<=i->i<st->EF l P B.M i)(H:∀i,b+1<=i->i<k->14<=kd l i/\kd l i<21)(S:∀N∈ks,21<=kd l N->N=k)(hf:c.F.Code≠0->f.Code≠0)(I:f.Code=0->x.Ks<=12->ta≠0)(C:f.Code=0->x.Ks=11->(ks=[]->c.By=0)/\(ks≠ []->c.By≠0)):CI l P ⟨B.L,B.M,B.P,B.T,f,B.By⟩/\Cx c ⟨B.L,B.M,B.P,B.T,f,B.By⟩ b st/\(f.Code=0->∀i,b<=i->i<st->EF l P B.M i/\SF l B.M c.By i):=by
 refine⟨hI.fault f,⟨λi hi=>Z.marks i (by omega),Z.res,hf⟩,λR i i1 Y=>?_⟩;obtain⟨⟨m,m1,m2⟩,m3⟩:=hE R;have hn:=I R;have hr:=C R;clear hE I C;by_cases e:i=b
 ·subst e;have ad:=x4 hx;refine⟨EF.other (by omega),⟨λ_ ab z G O K a2 U N Q X=>?_,λac z G O K a2 U=>?_⟩⟩
  ·rw[hx]at K;cases K;have:G=st:=(by omega);subst this;have:=J.det U;subst this;have:=S N Q X;subst this;exact⟨m,m1,by rw[m2];exact hn (by omega)⟩
  ·rw[hx]at K;cases K;have:G=st:=(by omega);subst this;have:=J.det U;subst this;exact hr (by omega)
 ·by_cases h:i<k
  ·obtain⟨w1,w2⟩:=H i (by omega) h;exact⟨EF.other w2,SF.other (.inr (by omega))⟩
  ·refine⟨m3 i (by omega) Y,SF.other (.inr ?_)⟩;have:=My hC.may hC.small hC.tx _ k y st hy V rfl (by omega) i (by omega) Y;omega
end
end
section
section
variable{l:List d7}{P:w8}{nr:Nat}(hC:Ba l P nr)
include hC
theorem a8K(b:Nat)(x:d7)(q:Nat)(hx:l[b]? =some x)(hs:x.Cs=(q:Int)-(b+1))(af:b+1<=q)(hq:q<=l.length)(hk:x.Ks=12\/x.Ks=13)(c:o0)(hI:CI l P c)(hM:∀i,b<=i->i<q->c.M[i]? =P.Ms[i]?/\EnC l P i):∃e z,La d5 c (b:Int)=some ((e,z,()),())/\CI l P z/\Cx c z b q/\(z.F.Code=0->∀i,b<=i->i<q->EF l P z.M i/\SF l z.M c.By i)/\(z.F.Code=0->e=true->En l b):=by
 have ag:=hC.small;obtain⟨st,ks,t1,t2,t3,t4,t5,t6,t7⟩:=hC.may.nd b x hx;have S:st=q:=(by omega);subst S;have Q:=(o9.1 hx).1;have R:=(o9.1 hx).2;have hS:G8 l ks=[101]:=by
  rcases hk with h|h
  ·exact t6.k12 (.inl h)
  ·exact(t6.k13 h).1
 obtain⟨e1,e2⟩:=J7 hS;obtain⟨y,rfl,O,J,X⟩:=Xi t5 e1;have s0:=M2 (e2 0 (by simp) (by simp));simp only[K5]at s0;rw[x4 O]at s0;have g0:f7 (l9 [b+1]) (0:Int)=some ((b+1:Nat):Int):=E3 (i:=0) (ks:=[b+1]) (by simp);have ab:(l9 [b+1])[Int.toNat 0]? =some ((b+1:Nat):Int):=F6 (i:=0) (ks:=[b+1]) (by simp);have ei:(([b+1]:List Nat).map (λ(k:Nat)=>(k:Int)))=l9 [b+1]:=rfl;have k7:¬x.Ks=7:=(by omega);have k8:¬x.Ks=8:=(by omega);have k9:¬x.Ks=9:=(by omega);have ad:¬x.Ks=10:=(by omega);have K:¬x.Ks=11:=(by omega);have Y:7<=x.Ks/\x.Ks<=13:=(by omega);rw[Xq,Ke];by_cases N:c.F.Code=0
 ·rw[f6 N,B8,f9,hI.nodes,Z0 (by omega) hx t1 t3 t5,d6,p9 Q,d6,R,ei,d9 k7,f9,d9 k8,f9,d9 k9,f9,d9 ad,f9,d9 K,f9];obtain⟨ta,I,a1,a2,a3,a4,a5,a6⟩:=Qk hC _ (b+1) y st rfl O J X t3 s0.1 s0.2 c hI (λi i1 V=>hM i (by omega) V);have U:b+1<I.L.length:=(by rw[a2.nodes];exact(o9.1 O).1);have G:∀i,b+1<=i->i<b+1->14<=kd l i/\kd l i<21:=λi i1 V=>absurd V (Nat.not_lt_of_le i1);have Z:∀k'∈ [b+1],21<=kd l k'->k'=b+1:=λk' aa _=>K4.1 aa;have H:=λ(f:A7) (h1:f.Code=0->I.F.Code=0) (h2:f.Code=0->x.Ks<=12->ta≠0)=>DD hC b x st hx t1 [b+1] t5 Y c I (b+1) y ta (l5 _) t2 O s0 J a2 a3 f (λB=>⟨(a6 (h1 B)).2.1,(a6 (h1 B)).2.2⟩) G Z (λh=>absurd N h) h2 (λ_ h=>absurd h K);simp only;rw[g0,d6,ab,d6,a1];simp only[d6];rcases hk with ac|C
  ·obtain⟨f,f1,f2⟩:=Bn I (!(decide (ta=0))) (b+1) U;rw[f6 ac,l6,f1];obtain⟨z1,z2,z3⟩:=H f (λB=>(f2 B).1) (λB _=>by have:=(f2 B).2;simpa using this);exact⟨false,_,rfl,z1,z2,z3,λ_ h=>nomatch h⟩
  ·have ae:¬x.Ks=12:=(by rw[C];decide);rw[d9 ae,f9,a1];obtain⟨z1,z2,z3⟩:=H I.F id (λ_ h=>by rw[C]at h;exact absurd h (by decide));exact⟨false,_,rfl,z1,z2,z3,λ_ h=>nomatch h⟩
 ·rw[d9 N];exact⟨false,c,rfl,hI,Cx.refl _ _ _,λh=>absurd h N,λ_ h=>nomatch h⟩
end
end
section
section
variable{l:List d7}{P:w8}{nr:Nat}(hC:Ba l P nr)
include hC
theorem b48(b:Nat)(x:d7)(q:Nat)(hx:l[b]? =some x)(hs:x.Cs=(q:Int)-(b+1))(ao:b+1<=q)(hq:q<=l.length)(Q:x.Ks=11)(c:o0)(Z:CI l P c)(hM:∀i,b<=i->i<q->c.M[i]? =P.Ms[i]?/\EnC l P i):∃e I,La d5 c (b:Int)=some ((e,I,()),())/\CI l P I/\Cx c I b q/\(I.F.Code=0->∀i,b<=i->i<q->EF l P I.M i/\SF l I.M c.By i)/\(I.F.Code=0->e=true->En l b):=by
 have am:=hC.small;obtain⟨st,ks,t1,t2,t3,t4,K,t6,t7⟩:=hC.may.nd b x hx;have ag:st=q:=(by omega);subst ag;have R:=(o9.1 hx).1;have ae:=(o9.1 hx).2;have k7:¬x.Ks=7:=(by omega);have k8:¬x.Ks=8:=(by omega);have k9:¬x.Ks=9:=(by omega);have ai:¬x.Ks=10:=(by omega);have ab:7<=x.Ks/\x.Ks<=13:=(by omega);have ei:(ks.map (λ(k:Nat)=>(k:Int)))=l9 ks:=rfl;rw[Xq,Ke];by_cases Y:c.F.Code=0
 ·rw[f6 Y,B8,f9,Z.nodes,Z0 (by omega) hx t1 t3 K,d6,p9 R,d6,ae,ei,d9 k7,f9,d9 k8,f9,d9 k9,f9,d9 ai,f9,f6 Q,l6];simp only[C3];rcases t6.k11 Q with hS|hS
  ·have al:=dU hS;subst al;have an:st=b+1:=(by cases K;rfl);have aj:b<c.L.length:=(by rw[Z.nodes];exact R);obtain⟨f,S,C⟩:=Bn c (decide (c.By=0)) b aj;rw[f6 (by simp),l6,S];refine⟨true,_,rfl,Z.fault f,⟨λ_ _=>rfl,rfl,λh=>absurd Y h⟩,λB i i1 i2=>?_,λ_ _=>.ret b x hx Q⟩;have:i=b:=(by omega);subst this;have hr:=F3 (C B).2;refine⟨EF.other (by rw[x4 hx];omega),⟨λ_ _ z G ak H a2 X k' af _=>?_,λ_ z G ak H a2 X=>?_⟩⟩
   ·rw[hx]at H;cases H;have:G=st:=(by omega);subst this;have:=K.det X;subst this;exact nomatch af
   ·rw[hx]at H;cases H;have:G=st:=(by omega);subst this;have:=K.det X;subst this;exact⟨λ_=>hr,λh=>absurd rfl h⟩
  ·obtain⟨e1,e2⟩:=J7 hS;obtain⟨y,rfl,hy,U,aa⟩:=Xi K e1;have s0:=M2 (e2 0 (by simp) (by simp));simp only[K5]at s0;rw[x4 hy]at s0;have g0:f7 (l9 [b+1]) (0:Int)=some ((b+1:Nat):Int):=E3 (i:=0) (ks:=[b+1]) (by simp);have ah:(l9 [b+1])[Int.toNat 0]? =some ((b+1:Nat):Int):=F6 (i:=0) (ks:=[b+1]) (by simp);obtain⟨ta,J,H,a2,X,a4,a5,a6⟩:=Qk hC _ (b+1) y st rfl hy U aa t3 s0.1 s0.2 c Z (λi i1 i2=>hM i (by omega) i2);have V:b+1<J.L.length:=(by rw[a2.nodes];exact(o9.1 hy).1);have N:∀i,b+1<=i->i<b+1->14<=kd l i/\kd l i<21:=λi i1 i2=>absurd i2 (Nat.not_lt_of_le i1);have ac:∀k'∈ [b+1],21<=kd l k'->k'=b+1:=λk' ad _=>K4.1 ad;have O:=λ(f:A7) (h1:f.Code=0->J.F.Code=0) (h2:f.Code=0->ta≠0/\c.By≠0)=>DD hC b x st hx t1 [b+1] K ab c J (b+1) y ta (l5 _) t2 hy s0 U a2 X f (λB=>⟨(a6 (h1 B)).2.1,(a6 (h1 B)).2.2⟩) N ac (λh=>absurd Y h) (λB _=>(h2 B).1) (λB _=>⟨λh=>absurd h (by simp),λ_=>(h2 B).2⟩);rw[d9 (by simp),f9,g0,d6,ah,d6,H];simp only[d6];by_cases cr:c.By=0
   ·obtain⟨f,S,C⟩:=Bn J false (b+1) V;rw[f6 cr,B8,f9,S];obtain⟨z1,z2,z3⟩:=O f (λB=>(C B).1) (λB=>absurd (C B).2 (by decide));exact⟨true,_,rfl,z1,z2,z3,λ_ _=>.ret b x hx Q⟩
   ·obtain⟨r,r1,r2⟩:=Rq J ta c.By;obtain⟨f,S,C⟩:=Bn J r (b+1) V;rw[d9 cr,F4,l6,r1];simp only[d6];rw[S];obtain⟨z1,z2,z3⟩:=O f (λB=>(C B).1) (λB=>⟨by
     have h5:=(r2 (C B).2).2.2.2.2;rcases h5 with h|h
     ·rw[h];exact cr
     ·rw[h];decide,cr⟩)
    exact⟨true,_,rfl,z1,z2,z3,λ_ _=>.ret b x hx Q⟩
 ·rw[d9 Y];exact⟨false,c,rfl,Z,Cx.refl _ _ _,λh=>absurd h Y,λ_ h=>nomatch h⟩
end
end
section
section
variable{l:List d7}{P:w8}{nr:Nat}(hC:Ba l P nr)
include hC
theorem b0g(b:Nat)(x:d7)(q:Nat)(hx:l[b]? =some x)(hs:x.Cs=(q:Int)-(b+1))(R:b+1<=q)(hq:q<=l.length)(Z:x.Ks=7)(c:o0)(hI:CI l P c)(hM:∀i,b<=i->i<q->c.M[i]? =P.Ms[i]?/\EnC l P i):∃e H,La d5 c (b:Int)=some ((e,H,()),())/\CI l P H/\Cx c H b q/\(H.F.Code=0->∀i,b<=i->i<q->EF l P H.M i/\SF l H.M c.By i)/\(H.F.Code=0->e=true->En l b):=by
 have al:=hC.small;obtain⟨st,ks,t1,t2,t3,t4,t5,t6,t7⟩:=hC.may.nd b x hx;have ag:st=q:=(by omega);subst ag;have af:=(o9.1 hx).1;have ad:=(o9.1 hx).2;have aa:7<=x.Ks/\x.Ks<=13:=(by omega);obtain⟨m,m1,m2⟩:=(hM b (l5 _) R).2.k7 (by rw[x4 hx];exact Z);obtain⟨e1,e2⟩:=J7 (t6.k7 Z);obtain⟨C,B,y,z,rfl,am,hy,ah,ak,X,N,S⟩:=Kg t5 e1;have s0:=Z8 (e2 0 (by simp) (by simp));have Q:=M2 (e2 1 (by simp) (by simp));simp only[K5,Dp]at s0 Q;rw[x4 hy]at s0;rw[x4 X]at Q;have g1:f7 (l9 [C,B]) (1:Int)=some ((B:Nat):Int):=E3 (i:=1) (ks:=[C,B]) (by simp);have ai:(l9 [C,B])[Int.toNat 1]? =some ((B:Nat):Int):=F6 (i:=1) (ks:=[C,B]) (by simp);have ei:(([C,B]:List Nat).map (λ(k:Nat)=>(k:Int)))=l9 [C,B]:=rfl;have K:=Ht hC.may hC.small hC.tx _ C y B hy ah rfl (by omega);have I:∀i,b+1<=i->i<B->14<=kd l i/\kd l i<21:=λi i1 i2=>by have:=K i (by omega) i2;omega
 have ab:∀k'∈ [C,B],21<=kd l k'->k'=B:=λk' J an=>by
  simp at J;rcases J with rfl|rfl
  ·have:=K k' (l5 _) (by omega);omega
  ·rfl
 have G:b+1<=B:=(by omega);rw[Xq,Ke];by_cases cb:c.F.Code=0
 ·rw[f6 cb,B8,f9,hI.nodes,Z0 (by omega) hx t1 t3 t5,d6,p9 af,d6,ad,ei,f6 Z,l6];obtain⟨ta,O,a1,a2,a3,a4,a5,a6⟩:=Qk hC _ B z st rfl X N S t3 Q.1 Q.2 c hI (λi i1 i2=>hM i (by omega) i2);have aj:B<O.L.length:=(by rw[a2.nodes];exact(o9.1 X).1);have V:O.M[b]? =some m:=(by rw[a3.marks b (.inl G),(hM b (l5 _) R).1];exact m1);have ae:=(o9.1 V).1;have U:=(o9.1 V).2;obtain⟨r,r1,r2⟩:=Rq O ta m.Ts;obtain⟨f,f1,f2⟩:=Bn O r B aj;simp only;rw[g1,d6,ai,d6,a1,d6,p9 ae,d6,U];simp only[d6];rw[r1];simp only[d6];rw[f1];have ac:¬x.Ks=11:=(by rw[Z];decide);obtain⟨z1,z2,z3⟩:=DD hC b x st hx t1 [C,B] t5 aa c O B z ta G (Nat.le_of_lt S) X Q N a2 a3 f (λY=>⟨(a6 (f2 Y).1).2.1,(a6 (f2 Y).1).2.2⟩) I ab (λh=>absurd cb h) (λY _=>by
   have h5:=(r2 (f2 Y).2).2.2.2.2;have:=m2.1;clear a6;omega) (λ_ h=>absurd h ac)
  exact⟨false,_,rfl,z1,z2,z3,λ_ h=>nomatch h⟩
 ·rw[d9 cb];exact⟨false,c,rfl,hI,Cx.refl _ _ _,λh=>absurd h cb,λ_ h=>nomatch h⟩
end
end
section
section
variable{l:List d7}{P:w8}{nr:Nat}(hC:Ba l P nr)
include hC
set_option maxHeartbeats 2000000 in
theorem a8d(b:Nat)(x:d7)(q:Nat)(hx:l[b]? =some x)(hs:x.Cs=(q:Int)-(b+1))(bc:b+1<=q)(hq:q<=l.length)(hk:x.Ks=8)(c:o0)(hI:CI l P c)(hM:∀i,b<=i->i<q->c.M[i]? =P.Ms[i]?/\EnC l P i):∃e G,La d5 c (b:Int)=some ((e,G,()),())/\CI l P G/\Cx c G b q/\(G.F.Code=0->∀i,b<=i->i<q->EF l P G.M i/\SF l G.M c.By i)/\(G.F.Code=0->e=true->En l b):=by
 have az:=hC.small;obtain⟨st,ks,t1,t2,t3,t4,t5,t6,t7⟩:=hC.may.nd b x hx;have am:st=q:=(by omega);subst am;have al:=(o9.1 hx).1;have af:=(o9.1 hx).2;obtain⟨f1,f2⟩:=t6.k8 hk;obtain⟨e1,e2⟩:=J7 f1;obtain⟨B,C,y,z,rfl,a7,I,Q,N,hz,U,ap⟩:=Kg t5 e1;have s0:=M2 (e2 0 (by simp) (by simp));have s1:=M2 (e2 1 (by simp) (by simp));simp only[K5,Dp]at s0 s1;rw[x4 I]at s0;rw[x4 hz]at s1;have fk:y.Ks≠27:=by have:fkd l [B,C]=y.Ks:=x4 I;rw[this]at f2;omega
 have g0:f7 (l9 [B,C]) (0:Int)=some ((B:Nat):Int):=E3 (i:=0) (ks:=[B,C]) (by simp);have an:(l9 [B,C])[Int.toNat 0]? =some ((B:Nat):Int):=F6 (i:=0) (ks:=[B,C]) (by simp);have g1:f7 (l9 [B,C]) (1:Int)=some ((C:Nat):Int):=E3 (i:=1) (ks:=[B,C]) (by simp);have ab:(l9 [B,C])[Int.toNat 1]? =some ((C:Nat):Int):=F6 (i:=1) (ks:=[B,C]) (by simp);have ei:(([B,C]:List Nat).map (λ(k:Nat)=>(k:Int)))=l9 [B,C]:=rfl;have Z:=My hC.may hC.small hC.tx _ B y C I Q rfl (by omega);have Y:=My hC.may hC.small hC.tx _ C z st hz U rfl (by omega);have K:=(o9.1 I).1;have ae:=(o9.1 I).2;have S:=(o9.1 hz).1;rw[Xq,Ke];by_cases cb:c.F.Code=0
 ·have n7:¬x.Ks=7:=(by rw[hk];decide);rw[f6 cb,B8,f9,hI.nodes,Z0 (by omega) hx t1 t3 t5,d6,p9 al,d6,af,ei,d9 n7,f9,f6 hk,l6];obtain⟨ta,ca,a1,a2,a3,a4,a5,a6⟩:=Qk hC _ B y C rfl I Q N (by omega) s0.1 s0.2 c hI (λi i1 i2=>hM i (by omega) (by omega));obtain⟨tb,cc,b1,b2,b3,b4,b5,b6⟩:=Qk hC _ C z st rfl hz U ap t3 s1.1 s1.2 ca a2 (λi i1 i2=>by rw[a3.marks i (.inr i1)];exact hM i (by omega) i2);have ac:∀f:A7,(f.Code=0->cc.F.Code=0)->∃e G,Pr d5 ((ta,ca,()),()) ((tb,cc,()),()) ⟨cc.L,cc.M,cc.P,cc.T,f,cc.By⟩ ((l9 [B,C],()),())=some ((e,G,()),())/\CI l P G/\Cx c G b st/\(G.F.Code=0->∀i,b<=i->i<st->EF l P G.M i/\SF l G.M c.By i)/\(G.F.Code=0->e=true->En l b):=by
   intro f hf;obtain⟨r,r1,r2⟩:=Rq ⟨cc.L,cc.M,cc.P,cc.T,f,cc.By⟩ tb ta;obtain⟨f',ar,ak⟩:=Bn ⟨cc.L,cc.M,cc.P,cc.T,f,cc.By⟩ r C (by simp only;rw[b2.nodes];exact S);rw[a7t,kX];simp only;rw[r1];simp only[d6];rw[g1,d6,ab,d6,ar];refine⟨false,_,rfl,b2.fault f',⟨λi hi=>?_,by show cc.By=c.By;rw[b3.res,a3.res],λh=>absurd cb h⟩,λhg i i1 i2=>?_,λ_ h=>nomatch h⟩
   ·show cc.M[i]? =c.M[i]?;rw[b3.marks i (by omega),a3.marks i (by omega)]
   ·obtain⟨ag,aq⟩:=ak hg;have V:=hf ag;have ah:ca.F.Code=0:=Y5 λhc=>b3.bad hc V;obtain⟨p1,⟨m,m1,m2⟩,p3⟩:=a6 ah;obtain⟨q1,⟨m',ao,aj⟩,q3⟩:=b6 V;have X:=p1 fk;have aa:=(r2 aq).2.2.2.2;have ad:tb≠0:=by
     rcases aa with h|h
     ·rw[h];exact X
     ·rw[h];decide
    clear a6 b6;have same:∀j,B<=j->j<C->cc.M[j]? =ca.M[j]? :=λj j1 j2=>b3.marks j (.inl j2);show EF l P cc.M i/\SF l cc.M c.By i;by_cases e:i=b
    ·subst e;have a8:=x4 hx;refine⟨EF.other (by omega),⟨λ_ _ w ai bb w1 w2 w3 k' O a9=>?_,λbd=>by omega⟩⟩;rw[hx]at w1;cases w1;have:ai=st:=(by omega);subst this;have:=t5.det w3;subst this;rcases D0.1 O with rfl|O
     ·exact⟨m,by rw[same k' (l5 _) N];exact m1,by rw[m2];exact X⟩
     ·rw[K4.1 O];exact⟨m',ao,by rw[aj];exact ad⟩
    ·by_cases h:i<C
     ·obtain⟨H,_,u1,u2,u3,u4,_⟩:=hC.may.nd B y I;have:H=C:=(by omega);subst this;obtain⟨xx,kk,v1,v2,v3,v4,v5⟩:=(WFo.cons B H H y I Q N u4 (WFo.nil H)).inside i (by omega) h;refine⟨(p3 i (by omega) h).same v1 v2 (λj j1 j2=>same j (by omega) (by omega)) v3,SF.other (.inr ?_)⟩;have:=Z i (by omega) h;omega
     ·refine⟨q3 i (by omega) i2,SF.other (.inr ?_)⟩;have:=Y i (by omega) i2;omega
  have R:(⟨cc.L,cc.M,cc.P,cc.T,cc.F,cc.By⟩:o0)=cc:=rfl;have J:=ac cc.F id;rw[R]at J;simp only;rw[g0,d6,an,d6,a1];simp only[d6];rw[g1,d6,ab,d6,b1];simp only[d6];by_cases cg:cc.F.Code=0
  ·rw[f6 cg,l6,b2.nodes,p9 K,d6,ae];by_cases c28:y.Ks=28
   ·obtain⟨H,be,u1,u2,u3,u4,u5,u6,_⟩:=hC.may.nd B y I;obtain⟨v1,v2⟩:=J7 (u6.k28 (.inl c28));obtain⟨j0,j1,y0,y1,rfl,a0,ba,ax,au,av,ay,aw⟩:=Kg u5 v1;have hm:B+1<cc.M.length:=(by rw[b2.len];omega);have ew:w64 ((B:Int)+1)=((B+1:Nat):Int):=B7 (by omega);rw[f6 c28,l6,ew,p9 hm,d6];by_cases c3:cc.M[B+1].Ts=3
    ·obtain⟨f,f1,f2⟩:=Lx cc 9 (by decide) B (by rw[b2.nodes];exact K);rw[f6 c3,l6,f1];exact ac f (λh=>absurd h f2)
    ·rw[d9 c3];exact J
   ·rw[d9 c28];exact J
  ·rw[d9 cg];exact J
 ·rw[d9 cb];exact⟨false,c,rfl,hI,Cx.refl _ _ _,λh=>absurd h cb,λ_ h=>nomatch h⟩
end
end
section
section
variable{l:List d7}{P:w8}{nr:Nat}(hC:Ba l P nr)
include hC
set_option maxHeartbeats 2000000 in
theorem a48(N:Nat)(ih:∀m,m<N->We l P m)(b:Nat)(x:d7)(q:Nat)(hN:q-b=N)(hx:l[b]? =some x)(hs:x.Cs=(q:Int)-(b+1))(az:b+1<=q)(hq:q<=l.length)(hk:x.Ks=9\/x.Ks=10)(c:o0)(hI:CI l P c)(hM:∀i,b<=i->i<q->c.M[i]? =P.Ms[i]?/\EnC l P i):∃e B,La d5 c (b:Int)=some ((e,B,()),())/\CI l P B/\Cx c B b q/\(B.F.Code=0->∀i,b<=i->i<q->EF l P B.M i/\SF l B.M c.By i)/\(B.F.Code=0->e=true->En l b):=by
 have aq:=hC.small;obtain⟨st,ks,t1,t2,t3,t4,t5,t6,t7⟩:=hC.may.nd b x hx;have ah:st=q:=(by omega);subst ah;have ag:=(o9.1 hx).1;have ab:=(o9.1 hx).2;have hS:∃J:List Int,G8 l ks=101::J/\(∀s∈J,s=98)/\(J.length=1\/J.length=2/\x.Ks=9):=by
  rcases hk with h|h
  ·rcases t6.k9 h with h'|h'
   ·exact⟨[98],h',by simp,.inl rfl⟩
   ·exact⟨[98,98],h',by simp,.inr ⟨rfl,h⟩⟩
  ·exact⟨[98],t6.k10 h,by simp,.inl rfl⟩
 obtain⟨J,ao,al,ar⟩:=hS;obtain⟨e1,e2⟩:=J7 ao;rw[F8]at e1;have U:=t5.le;obtain⟨k0,z,rfl⟩:∃k z,ks=k::z:=by
  cases ks with
  |nil=>simp at e1
  |cons k z=>exact⟨k,z,rfl⟩
 have H:=t5;obtain⟨rfl,y,S,R,Q,K,av,O⟩:=t5.first
 have s0:=M2 (e2 0 (by simp) (by simp));simp only[K5]at s0;rw[x4 R]at s0;have h6:∀(j:Nat) (hj:j<((b+1)::z).length),1<=j->kd l ((b+1)::z)[j]=6:=λj hj au=>by
  have ap:j<(101::J).length:=(by rw[F8];omega);have h:=e2 j hj ap;have hm:(101::J)[j]∈J:=by obtain⟨j',rfl⟩:∃j',j=j'+1:=⟨j-1,by omega⟩;rw[Dp];exact B0 _
  exact Sr (h.trans (al _ hm))
 have g0:f7 (l9 ((b+1)::z)) (0:Int)=some ((b+1:Nat):Int):=E3 (i:=0) (ks:=(b+1)::z) (by simp);have ak:(l9 ((b+1)::z))[Int.toNat 0]? =some ((b+1:Nat):Int):=F6 (i:=0) (ks:=(b+1)::z) (by simp);have ei:(((b+1)::z:List Nat).map (λ(k:Nat)=>(k:Int)))=l9 ((b+1)::z):=rfl;have X:=My hC.may hC.small hC.tx _ (b+1) y S R Q rfl (by omega);have V:=(o9.1 R).1;rw[Xq,Ke];by_cases cb:c.F.Code=0
 ·have n7:¬x.Ks=7:=(by omega);have n8:¬x.Ks=8:=(by omega);rw[f6 cb,B8,f9,hI.nodes,Z0 (by omega) hx t1 t3 H,d6,p9 ag,d6,ab,ei,d9 n7,f9,d9 n8,f9];have Z:∃e B,kA d5 c ((l9 ((b+1)::z),()),())=some ((e,B,()),())/\CI l P B/\Cx c B b st/\(B.F.Code=0->∀i,b<=i->i<st->EF l P B.M i/\SF l B.M c.By i)/\(B.F.Code=0->e=true->En l b):=by
   obtain⟨ta,C,a1,a2,a3,a4,a5,a6⟩:=Qk hC _ (b+1) y S rfl R Q K (by omega) s0.1 s0.2 c hI (λi i1 i2=>hM i (by omega) (by omega));obtain⟨f,f1,f2⟩:=Bn C (decide (ta=2)) (b+1) (by rw[a2.nodes];exact V);have ai:=a2.fault f;obtain⟨a',d',b1,b2,b3,b4,b5⟩:=a6R hC N ih b st t3 hN ((b+1)::z) (G2 (Nat.le_add_left _ _) (G2 U t3)) _ 1 S (decide (((l9 ((b+1)::z)).length:Int)=3)) ⟨C.L,C.M,C.P,C.T,f,C.By⟩ rfl (by simp) (by omega) h6 (by simpa using O) ai (λi i1 i2=>by
    show C.M[i]? =P.Ms[i]?/\EnC l P i;rw[a3.marks i (.inr i1)];exact hM i (by omega) i2)
   rw[b6f,cD];simp only;rw[g0,d6,ak,d6,a1];simp only[d6];rw[f1];simp only[d6];refine⟨a',d',b1,b2,⟨λi hi=>?_,by rw[b3.res];exact a3.res,λh=>absurd cb h⟩,λhg i i1 i2=>?_,λhg ht=>?_⟩
   ·rw[b3.marks i (by omega)];exact a3.marks i (by omega)
   ·have am:f.Code=0:=Y5 λhc=>b3.bad hc hg;obtain⟨ad,aj⟩:=f2 am;have af:ta=2:=F3 aj;obtain⟨p1,⟨m,m1,m2⟩,p3⟩:=a6 ad;have z4:=b4 hg;have Y:(⟨C.L,C.M,C.P,C.T,f,C.By⟩:o0).By=c.By:=a3.res;rw[Y]at z4;clear a6 b4 b5;have same:∀j,b+1<=j->j<S->d'.M[j]? =C.M[j]? :=λj j1 j2=>b3.marks j (.inl j2);by_cases e:i=b
    ·subst e;have aw:=x4 hx;refine⟨EF.other (by omega),⟨λ_ _ w ae ay w1 w2 G k' ac ax=>?_,λa0=>by omega⟩⟩;rw[hx]at w1;cases w1;have:ae=st:=(by omega);subst this;have:=H.det G;subst this;obtain⟨j,hj,rfl⟩:=List.getElem_of_mem ac;by_cases aa:j=0
     ·subst aa;refine⟨m,?_,by rw[m2,af];decide⟩;show d'.M[i+1]? =some m;rw[same _ (l5 _) K];exact m1
     ·have:=h6 j hj (by omega);omega
    ·by_cases h:i<S
     ·obtain⟨I,_,u1,u2,u3,u4,_⟩:=hC.may.nd (b+1) y R;have:I=S:=(by omega);subst this;obtain⟨xx,kk,v1,v2,v3,v4,v5⟩:=(WFo.cons (b+1) I I y R Q K u4 (WFo.nil I)).inside i (by omega) h;refine⟨(p3 i (by omega) h).same v1 v2 (λj j1 j2=>same j (by omega) (by omega)) v3,SF.other (.inr ?_)⟩;have:=X i (by omega) h;omega
     ·exact z4 i (by omega) i2
   ·obtain⟨w1,w2⟩:=b5 hg ht;have G:((l9 ((b+1)::z)).length:Int)=3:=F3 w1;rw[C3]at G;clear a6 b4 b5;have an:x.Ks=9:=by rw[F8]at e1 G;omega
    match z,H,w2,G with
    | [k1,k2],H,w2,G=>obtain⟨x1,s1,l1,p1,p2,p3,y1,p4,p5⟩:=w2 1 (by simp) (l5 _);obtain⟨x2,s2,l2,r1,r2,r3,y2,r4,r5⟩:=w2 2 (by simp) (by omega);exact .both b st (b+1) k1 k2 x hx an t1 H x1 s1 l1 y1 p1 p2 p3 p4 p5 x2 s2 l2 y2 r1 r2 r3 r4 r5
    | [],_,_,G=>simp at G
    | [_],_,_,G=>simp at G
    |_::_::_::_,_,_,G=>simp at G;omega
  rcases hk with h|h
  ·rw[f6 h,l6];exact Z
  ·rw[d9 (by rw[h];decide),f9,f6 h,l6];exact Z
 ·rw[d9 cb];exact⟨false,c,rfl,hI,Cx.refl _ _ _,λh=>absurd h cb,λ_ h=>nomatch h⟩
theorem a4N(N:Nat)(I:∀m,m<N->We l P m):zW l P N:=by
 intro b x q J hx F z C K G c B hM;have H:x.Ks=7\/x.Ks=8\/(x.Ks=9\/x.Ks=10)\/x.Ks=11\/(x.Ks=12\/x.Ks=13):=(by omega);rcases H with h|h|h|h|h
 ·exact b0g hC b x q hx F z C h c B hM
 ·exact a8d hC b x q hx F z C h c B hM
 ·exact a48 hC N I b x q J hx F z C h c B hM
 ·exact b48 hC b x q hx F z C h c B hM
 ·exact a8K hC b x q hx F z C h c B hM
theorem b23:∀n,zW l P n/\We l P n:=by
 intro n
 induction n using Nat.strongRecOn with
 |_ n ih=>exact⟨a4N hC n (λm z=>(ih m z).2),a4Z hC n (λm z=>(ih m z).1)⟩
end
end
section
theorem CI.res{l:List d7}{P:w8}{c:o0}(h:CI l P c)(r:Int):CI l P ⟨c.L,c.M,c.P,c.T,c.F,r⟩:=⟨h.nodes,h.prog,h.tys,h.len,h.ty,h.rf⟩
def FC(l:List d7)(P:w8)(M:List l8)(f:x8):Prop:=∀(k st np bp:Nat) (x:d7) (ks:List Nat),f.Gs=(k:Int)->l[k]? =some x->x.Cs=(st:Int)-(k+1)->Kc l (k+1) st ks->ks.length=np+2->ks[np+1]? =some bp->
 (∀i,bp<=i->i<st->EF l P M i/\SF l M f.By i)/\(f.By≠0->BEn l bp)
theorem b34{l:List d7}{P:w8}{M M':List l8}{R:Int}{lo hi:Nat}(K:WFo l lo hi)(h:∀i,lo<=i->i<hi->EF l P M i/\SF l M R i)(e:∀j,lo<=j->j<hi->M'[j]? =M[j]?):∀i,lo<=i->i<hi->EF l P M' i/\SF l M' R i:=by intro i F z;obtain⟨O,N,B,C,I,Q,S⟩:=K.inside i F z;obtain⟨L,H⟩:=h i F z;exact⟨L.same B C (λj G J=>e j (by omega) (by omega)) I,H.same B C (λj G J=>e j (by omega) (by omega))⟩
theorem a7h{P:w8}{ts:List Nat}(J:P.As.map x8.Gs=l9 ts)(H:ts.Pairwise (· < ·)){i j:Nat}(G:i<j){f g:x8}(F:P.As[i]? =some f)(N:P.As[j]? =some g){a b:Nat}(I:f.Gs=(a:Int))(M:g.Gs=(b:Int)):a<b:=by
 have C:∀(i:Nat) (f:x8) (a:Nat),P.As[i]? =some f->f.Gs=(a:Int)->∃h:i<ts.length,ts[i]=a:=by
  intro i f a F I;have z:=congrArg (λL=>L[i]?) J;simp only[P2,F,G6]at z;have O:=(o9.1 F).1;have B:i<ts.length:=by have:=congrArg List.length J;rw[F5,C3]at this;omega
  rw[F6 B,I]at z;injection z with z
  exact⟨B,by omega⟩
 obtain⟨z,R⟩:=C i f a F I;obtain⟨K,Q⟩:=C j g b N M;have:=List.pairwise_iff_getElem.1 H i j z K G;omega
section
variable{l:List d7}{s:d8}{nr:Nat}(h:Zq l s nr)(hM:L0 l)(hl:l.length<=30000)(htx:∀n∈l,n.Ds.length<=65536)
include h hM hl htx
theorem xW{i j:Nat}(C:i<j){f g:x8}(H:s.P.As[i]? =some f)(F:s.P.As[j]? =some g){a b st:Nat}(Q:f.Gs=(a:Int))(K:g.Gs=(b:Int)){x:d7}(hx:l[a]? =some x)(N:x.Cs=(st:Int)-(a+1)):st<=b:=by obtain⟨ts,L,J⟩:=h.order;have B:=a7h L J C H F Q K;obtain⟨G,V,c1,c2,c3,_⟩:=h.ri.fn f (O8 H);obtain⟨b',U,S,I,R,_⟩:=h.ri.fn g (O8 F);have O:G=a:=(by omega);have M:b'=b:=(by omega);subst O M;rw[hx]at c2;cases c2;refine Nat.le_of_not_lt λz=>?_;have:=GU hM G x st hx N c3 b' B z;rw[x4 I]at this;omega
set_option maxHeartbeats 2000000 in
theorem b3f(ft:A7):∀(n c:Nat) (d:o0),s.P.As.length-c=n->c<=s.P.As.length->CI l s.P d->(∀(j:Nat) (f:x8),c<=j->s.P.As[j]? =some f->∀(k i:Nat),f.Gs=(k:Int)->k<=i->d.M[i]? =s.P.Ms[i]?)->(d.F.Code=0->∀(j:Nat) (f:x8),j<c->s.P.As[j]? =some f->FC l s.P d.M f)->∃O,Kx d5 l ((s.P,ft,()),()) (c:Int) d=cM d5 ((s.P,ft,()),()) O/\CI l s.P O/\(O.F.Code=0->∀f∈s.P.As,FC l s.P O.M f):=by
 have hC:=a81 h hM hl htx;have bk:=h.fn100;intro n
 induction n with
 |zero=>intro c d hn hc hI hU hF;rw[UP,Wg];simp only;rw[d9 (by omega),f9];refine⟨d,rfl,hI,λU f hf=>?_⟩;obtain⟨j,hj,rfl⟩:=List.getElem_of_mem hf;exact hF U j _ (by omega) (w9 hj)
 |succ n ih=>
  intro c d hn hc hI hU hF;have ad:c<s.P.As.length:=(by omega);have H:s.P.As[c]? =some s.P.As[c]:=w9 ad;have ac:=B0 ad;generalize ba:s.P.As[c]=f at H ac;obtain⟨k,st,np,bp,x,ks,a1,a2,a3,a4,a5,V,a7,a8,a9,bf,bh,ah⟩:=h.fns f ac;obtain⟨k',x',c1,c2,c3,_⟩:=h.ri.fn f ac;have ek:k'=k:=(by omega);subst ek;rw[a2]at c2;cases c2;obtain⟨ai,Q,t1,t2,t3,t4,t5,t6,t7⟩:=hM.nd k' x a2;have aw:ai=st:=(by omega);subst aw;have:=t5.det a4;subst this;obtain⟨G,n1,n2,n3,n4,n5⟩:=Qy t6 c3;have av:G=np:=(by omega);subst av;have bb:=t5.le;have B:G+1<Q.length:=(by omega);rw[w9 B]at V;injection V with V
  have Y:=n5 B;rw[V]at Y;obtain⟨cK,be,hK⟩:=t5.drop (G+1) (by omega);rw[P0 B,R3 (by omega),V]at hK;obtain⟨au,y,q,hy,ax,az,bi,aa⟩:=hK.first
  subst au;have hq:q=ai:=(by cases aa;rfl);subst hq;rw[x4 hy]at Y;have bd:=(t5.mem bp (by rw[<-V];exact B0 B)).1;have ew:w64 (((l9 Q).length:Int)-1)=((G+1:Nat):Int):=(by rw[C3,wrap64 (by omega) (by omega)];omega);have ei:(Q.map (λ(k:Nat)=>(k:Int)))=l9 Q:=rfl;obtain⟨e,z,r1,r2,r3,r4,r5⟩:=(b23 hC (q-bp)).2 bp y q rfl hy ax az t3 Y ⟨d.L,d.M,d.P,d.T,d.F,f.By⟩ (hI.res _) (λi i1 i2=>⟨hU c f (l5 _) H k' i a1 (by omega),b3h (ah i i1 i2).1 (ah i i1 i2).2⟩);have ar:z.By=f.By:=r3.res;have aj:∀i:Nat,(i<bp\/q<=i)->z.M[i]? =d.M[i]? :=λi hi=>r3.marks i hi;have an:d.F.Code≠0->z.F.Code≠0:=r3.bad;have next:∀g:A7,(g.Code=0->z.F.Code=0)->(g.Code=0->f.By≠0->e=true)->
    ∃O,Kx d5 l ((s.P,ft,()),()) ((c+1:Nat):Int) ⟨z.L,z.M,z.P,z.T,g,z.By⟩=cM d5 ((s.P,ft,()),()) O/\CI l s.P O/\(O.F.Code=0->∀f∈s.P.As,FC l s.P O.M f):=by
   intro g aq a0;refine ih (c+1) _ (by omega) (by omega) (r2.fault g) (λj fj hj C kj i ae hi=>?_) (λU j fj hj C=>?_)
   ·have:=xW h hM hl htx (i:=c) (j:=j) (by omega) H C a1 ae a2 t1;show z.M[i]? =_;rw[aj i (by omega)];exact hU j fj (by omega) C kj i ae hi
   ·have X:z.F.Code=0:=aq U;show FC l s.P z.M fj;by_cases ej:j=c
    ·subst ej;rw[H]at C;cases C;intro k2 N I R x2 Z b1 b2 b3 b4 b5 S;have e2:k2=k':=(by omega);subst e2;rw[a2]at b2;cases b2;have e3:N=q:=(by omega);subst e3;have:=b4.det a4;subst this;have e4:I=G:=(by omega);subst e4;rw[w9 B,V]at S;cases S;exact⟨r4 X,λhR=>r5 X (a0 U hR)⟩
    ·have ag:d.F.Code=0:=Y5 λhc=>an hc X;have ao:=hF ag j fj (by omega) C;intro k2 N I R x2 Z b1 b2 b3 b4 b5 S;have bj:=xW h hM hl htx (i:=j) (j:=c) (by omega) C H b1 a1 b2 b3;obtain⟨o1,o2⟩:=ao k2 N I R x2 Z b1 b2 b3 b4 b5 S;obtain⟨cL,bg,hL⟩:=b4.drop (I+1) (by omega);have am:I+1<Z.length:=(by omega);rw[w9 am]at S;injection S with S
     rw[P0 am,R3 (by omega),S]at hL;obtain⟨ap,y2,q2,af,ak,al,bc,K⟩:=hL.first
     subst ap;have ay:q2=N:=(by cases K;rfl);subst ay;obtain⟨J,_,u1,u2,u3,u4,_⟩:=hM.nd R y2 af;have:J=q2:=(by omega);subst this;exact⟨b34 (WFo.cons R J J y2 af ak al u4 (WFo.nil J)) o1 (λi i1 i2=>aj i (by omega)),o2⟩
  have ab:(⟨z.L,z.M,z.P,z.T,z.F,z.By⟩:o0)=z:=rfl;have n0:=next z.F id
  rw[ab]at n0;rw[UP,Wg];simp only;rw[f6 (by omega),l6,p9 ad,d6,ba,a1,Z0 (by omega) a2 t1 t3 t5,d6,ei,d6];simp only;rw[ew,E3 B,d6,F9,F6 B,d6,V,r1];simp only[d6];rw[ar,B7 (by omega)];by_cases cr:f.By=0
  ·rw[f6 cr,B8,f9];exact n0 (λ_ hR=>absurd cr hR)
  ·rw[d9 cr,F4,l6];cases e with
   |true=>exact n0 (λ_ _=>rfl)
   |false=>obtain⟨g,g1,g2⟩:=Lx z 12 (by decide) k' (by rw[r2.nodes];exact(o9.1 a2).1);rw[F4,l6,a1,g1];simp only[d6];exact next g (λU=>absurd U g2) (λU=>absurd U g2)
end
end
end
section
section
structure Ni(n:Nat)(l:List d7)(s:d8)(nr:Nat)(M:List l8):Prop where
 res:Zq l s nr
 may:L0 l
 small:l.length<=10*n+31
 txt:E7 l<=n
 ci:∃d,CI l s.P d/\d.M=M
 fc:∀f∈s.P.As,FC l s.P M f
def prog(s:d8)(M:List l8):w8:=⟨s.P.No,M,s.P.To,s.P.Rs,s.P.Hs,s.P.As,s.P.Ss,s.P.Vars,s.P.Do⟩
theorem a8o{l:List d7}(J:l.length<=30000)(z:∀n∈l,n.Ds.length<=65536):∃(P:w8) (f:A7),IN d5 l=some ((P,f,()),())/\(f.Code=0->∃s nr M,P=prog s M/\Zq l s nr/\L0 l/\(∃d,CI l s.P d/\d.M=M)/\∀f∈s.P.As,FC l s.P M f):=by
 obtain⟨P,G,O,L⟩:=a84 J z;rw[b2L,tZ,O,d6];simp only;by_cases c:G.Code=0
 ·obtain⟨s,nr,rfl,C,I⟩:=L c;have Q:CI l s.P ⟨l,s.P.Ms,s.P,s.P.To,⟨0,0,0⟩,0⟩:=⟨rfl,rfl,rfl,C.ri.marks,C.ri.mt,λi m hi=>⟨m,hi,rfl,λ_=>rfl,λ_=>rfl⟩⟩;obtain⟨H,N,R,K⟩:=b3f C I J z G _ 0 _ rfl (D2 _) Q (λ_ _ _ _ _ _ _ _=>rfl) (λ_ j f S=>absurd S (Nat.not_lt_zero _));rw[f6 c,B8,f9,show Kx d5 l ((s.P,G,()),()) 0 (o0.mk l s.P.Ms s.P s.P.To (A7.mk 0 0 0) 0)=_ from N,b4f,gU];by_cases B:H.F.Code=0
  ·rw[f6 B];exact⟨_,_,rfl,λ_=>⟨s,nr,H.M,rfl,C,I,⟨H,R,rfl⟩,K B⟩⟩
  ·rw[d9 B];exact⟨_,_,rfl,λh=>absurd h B⟩
 ·rw[d9 c];exact⟨_,_,rfl,λh=>absurd h c⟩
theorem b1Q(b:b6H)(O:b.length<=2900):∃(P:w8) (f:A7),cO d5 b=some ((P,f,()),())/\(f.Code=0->∃l s nr M,P=prog s M/\Ni b.length l s nr M):=by
 obtain⟨x,f,I,B,K⟩:=b6i b;rw[a2G,vB,I,d6];simp only;by_cases c:f.Code=0
 ·obtain⟨P,g,J,G⟩:=a8o (l:=x) (by omega) (λn hn=>by have:=Yq hn;omega);rw[f6 c,B8,f9,J,d6];refine⟨P,g,rfl,λC=>?_⟩;obtain⟨s,nr,M,e,z,L,H,N⟩:=G C;exact⟨x,s,nr,M,e,z,L,B,K,H,N⟩
 ·rw[d9 c];exact⟨_,_,rfl,λh=>absurd h c⟩
abbrev Bs:=b6H
def Ch(S:List Bs)(t:Bs):Int × List Bs:=match S.findIdx? (λs=>decide (t=s))with
 |some i=>(i,S)
 |none=>(S.length,S++[t])
def Qd(T:List v7)(t:Int):Int × Int:=match T[t.toNat]? with
 |some y=>(if y.Ks=6 then 22 else 21,y.Of)
 |none=>(21,0)
def Az(T:List v7)(x:d7)(m:l8)(S:List Bs):Int × Int × List Bs:=
 if x.Ks=21 then(2,x.Ns,S)else if x.Ks=22 then(4,x.Ns,S)else if x.Ks=23 then(5,(Ch S x.Ds).1,(Ch S x.Ds).2)else if x.Ks=24 then(3,x.Ns,S)else if x.Ks=26 then(7,m.Es,S)
 else if x.Ks=27 then(if m.Es<0 then(20, -m.Es,S)else(19,m.Es,S))else if x.Ks=28 then(15,0,S)else if x.Ks=29 then(17,m.Es,S)else if x.Ks=30 then(9,x.Ns,S)else if x.Ks=31 then(10,x.Ns,S)
 else if x.Ks=32 then((Qd T m.Ts).1,(Qd T m.Ts).2,S)else(6,0,S)
inductive GX(l:List d7)(M:List l8)(T:List v7):Nat->List Nat->List Bs->List p8->List Bs->Prop
 |nil(o:Nat)(S:List Bs):GX l M T o [] S [] S
 |log(o b st k0 k1:Nat)(ks:List Nat)(x:d7)(S S1 S2 S3:List Bs)(a c d:List p8)(hx:l[b]? =some x)(hk:x.Ks=31)(hn:14<=x.Ns)(hs:x.Cs=(st:Int)-(b+1))(hks:Kc l (b+1) st [k0,k1])
   (h0:GX l M T o [k0] S a S1) (h1:GX l M T (o+a.length+1) [k1] S1 c S2) (h2:GX l M T (o+a.length+1+c.length) ks S2 d S3):GX l M T o (b::ks) S (a++(⟨x.Ns-1,((o+a.length+1+c.length:Nat):Int),x.Ls⟩::(c++d))) S3
 |oth(o b st:Nat)(ks' es ks:List Nat)(x:d7)(m:l8)(S S1 S2 S3:List Bs)(op arg:Int)(a d:List p8)(hx:l[b]? =some x)(hk:21<=x.Ks/\x.Ks<=32)(hn:x.Ks=31->x.Ns<14)(hs:x.Cs=(st:Int)-(b+1))(hks:Kc l (b+1) st ks')(hes:es=if x.Ks=32 then ks'.tail else ks')(hm:M[b]? =some m)
   (h0:GX l M T o es S a S1) (hl:Az T x m S1=(op,arg,S2)) (h2:GX l M T (o+a.length+1) ks S2 d S3):GX l M T o (b::ks) S (a++(⟨op,arg,x.Ls⟩::d)) S3
def Bkd(l:List d7)(k:Nat)(ks:List Nat):Prop:=∃(y:d7) (st:Nat),l[k]? =some y/\y.Cs=(st:Int)-(k+1)/\Kc l (k+1) st ks
def Ta(x y:d7)(m:l8):p8:=if y.Ks=26 then⟨8,m.Es,x.Ls⟩else if y.Ks=28 then⟨16,0,y.Ls⟩else⟨18,m.Es,y.Ls⟩
inductive Bj(l:List d7)(M:List l8)(b:Nat)(x:d7)(m:l8):List Nat->List p8->Prop
 |var(st k0 k1:Nat)(hk:x.Ks=7)(hs:x.Cs=(st:Int)-(b+1))(hks:Kc l (b+1) st [k0,k1]):Bj l M b x m [k1] [⟨8,m.Es,x.Ls⟩]
 |set(st k0 k1:Nat)(y:d7)(m0:l8)(is:List Nat)(hk:x.Ks=8)(hs:x.Cs=(st:Int)-(b+1))(hks:Kc l (b+1) st [k0,k1])(hy:l[k0]? =some y)(hyk:y.Ks=26\/y.Ks=28\/y.Ks=29)(hm0:M[k0]? =some m0)(hi:Kc l (k0+1) k1 is):Bj l M b x m (is++[k1]) [Ta x y m0]
 |ret0(hk:x.Ks=11)(hs:x.Cs=((b+1:Nat):Int)-(b+1)):Bj l M b x m [] [⟨26,0,x.Ls⟩]
 |ret1(st:Nat)(hk:x.Ks=11)(hs:x.Cs=(st:Int)-(b+1))(hks:Kc l (b+1) st [b+1]):Bj l M b x m [b+1] [⟨25,0,x.Ls⟩]
 |print(st:Nat)(hk:x.Ks=12)(hs:x.Cs=(st:Int)-(b+1))(hks:Kc l (b+1) st [b+1]):Bj l M b x m [b+1] [⟨23,0,x.Ls⟩]
 |pop(st:Nat)(m0:l8)(hk:x.Ks=13)(hs:x.Cs=(st:Int)-(b+1))(hks:Kc l (b+1) st [b+1])(hm0:M[b+1]? =some m0)(ht:m0.Ts≠0):Bj l M b x m [b+1] [⟨24,0,x.Ls⟩]
 |run(st:Nat)(m0:l8)(hk:x.Ks=13)(hs:x.Cs=(st:Int)-(b+1))(hks:Kc l (b+1) st [b+1])(hm0:M[b+1]? =some m0)(ht:m0.Ts=0):Bj l M b x m [b+1] []
inductive GS(l:List d7)(M:List l8)(T:List v7):Nat->List Nat->List Bs->List p8->List Bs->Prop
 |nil(o:Nat)(S:List Bs):GS l M T o [] S [] S
 |smp(o b:Nat)(ks es:List Nat)(x:d7)(m:l8)(S S1 S2:List Bs)(a t d:List p8)(hx:l[b]? =some x)(hm:M[b]? =some m)(hT:Bj l M b x m es t)(h0:GX l M T (o+1) es S a S1)(h2:GS l M T (o+1+a.length+t.length) ks S1 d S2):GS l M T o (b::ks) S (⟨1,m.Qs,x.Ls⟩::(a++(t++d))) S2
 |if2(o b st k1:Nat)(ks ks1:List Nat)(x:d7)(m:l8)(S S1 S2 S3:List Bs)(a c d:List p8)(hx:l[b]? =some x)(hm:M[b]? =some m)(hk:x.Ks=9)(hs:x.Cs=(st:Int)-(b+1))(hks:Kc l (b+1) st [b+1,k1])(hb:Bkd l k1 ks1)
   (h0:GX l M T (o+1) [b+1] S a S1) (h1:GS l M T (o+a.length+2) ks1 S1 c S2) (h2:GS l M T (o+a.length+2+c.length) ks S2 d S3):GS l M T o (b::ks) S (⟨1,m.Qs,x.Ls⟩::(a++(⟨12,((o+a.length+2+c.length:Nat):Int),x.Ls⟩::(c++d)))) S3
 |if3(o b st k1 k2:Nat)(ks ks1 ks2:List Nat)(x:d7)(m:l8)(S S1 S2 S3 S4:List Bs)(a c e d:List p8)(hx:l[b]? =some x)(hm:M[b]? =some m)(hk:x.Ks=9)(hs:x.Cs=(st:Int)-(b+1))(hks:Kc l (b+1) st [b+1,k1,k2])(hb1:Bkd l k1 ks1)(hb2:Bkd l k2 ks2)
   (h0:GX l M T (o+1) [b+1] S a S1) (h1:GS l M T (o+a.length+2) ks1 S1 c S2) (h3:GS l M T (o+a.length+c.length+3) ks2 S2 e S3) (h2:GS l M T (o+a.length+c.length+3+e.length) ks S3 d S4):
   GS l M T o (b::ks) S (⟨1,m.Qs,x.Ls⟩::(a++(⟨12,((o+a.length+c.length+3:Nat):Int),x.Ls⟩::(c++(⟨11,((o+a.length+c.length+3+e.length:Nat):Int),x.Ls⟩::(e++d)))))) S4
 |whl(o b st k1:Nat)(ks ks1:List Nat)(x:d7)(m:l8)(S S1 S2 S3:List Bs)(a c d:List p8)(hx:l[b]? =some x)(hm:M[b]? =some m)(hk:x.Ks=10)(hs:x.Cs=(st:Int)-(b+1))(hks:Kc l (b+1) st [b+1,k1])(hb:Bkd l k1 ks1)
   (h0:GX l M T (o+1) [b+1] S a S1) (h1:GS l M T (o+a.length+2) ks1 S1 c S2) (h2:GS l M T (o+a.length+c.length+3) ks S2 d S3):
   GS l M T o (b::ks) S (⟨1,m.Qs,x.Ls⟩::(a++(⟨12,((o+a.length+c.length+3:Nat):Int),x.Ls⟩::(c++(⟨11,(o:Int),x.Ls⟩::d))))) S3
inductive GC(l:List d7)(M:List l8)(T:List v7):Nat->List x8->List Bs->List p8->List D7->List Bs->Prop
 |nil(A:Nat)(S:List Bs):GC l M T A [] S [] [] S
 |cons(A k st bp:Nat)(f:x8)(fs:List x8)(S S1 S2:List Bs)(x:d7)(ks ks2:List Nat)(a I:List p8)(E:List D7)(hn:f.Gs=(k:Int))(hx:l[k]? =some x)(hs:x.Cs=(st:Int)-(k+1))(hks:Kc l (k+1) st ks)(hb:ks.getLast? =some bp)(hbd:Bkd l bp ks2)
   (h0:GS l M T 0 ks2 S a S1) (h2:GC l M T (A+a.length+1) fs S1 I E S2):GC l M T A (f::fs) S (a++(⟨26,0,x.Ls⟩::I)) (⟨A,(a.length:Int)+1,f.Ps,f.Ss,if f.By=0 then 0 else 1⟩::E) S2
theorem GX.cat{l:List d7}{M:List l8}{T:List v7}{o k:Nat}{ks:List Nat}{S C z:List Bs}{a c:List p8}(h:GX l M T o [k] S a C)(B:GX l M T (o+a.length) ks C c z):GX l M T o (k::ks) S (a++c) z:=by
 cases h with
 |log _ _ st k0 k1 _ x _ T1 T2 _ a c' d hx hk hn hs hks h0 h1 h2=>cases h2;have e:o+(a++((⟨x.Ns-1,((o+a.length+1+c'.length:Nat):Int),x.Ls⟩:p8)::(c'++[]))).length=o+a.length+1+c'.length:=(by simp;omega);rw[e]at B;have:=GX.log o k st k0 k1 ks x S T1 C z a c' c hx hk hn hs hks h0 h1 B;simpa using this
 |oth _ _ st ks' es _ x m _ T1 T2 _ op arg a d hx hk hn hs hks hes hm h0 hl h2=>cases h2;have e:o+(a++[(⟨op,arg,x.Ls⟩:p8)]).length=o+a.length+1:=(by simp;omega);rw[e]at B;have:=GX.oth o k st ks' es ks x m S T1 C z op arg a c hx hk hn hs hks hes hm h0 hl B;simpa using this
theorem GX.app{l:List d7}{M:List l8}{T:List v7}{o:Nat}{B ks:List Nat}{S C G:List Bs}{a c:List p8}(h:GX l M T o B S a C):GX l M T (o+a.length) ks C c G->GX l M T o (B++ks) S (a++c) G:=by
 induction h with
 |nil o S=>intro z;exact z
 |log o b st k0 k1 B x S T1 T2 C a c' d hx hk hn hs hks h0 h1 h2 _ _ ih=>intro z;have e:o+(a++((⟨x.Ns-1,((o+a.length+1+c'.length:Nat):Int),x.Ls⟩:p8)::(c'++d))).length=o+a.length+1+c'.length+d.length:=(by simp;omega);rw[e]at z;have:=GX.log o b st k0 k1 (B++ks) x S T1 T2 _ a c' _ hx hk hn hs hks h0 h1 (ih z);simpa using this
 |oth o b st ks' es B x m S T1 T2 C op arg a d hx hk hn hs hks hes hm h0 hl h2 _ ih=>intro z;have e:o+(a++((⟨op,arg,x.Ls⟩:p8)::d)).length=o+a.length+1+d.length:=(by simp;omega);rw[e]at z;have:=GX.oth o b st ks' es (B++ks) x m S T1 T2 _ op arg a _ hx hk hn hs hks hes hm h0 hl (ih z);simpa using this
def ps(l:List d7)(i:Nat):Nat:=((l.take i).map λn=>n.Ds.length).sum
def W6(S:List Bs):Nat:=(S.map List.length).sum
theorem b4P{l:List d7}{i:Nat}{x:d7}(h:l[i]? =some x):ps l (i+1)=ps l i+x.Ds.length:=by unfold ps;rw[List.take_add_one,h,I8,bE];simp
theorem Aj(l:List d7){i j:Nat}(h:i<=j):ps l i<=ps l j:=by obtain⟨d,rfl⟩:=Nat.exists_eq_add_of_le h;unfold ps;rw[List.take_add,I8,bE];omega
theorem a2p(S:List Bs)(t:Bs):(Ch S t).2.length<=S.length+1/\W6 (Ch S t).2<=W6 S+t.length:=by
 unfold Ch;split
 ·exact⟨Nat.le_add_right _ _,Nat.le_add_right _ _⟩
 ·simp[W6]
theorem MP{T:List v7}{x:d7}{m:l8}{S z:List Bs}{op arg:Int}(h:Az T x m S=(op,arg,z)):z.length<=S.length+1/\W6 z<=W6 S+x.Ds.length:=by
 have t:=a2p S x.Ds;have e:z=(Az T x m S).2.2:=(by rw[h]);have B:z=S\/z=(Ch S x.Ds).2:=by
  rw[e];unfold Az
  repeat' split
  all_goals first|exact .inl rfl|exact .inr rfl
 rcases B with rfl|rfl
 ·omega
 ·exact t
theorem Kc.app{l:List d7}{i j k:Nat}{a b:List Nat}(h:Kc l i j a):Kc l j k b->Kc l i k (a++b):=by
 induction h with
 |nil i=>exact λh=>h
 |cons i q j x ks hx hs hk kids rest ih=>exact λh=>.cons i q k x _ hx hs hk kids (ih h)
theorem Kc.hd{l:List d7}{i j k:Nat}{ks:List Nat}(h:Kc l i j (k::ks)):∃q,k=i/\i+1<=q/\Kc l i q [k]/\Kc l q j ks:=by
 cases h with
 |cons _ q _ x _ hx hs hk kids rest=>exact⟨q,rfl,hk,.cons _ q q x [] hx hs hk kids (.nil q),rest⟩
theorem GX.len{l:List d7}{M:List l8}{T:List v7}{o:Nat}{ks:List Nat}{S O:List Bs}{c:List p8}(h:GX l M T o ks S c O):∀lo hi,Kc l lo hi ks->c.length+lo<=hi/\O.length+lo<=S.length+hi/\W6 O+ps l lo<=W6 S+ps l hi:=by
 induction h with
 |nil o S=>intro lo hi G;have:=G.le;have:=Aj l (i:=lo) (j:=hi) (by omega);simp only[K8];omega
 |log o b st k0 k1 ks x S S1 S2 S3 a c d hx hk hn hs hks h0 h1 h2 i0 i1 i2=>
  intro lo hi G;obtain⟨rfl,y,q,H,K,J,R,z⟩:=G.first
  rw[hx]at H;cases H;have:q=st:=(by omega);subst this;obtain⟨U,rfl,I,K0,B⟩:=hks.hd;obtain⟨q1,rfl,V,K1,N⟩:=B.hd;have e1:q1=q:=(by cases N;rfl);subst e1;obtain⟨p1,p2,Z⟩:=i0 _ _ K0;obtain⟨r1,r2,r3⟩:=i1 _ _ K1;obtain⟨w1,w2,w3⟩:=i2 _ _ z;have:=Aj l (i:=b) (j:=b+1) (by omega);simp only[t8,F8];omega
 |oth o b st ks' es ks x m S S1 S2 S3 op arg a d hx hk hn hs hks hes hm h0 hl h2 i0 i2=>
  intro lo hi G;obtain⟨rfl,y,q,H,K,J,R,z⟩:=G.first
  rw[hx]at H;cases H;have:q=st:=(by omega);subst this;have L:∃C,b+1<=C/\Kc l C q es:=by
   by_cases c:x.Ks=32
   ·rw[if_pos c]at hes;cases ks' with
    |nil=>exact⟨b+1,l5 _,by rw[hes];exact hks⟩
    |cons k0 kr=>
     obtain⟨rfl,y0,U,aa,Y,I,X,B⟩:=hks.first
     exact⟨U,by omega,by rw[hes];exact B⟩
   ·rw[if_neg c]at hes;exact⟨b+1,l5 _,by rw[hes];exact hks⟩
  obtain⟨C,Q,L⟩:=L;obtain⟨p1,p2,Z⟩:=i0 _ _ L;obtain⟨w1,w2,w3⟩:=i2 _ _ z;obtain⟨z1,z2⟩:=MP hl;have:=Aj l Q;have:=b4P hx;simp only[t8,F8];omega
end
section
def txs:List Bs->Nat->List (Bs × Int)
 | [],_=>[]
 |s::S,n=>(s,(n:Int))::txs S (n+1)
theorem a69(S:List Bs)(t:Bs):∀n,txs (S++[t]) n=txs S n++[(t,((n+S.length:Nat):Int))]:=by
 induction S with
 |nil=>intro n;simp[txs]
 |cons s S ih=>intro n;have:=ih (n+1);have e:n+1+S.length=n+(S.length+1):=(by omega);simp only[List.cons_append,txs,this,F8,e]
theorem TY(t:Bs):∀(S:List Bs) (n:Nat),Gn eqS (txs S n) t=S.findIdx? (λs=>decide (t=s)):=by
 intro S
 induction S with
 |nil=>intro n;rfl
 |cons s S ih=>intro n;have:=ih (n+1);unfold Gn at this⊢;rw[txs,List.findIdx?_cons,List.findIdx?_cons,this]
theorem a1c:∀(S:List Bs) (n i:Nat),(txs S n)[i]? =(S[i]?).map λs=>(s,((n+i:Nat):Int)):=by
 intro S
 induction S with
 |nil=>intro n i;simp[txs]
 |cons s S ih=>
  intro n i;cases i with
  |zero=>simp[txs]
  |succ i=>rw[txs,List.getElem?_cons_succ,List.getElem?_cons_succ,ih];have e:n+1+i=n+(i+1):=(by omega);rw[e]
def mkr(P:w8)(F:Nat)(Fs:List D7)(I:List p8)(S:List Bs):y6:=⟨P,⟨I,Fs,S⟩,F,txs S 0⟩
section
variable{P:w8}{F:Nat}{Fs:List D7}
theorem a77{l:List d7}(O:l.length<=100000000)(m:y6)(J:m.p_.No=l){b:Nat}{x:d7}{st:Nat}(hx:l[b]? =some x)(I:x.Cs=(st:Int)-(b+1))(C:st<=l.length){c:Nat}{ks:List Nat}(h:Kc l c st ks):∀d:List Int,d.length+ks.length<=l.length->mX d5 (b:Int) m (c:Int) d=some ((d++l9 ks,()),(m,())):=by
 have z:b<l.length:=(o9.1 hx).1;have B:l[b]=x:=(o9.1 hx).2;have w1:w64 ((b:Int)+x.Cs)=(st:Int)-1:=by rw[I,wrap64 (by omega) (by omega)];omega
 induction h with
 |nil c=>intro d hd;rw[VQ,aV,J,p9 z,d6,B,w1,d9 (by omega),f9,b3o,qQ];unfold l9;rw[List.map_nil,T4]
 |cons c k j y ks hy hys hk kids rest ih=>intro d hd;have L:=rest.le;have G:c<l.length:=(by omega);have H:l[c]=y:=(o9.1 hy).2;have N:w64 ((c:Int)+w64 (1+y.Cs))=(k:Int):=(by rw[hys,wrap64 (n:=1+((k:Int)-(c+1))) (by omega) (by omega),wrap64 (by omega) (by omega)];omega);rw[F8]at hd;have K:d.length+ [(c:Int)].length<=100000000:=(by rw[C2];omega);have:=ih I C w1 (d++[(c:Int)]) (by rw[t8,C2];omega);rw[VQ,aV,J,p9 z,d6,B,w1,f6 (by omega),l6,N5 (by decide) K,d6,p9 G,d6,H,N,this,G5];rfl
theorem Zf{l:List d7}(C:l.length<=100000000)(m:y6)(B:m.p_.No=l){b:Nat}{x:d7}{st:Nat}(hx:l[b]? =some x)(G:x.Cs=(st:Int)-(b+1))(z:st<=l.length){ks:List Nat}(h:Kc l (b+1) st ks):Mw d5 m (b:Int)=some ((l9 ks,()),(m,())):=by have:=h.le;rw[a9e,dQ,B7 (by omega),a77 C m B hx G z h [] (by rw[K8];omega),U7]
theorem Ro{l:List d7}(C:P.No=l)(I:List p8)(S:List Bs)(o:Nat)(H:I.length=F+o)(J:I.length<=90000000)(op arg:Int){b:Nat}{x:d7}(hx:l[b]? =some x):U3 d5 (mkr P F Fs I S) op arg (b:Int)=some (((o:Int),()),(mkr P F Fs (I++[⟨op,arg,x.Ls⟩]) S,())):=by
 have z:=(o9.1 hx).1;have B:=(o9.1 hx).2;have G:I.length+ [(p8.mk op arg x.Ls)].length<=100000000:=(by rw[C2];omega);rw[a8f,sO];unfold mkr;simp only;rw[C,p9 z,d6,B,N5 (by decide) G,d6];have e:w64 (w64 (((I++[(p8.mk op arg x.Ls)]).length:Int)-1)-(F:Int))=(o:Int):=by rw[t8,C2,wrap64 (n:=((I.length+1:Nat):Int)-1) (by omega) (by omega),wrap64 (by omega) (by omega)];omega
 rw[e]
theorem a1i{α:Type}(X Y:List α)(i j:α):(X++(i::Y)).set X.length j=X++(j::Y):=by
 induction X with
 |nil=>rfl
 |cons a X ih=>simp[ih]
theorem Tl(X Y:List p8)(S:List Bs)(i:p8)(o:Nat)(I:X.length=F+o)(H:X.length+Y.length<=90000000):Pl d5 (mkr P F Fs (X++(i::Y)) S) (o:Int)=some ((),(mkr P F Fs (X++(⟨i.Op,((o+1+Y.length:Nat):Int),i.Ls⟩::Y)) S,())):=by
 have z:w64 ((F:Int)+(o:Int))=((X.length:Nat):Int):=(by rw[wrap64 (by omega) (by omega)];omega);have B:X.length<(X++(i::Y)).length:=(by simp);have C:(X++(i::Y))[X.length]? =some i:=(by simp);have G:w64 (((X++(i::Y)).length:Int)-(F:Int))=((o+1+Y.length:Nat):Int):=by rw[t8,F8,wrap64 (by omega) (by omega)];omega
 rw[a1m,gB,YA,Ti];unfold mkr;simp only[d6];rw[z,G,p9 B,d6,F9,C,d6,d6];simp only[U8,d6,a1i]
theorem a49(I:List p8)(S:List Bs)(C:S.length<=90000000)(t:Bs):DH d5 (mkr P F Fs I S) t=some (((Ch S t).1,()),(mkr P F Fs I (Ch S t).2,())):=by
 rw[b2D,uS];unfold mkr Ch;simp only;unfold Zo Hj;rw[TY];cases z:S.findIdx? (λs=>decide (t=s))with
 |some i=>
  have hi:i<S.length:=by have:=List.findIdx?_eq_some_iff_getElem.1 z;exact this.1
  simp only[Option.isSome_some,l6,d6,a1c,w9 hi,G6];rw[a0z,Vv];simp
 |none=>have B:S.length+ [t].length<=100000000:=(by rw[C2];omega);simp only[Option.isSome_none,f9];rw[a0z,Vv];simp only;rw[F4,l6,N5 (by decide) B,d6];unfold Pv;rw[TY,z];simp only;rw[a69];simp
theorem a4u(I:List p8)(S:List Bs)(C:S.length<=90000000)(x:d7)(H:21<=x.Ks/\x.Ks<=32)(m:l8)(z:x.Ks=27-> -1000000<=m.Es)(hT:x.Ks=32->0<=m.Ts/\m.Ts<P.To.length):xI d5 (mkr P F Fs I S) x m=some (((Az P.To x m S).1,(Az P.To x m S).2.1,()),(mkr P F Fs I (Az P.To x m S).2.2,())):=by
 rw[a5x,bK];unfold Az;by_cases c:x.Ks=21
 ·rw[f6 c,if_pos c];rfl
 rw[d9 c,if_neg c,f9];by_cases c:x.Ks=22
 ·rw[f6 c,if_pos c];rfl
 rw[d9 c,if_neg c,f9];by_cases c:x.Ks=23
 ·rw[f6 c,if_pos c,l6,a49 I S C];rfl
 rw[d9 c,if_neg c,f9];by_cases c:x.Ks=24
 ·rw[f6 c,if_pos c];rfl
 rw[d9 c,if_neg c,f9];by_cases c:x.Ks=26
 ·rw[f6 c,if_pos c];rfl
 rw[d9 c,if_neg c,f9];by_cases c:x.Ks=27
 ·rw[f6 c,if_pos c,l6];by_cases c0:m.Es<0
  ·have z:=z c;have e:w64 (0-m.Es)= -m.Es:=(by rw[Int.zero_sub];exact wrap64 (by omega) (by omega));rw[f6 c0,if_pos c0,e];rfl
  ·rw[d9 c0,if_neg c0];rfl
 rw[d9 c,if_neg c,f9];by_cases c:x.Ks=28
 ·rw[f6 c,if_pos c];rfl
 rw[d9 c,if_neg c,f9];by_cases c:x.Ks=29
 ·rw[f6 c,if_pos c];rfl
 rw[d9 c,if_neg c,f9];by_cases c:x.Ks=30
 ·rw[f6 c,if_pos c];rfl
 rw[d9 c,if_neg c,f9];by_cases c:x.Ks=31
 ·rw[f6 c,if_pos c];rfl
 rw[d9 c,if_neg c,f9];by_cases c:x.Ks=32
 ·obtain⟨h0,G⟩:=hT c;have B:m.Ts.toNat<P.To.length:=(by omega);have g:f7 P.To m.Ts=some P.To[m.Ts.toNat]:=Rf h0 G;rw[f6 c,if_pos c,l6];show(f7 P.To m.Ts).bind _=_;rw[g,d6];unfold Qd;rw[w9 B];simp only;by_cases c6:P.To[m.Ts.toNat].Ks=6
  ·rw[f6 c6,if_pos c6];rfl
  ·rw[d9 c6,if_neg c6];rfl
 rw[d9 c,if_neg c];rfl
end
end
section
structure GEn(l:List d7)(P:w8):Prop where
 nodes:P.No=l
 may:L0 l
 small:l.length<=30000
 tx:∀n∈l,n.Ds.length<=65536
 len:P.Ms.length=l.length
 ty:∀m∈P.Ms,0<=m.Ts/\m.Ts<P.To.length
def Dt(l:List d7)(M:List l8)(lo hi:Nat):Prop:=∀i,lo<=i->i<hi->kd l i=27->∃m,M[i]? =some m/\ -1000000<=m.Es
theorem Dt.sub{l:List d7}{M:List l8}{lo hi z B:Nat}(h:Dt l M lo hi)(a:lo<=z)(b:B<=hi):Dt l M z B:=λi C G=>h i (by omega) (by omega)
theorem LC{l:List d7}{x:d7}{b q:Nat}{ks:List Nat}(L:Kc l (b+1) q ks)(h:Fam x.Ks x.Ns b (G8 l ks) (fkd l ks))(U:21<=x.Ks/\x.Ks<=32):∃H,b+1<=H/\Kc l H q (if x.Ks=32 then ks.tail else ks)/\∀p∈(if x.Ks=32 then ks.tail else ks),21<=kd l p/\kd l p<=32:=by
 by_cases c:x.Ks=32
 ·rw[if_pos c];have R:∃C B,ks=C::B/\∀p∈B,I3 (kd l p)=101:=by
   rcases h.k32 c with h|h
   ·obtain⟨I,N⟩:=J7 h.1;cases ks with
    |nil=>simp at I
    |cons C B=>have:B=[]:=(by simpa using I);exact⟨C,B,rfl,λp z=>by rw[this]at z;exact nomatch z⟩
   ·obtain⟨I,N⟩:=J7 h.1;cases ks with
    |nil=>simp at I
    |cons C B=>refine⟨C,B,rfl,λp z=>?_⟩;obtain⟨j,X,rfl⟩:=List.getElem_of_mem z;have K:j=0:=(by simp at I;omega);subst K;exact N 1 (by simp;omega) (by simp)
  obtain⟨C,B,rfl,J⟩:=R;obtain⟨O,_,V,_,Q⟩:=L.hd;exact⟨O,by omega,Q,λp z=>M2 (J p z)⟩
 ·rw[if_neg c];refine⟨b+1,l5 _,L,λp z=>?_⟩;have G:∀s∈G8 l ks,s=101:=by
   by_cases c1:x.Ks<=26
   ·rw[(h.kr (by omega)).1];intro s S;exact nomatch S
   by_cases c2:x.Ks=27
   ·exact h.k27 c2
   by_cases c3:x.Ks=28\/x.Ks=31
   ·rw[h.k28 c3];simp
   ·rw[h.k12 (by omega)];simp
  exact M2 (Qo G p z)
theorem a2t(ks:List Nat):B4 (l9 ks) 1 ((l9 ks).length:Int)=l9 ks.tail:=by
 unfold B4 l9;cases ks with
 |nil=>rfl
 |cons k ks=>simp only[List.map_cons,F8,F5,List.tail_cons];have e:((((ks.length+1:Nat):Int)-1).toNat)=ks.length:=(by omega);rw[e,show Int.toNat 1=1 from rfl,List.drop_succ_cons,W3,List.take_of_length_le (by simp)]
def gV(l:List d7)(P:w8)(n:Nat):Prop:=∀(b:Nat) (x:d7) (q:Nat),q-b=n->l[b]? =some x->x.Cs=(q:Int)-(b+1)->b+1<=q->q<=l.length->21<=x.Ks->x.Ks<=32->Dt l P.Ms b q->
 ∀(F:Nat) (Fs:List D7) (I:List p8) (S:List Bs) (o:Nat),I.length=F+o->I.length+(q-b)<=80000000->S.length+(q-b)<=80000000->
 ∃c S',Bl d5 (mkr P F Fs I S) (b:Int)=some ((),(mkr P F Fs (I++c) S',()))/\GX l P.Ms P.To o [b] S c S'
section
variable{l:List d7}{P:w8}(hG:GEn l P)
include hG
theorem b3x(N:Nat)(ih:∀m,m<N->gV l P m)(a:Int)(x:d7)(mk:l8)(ks:List Nat)(st:Nat)(ad:st<=l.length)(ac:ks.length<=l.length)(U:∀p∈ks,21<=kd l p/\kd l p<=32)(F:Nat)(Fs:List D7):∀(n e c0 o:Nat) (I:List p8) (S:List Bs),ks.length-e=n->e<=ks.length->Kc l c0 st (ks.drop e)->st-c0<N->Dt l P.Ms c0 st->I.length=F+o->I.length+(st-c0)<=80000000->S.length+(st-c0)<=80000000->∃c O,Wv d5 a (l9 ks) ((l9 ks).length:Int) (e:Int) x mk (mkr P F Fs I S)=IF d5 a x mk (mkr P F Fs (I++c) O)/\GX l P.Ms P.To o (ks.drop e) S c O:=by
 have ae:=hG.small;intro n
 induction n with
 |zero=>intro e c0 o I S hn he L hN Z ho hI hS;rw[ZG,aN,C3,d9 (by omega),f9,R3 (by omega)];exact⟨[],S,by rw[T4],.nil _ _⟩
 |succ n ihn=>
  intro e c0 o I S hn he L hN Z ho hI hS;have B:e<ks.length:=(by omega);have g:=E3 B;rw[P0 B]at L⊢;obtain⟨K,y,q,X,V,Q,aa,C⟩:=L.first
  have z:=U _ (B0 B);rw[K,x4 X]at z;obtain⟨c,S1,r1,r2⟩:=ih (q-c0) (by omega) c0 y q rfl X V Q (by omega) z.1 z.2 (Z.sub (l5 _) aa) F Fs I S o ho (by omega) (by omega);obtain⟨q',_,_,G,_⟩:=L.hd;have Y:q'=q:=by
   have H:=G.first
   obtain⟨_,y',q2,J,ab,_,_,R⟩:=H;have:q2=q':=(by cases R;rfl);rw[X]at J;cases J;omega
  subst Y;rw[K]at G;obtain⟨z1,z2,_⟩:=r2.len _ _ G;obtain⟨c',O,k1,k2⟩:=ihn (e+1) q' (o+c.length) (I++c) S1 (by omega) (by omega) C (by omega) (Z.sub (by omega) (l5 _)) (by rw[t8];omega) (by rw[t8];omega) (by omega);refine⟨c++c',O,?_,?_⟩
  ·rw[ZG,aN,C3,f6 (by omega),l6,g,d6,K,r1];simp only[d6];rw[B7 (by omega),<-C3,k1,G5]
  ·rw[K];exact r2.cat k2
set_option maxHeartbeats 2000000 in
theorem b0t(N:Nat)(ih:∀m,m<N->gV l P m):gV l P N:=by
 intro b x q hN hx hs ar hq V Q hR F Fs I S o ho hI hS;have a4:=hG.small;obtain⟨st,ks,t1,t2,t3,t4,Y,t6,t7⟩:=hG.may.nd b x hx;have aj:st=q:=(by omega);subst aj;have ay:=Y.le;have ai:=(o9.1 hx).1;have ag:=(o9.1 hx).2;have R:b<P.Ms.length:=(by rw[hG.len];omega);have ab:P.Ms[b]? =some P.Ms[b]:=w9 R;have an:=hG.ty _ (B0 R);have hp:∀(I:List p8) (S:List Bs),(mkr P F Fs I S).p_=P:=λ_ _=>rfl;have X:=hG.nodes;obtain⟨ah,a5,J,aa⟩:=LC Y t6 ⟨V,Q⟩;have av:=Zf (by omega) (mkr P F Fs I S) hG.nodes hx t1 t3 Y;rw[b15,vR,hp,X,p9 ai,d6,ag,p9 R,d6,av,d6];simp only;have j3:(x.Ks=31->x.Ns<14)->∃c L,Tz d5 (b:Int) (l9 (if x.Ks=32 then ks.tail else ks)) x P.Ms[b] ((l9 ks,()),(mkr P F Fs I S,()))=some ((),(mkr P F Fs (I++c) L,()))/\GX l P.Ms P.To o [b] S c L:=by
  intro hn;rw[b3D,uE];simp only;generalize ap:(if x.Ks=32 then ks.tail else ks)=es at J aa;have a7:=J.le;obtain⟨c,O,r1,r2⟩:=b3x hG N ih (b:Int) x P.Ms[b] es st t3 (by omega) aa F Fs _ 0 ah o I S rfl (D2 _) (by rw[W3];exact J) (by omega) (hR.sub (by omega) (l5 _)) ho (by omega) (by omega);rw[W3]at r2;obtain⟨z1,z2,_⟩:=r2.len _ _ J;have G:=a4u (P:=P) (F:=F) (Fs:=Fs) (I++c) O (by omega) x ⟨V,Q⟩ P.Ms[b] (λc27=>by
   obtain⟨m,m1,m2⟩:=hR b (l5 _) ar (by rw[x4 hx];exact c27);rw[ab]at m1;cases m1;exact m2) (λ_=>an)
  generalize aq:Az P.To x P.Ms[b] O=li at G;obtain⟨op,arg,K⟩:=li;have H:=Ro (P:=P) (F:=F) (Fs:=Fs) X (I++c) K (o+c.length) (by rw[t8];omega) (by rw[t8];omega) op arg hx;rw[show Wv d5 (b:Int) (l9 es) ((l9 es).length:Int) 0 x P.Ms[b] (mkr P F Fs I S)=_ from r1,b0f,sB,G];simp only[d6];rw[H];simp only[d6];refine⟨c++[⟨op,arg,x.Ls⟩],K,by rw[G5],?_⟩;exact .oth o b st ks es [] x P.Ms[b] S O K K op arg c [] hx ⟨V,Q⟩ hn t1 Y ap.symm ab r2 aq (.nil _ _)
 by_cases c32:x.Ks=32
 ·have a0:1<=ks.length:=by
   rcases t6.k32 c32 with h|h
   ·have:=(J7 h.1).1;simp at this;omega
   ·have:=(J7 h.1).1;simp at this;omega
  have:=j3 (λh=>by omega);rw[if_pos c32]at this;rw[f6 c32,l6,Ak (show F1 (1:Int) ((l9 ks).length:Int) ((l9 ks).length:Int)from⟨by omega,by rw[C3];omega,R4 _⟩),d6,a2t];exact this
 rw[if_neg c32]at j3;rw[d9 c32,f9];by_cases c31:x.Ks=31
 ·rw[f6 c31,l6];have j2:14<=x.Ns->x.Ns<=15->∃c L,fG d5 (b:Int) x ((l9 ks,()),(mkr P F Fs I S,()))=some ((),(mkr P F Fs (I++c) L,()))/\GX l P.Ms P.To o [b] S c L:=by
   intro ac a3;obtain⟨e1,e2⟩:=J7 (t6.k28 (.inr c31));have Z:=Y;obtain⟨C,B,y,z,rfl,a6,hy,am,ad,hz,af,au⟩:=Kg Y e1;have s0:=M2 (e2 0 (by simp) (by simp));have s1:=M2 (e2 1 (by simp) (by simp));simp only[K5,Dp]at s0 s1;rw[x4 hy]at s0;rw[x4 hz]at s1;obtain⟨q0,e0,_,K0,K1⟩:=Z.hd;obtain⟨q1,ax,_,ae,K2⟩:=K1.hd;have aw:q1=st:=(by cases K2;rfl);subst aw ax;have g0:f7 (l9 [C,B]) (0:Int)=some ((C:Nat):Int):=E3 (i:=0) (ks:=[C,B]) (by simp);have al:(l9 [C,B])[Int.toNat 0]? =some ((C:Nat):Int):=F6 (i:=0) (ks:=[C,B]) (by simp);have g1:f7 (l9 [C,B]) (1:Int)=some ((B:Nat):Int):=E3 (i:=1) (ks:=[C,B]) (by simp);have ao:(l9 [C,B])[Int.toNat 1]? =some ((B:Nat):Int):=F6 (i:=1) (ks:=[C,B]) (by simp);obtain⟨a,O,a1,a2⟩:=ih (B-C) (by omega) C y B rfl hy am ad (by omega) s0.1 s0.2 (hR.sub (by omega) (by omega)) F Fs I S o ho (by omega) (by omega);rw[<-e0]at K0;obtain⟨z1,z2,_⟩:=a2.len _ _ K0;have j1:∃c L,pF d5 (b:Int) (x.Ns-1) ((),(mkr P F Fs (I++a) O,())) ((l9 [C,B],()),(mkr P F Fs I S,()))=some ((),(mkr P F Fs (I++c) L,()))/\GX l P.Ms P.To o [b] S c L:=by have H:=Ro (P:=P) (F:=F) (Fs:=Fs) X (I++a) O (o+a.length) (by rw[t8];omega) (by rw[t8];omega) (x.Ns-1) 0 hx;obtain⟨c,K,b1,b2⟩:=ih (q1-B) (by omega) B z q1 rfl hz af au t3 s1.1 s1.2 (hR.sub (by omega) (by omega)) F Fs (I++a++[⟨x.Ns-1,0,x.Ls⟩]) O (o+a.length+1) (by simp only[t8,C2];omega) (by simp only[t8,C2];omega) (by omega);obtain⟨w1,w2,_⟩:=b2.len _ _ ae;have U:=Tl (P:=P) (F:=F) (Fs:=Fs) (I++a) c K ⟨x.Ns-1,0,x.Ls⟩ (o+a.length) (by rw[t8];omega) (by simp only[t8];omega);rw[a78,iH];simp only;rw[H];simp only[d6];rw[g1,d6,ao,d6,b1];simp only[d6];rw[show I++a++[(⟨x.Ns-1,0,x.Ls⟩:p8)]++c=I++a++((⟨x.Ns-1,0,x.Ls⟩:p8)::c) by simp,U];simp only[d6];have:=GX.log (T:=P.To) (M:=P.Ms) o b q1 C B [] x S O K K a c [] hx c31 ac t1 Z a2 b2 (.nil _ _);rw[T4]at this;exact⟨_,K,by rw[G5],this⟩
   rw[b1l,oT];simp only;rw[g0,d6,al,d6,a1];simp only[d6];by_cases c15:x.Ns=15
   ·rw[c15]at j1;rw[f6 c15,l6];exact j1
   ·have ak:x.Ns=14:=(by omega);rw[ak]at j1;rw[d9 c15];exact j1
  have az:=t7.n31 c31;by_cases c14:x.Ns=14
  ·rw[f6 c14,l6];exact j2 (by omega) (by omega)
  ·by_cases c15:x.Ns=15
   ·rw[d9 c14,f9,f6 c15,l6];exact j2 (by omega) (by omega)
   ·rw[d9 c14,f9,d9 c15,f9];exact j3 (λ_=>by omega)
 ·rw[d9 c31,f9];exact j3 (λh=>absurd h c31)
theorem wU:∀n,gV l P n:=by
 intro n
 induction n using Nat.strongRecOn with
 |_ n ih=>exact b0t hG n ih
end
end
section
variable{l:List d7}{M:List l8}{T:List v7}
theorem GS.cat{o b:Nat}{ks:List Nat}{S C B:List Bs}{u v:List p8}(h:GS l M T o [b] S u C)(z:GS l M T (o+u.length) ks C v B):GS l M T o (b::ks) S (u++v) B:=by
 cases h with
 |smp _ _ _ es x m _ T1 _ a t d hx hm hT h0 h2=>cases h2;have e:o+((⟨1,m.Qs,x.Ls⟩:p8)::(a++(t++[]))).length=o+1+a.length+t.length:=(by simp;omega);rw[e]at z;have:=GS.smp o b ks es x m S C B a t v hx hm hT h0 z;simpa using this
 |if2 _ _ st k1 _ ks1 x m _ T1 T2 _ a c d hx hm hk hs hks hb h0 h1 h2=>cases h2;have e:o+((⟨1,m.Qs,x.Ls⟩:p8)::(a++((⟨12,((o+a.length+2+c.length:Nat):Int),x.Ls⟩:p8)::(c++[])))).length=o+a.length+2+c.length:=(by simp;omega);rw[e]at z;have:=GS.if2 o b st k1 ks ks1 x m S T1 C B a c v hx hm hk hs hks hb h0 h1 z;simpa using this
 |if3 _ _ st k1 k2 _ ks1 ks2 x m _ T1 T2 T3 _ a c e d hx hm hk hs hks hb1 hb2 h0 h1 h3 h2=>cases h2;have G:o+((⟨1,m.Qs,x.Ls⟩:p8)::(a++((⟨12,((o+a.length+c.length+3:Nat):Int),x.Ls⟩:p8)::(c++((⟨11,((o+a.length+c.length+3+e.length:Nat):Int),x.Ls⟩:p8)::(e++[])))))).length=o+a.length+c.length+3+e.length:=(by simp;omega);rw[G]at z;have:=GS.if3 o b st k1 k2 ks ks1 ks2 x m S T1 T2 C B a c e v hx hm hk hs hks hb1 hb2 h0 h1 h3 z;simpa using this
 |whl _ _ st k1 _ ks1 x m _ T1 T2 _ a c d hx hm hk hs hks hb h0 h1 h2=>cases h2;have e:o+((⟨1,m.Qs,x.Ls⟩:p8)::(a++((⟨12,((o+a.length+c.length+3:Nat):Int),x.Ls⟩:p8)::(c++((⟨11,(o:Int),x.Ls⟩:p8)::[]))))).length=o+a.length+c.length+3:=(by simp;omega);rw[e]at z;have:=GS.whl o b st k1 ks ks1 x m S T1 C B a c v hx hm hk hs hks hb h0 h1 z;simpa using this
theorem Bj.kc{b:Nat}{x:d7}{m:l8}{es:List Nat}{t:List p8}(h:Bj l M b x m es t){st:Nat}(J:x.Cs=(st:Int)-(b+1)):t.length<=1/\∃lo hi,b+1<=lo/\hi<=st/\Kc l lo hi es:=by
 cases h with
 |var st' k0 k1 hk hs' hks=>have:st'=st:=(by omega);subst this;obtain⟨q,_,G,_,z⟩:=hks.hd;exact⟨l5 _,q,st',by omega,l5 _,z⟩
 |set st' k0 k1 y m0 is hk hs' hks hy hyk hm0 hi=>have:st'=st:=(by omega);subst this;obtain⟨q,rfl,G,_,z⟩:=hks.hd;obtain⟨B,rfl,I,C,H⟩:=z.hd;have:B=st':=(by cases H;rfl);subst this;exact⟨l5 _,b+1+1,B,by omega,l5 _,hi.app C⟩
 |ret0 hk hs'=>exact⟨l5 _,b+1,b+1,l5 _,by omega,.nil _⟩
 |ret1 st' hk hs' hks=>have:st'=st:=(by omega);subst this;exact⟨l5 _,b+1,st',l5 _,l5 _,hks⟩
 |print st' hk hs' hks=>have:st'=st:=(by omega);subst this;exact⟨l5 _,b+1,st',l5 _,l5 _,hks⟩
 |pop st' m0 hk hs' hks hm0 ht=>have:st'=st:=(by omega);subst this;exact⟨l5 _,b+1,st',l5 _,l5 _,hks⟩
 |run st' m0 hk hs' hks hm0 ht=>have:st'=st:=(by omega);subst this;exact⟨by simp,b+1,st',l5 _,l5 _,hks⟩
theorem Kc.end{i j q:Nat}{k:Nat}{y:d7}(h:Kc l i j [k])(B:l[k]? =some y)(L:y.Cs=(q:Int)-(k+1)):k=i/\q=j/\i+1<=j:=by
 obtain⟨rfl,K,H,z,C,J,I,G⟩:=h.first
 rw[B]at z;cases z;have:H=j:=(by cases G;rfl);omega
theorem GS.len{o:Nat}{ks:List Nat}{S S':List Bs}{c:List p8}(h:GS l M T o ks S c S'):∀lo hi,Kc l lo hi ks->c.length+3*lo<=3*hi/\S'.length+lo<=S.length+hi/\W6 S'+ps l lo<=W6 S+ps l hi:=by
 induction h with
 |nil o S=>intro lo hi I;have:=I.le;have:=Aj l (i:=lo) (j:=hi) (by omega);simp only[K8];omega
 |smp o b ks es x m S S1 S2 a t d hx hm hT h0 h2 i2=>
  intro lo hi I;obtain⟨rfl,y,q,C,J,N,O,z⟩:=I.first
  rw[hx]at C;cases C;obtain⟨t1,ab,ae,t2,t3,t4⟩:=hT.kc J;obtain⟨p1,p2,p3⟩:=h0.len _ _ t4;obtain⟨w1,w2,w3⟩:=i2 _ _ z;have:=t4.le;have:=Aj l (i:=b) (j:=ab) (by omega);have:=Aj l t3;simp only[t8,F8];omega
 |if2 o b st k1 ks ks1 x m S S1 S2 S3 a c d hx hm hk hs hks hb h0 h1 h2 i1 i2=>
  intro lo hi I;obtain⟨rfl,y,q,C,J,N,O,z⟩:=I.first
  rw[hx]at C;cases C;have:q=st:=(by omega);subst this;obtain⟨q0,e0,V,R,B⟩:=hks.hd;obtain⟨Z,rfl,L,U,G⟩:=B.hd;have Y:Z=q:=(by cases G;rfl);subst Y;obtain⟨y1,H,Q,X,K⟩:=hb;obtain⟨_,rfl,_⟩:=U.end Q X;obtain⟨p1,p2,p3⟩:=h0.len _ _ R;obtain⟨r1,r2,r3⟩:=i1 _ _ K;obtain⟨w1,w2,w3⟩:=i2 _ _ z;have:=K.le;have:=Aj l (i:=b) (j:=b+1) (by omega);have:=Aj l (i:=k1) (j:=k1+1) (by omega);simp only[t8,F8];omega
 |if3 o b st k1 k2 ks ks1 ks2 x m S S1 S2 S3 S4 a c e d hx hm hk hs hks hb1 hb2 h0 h1 h3 h2 i1 i3 i2=>
  intro lo hi I;obtain⟨rfl,y,q,C,J,N,O,z⟩:=I.first
  rw[hx]at C;cases C;have:q=st:=(by omega);subst this;obtain⟨q0,e0,V,R,B⟩:=hks.hd;obtain⟨Z,rfl,L,U,G⟩:=B.hd;obtain⟨q2,rfl,ac,K2,aa⟩:=G.hd;have Y:q2=q:=(by cases aa;rfl);subst Y;obtain⟨y1,H,Q,X,K⟩:=hb1;obtain⟨_,rfl,_⟩:=U.end Q X;obtain⟨y2,ad,d1,d2,d3⟩:=hb2;obtain⟨_,rfl,_⟩:=K2.end d1 d2;obtain⟨p1,p2,p3⟩:=h0.len _ _ R;obtain⟨r1,r2,r3⟩:=i1 _ _ K;obtain⟨u1,u2,u3⟩:=i3 _ _ d3;obtain⟨w1,w2,w3⟩:=i2 _ _ z;have:=K.le;have:=d3.le;have:=Aj l (i:=b) (j:=b+1) (by omega);have:=Aj l (i:=k1) (j:=k1+1) (by omega);have:=Aj l (i:=H) (j:=H+1) (by omega);simp only[t8,F8];omega
 |whl o b st k1 ks ks1 x m S S1 S2 S3 a c d hx hm hk hs hks hb h0 h1 h2 i1 i2=>
  intro lo hi I;obtain⟨rfl,y,q,C,J,N,O,z⟩:=I.first
  rw[hx]at C;cases C;have:q=st:=(by omega);subst this;obtain⟨q0,e0,V,R,B⟩:=hks.hd;obtain⟨Z,rfl,L,U,G⟩:=B.hd;have Y:Z=q:=(by cases G;rfl);subst Y;obtain⟨y1,H,Q,X,K⟩:=hb;obtain⟨_,rfl,_⟩:=U.end Q X;obtain⟨p1,p2,p3⟩:=h0.len _ _ R;obtain⟨r1,r2,r3⟩:=i1 _ _ K;obtain⟨w1,w2,w3⟩:=i2 _ _ z;have:=K.le;have:=Aj l (i:=b) (j:=b+1) (by omega);have:=Aj l (i:=k1) (j:=k1+1) (by omega);simp only[t8,F8];omega
end
section
def rD(l:List d7)(P:w8)(n:Nat):Prop:=∀(b:Nat) (x:d7) (q:Nat),q-b=n->l[b]? =some x->x.Cs=(q:Int)-(b+1)->b+1<=q->q<=l.length->7<=x.Ks->x.Ks<=13->Dt l P.Ms b q->
 ∀(F:Nat) (Fs:List D7) (I:List p8) (S:List Bs) (o:Nat),I.length=F+o->I.length+3*(q-b)<=80000000->S.length+(q-b)<=80000000->
 ∃c S',wG d5 (mkr P F Fs I S) (b:Int)=some ((),(mkr P F Fs (I++c) S',()))/\GS l P.Ms P.To o [b] S c S'
def zS(l:List d7)(P:w8)(n:Nat):Prop:=∀(b:Nat) (x:d7) (q:Nat),q-b=n->l[b]? =some x->x.Cs=(q:Int)-(b+1)->b+1<=q->q<=l.length->x.Ks=6->Dt l P.Ms b q->
 ∀(F:Nat) (Fs:List D7) (I:List p8) (S:List Bs) (o:Nat),I.length=F+o->I.length+3*(q-b)<=80000000->S.length+(q-b)<=80000000->
 ∃c S' ks,Pz d5 (mkr P F Fs I S) (b:Int)=some ((),(mkr P F Fs (I++c) S',()))/\Kc l (b+1) q ks/\GS l P.Ms P.To o ks S c S'
section
variable{l:List d7}{P:w8}(hG:GEn l P)
include hG
theorem b5D(N:Nat)(ih:∀m,m<N->rD l P m)(m0:y6)(ks:List Nat)(st:Nat)(ab:st<=l.length)(aa:ks.length<=l.length)(Q:∀p∈ks,7<=kd l p/\kd l p<=13)(F:Nat)(Fs:List D7):∀(n e c0 o:Nat) (I:List p8) (S:List Bs),ks.length-e=n->e<=ks.length->Kc l c0 st (ks.drop e)->st-c0<N->Dt l P.Ms c0 st->I.length=F+o->I.length+3*(st-c0)<=80000000->S.length+(st-c0)<=80000000->∃c L,pM d5 ((l9 ks,()),(m0,())) (e:Int) (mkr P F Fs I S)=some ((),(mkr P F Fs (I++c) L,()))/\GS l P.Ms P.To o (ks.drop e) S c L:=by
 have ac:=hG.small;intro n
 induction n with
 |zero=>intro e c0 o I S hn he K hN V Y hI hS;rw[XG,Xv];simp only[C3];rw[d9 (by omega),f9,R3 (by omega)];exact⟨[],S,by rw[T4],.nil _ _⟩
 |succ n ihn=>
  intro e c0 o I S hn he K hN V Y hI hS;have z:e<ks.length:=(by omega);have g:=E3 z;have ga:=F6 z;rw[P0 z]at K⊢;obtain⟨J,y,q,R,H,O,X,C⟩:=K.first
  have B:=Q _ (B0 z);rw[J,x4 R]at B;obtain⟨c,S1,r1,Z⟩:=ih (q-c0) (by omega) c0 y q rfl R H O (by omega) B.1 B.2 (V.sub (l5 _) X) F Fs I S o Y (by omega) (by omega);obtain⟨q',_,_,G,_⟩:=K.hd;rw[J]at G;have U:q=q':=(G.end R H).2.1;subst U;obtain⟨z1,z2,_⟩:=Z.len _ _ G;obtain⟨c',L,k1,k2⟩:=ihn (e+1) q (o+c.length) (I++c) S1 (by omega) (by omega) C (by omega) (V.sub (by omega) (l5 _)) (by rw[t8];omega) (by rw[t8];omega) (by omega);refine⟨c++c',L,?_,?_⟩
  ·rw[XG,Xv];simp only[C3];rw[f6 (by omega),l6,g,d6,F9,ga,d6,J,r1];simp only[d6];rw[B7 (by omega),k1,G5]
  ·rw[J];exact Z.cat k2
theorem a58(N:Nat)(ih:∀m,m<N->rD l P m):zS l P N:=by intro b x q hN hx hs R hq Q hR F Fs I S o V hI hS;have Y:=hG.small;obtain⟨st,ks,X,t2,H,t4,z,O,t7⟩:=hG.may.nd b x hx;have B:st=q:=(by omega);subst B;have J:=z.le;have C:∀p∈ks,7<=kd l p/\kd l p<=13:=λp U=>fK (Qo (O.k6 Q) p U);have G:=Zf (by omega) (mkr P F Fs I S) hG.nodes hx X H z;obtain⟨c,Z,L,K⟩:=b5D hG N ih (mkr P F Fs I S) ks st H (by omega) C F Fs _ 0 (b+1) o I S rfl (D2 _) (by rw[W3];exact z) (by omega) (hR.sub (by omega) (l5 _)) V (by omega) (by omega);rw[W3]at K;rw[b2s,lZ,G];simp only[d6];exact⟨c,Z,ks,L,z,K⟩
theorem a8m(a:Int)(Z:List Int)(m0:y6)(ks:List Nat)(st:Nat)(ab:st<=l.length)(aa:ks.length<=l.length)(O:∀p∈ks,21<=kd l p/\kd l p<=32)(F:Nat)(Fs:List D7):∀(n e c0 o:Nat) (I:List p8) (S:List Bs),ks.length-e=n->e<=ks.length->Kc l c0 st (ks.drop e)->Dt l P.Ms c0 st->I.length=F+o->I.length+(st-c0)<=80000000->S.length+(st-c0)<=80000000->∃c L,Wm d5 a Z ((l9 ks,()),(m0,())) (e:Int) (mkr P F Fs I S)=ES d5 a Z (mkr P F Fs (I++c) L)/\GX l P.Ms P.To o (ks.drop e) S c L:=by
 have ac:=hG.small;intro n
 induction n with
 |zero=>intro e c0 o I S hn he K U X hI hS;rw[VK,Zp];simp only[C3];rw[d9 (by omega),f9,R3 (by omega)];exact⟨[],S,by rw[T4],.nil _ _⟩
 |succ n ihn=>
  intro e c0 o I S hn he K U X hI hS;have z:e<ks.length:=(by omega);have g:=E3 z;have ga:=F6 z;rw[P0 z]at K⊢;obtain⟨J,y,q,Q,H,N,V,C⟩:=K.first
  have B:=O _ (B0 z);rw[J,x4 Q]at B;obtain⟨c,S1,r1,Y⟩:=wU hG (q-c0) c0 y q rfl Q H N (by omega) B.1 B.2 (U.sub (l5 _) V) F Fs I S o X (by omega) (by omega);obtain⟨q',_,_,G,_⟩:=K.hd;rw[J]at G;have R:q=q':=(G.end Q H).2.1;subst R;obtain⟨z1,z2,_⟩:=Y.len _ _ G;obtain⟨c',L,k1,k2⟩:=ihn (e+1) q (o+c.length) (I++c) S1 (by omega) (by omega) C (U.sub (by omega) (l5 _)) (by rw[t8];omega) (by rw[t8];omega) (by omega);refine⟨c++c',L,?_,?_⟩
  ·rw[VK,Zp];simp only[C3];rw[f6 (by omega),l6,g,d6,F9,ga,d6,J,r1];simp only[d6];rw[B7 (by omega),k1,G5]
  ·rw[J];exact Y.cat k2
end
end
section
section
variable{l:List d7}{P:w8}(hG:GEn l P)
include hG
theorem b4R(b:Nat)(x:d7)(hx:l[b]? =some x)(C G st:Nat)(y z:d7)(K:l[C]? =some y)(ae:y.Cs=(G:Int)-(C+1))(ad:C+1<=G)(ag:y.Ks=26\/y.Ks=28\/y.Ks=29)(hz:l[G]? =some z)(aa:z.Cs=(st:Int)-(G+1))(V:G+1<=st)(R:st<=l.length)(N:21<=z.Ks/\z.Ks<=32)(K1:Kc l G st [G])(hR:Dt l P.Ms C st)(X:C<P.Ms.length)(F:Nat)(Fs:List D7)(I:List p8)(S:List Bs)(o:Nat)(ho:I.length=F+o)(hI:I.length+2*(st-C)<=80000000)(hS:S.length+(st-C)<=80000000):∃(J:List Nat) (c:List p8) (S':List Bs),IU d5 (mkr P F Fs I S) (b:Int) (l9 [C,G])=some ((),(mkr P F Fs (I++c++[Ta x y P.Ms[C]]) S',()))/\Kc l (C+1) G J/\GX l P.Ms P.To o (J++[G]) S c S':=by
 have af:=hG.small;have O:=hG.nodes;have hp:∀(I:List p8) (S:List Bs),(mkr P F Fs I S).p_=P:=λ_ _=>rfl;obtain⟨B,J,t1,t2,t3,t4,L,t6,t7⟩:=hG.may.nd C y K;have Q:B=G:=(by omega);subst Q;have ac:=L.le;have Z:∀p∈J,21<=kd l p/\kd l p<=32:=by obtain⟨_,_,_,h⟩:=LC L t6 (by omega);rw[if_neg (by omega)]at h;exact h
 have Y:=Zf (by omega) (mkr P F Fs I S) hG.nodes K t1 t3 L;have g0:f7 (l9 [C,B]) (0:Int)=some ((C:Nat):Int):=E3 (i:=0) (ks:=[C,B]) (by simp);have g1:f7 (l9 [C,B]) (1:Int)=some ((B:Nat):Int):=E3 (i:=1) (ks:=[C,B]) (by simp);obtain⟨c1,S1,a1,a2⟩:=a8m hG (b:Int) (l9 [C,B]) (mkr P F Fs I S) J B t3 (by omega) Z F Fs _ 0 (C+1) o I S rfl (D2 _) (by rw[W3];exact L) (hR.sub (by omega) (by omega)) ho (by omega) (by omega);rw[W3]at a2;obtain⟨z1,z2,_⟩:=a2.len _ _ L;obtain⟨c2,S2,b1,b2⟩:=wU hG (st-B) B z st rfl hz aa V R N.1 N.2 (hR.sub (by omega) (l5 _)) F Fs (I++c1) S1 (o+c1.length) (by rw[t8];omega) (by rw[t8];omega) (by omega);obtain⟨w1,w2,_⟩:=b2.len _ _ K1;have U:=(o9.1 K).1;have ab:=(o9.1 K).2;have H:=λ(op arg:Int) (i:Nat) (u:d7) (hu:l[i]? =some u)=>Ro (P:=P) (F:=F) (Fs:=Fs) O (I++c1++c2) S2 (o+(c1.length+c2.length)) (by simp only[t8];omega) (by simp only[t8];omega) op arg hu;refine⟨J,c1++c2,S2,?_,L,a2.app b2⟩;rw[b1z,qM,g0,d6,Y];simp only[d6];rw[show Wm d5 (b:Int) (l9 [C,B]) ((l9 J,()),(mkr P F Fs I S,())) 0 (mkr P F Fs I S)=_ from a1,b2w,dP,g1,d6,b1];simp only[d6];rw[g0,d6,hp,p9 X,d6,d6,O,p9 U,d6,ab];unfold Ta;by_cases c26:y.Ks=26
 ·rw[f6 c26,if_pos c26,l6,H _ _ b x hx];simp only[d6,G5]
 ·rw[d9 c26,if_neg c26,f9];by_cases c28:y.Ks=28
  ·rw[f6 c28,if_pos c28,l6,d6,H _ _ C y K];simp only[d6,G5]
  ·have c29:y.Ks=29:=(by omega);rw[d9 c28,if_neg c28,f9,f6 c29,l6,d6,H _ _ C y K];simp only[d6,G5]
set_option maxHeartbeats 4000000 in
theorem b0x(N:Nat)(av:∀m,m<N->zS l P m):rD l P N:=by
 intro b x q hN hx hs b4 hq h7 bz hR F Fs I S o ho hI hS;have b0:=hG.small;have ba:=hG.nodes;have hp:∀(I:List p8) (S:List Bs),(mkr P F Fs I S).p_=P:=λ_ _=>rfl;obtain⟨st,ks,t1,t2,t3,t4,t5,t6,t7⟩:=hG.may.nd b x hx;have bu:st=q:=(by omega);subst bu;have bx:=t5.le;have bt:=(o9.1 hx).1;have bp:=(o9.1 hx).2;have ay:b<P.Ms.length:=(by rw[hG.len];omega);have aq:P.Ms[b]? =some P.Ms[b]:=w9 ay;have bw:=Zf (by omega) (mkr P F Fs I S) hG.nodes hx t1 t3 t5;have bb:=Ro (P:=P) (F:=F) (Fs:=Fs) ba I S o ho (by omega) 1 P.Ms[b].Qs hx;rw[a06,vC,bw];simp only[d6];rw[hp,p9 ay,d6,bb];simp only[d6];rw[hp,ba,p9 bt,d6,bp];generalize ah:I++[(⟨1,P.Ms[b].Qs,x.Ls⟩:p8)]=I1;have bg:I1.length=F+(o+1):=(by rw[<-ah,t8,C2];omega);have ac:∀(es:List Nat) (t c:List p8) (J:List Bs),Bj l P.Ms b x P.Ms[b] es t->GX l P.Ms P.To (o+1) es S c J->∃c' Q,(some ((),(mkr P F Fs (I1++c++t) J,())):b6y)=some ((),(mkr P F Fs (I++c') Q,()))/\GS l P.Ms P.To o [b] S c' Q:=by intro es t c J hT hX;refine⟨_,J,?_,.smp o b [] es x P.Ms[b] S J J c t [] hx aq hT hX (.nil _ _)⟩;rw[<-ah];simp
 have ex:∀(k qk:Nat) (y:d7),l[k]? =some y->y.Cs=(qk:Int)-(k+1)->k+1<=qk->b+1<=k->qk<=st->21<=y.Ks/\y.Ks<=32->Kc l k qk [k]->∃c Q,Bl d5 (mkr P F Fs I1 S) (k:Int)=some ((),(mkr P F Fs (I1++c) Q,()))/\GX l P.Ms P.To (o+1) [k] S c Q/\c.length+k<=qk/\Q.length+k<=S.length+qk:=by intro k qk y Y G h1 h2 h3 hk hK;obtain⟨c,Q,a1,a2⟩:=wU hG (qk-k) k y qk rfl Y G h1 (by omega) hk.1 hk.2 (hR.sub (by omega) h3) F Fs I1 S (o+1) bg (by omega) (by omega);obtain⟨z1,z2,_⟩:=a2.len _ _ hK;exact⟨c,Q,a1,a2,z1,z2⟩
 have pt:∀(c:List p8) (Q:List Bs) (n:Nat) (op arg:Int),c.length=n->I1.length+n<=90000000->U3 d5 (mkr P F Fs (I1++c) Q) op arg (b:Int)=some ((((o+1+n:Nat):Int),()),(mkr P F Fs (I1++c++[⟨op,arg,x.Ls⟩]) Q,())):=by intro c Q n op arg hn hl;subst hn;rw[Ro (P:=P) (F:=F) (Fs:=Fs) ba (I1++c) Q (o+1+c.length) (by rw[t8];omega) (by rw[t8];omega) op arg hx]
 by_cases c7:x.Ks=7
 ·obtain⟨Z,e2⟩:=J7 (t6.k7 c7);have ag:=t5;obtain⟨k0,B,y,z,rfl,br,Y,G,L,hz,ax,a7⟩:=Kg t5 Z;have s1:=M2 (e2 1 (by simp) (by simp));simp only[Dp,K5]at s1;rw[x4 hz]at s1;obtain⟨q0,_,_,_,K1⟩:=ag.hd;obtain⟨H,bc,_,aw,K2⟩:=K1.hd;have a9:H=st:=(by cases K2;rfl);subst a9 bc;have g1:f7 (l9 [k0,B]) (1:Int)=some ((B:Nat):Int):=E3 (i:=1) (ks:=[k0,B]) (by simp);have ak:(l9 [k0,B])[Int.toNat 1]? =some ((B:Nat):Int):=F6 (i:=1) (ks:=[k0,B]) (by simp);obtain⟨c,J,a1,a2,a3,a4⟩:=ex B H z hz ax a7 (by omega) (l5 _) s1 aw;rw[f6 c7,l6,g1,d6,ak,d6,a1];simp only[d6];rw[hp,p9 ay,d6,pt c J _ 8 P.Ms[b].Es rfl (by omega)];simp only[d6];exact ac [B] _ c J (.var H k0 B c7 t1 ag) a2
 rw[d9 c7,f9];by_cases c8:x.Ks=8
 ·obtain⟨f1,f2⟩:=t6.k8 c8;obtain⟨Z,e2⟩:=J7 f1;have ag:=t5;obtain⟨k0,B,y,z,rfl,br,Y,G,L,hz,ax,a7⟩:=Kg t5 Z;have s1:=M2 (e2 1 (by simp) (by simp));simp only[Dp,K5]at s1;rw[x4 hz]at s1;have fk:y.Ks=26\/y.Ks=28\/y.Ks=29:=by have:fkd l [k0,B]=y.Ks:=x4 Y;rw[this]at f2;exact f2
  obtain⟨q0,_,_,_,K1⟩:=ag.hd;obtain⟨H,bc,_,aw,K2⟩:=K1.hd;have a9:H=st:=(by cases K2;rfl);subst a9 bc;have be:k0<P.Ms.length:=(by rw[hG.len];omega);obtain⟨is,c,Q,a1,a2,a3⟩:=b4R hG b x hx k0 B H y z Y G L fk hz ax a7 t3 s1 aw (hR.sub (by omega) (l5 _)) be F Fs I1 S (o+1) bg (by omega) (by omega);rw[f6 c8,l6,a1];simp only[d6];exact ac (is++[B]) _ c Q (.set H k0 B y P.Ms[k0] is c8 t1 ag Y fk (w9 be) a2) a3
 rw[d9 c8,f9];have one:∀(Q:List Int),G8 l ks=101::Q->∃(y:d7) (H:Nat) (V:List Nat),ks=(b+1)::V/\l[b+1]? =some y/\y.Cs=(H:Int)-(b+1+1)/\b+1+1<=H/\H<=st/\(21<=y.Ks/\y.Ks<=32)/\Kc l (b+1) H [b+1]/\Kc l H st V/\f7 (l9 ks) (0:Int)=some ((b+1:Nat):Int)/\(l9 ks)[Int.toNat 0]? =some ((b+1:Nat):Int):=by
  intro Q ar;obtain⟨Z,e2⟩:=J7 ar;obtain⟨k0,V,rfl⟩:∃k V,ks=k::V:=by
   cases ks with
   |nil=>simp at Z
   |cons k V=>exact⟨k,V,rfl⟩
  obtain⟨H,rfl,h1,K0,Kr⟩:=t5.hd;obtain⟨_,y,bd,Y,G,L,X,hr⟩:=t5.first
  have s0:=M2 (e2 0 (by simp) (by simp));simp only[K5]at s0;rw[x4 Y]at s0;have ad:bd=H:=(K0.end Y G).2.1;subst ad;exact⟨y,bd,V,rfl,Y,G,L,X,s0,K0,Kr,E3 (i:=0) (ks:=(b+1)::V) (by simp),F6 (i:=0) (ks:=(b+1)::V) (by simp)⟩
 by_cases c9:x.Ks=9
 ·rw[f6 c9,l6];have bh:∃Q,G8 l ks=101::Q/\(Q=[98]\/Q=[98,98]):=by
   rcases t6.k9 c9 with h|h
   ·exact⟨_,h,.inl rfl⟩
   ·exact⟨_,h,.inr rfl⟩
  obtain⟨Q,ar,ap⟩:=bh;obtain⟨Z,e2⟩:=J7 ar;obtain⟨y,H,V,rfl,Y,G,L,X,ae,K0,Kr,g0,aa⟩:=one Q ar;obtain⟨a,J,a1,a2,a3,a4⟩:=ex (b+1) H y Y G L (l5 _) X ae K0;rw[g0,d6,aa,d6,a1];simp only[d6];rw[pt a J _ 12 0 rfl (by omega)];simp only[d6];obtain⟨B,C,rfl⟩:∃k C,V=k::C:=by
   cases V with
   |nil=>rcases ap with rfl|rfl<;>simp at Z
   |cons k C=>exact⟨k,C,rfl⟩
  obtain⟨q2,a5,az,Kb,Kr2⟩:=Kr.hd;subst a5;obtain⟨_,y1,O,U,K,_,_,_⟩:=Kb.first
  have ad:O=q2:=(Kb.end U K).2.1;subst ad;have a6:y1.Ks=6:=by have h:=e2 1 (by simp) (by rcases ap with rfl|rfl<;>simp);simp only[Dp,K5]at h;rw[x4 U]at h;refine Sr (h.trans ?_);rcases ap with rfl|rfl<;>rfl
  have bi:=Kr2.le;have g1:f7 (l9 ((b+1)::B::C)) (1:Int)=some ((B:Nat):Int):=E3 (i:=1) (ks:=(b+1)::B::C) (by simp);have ak:(l9 ((b+1)::B::C))[Int.toNat 1]? =some ((B:Nat):Int):=F6 (i:=1) (ks:=(b+1)::B::C) (by simp);obtain⟨c,S2,ao,b1,b2,b3⟩:=av (O-B) (by omega) B y1 O rfl U K az (by omega) a6 (hR.sub (by omega) (by omega)) F Fs (I1++a++[⟨12,0,x.Ls⟩]) J (o+a.length+2) (by simp only[t8,C2];omega) (by simp only[t8,C2];omega) (by omega);obtain⟨w1,w2,_⟩:=b3.len _ _ b2;rw[g1,d6,ak,d6,b1];simp only[d6];rcases ap with rfl|rfl
  ·have aj:C=[]:=(by simpa using Z);subst aj;have ab:O=st:=(by cases Kr2;rfl);subst ab;rw[d9 (by simp[l9]),f9,VG,Ut];have R:=Tl (P:=P) (F:=F) (Fs:=Fs) (I1++a) c S2 ⟨12,0,x.Ls⟩ (o+1+a.length) (by rw[t8];omega) (by simp only[t8];omega);rw[show I1++a++[(⟨12,0,x.Ls⟩:p8)]++c=I1++a++((⟨12,0,x.Ls⟩:p8)::c) by simp,R];simp only[d6];have hg:=GS.if2 (T:=P.To) o b O B [] ao x P.Ms[b] S J S2 S2 a c [] hx aq c9 t1 t5 ⟨y1,O,U,K,b2⟩ a2 b3 (.nil _ _);refine⟨_,S2,?_,hg⟩;have ea:o+1+a.length+1+c.length=o+a.length+2+c.length:=(by omega);rw[<-ah,ea];simp
  ·obtain⟨k2,al,rfl⟩:∃k al,C=k::al:=by
    cases C with
    |nil=>simp at Z
    |cons k al=>exact⟨k,al,rfl⟩
   have bf:al=[]:=(by simpa using Z);subst bf;obtain⟨q3,bo,bl,Kb2,Kr3⟩:=Kr2.hd;subst bo;have bs:q3=st:=(by cases Kr3;rfl);subst bs;obtain⟨_,y2,af,an,ai,_,_,_⟩:=Kb2.first
   have ad:af=q3:=(Kb2.end an ai).2.1;subst ad;have bj:y2.Ks=6:=by have h:=e2 2 (by simp) (by simp);simp only[Dp,K5]at h;rw[x4 an]at h;exact Sr h
   have g2:f7 (l9 [b+1,B,k2]) (2:Int)=some ((k2:Nat):Int):=E3 (i:=2) (ks:=[b+1,B,k2]) (by simp);have bm:(l9 [b+1,B,k2])[Int.toNat 2]? =some ((k2:Nat):Int):=F6 (i:=2) (ks:=[b+1,B,k2]) (by simp);rw[f6 (by simp[l9]),l6];have a0:I1++a++[(⟨12,0,x.Ls⟩:p8)]++c=I1++(a++[(⟨12,0,x.Ls⟩:p8)]++c):=(by simp);rw[a0,pt _ S2 (a.length+1+c.length) 11 0 (by simp;omega) (by omega)];simp only[d6];have R:=Tl (P:=P) (F:=F) (Fs:=Fs) (I1++a) (c++[⟨11,0,x.Ls⟩]) S2 ⟨12,0,x.Ls⟩ (o+1+a.length) (by rw[t8];omega) (by simp only[t8,C2];omega);rw[show I1++(a++[(⟨12,0,x.Ls⟩:p8)]++c)++[⟨11,0,x.Ls⟩]=I1++a++((⟨12,0,x.Ls⟩:p8)::(c++[⟨11,0,x.Ls⟩])) by simp,R];simp only[d6];have ea:o+1+a.length+1+(c++[(⟨11,0,x.Ls⟩:p8)]).length=o+a.length+c.length+3:=(by simp;omega);rw[ea,g2,d6,bm,d6];obtain⟨e,S3,bk,d1,d2,d3⟩:=av (af-k2) (by omega) k2 y2 af rfl an ai bl t3 bj (hR.sub (by omega) (l5 _)) F Fs (I1++a++((⟨12,((o+a.length+c.length+3:Nat):Int),x.Ls⟩:p8)::(c++[⟨11,0,x.Ls⟩]))) S2 (o+a.length+c.length+3) (by simp only[t8,F8,K8];omega) (by simp only[t8,F8,K8];omega) (by omega);obtain⟨v1,v2,_⟩:=d3.len _ _ d2;rw[d1];simp only[d6];rw[VG,Ut];have am:=Tl (P:=P) (F:=F) (Fs:=Fs) (I1++a++((⟨12,((o+a.length+c.length+3:Nat):Int),x.Ls⟩:p8)::c)) e S3 ⟨11,0,x.Ls⟩ (o+1+(a.length+1+c.length)) (by simp only[t8,F8];omega) (by simp only[t8,F8];omega);rw[show I1++a++((⟨12,((o+a.length+c.length+3:Nat):Int),x.Ls⟩:p8)::(c++[⟨11,0,x.Ls⟩]))++e=I1++a++((⟨12,((o+a.length+c.length+3:Nat):Int),x.Ls⟩:p8)::c)++((⟨11,0,x.Ls⟩:p8)::e) by simp,am];simp only[d6];have hg:=GS.if3 (T:=P.To) o b af B k2 [] ao bk x P.Ms[b] S J S2 S3 S3 a c e [] hx aq c9 t1 t5 ⟨y1,_,U,K,b2⟩ ⟨y2,af,an,ai,d2⟩ a2 b3 d3 (.nil _ _);refine⟨_,S3,?_,hg⟩;have eb:o+1+(a.length+1+c.length)+1+e.length=o+a.length+c.length+3+e.length:=(by omega);rw[<-ah,eb];simp
 rw[d9 c9,f9];by_cases c10:x.Ks=10
 ·rw[f6 c10,l6];obtain⟨Z,e2⟩:=J7 (t6.k10 c10);obtain⟨y,H,V,rfl,Y,G,L,X,ae,K0,Kr,g0,aa⟩:=one _ (t6.k10 c10);obtain⟨a,J,a1,a2,a3,a4⟩:=ex (b+1) H y Y G L (l5 _) X ae K0;rw[g0,d6,aa,d6,a1];simp only[d6];rw[pt a J _ 12 0 rfl (by omega)];simp only[d6];obtain⟨B,C,rfl⟩:∃k C,V=k::C:=by
   cases V with
   |nil=>simp at Z
   |cons k C=>exact⟨k,C,rfl⟩
  have aj:C=[]:=(by simpa using Z);subst aj;obtain⟨q2,a5,az,Kb,Kr2⟩:=Kr.hd;subst a5;have ab:q2=st:=(by cases Kr2;rfl);subst ab;obtain⟨_,y1,O,U,K,_,_,_⟩:=Kb.first
  have ad:O=q2:=(Kb.end U K).2.1;subst ad;have a6:y1.Ks=6:=by have h:=e2 1 (by simp) (by simp);simp only[Dp,K5]at h;rw[x4 U]at h;exact Sr h
  have g1:f7 (l9 [b+1,B]) (1:Int)=some ((B:Nat):Int):=E3 (i:=1) (ks:=[b+1,B]) (by simp);have ak:(l9 [b+1,B])[Int.toNat 1]? =some ((B:Nat):Int):=F6 (i:=1) (ks:=[b+1,B]) (by simp);obtain⟨c,S2,ao,b1,b2,b3⟩:=av (O-B) (by omega) B y1 O rfl U K az (by omega) a6 (hR.sub (by omega) (by omega)) F Fs (I1++a++[⟨12,0,x.Ls⟩]) J (o+a.length+2) (by simp only[t8,C2];omega) (by simp only[t8,C2];omega) (by omega);obtain⟨w1,w2,_⟩:=b3.len _ _ b2;rw[g1,d6,ak,d6,b1];simp only[d6];have a0:I1++a++[(⟨12,0,x.Ls⟩:p8)]++c=I1++(a++[(⟨12,0,x.Ls⟩:p8)]++c):=(by simp);rw[a0,pt _ S2 (a.length+1+c.length) 11 (o:Int) (by simp;omega) (by omega)];simp only[d6];have R:=Tl (P:=P) (F:=F) (Fs:=Fs) (I1++a) (c++[⟨11,(o:Int),x.Ls⟩]) S2 ⟨12,0,x.Ls⟩ (o+1+a.length) (by rw[t8];omega) (by simp only[t8,C2];omega);rw[show I1++(a++[(⟨12,0,x.Ls⟩:p8)]++c)++[⟨11,(o:Int),x.Ls⟩]=I1++a++((⟨12,0,x.Ls⟩:p8)::(c++[⟨11,(o:Int),x.Ls⟩])) by simp,R];simp only[d6];have hg:=GS.whl (T:=P.To) o b O B [] ao x P.Ms[b] S J S2 S2 a c [] hx aq c10 t1 t5 ⟨y1,O,U,K,b2⟩ a2 b3 (.nil _ _);refine⟨_,S2,?_,hg⟩;have ea:o+1+a.length+1+(c++[(⟨11,(o:Int),x.Ls⟩:p8)]).length=o+a.length+c.length+3:=(by simp;omega);rw[<-ah,ea];simp
 rw[d9 c10,f9];by_cases c11:x.Ks=11
 ·rw[f6 c11,l6];rcases t6.k11 c11 with h|h
  ·have bv:=dU h;subst bv;have bq:st=b+1:=(by cases t5;rfl);rw[f6 (by simp[l9]),l6];have:=pt [] S 0 26 0 rfl (by omega);rw[T4]at this;rw[this];simp only[d6];have:=ac [] [⟨26,0,x.Ls⟩] [] S (.ret0 c11 (by rw[bq]at t1;exact t1)) (.nil _ _);rw[T4]at this;exact this
  ·obtain⟨Z,e2⟩:=J7 h;obtain⟨y,H,V,rfl,Y,G,L,X,ae,K0,Kr,g0,aa⟩:=one _ h;have au:V=[]:=(by simpa using Z);subst au;have ab:H=st:=(by cases Kr;rfl);subst ab;obtain⟨a,J,a1,a2,a3,a4⟩:=ex (b+1) H y Y G L (l5 _) X ae K0;rw[d9 (by simp[l9]),f9,g0,d6,aa,d6,a1];simp only[d6];rw[pt a J _ 25 0 rfl (by omega)];simp only[d6];exact ac [b+1] _ a J (.ret1 H c11 t1 t5) a2
 rw[d9 c11,f9];have h1:G8 l ks=[101]:=by
  by_cases c12:x.Ks=12
  ·exact t6.k12 (.inl c12)
  ·exact(t6.k13 (by omega)).1
 obtain⟨Z,e2⟩:=J7 h1;obtain⟨y,H,V,rfl,Y,G,L,X,ae,K0,Kr,g0,aa⟩:=one _ h1;have au:V=[]:=(by simpa using Z);subst au;have ab:H=st:=(by cases Kr;rfl);subst ab;obtain⟨a,J,a1,a2,a3,a4⟩:=ex (b+1) H y Y G L (l5 _) X ae K0;by_cases c12:x.Ks=12
 ·rw[f6 c12,l6,g0,d6,aa,d6,a1];simp only[d6];rw[pt a J _ 23 0 rfl (by omega)];simp only[d6];exact ac [b+1] _ a J (.print H c12 t1 t5) a2
 ·have c13:x.Ks=13:=(by omega);have a8:b+1<P.Ms.length:=(by rw[hG.len];omega);rw[d9 c12,f9,f6 c13,l6,g0,d6,aa,d6,a1];simp only[d6];rw[hp,p9 a8,d6];by_cases ct:P.Ms[b+1].Ts=0
  ·rw[f6 ct,B8,f9];have:=ac [b+1] [] a J (.run H P.Ms[b+1] c13 t1 t5 (w9 a8) ct) a2;rw[T4]at this;exact this
  ·rw[d9 ct,F4,l6,pt a J _ 24 0 rfl (by omega)];simp only[d6];exact ac [b+1] _ a J (.pop H P.Ms[b+1] c13 t1 t5 (w9 a8) ct) a2
theorem a2Y:∀n,rD l P n/\zS l P n:=by
 intro n
 induction n using Nat.strongRecOn with
 |_ n ih=>exact⟨b0x hG n (λm z=>(ih m z).2),a58 hG n (λm z=>(ih m z).1)⟩
end
end
section
section
variable{l:List d7}{s:d8}{nr:Nat}{M:List l8}{n:Nat}(h:Ni n l s nr M)(hn:n<=2900)
include h hn
theorem b0E:GEn l (prog s M):=by obtain⟨d,z,rfl⟩:=h.ci;have B:=h.small;exact⟨h.res.ri.nodes,h.may,by omega,λx hx=>by have:=Yq hx;have:=h.txt;omega,z.len,z.ty⟩
theorem dM{f:x8}(Z:f∈s.P.As):∃(k st L z:Nat) (x y:d7) (ks:List Nat),f.Gs=(k:Int)/\l[k]? =some x/\x.Ks=4/\x.Cs=(st:Int)-(k+1)/\Kc l (k+1) st ks/\ks.length=L+2/\ks.getLast? =some z/\k+1<=z/\l[z]? =some y/\y.Ks=6/\y.Cs=(st:Int)-(z+1)/\z+1<=st/\st<=l.length/\f.Ps=(L:Int)/\(L:Int)<=f.Ss/\f.Ss<=200/\0<=f.At/\f.At+f.Ss<=s.P.Ss.length/\(∀i,z<=i->i<st->NdE l s f.Ss i/\NdS l s f.Ss i)/\(∀i,z<=i->i<st->EF l s.P M i/\SF l M f.By i)/\(f.By≠0->BEn l z):=by
 obtain⟨k,st,L,z,x,ks,a1,R,a3,a4,a5,G,a7,a8,a9,X,ad,aa⟩:=h.res.fns f Z;obtain⟨Q,x',c1,c2,c3,_⟩:=h.res.ri.fn f Z;have ek:Q=k:=(by omega);subst ek;rw[R]at c2;cases c2;obtain⟨z1,z2⟩:=h.fc f Z Q st L z x ks a1 R a3 a4 a5 G;obtain⟨N,H,t1,t2,t3,t4,S,t6,t7⟩:=h.may.nd Q x R;have V:N=st:=(by omega);subst V;have:=S.det a4;subst this;obtain⟨B,n1,n2,n3,n4,n5⟩:=Qy t6 c3;have ab:B=L:=(by omega);subst ab;have C:B+1<H.length:=(by omega);have I:H.getLast? =some z:=by rw[List.getLast?_eq_getElem?,n1];exact G
 rw[w9 C]at G;injection G with G
 have J:=n5 C;rw[G]at J;obtain⟨cK,ae,hK⟩:=S.drop (B+1) (by omega);rw[P0 C,R3 (by omega),G]at hK;obtain⟨ac,y,q,hy,Y,U,af,K⟩:=hK.first
 have hq:q=N:=(by cases K;rfl);subst hq ac;rw[x4 hy]at J;have O:=(S.mem z (by rw[<-G];exact B0 C)).1;exact⟨Q,q,B,z,x,y,H,a1,R,c3,t1,S,n1,I,O,hy,J,Y,U,t3,a7,a9,ad,a8,X,aa,z1,z2⟩
theorem b5z{f:x8}(Y:f∈s.P.As){B st:Nat}(H:st<=l.length)(J:∀i,B<=i->i<st->EF l s.P M i/\SF l M f.By i):Dt l (prog s M).Ms B st:=by
 intro i N G I;have z:i<l.length:=(by omega);have hx:=w9 z;obtain⟨q,ks,K,Q,R,U,O,X,V⟩:=h.may.nd i _ hx;obtain⟨m,L,C,S⟩:=(J i N G).1.k27 I _ q ks hx K O;refine⟨m,L,?_⟩;by_cases c:m.Es<0
 ·have:=(C c).1;omega
 ·omega
set_option maxHeartbeats 2000000 in
theorem a4D:∀(m i A:Nat) (I:List p8) (E:List D7) (S:List Bs) (B:Nat),s.P.As.length-i=m->i<=s.P.As.length->I.length=A->E.length<=i->A+100000*m<=70000000->S.length+40000*m<=70000000->∃N L K F',aX d5 (prog s M) (i:Int) (mkr (prog s M) B E I S)=dG d5 (mkr (prog s M) F' (E++L) (I++N) K)/\GC l M s.P.To A (s.P.As.drop i) S N L K:=by
 have hG:=b0E h hn;have ai:=hG.small;have X:=hG.nodes;have ak:=h.res.fn100;intro m
 induction m with
 |zero=>intro i A I E S B hm hi hA hE hb hS;rw[MR,Yn,d9 (by show¬(i:Int)<(s.P.As.length:Int);omega),f9,R3 (by omega)];exact⟨[],[],S,B,by rw[T4,T4],.nil _ _⟩
 |succ m ih=>
  intro i A I E S B hm hi hA hE hb hS;have z:i<s.P.As.length:=(by omega);have af:f7 (prog s M).As (i:Int)=some s.P.As[i]:=p9 z;obtain⟨k,st,Q,Z,x,y,ks,a1,a2,a3,a4,a5,a6,a7,a8,b1,b2,b3,b4,b5,b6,b7,b8,b9,aj,d1,d2,d3⟩:=dM h hn (B0 z);have ah:=a5.le;have J:Q+1<ks.length:=(by omega);have ad:ks[Q+1]=Z:=by rw[List.getLast?_eq_getElem?,a6,show Q+2-1=Q+1 from rfl,w9 J]at a7;injection a7
  have ew:w64 (((l9 ks).length:Int)-1)=((Q+1:Nat):Int):=(by rw[C3,wrap64 (by omega) (by omega)];omega);have ag:=Zf (by omega) (mkr (prog s M) A E I S) X a2 a4 b5 a5;obtain⟨c,G,aa,r1,r2,r3⟩:=(a2Y hG (st-Z)).2 Z y st rfl b1 b3 b4 b5 b2 (b5z h hn (B0 z) b5 d2) A E I S 0 (by omega) (by omega) (by omega);obtain⟨z1,z2,_⟩:=r3.len _ _ r2;have Y:=Ro (P:=prog s M) (F:=A) (Fs:=E) X (I++c) G c.length (by rw[t8];omega) (by rw[t8];omega) 26 0 a2;have H:w64 (((I++c++[(⟨26,0,x.Ls⟩:p8)]).length:Int)-(A:Int))=(c.length:Int)+1:=by simp only[t8,C2];rw[wrap64 (by omega) (by omega)];omega
  have hz:E.length+ [(D7.mk (A:Int) ((c.length:Int)+1) s.P.As[i].Ps s.P.As[i].Ss (if s.P.As[i].By=0 then 0 else 1))].length<=100000000:=(by rw[C2];omega);obtain⟨N,L,K,F',k1,k2⟩:=ih (i+1) (A+c.length+1) (I++c++[⟨26,0,x.Ls⟩]) (E++[⟨A,(c.length:Int)+1,s.P.As[i].Ps,s.P.As[i].Ss,if s.P.As[i].By=0 then 0 else 1⟩]) G A (by omega) (by omega) (by simp only[t8,C2];omega) (by rw[t8,C2];omega) (by omega) (by omega);have O:=GC.cons A k st Z s.P.As[i] (s.P.As.drop (i+1)) S G K x ks aa c N L a1 a2 a4 a5 a7 ⟨y,st,b1,b3,r2⟩ r3 k2;rw[<-P0 z]at O;refine⟨_,_,K,F',?_,O⟩;have C:∀r:Int,r=(if s.P.As[i].By=0 then 0 else 1)->nS d5 (prog s M) (i:Int) (((c.length:Int),()),(mkr (prog s M) A E (I++c++[⟨26,0,x.Ls⟩]) G,())) (((c.length:Int)+1,()),()) s.P.As[i] r=dG d5 (mkr (prog s M) F' (E++(⟨A,(c.length:Int)+1,s.P.As[i].Ps,s.P.As[i].Ss,if s.P.As[i].By=0 then 0 else 1⟩::L)) (I++(c++(⟨26,0,x.Ls⟩::N))) K):=by intro r hr;subst hr;rw[b1N,oZ];simp only;have ab:(mkr (prog s M) A E (I++c++[⟨26,0,x.Ls⟩]) G).c_.As=E:=rfl;have ae:(mkr (prog s M) A E (I++c++[⟨26,0,x.Ls⟩]) G).from_=(A:Int):=rfl;rw[ab,ae,N5 (by decide) hz,d6,a3N,kV];simp only;rw[B7 (by omega)];have V:=k1;unfold mkr at V;unfold mkr;simp only;rw[V];simp
  have ac:(y6.mk (mkr (prog s M) B E I S).p_ (mkr (prog s M) B E I S).c_ ((mkr (prog s M) B E I S).c_.On.length:Int) (mkr (prog s M) B E I S).texts_)=mkr (prog s M) A E I S:=by unfold mkr;simp only[hA]
  rw[MR,Yn,f6 (by show(i:Int)<(s.P.As.length:Int);omega),l6,af,d6,ac,a1,ag];simp only[d6];rw[ew,E3 J,d6,F9,F6 J,d6,ad,r1];simp only[d6];rw[Y];simp only[d6];rw[YA,Ti];have R:(mkr (prog s M) A E (I++c++[⟨26,0,x.Ls⟩]) G).c_.On=I++c++[⟨26,0,x.Ls⟩]:=rfl;have U:(mkr (prog s M) A E (I++c++[⟨26,0,x.Ls⟩]) G).from_=(A:Int):=rfl;rw[R,U,H];simp only[d6];by_cases cr:s.P.As[i].By=0
  ·rw[f6 cr,B8,f9];exact C 0 (by rw[if_pos cr])
  ·rw[d9 cr,F4,l6];exact C 1 (by rw[if_neg cr])
theorem b2C:∃I E S,kB d5 (prog s M)=some (((⟨I,E,S⟩:s8),()),())/\GC l M s.P.To 0 s.P.As [] I E S:=by have C:=h.res.fn100;obtain⟨I,E,S,G,B,z⟩:=a4D h hn _ 0 0 [] [] [] 0 rfl (D2 _) rfl (l5 _) (by omega) (by simp;omega);rw[W3]at z;refine⟨I,E,S,?_,z⟩;rw[a18,oO,show aX d5 (prog s M) 0 (y6.mk (prog s M) (s8.mk ([]:List p8) ([]:List D7) ([]:List Bs)) 0 ([]:List (Bs × Int)))=_ from B,a5W,jL];rfl
end
end
section
def JB(r:List p8):Prop:=∀x∈r,11<=x.Op->x.Op<=14-> -200000<=x.A/\x.A<=200000
theorem JB.one{op A B:Int}(h:(op<11\/14<op)\/(-200000<=A/\A<=200000)):JB [(⟨op,A,B⟩:p8)]:=by intro x hx;rw[K4]at hx;subst hx;intro C z;simp only at C z⊢;omega
theorem JB.nil:JB []:=λx hx=>nomatch hx
def JI(o n:Nat)(c:List p8):Prop:=∀x∈c,11<=x.Op->x.Op<=14->(o:Int)<=x.A/\x.A<=n
theorem JI.mono{o n B z:Nat}{c:List p8}(h:JI o n c)(G:B<=o)(C:n<=z):JI B z c:=λx hx a b=>by have:=h x hx a b;omega
theorem JI.app{o n:Nat}{a c:List p8}(h:JI o n a)(z:JI o n c):JI o n (a++c):=λx hx=>(A3.1 hx).elim (h x) (z x)
theorem JI.cons{o n:Nat}{y:p8}{c:List p8}(h:(y.Op<11\/14<y.Op)\/((o:Int)<=y.A/\y.A<=n))(z:JI o n c):JI o n (y::c):=λx hx=>(D0.1 hx).elim (λe=>by subst e;omega) (z x)
theorem JI.nil{o n:Nat}:JI o n []:=λx hx=>nomatch hx
end
section
theorem GX.split{l:List d7}{M:List l8}{T:List v7}{ks:List Nat}{G:List Bs}:∀{B:List Nat} {o:Nat} {S:List Bs} {c:List p8},GX l M T o (B++ks) S c G->∃a d z,c=a++d/\GX l M T o B S a z/\GX l M T (o+a.length) ks z d G:=by
 intro B
 induction B with
 |nil=>intro o S c h;exact⟨[],c,S,rfl,.nil _ _,h⟩
 |cons b B ih=>
  intro o S c h;rw[List.cons_append]at h;cases h with
  |log _ _ st k0 k1 _ x _ T1 T2 _ a c' d hx hk hn hs hks h0 h1 h2=>
   obtain⟨u,v,z,rfl,w1,C⟩:=ih h2;refine⟨_,v,z,?_,.log o b st k0 k1 B x S T1 T2 z a c' u hx hk hn hs hks h0 h1 w1,?_⟩
   ·simp
   ·have e:o+(a++((⟨x.Ns-1,((o+a.length+1+c'.length:Nat):Int),x.Ls⟩:p8)::(c'++u))).length=o+a.length+1+c'.length+u.length:=(by simp;omega);rw[e];exact C
  |oth _ _ st ks' es _ x m _ T1 T2 _ op arg a d hx hk hn hs hks hes hm h0 hl h2=>
   obtain⟨u,v,z,rfl,w1,C⟩:=ih h2;refine⟨_,v,z,?_,.oth o b st ks' es B x m S T1 T2 z op arg a u hx hk hn hs hks hes hm h0 hl w1,?_⟩
   ·simp
   ·have e:o+(a++((⟨op,arg,x.Ls⟩:p8)::u)).length=o+a.length+1+u.length:=(by simp;omega);rw[e];exact C
section
variable{l:List d7}{P:w8}(hG:GEn l P)
include hG
end
end
section
theorem a5u(c:s8)(J:c.On.length<=1000000000)(I:c.As.length<=1000000000)(K:c.Us.length<=1000000000):FV d5 c c=some ((true,()),()):=by
 have C:∀(m i:Nat),c.Us.length-i=m->i<=c.Us.length->rO d5 c (i:Int) c=some ((true,()),()):=by
  intro m
  induction m with
  |zero=>intro i B hi;rw[KX,bD,d9 (by omega),f9,b3O,tO]
  |succ m ih=>intro i B hi;have z:i<c.Us.length:=(by omega);rw[KX,bD,f6 (by omega),l6,p9 z,d6,d6,f6 rfl,B8,f9,B7 (by omega),ih (i+1) (by omega) (by omega)]
 have H:∀(m i:Nat),c.As.length-i=m->i<=c.As.length->vW d5 c (i:Int) c=some ((true,()),()):=by
  intro m
  induction m with
  |zero=>intro i B hi;rw[ME,Yx,d9 (by omega),f9,a33,sH];exact C _ 0 rfl (D2 _)
  |succ m ih=>intro i B hi;have z:i<c.As.length:=(by omega);rw[ME,Yx,f6 (by omega),l6,p9 z,d6,d6,f6 rfl,f6 rfl,f6 rfl,f6 rfl,f6 rfl];simp only[Bool.and_self,B8,f9];rw[B7 (by omega),ih (i+1) (by omega) (by omega)]
 have G:∀(m i:Nat),c.On.length-i=m->i<=c.On.length->kD d5 c (i:Int) c=some ((true,()),()):=by
  intro m
  induction m with
  |zero=>intro i B hi;rw[MO,Zy,d9 (by omega),f9,b0q,sV];exact H _ 0 rfl (D2 _)
  |succ m ih=>intro i B hi;have z:i<c.On.length:=(by omega);rw[MO,Zy,f6 (by omega),l6,p9 z,d6,d6,f6 rfl,f6 rfl,f6 rfl];simp only[Bool.and_self,B8,f9];rw[B7 (by omega),ih (i+1) (by omega) (by omega)]
 rw[b2z,fZ,f6 rfl,f6 rfl,f6 rfl,B8,f9,f9,f9];exact G _ 0 rfl (D2 _)
section
variable{l:List d7}{s:d8}{nr:Nat}{M:List l8}{n:Nat}(h:Ni n l s nr M)(hn:n<=2900)
include h hn
end
end
end
end Go.Proofs.YtihbbcealnnpiaaGreatDoor

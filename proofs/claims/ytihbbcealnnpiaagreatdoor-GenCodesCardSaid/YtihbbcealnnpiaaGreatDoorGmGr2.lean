/- Parts of the proof. -/
import Derived.Test.YtihbbcealnnpiaaGreatDoorGmGr1
set_option linter.unusedVariables false
set_option linter.unusedSectionVars false
namespace Go.Proofs.YtihbbcealnnpiaaGreatDoor
section
section
variable{l:List d7}{P:l7}(hP:P.No=l)
include hP
theorem Q7(S:List Bs)(op A:Int){b:Nat}{x:d7}(hx:l[b]? =some x):G3 d5 ⟨P,S⟩ op A (b:Int)=some (([⟨op,A,x.Ls⟩],()),()):=by rw[a3Q,jU];simp only[hP];rw[gI hx,d6]
omit hP in
theorem a14(S:List Bs)(hS:S.length≤95000000)(a:Int)(r:List i5)(x:d7):∀(m i:Nat) (n:Int),S.length-i=m→i≤S.length→Io d5 a n ((r,⟨P,S⟩,()),()) (i:Int) x=vL d5 a (lst x.Ds (S.drop i) i n) ((r,⟨P,S⟩,()),()) x:=by
 intro m
 induction m with
 |zero=>intro i n hm hi;rw[SL,Sb];simp only;rw[d9 (by omega),f6,N1 (by omega)];rfl
 |succ m ih=>
  intro i n hm hi;have hil:i<S.length:=(by omega);have ei:((i+1:Nat):Int)=(i:Int)+1:=(by omega);rw[SL,Sb];simp only;rw[f7 (by omega),f9,l5 hil,d6,z8 (by omega),ih (i+1) _ (by omega) (by omega),ih (i+1) _ (by omega) (by omega),L4 hil,lst,ei];by_cases e:S[i]=x.Ds
  ·rw[f7 e,f9,if_pos e]
  ·rw[d9 e,f6,if_neg e]
theorem a5G(S:List Bs)(hS:S.length≤95000000)(hN:S.Nodup){b:Nat}{x:d7}(hx:l[b]? =some x)(r:List i5):Io d5 (b:Int) (-1) ((r,⟨P,S⟩,()),()) 0 x=Q9 d5 ((r,⟨P,S⟩,()),()) (Y3 S x.Ds).2 [⟨5,(Y3 S x.Ds).1,x.Ls⟩]:=by
 rw[show Io d5 (b:Int) (-1) ((r,⟨P,S⟩,()),()) 0 x=_ from a14 S hS b r x _ 0 (-1) rfl (D0 _),R2,a38 _ _ hN,a4c,eD];unfold Y3;generalize S.findIdx? (fun s=>decide (x.Ds=s))=q;cases q with
 |some j=>simp only;rw[d9 (by omega),f6,II,Wh,show((0:Nat):Int)+(j:Int)=(j:Int) by omega];simp only;rw[Q7 hP _ _ _ hx,d6]
 |none=>simp only;rw[f7 (by omega),f9,G9 (by decide) (by simp;omega),d6,G9 (by decide) (by simp;omega),d6,II,Wh];simp only;rw[Q7 hP _ _ _ hx,d6,O0]
set_option maxHeartbeats 2000000 in
theorem a7C(S0 S:List Bs)(hS:S.length≤95000000)(hN:S.Nodup){b:Nat}{x:d7}(hx:l[b]? =some x){m:i8}(hm:P.Ms[b]? =some m)(hr:x.Ks=27→ -1000000≤m.Do)(hT:x.Ks=32→0≤m.Ts∧m.Ts<P.To.length)(hk:21≤x.Ks∧x.Ks≤32)(r:List i5)(es:List Int)(hall:Ot d5 ⟨P,S0⟩ es=some ((r,⟨P,S⟩,()),())):Wt d5 (b:Int) es ⟨P,S0⟩ x=Q9 d5 ((r,⟨P,S⟩,()),()) (R1 P.To x m S).2.2 [⟨(R1 P.To x m S).1,(R1 P.To x m S).2.1,x.Ls⟩]:=by
 have o:=fun(op A:Int)=>Q7 hP S op A hx;rw[a18,bS,hall,d6];simp only;rw[gI hm,d6];unfold R1;by_cases c:x.Ks=21
 ·rw[f7 c,if_pos c,f9,o,d6]
 rw[d9 c,if_neg c,f6];by_cases c:x.Ks=22
 ·rw[f7 c,if_pos c,f9,o,d6]
 rw[d9 c,if_neg c,f6];by_cases c:x.Ks=23
 ·rw[f7 c,if_pos c,f9,a5G hP S hS hN hx]
 rw[d9 c,if_neg c,f6];by_cases c:x.Ks=24
 ·rw[f7 c,if_pos c,f9,o,d6]
 rw[d9 c,if_neg c,f6];by_cases c25:x.Ks=25
 ·rw[f7 c25,f9,o,d6,if_neg (show¬x.Ks=26 by omega),if_neg (show¬x.Ks=27 by omega),if_neg (show¬x.Ks=28 by omega),if_neg (show¬x.Ks=29 by omega),if_neg (show¬x.Ks=30 by omega),if_neg (show¬x.Ks=31 by omega),if_neg (show¬x.Ks=32 by omega)]
 rw[d9 c25,f6];by_cases c:x.Ks=26
 ·rw[f7 c,if_pos c,f9,o,d6]
 rw[d9 c,if_neg c,f6];by_cases c:x.Ks=27
 ·rw[f7 c,if_pos c,f9,o,d6];by_cases c0:m.Do<0
  ·have hr:=hr c;have e:w64 (0-m.Do)= -m.Do:=(by rw[Int.zero_sub];exact wrap64 (by omega) (by omega));rw[f7 c0,if_pos c0,e,f9,o,d6]
  ·rw[d9 c0,if_neg c0,f6]
 rw[d9 c,if_neg c,f6];by_cases c:x.Ks=28
 ·rw[f7 c,if_pos c,f9,o,d6]
 rw[d9 c,if_neg c,f6];by_cases c:x.Ks=29
 ·rw[f7 c,if_pos c,f9,o,d6]
 rw[d9 c,if_neg c,f6];by_cases c:x.Ks=30
 ·rw[f7 c,if_pos c,f9,o,d6]
 rw[d9 c,if_neg c,f6];by_cases c:x.Ks=31
 ·rw[f7 c,if_pos c,f9,o,d6]
 rw[d9 c,if_neg c,f6];by_cases c:x.Ks=32
 ·obtain⟨h0,h1⟩:=hT c;have hl:m.Ts.toNat<P.To.length:=(by omega);have g:f5 P.To m.Ts=some P.To[m.Ts.toNat]:=Km h0 h1;rw[f7 c,if_pos c,f9,d6,g,d6,o,d6];unfold Jn;rw[p9 hl];simp only;by_cases c6:P.To[m.Ts.toNat].Ks=6
  ·rw[f7 c6,if_pos c6,f9,o,d6]
  ·rw[d9 c6,if_neg c6,f6]
 omega
end
theorem yY{α:Type}{K:List α}{i:Nat}{x:α}{r:List α}(h:K.drop i=x::r):i<K.length∧f5 K (i:Int)=some x∧K.drop (i+1)=r:=by
 have hi:i<K.length:=by
  rcases Nat.lt_or_ge i K.length with h'|h'
  ·exact h'
  ·rw[N1 h']at h;exact nomatch h
 rw[L4 hi]at h;injection h with h1 h2
 exact⟨hi,by rw[l5 hi,h1],h2⟩
theorem a2k{P:l7}{S S2:List Bs}{r c:List i5}(h:r.length+c.length≤1000000)(hJ:JB c):Q9 d5 ((r,⟨P,S⟩,()),()) S2 c=some ((r++shf r.length c,⟨P,S2⟩,()),()):=by rw[ZF,jE];simp only;rw[Il h hJ,d6]
theorem SM{P:l7}{S S1 S2:List Bs}{b o:Nat}{ks:List Nat}{u d:List i5}(he:V5 d5 ⟨P,S⟩ (b:Int)=some ((shf (-o) u,⟨P,S1⟩,()),()))(hJ:JB (shf (-o) u)){N:Nat}(hN:N≤500000)(hu:u.length≤N)(hr:∀(K:List Int) (i:Nat) (out:List i5),K.length≤1000000→K.drop i=i7 ks→out.length+(N-u.length)≤500000→Ha d5 K (i:Int) ⟨P,S1⟩ out=Yb d5 ⟨P,S2⟩ (out++shf ((out.length:Int)-((o+u.length:Nat):Int)) d)):∀(K:List Int) (i:Nat) (out:List i5),K.length≤1000000→K.drop i=i7 (b::ks)→out.length+N≤500000→Ha d5 K (i:Int) ⟨P,S⟩ out=Yb d5 ⟨P,S2⟩ (out++shf ((out.length:Int)-o) (u++d)):=by intro K i out hK hd ho;obtain⟨h1,h2,h3⟩:=yY (show K.drop i=(b:Int)::i7 ks from hd);rw[RG,Vm,f7 (by omega),f9,h2,d6,he,d6];simp only;rw[Il (by rw[J4];omega) hJ,d6];simp only;rw[z8 (by omega),hr K (i+1) _ hK h3 (by rw[o0,J4,J4];omega),qC,Po];have e1: -(o:Int)+out.length=out.length-o:=(by omega);have e2:((out++shf ((out.length:Int)-o) u).length:Int)-((o+u.length:Nat):Int)=out.length-o:=(by rw[o0,J4];omega);rw[e1,e2,G7]
section
variable{l:List d7}{P:l7}(hG:GEn l P)
include hG
set_option maxHeartbeats 2000000 in
theorem Du{o:Nat}{ks:List Nat}{S S':List Bs}{c:List i5}(h:GX l P.Ms P.To o ks S c S'):∀lo hi,Kc l lo hi ks→hi≤l.length→V6 l P.Ms lo hi→S.Nodup→S.length+(hi-lo)≤90000000→o+(hi-lo)≤200000→(∀(K:List Int) (i:Nat) (out:List i5),K.length≤1000000→K.drop i=i7 ks→out.length+(hi-lo)≤500000→Ha d5 K (i:Int) ⟨P,S⟩ out=Yb d5 ⟨P,S'⟩ (out++shf ((out.length:Int)-o) c))∧(∀k,ks=[k]→V5 d5 ⟨P,S⟩ (k:Int)=some ((shf (-o) c,⟨P,S'⟩,()),())):=by
 have hsm:=hG.small;have hP:=hG.nodes
 induction h with
 |nil o S=>intro lo hi hK hhi hR hN hS ho;refine⟨fun K i out hKl hd hout=>?_,fun k e=>nomatch e⟩;have hi:K.length≤i:=List.drop_eq_nil_iff.1 hd;rw[RG,Vm,d9 (by omega),f6,Fy,J6]
 |log o b st k0 k1 ks x S S1 S2 S3 a c d hx hk hn hs hks h0 h1 h2 i0 i1 i2=>
  intro lo hi hK hhi hR hN hS ho;obtain⟨rfl,y,q,hy,hys,hq1,hq2,hrest⟩:=hK.first
  rw[hx]at hy;cases hy;have:q=st:=(by omega);subst this;obtain⟨st',ks',t1,t2,t3,t4,t5,t6,t7⟩:=hG.may.nd b x hx;have hks2:=hks;obtain⟨q0,rfl,hq01,K0,hr0⟩:=hks.hd;obtain⟨q1,rfl,hq11,K1,hr1⟩:=hr0.hd;have e1:q1=q:=(by cases hr1;rfl);subst e1;obtain⟨p1,p2,p3⟩:=h0.len _ _ K0;obtain⟨r1,r2,r3⟩:=h1.len _ _ K1;obtain⟨w1,w2,w3⟩:=h2.len _ _ hrest;have n1:=h0.nodup hN;have n2:=h1.nodup n1;have E0:=(i0 _ _ K0 (by omega) (hR.sub (by omega) (by omega)) hN (by omega) (by omega)).2 (b+1) rfl;have E1:=(i1 _ _ K1 (by omega) (hR.sub (by omega) (by omega)) n1 (by omega) (by omega)).2 k1 rfl;have num:=t7.n31 hk;have g0:f5 (i7 [b+1,k1]) (0:Int)=some ((b+1:Nat):Int):=A5 (i:=0) (ks:=[b+1,k1]) (by simp);have ga0:(i7 [b+1,k1])[Int.toNat 0]? =some ((b+1:Nat):Int):=B4 (i:=0) (ks:=[b+1,k1]) (by simp);have g1:f5 (i7 [b+1,k1]) (1:Int)=some ((k1:Nat):Int):=A5 (i:=1) (ks:=[b+1,k1]) (by simp);have ga1:(i7 [b+1,k1])[Int.toNat 1]? =some ((k1:Nat):Int):=B4 (i:=1) (ks:=[b+1,k1]) (by simp);have hkid:J7 d5 l (b:Int)=some ((i7 [b+1,k1],()),()):=N5 (by omega) hx hs (by omega) hks2;have hu:(a++((⟨x.Ns-1,((o+a.length+1+c.length:Nat):Int),x.Ls⟩:i5)::(c++d)))=(a++((⟨x.Ns-1,((o+a.length+1+c.length:Nat):Int),x.Ls⟩:i5)::c))++d:=(by simp);have hul:(a++((⟨x.Ns-1,((o+a.length+1+c.length:Nat):Int),x.Ls⟩:i5)::c)).length=a.length+1+c.length:=(by simp;omega);have hji:JI o (o+a.length+1+c.length) (a++((⟨x.Ns-1,((o+a.length+1+c.length:Nat):Int),x.Ls⟩:i5)::c)):=(h0.ji.mono (by omega) (by omega)).app (.cons (.inr (by simp only;omega)) (h1.ji.mono (by omega) (by omega)));have hE:V5 d5 ⟨P,S⟩ (b:Int)=some ((shf (-o) (a++((⟨x.Ns-1,((o+a.length+1+c.length:Nat):Int),x.Ls⟩:i5)::c)),⟨P,S2⟩,()),()):=by rw[VS,Sr];simp only[hP];rw[gI hx,d6,hkid,d6];simp only;rw[f7 hk,f9,f7 (show x.Ns≥14 from hn),f9,g0,d6,ga0,d6,E0,d6,g1,d6,ga1,d6];simp only;rw[E1,d6];simp only;rw[wrap64 (n:=x.Ns-1) (by omega) (by omega),a8S (by omega) (by omega),J4,wrap64 (n:=1+(c.length:Int)) (by omega) (by omega),Q7 hP _ _ _ hx,d6];simp only;rw[Il (by rw[J4,y7];omega) (.one (.inr (by omega))),d6];simp only;rw[Il (by rw[o0,J4,J4,J4,y7];omega) (h1.ji.jb (by omega) (by omega)),d6];simp only[J4,o0,y7,qC,Po,He,Fy];rw[oZ (by omega),oZ (by omega)];have e1:(1:Int)+c.length+a.length=((o+a.length+1+c.length:Nat):Int)+ -o:=(by omega);have e2: -((o+a.length+1:Nat):Int)+((a.length+1:Nat):Int)= -o:=(by omega);rw[e1,e2,G7];rfl
  rw[hu];refine⟨SM hE (hji.jb (by omega) (by omega)) (N:=hi-b) (by omega) (by omega) (fun K i out k1 k2 k3=>?_),fun k e=>?_⟩
  ·rw[hul];have:=(i2 _ _ hrest hhi (hR.sub (by omega) (i4 _)) n2 (by omega) (by omega)).1 K i out k1 k2 (by omega);rw[this,show o+a.length+1+c.length=o+(a.length+1+c.length) by omega]
  ·injection e with e1 e2
   subst e1 e2;cases h2;rw[J6];exact hE
 |oth o b st ks' es ks x m S S1 S2 S3 op arg a d hx hk hn hs hks hes hm h0 hl h2 i0 i2=>
  intro lo hi hK hhi hR hN hS ho;obtain⟨rfl,y,q,hy,hys,hq1,hq2,hrest⟩:=hK.first
  rw[hx]at hy;cases hy;have:q=st:=(by omega);subst this;obtain⟨st',ks1,t1,t2,t3,t4,t5,t6,t7⟩:=hG.may.nd b x hx;have est:st'=q:=(by omega);subst est;have:=t5.det hks;subst this;have hE:∃lo',b+1≤lo'∧Kc l lo' st' es:=by obtain⟨lo',a1,a2,_⟩:=vF t5 t6 hk;rw[hes];exact⟨lo',a1,a2⟩
  obtain⟨lo',hlo,hE⟩:=hE;have hle:=hE.le;have hksl:=hks.le;obtain⟨p1,p2,p3⟩:=h0.len _ _ hE;obtain⟨w1,w2,w3⟩:=h2.len _ _ hrest;obtain⟨z1,z2⟩:=KF hl;have n1:=h0.nodup hN;have n2:=LX hl n1;have hmt:=hG.ty m (O6 hm);have hall:Ot d5 ⟨P,S⟩ (i7 es)=some ((shf (-o) a,⟨P,S1⟩,()),()):=by have hL:=(i0 _ _ hE (by omega) (hR.sub (by omega) (by omega)) hN (by omega) (by omega)).1 (i7 es) 0 [] (by rw[A1];omega) rfl (by simp;omega);rw[JH,Xu,show Ha d5 (i7 es) 0 ⟨P,S⟩ []=_ from hL,XM,Yv,O0,I6,show((0:Nat):Int)-(o:Int)= -o by omega]
  have hlast:=a7C hP S S1 (by omega) n1 hx hm (fun c27=>by
   obtain⟨m',m1,m2⟩:=hR b (i4 _) (by omega) (by rw[s9 hx];exact c27);rw[hm]at m1;cases m1;exact m2) (fun _=>hmt) hk _ _ hall
  rw[hl]at hlast;simp only at hlast;have hop:=SD hl;have hkid:J7 d5 l (b:Int)=some ((i7 ks1,()),()):=N5 (by omega) hx hs (by omega) hks;have hu:(a++((⟨op,arg,x.Ls⟩:i5)::d))=(a++[(⟨op,arg,x.Ls⟩:i5)])++d:=(by simp);have hul:(a++[(⟨op,arg,x.Ls⟩:i5)]).length=a.length+1:=(by simp);have hji:JI o (o+a.length+1) (a++[(⟨op,arg,x.Ls⟩:i5)]):=(h0.ji.mono (by omega) (by omega)).app (.cons (.inl hop) .nil);have hj3:nK d5 (b:Int) ⟨P,S⟩ x ((i7 ks1,()),())=some ((shf (-o) (a++[(⟨op,arg,x.Ls⟩:i5)]),⟨P,S2⟩,()),()):=by
   have fin:Wt d5 (b:Int) (i7 es) ⟨P,S⟩ x=some ((shf (-o) (a++[(⟨op,arg,x.Ls⟩:i5)]),⟨P,S2⟩,()),()):=by rw[hlast,a2k (by rw[J4,y7];omega) (.one (.inl hop)),Po,He,He,Qi hop,Qi hop];rfl
   rw[ZZ,tQ];simp only;by_cases c32:x.Ks=32
   ·have hkn:1≤ks1.length:=by
     rcases t6.k32 c32 with h|h
     ·have:=(G6 h.1).1;simp at this;omega
     ·have:=(G6 h.1).1;simp at this;omega
    rw[if_pos c32]at hes;subst hes;rw[f7 c32,f9,U4 (show D2 (1:Int) ((i7 ks1).length:Int) ((i7 ks1).length:Int)from⟨by omega,by rw[A1];omega,O7 _⟩),d6,IG];exact fin
   ·rw[if_neg c32]at hes;subst hes;rw[d9 c32,f6];exact fin
  have hE:V5 d5 ⟨P,S⟩ (b:Int)=some ((shf (-o) (a++[(⟨op,arg,x.Ls⟩:i5)]),⟨P,S2⟩,()),()):=by
   rw[VS,Sr];simp only[hP];rw[gI hx,d6,hkid,d6];simp only;rw[hj3];by_cases c31:x.Ks=31
   ·have:=hn c31;rw[f7 c31,f9,d9 (show¬x.Ns≥14 by omega),f6]
   ·rw[d9 c31,f6]
  rw[hu];refine⟨SM hE (hji.jb (by omega) (by omega)) (N:=hi-b) (by omega) (by omega) (fun K i out k1 k2 k3=>?_),fun k e=>?_⟩
  ·rw[hul];have:=(i2 _ _ hrest hhi (hR.sub (by omega) (i4 _)) n2 (by omega) (by omega)).1 K i out k1 k2 (by omega);rw[this,show o+a.length+1=o+(a.length+1) by omega]
  ·injection e with e1 e2
   subst e1 e2;cases h2;rw[J6];exact hE
end
end
end Go.Proofs.YtihbbcealnnpiaaGreatDoor

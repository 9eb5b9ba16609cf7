/- Parts of the proof. -/
import Derived.Test.YtabmahknlebhpaaGreatVmRs3
set_option linter.unusedVariables false
namespace Go.Proofs.YtabmahknlebhpaaGreat
section
section
variable{E:List o0}{R:Int}{X X':Int→Nat→Prop}
theorem Seg.dead(o:Nat)(c:List i9):Seg E R X o c (fun _=>none):=fun i x d _ h=>nomatch h
theorem Ty.skip{o d:Nat}{c:List i9}(h:Ty E R X o c d none)(c':List i9):Ty E R X o (c++c') d none:=by obtain⟨W1,a1,a2,a3⟩:=h;obtain⟨W,w1,w2,w3,w4⟩:=a1.cat (Seg.dead (o+c.length) c') (fun d h=>by rw[a3]at h;cases h);refine⟨W,w1,w4 _ a2,?_⟩;rw[o5,show o+(c.length+c'.length)=o+c.length+c'.length by omega,w3 _ (by omega)]
theorem Ty.fork{o:Nat}{pre V e:List i9}{out:Option Nat}(h1:Ty E R X' o pre 0 (some 0))(h2:Ty E R X' (o+pre.length) V 0 none)(h3:Ty E R X' (o+pre.length+V.length) e 0 out)(hX:∀j dd,X' j dd→X j dd∨j=((o+pre.length+V.length:Nat):Int)∧dd=0∨out=some dd∧j=((o+pre.length+V.length+e.length:Nat):Int)):Ty E R X o (pre++V++e) 0 out:=by
 obtain⟨W3,c1,c2,c3⟩:=h3;obtain⟨W12,b1,b2,b3⟩:=(show Ty E R X' o (pre++V) 0 none from Ty.cat h1 h2);have el:o+(pre++V).length=o+pre.length+V.length:=(by rw[o5];omega);rw[el]at b3;obtain⟨W,w1,w2,w3,w4⟩:=b1.cat (W2:=W3) (c':=e) (by rw[el];exact c1) (fun d h=>by rw[el,b3]at h;cases h);rw[el]at w2 w3;refine⟨W,w1.close (fun j dd hj=>?_),w4 _ b2,?_⟩
 ·rcases hX j dd hj with h|⟨ha,hb⟩|⟨ha,hb⟩
  ·exact .inl h
  ·refine .inr ⟨_,ha,by omega,by simp only[o5];omega,?_⟩;rw[w3 _ (i8 _),c2,hb]
  ·refine .inr ⟨_,hb,by omega,by simp only[o5];omega,?_⟩;rw[w3 _ (by omega),c3,ha]
 ·rw[show o+(pre++V++e).length=o+pre.length+V.length+e.length by simp only[o5];omega,w3 _ (by omega),c3]
end
section
variable{l:List d7}{P:s9}{M:List l4}{T:List r9}{E:List o0}{R Rr:Int}
def SG(l:List d7)(P:s9)(M:List l4)(T:List r9)(Rr:Int)(i:Nat):Prop:=ExF l P M T i∧SF l M Rr i
theorem En.kind{b:Nat}{x:d7}(h:En l b)(hx:l[b]? =some x):x.Ks=11∨x.Ks=9:=by
 cases h with
 |ret _ x' hx' hk=>rw[hx]at hx';cases hx';exact .inl hk
 |both _ st k0 k1 k2 x' hx' hk=>rw[hx]at hx';cases hx';exact .inr hk
theorem LEn.tail{b k:Nat}{ks:List Nat}(h:LEn l (b::k::ks)):LEn l (k::ks):=by obtain⟨y,h1,h2⟩:=h;exact⟨y,by rw[List.getLast?_cons_cons]at h1;exact h1,h2⟩
theorem tN{X:Int→Nat→Prop}{o b:Nat}{ks:List Nat}{S S':List Bs}{u d:List i9}(hA:Ty E R X o u 0 (some 0))(hB:En l b→Ty E R X o u 0 none)(h:GS l M T (o+u.length) ks S d S')(ih:Ty E R X (o+u.length) d 0 (some 0)∧(LEn l ks→Ty E R X (o+u.length) d 0 none)):Ty E R X o (u++d) 0 (some 0)∧(LEn l (b::ks)→Ty E R X o (u++d) 0 none):=by
 refine⟨hA.cat ih.1,fun hL=>?_⟩;cases ks with
 |nil=>cases h;obtain⟨y,h1,h2⟩:=hL;simp only[List.getLast?_singleton,F8]at h1;subst h1;rw[R4];exact hB h2
 |cons k ks=>exact hA.cat (ih.2 hL.tail)
theorem Dp(E:List o0)(op a ln:Int)(h:op≠19∧op≠20):H3 E ⟨op,a,ln⟩=(Ot.getD op.toNat 0,Pn.getD op.toNat 0):=IG E h
theorem Q5.of(op a ln:Int)(t p d:Nat)(he:H3 E ⟨op,a,ln⟩=(t,p))(ht:t≤d)(h1:op=1→d=0)(h25:op≠25)(h26:op≠26):Q5 E R ⟨op,a,ln⟩ d:=⟨by rw[he];exact ht,h1,fun h=>absurd h h25,fun h=>absurd h h26⟩
theorem mI{X:Int→Nat→Prop}(o:Nat)(a ln:Int):Ty E R X o [(⟨1,a,ln⟩:i9)] 0 (some 0):=
 Ty.step (Q5.of 1 a ln 0 0 0 (Dp E 1 a ln (by decide)) (i8 _) (fun _=>rfl) (by decide) (by decide)) ⟨show¬(1:Int)=11 by decide,show¬(1:Int)=12 by decide,show¬(1:Int)=13 by decide,show¬(1:Int)=14 by decide⟩ 0 (by rw[Dp E 1 a ln (by decide)];rfl)
theorem rJ{X:Int→Nat→Prop}(o:Nat)(x:i9)(n:Nat)(hx:x.Op=8∧n=1∨x.Op=16∧n=3∨x.Op=18∧n=2∨x.Op=23∧n=1∨x.Op=24∧n=1):Ty E R X o [x] n (some 0):=by
 have he:H3 E x=(n,0):=by rw[IG E (by omega)];rcases hx with⟨h,rfl⟩|⟨h,rfl⟩|⟨h,rfl⟩|⟨h,rfl⟩|⟨h,rfl⟩<;>rw[h]<;>rfl
 exact Ty.step ⟨by rw[he];exact i8 _,fun h=>by omega,fun h=>by omega,fun h=>by omega⟩ ⟨by omega,by omega,by omega,by omega⟩ 0 (by rw[he];simp)
set_option maxHeartbeats 2000000 in
theorem a1X(hT:Vn l P M T E)(hR:R=if Rr=0 then 0 else 1){o:Nat}{ks:List Nat}{S S':List Bs}{c:List i9}(h:GS l M T o ks S c S'):∀(X:Int→Nat→Prop) (lo hi:Nat),Kc l lo hi ks→(∀i,lo≤i→i<hi→SG l P M T Rr i)→Ty E R X o c 0 (some 0)∧(LEn l ks→Ty E R X o c 0 none):=by
 induction h with
 |nil o S=>intro X lo hi hK hF;exact⟨Ty.nil o 0,fun⟨y,h1,_⟩=>by simp at h1⟩
 |smp o b ks es x m S S1 S2 a t d hx hm hTl h0 h2 i2=>
  intro X lo hi hK hF;obtain⟨rfl,y,q,hy,hys,hq1,hq2,hrest⟩:=hK.first
  rw[hx]at hy;cases hy;obtain⟨st',ks',t1,t2,t3,t4,t5,t6,t7⟩:=hT.may.nd b x hx;have est:st'=q:=(by omega);subst est;have hkd:=u0 hx;obtain⟨z1,lo',hi',z2,z3,z4⟩:=hTl.kc hys;have hSb:=(hF b (i8 _) (by omega)).2;have ha:=rB (R:=R) hT h0 X lo' hi' z4 (fun i i1 i2=>(hF i (by omega) (by omega)).1) 0;rw[Nat.zero_add]at ha;have hpa:Ty E R X o ([(⟨1,m.In,x.Ls⟩:i9)]++a) 0 (some (nvs l M es)):=Ty.cat (mI o m.In x.Ls) ha;have hlen:o+1+a.length=o+([(⟨1,m.In,x.Ls⟩:i9)]++a).length:=(by rw[o5,y4];omega);have key:Ty E R X o ([(⟨1,m.In,x.Ls⟩:i9)]++a++t) 0 (some 0)∧(En l b→Ty E R X o ([(⟨1,m.In,x.Ls⟩:i9)]++a++t) 0 none):=by
   cases hTl with
   |var st k0 k1 hk hs hks=>have:st=st':=(by omega);subst this;have:=t5.det hks;subst this;have s1:=D7 ((B7 (t6.k7 hk)).2 1 (by simp) (by simp));have v:=U8 (l:=l) (.inr (hSb.kid (by omega) (by omega) x st [k0,k1] hx t1 t5 k1 (by simp) s1.1));rw[Y4,Ai,v]at hpa;exact⟨hpa.cat (rJ _ _ 1 (.inl ⟨rfl,rfl⟩)),fun hE=>by have:=hE.kind hx;omega⟩
   |set st k0 k1 y m0 is hk hs hks hy hyk hm0 hi=>
    have:st=st':=(by omega);subst this;have:=t5.det hks;subst this;obtain⟨e1,e2⟩:=B7 (t6.k8 hk).1;have s0:=D7 (e2 0 (by simp) (by simp));have s1:=D7 (e2 1 (by simp) (by simp));have v:=U8 (l:=l) (.inr (hSb.kid (by omega) (by omega) x st [k0,k1] hx t1 t5 k1 (by simp) s1.1));obtain⟨q0,e0,hq0,K0,Kr⟩:=hks.hd;subst e0;obtain⟨q1,e1',h1q,_,h5q⟩:=Kr.hd;have h5le:=h5q.le;subst e1';obtain⟨st0,is',u1,u2,u3,u4,u5,u6,_⟩:=hT.may.nd (b+1) y hy;have hik:=(K0.end hy u1).2.1;subst hik;have:=u5.det hi;subst this;have hEb:=(hF (b+1) (by omega) (by omega)).1.1;have hlo:=u5;have vis:nvs l M is'=is'.length:=JM (fun k hkm=>by
     obtain⟨_,_,_,hx3⟩:=Pg u5 u6 (by omega);rw[if_neg (by omega)]at hx3;exact U8 (.inr (hEb.kid (by rw[u0 hy];omega) y st0 is' hy u1 u5 k hkm (hx3 k hkm).1)))
    have vall:nvs l M (is'++[st0])=is'.length+1:=by have:nvs l M (is'++[st0])=nvs l M is'+nvs l M [st0]:=(by unfold nvs;rw[F9,Ri]);rw[this,vis,Y4,Ai,v]
    rw[vall]at hpa;refine⟨hpa.cat (rJ _ _ _ ?_),fun hE=>by have:=hE.kind hx;omega⟩;unfold Wu;rcases hyk with h|h|h
    ·have:is'=[]:=Il (u6.kr (by omega)).1;rw[if_pos h,this];exact .inl ⟨rfl,rfl⟩
    ·have:=(B7 (u6.k28 (.inl h))).1;rw[if_neg (by omega),if_pos h,this];exact .inr (.inl ⟨rfl,rfl⟩)
    ·have:=(B7 (u6.k12 (.inr (.inl h)))).1;rw[if_neg (by omega),if_neg (by omega),this];exact .inr (.inr (.inl ⟨rfl,rfl⟩))
   |ret0 hk hs=>
    have hks:ks'=[]:=by
     have e:st'=b+1:=(by omega);subst e;cases t5 with
     |nil=>rfl
     |cons _ k j x ks hx hs hk kids rest=>have:=rest.le;omega
    subst hks;have hr:=(hSb.ret (by omega) x st' [] hx t1 t5).1 rfl;rw[Ai]at hpa;have hR0:R=0:=(by rw[hR,if_pos hr]);have hn:Ty E R X o ([(⟨1,m.In,x.Ls⟩:i9)]++a++[⟨26,0,x.Ls⟩]) 0 none:=hpa.cat (Ty.stop ⟨by rw[Dp E 26 0 x.Ls (by decide)];exact i8 _,fun h=>absurd h (show¬(26:Int)=1 by decide),fun h=>absurd h (show¬(26:Int)=25 by decide),fun _=>⟨rfl,hR0⟩⟩ (.inr (.inr rfl)) (fun h=>absurd h (show¬(26:Int)=11 by decide)));exact⟨hn.out 0,fun _=>hn⟩
   |ret1 st hk hs hks=>have:st=st':=(by omega);subst this;have:=t5.det hks;subst this;have hr:=(hSb.ret (by omega) x st [b+1] hx t1 t5).2 (by simp);have s0:=D7 (((B7 ((t6.k11 hk).resolve_left (fun h=>by have:=Il h;simp at this))).2 0 (by simp) (by simp)));have v:=U8 (l:=l) (.inr (hSb.kid (by omega) (by omega) x st [b+1] hx t1 t5 (b+1) (by simp) s0.1));rw[Y4,Ai,v]at hpa;have hR1:R=1:=(by rw[hR,if_neg hr]);have hn:Ty E R X o ([(⟨1,m.In,x.Ls⟩:i9)]++a++[⟨25,0,x.Ls⟩]) 0 none:=hpa.cat (Ty.stop ⟨by rw[Dp E 25 0 x.Ls (by decide)];exact i8 _,fun h=>absurd h (show¬(25:Int)=1 by decide),fun _=>⟨rfl,hR1⟩,fun h=>absurd h (show¬(25:Int)=26 by decide)⟩ (.inr (.inl rfl)) (fun h=>absurd h (show¬(25:Int)=11 by decide)));exact⟨hn.out 0,fun _=>hn⟩
   |print st hk hs hks=>have:st=st':=(by omega);subst this;have:=t5.det hks;subst this;have s0:=D7 ((B7 (t6.k12 (.inl hk))).2 0 (by simp) (by simp));have v:=U8 (l:=l) (.inr (hSb.kid (by omega) (by omega) x st [b+1] hx t1 t5 (b+1) (by simp) s0.1));rw[Y4,Ai,v]at hpa;exact⟨hpa.cat (rJ _ _ 1 (.inr (.inr (.inr (.inl ⟨rfl,rfl⟩))))),fun hE=>by have:=hE.kind hx;omega⟩
   |pop st m0 hk hs hks hm0 ht=>rw[Y4,Ai,U8 (.inr ⟨m0,hm0,ht⟩)]at hpa;exact⟨hpa.cat (rJ _ _ 1 (.inr (.inr (.inr (.inr ⟨rfl,rfl⟩))))),fun hE=>by have:=hE.kind hx;omega⟩
   |run st m0 hk hs hks hm0 ht=>
    have:st=st':=(by omega);subst this;have:=t5.det hks;subst this;have hf:kd l (b+1)=27:=(t6.k13 hk).2;have v:nv l M (b+1)=0:=by unfold nv tyz;rw[hm0];exact if_pos ⟨hf,f9 ht⟩
    rw[Y4,Ai,v]at hpa;rw[R4];exact⟨hpa,fun hE=>by have:=hE.kind hx;omega⟩
  have hl:o+1+a.length+t.length=o+([(⟨1,m.In,x.Ls⟩:i9)]++a++t).length:=(by simp only[o5,y4];omega);rw[hl]at h2 i2;have:=tN key.1 key.2 h2 (i2 X _ _ hrest (fun i i1 i2=>hF i (by omega) i2));simpa using this
 |if2 o b st k1 ks ks1 x m S S1 S2 S3 a c d hx hm hk hs hks hb h0 h1 h2 i1 i2=>
  intro X lo hi hK hF;obtain⟨rfl,y,q,hy,hys,hq1,hq2,hrest⟩:=hK.first
  rw[hx]at hy;cases hy;obtain⟨st',ks',t1,t2,t3,t4,t5,t6,t7⟩:=hT.may.nd b x hx;have est:st'=q:=(by omega);subst est;have:st=st':=(by omega);subst this;have:=t5.det hks;subst this;have hkd:=u0 hx;have hSb:=(hF b (i8 _) (by omega)).2;have s0:21≤kd l (b+1):=by
   rcases t6.k9 hk with h|h
   ·exact(D7 ((B7 h).2 0 (by simp) (by simp))).1
   ·exact(D7 ((B7 h).2 0 (by simp) (by simp))).1
  have v:=U8 (l:=l) (.inr (hSb.kid (by omega) (by omega) x st [b+1,k1] hx t1 t5 (b+1) (by simp) s0));obtain⟨q0,_,hq0,K0,Kr⟩:=hks.hd;obtain⟨q1,rfl,hq1',Kb,Kr2⟩:=Kr.hd;have e1:q1=st:=(by cases Kr2;rfl);subst e1;obtain⟨y1,st1,b1,b2,b3⟩:=hb;obtain⟨_,rfl,_⟩:=Kb.end b1 b2;generalize hX':(fun(j:Int) (e:Nat)=>X j e∨j=((o+a.length+2+c.length:Nat):Int)∧e=0)=X';have ha:=rB (R:=R) hT h0 X' _ _ K0 (fun i i1 i2=>(hF i (by omega) (by omega)).1) 0;rw[Y4,Ai,v]at ha;have hpa:Ty E R X' o ([(⟨1,m.In,x.Ls⟩:i9)]++a) 0 (some 1):=Ty.cat (mI o m.In x.Ls) ha;have hj:Ty E R X' (o+([(⟨1,m.In,x.Ls⟩:i9)]++a).length) [(⟨12,((o+a.length+2+c.length:Nat):Int),x.Ls⟩:i9)] 1 (some 0):=by have he:H3 E ⟨12,((o+a.length+2+c.length:Nat):Int),x.Ls⟩=(1,0):=Dp E 12 _ _ (by decide);refine Ty.jump (Q5.of 12 _ x.Ls 1 0 1 he (i8 _) (fun h=>absurd h (by decide)) (by decide) (by decide)) (show¬(12:Int)=11 by decide) 0 (by rw[he];rfl) (fun e h12 _ _=>?_);rw[←hX',h12 rfl,he];exact .inr ⟨rfl,rfl⟩
  have hc:=(i1 X' _ _ b3 (fun i i1 i2=>hF i (by omega) (by omega))).1;have hl1:o+a.length+2=o+([(⟨1,m.In,x.Ls⟩:i9)]++a++[(⟨12,((o+a.length+2+c.length:Nat):Int),x.Ls⟩:i9)]).length:=(by simp only[o5,y4];omega);have hu:=(Ty.cat (Ty.cat hpa hj) (by rw[←hl1];exact hc)).close (X:=X) (fun j e h=>by
   rw[←hX']at h;rcases h with h|⟨h1,h2⟩
   ·exact .inl h
   ·refine .inr (.inl ⟨?_,h2⟩);rw[h1];simp only[o5,y4];omega)
  have hnE:En l b→False:=fun hE=>by
   cases hE with
   |ret _ x' hx' hk'=>rw[hx]at hx';cases hx';omega
   |both _ st'' k0' k1' k2' x' hx' hk' hs' hks'=>rw[hx]at hx';cases hx';have:st''=st1:=(by omega);subst this;have:=hks.det hks';simp at this
  have hl:o+a.length+2+c.length=o+([(⟨1,m.In,x.Ls⟩:i9)]++a++[(⟨12,((o+a.length+2+c.length:Nat):Int),x.Ls⟩:i9)]++c).length:=(by simp only[o5,y4];omega);have h2':=h2;have i2':=i2 X _ _ hrest (fun i i1 i2=>hF i (by omega) i2);rw[hl]at h2' i2';have:=tN (l:=l) hu (fun hE=>(hnE hE).elim) h2' i2';simpa using this
 |if3 o b st k1 k2 ks ks1 ks2 x m S S1 S2 S3 S4 a c e d hx hm hk hs hks hb1 hb2 h0 h1 h3 h2 i1 i3 i2=>
  intro X lo hi hK hF;obtain⟨rfl,y,q,hy,hys,hq1,hq2,hrest⟩:=hK.first
  rw[hx]at hy;cases hy;obtain⟨st',ks',t1,t2,t3,t4,t5,t6,t7⟩:=hT.may.nd b x hx;have est:st'=q:=(by omega);subst est;have:st=st':=(by omega);subst this;have:=t5.det hks;subst this;have hkd:=u0 hx;have hSb:=(hF b (i8 _) (by omega)).2;have s0:21≤kd l (b+1):=by
   rcases t6.k9 hk with h|h
   ·exact(D7 ((B7 h).2 0 (by simp) (by simp))).1
   ·exact(D7 ((B7 h).2 0 (by simp) (by simp))).1
  have v:=U8 (l:=l) (.inr (hSb.kid (by omega) (by omega) x st [b+1,k1,k2] hx t1 t5 (b+1) (by simp) s0));obtain⟨q0,_,hq0,K0,Kr⟩:=hks.hd;obtain⟨q1,rfl,hq1',Kb,Kr2⟩:=Kr.hd;obtain⟨q3,rfl,hq3',Kb2,Kr3⟩:=Kr2.hd;have e1:q3=st:=(by cases Kr3;rfl);subst e1;have hb1':=hb1;have hb2':=hb2;obtain⟨y1,st1,b1,b2,b3⟩:=hb1;obtain⟨_,rfl,_⟩:=Kb.end b1 b2;obtain⟨y2,st2,d1,d2,d3⟩:=hb2;obtain⟨_,rfl,_⟩:=Kb2.end d1 d2;have build:∀(X':Int→Nat→Prop) (out:Option Nat),X' ((o+a.length+c.length+3:Nat):Int) 0→Ty E R X' (o+a.length+2) (c++[⟨11,((o+a.length+c.length+3+e.length:Nat):Int),x.Ls⟩]) 0 none→Ty E R X' (o+a.length+c.length+3) e 0 out→
    (∀j dd,X' j dd→X j dd∨j=((o+a.length+c.length+3:Nat):Int)∧dd=0∨out=some dd∧j=((o+a.length+c.length+3+e.length:Nat):Int))→
    Ty E R X o ([(⟨1,m.In,x.Ls⟩:i9)]++a++[(⟨12,((o+a.length+c.length+3:Nat):Int),x.Ls⟩:i9)]++(c++[⟨11,((o+a.length+c.length+3+e.length:Nat):Int),x.Ls⟩])++e) 0 out:=by
   intro X' out hXe hV he hX;have ha:=rB (R:=R) hT h0 X' _ _ K0 (fun i i1 i2=>(hF i (by omega) (by omega)).1) 0;rw[Y4,Ai,v]at ha;have hpa:Ty E R X' o ([(⟨1,m.In,x.Ls⟩:i9)]++a) 0 (some 1):=Ty.cat (mI o m.In x.Ls) ha;have hj:Ty E R X' (o+([(⟨1,m.In,x.Ls⟩:i9)]++a).length) [(⟨12,((o+a.length+c.length+3:Nat):Int),x.Ls⟩:i9)] 1 (some 0):=by have he:H3 E ⟨12,((o+a.length+c.length+3:Nat):Int),x.Ls⟩=(1,0):=Dp E 12 _ _ (by decide);refine Ty.jump (Q5.of 12 _ x.Ls 1 0 1 he (i8 _) (fun h=>absurd h (by decide)) (by decide) (by decide)) (show¬(12:Int)=11 by decide) 0 (by rw[he];rfl) (fun e h12 _ _=>?_);rw[h12 rfl,he];exact hXe
   have hl1:o+a.length+2=o+([(⟨1,m.In,x.Ls⟩:i9)]++a++[(⟨12,((o+a.length+c.length+3:Nat):Int),x.Ls⟩:i9)]).length:=(by simp only[o5,y4];omega);have hl2:o+a.length+c.length+3=o+([(⟨1,m.In,x.Ls⟩:i9)]++a++[(⟨12,((o+a.length+c.length+3:Nat):Int),x.Ls⟩:i9)]).length+(c++[(⟨11,((o+a.length+c.length+3+e.length:Nat):Int),x.Ls⟩:i9)]).length:=(by simp only[o5,y4];omega);refine Ty.fork (X':=X') (hpa.cat hj) (by rw[←hl1];exact hV) (by rw[←hl2];exact he) (fun j dd hj=>?_);rcases hX j dd hj with h|⟨h1,h2⟩|⟨h1,h2⟩
   ·exact .inl h
   ·exact .inr (.inl ⟨by rw[←hl2];exact h1,h2⟩)
   ·exact .inr (.inr ⟨h1,by rw[←hl2];exact h2⟩)
  have hA:Ty E R X o ([(⟨1,m.In,x.Ls⟩:i9)]++a++[(⟨12,((o+a.length+c.length+3:Nat):Int),x.Ls⟩:i9)]++(c++[⟨11,((o+a.length+c.length+3+e.length:Nat):Int),x.Ls⟩])++e) 0 (some 0):=by
   refine build (fun j dd=>X j dd∨j=((o+a.length+c.length+3:Nat):Int)∧dd=0∨j=((o+a.length+c.length+3+e.length:Nat):Int)∧dd=0) (some 0) (.inr (.inl ⟨rfl,rfl⟩)) ?_ (i3 _ _ _ d3 (fun i i1 i2=>hF i (by omega) (by omega))).1 (fun j dd h=>?_)
   ·have hc:=(i1 (fun j dd=>X j dd∨j=((o+a.length+c.length+3:Nat):Int)∧dd=0∨j=((o+a.length+c.length+3+e.length:Nat):Int)∧dd=0) _ _ b3 (fun i i1 i2=>hF i (by omega) (by omega))).1;have he:H3 E ⟨11,((o+a.length+c.length+3+e.length:Nat):Int),x.Ls⟩=(0,0):=Dp E 11 _ _ (by decide);exact hc.cat (Ty.stop (Q5.of 11 _ x.Ls 0 0 0 he (i8 _) (fun _=>rfl) (by decide) (by decide)) (.inl rfl) (fun _=>.inr (.inr ⟨rfl,by rw[he];rfl⟩)))
   ·rcases h with h|h|⟨h1,h2⟩
    ·exact .inl h
    ·exact .inr (.inl h)
    ·exact .inr (.inr ⟨by rw[h2],h1⟩)
  have hB:En l b→Ty E R X o ([(⟨1,m.In,x.Ls⟩:i9)]++a++[(⟨12,((o+a.length+c.length+3:Nat):Int),x.Ls⟩:i9)]++(c++[⟨11,((o+a.length+c.length+3+e.length:Nat):Int),x.Ls⟩])++e) 0 none:=fun hE=>by
   have hends:LEn l ks1∧LEn l ks2:=by
    cases hE with
    |ret _ x' hx' hk'=>rw[hx]at hx';cases hx';omega
    |both _ st'' k0' k1' k2' x' hx' hk' hs' hks' x1 s1 l1 y1' p1 p2 p3 p4 p5 x2 s2 l2 y2' r1 r2 r3 r4 r5=>rw[hx]at hx';cases hx';have e3:st''=st2:=(by omega);subst e3;have:=hks.det hks';simp only[List.cons.injEq,and_true]at this;obtain⟨_,rfl,rfl⟩:=this;rw[b1]at p1;cases p1;rw[d1]at r1;cases r1;have e4:s1=st1:=(by omega);subst e4;have e5:s2=st'':=(by omega);subst e5;have:=b3.det p3;subst this;have:=d3.det r3;subst this;exact⟨⟨_,p4,p5⟩,⟨_,r4,r5⟩⟩
   refine build (fun j dd=>X j dd∨j=((o+a.length+c.length+3:Nat):Int)∧dd=0) none (.inr ⟨rfl,rfl⟩) ?_ ((i3 _ _ _ d3 (fun i i1 i2=>hF i (by omega) (by omega))).2 hends.2) (fun j dd h=>?_)
   ·exact((i1 _ _ _ b3 (fun i i1 i2=>hF i (by omega) (by omega))).2 hends.1).skip _
   ·rcases h with h|h
    ·exact .inl h
    ·exact .inr (.inl h)
  have hl:o+a.length+c.length+3+e.length=o+([(⟨1,m.In,x.Ls⟩:i9)]++a++[(⟨12,((o+a.length+c.length+3:Nat):Int),x.Ls⟩:i9)]++(c++[(⟨11,((o+a.length+c.length+3+e.length:Nat):Int),x.Ls⟩:i9)])++e).length:=(by simp only[o5,y4];omega);have h2':=h2;have i2':=i2 X _ _ hrest (fun i i1 i2=>hF i (by omega) i2);rw[hl]at h2' i2';have:=tN (l:=l) hA hB h2' i2';simpa using this
 |whl o b st k1 ks ks1 x m S S1 S2 S3 a c d hx hm hk hs hks hb h0 h1 h2 i1 i2=>
  intro X lo hi hK hF;obtain⟨rfl,y,q,hy,hys,hq1,hq2,hrest⟩:=hK.first
  rw[hx]at hy;cases hy;obtain⟨st',ks',t1,t2,t3,t4,t5,t6,t7⟩:=hT.may.nd b x hx;have est:st'=q:=(by omega);subst est;have:st=st':=(by omega);subst this;have:=t5.det hks;subst this;have hkd:=u0 hx;have hSb:=(hF b (i8 _) (by omega)).2;have s0:21≤kd l (b+1):=(D7 ((B7 (t6.k10 hk)).2 0 (by simp) (by simp))).1;have v:=U8 (l:=l) (.inr (hSb.kid (by omega) (by omega) x st [b+1,k1] hx t1 t5 (b+1) (by simp) s0));obtain⟨q0,_,hq0,K0,Kr⟩:=hks.hd;obtain⟨q1,rfl,hq1',Kb,Kr2⟩:=Kr.hd;have e1:q1=st:=(by cases Kr2;rfl);subst e1;obtain⟨y1,st1,b1,b2,b3⟩:=hb;obtain⟨_,rfl,_⟩:=Kb.end b1 b2;generalize hX':(fun(j:Int) (e:Nat)=>X j e∨j=((o+a.length+c.length+3:Nat):Int)∧e=0∨j=(o:Int)∧e=0)=X';have ha:=rB (R:=R) hT h0 X' _ _ K0 (fun i i1 i2=>(hF i (by omega) (by omega)).1) 0;rw[Y4,Ai,v]at ha;have hpa:Ty E R X' o ([(⟨1,m.In,x.Ls⟩:i9)]++a) 0 (some 1):=Ty.cat (mI o m.In x.Ls) ha;have hj:Ty E R X' (o+([(⟨1,m.In,x.Ls⟩:i9)]++a).length) [(⟨12,((o+a.length+c.length+3:Nat):Int),x.Ls⟩:i9)] 1 (some 0):=by have he:H3 E ⟨12,((o+a.length+c.length+3:Nat):Int),x.Ls⟩=(1,0):=Dp E 12 _ _ (by decide);refine Ty.jump (Q5.of 12 _ x.Ls 1 0 1 he (i8 _) (fun h=>absurd h (by decide)) (by decide) (by decide)) (show¬(12:Int)=11 by decide) 0 (by rw[he];rfl) (fun e h12 _ _=>?_);rw[←hX',h12 rfl,he];exact .inr (.inl ⟨rfl,rfl⟩)
  have hc:=(i1 X' _ _ b3 (fun i i1 i2=>hF i (by omega) (by omega))).1;have hl1:o+a.length+2=o+([(⟨1,m.In,x.Ls⟩:i9)]++a++[(⟨12,((o+a.length+c.length+3:Nat):Int),x.Ls⟩:i9)]).length:=(by simp only[o5,y4];omega);have he11:H3 E ⟨11,(o:Int),x.Ls⟩=(0,0):=Dp E 11 _ _ (by decide);have hst:=fun o'=>Ty.stop (E:=E) (R:=R) (X:=X') (o:=o') (d:=0) (x:=⟨11,(o:Int),x.Ls⟩) (Q5.of 11 _ x.Ls 0 0 0 he11 (i8 _) (fun _=>rfl) (by decide) (by decide)) (.inl rfl) (fun _=>by rw[←hX',he11];exact .inr (.inr ⟨rfl,rfl⟩));have hu:=((Ty.cat (Ty.cat (Ty.cat hpa hj) (by rw[←hl1];exact hc)) (hst _)).out 0).close (X:=X) (fun j e h=>by
   rw[←hX']at h;rcases h with h|⟨h1,h2⟩|h
   ·exact .inl h
   ·refine .inr (.inl ⟨?_,h2⟩);rw[h1];simp only[o5,y4];omega
   ·exact .inr (.inr h))
  have hnE:En l b→False:=fun hE=>by have:=hE.kind hx;omega
  have hl:o+a.length+c.length+3=o+([(⟨1,m.In,x.Ls⟩:i9)]++a++[(⟨12,((o+a.length+c.length+3:Nat):Int),x.Ls⟩:i9)]++c++[(⟨11,(o:Int),x.Ls⟩:i9)]).length:=(by simp only[o5,y4];omega);have h2':=h2;have i2':=i2 X _ _ hrest (fun i i1 i2=>hF i (by omega) i2);rw[hl]at h2' i2';have:=tN (l:=l) hu (fun hE=>(hnE hE).elim) h2' i2';simpa using this
end
end
end Go.Proofs.YtabmahknlebhpaaGreat

/- Parts of the proof. -/
import Derived.Test.YtihbbcealnnpiaaGreatDoorImBy1
set_option linter.unusedVariables false
set_option linter.unusedSectionVars false
namespace Go.Proofs.YtihbbcealnnpiaaGreatDoor
section
theorem a7M(l:List d7):ps l l.length<=E7 l:=by
 unfold ps E7;rw[List.take_length]
 induction l with
 |nil=>exact l5 _
 |cons x l ih=>simp only[List.map_cons,List.sum_cons];omega
theorem b4K{T:List v7}{x:d7}{m:l8}{S z:List Bs}{op arg:Int}(h:Az T x m S=(op,arg,z)):1<=op/\op<=26:=by
 have e:op=(Az T x m S).1:=(by rw[h]);rw[e];unfold Az
 repeat' split
 all_goals first|(simp;done)|(unfold Qd;repeat' split;all_goals simp)
def Cl(l:List d7)(c:List p8):Prop:=∀z∈c,(1<=z.Op/\z.Op<=26)/\∃x∈l,z.Ls=x.Ls
theorem Cl.app{l:List d7}{a b:List p8}(h:Cl l a)(C:Cl l b):Cl l (a++b):=λz B=>by
 rcases A3.1 B with B|B
 ·exact h z B
 ·exact C z B
theorem Cl.cons{l:List d7}{x:d7}{i:Nat}{op arg:Int}{b:List p8}(hx:l[i]? =some x)(h:1<=op/\op<=26)(C:Cl l b):Cl l (⟨op,arg,x.Ls⟩::b):=λz B=>by
 rcases D0.1 B with rfl|B
 ·exact⟨h,x,O8 hx,rfl⟩
 ·exact C z B
theorem Cl.nil{l:List d7}:Cl l []:=λz B=>nomatch B
theorem iS{l:List d7}{M:List l8}{T:List v7}(B:L0 l){o:Nat}{ks:List Nat}{S z:List Bs}{c:List p8}(h:GX l M T o ks S c z):Cl l c:=by
 induction h with
 |nil=>exact .nil
 |log o b st k0 k1 ks x S S1 S2 S3 a c d hx hk hn hs hks h0 h1 h2 i0 i1 i2=>obtain⟨_,_,_,_,_,_,_,_,C⟩:=B.nd b x hx;have:=C.n31 hk;exact i0.app (.cons hx (by omega) (i1.app i2))
 |oth o b st ks' es ks x m S S1 S2 S3 op arg a d hx hk hn hs hks hes hm h0 hl h2 i0 i2=>exact i0.app (.cons hx (b4K hl) i2)
theorem a5j{l:List d7}{M:List l8}{b:Nat}{x:d7}{m:l8}{es:List Nat}{t:List p8}(h:Bj l M b x m es t)(hx:l[b]? =some x):Cl l t:=by
 cases h with
 |var st k0 k1 hk hs hks=>exact .cons hx (by omega) .nil
 |set st k0 k1 y m0 is hk hs hks hy hyk hm0 hi=>
  unfold Ta;split
  ·exact .cons hx (by omega) .nil
  ·split
   ·exact .cons hy (by omega) .nil
   ·exact .cons hy (by omega) .nil
 |ret0 hk hs=>exact .cons hx (by omega) .nil
 |ret1 st hk hs hks=>exact .cons hx (by omega) .nil
 |print st hk hs hks=>exact .cons hx (by omega) .nil
 |pop st m0 hk hs hks hm0 ht=>exact .cons hx (by omega) .nil
 |run st m0 hk hs hks hm0 ht=>exact .nil
theorem a80{l:List d7}{M:List l8}{T:List v7}(z:L0 l){o:Nat}{ks:List Nat}{S B:List Bs}{c:List p8}(h:GS l M T o ks S c B):Cl l c:=by
 induction h with
 |nil=>exact .nil
 |smp o b ks es x m S S1 S2 a t d hx hm hT h0 h2 i2=>exact .cons hx (by omega) ((iS z h0).app ((a5j hT hx).app i2))
 |if2 o b st k1 ks ks1 x m S S1 S2 S3 a c d hx hm hk hs hks hb h0 h1 h2 i1 i2=>exact .cons hx (by omega) ((iS z h0).app (.cons hx (by omega) (i1.app i2)))
 |if3 o b st k1 k2 ks ks1 ks2 x m S S1 S2 S3 S4 a c e d hx hm hk hs hks hb1 hb2 h0 h1 h3 h2 i1 i3 i2=>exact .cons hx (by omega) ((iS z h0).app (.cons hx (by omega) (i1.app (.cons hx (by omega) (i3.app i2)))))
 |whl o b st k1 ks ks1 x m S S1 S2 S3 a c d hx hm hk hs hks hb h0 h1 h2 i1 i2=>exact .cons hx (by omega) ((iS z h0).app (.cons hx (by omega) (i1.app (.cons hx (by omega) i2))))
theorem b5n{l:List d7}{M:List l8}{T:List v7}(C:L0 l){A:Nat}{z:List x8}{S B:List Bs}{I:List p8}{E:List D7}(h:GC l M T A z S I E B):Cl l I:=by
 induction h with
 |nil=>exact .nil
 |cons A k st bp f z S S1 S2 x ks ks2 a I E hn hx hs hks hb hbd h0 h2 ih=>exact(a80 C h0).app (.cons hx (by omega) ih)
theorem WD(l:List d7)(a b:Nat):(stI l a b).length<=b-a:=by have:=List.length_filter_le (λi=>decide (7<=kd l i/\kd l i<=13)) (List.range' a (b-a));rw[List.length_range']at this;exact this
theorem PU{l:List d7}:∀(ts:List Nat) (fi:Nat),(∀k∈ts,(stI l k (en l k)).length<=40000)->(Hq l fi ts).length<=40000*ts.length
 | [],_,_=>l5 _
 |k::ts,fi,h=>by have C:=PU ts (fi+1) (λk z=>h k (J1 _ z));have B:=h k I2;rw[rG,t8,F5,F8];omega
section
variable{l:List d7}{s:d8}{nr:Nat}{M:List l8}{n:Nat}(h:Ni n l s nr M)(hn:n<=2900)
include h hn
theorem b3u:∀x∈l,0<=x.Ls/\x.Ls<=100000:=λx hx=>b1D (by have:=Yq hx;have:=h.txt;omega)
theorem b0r:∀x∈l,i64 x.Ns:=λx hx=>by have:=a8g (z:=x.Ns) (by have:=Yq hx;have:=h.txt;omega);unfold i64;omega
theorem b0y:∀y∈s.P.To,mid y.Of:=by
 intro y B;obtain⟨i,hi,rfl⟩:=List.getElem_of_mem B;have z:=h.res.ri.ty;have hT:s.P.To.length<=90000000000:=(by have:=h.res.ri.big;unfold tot at this;omega);unfold mid;by_cases c:i<6
 ·have:=z.base i c;rw[w9 hi]at this;injection this with this
  rw[this];simp only;omega
 ·by_cases c2:i<6+nr
  ·have:=z.recs (i-6) (by omega);have e:6+(i-6)=i:=(by omega);rw[e,w9 hi]at this;injection this with this
   rw[this];simp only;omega
  ·have:=(z.lists i _ (by omega) (w9 hi)).2;omega
theorem a3G{f:x8}(hf:f∈s.P.As){k K st:Nat}{x:d7}(hk:f.Gs=(k:Int))(hx:l[k]? =some x)(hs:x.Cs=(st:Int)-(k+1))(af:k+1<=K)(ab:st<=l.length)(ac:f.Ss<=200)(Z:∀i,K<=i->i<st->NdE l s f.Ss i/\NdS l s f.Ss i)(hE:∀i,K<=i->i<st->EF l s.P M i/\SF l M f.By i):∀i,K<=i->i<st->RfB l M i:=by
 obtain⟨d,hI,I⟩:=h.ci;obtain⟨ts,F,hP⟩:=h.res.pts;have ae:=h.small;have ag:=h.res.fn100;have aa:ts.length=s.P.As.length:=by have:=congrArg List.length F;rw[F5,C3]at this;omega
 intro i O J;refine⟨λS m Q=>?_,λa b m Q=>?_⟩
 ·obtain⟨m0,H,n2,n3,_⟩:=hI.rf i m (by rw[I];exact Q);by_cases c29:kd l i=29
  ·obtain⟨X,z,U,Y⟩:=(hE i O J).1.k29 c29;rw[Q]at z;cases z;unfold mid;omega
  have n3:=n3 c29;unfold mid;rcases S with c|c|c|c
  ·obtain⟨X,z,U,Y⟩:=(Z i O J).2 (by omega) (by omega);rw[H]at z;cases z;obtain⟨p,q,_⟩:=Y c;omega
  ·obtain⟨X,z,U,Y,_⟩:=(Z i O J).1.k26 c;rw[H]at z;cases z;omega
  ·obtain⟨X,z,U⟩:=(Z i O J).1.k27 c;rw[H]at z;cases z;omega
  ·exact absurd c c29
 ·obtain⟨j,hj,rfl⟩:=List.getElem_of_mem hf;have C:j<ts.length:=(by omega);have R:ts[j]? =some k:=by
   have N:=congrArg (λL=>L[j]?) F;simp only[P2,w9 hj,G6]at N;rw[F6 C,hk]at N;injection N with N
   rw[w9 C];congr 1;omega
  have V:=jH hx hs (by omega);have G:i∈stI l k (en l k):=by rw[V];unfold stI;rw[List.mem_filter,List.mem_range'_1];exact⟨by omega,f6 ⟨a,b⟩⟩
  obtain⟨m0,H,n2⟩:=hP.num j k (by omega) R i G;obtain⟨m1,o1,o2,_⟩:=hI.rf i m (by rw[I];exact Q);rw[H]at o1;cases o1;have l1:=PU (l:=l) (ts.take j) 0 (λq hq=>by
   have:=WD l q (en l q);have:en l q<=q+40000:=by
    cases B:l[q]? with
    |none=>unfold en;rw[B];simp only;omega
    |some y=>obtain⟨ad,ks,t1,t2,t3,_⟩:=h.may.nd q y B;rw[jH B t1 t2];omega
   omega)
  have l2:=WD l k i;rw[List.length_take]at l1;unfold mid;omega
theorem a6K{A:Nat}{J:List x8}{S S':List Bs}{I:List p8}{E:List D7}(U:GC l M s.P.To A J S I E S'):(∀f∈J,f∈s.P.As)->S.length+40000*J.length<=100000000->∀z∈I,i64 z.A:=by
 have aa:=h.small;have z0:i64 0:=by unfold i64;omega
 induction U with
 |nil=>intro _ _ z B;exact nomatch B
 |cons A k st bp f J S S1 S2 x ks ks2 a I E hn' hx hs hks hb hbd h0 h2 ih=>
  intro G hS z B;have H:=G f I2;obtain⟨k2,F,np,V,x2,y2,X,c1,c2,c3,c4,c5,c6,c7,c8,c9,c10,c11,c12,c13,c14,c15,c16,c17,c18,Z,Q,d3⟩:=dM h hn H;have Y:k2=k:=(by omega);subst Y;rw[hx]at c2;cases c2;have K:F=st:=(by omega);subst K;have:=hks.det c5;subst this;rw[hb]at c7;cases c7;obtain⟨y,L,O,e2,N⟩:=hbd;rw[c9]at O;cases O;have C:L=F:=(by omega);subst C;have ab:=N.le;have hR:=a3G h hn H hn' hx hs c8 c13 c16 Z Q;obtain⟨p1,p2,p3⟩:=h0.len _ _ N;rw[F8]at hS;rcases A3.1 B with B|B
  ·exact a5r (b0r h hn) (b0y h hn) h0 _ _ N (by omega) (λi i1 R=>hR i (by omega) R) (by omega) (by omega) z B
  ·rcases D0.1 B with rfl|B
   ·exact z0
   ·exact ih (λf H=>G f (J1 _ H)) (by omega) z B
theorem b5y:∀(m i A lo:Nat) (S G:List Bs) (I:List p8) (E:List D7),s.P.As.length-i=m->i<=s.P.As.length->GC l M s.P.To A (s.P.As.drop i) S I E G->lo<=l.length->(∀(j:Nat) (f:x8) (k:Nat),i<=j->s.P.As[j]? =some f->f.Gs=(k:Int)->lo<=k)->I.length+3*lo<=3*l.length+m/\G.length+lo<=S.length+l.length/\W6 G+ps l lo<=W6 S+ps l l.length:=by
 have ab:=h.small;have L:∀n∈l,n.Ds.length<=65536:=λx hx=>by have:=Yq hx;have:=h.txt;omega
 intro m
 induction m with
 |zero=>intro i A lo S G I E hm hi hC H O;rw[R3 (by omega)]at hC;cases hC;have:=Aj l H;simp only[K8];omega
 |succ m ih=>
  intro i A lo S G I E hm hi hC H O;have z:i<s.P.As.length:=(by omega);rw[P0 z]at hC;cases hC with
  |cons _ k st bp _ _ _ S1 _ x ks ks2 a I E hn' hx hs hks hb hbd h0 h2=>have J:s.P.As[i]? =some s.P.As[i]:=w9 z;have ac:=O i _ k (l5 _) J hn';obtain⟨k2,C,np,Z,x2,y2,aa,b1,R,b3,b4,U,b6,Q,b8,b9,X,V,ad,Y,_⟩:=dM h hn (B0 z);have ek:k2=k:=(by omega);subst ek;rw[hx]at R;cases R;have K:C=st:=(by omega);subst K;have:=hks.det U;subst this;rw[hb]at Q;cases Q;obtain⟨y,F,c1,c2,c3⟩:=hbd;rw[b9]at c1;cases c1;have B:F=C:=(by omega);subst B;obtain⟨z1,z2,z3⟩:=h0.len _ _ c3;obtain⟨w1,w2,w3⟩:=ih (i+1) _ F _ _ _ _ (by omega) (by omega) h2 (by omega) (λj f kk hj hf N=>xW h.res h.may (by omega) L (i:=i) (j:=j) (by omega) J hf hn' N hx hs);have:=Aj l (i:=lo) (j:=bp+1) (by omega);simp only[t8,F8];omega
end
end
end Go.Proofs.YtihbbcealnnpiaaGreatDoor

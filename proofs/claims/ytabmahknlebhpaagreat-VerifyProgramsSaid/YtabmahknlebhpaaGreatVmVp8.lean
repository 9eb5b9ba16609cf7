/- Parts of the proof. -/
import Derived.Test.YtabmahknlebhpaaGreatVmVfHeap
import Derived.Test.YtabmahknlebhpaaGreatVmQL
import Derived.Test.YtabmahknlebhpaaGreatVmXF
import Derived.Test.YtabmahknlebhpaaGreatVmXG
set_option linter.unusedVariables false
set_option linter.unusedSectionVars false
namespace Go.Proofs.YtabmahknlebhpaaGreat
section
section
variable{l:List d7}{s:d9}{nr:Nat}{M:List l4}{n:Nat}(h:Rc n l s nr M)(hn:n≤2000)
variable{I:List i9}{E:List o0}{S:List Bs}(hC:GC l M s.P.To 0 s.P.As [] I E S)
include h hn hC
theorem lW{e:o0}(he:e∈E):FnR ⟨I,E,S⟩ e∧0<e.Do:=by
 obtain⟨hM,_⟩:=IF h hn hC;obtain⟨f,a,hf,hA⟩:=HH h hn hC he;have hE:E.length=s.P.As.length:=hC.at.1;obtain⟨st,bp,x,ks2,S0,S1,B,c1,c2,c3,c4,c5,c6,c7,c8,c9,c10,p1,p2,p3⟩:=Uy h hn hf hA;have hlen:=hA.len;have hops:=tU h hn hC hC (fun f hf=>hf);refine⟨⟨by omega,by omega,?_,hM.ins,fun g hg=>?_,?_,fun z hz=>(hops z hz).1,fun i hi z hz=>?_⟩,by omega⟩
 ·show e.At+e.Do≤(I.length:Int);omega
 ·obtain⟨f',a',hf',hA'⟩:=HH h hn hC hg;obtain⟨_,_,_,_,_,_,_,_,_,_,_,_,_,_,_,_,_,q1,_⟩:=Uy h hn hf' hA';refine⟨by rw[hA'.par];exact q1,?_⟩;rw[hA'.res];split
  ·exact .inl rfl
  ·exact .inr rfl
 ·rw[hA.res];split
  ·exact .inl rfl
  ·exact .inr rfl
 ·have hj:i<a.length+1:=(by omega);have eB:e.At.toNat=B-0:=(by omega);have hz':I[B-0+i]? =some z:=(by rw[←eB];exact hz);have hI:=UZ h hn hf hA hj c5 hz';refine a8i ⟨I,E,S⟩ e z (N:=a.length+1) ?_ (by omega);show J2 e.Ss S.length E.length (a.length+1) z;rw[hA.sl,hE];exact hI
theorem MD{e:o0}(he:e∈E):∃(W:Nat→Option Nat) (F':x5) (k:Nat),Kt d5 ⟨I,E,S⟩ e=some ((F',0,()),())∧P5 W e k F'∧∀(i:Nat) (x:i9) (d:Nat),(i:Int)<e.Do→I[e.At.toNat+i]? =some x→W i=some d→x.Op=1→d=0:=by
 obtain⟨hF,hp⟩:=lW h hn hC he;obtain⟨f,a,hf,hA⟩:=HH h hn hC he;have hT:=b0s h hn hC;have hlen:=hA.len;obtain⟨W,w0,hW⟩:=a59 h hn hT hf hA;have ha0:=hF.at0;have hW':=hW e.At.toNat (by omega);have hW2:∀(i:Nat) (x:i9) (d:Nat),(i:Int)<e.Do→I[e.At.toNat+i]? =some x→W i=some d→Q5 E e.By x d∧∀j d',Suc E i x d j d'→∃k:Nat,j=(k:Int)∧(k:Int)<e.Do∧W k=some d':=fun i x d hi hx hd=>by obtain⟨q1,q2⟩:=hW' i x d (by omega) (by rw[Nat.sub_zero];exact hx) hd;refine⟨q1,fun j d' hs=>?_⟩;obtain⟨k,k1,k2,k3⟩:=q2 j d' hs;exact⟨k,k1,by omega,k3⟩
 obtain⟨F',k,r1,r2⟩:=a17 (c:=⟨I,E,S⟩) hF hp rfl w0 hW2;exact⟨W,F',k,r1,r2,fun i x d hi hx hd ho=>(hW2 i x d hi hx hd).1.p1 ho⟩
theorem a6G{e:o0}(he:e∈E)(b:Int):∀(m i:Nat),e.Do.toNat-i=m→Gp d5 b (i:Int) ⟨I,E,S⟩ b e=tO d5 ⟨I,E,S⟩ b:=by
 obtain⟨hF,hp⟩:=lW h hn hC he;have h1:=hF.at0;have h2:=hF.fit;have h3:=hF.big;simp only at h2 h3;intro m
 induction m with
 |zero=>intro i hi;rw[cT,Ja,d8 (by omega),i5]
 |succ m ih=>intro i hi;have e1:w64 (e.At+(i:Int))=((e.At.toNat+i:Nat):Int):=(by rw[wrap64 (by omega) (by omega)];omega);have hb:e.At.toNat+i<I.length:=(by omega);have hw:=hF.ok i (by omega) _ (p8 hb);rw[cT,Ja,f9 (by omega),i7,e1,l7 hb,d6,hw,d6];simp only[decide_true,x4,i5];rw[z8 (by omega)];exact ih (i+1) (by omega)
theorem a2B:∀(m i:Nat),E.length-i=m→Hz d5 ⟨I,E,S⟩ (i:Int)=uD d5 ⟨I,E,S⟩:=by
 have hfn:=h.res.fn100;have hE:E.length=s.P.As.length:=hC.at.1;intro m
 induction m with
 |zero=>intro i hi;rw[rG,Ke,d8 (by simp only;omega),i5]
 |succ m ih=>intro i hi;have hil:i<E.length:=(by omega);rw[rG,Ke,f9 (by simp only;omega),i7,l7 hil,d6,show Gp d5 (i:Int) 0 ⟨I,E,S⟩ (i:Int) E[i]=_ from a6G h hn hC (y5 hil) (i:Int) _ 0 rfl,YP,Ue,z8 (by omega)];exact ih (i+1) (by omega)
theorem b5b:∀(m i:Nat),E.length-i=m→Tw d5 ⟨I,E,S⟩ (i:Int)=some ((0,0,0,()),()):=by
 have hfn:=h.res.fn100;have hE:E.length=s.P.As.length:=hC.at.1;intro m
 induction m with
 |zero=>intro i hi;rw[mM,Kl,d8 (by simp only;omega),i5,US,Sj]
 |succ m ih=>intro i hi;have hil:i<E.length:=(by omega);obtain⟨W,F',k,r1,r2,_⟩:=MD h hn hC (y5 hil);rw[mM,Kl,f9 (by simp only;omega),i7,l7 hil,d6,r1,d6];simp only;rw[f9 r2.err,x4,i5,z8 (by omega)];exact ih (i+1) (by omega)
theorem a50:xQ d5 ⟨I,E,S⟩=some ((0,0,0,()),()):=by
 have hops:=tU h hn hC hC (fun f hf=>hf);obtain⟨b,m1,m2,m3⟩:=a0g ⟨I,E,S⟩ (fun x hx=>by have:=(hops x hx).1.1;omega);rw[(IF h hn hC).2]at m1;injection m1 with m1
 simp only[Rg,and_true]at m1;subst m1;rw[LC,Sa,m2,d6];simp only;rw[x4,i5,show Hz d5 ⟨I,E,S⟩ 0=_ from a2B h hn hC _ 0 rfl,VK,Xy];exact b5b h hn hC _ 0 rfl
theorem a3V:Zi d5 ⟨I,E,S⟩=some ((0,0,0,()),())∧∀e∈E,∃D:List Int,Io d5 ⟨I,E,S⟩ e=some ((D,0,0,()),())∧(D.length:Int)=e.Do∧∀(i:Nat) (hi:i<D.length) (x:i9),I[e.At.toNat+i]? =some x→x.Op=1→D[i]≤0:=by
 have hops:=tU h hn hC hC (fun f hf=>hf);obtain⟨a,b,c,g1,g2,g3⟩:=b1z ⟨I,E,S⟩ (fun x hx=>by have:=(hops x hx).1.1;omega);rw[a50 h hn hC]at g2;injection g2 with g2
 simp only[Rg,and_true]at g2;obtain⟨rfl,rfl,rfl⟩:=g2;refine⟨g1,fun e he=>?_⟩;obtain⟨F',r1,r2,r3,r4⟩:=(g3 rfl).2.2 e he;obtain⟨W,F2,k,q1,q2,q3⟩:=MD h hn hC he;obtain⟨hF,hp⟩:=lW h hn hC he;rw[r2]at q1;injection q1 with q1
 simp only[Rg,and_true]at q1;subst q1;refine⟨F'.D,r1,by omega,fun i hi x hx ho=>?_⟩;refine Int.not_lt.1 fun hlt=>?_;have:=q3 i x _ (by omega) hx (q2.ty i hi (by omega)) ho;omega
end
theorem a1O{c:N9}{d:Lm}{e:o0}{a:Nat}(ha:a<c.1.1.As.length)(hea:c.1.1.As[a]=e)(h0:0≤e.At)(hfit:e.At+e.Do≤c.1.1.Is.length)(hbig:c.1.1.Is.length≤65536)(hlen:(d.1.1.length:Int)=e.Do)(hD:∀(i:Nat) (hi:i<d.1.1.length) (x:i9),c.1.1.Is[e.At.toNat+i]? =some x→x.Op=1→d.1.1[i]≤0):∀(m i:Nat),d.1.1.length-i=m→Qm d5 (a:Int) (i:Int) c d=EA d5 (a:Int) c:=by
 intro m
 induction m with
 |zero=>intro i hi;rw[YT,Xv,d8 (by omega),i5]
 |succ m ih=>
  intro i hi;have hil:i<d.1.1.length:=(by omega);have e1:w64 (e.At+(i:Int))=((e.At.toNat+i:Nat):Int):=(by rw[wrap64 (by omega) (by omega)];omega);have hb:e.At.toNat+i<c.1.1.Is.length:=(by omega);have next:=ih (i+1) (by omega)
  rw[YT,Xv,f9 (by omega),i7,l7 ha,d6,hea,e1,l7 hb,d6,z8 (by omega)];by_cases c1:c.1.1.Is[e.At.toNat+i].Op=1
  ·have hd:=hD i hil _ (p8 hb) c1;rw[f9 c1,i7,l7 hil,d6,B8,p8 hil,d6,d8 (by omega),i5];exact next
  ·rw[d8 c1];exact next
theorem a2F(b:b5Y):∃(P:s9) (ok:Bool),DI d5 b=some ((P,ok,()),())∧(ok=true→b.length≤2000∧∃l s nr M,P=prog s M∧Rc b.length l s nr M):=by
 rw[b2t,xE];by_cases c:(b.length:Int)>2000
 ·rw[f9 c];exact⟨_,_,rfl,fun h=>nomatch h⟩
 ·obtain⟨P,f,g1,g2⟩:=b3Z b (by omega);rw[d8 c,i5,g1,d6];exact⟨_,_,rfl,fun h=>⟨by omega,g2 (D6 h)⟩⟩
theorem b5f(b:b5Y):CZ d5 b=some ((true,()),()):=by
 obtain⟨P,ok,g1,g2⟩:=a2F b;rw[b0r,uN,g1,d6];simp only;cases ok with
 |false=>rw[D3,i7,VL];rfl
 |true=>
  obtain⟨hl,l,s,nr,M,rfl,hS⟩:=g2 rfl;obtain⟨I,E,S,k1,hC⟩:=b0A hS (by omega);obtain⟨r1,r2⟩:=a3V hS hl hC;have hfn:=hS.res.fn100;have hE:E.length=s.P.As.length:=hC.at.1;have hbig:=(IF hS hl hC).1.ins;simp only at hbig;rw[x4,i5,k1,d6];simp only;rw[r1,d6];simp only[decide_true,x4,i5];have loop:∀(m i:Nat),E.length-i=m→rH d5 (i:Int) (((⟨I,E,S⟩:l6),()),())=some ((true,()),()):=by
   intro m
   induction m with
   |zero=>intro i hi;rw[NY,Uo,d8 (by simp only;omega),i5,a6K,kH,VL];rfl
   |succ m ih=>
    intro i hi;have hil:i<E.length:=(by omega);obtain⟨hF,hp⟩:=lW hS hl hC (y5 hil);obtain⟨D,d1,d2,d3⟩:=r2 _ (y5 hil);have hdep:dE d5 ⟨I,E,S⟩ (i:Int)=some ((D,0,()),()):=by rw[b0o,mA,r1,d6];simp only[decide_true,x4,i5];rw[d8 (by omega),i5,d8 (by omega),i5,l7 hil,d6,d1];rfl
    rw[NY,Uo,f9 (by simp only;omega),i7];simp only;rw[hdep,d6];simp only[decide_true,x4,i5];rw[l7 hil,d6,f9 d2,x4,i5];rw[show Qm d5 (i:Int) 0 (((⟨I,E,S⟩:l6),()),()) ((D,0,()),())=_ from a1O (c:=(((⟨I,E,S⟩:l6),()),())) (d:=((D,0,()),())) hil rfl hF.at0 hF.fit hbig d2 d3 _ 0 rfl,b3S,sD,z8 (by omega)];exact ih (i+1) (by omega)
  exact loop _ 0 rfl
theorem a9A(b:b5Y)(h:CZ d5 b=some ((true,()),())):d5 (.l17_VerifyPrograms b)=some ((true,()),()):=h
theorem b4h(b:b5Y)(h:b.length≤140737488351232):l17_VerifyPrograms b=some true:=b0u b (a9A b (b5f b))
end
end Go.Proofs.YtabmahknlebhpaaGreat

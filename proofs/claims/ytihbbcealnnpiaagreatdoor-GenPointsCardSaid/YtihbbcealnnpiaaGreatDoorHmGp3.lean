/- Parts of the proof. -/
import Derived.Test.YtihbbcealnnpiaaGreatDoorHmGp2
set_option linter.unusedVariables false
set_option linter.unusedSectionVars false
namespace Go.Proofs.YtihbbcealnnpiaaGreatDoor
section
theorem a2T{l:List d7}{a b c p:Nat}(h:(stI l a b)[c]? =some p):p∈stI l a b∧(stI l a p).length=c:=by
 have hm:=M7 h;obtain⟨⟨ha,hb⟩,hk⟩:=Ch hm;refine⟨hm,?_⟩;rw[R8 l ha (show p≤b by omega),Fr hk hb]at h;rcases Nat.lt_trichotomy c (stI l a p).length with hlt|he|hgt
 ·rw[T0 hlt]at h;have:=Ch (M7 h);omega
 ·exact he.symm
 ·rw[Z5 (by omega),show c-(stI l a p).length=(c-(stI l a p).length-1)+1 by omega,List.getElem?_cons_succ]at h;have:=Ch (M7 h);omega
theorem a4C{B:List i6}{q:Nat}(hq:q<B.length)(h:F6 B[q]=true):(B.filter F6)[((B.take q).filter F6).length]? =some B[q]:=by
 have e:B.filter F6=(B.take q).filter F6++(B[q]::(B.drop (q+1)).filter F6):=by rw[←List.filter_cons_of_pos h,←J8 hq,←List.filter_append,List.take_append_drop]
 rw[e,Z5 (i4 _),Xz];rfl
theorem yP{B:List i6}{q:Nat}(hq:q<B.length):((B.take (q+1)).filter F6).length=((B.take q).filter F6).length+(if B[q].Op=1 then 1 else 0):=by
 rw[List.take_add_one,o5 hq,List.filter_append,o9];congr 1;show([B[q]].filter F6).length=_;by_cases h:B[q].Op=1
 ·have hp:F6 B[q]=true:=f6 h;rw[if_pos h,List.filter_cons_of_pos hp];rfl
 ·have hp:¬F6 B[q]=true:=fun e=>h (D3 e);rw[if_neg h,List.filter_cons_of_neg hp];rfl
def Dw(l:List d7)(ts:List Nat)(j:Nat):Nat:=(Y1 l 0 (ts.take j)).length
theorem b0N{l:List d7}{ts:List Nat}{j k:Nat}(h:ts[j]? =some k):Dw l ts (j+1)=Dw l ts j+(stI l k (en l k)).length:=by unfold Dw;rw[List.take_add_one,h];show(Y1 l 0 (ts.take j++[k])).length=_;rw[fU,Vz,o9,o9,E1];rfl
structure oF(c:l7)(P:List N4)(off:Nat→Nat):Prop where
 len:c.Is.length≤100000000
 fns:c.As.length≤1000
 zero:off 0=0
 tot:off c.As.length=P.length
 b:∀i,i<c.As.length→∃e B,InB c i e B∧off (i+1)=off i+(B.filter F6).length∧∀(q:Nat) (hq:q<B.length),B[q].Op=1→B[q].A=((off i+((B.take q).filter F6).length:Nat):Int)∧∃pt,P[off i+((B.take q).filter F6).length]? =some pt∧pt.Fn=(i:Int)∧pt.Ls=B[q].Ls
section
variable{l:List d7}{s:d8}{nr:Nat}{M:List i8}{n:Nat}(h:iR n l s nr M)(hn:n≤2900)
include h hn
theorem a1V{I:List i6}{E:List y7}{S:List Bs}(hg:GC l M s.P.To 0 s.P.As [] I E S):∃off,oF ⟨I,E,S⟩ s.P.Ps off:=by
 have hsm:=h.small;have hl:l.length≤30000:=(by omega);have htx:∀n∈l,n.Ds.length≤65536:=fun x hx=>by have:=BB hx;have:=h.txt;omega
 have hfn:=h.res.fn100;obtain⟨b1,b2,b3⟩:=b0v h.may hl hg;obtain⟨ts,hts,hP⟩:=h.res.pts;obtain⟨d,hI,hdM⟩:=h.ci;have hlen:ts.length=s.P.As.length:=by have:=congrArg List.length hts;rw[E1,B0]at this;omega
 refine⟨Dw l ts,by show I.length≤_;omega,by show E.length≤_;omega,rfl,?_,fun i hi=>?_⟩
 ·show Dw l ts E.length=_;unfold Dw;rw[b2,←hlen,←hP.pts]
 ·have hil:i<s.P.As.length:=by have:i<E.length:=hi;omega
  obtain⟨k,e,p,B,r,g1,g2,g3,g4,g5,g6⟩:=b2H h.may hl htx hg (fun f hf k x hk hx=>by
   obtain⟨k',x',c1,c2,c3,_⟩:=h.res.ri.fn f hf;have:k'=k:=(by omega);subst this;rw[hx]at c2;cases c2;exact c3) i _ (o5 hil)
  have hit:i<ts.length:=(by omega);have hk:ts[i]? =some k:=by
   have h1:=congrArg (fun L=>L[i]?) hts;simp only[I6,o5 hil,F4]at h1;rw[D7 hit,g1]at h1;injection h1 with h1
   rw[o5 hit];congr 1;omega
  obtain⟨k',x',c1,c2,c3,_⟩:=h.res.ri.fn _ (A4 hil);have ek:k'=k:=(by omega);subst ek;obtain⟨st,ks,t1,t2,t3,t4,t5,t6,t7⟩:=h.may.nd k' x' c2;have hen:=eX c2 t1 t2;refine⟨e,B,⟨g2,p,r,by rw[g3,Nat.zero_add],g4,g5⟩,by rw[b0N hk,g6,E1],fun q hq h1=>?_⟩;have f1:=a4C hq (f6 h1);generalize ((B.take q).filter F6).length=cnt at f1⊢;rw[g6,I6,Option.map_eq_some_iff]at f1;obtain⟨v,v1,v2⟩:=f1;obtain⟨w1,w2⟩:=a2T v1;obtain⟨⟨w3,w4⟩,w5⟩:=Ch w1;rw[hen]at w4;have hvl:v<l.length:=(by omega);obtain⟨m0,n1,n2⟩:=hP.num i k' (by omega) hk v w1;have hvM:v<M.length:=(by rw[←hdM,hI.len];exact hvl);obtain⟨m1,o1,o2,_⟩:=hI.rf v M[v] (by rw[hdM];exact o5 hvM);rw[n1]at o1;cases o1;have hpI:=Sw (o5 hvl) (o5 hvM);rw[←v2,hpI];refine⟨?_,Kl l i v,?_,?_,?_⟩
  ·show M[v].Qs=_;rw[o2,n2,w2];unfold Dw;omega
  ·have hPt:s.P.Ps=Y1 l 0 ts:=(by rw[hP.pts,List.take_length]);have ho:Dw l ts i=(Y1 l 0 (ts.take i)).length:=rfl;have hk2:ts[i]=k':=(by rw[o5 hit]at hk;exact Option.some.inj hk);have hcl:=(l3.1 v1).1;have key:(Y1 l 0 (ts.take i++ts.drop i))[Dw l ts i+cnt]? =some (Kl l i v):=by rw[fU,Z5 (by omega),ho,Nat.add_sub_cancel_left,J8 hit,hk2,Vz,T0 (by rw[E1];exact hcl),I6,v1,List.length_take,show 0+min i ts.length=i by omega];rfl
   rw[hPt,←key,List.take_append_drop]
  ·rw[tR (o5 hvl)]
  ·rw[tR (o5 hvl)]
end
section
variable{c:l7}{P:l9}{off:Nat→Nat}(h:oF c P.Ps off)
include h
theorem oF.mono{i j:Nat}(hij:i≤j)(hj:j≤c.As.length):off i≤off j:=by
 induction j with
 |zero=>rw[show i=0 by omega];exact i4 _
 |succ j ih=>
  by_cases e:i=j+1
  ·rw[e];exact i4 _
  ·obtain⟨e,B,hB,h1,_⟩:=h.b j (by omega);have:=ih (by omega) (by omega);omega
omit h in
theorem DM(B:List i6){p q:Nat}(hpq:p≤q):((B.take p).filter F6).length≤((B.take q).filter F6).length:=by obtain⟨d,rfl⟩:=Nat.exists_eq_add_of_le hpq;rw[List.take_add,List.filter_append,o9];omega
theorem oF.before{i n:Nat}(hi:i≤c.As.length)(hn:off i≤n):∀j,j<i→∃e B,InB c j e B∧∀x∈B,x.Op=1→x.A≠(n:Int):=by intro j hj;obtain⟨e,B,hB,h1,h2⟩:=h.b j (by omega);refine⟨e,B,hB,fun x hx ho=>?_⟩;obtain⟨q,hq,rfl⟩:=List.getElem_of_mem hx;obtain⟨h3,_⟩:=h2 q hq ho;have h4:=yP hq;rw[if_pos ho]at h4;have h5:=DM B (p:=q+1) (q:=B.length) (by omega);rw[List.take_length]at h5;have h6:=h.mono (i:=j+1) (j:=i) (by omega) hi;omega
theorem a0G{i:Nat}{e:y7}{B:List i6}(hi:i<c.As.length)(hB:InB c i e B)(h1:off (i+1)=off i+(B.filter F6).length)(h2:∀(q:Nat) (hq:q<B.length),B[q].Op=1→B[q].A=((off i+((B.take q).filter F6).length:Nat):Int)∧∃pt,P.Ps[off i+((B.take q).filter F6).length]? =some pt∧pt.Fn=(i:Int)∧pt.Ls=B[q].Ls):∀m q:Nat,B.length-q=m→q≤B.length→Ot d5 ((off i+((B.take q).filter F6).length:Nat):Int) (i:Int) (q:Int) ((P,true,()),()) e ((c,()),())=xI d5 ((off (i+1):Nat):Int) (i:Int) ((P,true,()),()) ((c,()),()):=by
 have hs:=hB.sum;have hlen:=h.len;have hBl:(e.If:Int)=(B.length:Int):=(by obtain⟨_,p,r,_,h2,_⟩:=hB;exact h2);have htot:off (i+1)≤P.Ps.length:=(by rw[←h.tot];exact h.mono (by omega) (i4 _));have hBn:(B.filter F6).length≤B.length:=List.length_filter_le _ _;have hPn:P.Ps.length≤100000000000:=by
  have key:∀j,j≤c.As.length→off j≤100000000*j:=by
   intro j
   induction j with
   |zero=>intro _;rw[h.zero];exact i4 _
   |succ j ih=>intro hj;obtain⟨e',B',hB',k1,_⟩:=h.b j (by omega);have:=ih (by omega);have:=hB'.sum;have h3:(e'.If:Int)=(B'.length:Int):=(by obtain⟨_,p,r,_,h2,_⟩:=hB';exact h2);have:(B'.filter F6).length≤B'.length:=List.length_filter_le _ _;omega
  have:=key _ (i4 _);have:=h.fns;rw[h.tot]at*;omega
 intro m
 induction m with
 |zero=>intro q hq hqB;have eq:q=B.length:=(by omega);subst eq;rw[List.take_length,←h1,XE,Ur,d9 (by omega),f8]
 |succ m ih=>
  intro q hq hqB;have hql:q<B.length:=(by omega);have hat:=hB.at q hql;have hnat:0≤e.At+(q:Int):=(by omega);have hsum2:e.At+(q:Int)<c.Is.length:=(by omega);have hg:f5 c.Is (e.At+(q:Int))=some B[q]:=(by rw[Jz hnat hsum2,←hat];exact(o5 _).symm);have hcs:=yP hql;have ihn:=ih (q+1) (by omega) (by omega);have hcl:=DM B (p:=q) (q:=B.length) (by omega);rw[List.take_length]at hcl;rw[XE,Ur,f6 (by omega),f9];simp only;rw[wrap64 (by omega) (by omega),hg,d6,hat,d6,y9 (by omega)];by_cases ho:B[q].Op=1
  ·rw[if_pos ho]at hcs;obtain⟨a1,pt,a2,a3,a4⟩:=h2 q hql ho;have hpl:=(l3.1 a2).1;have hpe:=(l3.1 a2).2;have hpl2:=a3H h.len h.fns ((off i+((B.take q).filter F6).length:Nat):Int) (h.before (i:=i) (n:=off i+((B.take q).filter F6).length) (by omega) (by omega)) hB q hql ho a1 (fun k hk hkq hko=>by
    obtain⟨z1,_⟩:=h2 k hk hko;have z2:=yP hk;rw[if_pos hko]at z2;have z3:=DM B (p:=k+1) (q:=q) (by omega);omega)
   rw[f6 ho,A2,f8,d9 (by omega),f8,f6 a1,A2,f8,l4 hpl,d6,hpe,f6 a3,A2,f8,d6,f6 a4,A2,f8,hpl2,d6,f6 rfl,f6 rfl,A2,f8,f8,y9 (by omega)];rw[hcs]at ihn;exact ihn
  ·rw[if_neg ho,Nat.add_zero]at hcs;rw[d9 ho,D5,f9];rw[hcs]at ihn;exact ihn
theorem a4N:∀m i:Nat,c.As.length-i=m→i≤c.As.length→lI d5 ((off i:Nat):Int) (i:Int) ((P,true,()),()) ((c,()),())=some ((true,()),()):=by
 have hlen:=h.len;have hfns:=h.fns;intro m
 induction m with
 |zero=>intro i hm hi;have e:i=c.As.length:=(by omega);subst e;have hp:=a9H h.len h.fns ((off c.As.length:Nat):Int) (h.before (i4 _) (i4 _));rw[IL,Xg,d9 (by simp only;omega),f8,b2k,pS];simp only;rw[hp,d6,f6 (by rw[h.tot]),f9,WK];rfl
 |succ m ih=>intro i hm hi;have hil:i<c.As.length:=(by omega);obtain⟨e,B,hB,h1,h2⟩:=h.b i hil;have hs:=hB.sum;have hie:=(l3.1 hB.1).2;rw[IL,Xg,f6 (by simp only;omega),f9];simp only;rw[l4 hil,d6,E0,hB.1,d6,d9 (by omega),f8,d9 (by omega),f8,d9 (by omega),f8,d9 (by rw[wrap64 (by omega) (by omega)];omega),f8];rw[show Ot d5 ((off i:Nat):Int) (i:Int) 0 ((P,true,()),()) e ((c,()),())=_ from a0G h hil hB h1 h2 _ 0 rfl (C9 _),a2R,pP,y9 (by omega)];exact ih (i+1) (by omega) (by omega)
end
theorem a2S(b:b38):wF d5 b=some ((true,()),()):=by
 obtain⟨P,ok,g1,g2⟩:=a0I b;rw[b0p,sR,g1,d6];simp only;cases ok with
 |false=>rw[D5,f9,WK];rfl
 |true=>obtain⟨hl,l,s,nr,M,rfl,hS⟩:=g2 rfl;obtain⟨I,E,S,k1,hC⟩:=b0k hS (by omega);obtain⟨off,hO⟩:=a1V hS (by omega) hC;rw[A2,f8,k1,d6];have:=a4N (P:=prog s M) hO _ 0 rfl (C9 _);rw[hO.zero]at this;exact this
theorem a2H(b:b38)(h:wF d5 b=some ((true,()),())):d5 (.l16_GenPoints b)=some ((true,()),()):=h
theorem a9b(b:b38)(h:b.length≤140737488351232):l16_GenPoints b=some true:=b2X b (a2H b (a2S b))
end
end Go.Proofs.YtihbbcealnnpiaaGreatDoor

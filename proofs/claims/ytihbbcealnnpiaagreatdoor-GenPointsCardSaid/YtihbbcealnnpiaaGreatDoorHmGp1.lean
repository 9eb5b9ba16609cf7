/- Parts of the proof. -/
import Derived.Test.YtihbbcealnnpiaaGreatDoorHmGr6
set_option linter.unusedVariables false
set_option linter.unusedSectionVars false
namespace Go.Proofs.YtihbbcealnnpiaaGreatDoor
section
def F6(x:i6):Bool:=decide (x.Op=1)
theorem Te{o a b:Int}(h:o≠1):¬F6 ⟨o,a,b⟩=true:=fun e=>h (D3 e)
def pI(l:List d7)(M:List i8)(i:Nat):i6:=match l[i]?,M[i]? with|some x,some m=>⟨1,m.Qs,x.Ls⟩|_,_=>⟨1,0,0⟩
theorem Sw{l:List d7}{M:List i8}{i:Nat}{x:d7}{m:i8}(hx:l[i]? =some x)(hm:M[i]? =some m):pI l M i=⟨1,m.Qs,x.Ls⟩:=by unfold pI;rw[hx,hm]
theorem a3t{T:List o0}{x:d7}{m:i8}{S S2:List Bs}{op arg:Int}(h:Aq T x m S=(op,arg,S2)):op≠1:=by
 have e:op=(Aq T x m S).1:=(by rw[h]);rw[e];unfold Aq
 repeat' split
 all_goals first|(simp;done)|(unfold eU;repeat' split;all_goals simp)
theorem Zl{l:List d7}{M:List i8}{T:List o0}{o:Nat}{ks:List Nat}{S S':List Bs}{c:List i6}(h:GX l M T o ks S c S'):c.filter F6=[]:=by
 induction h with
 |nil=>rfl
 |log o b st k0 k1 ks x S S1 S2 S3 a c d hx hk hn hs hks h0 h1 h2 i0 i1 i2=>have hp:F6 ⟨x.Ns-1,((o+a.length+1+c.length:Nat):Int),x.Ls⟩=false:=d9 (by simp only;omega);rw[List.filter_append,List.filter_cons_of_neg (by rw[hp];decide),List.filter_append,i0,i1,i2];rfl
 |oth o b st ks' es ks x m S S1 S2 S3 op arg a d hx hk hn hs hks hes hm h0 hl h2 i0 i2=>have hp:F6 ⟨op,arg,x.Ls⟩=false:=d9 (a3t hl);rw[List.filter_append,List.filter_cons_of_neg (by rw[hp];decide),i0,i2];rfl
theorem a8M{l:List d7}{M:List i8}{T:List o0}{o k:Nat}{ks:List Nat}{S S':List Bs}{c:List i6}(h:GX l M T o (k::ks) S c S'):∃x,l[k]? =some x∧21≤x.Ks∧x.Ks≤32:=by
 cases h with
 |log _ _ st k0 k1 _ x _ S1 S2 _ a c d hx hk hn hs hks h0 h1 h2=>exact⟨x,hx,by omega,by omega⟩
 |oth _ _ st ks' es _ x m _ S1 S2 _ op arg a d hx hk hn hs hks hes hm h0 hl h2=>exact⟨x,hx,hk⟩
theorem a8l{l:List d7}{M:List i8}{b:Nat}{x:d7}{m:i8}{es:List Nat}{t:List i6}(h:Af l M b x m es t):t.filter F6=[]∧(x.Ks=7∨x.Ks=8∨x.Ks=11∨x.Ks=12∨x.Ks=13):=by
 cases h with
 |var st k0 k1 hk hs hks=>exact⟨rfl,.inl hk⟩
 |set st k0 k1 y m0 is hk hs hks hy hyk hm0 hi=>
  refine⟨?_,.inr (.inl hk)⟩;unfold rA
  repeat' split
  all_goals rfl
 |ret0 hk hs=>exact⟨rfl,.inr (.inr (.inl hk))⟩
 |ret1 st hk hs hks=>exact⟨rfl,.inr (.inr (.inl hk))⟩
 |print st hk hs hks=>exact⟨rfl,.inr (.inr (.inr (.inl hk)))⟩
 |pop st m0 hk hs hks hm0 ht=>exact⟨rfl,.inr (.inr (.inr (.inr hk)))⟩
 |run st m0 hk hs hks hm0 ht=>exact⟨rfl,.inr (.inr (.inr (.inr hk)))⟩
section
variable{l:List d7}(hM:J9 l)(hl:l.length≤30000)(htx:∀n∈l,n.Ds.length≤65536)
include hM hl htx
theorem a66{ks:List Nat}{lo hi:Nat}(hK:Kc l lo hi ks)(h:∀p∈ks,14≤kd l p∧kd l p≤32):∀i,lo≤i→i<hi→kd l i<7∨13<kd l i:=by intro i h1 h2;obtain⟨p,hp,y,q,a1,a2,a3,a4,a5,a6⟩:=hK.cover i h1 h2;have hk:=h p hp;rw[p9 a1]at hk;have:=Ek hM hl htx _ p y q a1 a2 rfl hk i a3 a4;omega
theorem a3s{b q:Nat}{x:d7}(hx:l[b]? =some x)(hs:x.Cs=(q:Int)-(b+1))(hk:x.Ks=7∨x.Ks=8∨x.Ks=11∨x.Ks=12∨x.Ks=13):∀i,b+1≤i→i<q→kd l i<7∨13<kd l i:=by
 obtain⟨st,ks,t1,t2,t3,t4,t5,t6,t7⟩:=hM.nd b x hx;have e:st=q:=(by omega);subst e;refine a66 hM hl htx t5 fun p hp=>?_;have hm:E2 (kd l p)∈E5 l ks:=List.mem_map.2 ⟨p,hp,rfl⟩;have hs2:E2 (kd l p)=116∨E2 (kd l p)=101:=by
  rcases hk with c|c|c|c|c
  ·rw[t6.k7 c]at hm;simp at hm;exact hm
  ·rw[(t6.k8 c).1]at hm;simp at hm;exact .inr hm
  ·rcases t6.k11 c with e|e
   ·rw[e]at hm;exact nomatch hm
   ·rw[e]at hm;simp at hm;exact .inr hm
  ·rw[t6.k12 (.inl c)]at hm;simp at hm;exact .inr hm
  ·rw[(t6.k13 c).1]at hm;simp at hm;exact .inr hm
 rcases hs2 with e|e
 ·have:=S6 e;omega
 ·have:=I0 e;omega
theorem vS{M:List i8}{T:List o0}{o b q:Nat}{S S':List Bs}{c:List i6}(h:GX l M T o [b] S c S'){y:d7}(hy:l[b]? =some y)(hys:y.Cs=(q:Int)-(b+1)):stI l b q=[]:=by obtain⟨x,hx,h1,h2⟩:=a8M h;rw[hx]at hy;cases hy;refine Ep fun i a b=>?_;have:=Ek hM hl htx _ _ _ q hx hys rfl (by omega) i a b;omega
theorem BC{b:Nat}{x:d7}{st:Nat}{ks:List Nat}(hx:l[b]? =some x)(hs:x.Cs=(st:Int)-(b+1))(hk:x.Ks=9∨x.Ks=10)(hks:Kc l (b+1) st ks):∀p∈ks,kd l p<7∨13<kd l p:=by obtain⟨st',ks',t1,t2,t3,t4,t5,t6,t7⟩:=hM.nd b x hx;have e:st'=st:=(by omega);subst e;have:=t5.det hks;subst this;intro p hp;have:=BZ t6 (show 8≤x.Ks∧x.Ks≤13 by omega) p hp;omega
theorem b2R{M:List i8}{T:List o0}{o:Nat}{ks:List Nat}{S S':List Bs}{c:List i6}(h:GS l M T o ks S c S'):∀lo hi,Kc l lo hi ks→c.filter F6=(stI l lo hi).map (pI l M):=by
 have pt:∀(a b:Int),F6 ⟨1,a,b⟩=true:=fun a b=>rfl
 induction h with
 |nil o S=>intro lo hi hK;cases hK;rw[IJ];rfl
 |smp o b ks es x m S S1 S2 a t d hx hm hT h0 h2 i2=>
  intro lo hi hK;obtain⟨rfl,y,q,hy,hys,hq1,hq2,hrest⟩:=hK.first
  rw[hx]at hy;cases hy;obtain⟨u1,u2⟩:=a8l hT;have hkb:7≤kd l b∧kd l b≤13:=(by rw[p9 hx];omega);rw[R8 l (show b≤q by omega) hq2,Fr hkb hq1,Ep (a3s hM hl htx hx hys u2),List.filter_cons_of_pos (pt _ _),List.filter_append,List.filter_append,Zl h0,u1,i2 _ _ hrest,J4,J4,D9,List.map_cons,Sw hx hm];rfl
 |if2 o b st k1 ks ks1 x m S S1 S2 S3 a c d hx hm hk hs hks hb h0 h1 h2 i1 i2=>
  intro lo hi hK;obtain⟨rfl,y,q,hy,hys,hq1,hq2,hrest⟩:=hK.first
  rw[hx]at hy;cases hy;have est:st=q:=(by omega);subst est;have hb6:=BC hM hl htx hx hys (.inl hk) hks;obtain⟨_,y0,q0,hy0,hys0,hq01,hq02,hr0⟩:=hks.first
  obtain⟨ek1,y1,q1,hy1,hys1,hq11,hq12,hr1⟩:=hr0.first
  have e1:q1=st:=(by cases hr1;rfl);subst ek1;subst e1;obtain⟨z,q',hz,hzs,hK1⟩:=hb;rw[hy1]at hz;cases hz;have e2:q'=q1:=(by omega);subst e2;have hkb:7≤kd l b∧kd l b≤13:=(by rw[p9 hx];omega);rw[R8 l (show b≤q' by omega) hq2,Fr hkb hq1,R8 l (show b+1≤k1 by omega) (show k1≤q' by omega),vS hM hl htx h0 hy0 hys0,Hb (hb6 k1 (by simp)) hq11,
   List.filter_cons_of_pos (pt _ _),List.filter_append,List.filter_cons_of_neg (Te (by decide)),List.filter_append,Zl h0,i1 _ _ hK1,i2 _ _ hrest,J4,J4,D9,List.map_cons,Sw hx hm]
  rfl
 |if3 o b st k1 k2 ks ks1 ks2 x m S S1 S2 S3 S4 a c e d hx hm hk hs hks hb1 hb2 h0 h1 h3 h2 i1 i3 i2=>
  intro lo hi hK;obtain⟨rfl,y,q,hy,hys,hq1,hq2,hrest⟩:=hK.first
  rw[hx]at hy;cases hy;have est:st=q:=(by omega);subst est;have hb6:=BC hM hl htx hx hys (.inl hk) hks;obtain⟨_,y0,q0,hy0,hys0,hq01,hq02,hr0⟩:=hks.first
  obtain⟨ek1,y1,q1,hy1,hys1,hq11,hq12,hr1⟩:=hr0.first
  obtain⟨ek2,y2,q2,hy2,hys2,hq21,hq22,hr2⟩:=hr1.first
  have e1:q2=st:=(by cases hr2;rfl);subst ek1;subst ek2;subst e1;obtain⟨z,q',hz,hzs,hK1⟩:=hb1;rw[hy1]at hz;cases hz;have e2:k2=q':=(by omega);subst e2;obtain⟨z,q',hz,hzs,hK2⟩:=hb2;rw[hy2]at hz;cases hz;have e3:q'=q2:=(by omega);subst e3;have hkb:7≤kd l b∧kd l b≤13:=(by rw[p9 hx];omega);rw[R8 l (show b≤q' by omega) hq2,Fr hkb hq1,R8 l (show b+1≤k1 by omega) (show k1≤q' by omega),vS hM hl htx h0 hy0 hys0,R8 l (show k1≤k2 by omega) (show k2≤q' by omega),Hb (hb6 k1 (by simp)) hq11,Hb (hb6 k2 (by simp)) hq21,
   List.filter_cons_of_pos (pt _ _),List.filter_append,List.filter_cons_of_neg (Te (by decide)),List.filter_append,List.filter_cons_of_neg (Te (by decide)),List.filter_append,Zl h0,i1 _ _ hK1,i3 _ _ hK2,i2 _ _ hrest,J4,J4,D9,List.map_cons,D9,Sw hx hm,List.cons_append,G5]
 |whl o b st k1 ks ks1 x m S S1 S2 S3 a c d hx hm hk hs hks hb h0 h1 h2 i1 i2=>
  intro lo hi hK;obtain⟨rfl,y,q,hy,hys,hq1,hq2,hrest⟩:=hK.first
  rw[hx]at hy;cases hy;have est:st=q:=(by omega);subst est;have hb6:=BC hM hl htx hx hys (.inr hk) hks;obtain⟨_,y0,q0,hy0,hys0,hq01,hq02,hr0⟩:=hks.first
  obtain⟨ek1,y1,q1,hy1,hys1,hq11,hq12,hr1⟩:=hr0.first
  have e1:q1=st:=(by cases hr1;rfl);subst ek1;subst e1;obtain⟨z,q',hz,hzs,hK1⟩:=hb;rw[hy1]at hz;cases hz;have e2:q'=q1:=(by omega);subst e2;have hkb:7≤kd l b∧kd l b≤13:=(by rw[p9 hx];omega);rw[R8 l (show b≤q' by omega) hq2,Fr hkb hq1,R8 l (show b+1≤k1 by omega) (show k1≤q' by omega),vS hM hl htx h0 hy0 hys0,Hb (hb6 k1 (by simp)) hq11,
   List.filter_cons_of_pos (pt _ _),List.filter_append,List.filter_cons_of_neg (Te (by decide)),List.filter_append,List.filter_cons_of_neg (Te (by decide)),Zl h0,i1 _ _ hK1,i2 _ _ hrest,J4,J4,D9,List.map_cons,Sw hx hm]
  rfl
theorem b2H{M:List i8}{T:List o0}{A:Nat}{fs:List t8}{S S':List Bs}{I:List i6}{E:List y7}(h:GC l M T A fs S I E S')(hf:∀f∈fs,∀(k:Nat) (x:d7),f.Gs=(k:Int)→l[k]? =some x→x.Ks=4):∀(i:Nat) (f:t8),fs[i]? =some f→∃(k:Nat) (e:y7) (p B r:List i6),f.Gs=(k:Int)∧E[i]? =some e∧e.At=((A+p.length:Nat):Int)∧e.If=(B.length:Int)∧I=p++(B++r)∧B.filter F6=(stI l k (en l k)).map (pI l M):=by
 induction h with
 |nil=>intro i f h;simp at h
 |cons A k st bp f fs S S1 S2 x ks ks2 a I E hn hx hs hks hb hbd h0 h2 ih=>
  intro i g hg;cases i with
  |zero=>
   simp at hg;subst hg;refine⟨k,_,[],a++[⟨26,0,x.Ls⟩],I,hn,rfl,by simp,by simp,by simp,?_⟩;obtain⟨y,q,hy,hys,hK⟩:=hbd;have hx4:=hf f G0 k x hn hx;obtain⟨st',ks',t1,t2,t3,t4,t5,t6,t7⟩:=hM.nd k x hx;have est:st'=st:=(by omega);subst est;have:=t5.det hks;subst this;obtain⟨np,n1,n2,n3,n4,n5⟩:=Ju t6 hx4;obtain⟨c1,hc1,hKd⟩:=t5.drop (np+1) (by omega);have hl1:np+1<ks'.length:=(by omega);rw[J8 hl1,N3 (by omega)]at hKd;obtain⟨ek,y',q',hy',hys',hq1,hq2,hrest⟩:=hKd.first
   have hq:q'=st':=(by cases hrest;rfl);subst hq;have ebp:bp=c1:=by
    rw[List.getLast?_eq_getElem?,n1,show np+2-1=np+1 by omega,o5 hl1,ek]at hb;injection hb with hb
    exact hb.symm
   subst ebp;rw[hy']at hy;cases hy;have eq2:q=q':=(by omega);subst eq2;have hnone:∀i,k≤i→i<bp→kd l i<7∨13<kd l i:=fun i h1 h2=>by
    by_cases e:i=k
    ·rw[e,p9 hx];omega
    ·exact NI hM hl htx n3 n4 n1 t5 (fun _=>ek) i (by omega) h2 (by omega)
   have h6:=n5 hl1;rw[ek]at h6;rw[eX hx t1 t2,R8 l (show k≤bp by omega) (show bp≤q by omega),Ep hnone,Hb (.inl (by omega)) hq1,List.filter_append,b2R hM hl htx h0 _ _ hK,J4];exact O1 _
  |succ i=>
   obtain⟨k',e,p,B,r,g1,g2,g3,g4,g5,g6⟩:=ih (fun f hm=>hf f (H6 _ hm)) i g (by simpa using hg);refine⟨k',e,a++(⟨26,0,x.Ls⟩::p),B,r,g1,g2,?_,g4,?_,g6⟩
   ·rw[g3,o9,I5];congr 1;omega
   ·rw[g5,G5,List.cons_append]
end
end
end Go.Proofs.YtihbbcealnnpiaaGreatDoor

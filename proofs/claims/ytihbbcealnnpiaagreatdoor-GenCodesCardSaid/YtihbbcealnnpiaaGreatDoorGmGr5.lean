/- Parts of the proof. -/
import Derived.Test.YtihbbcealnnpiaaGreatDoorGmGr4
set_option linter.unusedVariables false
set_option linter.unusedSectionVars false
namespace Go.Proofs.YtihbbcealnnpiaaGreatDoor
section
theorem a3S(c:o9)(h1:c.Qs.length≤1000000000)(h2:c.As.length≤1000000000)(h3:c.Is.length≤1000000000):DT d5 c c=some ((true,()),()):=by
 have l4:∀(m i:Nat),c.Is.length-i=m→i≤c.Is.length→pP d5 c (i:Int) c=some ((true,()),()):=by
  intro m
  induction m with
  |zero=>intro i hm hi;rw[IC,Yw,d9 (by omega),f6,b1u,rQ]
  |succ m ih=>intro i hm hi;have hil:i<c.Is.length:=(by omega);rw[IC,Yw,f7 (by omega),f9,l5 hil,d6,d6,f7 rfl,A4,f6,z8 (by omega),ih (i+1) (by omega) (by omega)]
 have l2:∀(m i:Nat),c.As.length-i=m→i≤c.As.length→uA d5 c (i:Int) c=some ((true,()),()):=by
  intro m
  induction m with
  |zero=>intro i hm hi;rw[JR,Wm,d9 (by omega),f6,a2w,qL];exact l4 _ 0 rfl (D0 _)
  |succ m ih=>intro i hm hi;have hil:i<c.As.length:=(by omega);rw[JR,Wm,f7 (by omega),f9,l5 hil,d6,d6,f7 rfl,f7 rfl,f7 rfl,f7 rfl,f7 rfl];simp only[Bool.and_self,A4,f6];rw[z8 (by omega),ih (i+1) (by omega) (by omega)]
 have l0:∀(m i:Nat),c.Qs.length-i=m→i≤c.Qs.length→gZ d5 c (i:Int) c=some ((true,()),()):=by
  intro m
  induction m with
  |zero=>intro i hm hi;rw[KE,Xr,d9 (by omega),f6,a8p,qZ];exact l2 _ 0 rfl (D0 _)
  |succ m ih=>intro i hm hi;have hil:i<c.Qs.length:=(by omega);rw[KE,Xr,f7 (by omega),f9,l5 hil,d6,d6,f7 rfl,f7 rfl,f7 rfl];simp only[Bool.and_self,A4,f6];rw[z8 (by omega),ih (i+1) (by omega) (by omega)]
 rw[b0k,dM,f7 rfl,f7 rfl,f7 rfl,A4,f6,f6,f6];exact l0 _ 0 rfl (D0 _)
section
variable{l:List d7}{s:d8}{nr:Nat}{M:List i8}{n:Nat}(h:jR n l s nr M)(hn:n≤2900)
include h hn
set_option maxHeartbeats 2000000 in
theorem b12{A:Nat}{fs:List u9}{S S':List Bs}{I':List i5}{E':List B3}(hg:GC l M s.P.To A fs S I' E' S'):∀(i:Nat) (I:List i5) (E:List B3),s.P.As.drop i=fs→I.length=A→E.length≤100000→i≤s.P.As.length→E.length+fs.length≤100000→A+100000*fs.length≤70000000→S.length+40000*fs.length≤70000000→S.Nodup→Re d5 (prog s M) (i:Int) ⟨prog s M,S⟩ I E=sQ d5 ⟨prog s M,S'⟩ (I++I') (E++E'):=by
 have hG:=RU h hn;have hsm:=hG.small;have hnd:=hG.nodes;have hfn:=h.res.fn100
 induction hg with
 |nil A S=>intro i I E hd hA hE hi hEl hb hS hN;have hi2:s.P.As.length≤i:=List.drop_eq_nil_iff.1 hd;rw[HS,Ru,d9 (by show¬(i:Int)<(s.P.As.length:Int);omega),f6,J6,J6]
 |cons A k st bp f fs S S1 S2 x ks ks2 a I' E' hnk hx hs hks hb hbd h0 h2 ih=>
  intro i I E hd hA hE hi hEl hbb hS hN;obtain⟨d1,d2,d3⟩:=yY hd;rw[C9]at hEl hbb hS;have hmem:f∈s.P.As:=List.mem_of_mem_drop (i:=i) (by rw[hd];exact G8);obtain⟨k',st',np,bp',x',y',ks',a1,a2,a3,a4,a5,a6,a7,a8,b1,b2,b3,b4,b5,b6,b7,b8,b9,b10,e1,e2,e3⟩:=IT h hn hmem;have ek:k'=k:=(by omega);subst ek;rw[hx]at a2;cases a2;have est:st'=st:=(by omega);subst est;have:=a5.det hks;subst this;have ebp:bp'=bp:=(by rw[hb]at a7;injection a7 with a7;exact a7.symm);subst ebp;obtain⟨y,st2,hy,hys,hK⟩:=hbd;rw[b1]at hy;cases hy;have est2:st2=st':=(by omega);subst est2;have hkle:=hks.le;have hKle:=hK.le;have hl1:np+1<ks'.length:=(by omega);have hbp:ks'[np+1]=bp':=by rw[List.getLast?_eq_getElem?,a6,show np+2-1=np+1 from rfl,p9 hl1]at hb;injection hb
  obtain⟨z1,z2,_⟩:=h0.len _ _ hK;have ew:w64 (((i7 ks').length:Int)-1)=((np+1:Nat):Int):=(by rw[A1,wrap64 (by omega) (by omega)];omega);have hkid:J7 d5 l (k':Int)=some ((i7 ks',()),()):=N5 (by omega) hx hs b5 hks;have hR:=XO h hn hmem b5 e2;have hB:=Vh hG b1 hys b5 hK (a3O hG h0 _ _ hK b5 (hR.sub (by omega) (i4 _)) hN (by omega) (by omega));have last:∀r:Int,r=(if f.By=0 then 0 else 1)→dH d5 (prog s M) (i:Int) ((shf (-((0:Nat):Int)) a,⟨prog s M,S1⟩,()),()) I ((shf (-((0:Nat):Int)) (a++[⟨26,0,x.Ls⟩]),()),()) f r E=sQ d5 ⟨prog s M,S2⟩ (I++(a++(⟨26,0,x.Ls⟩::I'))) (E++(⟨A,(a.length:Int)+1,f.Es,f.Ss,if f.By=0 then 0 else 1⟩::E')):=by intro r hr;subst hr;have el:((shf (-((0:Nat):Int)) (a++[(⟨26,0,x.Ls⟩:i5)])).length:Int)=(a.length:Int)+1:=(by rw[J4];simp);have e0:shf (-((0:Nat):Int)) (a++[(⟨26,0,x.Ls⟩:i5)])=a++[⟨26,0,x.Ls⟩]:=a7j _;have hlen:(I++(a++[(⟨26,0,x.Ls⟩:i5)])).length=A+a.length+1:=(by simp;omega);have:=ih (i+1) (I++(a++[⟨26,0,x.Ls⟩])) (E++[⟨A,(a.length:Int)+1,f.Es,f.Ss,if f.By=0 then 0 else 1⟩]) d3 hlen (by simp;omega) (by omega) (by simp;omega) (by omega) (by omega) (h0.nodup hN);rw[b21,sT];simp only;rw[el,e0,hA,G9 (by decide) (by simp;omega),d6,G9 (by decide) (by simp;omega),d6,a5a,oK];simp only;rw[z8 (by omega),this];simp
  have hj:=j1 (o:=0) (u:=a) (op:=26) (A:=0) (A':=0) (ln:=x.Ls) (by omega) (.inl ⟨by omega,rfl⟩);rw[HS,Ru,f7 (by show(i:Int)<(s.P.As.length:Int);omega),f9,show f5 (prog s M).As (i:Int)=some f from d2,d6,hnk,hnd,hkid,d6];simp only;rw[ew,A5 hl1,d6,E5,B4 hl1,d6,hbp,hB,d6];simp only;rw[Q7 hnd _ _ _ hx,d6];simp only;rw[hj,d6];by_cases cr:f.By=0
  ·rw[f7 cr,A4,f6];exact last 0 (by rw[if_pos cr])
  ·rw[d9 cr,D6,f9];exact last 1 (by rw[if_neg cr])
theorem a5m{I:List i5}{E:List B3}{S:List Bs}(hg:GC l M s.P.To 0 s.P.As [] I E S):xP d5 (prog s M)=some (((⟨I,E,S⟩:o9),()),()):=by have hfn:=h.res.fn100;have:=b12 h hn hg 0 [] [] (R2) rfl (by simp) (D0 _) (by simp;omega) (by omega) (by simp;omega) List.nodup_nil;rw[b1d,lR,show Re d5 (prog s M) 0 (B8.mk (prog s M) ([]:List Bs)) [] []=_ from this,b0N,qK];rfl
end
end
end Go.Proofs.YtihbbcealnnpiaaGreatDoor

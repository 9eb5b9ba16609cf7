/- Parts of the proof. -/
import Derived.Test.YtihbbcealnnpiaaGreatDoorHmGp1
set_option linter.unusedVariables false
set_option linter.unusedSectionVars false
namespace Go.Proofs.YtihbbcealnnpiaaGreatDoor
section
def InB(c:l7)(i:Nat)(e:y7)(B:List i6):Prop:=c.As[i]? =some e∧∃p r:List i6,e.At=(p.length:Int)∧e.If=(B.length:Int)∧c.Is=p++(B++r)
theorem InB.sum{c:l7}{i:Nat}{e:y7}{B:List i6}(h:InB c i e B):0≤e.At∧0≤e.If∧e.At+e.If≤c.Is.length:=by obtain⟨_,p,r,h1,h2,h3⟩:=h;rw[h3];simp only[o9];omega
theorem InB.cut{c:l7}{i:Nat}{e:y7}{B:List i6}(h:InB c i e B):x6 c.Is e.At (e.At+e.If)=B:=by obtain⟨_,p,r,h1,h2,h3⟩:=h;unfold x6;rw[h1,h2,h3,show(((p.length:Int)+(B.length:Int))-(p.length:Int)).toNat=B.length by omega,E0,List.drop_left,List.take_left]
theorem InB.at{c:l7}{i:Nat}{e:y7}{B:List i6}(h:InB c i e B)(q:Nat)(hq:q<B.length):c.Is[(e.At+(q:Int)).toNat]? =some B[q]:=by obtain⟨_,p,r,h1,h2,h3⟩:=h;rw[h1,h3,show((p.length:Int)+(q:Int)).toNat=p.length+q by omega,Z5 (by omega),show p.length+q-p.length=q by omega,T0 hq,o5 hq]
section
variable{c:l7}(hc:c.Is.length≤100000000)(hf:c.As.length≤1000)
include hc hf
theorem b0C{i:Nat}{e:y7}{B:List i6}(hB:InB c i e B)(n:Int)(hno:∀x∈B,x.Op=1→x.A≠n):∀m q:Nat,B.length-q=m→Hx d5 n (i:Int) c (i:Int) e (q:Int)=EO d5 n c (i:Int):=by
 have hs:=hB.sum;have ecut:x6 c.Is e.At (w64 (e.At+e.If))=B:=(by rw[wrap64 (by omega) (by omega)];exact hB.cut);have hBl:B.length≤100000000:=by obtain⟨_,p,r,h1,h2,h3⟩:=hB;omega
 intro m
 induction m with
 |zero=>intro q hq;rw[qA,Kz,ecut,d9 (by omega)];rfl
 |succ m ih=>
  intro q hq;have hql:q<B.length:=(by omega);rw[qA,Kz,ecut,f6 (by omega),f9,l4 hql,d6,y9 (by omega),ih (q+1) (by omega)];by_cases h1:B[q].Op=1
  ·rw[f6 h1,d9 (hno _ (A4 hql) h1)];rfl
  ·rw[d9 h1];rfl
theorem b2V{i:Nat}{e:y7}{B:List i6}(hB:InB c i e B)(n:Int)(q:Nat)(hq:q<B.length)(h1:B[q].Op=1)(h2:B[q].A=n)(hno:∀(k:Nat) (hk:k<B.length),k<q→B[k].Op=1→B[k].A≠n):∀m k:Nat,q-k=m→k≤q→Hx d5 n (i:Int) c (i:Int) e (k:Int)=some (((i:Int),(q:Int),()),()):=by
 have hs:=hB.sum;have ecut:x6 c.Is e.At (w64 (e.At+e.If))=B:=(by rw[wrap64 (by omega) (by omega)];exact hB.cut);have hBl:B.length≤100000000:=by obtain⟨_,p,r,h1,h2,h3⟩:=hB;omega
 intro m
 induction m with
 |zero=>intro k hk hkq;have e:k=q:=(by omega);subst e;rw[qA,Kz,ecut,f6 (by omega),f9,l4 hq,d6,f6 h1,f6 h2];rfl
 |succ m ih=>
  intro k hk hkq;have hkl:k<B.length:=(by omega);rw[qA,Kz,ecut,f6 (by omega),f9,l4 hkl,d6,y9 (by omega),ih (k+1) (by omega) (by omega)];by_cases h:B[k].Op=1
  ·rw[f6 h,d9 (hno k hkl (by omega) h)];rfl
  ·rw[d9 h];rfl
theorem WL{i:Nat}{e:y7}{B:List i6}(hB:InB c i e B)(n:Int):Lg d5 n c (i:Int)=Hx d5 n (i:Int) c (i:Int) e 0:=by have hs:=hB.sum;have hil:=(l3.1 hB.1).1;have hie:=(l3.1 hB.1).2;rw[PA,Wx,f6 (by omega),f9,l4 hil,d6,hie,T7 ⟨hs.1,by rw[wrap64 (by omega) (by omega)];omega,by rw[wrap64 (by omega) (by omega)];omega⟩,d6]
theorem LV(n:Int)(i:Nat)(hi:i≤c.As.length)(hno:∀j,j<i→∃e B,InB c j e B∧∀x∈B,x.Op=1→x.A≠n):Mz d5 c n=Lg d5 n c (i:Int):=by
 have key:∀m j:Nat,i-j=m→j≤i→Lg d5 n c (j:Int)=Lg d5 n c (i:Int):=by
  intro m
  induction m with
  |zero=>intro j h1 h2;rw[show j=i by omega]
  |succ m ih=>intro j h1 h2;obtain⟨e,B,hB,hn⟩:=hno j (by omega);rw[WL hc hf hB n,show Hx d5 n (j:Int) c (j:Int) e 0=_ from b0C hc hf hB n hn _ 0 rfl,a32,pF,y9 (by omega),ih (j+1) (by omega) (by omega)]
 rw[a6f,cP];exact key _ 0 rfl (C9 _)
theorem a3H(n:Int){i:Nat}{e:y7}{B:List i6}(hno:∀j,j<i→∃e B,InB c j e B∧∀x∈B,x.Op=1→x.A≠n)(hB:InB c i e B)(q:Nat)(hq:q<B.length)(h1:B[q].Op=1)(h2:B[q].A=n)(hno2:∀(k:Nat) (hk:k<B.length),k<q→B[k].Op=1→B[k].A≠n):Mz d5 c n=some (((i:Int),(q:Int),()),()):=by have hil:=(l3.1 hB.1).1;rw[LV hc hf n i (by omega) hno,WL hc hf hB n];exact b2V hc hf hB n q hq h1 h2 hno2 _ 0 rfl (C9 _)
theorem a9H(n:Int)(hno:∀j,j<c.As.length→∃e B,InB c j e B∧∀x∈B,x.Op=1→x.A≠n):Mz d5 c n=some (((-1),(-1),()),()):=by rw[LV hc hf n _ (i4 _) hno,PA,Wx,d9 (by omega),f8,a5d,nI]
end
end
end Go.Proofs.YtihbbcealnnpiaaGreatDoor

/- Parts of the proof. -/
import Derived.Test.YtihbbcealnnpiaaGreatDoorHmRs4
set_option linter.unusedVariables false
namespace Go.Proofs.YtihbbcealnnpiaaGreatDoor
def Uu(d:Int)(x:i6):i6:=if 11≤x.Op∧x.Op≤14 then⟨x.Op,x.A+d,x.Ls⟩else x
def shf(d:Int)(r:List i6):List i6:=r.map (Uu d)
theorem uF(d:Int):shf d []=[]:=rfl
theorem EE(d:Int)(r:List i6):(shf d r).length=r.length:=E1 _
theorem b0G(d:Int)(a b:List i6):shf d (a++b)=shf d a++shf d b:=D9
theorem yY(d:Int)(x:i6)(b:List i6):shf d (x::b)=Uu d x::shf d b:=rfl
theorem TE{d op A ln:Int}(h:11≤op∧op≤14):Uu d ⟨op,A,ln⟩=⟨op,A+d,ln⟩:=if_pos h
theorem YC{d op A ln:Int}(h:op<11∨14<op):Uu d ⟨op,A,ln⟩=⟨op,A,ln⟩:=if_neg (show¬(11≤op∧op≤14) by omega)
def JB(r:List i6):Prop:=∀x∈r,11≤x.Op→x.Op≤14→ -200000≤x.A∧x.A≤200000
theorem b3J(b:List i6)(d:Int)(hb:b.length≤1000000)(hd: -1000000≤d∧d≤1000000)(hJ:JB b):∀(n i:Nat) (out:List i6),b.length-i=n→i≤b.length→out.length+n≤1000000→iD d5 b d (i:Int) out=some ((out++shf d (b.drop i),()),()):=by
 intro n
 induction n with
 |zero=>intro i out hn hi ho;rw[MT,Tw,d9 (by omega),f8,a9W,iU,N3 (by omega),uF,O1]
 |succ n ih=>
  intro i out hn hi ho;have hil:i<b.length:=(by omega);have hj:=hJ b[i] (A4 hil);have j1:∀A,Sk d5 b d (i:Int) b[i] A out=some ((out++((⟨b[i].Op,A,b[i].Ls⟩:i6)::shf d (b.drop (i+1))),()),()):=by intro A;rw[b1b,qC,H8 (by decide) (by simp;omega),d6,a4k,pZ,y9 (by omega),ih (i+1) _ (by omega) (by omega) (by simp;omega),G5];rfl
  rw[MT,Tw,f6 (by omega),f9,l4 hil,d6,j1,j1,J8 hil,yY];unfold Uu;by_cases c1:11≤b[i].Op
  ·rw[f6 (show b[i].Op≥11 from c1),f9];by_cases c2:b[i].Op≤14
   ·have:=hj c1 c2;rw[f6 c2,f9,if_pos ⟨c1,c2⟩,wrap64 (by omega) (by omega)]
   ·rw[d9 c2,f8,if_neg (fun h=>c2 h.2)]
  ·rw[d9 (show¬b[i].Op≥11 from c1),f8,if_neg (fun h=>c1 h.1)]
theorem a1y{a b:List i6}(h:a.length+b.length≤1000000)(hJ:JB b):E8 d5 a b=some ((a++shf a.length b,()),()):=by
 have hm:BO d5 b (a.length:Int)=some ((shf a.length b,()),()):=by rw[a6q,pK];exact b3J b _ (by omega) ⟨by omega,by omega⟩ hJ _ 0 [] rfl (C9 _) (by simp;omega)
 rw[b2N,kI,H8 (by decide) (by simp;omega),d6,hm,d6,J4];simp only;rw[H8 (by decide) (by rw[EE];omega),d6]
theorem JB.one{op A ln:Int}(h:(op<11∨14<op)∨(-200000≤A∧A≤200000)):JB [(⟨op,A,ln⟩:i6)]:=by intro x hx;rw[O0]at hx;subst hx;intro h1 h2;simp only at h1 h2⊢;omega
theorem JB.nil:JB []:=fun x hx=>nomatch hx
def JI(o n:Nat)(c:List i6):Prop:=∀x∈c,11≤x.Op→x.Op≤14→(o:Int)≤x.A∧x.A≤n
theorem JI.mono{o n o' n':Nat}{c:List i6}(h:JI o n c)(h1:o'≤o)(h2:n≤n'):JI o' n' c:=fun x hx a b=>by have:=h x hx a b;omega
theorem JI.app{o n:Nat}{a c:List i6}(h:JI o n a)(h':JI o n c):JI o n (a++c):=fun x hx=>(A7.1 hx).elim (h x) (h' x)
theorem JI.cons{o n:Nat}{y:i6}{c:List i6}(h:(y.Op<11∨14<y.Op)∨((o:Int)≤y.A∧y.A≤n))(h':JI o n c):JI o n (y::c):=fun x hx=>(F9.1 hx).elim (fun e=>by subst e;omega) (h' x)
theorem JI.nil{o n:Nat}:JI o n []:=fun x hx=>nomatch hx
end Go.Proofs.YtihbbcealnnpiaaGreatDoor

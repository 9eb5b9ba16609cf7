/- Parts of the proof. -/
import Derived.Test.YtihbbcealnnpiaaGreatDoorHmGr1
set_option linter.unusedVariables false
set_option linter.unusedSectionVars false
namespace Go.Proofs.YtihbbcealnnpiaaGreatDoor
section
theorem j1{o:Nat}{u:List i6}{op A A' ln:Int}(hl:u.length+1≤1000000)(h:(op<11∨14<op)∧A'=A∨(11≤op∧op≤14)∧A'=A+u.length+o∧ -200000≤A∧A≤200000):E8 d5 (shf (-(o:Int)) u) [⟨op,A,ln⟩]=some ((shf (-(o:Int)) (u++[⟨op,A',ln⟩]),()),()):=by
 rw[a1y (by rw[EE,A3];exact hl) (.one (by omega)),EE,b0G,yY,yY,uF,uF];rcases h with⟨h1,rfl⟩|⟨h1,rfl,_⟩
 ·rw[YC h1,YC h1]
 ·rw[TE h1,TE h1,show A+(u.length:Int)+o+ -(o:Int)=A+u.length by omega]
theorem GX.split{l:List d7}{M:List i8}{T:List o0}{ks:List Nat}{S':List Bs}:∀{js:List Nat} {o:Nat} {S:List Bs} {c:List i6},GX l M T o (js++ks) S c S'→∃a d S1,c=a++d∧GX l M T o js S a S1∧GX l M T (o+a.length) ks S1 d S':=by
 intro js
 induction js with
 |nil=>intro o S c h;exact⟨[],c,S,rfl,.nil _ _,h⟩
 |cons b js ih=>
  intro o S c h;rw[List.cons_append]at h;cases h with
  |log _ _ st k0 k1 _ x _ T1 T2 _ a c' d hx hk hn hs hks h0 h1 h2=>
   obtain⟨u,v,S1,rfl,w1,w2⟩:=ih h2;refine⟨_,v,S1,?_,.log o b st k0 k1 js x S T1 T2 S1 a c' u hx hk hn hs hks h0 h1 w1,?_⟩
   ·simp
   ·have e:o+(a++((⟨x.Ns-1,((o+a.length+1+c'.length:Nat):Int),x.Ls⟩:i6)::(c'++u))).length=o+a.length+1+c'.length+u.length:=(by simp;omega);rw[e];exact w2
  |oth _ _ st ks' es _ x m _ T1 T2 _ op arg a d hx hk hn hs hks hes hm h0 hl h2=>
   obtain⟨u,v,S1,rfl,w1,w2⟩:=ih h2;refine⟨_,v,S1,?_,.oth o b st ks' es js x m S T1 T2 S1 op arg a u hx hk hn hs hks hes hm h0 hl w1,?_⟩
   ·simp
   ·have e:o+(a++((⟨op,arg,x.Ls⟩:i6)::u)).length=o+a.length+1+u.length:=(by simp;omega);rw[e];exact w2
section
variable{l:List d7}{P:l9}(hG:GEn l P)
include hG
end
end
end Go.Proofs.YtihbbcealnnpiaaGreatDoor

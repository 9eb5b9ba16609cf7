/- Parts of the proof. -/
import Derived.Test.YtihbbcealnnpiaaGreatDoorImGr6
set_option linter.unusedVariables false
set_option linter.unusedSectionVars false
namespace Go.Proofs.YtihbbcealnnpiaaGreatDoor
section
theorem a8F{B:List p8}{q:Nat}(C:q<B.length):((B.take (q+1)).filter Dz).length=((B.take q).filter Dz).length+(if B[q].Op=1 then 1 else 0):=by
 rw[List.take_add_one,w9 C,List.filter_append,t8];congr 1;show([B[q]].filter Dz).length=_;by_cases h:B[q].Op=1
 ·have z:Dz B[q]=true:=f6 h;rw[if_pos h,List.filter_cons_of_pos z];rfl
 ·have z:¬Dz B[q]=true:=λe=>h (F3 e);rw[if_neg h,List.filter_cons_of_neg z];rfl
structure FH(c:s8)(P:List Q8)(off:Nat->Nat):Prop where
 len:c.On.length<=100000000
 fns:c.As.length<=1000
 zero:off 0=0
 tot:off c.As.length=P.length
 b:∀i,i<c.As.length->∃e B,InB c i e B/\off (i+1)=off i+(B.filter Dz).length/\∀(q:Nat) (hq:q<B.length),B[q].Op=1->B[q].A=((off i+((B.take q).filter Dz).length:Nat):Int)/\∃pt,P[off i+((B.take q).filter Dz).length]? =some pt/\pt.Fn=(i:Int)/\pt.Ls=B[q].Ls
section
variable{l:List d7}{s:d8}{nr:Nat}{M:List l8}{n:Nat}(h:Ni n l s nr M)(hn:n<=2900)
include h hn
end
section
variable{c:s8}{P:w8}{off:Nat->Nat}(h:FH c P.Do off)
include h
theorem FH.mono{i j:Nat}(z:i<=j)(C:j<=c.As.length):off i<=off j:=by
 induction j with
 |zero=>rw[show i=0 by omega];exact l5 _
 |succ j ih=>
  by_cases e:i=j+1
  ·rw[e];exact l5 _
  ·obtain⟨e,B,G,F,_⟩:=h.b j (by omega);have:=ih (by omega) (by omega);omega
omit h in
theorem b3W(B:List p8){p q:Nat}(z:p<=q):((B.take p).filter Dz).length<=((B.take q).filter Dz).length:=by obtain⟨d,rfl⟩:=Nat.exists_eq_add_of_le z;rw[List.take_add,List.filter_append,t8];omega
theorem FH.before{i n:Nat}(hi:i<=c.As.length)(hn:off i<=n):∀j,j<i->∃e B,InB c j e B/\∀x∈B,x.Op=1->x.A≠(n:Int):=by intro j N;obtain⟨e,B,I,J,F⟩:=h.b j (by omega);refine⟨e,B,I,λx hx C=>?_⟩;obtain⟨q,z,rfl⟩:=List.getElem_of_mem hx;obtain⟨K,_⟩:=F q z C;have G:=a8F z;rw[if_pos C]at G;have H:=b3W B (p:=q+1) (q:=B.length) (by omega);rw[List.take_length]at H;have L:=h.mono (i:=j+1) (j:=i) (by omega) hi;omega
end
end
end Go.Proofs.YtihbbcealnnpiaaGreatDoor

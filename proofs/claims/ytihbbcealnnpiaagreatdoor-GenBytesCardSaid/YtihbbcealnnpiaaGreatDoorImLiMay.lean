/- Parts of the proof. -/
import Derived.Test.YtihbbcealnnpiaaGreatDoorImMT
import Derived.Test.YtihbbcealnnpiaaGreatDoorImML
set_option linter.unusedVariables false
namespace Go.Proofs.YtihbbcealnnpiaaGreatDoor
def Nv(x:p8):Bool:=decide (1<=x.Op)&&(decide (x.Op<=26)&&(decide (0<=x.Ls)&&decide (x.Ls<=2147483647)))
theorem b2f(c:s8)(F:c.On.length<=65536):∀(m i:Nat),c.On.length-i=m->Zk c (i:Int)=if(c.On.drop i).all Nv=true then IJ c else some ((false,()),()):=by
 intro m
 induction m with
 |zero=>intro i B;rw[UK,d9 (by omega),R3 (by omega)];rfl
 |succ m ih=>
  intro i B;have hi:i<c.On.length:=(by omega);have C:w64 ((i:Int)+1)=((i+1:Nat):Int):=(by rw[wrap64 (by omega) (by omega)];omega);rw[UK,f6 (by omega),p9 hi,C,ih (i+1) (by omega),P0 hi,List.all_cons];generalize c.On[i]=x at*;generalize (c.On.drop (i+1)).all Nv=z;simp only[d6,Nv,Bool.cond_eq_ite,decide_eq_true_eq,x7];cases z<;>simp only[Bool.false_eq_true,and_false,and_true,if_false,if_true]
  all_goals repeat' split
  all_goals first|rfl|(exfalso;omega)
def Gp:List (b6H)->Int
 | []=>0
 |s::l=>(s.length:Int)+Gp l
theorem LQ(s:b6H)(l:List (b6H)):Gp (s::l)=(s.length:Int)+Gp l:=rfl
theorem SU:∀l:List (b6H),0<=Gp l
 | []=>R4 _
 |s::l=>by have:=SU l;unfold Gp;omega
theorem b3B(c:s8)(H:c.Us.length<=65536):∀(m i:Nat) (left:Int),c.Us.length-i=m->0<=left->left<=1048576->Wo left c (i:Int)=some ((decide (Gp (c.Us.drop i)<=left),()),()):=by
 intro m
 induction m with
 |zero=>intro i left B h0 F;rw[YI,d9 (by omega),R3 (by omega),a5w,f6 (show Gp []<=left from h0)];rfl
 |succ m ih=>
  intro i left B h0 F;have hi:i<c.Us.length:=(by omega);have C:w64 ((i:Int)+1)=((i+1:Nat):Int):=(by rw[wrap64 (by omega) (by omega)];omega);rw[YI,f6 (by omega),p9 hi,C,P0 hi];simp only[l6,d6];have G:=SU (c.Us.drop (i+1));by_cases z:((c.Us[i]).length:Int)>left
  ·rw[f6 z,d9 (show¬Gp (c.Us[i]::c.Us.drop (i+1))<=left by rw[LQ];omega)];rfl
  ·rw[d9 z,f9,wrap64 (by omega) (by omega),ih (i+1) _ (by omega) (by omega) (by omega)];congr 4;rw[LQ];exact propext ⟨λh=>by omega,λh=>by omega⟩
def Oa(f:D7)(a:Int):Prop:=f.At=a/\0<=f.In/\0<=f.Ps/\f.Ps<=f.Ss/\f.Ss<=200/\0<=f.By/\f.By<=1
instance(f:D7)(a:Int):Decidable (Oa f a):=by unfold Oa;infer_instance
def Gq(n:Int):Int->List D7->Option Int
 |a,[]=>some a
 |a,f::l=>if Oa f a/\f.In<=n-a then Gq n (a+f.In) l else none
theorem a2X(n a:Int)(f:D7)(l:List D7):Gq n a (f::l)=if Oa f a/\f.In<=n-a then Gq n (a+f.In) l else none:=rfl
theorem a2u(c:s8)(O:c.As.length<=100)(M:c.On.length<=65536):∀(m i:Nat) (a:Int),c.As.length-i=m->0<=a->a<=c.On.length->Uf a c (i:Int)=match Gq c.On.length a (c.As.drop i)with|some e=>vZ e c|none=>some ((false,()),()):=by
 intro m
 induction m with
 |zero=>intro i a C h0 z;rw[RL,d9 (by omega),R3 (by omega)];rfl
 |succ m ih=>
  intro i a C h0 z;have hi:i<c.As.length:=(by omega);have F:w64 ((i:Int)+1)=((i+1:Nat):Int):=(by rw[wrap64 (by omega) (by omega)];omega);have B:w64 ((c.On.length:Int)-a)=(c.On.length:Int)-a:=wrap64 (by omega) (by omega);rw[RL,f6 (by omega),p9 hi,F,B,P0 hi,a2X];generalize c.As[i]=x;simp only[l6,d6];by_cases hx:Oa x a/\x.In<=(c.On.length:Int)-a
  ·rw[if_pos hx,<-ih (i+1) (a+x.In) (by omega) (by have:=hx.1.2.1;omega) (by have:=hx.2;omega)];obtain⟨⟨L,H,P,K,N,G,I⟩,J⟩:=hx;rw[wrap64 (n:=a+x.In) (by omega) (by omega)];simp only[Bool.cond_eq_ite,decide_eq_true_eq,Bool.not_eq_true',decide_eq_false_iff_not]
   repeat' split
   all_goals first|rfl|(exfalso;omega)
  ·rw[if_neg hx];unfold Oa at hx;simp only[Bool.cond_eq_ite,decide_eq_true_eq,Bool.not_eq_true',decide_eq_false_iff_not]
   repeat' split
   all_goals first|rfl|(exfalso;omega)
theorem b2i(c:s8)(c2:c.On.length<=65536)(c3:c.Us.length<=65536)(e:Int):vZ e c=some ((decide (e=(c.On.length:Int))&&(c.On.all Nv&&decide (Gp c.Us<=1048576)),()),()):=by
 have z:=b2f c c2 _ 0 rfl;have B:=b3B c c3 _ 0 1048576 rfl (by omega) (by omega);rw[b5h];by_cases h:e=(c.On.length:Int)
 ·rw[f6 h];simp only[B8,f9,Bool.true_and];rw[show Zk c 0=_ from z,W3];cases c.On.all Nv with
  |true=>rw[if_pos rfl,b0b,show Wo 1048576 c 0=_ from B,W3];rfl
  |false=>rfl
 ·rw[d9 h];rfl
def Jq(c:s8):Bool:=decide (c.As.length<=100)&&(decide (c.On.length<=65536)&&(decide (c.Us.length<=65536)&&(match Gq c.On.length 0 c.As with
 |some e=>decide (e=(c.On.length:Int))&&(c.On.all Nv&&decide (Gp c.Us<=1048576))
 |none=>false)))
theorem b2V(c:s8):TL c=some ((Jq c,()),()):=by
 unfold Jq;rw[a32];by_cases c1:c.As.length<=100
 ·rw[d9 (by omega:¬(c.As.length:Int)>100),f6 c1];by_cases c2:c.On.length<=65536
  ·rw[d9 (by omega:¬(c.On.length:Int)>65536),f6 c2];by_cases c3:c.Us.length<=65536
   ·rw[d9 (by omega:¬(c.Us.length:Int)>65536),f6 c3];simp only[f9,Bool.true_and];rw[show Uf 0 c 0=_ from a2u c c1 c2 _ 0 0 rfl (R4 _) (by omega),W3];cases Gq c.On.length 0 c.As with
    |none=>rfl
    |some e=>exact b2i c c2 c3 e
   ·rw[f6 (by omega:(c.Us.length:Int)>65536),d9 c3];rfl
  ·rw[f6 (by omega:(c.On.length:Int)>65536),d9 c2];rfl
 ·rw[f6 (by omega:(c.As.length:Int)>100),d9 c1];rfl
theorem a62(c:s8):FnP Tryz.prog 24 [Ca c] (aB (Jq c)):=b5M (by
 rw[b5b];exact a4w (b2V c) rfl)
end Go.Proofs.YtihbbcealnnpiaaGreatDoor

/- Parts of the proof. -/
import Derived.Test.YtihbbcealnnpiaaGreatDoorHmMT
import Derived.Test.YtihbbcealnnpiaaGreatDoorHmML
set_option linter.unusedVariables false
namespace Go.Proofs.YtihbbcealnnpiaaGreatDoor
def Km(x:i6):Bool:=decide (1≤x.Op)&&(decide (x.Op≤26)&&(decide (0≤x.Ls)&&decide (x.Ls≤2147483647)))
theorem a9Z(c:l7)(hc:c.Is.length≤65536):∀(m i:Nat),c.Is.length-i=m→Wj c (i:Int)=if(c.Is.drop i).all Km=true then EG c else some ((false,()),()):=by
 intro m
 induction m with
 |zero=>intro i hm;rw[QU,d9 (by omega),N3 (by omega)];rfl
 |succ m ih=>
  intro i hm;have hi:i<c.Is.length:=(by omega);have e1:w64 ((i:Int)+1)=((i+1:Nat):Int):=(by rw[wrap64 (by omega) (by omega)];omega);rw[QU,f6 (by omega),l4 hi,e1,ih (i+1) (by omega),J8 hi,List.all_cons];generalize c.Is[i]=x at*;generalize (c.Is.drop (i+1)).all Km=z;simp only[d6,Km,Bool.cond_eq_ite,decide_eq_true_eq,w8];cases z<;>simp only[Bool.false_eq_true,and_false,and_true,if_false,if_true]
  all_goals repeat' split
  all_goals first|rfl|(exfalso;omega)
def Dh:List (b38)→Int
 | []=>0
 |s::l=>(s.length:Int)+Dh l
theorem HU(s:b38)(l:List (b38)):Dh (s::l)=(s.length:Int)+Dh l:=rfl
theorem PJ:∀l:List (b38),0≤Dh l
 | []=>P4 _
 |s::l=>by have:=PJ l;unfold Dh;omega
theorem b1g(c:l7)(hc:c.Js.length≤65536):∀(m i:Nat) (left:Int),c.Js.length-i=m→0≤left→left≤1048576→Th left c (i:Int)=some ((decide (Dh (c.Js.drop i)≤left),()),()):=by
 intro m
 induction m with
 |zero=>intro i left hm h0 h1;rw[UY,d9 (by omega),N3 (by omega),a3T,f6 (show Dh []≤left from h0)];rfl
 |succ m ih=>
  intro i left hm h0 h1;have hi:i<c.Js.length:=(by omega);have e1:w64 ((i:Int)+1)=((i+1:Nat):Int):=(by rw[wrap64 (by omega) (by omega)];omega);rw[UY,f6 (by omega),l4 hi,e1,J8 hi];simp only[f9,d6];have hs:=PJ (c.Js.drop (i+1));by_cases hl:((c.Js[i]).length:Int)>left
  ·rw[f6 hl,d9 (show¬Dh (c.Js[i]::c.Js.drop (i+1))≤left by rw[HU];omega)];rfl
  ·rw[d9 hl,f8,wrap64 (by omega) (by omega),ih (i+1) _ (by omega) (by omega) (by omega)];congr 4;rw[HU];exact propext ⟨fun h=>by omega,fun h=>by omega⟩
def Ku(f:y7)(a:Int):Prop:=f.At=a∧0≤f.If∧0≤f.Es∧f.Es≤f.Ss∧f.Ss≤200∧0≤f.By∧f.By≤1
instance(f:y7)(a:Int):Decidable (Ku f a):=by unfold Ku;infer_instance
def Di(n:Int):Int→List y7→Option Int
 |a,[]=>some a
 |a,f::l=>if Ku f a∧f.If≤n-a then Di n (a+f.If) l else none
theorem a1q(n a:Int)(f:y7)(l:List y7):Di n a (f::l)=if Ku f a∧f.If≤n-a then Di n (a+f.If) l else none:=rfl
theorem a0X(c:l7)(hc:c.As.length≤100)(hn:c.Is.length≤65536):∀(m i:Nat) (a:Int),c.As.length-i=m→0≤a→a≤c.Is.length→Qt a c (i:Int)=match Di c.Is.length a (c.As.drop i)with|some e=>sU e c|none=>some ((false,()),()):=by
 intro m
 induction m with
 |zero=>intro i a hm h0 h1;rw[NY,d9 (by omega),N3 (by omega)];rfl
 |succ m ih=>
  intro i a hm h0 h1;have hi:i<c.As.length:=(by omega);have e1:w64 ((i:Int)+1)=((i+1:Nat):Int):=(by rw[wrap64 (by omega) (by omega)];omega);have e2:w64 ((c.Is.length:Int)-a)=(c.Is.length:Int)-a:=wrap64 (by omega) (by omega);rw[NY,f6 (by omega),l4 hi,e1,e2,J8 hi,a1q];generalize c.As[i]=x;simp only[f9,d6];by_cases hx:Ku x a∧x.If≤(c.Is.length:Int)-a
  ·rw[if_pos hx,←ih (i+1) (a+x.If) (by omega) (by have:=hx.1.2.1;omega) (by have:=hx.2;omega)];obtain⟨⟨g1,g2,g3,g4,g5,g6,g7⟩,g8⟩:=hx;rw[wrap64 (n:=a+x.If) (by omega) (by omega)];simp only[Bool.cond_eq_ite,decide_eq_true_eq,Bool.not_eq_true',decide_eq_false_iff_not]
   repeat' split
   all_goals first|rfl|(exfalso;omega)
  ·rw[if_neg hx];unfold Ku at hx;simp only[Bool.cond_eq_ite,decide_eq_true_eq,Bool.not_eq_true',decide_eq_false_iff_not]
   repeat' split
   all_goals first|rfl|(exfalso;omega)
theorem a91(c:l7)(c2:c.Is.length≤65536)(c3:c.Js.length≤65536)(e:Int):sU e c=some ((decide (e=(c.Is.length:Int))&&(c.Is.all Km&&decide (Dh c.Js≤1048576)),()),()):=by
 have q1:=a9Z c c2 _ 0 rfl;have q2:=b1g c c3 _ 0 1048576 rfl (by omega) (by omega);rw[b2O];by_cases h:e=(c.Is.length:Int)
 ·rw[f6 h];simp only[A2,f8,Bool.true_and];rw[show Wj c 0=_ from q1,T4];cases c.Is.all Km with
  |true=>rw[if_pos rfl,a8b,show Th 1048576 c 0=_ from q2,T4];rfl
  |false=>rfl
 ·rw[d9 h];rfl
def Gh(c:l7):Bool:=decide (c.As.length≤100)&&(decide (c.Is.length≤65536)&&(decide (c.Js.length≤65536)&&(match Di c.Is.length 0 c.As with
 |some e=>decide (e=(c.Is.length:Int))&&(c.Is.all Km&&decide (Dh c.Js≤1048576))
 |none=>false)))
theorem b0E(c:l7):PX c=some ((Gh c,()),()):=by
 unfold Gh;rw[a2p];by_cases c1:c.As.length≤100
 ·rw[d9 (by omega:¬(c.As.length:Int)>100),f6 c1];by_cases c2:c.Is.length≤65536
  ·rw[d9 (by omega:¬(c.Is.length:Int)>65536),f6 c2];by_cases c3:c.Js.length≤65536
   ·rw[d9 (by omega:¬(c.Js.length:Int)>65536),f6 c3];simp only[f8,Bool.true_and];rw[show Qt 0 c 0=_ from a0X c c1 c2 _ 0 0 rfl (P4 _) (by omega),T4];cases Di c.Is.length 0 c.As with
    |none=>rfl
    |some e=>exact a91 c c2 c3 e
   ·rw[f6 (by omega:(c.Js.length:Int)>65536),d9 c3];rfl
  ·rw[f6 (by omega:(c.Is.length:Int)>65536),d9 c2];rfl
 ·rw[f6 (by omega:(c.As.length:Int)>100),d9 c1];rfl
theorem a5i(c:l7):FnP Tryz.prog 24 [Ib c] (aB (Gh c)):=b3h (by
 rw[b2F];exact a2W (b0E c) rfl)
end Go.Proofs.YtihbbcealnnpiaaGreatDoor

/- Parts of the proof. -/
import Derived.Test.YtihbbcealnnpiaaGreatDoorGmMT
import Derived.Test.YtihbbcealnnpiaaGreatDoorGmML
set_option linter.unusedVariables false
namespace Go.Proofs.YtihbbcealnnpiaaGreatDoor
def Kx(x:i5):Bool:=decide (1≤x.Op)&&(decide (x.Op≤26)&&(decide (0≤x.Ls)&&decide (x.Ls≤2147483647)))
theorem a91(c:o9)(hc:c.Qs.length≤65536):∀(m i:Nat),c.Qs.length-i=m→Xd c (i:Int)=if(c.Qs.drop i).all Kx=true then FJ c else some ((false,()),()):=by
 intro m
 induction m with
 |zero=>intro i hm;rw[RM,d9 (by omega),N1 (by omega)];rfl
 |succ m ih=>
  intro i hm;have hi:i<c.Qs.length:=(by omega);have e1:w64 ((i:Int)+1)=((i+1:Nat):Int):=(by rw[wrap64 (by omega) (by omega)];omega);rw[RM,f7 (by omega),l5 hi,e1,ih (i+1) (by omega),L4 hi,List.all_cons];generalize c.Qs[i]=x at*;generalize (c.Qs.drop (i+1)).all Kx=z;simp only[d6,Kx,Bool.cond_eq_ite,decide_eq_true_eq,w9];cases z<;>simp only[Bool.false_eq_true,and_false,and_true,if_false,if_true]
  all_goals repeat' split
  all_goals first|rfl|(exfalso;omega)
def Dn:List (b36)→Int
 | []=>0
 |s::l=>(s.length:Int)+Dn l
theorem IZ(s:b36)(l:List (b36)):Dn (s::l)=(s.length:Int)+Dn l:=rfl
theorem QB:∀l:List (b36),0≤Dn l
 | []=>O7 _
 |s::l=>by have:=QB l;unfold Dn;omega
theorem b1h(c:o9)(hc:c.Is.length≤65536):∀(m i:Nat) (left:Int),c.Is.length-i=m→0≤left→left≤1048576→Uc left c (i:Int)=some ((decide (Dn (c.Is.drop i)≤left),()),()):=by
 intro m
 induction m with
 |zero=>intro i left hm h0 h1;rw[VK,d9 (by omega),N1 (by omega),a3U,f7 (show Dn []≤left from h0)];rfl
 |succ m ih=>
  intro i left hm h0 h1;have hi:i<c.Is.length:=(by omega);have e1:w64 ((i:Int)+1)=((i+1:Nat):Int):=(by rw[wrap64 (by omega) (by omega)];omega);rw[VK,f7 (by omega),l5 hi,e1,L4 hi];simp only[f9,d6];have hs:=QB (c.Is.drop (i+1));by_cases hl:((c.Is[i]).length:Int)>left
  ·rw[f7 hl,d9 (show¬Dn (c.Is[i]::c.Is.drop (i+1))≤left by rw[IZ];omega)];rfl
  ·rw[d9 hl,f6,wrap64 (by omega) (by omega),ih (i+1) _ (by omega) (by omega) (by omega)];congr 4;rw[IZ];exact propext ⟨fun h=>by omega,fun h=>by omega⟩
def Le(f:B3)(a:Int):Prop:=f.At=a∧0≤f.On∧0≤f.Es∧f.Es≤f.Ss∧f.Ss≤200∧0≤f.By∧f.By≤1
instance(f:B3)(a:Int):Decidable (Le f a):=by unfold Le;infer_instance
def Dp(n:Int):Int→List B3→Option Int
 |a,[]=>some a
 |a,f::l=>if Le f a∧f.On≤n-a then Dp n (a+f.On) l else none
theorem a1t(n a:Int)(f:B3)(l:List B3):Dp n a (f::l)=if Le f a∧f.On≤n-a then Dp n (a+f.On) l else none:=rfl
theorem a01(c:o9)(hc:c.As.length≤100)(hn:c.Qs.length≤65536):∀(m i:Nat) (a:Int),c.As.length-i=m→0≤a→a≤c.Qs.length→Rg a c (i:Int)=match Dp c.Qs.length a (c.As.drop i)with|some e=>uC e c|none=>some ((false,()),()):=by
 intro m
 induction m with
 |zero=>intro i a hm h0 h1;rw[OU,d9 (by omega),N1 (by omega)];rfl
 |succ m ih=>
  intro i a hm h0 h1;have hi:i<c.As.length:=(by omega);have e1:w64 ((i:Int)+1)=((i+1:Nat):Int):=(by rw[wrap64 (by omega) (by omega)];omega);have e2:w64 ((c.Qs.length:Int)-a)=(c.Qs.length:Int)-a:=wrap64 (by omega) (by omega);rw[OU,f7 (by omega),l5 hi,e1,e2,L4 hi,a1t];generalize c.As[i]=x;simp only[f9,d6];by_cases hx:Le x a∧x.On≤(c.Qs.length:Int)-a
  ·rw[if_pos hx,←ih (i+1) (a+x.On) (by omega) (by have:=hx.1.2.1;omega) (by have:=hx.2;omega)];obtain⟨⟨g1,g2,g3,g4,g5,g6,g7⟩,g8⟩:=hx;rw[wrap64 (n:=a+x.On) (by omega) (by omega)];simp only[Bool.cond_eq_ite,decide_eq_true_eq,Bool.not_eq_true',decide_eq_false_iff_not]
   repeat' split
   all_goals first|rfl|(exfalso;omega)
  ·rw[if_neg hx];unfold Le at hx;simp only[Bool.cond_eq_ite,decide_eq_true_eq,Bool.not_eq_true',decide_eq_false_iff_not]
   repeat' split
   all_goals first|rfl|(exfalso;omega)
theorem a93(c:o9)(c2:c.Qs.length≤65536)(c3:c.Is.length≤65536)(e:Int):uC e c=some ((decide (e=(c.Qs.length:Int))&&(c.Qs.all Kx&&decide (Dn c.Is≤1048576)),()),()):=by
 have q1:=a91 c c2 _ 0 rfl;have q2:=b1h c c3 _ 0 1048576 rfl (by omega) (by omega);rw[b2O];by_cases h:e=(c.Qs.length:Int)
 ·rw[f7 h];simp only[A4,f6,Bool.true_and];rw[show Xd c 0=_ from q1,R2];cases c.Qs.all Kx with
  |true=>rw[if_pos rfl,a8c,show Uc 1048576 c 0=_ from q2,R2];rfl
  |false=>rfl
 ·rw[d9 h];rfl
def Gj(c:o9):Bool:=decide (c.As.length≤100)&&(decide (c.Qs.length≤65536)&&(decide (c.Is.length≤65536)&&(match Dp c.Qs.length 0 c.As with
 |some e=>decide (e=(c.Qs.length:Int))&&(c.Qs.all Kx&&decide (Dn c.Is≤1048576))
 |none=>false)))
theorem b0F(c:o9):QO c=some ((Gj c,()),()):=by
 unfold Gj;rw[a2v];by_cases c1:c.As.length≤100
 ·rw[d9 (by omega:¬(c.As.length:Int)>100),f7 c1];by_cases c2:c.Qs.length≤65536
  ·rw[d9 (by omega:¬(c.Qs.length:Int)>65536),f7 c2];by_cases c3:c.Is.length≤65536
   ·rw[d9 (by omega:¬(c.Is.length:Int)>65536),f7 c3];simp only[f6,Bool.true_and];rw[show Rg 0 c 0=_ from a01 c c1 c2 _ 0 0 rfl (O7 _) (by omega),R2];cases Dp c.Qs.length 0 c.As with
    |none=>rfl
    |some e=>exact a93 c c2 c3 e
   ·rw[f7 (by omega:(c.Is.length:Int)>65536),d9 c3];rfl
  ·rw[f7 (by omega:(c.Qs.length:Int)>65536),d9 c2];rfl
 ·rw[f7 (by omega:(c.As.length:Int)>100),d9 c1];rfl
theorem a5h(c:o9):FnP Tryz.prog 24 [Ie c] (aB (Gj c)):=b3f (by
 rw[b2H];exact a2Y (b0F c) rfl)
end Go.Proofs.YtihbbcealnnpiaaGreatDoor

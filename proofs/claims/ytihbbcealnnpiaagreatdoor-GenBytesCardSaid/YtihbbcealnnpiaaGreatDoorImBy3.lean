/- Parts of the proof. -/
import Derived.Test.YtihbbcealnnpiaaGreatDoorImBy2
import Derived.Test.YtihbbcealnnpiaaGreatDoorImByOver
import Derived.Test.YtihbbcealnnpiaaGreatDoorImQC
set_option linter.unusedVariables false
set_option linter.unusedSectionVars false
namespace Go.Proofs.YtihbbcealnnpiaaGreatDoor
section
theorem a6e{l:List d7}{M:List l8}{T:List v7}{A:Nat}{C:List x8}{S Q:List Bs}{I:List p8}{E:List D7}(h:GC l M T A C S I E Q)(F:∀f∈C,0<=f.Ps/\f.Ps<=f.Ss/\f.Ss<=200):L9 (A:Int) (E.map toE)=true/\E8 (E.map toE)=I.length/\(A+I.length<=1000000000->∀e∈E,I64 e.At/\I64 e.In/\I64 e.Ps/\I64 e.Ss/\I64 e.By):=by
 induction h with
 |nil=>exact⟨rfl,rfl,λ_ e z=>nomatch z⟩
 |cons A k st bp f C S S1 S2 x ks ks2 a I E hn hx hs hks hb hbd h0 h2 ih=>
  obtain⟨N,H,G⟩:=F f I2;obtain⟨P,J,O⟩:=ih (λg K=>F g (J1 _ K));have B:(0:Int)<=(if f.By=0 then 0 else 1)/\(if f.By=0 then(0:Int)else 1)<=1:=(by split<;>omega);refine⟨?_,?_,?_⟩
  ·rw[List.map_cons];show(decide ((A:Int)=(A:Int))&&Ci ((A:Int),(a.length:Int)+1,f.Ps,f.Ss,if f.By=0 then 0 else 1)&&L9 ((A:Int)+((a.length:Int)+1)) (E.map toE))=true;rw[show(A:Int)+((a.length:Int)+1)=((A+a.length+1:Nat):Int) by omega,P,f6 rfl,show Ci ((A:Int),(a.length:Int)+1,f.Ps,f.Ss,if f.By=0 then 0 else 1)=true from f6 ⟨by simp only;omega,N,H,G,B.1,B.2⟩];rfl
  ·show((a.length:Int)+1)+E8 (E.map toE)=_;rw[J];simp only[t8,F8];omega
  ·intro L e z;simp only[t8,F8]at L;rcases D0.1 z with rfl|z
   ·unfold I64;simp only;generalize (if f.By=0 then(0:Int)else 1)=r at B;omega
   ·exact O (by omega) e z
theorem QJ:∀S:List Bs,O5 S=W6 S
 | []=>rfl
 |a::S=>by show a.length+O5 S=_;rw[QJ S];rfl
theorem XV{y:Bs}:∀{S:List Bs},y∈S->y.length<=W6 S
 |a::S,h=>by
  show y.length<=a.length+W6 S;rcases D0.1 h with rfl|h
  ·omega
  ·have:=XV h;omega
section
variable{l:List d7}{s:d8}{nr:Nat}{M:List l8}{n:Nat}(h:Ni n l s nr M)(hn:n<=2000)
include h hn
theorem b4n:∀f∈s.P.As,0<=f.Ps/\f.Ps<=f.Ss/\f.Ss<=200:=by intro f F;obtain⟨I,z,G,B,H,J,C,c1,c2,c3,c4,c5,c6,c7,c8,c9,c10,c11,c12,c13,c14,c15,c16,_⟩:=dM h (by omega) F;omega
theorem a4l{I:List p8}{E:List D7}{S:List Bs}(F:GC l M s.P.To 0 s.P.As [] I E S):OkC ⟨I,E,S⟩/\K6 (toC ⟨I,E,S⟩)=true/\E.length=s.P.As.length/\I.length<=65536/\S.length<=65536:=by
 have Y:=h.small;have ab:=h.res.fn100;obtain⟨b1,Z,b3⟩:=b2M h.may (by omega) F;obtain⟨z1,Q,z3⟩:=b5y h (by omega) _ 0 0 0 [] S I E rfl (D2 _) (by rw[W3];exact F) (D2 _) (λ_ _ _ _ _ _=>D2 _);obtain⟨e1,R,e3⟩:=a6e F (b4n h hn);have C:=b5n h.may F;have G:=a6K h (by omega) F (λf U=>U) (by simp only[K8];omega);have J:=b3u h (by omega);have aa:=a7M l;have O:=h.txt;simp only[K8]at Q;have X:W6 S<=2000:=by have:W6 ([]:List Bs)=0:=rfl;omega
 have H:I.length<=65536:=(by omega);have hi:∀z∈I,(1<=z.Op/\z.Op<=26)/\I64 z.A/\0<=z.Ls/\z.Ls<=100000:=λz B=>by obtain⟨o,x,hx,L⟩:=C z B;have:=J x hx;exact⟨o,G z B,by omega⟩
 refine⟨⟨⟨by show I.length<=_;omega,λz B=>?_⟩,⟨by show E.length<=_;omega,e3 (by omega)⟩,by show S.length<=_;omega,λy V=>?_⟩,?_,Z,H,by omega⟩
 ·obtain⟨a,b,c⟩:=hi z B;exact⟨by omega,b,by unfold I64;omega⟩
 ·have:=XV (S:=S) V;omega
 ·have K:(I.map toI).all Co=true:=List.all_eq_true.2 λx hx=>by obtain⟨z,B,rfl⟩:=List.mem_map.1 hx;obtain⟨a,b,c⟩:=hi z B;exact f6 ⟨by show 1<=z.Op.toNat;omega,by show z.Op.toNat<=26;omega,by show 0<=z.Ls;omega,by show z.Ls<=_;omega⟩
  have N:=QJ S;unfold K6 toC;simp only;rw[F5,F5,N,K,show L9 0 (E.map toE)=true from e1,f6 R,f6 (show E.length<=100 by omega),f6 H,f6 (show S.length<=65536 by omega),f6 (show W6 S<=1048576 by omega)];rfl
end
theorem b3n{c:s8}(z:OkC c)(B:K6 (toC c)=true):Uc c=some (Ge (Bt (toC c)),0)/\Pc (Ge (Bt (toC c)))=some (c,0):=by refine⟨if_pos ⟨z,B⟩,?_⟩;unfold Pc;rw[if_pos (a3S _),a8y,a6A B (λx hx=>by obtain⟨y,C,rfl⟩:=List.mem_map.1 hx;exact(z.1.2 y C).2.1)];simp only;rw[b00 z];rfl
theorem b2T(b:b6H):zN d5 b=some ((true,()),()):=by
 obtain⟨P,ok,J,C⟩:=a2e b;rw[b2h,sP,J,d6];simp only;cases ok with
 |false=>rw[F4,l6,ZV];rfl
 |true=>obtain⟨K,l,s,nr,M,rfl,z⟩:=C rfl;obtain⟨I,E,S,B,hC⟩:=b2C z (by omega);obtain⟨H,G,Q,R,O⟩:=a4l z K hC;obtain⟨F,N⟩:=b3n H G;have L:=z.res.fn100;rw[B8,f9,B,d6,a7U,nE,F,d6,d6];simp only;rw[a4G,sS,N,d6,d6];simp only;simp only[decide_true,l6];rw[a5u ⟨I,E,S⟩ (by show I.length<=_;omega) (by show E.length<=_;omega) (by show S.length<=_;omega),d6,l6,show decide ((E.length:Int)=((prog s M).As.length:Int))=true from f6 (by show(E.length:Int)=(s.P.As.length:Int);omega),l6,ZV];rfl
theorem b44(b:b6H)(h:zN d5 b=some ((true,()),())):d5 (.l16_GenBytes b)=some ((true,()),()):=h
theorem b4k(b:b6H)(h:b.length<=140737488351232):l16_GenBytes b=some true:=a6I b (b44 b (b2T b))
end
end Go.Proofs.YtihbbcealnnpiaaGreatDoor

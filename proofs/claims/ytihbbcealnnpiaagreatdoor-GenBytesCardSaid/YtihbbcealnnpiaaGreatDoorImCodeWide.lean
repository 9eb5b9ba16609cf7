/- Parts of the proof. -/
import Derived.Test.YtihbbcealnnpiaaGreatDoorImCodeRep
set_option linter.unusedVariables false
namespace Go.Proofs.YtihbbcealnnpiaaGreatDoor
section
open Go.RowKit
theorem a2g{b:b6H}{M L N G:Nat}{z J:b6H}{F:List (b6H)}{C K B:Rd}{at_:Int}{I:List H7}{H:List O6}(Q:A2 1048576 (0,b)=(M,L,z))(O:(F,C)=Aa M (L,z) [])(S:A2 1048576 C=(N,G,J))(P:(at_,I,K)=Z7 N 0 (G,J) [])(R:(H,B)=Y6 at_.toNat K []):Fw b=((H,I,F),B):=by unfold Fw;simp only[Q,<-O,S,<-P,<-R]
theorem Rp(m:Nat)(r:Rd):(A2 m r).1<=m:=by unfold A2;split<;>simp_all
theorem b1J(n:Nat)(h:n<18446744073709551616):I64 (Lo n):=by unfold Lo;split<;>constructor<;>omega
theorem b4s(r:Rd):(I0 r).1<18446744073709551616:=by
 unfold I0;split
 ·simp
 ·split
  ·rename_i h;obtain⟨n,z,_,_,B⟩:=OU r.2 0 0 (H5 0 0 r.2).2.1 (H5 0 0 r.2).2.2 (by omega) (Prod.ext h rfl);simp only[z];omega
  ·simp
theorem b4S(r:Rd):(rOp r).1<256:=by
 unfold rOp;split
 ·simp
 ·split
  ·simp
  ·rename_i c b _;exact UInt8.toNat_lt c
theorem b0T(r:Rd):Ip (Oj r).1:=by
 have z:=b4S r;have B:=b1J _ (b4s (rOp r).2);have C:=Rp 2147483647 (Hc (rOp r).2).2;refine⟨z,B,?_⟩;show I64 ((A2 2147483647 (Hc (rOp r).2).2).1:Int)
 constructor<;>omega
theorem b0o(at_:Int)(h:I64 at_)(r:Rd):Fr (Ft at_ r).1/\0<=(Ft at_ r).1.2.1/\(Ft at_ r).1.2.1<=1048576:=by
 have C:=Rp 1048576 r;have z:=Rp 1048576 (A2 1048576 r).2;have F:=Rp 1048576 (A2 1048576 (A2 1048576 r).2).2;have B:=Rp 1048576 (A2 1048576 (A2 1048576 (A2 1048576 r).2).2).2;refine⟨⟨h,?_,?_,?_,?_⟩,?_,?_⟩
 ·show I64 ((A2 1048576 r).1:Int);constructor<;>omega
 ·show I64 ((A2 1048576 (A2 1048576 r).2).1:Int);constructor<;>omega
 ·show I64 ((A2 1048576 (A2 1048576 (A2 1048576 r).2).2).1:Int);constructor<;>omega
 ·show I64 ((A2 1048576 (A2 1048576 (A2 1048576 (A2 1048576 r).2).2).2).1:Int);constructor<;>omega
 ·show 0<=((A2 1048576 r).1:Int);omega
 ·show((A2 1048576 r).1:Int)<=1048576;omega
theorem a9w(r:Rd):(Aq r).1.length<=1048576:=by
 have h:=Rp 1048576 r;unfold Aq;split
 ·simp
 ·split
  ·simp
  ·simp only[List.length_take];omega
theorem a24:∀(n:Nat) (r:Rd) (z:List O6),(∀x∈z,Ip x)->∀x∈(Y6 n r z).1,Ip x:=by
 intro n
 induction n with
 |zero=>intro r z h;exact h
 |succ n ih=>
  intro r z h;rw[Y6];split
  ·exact h
  ·refine ih _ _ (λx hx=>?_);rcases A3.1 hx with hx|hx
   ·exact h x hx
   ·rw[K4.1 hx];exact b0T r
theorem b1q:∀(n:Nat) (at_:Int) (r:Rd) (z:List H7),0<=at_->at_+n*1048576<=1099511627776->(∀x∈z,Fr x)->∀x∈(Z7 n at_ r z).2.1,Fr x:=by
 intro n
 induction n with
 |zero=>intro at_ r z _ _ h;exact h
 |succ n ih=>
  intro at_ r z h0 C h;rw[Z7];split
  ·exact h
  ·obtain⟨w1,F,B⟩:=b0o at_ ⟨by omega,by omega⟩ r;refine ih _ _ _ (by omega) (by omega) (λx hx=>?_);rcases A3.1 hx with hx|hx
   ·exact h x hx
   ·rw[K4.1 hx];exact w1
theorem a5f:∀(n:Nat) (r:Rd) (z:List (b6H)),(∀x∈z,x.length<=1048576)->∀x∈(Aa n r z).1,x.length<=1048576:=by
 intro n
 induction n with
 |zero=>intro r z h;exact h
 |succ n ih=>
  intro r z h;rw[Aa];split
  ·exact h
  ·refine ih _ _ (λx hx=>?_);rcases A3.1 hx with hx|hx
   ·exact h x hx
   ·rw[K4.1 hx];exact a9w r
theorem a8v{b:b6H}{c:K7}{e:Nat}{z:b6H}(h:Fw b=(c,e,z)):Aw b=if e≠0 then(([],[],[]),e)else if 0<z.length then(([],[],[]),16)else if K6 c then(c,0)else(([],[],[]),2):=by unfold Aw;simp only[h]
end
end Go.Proofs.YtihbbcealnnpiaaGreatDoor

/- Parts of the proof. -/
import Derived.Test.YtihbbcealnnpiaaGreatDoorImAl
import Derived.RowKit
import Derived.IntWalk
import Derived.Laws.Tables
set_option linter.unusedVariables false
namespace Go.Proofs.YtihbbcealnnpiaaGreatDoor
section
open Go.RowKit
def dig(m:Int)(j:Nat):Int:=m/256^j%256
def D8(m:Int):Array Value:= #[.int .i64 (dig m 0),.int .i64 (dig m 1),.int .i64 (dig m 2),.int .i64 (dig m 3),.int .i64 (dig m 4),.int .i64 (dig m 5),.int .i64 (dig m 6),.int .i64 (dig m 7)]
def Fq(m p:Int)(k j:Nat):Int:=if j<k then dig m j else dig p j
def D8m(m p:Int)(k:Nat):Array Value:= #[.int .i64 (Fq m p k 0),.int .i64 (Fq m p k 1),.int .i64 (Fq m p k 2),.int .i64 (Fq m p k 3),.int .i64 (Fq m p k 4),.int .i64 (Fq m p k 5),.int .i64 (Fq m p k 6),.int .i64 (Fq m p k 7)]
theorem iP(m:Int)(j:Nat):0<=dig m j:=Int.emod_nonneg _ (by decide)
theorem jF(m:Int)(j:Nat):dig m j<=255:=by have:=Int.emod_lt_of_pos (m/256^j) (show(0:Int)<256 by decide);unfold dig;omega
theorem Rk{j:Nat}(h:j<8):j=0\/j=1\/j=2\/j=3\/j=4\/j=5\/j=6\/j=7:=by omega
theorem BV(m p:Int)(k j:Nat)(h:j<8):(D8m m p k)[j]? =some (.int .i64 (Fq m p k j)):=by rcases Rk h with rfl|rfl|rfl|rfl|rfl|rfl|rfl|rfl<;>rfl
theorem fQ(m:Int)(j:Nat)(h:j<8):(D8 m)[j]? =some (.int .i64 (dig m j)):=by rcases Rk h with rfl|rfl|rfl|rfl|rfl|rfl|rfl|rfl<;>rfl
theorem xT(m p:Int)(k:Nat)(h:k<8):(D8m m p k).setIfInBounds k (.int .i64 (dig m k))=D8m m p (k+1):=by rcases Rk h with rfl|rfl|rfl|rfl|rfl|rfl|rfl|rfl<;>simp[D8m,Fq]
theorem a0D(m p:Int):D8m m p 8=D8 m:=rfl
theorem yR(m p:Int):D8m m p 0=D8 p:=rfl
theorem a4O(j:Nat):dig 0 j=0:=by simp[dig]
theorem kN:D8 0= #[.int .i64 0,.int .i64 0,.int .i64 0,.int .i64 0,.int .i64 0,.int .i64 0,.int .i64 0,.int .i64 0]:=by simp[D8,a4O]
theorem pow_pos(k:Nat):(0:Int)<256^k:=Int.pow_pos (by decide)
theorem a2K(m:Int)(k:Nat):m/256^k/256=m/256^(k+1):=by rw[Int.ediv_ediv_of_nonneg (Int.le_of_lt (pow_pos k))];rfl
theorem Ab(m:Int)(j:Nat)(h:j<8):dig (m%18446744073709551616) j=dig m j:=by unfold dig;rcases Rk h with rfl|rfl|rfl|rfl|rfl|rfl|rfl|rfl<;>omega
theorem a7A(m:Int):D8 (m%18446744073709551616)=D8 m:=by unfold D8;simp only[Ab m _ (show 0<8 by decide),Ab m _ (show 1<8 by decide),Ab m _ (show 2<8 by decide),Ab m _ (show 3<8 by decide),Ab m _ (show 4<8 by decide),Ab m _ (show 5<8 by decide),Ab m _ (show 6<8 by decide),Ab m _ (show 7<8 by decide)]
theorem CJ(n:Int):IntKind.u64.wrap n=n%18446744073709551616:=by simp[IntKind.wrap,IntKind.bits,IntKind.signed]
theorem a2w(n:Int):D8 (IntKind.u64.wrap n)=D8 n:=by rw[CJ,a7A]
theorem a36(n:Int):0<=IntKind.u64.wrap n:=by rw[CJ];omega
theorem b1G(n:Int):IntKind.u64.wrap n<=18446744073709551615:=by rw[CJ];omega
def Em(m n:Int)(k:Nat):Int:=(m%256^k+n%256^k)/256^k
theorem RE(m B:Int)(F:0<B):m%(B*256)=m%B+B*(m/B%256):=by have I:=Int.emod_add_mul_ediv m B;have z:=Int.emod_add_mul_ediv (m/B) 256;have G:m/(B*256)=m/B/256:=(by rw[Int.ediv_ediv_of_nonneg (Int.le_of_lt F)]);have C:=Int.emod_add_mul_ediv m (B*256);rw[G]at C;have J:B*256*(m/B/256)=B*(256*(m/B/256)):=(by rw[Int.mul_assoc]);have H:B*(m/B)=B*(m/B%256)+B*(256*(m/B/256)):=(by rw[<-Int.mul_add,z]);omega
theorem b5N(p a n B:Int)(z:0<B)(c:Int)(C:c=(p%B+a*(n%B))/B):(p/B%256+a*(n/B%256)+c)%256=(p+a*n)/B%256/\(p/B%256+a*(n/B%256)+c)/256=(p%(B*256)+a*(n%(B*256)))/(B*256):=by
 have G:(p+a*n)/B=p/B+a*(n/B)+c:=by
  have F:=Int.emod_add_mul_ediv p B;have J:=Int.emod_add_mul_ediv n B;have:p+a*n=(p%B+a*(n%B))+(p/B+a*(n/B))*B:=by
   calc p+a*n=(p%B+B*(p/B))+a*(n%B+B*(n/B)):=by rw[F,J]
    _=_:=by rw[Int.mul_add,Int.add_mul,Int.mul_comm B (p/B),Int.mul_comm B (n/B),<-Int.mul_assoc];omega
  rw[this,Int.add_mul_ediv_right _ _ (by omega),C];omega
 constructor
 ·rw[G];have K:a*(n/B)%256=a*(n/B%256)%256:=(by rw[Int.mul_emod,Int.mul_emod a (n/B%256),Int.emod_emod_of_dvd _ (by decide)]);omega
 ·have I:=RE p B z;have H:=RE n B z;have:p%(B*256)+a*(n%(B*256))=(p%B+a*(n%B))+(p/B%256+a*(n/B%256))*B:=by rw[I,H,Int.mul_add,Int.add_mul,Int.mul_comm B (p/B%256),Int.mul_comm B (n/B%256),<-Int.mul_assoc];omega
  rw[this,<-Int.ediv_ediv_of_nonneg (Int.le_of_lt z),Int.add_mul_ediv_right _ _ (by omega),C];congr 1;omega
theorem a1o(m n:Int):Em m n 0=0:=by simp[Em]
theorem a7Z(m n:Int)(k:Nat):(dig m k+dig n k+Em m n k)%256=dig (m+n) k/\(dig m k+dig n k+Em m n k)/256=Em m n (k+1):=by have:=b5N m 1 n (256^k) (pow_pos k) (Em m n k) (by simp[Em]);simp only[Int.one_mul]at this;exact this
theorem a9Y(m n:Int)(k:Nat):0<=Em m n k/\Em m n k<=1:=by have h:=pow_pos k;have C:=Int.emod_nonneg m (Int.ne_of_gt h);have B:=Int.emod_lt_of_pos m h;have z:=Int.emod_nonneg n (Int.ne_of_gt h);have F:=Int.emod_lt_of_pos n h;unfold Em;refine⟨Int.ediv_nonneg (by omega) (by omega),?_⟩;have:(m%256^k+n%256^k)/256^k<2:=Int.ediv_lt_of_lt_mul h (by omega);omega
def Av(n:Int)(j:Nat):Int:=n/256^j%256^(8-j)
theorem a8T(n:Int):Av n 0=n%18446744073709551616:=by simp[Av]
theorem a6d(n:Int):Av n 8=0:=by simp[Av]
theorem WN(n:Int)(j:Nat):0<=Av n j:=Int.emod_nonneg _ (Int.ne_of_gt (pow_pos _))
theorem a2k(n:Int)(j:Nat)(h:j<8):Av n (j+1)*256+dig n j=Av n j:=by unfold Av dig;rcases Rk h with rfl|rfl|rfl|rfl|rfl|rfl|rfl|rfl<;>simp<;>omega
theorem a6J(n:Int)(j:Nat)(h:j<=8):Av n j<=18446744073709551615:=by
 have B:=Int.emod_lt_of_pos (n/256^j) (pow_pos (8-j));have z:(256:Int)^(8-j)<=18446744073709551616:=by rcases(show j=0\/j=1\/j=2\/j=3\/j=4\/j=5\/j=6\/j=7\/j=8 by omega)with rfl|rfl|rfl|rfl|rfl|rfl|rfl|rfl|rfl<;>decide
 unfold Av;omega
theorem a9z(n:Int)(j:Nat)(h:j<8):Av n (j+1)<=72057594037927935:=by
 have B:=Int.emod_lt_of_pos (n/256^(j+1)) (pow_pos (8-(j+1)));have z:(256:Int)^(8-(j+1))<=72057594037927936:=by rcases Rk h with rfl|rfl|rfl|rfl|rfl|rfl|rfl|rfl<;>decide
 unfold Av;omega
theorem OR(n:Int):wrap64 (n%18446744073709551616)=wrap64 n:=by unfold wrap64;omega
theorem b1W(n:Int):wrap64 (Av n 0)=wrap64 n:=by rw[a8T,OR]
theorem b5Q(n:Int)(j:Nat):255-dig n j=dig (-n-1) j:=by
 unfold dig;have h:=pow_pos j;generalize (256:Int)^j=B at*;have e:(-n-1)/B= -(n/B)-1:=by
  have C:=Int.emod_add_mul_ediv n B;have z:=Int.emod_nonneg n (Int.ne_of_gt h);have F:=Int.emod_lt_of_pos n h;have: -n-1=(B-1-n%B)+(-(n/B)-1)*B:=by rw[Int.sub_mul,Int.neg_mul,Int.mul_comm (n/B) B];omega
  rw[this,Int.add_mul_ediv_right _ _ (by omega),Int.ediv_eq_zero_of_lt (by omega) (by omega)];omega
 rw[e];omega
theorem a5b:D8 1= #[.int .i64 1,.int .i64 0,.int .i64 0,.int .i64 0,.int .i64 0,.int .i64 0,.int .i64 0,.int .i64 0]:=by simp[D8,dig]
theorem a9q(m:Int):(D8 m).all (·.oneCell')=true:=by simp[D8,Value.oneCell']
theorem a3n(n:Int): -n-1+1= -n:=by omega
end
end Go.Proofs.YtihbbcealnnpiaaGreatDoor

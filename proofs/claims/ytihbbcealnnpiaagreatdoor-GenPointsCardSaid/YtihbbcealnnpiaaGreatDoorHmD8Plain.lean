/- Parts of the proof. -/
import Derived.Test.YtihbbcealnnpiaaGreatDoorHmAl
import Derived.RowKit
import Derived.IntWalk
import Derived.Laws.Tables
set_option linter.unusedVariables false
namespace Go.Proofs.YtihbbcealnnpiaaGreatDoor
section
open Go.RowKit
def dig(m:Int)(j:Nat):Int:=m/256^j%256
def D8(m:Int):Array Value:= #[.int .i64 (dig m 0),.int .i64 (dig m 1),.int .i64 (dig m 2),.int .i64 (dig m 3),.int .i64 (dig m 4),.int .i64 (dig m 5),.int .i64 (dig m 6),.int .i64 (dig m 7)]
def Cn(m p:Int)(k j:Nat):Int:=if j<k then dig m j else dig p j
def D8m(m p:Int)(k:Nat):Array Value:= #[.int .i64 (Cn m p k 0),.int .i64 (Cn m p k 1),.int .i64 (Cn m p k 2),.int .i64 (Cn m p k 3),.int .i64 (Cn m p k 4),.int .i64 (Cn m p k 5),.int .i64 (Cn m p k 6),.int .i64 (Cn m p k 7)]
theorem eC(m:Int)(j:Nat):0≤dig m j:=Int.emod_nonneg _ (by decide)
theorem eV(m:Int)(j:Nat):dig m j≤255:=by have:=Int.emod_lt_of_pos (m/256^j) (show(0:Int)<256 by decide);unfold dig;omega
theorem Ny{j:Nat}(h:j<8):j=0∨j=1∨j=2∨j=3∨j=4∨j=5∨j=6∨j=7:=by omega
theorem yR(m p:Int)(k j:Nat)(h:j<8):(D8m m p k)[j]? =some (.int .i64 (Cn m p k j)):=by rcases Ny h with rfl|rfl|rfl|rfl|rfl|rfl|rfl|rfl<;>rfl
theorem cD(m:Int)(j:Nat)(h:j<8):(D8 m)[j]? =some (.int .i64 (dig m j)):=by rcases Ny h with rfl|rfl|rfl|rfl|rfl|rfl|rfl|rfl<;>rfl
theorem uQ(m p:Int)(k:Nat)(h:k<8):(D8m m p k).setIfInBounds k (.int .i64 (dig m k))=D8m m p (k+1):=by rcases Ny h with rfl|rfl|rfl|rfl|rfl|rfl|rfl|rfl<;>simp[D8m,Cn]
theorem XV(m p:Int):D8m m p 8=D8 m:=rfl
theorem vO(m p:Int):D8m m p 0=D8 p:=rfl
theorem a3f(j:Nat):dig 0 j=0:=by simp[dig]
theorem gI:D8 0= #[.int .i64 0,.int .i64 0,.int .i64 0,.int .i64 0,.int .i64 0,.int .i64 0,.int .i64 0,.int .i64 0]:=by simp[D8,a3f]
theorem pow_pos(k:Nat):(0:Int)<256^k:=Int.pow_pos (by decide)
theorem a1d(m:Int)(k:Nat):m/256^k/256=m/256^(k+1):=by rw[Int.ediv_ediv_of_nonneg (Int.le_of_lt (pow_pos k))];rfl
theorem U4(m:Int)(j:Nat)(h:j<8):dig (m%18446744073709551616) j=dig m j:=by unfold dig;rcases Ny h with rfl|rfl|rfl|rfl|rfl|rfl|rfl|rfl<;>omega
theorem a5N(m:Int):D8 (m%18446744073709551616)=D8 m:=by unfold D8;simp only[U4 m _ (show 0<8 by decide),U4 m _ (show 1<8 by decide),U4 m _ (show 2<8 by decide),U4 m _ (show 3<8 by decide),U4 m _ (show 4<8 by decide),U4 m _ (show 5<8 by decide),U4 m _ (show 6<8 by decide),U4 m _ (show 7<8 by decide)]
theorem zE(n:Int):IntKind.u64.wrap n=n%18446744073709551616:=by simp[IntKind.wrap,IntKind.bits,IntKind.signed]
theorem a0Z(n:Int):D8 (IntKind.u64.wrap n)=D8 n:=by rw[zE,a5N]
theorem a2u(n:Int):0≤IntKind.u64.wrap n:=by rw[zE];omega
theorem a9u(n:Int):IntKind.u64.wrap n≤18446744073709551615:=by rw[zE];omega
def Bq(m n:Int)(k:Nat):Int:=(m%256^k+n%256^k)/256^k
theorem NR(m B:Int)(hB:0<B):m%(B*256)=m%B+B*(m/B%256):=by have h1:=Int.emod_add_mul_ediv m B;have h2:=Int.emod_add_mul_ediv (m/B) 256;have h3:m/(B*256)=m/B/256:=(by rw[Int.ediv_ediv_of_nonneg (Int.le_of_lt hB)]);have h4:=Int.emod_add_mul_ediv m (B*256);rw[h3]at h4;have h5:B*256*(m/B/256)=B*(256*(m/B/256)):=(by rw[Int.mul_assoc]);have h6:B*(m/B)=B*(m/B%256)+B*(256*(m/B/256)):=(by rw[←Int.mul_add,h2]);omega
theorem b3i(p a n B:Int)(hB:0<B)(c:Int)(hc:c=(p%B+a*(n%B))/B):(p/B%256+a*(n/B%256)+c)%256=(p+a*n)/B%256∧(p/B%256+a*(n/B%256)+c)/256=(p%(B*256)+a*(n%(B*256)))/(B*256):=by
 have e1:(p+a*n)/B=p/B+a*(n/B)+c:=by
  have hp:=Int.emod_add_mul_ediv p B;have hn:=Int.emod_add_mul_ediv n B;have:p+a*n=(p%B+a*(n%B))+(p/B+a*(n/B))*B:=by
   calc p+a*n=(p%B+B*(p/B))+a*(n%B+B*(n/B)):=by rw[hp,hn]
    _=_:=by rw[Int.mul_add,Int.add_mul,Int.mul_comm B (p/B),Int.mul_comm B (n/B),←Int.mul_assoc];omega
  rw[this,Int.add_mul_ediv_right _ _ (by omega),hc];omega
 constructor
 ·rw[e1];have h1:a*(n/B)%256=a*(n/B%256)%256:=(by rw[Int.mul_emod,Int.mul_emod a (n/B%256),Int.emod_emod_of_dvd _ (by decide)]);omega
 ·have s1:=NR p B hB;have s2:=NR n B hB;have:p%(B*256)+a*(n%(B*256))=(p%B+a*(n%B))+(p/B%256+a*(n/B%256))*B:=by rw[s1,s2,Int.mul_add,Int.add_mul,Int.mul_comm B (p/B%256),Int.mul_comm B (n/B%256),←Int.mul_assoc];omega
  rw[this,←Int.ediv_ediv_of_nonneg (Int.le_of_lt hB),Int.add_mul_ediv_right _ _ (by omega),hc];congr 1;omega
theorem ZP(m n:Int):Bq m n 0=0:=by simp[Bq]
theorem a6a(m n:Int)(k:Nat):(dig m k+dig n k+Bq m n k)%256=dig (m+n) k∧(dig m k+dig n k+Bq m n k)/256=Bq m n (k+1):=by have:=b3i m 1 n (256^k) (pow_pos k) (Bq m n k) (by simp[Bq]);simp only[Int.one_mul]at this;exact this
theorem a7V(m n:Int)(k:Nat):0≤Bq m n k∧Bq m n k≤1:=by have h:=pow_pos k;have a1:=Int.emod_nonneg m (Int.ne_of_gt h);have a2:=Int.emod_lt_of_pos m h;have b1:=Int.emod_nonneg n (Int.ne_of_gt h);have b2:=Int.emod_lt_of_pos n h;unfold Bq;refine⟨Int.ediv_nonneg (by omega) (by omega),?_⟩;have:(m%256^k+n%256^k)/256^k<2:=Int.ediv_lt_of_lt_mul h (by omega);omega
def V8(n:Int)(j:Nat):Int:=n/256^j%256^(8-j)
theorem a6Z(n:Int):V8 n 0=n%18446744073709551616:=by simp[V8]
theorem a4x(n:Int):V8 n 8=0:=by simp[V8]
theorem SZ(n:Int)(j:Nat):0≤V8 n j:=Int.emod_nonneg _ (Int.ne_of_gt (pow_pos _))
theorem a0N(n:Int)(j:Nat)(h:j<8):V8 n (j+1)*256+dig n j=V8 n j:=by unfold V8 dig;rcases Ny h with rfl|rfl|rfl|rfl|rfl|rfl|rfl|rfl<;>simp<;>omega
theorem a40(n:Int)(j:Nat)(h:j≤8):V8 n j≤18446744073709551615:=by
 have h1:=Int.emod_lt_of_pos (n/256^j) (pow_pos (8-j));have h2:(256:Int)^(8-j)≤18446744073709551616:=by rcases(show j=0∨j=1∨j=2∨j=3∨j=4∨j=5∨j=6∨j=7∨j=8 by omega)with rfl|rfl|rfl|rfl|rfl|rfl|rfl|rfl|rfl<;>decide
 unfold V8;omega
theorem a7z(n:Int)(j:Nat)(h:j<8):V8 n (j+1)≤72057594037927935:=by
 have h1:=Int.emod_lt_of_pos (n/256^(j+1)) (pow_pos (8-(j+1)));have h2:(256:Int)^(8-(j+1))≤72057594037927936:=by rcases Ny h with rfl|rfl|rfl|rfl|rfl|rfl|rfl|rfl<;>decide
 unfold V8;omega
theorem LH(n:Int):wrap64 (n%18446744073709551616)=wrap64 n:=by unfold wrap64;omega
theorem a9K(n:Int):wrap64 (V8 n 0)=wrap64 n:=by rw[a6Z,LH]
theorem b3l(n:Int)(j:Nat):255-dig n j=dig (-n-1) j:=by
 unfold dig;have h:=pow_pos j;generalize (256:Int)^j=B at*;have e:(-n-1)/B= -(n/B)-1:=by
  have h1:=Int.emod_add_mul_ediv n B;have h2:=Int.emod_nonneg n (Int.ne_of_gt h);have h3:=Int.emod_lt_of_pos n h;have: -n-1=(B-1-n%B)+(-(n/B)-1)*B:=by rw[Int.sub_mul,Int.neg_mul,Int.mul_comm (n/B) B];omega
  rw[this,Int.add_mul_ediv_right _ _ (by omega),Int.ediv_eq_zero_of_lt (by omega) (by omega)];omega
 rw[e];omega
theorem a3C:D8 1= #[.int .i64 1,.int .i64 0,.int .i64 0,.int .i64 0,.int .i64 0,.int .i64 0,.int .i64 0,.int .i64 0]:=by simp[D8,dig]
theorem a7u(m:Int):(D8 m).all (·.oneCell')=true:=by simp[D8,Value.oneCell']
theorem a1N(n:Int): -n-1+1= -n:=by omega
end
end Go.Proofs.YtihbbcealnnpiaaGreatDoor

/- Parts of the proof. -/
import Derived.Test.YtihbbcealnnpiaaGreatDoorChecked
import Derived.Test.YtihbbcealnnpiaaGreatDoorImD8Plain
import Derived.Test.YtihbbcealnnpiaaGreatDoorImBase
set_option linter.unusedVariables false
namespace Go.Proofs.YtihbbcealnnpiaaGreatDoor
section
section
open Go.RowKit
set_option maxRecDepth 100000
set_option maxHeartbeats 400000 in
theorem a9N(n:Int)(w:World):Calls Tryz.prog 138 #[.int .i64 n] w λe w'=>e=.returned (.agg (D8 n))/\Below w.heap.size w w':=by
 go_enter Tryz.func138,Tryz.ntmps138
 go_wp2_with fail
 obtain⟨m,hm,h0,h1⟩:∃m,IntKind.u64.wrap n=m/\0<=m/\m<=18446744073709551615:=⟨_,rfl,a36 n,b1G n⟩;rw[hm];have Hm:=Lib.hid hm;clear hm
 go_loopw [4,5] (λu i wr=>∃k:Nat,k<=8/\i=.int .i64 k/\u=.int .u64 (m/256^k)/\wr=(w.alloc (.cells (D8 0) 217)).alloc (.cells (D8m m 0 k) 217)) (λ_ i _=>8-(intOf i).toNat)
 case atStart=>exact⟨0,by omega,rfl,by simp,by rw[yR,kN]⟩
 case round=>
  obtain⟨k,C,rfl,rfl,rfl⟩:=hrel;by_cases z:k<8
  ·have H:=BV m 0 k k z;have B:=xT m 0 k z;unfold dig at B;have G:0<=m/256^k:=Int.ediv_nonneg h0 (Int.le_of_lt (pow_pos k));have F:m/256^k<=18446744073709551615:=Int.le_trans (Int.ediv_le_self _ h0) h1
   go_wp2_with fail
   go_roundw
   case rel=>exact⟨k+1,by omega,by go_num,by rw[a2K],rfl⟩
   case measure=>simp[intOf];omega
  ·obtain rfl:k=8:=(by omega);unfold D8m;rw[kN]
   go_wp2_with fail
   have hd:D8 m=D8 n:=(by rw[<-Hm.out];exact a2w n);rw[<-hd];exact bodyPost_ret (v:=.agg (D8 m)) (by simp[results,Tryz.results138,go_sem];rfl) rfl ⟨rfl,(by repeat' (first|exact Below.refl _ _|assumption|(refine V7 ?_ (by assumption))|(refine X9 ?_ _)|(refine Below.alloc ?_ (by first|simp;done|(simp;omega)|omega) _)|(refine P3 ?_ (by first|simp;done|(simp;omega)|omega) _)|(refine Below.setCell ?_ (by first|simp;done|(simp;omega)|omega) _)))⟩
set_option maxHeartbeats 400000 in
theorem b5j(m n:Int)(w:World):Calls Tryz.prog 147 #[.agg (D8 m),.agg (D8 n)] w λe w'=>e=.returned (.agg (D8 (m+n)))/\Below w.heap.size w w':=by
 go_enter Tryz.func147,Tryz.ntmps147
 go_wp2_with fail
 go_loopw [6,7,8] (λc i s wr=>∃k B:Nat,k<=8/\i=.int .i64 k/\c=.int .i64 (Em m n k)/\wr=((((w.alloc (.cells (D8 m) 217)).alloc (.cells (D8 n) 217)).alloc (.cells (D8 0) 217)).alloc (.cells (D8m (m+n) 0 k) 217)).drewN B) (λ_ i _ _=>8-(intOf i).toNat)
 case atStart=>exact⟨0,0,by omega,rfl,by rw[a1o],by rw[yR,kN];rfl⟩
 case round=>
  obtain⟨k,B,L,rfl,rfl,rfl⟩:=hrel;by_cases z:k<8
  ·have J:=BV (m+n) 0 k k z;have P:=xT (m+n) 0 k z;have M:=fQ m k z;have K:=fQ n k z;have C:=iP m k;have N:=jF m k;have I:=iP n k;have O:=jF n k;obtain⟨F,H⟩:=a9Y m n k;obtain⟨c1,c2⟩:=a7Z m n k;have Q:(k:Int)<8:=(by omega);have G:(0:Int)<=k:=by omega
   go_wp2_with fail
   go_quiet (fail)
   go_wp2_with fail
   go_roundw
   case rel=>exact⟨k+1,_,by omega,by go_num,by rw[c2],rfl⟩
   case measure=>simp[intOf];omega
  ·obtain rfl:k=8:=(by omega);rw[a0D];unfold D8
   go_wp2_with fail
   exact bodyPost_ret (v:=.agg (D8 (m+n))) (by simp[results,Tryz.results147,go_sem];rfl) rfl ⟨rfl,(by repeat' (first|exact Below.refl _ _|assumption|(refine V7 ?_ (by assumption))|(refine X9 ?_ _)|(refine Below.alloc ?_ (by first|simp;done|(simp;omega)|omega) _)|(refine P3 ?_ (by first|simp;done|(simp;omega)|omega) _)|(refine Below.setCell ?_ (by first|simp;done|(simp;omega)|omega) _)))⟩
set_option maxHeartbeats 400000 in
theorem a40(n:Int)(w:World):Calls Tryz.prog 139 #[.agg (D8 n)] w λe w'=>e=.returned (.int .i64 (wrap64 n))/\Below w.heap.size w w':=by
 go_enter Tryz.func139,Tryz.ntmps139
 go_wp2_with fail
 go_loopw [3,4] (λu i wr=>∃k:Nat,k<=8/\i=.int .i64 ((k:Int)-1)/\u=.int .u64 (Av n k)/\wr=w.alloc (.cells (D8 n) 217)) (λ_ i _=>(intOf i+1).toNat)
 case atStart=>exact⟨8,by omega,rfl,by rw[a6d],rfl⟩
 case round=>
  obtain⟨k,G,rfl,rfl,rfl⟩:=hrel;by_cases z:k=0
  ·subst z;have H:(0:Int)<=Av n 0:=WN n 0;have C:=a6J n 0 (by omega)
   go_wp2_with fail
   rw[b1W]
   go_ret
   exact⟨rfl,(by repeat' (first|exact Below.refl _ _|assumption|(refine V7 ?_ (by assumption))|(refine X9 ?_ _)|(refine Below.alloc ?_ (by first|simp;done|(simp;omega)|omega) _)|(refine P3 ?_ (by first|simp;done|(simp;omega)|omega) _)|(refine Below.setCell ?_ (by first|simp;done|(simp;omega)|omega) _)))⟩
  ·obtain⟨j,rfl⟩:∃j,k=j+1:=⟨k-1,by omega⟩;have B:j<8:=(by omega);have C:=fQ n j B;have L:=iP n j;have M:=jF n j;have F:=WN n (j+1);have I:=a9z n j B;have J:=a2k n j B;have K:((j:Int)+1-1)=j:=by omega
   go_wp2_with fail
   go_roundw
   case rel=>exact⟨j,by omega,by rfl,rfl,trivial⟩
   case measure=>simp[intOf]<;>omega
set_option maxHeartbeats 400000 in
theorem b1t(n:Int)(w:World):Calls Tryz.prog 137 #[.agg (D8 n)] w λe w'=>e=.returned (.agg (D8 (-n)))/\Below w.heap.size w w':=by
 go_enter Tryz.func137,Tryz.ntmps137
 go_wp2_with fail
 go_loopw [4] (λi wr=>∃k F:Nat,k<=8/\i=.int .i64 k/\wr=(((w.alloc (.cells (D8 n) 217)).alloc (.cells (D8 0) 217)).alloc (.cells (D8m (-n-1) 0 k) 217)).drewN F) (λi _=>8-(intOf i).toNat)
 case atStart=>exact⟨0,0,by omega,rfl,by rw[yR,kN];rfl⟩
 case round=>
  obtain⟨k,F,I,rfl,rfl⟩:=hrel;by_cases z:k<8
  ·have B:=BV (-n-1) 0 k k z;have L:=xT (-n-1) 0 k z;have J:=fQ n k z;have G:=iP n k;have K:=jF n k;have c1:=b5Q n k;have M:(k:Int)<8:=(by omega);have H:(0:Int)<=k:=by omega
   go_wp2_with fail
   go_roundw
   case rel=>exact⟨k+1,_,by omega,by go_num,rfl⟩
   case measure=>simp[intOf]<;>omega
  ·obtain rfl:k=8:=(by omega);rw[a0D];unfold D8
   go_wp2_with fail
   change Calls Tryz.prog _ #[.agg (D8 (-n-1)),_] _ _
   rw[<-a5b];refine(b5j _ _ _).mono ?_;rintro e w1 ⟨rfl,C⟩;rw[a3n];have B:w1.heap[w.heap.size+1]? =some (.cells (D8 0) 217 (0,0)):=(C.block _ (by simp)).trans (by rw[a5D,Jl _ _ _ (by simp),UQ _ _ _ (by simp)];rfl)
   go_wp2_with (refine wpList_store_row rfl _ _ _ rfl (w.heap.size+1) 217 (D8 0) (D8 (-n)) rfl rfl B (by kernel_rfl) rfl (a9q _) ?_)
   refine a4H Tryz.results137 (w.heap.size+1) 217 (D8 (-n)) (0,0) _ rfl (setRow_heap _ _ _ _ _ _ B) Tryz.underlying217 rfl (by kernel_rfl) rfl ⟨rfl,?_⟩;exact P3 (Below.trans (by repeat' (first|exact Below.refl _ _|assumption|(refine V7 ?_ (by assumption))|(refine X9 ?_ _)|(refine Below.alloc ?_ (by first|simp;done|(simp;omega)|omega) _)|(refine P3 ?_ (by first|simp;done|(simp;omega)|omega) _)|(refine Below.setCell ?_ (by first|simp;done|(simp;omega)|omega) _))) (C.mono (by simp;omega))) (by omega) _
end
section
open Go.RowKit
set_option maxRecDepth 100000
def sx(a:Int)(k:Nat):Int:=(a+2^(k-1))%2^k-2^(k-1)
end
end
end Go.Proofs.YtihbbcealnnpiaaGreatDoor

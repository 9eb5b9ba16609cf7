/- Parts of the proof. -/
import Derived.Test.YtabmahknlebhpaaGreatChecked
import Derived.Test.YtabmahknlebhpaaGreatVmD8Plain
import Derived.Test.YtabmahknlebhpaaGreatVmBase
set_option linter.unusedVariables false
namespace Go.Proofs.YtabmahknlebhpaaGreat
section
section
open Go.RowKit
set_option maxRecDepth 100000
set_option maxHeartbeats 400000 in
theorem a6U(n:Int)(w:World):Calls Tryz.prog 116 #[.int .i64 n] w fun e w'=>e=.returned (.agg (D8 n))∧Below w.heap.size w w':=by
 go_enter Tryz.func116,Tryz.ntmps116
 go_wp2_with fail
 obtain⟨m,hm,h0,h1⟩:∃m,IntKind.u64.wrap n=m∧0≤m∧m≤18446744073709551615:=⟨_,rfl,b28 n,a1o n⟩;rw[hm];have Hm:=Lib.hid hm;clear hm
 go_loopw [4,5] (fun u i wr=>∃k:Nat,k≤8∧i=.int .i64 k∧u=.int .u64 (m/256^k)∧wr=(w.alloc (.cells (D8 0) 193)).alloc (.cells (D8m m 0 k) 193)) (fun _ i _=>8-(intOf i).toNat)
 case atStart=>exact⟨0,by omega,rfl,by simp,by rw[yY,vH]⟩
 case round=>
  obtain⟨k,hk,rfl,rfl,rfl⟩:=hrel;by_cases hlt:k<8
  ·have hg:=xT m 0 k k hlt;have hs:=AH m 0 k hlt;unfold dig at hs;have b0:0≤m/256^k:=Int.ediv_nonneg h0 (Int.le_of_lt (pow_pos k));have b1:m/256^k≤18446744073709551615:=Int.le_trans (Int.ediv_le_self _ h0) h1
   go_wp2_with fail
   go_roundw
   case rel=>exact⟨k+1,by omega,by go_num,by rw[a4K],rfl⟩
   case measure=>simp[intOf];omega
  ·obtain rfl:k=8:=(by omega);unfold D8m;rw[vH]
   go_wp2_with fail
   have hd:D8 m=D8 n:=(by rw[←Hm.out];exact b3n n);rw[←hd];exact bodyPost_ret (v:=.agg (D8 m)) (by simp[results,Tryz.results116,go_sem];rfl) rfl ⟨rfl,(by repeat' (first|exact Below.refl _ _|assumption|(refine kX ?_ (by assumption))|(refine oA ?_ _)|(refine Below.alloc ?_ (by first|simp;done|(simp;omega)|omega) _)|(refine Tc ?_ (by first|simp;done|(simp;omega)|omega) _)|(refine Below.setCell ?_ (by first|simp;done|(simp;omega)|omega) _)))⟩
set_option maxHeartbeats 400000 in
theorem a3t(m n:Int)(w:World):Calls Tryz.prog 125 #[.agg (D8 m),.agg (D8 n)] w fun e w'=>e=.returned (.agg (D8 (m+n)))∧Below w.heap.size w w':=by
 go_enter Tryz.func125,Tryz.ntmps125
 go_wp2_with fail
 go_loopw [6,7,8] (fun c i s wr=>∃k nd:Nat,k≤8∧i=.int .i64 k∧c=.int .i64 (Az m n k)∧wr=((((w.alloc (.cells (D8 m) 193)).alloc (.cells (D8 n) 193)).alloc (.cells (D8 0) 193)).alloc (.cells (D8m (m+n) 0 k) 193)).drewN nd) (fun _ i _ _=>8-(intOf i).toNat)
 case atStart=>exact⟨0,0,by omega,rfl,by rw[a8I],by rw[yY,vH];rfl⟩
 case round=>
  obtain⟨k,nd,hk,rfl,rfl,rfl⟩:=hrel;by_cases hlt:k<8
  ·have hg:=xT (m+n) 0 k k hlt;have hs:=AH (m+n) 0 k hlt;have g1:=kO m k hlt;have g2:=kO n k hlt;have b1:=iG m k;have b2:=fQ m k;have b3:=iG n k;have b4:=fQ n k;obtain⟨b5,b6⟩:=a6B m n k;obtain⟨c1,c2⟩:=a2U m n k;have i1:(k:Int)<8:=(by omega);have i2:(0:Int)≤k:=by omega
   go_wp2_with fail
   go_quiet (fail)
   go_wp2_with fail
   go_roundw
   case rel=>exact⟨k+1,_,by omega,by go_num,by rw[c2],rfl⟩
   case measure=>simp[intOf];omega
  ·obtain rfl:k=8:=(by omega);rw[TN];unfold D8
   go_wp2_with fail
   exact bodyPost_ret (v:=.agg (D8 (m+n))) (by simp[results,Tryz.results125,go_sem];rfl) rfl ⟨rfl,(by repeat' (first|exact Below.refl _ _|assumption|(refine kX ?_ (by assumption))|(refine oA ?_ _)|(refine Below.alloc ?_ (by first|simp;done|(simp;omega)|omega) _)|(refine Tc ?_ (by first|simp;done|(simp;omega)|omega) _)|(refine Below.setCell ?_ (by first|simp;done|(simp;omega)|omega) _)))⟩
set_option maxHeartbeats 400000 in
theorem a9B(n:Int)(w:World):Calls Tryz.prog 117 #[.agg (D8 n)] w fun e w'=>e=.returned (.int .i64 (wrap64 n))∧Below w.heap.size w w':=by
 go_enter Tryz.func117,Tryz.ntmps117
 go_wp2_with fail
 go_loopw [3,4] (fun u i wr=>∃k:Nat,k≤8∧i=.int .i64 ((k:Int)-1)∧u=.int .u64 (W7 n k)∧wr=w.alloc (.cells (D8 n) 193)) (fun _ i _=>(intOf i+1).toNat)
 case atStart=>exact⟨8,by omega,rfl,by rw[b47],rfl⟩
 case round=>
  obtain⟨k,hk,rfl,rfl,rfl⟩:=hrel;by_cases hlt:k=0
  ·subst hlt;have hf:(0:Int)≤W7 n 0:=OK n 0;have hg:=a4c n 0 (by omega)
   go_wp2_with fail
   rw[a4t]
   go_ret
   exact⟨rfl,(by repeat' (first|exact Below.refl _ _|assumption|(refine kX ?_ (by assumption))|(refine oA ?_ _)|(refine Below.alloc ?_ (by first|simp;done|(simp;omega)|omega) _)|(refine Tc ?_ (by first|simp;done|(simp;omega)|omega) _)|(refine Below.setCell ?_ (by first|simp;done|(simp;omega)|omega) _)))⟩
  ·obtain⟨j,rfl⟩:∃j,k=j+1:=⟨k-1,by omega⟩;have hj:j<8:=(by omega);have hg:=kO n j hj;have a1:=iG n j;have a2:=fQ n j;have b1:=OK n (j+1);have b2:=a3T n j hj;have hs:=b06 n j hj;have i1:((j:Int)+1-1)=j:=by omega
   go_wp2_with fail
   go_roundw
   case rel=>exact⟨j,by omega,by rfl,rfl,trivial⟩
   case measure=>simp[intOf]<;>omega
set_option maxHeartbeats 400000 in
theorem a5l(n:Int)(w:World):Calls Tryz.prog 115 #[.agg (D8 n)] w fun e w'=>e=.returned (.agg (D8 (-n)))∧Below w.heap.size w w':=by
 go_enter Tryz.func115,Tryz.ntmps115
 go_wp2_with fail
 go_loopw [4] (fun i wr=>∃k nd:Nat,k≤8∧i=.int .i64 k∧wr=(((w.alloc (.cells (D8 n) 193)).alloc (.cells (D8 0) 193)).alloc (.cells (D8m (-n-1) 0 k) 193)).drewN nd) (fun i _=>8-(intOf i).toNat)
 case atStart=>exact⟨0,0,by omega,rfl,by rw[yY,vH];rfl⟩
 case round=>
  obtain⟨k,nd,hk,rfl,rfl⟩:=hrel;by_cases hlt:k<8
  ·have hg:=xT (-n-1) 0 k k hlt;have hs:=AH (-n-1) 0 k hlt;have g1:=kO n k hlt;have b1:=iG n k;have b2:=fQ n k;have c1:=b0N n k;have i1:(k:Int)<8:=(by omega);have i2:(0:Int)≤k:=by omega
   go_wp2_with fail
   go_roundw
   case rel=>exact⟨k+1,_,by omega,by go_num,rfl⟩
   case measure=>simp[intOf]<;>omega
  ·obtain rfl:k=8:=(by omega);rw[TN];unfold D8
   go_wp2_with fail
   change Calls Tryz.prog _ #[.agg (D8 (-n-1)),_] _ _
   rw[←b33];refine(a3t _ _ _).mono ?_;rintro e w1 ⟨rfl,hb⟩;rw[a53];have hg:w1.heap[w.heap.size+1]? =some (.cells (D8 0) 193 (0,0)):=(hb.block _ (by simp)).trans (by rw[b4R,a1U _ _ _ (by simp),a2S _ _ _ (by simp)];rfl)
   go_wp2_with (refine a7M rfl _ _ _ rfl (w.heap.size+1) 193 (D8 0) (D8 (-n)) rfl rfl hg (by kernel_rfl) rfl (b3k _) ?_)
   refine a2g Tryz.results115 (w.heap.size+1) 193 (D8 (-n)) (0,0) _ rfl (setRow_heap _ _ _ _ _ _ hg) Tryz.underlying193 rfl (by kernel_rfl) rfl ⟨rfl,?_⟩;exact Tc (Below.trans (by repeat' (first|exact Below.refl _ _|assumption|(refine kX ?_ (by assumption))|(refine oA ?_ _)|(refine Below.alloc ?_ (by first|simp;done|(simp;omega)|omega) _)|(refine Tc ?_ (by first|simp;done|(simp;omega)|omega) _)|(refine Below.setCell ?_ (by first|simp;done|(simp;omega)|omega) _))) (hb.mono (by simp;omega))) (by omega) _
end
section
open Go.RowKit
set_option maxRecDepth 100000
def sx(a:Int)(k:Nat):Int:=(a+2^(k-1))%2^k-2^(k-1)
end
end
end Go.Proofs.YtabmahknlebhpaaGreat

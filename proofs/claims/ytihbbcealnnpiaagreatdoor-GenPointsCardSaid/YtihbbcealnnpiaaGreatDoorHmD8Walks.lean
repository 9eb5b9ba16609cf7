/- Parts of the proof. -/
import Derived.Test.YtihbbcealnnpiaaGreatDoorChecked
import Derived.Test.YtihbbcealnnpiaaGreatDoorHmD8Plain
import Derived.Test.YtihbbcealnnpiaaGreatDoorHmBase
set_option linter.unusedVariables false
namespace Go.Proofs.YtihbbcealnnpiaaGreatDoor
section
section
open Go.RowKit
set_option maxRecDepth 100000
set_option maxHeartbeats 400000 in
theorem a7K(n:Int)(w:World):Calls Tryz.prog 138 #[.int .i64 n] w fun e w'=>e=.returned (.agg (D8 n))∧Below w.heap.size w w':=by
 go_enter Tryz.func138,Tryz.ntmps138
 go_wp2_with fail
 obtain⟨m,hm,h0,h1⟩:∃m,IntKind.u64.wrap n=m∧0≤m∧m≤18446744073709551615:=⟨_,rfl,a2u n,a9u n⟩;rw[hm];have Hm:=Lib.hid hm;clear hm
 go_loopw [4,5] (fun u i wr=>∃k:Nat,k≤8∧i=.int .i64 k∧u=.int .u64 (m/256^k)∧wr=(w.alloc (.cells (D8 0) 217)).alloc (.cells (D8m m 0 k) 217)) (fun _ i _=>8-(intOf i).toNat)
 case atStart=>exact⟨0,by omega,rfl,by simp,by rw[vO,gI]⟩
 case round=>
  obtain⟨k,hk,rfl,rfl,rfl⟩:=hrel;by_cases hlt:k<8
  ·have hg:=yR m 0 k k hlt;have hs:=uQ m 0 k hlt;unfold dig at hs;have b0:0≤m/256^k:=Int.ediv_nonneg h0 (Int.le_of_lt (pow_pos k));have b1:m/256^k≤18446744073709551615:=Int.le_trans (Int.ediv_le_self _ h0) h1
   go_wp2_with fail
   go_roundw
   case rel=>exact⟨k+1,by omega,by go_num,by rw[a1d],rfl⟩
   case measure=>simp[intOf];omega
  ·obtain rfl:k=8:=(by omega);unfold D8m;rw[gI]
   go_wp2_with fail
   have hd:D8 m=D8 n:=(by rw[←Hm.out];exact a0Z n);rw[←hd];exact bodyPost_ret (v:=.agg (D8 m)) (by simp[results,Tryz.results138,go_sem];rfl) rfl ⟨rfl,(by repeat' (first|exact Below.refl _ _|assumption|(refine Wq ?_ (by assumption))|(refine nM ?_ _)|(refine Below.alloc ?_ (by first|simp;done|(simp;omega)|omega) _)|(refine Ia ?_ (by first|simp;done|(simp;omega)|omega) _)|(refine Below.setCell ?_ (by first|simp;done|(simp;omega)|omega) _)))⟩
set_option maxHeartbeats 400000 in
theorem b2Q(m n:Int)(w:World):Calls Tryz.prog 147 #[.agg (D8 m),.agg (D8 n)] w fun e w'=>e=.returned (.agg (D8 (m+n)))∧Below w.heap.size w w':=by
 go_enter Tryz.func147,Tryz.ntmps147
 go_wp2_with fail
 go_loopw [6,7,8] (fun c i s wr=>∃k nd:Nat,k≤8∧i=.int .i64 k∧c=.int .i64 (Bq m n k)∧wr=((((w.alloc (.cells (D8 m) 217)).alloc (.cells (D8 n) 217)).alloc (.cells (D8 0) 217)).alloc (.cells (D8m (m+n) 0 k) 217)).drewN nd) (fun _ i _ _=>8-(intOf i).toNat)
 case atStart=>exact⟨0,0,by omega,rfl,by rw[ZP],by rw[vO,gI];rfl⟩
 case round=>
  obtain⟨k,nd,hk,rfl,rfl,rfl⟩:=hrel;by_cases hlt:k<8
  ·have hg:=yR (m+n) 0 k k hlt;have hs:=uQ (m+n) 0 k hlt;have g1:=cD m k hlt;have g2:=cD n k hlt;have b1:=eC m k;have b2:=eV m k;have b3:=eC n k;have b4:=eV n k;obtain⟨b5,b6⟩:=a7V m n k;obtain⟨c1,c2⟩:=a6a m n k;have i1:(k:Int)<8:=(by omega);have i2:(0:Int)≤k:=by omega
   go_wp2_with fail
   go_quiet (fail)
   go_wp2_with fail
   go_roundw
   case rel=>exact⟨k+1,_,by omega,by go_num,by rw[c2],rfl⟩
   case measure=>simp[intOf];omega
  ·obtain rfl:k=8:=(by omega);rw[XV];unfold D8
   go_wp2_with fail
   exact bodyPost_ret (v:=.agg (D8 (m+n))) (by simp[results,Tryz.results147,go_sem];rfl) rfl ⟨rfl,(by repeat' (first|exact Below.refl _ _|assumption|(refine Wq ?_ (by assumption))|(refine nM ?_ _)|(refine Below.alloc ?_ (by first|simp;done|(simp;omega)|omega) _)|(refine Ia ?_ (by first|simp;done|(simp;omega)|omega) _)|(refine Below.setCell ?_ (by first|simp;done|(simp;omega)|omega) _)))⟩
set_option maxHeartbeats 400000 in
theorem a3r(n:Int)(w:World):Calls Tryz.prog 139 #[.agg (D8 n)] w fun e w'=>e=.returned (.int .i64 (wrap64 n))∧Below w.heap.size w w':=by
 go_enter Tryz.func139,Tryz.ntmps139
 go_wp2_with fail
 go_loopw [3,4] (fun u i wr=>∃k:Nat,k≤8∧i=.int .i64 ((k:Int)-1)∧u=.int .u64 (V8 n k)∧wr=w.alloc (.cells (D8 n) 217)) (fun _ i _=>(intOf i+1).toNat)
 case atStart=>exact⟨8,by omega,rfl,by rw[a4x],rfl⟩
 case round=>
  obtain⟨k,hk,rfl,rfl,rfl⟩:=hrel;by_cases hlt:k=0
  ·subst hlt;have hf:(0:Int)≤V8 n 0:=SZ n 0;have hg:=a40 n 0 (by omega)
   go_wp2_with fail
   rw[a9K]
   go_ret
   exact⟨rfl,(by repeat' (first|exact Below.refl _ _|assumption|(refine Wq ?_ (by assumption))|(refine nM ?_ _)|(refine Below.alloc ?_ (by first|simp;done|(simp;omega)|omega) _)|(refine Ia ?_ (by first|simp;done|(simp;omega)|omega) _)|(refine Below.setCell ?_ (by first|simp;done|(simp;omega)|omega) _)))⟩
  ·obtain⟨j,rfl⟩:∃j,k=j+1:=⟨k-1,by omega⟩;have hj:j<8:=(by omega);have hg:=cD n j hj;have a1:=eC n j;have a2:=eV n j;have b1:=SZ n (j+1);have b2:=a7z n j hj;have hs:=a0N n j hj;have i1:((j:Int)+1-1)=j:=by omega
   go_wp2_with fail
   go_roundw
   case rel=>exact⟨j,by omega,by rfl,rfl,trivial⟩
   case measure=>simp[intOf]<;>omega
set_option maxHeartbeats 400000 in
theorem a9h(n:Int)(w:World):Calls Tryz.prog 137 #[.agg (D8 n)] w fun e w'=>e=.returned (.agg (D8 (-n)))∧Below w.heap.size w w':=by
 go_enter Tryz.func137,Tryz.ntmps137
 go_wp2_with fail
 go_loopw [4] (fun i wr=>∃k nd:Nat,k≤8∧i=.int .i64 k∧wr=(((w.alloc (.cells (D8 n) 217)).alloc (.cells (D8 0) 217)).alloc (.cells (D8m (-n-1) 0 k) 217)).drewN nd) (fun i _=>8-(intOf i).toNat)
 case atStart=>exact⟨0,0,by omega,rfl,by rw[vO,gI];rfl⟩
 case round=>
  obtain⟨k,nd,hk,rfl,rfl⟩:=hrel;by_cases hlt:k<8
  ·have hg:=yR (-n-1) 0 k k hlt;have hs:=uQ (-n-1) 0 k hlt;have g1:=cD n k hlt;have b1:=eC n k;have b2:=eV n k;have c1:=b3l n k;have i1:(k:Int)<8:=(by omega);have i2:(0:Int)≤k:=by omega
   go_wp2_with fail
   go_roundw
   case rel=>exact⟨k+1,_,by omega,by go_num,rfl⟩
   case measure=>simp[intOf]<;>omega
  ·obtain rfl:k=8:=(by omega);rw[XV];unfold D8
   go_wp2_with fail
   change Calls Tryz.prog _ #[.agg (D8 (-n-1)),_] _ _
   rw[←a3C];refine(b2Q _ _ _).mono ?_;rintro e w1 ⟨rfl,hb⟩;rw[a1N];have hg:w1.heap[w.heap.size+1]? =some (.cells (D8 0) 217 (0,0)):=(hb.block _ (by simp)).trans (by rw[a30,a3h _ _ _ (by simp),a8y _ _ _ (by simp)];rfl)
   go_wp2_with (refine wpList_store_row rfl _ _ _ rfl (w.heap.size+1) 217 (D8 0) (D8 (-n)) rfl rfl hg (by kernel_rfl) rfl (a7u _) ?_)
   refine a26 Tryz.results137 (w.heap.size+1) 217 (D8 (-n)) (0,0) _ rfl (setRow_heap _ _ _ _ _ _ hg) Tryz.underlying217 rfl (by kernel_rfl) rfl ⟨rfl,?_⟩;exact Ia (Below.trans (by repeat' (first|exact Below.refl _ _|assumption|(refine Wq ?_ (by assumption))|(refine nM ?_ _)|(refine Below.alloc ?_ (by first|simp;done|(simp;omega)|omega) _)|(refine Ia ?_ (by first|simp;done|(simp;omega)|omega) _)|(refine Below.setCell ?_ (by first|simp;done|(simp;omega)|omega) _))) (hb.mono (by simp;omega))) (by omega) _
end
section
open Go.RowKit
set_option maxRecDepth 100000
def sx(a:Int)(k:Nat):Int:=(a+2^(k-1))%2^k-2^(k-1)
end
end
end Go.Proofs.YtihbbcealnnpiaaGreatDoor

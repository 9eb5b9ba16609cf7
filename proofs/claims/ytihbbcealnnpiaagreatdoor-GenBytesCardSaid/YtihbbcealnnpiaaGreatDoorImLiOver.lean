/- Parts of the proof. -/
import Derived.Test.YtihbbcealnnpiaaGreatDoorImLiList
import Derived.Test.YtihbbcealnnpiaaGreatDoorImXF
set_option linter.unusedVariables false
namespace Go.Proofs.YtihbbcealnnpiaaGreatDoor
section
open Go.RowKit
def VA(x:p8):Bool:=Du x.Op||(decide (0<=x.A)&&decide (x.A<100))
def gD(c:s8)(fn:Int):Option (b6H):=if 0<=fn/\Jq c=true/\c.On.isEmpty=false/\c.On.all VA=true then
  (match c.As[fn.toNat]? with
  |some f=>if f.In≠0/\f.In<=100 then some (Y4 0 ((c.On.drop f.At.toNat).take f.In.toNat))else none
  |none=>none)
 else none
theorem b2R{c:s8}{C:Int}{r:b6H}(h:gD c C=some r):b0M c C r:=by
 unfold gD at h;split at h
 ·rename_i L;obtain⟨h0,Q,B,N⟩:=L;cases G:c.As[C.toNat]? with
  |none=>rw[G]at h;cases h
  |some f=>
   rw[G]at h;simp only at h;split at h
   ·rename_i I;cases h;refine iQ (by kernel_rfl) (λw X=>VD _ _ _ rfl) λw X H P z=>?_;obtain⟨M,O,J,R,hC⟩:=a1W (z 0 (by simp));rw[a4g P R (D3 (z 1 (by simp)))];have F:=hC.to (Below.refl _ w);obtain⟨n,rfl⟩:∃n:Nat,C=(n:Int):=⟨C.toNat,by omega⟩;refine a6n w c M O J n f F G Q (λe=>by rw[e]at B;cases B) I.1 (λi hi=>⟨by omega,by omega⟩) (λx hx K=>?_);have:=List.all_eq_true.1 N x hx;unfold VA at this;rw[K,Bool.false_or,x7]at this;exact⟨F3 this.1,F3 this.2⟩
   ·cases h
 ·cases h
end
end Go.Proofs.YtihbbcealnnpiaaGreatDoor

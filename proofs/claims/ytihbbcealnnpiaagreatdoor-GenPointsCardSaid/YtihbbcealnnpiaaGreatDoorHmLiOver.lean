/- Parts of the proof. -/
import Derived.Test.YtihbbcealnnpiaaGreatDoorHmLiList
import Derived.Test.YtihbbcealnnpiaaGreatDoorHmXF
set_option linter.unusedVariables false
namespace Go.Proofs.YtihbbcealnnpiaaGreatDoor
section
open Go.RowKit
def RM(x:i6):Bool:=Az x.Op||(decide (0≤x.A)&&decide (x.A<100))
def cT(c:l7)(fn:Int):Option (b38):=if 0≤fn∧Gh c=true∧c.Is.isEmpty=false∧c.Is.all RM=true then
  (match c.As[fn.toNat]? with
  |some f=>if f.If≠0∧f.If≤100 then some (S8 0 ((c.Is.drop f.At.toNat).take f.If.toNat))else none
  |none=>none)
 else none
theorem b0z{c:l7}{fn:Int}{r:b38}(h:cT c fn=some r):a8G c fn r:=by
 unfold cT at h;split at h
 ·rename_i h1;obtain⟨h0,hm,hne,hA⟩:=h1;cases hf:c.As[fn.toNat]? with
  |none=>rw[hf]at h;cases h
  |some f=>
   rw[hf]at h;simp only at h;split at h
   ·rename_i h2;cases h;refine eD (by kernel_rfl) (fun w X=>RO _ _ _ rfl) fun w X vals hs hrep=>?_;obtain⟨v1,v2,v3,hv,hC⟩:=a0u (hrep 0 (by simp));rw[a2F hs hv (B7 (hrep 1 (by simp)))];have hC2:=hC.to (Below.refl _ w);obtain⟨n,rfl⟩:∃n:Nat,fn=(n:Int):=⟨fn.toNat,by omega⟩;refine a4F w c v1 v2 v3 n f hC2 hf hm (fun e=>by rw[e]at hne;cases hne) h2.1 (fun i hi=>⟨by omega,by omega⟩) (fun x hx hb=>?_);have:=List.all_eq_true.1 hA x hx;unfold RM at this;rw[hb,Bool.false_or,w8]at this;exact⟨D3 this.1,D3 this.2⟩
   ·cases h
 ·cases h
end
end Go.Proofs.YtihbbcealnnpiaaGreatDoor

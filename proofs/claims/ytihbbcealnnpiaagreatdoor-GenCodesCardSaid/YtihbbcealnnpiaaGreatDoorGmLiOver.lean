/- Parts of the proof. -/
import Derived.Test.YtihbbcealnnpiaaGreatDoorGmLiList
import Derived.Test.YtihbbcealnnpiaaGreatDoorGmXF
set_option linter.unusedVariables false
namespace Go.Proofs.YtihbbcealnnpiaaGreatDoor
section
open Go.RowKit
def SC(x:i5):Bool:=Bd x.Op||(decide (0≤x.A)&&decide (x.A<100))
def dR(c:o9)(fn:Int):Option (b36):=if 0≤fn∧Gj c=true∧c.Qs.isEmpty=false∧c.Qs.all SC=true then
  (match c.As[fn.toNat]? with
  |some f=>if f.On≠0∧f.On≤100 then some (U0 0 ((c.Qs.drop f.At.toNat).take f.On.toNat))else none
  |none=>none)
 else none
theorem b0B{c:o9}{fn:Int}{r:b36}(h:dR c fn=some r):a8I c fn r:=by
 unfold dR at h;split at h
 ·rename_i h1;obtain⟨h0,hm,hne,hA⟩:=h1;cases hf:c.As[fn.toNat]? with
  |none=>rw[hf]at h;cases h
  |some f=>
   rw[hf]at h;simp only at h;split at h
   ·rename_i h2;cases h;refine fF (by kernel_rfl) (fun w X=>SG _ _ _ rfl) fun w X vals hs hrep=>?_;obtain⟨v1,v2,v3,hv,hC⟩:=a0z (hrep 0 (by simp));rw[a2J hs hv (B9 (hrep 1 (by simp)))];have hC2:=hC.to (Below.refl _ w);obtain⟨n,rfl⟩:∃n:Nat,fn=(n:Int):=⟨fn.toNat,by omega⟩;refine a4E w c v1 v2 v3 n f hC2 hf hm (fun e=>by rw[e]at hne;cases hne) h2.1 (fun i hi=>⟨by omega,by omega⟩) (fun x hx hb=>?_);have:=List.all_eq_true.1 hA x hx;unfold SC at this;rw[hb,Bool.false_or,w9]at this;exact⟨E3 this.1,E3 this.2⟩
   ·cases h
 ·cases h
end
end Go.Proofs.YtihbbcealnnpiaaGreatDoor

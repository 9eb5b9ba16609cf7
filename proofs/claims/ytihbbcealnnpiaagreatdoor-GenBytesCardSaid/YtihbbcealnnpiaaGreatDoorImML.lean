/- Parts of the proof. -/
import Derived.Test.YtihbbcealnnpiaaGreatDoorImMT
set_option linter.unusedVariables false
namespace Go.Proofs.YtihbbcealnnpiaaGreatDoor
noncomputable section
open Go.RowKit
set_option maxRecDepth 100000
set_option maxHeartbeats 4000000
theorem a4w{α β:Type}{o:Option α}{x:α}{f:α->β}{b:β}(h:o=some x)(z:f x=b):o.map f=some b:=by rw[h,<-z];rfl
theorem a8k:Bf Tryz.prog Q5 (J0 M_B):=
 YP (B:=tab) (P:=Tryz.prog) (t:=Q5) (hand:=DN) (dof:=oW) (io:=Cj WL) (pu:=Cj VZ) (lo:=Cj UA) (fuel:=1000) (by kernel_rfl) (LV (lbs:=TE) (vs:=PZ) (hands:=[]) (by kernel_rfl) (by kernel_rfl)) a7G
def a0f(a:s8):Option Bool:=(Gg (.c0 a)).map λr=>r.1.1
theorem b5M{a:s8}{r:Bool}(h:a0f a=some r):FnP Tryz.prog 24 [Ca a] (aB r):=by obtain⟨x,hx,rfl⟩:=a0k h;exact Eq.mp (by kernel_rfl) (ZQ a8k (l:=0) (x:=((a,()),())) (hx:=by kernel_rfl) (hT:=by kernel_rfl) (r:=x) (Eq.mp (by kernel_rfl) hx) (by kernel_rfl))
theorem b5b(a:s8):a0f a=(Gg (.c0 a)).map λr=>r.1.1:=rfl
end
end Go.Proofs.YtihbbcealnnpiaaGreatDoor

/- Parts of the proof. -/
import Derived.Test.YtihbbcealnnpiaaGreatDoorImQC
set_option linter.unusedVariables false
namespace Go.Proofs.YtihbbcealnnpiaaGreatDoor
noncomputable section
open Go.RowKit
set_option maxRecDepth 100000
set_option maxHeartbeats 4000000
theorem b50{α β:Type}{o:Option α}{x:α}{f:α->β}{b:β}(h:o=some x)(z:f x=b):o.map f=some b:=by rw[h,<-z];rfl
theorem b05:Bf Tryz.prog Q4 (J0 Q_B):=
 YP (B:=tab) (P:=Tryz.prog) (t:=Q4) (hand:=AE) (dof:=oW) (io:=Cj XL) (pu:=Cj XE) (lo:=Cj RW) (fuel:=1000) (by kernel_rfl) (LV (lbs:=SC) (vs:=KJ) (hands:=[18,19,20,309,318,319]) (by kernel_rfl) (by kernel_rfl)) b22
def l16_GenBytes(a:(b6H)):Option Bool:=(d5 (.l16_GenBytes a)).map λr=>r.1.1
theorem a8O{a:(b6H)}{r:Bool}(h:l16_GenBytes a=some r):FnP Tryz.prog 5 [aS a] (aB r):=by obtain⟨x,hx,rfl⟩:=a0k h;exact Eq.mp (by kernel_rfl) (ZQ b05 (l:=320) (x:=((a,()),())) (hx:=by kernel_rfl) (hT:=by kernel_rfl) (r:=x) (Eq.mp (by kernel_rfl) hx) (by kernel_rfl))
theorem a4P(a:(b6H)):l16_GenBytes a=(d5 (.l16_GenBytes a)).map λr=>r.1.1:=rfl
theorem a6I(a:(b6H))(h:d5 (.l16_GenBytes a)=some ((true,()),())):l16_GenBytes a=some true:=(a4P a).trans (b50 h rfl)
end
end Go.Proofs.YtihbbcealnnpiaaGreatDoor

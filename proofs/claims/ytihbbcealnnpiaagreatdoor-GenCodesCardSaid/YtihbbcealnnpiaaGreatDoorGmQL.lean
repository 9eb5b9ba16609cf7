/- Parts of the proof. -/
import Derived.Test.YtihbbcealnnpiaaGreatDoorGmQC
set_option linter.unusedVariables false
namespace Go.Proofs.YtihbbcealnnpiaaGreatDoor
noncomputable section
open Go.RowKit
set_option maxRecDepth 100000
set_option maxHeartbeats 4000000
theorem b3t{α β:Type}{o:Option α}{x:α}{f:α→β}{b:β}(h:o=some x)(hb:f x=b):o.map f=some b:=by rw[h,←hb];rfl
theorem b0D:∀f,B7 xF f=true→Oh Tryz.prog f:=by intro f h;cases h
theorem a8Y:U5 Tryz.prog P0 (H1 Q_B):=
 VP (B:=tab) (P:=Tryz.prog) (t:=P0) (hand:=yB) (dof:=mS) (sw:=xF) b0D (io:=Aa UL) (pu:=Aa UG) (lo:=Aa PG) (fuel:=1000) (by kernel_rfl) (JE (lbs:=PM) (vs:=HJ) (hands:=[18,19,20,309]) (by kernel_rfl) (by kernel_rfl)) b0M
def l16_GenCodes(a:(b36)):Option Bool:=(d5 (.l16_GenCodes a)).map fun r=>r.1.1
theorem b20{a:(b36)}{r:Bool}(h:l16_GenCodes a=some r):FnP Tryz.prog 3 [aS a] (aB r):=by obtain⟨x,hx,rfl⟩:=XI h;exact Eq.mp (by kernel_rfl) (WR a8Y (l:=345) (x:=((a,()),())) (hx:=by kernel_rfl) (hT:=by kernel_rfl) (r:=x) (Eq.mp (by kernel_rfl) hx) (by kernel_rfl))
theorem b3B(a:(b36)):l16_GenCodes a=(d5 (.l16_GenCodes a)).map fun r=>r.1.1:=rfl
theorem a8u(a:(b36))(h:d5 (.l16_GenCodes a)=some ((true,()),())):l16_GenCodes a=some true:=(b3B a).trans (b3t h rfl)
end
end Go.Proofs.YtihbbcealnnpiaaGreatDoor

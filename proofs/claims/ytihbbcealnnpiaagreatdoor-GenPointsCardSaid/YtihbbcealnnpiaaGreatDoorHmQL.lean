/- Parts of the proof. -/
import Derived.Test.YtihbbcealnnpiaaGreatDoorHmQC
set_option linter.unusedVariables false
namespace Go.Proofs.YtihbbcealnnpiaaGreatDoor
noncomputable section
open Go.RowKit
set_option maxRecDepth 100000
set_option maxHeartbeats 4000000
theorem b3v{α β:Type}{o:Option α}{x:α}{f:α→β}{b:β}(h:o=some x)(hb:f x=b):o.map f=some b:=by rw[h,←hb];rfl
theorem b0B:∀f,B5 wD f=true→Nv Tryz.prog f:=by intro f h;cases h
theorem a8W:T9 Tryz.prog O3 (G4 Q_B):=
 VE (B:=tab) (P:=Tryz.prog) (t:=O3) (hand:=xA) (dof:=lQ) (sw:=wD) b0B (io:=Y9 UA) (pu:=Y9 TR) (lo:=Y9 OK) (fuel:=1000) (by kernel_rfl) (IB (lbs:=OP) (vs:=GF) (hands:=[18,19,20,309]) (by kernel_rfl) (by kernel_rfl)) b0M
def l16_GenPoints(a:(b38)):Option Bool:=(d5 (.l16_GenPoints a)).map fun r=>r.1.1
theorem a21{a:(b38)}{r:Bool}(h:l16_GenPoints a=some r):FnP Tryz.prog 4 [aS a] (aB r):=by obtain⟨x,hx,rfl⟩:=XA h;exact Eq.mp (by kernel_rfl) (WG a8W (l:=316) (x:=((a,()),())) (hx:=by kernel_rfl) (hT:=by kernel_rfl) (r:=x) (Eq.mp (by kernel_rfl) hx) (by kernel_rfl))
theorem b2i(a:(b38)):l16_GenPoints a=(d5 (.l16_GenPoints a)).map fun r=>r.1.1:=rfl
theorem b2X(a:(b38))(h:d5 (.l16_GenPoints a)=some ((true,()),())):l16_GenPoints a=some true:=(b2i a).trans (b3v h rfl)
end
end Go.Proofs.YtihbbcealnnpiaaGreatDoor

/- Parts of the proof. -/
import Derived.Test.YtabmahknlebhpaaGreatVmQC
import Derived.Test.YtabmahknlebhpaaGreatVmVfSwap
set_option linter.unusedVariables false
namespace Go.Proofs.YtabmahknlebhpaaGreat
noncomputable section
open Go.RowKit
set_option maxRecDepth 100000
set_option maxHeartbeats 4000000
theorem b4y{α β:Type}{o:Option α}{x:α}{f:α→β}{b:β}(h:o=some x)(hb:f x=b):o.map f=some b:=by rw[h,←hb];rfl
theorem b1t:∀f,B3 BQ f=true→Pr Tryz.prog f:=by intro f h;have:=I2.1 (Z3 h);subst this;exact a74
theorem a15:V5 Tryz.prog Q0 (I6 Q_B):=
 b4V (B:=tab) (P:=Tryz.prog) (t:=Q0) (hand:=JF) (dof:=QY) (sw:=BQ) b1t (io:=Ki SO) (pu:=Ki SR) (lo:=Ki a0i) (fuel:=1000) (by kernel_rfl) (b3N (lbs:=NM) (vs:=YH) (hands:=[18,19,20]) (by kernel_rfl) (by kernel_rfl)) b35
def l17_VerifyPrograms(a:(b5Y)):Option Bool:=(d5 (.l17_VerifyPrograms a)).map fun r=>r.1.1
theorem b0K{a:(b5Y)}{r:Bool}(h:l17_VerifyPrograms a=some r):FnP Tryz.prog 5 [aS a] (aB r):=by obtain⟨x,hx,rfl⟩:=b4S h;exact Eq.mp (by kernel_rfl) (b2n a15 (l:=353) (x:=((a,()),())) (hx:=by kernel_rfl) (hT:=by kernel_rfl) (r:=x) (Eq.mp (by kernel_rfl) hx) (by kernel_rfl))
theorem a9Y(a:(b5Y)):l17_VerifyPrograms a=(d5 (.l17_VerifyPrograms a)).map fun r=>r.1.1:=rfl
theorem b0u(a:(b5Y))(h:d5 (.l17_VerifyPrograms a)=some ((true,()),())):l17_VerifyPrograms a=some true:=(a9Y a).trans (b4y h rfl)
end
end Go.Proofs.YtabmahknlebhpaaGreat

/- Parts of the proof. -/
import Derived.Test.YtihbbcealnnpiaaGreatDoorHmMT
set_option linter.unusedVariables false
namespace Go.Proofs.YtihbbcealnnpiaaGreatDoor
noncomputable section
open Go.RowKit
set_option maxRecDepth 100000
set_option maxHeartbeats 4000000
theorem a2W{α β:Type}{o:Option α}{x:α}{f:α→β}{b:β}(h:o=some x)(hb:f x=b):o.map f=some b:=by rw[h,←hb];rfl
theorem a04:∀f,B5 tZ f=true→Nv Tryz.prog f:=by intro f h;cases h
theorem a6v:T9 Tryz.prog N0 (G4 M_B):=
 VE (B:=tab) (P:=Tryz.prog) (t:=N0) (hand:=AH) (dof:=lQ) (sw:=tZ) a04 (io:=Y9 SX) (pu:=Y9 SL) (lo:=Y9 QM) (fuel:=1000) (by kernel_rfl) (IB (lbs:=PQ) (vs:=MN) (hands:=[]) (by kernel_rfl) (by kernel_rfl)) a5S
def WX(a:l7):Option Bool:=(Cz (.c0 a)).map fun r=>r.1.1
theorem b3h{a:l7}{r:Bool}(h:WX a=some r):FnP Tryz.prog 24 [Ib a] (aB r):=by obtain⟨x,hx,rfl⟩:=XA h;exact Eq.mp (by kernel_rfl) (WG a6v (l:=0) (x:=((a,()),())) (hx:=by kernel_rfl) (hT:=by kernel_rfl) (r:=x) (Eq.mp (by kernel_rfl) hx) (by kernel_rfl))
theorem b2F(a:l7):WX a=(Cz (.c0 a)).map fun r=>r.1.1:=rfl
end
end Go.Proofs.YtihbbcealnnpiaaGreatDoor

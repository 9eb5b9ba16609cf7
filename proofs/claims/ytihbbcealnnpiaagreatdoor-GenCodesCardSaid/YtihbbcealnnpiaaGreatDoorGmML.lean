/- Parts of the proof. -/
import Derived.Test.YtihbbcealnnpiaaGreatDoorGmMT
set_option linter.unusedVariables false
namespace Go.Proofs.YtihbbcealnnpiaaGreatDoor
noncomputable section
open Go.RowKit
set_option maxRecDepth 100000
set_option maxHeartbeats 4000000
theorem a2Y{α β:Type}{o:Option α}{x:α}{f:α→β}{b:β}(h:o=some x)(hb:f x=b):o.map f=some b:=by rw[h,←hb];rfl
theorem a08:∀f,B7 vD f=true→Oh Tryz.prog f:=by intro f h;cases h
theorem a6v:U5 Tryz.prog N4 (H1 M_B):=
 VP (B:=tab) (P:=Tryz.prog) (t:=N4) (hand:=BK) (dof:=mS) (sw:=vD) a08 (io:=Aa TP) (pu:=Aa TE) (lo:=Aa RD) (fuel:=1000) (by kernel_rfl) (JE (lbs:=QJ) (vs:=NN) (hands:=[]) (by kernel_rfl) (by kernel_rfl)) a5U
def XF(a:o9):Option Bool:=(Df (.c0 a)).map fun r=>r.1.1
theorem b3f{a:o9}{r:Bool}(h:XF a=some r):FnP Tryz.prog 24 [Ie a] (aB r):=by obtain⟨x,hx,rfl⟩:=XI h;exact Eq.mp (by kernel_rfl) (WR a6v (l:=0) (x:=((a,()),())) (hx:=by kernel_rfl) (hT:=by kernel_rfl) (r:=x) (Eq.mp (by kernel_rfl) hx) (by kernel_rfl))
theorem b2H(a:o9):XF a=(Df (.c0 a)).map fun r=>r.1.1:=rfl
end
end Go.Proofs.YtihbbcealnnpiaaGreatDoor

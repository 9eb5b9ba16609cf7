/- Parts of the proof. -/
import Derived.Test.YtihbbcealnnpiaaGreatDoorHmValsX
import Derived.Test.YtihbbcealnnpiaaGreatDoorHmXF
import Derived.Test.YtihbbcealnnpiaaGreatDoorHmD8Walks
set_option linter.unusedVariables false
namespace Go.Proofs.YtihbbcealnnpiaaGreatDoor
section
open Go.RowKit
set_option maxRecDepth 100000
set_option maxHeartbeats 4000000
def dN(n:Int):I3:=⟨dig n 0,dig n 1,dig n 2,dig n 3,dig n 4,dig n 5,dig n 6,dig n 7⟩
def vN(d:I3):Int:=d.e0_+256*(d.e1_+256*(d.e2_+256*(d.e3_+256*(d.e4_+256*(d.e5_+256*(d.e6_+256*d.e7_))))))
theorem DH(n:Int):vN (dN n)=n%18446744073709551616:=by unfold vN dN dig;simp only;omega
theorem ES(n:Int):dN (n%18446744073709551616)=dN n:=by simp only[dN,U4 n _ (show 0<8 by decide),U4 n _ (show 1<8 by decide),U4 n _ (show 2<8 by decide),U4 n _ (show 3<8 by decide),U4 n _ (show 4<8 by decide),U4 n _ (show 5<8 by decide),U4 n _ (show 6<8 by decide),U4 n _ (show 7<8 by decide)]
theorem QK(n:Int):dN (vN (dN n))=dN n:=by rw[DH,ES]
theorem a38{m:Int}:dN (-vN (dN m))=dN (-m):=by rw[DH,←ES,←ES (-m)];congr 1;omega
theorem QC(w:World)(M:Nat→Prop)(n:Int):D4 w M (Fq (dN n)) (.agg (D8 n)):=by
 unfold Fq xK;refine .agg _ _ rfl (fun i hi=>?_) (fun i hi=>?_)
 ·match i,hi with
  |0,_=>rfl
  |1,_=>rfl
  |2,_=>rfl
  |3,_=>rfl
  |4,_=>rfl
  |5,_=>rfl
  |6,_=>rfl
  |7,_=>rfl
 ·match i,hi with
  |0,_=>exact .t _ _ (.v _ rfl)
  |1,_=>exact .t _ _ (.v _ rfl)
  |2,_=>exact .t _ _ (.v _ rfl)
  |3,_=>exact .t _ _ (.v _ rfl)
  |4,_=>exact .t _ _ (.v _ rfl)
  |5,_=>exact .t _ _ (.v _ rfl)
  |6,_=>exact .t _ _ (.v _ rfl)
  |7,_=>exact .t _ _ (.v _ rfl)
theorem VO{w:World}{M:Nat→Prop}{d:I3}{v:Value}(h:D4 w M (Fq d) v)(hd:d=dN (vN d)):v=.agg (D8 (vN d)):=by
 rw[hd]at h;generalize vN d=n at h;unfold Fq xK at h;cases h with
 |agg cs vs hs h1 hr=>
  congr 1
  apply Array.ext
  ·simpa[D8]using hs
  ·intro i h3 h4;have h5:i<8:=h4
   match i,h5 with
   |0,_=>exact B7 (hr 0 (by simp))
   |1,_=>exact B7 (hr 1 (by simp))
   |2,_=>exact B7 (hr 2 (by simp))
   |3,_=>exact B7 (hr 3 (by simp))
   |4,_=>exact B7 (hr 4 (by simp))
   |5,_=>exact B7 (hr 5 (by simp))
   |6,_=>exact B7 (hr 6 (by simp))
   |7,_=>exact B7 (hr 7 (by simp))
def nE(a:Int):Option I3:=some (dN a)
theorem b1N{a:Int}{r:I3}(h:nE a=some r):a5f a r:=by cases h;refine eD (by kernel_rfl) (fun w X=>QC w X a) fun w X vals hs hrep=>?_;rw[xX hs (B7 (hrep 0 (by simp)))];exact a7K a w
def Sa(d:I3):Option Int:=if d=dN (vN d)then some (RowKit.wrap64 (vN d))else none
theorem a8v{d:I3}{r:Int}(h:Sa d=some r):a7C d r:=by obtain⟨hd,h⟩:=HR h;cases h;refine eD (by kernel_rfl) (fun w X=>RO _ _ _ rfl) fun w X vals hs hrep=>?_;rw[xX hs (VO (hrep 0 (by simp)) hd)];exact a3r _ w
def Rg(d:I3):Option I3:=if d=dN (vN d)then some (dN (-vN d))else none
theorem a4v{d r:I3}(h:Rg d=some r):a0R d r:=by obtain⟨hd,h⟩:=HR h;cases h;refine eD (by kernel_rfl) (fun w X=>QC w X _) fun w X vals hs hrep=>?_;rw[xX hs (VO (hrep 0 (by simp)) hd)];exact a9h _ w
theorem xOf(a:Int):nE a=some (dN a):=rfl
theorem b26(n:Int):Sa (dN n)=some (RowKit.wrap64 n):=by unfold Sa;rw[if_pos (QK n).symm,DH,LH]
theorem a05(n:Int):Rg (dN n)=some (dN (-n)):=by unfold Rg;rw[if_pos (QK n).symm,a38]
def GI(a:Int):Prop:= -9223372036854775808≤a∧a≤9223372036854775807
instance(a:Int):Decidable (GI a):=by unfold GI;infer_instance
end
end Go.Proofs.YtihbbcealnnpiaaGreatDoor

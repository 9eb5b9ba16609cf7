/- Parts of the proof. -/
import Derived.Test.YtihbbcealnnpiaaGreatDoorGmValsX
import Derived.Test.YtihbbcealnnpiaaGreatDoorGmXF
import Derived.Test.YtihbbcealnnpiaaGreatDoorGmD8Walks
set_option linter.unusedVariables false
namespace Go.Proofs.YtihbbcealnnpiaaGreatDoor
section
open Go.RowKit
set_option maxRecDepth 100000
set_option maxHeartbeats 4000000
def dN(n:Int):I4:=⟨dig n 0,dig n 1,dig n 2,dig n 3,dig n 4,dig n 5,dig n 6,dig n 7⟩
def vN(d:I4):Int:=d.e0_+256*(d.e1_+256*(d.e2_+256*(d.e3_+256*(d.e4_+256*(d.e5_+256*(d.e6_+256*d.e7_))))))
theorem EK(n:Int):vN (dN n)=n%18446744073709551616:=by unfold vN dN dig;simp only;omega
theorem FV(n:Int):dN (n%18446744073709551616)=dN n:=by simp only[dN,V1 n _ (show 0<8 by decide),V1 n _ (show 1<8 by decide),V1 n _ (show 2<8 by decide),V1 n _ (show 3<8 by decide),V1 n _ (show 4<8 by decide),V1 n _ (show 5<8 by decide),V1 n _ (show 6<8 by decide),V1 n _ (show 7<8 by decide)]
theorem RB(n:Int):dN (vN (dN n))=dN n:=by rw[EK,FV]
theorem a39{m:Int}:dN (-vN (dN m))=dN (-m):=by rw[EK,←FV,←FV (-m)];congr 1;omega
theorem QT(w:World)(M:Nat→Prop)(n:Int):D7 w M (Ft (dN n)) (.agg (D8 n)):=by
 unfold Ft yK;refine .agg _ _ rfl (fun i hi=>?_) (fun i hi=>?_)
 ·match i,hi with
  |0,_=>rfl
  |1,_=>rfl
  |2,_=>rfl
  |3,_=>rfl
  |4,_=>rfl
  |5,_=>rfl
  |6,_=>rfl
  |7,_=>rfl
 ·match i,hi with
  |0,_=>exact .t _ _ (.v _ rfl)
  |1,_=>exact .t _ _ (.v _ rfl)
  |2,_=>exact .t _ _ (.v _ rfl)
  |3,_=>exact .t _ _ (.v _ rfl)
  |4,_=>exact .t _ _ (.v _ rfl)
  |5,_=>exact .t _ _ (.v _ rfl)
  |6,_=>exact .t _ _ (.v _ rfl)
  |7,_=>exact .t _ _ (.v _ rfl)
theorem WB{w:World}{M:Nat→Prop}{d:I4}{v:Value}(h:D7 w M (Ft d) v)(hd:d=dN (vN d)):v=.agg (D8 (vN d)):=by
 rw[hd]at h;generalize vN d=n at h;unfold Ft yK at h;cases h with
 |agg cs vs hs h1 hr=>
  congr 1
  apply Array.ext
  ·simpa[D8]using hs
  ·intro i h3 h4;have h5:i<8:=h4
   match i,h5 with
   |0,_=>exact B9 (hr 0 (by simp))
   |1,_=>exact B9 (hr 1 (by simp))
   |2,_=>exact B9 (hr 2 (by simp))
   |3,_=>exact B9 (hr 3 (by simp))
   |4,_=>exact B9 (hr 4 (by simp))
   |5,_=>exact B9 (hr 5 (by simp))
   |6,_=>exact B9 (hr 6 (by simp))
   |7,_=>exact B9 (hr 7 (by simp))
def oG(a:Int):Option I4:=some (dN a)
theorem b1O{a:Int}{r:I4}(h:oG a=some r):a5e a r:=by cases h;refine fF (by kernel_rfl) (fun w X=>QT w X a) fun w X vals hs hrep=>?_;rw[yZ hs (B9 (hrep 0 (by simp)))];exact a7K a w
def Sv(d:I4):Option Int:=if d=dN (vN d)then some (RowKit.wrap64 (vN d))else none
theorem a8y{d:I4}{r:Int}(h:Sv d=some r):a7B d r:=by obtain⟨hd,h⟩:=IW h;cases h;refine fF (by kernel_rfl) (fun w X=>SG _ _ _ rfl) fun w X vals hs hrep=>?_;rw[yZ hs (WB (hrep 0 (by simp)) hd)];exact a3s _ w
def Rx(d:I4):Option I4:=if d=dN (vN d)then some (dN (-vN d))else none
theorem a4v{d r:I4}(h:Rx d=some r):a0W d r:=by obtain⟨hd,h⟩:=IW h;cases h;refine fF (by kernel_rfl) (fun w X=>QT w X _) fun w X vals hs hrep=>?_;rw[yZ hs (WB (hrep 0 (by simp)) hd)];exact a9j _ w
theorem xOf(a:Int):oG a=some (dN a):=rfl
theorem b24(n:Int):Sv (dN n)=some (RowKit.wrap64 n):=by unfold Sv;rw[if_pos (RB n).symm,EK,ML]
theorem a1a(n:Int):Rx (dN n)=some (dN (-n)):=by unfold Rx;rw[if_pos (RB n).symm,a39]
def HO(a:Int):Prop:= -9223372036854775808≤a∧a≤9223372036854775807
instance(a:Int):Decidable (HO a):=by unfold HO;infer_instance
end
end Go.Proofs.YtihbbcealnnpiaaGreatDoor

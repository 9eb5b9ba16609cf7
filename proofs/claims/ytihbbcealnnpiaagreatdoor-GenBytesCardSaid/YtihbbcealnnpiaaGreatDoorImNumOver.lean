/- Parts of the proof. -/
import Derived.Test.YtihbbcealnnpiaaGreatDoorImValsX
import Derived.Test.YtihbbcealnnpiaaGreatDoorImXF
import Derived.Test.YtihbbcealnnpiaaGreatDoorImD8Walks
set_option linter.unusedVariables false
namespace Go.Proofs.YtihbbcealnnpiaaGreatDoor
section
open Go.RowKit
set_option maxRecDepth 100000
set_option maxHeartbeats 4000000
def dN(n:Int):L5:=⟨dig n 0,dig n 1,dig n 2,dig n 3,dig n 4,dig n 5,dig n 6,dig n 7⟩
def vN(d:L5):Int:=d.e0_+256*(d.e1_+256*(d.e2_+256*(d.e3_+256*(d.e4_+256*(d.e5_+256*(d.e6_+256*d.e7_))))))
theorem GN(n:Int):vN (dN n)=n%18446744073709551616:=by unfold vN dN dig;simp only;omega
theorem IW(n:Int):dN (n%18446744073709551616)=dN n:=by simp only[dN,Ab n _ (show 0<8 by decide),Ab n _ (show 1<8 by decide),Ab n _ (show 2<8 by decide),Ab n _ (show 3<8 by decide),Ab n _ (show 4<8 by decide),Ab n _ (show 5<8 by decide),Ab n _ (show 6<8 by decide),Ab n _ (show 7<8 by decide)]
theorem TZ(n:Int):dN (vN (dN n))=dN n:=by rw[GN,IW]
theorem a5K{m:Int}:dN (-vN (dN m))=dN (-m):=by rw[GN,<-IW,<-IW (-m)];congr 1;omega
theorem TP(w:World)(M:Nat->Prop)(n:Int):D4 w M (Jd (dN n)) (.agg (D8 n)):=by
 unfold Jd AO;refine .agg _ _ rfl (λi hi=>?_) (λi hi=>?_)
 ·match i,hi with
  |0,_=>rfl
  |1,_=>rfl
  |2,_=>rfl
  |3,_=>rfl
  |4,_=>rfl
  |5,_=>rfl
  |6,_=>rfl
  |7,_=>rfl
 ·match i,hi with
  |0,_=>exact .t _ _ (.v _ rfl)
  |1,_=>exact .t _ _ (.v _ rfl)
  |2,_=>exact .t _ _ (.v _ rfl)
  |3,_=>exact .t _ _ (.v _ rfl)
  |4,_=>exact .t _ _ (.v _ rfl)
  |5,_=>exact .t _ _ (.v _ rfl)
  |6,_=>exact .t _ _ (.v _ rfl)
  |7,_=>exact .t _ _ (.v _ rfl)
theorem ZA{w:World}{M:Nat->Prop}{d:L5}{v:Value}(h:D4 w M (Jd d) v)(hd:d=dN (vN d)):v=.agg (D8 (vN d)):=by
 rw[hd]at h;generalize vN d=n at h;unfold Jd AO at h;cases h with
 |agg cs vs hs h1 hr=>
  congr 1
  apply Array.ext
  ·simpa[D8]using hs
  ·intro i C z;have B:i<8:=z
   match i,B with
   |0,_=>exact D3 (hr 0 (by simp))
   |1,_=>exact D3 (hr 1 (by simp))
   |2,_=>exact D3 (hr 2 (by simp))
   |3,_=>exact D3 (hr 3 (by simp))
   |4,_=>exact D3 (hr 4 (by simp))
   |5,_=>exact D3 (hr 5 (by simp))
   |6,_=>exact D3 (hr 6 (by simp))
   |7,_=>exact D3 (hr 7 (by simp))
def qH(a:Int):Option L5:=some (dN a)
theorem b4d{a:Int}{r:L5}(h:qH a=some r):a6Z a r:=by cases h;refine iQ (by kernel_rfl) (λw X=>TP w X a) λw X B C z=>?_;rw[BB C (D3 (z 0 (by simp)))];exact a9N a w
def Vl(d:L5):Option Int:=if d=dN (vN d)then some (RowKit.wrap64 (vN d))else none
theorem b0B{d:L5}{r:Int}(h:Vl d=some r):a9C d r:=by obtain⟨hd,h⟩:=dO h;cases h;refine iQ (by kernel_rfl) (λw X=>VD _ _ _ rfl) λw X B C z=>?_;rw[BB C (ZA (z 0 (by simp)) hd)];exact a40 _ w
def Uu(d:L5):Option L5:=if d=dN (vN d)then some (dN (-vN d))else none
theorem a6b{d r:L5}(h:Uu d=some r):a2o d r:=by obtain⟨hd,h⟩:=dO h;cases h;refine iQ (by kernel_rfl) (λw X=>TP w X _) λw X B C z=>?_;rw[BB C (ZA (z 0 (by simp)) hd)];exact b1t _ w
theorem xOf(a:Int):qH a=some (dN a):=rfl
theorem b5B(n:Int):Vl (dN n)=some (RowKit.wrap64 n):=by unfold Vl;rw[if_pos (TZ n).symm,GN,OR]
theorem a2B(n:Int):Uu (dN n)=some (dN (-n)):=by unfold Uu;rw[if_pos (TZ n).symm,a5K]
def KN(a:Int):Prop:= -9223372036854775808<=a/\a<=9223372036854775807
instance(a:Int):Decidable (KN a):=by unfold KN;infer_instance
end
end Go.Proofs.YtihbbcealnnpiaaGreatDoor

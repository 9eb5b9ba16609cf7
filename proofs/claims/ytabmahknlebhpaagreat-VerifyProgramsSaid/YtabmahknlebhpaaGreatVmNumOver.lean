/- Parts of the proof. -/
import Derived.Test.YtabmahknlebhpaaGreatVmValsX
import Derived.Test.YtabmahknlebhpaaGreatVmXF
import Derived.Test.YtabmahknlebhpaaGreatVmD8Walks
set_option linter.unusedVariables false
namespace Go.Proofs.YtabmahknlebhpaaGreat
section
open Go.RowKit
set_option maxRecDepth 100000
set_option maxHeartbeats 4000000
def dN(n:Int):H8:=⟨dig n 0,dig n 1,dig n 2,dig n 3,dig n 4,dig n 5,dig n 6,dig n 7⟩
def vN(d:H8):Int:=d.e0_+256*(d.e1_+256*(d.e2_+256*(d.e3_+256*(d.e4_+256*(d.e5_+256*(d.e6_+256*d.e7_))))))
theorem yN(n:Int):vN (dN n)=n%18446744073709551616:=by unfold vN dN dig;simp only;omega
theorem HS(n:Int):dN (n%18446744073709551616)=dN n:=by simp only[dN,T6 n _ (show 0<8 by decide),T6 n _ (show 1<8 by decide),T6 n _ (show 2<8 by decide),T6 n _ (show 3<8 by decide),T6 n _ (show 4<8 by decide),T6 n _ (show 5<8 by decide),T6 n _ (show 6<8 by decide),T6 n _ (show 7<8 by decide)]
theorem TK(n:Int):dN (vN (dN n))=dN n:=by rw[yN,HS]
theorem b3r{m:Int}:dN (-vN (dN m))=dN (-m):=by rw[yN,←HS,←HS (-m)];congr 1;omega
theorem XT(w:World)(M:Nat→Prop)(n:Int):D5 w M (Gf (dN n)) (.agg (D8 n)):=by
 unfold Gf DD;refine .agg _ _ rfl (fun i hi=>?_) (fun i hi=>?_)
 ·match i,hi with
  |0,_=>rfl
  |1,_=>rfl
  |2,_=>rfl
  |3,_=>rfl
  |4,_=>rfl
  |5,_=>rfl
  |6,_=>rfl
  |7,_=>rfl
 ·match i,hi with
  |0,_=>exact .t _ _ (.v _ rfl)
  |1,_=>exact .t _ _ (.v _ rfl)
  |2,_=>exact .t _ _ (.v _ rfl)
  |3,_=>exact .t _ _ (.v _ rfl)
  |4,_=>exact .t _ _ (.v _ rfl)
  |5,_=>exact .t _ _ (.v _ rfl)
  |6,_=>exact .t _ _ (.v _ rfl)
  |7,_=>exact .t _ _ (.v _ rfl)
theorem XY{w:World}{M:Nat→Prop}{d:H8}{v:Value}(h:D5 w M (Gf d) v)(hd:d=dN (vN d)):v=.agg (D8 (vN d)):=by
 rw[hd]at h;generalize vN d=n at h;unfold Gf DD at h;cases h with
 |agg cs vs hs h1 hr=>
  congr 1
  apply Array.ext
  ·simpa[D8]using hs
  ·intro i h3 h4;have h5:i<8:=h4
   match i,h5 with
   |0,_=>exact C0 (hr 0 (by simp))
   |1,_=>exact C0 (hr 1 (by simp))
   |2,_=>exact C0 (hr 2 (by simp))
   |3,_=>exact C0 (hr 3 (by simp))
   |4,_=>exact C0 (hr 4 (by simp))
   |5,_=>exact C0 (hr 5 (by simp))
   |6,_=>exact C0 (hr 6 (by simp))
   |7,_=>exact C0 (hr 7 (by simp))
def nK(a:Int):Option H8:=some (dN a)
theorem b5u{a:Int}{r:H8}(h:nK a=some r):a5m a r:=by cases h;refine CA (by kernel_rfl) (fun w X=>XT w X a) fun w X vals hs hrep=>?_;rw[GV hs (C0 (hrep 0 (by simp)))];exact a6U a w
def Vi(d:H8):Option Int:=if d=dN (vN d)then some (RowKit.wrap64 (vN d))else none
theorem b0C{d:H8}{r:Int}(h:Vi d=some r):b3O d r:=by obtain⟨hd,h⟩:=LB h;cases h;refine CA (by kernel_rfl) (fun w X=>b4l _ _ _ rfl) fun w X vals hs hrep=>?_;rw[GV hs (XY (hrep 0 (by simp)) hd)];exact a9B _ w
def Xp(d:H8):Option H8:=if d=dN (vN d)then some (dN (-vN d))else none
theorem a5s{d r:H8}(h:Xp d=some r):a47 d r:=by obtain⟨hd,h⟩:=LB h;cases h;refine CA (by kernel_rfl) (fun w X=>XT w X _) fun w X vals hs hrep=>?_;rw[GV hs (XY (hrep 0 (by simp)) hd)];exact a5l _ w
theorem xOf(a:Int):nK a=some (dN a):=rfl
theorem b0F(n:Int):Vi (dN n)=some (RowKit.wrap64 n):=by unfold Vi;rw[if_pos (TK n).symm,yN,RB]
theorem b46(n:Int):Xp (dN n)=some (dN (-n)):=by unfold Xp;rw[if_pos (TK n).symm,b3r]
def ZT(a:Int):Prop:= -9223372036854775808≤a∧a≤9223372036854775807
instance(a:Int):Decidable (ZT a):=by unfold ZT;infer_instance
end
end Go.Proofs.YtabmahknlebhpaaGreat

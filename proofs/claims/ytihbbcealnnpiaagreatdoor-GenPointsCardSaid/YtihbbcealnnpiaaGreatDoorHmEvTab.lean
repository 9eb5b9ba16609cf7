/- Parts of the proof. -/
import Derived.Test.YtihbbcealnnpiaaGreatDoorHmEvM
import Derived.Test.YtihbbcealnnpiaaGreatDoorHmXF
set_option linter.unusedVariables false
namespace Go.Proofs.YtihbbcealnnpiaaGreatDoor
section
section
open Go.RowKit
def tyF:Nat→Type
 |0=>d7
 |1=>i8
 |2=>o0
 |3=>M9
 |4=>Q3
 |5=>t8
 |6=>J0
 |7=>N4
 |8=>l9
 |9=>i6
 |10=>y7
 |11=>l7
 |12=>x8
 |13=>u9
 |14=>B8
 |15=>EC
 |16=>EI
 |17=>l5
 |18=>i5
 |19=>i9
 |20=>d8
 |21=>v8
 |22=>I3
 |_=>Unit
def lvF:Nat→List D
 |0=>[.int .u8,.int .i64,.int .i64,.int .i64,.int .i64,.str]
 |1=>[.int .i64,.int .i64,.int .i64]
 |2=>[.int .u8,.int .i64]
 |3=>[.str,.int .i64,.int .i64]
 |4=>[.str,.int .i64]
 |5=>[.str,.int .i64,.int .i64,.int .i64,.int .i64,.int .i64,.int .i64,.int .i64]
 |6=>[.int .i64,.str,.int .i64,.int .i64,.int .i64]
 |7=>[.int .i64,.int .i64,.int .i64,.int .i64]
 |8=>[.sl (.nat 0),.sl (.nat 1),.sl (.nat 2),.sl (.nat 3),.sl (.nat 4),.sl (.nat 5),.sl (.int .i64),.sl (.nat 6),.sl (.nat 7)]
 |9=>[.int .u8,.int .i64,.int .i64]
 |10=>[.int .i64,.int .i64,.int .i64,.int .i64,.int .i64]
 |11=>[.sl (.nat 9),.sl (.nat 10),.sl (.str)]
 |12=>[.int .i64,.int .i64,.int .i64]
 |13=>[.sl (.nat 0),.sl (.nat 1),.sl (.nat 2),.sl (.nat 3),.sl (.nat 4),.sl (.nat 5),.sl (.int .i64),.sl (.nat 6),.sl (.nat 7),.sl (.nat 9),.sl (.nat 10),.sl (.str),.int .i64,.map (.str) (.int .i64)]
 |14=>[.sl (.nat 0),.sl (.nat 1),.sl (.nat 2),.sl (.nat 3),.sl (.nat 4),.sl (.nat 5),.sl (.int .i64),.sl (.nat 6),.sl (.nat 7),.sl (.str)]
 |15=>[.sl (.int .u8)]
 |16=>[.sl (.int .u8),.int .i64]
 |17=>[.int .u8,.int .i64,.int .i64,.int .i64,.str]
 |18=>[.sl (.nat 17),.int .i64,.int .i64,.int .i64,.int .i64,.int .i64]
 |19=>[.sl (.nat 0),.sl (.nat 1),.sl (.nat 0),.sl (.nat 1),.sl (.nat 2),.sl (.nat 3),.sl (.nat 4),.sl (.nat 5),.sl (.int .i64),.sl (.nat 6),.sl (.nat 7),.sl (.nat 2),.int .i64,.int .i64,.int .i64,.int .i64]
 |20=>[.sl (.nat 0),.sl (.nat 1),.sl (.nat 2),.sl (.nat 3),.sl (.nat 4),.sl (.nat 5),.sl (.int .i64),.sl (.nat 6),.sl (.nat 7),.sl (.str),.int .i64,.int .i64,.int .i64]
 |21=>[.str,.int .i64,.int .i64,.int .i64]
 |22=>[.int .i64,.int .i64,.int .i64,.int .i64,.int .i64,.int .i64,.int .i64,.int .i64]
 |_=>[]
def tab0:Tab0:=⟨tyF,lvF⟩
def BJ:(i:Nat)→tyF i→Tup tab0 (lvF i)
 |0,x=>(x.Ks,x.Ls,x.Id,x.Cs,x.Ns,x.Ds,())
 |1,x=>(x.Ts,x.Do,x.Qs,())
 |2,x=>(x.Ks,x.Of,())
 |3,x=>(x.In,x.Us,x.Vs,())
 |4,x=>(x.In,x.Ts,())
 |5,x=>(x.In,x.Gs,x.Es,x.By,x.At,x.Ss,x.Or,x.Ps,())
 |6,x=>(x.Fn,x.In,x.Ws,x.Or,x.Ys,())
 |7,x=>(x.Fn,x.Gs,x.Ls,x.Id,())
 |8,x=>(x.No,x.Ms,x.To,x.Rs,x.Hs,x.As,x.Ss,x.Vars,x.Ps,())
 |9,x=>(x.Op,x.A,x.Ls,())
 |10,x=>(x.At,x.If,x.Es,x.Ss,x.By,())
 |11,x=>(x.Is,x.As,x.Js,())
 |12,x=>(x.Code,x.Ls,x.Id,())
 |13,x=>(x.p_.No,x.p_.Ms,x.p_.To,x.p_.Rs,x.p_.Hs,x.p_.As,x.p_.Ss,x.p_.Vars,x.p_.Ps,x.c_.Is,x.c_.As,x.c_.Js,x.from_,x.texts_,())
 |14,x=>(x.P.No,x.P.Ms,x.P.To,x.P.Rs,x.P.Hs,x.P.As,x.P.Ss,x.P.Vars,x.P.Ps,x.Js,())
 |15,x=>(x.b_,())
 |16,x=>(x.b_,x.e_,())
 |17,x=>(x.Ks,x.Ls,x.Id,x.Ns,x.Ds,())
 |18,x=>(x.L,x.I,x.On,x.F.Code,x.F.Ls,x.F.Id,())
 |19,x=>(x.L,x.M,x.P.No,x.P.Ms,x.P.To,x.P.Rs,x.P.Hs,x.P.As,x.P.Ss,x.P.Vars,x.P.Ps,x.T,x.F.Code,x.F.Ls,x.F.Id,x.By,())
 |20,x=>(x.P.No,x.P.Ms,x.P.To,x.P.Rs,x.P.Hs,x.P.As,x.P.Ss,x.P.Vars,x.P.Ps,x.Rs,x.F.Code,x.F.Ls,x.F.Id,())
 |21,x=>(x.In,x.Ws,x.Xs,x.At,())
 |22,x=>(x.e0_,x.e1_,x.e2_,x.e3_,x.e4_,x.e5_,x.e6_,x.e7_,())
 |_+23,_=>()
def zD:(i:Nat)→Tup tab0 (lvF i)→tyF i
 |0,x=>(d7.mk x.1 x.2.1 x.2.2.1 x.2.2.2.1 x.2.2.2.2.1 x.2.2.2.2.2.1)
 |1,x=>(i8.mk x.1 x.2.1 x.2.2.1)
 |2,x=>(o0.mk x.1 x.2.1)
 |3,x=>(M9.mk x.1 x.2.1 x.2.2.1)
 |4,x=>(Q3.mk x.1 x.2.1)
 |5,x=>(t8.mk x.1 x.2.1 x.2.2.1 x.2.2.2.1 x.2.2.2.2.1 x.2.2.2.2.2.1 x.2.2.2.2.2.2.1 x.2.2.2.2.2.2.2.1)
 |6,x=>(J0.mk x.1 x.2.1 x.2.2.1 x.2.2.2.1 x.2.2.2.2.1)
 |7,x=>(N4.mk x.1 x.2.1 x.2.2.1 x.2.2.2.1)
 |8,x=>(l9.mk x.1 x.2.1 x.2.2.1 x.2.2.2.1 x.2.2.2.2.1 x.2.2.2.2.2.1 x.2.2.2.2.2.2.1 x.2.2.2.2.2.2.2.1 x.2.2.2.2.2.2.2.2.1)
 |9,x=>(i6.mk x.1 x.2.1 x.2.2.1)
 |10,x=>(y7.mk x.1 x.2.1 x.2.2.1 x.2.2.2.1 x.2.2.2.2.1)
 |11,x=>(l7.mk x.1 x.2.1 x.2.2.1)
 |12,x=>(x8.mk x.1 x.2.1 x.2.2.1)
 |13,x=>(u9.mk (l9.mk x.1 x.2.1 x.2.2.1 x.2.2.2.1 x.2.2.2.2.1 x.2.2.2.2.2.1 x.2.2.2.2.2.2.1 x.2.2.2.2.2.2.2.1 x.2.2.2.2.2.2.2.2.1) (l7.mk x.2.2.2.2.2.2.2.2.2.1 x.2.2.2.2.2.2.2.2.2.2.1 x.2.2.2.2.2.2.2.2.2.2.2.1) x.2.2.2.2.2.2.2.2.2.2.2.2.1 x.2.2.2.2.2.2.2.2.2.2.2.2.2.1)
 |14,x=>(B8.mk (l9.mk x.1 x.2.1 x.2.2.1 x.2.2.2.1 x.2.2.2.2.1 x.2.2.2.2.2.1 x.2.2.2.2.2.2.1 x.2.2.2.2.2.2.2.1 x.2.2.2.2.2.2.2.2.1) x.2.2.2.2.2.2.2.2.2.1)
 |15,x=>(EC.mk x.1)
 |16,x=>(EI.mk x.1 x.2.1)
 |17,x=>(l5.mk x.1 x.2.1 x.2.2.1 x.2.2.2.1 x.2.2.2.2.1)
 |18,x=>(i5.mk x.1 x.2.1 x.2.2.1 (x8.mk x.2.2.2.1 x.2.2.2.2.1 x.2.2.2.2.2.1))
 |19,x=>(i9.mk x.1 x.2.1 (l9.mk x.2.2.1 x.2.2.2.1 x.2.2.2.2.1 x.2.2.2.2.2.1 x.2.2.2.2.2.2.1 x.2.2.2.2.2.2.2.1 x.2.2.2.2.2.2.2.2.1 x.2.2.2.2.2.2.2.2.2.1 x.2.2.2.2.2.2.2.2.2.2.1) x.2.2.2.2.2.2.2.2.2.2.2.1 (x8.mk x.2.2.2.2.2.2.2.2.2.2.2.2.1 x.2.2.2.2.2.2.2.2.2.2.2.2.2.1 x.2.2.2.2.2.2.2.2.2.2.2.2.2.2.1) x.2.2.2.2.2.2.2.2.2.2.2.2.2.2.2.1)
 |20,x=>(d8.mk (l9.mk x.1 x.2.1 x.2.2.1 x.2.2.2.1 x.2.2.2.2.1 x.2.2.2.2.2.1 x.2.2.2.2.2.2.1 x.2.2.2.2.2.2.2.1 x.2.2.2.2.2.2.2.2.1) x.2.2.2.2.2.2.2.2.2.1 (x8.mk x.2.2.2.2.2.2.2.2.2.2.1 x.2.2.2.2.2.2.2.2.2.2.2.1 x.2.2.2.2.2.2.2.2.2.2.2.2.1))
 |21,x=>(v8.mk x.1 x.2.1 x.2.2.1 x.2.2.2.1)
 |22,x=>(I3.mk x.1 x.2.1 x.2.2.1 x.2.2.2.1 x.2.2.2.2.1 x.2.2.2.2.2.1 x.2.2.2.2.2.2.1 x.2.2.2.2.2.2.2.1)
 |_+23,_=>()
def uD:(i:Nat)→tyF i→List T
 |0,x=>Kn x
 |1,x=>Jh x
 |2,x=>Io x
 |3,x=>Ow x
 |4,x=>Lm x
 |5,x=>Nq x
 |6,x=>Mb x
 |7,x=>Mj x
 |8,x=>b1v x
 |9,x=>Tv x
 |10,x=>Vg x
 |11,x=>a8Q x
 |12,x=>b1j x
 |13,x=>a47 x
 |14,x=>a4d x
 |15,x=>a4E x
 |16,x=>ZX x
 |17,x=>MU x
 |18,x=>a29 x
 |19,x=>a6u x
 |20,x=>a5x x
 |21,x=>a3u x
 |22,x=>b1x x
 |_+23,_=>[]
def tab1:Tab1:={tab0 with cells:=BJ,put:=zD,enc:=uD}
theorem a8F:∀(i:Nat) (x:Tup tab0 (lvF i)),uD i (zD i x)=Ej tab1 (lvF i) x
 |0,x=>rfl
 |1,x=>rfl
 |2,x=>rfl
 |3,x=>rfl
 |4,x=>rfl
 |5,x=>rfl
 |6,x=>rfl
 |7,x=>rfl
 |8,x=>rfl
 |9,x=>rfl
 |10,x=>rfl
 |11,x=>rfl
 |12,x=>rfl
 |13,x=>rfl
 |14,x=>rfl
 |15,x=>rfl
 |16,x=>rfl
 |17,x=>rfl
 |18,x=>rfl
 |19,x=>rfl
 |20,x=>rfl
 |21,x=>rfl
 |22,x=>rfl
 |_+23,_=>rfl
theorem b3t:∀(i:Nat) (x:tyF i),uD i x=Ej tab1 (lvF i) (BJ i x)
 |0,x=>rfl
 |1,x=>rfl
 |2,x=>rfl
 |3,x=>rfl
 |4,x=>rfl
 |5,x=>rfl
 |6,x=>rfl
 |7,x=>rfl
 |8,x=>rfl
 |9,x=>rfl
 |10,x=>rfl
 |11,x=>rfl
 |12,x=>rfl
 |13,x=>rfl
 |14,x=>rfl
 |15,x=>rfl
 |16,x=>rfl
 |17,x=>rfl
 |18,x=>rfl
 |19,x=>rfl
 |20,x=>rfl
 |21,x=>rfl
 |22,x=>rfl
 |_+23,_=>rfl
theorem a44:∀(i:Nat) (x:Tup tab0 (lvF i)),BJ i (zD i x)=x
 |0,x=>rfl
 |1,x=>rfl
 |2,x=>rfl
 |3,x=>rfl
 |4,x=>rfl
 |5,x=>rfl
 |6,x=>rfl
 |7,x=>rfl
 |8,x=>rfl
 |9,x=>rfl
 |10,x=>rfl
 |11,x=>rfl
 |12,x=>rfl
 |13,x=>rfl
 |14,x=>rfl
 |15,x=>rfl
 |16,x=>rfl
 |17,x=>rfl
 |18,x=>rfl
 |19,x=>rfl
 |20,x=>rfl
 |21,x=>rfl
 |22,x=>rfl
 |_+23,_=>rfl
theorem b0S:∀i,(lvF i).all Dx=true
 |0=>rfl
 |1=>rfl
 |2=>rfl
 |3=>rfl
 |4=>rfl
 |5=>rfl
 |6=>rfl
 |7=>rfl
 |8=>rfl
 |9=>rfl
 |10=>rfl
 |11=>rfl
 |12=>rfl
 |13=>rfl
 |14=>rfl
 |15=>rfl
 |16=>rfl
 |17=>rfl
 |18=>rfl
 |19=>rfl
 |20=>rfl
 |21=>rfl
 |22=>rfl
 |_+23=>rfl
def tab:Tab:={tab1 with ok:=a8F,ok':=b3t,leaf:=b0S,cp:=a44}
def lQ:TypeId→Option D
 |2=>some (.int .i64)
 |3=>some (.int .i64)
 |4=>some (.bool)
 |5=>some (.int .u8)
 |6=>some (.int .u8)
 |9=>some (.str)
 |10=>some (.str)
 |11=>some (.str)
 |12=>some (.int .u64)
 |21=>some (.int .i32)
 |22=>some (.sl (.nat 0))
 |23=>some (.sl (.nat 1))
 |24=>some (.sl (.nat 2))
 |25=>some (.sl (.nat 3))
 |26=>some (.sl (.nat 4))
 |27=>some (.sl (.nat 5))
 |28=>some (.sl (.int .i64))
 |29=>some (.sl (.nat 6))
 |30=>some (.sl (.nat 7))
 |31=>some (.nat 8)
 |32=>some (.nat 8)
 |37=>some (.sl (.nat 9))
 |38=>some (.sl (.nat 10))
 |39=>some (.sl (.str))
 |40=>some (.nat 11)
 |41=>some (.nat 11)
 |44=>some (.nat 10)
 |45=>some (.nat 10)
 |46=>some (.nat 9)
 |47=>some (.nat 9)
 |48=>some (.nat 7)
 |49=>some (.nat 7)
 |52=>some (.sl (.int .u8))
 |53=>some (.int .i64)
 |58=>some (.nat 12)
 |59=>some (.nat 12)
 |64=>some (.map (.str) (.int .i64))
 |65=>some (.nat 13)
 |66=>some (.nat 13)
 |67=>some (.nat 5)
 |68=>some (.nat 5)
 |73=>some (.nat 14)
 |74=>some (.nat 14)
 |82=>some (.nat 15)
 |83=>some (.nat 15)
 |86=>some (.nat 16)
 |87=>some (.nat 16)
 |89=>some (.int .u64)
 |108=>some (.nat 0)
 |109=>some (.nat 0)
 |112=>some (.int .u64)
 |115=>some (.sl (.nat 17))
 |118=>some (.nat 18)
 |119=>some (.nat 18)
 |123=>some (.nat 19)
 |124=>some (.nat 19)
 |130=>some (.nat 1)
 |131=>some (.nat 1)
 |136=>some (.nat 17)
 |137=>some (.nat 17)
 |144=>some (.nat 20)
 |145=>some (.nat 20)
 |159=>some (.nat 2)
 |160=>some (.nat 2)
 |177=>some (.nat 4)
 |178=>some (.nat 4)
 |179=>some (.nat 3)
 |180=>some (.nat 3)
 |181=>some (.sl (.nat 21))
 |192=>some (.int .u32)
 |205=>some (.nat 21)
 |206=>some (.nat 21)
 |207=>some (.nat 6)
 |208=>some (.nat 6)
 |216=>some (.nat 22)
 |217=>some (.nat 22)
 |228=>some (.sl (.int .i64))
 |236=>some (.int .u8)
 |237=>some (.int .u8)
 |239=>some (.int .i32)
 |240=>some (.int .i32)
 |_=>none
end
section
open Go.RowKit
set_option maxRecDepth 100000
set_option maxHeartbeats 4000000
def QpF:Nat→Nat→List Nat→List Nat
 |0,_,l=>l
 |k+1,n,l=>cond (Nat.ble n 1) l (QpF k (n/2) (n%2::l))
def Qp(n:Nat):List Nat:=QpF 60 n []
def Qz0:UV:=.lit (.slice none 0 0)
def Qt0:MB:=.st 4 137 17 [] 100400
def Qt1:MB:=.st 900 66 13 [(9,47),(10,45),(11,9)] 190000
def Qt2:MB:=.st 1 119 18 [] 100100
def Qt3:SV:=.st 18 [] 0
def Qt4:MB:=.st 2 124 19 [] 100200
def Qt5:SV:=.st 18 [] 800100
def Qt6:SV:=.st 19 [] 0
def Qt7:MB:=.st 4 145 20 [(6,3),(7,208),(8,49)] 100400
def Qt8:MB:=.st 2 74 14 [] 100200
def Qt9:MB:=.st 3 59 12 [] 100300
def Dy:MB:=.st 1 145 20 [(5,68),(6,3),(7,208),(8,49)] 100100
def Gb:MB:=.st 2 41 11 [] 100200
def Jd:MB:=.st 1 145 20 [(3,180),(4,178),(5,68),(6,3),(7,208),(8,49)] 100100
def Me:MB:=.st 2 119 18 [] 100200
def Pq:MB:=.st 5 137 17 [] 100500
def Og:MB:=.st 5 145 20 [(6,3),(7,208),(8,49)] 100500
def Nc:SV:=.st 14 [] 0
def Mp:SV:=.st 12 [] 800100
def Wv:MB:=.st 1 109 0 [] 100100
def Rt:MB:=.st 4 145 20 [(5,68),(6,3),(7,208),(8,49)] 100400
def Py:MB:=.st 6 109 0 [] 100600
def Ro:MB:=.st 3 41 11 [] 100300
def Sp:SV:=.st 19 [] 800100
def Sx:SV:=.st 14 [] 800100
def kA:MB:=.st 9 137 17 [] 100900
def gC:MB:=.st 1 145 20 [(3,180),(4,178),(5,68),(6,3),(7,208),(8,49),(9,9)] 100100
def rW:MB:=.st 12 109 0 [] 101200
def dE:MB:=.st 4 109 0 [] 100400
def bQ:MB:=.st 11 66 13 [(9,47),(10,45),(11,9)] 101100
def iT:MB:=.st 3 32 8 [] 100300
def nX:MB:=.st 5 41 11 [(0,47),(1,45),(2,9)] 100500
def lF:MB:=.st 4 74 14 [] 100400
def pX:SV:=.st 17 [] 800000
def rX:SV:=.st 18 [] 800000
def DX:MB:=.st 3 124 19 [] 100300
def zC:MB:=.st 5 131 1 [] 100500
def uI:MB:=.st 1 32 8 [] 100100
def uW:SV:=.st 20 [(5,68),(6,3),(7,208),(8,49)] 800000
def DE:SV:=.st 20 [(6,3),(7,208),(8,49)] 800000
def WN:MB:=.st 1 145 20 [(1,131),(5,68),(6,3),(7,208),(8,49)] 100100
def IP:MB:=.st 2 145 20 [(5,68),(6,3),(7,208),(8,49)] 100200
def LR:SV:=.st 20 [(3,180),(4,178),(5,68),(6,3),(7,208),(8,49)] 800000
def KV:SV:=.st 20 [(5,68),(6,3),(7,208),(8,49)] 800100
def MA:SV:=.st 20 [(6,3),(7,208),(8,49)] 800100
def Qs0:SV:=.agg [.dat (.sl (.nat 0)),.dat (.sl (.nat 1)),.dat (.sl (.nat 2)),.dat (.sl (.nat 3)),.dat (.sl (.nat 4)),.dat (.sl (.nat 5)),.own 850006 3 (.int .i64),.own 850007 208 (.nat 6),.own 850008 49 (.nat 7),.dat (.sl (.str)),.dat (.int .i64),.dat (.int .i64),.dat (.int .i64)]
def Qs1:SV:=.agg [.dat (.sl (.nat 0)),.dat (.sl (.nat 1)),.dat (.sl (.nat 2)),.dat (.sl (.nat 3)),.dat (.sl (.nat 4)),.own 850005 68 (.nat 5),.own 850006 3 (.int .i64),.own 850007 208 (.nat 6),.own 850008 49 (.nat 7),.dat (.sl (.str)),.dat (.int .i64),.dat (.int .i64),.dat (.int .i64)]
def Qs2:SV:=.agg [.dat (.sl (.nat 0)),.dat (.sl (.nat 1)),.dat (.sl (.nat 2)),.own 850003 180 (.nat 3),.own 850004 178 (.nat 4),.own 850005 68 (.nat 5),.own 850006 3 (.int .i64),.own 850007 208 (.nat 6),.own 850008 49 (.nat 7),.dat (.sl (.str)),.dat (.int .i64),.dat (.int .i64),.dat (.int .i64)]
def Qs3:SV:=.agg [.dat (.sl (.nat 0)),.dat (.sl (.nat 1)),.dat (.sl (.nat 2)),.own 850003 180 (.nat 3),.own 850004 178 (.nat 4),.own 850005 68 (.nat 5),.own 850006 3 (.int .i64),.own 850007 208 (.nat 6),.own 850008 49 (.nat 7),.own 850009 9 (.str),.dat (.int .i64),.dat (.int .i64),.dat (.int .i64)]
def Qs4:SV:=.one (.dat (.bool))
def Qs5:SV:=.one (.dat (.int .i64))
def Qs6:SV:=.one (.dat (.int .u64))
def Qs7:SV:=.one (.dat (.int .u8))
def Qs8:SV:=.one (.dat (.sl (.int .i64)))
def Qs9:SV:=.one (.dat (.sl (.nat 0)))
def yS:SV:=.one (.dat (.sl (.nat 10)))
def Ii:SV:=.one (.dat (.sl (.nat 2)))
def P9:SV:=.one (.dat (.sl (.nat 21)))
def CK:SV:=.one (.dat (.sl (.nat 5)))
def Gd:SV:=.one (.dat (.sl (.nat 9)))
def wG:SV:=.one (.dat (.sl (.str)))
def w9:SV:=.one (.dat (.str))
def NB:SV:=.one (.own 1003 160 (.nat 2))
def PD:SV:=.one (.own 1003 9 (.str))
def Na:SV:=.one (.own 1004 109 (.nat 0))
def OT:SV:=.one (.own 1004 137 (.nat 17))
def zP:SV:=.one (.own 1005 109 (.nat 0))
def JC:SV:=.one (.own 1005 137 (.nat 17))
def Gw:SV:=.one (.own 1005 3 (.int .i64))
def aK:SV:=.one (.own 1005 47 (.nat 9))
def Va:SV:=.one (.own 1005 5 (.int .u8))
def Pi:SV:=.one (.own 1006 109 (.nat 0))
def VQ:SV:=.one (.own 1006 160 (.nat 2))
def Y7:SV:=.one (.own 1006 3 (.int .i64))
def pA:SV:=.one (.own 1006 47 (.nat 9))
def SY:SV:=.one (.own 1006 5 (.int .u8))
def Et:SV:=.one (.own 1007 3 (.int .i64))
def ED:SV:=.one (.own 1007 9 (.str))
def VA:SV:=.one (.own 1008 160 (.nat 2))
def uK:SV:=.one (.own 1008 2 (.int .i64))
def RN:SV:=.one (.own 1008 206 (.nat 21))
def HX:SV:=.one (.own 1011 208 (.nat 6))
def aE:SV:=.one (.own 1012 47 (.nat 9))
def Dm:SV:=.one (.own 800000 109 (.nat 0))
def AF:SV:=.one (.own 800000 160 (.nat 2))
def yV:SV:=.one (.own 800000 3 (.int .i64))
def Hi:SV:=.one (.own 800000 47 (.nat 9))
def A8:SV:=.one (.ptr 1 0)
def iX:SV:=.one (.ptr 10 0)
def Dk:SV:=.one (.ptr 11 0)
def bM:SV:=.one (.ptr 12 0)
def JQ:SV:=.one (.ptr 15 0)
def x4:SV:=.one (.ptr 2 0)
def B2:SV:=.one (.ptr 3 0)
def A6:SV:=.one (.ptr 4 0)
def B6:SV:=.one (.ptr 5 0)
def Co:SV:=.one (.ptr 6 0)
def Rk:SV:=.one (.ptr 7 0)
def Ay:SV:=.one (.ptr 8 0)
def Nf:SV:=.one (.ptr 9 0)
def Q0:SV:=.one (.ptr 900 0)
def a0O:List Lb:=[⟨0,[],⟨[(0,w9),(1,Qs5)],[]⟩⟩,
 ⟨0,Qp 19,⟨[(0,w9),(1,Qs5),(5,Qs4)],[]⟩⟩,
 ⟨0,Qp 1955,⟨[(0,w9),(1,Qs5),(5,Qs4),(6,Qs7)],[]⟩⟩,
 ⟨0,Qp 931,⟨[(0,w9),(1,Qs5),(5,Qs4),(6,Qs7)],[]⟩⟩,
 ⟨0,Qp 15,⟨[(1,Qs5)],[]⟩⟩,
 ⟨1,[],⟨[(0,w9),(1,Qs5)],[]⟩⟩,
 ⟨1,Qp 87,⟨[(0,w9),(1,Qs5),(6,Qs5),(7,Qs5),(8,Qs5)],[]⟩⟩,
 ⟨1,Qp 31,⟨[(6,Qs5),(7,Qs5)],[]⟩⟩,
 ⟨2,[],⟨[(0,Qs7)],[]⟩⟩,
 ⟨2,Qp 249,⟨[(0,Qs7)],[]⟩⟩,
 ⟨2,Qp 57,⟨[(0,Qs7)],[]⟩⟩,
 ⟨2,Qp 7,⟨[],[]⟩⟩,
 ⟨3,[],⟨[(0,w9),(1,Qs5)],[]⟩⟩,
 ⟨3,Qp 9,⟨[(0,w9),(1,Qs5)],[]⟩⟩,
 ⟨3,Qp 7,⟨[(1,Qs5)],[]⟩⟩,
 ⟨4,[],⟨[(0,w9)],[]⟩⟩]
def a2n:List Lb:=[⟨4,Qp 43,⟨[(0,w9),(3,PD),(7,Qs5),(8,Qs5)],[]⟩⟩,
 ⟨4,Qp 15,⟨[],[]⟩⟩,
 ⟨5,[],⟨[(0,.st 22 [] 0)],[]⟩⟩,
 ⟨6,[],⟨[(0,Qs5)],[]⟩⟩,
 ⟨7,[],⟨[(0,.st 22 [] 0)],[]⟩⟩,
 ⟨8,[],⟨[(0,w9)],[]⟩⟩,
 ⟨8,Qp 175,⟨[(0,w9),(4,w9),(5,Qs5)],[]⟩⟩,
 ⟨8,Qp 31,⟨[(0,w9),(4,w9)],[]⟩⟩,
 ⟨8,Qp 15,⟨[(0,w9),(4,w9)],[]⟩⟩,
 ⟨8,Qp 63,⟨[(0,w9),(4,w9)],[]⟩⟩,
 ⟨8,Qp 5631,⟨[(0,w9),(4,w9),(7,Qs6),(8,Qs5)],[]⟩⟩,
 ⟨8,Qp 511,⟨[(0,w9),(4,w9)],[]⟩⟩,
 ⟨8,Qp 255,⟨[(0,w9),(4,w9),(6,w9)],[]⟩⟩,
 ⟨8,Qp 2047,⟨[(0,w9),(4,w9),(7,Qs6)],[]⟩⟩,
 ⟨9,[],⟨[(0,w9),(1,Qs5)],[]⟩⟩,
 ⟨9,Qp 19,⟨[(0,w9),(1,Qs5),(4,A6),(7,Qs5)],[Qt0]⟩⟩]
def b3b:List Lb:=[⟨9,Qp 15,⟨[(0,w9),(1,Qs5),(4,A6),(7,Qs5)],[Qt0]⟩⟩,
 ⟨9,Qp 639,⟨[(0,w9),(1,Qs5),(4,A6),(7,Qs5),(8,Qs5),(9,Nf),(10,Qs5)],[Qt0,kA]⟩⟩,
 ⟨9,Qp 255,⟨[(0,w9),(1,Qs5),(4,A6),(7,Qs5),(8,Qs5),(9,Nf),(10,Qs5)],[Qt0,kA]⟩⟩,
 ⟨9,Qp 959,⟨[(0,w9),(1,Qs5),(4,A6),(7,Qs5),(8,Qs5),(9,Nf),(10,Qs5)],[Qt0,kA]⟩⟩,
 ⟨9,Qp 511,⟨[(0,w9),(1,Qs5),(4,A6),(7,Qs5),(8,Qs5),(9,Nf),(10,Qs5)],[Qt0,kA]⟩⟩,
 ⟨10,[],⟨[(0,Qs7)],[]⟩⟩,
 ⟨10,Qp 249,⟨[(0,Qs7)],[]⟩⟩,
 ⟨10,Qp 57,⟨[(0,Qs7)],[]⟩⟩,
 ⟨10,Qp 7,⟨[],[]⟩⟩,
 ⟨11,[],⟨[(0,w9)],[]⟩⟩,
 ⟨11,Qp 87,⟨[(0,w9),(5,Va),(6,Qs5)],[]⟩⟩,
 ⟨11,Qp 1440919,⟨[(0,w9),(5,Va),(6,Qs5)],[]⟩⟩,
 ⟨11,Qp 704511127,⟨[(0,w9),(5,Va),(6,Qs5),(8,Qs5)],[]⟩⟩,
 ⟨11,Qp 31,⟨[(0,w9)],[]⟩⟩,
 ⟨11,Qp 919,⟨[(0,w9),(5,Va),(6,Qs5)],[]⟩⟩,
 ⟨11,Qp 234749079,⟨[(0,w9),(5,Va),(6,Qs5)],[]⟩⟩]
def a7y:List Lb:=[⟨12,[],⟨[(0,w9),(1,Qs5)],[]⟩⟩,
 ⟨12,Qp 85,⟨[(0,w9),(1,Qs5),(4,A6)],[Qt0]⟩⟩,
 ⟨12,Qp 175,⟨[(0,w9),(1,Qs5),(4,A6),(12,.one (.own 1012 9 (.str))),(73,Qs5),(74,Qs5)],[Qt0]⟩⟩,
 ⟨12,Qp 63,⟨[(0,w9),(1,Qs5),(4,A6)],[Qt0]⟩⟩,
 ⟨12,Qp 703,⟨[(0,w9),(1,Qs5),(4,A6),(14,w9),(15,Qs5)],[Qt0]⟩⟩,
 ⟨12,Qp 255,⟨[(4,A6)],[Qt0]⟩⟩,
 ⟨13,[],⟨[(0,w9)],[]⟩⟩,
 ⟨13,Qp 767,⟨[(0,w9),(3,B2),(4,OT),(5,JC),(6,Qs5),(7,Qs5),(8,Qs5),(9,Qs5)],[Qt9]⟩⟩,
 ⟨13,Qp 14591,⟨[(0,w9),(3,B2),(4,OT),(5,JC),(6,Qs5),(8,Qs5),(9,Qs5)],[Qt9]⟩⟩,
 ⟨14,[],⟨[(0,Qt3)],[]⟩⟩,
 ⟨15,[],⟨[(0,Qt3)],[]⟩⟩,
 ⟨16,[],⟨[(0,Qt3),(1,w9)],[]⟩⟩,
 ⟨17,[],⟨[(0,Qs7),(1,.st 17 [] 0),(2,w9),(3,Qs5),(4,Qs9)],[]⟩⟩,
 ⟨18,[],⟨[(0,Qt3),(1,Qs5)],[]⟩⟩,
 ⟨19,[],⟨[(0,Qt3),(1,w9)],[]⟩⟩,
 ⟨20,[],⟨[(0,Qt3),(1,Qs7)],[]⟩⟩]
def a69:List Lb:=[⟨20,Qp 43,⟨[(2,x4),(4,A6),(5,B6),(6,Co)],[Me,Qt0,.box 5 119 [Qz0,.dat (.int .i64),.dat (.int .i64),.dat (.int .i64),.dat (.int .i64),.dat (.int .i64)],.st 6 137 17 [] 100600]⟩⟩,
 ⟨21,[],⟨[(0,Qt3),(1,w9)],[]⟩⟩,
 ⟨21,Qp 7,⟨[(1,w9),(2,x4),(4,A6)],[Me,.box 4 119 [Qz0,.dat (.int .i64),.dat (.int .i64),.dat (.int .i64),.dat (.int .i64),.dat (.int .i64)]]⟩⟩,
 ⟨22,[],⟨[(0,Qt3),(1,w9)],[]⟩⟩,
 ⟨23,[],⟨[(0,Qt3)],[]⟩⟩,
 ⟨23,Qp 87,⟨[(1,A8),(3,B2),(4,A6),(5,.one (.own 1005 9 (.str))),(13,Qs5),(14,Qs5)],[Qt2,.box 3 119 [Qz0,.dat (.int .i64),.dat (.int .i64),.dat (.int .i64),.dat (.int .i64),.dat (.int .i64)],Qt0]⟩⟩,
 ⟨23,Qp 31,⟨[(1,A8),(3,B2),(4,A6)],[Qt2,.box 3 119 [Qz0,.dat (.int .i64),.dat (.int .i64),.dat (.int .i64),.dat (.int .i64),.dat (.int .i64)],Qt0]⟩⟩,
 ⟨24,[],⟨[(0,Qt3),(1,Qs7)],[]⟩⟩,
 ⟨25,[],⟨[(0,Qt3)],[]⟩⟩,
 ⟨25,Qp 319,⟨[(1,A8),(3,B2),(4,A6),(5,B6),(6,Pi)],[Qt2,.box 3 119 [Qz0,.dat (.int .i64),.dat (.int .i64),.dat (.int .i64),.dat (.int .i64),.dat (.int .i64)],Qt0,Pq]⟩⟩,
 ⟨25,Qp 255,⟨[(1,A8),(3,B2),(4,A6),(5,B6),(6,Pi)],[Qt2,.box 3 119 [Qz0,.dat (.int .i64),.dat (.int .i64),.dat (.int .i64),.dat (.int .i64),.dat (.int .i64)],Qt0,Pq]⟩⟩,
 ⟨26,[],⟨[(0,Qs9),(1,Qs9)],[]⟩⟩,
 ⟨27,[],⟨[(0,Qt3)],[]⟩⟩,
 ⟨27,Qp 79,⟨[(1,A8),(3,B2),(4,Na),(5,Qs5)],[Qt2,.box 3 119 [Qz0,.dat (.int .i64),.dat (.int .i64),.dat (.int .i64),.dat (.int .i64),.dat (.int .i64)]]⟩⟩,
 ⟨27,Qp 1679,⟨[(1,A8),(3,B2),(4,Na),(5,Qs5)],[Qt2,.box 3 119 [Qz0,.dat (.int .i64),.dat (.int .i64),.dat (.int .i64),.dat (.int .i64),.dat (.int .i64)]]⟩⟩,
 ⟨27,Qp 63,⟨[(1,A8),(3,B2),(4,Na)],[Qt2,.box 3 119 [Qz0,.dat (.int .i64),.dat (.int .i64),.dat (.int .i64),.dat (.int .i64),.dat (.int .i64)]]⟩⟩]
def a6A:List Lb:=[⟨28,[],⟨[(0,Qt3)],[]⟩⟩,
 ⟨28,Qp 536870719,⟨[(1,A8),(3,B2),(4,A6),(5,Qs9),(6,Co)],[Qt2,.box 3 119 [Qz0,.dat (.int .i64),.dat (.int .i64),.dat (.int .i64),.dat (.int .i64),.dat (.int .i64)],Qt0,.st 6 119 18 [] 100600]⟩⟩,
 ⟨28,Qp 8388415,⟨[(1,A8),(3,B2),(4,A6),(5,Qs9),(6,Co)],[Qt2,.box 3 119 [Qz0,.dat (.int .i64),.dat (.int .i64),.dat (.int .i64),.dat (.int .i64),.dat (.int .i64)],Qt0,.st 6 119 18 [] 100600]⟩⟩,
 ⟨28,Qp 255,⟨[(1,A8),(3,B2)],[Qt2,.box 3 119 [Qz0,.dat (.int .i64),.dat (.int .i64),.dat (.int .i64),.dat (.int .i64),.dat (.int .i64)]]⟩⟩,
 ⟨29,[],⟨[(0,Qt3)],[]⟩⟩,
 ⟨29,Qp 19,⟨[(1,A8),(3,B2),(4,Qs9)],[Qt2,.box 3 119 [Qz0,.dat (.int .i64),.dat (.int .i64),.dat (.int .i64),.dat (.int .i64),.dat (.int .i64)]]⟩⟩,
 ⟨29,Qp 99,⟨[(1,A8),(3,B2),(4,Qs9)],[Qt2,.box 3 119 [Qz0,.dat (.int .i64),.dat (.int .i64),.dat (.int .i64),.dat (.int .i64),.dat (.int .i64)]]⟩⟩,
 ⟨29,Qp 15,⟨[(1,A8),(3,B2),(4,Qs9)],[Qt2,.box 3 119 [Qz0,.dat (.int .i64),.dat (.int .i64),.dat (.int .i64),.dat (.int .i64),.dat (.int .i64)]]⟩⟩,
 ⟨30,[],⟨[(0,Qt3)],[]⟩⟩,
 ⟨30,Qp 15,⟨[(1,A8),(3,B2),(4,A6)],[Qt2,.box 3 119 [Qz0,.dat (.int .i64),.dat (.int .i64),.dat (.int .i64),.dat (.int .i64),.dat (.int .i64)],Qt0]⟩⟩,
 ⟨31,[],⟨[(0,Qs5)],[]⟩⟩,
 ⟨32,[],⟨[(0,Qt3),(1,Qs5)],[]⟩⟩,
 ⟨32,Qp 159,⟨[(1,Qs5),(2,x4),(5,B6),(6,Qs9),(7,ED),(8,uK),(9,Qs4)],[Me,.box 5 119 [Qz0,.dat (.int .i64),.dat (.int .i64),.dat (.int .i64),.dat (.int .i64),.dat (.int .i64)]]⟩⟩,
 ⟨32,Qp 21791,⟨[(1,Qs5),(2,x4),(5,B6),(6,Qs9),(7,ED),(8,uK),(9,Qs4),(34,Qs5),(35,Qs5)],[Me,.box 5 119 [Qz0,.dat (.int .i64),.dat (.int .i64),.dat (.int .i64),.dat (.int .i64),.dat (.int .i64)]]⟩⟩,
 ⟨32,Qp 7455,⟨[(1,Qs5),(2,x4),(5,B6),(6,Qs9),(7,ED),(8,uK),(9,Qs4)],[Me,.box 5 119 [Qz0,.dat (.int .i64),.dat (.int .i64),.dat (.int .i64),.dat (.int .i64),.dat (.int .i64)]]⟩⟩,
 ⟨32,Qp 127,⟨[(2,x4),(5,B6),(6,Qs9)],[Me,.box 5 119 [Qz0,.dat (.int .i64),.dat (.int .i64),.dat (.int .i64),.dat (.int .i64),.dat (.int .i64)]]⟩⟩]
def a9J:List Lb:=[⟨33,[],⟨[(0,Qt3)],[]⟩⟩,
 ⟨33,Qp 8051,⟨[(3,B2),(4,A6),(10,iX),(12,.one (.own 1012 109 (.nat 0)))],[.box 3 119 [Qz0,.dat (.int .i64),.dat (.int .i64),.dat (.int .i64),.dat (.int .i64),.dat (.int .i64)],Qt0,.st 10 119 18 [] 101000]⟩⟩,
 ⟨33,Qp 63475,⟨[(3,B2),(4,A6),(16,.one (.ptr 16 0)),(17,Qs9)],[.box 3 119 [Qz0,.dat (.int .i64),.dat (.int .i64),.dat (.int .i64),.dat (.int .i64),.dat (.int .i64)],Qt0,.st 16 119 18 [] 101600]⟩⟩,
 ⟨33,Qp 351,⟨[(1,A8),(3,B2),(4,A6),(20,Qs9)],[Qt2,.box 3 119 [Qz0,.dat (.int .i64),.dat (.int .i64),.dat (.int .i64),.dat (.int .i64),.dat (.int .i64)],Qt0]⟩⟩,
 ⟨33,Qp 703,⟨[(1,A8),(3,B2),(4,A6),(20,Qs9)],[Qt2,.box 3 119 [Qz0,.dat (.int .i64),.dat (.int .i64),.dat (.int .i64),.dat (.int .i64),.dat (.int .i64)],Qt0]⟩⟩,
 ⟨33,Qp 255,⟨[(1,A8),(3,B2),(4,A6),(20,Qs9)],[Qt2,.box 3 119 [Qz0,.dat (.int .i64),.dat (.int .i64),.dat (.int .i64),.dat (.int .i64),.dat (.int .i64)],Qt0]⟩⟩,
 ⟨33,Qp 127,⟨[(1,A8),(3,B2),(4,A6),(20,Qs9),(21,Qs7)],[Qt2,.box 3 119 [Qz0,.dat (.int .i64),.dat (.int .i64),.dat (.int .i64),.dat (.int .i64),.dat (.int .i64)],Qt0]⟩⟩,
 ⟨34,[],⟨[(0,Qt3)],[]⟩⟩,
 ⟨34,Qp 79,⟨[(1,A8),(3,B2),(4,A6),(5,zP)],[Qt2,.box 3 119 [Qz0,.dat (.int .i64),.dat (.int .i64),.dat (.int .i64),.dat (.int .i64),.dat (.int .i64)],Qt0]⟩⟩,
 ⟨34,Qp 63,⟨[(1,A8),(3,B2),(4,A6),(5,zP)],[Qt2,.box 3 119 [Qz0,.dat (.int .i64),.dat (.int .i64),.dat (.int .i64),.dat (.int .i64),.dat (.int .i64)],Qt0]⟩⟩,
 ⟨35,[],⟨[(0,Qt3)],[]⟩⟩,
 ⟨35,Qp 639,⟨[(1,A8),(3,B2),(4,A6),(5,B6),(6,Pi),(7,Qs5)],[Qt2,.box 3 119 [Qz0,.dat (.int .i64),.dat (.int .i64),.dat (.int .i64),.dat (.int .i64),.dat (.int .i64)],Qt0,Pq]⟩⟩,
 ⟨35,Qp 13439,⟨[(1,A8),(3,B2),(4,A6),(5,B6),(6,Pi),(7,Qs5)],[Qt2,.box 3 119 [Qz0,.dat (.int .i64),.dat (.int .i64),.dat (.int .i64),.dat (.int .i64),.dat (.int .i64)],Qt0,Pq]⟩⟩,
 ⟨35,Qp 511,⟨[(1,A8),(3,B2),(4,A6),(5,B6),(6,Pi),(7,Qs5)],[Qt2,.box 3 119 [Qz0,.dat (.int .i64),.dat (.int .i64),.dat (.int .i64),.dat (.int .i64),.dat (.int .i64)],Qt0,Pq]⟩⟩,
 ⟨35,Qp 4095,⟨[(1,A8),(3,B2),(4,A6),(5,B6),(6,Pi),(7,Qs5),(9,.one (.own 1009 109 (.nat 0)))],[Qt2,.box 3 119 [Qz0,.dat (.int .i64),.dat (.int .i64),.dat (.int .i64),.dat (.int .i64),.dat (.int .i64)],Qt0,Pq]⟩⟩,
 ⟨36,[],⟨[(0,Qt3)],[]⟩⟩]
def a3K:List Lb:=[⟨36,Qp 19,⟨[(1,A8),(3,B2),(4,Na)],[Qt2,.box 3 119 [Qz0,.dat (.int .i64),.dat (.int .i64),.dat (.int .i64),.dat (.int .i64),.dat (.int .i64)]]⟩⟩,
 ⟨36,Qp 931,⟨[(1,A8),(3,B2),(4,Na),(5,zP)],[Qt2,.box 3 119 [Qz0,.dat (.int .i64),.dat (.int .i64),.dat (.int .i64),.dat (.int .i64),.dat (.int .i64)]]⟩⟩,
 ⟨36,Qp 15,⟨[(1,A8),(3,B2),(4,Na)],[Qt2,.box 3 119 [Qz0,.dat (.int .i64),.dat (.int .i64),.dat (.int .i64),.dat (.int .i64),.dat (.int .i64)]]⟩⟩,
 ⟨37,[],⟨[(0,Qs9),(1,Qt3)],[]⟩⟩,
 ⟨37,Qp 7,⟨[(0,Qs9),(3,B2),(5,B6)],[.st 3 119 18 [] 100300,.st 5 59 12 [] 100500]⟩⟩,
 ⟨38,[],⟨[(0,w9)],[]⟩⟩,
 ⟨39,[],⟨[(0,Qs9),(1,Qs5)],[]⟩⟩,
 ⟨39,Qp 43,⟨[(0,Qs9),(1,Qs5),(5,Gw),(6,Qs5)],[]⟩⟩,
 ⟨39,Qp 15,⟨[(5,Gw)],[]⟩⟩,
 ⟨40,[],⟨[(0,Qs9),(1,Qs5)],[]⟩⟩,
 ⟨40,Qp 79,⟨[(0,Qs9),(5,Qs5),(6,Qs5)],[]⟩⟩,
 ⟨40,Qp 63,⟨[(5,Qs5),(6,Qs5)],[]⟩⟩,
 ⟨41,[],⟨[(0,Qs9)],[]⟩⟩,
 ⟨42,[],⟨[(0,w9),(1,Qs7)],[]⟩⟩,
 ⟨42,Qp 7,⟨[(0,w9),(1,Qs7)],[]⟩⟩,
 ⟨43,[],⟨[(0,w9)],[]⟩⟩]
def b24:List Lb:=[⟨44,[],⟨[(0,w9)],[]⟩⟩,
 ⟨45,[],⟨[(0,.st 0 [] 0)],[]⟩⟩,
 ⟨45,Qp 85,⟨[(1,A8)],[Wv]⟩⟩,
 ⟨45,Qp 373,⟨[(1,A8)],[Wv]⟩⟩,
 ⟨46,[],⟨[(0,.st 0 [] 0)],[]⟩⟩,
 ⟨46,Qp 4089,⟨[(1,A8)],[Wv]⟩⟩,
 ⟨46,Qp 1017,⟨[(1,A8)],[Wv]⟩⟩,
 ⟨46,Qp 249,⟨[(1,A8)],[Wv]⟩⟩,
 ⟨46,Qp 7,⟨[],[]⟩⟩,
 ⟨47,[],⟨[(0,w9),(1,Qs7)],[]⟩⟩,
 ⟨47,Qp 21,⟨[(0,w9),(1,Qs7),(5,Qs5)],[]⟩⟩,
 ⟨47,Qp 7,⟨[],[]⟩⟩,
 ⟨48,[],⟨[(0,Qs9),(1,Qs5)],[]⟩⟩,
 ⟨48,Qp 87,⟨[(0,Qs9),(1,Qs5),(5,Gw),(6,SY),(16,Qs5),(17,Qs5)],[]⟩⟩,
 ⟨48,Qp 31,⟨[(0,Qs9),(1,Qs5),(5,Gw),(6,SY)],[]⟩⟩,
 ⟨48,Qp 255,⟨[(0,Qs9),(1,Qs5),(8,w9),(9,Nf)],[.st 9 109 0 [] 100900]⟩⟩]
def a3P:List Lb:=[⟨49,[],⟨[(0,Qs9)],[]⟩⟩,
 ⟨49,Qp 43,⟨[(0,Qs9),(15,Qs5),(16,Qs5)],[]⟩⟩,
 ⟨49,Qp 15,⟨[],[]⟩⟩,
 ⟨50,[],⟨[(0,.st 20 [] 0)],[]⟩⟩,
 ⟨51,[],⟨[(0,.st 20 [] 0),(1,w9)],[]⟩⟩,
 ⟨51,Qp 21,⟨[(1,w9),(2,x4),(9,Qs5),(10,Qs5)],[.st 2 145 20 [] 100200]⟩⟩,
 ⟨51,Qp 7,⟨[],[]⟩⟩,
 ⟨52,[],⟨[(0,Qs9),(1,Qs7)],[]⟩⟩,
 ⟨52,Qp 87,⟨[(0,Qs9),(1,Qs7),(5,Gw),(6,Y7),(12,Qs5),(13,Qs5)],[]⟩⟩,
 ⟨52,Qp 31,⟨[(5,Gw)],[]⟩⟩,
 ⟨53,[],⟨[(0,Qs9),(1,Qs8),(2,w9)],[]⟩⟩,
 ⟨53,Qp 21,⟨[(0,Qs9),(1,Qs8),(2,w9),(9,Qs5),(10,Qs5)],[]⟩⟩,
 ⟨53,Qp 7,⟨[],[]⟩⟩,
 ⟨54,[],⟨[(0,Qs5)],[]⟩⟩,
 ⟨54,Qp 43,⟨[(0,Qs5),(3,NB),(4,Qs5)],[]⟩⟩,
 ⟨54,Qp 15,⟨[(3,NB)],[]⟩⟩]
def a8A:List Lb:=[⟨55,[],⟨[(0,Qs3),(1,Qs5),(2,.st 1 [] 0)],[]⟩⟩,
 ⟨56,[],⟨[(0,Ii),(1,Qs5)],[]⟩⟩,
 ⟨56,Qp 175,⟨[(0,Ii),(1,Qs5),(6,VQ),(26,Qs5),(27,Qs5)],[]⟩⟩,
 ⟨56,Qp 63,⟨[(0,Ii),(1,Qs5),(6,VQ)],[]⟩⟩,
 ⟨57,[],⟨[(0,Qs9)],[]⟩⟩,
 ⟨58,[],⟨[(0,Ii),(1,wG),(2,.st 0 [] 0)],[]⟩⟩,
 ⟨58,Qp 43,⟨[(0,Ii),(1,wG),(5,B6),(16,Qs5),(17,Qs5)],[.st 5 109 0 [] 100500]⟩⟩,
 ⟨58,Qp 15,⟨[],[]⟩⟩,
 ⟨59,[],⟨[(0,Ii),(1,wG),(2,Qs9)],[]⟩⟩,
 ⟨59,Qp 1407,⟨[(8,VA),(9,Qs5),(10,Qs5),(11,Qs5)],[]⟩⟩,
 ⟨59,Qp 511,⟨[(8,VA),(10,Qs5)],[]⟩⟩,
 ⟨60,[],⟨[(0,Qs2),(1,Qs5),(2,.st 1 [] 0)],[]⟩⟩,
 ⟨61,[],⟨[(0,Qs2),(1,Qs5),(2,Qs5)],[]⟩⟩,
 ⟨62,[],⟨[(0,Qs2),(1,Qs5)],[]⟩⟩,
 ⟨63,[],⟨[(0,Qs3),(1,Qs5),(2,Qs5)],[]⟩⟩,
 ⟨64,[],⟨[(0,Qs3)],[]⟩⟩]
def a0J:List Lb:=[⟨64,Qp 87,⟨[(1,A8),(2,x4),(3,Qs9),(4,Qs8),(18,Qs5),(19,Qs5)],[gC,.box 2 145 [Qz0,Qz0,Qz0,Qz0,Qz0,Qz0,Qz0,Qz0,Qz0,Qz0,.dat (.int .i64),.dat (.int .i64),.dat (.int .i64)]]⟩⟩,
 ⟨64,Qp 31127,⟨[(1,A8),(2,x4),(3,Qs9),(4,Qs8),(5,Qs5),(18,Qs5),(19,Qs5)],[gC,.box 2 145 [Qz0,Qz0,Qz0,Qz0,Qz0,Qz0,Qz0,Qz0,Qz0,Qz0,.dat (.int .i64),.dat (.int .i64),.dat (.int .i64)]]⟩⟩,
 ⟨64,Qp 14743,⟨[(1,A8),(2,x4),(3,Qs9),(4,Qs8),(5,Qs5),(18,Qs5),(19,Qs5)],[gC,.box 2 145 [Qz0,Qz0,Qz0,Qz0,Qz0,Qz0,Qz0,Qz0,Qz0,Qz0,.dat (.int .i64),.dat (.int .i64),.dat (.int .i64)]]⟩⟩,
 ⟨64,Qp 31,⟨[(1,A8),(2,x4),(3,Qs9),(4,Qs8)],[gC,.box 2 145 [Qz0,Qz0,Qz0,Qz0,Qz0,Qz0,Qz0,Qz0,Qz0,Qz0,.dat (.int .i64),.dat (.int .i64),.dat (.int .i64)]]⟩⟩,
 ⟨64,Qp 1943,⟨[(1,A8),(2,x4),(3,Qs9),(4,Qs8),(18,Qs5),(19,Qs5)],[.st 1 145 20 [(1,131),(3,180),(4,178),(5,68),(6,3),(7,208),(8,49),(9,9)] 100100,.box 2 145 [Qz0,Qz0,Qz0,Qz0,Qz0,Qz0,Qz0,Qz0,Qz0,Qz0,.dat (.int .i64),.dat (.int .i64),.dat (.int .i64)]]⟩⟩,
 ⟨64,Qp 351,⟨[(1,A8),(2,x4),(3,Qs9),(4,Qs8),(77,Qs5),(78,Qs5)],[Jd,.box 2 145 [Qz0,Qz0,Qz0,Qz0,Qz0,Qz0,Qz0,Qz0,Qz0,Qz0,.dat (.int .i64),.dat (.int .i64),.dat (.int .i64)]]⟩⟩,
 ⟨64,Qp 714335,⟨[(1,A8),(2,x4),(3,Qs9),(4,Qs8),(6,Qs5),(7,Qs8),(8,Qs5),(77,Qs5),(78,Qs5),(92,Qs5),(93,Qs5)],[Jd,.box 2 145 [Qz0,Qz0,Qz0,Qz0,Qz0,Qz0,Qz0,Qz0,Qz0,Qz0,.dat (.int .i64),.dat (.int .i64),.dat (.int .i64)]]⟩⟩,
 ⟨64,Qp 127,⟨[(1,A8),(2,x4)],[Jd,.box 2 145 [Qz0,Qz0,Qz0,Qz0,Qz0,Qz0,Qz0,Qz0,Qz0,Qz0,.dat (.int .i64),.dat (.int .i64),.dat (.int .i64)]]⟩⟩,
 ⟨64,Qp 254994015,⟨[(1,A8),(2,x4),(3,Qs9),(4,Qs8),(6,Qs5),(7,Qs8),(8,Qs5),(9,Qs5),(77,Qs5),(78,Qs5),(92,Qs5),(93,Qs5)],[Jd,.box 2 145 [Qz0,Qz0,Qz0,Qz0,Qz0,Qz0,Qz0,Qz0,Qz0,Qz0,.dat (.int .i64),.dat (.int .i64),.dat (.int .i64)]]⟩⟩,
 ⟨64,Qp 120776287,⟨[(1,A8),(2,x4),(3,Qs9),(4,Qs8),(6,Qs5),(7,Qs8),(8,Qs5),(9,Qs5),(77,Qs5),(78,Qs5),(92,Qs5),(93,Qs5)],[Jd,.box 2 145 [Qz0,Qz0,Qz0,Qz0,Qz0,Qz0,Qz0,Qz0,Qz0,Qz0,.dat (.int .i64),.dat (.int .i64),.dat (.int .i64)]]⟩⟩,
 ⟨64,Qp 255583,⟨[(1,A8),(2,x4),(3,Qs9),(4,Qs8),(6,Qs5),(7,Qs8),(8,Qs5),(77,Qs5),(78,Qs5)],[Jd,.box 2 145 [Qz0,Qz0,Qz0,Qz0,Qz0,Qz0,Qz0,Qz0,Qz0,Qz0,.dat (.int .i64),.dat (.int .i64),.dat (.int .i64)]]⟩⟩,
 ⟨64,Qp 15918687,⟨[(1,A8),(2,x4),(3,Qs9),(4,Qs8),(6,Qs5),(7,Qs8),(8,Qs5),(77,Qs5),(78,Qs5),(92,Qs5),(93,Qs5)],[.st 1 145 20 [(1,131),(3,180),(4,178),(5,68),(6,3),(7,208),(8,49)] 100100,.box 2 145 [Qz0,Qz0,Qz0,Qz0,Qz0,Qz0,Qz0,Qz0,Qz0,Qz0,.dat (.int .i64),.dat (.int .i64),.dat (.int .i64)]]⟩⟩,
 ⟨64,Qp 7775,⟨[(1,A8),(2,x4),(3,Qs9),(4,Qs8),(77,Qs5),(78,Qs5)],[Jd,.box 2 145 [Qz0,Qz0,Qz0,Qz0,Qz0,Qz0,Qz0,Qz0,Qz0,Qz0,.dat (.int .i64),.dat (.int .i64),.dat (.int .i64)]]⟩⟩,
 ⟨65,[],⟨[(0,w9)],[]⟩⟩,
 ⟨65,Qp 43,⟨[(0,w9),(3,PD),(7,Qs5),(8,Qs5)],[]⟩⟩,
 ⟨65,Qp 15,⟨[],[]⟩⟩]
def a7D:List Lb:=[⟨66,[],⟨[(0,Qs1),(1,Qs5),(2,.st 1 [] 0)],[]⟩⟩,
 ⟨67,[],⟨[(0,Qs1),(1,Qs5),(2,Qs5)],[]⟩⟩,
 ⟨68,[],⟨[(0,Qs1),(1,Qs5)],[]⟩⟩,
 ⟨69,[],⟨[(0,Qs1)],[]⟩⟩,
 ⟨69,Qp 87,⟨[(1,A8),(2,x4),(3,Qs9),(4,Qs8),(20,Qs5),(21,Qs5)],[Dy,.box 2 145 [Qz0,Qz0,Qz0,Qz0,Qz0,Qz0,Qz0,Qz0,Qz0,Qz0,.dat (.int .i64),.dat (.int .i64),.dat (.int .i64)]]⟩⟩,
 ⟨69,Qp 1440151,⟨[(1,A8),(2,x4),(3,Qs9),(4,Qs8),(5,Qs5),(6,Qs5),(7,Qs8),(8,Qs5),(9,Qs5),(20,Qs5),(21,Qs5)],[Dy,.box 2 145 [Qz0,Qz0,Qz0,Qz0,Qz0,Qz0,Qz0,Qz0,Qz0,Qz0,.dat (.int .i64),.dat (.int .i64),.dat (.int .i64)]]⟩⟩,
 ⟨69,Qp 178583,⟨[(1,A8),(2,x4),(3,Qs9),(4,Qs8),(5,Qs5),(6,Qs5),(20,Qs5),(21,Qs5)],[Dy,.box 2 145 [Qz0,Qz0,Qz0,Qz0,Qz0,Qz0,Qz0,Qz0,Qz0,Qz0,.dat (.int .i64),.dat (.int .i64),.dat (.int .i64)]]⟩⟩,
 ⟨69,Qp 31,⟨[(1,A8),(2,x4)],[Dy,.box 2 145 [Qz0,Qz0,Qz0,Qz0,Qz0,Qz0,Qz0,Qz0,Qz0,Qz0,.dat (.int .i64),.dat (.int .i64),.dat (.int .i64)]]⟩⟩,
 ⟨69,Qp 119929239,⟨[(1,A8),(2,x4),(3,Qs9),(4,Qs8),(5,Qs5),(6,Qs5),(7,Qs8),(8,Qs5),(9,Qs5),(20,Qs5),(21,Qs5)],[Dy,.box 2 145 [Qz0,Qz0,Qz0,Qz0,Qz0,Qz0,Qz0,Qz0,Qz0,Qz0,.dat (.int .i64),.dat (.int .i64),.dat (.int .i64)]]⟩⟩,
 ⟨69,Qp 52820375,⟨[(1,A8),(2,x4),(3,Qs9),(4,Qs8),(5,Qs5),(6,Qs5),(7,Qs8),(8,Qs5),(9,Qs5),(20,Qs5),(21,Qs5)],[Dy,.box 2 145 [Qz0,Qz0,Qz0,Qz0,Qz0,Qz0,Qz0,Qz0,Qz0,Qz0,.dat (.int .i64),.dat (.int .i64),.dat (.int .i64)]]⟩⟩,
 ⟨69,Qp 522647,⟨[(1,A8),(2,x4),(3,Qs9),(4,Qs8),(5,Qs5),(6,Qs5),(7,Qs8),(8,Qs5),(20,Qs5),(21,Qs5)],[Dy,.box 2 145 [Qz0,Qz0,Qz0,Qz0,Qz0,Qz0,Qz0,Qz0,Qz0,Qz0,.dat (.int .i64),.dat (.int .i64),.dat (.int .i64)]]⟩⟩,
 ⟨69,Qp 63895,⟨[(1,A8),(2,x4),(3,Qs9),(4,Qs8),(5,Qs5),(6,Qs5),(20,Qs5),(21,Qs5)],[Dy,.box 2 145 [Qz0,Qz0,Qz0,Qz0,Qz0,Qz0,Qz0,Qz0,Qz0,Qz0,.dat (.int .i64),.dat (.int .i64),.dat (.int .i64)]]⟩⟩,
 ⟨69,Qp 15071639,⟨[(1,A8),(2,x4),(3,Qs9),(4,Qs8),(5,Qs5),(6,Qs5),(7,Qs8),(8,Qs5),(9,Qs5),(20,Qs5),(21,Qs5)],[WN,.box 2 145 [Qz0,Qz0,Qz0,Qz0,Qz0,Qz0,Qz0,Qz0,Qz0,Qz0,.dat (.int .i64),.dat (.int .i64),.dat (.int .i64)]]⟩⟩,
 ⟨69,Qp 1943,⟨[(1,A8),(2,x4),(3,Qs9),(4,Qs8),(20,Qs5),(21,Qs5)],[WN,.box 2 145 [Qz0,Qz0,Qz0,Qz0,Qz0,Qz0,Qz0,Qz0,Qz0,Qz0,.dat (.int .i64),.dat (.int .i64),.dat (.int .i64)]]⟩⟩,
 ⟨69,Qp 31127,⟨[(1,A8),(2,x4),(3,Qs9),(4,Qs8),(5,Qs5),(6,Qs5),(20,Qs5),(21,Qs5)],[Dy,.box 2 145 [Qz0,Qz0,Qz0,Qz0,Qz0,Qz0,Qz0,Qz0,Qz0,Qz0,.dat (.int .i64),.dat (.int .i64),.dat (.int .i64)]]⟩⟩,
 ⟨70,[],⟨[(0,Qs0),(1,Qs5),(2,P9),(3,w9),(4,Qs5),(5,Qs5),(6,Qs5)],[]⟩⟩]
def a7x:List Lb:=[⟨71,[],⟨[(0,Qs0),(1,Qs5),(2,Qs5)],[]⟩⟩,
 ⟨72,[],⟨[(0,Qs0),(1,Qs5),(2,.st 1 [] 0)],[]⟩⟩,
 ⟨73,[],⟨[(0,Qs0),(1,Qs5)],[]⟩⟩,
 ⟨74,[],⟨[(0,Qs0),(1,Qs5),(2,P9),(3,Qs5)],[]⟩⟩,
 ⟨74,Qp 21,⟨[(1,Qs5),(2,P9),(3,Qs5),(4,A6),(8,Ay),(9,Qs5)],[Qt7,.box 8 145 [Qz0,Qz0,Qz0,Qz0,Qz0,Qz0,Qz0,Qz0,Qz0,Qz0,.dat (.int .i64),.dat (.int .i64),.dat (.int .i64)]]⟩⟩,
 ⟨74,Qp 349989,⟨[(1,Qs5),(2,P9),(3,Qs5),(4,A6),(8,Ay),(9,Qs5),(10,iX),(11,Qs5),(44,Qs5),(45,Qs5)],[Qt7,.box 8 145 [Qz0,Qz0,Qz0,Qz0,Qz0,Qz0,Qz0,Qz0,Qz0,Qz0,.dat (.int .i64),.dat (.int .i64),.dat (.int .i64)],.st 10 109 0 [] 101000]⟩⟩,
 ⟨74,Qp 489253,⟨[(1,Qs5),(2,P9),(3,Qs5),(4,A6),(8,Ay),(9,Qs5),(13,Qs5)],[Qt7,.box 8 145 [Qz0,Qz0,Qz0,Qz0,Qz0,Qz0,Qz0,Qz0,Qz0,Qz0,.dat (.int .i64),.dat (.int .i64),.dat (.int .i64)]]⟩⟩,
 ⟨74,Qp 7,⟨[(4,A6),(8,Ay)],[Qt7,.box 8 145 [Qz0,Qz0,Qz0,Qz0,Qz0,Qz0,Qz0,Qz0,Qz0,Qz0,.dat (.int .i64),.dat (.int .i64),.dat (.int .i64)]]⟩⟩,
 ⟨74,Qp 120613,⟨[(1,Qs5),(2,P9),(3,Qs5),(4,A6),(8,Ay),(9,Qs5),(11,Qs5)],[Qt7,.box 8 145 [Qz0,Qz0,Qz0,Qz0,Qz0,Qz0,Qz0,Qz0,Qz0,Qz0,.dat (.int .i64),.dat (.int .i64),.dat (.int .i64)]]⟩⟩,
 ⟨74,Qp 229,⟨[(1,Qs5),(2,P9),(3,Qs5),(4,A6),(8,Ay),(9,Qs5)],[Qt7,.box 8 145 [Qz0,Qz0,Qz0,Qz0,Qz0,Qz0,Qz0,Qz0,Qz0,Qz0,.dat (.int .i64),.dat (.int .i64),.dat (.int .i64)]]⟩⟩,
 ⟨75,[],⟨[(0,Qs0),(1,Qs5),(2,P9),(3,Qs5),(4,Qs5)],[]⟩⟩,
 ⟨75,Qp 5311,⟨[(1,Qs5),(2,P9),(5,B6),(11,Dk),(14,.one (.own 1014 3 (.int .i64))),(56,Qs5),(57,Qs5)],[Og,.box 11 145 [Qz0,Qz0,Qz0,Qz0,Qz0,Qz0,Qz0,Qz0,Qz0,Qz0,.dat (.int .i64),.dat (.int .i64),.dat (.int .i64)]]⟩⟩,
 ⟨75,Qp 5631,⟨[(1,Qs5),(2,P9),(3,Qs5),(4,Qs5),(5,B6),(11,Dk),(12,bM),(13,Qs5),(16,Qs5),(113,Qs5),(114,Qs5)],[Og,.box 11 145 [Qz0,Qz0,Qz0,Qz0,Qz0,Qz0,Qz0,Qz0,Qz0,Qz0,.dat (.int .i64),.dat (.int .i64),.dat (.int .i64)],rW]⟩⟩,
 ⟨75,Qp 1023,⟨[(1,Qs5),(2,P9),(3,Qs5),(4,Qs5),(5,B6),(11,Dk),(12,bM),(13,Qs5),(16,Qs5)],[Og,.box 11 145 [Qz0,Qz0,Qz0,Qz0,Qz0,Qz0,Qz0,Qz0,Qz0,Qz0,.dat (.int .i64),.dat (.int .i64),.dat (.int .i64)],rW]⟩⟩,
 ⟨75,Qp 1727,⟨[(2,P9),(5,B6),(11,Dk)],[Og,.box 11 145 [Qz0,Qz0,Qz0,Qz0,Qz0,Qz0,Qz0,Qz0,Qz0,Qz0,.dat (.int .i64),.dat (.int .i64),.dat (.int .i64)]]⟩⟩,
 ⟨75,Qp 2047,⟨[(1,Qs5),(2,P9),(3,Qs5),(4,Qs5),(5,B6),(11,Dk),(12,bM),(13,Qs5),(16,Qs5)],[Og,.box 11 145 [Qz0,Qz0,Qz0,Qz0,Qz0,Qz0,Qz0,Qz0,Qz0,Qz0,.dat (.int .i64),.dat (.int .i64),.dat (.int .i64)],rW]⟩⟩]
def b0V:List Lb:=[⟨75,Qp 4095,⟨[(1,Qs5),(2,P9),(3,Qs5),(4,Qs5),(5,B6),(11,Dk),(12,bM),(13,Qs5),(16,Qs5)],[Og,.box 11 145 [Qz0,Qz0,Qz0,Qz0,Qz0,Qz0,Qz0,Qz0,Qz0,Qz0,.dat (.int .i64),.dat (.int .i64),.dat (.int .i64)],rW]⟩⟩,
 ⟨76,[],⟨[(0,Qs0),(1,Qs5),(2,P9),(3,Qs5)],[]⟩⟩,
 ⟨76,Qp 43,⟨[(1,Qs5),(2,P9),(3,Qs5),(4,A6),(8,Ay),(9,.one (.own 1009 3 (.int .i64))),(19,Qs5),(20,Qs5)],[Qt7,.box 8 145 [Qz0,Qz0,Qz0,Qz0,Qz0,Qz0,Qz0,Qz0,Qz0,Qz0,.dat (.int .i64),.dat (.int .i64),.dat (.int .i64)]]⟩⟩,
 ⟨76,Qp 15,⟨[(2,P9),(3,Qs5),(4,A6),(8,Ay)],[Qt7,.box 8 145 [Qz0,Qz0,Qz0,Qz0,Qz0,Qz0,Qz0,Qz0,Qz0,Qz0,.dat (.int .i64),.dat (.int .i64),.dat (.int .i64)]]⟩⟩,
 ⟨76,Qp 351,⟨[(2,P9),(3,Qs5),(4,A6),(8,Ay),(11,HX),(46,Qs5),(47,Qs5)],[Qt7,.box 8 145 [Qz0,Qz0,Qz0,Qz0,Qz0,Qz0,Qz0,Qz0,Qz0,Qz0,.dat (.int .i64),.dat (.int .i64),.dat (.int .i64)]]⟩⟩,
 ⟨76,Qp 127,⟨[(4,A6),(8,Ay),(11,HX)],[Qt7,.box 8 145 [Qz0,Qz0,Qz0,Qz0,Qz0,Qz0,Qz0,Qz0,Qz0,Qz0,.dat (.int .i64),.dat (.int .i64),.dat (.int .i64)]]⟩⟩,
 ⟨77,[],⟨[(0,Qs0),(1,Qs5)],[]⟩⟩,
 ⟨77,Qp 5631,⟨[(1,Qs5),(2,x4),(4,A6),(6,Y7),(7,Qs5),(8,RN),(9,Qs5)],[IP,.box 4 145 [Qz0,Qz0,Qz0,Qz0,Qz0,Qz0,Qz0,Qz0,Qz0,Qz0,.dat (.int .i64),.dat (.int .i64),.dat (.int .i64)]]⟩⟩,
 ⟨77,Qp 2047,⟨[(1,Qs5),(2,x4),(4,A6),(6,Y7),(7,Qs5),(8,RN)],[IP,.box 4 145 [Qz0,Qz0,Qz0,Qz0,Qz0,Qz0,Qz0,Qz0,Qz0,Qz0,.dat (.int .i64),.dat (.int .i64),.dat (.int .i64)]]⟩⟩,
 ⟨78,[],⟨[(0,Qs9)],[]⟩⟩,
 ⟨78,Qp 1407,⟨[(2,x4),(3,B2),(4,A6),(6,Qs5),(7,Qs5)],[.box 2 32 [Qz0,Qz0,Qz0,Qz0,Qz0,Qz0,Qz0,Qz0,Qz0],Qt9,Rt]⟩⟩,
 ⟨78,Qp 127,⟨[(2,x4),(3,B2),(4,A6)],[.box 2 32 [Qz0,Qz0,Qz0,Qz0,Qz0,Qz0,Qz0,Qz0,Qz0],Qt9,Rt]⟩⟩,
 ⟨78,Qp 12127,⟨[(2,x4),(3,B2),(4,A6),(5,Qs5)],[.box 2 32 [Qz0,Qz0,Qz0,Qz0,Qz0,Qz0,Qz0,Qz0,Qz0],Qt9,Rt]⟩⟩,
 ⟨78,Qp 63,⟨[(2,x4),(3,B2),(4,A6)],[.box 2 32 [Qz0,Qz0,Qz0,Qz0,Qz0,Qz0,Qz0,Qz0,Qz0],Qt9,Rt]⟩⟩,
 ⟨78,Qp 511,⟨[(2,x4),(3,B2),(4,A6)],[.box 2 32 [Qz0,Qz0,Qz0,Qz0,Qz0,Qz0,Qz0,Qz0,Qz0],Qt9,Rt]⟩⟩,
 ⟨79,[],⟨[(0,Qt6),(1,Qs5),(2,Qs5)],[]⟩⟩]
def b07:List Lb:=[⟨80,[],⟨[(0,Qt6),(1,Qs4),(2,Qs5)],[]⟩⟩,
 ⟨81,[],⟨[(0,Ii),(1,Qs5),(2,Qs5)],[]⟩⟩,
 ⟨82,[],⟨[(0,Qt6),(1,Qs5),(2,Qs5)],[]⟩⟩,
 ⟨83,[],⟨[(0,Qs5)],[]⟩⟩,
 ⟨84,[],⟨[(0,Qt6),(1,Qs5)],[]⟩⟩,
 ⟨85,[],⟨[(0,Qt6),(1,Qs5),(2,Qs7)],[]⟩⟩,
 ⟨86,[],⟨[(0,Qt6),(1,Qs5)],[]⟩⟩,
 ⟨86,Qp 87,⟨[(1,Qs5),(2,x4),(5,B6),(6,Y7),(7,Et),(23,Qs5),(24,Qs5)],[Qt4,.box 5 124 [Qz0,Qz0,Qz0,Qz0,Qz0,Qz0,Qz0,Qz0,Qz0,Qz0,Qz0,Qz0,.dat (.int .i64),.dat (.int .i64),.dat (.int .i64),.dat (.int .i64)]]⟩⟩,
 ⟨86,Qp 31,⟨[(1,Qs5),(2,x4),(5,B6),(6,Y7),(7,Et)],[Qt4,.box 5 124 [Qz0,Qz0,Qz0,Qz0,Qz0,Qz0,Qz0,Qz0,Qz0,Qz0,Qz0,Qz0,.dat (.int .i64),.dat (.int .i64),.dat (.int .i64),.dat (.int .i64)]]⟩⟩,
 ⟨86,Qp 22207,⟨[(2,x4),(5,B6),(6,Y7),(7,Et),(12,w9),(13,Qs5),(70,Qs5),(71,Qs5)],[Qt4,.box 5 124 [Qz0,Qz0,Qz0,Qz0,Qz0,Qz0,Qz0,Qz0,Qz0,Qz0,Qz0,Qz0,.dat (.int .i64),.dat (.int .i64),.dat (.int .i64),.dat (.int .i64)]]⟩⟩,
 ⟨86,Qp 5631,⟨[(2,x4),(5,B6),(6,Y7),(7,Et),(15,JQ),(107,Qs5),(108,Qs5)],[Qt4,.box 5 124 [Qz0,Qz0,Qz0,Qz0,Qz0,Qz0,Qz0,Qz0,Qz0,Qz0,Qz0,Qz0,.dat (.int .i64),.dat (.int .i64),.dat (.int .i64),.dat (.int .i64)],.st 15 68 5 [] 101500]⟩⟩,
 ⟨86,Qp 7871,⟨[(2,x4),(5,B6),(13,Qs5)],[Qt4,.box 5 124 [Qz0,Qz0,Qz0,Qz0,Qz0,Qz0,Qz0,Qz0,Qz0,Qz0,Qz0,Qz0,.dat (.int .i64),.dat (.int .i64),.dat (.int .i64),.dat (.int .i64)]]⟩⟩,
 ⟨86,Qp 2047,⟨[(2,x4),(5,B6),(15,JQ)],[Qt4,.box 5 124 [Qz0,Qz0,Qz0,Qz0,Qz0,Qz0,Qz0,Qz0,Qz0,Qz0,Qz0,Qz0,.dat (.int .i64),.dat (.int .i64),.dat (.int .i64),.dat (.int .i64)],.st 15 68 5 [] 101500]⟩⟩,
 ⟨87,[],⟨[(0,Qt6),(1,Qs5),(2,Qs5)],[]⟩⟩,
 ⟨87,Qp 43,⟨[(2,Qs5),(3,B2),(7,Rk)],[DX,.box 7 124 [Qz0,Qz0,Qz0,Qz0,Qz0,Qz0,Qz0,Qz0,Qz0,Qz0,Qz0,Qz0,.dat (.int .i64),.dat (.int .i64),.dat (.int .i64),.dat (.int .i64)]]⟩⟩,
 ⟨87,Qp 175,⟨[(1,Qs5),(3,B2),(7,Rk),(9,Nf),(10,Qs5)],[DX,.box 7 124 [Qz0,Qz0,Qz0,Qz0,Qz0,Qz0,Qz0,Qz0,Qz0,Qz0,Qz0,Qz0,.dat (.int .i64),.dat (.int .i64),.dat (.int .i64),.dat (.int .i64)],.st 9 180 3 [] 100900]⟩⟩]
def a6H:List Lb:=[⟨87,Qp 63,⟨[(1,Qs5),(3,B2),(7,Rk)],[DX,.box 7 124 [Qz0,Qz0,Qz0,Qz0,Qz0,Qz0,Qz0,Qz0,Qz0,Qz0,Qz0,Qz0,.dat (.int .i64),.dat (.int .i64),.dat (.int .i64),.dat (.int .i64)]]⟩⟩,
 ⟨88,[],⟨[(0,Qt6),(1,Qs5),(2,Qs5),(3,Qs5)],[]⟩⟩,
 ⟨88,Qp 423,⟨[(2,Qs5),(3,Qs5)],[]⟩⟩,
 ⟨88,Qp 167,⟨[(2,Qs5),(3,Qs5),(4,A6),(9,Qs7),(10,Qs7)],[.st 4 124 19 [] 100400]⟩⟩,
 ⟨88,Qp 3047,⟨[(2,Qs5)],[]⟩⟩,
 ⟨88,Qp 262119,⟨[(1,Qs5),(2,Qs5)],[]⟩⟩,
 ⟨88,Qp 31,⟨[],[]⟩⟩,
 ⟨89,[],⟨[(0,Qt6),(1,Qs5),(2,Qs5)],[]⟩⟩,
 ⟨90,[],⟨[(0,Qt6),(1,Qs5)],[]⟩⟩,
 ⟨90,Qp 127,⟨[(1,Qs5),(2,x4),(5,B6),(8,Qs5)],[Qt4,.box 5 124 [Qz0,Qz0,Qz0,Qz0,Qz0,Qz0,Qz0,Qz0,Qz0,Qz0,Qz0,Qz0,.dat (.int .i64),.dat (.int .i64),.dat (.int .i64),.dat (.int .i64)]]⟩⟩,
 ⟨90,Qp 1044383,⟨[(1,Qs5),(2,x4),(5,B6),(7,Et),(8,Qs5),(11,Qs5)],[Qt4,.box 5 124 [Qz0,Qz0,Qz0,Qz0,Qz0,Qz0,Qz0,Qz0,Qz0,Qz0,Qz0,Qz0,.dat (.int .i64),.dat (.int .i64),.dat (.int .i64),.dat (.int .i64)]]⟩⟩,
 ⟨90,Qp 520095,⟨[(1,Qs5),(2,x4),(5,B6),(7,Et),(8,Qs5),(9,Qs5),(11,Qs5)],[Qt4,.box 5 124 [Qz0,Qz0,Qz0,Qz0,Qz0,Qz0,Qz0,Qz0,Qz0,Qz0,Qz0,Qz0,.dat (.int .i64),.dat (.int .i64),.dat (.int .i64),.dat (.int .i64)]]⟩⟩,
 ⟨90,Qp 927,⟨[(1,Qs5),(2,x4),(5,B6),(6,Co),(7,Et),(8,Qs5)],[Qt4,.box 5 124 [Qz0,Qz0,Qz0,Qz0,Qz0,Qz0,Qz0,Qz0,Qz0,Qz0,Qz0,Qz0,.dat (.int .i64),.dat (.int .i64),.dat (.int .i64),.dat (.int .i64)],Py]⟩⟩,
 ⟨91,[],⟨[(0,Qt6),(1,Qs5)],[]⟩⟩,
 ⟨91,Qp 15831,⟨[(5,B6),(6,Y7),(9,Qs5),(10,iX),(11,Qs5)],[.box 5 124 [Qz0,Qz0,Qz0,Qz0,Qz0,Qz0,Qz0,Qz0,Qz0,Qz0,Qz0,Qz0,.dat (.int .i64),.dat (.int .i64),.dat (.int .i64),.dat (.int .i64)],.st 10 124 19 [] 101000]⟩⟩,
 ⟨91,Qp 358359,⟨[(2,x4),(5,B6),(6,Y7),(14,Qs4),(15,Qs5)],[Qt4,.box 5 124 [Qz0,Qz0,Qz0,Qz0,Qz0,Qz0,Qz0,Qz0,Qz0,Qz0,Qz0,Qz0,.dat (.int .i64),.dat (.int .i64),.dat (.int .i64),.dat (.int .i64)]]⟩⟩]
def a2P:List Lb:=[⟨91,Qp 6103,⟨[(2,x4),(5,B6),(6,Y7)],[Qt4,.box 5 124 [Qz0,Qz0,Qz0,Qz0,Qz0,Qz0,Qz0,Qz0,Qz0,Qz0,Qz0,Qz0,.dat (.int .i64),.dat (.int .i64),.dat (.int .i64),.dat (.int .i64)]]⟩⟩,
 ⟨91,Qp 128983,⟨[(2,x4),(5,B6),(14,Qs4)],[Qt4,.box 5 124 [Qz0,Qz0,Qz0,Qz0,Qz0,Qz0,Qz0,Qz0,Qz0,Qz0,Qz0,Qz0,.dat (.int .i64),.dat (.int .i64),.dat (.int .i64),.dat (.int .i64)]]⟩⟩,
 ⟨92,[],⟨[(0,Qt6),(1,Qs5)],[]⟩⟩,
 ⟨92,Qp 87,⟨[(2,x4),(5,B6),(6,Y7),(7,Qs4),(14,Qs5),(15,Qs5)],[Qt4,.box 5 124 [Qz0,Qz0,Qz0,Qz0,Qz0,Qz0,Qz0,Qz0,Qz0,Qz0,Qz0,Qz0,.dat (.int .i64),.dat (.int .i64),.dat (.int .i64),.dat (.int .i64)]]⟩⟩,
 ⟨92,Qp 31,⟨[(2,x4),(5,B6),(7,Qs4)],[Qt4,.box 5 124 [Qz0,Qz0,Qz0,Qz0,Qz0,Qz0,Qz0,Qz0,Qz0,Qz0,Qz0,Qz0,.dat (.int .i64),.dat (.int .i64),.dat (.int .i64),.dat (.int .i64)]]⟩⟩,
 ⟨93,[],⟨[(0,Qs9)],[]⟩⟩,
 ⟨93,Qp 175,⟨[(0,Qs9),(2,x4),(3,B2),(4,A6),(6,Co),(30,Qs5),(31,Qs5)],[.box 2 32 [Qz0,Qz0,Qz0,Qz0,Qz0,Qz0,Qz0,Qz0,Qz0],Qt9,.st 4 32 8 [] 100400,.st 6 124 19 [] 100600]⟩⟩,
 ⟨93,Qp 63,⟨[(2,x4),(3,B2),(4,A6),(6,Co)],[.box 2 32 [Qz0,Qz0,Qz0,Qz0,Qz0,Qz0,Qz0,Qz0,Qz0],Qt9,.st 4 32 8 [] 100400,.st 6 124 19 [] 100600]⟩⟩,
 ⟨94,[],⟨[(0,w9)],[]⟩⟩,
 ⟨95,[],⟨[(0,w9)],[]⟩⟩,
 ⟨96,[],⟨[(0,Q0),(1,Qs5)],[Qt1]⟩⟩,
 ⟨96,Qp 87,⟨[(1,Qs5),(5,Gw),(6,Qs9),(7,Qs5)],[Qt1]⟩⟩,
 ⟨96,Qp 31,⟨[(5,Gw)],[Qt1]⟩⟩,
 ⟨97,[],⟨[(0,Q0),(1,Qs7),(2,Qs5),(3,Qs5)],[Qt1]⟩⟩,
 ⟨98,[],⟨[(0,.one (.fpd 13))],[]⟩⟩,
 ⟨99,[],⟨[(0,Q0),(1,Qs5)],[Qt1]⟩⟩]
def a07:List Lb:=[⟨100,[],⟨[(0,Q0),(1,w9)],[Qt1]⟩⟩,
 ⟨100,Qp 7,⟨[(0,Q0),(1,w9),(5,Qs5),(6,Qs4)],[Qt1]⟩⟩,
 ⟨101,[],⟨[(0,Q0),(1,.st 0 [] 0),(2,.st 1 [] 0)],[Qt1]⟩⟩,
 ⟨102,[],⟨[(0,Q0),(1,Qs5)],[Qt1]⟩⟩,
 ⟨102,Qp 175,⟨[(0,Q0),(1,Qs5),(4,A6),(5,B6),(72,Qs8),(73,Qs5),(74,Qs5)],[dE,zC,Qt1]⟩⟩,
 ⟨102,Qp 7911,⟨[(0,Q0),(1,Qs5),(6,Y7),(7,Qs7)],[Qt1]⟩⟩,
 ⟨102,Qp 743,⟨[(0,Q0),(1,Qs5),(4,A6),(6,Y7)],[dE,Qt1]⟩⟩,
 ⟨102,Qp 31,⟨[(0,Q0),(1,Qs5),(4,A6),(5,B6),(6,Qs8)],[dE,zC,Qt1]⟩⟩,
 ⟨102,Qp 63,⟨[(0,Q0),(1,Qs5),(4,A6),(5,B6)],[dE,zC,Qt1]⟩⟩,
 ⟨103,[],⟨[(0,Q0),(1,Qs5),(2,Qs8)],[Qt1]⟩⟩,
 ⟨103,Qp 21,⟨[(0,Q0),(1,Qs5),(2,Qs8),(15,.one (.own 1015 3 (.int .i64))),(16,Qs5),(17,Qs5)],[Qt1]⟩⟩,
 ⟨103,Qp 7,⟨[(0,Q0),(1,Qs5),(2,Qs8)],[Qt1]⟩⟩,
 ⟨104,[],⟨[(0,Q0),(1,Qs5)],[Qt1]⟩⟩,
 ⟨104,Qp 32247,⟨[(0,Q0),(6,Qs5)],[Qt1]⟩⟩,
 ⟨105,[],⟨[(0,Q0),(1,Qs5)],[Qt1]⟩⟩,
 ⟨105,Qp 5,⟨[(0,Q0),(8,.one (.own 1008 3 (.int .i64))),(9,Qs5),(10,Qs5)],[Qt1]⟩⟩]
def a83:List Lb:=[⟨106,[],⟨[(0,.st 8 [] 0)],[]⟩⟩,
 ⟨106,Qp 43,⟨[(2,x4),(3,Dk),(13,CK),(14,Qs5),(15,Qs5)],[.box 2 41 [Qz0,Qz0,Qz0],bQ]⟩⟩,
 ⟨106,Qp 261323,⟨[(2,x4),(3,Dk),(7,Rk),(13,CK),(14,Qs5),(15,Qs5)],[.box 2 41 [Qz0,Qz0,Qz0],.st 7 45 10 [] 100700,bQ]⟩⟩,
 ⟨106,Qp 15,⟨[(2,x4),(3,Dk)],[.box 2 41 [Qz0,Qz0,Qz0],bQ]⟩⟩,
 ⟨106,Qp 971,⟨[(2,x4),(3,Dk),(13,CK),(14,Qs5),(15,Qs5)],[.box 2 41 [Qz0,Qz0,Qz0],bQ]⟩⟩,
 ⟨107,[],⟨[(0,.st 11 [] 0),(1,Qs5)],[]⟩⟩,
 ⟨108,[],⟨[],[]⟩⟩,
 ⟨109,[],⟨[(0,.st 11 [] 0),(1,Qs5)],[]⟩⟩,
 ⟨109,Qp 21,⟨[(1,Qs5),(2,x4),(11,yS),(12,Qs5),(13,Qs5)],[Gb]⟩⟩,
 ⟨109,Qp 5733,⟨[(1,Qs5),(2,x4),(6,Qs5),(11,yS),(12,Qs5),(13,Qs5),(27,Gd),(28,Qs5),(29,Qs5)],[Gb]⟩⟩,
 ⟨109,Qp 7,⟨[],[]⟩⟩,
 ⟨109,Qp 485,⟨[(1,Qs5),(2,x4),(11,yS),(12,Qs5),(13,Qs5)],[Gb]⟩⟩,
 ⟨110,[],⟨[(0,w9)],[]⟩⟩,
 ⟨110,Qp 351,⟨[(3,B2),(5,B6),(6,Qs5),(7,Qs5)],[iT,nX]⟩⟩,
 ⟨110,Qp 94815,⟨[(3,B2),(5,B6),(6,Qs5),(7,Qs5),(8,Ay),(9,Qs5)],[iT,nX,.st 8 45 10 [] 100800]⟩⟩,
 ⟨110,Qp 127,⟨[(3,B2),(5,B6),(6,Qs5)],[iT,nX]⟩⟩]
def a5z:List Lb:=[⟨110,Qp 3679,⟨[(3,B2),(5,B6),(6,Qs5),(7,Qs5)],[iT,nX]⟩⟩,
 ⟨111,[],⟨[(0,Gd),(1,Qs5)],[]⟩⟩,
 ⟨111,Qp 43,⟨[(0,Gd),(1,Qs5),(5,aK),(10,Qs5),(11,Qs5)],[]⟩⟩,
 ⟨111,Qp 15563,⟨[(0,Gd),(1,Qs5),(5,aK),(7,Rk),(10,Qs5),(11,Qs5)],[.st 7 47 9 [] 100700]⟩⟩,
 ⟨111,Qp 15,⟨[(5,aK)],[]⟩⟩,
 ⟨111,Qp 971,⟨[(0,Gd),(1,Qs5),(5,aK),(10,Qs5),(11,Qs5)],[]⟩⟩,
 ⟨112,[],⟨[(0,Gd),(1,Gd)],[]⟩⟩,
 ⟨113,[],⟨[(0,Nc),(1,Qs7),(2,Qs5),(3,Qs5)],[]⟩⟩,
 ⟨114,[],⟨[(0,Nc),(1,Qs8)],[]⟩⟩,
 ⟨114,Qp 43,⟨[(1,Qs8),(2,x4),(5,B6),(6,pA),(12,Qs5),(13,Qs5)],[Qt8,.box 5 74 [Qz0,Qz0,Qz0,Qz0,Qz0,Qz0,Qz0,Qz0,Qz0,Qz0]]⟩⟩,
 ⟨114,Qp 15,⟨[(2,x4),(5,B6),(6,pA)],[Qt8,.box 5 74 [Qz0,Qz0,Qz0,Qz0,Qz0,Qz0,Qz0,Qz0,Qz0,Qz0]]⟩⟩,
 ⟨115,[],⟨[(0,Nc),(1,Qs5)],[]⟩⟩,
 ⟨115,Qp 1023,⟨[(2,x4),(5,B6),(12,aE),(14,.one (.own 1014 47 (.nat 9)))],[Qt8,.box 5 74 [Qz0,Qz0,Qz0,Qz0,Qz0,Qz0,Qz0,Qz0,Qz0,Qz0]]⟩⟩,
 ⟨115,Qp 2816767,⟨[(1,Qs5),(2,x4),(5,B6),(6,Co),(12,aE),(15,Qs5),(109,Qs5),(110,Qs5)],[Qt8,.box 5 74 [Qz0,Qz0,Qz0,Qz0,Qz0,Qz0,Qz0,Qz0,Qz0,Qz0],Py]⟩⟩,
 ⟨115,Qp 63,⟨[(1,Qs5),(2,x4),(5,B6),(6,Co),(7,Qs8)],[Qt8,.box 5 74 [Qz0,Qz0,Qz0,Qz0,Qz0,Qz0,Qz0,Qz0,Qz0,Qz0],Py]⟩⟩,
 ⟨115,Qp 31,⟨[(1,Qs5),(2,x4),(5,B6),(6,Co),(7,Et)],[Qt8,.box 5 74 [Qz0,Qz0,Qz0,Qz0,Qz0,Qz0,Qz0,Qz0,Qz0,Qz0],Py]⟩⟩]
def b0n:List Lb:=[⟨115,Qp 981759,⟨[(1,Qs5),(2,x4),(5,B6),(6,Co),(12,aE),(15,Qs5)],[Qt8,.box 5 74 [Qz0,Qz0,Qz0,Qz0,Qz0,Qz0,Qz0,Qz0,Qz0,Qz0],Py]⟩⟩,
 ⟨115,Qp 2030335,⟨[(1,Qs5),(2,x4),(5,B6),(12,aE),(15,Qs5)],[Qt8,.box 5 74 [Qz0,Qz0,Qz0,Qz0,Qz0,Qz0,Qz0,Qz0,Qz0,Qz0]]⟩⟩,
 ⟨116,[],⟨[(0,Nc),(1,Qs5),(2,Qs8),(3,Gd)],[]⟩⟩,
 ⟨117,[],⟨[(0,Nc),(1,Qs5)],[]⟩⟩,
 ⟨118,[],⟨[(0,Nc),(1,Qs5)],[]⟩⟩,
 ⟨118,Qp 87,⟨[(2,x4),(5,B6),(6,pA),(7,Et),(18,Qs5),(19,Qs5)],[Qt8,.box 5 74 [Qz0,Qz0,Qz0,Qz0,Qz0,Qz0,Qz0,Qz0,Qz0,Qz0]]⟩⟩,
 ⟨118,Qp 31,⟨[(2,x4),(5,B6),(6,pA)],[Qt8,.box 5 74 [Qz0,Qz0,Qz0,Qz0,Qz0,Qz0,Qz0,Qz0,Qz0,Qz0]]⟩⟩,
 ⟨119,[],⟨[(0,.st 8 [] 0)],[]⟩⟩,
 ⟨119,Qp 87,⟨[(1,A8),(2,x4),(3,B2),(4,A6),(16,Qs5),(17,Qs5)],[uI,.box 2 41 [Qz0,Qz0,Qz0],.box 3 41 [.own 100300 47 (.nat 9),.own 100301 45 (.nat 10),Qz0],lF]⟩⟩,
 ⟨119,Qp 1046935,⟨[(1,A8),(2,x4),(3,B2),(4,A6),(8,.one (.own 1008 47 (.nat 9))),(10,iX),(16,Qs5),(17,Qs5)],[uI,.box 2 41 [Qz0,Qz0,Qz0],.box 3 41 [.own 100300 47 (.nat 9),.own 100301 45 (.nat 10),Qz0],lF,.st 10 45 10 [] 101000]⟩⟩,
 ⟨119,Qp 31,⟨[(2,x4),(3,B2),(4,A6)],[.box 2 41 [Qz0,Qz0,Qz0],.box 3 41 [.own 100300 47 (.nat 9),.own 100301 45 (.nat 10),Qz0],lF]⟩⟩,
 ⟨119,Qp 1943,⟨[(1,A8),(2,x4),(3,B2),(4,A6),(16,Qs5),(17,Qs5)],[uI,.box 2 41 [Qz0,Qz0,Qz0],.box 3 41 [.own 100300 47 (.nat 9),.own 100301 45 (.nat 10),Qz0],lF]⟩⟩,
 ⟨120,[],⟨[(0,.st 11 [] 0),(1,.st 11 [] 0)],[]⟩⟩,
 ⟨120,Qp 43,⟨[(2,x4),(3,B2),(35,Qs5),(36,Qs5)],[Gb,Ro]⟩⟩,
 ⟨120,Qp 15,⟨[(2,x4),(3,B2)],[Gb,Ro]⟩⟩,
 ⟨120,Qp 87,⟨[(2,x4),(3,B2),(53,Qs5),(54,Qs5)],[Gb,Ro]⟩⟩]
def a9O:List Lb:=[⟨120,Qp 31,⟨[(2,x4),(3,B2)],[Gb,Ro]⟩⟩,
 ⟨120,Qp 175,⟨[(2,x4),(3,B2),(71,Qs5),(72,Qs5)],[Gb,Ro]⟩⟩,
 ⟨120,Qp 63,⟨[],[]⟩⟩]
def OP:List (List Lb):=[a0O,a2n,b3b,a7y,a69,a6A,a9J,a3K,b24,a3P,a8A,a0J,a7D,a7x,b0V,b07,a6H,a2P,a07,a83,a5z,b0n,a9O]
def b0Q:List VR:=[⟨60,⟨[Qs5],[]⟩,[(Qp 19,1),(Qp 1955,2),(Qp 931,3),(Qp 15,4)],[],[]⟩,
 ⟨61,⟨[Qs5,Qs5],[]⟩,[(Qp 87,6),(Qp 31,7)],[],[]⟩,
 ⟨85,⟨[Qs5],[]⟩,[(Qp 249,9),(Qp 57,10),(Qp 7,11)],[],[]⟩,
 ⟨86,⟨[Qs5],[]⟩,[(Qp 9,13),(Qp 7,14)],[],[]⟩,
 ⟨87,⟨[Qs4],[]⟩,[(Qp 43,16),(Qp 15,17)],[],[]⟩,
 ⟨137,⟨[.st 22 [] 800000],[]⟩,[],[],[]⟩,
 ⟨138,⟨[.st 22 [] 800000],[]⟩,[],[],[]⟩,
 ⟨139,⟨[Qs5],[]⟩,[],[],[]⟩,
 ⟨118,⟨[Qs5,Qs5],[]⟩,[(Qp 175,22),(Qp 31,23),(Qp 15,24),(Qp 63,25),(Qp 5631,26),(Qp 511,27),(Qp 255,28),(Qp 2047,29)],[],[]⟩,
 ⟨88,⟨[pX,Qs5,Qs5],[]⟩,[(Qp 19,31),(Qp 15,32),(Qp 639,33),(Qp 255,34),(Qp 959,35),(Qp 511,36)],[],[]⟩,
 ⟨119,⟨[Qs5],[]⟩,[(Qp 249,38),(Qp 57,39),(Qp 7,40)],[],[]⟩,
 ⟨89,⟨[w9,Qs5,Qs4],[]⟩,[(Qp 87,42),(Qp 1440919,43),(Qp 704511127,44),(Qp 31,45),(Qp 919,46),(Qp 234749079,47)],[],[]⟩,
 ⟨62,⟨[pX,Qs5,Qs5],[]⟩,[(Qp 85,49),(Qp 175,50),(Qp 63,51),(Qp 703,52),(Qp 255,53)],[],[]⟩,
 ⟨46,⟨[.one (.own 800000 137 (.nat 17)),Mp],[]⟩,[(Qp 767,55),(Qp 14591,56)],[],[]⟩,
 ⟨63,⟨[Qs4],[]⟩,[],[],[]⟩,
 ⟨64,⟨[pX],[]⟩,[],[],[]⟩]
def b2r:List VR:=[⟨65,⟨[Qs4],[]⟩,[],[],[]⟩,
 ⟨69,⟨[Dm],[]⟩,[],[],[]⟩,
 ⟨68,⟨[rX],[]⟩,[],[],[]⟩,
 ⟨90,⟨[rX],[]⟩,[],[],[]⟩,
 ⟨91,⟨[pX,Qt5],[]⟩,[(Qp 43,64)],[],[]⟩,
 ⟨92,⟨[rX],[]⟩,[(Qp 7,66)],[],[]⟩,
 ⟨94,⟨[rX],[]⟩,[],[],[]⟩,
 ⟨95,⟨[Dm,Qt5],[]⟩,[(Qp 87,69),(Qp 31,70)],[(Qp 687,0,[1041000])],[(Qp 39319,4,2),(Qp 191,3,2)]⟩,
 ⟨93,⟨[Dm,Qt5],[]⟩,[],[(Qp 47,0,[1017000])],[]⟩,
 ⟨66,⟨[Dm,Qt5],[]⟩,[(Qp 319,73),(Qp 255,74)],[(Qp 383,0,[1006])],[]⟩,
 ⟨97,⟨[Dm],[]⟩,[],[],[]⟩,
 ⟨152,⟨[Dm,Qt5],[]⟩,[(Qp 79,77),(Qp 1679,78),(Qp 63,79)],[],[]⟩,
 ⟨151,⟨[Qs9,Qt5],[]⟩,[(Qp 536870719,81),(Qp 8388415,82),(Qp 255,83)],[(Qp 92274495,0,[1106000]),(Qp 3087007551,0,[1136000])],[(Qp 11,0,2),(Qp 3087007551,3,1),(Qp 5905579839,5,1)]⟩,
 ⟨150,⟨[Qs9,Qt5],[]⟩,[(Qp 19,85),(Qp 99,86),(Qp 15,87)],[],[(Qp 23203,3,1)]⟩,
 ⟨148,⟨[Qs9,Qt5],[]⟩,[(Qp 15,89)],[],[]⟩,
 ⟨149,⟨[.one (.own 800000 9 (.str)),.one (.own 800100 2 (.int .i64))],[]⟩,[],[],[]⟩]
def a1D:List VR:=[⟨140,⟨[Qs9,Qt5],[]⟩,[(Qp 159,92),(Qp 21791,93),(Qp 7455,94),(Qp 127,95)],[],[(Qp 47813919,7,1)]⟩,
 ⟨120,⟨[Dm,Qt5],[]⟩,[(Qp 8051,97),(Qp 63475,98),(Qp 351,99),(Qp 703,100),(Qp 255,101),(Qp 127,102)],[(Qp 1491,0,[1038000]),(Qp 2931,3,[1067000]),(Qp 55155,3,[1072000,1078000]),(Qp 12147,0,[1012]),(Qp 11763,0,[1099000])],[(Qp 1491,5,1),(Qp 11763,3,1),(Qp 1375,3,1)]⟩,
 ⟨96,⟨[Dm,Qt5],[]⟩,[(Qp 79,104),(Qp 63,105)],[(Qp 95,0,[1005])],[]⟩,
 ⟨67,⟨[Dm,Qt5],[]⟩,[(Qp 639,107),(Qp 13439,108),(Qp 511,109),(Qp 4095,110)],[(Qp 12287,0,[1006,1009,1060000])],[(Qp 12287,6,1),(Qp 12287,8,1)]⟩,
 ⟨47,⟨[Dm,Qt5],[]⟩,[(Qp 19,112),(Qp 931,113),(Qp 15,114)],[(Qp 23,0,[1004])],[]⟩,
 ⟨48,⟨[Qs9,Mp],[]⟩,[(Qp 7,116)],[],[]⟩,
 ⟨31,⟨[Qs9,Mp],[]⟩,[],[(Qp 23,3,[1010000]),(Qp 47,3,[1021000])],[]⟩,
 ⟨20,⟨[yV],[]⟩,[(Qp 43,119),(Qp 15,120)],[],[]⟩,
 ⟨121,⟨[Qs5],[]⟩,[(Qp 79,122),(Qp 63,123)],[],[]⟩,
 ⟨98,⟨[Qs4],[]⟩,[],[],[]⟩,
 ⟨141,⟨[Qs4],[]⟩,[(Qp 7,126)],[],[]⟩,
 ⟨122,⟨[Qs4],[]⟩,[],[],[]⟩,
 ⟨123,⟨[Qs4],[]⟩,[],[],[]⟩,
 ⟨99,⟨[Qs4],[]⟩,[(Qp 85,130),(Qp 373,131)],[],[]⟩,
 ⟨124,⟨[Qs7],[]⟩,[(Qp 4089,133),(Qp 1017,134),(Qp 249,135),(Qp 7,136)],[],[]⟩,
 ⟨125,⟨[Qs4],[]⟩,[(Qp 21,138),(Qp 7,139)],[],[]⟩]
def a7M:List VR:=[⟨100,⟨[Qs4],[]⟩,[(Qp 87,141),(Qp 31,142),(Qp 255,143)],[],[]⟩,
 ⟨70,⟨[Qs4],[]⟩,[(Qp 43,145),(Qp 15,146)],[],[]⟩,
 ⟨72,⟨[Qs4],[]⟩,[],[],[]⟩,
 ⟨74,⟨[Qs5],[]⟩,[(Qp 21,149),(Qp 7,150)],[],[]⟩,
 ⟨101,⟨[yV],[]⟩,[(Qp 87,152),(Qp 31,153)],[],[]⟩,
 ⟨102,⟨[Qs4],[]⟩,[(Qp 21,155),(Qp 7,156)],[],[]⟩,
 ⟨104,⟨[AF],[]⟩,[(Qp 43,158),(Qp 15,159)],[],[]⟩,
 ⟨103,⟨[.st 20 [(1,131),(3,180),(4,178),(5,68),(6,3),(7,208),(8,49),(9,9)] 800000],[]⟩,[],[],[]⟩,
 ⟨126,⟨[AF,Qs5],[]⟩,[(Qp 175,162),(Qp 63,163)],[],[]⟩,
 ⟨142,⟨[Qs4],[]⟩,[],[],[]⟩,
 ⟨143,⟨[Qs5],[]⟩,[(Qp 43,166),(Qp 15,167)],[],[]⟩,
 ⟨127,⟨[AF,Qs5],[]⟩,[(Qp 1407,169),(Qp 511,170)],[(Qp 18815,3,[1008])],[]⟩,
 ⟨103,⟨[.st 20 [(1,131),(3,180),(4,178),(5,68),(6,3),(7,208),(8,49)] 800000],[]⟩,[],[],[]⟩,
 ⟨75,⟨[LR],[]⟩,[],[],[]⟩,
 ⟨105,⟨[Qs5,.st 20 [(3,180),(4,178),(5,68),(6,3),(7,208),(8,49)] 800100],[]⟩,[],[(Qp 3031,6,[1044000])],[]⟩,
 ⟨75,⟨[.st 20 [(3,180),(4,178),(5,68),(6,3),(7,208),(8,49),(9,9)] 800000],[]⟩,[],[],[]⟩]
def a92:List VR:=[⟨71,⟨[LR],[]⟩,[(Qp 87,176),(Qp 31127,177),(Qp 14743,178),(Qp 31,179),(Qp 1943,180),(Qp 351,181),(Qp 714335,182),(Qp 127,183),(Qp 254994015,184),(Qp 120776287,185),(Qp 255583,186),(Qp 15918687,187),(Qp 7775,188)],[],[]⟩,
 ⟨106,⟨[Qs5],[]⟩,[(Qp 43,190),(Qp 15,191)],[],[]⟩,
 ⟨103,⟨[.st 20 [(1,131),(5,68),(6,3),(7,208),(8,49)] 800000],[]⟩,[],[],[]⟩,
 ⟨75,⟨[uW],[]⟩,[],[],[]⟩,
 ⟨105,⟨[Qs5,KV],[]⟩,[],[(Qp 3031,6,[1044000])],[]⟩,
 ⟨73,⟨[uW],[]⟩,[(Qp 87,196),(Qp 1440151,197),(Qp 178583,198),(Qp 31,199),(Qp 119929239,200),(Qp 52820375,201),(Qp 522647,202),(Qp 63895,203),(Qp 15071639,204),(Qp 1943,205),(Qp 31127,206)],[],[]⟩,
 ⟨107,⟨[.one (.own 800000 206 (.nat 21)),KV],[]⟩,[],[],[]⟩,
 ⟨75,⟨[DE],[]⟩,[],[],[]⟩,
 ⟨103,⟨[.st 20 [(1,131),(6,3),(7,208),(8,49)] 800000],[]⟩,[],[],[]⟩,
 ⟨105,⟨[Qs5,MA],[]⟩,[],[(Qp 3031,6,[1044000])],[]⟩,
 ⟨144,⟨[DE],[]⟩,[(Qp 21,212),(Qp 349989,213),(Qp 489253,214),(Qp 7,215),(Qp 120613,216),(Qp 229,217)],[],[]⟩,
 ⟨128,⟨[P9,MA],[]⟩,[(Qp 5311,219),(Qp 5631,220),(Qp 1023,221),(Qp 1727,222),(Qp 2047,223),(Qp 4095,224)],[(Qp 383,0,[1046000]),(Qp 24575,12,[1165000])],[]⟩,
 ⟨108,⟨[DE],[]⟩,[(Qp 43,226),(Qp 15,227),(Qp 351,228),(Qp 127,229)],[],[]⟩,
 ⟨76,⟨[uW],[]⟩,[(Qp 5631,231),(Qp 2047,232)],[(Qp 75263,0,[1008,100205]),(Qp 3071,0,[1008,100205])],[]⟩,
 ⟨49,⟨[.st 8 [(5,68),(6,3),(7,208),(8,49)] 800000,Mp],[]⟩,[(Qp 1407,234),(Qp 127,235),(Qp 12127,236),(Qp 63,237),(Qp 511,238)],[(Qp 23,2,[16]),(Qp 175,2,[1020000,1020001]),(Qp 84351,3,[100405])],[]⟩,
 ⟨51,⟨[.st 19 [] 800000],[]⟩,[],[],[]⟩]
def a0z:List VR:=[⟨110,⟨[.st 19 [] 800000],[]⟩,[],[],[]⟩,
 ⟨134,⟨[Qs4],[]⟩,[],[],[]⟩,
 ⟨111,⟨[Qs4],[]⟩,[],[],[]⟩,
 ⟨145,⟨[w9,Qs5],[]⟩,[],[],[]⟩,
 ⟨130,⟨[Qs7],[]⟩,[],[],[]⟩,
 ⟨146,⟨[Qs4],[]⟩,[],[],[]⟩,
 ⟨129,⟨[Qs5,Sp],[]⟩,[(Qp 87,247),(Qp 31,248),(Qp 22207,249),(Qp 5631,250),(Qp 7871,251),(Qp 2047,252)],[],[]⟩,
 ⟨131,⟨[Qs5,Sp],[]⟩,[(Qp 43,254),(Qp 175,255),(Qp 63,256)],[],[]⟩,
 ⟨132,⟨[Qs5],[]⟩,[(Qp 423,258),(Qp 167,259),(Qp 3047,260),(Qp 262119,261),(Qp 31,262)],[],[]⟩,
 ⟨133,⟨[.st 19 [(1,131)] 800000],[]⟩,[],[],[]⟩,
 ⟨109,⟨[Qs5,Sp],[]⟩,[(Qp 127,265),(Qp 1044383,266),(Qp 520095,267),(Qp 927,268)],[],[]⟩,
 ⟨77,⟨[Qs4,Sp],[]⟩,[(Qp 15831,270),(Qp 358359,271),(Qp 6103,272),(Qp 128983,273)],[],[]⟩,
 ⟨50,⟨[Qs4,Sp],[]⟩,[(Qp 87,275),(Qp 31,276)],[],[]⟩,
 ⟨32,⟨[.st 8 [] 800000,Mp],[]⟩,[(Qp 175,278),(Qp 63,279)],[],[]⟩,
 ⟨14,⟨[.st 8 [] 800000,Mp],[]⟩,[],[],[]⟩,
 ⟨6,⟨[.st 8 [] 800000,Qs4],[]⟩,[],[],[]⟩]
def a5t:List VR:=[⟨16,⟨[yV],[Qt1]⟩,[(Qp 87,283),(Qp 31,284)],[],[]⟩,
 ⟨18,⟨[Qs5],[Qt1]⟩,[],[],[]⟩,
 ⟨19,⟨[Qs5],[]⟩,[],[],[]⟩,
 ⟨57,⟨[],[Qt1]⟩,[],[],[]⟩,
 ⟨117,⟨[Qs5],[Qt1]⟩,[(Qp 7,289)],[],[]⟩,
 ⟨83,⟨[Qs7,Qs5],[Qt1]⟩,[],[],[]⟩,
 ⟨55,⟨[],[Qt1]⟩,[(Qp 175,292),(Qp 7911,293),(Qp 743,294),(Qp 31,295),(Qp 63,296)],[(Qp 167,2,[1031000])],[]⟩,
 ⟨56,⟨[],[Qt1]⟩,[(Qp 21,298),(Qp 7,299)],[],[]⟩,
 ⟨40,⟨[],[Qt1]⟩,[(Qp 32247,301)],[(Qp 375,4,[1011000])],[]⟩,
 ⟨17,⟨[],[Qt1]⟩,[(Qp 5,303)],[],[]⟩,
 ⟨9,⟨[.st 11 [(0,47),(1,45),(2,9)] 800000],[]⟩,[(Qp 43,305),(Qp 261323,306),(Qp 15,307),(Qp 971,308)],[],[]⟩,
 ⟨15,⟨[w9],[]⟩,[],[],[]⟩,
 ⟨7,⟨[Qs4],[]⟩,[],[],[]⟩,
 ⟨11,⟨[Qs5,Qs5],[]⟩,[(Qp 21,312),(Qp 5733,313),(Qp 7,314),(Qp 485,315)],[],[]⟩,
 ⟨4,⟨[Qs4],[]⟩,[(Qp 351,317),(Qp 94815,318),(Qp 127,319),(Qp 3679,320)],[],[]⟩,
 ⟨42,⟨[Hi],[]⟩,[(Qp 43,322),(Qp 15563,323),(Qp 15,324),(Qp 971,325)],[],[]⟩]
def a88:List VR:=[⟨22,⟨[Hi],[]⟩,[],[],[]⟩,
 ⟨23,⟨[Hi],[]⟩,[],[],[]⟩,
 ⟨84,⟨[Hi,Sx],[]⟩,[(Qp 43,329),(Qp 15,330)],[(Qp 15563,3,[1006,1022000])],[]⟩,
 ⟨58,⟨[Hi,Sx],[]⟩,[(Qp 1023,332),(Qp 2816767,333),(Qp 63,334),(Qp 31,335),(Qp 981759,336),(Qp 2030335,337)],[(Qp 1495,0,[1043000,1051000]),(Qp 175,2,[1007]),(Qp 1535,0,[1012,1014])],[(Qp 1495,7,1),(Qp 1495,8,1)]⟩,
 ⟨59,⟨[Hi,Sx],[]⟩,[],[(Qp 11,3,[1021000]),(Qp 47,3,[1025000]),(Qp 47,5,[1038000,1033000]),(Qp 4799,0,[1040000]),(Qp 20159,0,[1040000]),(Qp 383,0,[1040000])],[(Qp 4799,4,1),(Qp 20159,5,1),(Qp 383,6,1)]⟩,
 ⟨41,⟨[Hi,Sx],[]⟩,[],[(Qp 2735,0,[1040000,1062000]),(Qp 5039,5,[1030000,1040000]),(Qp 618415,0,[1040000,1090000]),(Qp 1404847,0,[1098000,1113000]),(Qp 389039,0,[1040000,1090000]),(Qp 782255,3,[1135000,1098000]),(Qp 1568687,8,[1138000,1145000]),(Qp 3141551,0,[1123000,1146000]),(Qp 376751,0,[1040000,1158000]),(Qp 769967,3,[1178000,1166000]),(Qp 1556399,0,[1181000]),(Qp 2424751,0,[1040000]),(Qp 1507247,0,[1040000,1207000]),(Qp 2883503,0,[1040000,1225000]),(Qp 191,3,[1040000,1241000]),(Qp 1407,5,[1246000,1260000])],[(Qp 2735,2,1),(Qp 2735,6,1),(Qp 618415,2,1),(Qp 618415,8,1),(Qp 389039,2,1),(Qp 389039,8,1),(Qp 376751,2,1),(Qp 376751,8,1),(Qp 1556399,6,1),(Qp 2424751,3,1),(Qp 1507247,2,1),(Qp 1507247,5,1),(Qp 2883503,2,1),(Qp 2883503,5,1)]⟩,
 ⟨21,⟨[Hi,Sx],[]⟩,[(Qp 87,341),(Qp 31,342)],[(Qp 31127,3,[1006,1028000])],[]⟩,
 ⟨10,⟨[.st 11 [(0,47),(1,45)] 800000],[]⟩,[(Qp 87,344),(Qp 1046935,345),(Qp 31,346),(Qp 1943,347)],[(Qp 194967,6,[1038000,1046000])],[]⟩,
 ⟨8,⟨[Qs4],[]⟩,[(Qp 43,349),(Qp 15,350),(Qp 87,351),(Qp 31,352),(Qp 175,353),(Qp 63,354)],[],[]⟩]
def GF:List (List VR):=[b0Q,b2r,a1D,a7M,a92,a0z,a5t,a88]
def O3:LT:=Sc OP GF [18,19,20,309]
def UA:List (FuncId × List Nat):=[(9,[304]),(10,[343]),(16,[282]),(17,[302]),(18,[285]),(20,[118]),(21,[340]),(22,[326]),(23,[327]),(40,[300]),(41,[339]),(42,[321]),(46,[54]),(47,[111]),(49,[233]),(55,[291]),(56,[297]),(57,[287]),(58,[331]),(59,[338]),(66,[72]),(67,[106]),(69,[60]),(71,[175]),(73,[195]),(75,[174,172,193,208]),(76,[230]),(83,[290]),(84,[328]),(93,[71]),(95,[68]),(96,[103]),(97,[75]),(101,[151]),(103,[160,171,192,209]),(104,[157]),(105,[173,194,210]),(107,[207]),(108,[225]),(117,[288]),(120,[96]),(126,[161]),(127,[168]),(128,[218]),(133,[263]),(144,[211]),(149,[90]),(152,[76])]
def TR:List (FuncId × List Nat):=[(4,[316]),(6,[281]),(7,[310]),(8,[348]),(9,[304]),(10,[343]),(11,[311]),(14,[280]),(15,[309]),(20,[118]),(21,[340]),(22,[326]),(23,[327]),(31,[117]),(32,[277]),(41,[339]),(42,[321]),(46,[54]),(47,[111]),(48,[115]),(49,[233]),(50,[274]),(51,[239]),(58,[331]),(59,[338]),(60,[0]),(61,[5]),(62,[48]),(63,[57]),(64,[58]),(65,[59]),(66,[72]),(67,[106]),(68,[61]),(69,[60]),(70,[144]),(72,[147]),(74,[148]),(77,[269]),(84,[328]),(85,[8]),(86,[12]),(87,[15]),(88,[30]),(89,[41]),(90,[62]),(91,[63]),(92,[65]),(93,[71]),(94,[67]),(95,[68]),(96,[103]),(97,[75]),(98,[124]),(99,[129]),(100,[140]),(101,[151]),(102,[154]),(104,[157]),(106,[189]),(109,[264]),(110,[240]),(111,[242]),(118,[21]),(119,[37]),(120,[96]),(121,[121]),(122,[127]),(123,[128]),(124,[132]),(125,[137]),(126,[161]),(127,[168]),(129,[246]),(130,[244]),(131,[253]),(132,[257]),(133,[263]),(134,[241]),(137,[18]),(138,[19]),(139,[20]),(140,[91]),(141,[125]),(142,[164]),(143,[165]),(145,[243]),(146,[245]),(148,[88]),(149,[90]),(150,[84]),(151,[80]),(152,[76])]
def OK:List (FuncId × List Nat):=[(19,[286])]
end
end
end Go.Proofs.YtihbbcealnnpiaaGreatDoor

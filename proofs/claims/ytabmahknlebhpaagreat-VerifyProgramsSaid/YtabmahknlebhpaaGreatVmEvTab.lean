/- Parts of the proof. -/
import Derived.Test.YtabmahknlebhpaaGreatVmEvM
import Derived.Test.YtabmahknlebhpaaGreatVmXF
set_option linter.unusedVariables false
namespace Go.Proofs.YtabmahknlebhpaaGreat
section
section
open Go.RowKit
def tyF:Nat→Type
 |0=>i9
 |1=>o0
 |2=>l6
 |3=>x5
 |4=>d7
 |5=>l4
 |6=>r9
 |7=>N1
 |8=>Q1
 |9=>t9
 |10=>I8
 |11=>R1
 |12=>s9
 |13=>y6
 |14=>v8
 |15=>u9
 |16=>o4
 |17=>l3
 |18=>l8
 |19=>d9
 |20=>w7
 |21=>H8
 |_=>Unit
def lvF:Nat→List D
 |0=>[.int .u8,.int .i64,.int .i64]
 |1=>[.int .i64,.int .i64,.int .i64,.int .i64,.int .i64]
 |2=>[.sl (.nat 0),.sl (.nat 1),.sl (.str)]
 |3=>[.int .i64,.int .i64,.int .i64,.int .i64,.int .i64,.sl (.int .i64),.sl (.bool),.int .i64]
 |4=>[.int .u8,.int .i64,.int .i64,.int .i64,.int .i64,.str]
 |5=>[.int .i64,.int .i64,.int .i64]
 |6=>[.int .u8,.int .i64]
 |7=>[.str,.int .i64,.int .i64]
 |8=>[.str,.int .i64]
 |9=>[.str,.int .i64,.int .i64,.int .i64,.int .i64,.int .i64,.int .i64,.int .i64]
 |10=>[.int .i64,.str,.int .i64,.int .i64,.int .i64]
 |11=>[.int .i64,.int .i64,.int .i64,.int .i64]
 |12=>[.sl (.nat 4),.sl (.nat 5),.sl (.nat 6),.sl (.nat 7),.sl (.nat 8),.sl (.nat 9),.sl (.int .i64),.sl (.nat 10),.sl (.nat 11)]
 |13=>[.int .i64,.int .i64,.int .i64]
 |14=>[.sl (.nat 4),.sl (.nat 5),.sl (.nat 6),.sl (.nat 7),.sl (.nat 8),.sl (.nat 9),.sl (.int .i64),.sl (.nat 10),.sl (.nat 11),.sl (.nat 0),.sl (.nat 1),.sl (.str),.int .i64,.map (.str) (.int .i64)]
 |15=>[.int .i64,.int .i64,.int .i64,.int .i64,.int .i64,.sl (.int .i64),.sl (.int .i64)]
 |16=>[.int .u8,.int .i64,.int .i64,.int .i64,.str]
 |17=>[.sl (.nat 16),.int .i64,.int .i64,.int .i64,.int .i64,.int .i64]
 |18=>[.sl (.nat 4),.sl (.nat 5),.sl (.nat 4),.sl (.nat 5),.sl (.nat 6),.sl (.nat 7),.sl (.nat 8),.sl (.nat 9),.sl (.int .i64),.sl (.nat 10),.sl (.nat 11),.sl (.nat 6),.int .i64,.int .i64,.int .i64,.int .i64]
 |19=>[.sl (.nat 4),.sl (.nat 5),.sl (.nat 6),.sl (.nat 7),.sl (.nat 8),.sl (.nat 9),.sl (.int .i64),.sl (.nat 10),.sl (.nat 11),.sl (.str),.int .i64,.int .i64,.int .i64]
 |20=>[.str,.int .i64,.int .i64,.int .i64]
 |21=>[.int .i64,.int .i64,.int .i64,.int .i64,.int .i64,.int .i64,.int .i64,.int .i64]
 |_=>[]
def tab0:Tab0:=⟨tyF,lvF⟩
def ET:(i:Nat)→tyF i→Tup tab0 (lvF i)
 |0,x=>(x.Op,x.A,x.Ls,())
 |1,x=>(x.At,x.Do,x.Ps,x.Ss,x.By,())
 |2,x=>(x.Is,x.As,x.Vs,())
 |3,x=>(x.E.At,x.E.Do,x.E.Ps,x.E.Ss,x.E.By,x.D,x.On,x.Qs,())
 |4,x=>(x.Ks,x.Ls,x.If,x.Cs,x.Ns,x.Gs,())
 |5,x=>(x.Ts,x.Ds,x.In,())
 |6,x=>(x.Ks,x.Of,())
 |7,x=>(x.Js,x.Ws,x.Xs,())
 |8,x=>(x.Js,x.Ts,())
 |9,x=>(x.Js,x.Hs,x.Ps,x.By,x.At,x.Ss,x.Us,x.Es,())
 |10,x=>(x.Fn,x.Js,x.Ys,x.Us,x.a_,())
 |11,x=>(x.Fn,x.Hs,x.Ls,x.If,())
 |12,x=>(x.No,x.Ms,x.To,x.Rs,x.Id,x.As,x.Ss,x.Vars,x.Es,())
 |13,x=>(x.Code,x.Ls,x.If,())
 |14,x=>(x.p_.No,x.p_.Ms,x.p_.To,x.p_.Rs,x.p_.Id,x.p_.As,x.p_.Ss,x.p_.Vars,x.p_.Es,x.c_.Is,x.c_.As,x.c_.Vs,x.from_,x.texts_,())
 |15,x=>(x.f_.At,x.f_.Do,x.f_.Ps,x.f_.Ss,x.f_.By,x.depths_,x.todo_,())
 |16,x=>(x.Ks,x.Ls,x.If,x.Ns,x.Gs,())
 |17,x=>(x.L,x.I,x.Or,x.F.Code,x.F.Ls,x.F.If,())
 |18,x=>(x.L,x.M,x.P.No,x.P.Ms,x.P.To,x.P.Rs,x.P.Id,x.P.As,x.P.Ss,x.P.Vars,x.P.Es,x.T,x.F.Code,x.F.Ls,x.F.If,x.By,())
 |19,x=>(x.P.No,x.P.Ms,x.P.To,x.P.Rs,x.P.Id,x.P.As,x.P.Ss,x.P.Vars,x.P.Es,x.Rs,x.F.Code,x.F.Ls,x.F.If,())
 |20,x=>(x.Js,x.Ys,x.Zs,x.At,())
 |21,x=>(x.e0_,x.e1_,x.e2_,x.e3_,x.e4_,x.e5_,x.e6_,x.e7_,())
 |_+22,_=>()
def AU:(i:Nat)→Tup tab0 (lvF i)→tyF i
 |0,x=>(i9.mk x.1 x.2.1 x.2.2.1)
 |1,x=>(o0.mk x.1 x.2.1 x.2.2.1 x.2.2.2.1 x.2.2.2.2.1)
 |2,x=>(l6.mk x.1 x.2.1 x.2.2.1)
 |3,x=>(x5.mk (o0.mk x.1 x.2.1 x.2.2.1 x.2.2.2.1 x.2.2.2.2.1) x.2.2.2.2.2.1 x.2.2.2.2.2.2.1 x.2.2.2.2.2.2.2.1)
 |4,x=>(d7.mk x.1 x.2.1 x.2.2.1 x.2.2.2.1 x.2.2.2.2.1 x.2.2.2.2.2.1)
 |5,x=>(l4.mk x.1 x.2.1 x.2.2.1)
 |6,x=>(r9.mk x.1 x.2.1)
 |7,x=>(N1.mk x.1 x.2.1 x.2.2.1)
 |8,x=>(Q1.mk x.1 x.2.1)
 |9,x=>(t9.mk x.1 x.2.1 x.2.2.1 x.2.2.2.1 x.2.2.2.2.1 x.2.2.2.2.2.1 x.2.2.2.2.2.2.1 x.2.2.2.2.2.2.2.1)
 |10,x=>(I8.mk x.1 x.2.1 x.2.2.1 x.2.2.2.1 x.2.2.2.2.1)
 |11,x=>(R1.mk x.1 x.2.1 x.2.2.1 x.2.2.2.1)
 |12,x=>(s9.mk x.1 x.2.1 x.2.2.1 x.2.2.2.1 x.2.2.2.2.1 x.2.2.2.2.2.1 x.2.2.2.2.2.2.1 x.2.2.2.2.2.2.2.1 x.2.2.2.2.2.2.2.2.1)
 |13,x=>(y6.mk x.1 x.2.1 x.2.2.1)
 |14,x=>(v8.mk (s9.mk x.1 x.2.1 x.2.2.1 x.2.2.2.1 x.2.2.2.2.1 x.2.2.2.2.2.1 x.2.2.2.2.2.2.1 x.2.2.2.2.2.2.2.1 x.2.2.2.2.2.2.2.2.1) (l6.mk x.2.2.2.2.2.2.2.2.2.1 x.2.2.2.2.2.2.2.2.2.2.1 x.2.2.2.2.2.2.2.2.2.2.2.1) x.2.2.2.2.2.2.2.2.2.2.2.2.1 x.2.2.2.2.2.2.2.2.2.2.2.2.2.1)
 |15,x=>(u9.mk (o0.mk x.1 x.2.1 x.2.2.1 x.2.2.2.1 x.2.2.2.2.1) x.2.2.2.2.2.1 x.2.2.2.2.2.2.1)
 |16,x=>(o4.mk x.1 x.2.1 x.2.2.1 x.2.2.2.1 x.2.2.2.2.1)
 |17,x=>(l3.mk x.1 x.2.1 x.2.2.1 (y6.mk x.2.2.2.1 x.2.2.2.2.1 x.2.2.2.2.2.1))
 |18,x=>(l8.mk x.1 x.2.1 (s9.mk x.2.2.1 x.2.2.2.1 x.2.2.2.2.1 x.2.2.2.2.2.1 x.2.2.2.2.2.2.1 x.2.2.2.2.2.2.2.1 x.2.2.2.2.2.2.2.2.1 x.2.2.2.2.2.2.2.2.2.1 x.2.2.2.2.2.2.2.2.2.2.1) x.2.2.2.2.2.2.2.2.2.2.2.1 (y6.mk x.2.2.2.2.2.2.2.2.2.2.2.2.1 x.2.2.2.2.2.2.2.2.2.2.2.2.2.1 x.2.2.2.2.2.2.2.2.2.2.2.2.2.2.1) x.2.2.2.2.2.2.2.2.2.2.2.2.2.2.2.1)
 |19,x=>(d9.mk (s9.mk x.1 x.2.1 x.2.2.1 x.2.2.2.1 x.2.2.2.2.1 x.2.2.2.2.2.1 x.2.2.2.2.2.2.1 x.2.2.2.2.2.2.2.1 x.2.2.2.2.2.2.2.2.1) x.2.2.2.2.2.2.2.2.2.1 (y6.mk x.2.2.2.2.2.2.2.2.2.2.1 x.2.2.2.2.2.2.2.2.2.2.2.1 x.2.2.2.2.2.2.2.2.2.2.2.2.1))
 |20,x=>(w7.mk x.1 x.2.1 x.2.2.1 x.2.2.2.1)
 |21,x=>(H8.mk x.1 x.2.1 x.2.2.1 x.2.2.2.1 x.2.2.2.2.1 x.2.2.2.2.2.1 x.2.2.2.2.2.2.1 x.2.2.2.2.2.2.2.1)
 |_+22,_=>()
def IW:(i:Nat)→tyF i→List T
 |0,x=>FS x
 |1,x=>IS x
 |2,x=>a8j x
 |3,x=>b1M x
 |4,x=>Qt x
 |5,x=>Qw x
 |6,x=>Oa x
 |7,x=>Yu x
 |8,x=>Vk x
 |9,x=>Zv x
 |10,x=>Zj x
 |11,x=>aE x
 |12,x=>b1p x
 |13,x=>b34 x
 |14,x=>a44 x
 |15,x=>b5d x
 |16,x=>VA x
 |17,x=>b5x x
 |18,x=>a8e x
 |19,x=>a4z x
 |20,x=>b2G x
 |21,x=>a4A x
 |_+22,_=>[]
def tab1:Tab1:={tab0 with cells:=ET,put:=AU,enc:=IW}
theorem a7y:∀(i:Nat) (x:Tup tab0 (lvF i)),IW i (AU i x)=Fq tab1 (lvF i) x
 |0,x=>rfl
 |1,x=>rfl
 |2,x=>rfl
 |3,x=>rfl
 |4,x=>rfl
 |5,x=>rfl
 |6,x=>rfl
 |7,x=>rfl
 |8,x=>rfl
 |9,x=>rfl
 |10,x=>rfl
 |11,x=>rfl
 |12,x=>rfl
 |13,x=>rfl
 |14,x=>rfl
 |15,x=>rfl
 |16,x=>rfl
 |17,x=>rfl
 |18,x=>rfl
 |19,x=>rfl
 |20,x=>rfl
 |21,x=>rfl
 |_+22,_=>rfl
theorem b2z:∀(i:Nat) (x:tyF i),IW i x=Fq tab1 (lvF i) (ET i x)
 |0,x=>rfl
 |1,x=>rfl
 |2,x=>rfl
 |3,x=>rfl
 |4,x=>rfl
 |5,x=>rfl
 |6,x=>rfl
 |7,x=>rfl
 |8,x=>rfl
 |9,x=>rfl
 |10,x=>rfl
 |11,x=>rfl
 |12,x=>rfl
 |13,x=>rfl
 |14,x=>rfl
 |15,x=>rfl
 |16,x=>rfl
 |17,x=>rfl
 |18,x=>rfl
 |19,x=>rfl
 |20,x=>rfl
 |21,x=>rfl
 |_+22,_=>rfl
theorem a3M:∀(i:Nat) (x:Tup tab0 (lvF i)),ET i (AU i x)=x
 |0,x=>rfl
 |1,x=>rfl
 |2,x=>rfl
 |3,x=>rfl
 |4,x=>rfl
 |5,x=>rfl
 |6,x=>rfl
 |7,x=>rfl
 |8,x=>rfl
 |9,x=>rfl
 |10,x=>rfl
 |11,x=>rfl
 |12,x=>rfl
 |13,x=>rfl
 |14,x=>rfl
 |15,x=>rfl
 |16,x=>rfl
 |17,x=>rfl
 |18,x=>rfl
 |19,x=>rfl
 |20,x=>rfl
 |21,x=>rfl
 |_+22,_=>rfl
theorem a7a:∀i,(lvF i).all Ff=true
 |0=>rfl
 |1=>rfl
 |2=>rfl
 |3=>rfl
 |4=>rfl
 |5=>rfl
 |6=>rfl
 |7=>rfl
 |8=>rfl
 |9=>rfl
 |10=>rfl
 |11=>rfl
 |12=>rfl
 |13=>rfl
 |14=>rfl
 |15=>rfl
 |16=>rfl
 |17=>rfl
 |18=>rfl
 |19=>rfl
 |20=>rfl
 |21=>rfl
 |_+22=>rfl
def tab:Tab:={tab1 with ok:=a7y,ok':=b2z,leaf:=a7a,cp:=a3M}
def QY:TypeId→Option D
 |2=>some (.int .i64)
 |3=>some (.int .i64)
 |4=>some (.bool)
 |5=>some (.int .u8)
 |6=>some (.int .u8)
 |9=>some (.str)
 |10=>some (.str)
 |11=>some (.str)
 |12=>some (.int .u64)
 |21=>some (.int .i32)
 |22=>some (.sl (.nat 0))
 |23=>some (.sl (.nat 1))
 |24=>some (.sl (.str))
 |25=>some (.nat 2)
 |26=>some (.nat 2)
 |29=>some (.int .i64)
 |34=>some (.sl (.int .i64))
 |37=>some (.nat 1)
 |38=>some (.nat 1)
 |39=>some (.sl (.bool))
 |40=>some (.nat 3)
 |41=>some (.nat 3)
 |45=>some (.sl (.nat 4))
 |46=>some (.sl (.nat 5))
 |47=>some (.sl (.nat 6))
 |48=>some (.sl (.nat 7))
 |49=>some (.sl (.nat 8))
 |50=>some (.sl (.nat 9))
 |51=>some (.sl (.nat 10))
 |52=>some (.sl (.nat 11))
 |53=>some (.nat 12)
 |54=>some (.nat 12)
 |58=>some (.nat 0)
 |59=>some (.nat 0)
 |61=>some (.nat 13)
 |62=>some (.nat 13)
 |73=>some (.map (.str) (.int .i64))
 |74=>some (.nat 14)
 |75=>some (.nat 14)
 |76=>some (.nat 9)
 |77=>some (.nat 9)
 |85=>some (.sl (.int .i64))
 |86=>some (.nat 15)
 |87=>some (.nat 15)
 |96=>some (.nat 4)
 |97=>some (.nat 4)
 |98=>some (.sl (.nat 16))
 |101=>some (.nat 17)
 |102=>some (.nat 17)
 |106=>some (.nat 18)
 |107=>some (.nat 18)
 |119=>some (.nat 5)
 |120=>some (.nat 5)
 |124=>some (.nat 16)
 |125=>some (.nat 16)
 |132=>some (.nat 19)
 |133=>some (.nat 19)
 |159=>some (.nat 8)
 |160=>some (.nat 8)
 |161=>some (.nat 7)
 |162=>some (.nat 7)
 |163=>some (.sl (.nat 20))
 |171=>some (.nat 6)
 |172=>some (.nat 6)
 |175=>some (.sl (.int .u8))
 |182=>some (.nat 20)
 |183=>some (.nat 20)
 |184=>some (.nat 10)
 |185=>some (.nat 10)
 |191=>some (.int .u64)
 |192=>some (.nat 21)
 |193=>some (.nat 21)
 |199=>some (.nat 11)
 |200=>some (.nat 11)
 |205=>some (.sl (.int .i64))
 |214=>some (.int .u32)
 |215=>some (.int .u8)
 |216=>some (.int .u8)
 |219=>some (.int .i32)
 |220=>some (.int .i32)
 |_=>none
end
section
open Go.RowKit
set_option maxRecDepth 100000
set_option maxHeartbeats 4000000
def QpF:Nat→Nat→List Nat→List Nat
 |0,_,l=>l
 |k+1,n,l=>cond (Nat.ble n 1) l (QpF k (n/2) (n%2::l))
def Qp(n:Nat):List Nat:=QpF 60 n []
def Qz0:UV:=.lit (.slice none 0 0)
def Qt0:MB:=.st 4 125 16 [] 100400
def Qt1:MB:=.st 900 75 14 [(9,59),(10,38),(11,9)] 190000
def Qt2:MB:=.st 1 102 17 [] 100100
def Qt3:MB:=.st 900 87 15 [(5,3),(6,3)] 190000
def Qt4:SV:=.st 17 [] 0
def Qt5:MB:=.st 1 26 2 [] 100100
def Qt6:MB:=.st 2 107 18 [] 100200
def Qt7:SV:=.st 2 [] 0
def Qt8:SV:=.st 17 [] 800100
def Qt9:SV:=.st 18 [] 0
def Cy:MB:=.st 4 133 19 [(6,3),(7,185),(8,200)] 100400
def Eh:MB:=.st 3 62 13 [] 100300
def Ek:MB:=.st 1 133 19 [(5,77),(6,3),(7,185),(8,200)] 100100
def Iv:MB:=.st 1 133 19 [(3,162),(4,160),(5,77),(6,3),(7,185),(8,200)] 100100
def Lf:MB:=.st 7 59 0 [] 100700
def Qe:MB:=.st 2 102 17 [] 100200
def Nx:MB:=.st 5 125 16 [] 100500
def Nl:MB:=.st 5 133 19 [(6,3),(7,185),(8,200)] 100500
def Ny:MB:=.st 2 26 2 [] 100200
def Ox:MB:=.st 3 41 3 [(5,3),(6,4)] 100300
def Pw:SV:=.st 13 [] 800100
def Xc:MB:=.st 1 97 4 [] 100100
def Rj:MB:=.st 4 133 19 [(5,77),(6,3),(7,185),(8,200)] 100400
def aT:MB:=.st 5 59 0 [] 100500
def aG:SV:=.st 18 [] 800100
def oS:MB:=.st 9 125 16 [] 100900
def vU:MB:=.st 1 133 19 [(3,162),(4,160),(5,77),(6,3),(7,185),(8,200),(9,9)] 100100
def tM:MB:=.st 12 97 4 [] 101200
def sC:MB:=.st 4 38 1 [] 100400
def rR:MB:=.st 4 97 4 [] 100400
def uK:MB:=.st 11 75 14 [(9,59),(10,38),(11,9)] 101100
def pJ:MB:=.st 6 41 3 [(5,3),(6,4)] 100600
def pX:SV:=.st 16 [] 800000
def rM:SV:=.st 17 [] 800000
def xK:MB:=.st 3 107 18 [] 100300
def AA:MB:=.st 5 120 5 [] 100500
def xW:MB:=.st 5 26 2 [] 100500
def IC:SV:=.st 19 [(5,77),(6,3),(7,185),(8,200)] 800000
def yK:SV:=.st 19 [(6,3),(7,185),(8,200)] 800000
def yV:SV:=.st 3 [(5,3),(6,4)] 800000
def SQ:MB:=.st 1 133 19 [(1,120),(5,77),(6,3),(7,185),(8,200)] 100100
def TA:MB:=.st 2 133 19 [(5,77),(6,3),(7,185),(8,200)] 100200
def YM:MB:=.st 18 87 15 [(5,3),(6,3)] 101800
def ZE:SV:=.st 19 [(3,162),(4,160),(5,77),(6,3),(7,185),(8,200)] 800000
def SZ:SV:=.st 19 [(5,77),(6,3),(7,185),(8,200)] 800100
def KO:SV:=.st 19 [(6,3),(7,185),(8,200)] 800100
def Qs0:SV:=.agg [.dat (.int .i64),.dat (.int .i64),.dat (.int .i64),.dat (.int .i64),.dat (.int .i64),.own 850005 3 (.int .i64),.own 850006 4 (.bool),.dat (.int .i64)]
def Qs1:SV:=.agg [.dat (.sl (.nat 4)),.dat (.sl (.nat 5)),.dat (.sl (.nat 6)),.dat (.sl (.nat 7)),.dat (.sl (.nat 8)),.dat (.sl (.nat 9)),.own 850006 3 (.int .i64),.own 850007 185 (.nat 10),.own 850008 200 (.nat 11),.dat (.sl (.str)),.dat (.int .i64),.dat (.int .i64),.dat (.int .i64)]
def Qs2:SV:=.agg [.dat (.sl (.nat 4)),.dat (.sl (.nat 5)),.dat (.sl (.nat 6)),.dat (.sl (.nat 7)),.dat (.sl (.nat 8)),.own 850005 77 (.nat 9),.own 850006 3 (.int .i64),.own 850007 185 (.nat 10),.own 850008 200 (.nat 11),.dat (.sl (.str)),.dat (.int .i64),.dat (.int .i64),.dat (.int .i64)]
def Qs3:SV:=.agg [.dat (.sl (.nat 4)),.dat (.sl (.nat 5)),.dat (.sl (.nat 6)),.own 850003 162 (.nat 7),.own 850004 160 (.nat 8),.own 850005 77 (.nat 9),.own 850006 3 (.int .i64),.own 850007 185 (.nat 10),.own 850008 200 (.nat 11),.dat (.sl (.str)),.dat (.int .i64),.dat (.int .i64),.dat (.int .i64)]
def Qs4:SV:=.agg [.dat (.sl (.nat 4)),.dat (.sl (.nat 5)),.dat (.sl (.nat 6)),.own 850003 162 (.nat 7),.own 850004 160 (.nat 8),.own 850005 77 (.nat 9),.own 850006 3 (.int .i64),.own 850007 185 (.nat 10),.own 850008 200 (.nat 11),.own 850009 9 (.str),.dat (.int .i64),.dat (.int .i64),.dat (.int .i64)]
def Qs5:SV:=.one (.dat (.bool))
def Qs6:SV:=.one (.dat (.int .i64))
def Qs7:SV:=.one (.dat (.int .u64))
def Qs8:SV:=.one (.dat (.int .u8))
def Qs9:SV:=.one (.dat (.sl (.int .i64)))
def YE:SV:=.one (.dat (.sl (.nat 0)))
def Zu:SV:=.one (.dat (.sl (.nat 1)))
def P0:SV:=.one (.dat (.sl (.nat 20)))
def y9:SV:=.one (.dat (.sl (.nat 4)))
def Lc:SV:=.one (.dat (.sl (.nat 6)))
def GJ:SV:=.one (.dat (.sl (.nat 9)))
def uH:SV:=.one (.dat (.sl (.str)))
def w9:SV:=.one (.dat (.str))
def Lg:SV:=.one (.ifc 91 900 6)
def iI:SV:=.one (.ifi 3 .i64)
def a0f:SV:=.one (.own 1003 172 (.nat 6))
def VG:SV:=.one (.own 1003 9 (.str))
def ML:SV:=.one (.own 1004 125 (.nat 16))
def Qv:SV:=.one (.own 1004 97 (.nat 4))
def LP:SV:=.one (.own 1005 125 (.nat 16))
def Fw:SV:=.one (.own 1005 3 (.int .i64))
def Ut:SV:=.one (.own 1005 5 (.int .u8))
def CN:SV:=.one (.own 1005 97 (.nat 4))
def WN:SV:=.one (.own 1006 172 (.nat 6))
def V6:SV:=.one (.own 1006 3 (.int .i64))
def ZC:SV:=.one (.own 1006 5 (.int .u8))
def My:SV:=.one (.own 1006 97 (.nat 4))
def Eu:SV:=.one (.own 1007 3 (.int .i64))
def DN:SV:=.one (.own 1007 9 (.str))
def ZW:SV:=.one (.own 1008 172 (.nat 6))
def WU:SV:=.one (.own 1008 183 (.nat 20))
def yG:SV:=.one (.own 1008 2 (.int .i64))
def OH:SV:=.one (.own 1011 185 (.nat 10))
def HE:SV:=.one (.own 800000 172 (.nat 6))
def Ze:SV:=.one (.own 800000 3 (.int .i64))
def Ck:SV:=.one (.own 800000 97 (.nat 4))
def x6:SV:=.one (.ptr 1 0)
def HB:SV:=.one (.ptr 10 0)
def Dh:SV:=.one (.ptr 11 0)
def wI:SV:=.one (.ptr 12 0)
def KX:SV:=.one (.ptr 15 0)
def pI:SV:=.one (.ptr 18 0)
def z9:SV:=.one (.ptr 2 0)
def B5:SV:=.one (.ptr 3 0)
def A5:SV:=.one (.ptr 4 0)
def C4:SV:=.one (.ptr 5 0)
def Q8:SV:=.one (.ptr 6 0)
def Bi:SV:=.one (.ptr 7 0)
def Ct:SV:=.one (.ptr 8 0)
def Ob:SV:=.one (.ptr 9 0)
def L0:SV:=.one (.ptr 900 0)
def a0X:SV:=.one (.ptr 900 6)
def b3q:List Lb:=[⟨0,[],⟨[(0,w9),(1,Qs6)],[]⟩⟩,
 ⟨0,Qp 19,⟨[(0,w9),(1,Qs6),(5,Qs5)],[]⟩⟩,
 ⟨0,Qp 1955,⟨[(0,w9),(1,Qs6),(5,Qs5),(6,Qs8)],[]⟩⟩,
 ⟨0,Qp 931,⟨[(0,w9),(1,Qs6),(5,Qs5),(6,Qs8)],[]⟩⟩,
 ⟨0,Qp 15,⟨[(1,Qs6)],[]⟩⟩,
 ⟨1,[],⟨[(0,w9),(1,Qs6)],[]⟩⟩,
 ⟨1,Qp 87,⟨[(0,w9),(1,Qs6),(6,Qs6),(7,Qs6),(8,Qs6)],[]⟩⟩,
 ⟨1,Qp 31,⟨[(6,Qs6),(7,Qs6)],[]⟩⟩,
 ⟨2,[],⟨[(0,Qs8)],[]⟩⟩,
 ⟨2,Qp 249,⟨[(0,Qs8)],[]⟩⟩,
 ⟨2,Qp 57,⟨[(0,Qs8)],[]⟩⟩,
 ⟨2,Qp 7,⟨[],[]⟩⟩,
 ⟨3,[],⟨[(0,w9),(1,Qs6)],[]⟩⟩,
 ⟨3,Qp 9,⟨[(0,w9),(1,Qs6)],[]⟩⟩,
 ⟨3,Qp 7,⟨[(1,Qs6)],[]⟩⟩,
 ⟨4,[],⟨[(0,w9)],[]⟩⟩]
def a4H:List Lb:=[⟨4,Qp 43,⟨[(0,w9),(3,VG),(7,Qs6),(8,Qs6)],[]⟩⟩,
 ⟨4,Qp 15,⟨[],[]⟩⟩,
 ⟨5,[],⟨[(0,.st 21 [] 0)],[]⟩⟩,
 ⟨6,[],⟨[(0,Qs6)],[]⟩⟩,
 ⟨7,[],⟨[(0,.st 21 [] 0)],[]⟩⟩,
 ⟨8,[],⟨[(0,w9)],[]⟩⟩,
 ⟨8,Qp 175,⟨[(0,w9),(4,w9),(5,Qs6)],[]⟩⟩,
 ⟨8,Qp 31,⟨[(0,w9),(4,w9)],[]⟩⟩,
 ⟨8,Qp 15,⟨[(0,w9),(4,w9)],[]⟩⟩,
 ⟨8,Qp 63,⟨[(0,w9),(4,w9)],[]⟩⟩,
 ⟨8,Qp 5631,⟨[(0,w9),(4,w9),(7,Qs7),(8,Qs6)],[]⟩⟩,
 ⟨8,Qp 511,⟨[(0,w9),(4,w9)],[]⟩⟩,
 ⟨8,Qp 255,⟨[(0,w9),(4,w9),(6,w9)],[]⟩⟩,
 ⟨8,Qp 2047,⟨[(0,w9),(4,w9),(7,Qs7)],[]⟩⟩,
 ⟨9,[],⟨[(0,w9),(1,Qs6)],[]⟩⟩,
 ⟨9,Qp 19,⟨[(0,w9),(1,Qs6),(4,A5),(7,Qs6)],[Qt0]⟩⟩]
def a51:List Lb:=[⟨9,Qp 15,⟨[(0,w9),(1,Qs6),(4,A5),(7,Qs6)],[Qt0]⟩⟩,
 ⟨9,Qp 639,⟨[(0,w9),(1,Qs6),(4,A5),(7,Qs6),(8,Qs6),(9,Ob),(10,Qs6)],[Qt0,oS]⟩⟩,
 ⟨9,Qp 255,⟨[(0,w9),(1,Qs6),(4,A5),(7,Qs6),(8,Qs6),(9,Ob),(10,Qs6)],[Qt0,oS]⟩⟩,
 ⟨9,Qp 959,⟨[(0,w9),(1,Qs6),(4,A5),(7,Qs6),(8,Qs6),(9,Ob),(10,Qs6)],[Qt0,oS]⟩⟩,
 ⟨9,Qp 511,⟨[(0,w9),(1,Qs6),(4,A5),(7,Qs6),(8,Qs6),(9,Ob),(10,Qs6)],[Qt0,oS]⟩⟩,
 ⟨10,[],⟨[(0,Qs8)],[]⟩⟩,
 ⟨10,Qp 249,⟨[(0,Qs8)],[]⟩⟩,
 ⟨10,Qp 57,⟨[(0,Qs8)],[]⟩⟩,
 ⟨10,Qp 7,⟨[],[]⟩⟩,
 ⟨11,[],⟨[(0,w9)],[]⟩⟩,
 ⟨11,Qp 87,⟨[(0,w9),(5,Ut),(6,Qs6)],[]⟩⟩,
 ⟨11,Qp 1440919,⟨[(0,w9),(5,Ut),(6,Qs6)],[]⟩⟩,
 ⟨11,Qp 704511127,⟨[(0,w9),(5,Ut),(6,Qs6),(8,Qs6)],[]⟩⟩,
 ⟨11,Qp 31,⟨[(0,w9)],[]⟩⟩,
 ⟨11,Qp 919,⟨[(0,w9),(5,Ut),(6,Qs6)],[]⟩⟩,
 ⟨11,Qp 234749079,⟨[(0,w9),(5,Ut),(6,Qs6)],[]⟩⟩]
def a6C:List Lb:=[⟨12,[],⟨[(0,w9),(1,Qs6)],[]⟩⟩,
 ⟨12,Qp 85,⟨[(0,w9),(1,Qs6),(4,A5)],[Qt0]⟩⟩,
 ⟨12,Qp 175,⟨[(0,w9),(1,Qs6),(4,A5),(12,.one (.own 1012 9 (.str))),(73,Qs6),(74,Qs6)],[Qt0]⟩⟩,
 ⟨12,Qp 63,⟨[(0,w9),(1,Qs6),(4,A5)],[Qt0]⟩⟩,
 ⟨12,Qp 703,⟨[(0,w9),(1,Qs6),(4,A5),(14,w9),(15,Qs6)],[Qt0]⟩⟩,
 ⟨12,Qp 255,⟨[(4,A5)],[Qt0]⟩⟩,
 ⟨13,[],⟨[(0,w9)],[]⟩⟩,
 ⟨13,Qp 767,⟨[(0,w9),(3,B5),(4,ML),(5,LP),(6,Qs6),(7,Qs6),(8,Qs6),(9,Qs6)],[Eh]⟩⟩,
 ⟨13,Qp 14591,⟨[(0,w9),(3,B5),(4,ML),(5,LP),(6,Qs6),(8,Qs6),(9,Qs6)],[Eh]⟩⟩,
 ⟨14,[],⟨[(0,Qt4)],[]⟩⟩,
 ⟨15,[],⟨[(0,Qt4)],[]⟩⟩,
 ⟨16,[],⟨[(0,Qt4),(1,w9)],[]⟩⟩,
 ⟨17,[],⟨[(0,Qs8),(1,.st 16 [] 0),(2,w9),(3,Qs6),(4,y9)],[]⟩⟩,
 ⟨18,[],⟨[(0,Qt4),(1,Qs6)],[]⟩⟩,
 ⟨19,[],⟨[(0,Qt4),(1,w9)],[]⟩⟩,
 ⟨20,[],⟨[(0,Qt4),(1,Qs8)],[]⟩⟩]
def a2N:List Lb:=[⟨20,Qp 43,⟨[(2,z9),(4,A5),(5,C4),(6,Q8)],[Qe,Qt0,.box 5 102 [Qz0,.dat (.int .i64),.dat (.int .i64),.dat (.int .i64),.dat (.int .i64),.dat (.int .i64)],.st 6 125 16 [] 100600]⟩⟩,
 ⟨21,[],⟨[(0,Qt4),(1,w9)],[]⟩⟩,
 ⟨21,Qp 7,⟨[(1,w9),(2,z9),(4,A5)],[Qe,.box 4 102 [Qz0,.dat (.int .i64),.dat (.int .i64),.dat (.int .i64),.dat (.int .i64),.dat (.int .i64)]]⟩⟩,
 ⟨22,[],⟨[(0,Qt4),(1,w9)],[]⟩⟩,
 ⟨23,[],⟨[(0,Qt4)],[]⟩⟩,
 ⟨23,Qp 87,⟨[(1,x6),(3,B5),(4,A5),(5,.one (.own 1005 9 (.str))),(13,Qs6),(14,Qs6)],[Qt2,.box 3 102 [Qz0,.dat (.int .i64),.dat (.int .i64),.dat (.int .i64),.dat (.int .i64),.dat (.int .i64)],Qt0]⟩⟩,
 ⟨23,Qp 31,⟨[(1,x6),(3,B5),(4,A5)],[Qt2,.box 3 102 [Qz0,.dat (.int .i64),.dat (.int .i64),.dat (.int .i64),.dat (.int .i64),.dat (.int .i64)],Qt0]⟩⟩,
 ⟨24,[],⟨[(0,Qt4),(1,Qs8)],[]⟩⟩,
 ⟨25,[],⟨[(0,Qt4)],[]⟩⟩,
 ⟨25,Qp 319,⟨[(1,x6),(3,B5),(4,A5),(5,C4),(6,My)],[Qt2,.box 3 102 [Qz0,.dat (.int .i64),.dat (.int .i64),.dat (.int .i64),.dat (.int .i64),.dat (.int .i64)],Qt0,Nx]⟩⟩,
 ⟨25,Qp 255,⟨[(1,x6),(3,B5),(4,A5),(5,C4),(6,My)],[Qt2,.box 3 102 [Qz0,.dat (.int .i64),.dat (.int .i64),.dat (.int .i64),.dat (.int .i64),.dat (.int .i64)],Qt0,Nx]⟩⟩,
 ⟨26,[],⟨[(0,y9),(1,y9)],[]⟩⟩,
 ⟨27,[],⟨[(0,Qt4)],[]⟩⟩,
 ⟨27,Qp 79,⟨[(1,x6),(3,B5),(4,Qv),(5,Qs6)],[Qt2,.box 3 102 [Qz0,.dat (.int .i64),.dat (.int .i64),.dat (.int .i64),.dat (.int .i64),.dat (.int .i64)]]⟩⟩,
 ⟨27,Qp 1679,⟨[(1,x6),(3,B5),(4,Qv),(5,Qs6)],[Qt2,.box 3 102 [Qz0,.dat (.int .i64),.dat (.int .i64),.dat (.int .i64),.dat (.int .i64),.dat (.int .i64)]]⟩⟩,
 ⟨27,Qp 63,⟨[(1,x6),(3,B5),(4,Qv)],[Qt2,.box 3 102 [Qz0,.dat (.int .i64),.dat (.int .i64),.dat (.int .i64),.dat (.int .i64),.dat (.int .i64)]]⟩⟩]
def a63:List Lb:=[⟨28,[],⟨[(0,Qt4)],[]⟩⟩,
 ⟨28,Qp 536870719,⟨[(1,x6),(3,B5),(4,A5),(5,y9),(6,Q8)],[Qt2,.box 3 102 [Qz0,.dat (.int .i64),.dat (.int .i64),.dat (.int .i64),.dat (.int .i64),.dat (.int .i64)],Qt0,.st 6 102 17 [] 100600]⟩⟩,
 ⟨28,Qp 8388415,⟨[(1,x6),(3,B5),(4,A5),(5,y9),(6,Q8)],[Qt2,.box 3 102 [Qz0,.dat (.int .i64),.dat (.int .i64),.dat (.int .i64),.dat (.int .i64),.dat (.int .i64)],Qt0,.st 6 102 17 [] 100600]⟩⟩,
 ⟨28,Qp 255,⟨[(1,x6),(3,B5)],[Qt2,.box 3 102 [Qz0,.dat (.int .i64),.dat (.int .i64),.dat (.int .i64),.dat (.int .i64),.dat (.int .i64)]]⟩⟩,
 ⟨29,[],⟨[(0,Qt4)],[]⟩⟩,
 ⟨29,Qp 19,⟨[(1,x6),(3,B5),(4,y9)],[Qt2,.box 3 102 [Qz0,.dat (.int .i64),.dat (.int .i64),.dat (.int .i64),.dat (.int .i64),.dat (.int .i64)]]⟩⟩,
 ⟨29,Qp 99,⟨[(1,x6),(3,B5),(4,y9)],[Qt2,.box 3 102 [Qz0,.dat (.int .i64),.dat (.int .i64),.dat (.int .i64),.dat (.int .i64),.dat (.int .i64)]]⟩⟩,
 ⟨29,Qp 15,⟨[(1,x6),(3,B5),(4,y9)],[Qt2,.box 3 102 [Qz0,.dat (.int .i64),.dat (.int .i64),.dat (.int .i64),.dat (.int .i64),.dat (.int .i64)]]⟩⟩,
 ⟨30,[],⟨[(0,Qt4)],[]⟩⟩,
 ⟨30,Qp 15,⟨[(1,x6),(3,B5),(4,A5)],[Qt2,.box 3 102 [Qz0,.dat (.int .i64),.dat (.int .i64),.dat (.int .i64),.dat (.int .i64),.dat (.int .i64)],Qt0]⟩⟩,
 ⟨31,[],⟨[(0,Qs6)],[]⟩⟩,
 ⟨32,[],⟨[(0,Qt4),(1,Qs6)],[]⟩⟩,
 ⟨32,Qp 159,⟨[(1,Qs6),(2,z9),(5,C4),(6,y9),(7,DN),(8,yG),(9,Qs5)],[Qe,.box 5 102 [Qz0,.dat (.int .i64),.dat (.int .i64),.dat (.int .i64),.dat (.int .i64),.dat (.int .i64)]]⟩⟩,
 ⟨32,Qp 21791,⟨[(1,Qs6),(2,z9),(5,C4),(6,y9),(7,DN),(8,yG),(9,Qs5),(34,Qs6),(35,Qs6)],[Qe,.box 5 102 [Qz0,.dat (.int .i64),.dat (.int .i64),.dat (.int .i64),.dat (.int .i64),.dat (.int .i64)]]⟩⟩,
 ⟨32,Qp 7455,⟨[(1,Qs6),(2,z9),(5,C4),(6,y9),(7,DN),(8,yG),(9,Qs5)],[Qe,.box 5 102 [Qz0,.dat (.int .i64),.dat (.int .i64),.dat (.int .i64),.dat (.int .i64),.dat (.int .i64)]]⟩⟩,
 ⟨32,Qp 127,⟨[(2,z9),(5,C4),(6,y9)],[Qe,.box 5 102 [Qz0,.dat (.int .i64),.dat (.int .i64),.dat (.int .i64),.dat (.int .i64),.dat (.int .i64)]]⟩⟩]
def b3o:List Lb:=[⟨33,[],⟨[(0,Qt4)],[]⟩⟩,
 ⟨33,Qp 8051,⟨[(3,B5),(4,A5),(10,HB),(12,.one (.own 1012 97 (.nat 4)))],[.box 3 102 [Qz0,.dat (.int .i64),.dat (.int .i64),.dat (.int .i64),.dat (.int .i64),.dat (.int .i64)],Qt0,.st 10 102 17 [] 101000]⟩⟩,
 ⟨33,Qp 63475,⟨[(3,B5),(4,A5),(16,.one (.ptr 16 0)),(17,y9)],[.box 3 102 [Qz0,.dat (.int .i64),.dat (.int .i64),.dat (.int .i64),.dat (.int .i64),.dat (.int .i64)],Qt0,.st 16 102 17 [] 101600]⟩⟩,
 ⟨33,Qp 351,⟨[(1,x6),(3,B5),(4,A5),(20,y9)],[Qt2,.box 3 102 [Qz0,.dat (.int .i64),.dat (.int .i64),.dat (.int .i64),.dat (.int .i64),.dat (.int .i64)],Qt0]⟩⟩,
 ⟨33,Qp 703,⟨[(1,x6),(3,B5),(4,A5),(20,y9)],[Qt2,.box 3 102 [Qz0,.dat (.int .i64),.dat (.int .i64),.dat (.int .i64),.dat (.int .i64),.dat (.int .i64)],Qt0]⟩⟩,
 ⟨33,Qp 255,⟨[(1,x6),(3,B5),(4,A5),(20,y9)],[Qt2,.box 3 102 [Qz0,.dat (.int .i64),.dat (.int .i64),.dat (.int .i64),.dat (.int .i64),.dat (.int .i64)],Qt0]⟩⟩,
 ⟨33,Qp 127,⟨[(1,x6),(3,B5),(4,A5),(20,y9),(21,Qs8)],[Qt2,.box 3 102 [Qz0,.dat (.int .i64),.dat (.int .i64),.dat (.int .i64),.dat (.int .i64),.dat (.int .i64)],Qt0]⟩⟩,
 ⟨34,[],⟨[(0,Qt4)],[]⟩⟩,
 ⟨34,Qp 79,⟨[(1,x6),(3,B5),(4,A5),(5,CN)],[Qt2,.box 3 102 [Qz0,.dat (.int .i64),.dat (.int .i64),.dat (.int .i64),.dat (.int .i64),.dat (.int .i64)],Qt0]⟩⟩,
 ⟨34,Qp 63,⟨[(1,x6),(3,B5),(4,A5),(5,CN)],[Qt2,.box 3 102 [Qz0,.dat (.int .i64),.dat (.int .i64),.dat (.int .i64),.dat (.int .i64),.dat (.int .i64)],Qt0]⟩⟩,
 ⟨35,[],⟨[(0,Qt4)],[]⟩⟩,
 ⟨35,Qp 639,⟨[(1,x6),(3,B5),(4,A5),(5,C4),(6,My),(7,Qs6)],[Qt2,.box 3 102 [Qz0,.dat (.int .i64),.dat (.int .i64),.dat (.int .i64),.dat (.int .i64),.dat (.int .i64)],Qt0,Nx]⟩⟩,
 ⟨35,Qp 13439,⟨[(1,x6),(3,B5),(4,A5),(5,C4),(6,My),(7,Qs6)],[Qt2,.box 3 102 [Qz0,.dat (.int .i64),.dat (.int .i64),.dat (.int .i64),.dat (.int .i64),.dat (.int .i64)],Qt0,Nx]⟩⟩,
 ⟨35,Qp 511,⟨[(1,x6),(3,B5),(4,A5),(5,C4),(6,My),(7,Qs6)],[Qt2,.box 3 102 [Qz0,.dat (.int .i64),.dat (.int .i64),.dat (.int .i64),.dat (.int .i64),.dat (.int .i64)],Qt0,Nx]⟩⟩,
 ⟨35,Qp 4095,⟨[(1,x6),(3,B5),(4,A5),(5,C4),(6,My),(7,Qs6),(9,.one (.own 1009 97 (.nat 4)))],[Qt2,.box 3 102 [Qz0,.dat (.int .i64),.dat (.int .i64),.dat (.int .i64),.dat (.int .i64),.dat (.int .i64)],Qt0,Nx]⟩⟩,
 ⟨36,[],⟨[(0,Qt4)],[]⟩⟩]
def a5M:List Lb:=[⟨36,Qp 19,⟨[(1,x6),(3,B5),(4,Qv)],[Qt2,.box 3 102 [Qz0,.dat (.int .i64),.dat (.int .i64),.dat (.int .i64),.dat (.int .i64),.dat (.int .i64)]]⟩⟩,
 ⟨36,Qp 931,⟨[(1,x6),(3,B5),(4,Qv),(5,CN)],[Qt2,.box 3 102 [Qz0,.dat (.int .i64),.dat (.int .i64),.dat (.int .i64),.dat (.int .i64),.dat (.int .i64)]]⟩⟩,
 ⟨36,Qp 15,⟨[(1,x6),(3,B5),(4,Qv)],[Qt2,.box 3 102 [Qz0,.dat (.int .i64),.dat (.int .i64),.dat (.int .i64),.dat (.int .i64),.dat (.int .i64)]]⟩⟩,
 ⟨37,[],⟨[(0,y9),(1,Qt4)],[]⟩⟩,
 ⟨37,Qp 7,⟨[(0,y9),(3,B5),(5,C4)],[.st 3 102 17 [] 100300,.st 5 62 13 [] 100500]⟩⟩,
 ⟨38,[],⟨[(0,w9)],[]⟩⟩,
 ⟨39,[],⟨[(0,y9),(1,Qs6)],[]⟩⟩,
 ⟨39,Qp 79,⟨[(0,y9),(5,Qs6),(6,Qs6)],[]⟩⟩,
 ⟨39,Qp 63,⟨[(5,Qs6),(6,Qs6)],[]⟩⟩,
 ⟨40,[],⟨[(0,y9)],[]⟩⟩,
 ⟨41,[],⟨[(0,w9),(1,Qs8)],[]⟩⟩,
 ⟨41,Qp 7,⟨[(0,w9),(1,Qs8)],[]⟩⟩,
 ⟨42,[],⟨[(0,w9)],[]⟩⟩,
 ⟨43,[],⟨[(0,w9)],[]⟩⟩,
 ⟨44,[],⟨[(0,.st 4 [] 0)],[]⟩⟩,
 ⟨44,Qp 85,⟨[(1,x6)],[Xc]⟩⟩]
def a2L:List Lb:=[⟨44,Qp 373,⟨[(1,x6)],[Xc]⟩⟩,
 ⟨45,[],⟨[(0,y9),(1,Qs6)],[]⟩⟩,
 ⟨45,Qp 43,⟨[(0,y9),(1,Qs6),(5,Fw),(6,Qs6)],[]⟩⟩,
 ⟨45,Qp 15,⟨[(5,Fw)],[]⟩⟩,
 ⟨46,[],⟨[(0,.st 4 [] 0)],[]⟩⟩,
 ⟨46,Qp 4089,⟨[(1,x6)],[Xc]⟩⟩,
 ⟨46,Qp 1017,⟨[(1,x6)],[Xc]⟩⟩,
 ⟨46,Qp 249,⟨[(1,x6)],[Xc]⟩⟩,
 ⟨46,Qp 7,⟨[],[]⟩⟩,
 ⟨47,[],⟨[(0,w9),(1,Qs8)],[]⟩⟩,
 ⟨47,Qp 21,⟨[(0,w9),(1,Qs8),(5,Qs6)],[]⟩⟩,
 ⟨47,Qp 7,⟨[],[]⟩⟩,
 ⟨48,[],⟨[(0,y9),(1,Qs6)],[]⟩⟩,
 ⟨48,Qp 87,⟨[(0,y9),(1,Qs6),(5,Fw),(6,ZC),(16,Qs6),(17,Qs6)],[]⟩⟩,
 ⟨48,Qp 31,⟨[(0,y9),(1,Qs6),(5,Fw),(6,ZC)],[]⟩⟩,
 ⟨48,Qp 255,⟨[(0,y9),(1,Qs6),(8,w9),(9,Ob)],[.st 9 97 4 [] 100900]⟩⟩]
def b3W:List Lb:=[⟨49,[],⟨[(0,y9)],[]⟩⟩,
 ⟨49,Qp 43,⟨[(0,y9),(15,Qs6),(16,Qs6)],[]⟩⟩,
 ⟨49,Qp 15,⟨[],[]⟩⟩,
 ⟨50,[],⟨[(0,.st 19 [] 0)],[]⟩⟩,
 ⟨51,[],⟨[(0,.st 19 [] 0),(1,w9)],[]⟩⟩,
 ⟨51,Qp 21,⟨[(1,w9),(2,z9),(9,Qs6),(10,Qs6)],[.st 2 133 19 [] 100200]⟩⟩,
 ⟨51,Qp 7,⟨[],[]⟩⟩,
 ⟨52,[],⟨[(0,y9),(1,Qs8)],[]⟩⟩,
 ⟨52,Qp 87,⟨[(0,y9),(1,Qs8),(5,Fw),(6,V6),(12,Qs6),(13,Qs6)],[]⟩⟩,
 ⟨52,Qp 31,⟨[(5,Fw)],[]⟩⟩,
 ⟨53,[],⟨[(0,y9),(1,Qs9),(2,w9)],[]⟩⟩,
 ⟨53,Qp 21,⟨[(0,y9),(1,Qs9),(2,w9),(9,Qs6),(10,Qs6)],[]⟩⟩,
 ⟨53,Qp 7,⟨[],[]⟩⟩,
 ⟨54,[],⟨[(0,Qs6)],[]⟩⟩,
 ⟨54,Qp 43,⟨[(0,Qs6),(3,a0f),(4,Qs6)],[]⟩⟩,
 ⟨54,Qp 15,⟨[(3,a0f)],[]⟩⟩]
def a83:List Lb:=[⟨55,[],⟨[(0,Qs4),(1,Qs6),(2,.st 5 [] 0)],[]⟩⟩,
 ⟨56,[],⟨[(0,Lc),(1,Qs6)],[]⟩⟩,
 ⟨56,Qp 175,⟨[(0,Lc),(1,Qs6),(6,WN),(26,Qs6),(27,Qs6)],[]⟩⟩,
 ⟨56,Qp 63,⟨[(0,Lc),(1,Qs6),(6,WN)],[]⟩⟩,
 ⟨57,[],⟨[(0,y9)],[]⟩⟩,
 ⟨58,[],⟨[(0,Lc),(1,uH),(2,.st 4 [] 0)],[]⟩⟩,
 ⟨58,Qp 43,⟨[(0,Lc),(1,uH),(5,C4),(16,Qs6),(17,Qs6)],[.st 5 97 4 [] 100500]⟩⟩,
 ⟨58,Qp 15,⟨[],[]⟩⟩,
 ⟨59,[],⟨[(0,Lc),(1,uH),(2,y9)],[]⟩⟩,
 ⟨59,Qp 1407,⟨[(8,ZW),(9,Qs6),(10,Qs6),(11,Qs6)],[]⟩⟩,
 ⟨59,Qp 511,⟨[(8,ZW),(10,Qs6)],[]⟩⟩,
 ⟨60,[],⟨[(0,Qs3),(1,Qs6),(2,.st 5 [] 0)],[]⟩⟩,
 ⟨61,[],⟨[(0,Qs3),(1,Qs6),(2,Qs6)],[]⟩⟩,
 ⟨62,[],⟨[(0,Qs3),(1,Qs6)],[]⟩⟩,
 ⟨63,[],⟨[(0,Qs4),(1,Qs6),(2,Qs6)],[]⟩⟩,
 ⟨64,[],⟨[(0,Qs4)],[]⟩⟩]
def b0j:List Lb:=[⟨64,Qp 87,⟨[(1,x6),(2,z9),(3,y9),(4,Qs9),(18,Qs6),(19,Qs6)],[vU,.box 2 133 [Qz0,Qz0,Qz0,Qz0,Qz0,Qz0,Qz0,Qz0,Qz0,Qz0,.dat (.int .i64),.dat (.int .i64),.dat (.int .i64)]]⟩⟩,
 ⟨64,Qp 31127,⟨[(1,x6),(2,z9),(3,y9),(4,Qs9),(5,Qs6),(18,Qs6),(19,Qs6)],[vU,.box 2 133 [Qz0,Qz0,Qz0,Qz0,Qz0,Qz0,Qz0,Qz0,Qz0,Qz0,.dat (.int .i64),.dat (.int .i64),.dat (.int .i64)]]⟩⟩,
 ⟨64,Qp 14743,⟨[(1,x6),(2,z9),(3,y9),(4,Qs9),(5,Qs6),(18,Qs6),(19,Qs6)],[vU,.box 2 133 [Qz0,Qz0,Qz0,Qz0,Qz0,Qz0,Qz0,Qz0,Qz0,Qz0,.dat (.int .i64),.dat (.int .i64),.dat (.int .i64)]]⟩⟩,
 ⟨64,Qp 31,⟨[(1,x6),(2,z9),(3,y9),(4,Qs9)],[vU,.box 2 133 [Qz0,Qz0,Qz0,Qz0,Qz0,Qz0,Qz0,Qz0,Qz0,Qz0,.dat (.int .i64),.dat (.int .i64),.dat (.int .i64)]]⟩⟩,
 ⟨64,Qp 1943,⟨[(1,x6),(2,z9),(3,y9),(4,Qs9),(18,Qs6),(19,Qs6)],[.st 1 133 19 [(1,120),(3,162),(4,160),(5,77),(6,3),(7,185),(8,200),(9,9)] 100100,.box 2 133 [Qz0,Qz0,Qz0,Qz0,Qz0,Qz0,Qz0,Qz0,Qz0,Qz0,.dat (.int .i64),.dat (.int .i64),.dat (.int .i64)]]⟩⟩,
 ⟨64,Qp 351,⟨[(1,x6),(2,z9),(3,y9),(4,Qs9),(77,Qs6),(78,Qs6)],[Iv,.box 2 133 [Qz0,Qz0,Qz0,Qz0,Qz0,Qz0,Qz0,Qz0,Qz0,Qz0,.dat (.int .i64),.dat (.int .i64),.dat (.int .i64)]]⟩⟩,
 ⟨64,Qp 714335,⟨[(1,x6),(2,z9),(3,y9),(4,Qs9),(6,Qs6),(7,Qs9),(8,Qs6),(77,Qs6),(78,Qs6),(92,Qs6),(93,Qs6)],[Iv,.box 2 133 [Qz0,Qz0,Qz0,Qz0,Qz0,Qz0,Qz0,Qz0,Qz0,Qz0,.dat (.int .i64),.dat (.int .i64),.dat (.int .i64)]]⟩⟩,
 ⟨64,Qp 127,⟨[(1,x6),(2,z9)],[Iv,.box 2 133 [Qz0,Qz0,Qz0,Qz0,Qz0,Qz0,Qz0,Qz0,Qz0,Qz0,.dat (.int .i64),.dat (.int .i64),.dat (.int .i64)]]⟩⟩,
 ⟨64,Qp 254994015,⟨[(1,x6),(2,z9),(3,y9),(4,Qs9),(6,Qs6),(7,Qs9),(8,Qs6),(9,Qs6),(77,Qs6),(78,Qs6),(92,Qs6),(93,Qs6)],[Iv,.box 2 133 [Qz0,Qz0,Qz0,Qz0,Qz0,Qz0,Qz0,Qz0,Qz0,Qz0,.dat (.int .i64),.dat (.int .i64),.dat (.int .i64)]]⟩⟩,
 ⟨64,Qp 120776287,⟨[(1,x6),(2,z9),(3,y9),(4,Qs9),(6,Qs6),(7,Qs9),(8,Qs6),(9,Qs6),(77,Qs6),(78,Qs6),(92,Qs6),(93,Qs6)],[Iv,.box 2 133 [Qz0,Qz0,Qz0,Qz0,Qz0,Qz0,Qz0,Qz0,Qz0,Qz0,.dat (.int .i64),.dat (.int .i64),.dat (.int .i64)]]⟩⟩,
 ⟨64,Qp 255583,⟨[(1,x6),(2,z9),(3,y9),(4,Qs9),(6,Qs6),(7,Qs9),(8,Qs6),(77,Qs6),(78,Qs6)],[Iv,.box 2 133 [Qz0,Qz0,Qz0,Qz0,Qz0,Qz0,Qz0,Qz0,Qz0,Qz0,.dat (.int .i64),.dat (.int .i64),.dat (.int .i64)]]⟩⟩,
 ⟨64,Qp 15918687,⟨[(1,x6),(2,z9),(3,y9),(4,Qs9),(6,Qs6),(7,Qs9),(8,Qs6),(77,Qs6),(78,Qs6),(92,Qs6),(93,Qs6)],[.st 1 133 19 [(1,120),(3,162),(4,160),(5,77),(6,3),(7,185),(8,200)] 100100,.box 2 133 [Qz0,Qz0,Qz0,Qz0,Qz0,Qz0,Qz0,Qz0,Qz0,Qz0,.dat (.int .i64),.dat (.int .i64),.dat (.int .i64)]]⟩⟩,
 ⟨64,Qp 7775,⟨[(1,x6),(2,z9),(3,y9),(4,Qs9),(77,Qs6),(78,Qs6)],[Iv,.box 2 133 [Qz0,Qz0,Qz0,Qz0,Qz0,Qz0,Qz0,Qz0,Qz0,Qz0,.dat (.int .i64),.dat (.int .i64),.dat (.int .i64)]]⟩⟩,
 ⟨65,[],⟨[(0,w9)],[]⟩⟩,
 ⟨65,Qp 43,⟨[(0,w9),(3,VG),(7,Qs6),(8,Qs6)],[]⟩⟩,
 ⟨65,Qp 15,⟨[],[]⟩⟩]
def a6f:List Lb:=[⟨66,[],⟨[(0,Qs2),(1,Qs6),(2,.st 5 [] 0)],[]⟩⟩,
 ⟨67,[],⟨[(0,Qs2),(1,Qs6),(2,Qs6)],[]⟩⟩,
 ⟨68,[],⟨[(0,Qs2),(1,Qs6)],[]⟩⟩,
 ⟨69,[],⟨[(0,Qs2)],[]⟩⟩,
 ⟨69,Qp 87,⟨[(1,x6),(2,z9),(3,y9),(4,Qs9),(20,Qs6),(21,Qs6)],[Ek,.box 2 133 [Qz0,Qz0,Qz0,Qz0,Qz0,Qz0,Qz0,Qz0,Qz0,Qz0,.dat (.int .i64),.dat (.int .i64),.dat (.int .i64)]]⟩⟩,
 ⟨69,Qp 1440151,⟨[(1,x6),(2,z9),(3,y9),(4,Qs9),(5,Qs6),(6,Qs6),(7,Qs9),(8,Qs6),(9,Qs6),(20,Qs6),(21,Qs6)],[Ek,.box 2 133 [Qz0,Qz0,Qz0,Qz0,Qz0,Qz0,Qz0,Qz0,Qz0,Qz0,.dat (.int .i64),.dat (.int .i64),.dat (.int .i64)]]⟩⟩,
 ⟨69,Qp 178583,⟨[(1,x6),(2,z9),(3,y9),(4,Qs9),(5,Qs6),(6,Qs6),(20,Qs6),(21,Qs6)],[Ek,.box 2 133 [Qz0,Qz0,Qz0,Qz0,Qz0,Qz0,Qz0,Qz0,Qz0,Qz0,.dat (.int .i64),.dat (.int .i64),.dat (.int .i64)]]⟩⟩,
 ⟨69,Qp 31,⟨[(1,x6),(2,z9)],[Ek,.box 2 133 [Qz0,Qz0,Qz0,Qz0,Qz0,Qz0,Qz0,Qz0,Qz0,Qz0,.dat (.int .i64),.dat (.int .i64),.dat (.int .i64)]]⟩⟩,
 ⟨69,Qp 119929239,⟨[(1,x6),(2,z9),(3,y9),(4,Qs9),(5,Qs6),(6,Qs6),(7,Qs9),(8,Qs6),(9,Qs6),(20,Qs6),(21,Qs6)],[Ek,.box 2 133 [Qz0,Qz0,Qz0,Qz0,Qz0,Qz0,Qz0,Qz0,Qz0,Qz0,.dat (.int .i64),.dat (.int .i64),.dat (.int .i64)]]⟩⟩,
 ⟨69,Qp 52820375,⟨[(1,x6),(2,z9),(3,y9),(4,Qs9),(5,Qs6),(6,Qs6),(7,Qs9),(8,Qs6),(9,Qs6),(20,Qs6),(21,Qs6)],[Ek,.box 2 133 [Qz0,Qz0,Qz0,Qz0,Qz0,Qz0,Qz0,Qz0,Qz0,Qz0,.dat (.int .i64),.dat (.int .i64),.dat (.int .i64)]]⟩⟩,
 ⟨69,Qp 522647,⟨[(1,x6),(2,z9),(3,y9),(4,Qs9),(5,Qs6),(6,Qs6),(7,Qs9),(8,Qs6),(20,Qs6),(21,Qs6)],[Ek,.box 2 133 [Qz0,Qz0,Qz0,Qz0,Qz0,Qz0,Qz0,Qz0,Qz0,Qz0,.dat (.int .i64),.dat (.int .i64),.dat (.int .i64)]]⟩⟩,
 ⟨69,Qp 63895,⟨[(1,x6),(2,z9),(3,y9),(4,Qs9),(5,Qs6),(6,Qs6),(20,Qs6),(21,Qs6)],[Ek,.box 2 133 [Qz0,Qz0,Qz0,Qz0,Qz0,Qz0,Qz0,Qz0,Qz0,Qz0,.dat (.int .i64),.dat (.int .i64),.dat (.int .i64)]]⟩⟩,
 ⟨69,Qp 15071639,⟨[(1,x6),(2,z9),(3,y9),(4,Qs9),(5,Qs6),(6,Qs6),(7,Qs9),(8,Qs6),(9,Qs6),(20,Qs6),(21,Qs6)],[SQ,.box 2 133 [Qz0,Qz0,Qz0,Qz0,Qz0,Qz0,Qz0,Qz0,Qz0,Qz0,.dat (.int .i64),.dat (.int .i64),.dat (.int .i64)]]⟩⟩,
 ⟨69,Qp 1943,⟨[(1,x6),(2,z9),(3,y9),(4,Qs9),(20,Qs6),(21,Qs6)],[SQ,.box 2 133 [Qz0,Qz0,Qz0,Qz0,Qz0,Qz0,Qz0,Qz0,Qz0,Qz0,.dat (.int .i64),.dat (.int .i64),.dat (.int .i64)]]⟩⟩,
 ⟨69,Qp 31127,⟨[(1,x6),(2,z9),(3,y9),(4,Qs9),(5,Qs6),(6,Qs6),(20,Qs6),(21,Qs6)],[Ek,.box 2 133 [Qz0,Qz0,Qz0,Qz0,Qz0,Qz0,Qz0,Qz0,Qz0,Qz0,.dat (.int .i64),.dat (.int .i64),.dat (.int .i64)]]⟩⟩,
 ⟨70,[],⟨[(0,Qs1),(1,Qs6),(2,P0),(3,w9),(4,Qs6),(5,Qs6),(6,Qs6)],[]⟩⟩]
def a8c:List Lb:=[⟨71,[],⟨[(0,Qs1),(1,Qs6),(2,Qs6)],[]⟩⟩,
 ⟨72,[],⟨[(0,Qs1),(1,Qs6),(2,.st 5 [] 0)],[]⟩⟩,
 ⟨73,[],⟨[(0,Qs1),(1,Qs6)],[]⟩⟩,
 ⟨74,[],⟨[(0,Qs1),(1,Qs6),(2,P0),(3,Qs6)],[]⟩⟩,
 ⟨74,Qp 21,⟨[(1,Qs6),(2,P0),(3,Qs6),(4,A5),(8,Ct),(9,Qs6)],[Cy,.box 8 133 [Qz0,Qz0,Qz0,Qz0,Qz0,Qz0,Qz0,Qz0,Qz0,Qz0,.dat (.int .i64),.dat (.int .i64),.dat (.int .i64)]]⟩⟩,
 ⟨74,Qp 349989,⟨[(1,Qs6),(2,P0),(3,Qs6),(4,A5),(8,Ct),(9,Qs6),(10,HB),(11,Qs6),(44,Qs6),(45,Qs6)],[Cy,.box 8 133 [Qz0,Qz0,Qz0,Qz0,Qz0,Qz0,Qz0,Qz0,Qz0,Qz0,.dat (.int .i64),.dat (.int .i64),.dat (.int .i64)],.st 10 97 4 [] 101000]⟩⟩,
 ⟨74,Qp 489253,⟨[(1,Qs6),(2,P0),(3,Qs6),(4,A5),(8,Ct),(9,Qs6),(13,Qs6)],[Cy,.box 8 133 [Qz0,Qz0,Qz0,Qz0,Qz0,Qz0,Qz0,Qz0,Qz0,Qz0,.dat (.int .i64),.dat (.int .i64),.dat (.int .i64)]]⟩⟩,
 ⟨74,Qp 7,⟨[(4,A5),(8,Ct)],[Cy,.box 8 133 [Qz0,Qz0,Qz0,Qz0,Qz0,Qz0,Qz0,Qz0,Qz0,Qz0,.dat (.int .i64),.dat (.int .i64),.dat (.int .i64)]]⟩⟩,
 ⟨74,Qp 120613,⟨[(1,Qs6),(2,P0),(3,Qs6),(4,A5),(8,Ct),(9,Qs6),(11,Qs6)],[Cy,.box 8 133 [Qz0,Qz0,Qz0,Qz0,Qz0,Qz0,Qz0,Qz0,Qz0,Qz0,.dat (.int .i64),.dat (.int .i64),.dat (.int .i64)]]⟩⟩,
 ⟨74,Qp 229,⟨[(1,Qs6),(2,P0),(3,Qs6),(4,A5),(8,Ct),(9,Qs6)],[Cy,.box 8 133 [Qz0,Qz0,Qz0,Qz0,Qz0,Qz0,Qz0,Qz0,Qz0,Qz0,.dat (.int .i64),.dat (.int .i64),.dat (.int .i64)]]⟩⟩,
 ⟨75,[],⟨[(0,Qs1),(1,Qs6),(2,P0),(3,Qs6),(4,Qs6)],[]⟩⟩,
 ⟨75,Qp 5311,⟨[(1,Qs6),(2,P0),(5,C4),(11,Dh),(14,.one (.own 1014 3 (.int .i64))),(56,Qs6),(57,Qs6)],[Nl,.box 11 133 [Qz0,Qz0,Qz0,Qz0,Qz0,Qz0,Qz0,Qz0,Qz0,Qz0,.dat (.int .i64),.dat (.int .i64),.dat (.int .i64)]]⟩⟩,
 ⟨75,Qp 5631,⟨[(1,Qs6),(2,P0),(3,Qs6),(4,Qs6),(5,C4),(11,Dh),(12,wI),(13,Qs6),(16,Qs6),(113,Qs6),(114,Qs6)],[Nl,.box 11 133 [Qz0,Qz0,Qz0,Qz0,Qz0,Qz0,Qz0,Qz0,Qz0,Qz0,.dat (.int .i64),.dat (.int .i64),.dat (.int .i64)],tM]⟩⟩,
 ⟨75,Qp 1023,⟨[(1,Qs6),(2,P0),(3,Qs6),(4,Qs6),(5,C4),(11,Dh),(12,wI),(13,Qs6),(16,Qs6)],[Nl,.box 11 133 [Qz0,Qz0,Qz0,Qz0,Qz0,Qz0,Qz0,Qz0,Qz0,Qz0,.dat (.int .i64),.dat (.int .i64),.dat (.int .i64)],tM]⟩⟩,
 ⟨75,Qp 1727,⟨[(2,P0),(5,C4),(11,Dh)],[Nl,.box 11 133 [Qz0,Qz0,Qz0,Qz0,Qz0,Qz0,Qz0,Qz0,Qz0,Qz0,.dat (.int .i64),.dat (.int .i64),.dat (.int .i64)]]⟩⟩,
 ⟨75,Qp 2047,⟨[(1,Qs6),(2,P0),(3,Qs6),(4,Qs6),(5,C4),(11,Dh),(12,wI),(13,Qs6),(16,Qs6)],[Nl,.box 11 133 [Qz0,Qz0,Qz0,Qz0,Qz0,Qz0,Qz0,Qz0,Qz0,Qz0,.dat (.int .i64),.dat (.int .i64),.dat (.int .i64)],tM]⟩⟩]
def a7z:List Lb:=[⟨75,Qp 4095,⟨[(1,Qs6),(2,P0),(3,Qs6),(4,Qs6),(5,C4),(11,Dh),(12,wI),(13,Qs6),(16,Qs6)],[Nl,.box 11 133 [Qz0,Qz0,Qz0,Qz0,Qz0,Qz0,Qz0,Qz0,Qz0,Qz0,.dat (.int .i64),.dat (.int .i64),.dat (.int .i64)],tM]⟩⟩,
 ⟨76,[],⟨[(0,Qs1),(1,Qs6),(2,P0),(3,Qs6)],[]⟩⟩,
 ⟨76,Qp 43,⟨[(1,Qs6),(2,P0),(3,Qs6),(4,A5),(8,Ct),(9,.one (.own 1009 3 (.int .i64))),(19,Qs6),(20,Qs6)],[Cy,.box 8 133 [Qz0,Qz0,Qz0,Qz0,Qz0,Qz0,Qz0,Qz0,Qz0,Qz0,.dat (.int .i64),.dat (.int .i64),.dat (.int .i64)]]⟩⟩,
 ⟨76,Qp 15,⟨[(2,P0),(3,Qs6),(4,A5),(8,Ct)],[Cy,.box 8 133 [Qz0,Qz0,Qz0,Qz0,Qz0,Qz0,Qz0,Qz0,Qz0,Qz0,.dat (.int .i64),.dat (.int .i64),.dat (.int .i64)]]⟩⟩,
 ⟨76,Qp 351,⟨[(2,P0),(3,Qs6),(4,A5),(8,Ct),(11,OH),(46,Qs6),(47,Qs6)],[Cy,.box 8 133 [Qz0,Qz0,Qz0,Qz0,Qz0,Qz0,Qz0,Qz0,Qz0,Qz0,.dat (.int .i64),.dat (.int .i64),.dat (.int .i64)]]⟩⟩,
 ⟨76,Qp 127,⟨[(4,A5),(8,Ct),(11,OH)],[Cy,.box 8 133 [Qz0,Qz0,Qz0,Qz0,Qz0,Qz0,Qz0,Qz0,Qz0,Qz0,.dat (.int .i64),.dat (.int .i64),.dat (.int .i64)]]⟩⟩,
 ⟨77,[],⟨[(0,Qs1),(1,Qs6)],[]⟩⟩,
 ⟨77,Qp 5631,⟨[(1,Qs6),(2,z9),(4,A5),(6,V6),(7,Qs6),(8,WU),(9,Qs6)],[TA,.box 4 133 [Qz0,Qz0,Qz0,Qz0,Qz0,Qz0,Qz0,Qz0,Qz0,Qz0,.dat (.int .i64),.dat (.int .i64),.dat (.int .i64)]]⟩⟩,
 ⟨77,Qp 2047,⟨[(1,Qs6),(2,z9),(4,A5),(6,V6),(7,Qs6),(8,WU)],[TA,.box 4 133 [Qz0,Qz0,Qz0,Qz0,Qz0,Qz0,Qz0,Qz0,Qz0,Qz0,.dat (.int .i64),.dat (.int .i64),.dat (.int .i64)]]⟩⟩,
 ⟨78,[],⟨[(0,y9)],[]⟩⟩,
 ⟨78,Qp 1407,⟨[(2,z9),(3,B5),(4,A5),(6,Qs6),(7,Qs6)],[.box 2 54 [Qz0,Qz0,Qz0,Qz0,Qz0,Qz0,Qz0,Qz0,Qz0],Eh,Rj]⟩⟩,
 ⟨78,Qp 127,⟨[(2,z9),(3,B5),(4,A5)],[.box 2 54 [Qz0,Qz0,Qz0,Qz0,Qz0,Qz0,Qz0,Qz0,Qz0],Eh,Rj]⟩⟩,
 ⟨78,Qp 12127,⟨[(2,z9),(3,B5),(4,A5),(5,Qs6)],[.box 2 54 [Qz0,Qz0,Qz0,Qz0,Qz0,Qz0,Qz0,Qz0,Qz0],Eh,Rj]⟩⟩,
 ⟨78,Qp 63,⟨[(2,z9),(3,B5),(4,A5)],[.box 2 54 [Qz0,Qz0,Qz0,Qz0,Qz0,Qz0,Qz0,Qz0,Qz0],Eh,Rj]⟩⟩,
 ⟨78,Qp 511,⟨[(2,z9),(3,B5),(4,A5)],[.box 2 54 [Qz0,Qz0,Qz0,Qz0,Qz0,Qz0,Qz0,Qz0,Qz0],Eh,Rj]⟩⟩,
 ⟨79,[],⟨[(0,Qt9),(1,Qs6),(2,Qs6)],[]⟩⟩]
def a31:List Lb:=[⟨80,[],⟨[(0,Qt9),(1,Qs5),(2,Qs6)],[]⟩⟩,
 ⟨81,[],⟨[(0,Lc),(1,Qs6),(2,Qs6)],[]⟩⟩,
 ⟨82,[],⟨[(0,Qt9),(1,Qs6),(2,Qs6)],[]⟩⟩,
 ⟨83,[],⟨[(0,Qs6)],[]⟩⟩,
 ⟨84,[],⟨[(0,Qt9),(1,Qs6)],[]⟩⟩,
 ⟨85,[],⟨[(0,Qt9),(1,Qs6),(2,Qs8)],[]⟩⟩,
 ⟨86,[],⟨[(0,Qt9),(1,Qs6)],[]⟩⟩,
 ⟨86,Qp 87,⟨[(1,Qs6),(2,z9),(5,C4),(6,V6),(7,Eu),(23,Qs6),(24,Qs6)],[Qt6,.box 5 107 [Qz0,Qz0,Qz0,Qz0,Qz0,Qz0,Qz0,Qz0,Qz0,Qz0,Qz0,Qz0,.dat (.int .i64),.dat (.int .i64),.dat (.int .i64),.dat (.int .i64)]]⟩⟩,
 ⟨86,Qp 31,⟨[(1,Qs6),(2,z9),(5,C4),(6,V6),(7,Eu)],[Qt6,.box 5 107 [Qz0,Qz0,Qz0,Qz0,Qz0,Qz0,Qz0,Qz0,Qz0,Qz0,Qz0,Qz0,.dat (.int .i64),.dat (.int .i64),.dat (.int .i64),.dat (.int .i64)]]⟩⟩,
 ⟨86,Qp 22207,⟨[(2,z9),(5,C4),(6,V6),(7,Eu),(12,w9),(13,Qs6),(70,Qs6),(71,Qs6)],[Qt6,.box 5 107 [Qz0,Qz0,Qz0,Qz0,Qz0,Qz0,Qz0,Qz0,Qz0,Qz0,Qz0,Qz0,.dat (.int .i64),.dat (.int .i64),.dat (.int .i64),.dat (.int .i64)]]⟩⟩,
 ⟨86,Qp 5631,⟨[(2,z9),(5,C4),(6,V6),(7,Eu),(15,KX),(107,Qs6),(108,Qs6)],[Qt6,.box 5 107 [Qz0,Qz0,Qz0,Qz0,Qz0,Qz0,Qz0,Qz0,Qz0,Qz0,Qz0,Qz0,.dat (.int .i64),.dat (.int .i64),.dat (.int .i64),.dat (.int .i64)],.st 15 77 9 [] 101500]⟩⟩,
 ⟨86,Qp 7871,⟨[(2,z9),(5,C4),(13,Qs6)],[Qt6,.box 5 107 [Qz0,Qz0,Qz0,Qz0,Qz0,Qz0,Qz0,Qz0,Qz0,Qz0,Qz0,Qz0,.dat (.int .i64),.dat (.int .i64),.dat (.int .i64),.dat (.int .i64)]]⟩⟩,
 ⟨86,Qp 2047,⟨[(2,z9),(5,C4),(15,KX)],[Qt6,.box 5 107 [Qz0,Qz0,Qz0,Qz0,Qz0,Qz0,Qz0,Qz0,Qz0,Qz0,Qz0,Qz0,.dat (.int .i64),.dat (.int .i64),.dat (.int .i64),.dat (.int .i64)],.st 15 77 9 [] 101500]⟩⟩,
 ⟨87,[],⟨[(0,Qt9),(1,Qs6),(2,Qs6)],[]⟩⟩,
 ⟨87,Qp 43,⟨[(2,Qs6),(3,B5),(7,Bi)],[xK,.box 7 107 [Qz0,Qz0,Qz0,Qz0,Qz0,Qz0,Qz0,Qz0,Qz0,Qz0,Qz0,Qz0,.dat (.int .i64),.dat (.int .i64),.dat (.int .i64),.dat (.int .i64)]]⟩⟩,
 ⟨87,Qp 175,⟨[(1,Qs6),(3,B5),(7,Bi),(9,Ob),(10,Qs6)],[xK,.box 7 107 [Qz0,Qz0,Qz0,Qz0,Qz0,Qz0,Qz0,Qz0,Qz0,Qz0,Qz0,Qz0,.dat (.int .i64),.dat (.int .i64),.dat (.int .i64),.dat (.int .i64)],.st 9 162 7 [] 100900]⟩⟩]
def a9k:List Lb:=[⟨87,Qp 63,⟨[(1,Qs6),(3,B5),(7,Bi)],[xK,.box 7 107 [Qz0,Qz0,Qz0,Qz0,Qz0,Qz0,Qz0,Qz0,Qz0,Qz0,Qz0,Qz0,.dat (.int .i64),.dat (.int .i64),.dat (.int .i64),.dat (.int .i64)]]⟩⟩,
 ⟨88,[],⟨[(0,Qt9),(1,Qs6),(2,Qs6),(3,Qs6)],[]⟩⟩,
 ⟨88,Qp 423,⟨[(2,Qs6),(3,Qs6)],[]⟩⟩,
 ⟨88,Qp 167,⟨[(2,Qs6),(3,Qs6),(4,A5),(9,Qs8),(10,Qs8)],[.st 4 107 18 [] 100400]⟩⟩,
 ⟨88,Qp 3047,⟨[(2,Qs6)],[]⟩⟩,
 ⟨88,Qp 262119,⟨[(1,Qs6),(2,Qs6)],[]⟩⟩,
 ⟨88,Qp 31,⟨[],[]⟩⟩,
 ⟨89,[],⟨[(0,Qt9),(1,Qs6),(2,Qs6)],[]⟩⟩,
 ⟨90,[],⟨[(0,Qt9),(1,Qs6)],[]⟩⟩,
 ⟨90,Qp 127,⟨[(1,Qs6),(2,z9),(5,C4),(8,Qs6)],[Qt6,.box 5 107 [Qz0,Qz0,Qz0,Qz0,Qz0,Qz0,Qz0,Qz0,Qz0,Qz0,Qz0,Qz0,.dat (.int .i64),.dat (.int .i64),.dat (.int .i64),.dat (.int .i64)]]⟩⟩,
 ⟨90,Qp 1044383,⟨[(1,Qs6),(2,z9),(5,C4),(7,Eu),(8,Qs6),(11,Qs6)],[Qt6,.box 5 107 [Qz0,Qz0,Qz0,Qz0,Qz0,Qz0,Qz0,Qz0,Qz0,Qz0,Qz0,Qz0,.dat (.int .i64),.dat (.int .i64),.dat (.int .i64),.dat (.int .i64)]]⟩⟩,
 ⟨90,Qp 520095,⟨[(1,Qs6),(2,z9),(5,C4),(7,Eu),(8,Qs6),(9,Qs6),(11,Qs6)],[Qt6,.box 5 107 [Qz0,Qz0,Qz0,Qz0,Qz0,Qz0,Qz0,Qz0,Qz0,Qz0,Qz0,Qz0,.dat (.int .i64),.dat (.int .i64),.dat (.int .i64),.dat (.int .i64)]]⟩⟩,
 ⟨90,Qp 927,⟨[(1,Qs6),(2,z9),(5,C4),(6,Q8),(7,Eu),(8,Qs6)],[Qt6,.box 5 107 [Qz0,Qz0,Qz0,Qz0,Qz0,Qz0,Qz0,Qz0,Qz0,Qz0,Qz0,Qz0,.dat (.int .i64),.dat (.int .i64),.dat (.int .i64),.dat (.int .i64)],.st 6 97 4 [] 100600]⟩⟩,
 ⟨91,[],⟨[(0,Qt9),(1,Qs6)],[]⟩⟩,
 ⟨91,Qp 15831,⟨[(5,C4),(6,V6),(9,Qs6),(10,HB),(11,Qs6)],[.box 5 107 [Qz0,Qz0,Qz0,Qz0,Qz0,Qz0,Qz0,Qz0,Qz0,Qz0,Qz0,Qz0,.dat (.int .i64),.dat (.int .i64),.dat (.int .i64),.dat (.int .i64)],.st 10 107 18 [] 101000]⟩⟩,
 ⟨91,Qp 358359,⟨[(2,z9),(5,C4),(6,V6),(14,Qs5),(15,Qs6)],[Qt6,.box 5 107 [Qz0,Qz0,Qz0,Qz0,Qz0,Qz0,Qz0,Qz0,Qz0,Qz0,Qz0,Qz0,.dat (.int .i64),.dat (.int .i64),.dat (.int .i64),.dat (.int .i64)]]⟩⟩]
def a4q:List Lb:=[⟨91,Qp 6103,⟨[(2,z9),(5,C4),(6,V6)],[Qt6,.box 5 107 [Qz0,Qz0,Qz0,Qz0,Qz0,Qz0,Qz0,Qz0,Qz0,Qz0,Qz0,Qz0,.dat (.int .i64),.dat (.int .i64),.dat (.int .i64),.dat (.int .i64)]]⟩⟩,
 ⟨91,Qp 128983,⟨[(2,z9),(5,C4),(14,Qs5)],[Qt6,.box 5 107 [Qz0,Qz0,Qz0,Qz0,Qz0,Qz0,Qz0,Qz0,Qz0,Qz0,Qz0,Qz0,.dat (.int .i64),.dat (.int .i64),.dat (.int .i64),.dat (.int .i64)]]⟩⟩,
 ⟨92,[],⟨[(0,Qt9),(1,Qs6)],[]⟩⟩,
 ⟨92,Qp 87,⟨[(2,z9),(5,C4),(6,V6),(7,Qs5),(14,Qs6),(15,Qs6)],[Qt6,.box 5 107 [Qz0,Qz0,Qz0,Qz0,Qz0,Qz0,Qz0,Qz0,Qz0,Qz0,Qz0,Qz0,.dat (.int .i64),.dat (.int .i64),.dat (.int .i64),.dat (.int .i64)]]⟩⟩,
 ⟨92,Qp 31,⟨[(2,z9),(5,C4),(7,Qs5)],[Qt6,.box 5 107 [Qz0,Qz0,Qz0,Qz0,Qz0,Qz0,Qz0,Qz0,Qz0,Qz0,Qz0,Qz0,.dat (.int .i64),.dat (.int .i64),.dat (.int .i64),.dat (.int .i64)]]⟩⟩,
 ⟨93,[],⟨[(0,y9)],[]⟩⟩,
 ⟨93,Qp 175,⟨[(0,y9),(2,z9),(3,B5),(4,A5),(6,Q8),(30,Qs6),(31,Qs6)],[.box 2 54 [Qz0,Qz0,Qz0,Qz0,Qz0,Qz0,Qz0,Qz0,Qz0],Eh,.st 4 54 12 [] 100400,.st 6 107 18 [] 100600]⟩⟩,
 ⟨93,Qp 63,⟨[(2,z9),(3,B5),(4,A5),(6,Q8)],[.box 2 54 [Qz0,Qz0,Qz0,Qz0,Qz0,Qz0,Qz0,Qz0,Qz0],Eh,.st 4 54 12 [] 100400,.st 6 107 18 [] 100600]⟩⟩,
 ⟨94,[],⟨[(0,w9)],[]⟩⟩,
 ⟨95,[],⟨[(0,Qt7)],[]⟩⟩,
 ⟨95,Qp 87,⟨[(1,x6),(3,Qs6),(28,Zu),(29,Qs6),(30,Qs6)],[Qt5]⟩⟩,
 ⟨95,Qp 31,⟨[(1,x6),(3,Qs6)],[Qt5]⟩⟩,
 ⟨95,Qp 351,⟨[(1,x6),(91,YE),(92,Qs6),(93,Qs6)],[Qt5]⟩⟩,
 ⟨95,Qp 127,⟨[(1,x6)],[Qt5]⟩⟩,
 ⟨95,Qp 1407,⟨[(8,Qs6),(117,uH),(118,Qs6),(119,Qs6)],[]⟩⟩,
 ⟨95,Qp 511,⟨[],[]⟩⟩]
def b32:List Lb:=[⟨96,[],⟨[(0,Qt7),(1,.st 1 [] 0),(2,.st 0 [] 0)],[]⟩⟩,
 ⟨96,Qp 15,⟨[(7,Qs6),(8,Qs5)],[]⟩⟩,
 ⟨96,Qp 747,⟨[(4,A5),(5,C4),(7,Qs6)],[sC,aT]⟩⟩,
 ⟨96,Qp 50331627,⟨[(4,A5),(5,C4)],[sC,aT]⟩⟩,
 ⟨97,[],⟨[(0,Qs9)],[]⟩⟩,
 ⟨98,[],⟨[(0,Qs9),(1,Qs6),(2,Qs6)],[]⟩⟩,
 ⟨99,[],⟨[(0,Lg),(1,Qs6)],[Qt3]⟩⟩,
 ⟨99,[0],⟨[(0,Lg),(1,Qs6)],[Qt3]⟩⟩,
 ⟨100,[],⟨[(0,a0X),(1,iI)],[Qt3]⟩⟩,
 ⟨101,[],⟨[(0,Lg),(1,iI)],[Qt3]⟩⟩,
 ⟨102,[],⟨[(0,L0),(1,Qs6),(2,Qs6)],[Qt3]⟩⟩,
 ⟨103,[],⟨[(0,Lg),(1,Qs6),(2,Qs6)],[Qt3]⟩⟩,
 ⟨103,Qp 19,⟨[(0,Lg),(1,Qs6),(2,Qs6),(7,Qs6)],[Qt3]⟩⟩,
 ⟨103,Qp 15,⟨[(1,Qs6),(7,Qs6)],[Qt3]⟩⟩,
 ⟨103,Qp 1987,⟨[(0,Lg),(1,Qs6),(2,Qs6),(7,Qs6),(9,Qs6)],[Qt3]⟩⟩,
 ⟨104,[],⟨[(0,a0X)],[Qt3]⟩⟩]
def a2w:List Lb:=[⟨105,[],⟨[(0,Lg)],[Qt3]⟩⟩,
 ⟨106,[],⟨[(0,Qt7),(1,.st 0 [] 0)],[]⟩⟩,
 ⟨107,[],⟨[(0,.one (.fpd 15)),(1,.st 0 [] 0),(2,Qs6)],[]⟩⟩,
 ⟨108,[],⟨[(0,L0),(1,Qt7),(2,Qs6)],[Qt3]⟩⟩,
 ⟨108,Qp 2751,⟨[(0,L0),(2,Qs6),(7,Bi),(8,Qs6),(9,Qs6),(10,Qs6)],[Lf,Qt3]⟩⟩,
 ⟨108,Qp 11967,⟨[(0,L0),(2,Qs6),(7,Bi),(8,Qs6),(9,Qs6),(10,Qs6)],[Lf,Qt3]⟩⟩,
 ⟨108,Qp 255,⟨[(0,L0),(2,Qs6),(7,Bi),(8,Qs6),(9,Qs6),(10,Qs6),(11,Qs6)],[Lf,Qt3]⟩⟩,
 ⟨109,[],⟨[(0,Qt7),(1,.st 1 [] 0)],[]⟩⟩,
 ⟨109,Qp 43,⟨[(2,z9),(7,pI),(23,Qs6),(24,Qs6)],[Ny,.box 18 87 [.dat (.int .i64),.dat (.int .i64),.dat (.int .i64),.dat (.int .i64),.dat (.int .i64),.own 101805 3 (.int .i64),Qz0]]⟩⟩,
 ⟨109,Qp 15,⟨[(2,z9),(7,pI)],[Ny,.box 18 87 [.dat (.int .i64),.dat (.int .i64),.dat (.int .i64),.dat (.int .i64),.dat (.int .i64),.own 101805 3 (.int .i64),Qz0]]⟩⟩,
 ⟨109,Qp 79,⟨[(2,z9),(7,pI)],[Ny,YM]⟩⟩,
 ⟨109,Qp 63,⟨[(7,pI)],[YM]⟩⟩,
 ⟨110,[],⟨[(0,Qt7)],[]⟩⟩,
 ⟨110,Qp 43,⟨[(1,x6),(19,Zu),(20,Qs6),(21,Qs6)],[Qt5]⟩⟩,
 ⟨110,Qp 11467,⟨[(1,x6),(5,Qs6),(6,Q8),(19,Zu),(20,Qs6),(21,Qs6),(35,YE),(36,Qs6),(37,Qs6)],[Qt5,.st 6 38 1 [] 100600]⟩⟩,
 ⟨110,Qp 15,⟨[(1,x6)],[Qt5]⟩⟩]
def a3L:List Lb:=[⟨110,Qp 971,⟨[(1,x6),(19,Zu),(20,Qs6),(21,Qs6)],[Qt5]⟩⟩,
 ⟨110,Qp 87,⟨[(1,x6),(54,Zu),(55,Qs6),(56,Qs6)],[Qt5]⟩⟩,
 ⟨110,Qp 31,⟨[],[]⟩⟩,
 ⟨111,[],⟨[(0,Qt7),(1,Qs6)],[]⟩⟩,
 ⟨112,[],⟨[(0,L0),(1,Qs6)],[Qt1]⟩⟩,
 ⟨112,Qp 87,⟨[(1,Qs6),(5,Fw),(6,y9),(7,Qs6)],[Qt1]⟩⟩,
 ⟨112,Qp 31,⟨[(5,Fw)],[Qt1]⟩⟩,
 ⟨113,[],⟨[(0,L0),(1,Qs8),(2,Qs6),(3,Qs6)],[Qt1]⟩⟩,
 ⟨114,[],⟨[(0,.one (.fpd 14))],[]⟩⟩,
 ⟨115,[],⟨[(0,L0),(1,Qs6)],[Qt1]⟩⟩,
 ⟨116,[],⟨[(0,L0),(1,w9)],[Qt1]⟩⟩,
 ⟨116,Qp 7,⟨[(0,L0),(1,w9),(5,Qs6),(6,Qs5)],[Qt1]⟩⟩,
 ⟨117,[],⟨[(0,L0),(1,.st 4 [] 0),(2,.st 5 [] 0)],[Qt1]⟩⟩,
 ⟨118,[],⟨[(0,L0),(1,Qs6)],[Qt1]⟩⟩,
 ⟨118,Qp 175,⟨[(0,L0),(1,Qs6),(4,A5),(5,C4),(72,Qs9),(73,Qs6),(74,Qs6)],[rR,AA,Qt1]⟩⟩,
 ⟨118,Qp 7911,⟨[(0,L0),(1,Qs6),(6,V6),(7,Qs8)],[Qt1]⟩⟩]
def b4a:List Lb:=[⟨118,Qp 743,⟨[(0,L0),(1,Qs6),(4,A5),(6,V6)],[rR,Qt1]⟩⟩,
 ⟨118,Qp 31,⟨[(0,L0),(1,Qs6),(4,A5),(5,C4),(6,Qs9)],[rR,AA,Qt1]⟩⟩,
 ⟨118,Qp 63,⟨[(0,L0),(1,Qs6),(4,A5),(5,C4)],[rR,AA,Qt1]⟩⟩,
 ⟨119,[],⟨[(0,L0),(1,Qs6),(2,Qs9)],[Qt1]⟩⟩,
 ⟨119,Qp 21,⟨[(0,L0),(1,Qs6),(2,Qs9),(15,.one (.own 1015 3 (.int .i64))),(16,Qs6),(17,Qs6)],[Qt1]⟩⟩,
 ⟨119,Qp 7,⟨[(0,L0),(1,Qs6),(2,Qs9)],[Qt1]⟩⟩,
 ⟨120,[],⟨[(0,L0),(1,Qs6)],[Qt1]⟩⟩,
 ⟨120,Qp 32247,⟨[(0,L0),(6,Qs6)],[Qt1]⟩⟩,
 ⟨121,[],⟨[(0,L0),(1,Qs6)],[Qt1]⟩⟩,
 ⟨121,Qp 5,⟨[(0,L0),(8,.one (.own 1008 3 (.int .i64))),(9,Qs6),(10,Qs6)],[Qt1]⟩⟩,
 ⟨122,[],⟨[(0,.st 12 [] 0)],[]⟩⟩,
 ⟨122,Qp 43,⟨[(2,z9),(3,Dh),(13,GJ),(14,Qs6),(15,Qs6)],[.box 2 26 [Qz0,Qz0,Qz0],uK]⟩⟩,
 ⟨122,Qp 261323,⟨[(2,z9),(3,Dh),(7,Bi),(13,GJ),(14,Qs6),(15,Qs6)],[.box 2 26 [Qz0,Qz0,Qz0],.st 7 38 1 [] 100700,uK]⟩⟩,
 ⟨122,Qp 15,⟨[(2,z9),(3,Dh)],[.box 2 26 [Qz0,Qz0,Qz0],uK]⟩⟩,
 ⟨122,Qp 971,⟨[(2,z9),(3,Dh),(13,GJ),(14,Qs6),(15,Qs6)],[.box 2 26 [Qz0,Qz0,Qz0],uK]⟩⟩,
 ⟨123,[],⟨[],[]⟩⟩]
def a56:List Lb:=[⟨124,[],⟨[(0,w9)],[]⟩⟩,
 ⟨125,[],⟨[(0,w9)],[]⟩⟩,
 ⟨125,Qp 703,⟨[(5,C4),(9,Qs6)],[xW]⟩⟩,
 ⟨125,Qp 189631,⟨[(5,C4),(9,Qs6),(10,.one (.own 1010 3 (.int .i64))),(12,Qs6)],[xW]⟩⟩,
 ⟨125,Qp 255,⟨[],[]⟩⟩,
 ⟨125,Qp 7359,⟨[(5,C4),(9,Qs6)],[xW]⟩⟩,
 ⟨126,[],⟨[(0,.st 3 [] 0)],[]⟩⟩,
 ⟨126,Qp 21,⟨[(1,x6),(6,Qs6),(7,Qs6)],[.st 1 41 3 [] 100100]⟩⟩,
 ⟨126,Qp 7,⟨[],[]⟩⟩,
 ⟨127,[],⟨[(0,Qs0),(1,Qs6),(2,Qs6)],[]⟩⟩,
 ⟨127,Qp 31,⟨[(1,Qs6),(2,Qs6),(3,B5),(6,Q8)],[Ox,.box 6 41 [.dat (.int .i64),.dat (.int .i64),.dat (.int .i64),.dat (.int .i64),.dat (.int .i64),Qz0,Qz0,.dat (.int .i64)]]⟩⟩,
 ⟨128,[],⟨[(0,Qt7),(1,.st 0 [] 0)],[]⟩⟩,
 ⟨128,Qp 127,⟨[(3,B5),(6,V6),(7,Eu)],[.st 3 59 0 [] 100300]⟩⟩,
 ⟨128,Qp 63,⟨[(3,B5),(6,V6),(7,Eu)],[.st 3 59 0 [] 100300]⟩⟩,
 ⟨129,[],⟨[(0,Qs0),(1,Qt7),(2,Qs6)],[]⟩⟩,
 ⟨129,Qp 351,⟨[(3,B5),(6,Q8)],[Ox,.box 6 41 [.dat (.int .i64),.dat (.int .i64),.dat (.int .i64),.dat (.int .i64),.dat (.int .i64),Qz0,Qz0,.dat (.int .i64)]]⟩⟩]
def b0f:List Lb:=[⟨129,Qp 2751,⟨[(2,Qs6),(3,B5),(6,Q8),(7,Bi),(8,Qs6),(9,Qs6),(10,Qs6)],[Ox,.box 6 41 [.dat (.int .i64),.dat (.int .i64),.dat (.int .i64),.dat (.int .i64),.dat (.int .i64),Qz0,Qz0,.dat (.int .i64)],Lf]⟩⟩,
 ⟨129,Qp 11967,⟨[(2,Qs6),(3,B5),(6,Q8),(7,Bi),(8,Qs6),(9,Qs6),(10,Qs6)],[Ox,.box 6 41 [.dat (.int .i64),.dat (.int .i64),.dat (.int .i64),.dat (.int .i64),.dat (.int .i64),Qz0,Qz0,.dat (.int .i64)],Lf]⟩⟩,
 ⟨129,Qp 127,⟨[(2,Qs6),(3,B5),(6,Q8),(7,Bi),(8,Qs6),(9,Qs6),(10,Qs6)],[Ox,.box 6 41 [.dat (.int .i64),.dat (.int .i64),.dat (.int .i64),.dat (.int .i64),.dat (.int .i64),Qz0,Qz0,.dat (.int .i64)],Lf]⟩⟩,
 ⟨129,Qp 255,⟨[(2,Qs6),(3,B5),(6,Q8),(7,Bi),(8,Qs6),(9,Qs6),(10,Qs6)],[Ox,.box 6 41 [.dat (.int .i64),.dat (.int .i64),.dat (.int .i64),.dat (.int .i64),.dat (.int .i64),Qz0,Qz0,.dat (.int .i64)],Lf]⟩⟩,
 ⟨130,[],⟨[(0,Qt7),(1,.st 1 [] 0)],[]⟩⟩,
 ⟨130,Qp 43,⟨[(2,z9),(4,A5),(6,Q8),(19,Qs6),(20,Qs6)],[Ny,.box 4 41 [.dat (.int .i64),.dat (.int .i64),.dat (.int .i64),.dat (.int .i64),.dat (.int .i64),Qz0,Qz0,.dat (.int .i64)],pJ]⟩⟩,
 ⟨130,Qp 15,⟨[(2,z9),(4,A5),(6,Q8)],[Ny,.box 4 41 [.dat (.int .i64),.dat (.int .i64),.dat (.int .i64),.dat (.int .i64),.dat (.int .i64),Qz0,Qz0,.dat (.int .i64)],pJ]⟩⟩,
 ⟨130,Qp 159,⟨[(2,z9),(4,A5),(6,Q8),(8,Qs6)],[Ny,.box 4 41 [.dat (.int .i64),.dat (.int .i64),.dat (.int .i64),.dat (.int .i64),.dat (.int .i64),Qz0,Qz0,.dat (.int .i64)],pJ]⟩⟩,
 ⟨130,Qp 127,⟨[(4,A5),(6,Q8),(8,Qs6)],[.box 4 41 [.dat (.int .i64),.dat (.int .i64),.dat (.int .i64),.dat (.int .i64),.dat (.int .i64),Qz0,Qz0,.dat (.int .i64)],pJ]⟩⟩,
 ⟨131,[],⟨[(0,Qt7)],[]⟩⟩,
 ⟨131,Qp 87,⟨[(1,x6),(3,Qs6),(28,Qs6),(29,Qs6)],[Qt5]⟩⟩,
 ⟨131,Qp 31,⟨[(1,x6),(3,Qs6)],[Qt5]⟩⟩,
 ⟨131,Qp 351,⟨[(1,x6),(3,Qs6),(6,Qs6),(88,Qs6),(89,Qs6)],[Qt5]⟩⟩,
 ⟨131,Qp 127,⟨[(1,x6),(3,Qs6),(6,Qs6)],[Qt5]⟩⟩,
 ⟨131,Qp 703,⟨[(1,x6),(3,Qs6),(6,Qs6),(110,Qs6),(111,Qs6)],[Qt5]⟩⟩,
 ⟨131,Qp 255,⟨[(1,x6),(3,Qs6),(6,Qs6)],[Qt5]⟩⟩]
def a8w:List Lb:=[⟨132,[],⟨[(0,Qs6),(1,Qs6),(2,Qs6)],[]⟩⟩,
 ⟨133,[],⟨[(0,Qt7),(1,.st 1 [] 0),(2,.st 0 [] 0)],[]⟩⟩,
 ⟨133,Qp 85,⟨[(5,C4)],[aT]⟩⟩,
 ⟨133,Qp 373,⟨[(4,A5),(5,C4)],[sC,aT]⟩⟩,
 ⟨133,Qp 25165813,⟨[(4,A5),(5,C4)],[sC,aT]⟩⟩,
 ⟨133,Qp 7,⟨[],[]⟩⟩,
 ⟨134,[],⟨[(0,Qt7)],[]⟩⟩,
 ⟨134,Qp 43,⟨[(1,x6),(17,Qs6),(18,Qs6)],[Qt5]⟩⟩,
 ⟨134,Qp 23755,⟨[(1,x6),(5,Qs6),(6,Q8),(7,Qs6),(17,Qs6),(18,Qs6)],[Qt5,.st 6 38 1 [] 100600]⟩⟩,
 ⟨134,Qp 15,⟨[(1,x6)],[Qt5]⟩⟩,
 ⟨134,Qp 971,⟨[(1,x6),(17,Qs6),(18,Qs6)],[Qt5]⟩⟩,
 ⟨134,Qp 87,⟨[(1,x6),(51,Qs6),(52,Qs6)],[Qt5]⟩⟩,
 ⟨134,Qp 31,⟨[],[]⟩⟩]
def NM:List (List Lb):=[b3q,a4H,a51,a6C,a2N,a63,b3o,a5M,a2L,b3W,a83,b0j,a6f,a8c,a7z,a31,a9k,a4q,b32,a2w,a3L,b4a,a56,b0f,a8w]
def a2v:List VR:=[⟨50,⟨[Qs6],[]⟩,[(Qp 19,1),(Qp 1955,2),(Qp 931,3),(Qp 15,4)],[],[]⟩,
 ⟨51,⟨[Qs6,Qs6],[]⟩,[(Qp 87,6),(Qp 31,7)],[],[]⟩,
 ⟨70,⟨[Qs6],[]⟩,[(Qp 249,9),(Qp 57,10),(Qp 7,11)],[],[]⟩,
 ⟨71,⟨[Qs6],[]⟩,[(Qp 9,13),(Qp 7,14)],[],[]⟩,
 ⟨72,⟨[Qs5],[]⟩,[(Qp 43,16),(Qp 15,17)],[],[]⟩,
 ⟨115,⟨[.st 21 [] 800000],[]⟩,[],[],[]⟩,
 ⟨116,⟨[.st 21 [] 800000],[]⟩,[],[],[]⟩,
 ⟨117,⟨[Qs6],[]⟩,[],[],[]⟩,
 ⟨98,⟨[Qs6,Qs6],[]⟩,[(Qp 175,22),(Qp 31,23),(Qp 15,24),(Qp 63,25),(Qp 5631,26),(Qp 511,27),(Qp 255,28),(Qp 2047,29)],[],[]⟩,
 ⟨73,⟨[pX,Qs6,Qs6],[]⟩,[(Qp 19,31),(Qp 15,32),(Qp 639,33),(Qp 255,34),(Qp 959,35),(Qp 511,36)],[],[]⟩,
 ⟨99,⟨[Qs6],[]⟩,[(Qp 249,38),(Qp 57,39),(Qp 7,40)],[],[]⟩,
 ⟨74,⟨[w9,Qs6,Qs5],[]⟩,[(Qp 87,42),(Qp 1440919,43),(Qp 704511127,44),(Qp 31,45),(Qp 919,46),(Qp 234749079,47)],[],[]⟩,
 ⟨52,⟨[pX,Qs6,Qs6],[]⟩,[(Qp 85,49),(Qp 175,50),(Qp 63,51),(Qp 703,52),(Qp 255,53)],[],[]⟩,
 ⟨36,⟨[.one (.own 800000 125 (.nat 16)),Pw],[]⟩,[(Qp 767,55),(Qp 14591,56)],[],[]⟩,
 ⟨53,⟨[Qs5],[]⟩,[],[],[]⟩,
 ⟨54,⟨[pX],[]⟩,[],[],[]⟩]
def b38:List VR:=[⟨55,⟨[Qs5],[]⟩,[],[],[]⟩,
 ⟨59,⟨[Ck],[]⟩,[],[],[]⟩,
 ⟨58,⟨[rM],[]⟩,[],[],[]⟩,
 ⟨75,⟨[rM],[]⟩,[],[],[]⟩,
 ⟨76,⟨[pX,Qt8],[]⟩,[(Qp 43,64)],[],[]⟩,
 ⟨77,⟨[rM],[]⟩,[(Qp 7,66)],[],[]⟩,
 ⟨79,⟨[rM],[]⟩,[],[],[]⟩,
 ⟨80,⟨[Ck,Qt8],[]⟩,[(Qp 87,69),(Qp 31,70)],[(Qp 687,0,[1041000])],[(Qp 39319,4,2),(Qp 191,3,2)]⟩,
 ⟨78,⟨[Ck,Qt8],[]⟩,[],[(Qp 47,0,[1017000])],[]⟩,
 ⟨56,⟨[Ck,Qt8],[]⟩,[(Qp 319,73),(Qp 255,74)],[(Qp 383,0,[1006])],[]⟩,
 ⟨82,⟨[Ck],[]⟩,[],[],[]⟩,
 ⟨130,⟨[Ck,Qt8],[]⟩,[(Qp 79,77),(Qp 1679,78),(Qp 63,79)],[],[]⟩,
 ⟨129,⟨[y9,Qt8],[]⟩,[(Qp 536870719,81),(Qp 8388415,82),(Qp 255,83)],[(Qp 92274495,0,[1106000]),(Qp 3087007551,0,[1136000])],[(Qp 11,0,2),(Qp 3087007551,3,1),(Qp 5905579839,5,1)]⟩,
 ⟨128,⟨[y9,Qt8],[]⟩,[(Qp 19,85),(Qp 99,86),(Qp 15,87)],[],[(Qp 23203,3,1)]⟩,
 ⟨126,⟨[y9,Qt8],[]⟩,[(Qp 15,89)],[],[]⟩,
 ⟨127,⟨[.one (.own 800000 9 (.str)),.one (.own 800100 2 (.int .i64))],[]⟩,[],[],[]⟩]
def a2O:List VR:=[⟨118,⟨[y9,Qt8],[]⟩,[(Qp 159,92),(Qp 21791,93),(Qp 7455,94),(Qp 127,95)],[],[(Qp 47813919,7,1)]⟩,
 ⟨100,⟨[Ck,Qt8],[]⟩,[(Qp 8051,97),(Qp 63475,98),(Qp 351,99),(Qp 703,100),(Qp 255,101),(Qp 127,102)],[(Qp 1491,0,[1038000]),(Qp 2931,3,[1067000]),(Qp 55155,3,[1072000,1078000]),(Qp 12147,0,[1012]),(Qp 11763,0,[1099000])],[(Qp 1491,5,1),(Qp 11763,3,1),(Qp 1375,3,1)]⟩,
 ⟨81,⟨[Ck,Qt8],[]⟩,[(Qp 79,104),(Qp 63,105)],[(Qp 95,0,[1005])],[]⟩,
 ⟨57,⟨[Ck,Qt8],[]⟩,[(Qp 639,107),(Qp 13439,108),(Qp 511,109),(Qp 4095,110)],[(Qp 12287,0,[1006,1009,1060000])],[(Qp 12287,6,1),(Qp 12287,8,1)]⟩,
 ⟨37,⟨[Ck,Qt8],[]⟩,[(Qp 19,112),(Qp 931,113),(Qp 15,114)],[(Qp 23,0,[1004])],[]⟩,
 ⟨38,⟨[y9,Pw],[]⟩,[(Qp 7,116)],[],[]⟩,
 ⟨27,⟨[y9,Pw],[]⟩,[],[(Qp 23,3,[1010000]),(Qp 47,3,[1021000])],[]⟩,
 ⟨101,⟨[Qs6],[]⟩,[(Qp 79,119),(Qp 63,120)],[],[]⟩,
 ⟨83,⟨[Qs5],[]⟩,[],[],[]⟩,
 ⟨119,⟨[Qs5],[]⟩,[(Qp 7,123)],[],[]⟩,
 ⟨102,⟨[Qs5],[]⟩,[],[],[]⟩,
 ⟨103,⟨[Qs5],[]⟩,[],[],[]⟩,
 ⟨84,⟨[Qs5],[]⟩,[(Qp 85,127),(Qp 373,128)],[],[]⟩,
 ⟨40,⟨[Ze],[]⟩,[(Qp 43,130),(Qp 15,131)],[],[]⟩,
 ⟨104,⟨[Qs8],[]⟩,[(Qp 4089,133),(Qp 1017,134),(Qp 249,135),(Qp 7,136)],[],[]⟩,
 ⟨105,⟨[Qs5],[]⟩,[(Qp 21,138),(Qp 7,139)],[],[]⟩]
def b0E:List VR:=[⟨85,⟨[Qs5],[]⟩,[(Qp 87,141),(Qp 31,142),(Qp 255,143)],[],[]⟩,
 ⟨60,⟨[Qs5],[]⟩,[(Qp 43,145),(Qp 15,146)],[],[]⟩,
 ⟨62,⟨[Qs5],[]⟩,[],[],[]⟩,
 ⟨64,⟨[Qs6],[]⟩,[(Qp 21,149),(Qp 7,150)],[],[]⟩,
 ⟨86,⟨[Ze],[]⟩,[(Qp 87,152),(Qp 31,153)],[],[]⟩,
 ⟨87,⟨[Qs5],[]⟩,[(Qp 21,155),(Qp 7,156)],[],[]⟩,
 ⟨89,⟨[HE],[]⟩,[(Qp 43,158),(Qp 15,159)],[],[]⟩,
 ⟨88,⟨[.st 19 [(1,120),(3,162),(4,160),(5,77),(6,3),(7,185),(8,200),(9,9)] 800000],[]⟩,[],[],[]⟩,
 ⟨106,⟨[HE,Qs6],[]⟩,[(Qp 175,162),(Qp 63,163)],[],[]⟩,
 ⟨120,⟨[Qs5],[]⟩,[],[],[]⟩,
 ⟨121,⟨[Qs6],[]⟩,[(Qp 43,166),(Qp 15,167)],[],[]⟩,
 ⟨107,⟨[HE,Qs6],[]⟩,[(Qp 1407,169),(Qp 511,170)],[(Qp 18815,3,[1008])],[]⟩,
 ⟨88,⟨[.st 19 [(1,120),(3,162),(4,160),(5,77),(6,3),(7,185),(8,200)] 800000],[]⟩,[],[],[]⟩,
 ⟨65,⟨[ZE],[]⟩,[],[],[]⟩,
 ⟨90,⟨[Qs6,.st 19 [(3,162),(4,160),(5,77),(6,3),(7,185),(8,200)] 800100],[]⟩,[],[(Qp 3031,6,[1044000])],[]⟩,
 ⟨65,⟨[.st 19 [(3,162),(4,160),(5,77),(6,3),(7,185),(8,200),(9,9)] 800000],[]⟩,[],[],[]⟩]
def b0w:List VR:=[⟨61,⟨[ZE],[]⟩,[(Qp 87,176),(Qp 31127,177),(Qp 14743,178),(Qp 31,179),(Qp 1943,180),(Qp 351,181),(Qp 714335,182),(Qp 127,183),(Qp 254994015,184),(Qp 120776287,185),(Qp 255583,186),(Qp 15918687,187),(Qp 7775,188)],[],[]⟩,
 ⟨91,⟨[Qs6],[]⟩,[(Qp 43,190),(Qp 15,191)],[],[]⟩,
 ⟨88,⟨[.st 19 [(1,120),(5,77),(6,3),(7,185),(8,200)] 800000],[]⟩,[],[],[]⟩,
 ⟨65,⟨[IC],[]⟩,[],[],[]⟩,
 ⟨90,⟨[Qs6,SZ],[]⟩,[],[(Qp 3031,6,[1044000])],[]⟩,
 ⟨63,⟨[IC],[]⟩,[(Qp 87,196),(Qp 1440151,197),(Qp 178583,198),(Qp 31,199),(Qp 119929239,200),(Qp 52820375,201),(Qp 522647,202),(Qp 63895,203),(Qp 15071639,204),(Qp 1943,205),(Qp 31127,206)],[],[]⟩,
 ⟨92,⟨[.one (.own 800000 183 (.nat 20)),SZ],[]⟩,[],[],[]⟩,
 ⟨65,⟨[yK],[]⟩,[],[],[]⟩,
 ⟨88,⟨[.st 19 [(1,120),(6,3),(7,185),(8,200)] 800000],[]⟩,[],[],[]⟩,
 ⟨90,⟨[Qs6,KO],[]⟩,[],[(Qp 3031,6,[1044000])],[]⟩,
 ⟨122,⟨[yK],[]⟩,[(Qp 21,212),(Qp 349989,213),(Qp 489253,214),(Qp 7,215),(Qp 120613,216),(Qp 229,217)],[],[]⟩,
 ⟨108,⟨[P0,KO],[]⟩,[(Qp 5311,219),(Qp 5631,220),(Qp 1023,221),(Qp 1727,222),(Qp 2047,223),(Qp 4095,224)],[(Qp 383,0,[1046000]),(Qp 24575,12,[1165000])],[]⟩,
 ⟨93,⟨[yK],[]⟩,[(Qp 43,226),(Qp 15,227),(Qp 351,228),(Qp 127,229)],[],[]⟩,
 ⟨66,⟨[IC],[]⟩,[(Qp 5631,231),(Qp 2047,232)],[(Qp 75263,0,[1008,100205]),(Qp 3071,0,[1008,100205])],[]⟩,
 ⟨39,⟨[.st 12 [(5,77),(6,3),(7,185),(8,200)] 800000,Pw],[]⟩,[(Qp 1407,234),(Qp 127,235),(Qp 12127,236),(Qp 63,237),(Qp 511,238)],[(Qp 23,2,[16]),(Qp 175,2,[1020000,1020001]),(Qp 84351,3,[100405])],[]⟩,
 ⟨42,⟨[.st 18 [] 800000],[]⟩,[],[],[]⟩]
def b0m:List VR:=[⟨95,⟨[.st 18 [] 800000],[]⟩,[],[],[]⟩,
 ⟨114,⟨[Qs5],[]⟩,[],[],[]⟩,
 ⟨96,⟨[Qs5],[]⟩,[],[],[]⟩,
 ⟨123,⟨[w9,Qs6],[]⟩,[],[],[]⟩,
 ⟨110,⟨[Qs8],[]⟩,[],[],[]⟩,
 ⟨124,⟨[Qs5],[]⟩,[],[],[]⟩,
 ⟨109,⟨[Qs6,aG],[]⟩,[(Qp 87,247),(Qp 31,248),(Qp 22207,249),(Qp 5631,250),(Qp 7871,251),(Qp 2047,252)],[],[]⟩,
 ⟨111,⟨[Qs6,aG],[]⟩,[(Qp 43,254),(Qp 175,255),(Qp 63,256)],[],[]⟩,
 ⟨112,⟨[Qs6],[]⟩,[(Qp 423,258),(Qp 167,259),(Qp 3047,260),(Qp 262119,261),(Qp 31,262)],[],[]⟩,
 ⟨113,⟨[.st 18 [(1,120)] 800000],[]⟩,[],[],[]⟩,
 ⟨94,⟨[Qs6,aG],[]⟩,[(Qp 127,265),(Qp 1044383,266),(Qp 520095,267),(Qp 927,268)],[],[]⟩,
 ⟨67,⟨[Qs5,aG],[]⟩,[(Qp 15831,270),(Qp 358359,271),(Qp 6103,272),(Qp 128983,273)],[],[]⟩,
 ⟨41,⟨[Qs5,aG],[]⟩,[(Qp 87,275),(Qp 31,276)],[],[]⟩,
 ⟨28,⟨[.st 12 [] 800000,Pw],[]⟩,[(Qp 175,278),(Qp 63,279)],[],[]⟩,
 ⟨14,⟨[.st 12 [] 800000,Pw],[]⟩,[],[],[]⟩,
 ⟨15,⟨[Qs5],[]⟩,[(Qp 87,282),(Qp 31,283),(Qp 351,284),(Qp 127,285),(Qp 1407,286),(Qp 511,287)],[],[]⟩]
def b3D:List VR:=[⟨16,⟨[Qs6],[]⟩,[(Qp 15,289),(Qp 747,290),(Qp 50331627,291)],[],[]⟩,
 ⟨30,⟨[Qs6],[]⟩,[],[],[]⟩,
 ⟨148,⟨[Qs5],[]⟩,[],[],[]⟩,
 ⟨68,⟨[],[Qt3]⟩,[([0],295)],[],[]⟩,
 ⟨151,⟨[],[Qt3]⟩,[],[],[]⟩,
 ⟨43,⟨[],[Qt3]⟩,[],[],[]⟩,
 ⟨29,⟨[Qs6],[Qt3]⟩,[],[],[]⟩,
 ⟨44,⟨[Qs5],[Qt3]⟩,[(Qp 19,300),(Qp 15,301),(Qp 1987,302)],[],[]⟩,
 ⟨150,⟨[iI],[Qt3]⟩,[],[],[]⟩,
 ⟨31,⟨[iI],[Qt3]⟩,[],[],[]⟩,
 ⟨45,⟨[Qs6,Qs6],[]⟩,[],[],[]⟩,
 ⟨46,⟨[Qs5],[]⟩,[],[],[]⟩,
 ⟨32,⟨[Qs6],[Qt3]⟩,[(Qp 2751,308),(Qp 11967,309),(Qp 255,310)],[],[]⟩,
 ⟨17,⟨[Ze,Qs6,Qs6],[]⟩,[(Qp 43,312),(Qp 15,313),(Qp 79,314),(Qp 63,315)],[],[]⟩,
 ⟨8,⟨[Qs6,Qs6,Qs6],[]⟩,[(Qp 43,317),(Qp 11467,318),(Qp 15,319),(Qp 971,320),(Qp 87,321),(Qp 31,322)],[],[]⟩,
 ⟨10,⟨[Ze,Qs6],[]⟩,[],[],[]⟩]
def b1J:List VR:=[⟨23,⟨[Ze],[Qt1]⟩,[(Qp 87,325),(Qp 31,326)],[],[]⟩,
 ⟨25,⟨[Qs6],[Qt1]⟩,[],[],[]⟩,
 ⟨26,⟨[Qs6],[]⟩,[],[],[]⟩,
 ⟨49,⟨[],[Qt1]⟩,[],[],[]⟩,
 ⟨97,⟨[Qs6],[Qt1]⟩,[(Qp 7,331)],[],[]⟩,
 ⟨69,⟨[Qs8,Qs6],[Qt1]⟩,[],[],[]⟩,
 ⟨47,⟨[],[Qt1]⟩,[(Qp 175,334),(Qp 7911,335),(Qp 743,336),(Qp 31,337),(Qp 63,338)],[(Qp 167,2,[1031000])],[]⟩,
 ⟨48,⟨[],[Qt1]⟩,[(Qp 21,340),(Qp 7,341)],[],[]⟩,
 ⟨35,⟨[],[Qt1]⟩,[(Qp 32247,343)],[(Qp 375,4,[1011000])],[]⟩,
 ⟨24,⟨[],[Qt1]⟩,[(Qp 5,345)],[],[]⟩,
 ⟨13,⟨[.st 2 [(0,59),(1,38),(2,9)] 800000],[]⟩,[(Qp 43,347),(Qp 261323,348),(Qp 15,349),(Qp 971,350)],[],[]⟩,
 ⟨7,⟨[Qs5],[]⟩,[],[(Qp 11,3,[1011000,1011001,1011002])],[]⟩,
 ⟨12,⟨[.st 12 [] 800000,Qs5],[]⟩,[],[],[]⟩,
 ⟨5,⟨[Qs5],[]⟩,[(Qp 703,354),(Qp 189631,355),(Qp 255,356),(Qp 7359,357)],[],[]⟩,
 ⟨21,⟨[Qs6],[]⟩,[(Qp 21,359),(Qp 7,360)],[],[]⟩,
 ⟨20,⟨[yV],[]⟩,[(Qp 31,362)],[],[]⟩]
def a7Y:List VR:=[⟨34,⟨[Qs6,Qs6],[]⟩,[(Qp 127,364),(Qp 63,365)],[],[]⟩,
 ⟨22,⟨[yV],[]⟩,[(Qp 351,367),(Qp 2751,368),(Qp 11967,369),(Qp 127,370),(Qp 255,371)],[],[]⟩,
 ⟨11,⟨[yV,Qs6],[]⟩,[(Qp 43,373),(Qp 15,374),(Qp 159,375),(Qp 127,376)],[],[]⟩,
 ⟨18,⟨[Qs5],[]⟩,[(Qp 87,378),(Qp 31,379),(Qp 351,380),(Qp 127,381),(Qp 703,382),(Qp 255,383)],[],[]⟩,
 ⟨33,⟨[Qs5],[]⟩,[],[],[]⟩,
 ⟨19,⟨[Qs6],[]⟩,[(Qp 85,386),(Qp 373,387),(Qp 25165813,388),(Qp 7,389)],[],[]⟩,
 ⟨9,⟨[Qs6,Qs6,Qs6],[]⟩,[(Qp 43,391),(Qp 23755,392),(Qp 15,393),(Qp 971,394),(Qp 87,395),(Qp 31,396)],[],[]⟩]
def YH:List (List VR):=[a2v,b38,a2O,b0E,b0w,b0m,b3D,b1J,a7Y]
def Q0:LT:=fF NM YH [18,19,20]
def SO:List (FuncId × List Nat):=[(10,[323]),(11,[372]),(13,[346]),(17,[311]),(20,[361]),(22,[366]),(23,[324]),(24,[344]),(25,[327]),(29,[298]),(31,[304]),(32,[307]),(35,[342]),(36,[54]),(37,[111]),(39,[233]),(40,[129]),(43,[297]),(44,[299]),(47,[333]),(48,[339]),(49,[329]),(56,[72]),(57,[106]),(59,[60]),(61,[175]),(63,[195]),(65,[174,172,193,208]),(66,[230]),(68,[294]),(69,[332]),(78,[71]),(80,[68]),(81,[103]),(82,[75]),(86,[151]),(88,[160,171,192,209]),(89,[157]),(90,[173,194,210]),(92,[207]),(93,[225]),(97,[330]),(100,[96]),(106,[161]),(107,[168]),(108,[218]),(113,[263]),(122,[211]),(127,[90]),(130,[76]),(150,[303]),(151,[296])]
def SR:List (FuncId × List Nat):=[(5,[353]),(7,[351]),(8,[316]),(9,[390]),(10,[323]),(11,[372]),(12,[352]),(13,[346]),(14,[280]),(15,[281]),(16,[288]),(17,[311]),(18,[377]),(19,[385]),(21,[358]),(27,[117]),(28,[277]),(30,[292]),(33,[384]),(34,[363]),(36,[54]),(37,[111]),(38,[115]),(39,[233]),(40,[129]),(41,[274]),(42,[239]),(45,[305]),(50,[0]),(51,[5]),(52,[48]),(53,[57]),(54,[58]),(55,[59]),(56,[72]),(57,[106]),(58,[61]),(59,[60]),(60,[144]),(62,[147]),(64,[148]),(67,[269]),(70,[8]),(71,[12]),(72,[15]),(73,[30]),(74,[41]),(75,[62]),(76,[63]),(77,[65]),(78,[71]),(79,[67]),(80,[68]),(81,[103]),(82,[75]),(83,[121]),(84,[126]),(85,[140]),(86,[151]),(87,[154]),(89,[157]),(91,[189]),(94,[264]),(95,[240]),(96,[242]),(98,[21]),(99,[37]),(100,[96]),(101,[118]),(102,[124]),(103,[125]),(104,[132]),(105,[137]),(106,[161]),(107,[168]),(109,[246]),(110,[244]),(111,[253]),(112,[257]),(113,[263]),(114,[241]),(115,[18]),(116,[19]),(117,[20]),(118,[91]),(119,[122]),(120,[164]),(121,[165]),(123,[243]),(124,[245]),(126,[88]),(127,[90]),(128,[84]),(129,[80]),(130,[76]),(148,[293])]
def a0i:List (FuncId × List Nat):=[(26,[328]),(46,[306])]
end
end
end Go.Proofs.YtabmahknlebhpaaGreat

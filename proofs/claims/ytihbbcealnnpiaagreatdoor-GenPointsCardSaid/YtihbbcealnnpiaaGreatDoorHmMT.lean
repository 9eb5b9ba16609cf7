/- Parts of the proof. -/
import Derived.Test.YtihbbcealnnpiaaGreatDoorHmEvTab
set_option linter.unusedVariables false
namespace Go.Proofs.YtihbbcealnnpiaaGreatDoor
section
section
open Go.RowKit
set_option maxRecDepth 100000
set_option maxHeartbeats 4000000
def Ms0:SV:=.one (.dat (.int .i64))
def Ms1:SV:=.one (.ptr 1 0)
def a1S:List Lb:=[⟨0,[],⟨[(0,.st 11 [] 0)],[]⟩⟩,
 ⟨0,[0,1,0,1,1,1],⟨[(1,Ms1),(3,Ms0),(28,.one (.dat (.sl (.nat 10)))),(29,Ms0),(30,Ms0)],[.st 1 41 11 [] 100100]⟩⟩,
 ⟨0,[1,1,1,1],⟨[(1,Ms1),(3,Ms0)],[.st 1 41 11 [] 100100]⟩⟩,
 ⟨0,[0,1,0,1,1,1,1,1],⟨[(1,Ms1),(91,.one (.dat (.sl (.nat 9)))),(92,Ms0),(93,Ms0)],[.st 1 41 11 [] 100100]⟩⟩,
 ⟨0,[1,1,1,1,1,1],⟨[(1,Ms1)],[.st 1 41 11 [] 100100]⟩⟩,
 ⟨0,[0,1,0,1,1,1,1,1,1,1],⟨[(8,Ms0),(117,.one (.dat (.sl (.str)))),(118,Ms0),(119,Ms0)],[]⟩⟩,
 ⟨0,[1,1,1,1,1,1,1,1],⟨[],[]⟩⟩]
def PQ:List (List Lb):=[a1S]
def b0r:List VR:=[⟨24,⟨[.one (.dat (.bool))],[]⟩,[([0,1,0,1,1,1],1),([1,1,1,1],2),([0,1,0,1,1,1,1,1],3),([1,1,1,1,1,1],4),([0,1,0,1,1,1,1,1,1,1],5),([1,1,1,1,1,1,1,1],6)],[],[]⟩]
def MN:List (List VR):=[b0r]
def N0:LT:=Sc PQ MN []
def SX:List (FuncId × List Nat):=[]
def SL:List (FuncId × List Nat):=[(24,[0])]
def QM:List (FuncId × List Nat):=[]
end
section
open Go.RowKit
set_option maxRecDepth 100000
set_option maxHeartbeats 4000000
abbrev U7:Type:=((Bool × Unit) × (Unit))
inductive M_C where
 |c0(a:l7)
 |c1(a:Int)(b:l7)(c:Int)
 |c2(a:Int)(b:l7)
 |c3(a:l7)(b:Int)
 |c4(a:l7)
 |c5(a:Int)(b:l7)(c:Int)
 |c6
def M_T:M_C→Type
 |.c0 .. |.c1 .. |.c2 .. |.c3 .. |.c4 .. |.c5 .. |.c6 .. =>U7
def AH:(i:Ix tab N0)→Option (Bx tab N0 i):=fun _=>none
theorem a5S(l:Nat)(x:Vars tab (N0.lb l).sh)(r:Res tab (N0.rh (N0.lb l).v))(_:N0.hd l=true)(h:AH ⟨l,x⟩=some r):Ed Tryz.prog N0 l x r:=by cases h
def tZ:List FuncId:=[]
noncomputable def M_B:=EVB (B:=tab) Tryz.prog N0 AH (Cm Tryz.prog N0 lQ tZ (Y9 SX) (Y9 SL) (Y9 QM)) 1000
theorem M_q(i:Ix tab N0):G4 M_B i=M_B (G4 M_B) i:=FF (fun i=>LP _ _ _ _ _ _ _ _ i) i
noncomputable def XU:M_C→Ix tab N0
 |.c0 a=>mkI 0 ((a,()),())
 |.c1 a b c=>mkI 1 (((),a,b.As,(b.As.length:Int),c,()),(b,()))
 |.c2 a b=>mkI 2 (((),a,()),(b,()))
 |.c3 a b=>mkI 3 (((),a.Is,(a.Is.length:Int),b,()),(a,()))
 |.c4 a=>mkI 4 (((),()),(a,()))
 |.c5 a b c=>mkI 5 ((a,b.Js,(b.Js.length:Int),c,()),())
 |.c6=>mkI 6 ((),())
theorem MJ(c:M_C):Bx tab N0 (XU c)=M_T c:=by cases c<;>kernel_rfl
noncomputable def T6(g:Gt tab N0)(c:M_C):Option (M_T c):=Xm (g (XU c)) (MJ c)
noncomputable def Cz:(c:M_C)→Option (M_T c):=T6 (G4 M_B)
theorem Iu(c:M_C):Cz c=T6 (M_B (G4 M_B)) c:=IQ M_q _ (MJ c)
abbrev M_g:=(i:M_C)→Option (M_T i)
end
section
open Go.RowKit
set_option maxRecDepth 100000
set_option maxHeartbeats 4000000
noncomputable section
def Mb0(g:M_g)(a:l7):Option U7:=
 (cond (decide ((a.As.length:Int)>100)) (some ((false,()),())) (cond (decide ((a.Is.length:Int)>65536)) (some ((false,()),())) (cond (decide ((a.Js.length:Int)>65536)) (some ((false,()),())) (g (.c1 0 a 0)))))
def Mb1(g:M_g)(a:Int)(b:l7)(c:Int):Option U7:=
 (cond (decide (c<(b.As.length:Int))) ((f5 b.As c).bind fun d=>(cond (!(decide (d.At=a))) (some ((false,()),())) (cond (decide (d.If<0)) (some ((false,()),())) (cond (decide (d.If>(w64 ((b.Is.length:Int)-a)))) (some ((false,()),())) (cond (decide (d.Es<0)) (some ((false,()),())) (cond (decide (d.Es>d.Ss)) (some ((false,()),())) (cond (decide (d.Ss>200)) (some ((false,()),())) (cond (decide (d.By<0)) (some ((false,()),())) (cond (decide (d.By>1)) (some ((false,()),())) (g (.c1 (w64 (a+d.If)) b (w64 (c+1))))))))))))) (g (.c2 a b)))
def Mb2(g:M_g)(a:Int)(b:l7):Option U7:=
 (cond (!(decide (a=(b.Is.length:Int)))) (some ((false,()),())) (g (.c3 b 0)))
def Mb3(g:M_g)(a:l7)(b:Int):Option U7:=
 (cond (decide (b<(a.Is.length:Int))) ((f5 a.Is b).bind fun c=>(cond (decide (c.Op<1)) (some ((false,()),())) (cond (decide (c.Op>26)) (some ((false,()),())) (cond (decide (c.Ls<0)) (some ((false,()),())) (cond (decide (c.Ls>2147483647)) (some ((false,()),())) (g (.c3 a (w64 (b+1))))))))) (g (.c4 a)))
def Mb4(g:M_g)(a:l7):Option U7:=
 g (.c5 1048576 a 0)
def Mb5(g:M_g)(a:Int)(b:l7)(c:Int):Option U7:=
 (cond (decide (c<(b.Js.length:Int))) ((f5 b.Js c).bind fun d=>(cond (decide ((d.length:Int)>a)) (some ((false,()),())) (g (.c5 (w64 (a-(d.length:Int))) b (w64 (c+1)))))) (g (.c6)))
def Mb6(g:M_g):Option U7:=
 (some ((true,()),()))
end
end
section
open Go.RowKit
set_option maxRecDepth 100000
set_option maxHeartbeats 4000000
theorem Me0(g:Gt tab N0) a:T6 (M_B g) (.c0 a)=Mb0 (T6 g) a:=by kernel_rfl
theorem Me1(g:Gt tab N0) a b c:T6 (M_B g) (.c1 a b c)=Mb1 (T6 g) a b c:=by kernel_rfl
theorem Me2(g:Gt tab N0) a b:T6 (M_B g) (.c2 a b)=Mb2 (T6 g) a b:=by kernel_rfl
theorem Me3(g:Gt tab N0) a b:T6 (M_B g) (.c3 a b)=Mb3 (T6 g) a b:=by kernel_rfl
theorem Me4(g:Gt tab N0) a:T6 (M_B g) (.c4 a)=Mb4 (T6 g) a:=by kernel_rfl
theorem Me5(g:Gt tab N0) a b c:T6 (M_B g) (.c5 a b c)=Mb5 (T6 g) a b c:=by kernel_rfl
theorem Me6(g:Gt tab N0):T6 (M_B g) (.c6)=Mb6 (T6 g):=by kernel_rfl
end
section
open Go.RowKit
set_option maxRecDepth 100000
set_option maxHeartbeats 4000000
noncomputable def PX(a:l7):Option U7:=Cz (.c0 a)
noncomputable def Qt(a:Int)(b:l7)(c:Int):Option U7:=Cz (.c1 a b c)
noncomputable def sU(a:Int)(b:l7):Option U7:=Cz (.c2 a b)
noncomputable def Wj(a:l7)(b:Int):Option U7:=Cz (.c3 a b)
noncomputable def EG(a:l7):Option U7:=Cz (.c4 a)
noncomputable def Th(a:Int)(b:l7)(c:Int):Option U7:=Cz (.c5 a b c)
noncomputable def LY:Option U7:=Cz (.c6)
theorem a2p(a:l7):PX a=(cond (decide ((a.As.length:Int)>100)) (some ((false,()),())) (cond (decide ((a.Is.length:Int)>65536)) (some ((false,()),())) (cond (decide ((a.Js.length:Int)>65536)) (some ((false,()),())) ((Qt 0 a 0))))):=(Iu _).trans (Me0 _ a)
theorem NY(a:Int)(b:l7)(c:Int):Qt a b c=(cond (decide (c<(b.As.length:Int))) ((f5 b.As c).bind fun d=>(cond (!(decide (d.At=a))) (some ((false,()),())) (cond (decide (d.If<0)) (some ((false,()),())) (cond (decide (d.If>(w64 ((b.Is.length:Int)-a)))) (some ((false,()),())) (cond (decide (d.Es<0)) (some ((false,()),())) (cond (decide (d.Es>d.Ss)) (some ((false,()),())) (cond (decide (d.Ss>200)) (some ((false,()),())) (cond (decide (d.By<0)) (some ((false,()),())) (cond (decide (d.By>1)) (some ((false,()),())) ((Qt (w64 (a+d.If)) b (w64 (c+1))))))))))))) ((sU a b))):=(Iu _).trans (Me1 _ a b c)
theorem b2O(a:Int)(b:l7):sU a b=(cond (!(decide (a=(b.Is.length:Int)))) (some ((false,()),())) ((Wj b 0))):=(Iu _).trans (Me2 _ a b)
theorem QU(a:l7)(b:Int):Wj a b=(cond (decide (b<(a.Is.length:Int))) ((f5 a.Is b).bind fun c=>(cond (decide (c.Op<1)) (some ((false,()),())) (cond (decide (c.Op>26)) (some ((false,()),())) (cond (decide (c.Ls<0)) (some ((false,()),())) (cond (decide (c.Ls>2147483647)) (some ((false,()),())) ((Wj a (w64 (b+1))))))))) ((EG a))):=(Iu _).trans (Me3 _ a b)
theorem a8b(a:l7):EG a=(Th 1048576 a 0):=(Iu _).trans (Me4 _ a)
theorem UY(a:Int)(b:l7)(c:Int):Th a b c=(cond (decide (c<(b.Js.length:Int))) ((f5 b.Js c).bind fun d=>(cond (decide ((d.length:Int)>a)) (some ((false,()),())) ((Th (w64 (a-(d.length:Int))) b (w64 (c+1)))))) ((LY))):=(Iu _).trans (Me5 _ a b c)
theorem a3T:LY=(some ((true,()),())):=(Iu _).trans (Me6 _)
end
end
end Go.Proofs.YtihbbcealnnpiaaGreatDoor

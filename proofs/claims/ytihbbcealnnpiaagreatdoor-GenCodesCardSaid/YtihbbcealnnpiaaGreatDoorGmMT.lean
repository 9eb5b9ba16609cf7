/- Parts of the proof. -/
import Derived.Test.YtihbbcealnnpiaaGreatDoorGmEvTab
set_option linter.unusedVariables false
namespace Go.Proofs.YtihbbcealnnpiaaGreatDoor
section
section
open Go.RowKit
set_option maxRecDepth 100000
set_option maxHeartbeats 4000000
def Ms0:SV:=.one (.dat (.int .i64))
def Ms1:SV:=.one (.ptr 1 0)
def a1U:List Lb:=[⟨0,[],⟨[(0,.st 11 [] 0)],[]⟩⟩,
 ⟨0,[0,1,0,1,1,1],⟨[(1,Ms1),(3,Ms0),(28,.one (.dat (.sl (.nat 10)))),(29,Ms0),(30,Ms0)],[.st 1 41 11 [] 100100]⟩⟩,
 ⟨0,[1,1,1,1],⟨[(1,Ms1),(3,Ms0)],[.st 1 41 11 [] 100100]⟩⟩,
 ⟨0,[0,1,0,1,1,1,1,1],⟨[(1,Ms1),(91,.one (.dat (.sl (.nat 9)))),(92,Ms0),(93,Ms0)],[.st 1 41 11 [] 100100]⟩⟩,
 ⟨0,[1,1,1,1,1,1],⟨[(1,Ms1)],[.st 1 41 11 [] 100100]⟩⟩,
 ⟨0,[0,1,0,1,1,1,1,1,1,1],⟨[(8,Ms0),(117,.one (.dat (.sl (.str)))),(118,Ms0),(119,Ms0)],[]⟩⟩,
 ⟨0,[1,1,1,1,1,1,1,1],⟨[],[]⟩⟩]
def QJ:List (List Lb):=[a1U]
def b0t:List VR:=[⟨24,⟨[.one (.dat (.bool))],[]⟩,[([0,1,0,1,1,1],1),([1,1,1,1],2),([0,1,0,1,1,1,1,1],3),([1,1,1,1,1,1],4),([0,1,0,1,1,1,1,1,1,1],5),([1,1,1,1,1,1,1,1],6)],[],[]⟩]
def NN:List (List VR):=[b0t]
def N4:LT:=Sx QJ NN []
def TP:List (FuncId × List Nat):=[]
def TE:List (FuncId × List Nat):=[(24,[0])]
def RD:List (FuncId × List Nat):=[]
end
section
open Go.RowKit
set_option maxRecDepth 100000
set_option maxHeartbeats 4000000
abbrev V7:Type:=((Bool × Unit) × (Unit))
inductive M_C where
 |c0(a:o9)
 |c1(a:Int)(b:o9)(c:Int)
 |c2(a:Int)(b:o9)
 |c3(a:o9)(b:Int)
 |c4(a:o9)
 |c5(a:Int)(b:o9)(c:Int)
 |c6
def M_T:M_C→Type
 |.c0 .. |.c1 .. |.c2 .. |.c3 .. |.c4 .. |.c5 .. |.c6 .. =>V7
def BK:(i:Ix tab N4)→Option (Bx tab N4 i):=fun _=>none
theorem a5U(l:Nat)(x:Vars tab (N4.lb l).sh)(r:Res tab (N4.rh (N4.lb l).v))(_:N4.hd l=true)(h:BK ⟨l,x⟩=some r):Eh Tryz.prog N4 l x r:=by cases h
def vD:List FuncId:=[]
noncomputable def M_B:=EVB (B:=tab) Tryz.prog N4 BK (Cr Tryz.prog N4 mS vD (Aa TP) (Aa TE) (Aa RD)) 1000
theorem M_q(i:Ix tab N4):H1 M_B i=M_B (H1 M_B) i:=GH (fun i=>MT _ _ _ _ _ _ _ _ i) i
noncomputable def YB:M_C→Ix tab N4
 |.c0 a=>mkI 0 ((a,()),())
 |.c1 a b c=>mkI 1 (((),a,b.As,(b.As.length:Int),c,()),(b,()))
 |.c2 a b=>mkI 2 (((),a,()),(b,()))
 |.c3 a b=>mkI 3 (((),a.Qs,(a.Qs.length:Int),b,()),(a,()))
 |.c4 a=>mkI 4 (((),()),(a,()))
 |.c5 a b c=>mkI 5 ((a,b.Is,(b.Is.length:Int),c,()),())
 |.c6=>mkI 6 ((),())
theorem NJ(c:M_C):Bx tab N4 (YB c)=M_T c:=by cases c<;>kernel_rfl
noncomputable def U3(g:Gt tab N4)(c:M_C):Option (M_T c):=Yi (g (YB c)) (NJ c)
noncomputable def Df:(c:M_C)→Option (M_T c):=U3 (H1 M_B)
theorem Iy(c:M_C):Df c=U3 (M_B (H1 M_B)) c:=JQ M_q _ (NJ c)
abbrev M_g:=(i:M_C)→Option (M_T i)
end
section
open Go.RowKit
set_option maxRecDepth 100000
set_option maxHeartbeats 4000000
noncomputable section
def Mb0(g:M_g)(a:o9):Option V7:=
 (cond (decide ((a.As.length:Int)>100)) (some ((false,()),())) (cond (decide ((a.Qs.length:Int)>65536)) (some ((false,()),())) (cond (decide ((a.Is.length:Int)>65536)) (some ((false,()),())) (g (.c1 0 a 0)))))
def Mb1(g:M_g)(a:Int)(b:o9)(c:Int):Option V7:=
 (cond (decide (c<(b.As.length:Int))) ((f5 b.As c).bind fun d=>(cond (!(decide (d.At=a))) (some ((false,()),())) (cond (decide (d.On<0)) (some ((false,()),())) (cond (decide (d.On>(w64 ((b.Qs.length:Int)-a)))) (some ((false,()),())) (cond (decide (d.Es<0)) (some ((false,()),())) (cond (decide (d.Es>d.Ss)) (some ((false,()),())) (cond (decide (d.Ss>200)) (some ((false,()),())) (cond (decide (d.By<0)) (some ((false,()),())) (cond (decide (d.By>1)) (some ((false,()),())) (g (.c1 (w64 (a+d.On)) b (w64 (c+1))))))))))))) (g (.c2 a b)))
def Mb2(g:M_g)(a:Int)(b:o9):Option V7:=
 (cond (!(decide (a=(b.Qs.length:Int)))) (some ((false,()),())) (g (.c3 b 0)))
def Mb3(g:M_g)(a:o9)(b:Int):Option V7:=
 (cond (decide (b<(a.Qs.length:Int))) ((f5 a.Qs b).bind fun c=>(cond (decide (c.Op<1)) (some ((false,()),())) (cond (decide (c.Op>26)) (some ((false,()),())) (cond (decide (c.Ls<0)) (some ((false,()),())) (cond (decide (c.Ls>2147483647)) (some ((false,()),())) (g (.c3 a (w64 (b+1))))))))) (g (.c4 a)))
def Mb4(g:M_g)(a:o9):Option V7:=
 g (.c5 1048576 a 0)
def Mb5(g:M_g)(a:Int)(b:o9)(c:Int):Option V7:=
 (cond (decide (c<(b.Is.length:Int))) ((f5 b.Is c).bind fun d=>(cond (decide ((d.length:Int)>a)) (some ((false,()),())) (g (.c5 (w64 (a-(d.length:Int))) b (w64 (c+1)))))) (g (.c6)))
def Mb6(g:M_g):Option V7:=
 (some ((true,()),()))
end
end
section
open Go.RowKit
set_option maxRecDepth 100000
set_option maxHeartbeats 4000000
theorem Me0(g:Gt tab N4) a:U3 (M_B g) (.c0 a)=Mb0 (U3 g) a:=by kernel_rfl
theorem Me1(g:Gt tab N4) a b c:U3 (M_B g) (.c1 a b c)=Mb1 (U3 g) a b c:=by kernel_rfl
theorem Me2(g:Gt tab N4) a b:U3 (M_B g) (.c2 a b)=Mb2 (U3 g) a b:=by kernel_rfl
theorem Me3(g:Gt tab N4) a b:U3 (M_B g) (.c3 a b)=Mb3 (U3 g) a b:=by kernel_rfl
theorem Me4(g:Gt tab N4) a:U3 (M_B g) (.c4 a)=Mb4 (U3 g) a:=by kernel_rfl
theorem Me5(g:Gt tab N4) a b c:U3 (M_B g) (.c5 a b c)=Mb5 (U3 g) a b c:=by kernel_rfl
theorem Me6(g:Gt tab N4):U3 (M_B g) (.c6)=Mb6 (U3 g):=by kernel_rfl
end
section
open Go.RowKit
set_option maxRecDepth 100000
set_option maxHeartbeats 4000000
noncomputable def QO(a:o9):Option V7:=Df (.c0 a)
noncomputable def Rg(a:Int)(b:o9)(c:Int):Option V7:=Df (.c1 a b c)
noncomputable def uC(a:Int)(b:o9):Option V7:=Df (.c2 a b)
noncomputable def Xd(a:o9)(b:Int):Option V7:=Df (.c3 a b)
noncomputable def FJ(a:o9):Option V7:=Df (.c4 a)
noncomputable def Uc(a:Int)(b:o9)(c:Int):Option V7:=Df (.c5 a b c)
noncomputable def MZ:Option V7:=Df (.c6)
theorem a2v(a:o9):QO a=(cond (decide ((a.As.length:Int)>100)) (some ((false,()),())) (cond (decide ((a.Qs.length:Int)>65536)) (some ((false,()),())) (cond (decide ((a.Is.length:Int)>65536)) (some ((false,()),())) ((Rg 0 a 0))))):=(Iy _).trans (Me0 _ a)
theorem OU(a:Int)(b:o9)(c:Int):Rg a b c=(cond (decide (c<(b.As.length:Int))) ((f5 b.As c).bind fun d=>(cond (!(decide (d.At=a))) (some ((false,()),())) (cond (decide (d.On<0)) (some ((false,()),())) (cond (decide (d.On>(w64 ((b.Qs.length:Int)-a)))) (some ((false,()),())) (cond (decide (d.Es<0)) (some ((false,()),())) (cond (decide (d.Es>d.Ss)) (some ((false,()),())) (cond (decide (d.Ss>200)) (some ((false,()),())) (cond (decide (d.By<0)) (some ((false,()),())) (cond (decide (d.By>1)) (some ((false,()),())) ((Rg (w64 (a+d.On)) b (w64 (c+1))))))))))))) ((uC a b))):=(Iy _).trans (Me1 _ a b c)
theorem b2O(a:Int)(b:o9):uC a b=(cond (!(decide (a=(b.Qs.length:Int)))) (some ((false,()),())) ((Xd b 0))):=(Iy _).trans (Me2 _ a b)
theorem RM(a:o9)(b:Int):Xd a b=(cond (decide (b<(a.Qs.length:Int))) ((f5 a.Qs b).bind fun c=>(cond (decide (c.Op<1)) (some ((false,()),())) (cond (decide (c.Op>26)) (some ((false,()),())) (cond (decide (c.Ls<0)) (some ((false,()),())) (cond (decide (c.Ls>2147483647)) (some ((false,()),())) ((Xd a (w64 (b+1))))))))) ((FJ a))):=(Iy _).trans (Me3 _ a b)
theorem a8c(a:o9):FJ a=(Uc 1048576 a 0):=(Iy _).trans (Me4 _ a)
theorem VK(a:Int)(b:o9)(c:Int):Uc a b c=(cond (decide (c<(b.Is.length:Int))) ((f5 b.Is c).bind fun d=>(cond (decide ((d.length:Int)>a)) (some ((false,()),())) ((Uc (w64 (a-(d.length:Int))) b (w64 (c+1)))))) ((MZ))):=(Iy _).trans (Me5 _ a b c)
theorem a3U:MZ=(some ((true,()),())):=(Iy _).trans (Me6 _)
end
end
end Go.Proofs.YtihbbcealnnpiaaGreatDoor

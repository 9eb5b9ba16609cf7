/- Parts of the proof. -/
import Derived.Test.YtihbbcealnnpiaaGreatDoorImEvTab
set_option linter.unusedVariables false
namespace Go.Proofs.YtihbbcealnnpiaaGreatDoor
section
section
open Go.RowKit
set_option maxRecDepth 100000
set_option maxHeartbeats 4000000
def Ms0:SV:=.one (.dat (.int .i64))
def Ms1:SV:=.one (.ptr 1 0)
def a3s:List Lb:=[⟨0,[],⟨[(0,.st 11 [] 0)],[]⟩⟩,
 ⟨0,[0,1,0,1,1,1],⟨[(1,Ms1),(3,Ms0),(28,.one (.dat (.sl (.nat 10)))),(29,Ms0),(30,Ms0)],[.st 1 41 11 [] 100100]⟩⟩,
 ⟨0,[1,1,1,1],⟨[(1,Ms1),(3,Ms0)],[.st 1 41 11 [] 100100]⟩⟩,
 ⟨0,[0,1,0,1,1,1,1,1],⟨[(1,Ms1),(91,.one (.dat (.sl (.nat 9)))),(92,Ms0),(93,Ms0)],[.st 1 41 11 [] 100100]⟩⟩,
 ⟨0,[1,1,1,1,1,1],⟨[(1,Ms1)],[.st 1 41 11 [] 100100]⟩⟩,
 ⟨0,[0,1,0,1,1,1,1,1,1,1],⟨[(8,Ms0),(117,.one (.dat (.sl (.str)))),(118,Ms0),(119,Ms0)],[]⟩⟩,
 ⟨0,[1,1,1,1,1,1,1,1],⟨[],[]⟩⟩]
def TE:List (List Lb):=[a3s]
def b2I:List VR:=[⟨24,⟨[.one (.dat (.bool))],[]⟩,[([0,1,0,1,1,1],1),([1,1,1,1],2),([0,1,0,1,1,1,1,1],3),([1,1,1,1,1,1],4),([0,1,0,1,1,1,1,1,1,1],5),([1,1,1,1,1,1,1,1],6)],[],[]⟩]
def PZ:List (List VR):=[b2I]
def Q5:LT:=Vn TE PZ []
def WL:List (FuncId × List Nat):=[]
def VZ:List (FuncId × List Nat):=[(24,[0])]
def UA:List (FuncId × List Nat):=[]
end
section
open Go.RowKit
set_option maxRecDepth 100000
set_option maxHeartbeats 4000000
abbrev Af:Type:=((Bool × Unit) × (Unit))
inductive M_C where
 |c0(a:s8)
 |c1(a:Int)(b:s8)(c:Int)
 |c2(a:Int)(b:s8)
 |c3(a:s8)(b:Int)
 |c4(a:s8)
 |c5(a:Int)(b:s8)(c:Int)
 |c6
def M_T:M_C->Type
 |.c0 .. |.c1 .. |.c2 .. |.c3 .. |.c4 .. |.c5 .. |.c6 .. =>Af
def DN:(i:Ix tab Q5)->Option (Bx tab Q5 i):=λ_=>none
theorem a7G(l:Nat)(x:Vars tab (Q5.lb l).sh)(r:Res tab (Q5.rh (Q5.lb l).v))(_:Q5.hd l=true)(h:DN ⟨l,x⟩=some r):Hp Tryz.prog Q5 l x r:=by cases h
noncomputable def M_B:=EVB (B:=tab) Tryz.prog Q5 DN (Fp Tryz.prog Q5 oW (Cj WL) (Cj VZ) (Cj UA)) 1000
theorem M_q(i:Ix tab Q5):J0 M_B i=M_B (J0 M_B) i:=JK (λi=>PB _ _ _ _ _ _ _ i) i
noncomputable def a0C:M_C->Ix tab Q5
 |.c0 a=>mkI 0 ((a,()),())
 |.c1 a b c=>mkI 1 (((),a,b.As,(b.As.length:Int),c,()),(b,()))
 |.c2 a b=>mkI 2 (((),a,()),(b,()))
 |.c3 a b=>mkI 3 (((),a.On,(a.On.length:Int),b,()),(a,()))
 |.c4 a=>mkI 4 (((),()),(a,()))
 |.c5 a b c=>mkI 5 ((a,b.Us,(b.Us.length:Int),c,()),())
 |.c6=>mkI 6 ((),())
theorem PV(c:M_C):Bx tab Q5 (a0C c)=M_T c:=by cases c<;>kernel_rfl
noncomputable def Y8(g:Gt tab Q5)(c:M_C):Option (M_T c):=aP (g (a0C c)) (PV c)
noncomputable def Gg:(c:M_C)->Option (M_T c):=Y8 (J0 M_B)
theorem Me(c:M_C):Gg c=Y8 (M_B (J0 M_B)) c:=MD M_q _ (PV c)
abbrev M_g:=(i:M_C)->Option (M_T i)
end
section
open Go.RowKit
set_option maxRecDepth 100000
set_option maxHeartbeats 4000000
noncomputable section
def Mb0(g:M_g)(a:s8):Option Af:=
 (cond (decide ((a.As.length:Int)>100)) (some ((false,()),())) (cond (decide ((a.On.length:Int)>65536)) (some ((false,()),())) (cond (decide ((a.Us.length:Int)>65536)) (some ((false,()),())) (g (.c1 0 a 0)))))
def Mb1(g:M_g)(a:Int)(b:s8)(c:Int):Option Af:=
 (cond (decide (c<(b.As.length:Int))) ((f7 b.As c).bind λd=>(cond (!(decide (d.At=a))) (some ((false,()),())) (cond (decide (d.In<0)) (some ((false,()),())) (cond (decide (d.In>(w64 ((b.On.length:Int)-a)))) (some ((false,()),())) (cond (decide (d.Ps<0)) (some ((false,()),())) (cond (decide (d.Ps>d.Ss)) (some ((false,()),())) (cond (decide (d.Ss>200)) (some ((false,()),())) (cond (decide (d.By<0)) (some ((false,()),())) (cond (decide (d.By>1)) (some ((false,()),())) (g (.c1 (w64 (a+d.In)) b (w64 (c+1))))))))))))) (g (.c2 a b)))
def Mb2(g:M_g)(a:Int)(b:s8):Option Af:=
 (cond (!(decide (a=(b.On.length:Int)))) (some ((false,()),())) (g (.c3 b 0)))
def Mb3(g:M_g)(a:s8)(b:Int):Option Af:=
 (cond (decide (b<(a.On.length:Int))) ((f7 a.On b).bind λc=>(cond (decide (c.Op<1)) (some ((false,()),())) (cond (decide (c.Op>26)) (some ((false,()),())) (cond (decide (c.Ls<0)) (some ((false,()),())) (cond (decide (c.Ls>2147483647)) (some ((false,()),())) (g (.c3 a (w64 (b+1))))))))) (g (.c4 a)))
def Mb4(g:M_g)(a:s8):Option Af:=
 g (.c5 1048576 a 0)
def Mb5(g:M_g)(a:Int)(b:s8)(c:Int):Option Af:=
 (cond (decide (c<(b.Us.length:Int))) ((f7 b.Us c).bind λd=>(cond (decide ((d.length:Int)>a)) (some ((false,()),())) (g (.c5 (w64 (a-(d.length:Int))) b (w64 (c+1)))))) (g (.c6)))
def Mb6(g:M_g):Option Af:=
 (some ((true,()),()))
end
end
section
open Go.RowKit
set_option maxRecDepth 100000
set_option maxHeartbeats 4000000
theorem Me0(g:Gt tab Q5) a:Y8 (M_B g) (.c0 a)=Mb0 (Y8 g) a:=by kernel_rfl
theorem Me1(g:Gt tab Q5) a b c:Y8 (M_B g) (.c1 a b c)=Mb1 (Y8 g) a b c:=by kernel_rfl
theorem Me2(g:Gt tab Q5) a b:Y8 (M_B g) (.c2 a b)=Mb2 (Y8 g) a b:=by kernel_rfl
theorem Me3(g:Gt tab Q5) a b:Y8 (M_B g) (.c3 a b)=Mb3 (Y8 g) a b:=by kernel_rfl
theorem Me4(g:Gt tab Q5) a:Y8 (M_B g) (.c4 a)=Mb4 (Y8 g) a:=by kernel_rfl
theorem Me5(g:Gt tab Q5) a b c:Y8 (M_B g) (.c5 a b c)=Mb5 (Y8 g) a b c:=by kernel_rfl
theorem Me6(g:Gt tab Q5):Y8 (M_B g) (.c6)=Mb6 (Y8 g):=by kernel_rfl
end
section
open Go.RowKit
set_option maxRecDepth 100000
set_option maxHeartbeats 4000000
noncomputable def TL(a:s8):Option Af:=Gg (.c0 a)
noncomputable def Uf(a:Int)(b:s8)(c:Int):Option Af:=Gg (.c1 a b c)
noncomputable def vZ(a:Int)(b:s8):Option Af:=Gg (.c2 a b)
noncomputable def Zk(a:s8)(b:Int):Option Af:=Gg (.c3 a b)
noncomputable def IJ(a:s8):Option Af:=Gg (.c4 a)
noncomputable def Wo(a:Int)(b:s8)(c:Int):Option Af:=Gg (.c5 a b c)
noncomputable def PH:Option Af:=Gg (.c6)
theorem a32(a:s8):TL a=(cond (decide ((a.As.length:Int)>100)) (some ((false,()),())) (cond (decide ((a.On.length:Int)>65536)) (some ((false,()),())) (cond (decide ((a.Us.length:Int)>65536)) (some ((false,()),())) ((Uf 0 a 0))))):=(Me _).trans (Me0 _ a)
theorem RL(a:Int)(b:s8)(c:Int):Uf a b c=(cond (decide (c<(b.As.length:Int))) ((f7 b.As c).bind λd=>(cond (!(decide (d.At=a))) (some ((false,()),())) (cond (decide (d.In<0)) (some ((false,()),())) (cond (decide (d.In>(w64 ((b.On.length:Int)-a)))) (some ((false,()),())) (cond (decide (d.Ps<0)) (some ((false,()),())) (cond (decide (d.Ps>d.Ss)) (some ((false,()),())) (cond (decide (d.Ss>200)) (some ((false,()),())) (cond (decide (d.By<0)) (some ((false,()),())) (cond (decide (d.By>1)) (some ((false,()),())) ((Uf (w64 (a+d.In)) b (w64 (c+1))))))))))))) ((vZ a b))):=(Me _).trans (Me1 _ a b c)
theorem b5h(a:Int)(b:s8):vZ a b=(cond (!(decide (a=(b.On.length:Int)))) (some ((false,()),())) ((Zk b 0))):=(Me _).trans (Me2 _ a b)
theorem UK(a:s8)(b:Int):Zk a b=(cond (decide (b<(a.On.length:Int))) ((f7 a.On b).bind λc=>(cond (decide (c.Op<1)) (some ((false,()),())) (cond (decide (c.Op>26)) (some ((false,()),())) (cond (decide (c.Ls<0)) (some ((false,()),())) (cond (decide (c.Ls>2147483647)) (some ((false,()),())) ((Zk a (w64 (b+1))))))))) ((IJ a))):=(Me _).trans (Me3 _ a b)
theorem b0b(a:s8):IJ a=(Wo 1048576 a 0):=(Me _).trans (Me4 _ a)
theorem YI(a:Int)(b:s8)(c:Int):Wo a b c=(cond (decide (c<(b.Us.length:Int))) ((f7 b.Us c).bind λd=>(cond (decide ((d.length:Int)>a)) (some ((false,()),())) ((Wo (w64 (a-(d.length:Int))) b (w64 (c+1)))))) ((PH))):=(Me _).trans (Me5 _ a b c)
theorem a5w:PH=(some ((true,()),())):=(Me _).trans (Me6 _)
end
end
end Go.Proofs.YtihbbcealnnpiaaGreatDoor

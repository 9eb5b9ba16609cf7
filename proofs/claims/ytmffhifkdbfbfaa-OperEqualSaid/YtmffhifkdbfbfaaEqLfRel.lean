/- Parts of the proof. -/
import Derived.Test.YtmffhifkdbfbfaaEqXF
import Derived.Test.YtmffhifkdbfbfaaEqHp
namespace Go.Proofs.Ytmffhifkdbfbfaa
open Go.RowKit
set_option linter.unusedVariables false
set_option maxHeartbeats 4000000
def RI_heap_New (a0 : Int) (r : ((Option GHeapHeap) × Int)) : Prop := FnIO Try.prog 22 [aI .i64 a0] [] (optCase r.1 (.tup [aPnil, aI .i64 r.2]) fun y => .tup [.ob 700000, aI .i64 r.2]) (optCase r.1 [] fun y => [(700000, .obj (.any (rep_GHeapHeap y)))])
def RI_heap_Load (a0 : Int) (a1 : (List GApiObj)) (r : ((Option GHeapHeap) × Int)) : Prop := FnIO Try.prog 43 [aI .i64 a0, .t (.sl 4 (a1.map c_GApiObj))] [] (optCase r.1 (.tup [aPnil, aI .i64 r.2]) fun y => .tup [.ob 700000, aI .i64 r.2]) (optCase r.1 [] fun y => [(700000, .obj (.any (rep_GHeapHeap y)))])
def RI_heap_Heap_Str (a0 : GHeapHeap) (a1 : (List UInt8)) (r : (GApiValue × Bool × GHeapHeap)) : Prop := FnIO Try.prog 23 [.ob 900, aS a1] [(900, .obj (.any (rep_GHeapHeap a0)))] (.tup [e_GApiValue r.1, aB r.2.1]) [(900, .obj (.any (rep_GHeapHeap r.2.2)))]
def RI_heap_Heap_Text (a0 : GHeapHeap) (a1 : GApiValue) (r : ((List UInt8) × Bool)) : Prop := FnIO Try.prog 24 [.ob 900, e_GApiValue a1] [(900, .obj (.any (rep_GHeapHeap a0)))] (.tup [aS r.1, aB r.2]) [(900, .obj (.any (rep_GHeapHeap a0)))]
def R_hindcastref01_Of (a0 : Int) (r : GHindcastref01D) : Prop := FnP Try.prog 35 [aI .i64 a0] (e_GHindcastref01D r)
def R_hindcastref01_D_Number (a0 : GHindcastref01D) (r : Int) : Prop := FnP Try.prog 36 [e_GHindcastref01D a0] (aI .i64 r)
def R_hindcastref01_Plus (a0 : GHindcastref01D) (a1 : GHindcastref01D) (r : GHindcastref01D) : Prop := FnP Try.prog 66 [e_GHindcastref01D a0, e_GHindcastref01D a1] (e_GHindcastref01D r)
def R_hindcastref01_Minus (a0 : GHindcastref01D) (r : GHindcastref01D) : Prop := FnP Try.prog 34 [e_GHindcastref01D a0] (e_GHindcastref01D r)
def R_hindcastref01_Times (a0 : GHindcastref01D) (a1 : GHindcastref01D) (r : GHindcastref01D) : Prop := FnP Try.prog 84 [e_GHindcastref01D a0, e_GHindcastref01D a1] (e_GHindcastref01D r)
def R_hindcastref01_Div (a0 : Int) (a1 : Int) (r : (Int × Int)) : Prop := FnP Try.prog 85 [aI .i64 a0, aI .i64 a1] (.tup [aI .i64 r.1, aI .i64 r.2])
def R_hindcastref01_Round (a0 : Int) (a1 : Int) (r : Int) : Prop := FnP Try.prog 94 [aI .i64 a0, aI .i64 a1] (aI .i64 r)
end Go.Proofs.Ytmffhifkdbfbfaa

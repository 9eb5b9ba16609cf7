/- Parts of the proof. -/
import Derived.Test.YtmffhifkdbfbfaaJoLfTy
import Derived.Test.YtmffhifkdbfbfaaJoHp
namespace Go.Proofs.Ytmffhifkdbfbfaa
open Go.RowKit
set_option linter.unusedVariables false
set_option maxHeartbeats 4000000
def RI_heap_New (a0 : Int) (r : ((Option GHeapHeap) × Int)) : Prop := FnIO Try.prog 22 [aI .i64 a0] [] (optCase r.1 (.tup [aPnil, aI .i64 r.2]) fun y => .tup [.ob 700000, aI .i64 r.2]) (optCase r.1 [] fun y => [(700000, .obj (.any (rep_GHeapHeap y)))])
def RI_heap_Heap_Str (a0 : GHeapHeap) (a1 : (List UInt8)) (r : (GApiValue × Bool × GHeapHeap)) : Prop := FnIO Try.prog 23 [.ob 900, aS a1] [(900, .obj (.any (rep_GHeapHeap a0)))] (.tup [e_GApiValue r.1, aB r.2.1]) [(900, .obj (.any (rep_GHeapHeap r.2.2)))]
def RI_heap_Heap_Text (a0 : GHeapHeap) (a1 : GApiValue) (r : ((List UInt8) × Bool)) : Prop := FnIO Try.prog 24 [.ob 900, e_GApiValue a1] [(900, .obj (.any (rep_GHeapHeap a0)))] (.tup [aS r.1, aB r.2]) [(900, .obj (.any (rep_GHeapHeap a0)))]
def RI_heap_Heap_Size (a0 : GHeapHeap) (a1 : GApiValue) (r : (Int × Int)) : Prop := FnIO Try.prog 89 [.ob 900, e_GApiValue a1] [(900, .obj (.any (rep_GHeapHeap a0)))] (.tup [aI .i64 r.1, aI .u8 r.2]) [(900, .obj (.any (rep_GHeapHeap a0)))]
end Go.Proofs.Ytmffhifkdbfbfaa

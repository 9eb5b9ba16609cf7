/- Parts of the proof. -/
import Derived.Test.YtblikpgdepjhdaaHbXF
import Derived.Test.YtblikpgdepjhdaaHbHp
namespace Go.Proofs.Ytblikpgdepjhdaa
open Go.RowKit
set_option linter.unusedVariables false
set_option maxRecDepth 100000
set_option maxHeartbeats 4000000
def RI_heap_New (a0 : Int) (r : ((Option GHeapHeap) × Int)) : Prop := FnIO Try.prog 16 [aI .i64 a0] [] (optCase r.1 (.tup [aPnil, aI .i64 r.2]) fun y => .tup [.ob 700000, aI .i64 r.2]) (optCase r.1 [] fun y => [(700000, .obj (.any (rep_GHeapHeap y)))])
def RI_heap_Heap_Str (a0 : GHeapHeap) (a1 : (List UInt8)) (r : (GApiValue × Bool × GHeapHeap)) : Prop := FnIO Try.prog 22 [.ob 900, aS a1] [(900, .obj (.any (rep_GHeapHeap a0)))] (.tup [e_GApiValue r.1, aB r.2.1]) [(900, .obj (.any (rep_GHeapHeap r.2.2)))]
def RI_heap_Heap_List (a0 : GHeapHeap) (a1 : Int) (a2 : Int) (a3 : GApiValue) (r : (GApiValue × Bool × GHeapHeap)) : Prop := FnIO Try.prog 23 [.ob 900, aI .i64 a1, aI .i64 a2, e_GApiValue a3] [(900, .obj (.any (rep_GHeapHeap a0)))] (.tup [e_GApiValue r.1, aB r.2.1]) [(900, .obj (.any (rep_GHeapHeap r.2.2)))]
def RI_heap_Heap_Rec (a0 : GHeapHeap) (a1 : Int) (a2 : (List GApiValue)) (r : (GApiValue × Bool × GHeapHeap)) : Prop := FnIO Try.prog 24 [.ob 900, aI .i64 a1, .t (.sl 4 (a2.map c_GApiValue))] [(900, .obj (.any (rep_GHeapHeap a0)))] (.tup [e_GApiValue r.1, aB r.2.1]) [(900, .obj (.any (rep_GHeapHeap r.2.2)))]
def RI_heap_Heap_Put (a0 : GHeapHeap) (a1 : GApiValue) (a2 : Int) (a3 : GApiValue) (r : (Int × GHeapHeap)) : Prop := FnIO Try.prog 19 [.ob 900, e_GApiValue a1, aI .i64 a2, e_GApiValue a3] [(900, .obj (.any (rep_GHeapHeap a0)))] (aI .u8 r.1) [(900, .obj (.any (rep_GHeapHeap r.2)))]
def RI_heap_Heap_Text (a0 : GHeapHeap) (a1 : GApiValue) (r : ((List UInt8) × Bool)) : Prop := FnIO Try.prog 25 [.ob 900, e_GApiValue a1] [(900, .obj (.any (rep_GHeapHeap a0)))] (.tup [aS r.1, aB r.2]) [(900, .obj (.any (rep_GHeapHeap a0)))]
def RI_heap_Heap_Size (a0 : GHeapHeap) (a1 : GApiValue) (r : (Int × Int)) : Prop := FnIO Try.prog 26 [.ob 900, e_GApiValue a1] [(900, .obj (.any (rep_GHeapHeap a0)))] (.tup [aI .i64 r.1, aI .u8 r.2]) [(900, .obj (.any (rep_GHeapHeap a0)))]
def RI_heap_Heap_Of (a0 : GHeapHeap) (a1 : GApiValue) (r : Int) : Prop := FnIO Try.prog 43 [.ob 900, e_GApiValue a1] [(900, .obj (.any (rep_GHeapHeap a0)))] (aI .i64 r) [(900, .obj (.any (rep_GHeapHeap a0)))]
def RI_heap_Heap_Get (a0 : GHeapHeap) (a1 : GApiValue) (a2 : Int) (r : (GApiValue × Int)) : Prop := FnIO Try.prog 20 [.ob 900, e_GApiValue a1, aI .i64 a2] [(900, .obj (.any (rep_GHeapHeap a0)))] (.tup [e_GApiValue r.1, aI .u8 r.2]) [(900, .obj (.any (rep_GHeapHeap a0)))]
def RI_heap_Heap_Cells (a0 : GHeapHeap) (r : Int) : Prop := FnIO Try.prog 13 [.ob 900] [(900, .obj (.any (rep_GHeapHeap a0)))] (aI .i64 r) [(900, .obj (.any (rep_GHeapHeap a0)))]
end Go.Proofs.Ytblikpgdepjhdaa

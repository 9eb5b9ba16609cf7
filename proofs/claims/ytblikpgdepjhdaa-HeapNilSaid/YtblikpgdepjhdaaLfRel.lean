/- What it says that functions answer. -/
import Derived.Test.YtblikpgdepjhdaaLfTy
import Derived.Test.YtblikpgdepjhdaaHp
namespace Go.Proofs.Ytblikpgdepjhdaa
open Go.RowKit
set_option linter.unusedVariables false
set_option maxHeartbeats 4000000
def RI_heap_New (a0 : Int) (r : ((Option GHeapHeap) × Int)) : Prop := FnIO Try.prog 16 [aI .i64 a0] [] (optCase r.1 (.tup [aPnil, aI .i64 r.2]) fun y => .tup [.ob 700000, aI .i64 r.2]) (optCase r.1 [] fun y => [(700000, .obj (.any (rep_GHeapHeap y)))])
def RI_heap_Load (a0 : Int) (a1 : (List GApiObj)) (r : ((Option GHeapHeap) × Int)) : Prop := FnIO Try.prog 11 [aI .i64 a0, .t (.sl 4 (a1.map c_GApiObj))] [] (optCase r.1 (.tup [aPnil, aI .i64 r.2]) fun y => .tup [.ob 700000, aI .i64 r.2]) (optCase r.1 [] fun y => [(700000, .obj (.any (rep_GHeapHeap y)))])
def RI_heap_Heap_Copy (a0 : GHeapHeap) (r : ((Option GHeapHeap) × GHeapHeap)) : Prop := FnIO Try.prog 27 [.ob 900] [(900, .obj (.any (rep_GHeapHeap a0)))] (optCase r.1 (aPnil) fun y => .ob 700000) (optCase r.1 [(900, .obj (.any (rep_GHeapHeap r.2)))] fun y => [(900, .obj (.any (rep_GHeapHeap r.2))), (700000, .obj (.any (rep_GHeapHeap y)))])
def RN_heap_Heap_Copy  (r : Unit) : Prop := FnP Try.prog 27 [aPnil] (aPnil)
def RI_heap_Heap_Str (a0 : GHeapHeap) (a1 : (List UInt8)) (r : (GApiValue × Bool × GHeapHeap)) : Prop := FnIO Try.prog 22 [.ob 900, aS a1] [(900, .obj (.any (rep_GHeapHeap a0)))] (.tup [e_GApiValue r.1, aB r.2.1]) [(900, .obj (.any (rep_GHeapHeap r.2.2)))]
def RN_heap_Heap_Str (a1 : (List UInt8)) (r : (GApiValue × Bool)) : Prop := FnP Try.prog 22 [aPnil, aS a1] (.tup [e_GApiValue r.1, aB r.2])
def RI_heap_Heap_List (a0 : GHeapHeap) (a1 : Int) (a2 : Int) (a3 : GApiValue) (r : (GApiValue × Bool × GHeapHeap)) : Prop := FnIO Try.prog 23 [.ob 900, aI .i64 a1, aI .i64 a2, e_GApiValue a3] [(900, .obj (.any (rep_GHeapHeap a0)))] (.tup [e_GApiValue r.1, aB r.2.1]) [(900, .obj (.any (rep_GHeapHeap r.2.2)))]
def RN_heap_Heap_List (a1 : Int) (a2 : Int) (a3 : GApiValue) (r : (GApiValue × Bool)) : Prop := FnP Try.prog 23 [aPnil, aI .i64 a1, aI .i64 a2, e_GApiValue a3] (.tup [e_GApiValue r.1, aB r.2])
def RI_heap_Heap_Rec (a0 : GHeapHeap) (a1 : Int) (a2 : (List GApiValue)) (r : (GApiValue × Bool × GHeapHeap)) : Prop := FnIO Try.prog 24 [.ob 900, aI .i64 a1, .t (.sl 4 (a2.map c_GApiValue))] [(900, .obj (.any (rep_GHeapHeap a0)))] (.tup [e_GApiValue r.1, aB r.2.1]) [(900, .obj (.any (rep_GHeapHeap r.2.2)))]
def RN_heap_Heap_Rec (a1 : Int) (a2 : (List GApiValue)) (r : (GApiValue × Bool)) : Prop := FnP Try.prog 24 [aPnil, aI .i64 a1, .t (.sl 4 (a2.map c_GApiValue))] (.tup [e_GApiValue r.1, aB r.2])
def RI_heap_Heap_Put (a0 : GHeapHeap) (a1 : GApiValue) (a2 : Int) (a3 : GApiValue) (r : (Int × GHeapHeap)) : Prop := FnIO Try.prog 19 [.ob 900, e_GApiValue a1, aI .i64 a2, e_GApiValue a3] [(900, .obj (.any (rep_GHeapHeap a0)))] (aI .u8 r.1) [(900, .obj (.any (rep_GHeapHeap r.2)))]
def RN_heap_Heap_Put (a1 : GApiValue) (a2 : Int) (a3 : GApiValue) (r : Int) : Prop := FnP Try.prog 19 [aPnil, e_GApiValue a1, aI .i64 a2, e_GApiValue a3] (aI .u8 r)
def RI_heap_Heap_Text (a0 : GHeapHeap) (a1 : GApiValue) (r : ((List UInt8) × Bool)) : Prop := FnIO Try.prog 25 [.ob 900, e_GApiValue a1] [(900, .obj (.any (rep_GHeapHeap a0)))] (.tup [aS r.1, aB r.2]) [(900, .obj (.any (rep_GHeapHeap a0)))]
def RN_heap_Heap_Text (a1 : GApiValue) (r : ((List UInt8) × Bool)) : Prop := FnP Try.prog 25 [aPnil, e_GApiValue a1] (.tup [aS r.1, aB r.2])
def RI_heap_Heap_Size (a0 : GHeapHeap) (a1 : GApiValue) (r : (Int × Int)) : Prop := FnIO Try.prog 26 [.ob 900, e_GApiValue a1] [(900, .obj (.any (rep_GHeapHeap a0)))] (.tup [aI .i64 r.1, aI .u8 r.2]) [(900, .obj (.any (rep_GHeapHeap a0)))]
def RN_heap_Heap_Size (a1 : GApiValue) (r : (Int × Int)) : Prop := FnP Try.prog 26 [aPnil, e_GApiValue a1] (.tup [aI .i64 r.1, aI .u8 r.2])
def RI_heap_Heap_Of (a0 : GHeapHeap) (a1 : GApiValue) (r : Int) : Prop := FnIO Try.prog 43 [.ob 900, e_GApiValue a1] [(900, .obj (.any (rep_GHeapHeap a0)))] (aI .i64 r) [(900, .obj (.any (rep_GHeapHeap a0)))]
def RN_heap_Heap_Of (a1 : GApiValue) (r : Int) : Prop := FnP Try.prog 43 [aPnil, e_GApiValue a1] (aI .i64 r)
def RI_heap_Heap_Get (a0 : GHeapHeap) (a1 : GApiValue) (a2 : Int) (r : (GApiValue × Int)) : Prop := FnIO Try.prog 20 [.ob 900, e_GApiValue a1, aI .i64 a2] [(900, .obj (.any (rep_GHeapHeap a0)))] (.tup [e_GApiValue r.1, aI .u8 r.2]) [(900, .obj (.any (rep_GHeapHeap a0)))]
def RN_heap_Heap_Get (a1 : GApiValue) (a2 : Int) (r : (GApiValue × Int)) : Prop := FnP Try.prog 20 [aPnil, e_GApiValue a1, aI .i64 a2] (.tup [e_GApiValue r.1, aI .u8 r.2])
def RI_heap_Heap_Cells (a0 : GHeapHeap) (r : Int) : Prop := FnIO Try.prog 13 [.ob 900] [(900, .obj (.any (rep_GHeapHeap a0)))] (aI .i64 r) [(900, .obj (.any (rep_GHeapHeap a0)))]
def RN_heap_Heap_Cells  (r : Int) : Prop := FnP Try.prog 13 [aPnil] (aI .i64 r)
def RI_heap_Heap_All (a0 : GHeapHeap) (r : (List GApiObj)) : Prop := FnIO Try.prog 14 [.ob 900] [(900, .obj (.any (rep_GHeapHeap a0)))] (.ref 800000) [(900, .obj (.any (rep_GHeapHeap a0))), (800000, .row 27 4 (r.map c_GApiObj))]
def RN_heap_Heap_All  (r : (List GApiObj)) : Prop := FnP Try.prog 14 [aPnil] (.t (.sl 4 (r.map c_GApiObj)))
end Go.Proofs.Ytblikpgdepjhdaa

/- Parts of the proof. -/
import Derived.Test.YtblikpgdepjhdaaHbLf1
namespace Go.Proofs.Ytblikpgdepjhdaa
open Go.RowKit
set_option linter.unusedVariables false
set_option maxRecDepth 100000
set_option maxHeartbeats 4000000
inductive l11_HeapRoom_C where
  | l0 (a0 : Int) (a1 : (List GL11Op)) (v0_8_0 : Int) (b0_7 : GR11H) (o0_1005 : GHeapHeap)
  | j1 (o0_1005 : GHeapHeap)
  | l2 (v2_11_0 : Int) (v2_13_0 : Int) (o0_1005 : GHeapHeap) (r18_1 : (List GApiObj))
  | j3 (v2_11_0 : Int) (o0_1005 : GHeapHeap)
inductive r11_Load_C where
  | l0 (a0 : Int) (a1 : (List GApiObj)) (v0_20_0 : Int)
  | j1 (a0 : Int) (a1 : (List GApiObj))
  | l2 (a0 : Int) (a1 : (List GApiObj)) (v2_33_0 : Int) (m2_6_1 : Int)
  | j3 (a1 : (List GApiObj)) (a0 : Int) (m2_6_1 : Int)
inductive r11_Great_C where
  | l0 (a0 : (List GApiObj)) (v0_3_0 : Int) (v0_7_0 : Int)
  | j1
end Go.Proofs.Ytblikpgdepjhdaa

/- Parts of the proof. -/
import Derived.Test.YtmffhifkdbfbfaaFeLf2
namespace Go.Proofs.Ytmffhifkdbfbfaa
open Go.RowKit
set_option linter.unusedVariables false
set_option maxHeartbeats 4000000
inductive hindcastref11_SameValues_C where
  | l0 (a0 : (List GApiValue)) (a1 : (List GApiValue)) (v0_13_0 : Int)
  | j1
inductive hindcastref11_Same_C where
  | l0 (a0 : (List GApiObj)) (a1 : (List GApiObj)) (v0_13_0 : Int)
  | j1
inductive oper_Built_C where
  | l0 (a2 : Int) (a3 : (List GApiValue)) (r1_1 : ((List Int) × Bool)) (v0_36_0 : Int) (a1 : GOperFeed) (a0 : GHeapHeap)
  | j1 (a2 : Int) (a3 : (List GApiValue)) (a1 : GOperFeed) (a0 : GHeapHeap)
end Go.Proofs.Ytmffhifkdbfbfaa

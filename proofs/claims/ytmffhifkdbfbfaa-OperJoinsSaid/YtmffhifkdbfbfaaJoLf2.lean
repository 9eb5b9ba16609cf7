/- Parts of the proof. -/
import Derived.Test.YtmffhifkdbfbfaaJoLf1
namespace Go.Proofs.Ytmffhifkdbfbfaa
open Go.RowKit
set_option linter.unusedVariables false
set_option maxHeartbeats 4000000
inductive hindcastref11_Load_C where
  | l0 (a0 : Int) (a1 : (List GApiObj)) (v0_20_0 : Int)
  | j1 (a0 : Int) (a1 : (List GApiObj))
  | l2 (a0 : Int) (a1 : (List GApiObj)) (v2_33_0 : Int) (m2_6_1 : Int)
  | j3 (a1 : (List GApiObj)) (a0 : Int) (m2_6_1 : Int)
inductive hindcastref11_Great_C where
  | l0 (a0 : (List GApiObj)) (v0_3_0 : Int) (v0_7_0 : Int)
  | j1
end Go.Proofs.Ytmffhifkdbfbfaa

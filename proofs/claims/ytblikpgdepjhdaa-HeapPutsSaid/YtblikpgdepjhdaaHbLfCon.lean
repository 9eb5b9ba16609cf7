/- Parts of the proof. -/
import Derived.Test.YtblikpgdepjhdaaHbXF
namespace Go.Proofs.Ytblikpgdepjhdaa
open Go.RowKit
set_option linter.unusedVariables false
set_option maxRecDepth 100000
set_option maxHeartbeats 4000000
inductive slices_IndexFunc_api_Obj_C where
  | l0 (a0 : (List GApiObj)) (a1 : Fv67) (v0_8_0 : Int)
  | j1
end Go.Proofs.Ytblikpgdepjhdaa

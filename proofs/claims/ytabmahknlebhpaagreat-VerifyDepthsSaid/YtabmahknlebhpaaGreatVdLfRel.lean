/- Parts of the proof. -/
import Derived.Test.YtabmahknlebhpaaGreatVdLfTy
namespace Go.Proofs.YtabmahknlebhpaaGreat
open Go.RowKit
set_option linter.unusedVariables false
set_option maxRecDepth 100000
set_option maxHeartbeats 4000000
def R_r01_Of (a0 : Int) (r : GR01D) : Prop := FnP Tryz.prog 116 [aI .i64 a0] (e_GR01D r)
def R_r01_D_Number (a0 : GR01D) (r : Int) : Prop := FnP Tryz.prog 117 [e_GR01D a0] (aI .i64 r)
def R_r01_Minus (a0 : GR01D) (r : GR01D) : Prop := FnP Tryz.prog 115 [e_GR01D a0] (e_GR01D r)
end Go.Proofs.YtabmahknlebhpaaGreat

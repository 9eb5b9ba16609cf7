/- Parts of the proof. -/
import Derived.Test.YtabmahknlebhpaaGreatVdQA
import Derived.Test.YtabmahknlebhpaaGreatVdQR
namespace Go.Proofs.YtabmahknlebhpaaGreat
set_option linter.unusedVariables false
set_option maxRecDepth 100000
theorem awake_at : f_l17_awake = some ((true, ()), ()) := Q_run (i := .l17_awake) (r := ((true, ()), ())) (by kernel_rfl)
end Go.Proofs.YtabmahknlebhpaaGreat

/- Parts of the proof. -/
import Derived.Test.YtblikpgdepjhdaaHaHpList
namespace Go.Proofs.Ytblikpgdepjhdaa
open Go.RowKit
set_option linter.unusedVariables false
def GHeapHeap.put (H : GHeapHeap) (k n i : Int) (x : GApiValue) : Int × GHeapHeap :=
  match H.at_ k n with
  | none => (3, H)
  | some o => if k = 3 then (3, H) else if i < 0 ∨ (o.Vals.length : Int) ≤ i then (2, H) else (0, ⟨H.room, H.cells, H.l.set (n - 1).toNat { o with Vals := o.Vals.set i.toNat x }⟩)
end Go.Proofs.Ytblikpgdepjhdaa

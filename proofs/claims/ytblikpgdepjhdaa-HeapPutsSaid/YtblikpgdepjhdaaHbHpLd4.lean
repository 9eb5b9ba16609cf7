/- Parts of the proof. -/
import Derived.Test.YtblikpgdepjhdaaHbHpLd2
namespace Go.Proofs.Ytblikpgdepjhdaa
open Go.RowKit
set_option linter.unusedVariables false
set_option maxHeartbeats 8000000
set_option maxRecDepth 100000
theorem cells_same {H : GHeapHeap} {M own : Nat → Prop} {b : Nat} {pls : List OPl} {ps : List Value} {lv : Value} {w : World} (h : HeapAt H w M own b pls ps lv) :
    Calls Try.prog 13 #[.pointer (some ⟨b, 0, none⟩)] w fun e w' => e = .returned (.int .i64 H.cells) ∧ w' = w := by
  have hc := has_cell h.head
  have hf := has_free h.head
  have hsz := has_lt h.head
  go_enter Try.func13, Try.ntmps13
  go_wp2_with fail
  go_ret
  exact ⟨rfl, rfl⟩
end Go.Proofs.Ytblikpgdepjhdaa

/- Parts of the proof. -/
import Derived.Test.YtmffhifkdbfbfaaJoHpLaw
namespace Go.Proofs.Ytmffhifkdbfbfaa
open Go.RowKit
set_option linter.unusedVariables false
set_option maxHeartbeats 2000000
theorem strO {H : GHeapHeap} (s : List UInt8) (h : s.length ≤ 1000000000) : xheap_Heap_Str H s = some (H.str s) := by unfold xheap_Heap_Str; rw [if_pos (show s.length < 4611686018427387904 by omega)]
theorem new_inv {c : Int} (h : ¬ (c < 0 ∨ 65536 < c)) : HInv (GHeapHeap.new c) := ⟨by simp [GHeapHeap.new], by simp [GHeapHeap.new]; omega, by simp [GHeapHeap.new]; omega, by simp [GHeapHeap.new], fun o ho => by simp [GHeapHeap.new] at ho⟩
end Go.Proofs.Ytmffhifkdbfbfaa

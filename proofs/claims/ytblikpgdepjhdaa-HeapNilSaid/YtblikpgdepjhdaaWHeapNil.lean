/- The walk of the law HeapNil. -/
import Derived.Test.YtblikpgdepjhdaaHpLaw4
import Derived.Test.YtblikpgdepjhdaaLfOp
namespace Go.Proofs.Ytblikpgdepjhdaa
open Go.RowKit
set_option linter.unusedVariables false
set_option maxHeartbeats 4000000
set_option maxRecDepth 100000 in
theorem heapNil_walk {H : Type} {enc : TypeId × Value → H} {r : Reach} {b0 : Nat} {W : World} (v0 : Value) (d0 : DataW H) (p0 : List MemPlace) (ok0 : Value.okWide Try.prog W r b0 48 v0) (h0 : DataW.Trod enc Try.prog W 0 (fun _ => true) true 48 v0 d0 p0) (W2 : World) :
    Calls Try.prog 7 #[v0] W fun e w' => e = .returned (.bool true) ∧ Below W.heap.size W w' := by
  obtain ⟨ts0, ht0, hr0⟩ := open_arg (t := 48) (es := [.int .i64, .int .i64, .int .i64, .str, .int .u8, .int .i64, .int .i64, .int .i64, .int .u8, .int .i64, .int .i64, .int .i64, .sl [.int .u8, .int .i64, .int .i64, .int .i64]]) (by kernel_rfl) (by kernel_rfl) ok0 h0
  obtain ⟨x0, e0, hx0⟩ := open_GHindcastlaw11Op ht0
  rw [e0] at hr0
  refine law_of (f := 7) (args := [e_GHindcastlaw11Op x0]) (hindcastlaw11_HeapNil_ok (heapNil_all x0 hx0)) (by rfl) (fun i hi => ?_)
  match i, hi with
  | 0, _ => exact (show argA Try.prog 48 (c_GHindcastlaw11Op x0) = e_GHindcastlaw11Op x0 by kernel_rfl) ▸ hr0
end Go.Proofs.Ytblikpgdepjhdaa

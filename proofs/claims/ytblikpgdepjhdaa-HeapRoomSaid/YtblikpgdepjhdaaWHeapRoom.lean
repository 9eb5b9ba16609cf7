/- The walk of the law HeapRoom. -/
import Derived.Test.YtblikpgdepjhdaaHpLaw4
import Derived.Test.YtblikpgdepjhdaaLfOp
namespace Go.Proofs.Ytblikpgdepjhdaa
open Go.RowKit
set_option linter.unusedVariables false
set_option maxHeartbeats 4000000
set_option maxRecDepth 100000 in
theorem heapRoom_walk {H : Type} {enc : TypeId × Value → H} {r : Reach} {b0 : Nat} {W : World} (a0 : Int) (w0 : (Lit.int .i64 a0).wf = true) (v1 : Value) (d1 : DataW H) (p1 : List MemPlace) (ok1 : Value.okWide Try.prog W r b0 40 v1) (h1 : DataW.Trod enc Try.prog W 0 (fun _ => true) true 40 v1 d1 p1) (W2 : World) :
    Calls Try.prog 6 #[.int .i64 a0, v1] W fun e w' => e = .returned (.bool true) ∧ Below W.heap.size W w' := by
  obtain ⟨ts1, ht1, hr1⟩ := open_arg (t := 40) (es := [.sl [.int .i64, .int .i64, .int .i64, .str, .int .u8, .int .i64, .int .i64, .int .i64, .int .u8, .int .i64, .int .i64, .int .i64, .sl [.int .u8, .int .i64, .int .i64, .int .i64]]]) (by kernel_rfl) (by kernel_rfl) ok1 h1
  obtain ⟨x1, e1, hx1⟩ := (open_L c_GHindcastlaw11Op (fun x => ok_GHindcastlaw11Op x) (fun _ h => open_GHindcastlaw11Op h) (by rfl)) ht1
  rw [e1] at hr1
  refine law_of (f := 6) (args := [aI .i64 a0, .t (.sl 13 (x1.map c_GHindcastlaw11Op))]) (hindcastlaw11_HeapRoom_ok (heapRoom_all a0 x1 (wf_int w0) hx1)) (by rfl) (fun i hi => ?_)
  match i, hi with
  | 0, _ => exact .t _ _ (.v _ rfl)
  | 1, _ => exact (show argA Try.prog 40 ((c_L 13 c_GHindcastlaw11Op) x1) = .t (.sl 13 (x1.map c_GHindcastlaw11Op)) by kernel_rfl) ▸ hr1
end Go.Proofs.Ytblikpgdepjhdaa

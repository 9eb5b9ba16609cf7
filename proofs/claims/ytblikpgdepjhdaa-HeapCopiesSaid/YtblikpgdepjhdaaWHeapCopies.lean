/- The walk of the law HeapCopies. -/
import Derived.Test.YtblikpgdepjhdaaHpLaw5
import Derived.Test.YtblikpgdepjhdaaLfOp
namespace Go.Proofs.Ytblikpgdepjhdaa
open Go.RowKit
set_option linter.unusedVariables false
set_option maxHeartbeats 4000000
set_option maxRecDepth 100000 in
theorem heapCopies_walk {H : Type} {enc : TypeId × Value → H} {r : Reach} {b0 : Nat} {W : World} (v0 : Value) (d0 : DataW H) (p0 : List MemPlace) (ok0 : Value.okWide Try.prog W r b0 40 v0) (h0 : DataW.Trod enc Try.prog W 0 (fun _ => true) true 40 v0 d0 p0) (v1 : Value) (d1 : DataW H) (p1 : List MemPlace) (ok1 : Value.okWide Try.prog W r b0 40 v1) (h1 : DataW.Trod enc Try.prog W 0 (fun _ => true) true 40 v1 d1 p1) (v2 : Value) (d2 : DataW H) (p2 : List MemPlace) (ok2 : Value.okWide Try.prog W r b0 40 v2) (h2 : DataW.Trod enc Try.prog W 0 (fun _ => true) true 40 v2 d2 p2) (W2 : World) :
    Calls Try.prog 8 #[v0, v1, v2] W fun e w' => e = .returned (.bool true) ∧ Below W.heap.size W w' := by
  obtain ⟨ts0, ht0, hr0⟩ := open_arg (t := 40) (es := [.sl [.int .i64, .int .i64, .int .i64, .str, .int .u8, .int .i64, .int .i64, .int .i64, .int .u8, .int .i64, .int .i64, .int .i64, .sl [.int .u8, .int .i64, .int .i64, .int .i64]]]) (by kernel_rfl) (by kernel_rfl) ok0 h0
  obtain ⟨x0, e0, hx0⟩ := (open_L c_GHindcastlaw11Op (fun x => ok_GHindcastlaw11Op x) (fun _ h => open_GHindcastlaw11Op h) (by rfl)) ht0
  rw [e0] at hr0
  obtain ⟨ts1, ht1, hr1⟩ := open_arg (t := 40) (es := [.sl [.int .i64, .int .i64, .int .i64, .str, .int .u8, .int .i64, .int .i64, .int .i64, .int .u8, .int .i64, .int .i64, .int .i64, .sl [.int .u8, .int .i64, .int .i64, .int .i64]]]) (by kernel_rfl) (by kernel_rfl) ok1 h1
  obtain ⟨x1, e1, hx1⟩ := (open_L c_GHindcastlaw11Op (fun x => ok_GHindcastlaw11Op x) (fun _ h => open_GHindcastlaw11Op h) (by rfl)) ht1
  rw [e1] at hr1
  obtain ⟨ts2, ht2, hr2⟩ := open_arg (t := 40) (es := [.sl [.int .i64, .int .i64, .int .i64, .str, .int .u8, .int .i64, .int .i64, .int .i64, .int .u8, .int .i64, .int .i64, .int .i64, .sl [.int .u8, .int .i64, .int .i64, .int .i64]]]) (by kernel_rfl) (by kernel_rfl) ok2 h2
  obtain ⟨x2, e2, hx2⟩ := (open_L c_GHindcastlaw11Op (fun x => ok_GHindcastlaw11Op x) (fun _ h => open_GHindcastlaw11Op h) (by rfl)) ht2
  rw [e2] at hr2
  refine law_of (f := 8) (args := [.t (.sl 13 (x0.map c_GHindcastlaw11Op)), .t (.sl 13 (x1.map c_GHindcastlaw11Op)), .t (.sl 13 (x2.map c_GHindcastlaw11Op))]) (hindcastlaw11_HeapCopies_ok (heapCopies_all x0 x1 x2 hx0 hx1 hx2)) (by rfl) (fun i hi => ?_)
  match i, hi with
  | 0, _ => exact (show argA Try.prog 40 ((c_L 13 c_GHindcastlaw11Op) x0) = .t (.sl 13 (x0.map c_GHindcastlaw11Op)) by kernel_rfl) ▸ hr0
  | 1, _ => exact (show argA Try.prog 40 ((c_L 13 c_GHindcastlaw11Op) x1) = .t (.sl 13 (x1.map c_GHindcastlaw11Op)) by kernel_rfl) ▸ hr1
  | 2, _ => exact (show argA Try.prog 40 ((c_L 13 c_GHindcastlaw11Op) x2) = .t (.sl 13 (x2.map c_GHindcastlaw11Op)) by kernel_rfl) ▸ hr2
end Go.Proofs.Ytblikpgdepjhdaa

/- Parts of the proof. -/
import Derived.Test.YtmffhifkdbfbfaaFeOpLaw1
import Derived.Test.YtmffhifkdbfbfaaFeLfOp
namespace Go.Proofs.Ytmffhifkdbfbfaa
open Go.RowKit
set_option linter.unusedVariables false
set_option maxHeartbeats 4000000
set_option maxRecDepth 100000 in
theorem operFeeds_walk {H : Type} {enc : TypeId × Value → H} {r : Reach} {b0 : Nat} {W : World} (v0 : Value) (d0 : DataW H) (p0 : List MemPlace) (ok0 : Value.okWide Try.prog W r b0 28 v0) (h0 : DataW.Trod enc Try.prog W 0 (fun _ => true) true 28 v0 d0 p0) (v1 : Value) (d1 : DataW H) (p1 : List MemPlace) (ok1 : Value.okWide Try.prog W r b0 28 v1) (h1 : DataW.Trod enc Try.prog W 0 (fun _ => true) true 28 v1 d1 p1) (a2 : Int) (w2 : (Lit.int .i64 a2).wf = true) (a3 : Int) (w3 : (Lit.int .i64 a3).wf = true) (a4 : Int) (w4 : (Lit.int .i64 a4).wf = true) (W2 : World) :
    Calls Try.prog 4 #[v0, v1, .int .i64 a2, .int .i64 a3, .int .i64 a4] W fun e w' => e = .returned (.bool true) ∧ Below W.heap.size W w' := by
 obtain ⟨ts0, ht0, hr0⟩ := open_arg (t := 28) (es := [.sl [.int .i64]]) (by kernel_rfl) (by kernel_rfl) ok0 h0
 obtain ⟨x0, e0, hx0⟩ := (open_L c_i64 (fun x => okI .i64 x) (fun _ h => open_I h) (by rfl)) ht0
 rw [e0] at hr0
 obtain ⟨ts1, ht1, hr1⟩ := open_arg (t := 28) (es := [.sl [.int .i64]]) (by kernel_rfl) (by kernel_rfl) ok1 h1
 obtain ⟨x1, e1, hx1⟩ := (open_L c_i64 (fun x => okI .i64 x) (fun _ h => open_I h) (by rfl)) ht1
 rw [e1] at hr1
 refine law_of (f := 4) (args := [.t (.sl 1 (x0.map c_i64)), .t (.sl 1 (x1.map c_i64)), aI .i64 a2, aI .i64 a3, aI .i64 a4]) (hindcastlaw13_OperFeeds_ok (operFeeds_all x0 x1 a2 a3 a4 hx0 hx1 (wf_int w2) (wf_int w3) (wf_int w4))) (by rfl) (fun i hi => ?_)
 match i, hi with
 | 0, _ => exact (show argA Try.prog 28 ((c_L 1 c_i64) x0) = .t (.sl 1 (x0.map c_i64)) by kernel_rfl) ▸ hr0
 | 1, _ => exact (show argA Try.prog 28 ((c_L 1 c_i64) x1) = .t (.sl 1 (x1.map c_i64)) by kernel_rfl) ▸ hr1
 | 2, _ => exact .t _ _ (.v _ rfl)
 | 3, _ => exact .t _ _ (.v _ rfl)
 | 4, _ => exact .t _ _ (.v _ rfl)
end Go.Proofs.Ytmffhifkdbfbfaa

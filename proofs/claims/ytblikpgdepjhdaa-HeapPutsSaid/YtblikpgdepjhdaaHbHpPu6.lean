/- Parts of the proof. -/
import Derived.Test.YtblikpgdepjhdaaHbHpPu4
import Derived.Test.YtblikpgdepjhdaaHbLfOp
namespace Go.Proofs.Ytblikpgdepjhdaa
open Go.RowKit
set_option linter.unusedVariables false
set_option maxRecDepth 100000
set_option maxHeartbeats 4000000
set_option maxRecDepth 100000 in
theorem heapPuts_walk {H : Type} {enc : TypeId × Value → H} {r : Reach} {b0 : Nat} {W : World} (v0 : Value) (d0 : DataW H) (p0 : List MemPlace) (ok0 : Value.okWide Try.prog W r b0 40 v0) (h0 : DataW.Trod enc Try.prog W 0 (fun _ => true) true 40 v0 d0 p0) (s0 : ∀ q ∈ d0.weights Try.prog 40, q ≤ reachBytes)
    (v1 : Value) (d1 : DataW H) (p1 : List MemPlace) (ok1 : Value.okWide Try.prog W r b0 46 v1) (h1 : DataW.Trod enc Try.prog W 0 (fun _ => true) true 46 v1 d1 p1) (s1 : ∀ q ∈ d1.weights Try.prog 46, q ≤ reachBytes)
    (v2 : Value) (d2 : DataW H) (p2 : List MemPlace) (ok2 : Value.okWide Try.prog W r b0 46 v2) (h2 : DataW.Trod enc Try.prog W 0 (fun _ => true) true 46 v2 d2 p2) (s2 : ∀ q ∈ d2.weights Try.prog 46, q ≤ reachBytes) (a3 : Int) (w3 : (Lit.int .i64 a3).wf = true) (W2 : World) :
    Calls Try.prog 5 #[v0, v1, v2, .int .i64 a3] W fun e w' => e = .returned (.bool true) ∧ Below W.heap.size W w' := by
  obtain ⟨ts0, ht0, hr0⟩ := open_arg (t := 40) (es := [.sl [.int .i64, .int .i64, .int .i64, .str, .int .u8, .int .i64, .int .i64, .int .i64, .int .u8, .int .i64, .int .i64, .int .i64, .sl [.int .u8, .int .i64, .int .i64, .int .i64]]]) (by kernel_rfl) (by kernel_rfl) ok0 h0 s0
  obtain ⟨l, e0, hl1, hl2⟩ := (open_L c_GL11Op (fun x => ok_GL11Op x) (fun _ h => open_GL11Op h) (by rfl)) ht0
  rw [e0] at hr0
  have hr : RepF W (fun _ => False) (.t (.sl 13 (l.map c_GL11Op))) v0 := (show argA Try.prog 40 ((c_L 13 c_GL11Op) l) = .t (.sl 13 (l.map c_GL11Op)) by kernel_rfl) ▸ hr0
  have hv : OpsT W l v0 := rep_t hr
  obtain ⟨ts1, ht1, hr1⟩ := open_arg (t := 46) (es := [.int .u8, .int .i64, .int .i64, .int .i64]) (by kernel_rfl) (by kernel_rfl) ok1 h1 s1
  obtain ⟨x1, e1, _⟩ := open_GApiValue ht1
  rw [e1] at hr1
  have q1 : RepF W (fun _ => False) (e_GApiValue x1) v1 := (show argA Try.prog 46 (c_GApiValue x1) = e_GApiValue x1 by kernel_rfl) ▸ hr1
  obtain ⟨ts2, ht2, hr2⟩ := open_arg (t := 46) (es := [.int .u8, .int .i64, .int .i64, .int .i64]) (by kernel_rfl) (by kernel_rfl) ok2 h2 s2
  obtain ⟨x2, e2, _⟩ := open_GApiValue ht2
  rw [e2] at hr2
  have q2 : RepF W (fun _ => False) (e_GApiValue x2) v2 := (show argA Try.prog 46 (c_GApiValue x2) = e_GApiValue x2 by kernel_rfl) ▸ hr2
  rw [repF_value q1, repF_value q2]
  obtain ⟨b, hg, hsm⟩ := great_spec l
  cases b with
  | true => exact puts_great hv hg
  | false => exact puts_raw hv hg (hsm rfl).1 (hsm rfl).2
end Go.Proofs.Ytblikpgdepjhdaa

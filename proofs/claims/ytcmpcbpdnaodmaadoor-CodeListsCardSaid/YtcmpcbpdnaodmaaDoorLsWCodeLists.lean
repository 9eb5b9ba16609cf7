/- Parts of the proof. -/
import Derived.Test.YtcmpcbpdnaodmaaDoorLsLcLaw
namespace Go.Proofs.YtcmpcbpdnaodmaaDoor
open Go.RowKit
set_option linter.unusedVariables false
set_option maxRecDepth 100000
set_option maxHeartbeats 4000000
theorem codeLists_walk {H : Type} {enc : TypeId × Value → H} {r : Reach} {b0 : Nat} {W : World} (v0 : Value) (d0 : DataW H) (p0 : List MemPlace) (ok0 : Value.okWide Tryd.prog W r b0 26 v0) (h0 : DataW.Trod enc Tryd.prog W 0 (fun _ => true) true 26 v0 d0 p0) (s0 : ∀ q ∈ d0.weights Tryd.prog 26, q ≤ reachBytes) (a1 : Int) (w1 : (Lit.int .i64 a1).wf = true) (a2 : Int) (w2 : (Lit.int .u8 a2).wf = true) (ht : Lib.TabIs Tryd.prog W "internal/strconv.uint64pow10" .u64 Lib.pow10Tab) :
    Calls Tryd.prog 3 #[v0, .int .i64 a1, .int .u8 a2] W fun e w' => e = .returned (.bool true) ∧ Below W.heap.size W w' := by
  obtain ⟨ts0, ht0, hr0⟩ := open_arg (t := 26) (es := [.sl [.int .u8, .int .i64, .int .i64], .sl [.int .i64, .int .i64, .int .i64, .int .i64, .int .i64], .sl [.str]]) (by kernel_rfl) (by kernel_rfl) ok0 h0 s0
  obtain ⟨x0, e0, hx0⟩ := open_GApiCode ht0
  rw [e0] at hr0
  have hr : RepF W (fun _ => False) (e_GApiCode x0) v0 := (show argA Tryd.prog 26 (c_GApiCode x0) = e_GApiCode x0 by kernel_rfl) ▸ hr0
  obtain ⟨v1, v2, v3, rfl, hC⟩ := code_val hr
  have hop : 0 ≤ a2 ∧ a2 < 256 := by
    simp [Lit.wf, IntKind.min, IntKind.max, IntKind.signed, IntKind.bits] at w2
    omega
  have hins : ∀ x ∈ x0.Ins, ok_GApiIns x := hx0.1.2
  refine codeLists_raw W x0 v1 v2 v3 hC a1 a2 hop.1 hop.2 (fun x hx => ?_) (fun x hx => ?_) ht
  · have := hins x hx
    simp [ok_GApiIns, okI, Lit.wf, IntKind.min, IntKind.max, IntKind.signed, IntKind.bits] at this
    omega
  · have := hins x hx
    simp [ok_GApiIns, okI, Lit.wf, IntKind.min, IntKind.max, IntKind.signed, IntKind.bits] at this
    omega
end Go.Proofs.YtcmpcbpdnaodmaaDoor

/- What is known of arguments. -/
import Derived.Test.YtahioekdpndohaaLfTy
import Derived.Test.YtahioekdpndohaaXG
namespace Go.Proofs.Ytahioekdpndohaa
open Go.RowKit
set_option linter.unusedVariables false
set_option maxHeartbeats 4000000
/-- In the range of its kind. -/
def okI (k : IntKind) (n : Int) : Prop := k.min ≤ n ∧ n ≤ k.max
theorem okI_i64 {n : Int} (h : okI .i64 n) : -9223372036854775808 ≤ n ∧ n ≤ 9223372036854775807 := by
  unfold okI IntKind.min IntKind.max at h; simp only [IntKind.signed, IntKind.bits] at h; simp at h; omega
theorem okI_u8 {n : Int} (h : okI .u8 n) : 0 ≤ n ∧ n ≤ 255 := by
  unfold okI IntKind.min IntKind.max at h; simp only [IntKind.signed, IntKind.bits] at h; simp at h; omega
theorem open_I {k : IntKind} {ts : List T} (h : TypedL [.int k] ts) : ∃ n, ts = [tI k n] ∧ okI k n := by
  obtain ⟨t, us, rfl, h1, h2⟩ := typed_cons h
  have := typed_nil h2; subst this
  obtain ⟨n, rfl, hw⟩ := typed_int h1
  exact ⟨n, rfl, wf_int hw⟩
theorem open_B {ts : List T} (h : TypedL [.bool] ts) : ∃ b, ts = [tB b] ∧ True := by
  obtain ⟨t, us, rfl, h1, h2⟩ := typed_cons h
  have := typed_nil h2; subst this
  obtain ⟨n, rfl⟩ := typed_bool h1
  exact ⟨n, rfl, trivial⟩
theorem open_S {ts : List T} (h : TypedL [.str] ts) : ∃ s : List UInt8, ts = [tS s] ∧ s.length ≤ maxLen := by
  obtain ⟨t, us, rfl, h1, h2⟩ := typed_cons h
  have := typed_nil h2; subst this
  obtain ⟨n, rfl, hw⟩ := typed_str h1
  exact ⟨n.data.toList, rfl, hw⟩
theorem open_L {es : List Sh} {α : Type} (f : α → List T) (good : α → Prop) (hf : ∀ ts, TypedL es ts → ∃ a, ts = f a ∧ good a) {k : Nat} (hk : es.length = k) {ts : List T} (h : TypedL [.sl es] ts) : ∃ l : List α, ts = c_L k f l ∧ (l.length ≤ maxLen ∧ ∀ a ∈ l, good a) := by
  obtain ⟨t, us, rfl, h1, h2⟩ := typed_cons h
  have := typed_nil h2; subst this
  obtain ⟨l, rfl, h3, h4⟩ := typed_sl h1 f good hf
  subst hk
  exact ⟨l, rfl, h3, h4⟩
def ok_GApiNode (x : GApiNode) : Prop := okI .u8 x.Kind ∧ okI .i64 x.Line ∧ okI .i64 x.Col ∧ okI .i64 x.Size ∧ okI .i64 x.Num ∧ x.Text.length ≤ maxLen
set_option maxRecDepth 100000 in
theorem open_GApiNode {ts : List T} (h : TypedL [.int .u8, .int .i64, .int .i64, .int .i64, .int .i64, .str] ts) : ∃ x : GApiNode, ts = c_GApiNode x ∧ ok_GApiNode x := by
  obtain ⟨t0, us0, rfl, h0, g0⟩ := typed_cons h
  obtain ⟨x0, e0, k0⟩ := open_I (typed_one h0)
  injection e0 with e0 _; subst e0
  obtain ⟨t1, us1, rfl, h1, g1⟩ := typed_cons g0
  obtain ⟨x1, e1, k1⟩ := open_I (typed_one h1)
  injection e1 with e1 _; subst e1
  obtain ⟨t2, us2, rfl, h2, g2⟩ := typed_cons g1
  obtain ⟨x2, e2, k2⟩ := open_I (typed_one h2)
  injection e2 with e2 _; subst e2
  obtain ⟨t3, us3, rfl, h3, g3⟩ := typed_cons g2
  obtain ⟨x3, e3, k3⟩ := open_I (typed_one h3)
  injection e3 with e3 _; subst e3
  obtain ⟨t4, us4, rfl, h4, g4⟩ := typed_cons g3
  obtain ⟨x4, e4, k4⟩ := open_I (typed_one h4)
  injection e4 with e4 _; subst e4
  obtain ⟨t5, us5, rfl, h5, g5⟩ := typed_cons g4
  obtain ⟨x5, e5, k5⟩ := open_S (typed_one h5)
  injection e5 with e5 _; subst e5
  have hn := typed_nil g5; subst hn
  exact ⟨(GApiNode.mk x0 x1 x2 x3 x4 x5), rfl, ⟨k0, k1, k2, k3, k4, k5⟩⟩
end Go.Proofs.Ytahioekdpndohaa

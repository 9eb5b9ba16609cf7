/- Parts of the proof. -/
import Derived.Test.YtblikpgdepjhdaaHbXF
import Derived.Test.YtblikpgdepjhdaaHbXG
namespace Go.Proofs.Ytblikpgdepjhdaa
open Go.RowKit
set_option linter.unusedVariables false
set_option maxRecDepth 100000
set_option maxHeartbeats 4000000
def okI (k : IntKind) (n : Int) : Prop := k.min ≤ n ∧ n ≤ k.max
theorem open_I {k : IntKind} {ts : List T} (h : TypedL [.int k] ts) : ∃ n, ts = [tI k n] ∧ okI k n := by
  obtain ⟨t, us, rfl, h1, h2⟩ := typed_cons h
  have := typed_nil h2; subst this
  obtain ⟨n, rfl, hw⟩ := typed_int h1
  exact ⟨n, rfl, wf_int hw⟩
theorem open_S {ts : List T} (h : TypedL [.str] ts) : ∃ s : List UInt8, ts = [tS s] ∧ s.length ≤ 140737488351232 := by
  obtain ⟨t, us, rfl, h1, h2⟩ := typed_cons h
  have := typed_nil h2; subst this
  obtain ⟨n, rfl, hw⟩ := typed_str h1
  exact ⟨n.data.toList, rfl, hw⟩
theorem open_L {es : List ShO} {α : Type} (f : α → List T) (good : α → Prop) (hf : ∀ ts, TypedL es ts → ∃ a, ts = f a ∧ good a) {k : Nat} (hk : es.length = k) {ts : List T} (h : TypedL [.sl es] ts) : ∃ l : List α, ts = c_L k f l ∧ (l.length ≤ 140737488351232 ∧ ∀ a ∈ l, good a) := by
  obtain ⟨t, us, rfl, h1, h2⟩ := typed_cons h
  have := typed_nil h2; subst this
  obtain ⟨l, rfl, h3, h4⟩ := typed_sl h1 f good hf
  subst hk
  exact ⟨l, rfl, h3, h4⟩
def ok_GApiValue (x : GApiValue) : Prop := okI .u8 x.Kind ∧ okI .i64 x.N ∧ okI .i64 x.Re ∧ okI .i64 x.Im
set_option maxRecDepth 100000 in
theorem open_GApiValue {ts : List T} (h : TypedL [.int .u8, .int .i64, .int .i64, .int .i64] ts) : ∃ x : GApiValue, ts = c_GApiValue x ∧ ok_GApiValue x := by
 obtain ⟨t0, us0, rfl, h0, g0⟩ := typed_cons h
 obtain ⟨x0, e0, k0⟩ := open_I (typed_one h0)
 injection e0 with e0 _; subst e0
 obtain ⟨t1, us1, rfl, h1, g1⟩ := typed_cons g0
 obtain ⟨x1, e1, k1⟩ := open_I (typed_one h1)
 injection e1 with e1 _; subst e1
 obtain ⟨t2, us2, rfl, h2, g2⟩ := typed_cons g1
 obtain ⟨x2, e2, k2⟩ := open_I (typed_one h2)
 injection e2 with e2 _; subst e2
 obtain ⟨t3, us3, rfl, h3, g3⟩ := typed_cons g2
 obtain ⟨x3, e3, k3⟩ := open_I (typed_one h3)
 injection e3 with e3 _; subst e3
 have hn := typed_nil g3; subst hn
 exact ⟨(GApiValue.mk x0 x1 x2 x3), rfl, ⟨k0, k1, k2, k3⟩⟩
def ok_GL11Op (x : GL11Op) : Prop := okI .i64 x.Kind ∧ okI .i64 x.Of ∧ okI .i64 x.N ∧ x.Text.length ≤ 140737488351232 ∧ ok_GApiValue x.V ∧ ok_GApiValue x.X ∧ (x.Vals.length ≤ 140737488351232 ∧ ∀ y ∈ x.Vals, ok_GApiValue y)
set_option maxRecDepth 100000 in
theorem open_GL11Op {ts : List T} (h : TypedL [.int .i64, .int .i64, .int .i64, .str, .int .u8, .int .i64, .int .i64, .int .i64, .int .u8, .int .i64, .int .i64, .int .i64, .sl [.int .u8, .int .i64, .int .i64, .int .i64]] ts) : ∃ x : GL11Op, ts = c_GL11Op x ∧ ok_GL11Op x := by
 obtain ⟨t0, us0, rfl, h0, g0⟩ := typed_cons h
 obtain ⟨x0, e0, k0⟩ := open_I (typed_one h0)
 injection e0 with e0 _; subst e0
 obtain ⟨t1, us1, rfl, h1, g1⟩ := typed_cons g0
 obtain ⟨x1, e1, k1⟩ := open_I (typed_one h1)
 injection e1 with e1 _; subst e1
 obtain ⟨t2, us2, rfl, h2, g2⟩ := typed_cons g1
 obtain ⟨x2, e2, k2⟩ := open_I (typed_one h2)
 injection e2 with e2 _; subst e2
 obtain ⟨t3, us3, rfl, h3, g3⟩ := typed_cons g2
 obtain ⟨x3, e3, k3⟩ := open_S (typed_one h3)
 injection e3 with e3 _; subst e3
 obtain ⟨t4, us4, rfl, h4, g4⟩ := typed_cons g3
 obtain ⟨x4, e4, k4⟩ := open_I (typed_one h4)
 injection e4 with e4 _; subst e4
 obtain ⟨t5, us5, rfl, h5, g5⟩ := typed_cons g4
 obtain ⟨x5, e5, k5⟩ := open_I (typed_one h5)
 injection e5 with e5 _; subst e5
 obtain ⟨t6, us6, rfl, h6, g6⟩ := typed_cons g5
 obtain ⟨x6, e6, k6⟩ := open_I (typed_one h6)
 injection e6 with e6 _; subst e6
 obtain ⟨t7, us7, rfl, h7, g7⟩ := typed_cons g6
 obtain ⟨x7, e7, k7⟩ := open_I (typed_one h7)
 injection e7 with e7 _; subst e7
 obtain ⟨t8, us8, rfl, h8, g8⟩ := typed_cons g7
 obtain ⟨x8, e8, k8⟩ := open_I (typed_one h8)
 injection e8 with e8 _; subst e8
 obtain ⟨t9, us9, rfl, h9, g9⟩ := typed_cons g8
 obtain ⟨x9, e9, k9⟩ := open_I (typed_one h9)
 injection e9 with e9 _; subst e9
 obtain ⟨t10, us10, rfl, h10, g10⟩ := typed_cons g9
 obtain ⟨x10, e10, k10⟩ := open_I (typed_one h10)
 injection e10 with e10 _; subst e10
 obtain ⟨t11, us11, rfl, h11, g11⟩ := typed_cons g10
 obtain ⟨x11, e11, k11⟩ := open_I (typed_one h11)
 injection e11 with e11 _; subst e11
 obtain ⟨t12, us12, rfl, h12, g12⟩ := typed_cons g11
 obtain ⟨x12, e12, k12⟩ := (open_L c_GApiValue (fun x => ok_GApiValue x) (fun _ h => open_GApiValue h) (by rfl)) (typed_one h12)
 injection e12 with e12 _; subst e12
 have hn := typed_nil g12; subst hn
 exact ⟨(GL11Op.mk x0 x1 x2 x3 (GApiValue.mk x4 x5 x6 x7) (GApiValue.mk x8 x9 x10 x11) x12), rfl, ⟨k0, k1, k2, k3, ⟨k4, k5, k6, k7⟩, ⟨k8, k9, k10, k11⟩, k12⟩⟩
end Go.Proofs.Ytblikpgdepjhdaa

/- Parts of the proof. -/
import Derived.Test.YtblikpgdepjhdaaHaXF
import Derived.Test.YtblikpgdepjhdaaHaXG
namespace Go.Proofs.Ytblikpgdepjhdaa
open Go.RowKit
set_option linter.unusedVariables false
set_option maxRecDepth 100000
set_option maxHeartbeats 4000000
def okI (k : IntKind) (n : Int) : Prop := k.min ≤ n ∧ n ≤ k.max
theorem open_I {k : IntKind} {ts : List T} (h : TypedL [.int k] ts) : ∃ n, ts = [tI k n] ∧ okI k n := by
  obtain ⟨t, us, rfl, h1, h2⟩ := typed_cons h
  have := typed_nil h2; subst this
  obtain ⟨n, rfl, hw⟩ := typed_int h1
  exact ⟨n, rfl, wf_int hw⟩
theorem open_S {ts : List T} (h : TypedL [.str] ts) : ∃ s : List UInt8, ts = [tS s] ∧ s.length ≤ 140737488351232 := by
  obtain ⟨t, us, rfl, h1, h2⟩ := typed_cons h
  have := typed_nil h2; subst this
  obtain ⟨n, rfl, hw⟩ := typed_str h1
  exact ⟨n.data.toList, rfl, hw⟩
theorem open_L {es : List ShO} {α : Type} (f : α → List T) (good : α → Prop) (hf : ∀ ts, TypedL es ts → ∃ a, ts = f a ∧ good a) {k : Nat} (hk : es.length = k) {ts : List T} (h : TypedL [.sl es] ts) : ∃ l : List α, ts = c_L k f l ∧ (l.length ≤ 140737488351232 ∧ ∀ a ∈ l, good a) := by
  obtain ⟨t, us, rfl, h1, h2⟩ := typed_cons h
  have := typed_nil h2; subst this
  obtain ⟨l, rfl, h3, h4⟩ := typed_sl h1 f good hf
  subst hk
  exact ⟨l, rfl, h3, h4⟩
def ok_GApiValue (x : GApiValue) : Prop := okI .u8 x.Kind ∧ okI .i64 x.N ∧ okI .i64 x.Re ∧ okI .i64 x.Im
set_option maxRecDepth 100000 in
theorem open_GApiValue {ts : List T} (h : TypedL [.int .u8, .int .i64, .int .i64, .int .i64] ts) : ∃ x : GApiValue, ts = c_GApiValue x ∧ ok_GApiValue x := by
 obtain ⟨t0, us0, rfl, h0, g0⟩ := typed_cons h
 obtain ⟨x0, e0, k0⟩ := open_I (typed_one h0)
 injection e0 with e0 _; subst e0
 obtain ⟨t1, us1, rfl, h1, g1⟩ := typed_cons g0
 obtain ⟨x1, e1, k1⟩ := open_I (typed_one h1)
 injection e1 with e1 _; subst e1
 obtain ⟨t2, us2, rfl, h2, g2⟩ := typed_cons g1
 obtain ⟨x2, e2, k2⟩ := open_I (typed_one h2)
 injection e2 with e2 _; subst e2
 obtain ⟨t3, us3, rfl, h3, g3⟩ := typed_cons g2
 obtain ⟨x3, e3, k3⟩ := open_I (typed_one h3)
 injection e3 with e3 _; subst e3
 have hn := typed_nil g3; subst hn
 exact ⟨(GApiValue.mk x0 x1 x2 x3), rfl, ⟨k0, k1, k2, k3⟩⟩
def ok_GApiObj (x : GApiObj) : Prop := okI .u8 x.Kind ∧ okI .i64 x.Of ∧ x.Text.length ≤ 140737488351232 ∧ (x.Vals.length ≤ 140737488351232 ∧ ∀ y ∈ x.Vals, ok_GApiValue y)
set_option maxRecDepth 100000 in
theorem open_GApiObj {ts : List T} (h : TypedL [.int .u8, .int .i64, .str, .sl [.int .u8, .int .i64, .int .i64, .int .i64]] ts) : ∃ x : GApiObj, ts = c_GApiObj x ∧ ok_GApiObj x := by
 obtain ⟨t0, us0, rfl, h0, g0⟩ := typed_cons h
 obtain ⟨x0, e0, k0⟩ := open_I (typed_one h0)
 injection e0 with e0 _; subst e0
 obtain ⟨t1, us1, rfl, h1, g1⟩ := typed_cons g0
 obtain ⟨x1, e1, k1⟩ := open_I (typed_one h1)
 injection e1 with e1 _; subst e1
 obtain ⟨t2, us2, rfl, h2, g2⟩ := typed_cons g1
 obtain ⟨x2, e2, k2⟩ := open_S (typed_one h2)
 injection e2 with e2 _; subst e2
 obtain ⟨t3, us3, rfl, h3, g3⟩ := typed_cons g2
 obtain ⟨x3, e3, k3⟩ := (open_L c_GApiValue (fun x => ok_GApiValue x) (fun _ h => open_GApiValue h) (by rfl)) (typed_one h3)
 injection e3 with e3 _; subst e3
 have hn := typed_nil g3; subst hn
 exact ⟨(GApiObj.mk x0 x1 x2 x3), rfl, ⟨k0, k1, k2, k3⟩⟩
end Go.Proofs.Ytblikpgdepjhdaa

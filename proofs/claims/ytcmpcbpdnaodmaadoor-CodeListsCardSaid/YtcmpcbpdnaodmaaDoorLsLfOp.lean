/- Parts of the proof. -/
import Derived.Test.YtcmpcbpdnaodmaaDoorLsXF
import Derived.Test.YtcmpcbpdnaodmaaDoorLsXG
namespace Go.Proofs.YtcmpcbpdnaodmaaDoor
open Go.RowKit
set_option linter.unusedVariables false
set_option maxRecDepth 100000
set_option maxHeartbeats 4000000
def okI (k : IntKind) (n : Int) : Prop := k.min ≤ n ∧ n ≤ k.max
theorem open_I {k : IntKind} {ts : List T} (h : TypedL [.int k] ts) : ∃ n, ts = [tI k n] ∧ okI k n := by
  obtain ⟨t, us, rfl, h1, h2⟩ := typed_cons h
  have := typed_nil h2; subst this
  obtain ⟨n, rfl, hw⟩ := typed_int h1
  exact ⟨n, rfl, wf_int hw⟩
theorem open_S {ts : List T} (h : TypedL [.str] ts) : ∃ s : List UInt8, ts = [tS s] ∧ s.length ≤ 140737488351232 := by
  obtain ⟨t, us, rfl, h1, h2⟩ := typed_cons h
  have := typed_nil h2; subst this
  obtain ⟨n, rfl, hw⟩ := typed_str h1
  exact ⟨n.data.toList, rfl, hw⟩
theorem open_L {es : List ShO} {α : Type} (f : α → List T) (good : α → Prop) (hf : ∀ ts, TypedL es ts → ∃ a, ts = f a ∧ good a) {k : Nat} (hk : es.length = k) {ts : List T} (h : TypedL [.sl es] ts) : ∃ l : List α, ts = c_L k f l ∧ (l.length ≤ 140737488351232 ∧ ∀ a ∈ l, good a) := by
  obtain ⟨t, us, rfl, h1, h2⟩ := typed_cons h
  have := typed_nil h2; subst this
  obtain ⟨l, rfl, h3, h4⟩ := typed_sl h1 f good hf
  subst hk
  exact ⟨l, rfl, h3, h4⟩
def ok_GApiIns (x : GApiIns) : Prop := okI .u8 x.Op ∧ okI .i64 x.A ∧ okI .i64 x.Line
set_option maxRecDepth 100000 in
theorem open_GApiIns {ts : List T} (h : TypedL [.int .u8, .int .i64, .int .i64] ts) : ∃ x : GApiIns, ts = c_GApiIns x ∧ ok_GApiIns x := by
 obtain ⟨t0, us0, rfl, h0, g0⟩ := typed_cons h
 obtain ⟨x0, e0, k0⟩ := open_I (typed_one h0)
 injection e0 with e0 _; subst e0
 obtain ⟨t1, us1, rfl, h1, g1⟩ := typed_cons g0
 obtain ⟨x1, e1, k1⟩ := open_I (typed_one h1)
 injection e1 with e1 _; subst e1
 obtain ⟨t2, us2, rfl, h2, g2⟩ := typed_cons g1
 obtain ⟨x2, e2, k2⟩ := open_I (typed_one h2)
 injection e2 with e2 _; subst e2
 have hn := typed_nil g2; subst hn
 exact ⟨(GApiIns.mk x0 x1 x2), rfl, ⟨k0, k1, k2⟩⟩
def ok_GApiEntry (x : GApiEntry) : Prop := okI .i64 x.At ∧ okI .i64 x.Len ∧ okI .i64 x.Params ∧ okI .i64 x.Slots ∧ okI .i64 x.Result
set_option maxRecDepth 100000 in
theorem open_GApiEntry {ts : List T} (h : TypedL [.int .i64, .int .i64, .int .i64, .int .i64, .int .i64] ts) : ∃ x : GApiEntry, ts = c_GApiEntry x ∧ ok_GApiEntry x := by
 obtain ⟨t0, us0, rfl, h0, g0⟩ := typed_cons h
 obtain ⟨x0, e0, k0⟩ := open_I (typed_one h0)
 injection e0 with e0 _; subst e0
 obtain ⟨t1, us1, rfl, h1, g1⟩ := typed_cons g0
 obtain ⟨x1, e1, k1⟩ := open_I (typed_one h1)
 injection e1 with e1 _; subst e1
 obtain ⟨t2, us2, rfl, h2, g2⟩ := typed_cons g1
 obtain ⟨x2, e2, k2⟩ := open_I (typed_one h2)
 injection e2 with e2 _; subst e2
 obtain ⟨t3, us3, rfl, h3, g3⟩ := typed_cons g2
 obtain ⟨x3, e3, k3⟩ := open_I (typed_one h3)
 injection e3 with e3 _; subst e3
 obtain ⟨t4, us4, rfl, h4, g4⟩ := typed_cons g3
 obtain ⟨x4, e4, k4⟩ := open_I (typed_one h4)
 injection e4 with e4 _; subst e4
 have hn := typed_nil g4; subst hn
 exact ⟨(GApiEntry.mk x0 x1 x2 x3 x4), rfl, ⟨k0, k1, k2, k3, k4⟩⟩
def ok_GApiCode (x : GApiCode) : Prop := (x.Ins.length ≤ 140737488351232 ∧ ∀ y ∈ x.Ins, ok_GApiIns y) ∧ (x.Fns.length ≤ 140737488351232 ∧ ∀ y ∈ x.Fns, ok_GApiEntry y) ∧ (x.Strs.length ≤ 140737488351232 ∧ ∀ y ∈ x.Strs, y.length ≤ 140737488351232)
set_option maxRecDepth 100000 in
theorem open_GApiCode {ts : List T} (h : TypedL [.sl [.int .u8, .int .i64, .int .i64], .sl [.int .i64, .int .i64, .int .i64, .int .i64, .int .i64], .sl [.str]] ts) : ∃ x : GApiCode, ts = c_GApiCode x ∧ ok_GApiCode x := by
 obtain ⟨t0, us0, rfl, h0, g0⟩ := typed_cons h
 obtain ⟨x0, e0, k0⟩ := (open_L c_GApiIns (fun x => ok_GApiIns x) (fun _ h => open_GApiIns h) (by rfl)) (typed_one h0)
 injection e0 with e0 _; subst e0
 obtain ⟨t1, us1, rfl, h1, g1⟩ := typed_cons g0
 obtain ⟨x1, e1, k1⟩ := (open_L c_GApiEntry (fun x => ok_GApiEntry x) (fun _ h => open_GApiEntry h) (by rfl)) (typed_one h1)
 injection e1 with e1 _; subst e1
 obtain ⟨t2, us2, rfl, h2, g2⟩ := typed_cons g1
 obtain ⟨x2, e2, k2⟩ := (open_L c_str (fun x => x.length ≤ 140737488351232) (fun _ h => open_S h) (by rfl)) (typed_one h2)
 injection e2 with e2 _; subst e2
 have hn := typed_nil g2; subst hn
 exact ⟨(GApiCode.mk x0 x1 x2), rfl, ⟨k0, k1, k2⟩⟩
end Go.Proofs.YtcmpcbpdnaodmaaDoor

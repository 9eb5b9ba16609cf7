/- Parts of the proof. -/
import Derived.Test.YtmffhifkdbfbfaaFeLfTy
import Derived.Test.YtmffhifkdbfbfaaFeXG
namespace Go.Proofs.Ytmffhifkdbfbfaa
open Go.RowKit
set_option linter.unusedVariables false
set_option maxHeartbeats 4000000
def okI (k : IntKind) (n : Int) : Prop := k.min ≤ n ∧ n ≤ k.max
theorem open_I {k : IntKind} {ts : List T} (h : TypedL [.int k] ts) : ∃ n, ts = [tI k n] ∧ okI k n := by
  obtain ⟨t, us, rfl, h1, h2⟩ := typed_cons h
  have := typed_nil h2; subst this
  obtain ⟨n, rfl, hw⟩ := typed_int h1
  exact ⟨n, rfl, wf_int hw⟩
theorem open_L {es : List Sh} {α : Type} (f : α → List T) (good : α → Prop) (hf : ∀ ts, TypedL es ts → ∃ a, ts = f a ∧ good a) {k : Nat} (hk : es.length = k) {ts : List T} (h : TypedL [.sl es] ts) : ∃ l : List α, ts = c_L k f l ∧ (l.length ≤ maxLen ∧ ∀ a ∈ l, good a) := by
  obtain ⟨t, us, rfl, h1, h2⟩ := typed_cons h
  have := typed_nil h2; subst this
  obtain ⟨l, rfl, h3, h4⟩ := typed_sl h1 f good hf
  subst hk
  exact ⟨l, rfl, h3, h4⟩
end Go.Proofs.Ytmffhifkdbfbfaa

/- Parts of the proof. -/
import Derived.Test.YtmffhifkdbfbfaaFeHpPut1
namespace Go.Proofs.Ytmffhifkdbfbfaa
open Go.RowKit
set_option linter.unusedVariables false
theorem ValsR.below {w w' : World} {v : Value} {l : List GApiValue} (h : ValsR w v l) (hb : Below w.heap.size w w') : ValsR w' v l := by
  obtain ⟨a, c, hv, hx⟩ := h
  refine ⟨a, c, hv, fun i hi => ?_⟩
  obtain ⟨g, of_, h1, h2, h3⟩ := hx i hi
  exact ⟨g, of_, h1, Nat.lt_of_lt_of_le h2 hb.size, fun j hj => (hb.cell (p := ⟨g, _, none⟩) h2).trans (h3 j hj)⟩
end Go.Proofs.Ytmffhifkdbfbfaa

/- Parts of the proof. -/
import Derived.Test.YtblikpgdepjhdaaHbHpLoad
namespace Go.Proofs.Ytblikpgdepjhdaa
open Go.RowKit
set_option maxRecDepth 100000
set_option linter.unusedVariables false
set_option maxHeartbeats 4000000
theorem ObjsV.below {w w' : World} {v : Value} {l : List GApiObj} (h : ObjsV w v l) (hb : Below w.heap.size w w') : ObjsV w' v l := by
  obtain ⟨a, c, hv, hx⟩ := h
  refine ⟨a, c, hv, fun i hi => ?_⟩
  obtain ⟨g, off, vv, h1, h2, h3, h4, h5, h6, h7⟩ := hx i hi
  have e : ∀ j, w'.cell? ⟨g, j, none⟩ = w.cell? ⟨g, j, none⟩ := fun j => hb.cell (p := ⟨g, j, none⟩) h2
  exact ⟨g, off, vv, h1, Nat.lt_of_lt_of_le h2 hb.size, (e _).trans h3, (e _).trans h4, (e _).trans h5, (e _).trans h6, h7.below hb⟩
end Go.Proofs.Ytblikpgdepjhdaa

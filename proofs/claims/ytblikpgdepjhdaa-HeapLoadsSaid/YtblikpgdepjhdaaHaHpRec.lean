/- Parts of the proof. -/
import Derived.Test.YtblikpgdepjhdaaHaHpClone
namespace Go.Proofs.Ytblikpgdepjhdaa
open Go.RowKit
set_option linter.unusedVariables false
theorem ValsR.below {w w' : World} {v : Value} {l : List GApiValue} (h : ValsR w v l) (hb : Below w.heap.size w w') : ValsR w' v l := by
  obtain ⟨a, c, hv, hx⟩ := h
  refine ⟨a, c, hv, fun i hi => ?_⟩
  obtain ⟨g, of_, h1, h2, h3⟩ := hx i hi
  exact ⟨g, of_, h1, Nat.lt_of_lt_of_le h2 hb.size, fun j hj => (hb.cell (p := ⟨g, _, none⟩) h2).trans (h3 j hj)⟩
theorem vals_slice {w : World} {v : Value} {l : List GApiValue} {g : Option Nat} (hv : valsAt w v l g) : ∃ a c, v = .slice a l.length c := by
  cases g with
  | none => obtain ⟨h1, a, c, _, h2⟩ := hv; exact ⟨a, c, by rw [h2, h1]; rfl⟩
  | some g => exact owns_slice hv.1
theorem objSizeN (k : Int) (s : List UInt8) (n : Nat) (hk : k ≠ 3) (h : n ≤ 4000000000000) : objSize k s n = n + 1 := by
  unfold objSize
  rw [if_neg hk]
  unfold RowKit.wrap64
  omega
end Go.Proofs.Ytblikpgdepjhdaa

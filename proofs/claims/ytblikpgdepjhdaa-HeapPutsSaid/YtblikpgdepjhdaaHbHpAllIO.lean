/- Parts of the proof. -/
import Derived.Test.YtblikpgdepjhdaaHbHpNew
namespace Go.Proofs.Ytblikpgdepjhdaa
open Go.RowKit
set_option maxRecDepth 100000
set_option linter.unusedVariables false
set_option maxHeartbeats 4000000
theorem repT_vals {w : World} {M : Nat → Prop} {v : Value} {l : List GApiValue} {g : Option Nat} (h : valsAt w v l g) (hM : ∀ q, g = some q → ¬ M q) : RepT w M (.sl 4 (l.map c_GApiValue)) v := by
  cases g with
  | none =>
    obtain ⟨rfl, a, c, hc, rfl⟩ := h
    exact .nil 4 a c hc
  | some g =>
    obtain ⟨h1, h2⟩ := h
    by_cases hl : l = []
    · subst hl
      rcases h1.2 with ⟨e1, e2⟩ | ⟨q, cap, cur, e, h3, h4, h5, h6, h7, h8⟩
      · first | (rw [e1] at h2; simp [Value.ownBlock] at h2) | (rw [e2] at h2; simp [Value.ownBlock] at h2)
      · subst e; exact .nil 4 _ _ h6
    · have h0 : 0 < l.length := by cases l with
        | nil => exact absurd rfl hl
        | cons => simp
      rcases h1.2 with ⟨e1, e2⟩ | ⟨q, cap, cur, e, h3, h4, h5, h6, h7, h8⟩
      · exact absurd (show l.length = 0 by first | exact e1 | exact e2) (by omega)
      · subst e
        simp [Value.ownBlock] at h2
        subst h2
        have hcell : ∀ i (hi : i < l.length) j, j < 4 → w.cell? ⟨q, 0 + (i * 4 + j), none⟩ = (vcells l[i])[j]? := fun i hi j hj => by
          have e := flat4 vcells 4 (fun x => rfl) l i j hi hj
          have hlt : j < (vcells l[i]).length := hj
          have := h1.cells (g := q) rfl (i * 4 + j) ((vcells l[i])[j]) (by unfold vrow; rw [e]; exact List.getElem?_eq_getElem hlt)
          have hadd : (⟨q, 0, none⟩ : Addr).add (i * 4 + j) = ⟨q, 0 + (i * 4 + j), none⟩ := by unfold Addr.add; split <;> simp_all
          rw [hadd] at this
          rw [this]; exact (List.getElem?_eq_getElem hlt).symm
        have hlen : (l.map c_GApiValue).length = l.length := List.length_map _
        have R := RepT.sl (w := w) (M := M) 4 (l.map c_GApiValue) q 0 cap (fun i j => ((l[i]?.map vcells).getD [])[j]?.getD undef) (lt_of_block h4) (hM q rfl) (by rw [hlen]; exact h5) h6 (fun i hi => by simp [c_GApiValue])
          (fun i hi j hj => by
            have hi' : i < l.length := by simpa using hi
            rw [hcell i hi' j hj, List.getElem?_eq_getElem hi']
            have hlt : j < (vcells l[i]).length := hj
            simp only [Option.map_some, Option.getD_some]
            rw [List.getElem?_eq_getElem hlt]; rfl)
          (fun i hi j hj => by
            have hi' : i < l.length := by simpa using hi
            rw [List.getElem?_eq_getElem hi']
            simp only [Option.map_some, Option.getD_some, List.getElem_map, c_GApiValue] at hj ⊢
            match j, hj with
            | 0, _ => exact .v _ rfl
            | 1, _ => exact .v _ rfl
            | 2, _ => exact .v _ rfl
            | 3, _ => exact .v _ rfl)
        rw [hlen] at R
        exact R
theorem ocells_get : ∀ (l : List GApiObj) (vs : List Value), l.length = vs.length → ∀ i (hi : i < l.length) (hi' : i < vs.length) j, j < 4 → (ocells l vs)[i * 4 + j]? = (ocell l[i] vs[i])[j]?
  | [], _, _, i, hi, _, _, _ => by simp at hi
  | a :: l, [], h, _, _, hi', _, _ => by simp at hi'
  | a :: l, b :: vs, h, 0, hi, hi', j, hj => by
    rw [ocells, Nat.zero_mul, Nat.zero_add, List.getElem?_append_left (by exact hj)]; rfl
  | a :: l, b :: vs, h, i + 1, hi, hi', j, hj => by
    have e : (i + 1) * 4 + j - (ocell a b).length = i * 4 + j := by simp [ocell]; omega
    rw [ocells, List.getElem?_append_right (by simp [ocell]; omega), e]
    exact ocells_get l vs (by simpa using h) i (by simpa using hi) (by simpa using hi') j hj
end Go.Proofs.Ytblikpgdepjhdaa

/- Parts of the proof. -/
import Derived.Test.YtabmahknlebhpaaGreatVdVfRun
namespace Go.Proofs.YtabmahknlebhpaaGreat
set_option linter.unusedVariables false
theorem effect_at (c : GApiCode) (hm : ∀ f ∈ c.Fns, 0 ≤ f.Params ∧ (f.Result = 0 ∨ f.Result = 1)) (x : GApiIns) (h1 : 1 ≤ x.Op) (h2 : x.Op ≤ 26) (h19 : x.Op = 19 → 0 ≤ x.A ∧ x.A < c.Fns.length) :
    ∃ t p : Nat, p ≤ 1 ∧ f_verify_effect c x = some (((t : Int), (p : Int), ()), ()) := by
  rw [f_verify_effect_eq]
  generalize hop : x.Op = op at *
  by_cases hc : op = 19
  · subst hc
    obtain ⟨g0, g1⟩ := h19 rfl
    have hlt : x.A.toNat < c.Fns.length := by omega
    obtain ⟨m1, m2⟩ := hm _ (List.getElem_mem hlt)
    refine ⟨(c.Fns[x.A.toNat]).Params.toNat, (c.Fns[x.A.toNat]).Result.toNat, by omega, ?_⟩
    simp only [decide_true, cond_true, getI_at g0 (by omega : x.A < c.Fns.length), Option.bind_some, Int.toNat_of_nonneg m1, Int.toNat_of_nonneg (by omega : 0 ≤ (c.Fns[x.A.toNat]).Result)]
    rfl
  · have e : ∀ t p : Nat, p ≤ 1 → ∃ t' p' : Nat, p' ≤ 1 ∧ (some (((t : Int), (p : Int), ()), ()) : Option RT15) = some (((t' : Int), (p' : Int), ()), ()) := fun t p h => ⟨t, p, h, rfl⟩
    by_cases h20 : op = 20
    · subst h20
      by_cases a7 : x.A = 7
      · rw [a7]; exact e 0 1 (by omega)
      · by_cases a5 : x.A = 5
        · rw [a5]; exact e 2 1 (by omega)
        · simp only [a7, a5, decide_false, decide_true, cond_true, cond_false]
          exact e 1 1 (by omega)
    · rcases op_cases h1 h2 with rfl | rfl | rfl | rfl | rfl | rfl | rfl | rfl | rfl | rfl | rfl | rfl | rfl | rfl | rfl | rfl | rfl | rfl | rfl | rfl | rfl | rfl | rfl | rfl | rfl | rfl
      all_goals first
        | exact e 0 1 (by omega)
        | exact e 1 0 (by omega)
        | exact e 1 1 (by omega)
        | exact e 2 1 (by omega)
        | exact e 3 0 (by omega)
        | exact e 2 0 (by omega)
        | exact e 0 0 (by omega)
        | exact absurd rfl hc
        | exact absurd rfl h20
end Go.Proofs.YtabmahknlebhpaaGreat

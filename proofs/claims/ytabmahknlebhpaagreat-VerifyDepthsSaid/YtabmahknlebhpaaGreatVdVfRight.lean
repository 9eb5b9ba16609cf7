/- Parts of the proof. -/
import Derived.Test.YtabmahknlebhpaaGreatVdQR
namespace Go.Proofs.YtabmahknlebhpaaGreat
set_option linter.unusedVariables false
theorem op_cases {n : Int} (h1 : 1 ≤ n) (h2 : n ≤ 26) : n = 1 ∨ n = 2 ∨ n = 3 ∨ n = 4 ∨ n = 5 ∨ n = 6 ∨ n = 7 ∨ n = 8 ∨ n = 9 ∨ n = 10 ∨ n = 11 ∨ n = 12 ∨ n = 13 ∨ n = 14 ∨ n = 15 ∨ n = 16 ∨ n = 17 ∨ n = 18 ∨ n = 19 ∨ n = 20 ∨ n = 21 ∨ n = 22 ∨ n = 23 ∨ n = 24 ∨ n = 25 ∨ n = 26 := by omega
theorem effect_same (c : GApiCode) (x : GApiIns) (h1 : 1 ≤ x.Op) (h2 : x.Op ≤ 26) : f_verify_effect c x = f_r17_Effect c x := by
  rw [f_verify_effect_eq, f_r17_Effect_eq]
  generalize hop : x.Op = op at *
  rcases op_cases h1 h2 with rfl | rfl | rfl | rfl | rfl | rfl | rfl | rfl | rfl | rfl | rfl | rfl | rfl | rfl | rfl | rfl | rfl | rfl | rfl | rfl | rfl | rfl | rfl | rfl | rfl | rfl
  all_goals simp [f_r17_Effect_j1_eq, f_r17_Effect_j0_eq, hop, getI]
theorem wrong_same (c : GApiCode) (f : GApiEntry) (x : GApiIns) (h1 : 1 ≤ x.Op) (h2 : x.Op ≤ 26) : f_verify_right c f x = f_r17_wrong c f x := by
  rw [f_verify_right_eq, f_r17_wrong_eq]
  generalize hop : x.Op = op at *
  rcases op_cases h1 h2 with rfl | rfl | rfl | rfl | rfl | rfl | rfl | rfl | rfl | rfl | rfl | rfl | rfl | rfl | rfl | rfl | rfl | rfl | rfl | rfl | rfl | rfl | rfl | rfl | rfl | rfl
  all_goals simp [f_verify_right_j0_eq, f_verify_right_j1_eq, f_verify_right_j2_eq, f_r17_wrong_j0_eq, f_r17_wrong_j1_eq, f_r17_wrong_j2_eq, f_r17_wrong_j3_eq, f_r17_in_eq, Bool.cond_eq_ite]
  all_goals repeat' split
  all_goals first
    | rfl
    | (exfalso; omega)
    | (simp only [Option.bind_some]; repeat' split) <;> first | rfl | (simp only [decide_eq_false_iff_not] at *; first | omega | (exfalso; omega))
end Go.Proofs.YtabmahknlebhpaaGreat

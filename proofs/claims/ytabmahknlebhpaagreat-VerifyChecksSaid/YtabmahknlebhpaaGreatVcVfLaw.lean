/- Parts of the proof. -/
import Derived.Test.YtabmahknlebhpaaGreatVcVfCheck
import Derived.Test.YtabmahknlebhpaaGreatVcVfAwake
import Derived.Test.YtabmahknlebhpaaGreatVcQL
import Derived.Test.YtabmahknlebhpaaGreatVcLfOp
namespace Go.Proofs.YtabmahknlebhpaaGreat
set_option linter.unusedVariables false
theorem great_loop (c : GApiCode) (hs : c.Strs.length ≤ 200) : ∀ (m i : Nat), c.Strs.length - i = m → ∃ b, f_r15_Great_l0 c (i : Int) = some ((b, ()), ()) := by
  intro m
  induction m with
  | zero =>
    intro i hi
    rw [f_r15_Great_l0_eq, decide_eq_false (by omega), f_r15_Great_j1_eq]
    exact ⟨_, rfl⟩
  | succ m ih =>
    intro i hi
    have hil : i < c.Strs.length := by omega
    have e1 : w64 ((i : Int) + 1) = ((i + 1 : Nat) : Int) := by rw [wrap64 (by omega) (by omega)]; omega
    rw [f_r15_Great_l0_eq, decide_eq_true (by omega), getI_nat' hil, e1]
    simp only [cond_true, Option.bind_some]
    cases decide ((c.Strs[i].length : Int) > 300)
    · exact ih (i + 1) (by omega)
    · exact ⟨_, rfl⟩
theorem great_at (c : GApiCode) : ∃ b, f_r15_Great c = some ((b, ()), ()) := by
  rw [f_r15_Great_eq]
  by_cases c1 : (c.Ins.length : Int) > 1500
  · rw [decide_eq_true c1]; exact ⟨_, rfl⟩
  by_cases c2 : (c.Fns.length : Int) > 150
  · rw [decide_eq_false c1, decide_eq_true c2]; exact ⟨_, rfl⟩
  by_cases c3 : (c.Strs.length : Int) > 200
  · rw [decide_eq_false c1, decide_eq_false c2, decide_eq_true c3]; exact ⟨_, rfl⟩
  rw [decide_eq_false c1, decide_eq_false c2, decide_eq_false c3]
  exact great_loop c (by omega) _ 0 rfl
theorem ok_ops {c : GApiCode} (h : ok_GApiCode c) : ∀ x ∈ c.Ins, 0 ≤ x.Op := fun x hx => (h.1.2 x hx).1.1
theorem verifyChecks_f (c : GApiCode) (h : ok_GApiCode c) : f_l17_VerifyChecks c = some ((true, ()), ()) := by
  rw [f_l17_VerifyChecks_eq]
  obtain ⟨b, hb⟩ := great_at c
  rw [hb, awake_at]
  cases b with
  | true => rfl
  | false =>
    obtain ⟨e, n, j, g1, g2, _⟩ := check_at c (ok_ops h)
    rw [g1, g2]
    simp only [Option.bind_some, cond_false, cond_true, decide_true]
theorem vc_2 (c : GApiCode) (h : f_l17_VerifyChecks c = some ((true, ()), ())) : Q_nm (.l17_VerifyChecks c) = some ((true, ()), ()) := h
theorem verifyChecks_all (c : GApiCode) (h : ok_GApiCode c) : l17_VerifyChecks c = some true := l17_VerifyChecks_at c (vc_2 c (verifyChecks_f c h))
end Go.Proofs.YtabmahknlebhpaaGreat

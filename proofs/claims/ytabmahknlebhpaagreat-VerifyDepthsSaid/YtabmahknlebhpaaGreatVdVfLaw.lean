/- Parts of the proof. -/
import Derived.Test.YtabmahknlebhpaaGreatVdVfCheck
import Derived.Test.YtabmahknlebhpaaGreatVdVfAwake
import Derived.Test.YtabmahknlebhpaaGreatVdQL
import Derived.Test.YtabmahknlebhpaaGreatVdLfOp
namespace Go.Proofs.YtabmahknlebhpaaGreat
set_option linter.unusedVariables false
theorem great_loop (c : GApiCode) (hs : c.Strs.length ≤ 200) : ∀ (m i : Nat), c.Strs.length - i = m → ∃ b, f_r15_Great_l0 c (i : Int) = some ((b, ()), ()) := by
  intro m
  induction m with
  | zero =>
    intro i hi
    rw [f_r15_Great_l0_eq, decide_eq_false (by omega), f_r15_Great_j1_eq]
    exact ⟨_, rfl⟩
  | succ m ih =>
    intro i hi
    have hil : i < c.Strs.length := by omega
    have e1 : w64 ((i : Int) + 1) = ((i + 1 : Nat) : Int) := by rw [wrap64 (by omega) (by omega)]; omega
    rw [f_r15_Great_l0_eq, decide_eq_true (by omega), getI_nat' hil, e1]
    simp only [cond_true, Option.bind_some]
    cases decide ((c.Strs[i].length : Int) > 300)
    · exact ih (i + 1) (by omega)
    · exact ⟨_, rfl⟩
theorem great_at (c : GApiCode) : ∃ b, f_r15_Great c = some ((b, ()), ()) := by
  rw [f_r15_Great_eq]
  by_cases c1 : (c.Ins.length : Int) > 1500
  · rw [decide_eq_true c1]; exact ⟨_, rfl⟩
  by_cases c2 : (c.Fns.length : Int) > 150
  · rw [decide_eq_false c1, decide_eq_true c2]; exact ⟨_, rfl⟩
  by_cases c3 : (c.Strs.length : Int) > 200
  · rw [decide_eq_false c1, decide_eq_false c2, decide_eq_true c3]; exact ⟨_, rfl⟩
  rw [decide_eq_false c1, decide_eq_false c2, decide_eq_false c3]
  exact great_loop c (by omega) _ 0 rfl
theorem ok_ops {c : GApiCode} (h : ok_GApiCode c) : ∀ x ∈ c.Ins, 0 ≤ x.Op := fun x hx => (h.1.2 x hx).1.1
theorem depths_same (d : RT36) (w : RT16) (he : d.1.1 = w.1.1.D) (hl : d.1.1.length ≤ 140737488351232) : ∀ (m i : Nat), d.1.1.length - i = m → f_l17_VerifyDepths_l1 (i : Int) w d = some ((true, ()), ()) := by
  intro m
  induction m with
  | zero =>
    intro i hi
    rw [f_l17_VerifyDepths_l1_eq, decide_eq_false (by omega), f_l17_VerifyDepths_j2_eq, awake_at]
    simp only [cond_false, Option.bind_some]
  | succ m ih =>
    intro i hi
    have hil : i < d.1.1.length := by omega
    have hil2 : i < w.1.1.D.length := by rw [← he]; exact hil
    have e1 : w64 ((i : Int) + 1) = ((i + 1 : Nat) : Int) := by rw [wrap64 (by omega) (by omega)]; omega
    have e2 : d.1.1[i] = w.1.1.D[i] := by simp only [he]
    rw [f_l17_VerifyDepths_l1_eq, decide_eq_true (by omega), getI_nat' hil, getI_nat' hil2, Int.toNat_natCast, List.getElem?_eq_getElem hil, List.getElem?_eq_getElem hil2, e1, ih (i + 1) (by omega), e2]
    generalize f_l17_VerifyDepths_j2 = z
    generalize w.1.1.D[i] = y
    simp only [cond_true, cond_false, Option.bind_some, decide_true, Bool.not_true]
theorem verifyDepths_f (c : GApiCode) (k : Int) (h : ok_GApiCode c) : f_l17_VerifyDepths c k = some ((true, ()), ()) := by
  rw [f_l17_VerifyDepths_eq]
  obtain ⟨b, hb⟩ := great_at c
  rw [hb, awake_at]
  cases b with
  | true => rfl
  | false =>
    obtain ⟨e, n, j, g1, g2, g3⟩ := check_at c (ok_ops h)
    rw [f_verify_Depths_eq, g1, g2]
    simp only [Option.bind_some, cond_false]
    by_cases he : e = 0
    · subst he
      obtain ⟨hm, hall, hruns⟩ := g3 rfl
      simp only [decide_true, Bool.not_true, cond_false]
      have hfns := hm.fns
      by_cases c1 : k < 0
      · rw [decide_eq_true c1]
        simp only [cond_true, Option.bind_some, f_l17_VerifyDepths_j0_eq, awake_at, List.length_nil, Int.ofNat_zero, decide_true]
      by_cases c2 : k ≥ (c.Fns.length : Int)
      · rw [decide_eq_false c1, decide_eq_true c2]
        simp only [cond_true, cond_false, Option.bind_some, f_l17_VerifyDepths_j0_eq, awake_at, List.length_nil, Int.ofNat_zero, decide_true]
      rw [decide_eq_false c1, decide_eq_false c2]
      simp only [cond_false]
      have hk : k.toNat < c.Fns.length := by omega
      have ek : k = ((k.toNat : Nat) : Int) := by omega
      rw [ek, getI_nat' hk]
      simp only [Option.bind_some]
      have hf := hall _ (List.getElem_mem hk)
      obtain ⟨F', r1, r2, r3, r4⟩ := hruns _ (List.getElem_mem hk)
      have hlen : F'.D.length ≤ 140737488351232 := by have := hf.at0; have := hf.fit; have := hf.big; omega
      rw [r1, r2]
      simp only [Option.bind_some, decide_true, Bool.not_true, cond_false]
      exact depths_same (((F'.D, 0, ()), ()) : RT36) ((F', 0, ()), ()) rfl hlen _ 0 rfl
    · rw [decide_eq_false he]
      simp only [Bool.not_false, cond_true, Option.bind_some, decide_true, List.length_nil, Int.ofNat_zero]
theorem vd_2 (c : GApiCode) (k : Int) (h : f_l17_VerifyDepths c k = some ((true, ()), ())) : Q_nm (.l17_VerifyDepths c k) = some ((true, ()), ()) := h
theorem verifyDepths_all (c : GApiCode) (k : Int) (h : ok_GApiCode c) (hk : okI .i64 k) : l17_VerifyDepths c k = some true := l17_VerifyDepths_at c k (vd_2 c k (verifyDepths_f c k h))
end Go.Proofs.YtabmahknlebhpaaGreat

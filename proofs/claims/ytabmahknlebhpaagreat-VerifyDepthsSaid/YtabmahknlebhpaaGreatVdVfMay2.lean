/- Parts of the proof. -/
import Derived.Test.YtabmahknlebhpaaGreatVdVfMay
namespace Go.Proofs.YtabmahknlebhpaaGreat
set_option linter.unusedVariables false
structure MayC (c : GApiCode) : Prop where
  fns : c.Fns.length ≤ 100
  ins : c.Ins.length ≤ 65536
  strs : c.Strs.length ≤ 65536
  lay : mayF c.Ins.length 0 c.Fns = some (c.Ins.length : Int)
  ok : c.Ins.all insOk = true
theorem sum_all {l : List (List UInt8)} (h : sumL l ≤ 1048576) : (l.all fun s => decide ((s.length : Int) ≤ 1048576)) = true := by
  induction l with
  | nil => rfl
  | cons s l ih =>
    rw [sumL_cons] at h
    have := sumL_nn l
    rw [List.all_cons, ih (by omega), decide_eq_true (by omega)]
    rfl
theorem code_j1 (c : GApiCode) (c2 : c.Ins.length ≤ 65536) (c3 : c.Strs.length ≤ 65536) (e : Int) : f_code_May_j1 e c = some ((decide (e = (c.Ins.length : Int)) && (c.Ins.all insOk && decide (sumL c.Strs ≤ 1048576)), ()), ()) := by
  have q1 := may_ins c c2 _ 0 rfl
  have q2 := may_strs c c3 _ 0 1048576 rfl (by omega) (by omega)
  rw [f_code_May_j1_eq]
  by_cases h : e = (c.Ins.length : Int)
  · rw [decide_eq_true h]
    simp only [Bool.not_true, cond_false, Bool.true_and]
    rw [show f_code_May_l2 c 0 = _ from q1, List.drop_zero]
    cases c.Ins.all insOk with
    | true =>
      rw [if_pos rfl, f_code_May_j3_eq, show f_code_May_l4 1048576 c 0 = _ from q2, List.drop_zero]
      rfl
    | false => rfl
  · rw [decide_eq_false h]; rfl
theorem ref_j1 (c : GApiCode) (c2 : c.Ins.length ≤ 65536) (c3 : c.Strs.length ≤ 65536) (h8 : ∀ x ∈ c.Ins, 0 ≤ x.Op) (e : Int) : f_r15_May_j1 e c = some ((decide (e = (c.Ins.length : Int)) && (c.Ins.all insOk && decide (sumL c.Strs ≤ 1048576)), ()), ()) := by
  have q2 := ref_strs c c3 e _ 0 0 rfl (by omega) (by omega)
  rw [f_r15_May_j1_eq, show f_r15_May_l2 e 0 c 0 = _ from q2, List.drop_zero, Int.zero_add]
  by_cases hs : sumL c.Strs ≤ 1048576
  · rw [sum_all hs, if_pos rfl, f_r15_May_j3_eq, show f_r15_May_l4 e (sumL c.Strs) c 0 = _ from ref_ins c c2 h8 e (sumL c.Strs) _ 0 rfl, List.drop_zero, decide_eq_true hs]
    cases c.Ins.all insOk with
    | true =>
      rw [if_pos rfl, f_r15_May_j5_eq, decide_eq_true hs]
      by_cases h : e = (c.Ins.length : Int)
      · rw [decide_eq_true h]; rfl
      · rw [decide_eq_false h]; rfl
    | false => rw [if_neg (by decide)]; simp
  · rw [decide_eq_false hs]
    simp only [Bool.and_false]
    split
    · rw [f_r15_May_j3_eq, show f_r15_May_l4 e (sumL c.Strs) c 0 = _ from ref_ins c c2 h8 e (sumL c.Strs) _ 0 rfl, List.drop_zero, f_r15_May_j5_eq, decide_eq_false hs]
      split
      · cases decide (e = (c.Ins.length : Int)) <;> rfl
      · rfl
    · rfl
theorem may_same (c : GApiCode) (h8 : ∀ x ∈ c.Ins, 0 ≤ x.Op) : ∃ b, f_code_May c = some ((b, ()), ()) ∧ f_r15_May c = some ((b, ()), ()) ∧ (b = true → MayC c) := by
  rw [f_code_May_eq, f_r15_May_eq]
  by_cases c1 : c.Fns.length ≤ 100
  · rw [decide_eq_false (by omega : ¬ (c.Fns.length : Int) > 100)]
    by_cases c2 : c.Ins.length ≤ 65536
    · rw [decide_eq_false (by omega : ¬ (c.Ins.length : Int) > 65536)]
      by_cases c3 : c.Strs.length ≤ 65536
      · rw [decide_eq_false (by omega : ¬ (c.Strs.length : Int) > 65536)]
        simp only [cond_false]
        have q1 := may_fns c c1 c2 _ 0 0 rfl (by omega) (by omega)
        have q2 := ref_fns c c1 c2 _ 0 0 rfl (by omega) (by omega)
        rw [show f_code_May_l0 0 c 0 = _ from q1, show f_r15_May_l0 0 c 0 = _ from q2]
        simp only [List.drop_zero]
        have e1 := code_j1 c c2 c3
        have e2 := ref_j1 c c2 c3 h8
        by_cases hF : mayF c.Ins.length 0 c.Fns = some (c.Ins.length : Int)
        · have hR := (mayFR (by omega)).1 hF
          rw [hF, hR]
          refine ⟨_, e1 _, e2 _, fun h => ⟨c1, c2, c3, hF, ?_⟩⟩
          simp only [Bool.and_eq_true] at h
          exact h.2.1
        · have hR : ¬ mayR c.Ins.length 0 c.Fns = some (c.Ins.length : Int) := fun h => hF ((mayFR (by omega)).2 h)
          refine ⟨false, ?_, ?_, fun h => nomatch h⟩
          · split
            · rename_i e he
              rw [e1, decide_eq_false (fun h => hF (by rw [he, h]))]; rfl
            · rfl
          · split
            · rename_i e he
              rw [e2, decide_eq_false (fun h => hR (by rw [he, h]))]; rfl
            · rfl
      · rw [decide_eq_true (by omega : (c.Strs.length : Int) > 65536)]; exact ⟨false, rfl, rfl, fun h => nomatch h⟩
    · rw [decide_eq_true (by omega : (c.Ins.length : Int) > 65536)]; exact ⟨false, rfl, rfl, fun h => nomatch h⟩
  · rw [decide_eq_true (by omega : (c.Fns.length : Int) > 100)]; exact ⟨false, rfl, rfl, fun h => nomatch h⟩
end Go.Proofs.YtabmahknlebhpaaGreat

/- Parts of the proof. -/
import Derived.Test.YtmffhifkdbfbfaaUnHpLaw
import Derived.Test.YtmffhifkdbfbfaaUnFlCx
namespace Go.Proofs.Ytmffhifkdbfbfaa
open Go.RowKit Ieee
set_option linter.unusedVariables false
set_option maxHeartbeats 2000000
theorem sx24 (a : Int) : sx a 24 = (a + 8388608) % 16777216 - 8388608 := by
  unfold sx
  rw [show (2 : Int) ^ (24 - 1) = 8388608 from by decide, show (2 : Int) ^ 24 = 16777216 from by decide]
theorem sx24_bd (a : Int) : -8388608 ≤ sx a 24 ∧ sx a 24 ≤ 8388607 := by rw [sx24]; omega
theorem w64_rk (n : Int) : w64 n = RowKit.wrap64 n := by
  show IntKind.wrap .i64 n = _
  rw [IntKind.wrap_i64]; unfold RowKit.wrap64; omega
theorem part_eq (a : Int) : gauss_part a = some (sx a 24) := by
  unfold gauss_part num_Round
  have e : IntKind.wrap .u64 (w64 (64 - 24)) = 40 := by decide
  rw [if_neg (by decide), if_neg (by decide), e, if_pos (by decide), if_pos (by decide), obind_some]
  show some ((w64 (a * 2 ^ 40)).fdiv (2 ^ 40)) = _
  rw [Int.fdiv_eq_ediv_of_nonneg _ (by decide), w64_rk]
  exact congrArg some (round_code a 24 (by decide) (by decide))
theorem gOf_eq (a b : Int) : gauss_Of a b = some ⟨sx a 24, sx b 24⟩ := by
  unfold gauss_Of; rw [part_eq, obind_some, part_eq, obind_some]
theorem rPart_eq (a : Int) : hindcastref02_Part a = some (sx a 24) := by
  unfold hindcastref02_Part xhindcastref01_Round
  rw [if_pos (by decide), obind_some]; rfl
theorem rOf_eq (a b : Int) : hindcastref02_Of a b = some ⟨sx a 24, sx b 24⟩ := by
  unfold hindcastref02_Of; rw [rPart_eq, obind_some, rPart_eq, obind_some]
theorem ocomp_eq (v : GApiValue) : oper_comp v = some ⟨sx v.Re 24, sx v.Im 24⟩ := by
  unfold oper_comp; rw [gOf_eq, obind_some]
theorem rcomp_eq (v : GApiValue) : hindcastref13_comp v = some ⟨sx v.Re 24, sx v.Im 24⟩ := by
  unfold hindcastref13_comp; rw [rOf_eq, obind_some]
theorem number_eq (c : GApiComp) : ∃ x y, gauss_number c = some (x, y) ∧ RepI x (sx c.Re 24) ∧ RepI y (sx c.Im 24) := by
  have h1 := sx24_bd c.Re
  have h2 := sx24_bd c.Im
  refine ⟨_, _, by unfold gauss_number; rw [part_eq, obind_some, part_eq, obind_some], ofInt_rep _ (by omega), ofInt_rep _ (by omega)⟩
theorem back_eq {x y : Nat} {u v : Int} (hx : RepI x u) (hy : RepI y v) (hu : -9223372036854775808 ≤ u ∧ u ≤ 9223372036854775807) (hv : -9223372036854775808 ≤ v ∧ v ≤ 9223372036854775807) : gauss_back (x, y) = some ⟨sx u 24, sx v 24⟩ := by
  unfold gauss_back
  rw [back_int hx hu, obind_some, back_int hy hv, obind_some, gOf_eq, obind_some]
theorem gNeg_eq (a : GApiComp) : gauss_Neg a = hindcastref02_Neg a := by
  obtain ⟨x, y, e, hx, hy⟩ := number_eq a
  have h1 := sx24_bd a.Re
  have h2 := sx24_bd a.Im
  unfold gauss_Neg hindcastref02_Neg cNeg
  rw [e, obind_some, back_eq (neg_rep hx) (neg_rep hy) (by omega) (by omega), obind_some, rPart_eq, obind_some, rPart_eq, obind_some, wrap64 (by omega) (by omega), wrap64 (by omega) (by omega), rOf_eq, obind_some]
  simp
theorem un_eq (op : Int) (v : GApiValue) (hN : in64 v.N) : oper_Un op v = hindcastref13_Un op v := by
  have hn : ((xhindcastref01_Of v.N).bind fun d => (xhindcastref01_Minus d).bind fun e => xhindcastref01_D_Number e) = num_Neg v.N := by
    rw [xOf, obind_some, xMinus, obind_some, xNumber]; unfold num_Neg; rw [w64_rk]; simp
  unfold oper_Un hindcastref13_Un oper_Un_j0 oper_Un_j2 oper_Un_j1 hindcastref13_Un_j1 hindcastref13_Un_j0 hindcastref13_value oper_value hindcastref13_number oper_integer hindcastref13_Truth oper_truth
  have n13 : ((12 : Int) = 13) = False := by decide
  by_cases c1 : op = 12
  · subst c1
    simp only [n13, if_false, if_true]
    by_cases k1 : v.Kind = 1
    · rw [if_pos k1, if_pos k1, ← hn]; simp only [Option.bind_assoc, obind_some]
    · rw [if_neg k1, if_neg k1]
      by_cases k4 : v.Kind = 4
      · rw [if_pos k4, if_pos k4, ocomp_eq, obind_some, rcomp_eq, obind_some, gNeg_eq]
      · rw [if_neg k4, if_neg k4]
  · simp only [c1, if_false]
end Go.Proofs.Ytmffhifkdbfbfaa

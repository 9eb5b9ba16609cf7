/- Parts of the proof. -/
import Derived.Test.YtmffhifkdbfbfaaEqHpLaw2
import Derived.Test.YtmffhifkdbfbfaaEqFlCx
namespace Go.Proofs.Ytmffhifkdbfbfaa
open Go.RowKit Ieee
set_option linter.unusedVariables false
set_option maxHeartbeats 2000000
theorem sx24 (a : Int) : sx a 24 = (a + 8388608) % 16777216 - 8388608 := by
  unfold sx
  rw [show (2 : Int) ^ (24 - 1) = 8388608 from by decide, show (2 : Int) ^ 24 = 16777216 from by decide]
theorem sx24_bd (a : Int) : -8388608 ≤ sx a 24 ∧ sx a 24 ≤ 8388607 := by rw [sx24]; omega
theorem sx24_mod (a : Int) : sx a 24 % 16777216 = a % 16777216 := by rw [sx24]; omega
theorem w64_rk (n : Int) : w64 n = RowKit.wrap64 n := by
  show IntKind.wrap .i64 n = _
  rw [IntKind.wrap_i64]; unfold RowKit.wrap64; omega
theorem part_eq (a : Int) : gauss_part a = some (sx a 24) := by
  unfold gauss_part num_Round
  have e : IntKind.wrap .u64 (w64 (64 - 24)) = 40 := by decide
  rw [if_neg (by decide), if_neg (by decide), e, if_pos (by decide), if_pos (by decide), obind_some]
  show some ((w64 (a * 2 ^ 40)).fdiv (2 ^ 40)) = _
  rw [Int.fdiv_eq_ediv_of_nonneg _ (by decide), w64_rk]
  exact congrArg some (round_code a 24 (by decide) (by decide))
theorem gOf_eq (a b : Int) : gauss_Of a b = some ⟨sx a 24, sx b 24⟩ := by
  unfold gauss_Of; rw [part_eq, obind_some, part_eq, obind_some]
theorem rPart_eq (a : Int) : hindcastref02_Part a = some (sx a 24) := by
  unfold hindcastref02_Part xhindcastref01_Round
  rw [if_pos (by decide), obind_some]; rfl
theorem rOf_eq (a b : Int) : hindcastref02_Of a b = some ⟨sx a 24, sx b 24⟩ := by
  unfold hindcastref02_Of; rw [rPart_eq, obind_some, rPart_eq, obind_some]
theorem ocomp_eq (v : GApiValue) : oper_comp v = some ⟨sx v.Re 24, sx v.Im 24⟩ := by
  unfold oper_comp; rw [gOf_eq, obind_some]
theorem rcomp_eq (v : GApiValue) : hindcastref13_comp v = some ⟨sx v.Re 24, sx v.Im 24⟩ := by
  unfold hindcastref13_comp; rw [rOf_eq, obind_some]
theorem number_eq (c : GApiComp) : ∃ x y, gauss_number c = some (x, y) ∧ RepI x (sx c.Re 24) ∧ RepI y (sx c.Im 24) := by
  have h1 := sx24_bd c.Re
  have h2 := sx24_bd c.Im
  refine ⟨_, _, by unfold gauss_number; rw [part_eq, obind_some, part_eq, obind_some], ofInt_rep _ (by omega), ofInt_rep _ (by omega)⟩
theorem back_eq {x y : Nat} {u v : Int} (hx : RepI x u) (hy : RepI y v) (hu : -9223372036854775808 ≤ u ∧ u ≤ 9223372036854775807) (hv : -9223372036854775808 ≤ v ∧ v ≤ 9223372036854775807) : gauss_back (x, y) = some ⟨sx u 24, sx v 24⟩ := by
  unfold gauss_back
  rw [back_int hx hu, obind_some, back_int hy hv, obind_some, gOf_eq, obind_some]
theorem gAdd_eq (a b : GApiComp) : gauss_Add a b = hindcastref02_Add a b := by
  obtain ⟨x, y, e, hx, hy⟩ := number_eq a
  obtain ⟨x', y', e', hx', hy'⟩ := number_eq b
  have h1 := sx24_bd a.Re
  have h2 := sx24_bd a.Im
  have h3 := sx24_bd b.Re
  have h4 := sx24_bd b.Im
  obtain ⟨re, im, f, r1, r2⟩ := cadd_rep hx hy hx' hy' (by omega) (by omega)
  unfold gauss_Add hindcastref02_Add
  rw [e, obind_some, e', obind_some, show cAdd ((x, y).1, (x, y).2) ((x', y').1, (x', y').2) = some (re, im) from f, obind_some, back_eq r1 r2 (by omega) (by omega), obind_some,
    rPart_eq, obind_some, rPart_eq, obind_some, rPart_eq, obind_some, rPart_eq, obind_some, wrap64 (by omega) (by omega), wrap64 (by omega) (by omega), rOf_eq, obind_some]
theorem gSub_eq (a b : GApiComp) : gauss_Sub a b = (hindcastref02_Neg b).bind fun n => hindcastref02_Add a n := by
  obtain ⟨x, y, e, hx, hy⟩ := number_eq a
  obtain ⟨x', y', e', hx', hy'⟩ := number_eq b
  have h1 := sx24_bd a.Re
  have h2 := sx24_bd a.Im
  have h3 := sx24_bd b.Re
  have h4 := sx24_bd b.Im
  obtain ⟨re, im, f, r1, r2⟩ := csub_rep hx hy hx' hy' (by omega) (by omega)
  unfold gauss_Sub hindcastref02_Neg hindcastref02_Add
  rw [e, obind_some, e', obind_some, show cSub ((x, y).1, (x, y).2) ((x', y').1, (x', y').2) = some (re, im) from f, obind_some, back_eq r1 r2 (by omega) (by omega), obind_some,
    rPart_eq, obind_some, rPart_eq, obind_some, wrap64 (by omega) (by omega), wrap64 (by omega) (by omega), rOf_eq, obind_some, obind_some]
  simp only [rPart_eq, obind_some]
  have b1 := sx24_bd (0 - sx b.Re 24)
  have b2 := sx24_bd (0 - sx b.Im 24)
  have b3 := sx24_bd (sx (0 - sx b.Re 24) 24)
  have b4 := sx24_bd (sx (0 - sx b.Im 24) 24)
  rw [wrap64 (by omega) (by omega), wrap64 (by omega) (by omega), rOf_eq, obind_some]
  have m (z w : Int) : sx (z - w) 24 = sx (z + sx (sx (0 - w) 24) 24) 24 := by
    have e1 := sx24_mod (sx (0 - w) 24)
    have e2 := sx24_mod (0 - w)
    generalize sx (sx (0 - w) 24) 24 = q at *
    generalize sx (0 - w) 24 = p at *
    rw [sx24, sx24]; omega
  rw [m (sx a.Re 24) (sx b.Re 24), m (sx a.Im 24) (sx b.Im 24)]
theorem gMul_eq (a b : GApiComp) : gauss_Mul a b = hindcastref02_Mul a b := by
  obtain ⟨x, y, e, hx, hy⟩ := number_eq a
  obtain ⟨x', y', e', hx', hy'⟩ := number_eq b
  have h1 := sx24_bd a.Re
  have h2 := sx24_bd a.Im
  have h3 := sx24_bd b.Re
  have h4 := sx24_bd b.Im
  obtain ⟨re, im, f, r1, r2⟩ := cmul_rep hx hy hx' hy' h1 h2 h3 h4
  have p1 := small_mul h1 h3
  have p2 := small_mul h2 h4
  have p3 := small_mul h1 h4
  have p4 := small_mul h2 h3
  unfold gauss_Mul hindcastref02_Mul
  rw [e, obind_some, e', obind_some, show cMul ((x, y).1, (x, y).2) ((x', y').1, (x', y').2) = some (re, im) from f, obind_some, back_eq r1 r2 (by omega) (by omega), obind_some, rOf_eq, obind_some, rOf_eq, obind_some]
  simp only
  rw [wrap64 (n := sx a.Re 24 * sx b.Re 24) (by omega) (by omega), wrap64 (n := sx a.Im 24 * sx b.Im 24) (by omega) (by omega), wrap64 (n := sx a.Re 24 * sx b.Im 24) (by omega) (by omega), wrap64 (n := sx a.Im 24 * sx b.Re 24) (by omega) (by omega),
    wrap64 (by omega) (by omega), wrap64 (by omega) (by omega), rOf_eq, obind_some]
end Go.Proofs.Ytmffhifkdbfbfaa

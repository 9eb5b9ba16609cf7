/- Parts of the proof. -/
import Derived.Test.YtmffhifkdbfbfaaEqD8Size
namespace Go.Proofs.Ytmffhifkdbfbfaa
open Go.RowKit
set_option maxRecDepth 100000
set_option linter.unusedVariables false
def qbit (x y : Int) (j : Nat) : Int := x / 2 ^ j / y * 2 ^ j
def rbit (x y : Int) (j : Nat) : Int := x / 2 ^ j % y
theorem two_pos (k : Nat) : (0 : Int) < 2 ^ k := Int.pow_pos (by decide)
theorem half (x : Int) (k : Nat) : x / 2 ^ (k + 1) = x / 2 ^ k / 2 := by
  rw [Int.ediv_ediv_of_nonneg (Int.le_of_lt (two_pos k))]; rfl
theorem rbit_lo (x y : Int) (hy : 1 ≤ y) (j : Nat) : 0 ≤ rbit x y j := Int.emod_nonneg _ (by omega)
theorem rbit_hi (x y : Int) (hy : 1 ≤ y) (j : Nat) : rbit x y j < y := Int.emod_lt_of_pos _ (by omega)
theorem qbit_lo (x y : Int) (hx : 0 ≤ x) (hy : 1 ≤ y) (j : Nat) : 0 ≤ qbit x y j :=
  Int.mul_nonneg (Int.ediv_nonneg (Int.ediv_nonneg hx (Int.le_of_lt (two_pos j))) (by omega)) (Int.le_of_lt (two_pos j))
theorem qbit_hi (x y : Int) (hx : 0 ≤ x) (hy : 1 ≤ y) (j : Nat) : qbit x y j ≤ x := by
  have h1 : x / 2 ^ j / y ≤ x / 2 ^ j := Int.ediv_le_self _ (Int.ediv_nonneg hx (Int.le_of_lt (two_pos j)))
  have h2 := Int.mul_le_mul_of_nonneg_right h1 (Int.le_of_lt (two_pos j))
  exact Int.le_trans h2 (Int.ediv_mul_le _ (Int.ne_of_gt (two_pos j)))
theorem step_eq (x y : Int) (k : Nat) : x / 2 ^ k = (rbit x y (k + 1) * 2 + x / 2 ^ k % 2) + (2 * (x / 2 ^ (k + 1) / y)) * y := by
  have h1 := Int.emod_add_mul_ediv (x / 2 ^ k) 2
  have h2 := Int.emod_add_mul_ediv (x / 2 ^ (k + 1)) y
  unfold rbit
  rw [half] at *
  generalize x / 2 ^ k = X at *
  rw [show 2 * (X / 2 / y) * y = 2 * (y * (X / 2 / y)) by rw [Int.mul_assoc, Int.mul_comm y]]
  omega
theorem step_hi (x y : Int) (hy : 1 ≤ y) (k : Nat) (h : y ≤ rbit x y (k + 1) * 2 + x / 2 ^ k % 2) :
    rbit x y k = rbit x y (k + 1) * 2 + x / 2 ^ k % 2 - y ∧ qbit x y k = qbit x y (k + 1) + 2 ^ k := by
  have he := step_eq x y k
  have h1 := rbit_hi x y hy (k + 1)
  generalize hR : rbit x y (k + 1) * 2 + x / 2 ^ k % 2 = R at *
  have hlt : R < 2 * y := by omega
  have hq : x / 2 ^ k / y = 2 * (x / 2 ^ (k + 1) / y) + 1 := by
    rw [he, Int.add_mul_ediv_right _ _ (by omega)]
    have : R / y = 1 := by rw [show R = (R - y) + 1 * y by omega, Int.add_mul_ediv_right _ _ (by omega), Int.ediv_eq_zero_of_lt (by omega) (by omega)]; omega
    omega
  have hr : x / 2 ^ k % y = R - y := by
    rw [he, Int.add_mul_emod_self_right, show R = (R - y) + 1 * y by omega, Int.add_mul_emod_self_right, Int.emod_eq_of_lt (by omega) (by omega)]; omega
  refine ⟨hr, ?_⟩
  unfold qbit
  rw [hq, show (2 : Int) ^ (k + 1) = 2 ^ k * 2 from rfl, Int.add_mul, Int.one_mul, Int.mul_comm 2, Int.mul_assoc, Int.mul_comm 2]
theorem step_lo (x y : Int) (hx : 0 ≤ x) (hy : 1 ≤ y) (k : Nat) (h : rbit x y (k + 1) * 2 + x / 2 ^ k % 2 < y) :
    rbit x y k = rbit x y (k + 1) * 2 + x / 2 ^ k % 2 ∧ qbit x y k = qbit x y (k + 1) := by
  have he := step_eq x y k
  have h1 := rbit_lo x y hy (k + 1)
  have h2 := Int.emod_nonneg (x / 2 ^ k) (show (2 : Int) ≠ 0 by decide)
  generalize hR : rbit x y (k + 1) * 2 + x / 2 ^ k % 2 = R at *
  have hq : x / 2 ^ k / y = 2 * (x / 2 ^ (k + 1) / y) := by
    rw [he, Int.add_mul_ediv_right _ _ (by omega), Int.ediv_eq_zero_of_lt (by omega) (by omega)]; omega
  have hr : x / 2 ^ k % y = R := by
    rw [he, Int.add_mul_emod_self_right, Int.emod_eq_of_lt (by omega) (by omega)]
  refine ⟨hr, ?_⟩
  unfold qbit
  rw [hq, show (2 : Int) ^ (k + 1) = 2 ^ k * 2 from rfl, Int.mul_comm 2, Int.mul_assoc, Int.mul_comm 2]
theorem bits_start (x y : Int) (h0 : 0 ≤ x) (h1 : x ≤ 18446744073709551615) : qbit x y 64 = 0 ∧ rbit x y 64 = 0 := by
  have : x / 2 ^ 64 = 0 := Int.ediv_eq_zero_of_lt h0 (by rw [show (2 : Int) ^ 64 = 18446744073709551616 from by decide]; omega)
  unfold qbit rbit; rw [this]; simp
theorem bits_end (x y : Int) : qbit x y 0 = x / y ∧ rbit x y 0 = x % y := by simp [qbit, rbit]
theorem two_le (k : Nat) (h : k < 64) : (2 : Int) ^ k ≤ 9223372036854775808 := by
  have : 2 ^ k ≤ 2 ^ 63 := Nat.pow_le_pow_right (n := 2) (by decide) (show k ≤ 63 by omega)
  have h2 : ((2 ^ k : Nat) : Int) ≤ ((2 ^ 63 : Nat) : Int) := Int.ofNat_le.2 this
  rw [Int.natCast_pow, show ((2 : Nat) : Int) = 2 from rfl, show ((2 ^ 63 : Nat) : Int) = 9223372036854775808 from rfl] at h2
  exact h2
theorem quo_signs (a b : Int) (hb : b ≠ 0) : a.tdiv b = (if (decide (a < 0) != decide (b < 0)) = true then -(absI a / absI b) else absI a / absI b) := by
  unfold absI
  rcases Int.lt_or_le a 0 with ha | ha <;> rcases Int.lt_or_le b 0 with hb' | hb'
  · have e : a.tdiv b = (-a).tdiv (-b) := by rw [Int.neg_tdiv_neg]
    rw [e, Int.tdiv_eq_ediv_of_nonneg (by omega)]; simp [ha, hb']
  · have e : a.tdiv b = -((-a).tdiv b) := by rw [Int.neg_tdiv]; omega
    rw [e, Int.tdiv_eq_ediv_of_nonneg (by omega)]; simp [ha, show ¬ b < 0 by omega]
  · have e : a.tdiv b = -(a.tdiv (-b)) := by rw [Int.tdiv_neg]; omega
    rw [e, Int.tdiv_eq_ediv_of_nonneg (by omega)]; simp [hb', show ¬ a < 0 by omega]
  · rw [Int.tdiv_eq_ediv_of_nonneg ha]; simp [show ¬ a < 0 by omega, show ¬ b < 0 by omega]
theorem rem_signs (a b : Int) (hb : b ≠ 0) : a.tmod b = if a < 0 then -(absI a % absI b) else absI a % absI b := by
  have hm : ∀ x y : Int, x % (if y < 0 then -y else y) = x % y := fun x y => by split <;> simp [Int.emod_neg]
  unfold absI
  rw [hm]
  rcases Int.lt_or_le a 0 with ha | ha
  · have e : a.tmod b = -((-a).tmod b) := by rw [Int.neg_tmod]; omega
    rw [e, Int.tmod_eq_emod_of_nonneg (by omega)]; simp [ha]
  · rw [Int.tmod_eq_emod_of_nonneg ha]; simp [show ¬ a < 0 by omega]
theorem abs_bd {a : Int} (h : (Lit.int .i64 a).wf = true) : 0 ≤ absI a ∧ absI a ≤ 9223372036854775808 := by
  have := wf64 h; unfold absI; split <;> omega
theorem abs_pos {a : Int} (h : a ≠ 0) : 1 ≤ absI a := by unfold absI; split <;> omega
end Go.Proofs.Ytmffhifkdbfbfaa

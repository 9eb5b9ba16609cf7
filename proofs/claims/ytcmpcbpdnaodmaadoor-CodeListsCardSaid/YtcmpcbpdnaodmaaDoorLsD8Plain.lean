/- Parts of the proof. -/
import Derived.RowKit
import Derived.IntWalk
import Derived.Laws.Tables
namespace Go.Proofs.YtcmpcbpdnaodmaaDoor
open Go.RowKit
def dig (m : Int) (j : Nat) : Int := m / 256 ^ j % 256
def D8 (m : Int) : Array Value := #[.int .i64 (dig m 0), .int .i64 (dig m 1), .int .i64 (dig m 2), .int .i64 (dig m 3), .int .i64 (dig m 4), .int .i64 (dig m 5), .int .i64 (dig m 6), .int .i64 (dig m 7)]
def mixd (m p : Int) (k j : Nat) : Int := if j < k then dig m j else dig p j
def D8m (m p : Int) (k : Nat) : Array Value := #[.int .i64 (mixd m p k 0), .int .i64 (mixd m p k 1), .int .i64 (mixd m p k 2), .int .i64 (mixd m p k 3), .int .i64 (mixd m p k 4), .int .i64 (mixd m p k 5), .int .i64 (mixd m p k 6), .int .i64 (mixd m p k 7)]
theorem dig_lo (m : Int) (j : Nat) : 0 ≤ dig m j := Int.emod_nonneg _ (by decide)
theorem dig_hi (m : Int) (j : Nat) : dig m j ≤ 255 := by have := Int.emod_lt_of_pos (m / 256 ^ j) (show (0 : Int) < 256 by decide); unfold dig; omega
theorem below8 {j : Nat} (h : j < 8) : j = 0 ∨ j = 1 ∨ j = 2 ∨ j = 3 ∨ j = 4 ∨ j = 5 ∨ j = 6 ∨ j = 7 := by omega
theorem D8m_get (m p : Int) (k j : Nat) (h : j < 8) : (D8m m p k)[j]? = some (.int .i64 (mixd m p k j)) := by
  rcases below8 h with rfl | rfl | rfl | rfl | rfl | rfl | rfl | rfl <;> rfl
theorem D8_get (m : Int) (j : Nat) (h : j < 8) : (D8 m)[j]? = some (.int .i64 (dig m j)) := by
  rcases below8 h with rfl | rfl | rfl | rfl | rfl | rfl | rfl | rfl <;> rfl
theorem D8m_set (m p : Int) (k : Nat) (h : k < 8) : (D8m m p k).setIfInBounds k (.int .i64 (dig m k)) = D8m m p (k + 1) := by
  rcases below8 h with rfl | rfl | rfl | rfl | rfl | rfl | rfl | rfl <;> simp [D8m, mixd]
theorem D8m_full (m p : Int) : D8m m p 8 = D8 m := rfl
theorem D8m_none (m p : Int) : D8m m p 0 = D8 p := rfl
theorem dig_zero (j : Nat) : dig 0 j = 0 := by simp [dig]
theorem D8_zero : D8 0 = #[.int .i64 0, .int .i64 0, .int .i64 0, .int .i64 0, .int .i64 0, .int .i64 0, .int .i64 0, .int .i64 0] := by simp [D8, dig_zero]
theorem pow_pos (k : Nat) : (0 : Int) < 256 ^ k := Int.pow_pos (by decide)
theorem div_step (m : Int) (k : Nat) : m / 256 ^ k / 256 = m / 256 ^ (k + 1) := by
  rw [Int.ediv_ediv_of_nonneg (Int.le_of_lt (pow_pos k))]; rfl
theorem dig_mod (m : Int) (j : Nat) (h : j < 8) : dig (m % 18446744073709551616) j = dig m j := by
  unfold dig
  rcases below8 h with rfl | rfl | rfl | rfl | rfl | rfl | rfl | rfl <;> omega
theorem D8_mod (m : Int) : D8 (m % 18446744073709551616) = D8 m := by
  unfold D8; simp only [dig_mod m _ (show 0 < 8 by decide), dig_mod m _ (show 1 < 8 by decide), dig_mod m _ (show 2 < 8 by decide), dig_mod m _ (show 3 < 8 by decide), dig_mod m _ (show 4 < 8 by decide), dig_mod m _ (show 5 < 8 by decide), dig_mod m _ (show 6 < 8 by decide), dig_mod m _ (show 7 < 8 by decide)]
theorem u64_wrap (n : Int) : IntKind.u64.wrap n = n % 18446744073709551616 := by simp [IntKind.wrap, IntKind.bits, IntKind.signed]
theorem D8_u64 (n : Int) : D8 (IntKind.u64.wrap n) = D8 n := by rw [u64_wrap, D8_mod]
theorem u64_lo (n : Int) : 0 ≤ IntKind.u64.wrap n := by rw [u64_wrap]; omega
theorem u64_hi (n : Int) : IntKind.u64.wrap n ≤ 18446744073709551615 := by rw [u64_wrap]; omega
def carry (m n : Int) (k : Nat) : Int := (m % 256 ^ k + n % 256 ^ k) / 256 ^ k
theorem split_pow (m B : Int) (hB : 0 < B) : m % (B * 256) = m % B + B * (m / B % 256) := by
  have h1 := Int.emod_add_mul_ediv m B
  have h2 := Int.emod_add_mul_ediv (m / B) 256
  have h3 : m / (B * 256) = m / B / 256 := by rw [Int.ediv_ediv_of_nonneg (Int.le_of_lt hB)]
  have h4 := Int.emod_add_mul_ediv m (B * 256)
  rw [h3] at h4
  have h5 : B * 256 * (m / B / 256) = B * (256 * (m / B / 256)) := by rw [Int.mul_assoc]
  have h6 : B * (m / B) = B * (m / B % 256) + B * (256 * (m / B / 256)) := by rw [← Int.mul_add, h2]
  omega
theorem mac_step (p a n B : Int) (hB : 0 < B) (c : Int) (hc : c = (p % B + a * (n % B)) / B) :
    (p / B % 256 + a * (n / B % 256) + c) % 256 = (p + a * n) / B % 256 ∧
    (p / B % 256 + a * (n / B % 256) + c) / 256 = (p % (B * 256) + a * (n % (B * 256))) / (B * 256) := by
  have e1 : (p + a * n) / B = p / B + a * (n / B) + c := by
    have hp := Int.emod_add_mul_ediv p B
    have hn := Int.emod_add_mul_ediv n B
    have : p + a * n = (p % B + a * (n % B)) + (p / B + a * (n / B)) * B := by
      calc p + a * n = (p % B + B * (p / B)) + a * (n % B + B * (n / B)) := by rw [hp, hn]
        _ = _ := by rw [Int.mul_add, Int.add_mul, Int.mul_comm B (p / B), Int.mul_comm B (n / B), ← Int.mul_assoc]; omega
    rw [this, Int.add_mul_ediv_right _ _ (by omega), hc]; omega
  constructor
  · rw [e1]
    have h1 : a * (n / B) % 256 = a * (n / B % 256) % 256 := by rw [Int.mul_emod, Int.mul_emod a (n / B % 256), Int.emod_emod_of_dvd _ (by decide)]
    omega
  · have s1 := split_pow p B hB
    have s2 := split_pow n B hB
    have : p % (B * 256) + a * (n % (B * 256)) = (p % B + a * (n % B)) + (p / B % 256 + a * (n / B % 256)) * B := by
      rw [s1, s2, Int.mul_add, Int.add_mul, Int.mul_comm B (p / B % 256), Int.mul_comm B (n / B % 256), ← Int.mul_assoc]; omega
    rw [this, ← Int.ediv_ediv_of_nonneg (Int.le_of_lt hB), Int.add_mul_ediv_right _ _ (by omega), hc]
    congr 1; omega
theorem carry_zero (m n : Int) : carry m n 0 = 0 := by simp [carry]
theorem carry_step (m n : Int) (k : Nat) : (dig m k + dig n k + carry m n k) % 256 = dig (m + n) k ∧ (dig m k + dig n k + carry m n k) / 256 = carry m n (k + 1) := by
  have := mac_step m 1 n (256 ^ k) (pow_pos k) (carry m n k) (by simp [carry])
  simp only [Int.one_mul] at this
  exact this
theorem carry_bd (m n : Int) (k : Nat) : 0 ≤ carry m n k ∧ carry m n k ≤ 1 := by
  have h := pow_pos k
  have a1 := Int.emod_nonneg m (Int.ne_of_gt h); have a2 := Int.emod_lt_of_pos m h
  have b1 := Int.emod_nonneg n (Int.ne_of_gt h); have b2 := Int.emod_lt_of_pos n h
  unfold carry
  refine ⟨Int.ediv_nonneg (by omega) (by omega), ?_⟩
  have : (m % 256 ^ k + n % 256 ^ k) / 256 ^ k < 2 := Int.ediv_lt_of_lt_mul h (by omega)
  omega
def upper (n : Int) (j : Nat) : Int := n / 256 ^ j % 256 ^ (8 - j)
theorem upper_full (n : Int) : upper n 0 = n % 18446744073709551616 := by simp [upper]
theorem upper_none (n : Int) : upper n 8 = 0 := by simp [upper]
theorem upper_lo (n : Int) (j : Nat) : 0 ≤ upper n j := Int.emod_nonneg _ (Int.ne_of_gt (pow_pos _))
theorem upper_step (n : Int) (j : Nat) (h : j < 8) : upper n (j + 1) * 256 + dig n j = upper n j := by
  unfold upper dig
  rcases below8 h with rfl | rfl | rfl | rfl | rfl | rfl | rfl | rfl <;> simp <;> omega
theorem upper_hi (n : Int) (j : Nat) (h : j ≤ 8) : upper n j ≤ 18446744073709551615 := by
  have h1 := Int.emod_lt_of_pos (n / 256 ^ j) (pow_pos (8 - j))
  have h2 : (256 : Int) ^ (8 - j) ≤ 18446744073709551616 := by
    rcases (show j = 0 ∨ j = 1 ∨ j = 2 ∨ j = 3 ∨ j = 4 ∨ j = 5 ∨ j = 6 ∨ j = 7 ∨ j = 8 by omega) with rfl | rfl | rfl | rfl | rfl | rfl | rfl | rfl | rfl <;> decide
  unfold upper; omega
theorem upper_small (n : Int) (j : Nat) (h : j < 8) : upper n (j + 1) ≤ 72057594037927935 := by
  have h1 := Int.emod_lt_of_pos (n / 256 ^ (j + 1)) (pow_pos (8 - (j + 1)))
  have h2 : (256 : Int) ^ (8 - (j + 1)) ≤ 72057594037927936 := by
    rcases below8 h with rfl | rfl | rfl | rfl | rfl | rfl | rfl | rfl <;> decide
  unfold upper; omega
theorem wrap64_mod (n : Int) : wrap64 (n % 18446744073709551616) = wrap64 n := by unfold wrap64; omega
theorem wrap64_upper (n : Int) : wrap64 (upper n 0) = wrap64 n := by rw [upper_full, wrap64_mod]
theorem dig_comp (n : Int) (j : Nat) : 255 - dig n j = dig (-n - 1) j := by
  unfold dig
  have h := pow_pos j
  generalize (256 : Int) ^ j = B at *
  have e : (-n - 1) / B = -(n / B) - 1 := by
    have h1 := Int.emod_add_mul_ediv n B
    have h2 := Int.emod_nonneg n (Int.ne_of_gt h)
    have h3 := Int.emod_lt_of_pos n h
    have : -n - 1 = (B - 1 - n % B) + (-(n / B) - 1) * B := by
      rw [Int.sub_mul, Int.neg_mul, Int.mul_comm (n / B) B]; omega
    rw [this, Int.add_mul_ediv_right _ _ (by omega), Int.ediv_eq_zero_of_lt (by omega) (by omega)]; omega
  rw [e]; omega
theorem D8_one : D8 1 = #[.int .i64 1, .int .i64 0, .int .i64 0, .int .i64 0, .int .i64 0, .int .i64 0, .int .i64 0, .int .i64 0] := by simp [D8, dig]
theorem D8_all (m : Int) : (D8 m).all (·.oneCell') = true := by simp [D8, Value.oneCell']
theorem neg_one_one (n : Int) : -n - 1 + 1 = -n := by omega
def absI (a : Int) : Int := if a < 0 then -a else a
theorem wf64 {a : Int} (h : (Lit.int .i64 a).wf = true) : -9223372036854775808 ≤ a ∧ a ≤ 9223372036854775807 := by
  simpa [Lit.wf, IntKind.min, IntKind.max, IntKind.bits, IntKind.signed] using h
theorem neg_dig (a : Int) (h : (Lit.int .i64 a).wf = true) : decide (128 ≤ dig a 7) = decide (a < 0) := by
  have hw := wf64 h
  have : (128 ≤ dig a 7) ↔ a < 0 := by unfold dig; simp; omega
  simp [this]
end Go.Proofs.YtcmpcbpdnaodmaaDoor

/- Parts of the proof. -/
import Derived.Test.YtmffhifkdbfbfaaEqNumOps
namespace Go.Proofs.Ytmffhifkdbfbfaa
open Go.RowKit
set_option maxRecDepth 100000
set_option linter.unusedVariables false
def sx (a : Int) (k : Nat) : Int := (a + 2 ^ (k - 1)) % 2 ^ k - 2 ^ (k - 1)
theorem pw_split {k : Nat} (h1 : 1 ≤ k) (h2 : k ≤ 64) : (9223372036854775808 : Int) = 2 ^ (k - 1) * 2 ^ (64 - k) ∧ (18446744073709551616 : Int) = 2 ^ k * 2 ^ (64 - k) := by
  constructor
  · rw [← Int.pow_add, show k - 1 + (64 - k) = 63 by omega]; decide
  · rw [← Int.pow_add, show k + (64 - k) = 64 by omega]; decide
theorem two_pos' (k : Nat) : (0 : Int) < 2 ^ k := Int.pow_pos (by decide)
theorem round_code (a : Int) (k : Nat) (h1 : 1 ≤ k) (h2 : k ≤ 64) : wrap64 (a * 2 ^ (64 - k)) / 2 ^ (64 - k) = sx a k := by
  obtain ⟨p1, p2⟩ := pw_split h1 h2
  have hm := two_pos' (64 - k)
  have hk := two_pos' k
  unfold wrap64 sx
  rw [p1, p2]
  generalize (2 : Int) ^ (64 - k) = M at *
  generalize (2 : Int) ^ (k - 1) = H at *
  generalize (2 : Int) ^ k = K at *
  rw [← Int.add_mul, Int.mul_comm (a + H), Int.mul_comm K, Int.mul_emod_mul_of_pos _ _ hm, Int.mul_comm M, ← Int.sub_mul, Int.mul_ediv_cancel _ (Int.ne_of_gt hm)]
theorem two_mono {i j : Nat} (h : i ≤ j) : (2 : Int) ^ i ≤ 2 ^ j := by
  have := Nat.pow_le_pow_right (n := 2) (by decide) h
  have h2 : ((2 ^ i : Nat) : Int) ≤ ((2 ^ j : Nat) : Int) := Int.ofNat_le.2 this
  rwa [Int.natCast_pow, Int.natCast_pow] at h2
theorem half_pow {k : Nat} (h1 : 1 ≤ k) : (2 : Int) ^ k = 2 * 2 ^ (k - 1) := by
  obtain ⟨j, rfl⟩ : ∃ j, k = j + 1 := ⟨k - 1, by omega⟩
  rw [show j + 1 - 1 = j from rfl, Int.pow_succ, Int.mul_comm]
theorem sx_wf (a : Int) (k : Nat) (h1 : 1 ≤ k) (h2 : k ≤ 64) : -9223372036854775808 ≤ sx a k ∧ sx a k ≤ 9223372036854775807 := by
  obtain ⟨p1, p2⟩ := pw_split h1 h2
  have hm := two_pos' (64 - k)
  have hk := two_pos' (k - 1)
  have a1 := Int.emod_nonneg (a + 2 ^ (k - 1)) (Int.ne_of_gt (two_pos' k))
  have a2 := Int.emod_lt_of_pos (a + 2 ^ (k - 1)) (two_pos' k)
  have h := half_pow h1
  have hle : (2 : Int) ^ (k - 1) ≤ 9223372036854775808 := by
    rw [p1]
    have := Int.mul_le_mul_of_nonneg_left (show (1 : Int) ≤ 2 ^ (64 - k) by omega) (Int.le_of_lt hk)
    simpa using this
  unfold sx
  omega
def obit (u : Int) (k i : Nat) : Int := if i ≤ k then u % 2 ^ i else u % 2 ^ k + u / 2 ^ (k - 1) % 2 * (2 ^ i - 2 ^ k)
theorem mod_step (u : Int) (i : Nat) : u % 2 ^ (i + 1) = u % 2 ^ i + u / 2 ^ i % 2 * 2 ^ i := by
  have hB := two_pos' i
  rw [show (2 : Int) ^ (i + 1) = 2 ^ i * 2 from rfl]
  generalize (2 : Int) ^ i = B at *
  have h1 := Int.emod_add_mul_ediv u B
  have h2 := Int.emod_add_mul_ediv (u / B) 2
  have h3 : u / (B * 2) = u / B / 2 := by rw [Int.ediv_ediv_of_nonneg (Int.le_of_lt hB)]
  have h4 := Int.emod_add_mul_ediv u (B * 2)
  rw [h3] at h4
  have h5 : B * 2 * (u / B / 2) = B * (2 * (u / B / 2)) := by rw [Int.mul_assoc]
  have h6 : B * (u / B) = B * (u / B % 2) + B * (2 * (u / B / 2)) := by rw [← Int.mul_add, h2]
  rw [Int.mul_comm (u / B % 2)]
  omega
theorem obit_low (u : Int) (k i : Nat) (h : i < k) : obit u k (i + 1) = obit u k i + u / 2 ^ i % 2 * 2 ^ i := by
  unfold obit; rw [if_pos (by omega), if_pos (by omega), mod_step]
theorem obit_high (u : Int) (k i : Nat) (h : k ≤ i) : obit u k (i + 1) = obit u k i + u / 2 ^ (k - 1) % 2 * 2 ^ i := by
  unfold obit; rw [if_neg (by omega)]
  rw [show (2 : Int) ^ (i + 1) = 2 ^ i * 2 from rfl]
  by_cases he : i = k
  · subst he; rw [if_pos (by omega)]
    rw [show (2 : Int) ^ i * 2 - 2 ^ i = 2 ^ i by omega]
  · rw [if_neg (by omega)]
    rw [Int.add_assoc, ← Int.mul_add, show (2 : Int) ^ i - 2 ^ k + 2 ^ i = 2 ^ i * 2 - 2 ^ k by omega]
theorem obit_zero (u : Int) (k : Nat) : obit u k 0 = 0 := by simp [obit]
theorem obit_lo (u : Int) (k i : Nat) : 0 ≤ obit u k i := by
  unfold obit; split
  · exact Int.emod_nonneg _ (Int.ne_of_gt (two_pos' i))
  · have h1 := Int.emod_nonneg u (Int.ne_of_gt (two_pos' k))
    have h2 := Int.emod_nonneg (u / 2 ^ (k - 1)) (show (2 : Int) ≠ 0 by decide)
    have h3 : (2 : Int) ^ k ≤ 2 ^ i := two_mono (by omega)
    have := Int.mul_nonneg h2 (show 0 ≤ (2 : Int) ^ i - 2 ^ k by omega)
    omega
theorem obit_hi (u : Int) (k i : Nat) (hi : i ≤ 64) : obit u k i ≤ 18446744073709551615 := by
  have h0 : (2 : Int) ^ i ≤ 18446744073709551616 := by
    have h3 : (2 : Int) ^ i ≤ 2 ^ 64 := two_mono hi
    rwa [show (2 : Int) ^ 64 = 18446744073709551616 from by decide] at h3
  unfold obit; split
  · have := Int.emod_lt_of_pos u (two_pos' i); omega
  · have h1 := Int.emod_lt_of_pos u (two_pos' k)
    have h2 := Int.emod_lt_of_pos (u / 2 ^ (k - 1)) (show (0 : Int) < 2 by decide)
    have h3 : (2 : Int) ^ k ≤ 2 ^ i := two_mono (by omega)
    have h4 := Int.mul_le_mul_of_nonneg_right (show u / 2 ^ (k - 1) % 2 ≤ 1 by omega) (show 0 ≤ (2 : Int) ^ i - 2 ^ k by omega)
    omega
theorem obit_end (a : Int) (k : Nat) (h1 : 1 ≤ k) (h2 : k ≤ 64) : wrap64 (obit (IntKind.u64.wrap a) k 64) = sx a k := by
  have hsx := sx_wf a k h1 h2
  obtain ⟨p1, p2⟩ := pw_split h1 h2
  have hh := half_pow h1
  rw [u64_wrap]
  have hu : ∀ j, j ≤ 64 → a % 18446744073709551616 % 2 ^ j = a % 2 ^ j := fun j hj => by
    refine Int.emod_emod_of_dvd _ ⟨2 ^ (64 - j), ?_⟩
    rw [← Int.pow_add, show j + (64 - j) = 64 by omega]; decide
  have hb : a % 18446744073709551616 / 2 ^ (k - 1) % 2 = (a % 2 ^ k) / 2 ^ (k - 1) := by
    have e : a % 18446744073709551616 % 2 ^ k = a % 2 ^ k := hu k h2
    have s := mod_step (a % 18446744073709551616) (k - 1)
    rw [show k - 1 + 1 = k by omega, e] at s
    have l1 := Int.emod_nonneg (a % 18446744073709551616) (Int.ne_of_gt (two_pos' (k - 1)))
    have l2 := Int.emod_lt_of_pos (a % 18446744073709551616) (two_pos' (k - 1))
    rw [s, Int.add_mul_ediv_right _ _ (Int.ne_of_gt (two_pos' (k - 1))), Int.ediv_eq_zero_of_lt l1 l2]; omega
  have hA1 := Int.emod_nonneg a (Int.ne_of_gt (two_pos' k))
  have hA2 := Int.emod_lt_of_pos a (two_pos' k)
  have hs : sx a k = a % 2 ^ k - (a % 2 ^ k) / 2 ^ (k - 1) * 2 ^ k := by
    have hm : (a + 2 ^ (k - 1)) % 2 ^ k = (a % 2 ^ k + 2 ^ (k - 1)) % 2 ^ k := by rw [Int.emod_add_emod]
    unfold sx
    rw [hm]
    have hH := two_pos' (k - 1)
    rw [hh] at *
    generalize (2 : Int) ^ (k - 1) = H at *
    generalize a % (2 * H) = A at *
    by_cases hlt : A < H
    · rw [Int.ediv_eq_zero_of_lt hA1 hlt, Int.emod_eq_of_lt (by omega) (by omega)]; omega
    · have : A / H = 1 := by rw [show A = (A - H) + 1 * H by omega, Int.add_mul_ediv_right _ _ (by omega), Int.ediv_eq_zero_of_lt (by omega) (by omega)]; omega
      rw [this, show A + H = (A - H) + 1 * (2 * H) by omega, Int.add_mul_emod_self_right, Int.emod_eq_of_lt (by omega) (by omega)]; omega
  by_cases hk : k = 64
  · subst hk
    unfold obit; rw [if_pos (by omega), hu 64 (by omega)]
    rw [show (2 : Int) ^ 64 = 18446744073709551616 from by decide, wrap64_mod]
    unfold wrap64 sx; rfl
  · unfold obit; rw [if_neg (by omega), hu k h2, hb]
    rw [show (2 : Int) ^ 64 = 18446744073709551616 from by decide]
    generalize (a % 2 ^ k) / 2 ^ (k - 1) = t at *
    have : a % 2 ^ k + t * (18446744073709551616 - 2 ^ k) = sx a k + t * 18446744073709551616 := by rw [Int.mul_sub]; omega
    rw [this]
    rw [← wrap64_mod, Int.add_mul_emod_self_right, wrap64_mod]
    exact IntWalk.wrap64_in _ hsx
set_option maxHeartbeats 1000000 in
theorem ref01_Round (a : Int) (k : Nat) (h1 : 1 ≤ k) (h2 : k ≤ 64) (w : World) : Calls Try.prog 94 #[.int .i64 a, .int .i64 k] w fun e w' => e = .returned (.int .i64 (sx a k)) ∧ w = w' := by
  have hend := obit_end a k h1 h2
  have HE := Lib.hid hend; clear hend
  have u0 := u64_lo a
  have u1 := u64_hi a
  generalize hu : IntKind.u64.wrap a = u at *
  have Hu := Lib.hid hu; clear hu
  have d0 : 0 ≤ u / 2 ^ (k - 1) := Int.ediv_nonneg u0 (Int.le_of_lt (two_pos' _))
  have d1 : u / 2 ^ (k - 1) ≤ u := Int.ediv_le_self _ u0
  have hm : min (k - 1) 64 = k - 1 := by omega
  have h3 : (1 : Int) ≤ k := by omega
  have h4 : (k : Int) ≤ 64 := by omega
  have h5 : ((k : Int) - 1).toNat = k - 1 := by omega
  have hu' : IntKind.u64.wrap a = u := Hu.out
  go_enter Try.func94, Try.ntmps94
  go_wp2_with fail
  go_loop [7,8,9] (fun o i b => ∃ j : Nat, j ≤ 64 ∧ i = .int .i64 j ∧ o = .int .u64 (obit u k j)) (fun _ i _ => 64 - (intOf i).toNat)
  case atStart => exact ⟨0, by omega, rfl, by rw [obit_zero]⟩
  case round =>
    obtain ⟨i, hi, rfl, rfl⟩ := hrel
    by_cases hlt : i < 64
    · have p0 := two_pos' i
      have p1 : (2 : Int) ^ i ≤ 9223372036854775808 := by
        have h3 : (2 : Int) ^ i ≤ 2 ^ 63 := two_mono (by omega)
        rwa [show (2 : Int) ^ 63 = 9223372036854775808 from by decide] at h3
      have o0 := obit_lo u k i
      have o1 := obit_lo u k (i + 1)
      have o2 := obit_hi u k (i + 1) (by omega)
      have e0 : 0 ≤ u / 2 ^ i := Int.ediv_nonneg u0 (Int.le_of_lt p0)
      have e1 : u / 2 ^ i ≤ u := Int.ediv_le_self _ u0
      have hmi : min i 64 = i := by omega
      by_cases hk : i < k
      · have hs := obit_low u k i hk
        have b0 := Int.emod_nonneg (u / 2 ^ i) (show (2 : Int) ≠ 0 by decide)
        have b1 := Int.emod_lt_of_pos (u / 2 ^ i) (show (0 : Int) < 2 by decide)
        have c0 := Int.mul_nonneg b0 (Int.le_of_lt p0)
        rw [hs] at o2
        have hw : IntKind.u64.wrap (u / 2 ^ i % 2 * 2 ^ i) = u / 2 ^ i % 2 * 2 ^ i := IntWalk.u64_in _ (by omega)
        have HS := Lib.hid hs; clear hs o1
        go_wp2_with fail
        go_round
        case rel => exact ⟨i + 1, by omega, by go_num, by rw [HS.out]⟩
        case measure => simp [intOf]; omega
      · have hs := obit_high u k i (by omega)
        have b0 := Int.emod_nonneg (u / 2 ^ (k - 1)) (show (2 : Int) ≠ 0 by decide)
        have b1 := Int.emod_lt_of_pos (u / 2 ^ (k - 1)) (show (0 : Int) < 2 by decide)
        have c0 := Int.mul_nonneg b0 (Int.le_of_lt p0)
        rw [hs] at o2
        have hw : IntKind.u64.wrap (u / 2 ^ (k - 1) % 2 * 2 ^ i) = u / 2 ^ (k - 1) % 2 * 2 ^ i := IntWalk.u64_in _ (by omega)
        have HS := Lib.hid hs; clear hs o1
        go_wp2_with fail
        go_round
        case rel => exact ⟨i + 1, by omega, by go_num, by rw [HS.out]⟩
        case measure => simp [intOf]; omega
    · obtain rfl : i = 64 := by omega
      have he : wrap64 (obit u k 64) = sx a k := HE.out
      go_wp2_with fail
      go_ret
      exact ⟨rfl, rfl⟩
end Go.Proofs.Ytmffhifkdbfbfaa

/- Parts of the proof. -/
import Derived.Test.YtmffhifkdbfbfaaUnFlExact
import Derived.Laws.ComplexArith
namespace Go.Proofs.Ytmffhifkdbfbfaa
open Ieee
theorem f64_format : FloatKind.format .f64 = double := rfl
theorem ofInt_rep (n : Int) (h : n.natAbs < 2 ^ 53) : RepI (floatOfInt .f64 n) n := by
  have := write_rep n h (decide (n < 0)) 0 (fun h => by simp [h]) (fun h => by simp; omega)
  simpa [floatOfInt, FloatKind.nearest, FloatKind.encode, f64_format] using this
theorem xor_top (x : Nat) : (x ^^^ 2 ^ 63) % 2 ^ 63 = x % 2 ^ 63 ∧ (x ^^^ 2 ^ 63) / 2 ^ 63 % 2 = 1 - x / 2 ^ 63 % 2 := by
  refine ⟨?_, ?_⟩
  · rw [Nat.xor_mod_two_pow, Nat.mod_self, Nat.xor_zero]
  · rw [Nat.xor_div_two_pow, Nat.div_self (Nat.two_pow_pos _)]
    generalize x / 2 ^ 63 = y
    have h := Nat.xor_mod_two_pow (a := y) (b := 1) (n := 1)
    simp only [Nat.pow_one] at h
    rw [h]
    rcases Nat.mod_two_eq_zero_or_one y with e | e <;> rw [e] <;> rfl
theorem neg_rep {x : Nat} {a : Int} (h : RepI x a) : RepI (Op.negFloat .f64 x) (-a) := by
  obtain ⟨s, e, hx, s1, s2⟩ := h
  obtain ⟨h1, h2⟩ := xor_top x
  have hw : double.signWeight = 2 ^ 63 := by decide
  have hn : Op.negFloat .f64 x = x ^^^ 2 ^ 63 := rfl
  rw [hn]
  refine ⟨!s, e, ?_, fun h => by rw [s2 (by omega)]; rfl, fun h => by rw [s1 (by omega)]; rfl⟩
  rw [Int.natAbs_neg]
  unfold Format.read at hx ⊢
  simp only [hw] at hx ⊢
  rw [h1, h2]
  have hs : ((1 - x / 2 ^ 63 % 2) == 1) = !(x / 2 ^ 63 % 2 == 1) := by
    rcases Nat.mod_two_eq_zero_or_one (x / 2 ^ 63) with e | e <;> rw [e] <;> rfl
  rw [hs]
  generalize (x / 2 ^ 63 % 2 == 1) = q at *
  generalize x % 2 ^ 63 = m at *
  split at hx
  · rename_i c; rw [if_pos c]; obtain ⟨rfl, h2, h3⟩ := Datum.number.inj hx; rw [h2, h3]
  · rename_i c
    rw [if_neg c]
    split at hx
    · rename_i c2; rw [if_pos c2]; obtain ⟨rfl, h2, h3⟩ := Datum.number.inj hx; rw [h2, h3]
    · split at hx <;> cases hx
theorem back_int {x : Nat} {a : Int} (h : RepI x a) (ha : -9223372036854775808 ≤ a ∧ a ≤ 9223372036854775807) : floatToIntVal .f64 x .i64 = some a := by
  unfold floatToIntVal
  have : (FloatKind.decode .f64 x).toInt .zero = some a := toInt_rep h
  rw [this]
  have h1 : IntKind.i64.min ≤ a ∧ a ≤ IntKind.i64.max := ha
  simp only [h1, and_self, if_true]
end Go.Proofs.Ytmffhifkdbfbfaa

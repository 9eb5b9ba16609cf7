/- Parts of the proof. -/
import Derived.Test.YtmffhifkdbfbfaaEqFlExact
import Derived.Laws.ComplexArith
namespace Go.Proofs.Ytmffhifkdbfbfaa
open Ieee
theorem f64_format : FloatKind.format .f64 = double := rfl
theorem ofInt_rep (n : Int) (h : n.natAbs < 2 ^ 53) : RepI (floatOfInt .f64 n) n := by
  have := write_rep n h (decide (n < 0)) 0 (fun h => by simp [h]) (fun h => by simp; omega)
  simpa [floatOfInt, FloatKind.nearest, FloatKind.encode, f64_format] using this
theorem cadd_rep {a b c d : Nat} {x y u v : Int} (ha : RepI a x) (hb : RepI b y) (hc : RepI c u) (hd : RepI d v) (h1 : (x + u).natAbs < 2 ^ 53) (h2 : (y + v).natAbs < 2 ^ 53) :
    ∃ re im, cSumBits .add .f64 a b c d = some (re, im) ∧ RepI re (x + u) ∧ RepI im (y + v) := by
  obtain ⟨r, e1, r1⟩ := add_rep ha hc h1
  obtain ⟨s, e2, r2⟩ := add_rep hb hd h2
  exact ⟨r, s, by simp [cSumBits, floatBits, f64_format, e1, e2], r1, r2⟩
theorem csub_rep {a b c d : Nat} {x y u v : Int} (ha : RepI a x) (hb : RepI b y) (hc : RepI c u) (hd : RepI d v) (h1 : (x - u).natAbs < 2 ^ 53) (h2 : (y - v).natAbs < 2 ^ 53) :
    ∃ re im, cSumBits .sub .f64 a b c d = some (re, im) ∧ RepI re (x - u) ∧ RepI im (y - v) := by
  obtain ⟨r, e1, r1⟩ := sub_rep ha hc h1
  obtain ⟨s, e2, r2⟩ := sub_rep hb hd h2
  exact ⟨r, s, by simp [cSumBits, floatBits, f64_format, e1, e2], r1, r2⟩
theorem small_mul {x u : Int} (h1 : -8388608 ≤ x ∧ x ≤ 8388607) (h2 : -8388608 ≤ u ∧ u ≤ 8388607) : -70368744177664 ≤ x * u ∧ x * u ≤ 70368744177664 := by
  have hx : x.natAbs ≤ 8388608 := by omega
  have hu : u.natAbs ≤ 8388608 := by omega
  have : (x * u).natAbs ≤ 8388608 * 8388608 := by rw [Int.natAbs_mul]; exact Nat.mul_le_mul hx hu
  omega
theorem cmul_rep {a b c d : Nat} {x y u v : Int} (ha : RepI a x) (hb : RepI b y) (hc : RepI c u) (hd : RepI d v) (hx : -8388608 ≤ x ∧ x ≤ 8388607) (hy : -8388608 ≤ y ∧ y ≤ 8388607) (hu : -8388608 ≤ u ∧ u ≤ 8388607) (hv : -8388608 ≤ v ∧ v ≤ 8388607) :
    ∃ re im, cMulBits a b c d = some (re, im) ∧ RepI re (x * u - y * v) ∧ RepI im (x * v + y * u) := by
  have b1 := small_mul hx hu
  have b2 := small_mul hy hv
  have b3 := small_mul hx hv
  have b4 := small_mul hy hu
  obtain ⟨p1, e1, r1⟩ := mul_rep ha hc (by omega)
  obtain ⟨p2, e2, r2⟩ := mul_rep hb hd (by omega)
  obtain ⟨p3, e3, r3⟩ := mul_rep ha hd (by omega)
  obtain ⟨p4, e4, r4⟩ := mul_rep hb hc (by omega)
  obtain ⟨q1, f1, s1⟩ := sub_rep r1 r2 (by omega)
  obtain ⟨q2, f2, s2⟩ := add_rep r3 r4 (by omega)
  exact ⟨q1, q2, by simp [cMulBits, floatBits, f64_format, e1, e2, e3, e4, f1, f2], s1, s2⟩
theorem back_int {x : Nat} {a : Int} (h : RepI x a) (ha : -9223372036854775808 ≤ a ∧ a ≤ 9223372036854775807) : floatToIntVal .f64 x .i64 = some a := by
  unfold floatToIntVal
  have : (FloatKind.decode .f64 x).toInt .zero = some a := toInt_rep h
  rw [this]
  have h1 : IntKind.i64.min ≤ a ∧ a ≤ IntKind.i64.max := ha
  simp only [h1, and_self, if_true]
end Go.Proofs.Ytmffhifkdbfbfaa

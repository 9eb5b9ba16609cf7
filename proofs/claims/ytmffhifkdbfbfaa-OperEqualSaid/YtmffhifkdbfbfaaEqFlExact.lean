/- Parts of the proof. -/
import Ieee.Arith
namespace Go.Proofs.Ytmffhifkdbfbfaa
open Ieee
def RepI (x : Nat) (n : Int) : Prop := ∃ (s : Bool) (e : Nat), double.read x = .number s (n.natAbs * 2 ^ e) (-(e : Int)) ∧ (n < 0 → s = true) ∧ (0 < n → s = false)
theorem log2_mul_pow (n e : Nat) (h : n ≠ 0) : (n * 2 ^ e).log2 = n.log2 + e := by
  have h1 := Nat.log2_self_le h
  have h2 := Nat.lt_log2_self (n := n)
  have hp := Nat.two_pow_pos e
  refine (Nat.log2_eq_iff (Nat.mul_ne_zero h (by omega))).2 ⟨?_, ?_⟩
  · rw [Nat.pow_add]; exact Nat.mul_le_mul_right _ h1
  · rw [show n.log2 + e + 1 = (n.log2 + 1) + e by omega, Nat.pow_add]; exact Nat.mul_lt_mul_of_pos_right h2 hp
theorem cut_exact (n d : Nat) (neg : Bool) (way : Toward) : way.cut neg (n * 2 ^ d) d = n := by
  by_cases hn : n = 0
  · subst hn
    unfold Toward.cut
    cases way <;> simp
  · have hl : min d ((n * 2 ^ d).log2 + 2) = d := by rw [log2_mul_pow n d hn]; omega
    unfold Toward.cut
    rw [hl, Nat.one_shiftLeft]
    have hp : 0 < 2 ^ d := Nat.two_pow_pos d
    have h1 : n * 2 ^ d / 2 ^ d = n := Nat.mul_div_cancel _ hp
    have h2 : n * 2 ^ d % 2 ^ d = 0 := Nat.mul_mod_left _ _
    simp only [h1, h2]
    cases way <;> simp
theorem read_word (s : Bool) (rung W : Nat) (hW : double.signWeight = W) (h : rung < W) (h0 : W = 9223372036854775808) : double.word s rung / W % 2 = (if s then 1 else 0) ∧ double.word s rung % W = rung := by
  cases s
  · simp only [Format.word, Bool.false_eq_true, if_false]
    exact ⟨by rw [Nat.div_eq_of_lt h], Nat.mod_eq_of_lt h⟩
  · simp only [Format.word, if_true, hW]
    refine ⟨?_, ?_⟩
    · rw [Nat.add_div_left _ (by omega), Nat.div_eq_of_lt h]
    · rw [Nat.add_mod_left, Nat.mod_eq_of_lt h]
theorem rung_split (B K L : Nat) (h1 : B ≤ K) (h2 : K < 2 * B) : ((L + 1022) * B + K) % B = K - B ∧ ((L + 1022) * B + K) / B = L + 1023 := by
  have hB : 0 < B := by omega
  have e : (L + 1022) * B + K = (K - B) + (L + 1023) * B := by
    have : (L + 1023) * B = (L + 1022) * B + B := by rw [show L + 1023 = (L + 1022) + 1 by omega, Nat.add_mul, Nat.one_mul]
    omega
  rw [e]
  refine ⟨?_, ?_⟩
  · rw [Nat.add_mul_mod_self_right, Nat.mod_eq_of_lt (by omega)]
  · rw [Nat.add_mul_div_right _ _ hB, Nat.div_eq_of_lt (by omega), Nat.zero_add]
theorem write_rep (n : Int) (hn : n.natAbs < 2 ^ 53) (s : Bool) (e : Nat) (h1 : n < 0 → s = true) (h2 : 0 < n → s = false) : RepI (double.write (.number s (n.natAbs * 2 ^ e) (-(e : Int)))) n := by
  obtain ⟨B, hb⟩ : ∃ B, double.binade = B := ⟨_, rfl⟩
  obtain ⟨I, hi⟩ : ∃ B, double.infRung = B := ⟨_, rfl⟩
  obtain ⟨W, hw⟩ : ∃ B, double.signWeight = B := ⟨_, rfl⟩
  obtain ⟨P, hlp⟩ : ∃ B, double.leastPlace = B := ⟨_, rfl⟩
  have vb : B = 4503599627370496 := by rw [← hb]; decide
  have vi : I = 2047 * B := by rw [← hi, ← hb]; decide
  have vw : W = 2048 * B := by rw [← hw, ← hb]; decide
  have vw2 : W = 9223372036854775808 := by rw [← hw]; decide
  have vp : P = -1074 := by rw [← hlp]; decide
  have hfb : (double.fractionBits : Int) = 52 := by decide
  by_cases h0 : n = 0
  · subst h0
    refine ⟨s, 1074, ?_, fun h => absurd h (by omega), fun h => absurd h (by omega)⟩
    obtain ⟨r1, r2⟩ := read_word s 0 W hw (by omega) vw2
    unfold Format.write Format.nearest Format.read
    simp only [Int.natAbs_zero, Nat.zero_mul, if_true, hw, r1, r2, hb, hlp]
    rw [if_pos (show 0 < B by omega), vp]
    have s1 : ((if s = true then 1 else 0 : Nat) == 1) = s := by cases s <;> rfl
    rw [s1]
    rfl
  · have hm : n.natAbs ≠ 0 := by omega
    generalize hk : n.natAbs = m at hn hm ⊢
    have hL := (Nat.log2_lt hm).2 hn
    have hL2 := Nat.log2_self_le hm
    have hL3 := Nat.lt_log2_self (n := m)
    generalize hLL : m.log2 = L at hL hL2 hL3
    have hmm : m * 2 ^ e ≠ 0 := Nat.mul_ne_zero hm (Nat.pos_iff_ne_zero.1 (Nat.two_pow_pos e))
    have hkept : Toward.even.cut s ((m * 2 ^ e) <<< ((-(e : Int)) - ((L : Int) - 52)).toNat) (((L : Int) - 52) - (-(e : Int))).toNat = m * 2 ^ (52 - L) := by
      by_cases he : e ≤ 52 - L
      · have a1 : ((-(e : Int)) - ((L : Int) - 52)).toNat = 52 - L - e := by omega
        have a2 : (((L : Int) - 52) - (-(e : Int))).toNat = 0 := by omega
        rw [a1, a2, Nat.shiftLeft_eq, Nat.mul_assoc, ← Nat.pow_add, show e + (52 - L - e) = 52 - L by omega]
        have := cut_exact (m * 2 ^ (52 - L)) 0 s .even
        simpa using this
      · have a1 : ((-(e : Int)) - ((L : Int) - 52)).toNat = 0 := by omega
        have a2 : (((L : Int) - 52) - (-(e : Int))).toNat = e - (52 - L) := by omega
        rw [a1, a2, Nat.shiftLeft_zero]
        have e3 : m * 2 ^ e = (m * 2 ^ (52 - L)) * 2 ^ (e - (52 - L)) := by rw [Nat.mul_assoc, ← Nat.pow_add, show 52 - L + (e - (52 - L)) = e by omega]
        rw [e3]
        exact cut_exact _ _ s .even
    have hkl : B ≤ m * 2 ^ (52 - L) ∧ m * 2 ^ (52 - L) < 2 * B := by
      have p1 : 2 ^ L * 2 ^ (52 - L) = B := by rw [← Nat.pow_add, show L + (52 - L) = 52 by omega, vb]
      have p2 : 2 ^ (L + 1) * 2 ^ (52 - L) = 2 * B := by rw [Nat.pow_succ, Nat.mul_comm (2 ^ L) 2, Nat.mul_assoc, p1]
      refine ⟨?_, ?_⟩
      · rw [← p1]; exact Nat.mul_le_mul_right _ hL2
      · rw [← p2]; exact Nat.mul_lt_mul_of_pos_right hL3 (Nat.two_pow_pos _)
    generalize hK : m * 2 ^ (52 - L) = K at hkept hkl
    have hlast : max (-(e : Int) + ((m * 2 ^ e).log2 : Int) - double.fractionBits) double.leastPlace = (L : Int) - 52 := by
      rw [log2_mul_pow m e hm, hLL, hlp, hfb]
      omega
    have hlt : (L + 1022) * B + K < I := by
      rw [vi]
      have : (L + 1022) * B ≤ 1074 * B := Nat.mul_le_mul_right _ (by omega)
      omega
    have hwr : double.write (.number s (m * 2 ^ e) (-(e : Int))) = double.word s ((L + 1022) * B + K) := by
      unfold Format.write Format.nearest
      simp only [hmm, if_false, hlast, hkept, hb, hi]
      have : ((L : Int) - 52 - double.leastPlace).toNat = L + 1022 := by rw [hlp]; omega
      rw [this, Nat.min_eq_left (Nat.le_of_lt hlt)]
    rw [hwr]
    have hlw : (L + 1022) * B + K < W := by omega
    obtain ⟨r1, r2⟩ := read_word s ((L + 1022) * B + K) W hw hlw vw2
    obtain ⟨d1, d2⟩ := rung_split B K L hkl.1 hkl.2
    have q1 : ¬ (L + 1022) * B + K < B := by omega
    clear hwr hlw vw vi vw2
    obtain ⟨R, hR⟩ : ∃ R, R = (L + 1022) * B + K := ⟨_, rfl⟩
    rw [← hR] at r1 r2 d1 d2 hlt q1 ⊢
    refine ⟨s, 52 - L, ?_, h1, h2⟩
    unfold Format.read
    simp only [hw, r1, r2, hb, hi, hlp]
    have s1 : ((if s = true then 1 else 0 : Nat) == 1) = s := by cases s <;> rfl
    rw [if_neg q1, if_pos hlt, d1, d2, hk, hK, s1, show B + (K - B) = K by omega, vp]
    have e9 : (-1074 : Int) + ((L + 1023 - 1 : Nat) : Int) = -((52 - L : Nat) : Int) := by omega
    rw [e9]
theorem signed_rep (n : Int) (s : Bool) (m e k : Nat) (hm : m = n.natAbs * 2 ^ e) (h1 : n < 0 → s = true) (h2 : 0 < n → s = false) : signed s m k = n * 2 ^ (e + k) := by
  subst hm
  unfold signed
  rw [Nat.shiftLeft_eq, Nat.mul_assoc, ← Nat.pow_add]
  have hc : ((n.natAbs * 2 ^ (e + k) : Nat) : Int) = (n.natAbs : Int) * 2 ^ (e + k) := by push_cast; rfl
  by_cases hn : n < 0
  · rw [h1 hn, if_pos rfl, hc, show (n.natAbs : Int) = -n by omega, Int.neg_mul, Int.neg_neg]
  · by_cases hz : n = 0
    · subst hz; simp
    · rw [h2 (by omega), if_neg (by simp), hc, show (n.natAbs : Int) = n by omega]
theorem natAbs_mul_pow (n : Int) (k : Nat) : (n * 2 ^ k).natAbs = n.natAbs * 2 ^ k := by
  rw [Int.natAbs_mul, Int.natAbs_pow]; rfl
theorem add_rep {x y : Nat} {a b : Int} (hx : RepI x a) (hy : RepI y b) (h : (a + b).natAbs < 2 ^ 53) : ∃ r, double.add x y = some r ∧ RepI r (a + b) := by
  obtain ⟨s, e, hx, s1, s2⟩ := hx
  obtain ⟨t, f, hy, t1, t2⟩ := hy
  unfold Format.add
  rw [hx, hy]
  have hbase : min (-(e : Int)) (-(f : Int)) = -((max e f : Nat) : Int) := by omega
  have k1 : (-(e : Int) - -((max e f : Nat) : Int)).toNat = max e f - e := by omega
  have k2 : (-(f : Int) - -((max e f : Nat) : Int)).toNat = max e f - f := by omega
  have t3 : signed s (a.natAbs * 2 ^ e) (max e f - e) + signed t (b.natAbs * 2 ^ f) (max e f - f) = (a + b) * 2 ^ (max e f) := by
    rw [signed_rep a s _ e _ rfl s1 s2, signed_rep b t _ f _ rfl t1 t2, show e + (max e f - e) = max e f by omega, show f + (max e f - f) = max e f by omega, Int.add_mul]
  simp only [Datum.sum, hbase, k1, k2, t3, Option.map_some]
  refine ⟨_, rfl, ?_⟩
  rw [natAbs_mul_pow]
  have hp : (0 : Int) < 2 ^ (max e f) := Int.pow_pos (by decide)
  refine write_rep (a + b) h _ _ (fun hn => ?_) (fun hn => ?_)
  · have : (a + b) * 2 ^ (max e f) < 0 := Int.mul_neg_of_neg_of_pos hn hp
    rw [if_neg (by omega)]
    simpa using this
  · have : 0 < (a + b) * 2 ^ (max e f) := Int.mul_pos hn hp
    rw [if_neg (by omega)]
    simp; omega
theorem opp_rep {x : Nat} {a : Int} (hx : RepI x a) : ∃ (s : Bool) (e : Nat), (double.read x).opposite = .number s ((-a).natAbs * 2 ^ e) (-(e : Int)) ∧ (-a < 0 → s = true) ∧ (0 < -a → s = false) := by
  obtain ⟨s, e, hx, s1, s2⟩ := hx
  refine ⟨!s, e, by rw [hx, Int.natAbs_neg]; rfl, fun h => by rw [s2 (by omega)]; rfl, fun h => by rw [s1 (by omega)]; rfl⟩
theorem sub_rep {x y : Nat} {a b : Int} (hx : RepI x a) (hy : RepI y b) (h : (a - b).natAbs < 2 ^ 53) : ∃ r, double.sub x y = some r ∧ RepI r (a - b) := by
  obtain ⟨s, e, hx, s1, s2⟩ := hx
  obtain ⟨t, f, hy, t1, t2⟩ := opp_rep hy
  unfold Format.sub
  rw [hx, hy]
  have hbase : min (-(e : Int)) (-(f : Int)) = -((max e f : Nat) : Int) := by omega
  have k1 : (-(e : Int) - -((max e f : Nat) : Int)).toNat = max e f - e := by omega
  have k2 : (-(f : Int) - -((max e f : Nat) : Int)).toNat = max e f - f := by omega
  have t3 : signed s (a.natAbs * 2 ^ e) (max e f - e) + signed t ((-b).natAbs * 2 ^ f) (max e f - f) = (a - b) * 2 ^ (max e f) := by
    rw [signed_rep a s _ e _ rfl s1 s2, signed_rep (-b) t _ f _ rfl t1 t2, show e + (max e f - e) = max e f by omega, show f + (max e f - f) = max e f by omega, ← Int.add_mul]; rfl
  simp only [Datum.sum, hbase, k1, k2, t3, Option.map_some]
  refine ⟨_, rfl, ?_⟩
  rw [natAbs_mul_pow]
  have hp : (0 : Int) < 2 ^ (max e f) := Int.pow_pos (by decide)
  refine write_rep (a - b) h _ _ (fun hn => ?_) (fun hn => ?_)
  · have : (a - b) * 2 ^ (max e f) < 0 := Int.mul_neg_of_neg_of_pos hn hp
    rw [if_neg (by omega)]
    simpa using this
  · have : 0 < (a - b) * 2 ^ (max e f) := Int.mul_pos hn hp
    rw [if_neg (by omega)]
    simp; omega
theorem mul_rep {x y : Nat} {a b : Int} (hx : RepI x a) (hy : RepI y b) (h : (a * b).natAbs < 2 ^ 53) : ∃ r, double.mul x y = some r ∧ RepI r (a * b) := by
  obtain ⟨s, e, hx, s1, s2⟩ := hx
  obtain ⟨t, f, hy, t1, t2⟩ := hy
  unfold Format.mul
  rw [hx, hy]
  simp only [Datum.product, Option.map_some]
  refine ⟨_, rfl, ?_⟩
  have e1 : a.natAbs * 2 ^ e * (b.natAbs * 2 ^ f) = (a * b).natAbs * 2 ^ (e + f) := by rw [Int.natAbs_mul, Nat.pow_add, Nat.mul_mul_mul_comm]
  have e2 : -(e : Int) + -(f : Int) = -((e + f : Nat) : Int) := by omega
  rw [e1, e2]
  refine write_rep (a * b) h _ _ (fun hn => ?_) (fun hn => ?_)
  · rcases Int.lt_trichotomy a 0 with ha | ha | ha
    · rcases Int.lt_trichotomy b 0 with hb | hb | hb
      · have := Int.mul_pos_of_neg_of_neg ha hb; omega
      · subst hb; simp at hn
      · rw [s1 ha, t2 hb]; rfl
    · subst ha; simp at hn
    · rcases Int.lt_trichotomy b 0 with hb | hb | hb
      · rw [s2 ha, t1 hb]; rfl
      · subst hb; simp at hn
      · have := Int.mul_pos ha hb; omega
  · rcases Int.lt_trichotomy a 0 with ha | ha | ha
    · rcases Int.lt_trichotomy b 0 with hb | hb | hb
      · rw [s1 ha, t1 hb]; rfl
      · subst hb; simp at hn
      · have := Int.mul_neg_of_neg_of_pos ha hb; omega
    · subst ha; simp at hn
    · rcases Int.lt_trichotomy b 0 with hb | hb | hb
      · have := Int.mul_neg_of_pos_of_neg ha hb; omega
      · subst hb; simp at hn
      · rw [s2 ha, t2 hb]; rfl
theorem toInt_rep {x : Nat} {a : Int} (hx : RepI x a) : (double.read x).toInt .zero = some a := by
  obtain ⟨s, e, hx, s1, s2⟩ := hx
  rw [hx]
  have k1 : (-(e : Int)).toNat = 0 := by omega
  have k2 : (- -(e : Int)).toNat = e := by omega
  simp only [Datum.toInt, Datum.integral, k1, k2, Nat.shiftLeft_zero]
  rw [cut_exact]
  have := signed_rep a s a.natAbs 0 0 (by simp) s1 s2
  simp only [this]
  simp
end Go.Proofs.Ytmffhifkdbfbfaa

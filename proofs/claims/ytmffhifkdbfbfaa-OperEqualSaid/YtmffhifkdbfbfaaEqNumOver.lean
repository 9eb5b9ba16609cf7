/- Parts of the proof. -/
import Derived.Test.YtmffhifkdbfbfaaEqHpOver
import Derived.Test.YtmffhifkdbfbfaaEqDivWalk
import Derived.Test.YtmffhifkdbfbfaaEqWNumRounds
namespace Go.Proofs.Ytmffhifkdbfbfaa
open Go.RowKit
set_option maxRecDepth 100000
set_option linter.unusedVariables false
set_option maxHeartbeats 4000000
def dN (n : Int) : GHindcastref01D := ⟨dig n 0, dig n 1, dig n 2, dig n 3, dig n 4, dig n 5, dig n 6, dig n 7⟩
def vN (d : GHindcastref01D) : Int := d.e0_ + 256 * (d.e1_ + 256 * (d.e2_ + 256 * (d.e3_ + 256 * (d.e4_ + 256 * (d.e5_ + 256 * (d.e6_ + 256 * d.e7_))))))
theorem vN_dN (n : Int) : vN (dN n) = n % 18446744073709551616 := by
  unfold vN dN dig; simp only; omega
theorem dN_mod (n : Int) : dN (n % 18446744073709551616) = dN n := by
  simp only [dN, dig_mod n _ (show 0 < 8 by decide), dig_mod n _ (show 1 < 8 by decide), dig_mod n _ (show 2 < 8 by decide), dig_mod n _ (show 3 < 8 by decide), dig_mod n _ (show 4 < 8 by decide), dig_mod n _ (show 5 < 8 by decide), dig_mod n _ (show 6 < 8 by decide), dig_mod n _ (show 7 < 8 by decide)]
theorem dN_vN (n : Int) : dN (vN (dN n)) = dN n := by rw [vN_dN, dN_mod]
theorem dN_add {m n : Int} : dN (vN (dN m) + vN (dN n)) = dN (m + n) := by rw [vN_dN, vN_dN, ← dN_mod, ← dN_mod (m + n)]; congr 1; omega
theorem dN_neg {m : Int} : dN (-vN (dN m)) = dN (-m) := by rw [vN_dN, ← dN_mod, ← dN_mod (-m)]; congr 1; omega
theorem dN_mul {m n : Int} : dN (vN (dN m) * vN (dN n)) = dN (m * n) := by
  rw [vN_dN, vN_dN, ← dN_mod, ← dN_mod (m * n)]; congr 1
  rw [← Int.mul_emod]
theorem repD_mk (w : World) (M : Nat → Prop) (n : Int) : RepF w M (e_GHindcastref01D (dN n)) (.agg (D8 n)) := by
  unfold e_GHindcastref01D
  refine .agg _ _ rfl (fun i hi => ?_) (fun i hi => ?_)
  · match i, hi with
    | 0, _ => rfl
    | 1, _ => rfl
    | 2, _ => rfl
    | 3, _ => rfl
    | 4, _ => rfl
    | 5, _ => rfl
    | 6, _ => rfl
    | 7, _ => rfl
  · match i, hi with
    | 0, _ => exact .t _ _ (.v _ rfl)
    | 1, _ => exact .t _ _ (.v _ rfl)
    | 2, _ => exact .t _ _ (.v _ rfl)
    | 3, _ => exact .t _ _ (.v _ rfl)
    | 4, _ => exact .t _ _ (.v _ rfl)
    | 5, _ => exact .t _ _ (.v _ rfl)
    | 6, _ => exact .t _ _ (.v _ rfl)
    | 7, _ => exact .t _ _ (.v _ rfl)
theorem repD {w : World} {M : Nat → Prop} {d : GHindcastref01D} {v : Value} (h : RepF w M (e_GHindcastref01D d) v) (hd : d = dN (vN d)) : v = .agg (D8 (vN d)) := by
  rw [hd] at h
  generalize vN d = n at h
  unfold e_GHindcastref01D at h
  cases h with
  | agg cs vs hs h1 hr =>
    congr 1
    apply Array.ext
    · simpa [D8] using hs
    · intro i h3 h4
      have h5 : i < 8 := h4
      match i, h5 with
      | 0, _ => exact rep_val (hr 0 (by simp))
      | 1, _ => exact rep_val (hr 1 (by simp))
      | 2, _ => exact rep_val (hr 2 (by simp))
      | 3, _ => exact rep_val (hr 3 (by simp))
      | 4, _ => exact rep_val (hr 4 (by simp))
      | 5, _ => exact rep_val (hr 5 (by simp))
      | 6, _ => exact rep_val (hr 6 (by simp))
      | 7, _ => exact rep_val (hr 7 (by simp))
def xhindcastref01_Of (a : Int) : Option GHindcastref01D := some (dN a)
theorem xhindcastref01_Of_ok {a : Int} {r : GHindcastref01D} (h : xhindcastref01_Of a = some r) : R_hindcastref01_Of a r := by
  cases h
  refine fnp_of (by kernel_rfl) (fun w X => repD_mk w X a) fun w X vals hs hrep => ?_
  rw [vals1 hs (rep_val (hrep 0 (by simp)))]
  exact ref01_Of a w
def xhindcastref01_D_Number (d : GHindcastref01D) : Option Int := if d = dN (vN d) then some (RowKit.wrap64 (vN d)) else none
theorem xhindcastref01_D_Number_ok {d : GHindcastref01D} {r : Int} (h : xhindcastref01_D_Number d = some r) : R_hindcastref01_D_Number d r := by
  obtain ⟨hd, h⟩ := ite_ok h
  cases h
  refine fnp_of (by kernel_rfl) (fun w X => repF_v _ _ _ rfl) fun w X vals hs hrep => ?_
  rw [vals1 hs (repD (hrep 0 (by simp)) hd)]
  exact ref01_Number _ w
def xhindcastref01_Minus (d : GHindcastref01D) : Option GHindcastref01D := if d = dN (vN d) then some (dN (-vN d)) else none
theorem xhindcastref01_Minus_ok {d r : GHindcastref01D} (h : xhindcastref01_Minus d = some r) : R_hindcastref01_Minus d r := by
  obtain ⟨hd, h⟩ := ite_ok h
  cases h
  refine fnp_of (by kernel_rfl) (fun w X => repD_mk w X _) fun w X vals hs hrep => ?_
  rw [vals1 hs (repD (hrep 0 (by simp)) hd)]
  exact ref01_Minus _ w
def xhindcastref01_Plus (d e : GHindcastref01D) : Option GHindcastref01D := if d = dN (vN d) ∧ e = dN (vN e) then some (dN (vN d + vN e)) else none
theorem xhindcastref01_Plus_ok {d e r : GHindcastref01D} (h : xhindcastref01_Plus d e = some r) : R_hindcastref01_Plus d e r := by
  obtain ⟨⟨hd, he⟩, h⟩ := ite_ok h
  cases h
  refine fnp_of (by kernel_rfl) (fun w X => repD_mk w X _) fun w X vals hs hrep => ?_
  rw [vals2 hs (repD (hrep 0 (by simp)) hd) (repD (hrep 1 (by simp)) he)]
  exact ref01_Plus _ _ w
def xhindcastref01_Times (d e : GHindcastref01D) : Option GHindcastref01D := if d = dN (vN d) ∧ e = dN (vN e) then some (dN (vN d * vN e)) else none
theorem xhindcastref01_Times_ok {d e r : GHindcastref01D} (h : xhindcastref01_Times d e = some r) : R_hindcastref01_Times d e r := by
  obtain ⟨⟨hd, he⟩, h⟩ := ite_ok h
  cases h
  refine fnp_of (by kernel_rfl) (fun w X => repD_mk w X _) fun w X vals hs hrep => ?_
  rw [vals2 hs (repD (hrep 0 (by simp)) hd) (repD (hrep 1 (by simp)) he)]
  exact ref01_Times _ _ w
theorem xOf (a : Int) : xhindcastref01_Of a = some (dN a) := rfl
theorem xNumber (n : Int) : xhindcastref01_D_Number (dN n) = some (RowKit.wrap64 n) := by
  unfold xhindcastref01_D_Number
  rw [if_pos (dN_vN n).symm, vN_dN, wrap64_mod]
theorem xMinus (n : Int) : xhindcastref01_Minus (dN n) = some (dN (-n)) := by
  unfold xhindcastref01_Minus
  rw [if_pos (dN_vN n).symm, dN_neg]
theorem xPlus (m n : Int) : xhindcastref01_Plus (dN m) (dN n) = some (dN (m + n)) := by
  unfold xhindcastref01_Plus
  rw [if_pos ⟨(dN_vN m).symm, (dN_vN n).symm⟩, dN_add]
theorem xTimes (m n : Int) : xhindcastref01_Times (dN m) (dN n) = some (dN (m * n)) := by
  unfold xhindcastref01_Times
  rw [if_pos ⟨(dN_vN m).symm, (dN_vN n).symm⟩, dN_mul]
def in64 (a : Int) : Prop := -9223372036854775808 ≤ a ∧ a ≤ 9223372036854775807
instance (a : Int) : Decidable (in64 a) := by unfold in64; infer_instance
theorem in64_wf {a : Int} (h : in64 a) : (Lit.int .i64 a).wf = true := by
  unfold in64 at h
  simp [Lit.wf, IntKind.min, IntKind.max, IntKind.bits, IntKind.signed]; omega
def xhindcastref01_Div (a b : Int) : Option (Int × Int) := if in64 a ∧ in64 b ∧ b ≠ 0 then some (RowKit.wrap64 (a.tdiv b), RowKit.wrap64 (a.tmod b)) else none
theorem xhindcastref01_Div_ok {a b : Int} {r : Int × Int} (h : xhindcastref01_Div a b = some r) : R_hindcastref01_Div a b r := by
  obtain ⟨⟨ha, hb, h0⟩, h⟩ := ite_ok h
  cases h
  refine fnp_of (by kernel_rfl) (fun w X => repF_tup2 (repF_v _ _ _ rfl) (repF_v _ _ _ rfl)) fun w X vals hs hrep => ?_
  rw [vals2 hs (rep_val (hrep 0 (by simp))) (rep_val (hrep 1 (by simp)))]
  exact ref01_Div a b (in64_wf ha) (in64_wf hb) h0 w
def xhindcastref01_Round (a b : Int) : Option Int := if 1 ≤ b ∧ b ≤ 64 then some (sx a b.toNat) else none
theorem xhindcastref01_Round_ok {a b : Int} {r : Int} (h : xhindcastref01_Round a b = some r) : R_hindcastref01_Round a b r := by
  obtain ⟨⟨h1, h2⟩, h⟩ := ite_ok h
  cases h
  obtain ⟨k, rfl⟩ : ∃ k : Nat, b = k := ⟨b.toNat, by omega⟩
  refine fnp_of (by kernel_rfl) (fun w X => repF_v _ _ _ rfl) fun w X vals hs hrep => ?_
  rw [vals2 hs (rep_val (hrep 0 (by simp))) (rep_val (hrep 1 (by simp)))]
  exact (ref01_Round a k (by omega) (by omega) w).mono fun e w' ⟨h1, h2⟩ => ⟨h1, h2 ▸ Below.refl _ _⟩
end Go.Proofs.Ytmffhifkdbfbfaa

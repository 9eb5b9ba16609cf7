/- Parts of the proof. -/
import Derived.Test.YtabmahknlebhpaaGreatVdValsX
import Derived.Test.YtabmahknlebhpaaGreatVdLfRel
import Derived.Test.YtabmahknlebhpaaGreatVdD8Walks
import Derived.Test.YtabmahknlebhpaaGreatVdWNumRounds
namespace Go.Proofs.YtabmahknlebhpaaGreat
open Go.RowKit
set_option maxRecDepth 100000
set_option linter.unusedVariables false
set_option maxHeartbeats 4000000
def dN (n : Int) : GR01D := ⟨dig n 0, dig n 1, dig n 2, dig n 3, dig n 4, dig n 5, dig n 6, dig n 7⟩
def vN (d : GR01D) : Int := d.e0_ + 256 * (d.e1_ + 256 * (d.e2_ + 256 * (d.e3_ + 256 * (d.e4_ + 256 * (d.e5_ + 256 * (d.e6_ + 256 * d.e7_))))))
theorem repD_mk (w : World) (M : Nat → Prop) (n : Int) : RepF w M (e_GR01D (dN n)) (.agg (D8 n)) := by
  unfold e_GR01D b_GR01D
  refine .agg _ _ rfl (fun i hi => ?_) (fun i hi => ?_)
  · match i, hi with
    | 0, _ => rfl
    | 1, _ => rfl
    | 2, _ => rfl
    | 3, _ => rfl
    | 4, _ => rfl
    | 5, _ => rfl
    | 6, _ => rfl
    | 7, _ => rfl
  · match i, hi with
    | 0, _ => exact .t _ _ (.v _ rfl)
    | 1, _ => exact .t _ _ (.v _ rfl)
    | 2, _ => exact .t _ _ (.v _ rfl)
    | 3, _ => exact .t _ _ (.v _ rfl)
    | 4, _ => exact .t _ _ (.v _ rfl)
    | 5, _ => exact .t _ _ (.v _ rfl)
    | 6, _ => exact .t _ _ (.v _ rfl)
    | 7, _ => exact .t _ _ (.v _ rfl)
theorem repD {w : World} {M : Nat → Prop} {d : GR01D} {v : Value} (h : RepF w M (e_GR01D d) v) (hd : d = dN (vN d)) : v = .agg (D8 (vN d)) := by
  rw [hd] at h
  generalize vN d = n at h
  unfold e_GR01D b_GR01D at h
  cases h with
  | agg cs vs hs h1 hr =>
    congr 1
    apply Array.ext
    · simpa [D8] using hs
    · intro i h3 h4
      have h5 : i < 8 := h4
      match i, h5 with
      | 0, _ => exact rep_val (hr 0 (by simp))
      | 1, _ => exact rep_val (hr 1 (by simp))
      | 2, _ => exact rep_val (hr 2 (by simp))
      | 3, _ => exact rep_val (hr 3 (by simp))
      | 4, _ => exact rep_val (hr 4 (by simp))
      | 5, _ => exact rep_val (hr 5 (by simp))
      | 6, _ => exact rep_val (hr 6 (by simp))
      | 7, _ => exact rep_val (hr 7 (by simp))
def xr01_Of (a : Int) : Option GR01D := some (dN a)
theorem xr01_Of_ok {a : Int} {r : GR01D} (h : xr01_Of a = some r) : R_r01_Of a r := by
  cases h
  refine fnp_of (by kernel_rfl) (fun w X => repD_mk w X a) fun w X vals hs hrep => ?_
  rw [vals1 hs (rep_val (hrep 0 (by simp)))]
  exact ref01_Of a w
def xr01_D_Number (d : GR01D) : Option Int := if d = dN (vN d) then some (RowKit.wrap64 (vN d)) else none
theorem xr01_D_Number_ok {d : GR01D} {r : Int} (h : xr01_D_Number d = some r) : R_r01_D_Number d r := by
  obtain ⟨hd, h⟩ := ite_ok h
  cases h
  refine fnp_of (by kernel_rfl) (fun w X => repF_v _ _ _ rfl) fun w X vals hs hrep => ?_
  rw [vals1 hs (repD (hrep 0 (by simp)) hd)]
  exact ref01_Number _ w
def xr01_Minus (d : GR01D) : Option GR01D := if d = dN (vN d) then some (dN (-vN d)) else none
theorem xr01_Minus_ok {d r : GR01D} (h : xr01_Minus d = some r) : R_r01_Minus d r := by
  obtain ⟨hd, h⟩ := ite_ok h
  cases h
  refine fnp_of (by kernel_rfl) (fun w X => repD_mk w X _) fun w X vals hs hrep => ?_
  rw [vals1 hs (repD (hrep 0 (by simp)) hd)]
  exact ref01_Minus _ w
def in64 (a : Int) : Prop := -9223372036854775808 ≤ a ∧ a ≤ 9223372036854775807
instance (a : Int) : Decidable (in64 a) := by unfold in64; infer_instance
end Go.Proofs.YtabmahknlebhpaaGreat

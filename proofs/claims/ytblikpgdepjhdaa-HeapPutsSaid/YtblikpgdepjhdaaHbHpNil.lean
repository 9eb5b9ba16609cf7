/- Parts of the proof. -/
import Derived.Test.YtblikpgdepjhdaaHbHpAll
import Derived.Test.YtblikpgdepjhdaaHbValsX
import Derived.Test.YtblikpgdepjhdaaHbLfRel
namespace Go.Proofs.Ytblikpgdepjhdaa
open Go.RowKit
set_option maxRecDepth 100000
set_option linter.unusedVariables false
theorem repF_value {w : World} {M : Nat → Prop} {x : GApiValue} {v : Value} (h : RepF w M (e_GApiValue x) v) : v = .agg #[.int .u8 x.Kind, .int .i64 x.N, .int .i64 x.Re, .int .i64 x.Im] := by
  unfold e_GApiValue b_GApiValue at h
  cases h with
  | agg cs vs hs h1 hr =>
    congr 1
    apply Array.ext
    · simpa using hs
    · intro i h3 h4
      match i, h4 with
      | 0, _ => exact rep_val (hr 0 (by simp))
      | 1, _ => exact rep_val (hr 1 (by simp))
      | 2, _ => exact rep_val (hr 2 (by simp))
      | 3, _ => exact rep_val (hr 3 (by simp))
theorem repF_value_mk (w : World) (M : Nat → Prop) (x : GApiValue) : RepF w M (e_GApiValue x) (.agg #[.int .u8 x.Kind, .int .i64 x.N, .int .i64 x.Re, .int .i64 x.Im]) := by
  unfold e_GApiValue b_GApiValue
  refine .agg _ _ rfl (fun i hi => ?_) (fun i hi => ?_)
  · match i, hi with
    | 0, _ => rfl
    | 1, _ => rfl
    | 2, _ => rfl
    | 3, _ => rfl
  · match i, hi with
    | 0, _ => exact .t _ _ (.v _ rfl)
    | 1, _ => exact .t _ _ (.v _ rfl)
    | 2, _ => exact .t _ _ (.v _ rfl)
    | 3, _ => exact .t _ _ (.v _ rfl)
end Go.Proofs.Ytblikpgdepjhdaa

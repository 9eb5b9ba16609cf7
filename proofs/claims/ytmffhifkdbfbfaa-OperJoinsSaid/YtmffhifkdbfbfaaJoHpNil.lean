/- Parts of the proof. -/
import Derived.Test.YtmffhifkdbfbfaaJoHpAll
import Derived.Test.YtmffhifkdbfbfaaJoLfRel
namespace Go.Proofs.Ytmffhifkdbfbfaa
open Go.RowKit
set_option maxRecDepth 100000
set_option linter.unusedVariables false
theorem vals1 {vals : Array Value} {a : Value} (hs : vals.size = 1) (h0 : vals.getD 0 undef = a) : vals = #[a] := by
  apply Array.ext
  · simpa using hs
  · intro i h1 h2
    match i, h2 with
    | 0, _ => simpa [Array.getD, hs] using h0
theorem vals2 {vals : Array Value} {a b : Value} (hs : vals.size = 2) (h0 : vals.getD 0 undef = a) (h1 : vals.getD 1 undef = b) : vals = #[a, b] := by
  apply Array.ext
  · simpa using hs
  · intro i j1 j2
    match i, j2 with
    | 0, _ => simpa [Array.getD, hs] using h0
    | 1, _ => simpa [Array.getD, hs] using h1
theorem repF_value {w : World} {M : Nat → Prop} {x : GApiValue} {v : Value} (h : RepF w M (e_GApiValue x) v) : v = .agg #[.int .u8 x.Kind, .int .i64 x.N, .int .i64 x.Re, .int .i64 x.Im] := by
  unfold e_GApiValue at h
  cases h with
  | agg cs vs hs h1 hr =>
    congr 1
    apply Array.ext
    · simpa using hs
    · intro i h3 h4
      match i, h4 with
      | 0, _ => exact rep_val (hr 0 (by simp))
      | 1, _ => exact rep_val (hr 1 (by simp))
      | 2, _ => exact rep_val (hr 2 (by simp))
      | 3, _ => exact rep_val (hr 3 (by simp))
theorem repF_value_mk (w : World) (M : Nat → Prop) (x : GApiValue) : RepF w M (e_GApiValue x) (.agg #[.int .u8 x.Kind, .int .i64 x.N, .int .i64 x.Re, .int .i64 x.Im]) := by
  unfold e_GApiValue
  refine .agg _ _ rfl (fun i hi => ?_) (fun i hi => ?_)
  · match i, hi with
    | 0, _ => rfl
    | 1, _ => rfl
    | 2, _ => rfl
    | 3, _ => rfl
  · match i, hi with
    | 0, _ => exact .t _ _ (.v _ rfl)
    | 1, _ => exact .t _ _ (.v _ rfl)
    | 2, _ => exact .t _ _ (.v _ rfl)
    | 3, _ => exact .t _ _ (.v _ rfl)
theorem repF_tup2 {w : World} {M : Nat → Prop} {a b : A} {x y : Value} (h1 : RepF w M a x) (h2 : RepF w M b y) : RepF w M (.tup [a, b]) (.tuple #[x, y]) := by
  refine .tup _ _ rfl (fun i hi => ?_)
  match i, hi with
  | 0, _ => exact h1
  | 1, _ => exact h2
theorem repF_v (w : World) (M : Nat → Prop) (x : Value) (h : x.oneCell' = true) : RepF w M (.t (.v x)) x := .t _ _ (.v _ h)
end Go.Proofs.Ytmffhifkdbfbfaa

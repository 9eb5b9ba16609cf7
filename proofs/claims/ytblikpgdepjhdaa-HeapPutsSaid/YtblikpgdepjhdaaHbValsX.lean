/- Parts of the proof. -/
import Derived.Test.YtblikpgdepjhdaaHbXF
namespace Go.Proofs.Ytblikpgdepjhdaa
open Go.RowKit
set_option linter.unusedVariables false
set_option maxHeartbeats 4000000
theorem vals1 {vals : Array Value} {a : Value} (hs : vals.size = 1) (h0 : vals.getD 0 undef = a) : vals = #[a] := by
  apply Array.ext
  · simpa using hs
  · intro i h1 h2
    match i, h2 with
    | 0, _ => simpa [Array.getD, hs] using h0
theorem vals2 {vals : Array Value} {a b : Value} (hs : vals.size = 2) (h0 : vals.getD 0 undef = a) (h1 : vals.getD 1 undef = b) : vals = #[a, b] := by
  apply Array.ext
  · simpa using hs
  · intro i j1 j2
    match i, j2 with
    | 0, _ => simpa [Array.getD, hs] using h0
    | 1, _ => simpa [Array.getD, hs] using h1
theorem vals3 {vals : Array Value} {a b c : Value} (hs : vals.size = 3) (h0 : vals.getD 0 undef = a) (h1 : vals.getD 1 undef = b) (h2 : vals.getD 2 undef = c) : vals = #[a, b, c] := by
  apply Array.ext
  · simpa using hs
  · intro i h3 h4
    match i, h4 with
    | 0, _ => simpa [Array.getD, hs] using h0
    | 1, _ => simpa [Array.getD, hs] using h1
    | 2, _ => simpa [Array.getD, hs] using h2
theorem vals4 {vals : Array Value} {a b c d : Value} (hs : vals.size = 4) (h0 : vals.getD 0 undef = a) (h1 : vals.getD 1 undef = b) (h2 : vals.getD 2 undef = c) (h3 : vals.getD 3 undef = d) : vals = #[a, b, c, d] := by
  apply Array.ext
  · simpa using hs
  · intro i h5 h6
    match i, h6 with
    | 0, _ => simpa [Array.getD, hs] using h0
    | 1, _ => simpa [Array.getD, hs] using h1
    | 2, _ => simpa [Array.getD, hs] using h2
    | 3, _ => simpa [Array.getD, hs] using h3
theorem repF_tup2 {w : World} {M : Nat → Prop} {a b : A} {x y : Value} (h1 : RepF w M a x) (h2 : RepF w M b y) : RepF w M (.tup [a, b]) (.tuple #[x, y]) := by
  refine .tup _ _ rfl (fun i hi => ?_)
  match i, hi with
  | 0, _ => exact h1
  | 1, _ => exact h2
theorem repF_v (w : World) (M : Nat → Prop) (x : Value) (h : x.oneCell' = true) : RepF w M (.t (.v x)) x := .t _ _ (.v _ h)
end Go.Proofs.Ytblikpgdepjhdaa

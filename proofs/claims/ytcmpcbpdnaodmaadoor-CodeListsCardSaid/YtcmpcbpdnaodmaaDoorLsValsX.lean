/- Parts of the proof. -/
import Derived.Test.YtcmpcbpdnaodmaaDoorLsXF
namespace Go.Proofs.YtcmpcbpdnaodmaaDoor
open Go.RowKit
set_option linter.unusedVariables false
set_option maxHeartbeats 4000000
theorem vals1 {vals : Array Value} {a : Value} (hs : vals.size = 1) (h0 : vals.getD 0 undef = a) : vals = #[a] := by
  apply Array.ext
  · simpa using hs
  · intro i h1 h2
    match i, h2 with
    | 0, _ => simpa [Array.getD, hs] using h0
theorem repF_v (w : World) (M : Nat → Prop) (x : Value) (h : x.oneCell' = true) : RepF w M (.t (.v x)) x := .t _ _ (.v _ h)
theorem fnp_of {P : Program} {f : FuncId} {xs : List A} {r : A} {v0 : Value} (hpl : plainFn P f = true) (hr : ∀ w X, RepF w X r v0)
    (h : ∀ (w : World) (X : Nat → Prop) (vals : Array Value), vals.size = xs.length → (∀ i (hi : i < xs.length), RepF w X (xs[i]) (vals.getD i undef)) → Calls P f vals w fun e w' => e = .returned v0 ∧ Below w.heap.size w w') : FnP P f xs r :=
  ⟨hpl, fun w X vals hX hs hrep => (h w X vals hs hrep).mono fun e w' ⟨he, hb⟩ => ⟨v0, he, hb, hr w' X⟩⟩
end Go.Proofs.YtcmpcbpdnaodmaaDoor

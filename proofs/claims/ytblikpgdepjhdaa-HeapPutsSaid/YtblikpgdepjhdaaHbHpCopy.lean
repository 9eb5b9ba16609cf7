/- Parts of the proof. -/
import Derived.Deep.RegionHeld3
import Derived.Test.YtblikpgdepjhdaaHbHpAllIO
namespace Go.Proofs.Ytblikpgdepjhdaa
open Go.RowKit
set_option linter.unusedVariables false
def objC (w : World) (M : Nat → Prop) (o : GApiObj) (p : Value) (f : Bool) : OPl → Prop
  | .shared => objAt w M o p .shared
  | .own b g => p = .pointer (some ⟨b, 0, none⟩) ∧ ∃ v, Has w b #[.int .u8 o.Kind, .int .i64 o.Of, .string (mkS o.Text), v, .bool f] 75 ∧ valsAt w v o.Vals g
structure MidC (H : GHeapHeap) (w wr : World) (M : Nat → Prop) (pls : List OPl) (ps : List Value) (k : Nat) : Prop where
  mod : Mod (fun x => x ∈ pls.flatMap OPl.bs) w wr
  objs : ∀ i (h1 : i < H.l.length) (h2 : i < ps.length) (h3 : i < pls.length), objC wr M H.l[i] ps[i] (decide (i < k)) pls[i]
section hd
variable {H : GHeapHeap} {wr W : World} {b lc : Nat} {la : Option Addr}
end hd
end Go.Proofs.Ytblikpgdepjhdaa

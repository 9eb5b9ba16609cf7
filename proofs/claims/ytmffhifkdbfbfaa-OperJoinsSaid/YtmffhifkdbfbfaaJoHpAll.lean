/- Parts of the proof. -/
import Derived.Test.YtmffhifkdbfbfaaJoHpPut2
namespace Go.Proofs.Ytmffhifkdbfbfaa
open Go.RowKit
set_option maxRecDepth 100000
set_option linter.unusedVariables false
def ocell (o : GApiObj) (v : Value) : List Value := [.int .u8 o.Kind, .int .i64 o.Of, .string (mkS o.Text), v]
def ocells : List GApiObj → List Value → List Value
  | o :: l, v :: vs => ocell o v ++ ocells l vs
  | _, _ => []
structure AllR (l : List GApiObj) (w wr : World) (k : Nat) (vs : List Value) (v : Value) : Prop where
  below : Below w.heap.size w wr
  own : wr.ownsRow w.heap.size 100 4 v k (ocells (l.take k) vs)
  len : vs.length = k
  vals : ∀ i (h : i < vs.length) (h' : i < l.length), ∃ g, valsAt wr vs[i] l[i].Vals g ∧ ∀ q, g = some q → w.heap.size ≤ q ∧ v.ownBlock ≠ some q
end Go.Proofs.Ytmffhifkdbfbfaa

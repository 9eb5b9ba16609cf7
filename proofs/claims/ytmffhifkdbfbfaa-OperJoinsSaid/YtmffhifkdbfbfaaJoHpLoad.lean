/- Parts of the proof. -/
import Derived.Test.YtmffhifkdbfbfaaJoHpNew
import Derived.Test.YtmffhifkdbfbfaaJoLfCon
namespace Go.Proofs.Ytmffhifkdbfbfaa
open Go.RowKit
set_option maxRecDepth 100000
set_option linter.unusedVariables false
def ObjsV (w : World) (v : Value) (l : List GApiObj) : Prop :=
  ∃ a c, v = .slice a l.length c ∧ ∀ i (hi : i < l.length), ∃ g off vv, a = some ⟨g, off, none⟩ ∧ g < w.heap.size ∧ w.cell? ⟨g, off + i * 4, none⟩ = some (.int .u8 l[i].Kind) ∧ w.cell? ⟨g, off + i * 4 + 1, none⟩ = some (.int .i64 l[i].Of) ∧ w.cell? ⟨g, off + i * 4 + 2, none⟩ = some (.string (mkS l[i].Text)) ∧ w.cell? ⟨g, off + i * 4 + 3, none⟩ = some vv ∧ ValsR w vv l[i].Vals
end Go.Proofs.Ytmffhifkdbfbfaa

/-
  No cell of these rows narrows 'for every input' (looked for: loops, veiled, ifaces, maps, wideKeys, modest, calm, conditions, laid).
  DERIVED. THE GIVEN ROWS OF THIS SEAT. 5 by the template 'for every input the law returns true; each argument reads behind the call as it read before'; 0 by the template 'total and deterministic' (their statements: YtmffhifkdbfbfaaTotals.lean).
  GIVEN WITH THE SEED: the statements are not yours to turn. If you find one false, say at which input.
  Laid BY PROGRAM, IN A SANDBOX (cutbox-rows.mjs): the forced cells as the released guide's own fill.sh prints them over the translation 5994cf83bf1c199b… (all of the seat's roots in one cut). By AI agents, Wed Nov 11 2026. No macro, syntax, notation, axiom, sorry.
-/
import Derived.Test.YtmffhifkdbfbfaaChecked
import GoSem.Claim
import GoSem.ClaimJoined
import GoSem.ClaimMapViews
import Derived.JoinedTies
import Derived.KernelRfl
namespace Go.Proofs.Ytmffhifkdbfbfaa
/- THE CELL 'sum', in the pinned program and in every row, IS THE sha256 OF THE DUMP (.gsa) THAT YtmffhifkdbfbfaaProg.lean LOADS. Nothing in Lean hashes anything: it is a label: what it is worth is what the hold of that sum in a sandbox is worth. -/
noncomputable def Try.pinned : Pinned := { name := "ytmffhifkdbfbfaa", sum := "5994cf83bf1c199b56f694ba3b6d1c95f974d18c30acf11992520a8d98b903d3", checked := Try.checked }
namespace Rows
def none {H : Type} : Left H := { results := [], args := [] }

/-- 'hindcastlaw13.OperUn': WHATEVER THE INPUT: true; the input reads as it did. -/
def operUnSpec : ChangeSpec := { name := "operUn", fn := fun _ => fun
  | [d1, d2] => { results := [.lit (.bool true)], args := [d1, d2] }
  | _ => none }
def operUnRow : OpenClaim := { program := "ytmffhifkdbfbfaa", sum := "5994cf83bf1c199b56f694ba3b6d1c95f974d18c30acf11992520a8d98b903d3", func := "hindcast/hindcastlaw13.OperUn", spec := "operUn", apart := false }
def OperUnSaid : Prop := operUnRow.holds Try.pinned (OpenSpec.ofChange operUnSpec)

/-- ITS FALSE NEIGHBOUR: 'it returns false'. Refute it at one input. -/
def operUnWrong : ChangeSpec := { name := "operUn", fn := fun _ => fun
  | [d1, d2] => { results := [.lit (.bool false)], args := [d1, d2] }
  | _ => none }
def OperUnWrongFalsely : Prop := operUnRow.holds Try.pinned (OpenSpec.ofChange operUnWrong)

/-- 'hindcastlaw13.OperFeeds': WHATEVER THE INPUT: true; the input reads as it did. -/
def operFeedsSpec : ChangeSpec := { name := "operFeeds", fn := fun _ => fun
  | [d1, d2, d3, d4, d5] => { results := [.lit (.bool true)], args := [d1, d2, d3, d4, d5] }
  | _ => none }
def operFeedsRow : OpenClaim := { program := "ytmffhifkdbfbfaa", sum := "5994cf83bf1c199b56f694ba3b6d1c95f974d18c30acf11992520a8d98b903d3", func := "hindcast/hindcastlaw13.OperFeeds", spec := "operFeeds", apart := false }
def OperFeedsSaid : Prop := operFeedsRow.holds Try.pinned (OpenSpec.ofChange operFeedsSpec)

/-- ITS FALSE NEIGHBOUR: 'it returns false'. Refute it at one input. -/
def operFeedsWrong : ChangeSpec := { name := "operFeeds", fn := fun _ => fun
  | [d1, d2, d3, d4, d5] => { results := [.lit (.bool false)], args := [d1, d2, d3, d4, d5] }
  | _ => none }
def OperFeedsWrongFalsely : Prop := operFeedsRow.holds Try.pinned (OpenSpec.ofChange operFeedsWrong)

/-- 'hindcastlaw13.OperEqual': WHATEVER THE INPUT: true; the input reads as it did. -/
def operEqualSpec : ChangeSpec := { name := "operEqual", fn := fun _ => fun
  | [d1, d2, d3, d4] => { results := [.lit (.bool true)], args := [d1, d2, d3, d4] }
  | _ => none }
def operEqualRow : OpenClaim := { program := "ytmffhifkdbfbfaa", sum := "5994cf83bf1c199b56f694ba3b6d1c95f974d18c30acf11992520a8d98b903d3", func := "hindcast/hindcastlaw13.OperEqual", spec := "operEqual", unfollowed := true, recurses := true, apart := false }
def OperEqualSaid : Prop := operEqualRow.holds Try.pinned (OpenSpec.ofChange operEqualSpec)

/-- ITS FALSE NEIGHBOUR: 'it returns false'. Refute it at one input. -/
def operEqualWrong : ChangeSpec := { name := "operEqual", fn := fun _ => fun
  | [d1, d2, d3, d4] => { results := [.lit (.bool false)], args := [d1, d2, d3, d4] }
  | _ => none }
def OperEqualWrongFalsely : Prop := operEqualRow.holds Try.pinned (OpenSpec.ofChange operEqualWrong)

/-- 'hindcastlaw13.OperBin': WHATEVER THE INPUT: true; the input reads as it did. -/
def operBinSpec : ChangeSpec := { name := "operBin", fn := fun _ => fun
  | [d1, d2, d3, d4, d5] => { results := [.lit (.bool true)], args := [d1, d2, d3, d4, d5] }
  | _ => none }
def operBinRow : OpenClaim := { program := "ytmffhifkdbfbfaa", sum := "5994cf83bf1c199b56f694ba3b6d1c95f974d18c30acf11992520a8d98b903d3", func := "hindcast/hindcastlaw13.OperBin", spec := "operBin", unfollowed := true, recurses := true, apart := false }
def OperBinSaid : Prop := operBinRow.holds Try.pinned (OpenSpec.ofChange operBinSpec)

/-- ITS FALSE NEIGHBOUR: 'it returns false'. Refute it at one input. -/
def operBinWrong : ChangeSpec := { name := "operBin", fn := fun _ => fun
  | [d1, d2, d3, d4, d5] => { results := [.lit (.bool false)], args := [d1, d2, d3, d4, d5] }
  | _ => none }
def OperBinWrongFalsely : Prop := operBinRow.holds Try.pinned (OpenSpec.ofChange operBinWrong)

/-- 'hindcastlaw13.OperJoins': WHATEVER THE INPUT: true; the input reads as it did. -/
def operJoinsSpec : ChangeSpec := { name := "operJoins", fn := fun _ => fun
  | [d1, d2, d3] => { results := [.lit (.bool true)], args := [d1, d2, d3] }
  | _ => none }
def operJoinsRow : OpenClaim := { program := "ytmffhifkdbfbfaa", sum := "5994cf83bf1c199b56f694ba3b6d1c95f974d18c30acf11992520a8d98b903d3", func := "hindcast/hindcastlaw13.OperJoins", spec := "operJoins", apart := false }
def OperJoinsSaid : Prop := operJoinsRow.holds Try.pinned (OpenSpec.ofChange operJoinsSpec)

/-- ITS FALSE NEIGHBOUR: 'it returns false'. Refute it at one input. -/
def operJoinsWrong : ChangeSpec := { name := "operJoins", fn := fun _ => fun
  | [d1, d2, d3] => { results := [.lit (.bool false)], args := [d1, d2, d3] }
  | _ => none }
def OperJoinsWrongFalsely : Prop := operJoinsRow.holds Try.pinned (OpenSpec.ofChange operJoinsWrong)

/- THE SECOND FORM. 'bulk': how many values and letters a reading holds, each counted each time it is reached (what is shared counts as often as it is met; a slice's spare places count too). A statement '..UptoSaid' is the law's where the arguments, and the package variables that the reading takes, are together of bulk at most 1048576: NARROWER than '..Said'. Prove '..Said' where nothing that the law and all that it calls make is longer than what came in: it says more and counts as full. Else prove '..UptoSaid'. A law counts once. -/
mutual
def uptoBulk {H : Type} : DataW H → Nat
  | .lit (.string bytes) => bytes.length + 1
  | .lit _ => 1
  | .nil => 1
  | .ptr d => uptoBulk d + 1
  | .slice elems spare => uptoBulkAll elems + uptoBulkAll spare + 1
  | .agg parts => uptoBulkAll parts + 1
  | .iface _ d => uptoBulk d + 1
  | .map entries => uptoBulkEntries entries + 1
  | .held _ => 1
def uptoBulkAll {H : Type} : List (DataW H) → Nat
  | [] => 0
  | d :: r => uptoBulk d + uptoBulkAll r
def uptoBulkEntries {H : Type} : List (Lit × DataW H) → Nat
  | [] => 0
  | x :: r => uptoBulkEntry x + uptoBulkEntries r
def uptoBulkEntry {H : Type} : Lit × DataW H → Nat
  | (.string bytes, d) => bytes.length + uptoBulk d + 1
  | (_, d) => uptoBulk d + 1
 end
def uptoSmall : (H : Type) → List (DataW H) → Bool := fun _ ds => decide (uptoBulkAll ds ≤ 1048576)
def OpenSpec.upto (s : _root_.Go.ChangeSpec) : _root_.Go.OpenSpec := { _root_.Go.OpenSpec.ofChange s with cond := some uptoSmall }

/-- 'hindcastlaw13.OperUn', WHERE WHAT IT READS IS OF BULK AT MOST 1048576: true; the input reads as it did. -/
def operUnUptoRow : OpenClaim := { program := "ytmffhifkdbfbfaa", sum := "5994cf83bf1c199b56f694ba3b6d1c95f974d18c30acf11992520a8d98b903d3", func := "hindcast/hindcastlaw13.OperUn", spec := "operUn", apart := false, narrowed := true }
def OperUnUptoSaid : Prop := operUnUptoRow.holds Try.pinned (OpenSpec.upto operUnSpec)

/-- 'hindcastlaw13.OperFeeds', WHERE WHAT IT READS IS OF BULK AT MOST 1048576: true; the input reads as it did. -/
def operFeedsUptoRow : OpenClaim := { program := "ytmffhifkdbfbfaa", sum := "5994cf83bf1c199b56f694ba3b6d1c95f974d18c30acf11992520a8d98b903d3", func := "hindcast/hindcastlaw13.OperFeeds", spec := "operFeeds", apart := false, narrowed := true }
def OperFeedsUptoSaid : Prop := operFeedsUptoRow.holds Try.pinned (OpenSpec.upto operFeedsSpec)

/-- 'hindcastlaw13.OperEqual', WHERE WHAT IT READS IS OF BULK AT MOST 1048576: true; the input reads as it did. -/
def operEqualUptoRow : OpenClaim := { program := "ytmffhifkdbfbfaa", sum := "5994cf83bf1c199b56f694ba3b6d1c95f974d18c30acf11992520a8d98b903d3", func := "hindcast/hindcastlaw13.OperEqual", spec := "operEqual", unfollowed := true, recurses := true, apart := false, narrowed := true }
def OperEqualUptoSaid : Prop := operEqualUptoRow.holds Try.pinned (OpenSpec.upto operEqualSpec)

/-- 'hindcastlaw13.OperBin', WHERE WHAT IT READS IS OF BULK AT MOST 1048576: true; the input reads as it did. -/
def operBinUptoRow : OpenClaim := { program := "ytmffhifkdbfbfaa", sum := "5994cf83bf1c199b56f694ba3b6d1c95f974d18c30acf11992520a8d98b903d3", func := "hindcast/hindcastlaw13.OperBin", spec := "operBin", unfollowed := true, recurses := true, apart := false, narrowed := true }
def OperBinUptoSaid : Prop := operBinUptoRow.holds Try.pinned (OpenSpec.upto operBinSpec)

/-- 'hindcastlaw13.OperJoins', WHERE WHAT IT READS IS OF BULK AT MOST 1048576: true; the input reads as it did. -/
def operJoinsUptoRow : OpenClaim := { program := "ytmffhifkdbfbfaa", sum := "5994cf83bf1c199b56f694ba3b6d1c95f974d18c30acf11992520a8d98b903d3", func := "hindcast/hindcastlaw13.OperJoins", spec := "operJoins", apart := false, narrowed := true }
def OperJoinsUptoSaid : Prop := operJoinsUptoRow.holds Try.pinned (OpenSpec.upto operJoinsSpec)

end Rows
end Go.Proofs.Ytmffhifkdbfbfaa

/-
  No cell of these rows narrows 'for every input' (looked for: loops, veiled, ifaces, maps, wideKeys, modest, calm, conditions, laid).
  DERIVED. THE GIVEN ROWS OF THIS SEAT. 3 by the template 'for every input the law returns true; each argument reads behind the call as it read before'; 0 by the template 'total and deterministic' (their statements: YtabmahknlebhpaaGreatTotals.lean).
  GIVEN WITH THE SEED: the statements are not yours to turn. If you find one false, say at which input.
  Laid BY PROGRAM, IN A SANDBOX (cutbox-rows.mjs): the forced cells as the released guide's own fill.sh prints them over the translation 51c8dbff3415804d… (all of the seat's roots in one cut). By AI agents, Wed Nov 11 2026. No macro, syntax, notation, axiom, sorry.
-/
import Derived.Test.YtabmahknlebhpaaGreatChecked
import GoSem.Claim
import GoSem.ClaimJoined
import GoSem.ClaimMapViews
import Derived.JoinedTies
import Derived.KernelRfl
namespace Go.Proofs.YtabmahknlebhpaaGreat
/- THE CELL 'sum', in the pinned program and in every row, IS THE sha256 OF THE DUMP (.gsa) THAT YtabmahknlebhpaaGreatProg.lean LOADS. Nothing in Lean hashes anything: it is a label: what it is worth is what the hold of that sum in a sandbox is worth. -/
noncomputable def Tryz.pinned : Pinned := { name := "ytabmahknlebhpaagreat", sum := "51c8dbff3415804d85fd10ff13c94e3411c0093d53ce90b4831b7c92cb1d3741", checked := Tryz.checked }
namespace Rows
def none {H : Type} : Left H := { results := [], args := [] }

/-- 'hindcastlaw17.VerifyChecks': WHATEVER THE INPUT: true; the input reads as it did. -/
def verifyChecksSpec : ChangeSpec := { name := "verifyChecks", fn := fun _ => fun
  | [d] => { results := [.lit (.bool true)], args := [d] }
  | _ => none }
def verifyChecksRow : OpenClaim := { program := "ytabmahknlebhpaagreat", sum := "51c8dbff3415804d85fd10ff13c94e3411c0093d53ce90b4831b7c92cb1d3741", func := "hindcast/hindcastlaw17.VerifyChecks", spec := "verifyChecks", unfollowed := true, recurses := true, apart := false }
def VerifyChecksSaid : Prop := verifyChecksRow.holds Tryz.pinned (OpenSpec.ofChange verifyChecksSpec)

/-- ITS FALSE NEIGHBOUR: 'it returns false'. Refute it at one input. -/
def verifyChecksWrong : ChangeSpec := { name := "verifyChecks", fn := fun _ => fun
  | [d] => { results := [.lit (.bool false)], args := [d] }
  | _ => none }
def VerifyChecksWrongFalsely : Prop := verifyChecksRow.holds Tryz.pinned (OpenSpec.ofChange verifyChecksWrong)

/-- 'hindcastlaw17.VerifyDepths': WHATEVER THE INPUT: true; the input reads as it did. -/
def verifyDepthsSpec : ChangeSpec := { name := "verifyDepths", fn := fun _ => fun
  | [d1, d2] => { results := [.lit (.bool true)], args := [d1, d2] }
  | _ => none }
def verifyDepthsRow : OpenClaim := { program := "ytabmahknlebhpaagreat", sum := "51c8dbff3415804d85fd10ff13c94e3411c0093d53ce90b4831b7c92cb1d3741", func := "hindcast/hindcastlaw17.VerifyDepths", spec := "verifyDepths", unfollowed := true, recurses := true, apart := false }
def VerifyDepthsSaid : Prop := verifyDepthsRow.holds Tryz.pinned (OpenSpec.ofChange verifyDepthsSpec)

/-- ITS FALSE NEIGHBOUR: 'it returns false'. Refute it at one input. -/
def verifyDepthsWrong : ChangeSpec := { name := "verifyDepths", fn := fun _ => fun
  | [d1, d2] => { results := [.lit (.bool false)], args := [d1, d2] }
  | _ => none }
def VerifyDepthsWrongFalsely : Prop := verifyDepthsRow.holds Tryz.pinned (OpenSpec.ofChange verifyDepthsWrong)

/-- 'hindcastlaw17.VerifyPrograms': WHATEVER THE INPUT: true; the input reads as it did. -/
def verifyProgramsSpec : ChangeSpec := { name := "verifyPrograms", fn := fun _ => fun
  | [d] => { results := [.lit (.bool true)], args := [d] }
  | _ => none }
def verifyProgramsRow : OpenClaim := { program := "ytabmahknlebhpaagreat", sum := "51c8dbff3415804d85fd10ff13c94e3411c0093d53ce90b4831b7c92cb1d3741", func := "hindcast/hindcastlaw17.VerifyPrograms", spec := "verifyPrograms", unfollowed := true, recurses := true, apart := false }
def VerifyProgramsSaid : Prop := verifyProgramsRow.holds Tryz.pinned (OpenSpec.ofChange verifyProgramsSpec)

/-- ITS FALSE NEIGHBOUR: 'it returns false'. Refute it at one input. -/
def verifyProgramsWrong : ChangeSpec := { name := "verifyPrograms", fn := fun _ => fun
  | [d] => { results := [.lit (.bool false)], args := [d] }
  | _ => none }
def VerifyProgramsWrongFalsely : Prop := verifyProgramsRow.holds Tryz.pinned (OpenSpec.ofChange verifyProgramsWrong)

/- THE SECOND FORM. 'bulk': how many values and letters a reading holds, each counted each time it is reached (what is shared counts as often as it is met; a slice's spare places count too). A statement '..UptoSaid' is the law's where the arguments, and the package variables that the reading takes, are together of bulk at most 1048576: NARROWER than '..Said'. Prove '..Said' where nothing that the law and all that it calls make is longer than what came in: it says more and counts as full. Else prove '..UptoSaid'. A law counts once. -/
mutual
def uptoBulk {H : Type} : DataW H → Nat
  | .lit (.string bytes) => bytes.length + 1
  | .lit _ => 1
  | .nil => 1
  | .ptr d => uptoBulk d + 1
  | .slice elems spare => uptoBulkAll elems + uptoBulkAll spare + 1
  | .agg parts => uptoBulkAll parts + 1
  | .iface _ d => uptoBulk d + 1
  | .map entries => uptoBulkEntries entries + 1
  | .held _ => 1
def uptoBulkAll {H : Type} : List (DataW H) → Nat
  | [] => 0
  | d :: r => uptoBulk d + uptoBulkAll r
def uptoBulkEntries {H : Type} : List (Lit × DataW H) → Nat
  | [] => 0
  | x :: r => uptoBulkEntry x + uptoBulkEntries r
def uptoBulkEntry {H : Type} : Lit × DataW H → Nat
  | (.string bytes, d) => bytes.length + uptoBulk d + 1
  | (_, d) => uptoBulk d + 1
 end
def uptoSmall : (H : Type) → List (DataW H) → Bool := fun _ ds => decide (uptoBulkAll ds ≤ 1048576)
def OpenSpec.upto (s : _root_.Go.ChangeSpec) : _root_.Go.OpenSpec := { _root_.Go.OpenSpec.ofChange s with cond := some uptoSmall }

/-- 'hindcastlaw17.VerifyChecks', WHERE WHAT IT READS IS OF BULK AT MOST 1048576: true; the input reads as it did. -/
def verifyChecksUptoRow : OpenClaim := { program := "ytabmahknlebhpaagreat", sum := "51c8dbff3415804d85fd10ff13c94e3411c0093d53ce90b4831b7c92cb1d3741", func := "hindcast/hindcastlaw17.VerifyChecks", spec := "verifyChecks", unfollowed := true, recurses := true, apart := false, narrowed := true }
def VerifyChecksUptoSaid : Prop := verifyChecksUptoRow.holds Tryz.pinned (OpenSpec.upto verifyChecksSpec)

/-- 'hindcastlaw17.VerifyDepths', WHERE WHAT IT READS IS OF BULK AT MOST 1048576: true; the input reads as it did. -/
def verifyDepthsUptoRow : OpenClaim := { program := "ytabmahknlebhpaagreat", sum := "51c8dbff3415804d85fd10ff13c94e3411c0093d53ce90b4831b7c92cb1d3741", func := "hindcast/hindcastlaw17.VerifyDepths", spec := "verifyDepths", unfollowed := true, recurses := true, apart := false, narrowed := true }
def VerifyDepthsUptoSaid : Prop := verifyDepthsUptoRow.holds Tryz.pinned (OpenSpec.upto verifyDepthsSpec)

/-- 'hindcastlaw17.VerifyPrograms', WHERE WHAT IT READS IS OF BULK AT MOST 1048576: true; the input reads as it did. -/
def verifyProgramsUptoRow : OpenClaim := { program := "ytabmahknlebhpaagreat", sum := "51c8dbff3415804d85fd10ff13c94e3411c0093d53ce90b4831b7c92cb1d3741", func := "hindcast/hindcastlaw17.VerifyPrograms", spec := "verifyPrograms", unfollowed := true, recurses := true, apart := false, narrowed := true }
def VerifyProgramsUptoSaid : Prop := verifyProgramsUptoRow.holds Tryz.pinned (OpenSpec.upto verifyProgramsSpec)

end Rows
end Go.Proofs.YtabmahknlebhpaaGreat

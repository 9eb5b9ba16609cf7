/-
  DERIVED. GIVEN WITH THE SEED: THE CARDS: each row of YtcmpcbpdnaodmaaDoorRows.lean that lists a variable, with what it lists TIED to the program's text (the seventh form; the later family's looks); each row that meets fmt, with fmt's text TOLD by the authors' own Lean function (tested against real Go, not proved from fmt's source: count such statements apart). THE CARD IS WHAT COUNTS. Prove the row's statement (the work); the ties are given (YtcmpcbpdnaodmaaDoorTie.lean); close each card by the builder's one call (the guide's Derived/Test/ToyasCard.lean, 'card_holds'). Laid BY PROGRAM, IN A SANDBOX (cutbox-door.mjs). By AI agents, Wed Nov 11 2026. No macro, syntax, notation, axiom, sorry.
-/
import Derived.Test.YtcmpcbpdnaodmaaDoorRows
import GoSem.ClaimSeven
namespace Go.Proofs.YtcmpcbpdnaodmaaDoor
namespace Rows

/-- THE TIED CARD OF 'hindcastlaw15.CodeLists'. -/
def codeListsCard : Claim7 := { stood := { row := codeListsRow, standIns := [], harness := (true, "9a28e0e6e01c2b6c9710bb1b50fff41149911a70632171736823a404d8a54316"), looks := false }, kinds := [], alts := [], laidByText := true, laidKinds := [.data, .data, .data], laidTests := true, laidLooks := .later }
def CodeListsCardSaid : Prop := Claim7.holds Tryd.pinned (.plain (OpenSpec.ofChange codeListsSpec)) codeListsCard

/-- THE SECOND FORM's CARD OF 'hindcastlaw15.CodeLists'. -/
def codeListsUptoCard : Claim7 := { stood := { row := codeListsUptoRow, standIns := [], harness := (true, "9a28e0e6e01c2b6c9710bb1b50fff41149911a70632171736823a404d8a54316"), looks := false }, kinds := [], alts := [], laidByText := true, laidKinds := [.data, .data, .data], laidTests := true, laidLooks := .later }
def CodeListsUptoCardSaid : Prop := Claim7.holds Tryd.pinned (.plain (OpenSpec.upto codeListsSpec)) codeListsUptoCard
end Rows
end Go.Proofs.YtcmpcbpdnaodmaaDoor

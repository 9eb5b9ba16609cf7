/-
  DERIVED. GIVEN WITH THE SEED: THE CARDS: each row of YtihbbcealnnpiaaGreatDoorRows.lean that lists a variable, with what it lists TIED to the program's text (the seventh form; the later family's looks); each row that meets fmt, with fmt's text TOLD by the authors' own Lean function (tested against real Go, not proved from fmt's source: count such statements apart). THE CARD IS WHAT COUNTS. Prove the row's statement (the work); the ties are given (YtihbbcealnnpiaaGreatDoorTie.lean); close each card by the builder's one call (the guide's Derived/Test/ToyasCard.lean, 'card_holds'). Laid BY PROGRAM, IN A SANDBOX (cutbox-door.mjs). By AI agents, Wed Nov 11 2026. No macro, syntax, notation, axiom, sorry.
-/
import Derived.Test.YtihbbcealnnpiaaGreatDoorRows
import GoSem.ClaimSeven
namespace Go.Proofs.YtihbbcealnnpiaaGreatDoor
namespace Rows

/-- THE TIED CARD OF 'hindcastlaw16.GenCodes'. -/
def genCodesCard : Claim7 := { stood := { row := genCodesRow, standIns := [], harness := (true, "dbdb0604fc6bf14bea8e2251b8241f4b8faf4883224946879ceee8ec6c53160e"), looks := false }, kinds := [], alts := [], laidByText := true, laidKinds := [.data, .data, .data], laidTests := true, laidLooks := .later }
def GenCodesCardSaid : Prop := Claim7.holds Tryz.pinned (.plain (OpenSpec.ofChange genCodesSpec)) genCodesCard

/-- THE TIED CARD OF 'hindcastlaw16.GenPoints'. -/
def genPointsCard : Claim7 := { stood := { row := genPointsRow, standIns := [], harness := (true, "dbdb0604fc6bf14bea8e2251b8241f4b8faf4883224946879ceee8ec6c53160e"), looks := false }, kinds := [], alts := [], laidByText := true, laidKinds := [.data, .data, .data], laidTests := true, laidLooks := .later }
def GenPointsCardSaid : Prop := Claim7.holds Tryz.pinned (.plain (OpenSpec.ofChange genPointsSpec)) genPointsCard

/-- THE TIED CARD OF 'hindcastlaw16.GenBytes'. -/
def genBytesCard : Claim7 := { stood := { row := genBytesRow, standIns := [], harness := (true, "dbdb0604fc6bf14bea8e2251b8241f4b8faf4883224946879ceee8ec6c53160e"), looks := false }, kinds := [], alts := [], laidByText := true, laidKinds := [.data, .data, .data], laidTests := true, laidLooks := .later }
def GenBytesCardSaid : Prop := Claim7.holds Tryz.pinned (.plain (OpenSpec.ofChange genBytesSpec)) genBytesCard

/-- THE SECOND FORM's CARD OF 'hindcastlaw16.GenCodes'. -/
def genCodesUptoCard : Claim7 := { stood := { row := genCodesUptoRow, standIns := [], harness := (true, "dbdb0604fc6bf14bea8e2251b8241f4b8faf4883224946879ceee8ec6c53160e"), looks := false }, kinds := [], alts := [], laidByText := true, laidKinds := [.data, .data, .data], laidTests := true, laidLooks := .later }
def GenCodesUptoCardSaid : Prop := Claim7.holds Tryz.pinned (.plain (OpenSpec.upto genCodesSpec)) genCodesUptoCard

/-- THE SECOND FORM's CARD OF 'hindcastlaw16.GenPoints'. -/
def genPointsUptoCard : Claim7 := { stood := { row := genPointsUptoRow, standIns := [], harness := (true, "dbdb0604fc6bf14bea8e2251b8241f4b8faf4883224946879ceee8ec6c53160e"), looks := false }, kinds := [], alts := [], laidByText := true, laidKinds := [.data, .data, .data], laidTests := true, laidLooks := .later }
def GenPointsUptoCardSaid : Prop := Claim7.holds Tryz.pinned (.plain (OpenSpec.upto genPointsSpec)) genPointsUptoCard

/-- THE SECOND FORM's CARD OF 'hindcastlaw16.GenBytes'. -/
def genBytesUptoCard : Claim7 := { stood := { row := genBytesUptoRow, standIns := [], harness := (true, "dbdb0604fc6bf14bea8e2251b8241f4b8faf4883224946879ceee8ec6c53160e"), looks := false }, kinds := [], alts := [], laidByText := true, laidKinds := [.data, .data, .data], laidTests := true, laidLooks := .later }
def GenBytesUptoCardSaid : Prop := Claim7.holds Tryz.pinned (.plain (OpenSpec.upto genBytesSpec)) genBytesUptoCard
end Rows
end Go.Proofs.YtihbbcealnnpiaaGreatDoor

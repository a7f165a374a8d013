/-
  DERIVED. GIVEN WITH THE SEED: THE CARDS: each row of YtihnhelkfiaimaaGreatDoorRows.lean that lists a variable, with what it lists TIED to the program's text (the seventh form; the later family's looks); each row that meets fmt, with fmt's text TOLD by the authors' own Lean function (tested against real Go, not proved from fmt's source: count such statements apart). THE CARD IS WHAT COUNTS. Prove the row's statement (the work); the ties are given (YtihnhelkfiaimaaGreatDoorTie.lean); close each card by the builder's one call (the guide's Derived/Test/ToyasCard.lean, 'card_holds'). Laid BY PROGRAM, IN A SANDBOX (cutbox-door.mjs). By AI agents, Wed Nov 11 2026. No macro, syntax, notation, axiom, sorry.
-/
import Derived.Test.YtihnhelkfiaimaaGreatDoorRows
import GoSem.ClaimSeven
namespace Go.Proofs.YtihnhelkfiaimaaGreatDoor
namespace Rows

/-- THE TIED CARD OF 'laws.FnPrinted'. -/
def fnPrintedCard : Claim7 := { stood := { row := fnPrintedRow, standIns := [], harness := (true, "9def9f6a9133714b925c783840f95608cbc9c0608f2aa42e1d080c30d21f77ae"), looks := true }, kinds := [], alts := [], laidByText := true, laidKinds := [.data, .data, .data], laidTests := true, laidLooks := .later }
def FnPrintedCardSaid : Prop := Claim7.holds Tryz.pinned (.plain (OpenSpec.ofChange fnPrintedSpec)) fnPrintedCard

/-- THE TIED CARD OF 'laws.FnReproduced'. -/
def fnReproducedCard : Claim7 := { stood := { row := fnReproducedRow, standIns := [], harness := (true, "9def9f6a9133714b925c783840f95608cbc9c0608f2aa42e1d080c30d21f77ae"), looks := true }, kinds := [], alts := [], laidByText := true, laidKinds := [.data, .data, .data, .data, .sentinel, .sentinel, .pinned], laidTests := true, laidLooks := .later }
def FnReproducedCardSaid : Prop := Claim7.holds Tryz.pinned (.plain (OpenSpec.ofChange fnReproducedSpec)) fnReproducedCard

/-- THE TIED CARD OF 'laws.FnGangs'. -/
def fnGangsCard : Claim7 := { stood := { row := fnGangsRow, standIns := [], harness := (true, "9def9f6a9133714b925c783840f95608cbc9c0608f2aa42e1d080c30d21f77ae"), looks := true }, kinds := [], alts := [], laidByText := true, laidKinds := [.data, .data, .data], laidTests := true, laidLooks := .later }
def FnGangsCardSaid : Prop := Claim7.holds Tryz.pinned (.plain (OpenSpec.ofChange fnGangsSpec)) fnGangsCard

/-- THE SECOND FORM's CARD OF 'laws.FnPrinted'. -/
def fnPrintedUptoCard : Claim7 := { stood := { row := fnPrintedUptoRow, standIns := [], harness := (true, "9def9f6a9133714b925c783840f95608cbc9c0608f2aa42e1d080c30d21f77ae"), looks := true }, kinds := [], alts := [], laidByText := true, laidKinds := [.data, .data, .data], laidTests := true, laidLooks := .later }
def FnPrintedUptoCardSaid : Prop := Claim7.holds Tryz.pinned (.plain (OpenSpec.upto fnPrintedSpec)) fnPrintedUptoCard

/-- THE SECOND FORM's CARD OF 'laws.FnReproduced'. -/
def fnReproducedUptoCard : Claim7 := { stood := { row := fnReproducedUptoRow, standIns := [], harness := (true, "9def9f6a9133714b925c783840f95608cbc9c0608f2aa42e1d080c30d21f77ae"), looks := true }, kinds := [], alts := [], laidByText := true, laidKinds := [.data, .data, .data, .data, .sentinel, .sentinel, .pinned], laidTests := true, laidLooks := .later }
def FnReproducedUptoCardSaid : Prop := Claim7.holds Tryz.pinned (.plain (OpenSpec.upto fnReproducedSpec)) fnReproducedUptoCard

/-- THE SECOND FORM's CARD OF 'laws.FnGangs'. -/
def fnGangsUptoCard : Claim7 := { stood := { row := fnGangsUptoRow, standIns := [], harness := (true, "9def9f6a9133714b925c783840f95608cbc9c0608f2aa42e1d080c30d21f77ae"), looks := true }, kinds := [], alts := [], laidByText := true, laidKinds := [.data, .data, .data], laidTests := true, laidLooks := .later }
def FnGangsUptoCardSaid : Prop := Claim7.holds Tryz.pinned (.plain (OpenSpec.upto fnGangsSpec)) fnGangsUptoCard
end Rows
end Go.Proofs.YtihnhelkfiaimaaGreatDoor

/-
  DERIVED. GIVEN WITH THE SEED: THE CARDS: each row of YtjnnfmlgjdlihaaGreatDoorRows.lean that lists a variable, with what it lists TIED to the program's text (the seventh form; the later family's looks); each row that meets fmt, with fmt's text TOLD by the authors' own Lean function (tested against real Go, not proved from fmt's source: count such statements apart). THE CARD IS WHAT COUNTS. Prove the row's statement (the work); the ties are given (YtjnnfmlgjdlihaaGreatDoorTie.lean); close each card by the builder's one call (the guide's Derived/Test/ToyasCard.lean, 'card_holds'). Laid BY PROGRAM, IN A SANDBOX (cutbox-door.mjs). By AI agents, Wed Nov 11 2026. No macro, syntax, notation, axiom, sorry.
-/
import Derived.Test.YtjnnfmlgjdlihaaGreatDoorRows
import GoSem.ClaimSeven
namespace Go.Proofs.YtjnnfmlgjdlihaaGreatDoor
namespace Rows

/-- THE TIED CARD OF 'laws.FnExactTabulateDeck'. -/
def fnExactTabulateDeckCard : Claim7 := { stood := { row := fnExactTabulateDeckRow, standIns := [], harness := (true, "99ea40aa2a1cf9d395fe10b62b29fba0b331f73491a52a2ce51773a7589f09d9"), looks := false }, kinds := [], alts := [], laidByText := true, laidKinds := [.data, .data, .data], laidTests := true, laidLooks := .later }
def FnExactTabulateDeckCardSaid : Prop := Claim7.holds Tryz.pinned (.plain (OpenSpec.ofChange fnExactTabulateDeckSpec)) fnExactTabulateDeckCard

/-- THE TIED CARD OF 'laws.FnPrinted'. -/
def fnPrintedCard : Claim7 := { stood := { row := fnPrintedRow, standIns := [], harness := (true, "99ea40aa2a1cf9d395fe10b62b29fba0b331f73491a52a2ce51773a7589f09d9"), looks := false }, kinds := [], alts := [], laidByText := true, laidKinds := [.data, .data, .data], laidTests := true, laidLooks := .later }
def FnPrintedCardSaid : Prop := Claim7.holds Tryz.pinned (.plain (OpenSpec.ofChange fnPrintedSpec)) fnPrintedCard

/-- THE SECOND FORM's CARD OF 'laws.FnExactTabulateDeck'. -/
def fnExactTabulateDeckUptoCard : Claim7 := { stood := { row := fnExactTabulateDeckUptoRow, standIns := [], harness := (true, "99ea40aa2a1cf9d395fe10b62b29fba0b331f73491a52a2ce51773a7589f09d9"), looks := false }, kinds := [], alts := [], laidByText := true, laidKinds := [.data, .data, .data], laidTests := true, laidLooks := .later }
def FnExactTabulateDeckUptoCardSaid : Prop := Claim7.holds Tryz.pinned (.plain (OpenSpec.upto fnExactTabulateDeckSpec)) fnExactTabulateDeckUptoCard

/-- THE SECOND FORM's CARD OF 'laws.FnPrinted'. -/
def fnPrintedUptoCard : Claim7 := { stood := { row := fnPrintedUptoRow, standIns := [], harness := (true, "99ea40aa2a1cf9d395fe10b62b29fba0b331f73491a52a2ce51773a7589f09d9"), looks := false }, kinds := [], alts := [], laidByText := true, laidKinds := [.data, .data, .data], laidTests := true, laidLooks := .later }
def FnPrintedUptoCardSaid : Prop := Claim7.holds Tryz.pinned (.plain (OpenSpec.upto fnPrintedSpec)) fnPrintedUptoCard
end Rows
end Go.Proofs.YtjnnfmlgjdlihaaGreatDoor

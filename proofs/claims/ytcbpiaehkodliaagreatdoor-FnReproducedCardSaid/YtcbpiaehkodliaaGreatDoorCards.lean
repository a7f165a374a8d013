/-
  DERIVED. GIVEN WITH THE SEED: THE CARDS: each row of YtcbpiaehkodliaaGreatDoorRows.lean that lists a variable, with what it lists TIED to the program's text (the seventh form; the later family's looks); each row that meets fmt, with fmt's text TOLD by the authors' own Lean function (tested against real Go, not proved from fmt's source: count such statements apart). THE CARD IS WHAT COUNTS. Prove the row's statement (the work); the ties are given (YtcbpiaehkodliaaGreatDoorTie.lean); close each card by the builder's one call (the guide's Derived/Test/ToyasCard.lean, 'card_holds'). Laid BY PROGRAM, IN A SANDBOX (cutbox-door.mjs). By AI agents, Wed Nov 11 2026. No macro, syntax, notation, axiom, sorry.
-/
import Derived.Test.YtcbpiaehkodliaaGreatDoorRows
import GoSem.ClaimSeven
namespace Go.Proofs.YtcbpiaehkodliaaGreatDoor
namespace Rows

/-- THE TIED CARD OF 'laws.FnReproduced'. -/
def fnReproducedCard : Claim7 := { stood := { row := fnReproducedRow, standIns := [], harness := (true, "f06ebb4d03e0a0a87c2892471a694a1bdb5c835a533758d174a5d2dac024a6d7"), looks := true }, kinds := [], alts := [], laidByText := true, laidKinds := [.data, .data, .data, .data, .sentinel, .sentinel, .pinned], laidTests := true, laidLooks := .later }
def FnReproducedCardSaid : Prop := Claim7.holds Tryz.pinned (.plain (OpenSpec.ofChange fnReproducedSpec)) fnReproducedCard

/-- THE SECOND FORM's CARD OF 'laws.FnReproduced'. -/
def fnReproducedUptoCard : Claim7 := { stood := { row := fnReproducedUptoRow, standIns := [], harness := (true, "f06ebb4d03e0a0a87c2892471a694a1bdb5c835a533758d174a5d2dac024a6d7"), looks := true }, kinds := [], alts := [], laidByText := true, laidKinds := [.data, .data, .data, .data, .sentinel, .sentinel, .pinned], laidTests := true, laidLooks := .later }
def FnReproducedUptoCardSaid : Prop := Claim7.holds Tryz.pinned (.plain (OpenSpec.upto fnReproducedSpec)) fnReproducedUptoCard
end Rows
end Go.Proofs.YtcbpiaehkodliaaGreatDoor

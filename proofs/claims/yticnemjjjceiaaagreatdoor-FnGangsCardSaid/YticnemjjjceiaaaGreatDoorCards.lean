/-
  DERIVED. GIVEN WITH THE SEED: THE CARDS: each row of YticnemjjjceiaaaGreatDoorRows.lean that lists a variable, with what it lists TIED to the program's text (the seventh form; the later family's looks); each row that meets fmt, with fmt's text TOLD by the authors' own Lean function (tested against real Go, not proved from fmt's source: count such statements apart). THE CARD IS WHAT COUNTS. Prove the row's statement (the work); the ties are given (YticnemjjjceiaaaGreatDoorTie.lean); close each card by the builder's one call (the guide's Derived/Test/ToyasCard.lean, 'card_holds'). Laid BY PROGRAM, IN A SANDBOX (cutbox-door.mjs). By AI agents, Wed Nov 11 2026. No macro, syntax, notation, axiom, sorry.
-/
import Derived.Test.YticnemjjjceiaaaGreatDoorRows
import GoSem.ClaimSeven
namespace Go.Proofs.YticnemjjjceiaaaGreatDoor
namespace Rows

/-- THE TIED CARD OF 'laws.FnReproduced'. -/
def fnReproducedCard : Claim7 := { stood := { row := fnReproducedRow, standIns := [], harness := (true, "7bd6be1afe9202431550ebe040e0f2c346543587f14480efc82b5e53905d62c6"), looks := true }, kinds := [], alts := [], laidByText := true, laidKinds := [.data, .data, .data, .data, .sentinel, .sentinel, .pinned], laidTests := true, laidLooks := .later }
def FnReproducedCardSaid : Prop := Claim7.holds Tryz.pinned (.plain (OpenSpec.ofChange fnReproducedSpec)) fnReproducedCard

/-- THE TIED CARD OF 'laws.FnGangs'. -/
def fnGangsCard : Claim7 := { stood := { row := fnGangsRow, standIns := [], harness := (true, "7bd6be1afe9202431550ebe040e0f2c346543587f14480efc82b5e53905d62c6"), looks := true }, kinds := [], alts := [], laidByText := true, laidKinds := [.data, .data, .data], laidTests := true, laidLooks := .later }
def FnGangsCardSaid : Prop := Claim7.holds Tryz.pinned (.plain (OpenSpec.ofChange fnGangsSpec)) fnGangsCard

/-- THE SECOND FORM's CARD OF 'laws.FnReproduced'. -/
def fnReproducedUptoCard : Claim7 := { stood := { row := fnReproducedUptoRow, standIns := [], harness := (true, "7bd6be1afe9202431550ebe040e0f2c346543587f14480efc82b5e53905d62c6"), looks := true }, kinds := [], alts := [], laidByText := true, laidKinds := [.data, .data, .data, .data, .sentinel, .sentinel, .pinned], laidTests := true, laidLooks := .later }
def FnReproducedUptoCardSaid : Prop := Claim7.holds Tryz.pinned (.plain (OpenSpec.upto fnReproducedSpec)) fnReproducedUptoCard

/-- THE SECOND FORM's CARD OF 'laws.FnGangs'. -/
def fnGangsUptoCard : Claim7 := { stood := { row := fnGangsUptoRow, standIns := [], harness := (true, "7bd6be1afe9202431550ebe040e0f2c346543587f14480efc82b5e53905d62c6"), looks := true }, kinds := [], alts := [], laidByText := true, laidKinds := [.data, .data, .data], laidTests := true, laidLooks := .later }
def FnGangsUptoCardSaid : Prop := Claim7.holds Tryz.pinned (.plain (OpenSpec.upto fnGangsSpec)) fnGangsUptoCard
end Rows
end Go.Proofs.YticnemjjjceiaaaGreatDoor

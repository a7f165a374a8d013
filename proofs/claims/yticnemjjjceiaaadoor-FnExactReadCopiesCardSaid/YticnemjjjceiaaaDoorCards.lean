/-
  DERIVED. GIVEN WITH THE SEED: THE CARDS: each row of YticnemjjjceiaaaDoorRows.lean that lists a variable, with what it lists TIED to the program's text (the seventh form; the later family's looks); each row that meets fmt, with fmt's text TOLD by the authors' own Lean function (tested against real Go, not proved from fmt's source: count such statements apart). THE CARD IS WHAT COUNTS. Prove the row's statement (the work); the ties are given (YticnemjjjceiaaaDoorTie.lean); close each card by the builder's one call (the guide's Derived/Test/ToyasCard.lean, 'card_holds'). Laid BY PROGRAM, IN A SANDBOX (cutbox-door.mjs). By AI agents, Wed Nov 11 2026. No macro, syntax, notation, axiom, sorry.
-/
import Derived.Test.YticnemjjjceiaaaDoorRows
import GoSem.ClaimSeven
namespace Go.Proofs.YticnemjjjceiaaaDoor
namespace Rows

/-- THE TIED CARD OF 'laws.FnExactReadCopies'. -/
def fnExactReadCopiesCard : Claim7 := { stood := { row := fnExactReadCopiesRow, standIns := [], harness := (true, "f018fda8ef2f3c5b566b7cdd236b3f5c65666d5e2119cc7ec13073f3b0e7de8f"), looks := true }, kinds := [], alts := [], laidByText := true, laidKinds := [.data, .data, .data, .data, .sentinel, .sentinel, .pinned], laidTests := true, laidLooks := .later }
def FnExactReadCopiesCardSaid : Prop := Claim7.holds Tryd.pinned (.plain (OpenSpec.ofChange fnExactReadCopiesSpec)) fnExactReadCopiesCard

/-- THE SECOND FORM's CARD OF 'laws.FnExactReadCopies'. -/
def fnExactReadCopiesUptoCard : Claim7 := { stood := { row := fnExactReadCopiesUptoRow, standIns := [], harness := (true, "f018fda8ef2f3c5b566b7cdd236b3f5c65666d5e2119cc7ec13073f3b0e7de8f"), looks := true }, kinds := [], alts := [], laidByText := true, laidKinds := [.data, .data, .data, .data, .sentinel, .sentinel, .pinned], laidTests := true, laidLooks := .later }
def FnExactReadCopiesUptoCardSaid : Prop := Claim7.holds Tryd.pinned (.plain (OpenSpec.upto fnExactReadCopiesSpec)) fnExactReadCopiesUptoCard
end Rows
end Go.Proofs.YticnemjjjceiaaaDoor

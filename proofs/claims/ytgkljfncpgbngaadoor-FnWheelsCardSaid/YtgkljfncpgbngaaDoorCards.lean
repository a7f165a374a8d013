/-
  DERIVED. GIVEN WITH THE SEED: THE CARDS: each row of YtgkljfncpgbngaaDoorRows.lean that lists a variable, with what it lists TIED to the program's text (the seventh form; the later family's looks); each row that meets fmt, with fmt's text TOLD by the authors' own Lean function (tested against real Go, not proved from fmt's source: count such statements apart). THE CARD IS WHAT COUNTS. Prove the row's statement (the work); the ties are given (YtgkljfncpgbngaaDoorTie.lean); close each card by the builder's one call (the guide's Derived/Test/ToyasCard.lean, 'card_holds'). Laid BY PROGRAM, IN A SANDBOX (cutbox-door.mjs). By AI agents, Wed Nov 11 2026. No macro, syntax, notation, axiom, sorry.
-/
import Derived.Test.YtgkljfncpgbngaaDoorRows
import GoSem.ClaimSeven
namespace Go.Proofs.YtgkljfncpgbngaaDoor
namespace Rows

/-- THE TIED CARD OF 'laws.FnProductsBy'. -/
def fnProductsByCard : Claim7 := { stood := { row := fnProductsByRow, standIns := [], harness := (true, "b9738611c2db35bf8559d4c864bb506e831c9e24b84f627b304038be9b45e0d8"), looks := false }, kinds := [], alts := [], laidByText := true, laidKinds := [.data, .data, .data], laidTests := true, laidLooks := .later }
def FnProductsByCardSaid : Prop := Claim7.holds Tryd.pinned (.plain (OpenSpec.ofChange fnProductsBySpec)) fnProductsByCard

/-- THE TIED CARD OF 'laws.FnWheels'. -/
def fnWheelsCard : Claim7 := { stood := { row := fnWheelsRow, standIns := [], harness := (true, "b9738611c2db35bf8559d4c864bb506e831c9e24b84f627b304038be9b45e0d8"), looks := false }, kinds := [], alts := [], laidByText := true, laidKinds := [.data, .data, .data], laidTests := true, laidLooks := .later }
def FnWheelsCardSaid : Prop := Claim7.holds Tryd.pinned (.plain (OpenSpec.ofChange fnWheelsSpec)) fnWheelsCard

/-- THE SECOND FORM's CARD OF 'laws.FnProductsBy'. -/
def fnProductsByUptoCard : Claim7 := { stood := { row := fnProductsByUptoRow, standIns := [], harness := (true, "b9738611c2db35bf8559d4c864bb506e831c9e24b84f627b304038be9b45e0d8"), looks := false }, kinds := [], alts := [], laidByText := true, laidKinds := [.data, .data, .data], laidTests := true, laidLooks := .later }
def FnProductsByUptoCardSaid : Prop := Claim7.holds Tryd.pinned (.plain (OpenSpec.upto fnProductsBySpec)) fnProductsByUptoCard

/-- THE SECOND FORM's CARD OF 'laws.FnWheels'. -/
def fnWheelsUptoCard : Claim7 := { stood := { row := fnWheelsUptoRow, standIns := [], harness := (true, "b9738611c2db35bf8559d4c864bb506e831c9e24b84f627b304038be9b45e0d8"), looks := false }, kinds := [], alts := [], laidByText := true, laidKinds := [.data, .data, .data], laidTests := true, laidLooks := .later }
def FnWheelsUptoCardSaid : Prop := Claim7.holds Tryd.pinned (.plain (OpenSpec.upto fnWheelsSpec)) fnWheelsUptoCard
end Rows
end Go.Proofs.YtgkljfncpgbngaaDoor

/-
  DERIVED. GIVEN WITH THE SEED: THE CARDS: each row of YtkkgkoibabbjoaaDoorRows.lean that lists a variable, with what it lists TIED to the program's text (the seventh form; the later family's looks); each row that meets fmt, with fmt's text TOLD by the authors' own Lean function (tested against real Go, not proved from fmt's source: count such statements apart). THE CARD IS WHAT COUNTS. Prove the row's statement (the work); the ties are given (YtkkgkoibabbjoaaDoorTie.lean); close each card by the builder's one call (the guide's Derived/Test/ToyasCard.lean, 'card_holds'). Laid BY PROGRAM, IN A SANDBOX (cutbox-door.mjs). By AI agents, Wed Nov 11 2026. No macro, syntax, notation, axiom, sorry.
-/
import Derived.Test.YtkkgkoibabbjoaaDoorRows
import GoSem.ClaimSeven
namespace Go.Proofs.YtkkgkoibabbjoaaDoor
namespace Rows

/-- THE TIED CARD OF 'laws.FnExactSerialPunch'. -/
def fnExactSerialPunchCard : Claim7 := { stood := { row := fnExactSerialPunchRow, standIns := [], harness := (true, "5f3ceb3c5927a0a1cd3fe42d481a9671364ca49e15601b9cd3b45008923b0631"), looks := true }, kinds := [], alts := [], laidByText := true, laidKinds := [.data, .data, .data], laidTests := true, laidLooks := .later }
def FnExactSerialPunchCardSaid : Prop := Claim7.holds Tryd.pinned (.plain (OpenSpec.ofChange fnExactSerialPunchSpec)) fnExactSerialPunchCard

/-- THE TIED CARD OF 'laws.FnExactCopiesText'. -/
def fnExactCopiesTextCard : Claim7 := { stood := { row := fnExactCopiesTextRow, standIns := [], harness := (true, "5f3ceb3c5927a0a1cd3fe42d481a9671364ca49e15601b9cd3b45008923b0631"), looks := true }, kinds := [], alts := [], laidByText := true, laidKinds := [.data, .data, .data], laidTests := true, laidLooks := .later }
def FnExactCopiesTextCardSaid : Prop := Claim7.holds Tryd.pinned (.plain (OpenSpec.ofChange fnExactCopiesTextSpec)) fnExactCopiesTextCard

/-- THE TIED CARD OF 'laws.FnExactReadCopies'. -/
def fnExactReadCopiesCard : Claim7 := { stood := { row := fnExactReadCopiesRow, standIns := [], harness := (true, "5f3ceb3c5927a0a1cd3fe42d481a9671364ca49e15601b9cd3b45008923b0631"), looks := true }, kinds := [], alts := [], laidByText := true, laidKinds := [.data, .data, .data, .data, .sentinel, .sentinel, .pinned], laidTests := true, laidLooks := .later }
def FnExactReadCopiesCardSaid : Prop := Claim7.holds Tryd.pinned (.plain (OpenSpec.ofChange fnExactReadCopiesSpec)) fnExactReadCopiesCard

/-- THE SECOND FORM's CARD OF 'laws.FnExactSerialPunch'. -/
def fnExactSerialPunchUptoCard : Claim7 := { stood := { row := fnExactSerialPunchUptoRow, standIns := [], harness := (true, "5f3ceb3c5927a0a1cd3fe42d481a9671364ca49e15601b9cd3b45008923b0631"), looks := true }, kinds := [], alts := [], laidByText := true, laidKinds := [.data, .data, .data], laidTests := true, laidLooks := .later }
def FnExactSerialPunchUptoCardSaid : Prop := Claim7.holds Tryd.pinned (.plain (OpenSpec.upto fnExactSerialPunchSpec)) fnExactSerialPunchUptoCard

/-- THE SECOND FORM's CARD OF 'laws.FnExactCopiesText'. -/
def fnExactCopiesTextUptoCard : Claim7 := { stood := { row := fnExactCopiesTextUptoRow, standIns := [], harness := (true, "5f3ceb3c5927a0a1cd3fe42d481a9671364ca49e15601b9cd3b45008923b0631"), looks := true }, kinds := [], alts := [], laidByText := true, laidKinds := [.data, .data, .data], laidTests := true, laidLooks := .later }
def FnExactCopiesTextUptoCardSaid : Prop := Claim7.holds Tryd.pinned (.plain (OpenSpec.upto fnExactCopiesTextSpec)) fnExactCopiesTextUptoCard

/-- THE SECOND FORM's CARD OF 'laws.FnExactReadCopies'. -/
def fnExactReadCopiesUptoCard : Claim7 := { stood := { row := fnExactReadCopiesUptoRow, standIns := [], harness := (true, "5f3ceb3c5927a0a1cd3fe42d481a9671364ca49e15601b9cd3b45008923b0631"), looks := true }, kinds := [], alts := [], laidByText := true, laidKinds := [.data, .data, .data, .data, .sentinel, .sentinel, .pinned], laidTests := true, laidLooks := .later }
def FnExactReadCopiesUptoCardSaid : Prop := Claim7.holds Tryd.pinned (.plain (OpenSpec.upto fnExactReadCopiesSpec)) fnExactReadCopiesUptoCard
end Rows
end Go.Proofs.YtkkgkoibabbjoaaDoor

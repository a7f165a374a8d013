/-
  DERIVED. GIVEN WITH THE SEED: THE CARDS: each row of YtdkedajdgllilaaDoorRows.lean that lists a variable, with what it lists TIED to the program's text (the seventh form; the later family's looks); each row that meets fmt, with fmt's text TOLD by the authors' own Lean function (tested against real Go, not proved from fmt's source: count such statements apart). THE CARD IS WHAT COUNTS. Prove the row's statement (the work); the ties are given (YtdkedajdgllilaaDoorTie.lean); close each card by the builder's one call (the guide's Derived/Test/ToyasCard.lean, 'card_holds'). Laid BY PROGRAM, IN A SANDBOX (cutbox-door.mjs). By AI agents, Wed Nov 11 2026. No macro, syntax, notation, axiom, sorry.
-/
import Derived.Test.YtdkedajdgllilaaDoorRows
import GoSem.ClaimSeven
namespace Go.Proofs.YtdkedajdgllilaaDoor
namespace Rows

/-- THE TIED CARD OF 'laws.FnExactSerialPunch'. -/
def fnExactSerialPunchCard : Claim7 := { stood := { row := fnExactSerialPunchRow, standIns := [], harness := (true, "f7e8207a30295c10352c8c078a815247dfa5b9dda4b61be6dbff3690f8af0094"), looks := true }, kinds := [], alts := [], laidByText := true, laidKinds := [.data, .data, .data], laidTests := true, laidLooks := .later }
def FnExactSerialPunchCardSaid : Prop := Claim7.holds Tryd.pinned (.plain (OpenSpec.ofChange fnExactSerialPunchSpec)) fnExactSerialPunchCard

/-- THE TIED CARD OF 'laws.FnExactReadCopies'. -/
def fnExactReadCopiesCard : Claim7 := { stood := { row := fnExactReadCopiesRow, standIns := [], harness := (true, "f7e8207a30295c10352c8c078a815247dfa5b9dda4b61be6dbff3690f8af0094"), looks := true }, kinds := [], alts := [], laidByText := true, laidKinds := [.data, .data, .data, .data, .sentinel, .sentinel, .pinned], laidTests := true, laidLooks := .later }
def FnExactReadCopiesCardSaid : Prop := Claim7.holds Tryd.pinned (.plain (OpenSpec.ofChange fnExactReadCopiesSpec)) fnExactReadCopiesCard

/-- THE TIED CARD OF 'laws.FnProductsBy'. -/
def fnProductsByCard : Claim7 := { stood := { row := fnProductsByRow, standIns := [], harness := (true, "f7e8207a30295c10352c8c078a815247dfa5b9dda4b61be6dbff3690f8af0094"), looks := true }, kinds := [], alts := [], laidByText := true, laidKinds := [.data, .data, .data], laidTests := true, laidLooks := .later }
def FnProductsByCardSaid : Prop := Claim7.holds Tryd.pinned (.plain (OpenSpec.ofChange fnProductsBySpec)) fnProductsByCard

/-- THE TIED CARD OF 'laws.FnWheels'. -/
def fnWheelsCard : Claim7 := { stood := { row := fnWheelsRow, standIns := [], harness := (true, "f7e8207a30295c10352c8c078a815247dfa5b9dda4b61be6dbff3690f8af0094"), looks := true }, kinds := [], alts := [], laidByText := true, laidKinds := [.data, .data, .data], laidTests := true, laidLooks := .later }
def FnWheelsCardSaid : Prop := Claim7.holds Tryd.pinned (.plain (OpenSpec.ofChange fnWheelsSpec)) fnWheelsCard

/-- THE SECOND FORM's CARD OF 'laws.FnExactSerialPunch'. -/
def fnExactSerialPunchUptoCard : Claim7 := { stood := { row := fnExactSerialPunchUptoRow, standIns := [], harness := (true, "f7e8207a30295c10352c8c078a815247dfa5b9dda4b61be6dbff3690f8af0094"), looks := true }, kinds := [], alts := [], laidByText := true, laidKinds := [.data, .data, .data], laidTests := true, laidLooks := .later }
def FnExactSerialPunchUptoCardSaid : Prop := Claim7.holds Tryd.pinned (.plain (OpenSpec.upto fnExactSerialPunchSpec)) fnExactSerialPunchUptoCard

/-- THE SECOND FORM's CARD OF 'laws.FnExactReadCopies'. -/
def fnExactReadCopiesUptoCard : Claim7 := { stood := { row := fnExactReadCopiesUptoRow, standIns := [], harness := (true, "f7e8207a30295c10352c8c078a815247dfa5b9dda4b61be6dbff3690f8af0094"), looks := true }, kinds := [], alts := [], laidByText := true, laidKinds := [.data, .data, .data, .data, .sentinel, .sentinel, .pinned], laidTests := true, laidLooks := .later }
def FnExactReadCopiesUptoCardSaid : Prop := Claim7.holds Tryd.pinned (.plain (OpenSpec.upto fnExactReadCopiesSpec)) fnExactReadCopiesUptoCard

/-- THE SECOND FORM's CARD OF 'laws.FnProductsBy'. -/
def fnProductsByUptoCard : Claim7 := { stood := { row := fnProductsByUptoRow, standIns := [], harness := (true, "f7e8207a30295c10352c8c078a815247dfa5b9dda4b61be6dbff3690f8af0094"), looks := true }, kinds := [], alts := [], laidByText := true, laidKinds := [.data, .data, .data], laidTests := true, laidLooks := .later }
def FnProductsByUptoCardSaid : Prop := Claim7.holds Tryd.pinned (.plain (OpenSpec.upto fnProductsBySpec)) fnProductsByUptoCard

/-- THE SECOND FORM's CARD OF 'laws.FnWheels'. -/
def fnWheelsUptoCard : Claim7 := { stood := { row := fnWheelsUptoRow, standIns := [], harness := (true, "f7e8207a30295c10352c8c078a815247dfa5b9dda4b61be6dbff3690f8af0094"), looks := true }, kinds := [], alts := [], laidByText := true, laidKinds := [.data, .data, .data], laidTests := true, laidLooks := .later }
def FnWheelsUptoCardSaid : Prop := Claim7.holds Tryd.pinned (.plain (OpenSpec.upto fnWheelsSpec)) fnWheelsUptoCard
end Rows
end Go.Proofs.YtdkedajdgllilaaDoor

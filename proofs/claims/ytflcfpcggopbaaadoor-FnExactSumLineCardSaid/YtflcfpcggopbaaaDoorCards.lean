/-
  DERIVED. GIVEN WITH THE SEED: THE CARDS: each row of YtflcfpcggopbaaaDoorRows.lean that lists a variable, with what it lists TIED to the program's text (the seventh form; the later family's looks); each row that meets fmt, with fmt's text TOLD by the authors' own Lean function (tested against real Go, not proved from fmt's source: count such statements apart). THE CARD IS WHAT COUNTS. Prove the row's statement (the work); the ties are given (YtflcfpcggopbaaaDoorTie.lean); close each card by the builder's one call (the guide's Derived/Test/ToyasCard.lean, 'card_holds'). Laid BY PROGRAM, IN A SANDBOX (cutbox-door.mjs). By AI agents, Wed Nov 11 2026. No macro, syntax, notation, axiom, sorry.
-/
import Derived.Test.YtflcfpcggopbaaaDoorRows
import GoSem.ClaimSeven
namespace Go.Proofs.YtflcfpcggopbaaaDoor
namespace Rows

/-- THE TIED CARD OF 'laws.FnExactTurnsFor'. -/
def fnExactTurnsForCard : Claim7 := { stood := { row := fnExactTurnsForRow, standIns := [], harness := (true, "b3140d14d117d6bf3f08025bfea19fbb494cacba88aba0d6d9f01fa7735d6598"), looks := false }, kinds := [], alts := [], laidByText := true, laidKinds := [.data, .data, .data], laidTests := true, laidLooks := .later }
def FnExactTurnsForCardSaid : Prop := Claim7.holds Tryd.pinned (.plain (OpenSpec.ofChange fnExactTurnsForSpec)) fnExactTurnsForCard

/-- THE TIED CARD OF 'laws.FnExactProductBy'. -/
def fnExactProductByCard : Claim7 := { stood := { row := fnExactProductByRow, standIns := [], harness := (true, "b3140d14d117d6bf3f08025bfea19fbb494cacba88aba0d6d9f01fa7735d6598"), looks := false }, kinds := [], alts := [], laidByText := true, laidKinds := [.data, .data, .data], laidTests := true, laidLooks := .later }
def FnExactProductByCardSaid : Prop := Claim7.holds Tryd.pinned (.plain (OpenSpec.ofChange fnExactProductBySpec)) fnExactProductByCard

/-- THE TIED CARD OF 'laws.FnExactQuotientBy'. -/
def fnExactQuotientByCard : Claim7 := { stood := { row := fnExactQuotientByRow, standIns := [], harness := (true, "b3140d14d117d6bf3f08025bfea19fbb494cacba88aba0d6d9f01fa7735d6598"), looks := false }, kinds := [], alts := [], laidByText := true, laidKinds := [.data, .data, .data], laidTests := true, laidLooks := .later }
def FnExactQuotientByCardSaid : Prop := Claim7.holds Tryd.pinned (.plain (OpenSpec.ofChange fnExactQuotientBySpec)) fnExactQuotientByCard

/-- THE TIED CARD OF 'laws.FnExactSumLine'. -/
def fnExactSumLineCard : Claim7 := { stood := { row := fnExactSumLineRow, standIns := [], harness := (true, "b3140d14d117d6bf3f08025bfea19fbb494cacba88aba0d6d9f01fa7735d6598"), looks := false }, kinds := [], alts := [], laidByText := true, laidKinds := [.data, .data, .data], laidTests := true, laidLooks := .later }
def FnExactSumLineCardSaid : Prop := Claim7.holds Tryd.pinned (.plain (OpenSpec.ofChange fnExactSumLineSpec)) fnExactSumLineCard

/-- THE TIED CARD OF 'laws.FnExactCalculate'. -/
def fnExactCalculateCard : Claim7 := { stood := { row := fnExactCalculateRow, standIns := [], harness := (true, "b3140d14d117d6bf3f08025bfea19fbb494cacba88aba0d6d9f01fa7735d6598"), looks := false }, kinds := [], alts := [], laidByText := true, laidKinds := [.data, .data, .data], laidTests := true, laidLooks := .later }
def FnExactCalculateCardSaid : Prop := Claim7.holds Tryd.pinned (.plain (OpenSpec.ofChange fnExactCalculateSpec)) fnExactCalculateCard

/-- THE TIED CARD OF 'laws.FnProductsBy'. -/
def fnProductsByCard : Claim7 := { stood := { row := fnProductsByRow, standIns := [], harness := (true, "b3140d14d117d6bf3f08025bfea19fbb494cacba88aba0d6d9f01fa7735d6598"), looks := false }, kinds := [], alts := [], laidByText := true, laidKinds := [.data, .data, .data], laidTests := true, laidLooks := .later }
def FnProductsByCardSaid : Prop := Claim7.holds Tryd.pinned (.plain (OpenSpec.ofChange fnProductsBySpec)) fnProductsByCard

/-- THE TIED CARD OF 'laws.FnWheels'. -/
def fnWheelsCard : Claim7 := { stood := { row := fnWheelsRow, standIns := [], harness := (true, "b3140d14d117d6bf3f08025bfea19fbb494cacba88aba0d6d9f01fa7735d6598"), looks := false }, kinds := [], alts := [], laidByText := true, laidKinds := [.data, .data, .data], laidTests := true, laidLooks := .later }
def FnWheelsCardSaid : Prop := Claim7.holds Tryd.pinned (.plain (OpenSpec.ofChange fnWheelsSpec)) fnWheelsCard

/-- THE SECOND FORM's CARD OF 'laws.FnExactTurnsFor'. -/
def fnExactTurnsForUptoCard : Claim7 := { stood := { row := fnExactTurnsForUptoRow, standIns := [], harness := (true, "b3140d14d117d6bf3f08025bfea19fbb494cacba88aba0d6d9f01fa7735d6598"), looks := false }, kinds := [], alts := [], laidByText := true, laidKinds := [.data, .data, .data], laidTests := true, laidLooks := .later }
def FnExactTurnsForUptoCardSaid : Prop := Claim7.holds Tryd.pinned (.plain (OpenSpec.upto fnExactTurnsForSpec)) fnExactTurnsForUptoCard

/-- THE SECOND FORM's CARD OF 'laws.FnExactProductBy'. -/
def fnExactProductByUptoCard : Claim7 := { stood := { row := fnExactProductByUptoRow, standIns := [], harness := (true, "b3140d14d117d6bf3f08025bfea19fbb494cacba88aba0d6d9f01fa7735d6598"), looks := false }, kinds := [], alts := [], laidByText := true, laidKinds := [.data, .data, .data], laidTests := true, laidLooks := .later }
def FnExactProductByUptoCardSaid : Prop := Claim7.holds Tryd.pinned (.plain (OpenSpec.upto fnExactProductBySpec)) fnExactProductByUptoCard

/-- THE SECOND FORM's CARD OF 'laws.FnExactQuotientBy'. -/
def fnExactQuotientByUptoCard : Claim7 := { stood := { row := fnExactQuotientByUptoRow, standIns := [], harness := (true, "b3140d14d117d6bf3f08025bfea19fbb494cacba88aba0d6d9f01fa7735d6598"), looks := false }, kinds := [], alts := [], laidByText := true, laidKinds := [.data, .data, .data], laidTests := true, laidLooks := .later }
def FnExactQuotientByUptoCardSaid : Prop := Claim7.holds Tryd.pinned (.plain (OpenSpec.upto fnExactQuotientBySpec)) fnExactQuotientByUptoCard

/-- THE SECOND FORM's CARD OF 'laws.FnExactSumLine'. -/
def fnExactSumLineUptoCard : Claim7 := { stood := { row := fnExactSumLineUptoRow, standIns := [], harness := (true, "b3140d14d117d6bf3f08025bfea19fbb494cacba88aba0d6d9f01fa7735d6598"), looks := false }, kinds := [], alts := [], laidByText := true, laidKinds := [.data, .data, .data], laidTests := true, laidLooks := .later }
def FnExactSumLineUptoCardSaid : Prop := Claim7.holds Tryd.pinned (.plain (OpenSpec.upto fnExactSumLineSpec)) fnExactSumLineUptoCard

/-- THE SECOND FORM's CARD OF 'laws.FnExactCalculate'. -/
def fnExactCalculateUptoCard : Claim7 := { stood := { row := fnExactCalculateUptoRow, standIns := [], harness := (true, "b3140d14d117d6bf3f08025bfea19fbb494cacba88aba0d6d9f01fa7735d6598"), looks := false }, kinds := [], alts := [], laidByText := true, laidKinds := [.data, .data, .data], laidTests := true, laidLooks := .later }
def FnExactCalculateUptoCardSaid : Prop := Claim7.holds Tryd.pinned (.plain (OpenSpec.upto fnExactCalculateSpec)) fnExactCalculateUptoCard

/-- THE SECOND FORM's CARD OF 'laws.FnProductsBy'. -/
def fnProductsByUptoCard : Claim7 := { stood := { row := fnProductsByUptoRow, standIns := [], harness := (true, "b3140d14d117d6bf3f08025bfea19fbb494cacba88aba0d6d9f01fa7735d6598"), looks := false }, kinds := [], alts := [], laidByText := true, laidKinds := [.data, .data, .data], laidTests := true, laidLooks := .later }
def FnProductsByUptoCardSaid : Prop := Claim7.holds Tryd.pinned (.plain (OpenSpec.upto fnProductsBySpec)) fnProductsByUptoCard

/-- THE SECOND FORM's CARD OF 'laws.FnWheels'. -/
def fnWheelsUptoCard : Claim7 := { stood := { row := fnWheelsUptoRow, standIns := [], harness := (true, "b3140d14d117d6bf3f08025bfea19fbb494cacba88aba0d6d9f01fa7735d6598"), looks := false }, kinds := [], alts := [], laidByText := true, laidKinds := [.data, .data, .data], laidTests := true, laidLooks := .later }
def FnWheelsUptoCardSaid : Prop := Claim7.holds Tryd.pinned (.plain (OpenSpec.upto fnWheelsSpec)) fnWheelsUptoCard
end Rows
end Go.Proofs.YtflcfpcggopbaaaDoor

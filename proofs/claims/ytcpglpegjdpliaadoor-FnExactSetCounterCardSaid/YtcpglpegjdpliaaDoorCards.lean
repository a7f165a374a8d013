/-
  DERIVED. GIVEN WITH THE SEED: THE CARDS: each row of YtcpglpegjdpliaaDoorRows.lean that lists a variable, with what it lists TIED to the program's text (the seventh form; the later family's looks); each row that meets fmt, with fmt's text TOLD by the authors' own Lean function (tested against real Go, not proved from fmt's source: count such statements apart). THE CARD IS WHAT COUNTS. Prove the row's statement (the work); the ties are given (YtcpglpegjdpliaaDoorTie.lean); close each card by the builder's one call (the guide's Derived/Test/ToyasCard.lean, 'card_holds'). Laid BY PROGRAM, IN A SANDBOX (cutbox-door.mjs). By AI agents, Wed Nov 11 2026. No macro, syntax, notation, axiom, sorry.
-/
import Derived.Test.YtcpglpegjdpliaaDoorRows
import GoSem.ClaimSeven
namespace Go.Proofs.YtcpglpegjdpliaaDoor
namespace Rows

/-- THE TIED CARD OF 'laws.FnExactSetCounter'. -/
def fnExactSetCounterCard : Claim7 := { stood := { row := fnExactSetCounterRow, standIns := [], harness := (true, "a6de6cc0e6f90fa6a45c385dba325ed8d735926f1f0e1dfb586238b9cd8bc9b8"), looks := false }, kinds := [], alts := [], laidByText := true, laidKinds := [.data, .data, .data], laidTests := true, laidLooks := .later }
def FnExactSetCounterCardSaid : Prop := Claim7.holds Tryd.pinned (.plain (OpenSpec.ofChange fnExactSetCounterSpec)) fnExactSetCounterCard

/-- THE SECOND FORM's CARD OF 'laws.FnExactSetCounter'. -/
def fnExactSetCounterUptoCard : Claim7 := { stood := { row := fnExactSetCounterUptoRow, standIns := [], harness := (true, "a6de6cc0e6f90fa6a45c385dba325ed8d735926f1f0e1dfb586238b9cd8bc9b8"), looks := false }, kinds := [], alts := [], laidByText := true, laidKinds := [.data, .data, .data], laidTests := true, laidLooks := .later }
def FnExactSetCounterUptoCardSaid : Prop := Claim7.holds Tryd.pinned (.plain (OpenSpec.upto fnExactSetCounterSpec)) fnExactSetCounterUptoCard
end Rows
end Go.Proofs.YtcpglpegjdpliaaDoor

/-
  No cell of these rows narrows 'for every input' (looked for: loops, veiled, ifaces, maps, wideKeys, modest, calm, conditions, laid).
  DERIVED. THE GIVEN ROWS OF THIS SEAT. 5 by the template 'for every input the law returns true; each argument reads behind the call as it read before'; 0 by the template 'total and deterministic' (their statements: YtflcfpcggopbaaaTotals.lean).
  GIVEN WITH THE SEED: the statements are not yours to turn. If you find one false, say at which input.
  Laid BY PROGRAM, IN A SANDBOX (cutbox-rows.mjs): the forced cells as the released guide's own fill.sh prints them over the translation 7d20806cf9768b43… (all of the seat's roots in one cut). By AI agents, Wed Nov 11 2026. No macro, syntax, notation, axiom, sorry.
-/
import Derived.Test.YtflcfpcggopbaaaChecked
import GoSem.Claim
import GoSem.ClaimJoined
import GoSem.ClaimMapViews
import Derived.JoinedTies
import Derived.KernelRfl
namespace Go.Proofs.Ytflcfpcggopbaaa
/- THE CELL 'sum', in the pinned program and in every row, IS THE sha256 OF THE DUMP (.gsa) THAT YtflcfpcggopbaaaProg.lean LOADS. Nothing in Lean hashes anything: it is a label: what it is worth is what the hold of that sum in a sandbox is worth. -/
noncomputable def Try.pinned : Pinned := { name := "ytflcfpcggopbaaa", sum := "7d20806cf9768b439a01e4f02954f81ef670a7a16d388ba9c8663b01ea1ff51d", checked := Try.checked }
namespace Rows
def none {H : Type} : Left H := { results := [], args := [] }

/-- 'laws.FnExactValidSetup': WHATEVER THE INPUT: true; the input reads as it did. -/
def fnExactValidSetupSpec : ChangeSpec := { name := "fnExactValidSetup", fn := fun _ => fun
  | [d1, d2] => { results := [.lit (.bool true)], args := [d1, d2] }
  | _ => none }
def fnExactValidSetupRow : OpenClaim := { program := "ytflcfpcggopbaaa", sum := "7d20806cf9768b439a01e4f02954f81ef670a7a16d388ba9c8663b01ea1ff51d", func := "loop.example/g01012/laws.FnExactValidSetup", spec := "fnExactValidSetup", unfollowed := true, recurses := true, apart := false }
def FnExactValidSetupSaid : Prop := fnExactValidSetupRow.holds Try.pinned (OpenSpec.ofChange fnExactValidSetupSpec)

/-- ITS FALSE NEIGHBOUR: 'it returns false'. Refute it at one input. -/
def fnExactValidSetupWrong : ChangeSpec := { name := "fnExactValidSetup", fn := fun _ => fun
  | [d1, d2] => { results := [.lit (.bool false)], args := [d1, d2] }
  | _ => none }
def FnExactValidSetupWrongFalsely : Prop := fnExactValidSetupRow.holds Try.pinned (OpenSpec.ofChange fnExactValidSetupWrong)

/-- 'laws.FnExactCrossFoot': WHATEVER THE INPUT: true; the input reads as it did. -/
def fnExactCrossFootSpec : ChangeSpec := { name := "fnExactCrossFoot", fn := fun _ => fun
  | [d1, d2, d3] => { results := [.lit (.bool true)], args := [d1, d2, d3] }
  | _ => none }
def fnExactCrossFootRow : OpenClaim := { program := "ytflcfpcggopbaaa", sum := "7d20806cf9768b439a01e4f02954f81ef670a7a16d388ba9c8663b01ea1ff51d", func := "loop.example/g01012/laws.FnExactCrossFoot", spec := "fnExactCrossFoot", unfollowed := true, recurses := true, apart := false }
def FnExactCrossFootSaid : Prop := fnExactCrossFootRow.holds Try.pinned (OpenSpec.ofChange fnExactCrossFootSpec)

/-- ITS FALSE NEIGHBOUR: 'it returns false'. Refute it at one input. -/
def fnExactCrossFootWrong : ChangeSpec := { name := "fnExactCrossFoot", fn := fun _ => fun
  | [d1, d2, d3] => { results := [.lit (.bool false)], args := [d1, d2, d3] }
  | _ => none }
def FnExactCrossFootWrongFalsely : Prop := fnExactCrossFootRow.holds Try.pinned (OpenSpec.ofChange fnExactCrossFootWrong)

/-- 'laws.FnExactCyclesFor': WHATEVER THE INPUT: true; the input reads as it did. -/
def fnExactCyclesForSpec : ChangeSpec := { name := "fnExactCyclesFor", fn := fun _ => fun
  | [d1, d2] => { results := [.lit (.bool true)], args := [d1, d2] }
  | _ => none }
def fnExactCyclesForRow : OpenClaim := { program := "ytflcfpcggopbaaa", sum := "7d20806cf9768b439a01e4f02954f81ef670a7a16d388ba9c8663b01ea1ff51d", func := "loop.example/g01012/laws.FnExactCyclesFor", spec := "fnExactCyclesFor", unfollowed := true, recurses := true, apart := false }
def FnExactCyclesForSaid : Prop := fnExactCyclesForRow.holds Try.pinned (OpenSpec.ofChange fnExactCyclesForSpec)

/-- ITS FALSE NEIGHBOUR: 'it returns false'. Refute it at one input. -/
def fnExactCyclesForWrong : ChangeSpec := { name := "fnExactCyclesFor", fn := fun _ => fun
  | [d1, d2] => { results := [.lit (.bool false)], args := [d1, d2] }
  | _ => none }
def FnExactCyclesForWrongFalsely : Prop := fnExactCyclesForRow.holds Try.pinned (OpenSpec.ofChange fnExactCyclesForWrong)

/-- 'laws.FnExactBreaksIn': WHATEVER THE INPUT: true; the input reads as it did. -/
def fnExactBreaksInSpec : ChangeSpec := { name := "fnExactBreaksIn", fn := fun _ => fun
  | [d1, d2] => { results := [.lit (.bool true)], args := [d1, d2] }
  | _ => none }
def fnExactBreaksInRow : OpenClaim := { program := "ytflcfpcggopbaaa", sum := "7d20806cf9768b439a01e4f02954f81ef670a7a16d388ba9c8663b01ea1ff51d", func := "loop.example/g01012/laws.FnExactBreaksIn", spec := "fnExactBreaksIn", unfollowed := true, recurses := true, apart := false }
def FnExactBreaksInSaid : Prop := fnExactBreaksInRow.holds Try.pinned (OpenSpec.ofChange fnExactBreaksInSpec)

/-- ITS FALSE NEIGHBOUR: 'it returns false'. Refute it at one input. -/
def fnExactBreaksInWrong : ChangeSpec := { name := "fnExactBreaksIn", fn := fun _ => fun
  | [d1, d2] => { results := [.lit (.bool false)], args := [d1, d2] }
  | _ => none }
def FnExactBreaksInWrongFalsely : Prop := fnExactBreaksInRow.holds Try.pinned (OpenSpec.ofChange fnExactBreaksInWrong)

/-- 'laws.FnExactGrandSums': WHATEVER THE INPUT: true; the input reads as it did. -/
def fnExactGrandSumsSpec : ChangeSpec := { name := "fnExactGrandSums", fn := fun _ => fun
  | [d1, d2] => { results := [.lit (.bool true)], args := [d1, d2] }
  | _ => none }
def fnExactGrandSumsRow : OpenClaim := { program := "ytflcfpcggopbaaa", sum := "7d20806cf9768b439a01e4f02954f81ef670a7a16d388ba9c8663b01ea1ff51d", func := "loop.example/g01012/laws.FnExactGrandSums", spec := "fnExactGrandSums", unfollowed := true, recurses := true, apart := false }
def FnExactGrandSumsSaid : Prop := fnExactGrandSumsRow.holds Try.pinned (OpenSpec.ofChange fnExactGrandSumsSpec)

/-- ITS FALSE NEIGHBOUR: 'it returns false'. Refute it at one input. -/
def fnExactGrandSumsWrong : ChangeSpec := { name := "fnExactGrandSums", fn := fun _ => fun
  | [d1, d2] => { results := [.lit (.bool false)], args := [d1, d2] }
  | _ => none }
def FnExactGrandSumsWrongFalsely : Prop := fnExactGrandSumsRow.holds Try.pinned (OpenSpec.ofChange fnExactGrandSumsWrong)

/- THE SECOND FORM. 'bulk': how many values and letters a reading holds, each counted each time it is reached (what is shared counts as often as it is met; a slice's spare places count too). A statement '..UptoSaid' is the law's where the arguments, and the package variables that the reading takes, are together of bulk at most 1048576: NARROWER than '..Said'. Prove '..Said' where nothing that the law and all that it calls make is longer than what came in: it says more and counts as full. Else prove '..UptoSaid'. A law counts once. -/
mutual
def uptoBulk {H : Type} : DataW H → Nat
  | .lit (.string bytes) => bytes.length + 1
  | .lit _ => 1
  | .nil => 1
  | .ptr d => uptoBulk d + 1
  | .slice elems spare => uptoBulkAll elems + uptoBulkAll spare + 1
  | .agg parts => uptoBulkAll parts + 1
  | .iface _ d => uptoBulk d + 1
  | .map entries => uptoBulkEntries entries + 1
  | .held _ => 1
def uptoBulkAll {H : Type} : List (DataW H) → Nat
  | [] => 0
  | d :: r => uptoBulk d + uptoBulkAll r
def uptoBulkEntries {H : Type} : List (Lit × DataW H) → Nat
  | [] => 0
  | x :: r => uptoBulkEntry x + uptoBulkEntries r
def uptoBulkEntry {H : Type} : Lit × DataW H → Nat
  | (.string bytes, d) => bytes.length + uptoBulk d + 1
  | (_, d) => uptoBulk d + 1
 end
def uptoSmall : (H : Type) → List (DataW H) → Bool := fun _ ds => decide (uptoBulkAll ds ≤ 1048576)
def OpenSpec.upto (s : _root_.Go.ChangeSpec) : _root_.Go.OpenSpec := { _root_.Go.OpenSpec.ofChange s with cond := some uptoSmall }

/-- 'laws.FnExactValidSetup', WHERE WHAT IT READS IS OF BULK AT MOST 1048576: true; the input reads as it did. -/
def fnExactValidSetupUptoRow : OpenClaim := { program := "ytflcfpcggopbaaa", sum := "7d20806cf9768b439a01e4f02954f81ef670a7a16d388ba9c8663b01ea1ff51d", func := "loop.example/g01012/laws.FnExactValidSetup", spec := "fnExactValidSetup", unfollowed := true, recurses := true, apart := false, narrowed := true }
def FnExactValidSetupUptoSaid : Prop := fnExactValidSetupUptoRow.holds Try.pinned (OpenSpec.upto fnExactValidSetupSpec)

/-- 'laws.FnExactCrossFoot', WHERE WHAT IT READS IS OF BULK AT MOST 1048576: true; the input reads as it did. -/
def fnExactCrossFootUptoRow : OpenClaim := { program := "ytflcfpcggopbaaa", sum := "7d20806cf9768b439a01e4f02954f81ef670a7a16d388ba9c8663b01ea1ff51d", func := "loop.example/g01012/laws.FnExactCrossFoot", spec := "fnExactCrossFoot", unfollowed := true, recurses := true, apart := false, narrowed := true }
def FnExactCrossFootUptoSaid : Prop := fnExactCrossFootUptoRow.holds Try.pinned (OpenSpec.upto fnExactCrossFootSpec)

/-- 'laws.FnExactCyclesFor', WHERE WHAT IT READS IS OF BULK AT MOST 1048576: true; the input reads as it did. -/
def fnExactCyclesForUptoRow : OpenClaim := { program := "ytflcfpcggopbaaa", sum := "7d20806cf9768b439a01e4f02954f81ef670a7a16d388ba9c8663b01ea1ff51d", func := "loop.example/g01012/laws.FnExactCyclesFor", spec := "fnExactCyclesFor", unfollowed := true, recurses := true, apart := false, narrowed := true }
def FnExactCyclesForUptoSaid : Prop := fnExactCyclesForUptoRow.holds Try.pinned (OpenSpec.upto fnExactCyclesForSpec)

/-- 'laws.FnExactBreaksIn', WHERE WHAT IT READS IS OF BULK AT MOST 1048576: true; the input reads as it did. -/
def fnExactBreaksInUptoRow : OpenClaim := { program := "ytflcfpcggopbaaa", sum := "7d20806cf9768b439a01e4f02954f81ef670a7a16d388ba9c8663b01ea1ff51d", func := "loop.example/g01012/laws.FnExactBreaksIn", spec := "fnExactBreaksIn", unfollowed := true, recurses := true, apart := false, narrowed := true }
def FnExactBreaksInUptoSaid : Prop := fnExactBreaksInUptoRow.holds Try.pinned (OpenSpec.upto fnExactBreaksInSpec)

/-- 'laws.FnExactGrandSums', WHERE WHAT IT READS IS OF BULK AT MOST 1048576: true; the input reads as it did. -/
def fnExactGrandSumsUptoRow : OpenClaim := { program := "ytflcfpcggopbaaa", sum := "7d20806cf9768b439a01e4f02954f81ef670a7a16d388ba9c8663b01ea1ff51d", func := "loop.example/g01012/laws.FnExactGrandSums", spec := "fnExactGrandSums", unfollowed := true, recurses := true, apart := false, narrowed := true }
def FnExactGrandSumsUptoSaid : Prop := fnExactGrandSumsUptoRow.holds Try.pinned (OpenSpec.upto fnExactGrandSumsSpec)

end Rows
end Go.Proofs.Ytflcfpcggopbaaa

/-
  No cell of these rows narrows 'for every input' (looked for: loops, veiled, ifaces, maps, wideKeys, modest, calm, conditions, laid).
  DERIVED. THE GIVEN ROWS OF THIS SEAT. 7 by the template 'for every input the law returns true; each argument reads behind the call as it read before'; 0 by the template 'total and deterministic' (their statements: YtjnnfmlgjdlihaaTotals.lean).
  GIVEN WITH THE SEED: the statements are not yours to turn. If you find one false, say at which input.
  Laid BY PROGRAM, IN A SANDBOX (cutbox-rows.mjs): the forced cells as the released guide's own fill.sh prints them over the translation ac121186a4226c4e… (all of the seat's roots in one cut). By AI agents, Wed Nov 11 2026. No macro, syntax, notation, axiom, sorry.
-/
import Derived.Test.YtjnnfmlgjdlihaaChecked
import GoSem.Claim
import GoSem.ClaimJoined
import GoSem.ClaimMapViews
import Derived.JoinedTies
import Derived.KernelRfl
namespace Go.Proofs.Ytjnnfmlgjdlihaa
/- THE CELL 'sum', in the pinned program and in every row, IS THE sha256 OF THE DUMP (.gsa) THAT YtjnnfmlgjdlihaaProg.lean LOADS. Nothing in Lean hashes anything: it is a label: what it is worth is what the hold of that sum in a sandbox is worth. -/
noncomputable def Try.pinned : Pinned := { name := "ytjnnfmlgjdlihaa", sum := "ac121186a4226c4e135bcbcc11fcf34651a3e995fe5a5677e5c5a015b2db9050", checked := Try.checked }
namespace Rows
def none {H : Type} : Left H := { results := [], args := [] }

/-- 'laws.FnExactCrossFoot': WHATEVER THE INPUT: true; the input reads as it did. -/
def fnExactCrossFootSpec : ChangeSpec := { name := "fnExactCrossFoot", fn := fun _ => fun
  | [d1, d2, d3] => { results := [.lit (.bool true)], args := [d1, d2, d3] }
  | _ => none }
def fnExactCrossFootRow : OpenClaim := { program := "ytjnnfmlgjdlihaa", sum := "ac121186a4226c4e135bcbcc11fcf34651a3e995fe5a5677e5c5a015b2db9050", func := "loop.example/g01012/laws.FnExactCrossFoot", spec := "fnExactCrossFoot", unfollowed := true, recurses := true, apart := false }
def FnExactCrossFootSaid : Prop := fnExactCrossFootRow.holds Try.pinned (OpenSpec.ofChange fnExactCrossFootSpec)

/-- ITS FALSE NEIGHBOUR: 'it returns false'. Refute it at one input. -/
def fnExactCrossFootWrong : ChangeSpec := { name := "fnExactCrossFoot", fn := fun _ => fun
  | [d1, d2, d3] => { results := [.lit (.bool false)], args := [d1, d2, d3] }
  | _ => none }
def FnExactCrossFootWrongFalsely : Prop := fnExactCrossFootRow.holds Try.pinned (OpenSpec.ofChange fnExactCrossFootWrong)

/-- 'laws.FnExactCyclesFor': WHATEVER THE INPUT: true; the input reads as it did. -/
def fnExactCyclesForSpec : ChangeSpec := { name := "fnExactCyclesFor", fn := fun _ => fun
  | [d1, d2] => { results := [.lit (.bool true)], args := [d1, d2] }
  | _ => none }
def fnExactCyclesForRow : OpenClaim := { program := "ytjnnfmlgjdlihaa", sum := "ac121186a4226c4e135bcbcc11fcf34651a3e995fe5a5677e5c5a015b2db9050", func := "loop.example/g01012/laws.FnExactCyclesFor", spec := "fnExactCyclesFor", unfollowed := true, recurses := true, apart := false }
def FnExactCyclesForSaid : Prop := fnExactCyclesForRow.holds Try.pinned (OpenSpec.ofChange fnExactCyclesForSpec)

/-- ITS FALSE NEIGHBOUR: 'it returns false'. Refute it at one input. -/
def fnExactCyclesForWrong : ChangeSpec := { name := "fnExactCyclesFor", fn := fun _ => fun
  | [d1, d2] => { results := [.lit (.bool false)], args := [d1, d2] }
  | _ => none }
def FnExactCyclesForWrongFalsely : Prop := fnExactCyclesForRow.holds Try.pinned (OpenSpec.ofChange fnExactCyclesForWrong)

/-- 'laws.FnExactBreaksIn': WHATEVER THE INPUT: true; the input reads as it did. -/
def fnExactBreaksInSpec : ChangeSpec := { name := "fnExactBreaksIn", fn := fun _ => fun
  | [d1, d2] => { results := [.lit (.bool true)], args := [d1, d2] }
  | _ => none }
def fnExactBreaksInRow : OpenClaim := { program := "ytjnnfmlgjdlihaa", sum := "ac121186a4226c4e135bcbcc11fcf34651a3e995fe5a5677e5c5a015b2db9050", func := "loop.example/g01012/laws.FnExactBreaksIn", spec := "fnExactBreaksIn", unfollowed := true, recurses := true, apart := false }
def FnExactBreaksInSaid : Prop := fnExactBreaksInRow.holds Try.pinned (OpenSpec.ofChange fnExactBreaksInSpec)

/-- ITS FALSE NEIGHBOUR: 'it returns false'. Refute it at one input. -/
def fnExactBreaksInWrong : ChangeSpec := { name := "fnExactBreaksIn", fn := fun _ => fun
  | [d1, d2] => { results := [.lit (.bool false)], args := [d1, d2] }
  | _ => none }
def FnExactBreaksInWrongFalsely : Prop := fnExactBreaksInRow.holds Try.pinned (OpenSpec.ofChange fnExactBreaksInWrong)

/-- 'laws.FnExactGrandSums': WHATEVER THE INPUT: true; the input reads as it did. -/
def fnExactGrandSumsSpec : ChangeSpec := { name := "fnExactGrandSums", fn := fun _ => fun
  | [d1, d2] => { results := [.lit (.bool true)], args := [d1, d2] }
  | _ => none }
def fnExactGrandSumsRow : OpenClaim := { program := "ytjnnfmlgjdlihaa", sum := "ac121186a4226c4e135bcbcc11fcf34651a3e995fe5a5677e5c5a015b2db9050", func := "loop.example/g01012/laws.FnExactGrandSums", spec := "fnExactGrandSums", unfollowed := true, recurses := true, apart := false }
def FnExactGrandSumsSaid : Prop := fnExactGrandSumsRow.holds Try.pinned (OpenSpec.ofChange fnExactGrandSumsSpec)

/-- ITS FALSE NEIGHBOUR: 'it returns false'. Refute it at one input. -/
def fnExactGrandSumsWrong : ChangeSpec := { name := "fnExactGrandSums", fn := fun _ => fun
  | [d1, d2] => { results := [.lit (.bool false)], args := [d1, d2] }
  | _ => none }
def FnExactGrandSumsWrongFalsely : Prop := fnExactGrandSumsRow.holds Try.pinned (OpenSpec.ofChange fnExactGrandSumsWrong)

/-- 'laws.FnExactGroupNames': WHATEVER THE INPUT: true; the input reads as it did. -/
def fnExactGroupNamesSpec : ChangeSpec := { name := "fnExactGroupNames", fn := fun _ => fun
  | [d1, d2] => { results := [.lit (.bool true)], args := [d1, d2] }
  | _ => none }
def fnExactGroupNamesRow : OpenClaim := { program := "ytjnnfmlgjdlihaa", sum := "ac121186a4226c4e135bcbcc11fcf34651a3e995fe5a5677e5c5a015b2db9050", func := "loop.example/g01012/laws.FnExactGroupNames", spec := "fnExactGroupNames", unfollowed := true, recurses := true, apart := false }
def FnExactGroupNamesSaid : Prop := fnExactGroupNamesRow.holds Try.pinned (OpenSpec.ofChange fnExactGroupNamesSpec)

/-- ITS FALSE NEIGHBOUR: 'it returns false'. Refute it at one input. -/
def fnExactGroupNamesWrong : ChangeSpec := { name := "fnExactGroupNames", fn := fun _ => fun
  | [d1, d2] => { results := [.lit (.bool false)], args := [d1, d2] }
  | _ => none }
def FnExactGroupNamesWrongFalsely : Prop := fnExactGroupNamesRow.holds Try.pinned (OpenSpec.ofChange fnExactGroupNamesWrong)

/-- 'laws.FnExactGroupSums': WHATEVER THE INPUT: true; the input reads as it did. -/
def fnExactGroupSumsSpec : ChangeSpec := { name := "fnExactGroupSums", fn := fun _ => fun
  | [d1, d2] => { results := [.lit (.bool true)], args := [d1, d2] }
  | _ => none }
def fnExactGroupSumsRow : OpenClaim := { program := "ytjnnfmlgjdlihaa", sum := "ac121186a4226c4e135bcbcc11fcf34651a3e995fe5a5677e5c5a015b2db9050", func := "loop.example/g01012/laws.FnExactGroupSums", spec := "fnExactGroupSums", unfollowed := true, recurses := true, apart := false }
def FnExactGroupSumsSaid : Prop := fnExactGroupSumsRow.holds Try.pinned (OpenSpec.ofChange fnExactGroupSumsSpec)

/-- ITS FALSE NEIGHBOUR: 'it returns false'. Refute it at one input. -/
def fnExactGroupSumsWrong : ChangeSpec := { name := "fnExactGroupSums", fn := fun _ => fun
  | [d1, d2] => { results := [.lit (.bool false)], args := [d1, d2] }
  | _ => none }
def FnExactGroupSumsWrongFalsely : Prop := fnExactGroupSumsRow.holds Try.pinned (OpenSpec.ofChange fnExactGroupSumsWrong)

/-- 'laws.FnSums': WHATEVER THE INPUT: true; the input reads as it did. -/
def fnSumsSpec : ChangeSpec := { name := "fnSums", fn := fun _ => fun
  | [d1, d2] => { results := [.lit (.bool true)], args := [d1, d2] }
  | _ => none }
def fnSumsRow : OpenClaim := { program := "ytjnnfmlgjdlihaa", sum := "ac121186a4226c4e135bcbcc11fcf34651a3e995fe5a5677e5c5a015b2db9050", func := "loop.example/g01012/laws.FnSums", spec := "fnSums", unfollowed := true, recurses := true, apart := false }
def FnSumsSaid : Prop := fnSumsRow.holds Try.pinned (OpenSpec.ofChange fnSumsSpec)

/-- ITS FALSE NEIGHBOUR: 'it returns false'. Refute it at one input. -/
def fnSumsWrong : ChangeSpec := { name := "fnSums", fn := fun _ => fun
  | [d1, d2] => { results := [.lit (.bool false)], args := [d1, d2] }
  | _ => none }
def FnSumsWrongFalsely : Prop := fnSumsRow.holds Try.pinned (OpenSpec.ofChange fnSumsWrong)

/- THE SECOND FORM. 'bulk': how many values and letters a reading holds, each counted each time it is reached (what is shared counts as often as it is met; a slice's spare places count too). A statement '..UptoSaid' is the law's where the arguments, and the package variables that the reading takes, are together of bulk at most 1048576: NARROWER than '..Said'. Prove '..Said' where nothing that the law and all that it calls make is longer than what came in: it says more and counts as full. Else prove '..UptoSaid'. A law counts once. -/
mutual
def uptoBulk {H : Type} : DataW H → Nat
  | .lit (.string bytes) => bytes.length + 1
  | .lit _ => 1
  | .nil => 1
  | .ptr d => uptoBulk d + 1
  | .slice elems spare => uptoBulkAll elems + uptoBulkAll spare + 1
  | .agg parts => uptoBulkAll parts + 1
  | .iface _ d => uptoBulk d + 1
  | .map entries => uptoBulkEntries entries + 1
  | .held _ => 1
def uptoBulkAll {H : Type} : List (DataW H) → Nat
  | [] => 0
  | d :: r => uptoBulk d + uptoBulkAll r
def uptoBulkEntries {H : Type} : List (Lit × DataW H) → Nat
  | [] => 0
  | x :: r => uptoBulkEntry x + uptoBulkEntries r
def uptoBulkEntry {H : Type} : Lit × DataW H → Nat
  | (.string bytes, d) => bytes.length + uptoBulk d + 1
  | (_, d) => uptoBulk d + 1
 end
def uptoSmall : (H : Type) → List (DataW H) → Bool := fun _ ds => decide (uptoBulkAll ds ≤ 1048576)
def OpenSpec.upto (s : _root_.Go.ChangeSpec) : _root_.Go.OpenSpec := { _root_.Go.OpenSpec.ofChange s with cond := some uptoSmall }

/-- 'laws.FnExactCrossFoot', WHERE WHAT IT READS IS OF BULK AT MOST 1048576: true; the input reads as it did. -/
def fnExactCrossFootUptoRow : OpenClaim := { program := "ytjnnfmlgjdlihaa", sum := "ac121186a4226c4e135bcbcc11fcf34651a3e995fe5a5677e5c5a015b2db9050", func := "loop.example/g01012/laws.FnExactCrossFoot", spec := "fnExactCrossFoot", unfollowed := true, recurses := true, apart := false, narrowed := true }
def FnExactCrossFootUptoSaid : Prop := fnExactCrossFootUptoRow.holds Try.pinned (OpenSpec.upto fnExactCrossFootSpec)

/-- 'laws.FnExactCyclesFor', WHERE WHAT IT READS IS OF BULK AT MOST 1048576: true; the input reads as it did. -/
def fnExactCyclesForUptoRow : OpenClaim := { program := "ytjnnfmlgjdlihaa", sum := "ac121186a4226c4e135bcbcc11fcf34651a3e995fe5a5677e5c5a015b2db9050", func := "loop.example/g01012/laws.FnExactCyclesFor", spec := "fnExactCyclesFor", unfollowed := true, recurses := true, apart := false, narrowed := true }
def FnExactCyclesForUptoSaid : Prop := fnExactCyclesForUptoRow.holds Try.pinned (OpenSpec.upto fnExactCyclesForSpec)

/-- 'laws.FnExactBreaksIn', WHERE WHAT IT READS IS OF BULK AT MOST 1048576: true; the input reads as it did. -/
def fnExactBreaksInUptoRow : OpenClaim := { program := "ytjnnfmlgjdlihaa", sum := "ac121186a4226c4e135bcbcc11fcf34651a3e995fe5a5677e5c5a015b2db9050", func := "loop.example/g01012/laws.FnExactBreaksIn", spec := "fnExactBreaksIn", unfollowed := true, recurses := true, apart := false, narrowed := true }
def FnExactBreaksInUptoSaid : Prop := fnExactBreaksInUptoRow.holds Try.pinned (OpenSpec.upto fnExactBreaksInSpec)

/-- 'laws.FnExactGrandSums', WHERE WHAT IT READS IS OF BULK AT MOST 1048576: true; the input reads as it did. -/
def fnExactGrandSumsUptoRow : OpenClaim := { program := "ytjnnfmlgjdlihaa", sum := "ac121186a4226c4e135bcbcc11fcf34651a3e995fe5a5677e5c5a015b2db9050", func := "loop.example/g01012/laws.FnExactGrandSums", spec := "fnExactGrandSums", unfollowed := true, recurses := true, apart := false, narrowed := true }
def FnExactGrandSumsUptoSaid : Prop := fnExactGrandSumsUptoRow.holds Try.pinned (OpenSpec.upto fnExactGrandSumsSpec)

/-- 'laws.FnExactGroupNames', WHERE WHAT IT READS IS OF BULK AT MOST 1048576: true; the input reads as it did. -/
def fnExactGroupNamesUptoRow : OpenClaim := { program := "ytjnnfmlgjdlihaa", sum := "ac121186a4226c4e135bcbcc11fcf34651a3e995fe5a5677e5c5a015b2db9050", func := "loop.example/g01012/laws.FnExactGroupNames", spec := "fnExactGroupNames", unfollowed := true, recurses := true, apart := false, narrowed := true }
def FnExactGroupNamesUptoSaid : Prop := fnExactGroupNamesUptoRow.holds Try.pinned (OpenSpec.upto fnExactGroupNamesSpec)

/-- 'laws.FnExactGroupSums', WHERE WHAT IT READS IS OF BULK AT MOST 1048576: true; the input reads as it did. -/
def fnExactGroupSumsUptoRow : OpenClaim := { program := "ytjnnfmlgjdlihaa", sum := "ac121186a4226c4e135bcbcc11fcf34651a3e995fe5a5677e5c5a015b2db9050", func := "loop.example/g01012/laws.FnExactGroupSums", spec := "fnExactGroupSums", unfollowed := true, recurses := true, apart := false, narrowed := true }
def FnExactGroupSumsUptoSaid : Prop := fnExactGroupSumsUptoRow.holds Try.pinned (OpenSpec.upto fnExactGroupSumsSpec)

/-- 'laws.FnSums', WHERE WHAT IT READS IS OF BULK AT MOST 1048576: true; the input reads as it did. -/
def fnSumsUptoRow : OpenClaim := { program := "ytjnnfmlgjdlihaa", sum := "ac121186a4226c4e135bcbcc11fcf34651a3e995fe5a5677e5c5a015b2db9050", func := "loop.example/g01012/laws.FnSums", spec := "fnSums", unfollowed := true, recurses := true, apart := false, narrowed := true }
def FnSumsUptoSaid : Prop := fnSumsUptoRow.holds Try.pinned (OpenSpec.upto fnSumsSpec)

end Rows
end Go.Proofs.Ytjnnfmlgjdlihaa

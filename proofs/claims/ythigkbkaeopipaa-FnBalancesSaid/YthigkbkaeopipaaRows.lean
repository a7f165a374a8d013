/-
  No cell of these rows narrows 'for every input' (looked for: loops, veiled, ifaces, maps, wideKeys, modest, calm, conditions, laid).
  DERIVED. THE GIVEN ROWS OF THIS SEAT. 7 by the template 'for every input the law returns true; each argument reads behind the call as it read before'; 0 by the template 'total and deterministic' (their statements: YthigkbkaeopipaaTotals.lean).
  GIVEN WITH THE SEED: the statements are not yours to turn. If you find one false, say at which input.
  Laid BY PROGRAM, IN A SANDBOX (cutbox-rows.mjs): the forced cells as the released guide's own fill.sh prints them over the translation 096779537ce28965… (all of the seat's roots in one cut). By AI agents, Wed Nov 11 2026. No macro, syntax, notation, axiom, sorry.
-/
import Derived.Test.YthigkbkaeopipaaChecked
import GoSem.Claim
import GoSem.ClaimJoined
import GoSem.ClaimMapViews
import Derived.JoinedTies
import Derived.KernelRfl
namespace Go.Proofs.Ythigkbkaeopipaa
/- THE CELL 'sum', in the pinned program and in every row, IS THE sha256 OF THE DUMP (.gsa) THAT YthigkbkaeopipaaProg.lean LOADS. Nothing in Lean hashes anything: it is a label: what it is worth is what the hold of that sum in a sandbox is worth. -/
noncomputable def Try.pinned : Pinned := { name := "ythigkbkaeopipaa", sum := "096779537ce2896529a3026a86f345e5392f96891d8c5fefba2ecb72d9bf1ebb", checked := Try.checked }
namespace Rows
def none {H : Type} : Left H := { results := [], args := [] }

/-- 'laws.FnSums': WHATEVER THE INPUT: true; the input reads as it did. -/
def fnSumsSpec : ChangeSpec := { name := "fnSums", fn := fun _ => fun
  | [d1, d2] => { results := [.lit (.bool true)], args := [d1, d2] }
  | _ => none }
def fnSumsRow : OpenClaim := { program := "ythigkbkaeopipaa", sum := "096779537ce2896529a3026a86f345e5392f96891d8c5fefba2ecb72d9bf1ebb", func := "loop.example/g01012/laws.FnSums", spec := "fnSums", unfollowed := true, recurses := true, apart := false }
def FnSumsSaid : Prop := fnSumsRow.holds Try.pinned (OpenSpec.ofChange fnSumsSpec)

/-- ITS FALSE NEIGHBOUR: 'it returns false'. Refute it at one input. -/
def fnSumsWrong : ChangeSpec := { name := "fnSums", fn := fun _ => fun
  | [d1, d2] => { results := [.lit (.bool false)], args := [d1, d2] }
  | _ => none }
def FnSumsWrongFalsely : Prop := fnSumsRow.holds Try.pinned (OpenSpec.ofChange fnSumsWrong)

/-- 'laws.FnBalances': WHATEVER THE INPUT: true; the input reads as it did. -/
def fnBalancesSpec : ChangeSpec := { name := "fnBalances", fn := fun _ => fun
  | [d] => { results := [.lit (.bool true)], args := [d] }
  | _ => none }
def fnBalancesRow : OpenClaim := { program := "ythigkbkaeopipaa", sum := "096779537ce2896529a3026a86f345e5392f96891d8c5fefba2ecb72d9bf1ebb", func := "loop.example/g01012/laws.FnBalances", spec := "fnBalances", unfollowed := true, recurses := true, apart := false }
def FnBalancesSaid : Prop := fnBalancesRow.holds Try.pinned (OpenSpec.ofChange fnBalancesSpec)

/-- ITS FALSE NEIGHBOUR: 'it returns false'. Refute it at one input. -/
def fnBalancesWrong : ChangeSpec := { name := "fnBalances", fn := fun _ => fun
  | [d] => { results := [.lit (.bool false)], args := [d] }
  | _ => none }
def FnBalancesWrongFalsely : Prop := fnBalancesRow.holds Try.pinned (OpenSpec.ofChange fnBalancesWrong)

/-- 'laws.FnCuts': WHATEVER THE INPUT: true; the input reads as it did. -/
def fnCutsSpec : ChangeSpec := { name := "fnCuts", fn := fun _ => fun
  | [d] => { results := [.lit (.bool true)], args := [d] }
  | _ => none }
def fnCutsRow : OpenClaim := { program := "ythigkbkaeopipaa", sum := "096779537ce2896529a3026a86f345e5392f96891d8c5fefba2ecb72d9bf1ebb", func := "loop.example/g01012/laws.FnCuts", spec := "fnCuts", unfollowed := true, recurses := true, apart := false }
def FnCutsSaid : Prop := fnCutsRow.holds Try.pinned (OpenSpec.ofChange fnCutsSpec)

/-- ITS FALSE NEIGHBOUR: 'it returns false'. Refute it at one input. -/
def fnCutsWrong : ChangeSpec := { name := "fnCuts", fn := fun _ => fun
  | [d] => { results := [.lit (.bool false)], args := [d] }
  | _ => none }
def FnCutsWrongFalsely : Prop := fnCutsRow.holds Try.pinned (OpenSpec.ofChange fnCutsWrong)

/-- 'laws.FnBoards': WHATEVER THE INPUT: true; the input reads as it did. -/
def fnBoardsSpec : ChangeSpec := { name := "fnBoards", fn := fun _ => fun
  | [d1, d2] => { results := [.lit (.bool true)], args := [d1, d2] }
  | _ => none }
def fnBoardsRow : OpenClaim := { program := "ythigkbkaeopipaa", sum := "096779537ce2896529a3026a86f345e5392f96891d8c5fefba2ecb72d9bf1ebb", func := "loop.example/g01012/laws.FnBoards", spec := "fnBoards", unfollowed := true, recurses := true, apart := false }
def FnBoardsSaid : Prop := fnBoardsRow.holds Try.pinned (OpenSpec.ofChange fnBoardsSpec)

/-- ITS FALSE NEIGHBOUR: 'it returns false'. Refute it at one input. -/
def fnBoardsWrong : ChangeSpec := { name := "fnBoards", fn := fun _ => fun
  | [d1, d2] => { results := [.lit (.bool false)], args := [d1, d2] }
  | _ => none }
def FnBoardsWrongFalsely : Prop := fnBoardsRow.holds Try.pinned (OpenSpec.ofChange fnBoardsWrong)

/-- 'laws.FnWires': WHATEVER THE INPUT: true; the input reads as it did. -/
def fnWiresSpec : ChangeSpec := { name := "fnWires", fn := fun _ => fun
  | [d1, d2] => { results := [.lit (.bool true)], args := [d1, d2] }
  | _ => none }
def fnWiresRow : OpenClaim := { program := "ythigkbkaeopipaa", sum := "096779537ce2896529a3026a86f345e5392f96891d8c5fefba2ecb72d9bf1ebb", func := "loop.example/g01012/laws.FnWires", spec := "fnWires", unfollowed := true, recurses := true, apart := false }
def FnWiresSaid : Prop := fnWiresRow.holds Try.pinned (OpenSpec.ofChange fnWiresSpec)

/-- ITS FALSE NEIGHBOUR: 'it returns false'. Refute it at one input. -/
def fnWiresWrong : ChangeSpec := { name := "fnWires", fn := fun _ => fun
  | [d1, d2] => { results := [.lit (.bool false)], args := [d1, d2] }
  | _ => none }
def FnWiresWrongFalsely : Prop := fnWiresRow.holds Try.pinned (OpenSpec.ofChange fnWiresWrong)

/-- 'laws.FnExactFewestCuts': WHATEVER THE INPUT: true; the input reads as it did. -/
def fnExactFewestCutsSpec : ChangeSpec := { name := "fnExactFewestCuts", fn := fun _ => fun
  | [d] => { results := [.lit (.bool true)], args := [d] }
  | _ => none }
def fnExactFewestCutsRow : OpenClaim := { program := "ythigkbkaeopipaa", sum := "096779537ce2896529a3026a86f345e5392f96891d8c5fefba2ecb72d9bf1ebb", func := "loop.example/g01012/laws.FnExactFewestCuts", spec := "fnExactFewestCuts", unfollowed := true, recurses := true, apart := false }
def FnExactFewestCutsSaid : Prop := fnExactFewestCutsRow.holds Try.pinned (OpenSpec.ofChange fnExactFewestCutsSpec)

/-- ITS FALSE NEIGHBOUR: 'it returns false'. Refute it at one input. -/
def fnExactFewestCutsWrong : ChangeSpec := { name := "fnExactFewestCuts", fn := fun _ => fun
  | [d] => { results := [.lit (.bool false)], args := [d] }
  | _ => none }
def FnExactFewestCutsWrongFalsely : Prop := fnExactFewestCutsRow.holds Try.pinned (OpenSpec.ofChange fnExactFewestCutsWrong)

/-- 'laws.FnExactBackCopies': WHATEVER THE INPUT: true; the input reads as it did. -/
def fnExactBackCopiesSpec : ChangeSpec := { name := "fnExactBackCopies", fn := fun _ => fun
  | [d] => { results := [.lit (.bool true)], args := [d] }
  | _ => none }
def fnExactBackCopiesRow : OpenClaim := { program := "ythigkbkaeopipaa", sum := "096779537ce2896529a3026a86f345e5392f96891d8c5fefba2ecb72d9bf1ebb", func := "loop.example/g01012/laws.FnExactBackCopies", spec := "fnExactBackCopies", unfollowed := true, recurses := true, apart := false }
def FnExactBackCopiesSaid : Prop := fnExactBackCopiesRow.holds Try.pinned (OpenSpec.ofChange fnExactBackCopiesSpec)

/-- ITS FALSE NEIGHBOUR: 'it returns false'. Refute it at one input. -/
def fnExactBackCopiesWrong : ChangeSpec := { name := "fnExactBackCopies", fn := fun _ => fun
  | [d] => { results := [.lit (.bool false)], args := [d] }
  | _ => none }
def FnExactBackCopiesWrongFalsely : Prop := fnExactBackCopiesRow.holds Try.pinned (OpenSpec.ofChange fnExactBackCopiesWrong)

/- THE SECOND FORM. 'bulk': how many values and letters a reading holds, each counted each time it is reached (what is shared counts as often as it is met; a slice's spare places count too). A statement '..UptoSaid' is the law's where the arguments, and the package variables that the reading takes, are together of bulk at most 1048576: NARROWER than '..Said'. Prove '..Said' where nothing that the law and all that it calls make is longer than what came in: it says more and counts as full. Else prove '..UptoSaid'. A law counts once. -/
mutual
def uptoBulk {H : Type} : DataW H → Nat
  | .lit (.string bytes) => bytes.length + 1
  | .lit _ => 1
  | .nil => 1
  | .ptr d => uptoBulk d + 1
  | .slice elems spare => uptoBulkAll elems + uptoBulkAll spare + 1
  | .agg parts => uptoBulkAll parts + 1
  | .iface _ d => uptoBulk d + 1
  | .map entries => uptoBulkEntries entries + 1
  | .held _ => 1
def uptoBulkAll {H : Type} : List (DataW H) → Nat
  | [] => 0
  | d :: r => uptoBulk d + uptoBulkAll r
def uptoBulkEntries {H : Type} : List (Lit × DataW H) → Nat
  | [] => 0
  | x :: r => uptoBulkEntry x + uptoBulkEntries r
def uptoBulkEntry {H : Type} : Lit × DataW H → Nat
  | (.string bytes, d) => bytes.length + uptoBulk d + 1
  | (_, d) => uptoBulk d + 1
 end
def uptoSmall : (H : Type) → List (DataW H) → Bool := fun _ ds => decide (uptoBulkAll ds ≤ 1048576)
def OpenSpec.upto (s : _root_.Go.ChangeSpec) : _root_.Go.OpenSpec := { _root_.Go.OpenSpec.ofChange s with cond := some uptoSmall }

/-- 'laws.FnSums', WHERE WHAT IT READS IS OF BULK AT MOST 1048576: true; the input reads as it did. -/
def fnSumsUptoRow : OpenClaim := { program := "ythigkbkaeopipaa", sum := "096779537ce2896529a3026a86f345e5392f96891d8c5fefba2ecb72d9bf1ebb", func := "loop.example/g01012/laws.FnSums", spec := "fnSums", unfollowed := true, recurses := true, apart := false, narrowed := true }
def FnSumsUptoSaid : Prop := fnSumsUptoRow.holds Try.pinned (OpenSpec.upto fnSumsSpec)

/-- 'laws.FnBalances', WHERE WHAT IT READS IS OF BULK AT MOST 1048576: true; the input reads as it did. -/
def fnBalancesUptoRow : OpenClaim := { program := "ythigkbkaeopipaa", sum := "096779537ce2896529a3026a86f345e5392f96891d8c5fefba2ecb72d9bf1ebb", func := "loop.example/g01012/laws.FnBalances", spec := "fnBalances", unfollowed := true, recurses := true, apart := false, narrowed := true }
def FnBalancesUptoSaid : Prop := fnBalancesUptoRow.holds Try.pinned (OpenSpec.upto fnBalancesSpec)

/-- 'laws.FnCuts', WHERE WHAT IT READS IS OF BULK AT MOST 1048576: true; the input reads as it did. -/
def fnCutsUptoRow : OpenClaim := { program := "ythigkbkaeopipaa", sum := "096779537ce2896529a3026a86f345e5392f96891d8c5fefba2ecb72d9bf1ebb", func := "loop.example/g01012/laws.FnCuts", spec := "fnCuts", unfollowed := true, recurses := true, apart := false, narrowed := true }
def FnCutsUptoSaid : Prop := fnCutsUptoRow.holds Try.pinned (OpenSpec.upto fnCutsSpec)

/-- 'laws.FnBoards', WHERE WHAT IT READS IS OF BULK AT MOST 1048576: true; the input reads as it did. -/
def fnBoardsUptoRow : OpenClaim := { program := "ythigkbkaeopipaa", sum := "096779537ce2896529a3026a86f345e5392f96891d8c5fefba2ecb72d9bf1ebb", func := "loop.example/g01012/laws.FnBoards", spec := "fnBoards", unfollowed := true, recurses := true, apart := false, narrowed := true }
def FnBoardsUptoSaid : Prop := fnBoardsUptoRow.holds Try.pinned (OpenSpec.upto fnBoardsSpec)

/-- 'laws.FnWires', WHERE WHAT IT READS IS OF BULK AT MOST 1048576: true; the input reads as it did. -/
def fnWiresUptoRow : OpenClaim := { program := "ythigkbkaeopipaa", sum := "096779537ce2896529a3026a86f345e5392f96891d8c5fefba2ecb72d9bf1ebb", func := "loop.example/g01012/laws.FnWires", spec := "fnWires", unfollowed := true, recurses := true, apart := false, narrowed := true }
def FnWiresUptoSaid : Prop := fnWiresUptoRow.holds Try.pinned (OpenSpec.upto fnWiresSpec)

/-- 'laws.FnExactFewestCuts', WHERE WHAT IT READS IS OF BULK AT MOST 1048576: true; the input reads as it did. -/
def fnExactFewestCutsUptoRow : OpenClaim := { program := "ythigkbkaeopipaa", sum := "096779537ce2896529a3026a86f345e5392f96891d8c5fefba2ecb72d9bf1ebb", func := "loop.example/g01012/laws.FnExactFewestCuts", spec := "fnExactFewestCuts", unfollowed := true, recurses := true, apart := false, narrowed := true }
def FnExactFewestCutsUptoSaid : Prop := fnExactFewestCutsUptoRow.holds Try.pinned (OpenSpec.upto fnExactFewestCutsSpec)

/-- 'laws.FnExactBackCopies', WHERE WHAT IT READS IS OF BULK AT MOST 1048576: true; the input reads as it did. -/
def fnExactBackCopiesUptoRow : OpenClaim := { program := "ythigkbkaeopipaa", sum := "096779537ce2896529a3026a86f345e5392f96891d8c5fefba2ecb72d9bf1ebb", func := "loop.example/g01012/laws.FnExactBackCopies", spec := "fnExactBackCopies", unfollowed := true, recurses := true, apart := false, narrowed := true }
def FnExactBackCopiesUptoSaid : Prop := fnExactBackCopiesUptoRow.holds Try.pinned (OpenSpec.upto fnExactBackCopiesSpec)

end Rows
end Go.Proofs.Ythigkbkaeopipaa

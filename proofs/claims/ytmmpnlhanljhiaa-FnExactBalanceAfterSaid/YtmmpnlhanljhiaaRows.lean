/-
  No cell of these rows narrows 'for every input' (looked for: loops, veiled, ifaces, maps, wideKeys, modest, calm, conditions, laid).
  DERIVED. THE GIVEN ROWS OF THIS SEAT. 11 by the template 'for every input the law returns true; each argument reads behind the call as it read before'; 0 by the template 'total and deterministic' (their statements: YtmmpnlhanljhiaaTotals.lean).
  GIVEN WITH THE SEED: the statements are not yours to turn. If you find one false, say at which input.
  Laid BY PROGRAM, IN A SANDBOX (cutbox-rows.mjs): the forced cells as the released guide's own fill.sh prints them over the translation 9767fb8eec9abd66… (all of the seat's roots in one cut). By AI agents, Wed Nov 11 2026. No macro, syntax, notation, axiom, sorry.
-/
import Derived.Test.YtmmpnlhanljhiaaChecked
import GoSem.Claim
import GoSem.ClaimJoined
import GoSem.ClaimMapViews
import Derived.JoinedTies
import Derived.KernelRfl
namespace Go.Proofs.Ytmmpnlhanljhiaa
/- THE CELL 'sum', in the pinned program and in every row, IS THE sha256 OF THE DUMP (.gsa) THAT YtmmpnlhanljhiaaProg.lean LOADS. Nothing in Lean hashes anything: it is a label: what it is worth is what the hold of that sum in a sandbox is worth. -/
noncomputable def Try.pinned : Pinned := { name := "ytmmpnlhanljhiaa", sum := "9767fb8eec9abd66d50186187a0d82d1bf9bfbb8df8833564b4984d04f9e9ac1", checked := Try.checked }
namespace Rows
def none {H : Type} : Left H := { results := [], args := [] }

/-- 'laws.FnExactReadCounter': WHATEVER THE INPUT: true; the input reads as it did. -/
def fnExactReadCounterSpec : ChangeSpec := { name := "fnExactReadCounter", fn := fun _ => fun
  | [d] => { results := [.lit (.bool true)], args := [d] }
  | _ => none }
def fnExactReadCounterRow : OpenClaim := { program := "ytmmpnlhanljhiaa", sum := "9767fb8eec9abd66d50186187a0d82d1bf9bfbb8df8833564b4984d04f9e9ac1", func := "loop.example/g01012/laws.FnExactReadCounter", spec := "fnExactReadCounter", unfollowed := true, recurses := true, apart := false }
def FnExactReadCounterSaid : Prop := fnExactReadCounterRow.holds Try.pinned (OpenSpec.ofChange fnExactReadCounterSpec)

/-- ITS FALSE NEIGHBOUR: 'it returns false'. Refute it at one input. -/
def fnExactReadCounterWrong : ChangeSpec := { name := "fnExactReadCounter", fn := fun _ => fun
  | [d] => { results := [.lit (.bool false)], args := [d] }
  | _ => none }
def FnExactReadCounterWrongFalsely : Prop := fnExactReadCounterRow.holds Try.pinned (OpenSpec.ofChange fnExactReadCounterWrong)

/-- 'laws.FnExactCounterText': WHATEVER THE INPUT: true; the input reads as it did. -/
def fnExactCounterTextSpec : ChangeSpec := { name := "fnExactCounterText", fn := fun _ => fun
  | [d] => { results := [.lit (.bool true)], args := [d] }
  | _ => none }
def fnExactCounterTextRow : OpenClaim := { program := "ytmmpnlhanljhiaa", sum := "9767fb8eec9abd66d50186187a0d82d1bf9bfbb8df8833564b4984d04f9e9ac1", func := "loop.example/g01012/laws.FnExactCounterText", spec := "fnExactCounterText", unfollowed := true, recurses := true, apart := false }
def FnExactCounterTextSaid : Prop := fnExactCounterTextRow.holds Try.pinned (OpenSpec.ofChange fnExactCounterTextSpec)

/-- ITS FALSE NEIGHBOUR: 'it returns false'. Refute it at one input. -/
def fnExactCounterTextWrong : ChangeSpec := { name := "fnExactCounterText", fn := fun _ => fun
  | [d] => { results := [.lit (.bool false)], args := [d] }
  | _ => none }
def FnExactCounterTextWrongFalsely : Prop := fnExactCounterTextRow.holds Try.pinned (OpenSpec.ofChange fnExactCounterTextWrong)

/-- 'laws.FnExactNumberShown': WHATEVER THE INPUT: true; the input reads as it did. -/
def fnExactNumberShownSpec : ChangeSpec := { name := "fnExactNumberShown", fn := fun _ => fun
  | [d] => { results := [.lit (.bool true)], args := [d] }
  | _ => none }
def fnExactNumberShownRow : OpenClaim := { program := "ytmmpnlhanljhiaa", sum := "9767fb8eec9abd66d50186187a0d82d1bf9bfbb8df8833564b4984d04f9e9ac1", func := "loop.example/g01012/laws.FnExactNumberShown", spec := "fnExactNumberShown", unfollowed := true, recurses := true, apart := false }
def FnExactNumberShownSaid : Prop := fnExactNumberShownRow.holds Try.pinned (OpenSpec.ofChange fnExactNumberShownSpec)

/-- ITS FALSE NEIGHBOUR: 'it returns false'. Refute it at one input. -/
def fnExactNumberShownWrong : ChangeSpec := { name := "fnExactNumberShown", fn := fun _ => fun
  | [d] => { results := [.lit (.bool false)], args := [d] }
  | _ => none }
def FnExactNumberShownWrongFalsely : Prop := fnExactNumberShownRow.holds Try.pinned (OpenSpec.ofChange fnExactNumberShownWrong)

/-- 'laws.FnExactJoinCounters': WHATEVER THE INPUT: true; the input reads as it did. -/
def fnExactJoinCountersSpec : ChangeSpec := { name := "fnExactJoinCounters", fn := fun _ => fun
  | [d1, d2] => { results := [.lit (.bool true)], args := [d1, d2] }
  | _ => none }
def fnExactJoinCountersRow : OpenClaim := { program := "ytmmpnlhanljhiaa", sum := "9767fb8eec9abd66d50186187a0d82d1bf9bfbb8df8833564b4984d04f9e9ac1", func := "loop.example/g01012/laws.FnExactJoinCounters", spec := "fnExactJoinCounters", unfollowed := true, recurses := true, apart := false }
def FnExactJoinCountersSaid : Prop := fnExactJoinCountersRow.holds Try.pinned (OpenSpec.ofChange fnExactJoinCountersSpec)

/-- ITS FALSE NEIGHBOUR: 'it returns false'. Refute it at one input. -/
def fnExactJoinCountersWrong : ChangeSpec := { name := "fnExactJoinCounters", fn := fun _ => fun
  | [d1, d2] => { results := [.lit (.bool false)], args := [d1, d2] }
  | _ => none }
def FnExactJoinCountersWrongFalsely : Prop := fnExactJoinCountersRow.holds Try.pinned (OpenSpec.ofChange fnExactJoinCountersWrong)

/-- 'laws.FnExactSplitCounter': WHATEVER THE INPUT: true; the input reads as it did. -/
def fnExactSplitCounterSpec : ChangeSpec := { name := "fnExactSplitCounter", fn := fun _ => fun
  | [d1, d2] => { results := [.lit (.bool true)], args := [d1, d2] }
  | _ => none }
def fnExactSplitCounterRow : OpenClaim := { program := "ytmmpnlhanljhiaa", sum := "9767fb8eec9abd66d50186187a0d82d1bf9bfbb8df8833564b4984d04f9e9ac1", func := "loop.example/g01012/laws.FnExactSplitCounter", spec := "fnExactSplitCounter", unfollowed := true, recurses := true, apart := false }
def FnExactSplitCounterSaid : Prop := fnExactSplitCounterRow.holds Try.pinned (OpenSpec.ofChange fnExactSplitCounterSpec)

/-- ITS FALSE NEIGHBOUR: 'it returns false'. Refute it at one input. -/
def fnExactSplitCounterWrong : ChangeSpec := { name := "fnExactSplitCounter", fn := fun _ => fun
  | [d1, d2] => { results := [.lit (.bool false)], args := [d1, d2] }
  | _ => none }
def FnExactSplitCounterWrongFalsely : Prop := fnExactSplitCounterRow.holds Try.pinned (OpenSpec.ofChange fnExactSplitCounterWrong)

/-- 'laws.FnExactComplementOf': WHATEVER THE INPUT: true; the input reads as it did. -/
def fnExactComplementOfSpec : ChangeSpec := { name := "fnExactComplementOf", fn := fun _ => fun
  | [d] => { results := [.lit (.bool true)], args := [d] }
  | _ => none }
def fnExactComplementOfRow : OpenClaim := { program := "ytmmpnlhanljhiaa", sum := "9767fb8eec9abd66d50186187a0d82d1bf9bfbb8df8833564b4984d04f9e9ac1", func := "loop.example/g01012/laws.FnExactComplementOf", spec := "fnExactComplementOf", unfollowed := true, recurses := true, apart := false }
def FnExactComplementOfSaid : Prop := fnExactComplementOfRow.holds Try.pinned (OpenSpec.ofChange fnExactComplementOfSpec)

/-- ITS FALSE NEIGHBOUR: 'it returns false'. Refute it at one input. -/
def fnExactComplementOfWrong : ChangeSpec := { name := "fnExactComplementOf", fn := fun _ => fun
  | [d] => { results := [.lit (.bool false)], args := [d] }
  | _ => none }
def FnExactComplementOfWrongFalsely : Prop := fnExactComplementOfRow.holds Try.pinned (OpenSpec.ofChange fnExactComplementOfWrong)

/-- 'laws.FnExactCarriesOf': WHATEVER THE INPUT: true; the input reads as it did. -/
def fnExactCarriesOfSpec : ChangeSpec := { name := "fnExactCarriesOf", fn := fun _ => fun
  | [d1, d2] => { results := [.lit (.bool true)], args := [d1, d2] }
  | _ => none }
def fnExactCarriesOfRow : OpenClaim := { program := "ytmmpnlhanljhiaa", sum := "9767fb8eec9abd66d50186187a0d82d1bf9bfbb8df8833564b4984d04f9e9ac1", func := "loop.example/g01012/laws.FnExactCarriesOf", spec := "fnExactCarriesOf", unfollowed := true, recurses := true, apart := false }
def FnExactCarriesOfSaid : Prop := fnExactCarriesOfRow.holds Try.pinned (OpenSpec.ofChange fnExactCarriesOfSpec)

/-- ITS FALSE NEIGHBOUR: 'it returns false'. Refute it at one input. -/
def fnExactCarriesOfWrong : ChangeSpec := { name := "fnExactCarriesOf", fn := fun _ => fun
  | [d1, d2] => { results := [.lit (.bool false)], args := [d1, d2] }
  | _ => none }
def FnExactCarriesOfWrongFalsely : Prop := fnExactCarriesOfRow.holds Try.pinned (OpenSpec.ofChange fnExactCarriesOfWrong)

/-- 'laws.FnExactBalanceAfter': WHATEVER THE INPUT: true; the input reads as it did. -/
def fnExactBalanceAfterSpec : ChangeSpec := { name := "fnExactBalanceAfter", fn := fun _ => fun
  | [d1, d2] => { results := [.lit (.bool true)], args := [d1, d2] }
  | _ => none }
def fnExactBalanceAfterRow : OpenClaim := { program := "ytmmpnlhanljhiaa", sum := "9767fb8eec9abd66d50186187a0d82d1bf9bfbb8df8833564b4984d04f9e9ac1", func := "loop.example/g01012/laws.FnExactBalanceAfter", spec := "fnExactBalanceAfter", apart := false }
def FnExactBalanceAfterSaid : Prop := fnExactBalanceAfterRow.holds Try.pinned (OpenSpec.ofChange fnExactBalanceAfterSpec)

/-- ITS FALSE NEIGHBOUR: 'it returns false'. Refute it at one input. -/
def fnExactBalanceAfterWrong : ChangeSpec := { name := "fnExactBalanceAfter", fn := fun _ => fun
  | [d1, d2] => { results := [.lit (.bool false)], args := [d1, d2] }
  | _ => none }
def FnExactBalanceAfterWrongFalsely : Prop := fnExactBalanceAfterRow.holds Try.pinned (OpenSpec.ofChange fnExactBalanceAfterWrong)

/-- 'laws.FnExactAddToCounter': WHATEVER THE INPUT: true; the input reads as it did. -/
def fnExactAddToCounterSpec : ChangeSpec := { name := "fnExactAddToCounter", fn := fun _ => fun
  | [d1, d2] => { results := [.lit (.bool true)], args := [d1, d2] }
  | _ => none }
def fnExactAddToCounterRow : OpenClaim := { program := "ytmmpnlhanljhiaa", sum := "9767fb8eec9abd66d50186187a0d82d1bf9bfbb8df8833564b4984d04f9e9ac1", func := "loop.example/g01012/laws.FnExactAddToCounter", spec := "fnExactAddToCounter", unfollowed := true, recurses := true, apart := false }
def FnExactAddToCounterSaid : Prop := fnExactAddToCounterRow.holds Try.pinned (OpenSpec.ofChange fnExactAddToCounterSpec)

/-- ITS FALSE NEIGHBOUR: 'it returns false'. Refute it at one input. -/
def fnExactAddToCounterWrong : ChangeSpec := { name := "fnExactAddToCounter", fn := fun _ => fun
  | [d1, d2] => { results := [.lit (.bool false)], args := [d1, d2] }
  | _ => none }
def FnExactAddToCounterWrongFalsely : Prop := fnExactAddToCounterRow.holds Try.pinned (OpenSpec.ofChange fnExactAddToCounterWrong)

/-- 'laws.FnExactTakeFromCounter': WHATEVER THE INPUT: true; the input reads as it did. -/
def fnExactTakeFromCounterSpec : ChangeSpec := { name := "fnExactTakeFromCounter", fn := fun _ => fun
  | [d1, d2] => { results := [.lit (.bool true)], args := [d1, d2] }
  | _ => none }
def fnExactTakeFromCounterRow : OpenClaim := { program := "ytmmpnlhanljhiaa", sum := "9767fb8eec9abd66d50186187a0d82d1bf9bfbb8df8833564b4984d04f9e9ac1", func := "loop.example/g01012/laws.FnExactTakeFromCounter", spec := "fnExactTakeFromCounter", unfollowed := true, recurses := true, apart := false }
def FnExactTakeFromCounterSaid : Prop := fnExactTakeFromCounterRow.holds Try.pinned (OpenSpec.ofChange fnExactTakeFromCounterSpec)

/-- ITS FALSE NEIGHBOUR: 'it returns false'. Refute it at one input. -/
def fnExactTakeFromCounterWrong : ChangeSpec := { name := "fnExactTakeFromCounter", fn := fun _ => fun
  | [d1, d2] => { results := [.lit (.bool false)], args := [d1, d2] }
  | _ => none }
def FnExactTakeFromCounterWrongFalsely : Prop := fnExactTakeFromCounterRow.holds Try.pinned (OpenSpec.ofChange fnExactTakeFromCounterWrong)

/-- 'laws.FnBalances': WHATEVER THE INPUT: true; the input reads as it did. -/
def fnBalancesSpec : ChangeSpec := { name := "fnBalances", fn := fun _ => fun
  | [d] => { results := [.lit (.bool true)], args := [d] }
  | _ => none }
def fnBalancesRow : OpenClaim := { program := "ytmmpnlhanljhiaa", sum := "9767fb8eec9abd66d50186187a0d82d1bf9bfbb8df8833564b4984d04f9e9ac1", func := "loop.example/g01012/laws.FnBalances", spec := "fnBalances", unfollowed := true, recurses := true, apart := false }
def FnBalancesSaid : Prop := fnBalancesRow.holds Try.pinned (OpenSpec.ofChange fnBalancesSpec)

/-- ITS FALSE NEIGHBOUR: 'it returns false'. Refute it at one input. -/
def fnBalancesWrong : ChangeSpec := { name := "fnBalances", fn := fun _ => fun
  | [d] => { results := [.lit (.bool false)], args := [d] }
  | _ => none }
def FnBalancesWrongFalsely : Prop := fnBalancesRow.holds Try.pinned (OpenSpec.ofChange fnBalancesWrong)

/- THE SECOND FORM. 'bulk': how many values and letters a reading holds, each counted each time it is reached (what is shared counts as often as it is met; a slice's spare places count too). A statement '..UptoSaid' is the law's where the arguments, and the package variables that the reading takes, are together of bulk at most 1048576: NARROWER than '..Said'. Prove '..Said' where nothing that the law and all that it calls make is longer than what came in: it says more and counts as full. Else prove '..UptoSaid'. A law counts once. -/
mutual
def uptoBulk {H : Type} : DataW H → Nat
  | .lit (.string bytes) => bytes.length + 1
  | .lit _ => 1
  | .nil => 1
  | .ptr d => uptoBulk d + 1
  | .slice elems spare => uptoBulkAll elems + uptoBulkAll spare + 1
  | .agg parts => uptoBulkAll parts + 1
  | .iface _ d => uptoBulk d + 1
  | .map entries => uptoBulkEntries entries + 1
  | .held _ => 1
def uptoBulkAll {H : Type} : List (DataW H) → Nat
  | [] => 0
  | d :: r => uptoBulk d + uptoBulkAll r
def uptoBulkEntries {H : Type} : List (Lit × DataW H) → Nat
  | [] => 0
  | x :: r => uptoBulkEntry x + uptoBulkEntries r
def uptoBulkEntry {H : Type} : Lit × DataW H → Nat
  | (.string bytes, d) => bytes.length + uptoBulk d + 1
  | (_, d) => uptoBulk d + 1
 end
def uptoSmall : (H : Type) → List (DataW H) → Bool := fun _ ds => decide (uptoBulkAll ds ≤ 1048576)
def OpenSpec.upto (s : _root_.Go.ChangeSpec) : _root_.Go.OpenSpec := { _root_.Go.OpenSpec.ofChange s with cond := some uptoSmall }

/-- 'laws.FnExactReadCounter', WHERE WHAT IT READS IS OF BULK AT MOST 1048576: true; the input reads as it did. -/
def fnExactReadCounterUptoRow : OpenClaim := { program := "ytmmpnlhanljhiaa", sum := "9767fb8eec9abd66d50186187a0d82d1bf9bfbb8df8833564b4984d04f9e9ac1", func := "loop.example/g01012/laws.FnExactReadCounter", spec := "fnExactReadCounter", unfollowed := true, recurses := true, apart := false, narrowed := true }
def FnExactReadCounterUptoSaid : Prop := fnExactReadCounterUptoRow.holds Try.pinned (OpenSpec.upto fnExactReadCounterSpec)

/-- 'laws.FnExactCounterText', WHERE WHAT IT READS IS OF BULK AT MOST 1048576: true; the input reads as it did. -/
def fnExactCounterTextUptoRow : OpenClaim := { program := "ytmmpnlhanljhiaa", sum := "9767fb8eec9abd66d50186187a0d82d1bf9bfbb8df8833564b4984d04f9e9ac1", func := "loop.example/g01012/laws.FnExactCounterText", spec := "fnExactCounterText", unfollowed := true, recurses := true, apart := false, narrowed := true }
def FnExactCounterTextUptoSaid : Prop := fnExactCounterTextUptoRow.holds Try.pinned (OpenSpec.upto fnExactCounterTextSpec)

/-- 'laws.FnExactNumberShown', WHERE WHAT IT READS IS OF BULK AT MOST 1048576: true; the input reads as it did. -/
def fnExactNumberShownUptoRow : OpenClaim := { program := "ytmmpnlhanljhiaa", sum := "9767fb8eec9abd66d50186187a0d82d1bf9bfbb8df8833564b4984d04f9e9ac1", func := "loop.example/g01012/laws.FnExactNumberShown", spec := "fnExactNumberShown", unfollowed := true, recurses := true, apart := false, narrowed := true }
def FnExactNumberShownUptoSaid : Prop := fnExactNumberShownUptoRow.holds Try.pinned (OpenSpec.upto fnExactNumberShownSpec)

/-- 'laws.FnExactJoinCounters', WHERE WHAT IT READS IS OF BULK AT MOST 1048576: true; the input reads as it did. -/
def fnExactJoinCountersUptoRow : OpenClaim := { program := "ytmmpnlhanljhiaa", sum := "9767fb8eec9abd66d50186187a0d82d1bf9bfbb8df8833564b4984d04f9e9ac1", func := "loop.example/g01012/laws.FnExactJoinCounters", spec := "fnExactJoinCounters", unfollowed := true, recurses := true, apart := false, narrowed := true }
def FnExactJoinCountersUptoSaid : Prop := fnExactJoinCountersUptoRow.holds Try.pinned (OpenSpec.upto fnExactJoinCountersSpec)

/-- 'laws.FnExactSplitCounter', WHERE WHAT IT READS IS OF BULK AT MOST 1048576: true; the input reads as it did. -/
def fnExactSplitCounterUptoRow : OpenClaim := { program := "ytmmpnlhanljhiaa", sum := "9767fb8eec9abd66d50186187a0d82d1bf9bfbb8df8833564b4984d04f9e9ac1", func := "loop.example/g01012/laws.FnExactSplitCounter", spec := "fnExactSplitCounter", unfollowed := true, recurses := true, apart := false, narrowed := true }
def FnExactSplitCounterUptoSaid : Prop := fnExactSplitCounterUptoRow.holds Try.pinned (OpenSpec.upto fnExactSplitCounterSpec)

/-- 'laws.FnExactComplementOf', WHERE WHAT IT READS IS OF BULK AT MOST 1048576: true; the input reads as it did. -/
def fnExactComplementOfUptoRow : OpenClaim := { program := "ytmmpnlhanljhiaa", sum := "9767fb8eec9abd66d50186187a0d82d1bf9bfbb8df8833564b4984d04f9e9ac1", func := "loop.example/g01012/laws.FnExactComplementOf", spec := "fnExactComplementOf", unfollowed := true, recurses := true, apart := false, narrowed := true }
def FnExactComplementOfUptoSaid : Prop := fnExactComplementOfUptoRow.holds Try.pinned (OpenSpec.upto fnExactComplementOfSpec)

/-- 'laws.FnExactCarriesOf', WHERE WHAT IT READS IS OF BULK AT MOST 1048576: true; the input reads as it did. -/
def fnExactCarriesOfUptoRow : OpenClaim := { program := "ytmmpnlhanljhiaa", sum := "9767fb8eec9abd66d50186187a0d82d1bf9bfbb8df8833564b4984d04f9e9ac1", func := "loop.example/g01012/laws.FnExactCarriesOf", spec := "fnExactCarriesOf", unfollowed := true, recurses := true, apart := false, narrowed := true }
def FnExactCarriesOfUptoSaid : Prop := fnExactCarriesOfUptoRow.holds Try.pinned (OpenSpec.upto fnExactCarriesOfSpec)

/-- 'laws.FnExactBalanceAfter', WHERE WHAT IT READS IS OF BULK AT MOST 1048576: true; the input reads as it did. -/
def fnExactBalanceAfterUptoRow : OpenClaim := { program := "ytmmpnlhanljhiaa", sum := "9767fb8eec9abd66d50186187a0d82d1bf9bfbb8df8833564b4984d04f9e9ac1", func := "loop.example/g01012/laws.FnExactBalanceAfter", spec := "fnExactBalanceAfter", apart := false, narrowed := true }
def FnExactBalanceAfterUptoSaid : Prop := fnExactBalanceAfterUptoRow.holds Try.pinned (OpenSpec.upto fnExactBalanceAfterSpec)

/-- 'laws.FnExactAddToCounter', WHERE WHAT IT READS IS OF BULK AT MOST 1048576: true; the input reads as it did. -/
def fnExactAddToCounterUptoRow : OpenClaim := { program := "ytmmpnlhanljhiaa", sum := "9767fb8eec9abd66d50186187a0d82d1bf9bfbb8df8833564b4984d04f9e9ac1", func := "loop.example/g01012/laws.FnExactAddToCounter", spec := "fnExactAddToCounter", unfollowed := true, recurses := true, apart := false, narrowed := true }
def FnExactAddToCounterUptoSaid : Prop := fnExactAddToCounterUptoRow.holds Try.pinned (OpenSpec.upto fnExactAddToCounterSpec)

/-- 'laws.FnExactTakeFromCounter', WHERE WHAT IT READS IS OF BULK AT MOST 1048576: true; the input reads as it did. -/
def fnExactTakeFromCounterUptoRow : OpenClaim := { program := "ytmmpnlhanljhiaa", sum := "9767fb8eec9abd66d50186187a0d82d1bf9bfbb8df8833564b4984d04f9e9ac1", func := "loop.example/g01012/laws.FnExactTakeFromCounter", spec := "fnExactTakeFromCounter", unfollowed := true, recurses := true, apart := false, narrowed := true }
def FnExactTakeFromCounterUptoSaid : Prop := fnExactTakeFromCounterUptoRow.holds Try.pinned (OpenSpec.upto fnExactTakeFromCounterSpec)

/-- 'laws.FnBalances', WHERE WHAT IT READS IS OF BULK AT MOST 1048576: true; the input reads as it did. -/
def fnBalancesUptoRow : OpenClaim := { program := "ytmmpnlhanljhiaa", sum := "9767fb8eec9abd66d50186187a0d82d1bf9bfbb8df8833564b4984d04f9e9ac1", func := "loop.example/g01012/laws.FnBalances", spec := "fnBalances", unfollowed := true, recurses := true, apart := false, narrowed := true }
def FnBalancesUptoSaid : Prop := fnBalancesUptoRow.holds Try.pinned (OpenSpec.upto fnBalancesSpec)

end Rows
end Go.Proofs.Ytmmpnlhanljhiaa

/-
  No cell of these rows narrows 'for every input' (looked for: loops, veiled, ifaces, maps, wideKeys, modest, calm, conditions, laid).
  DERIVED. THE GIVEN ROWS OF THIS SEAT. 5 by the template 'for every input the law returns true; each argument reads behind the call as it read before'; 0 by the template 'total and deterministic' (their statements: YtdgofpgpidhobaaTotals.lean).
  GIVEN WITH THE SEED: the statements are not yours to turn. If you find one false, say at which input.
  Laid BY PROGRAM, IN A SANDBOX (cutbox-rows.mjs): the forced cells as the released guide's own fill.sh prints them over the translation c0db4a8fa38816ea… (all of the seat's roots in one cut). By AI agents, Wed Nov 11 2026. No macro, syntax, notation, axiom, sorry.
-/
import Derived.Test.YtdgofpgpidhobaaChecked
import GoSem.Claim
import GoSem.ClaimJoined
import GoSem.ClaimMapViews
import Derived.JoinedTies
import Derived.KernelRfl
namespace Go.Proofs.Ytdgofpgpidhobaa
/- THE CELL 'sum', in the pinned program and in every row, IS THE sha256 OF THE DUMP (.gsa) THAT YtdgofpgpidhobaaProg.lean LOADS. Nothing in Lean hashes anything: it is a label: what it is worth is what the hold of that sum in a sandbox is worth. -/
noncomputable def Try.pinned : Pinned := { name := "ytdgofpgpidhobaa", sum := "c0db4a8fa38816eab682b027487deeb8498d803d8050a4c78bae9f73e359996a", checked := Try.checked }
namespace Rows
def none {H : Type} : Left H := { results := [], args := [] }

/-- 'laws.FnExactCalcName': WHATEVER THE INPUT: true; the input reads as it did. -/
def fnExactCalcNameSpec : ChangeSpec := { name := "fnExactCalcName", fn := fun _ => fun
  | [d] => { results := [.lit (.bool true)], args := [d] }
  | _ => none }
def fnExactCalcNameRow : OpenClaim := { program := "ytdgofpgpidhobaa", sum := "c0db4a8fa38816eab682b027487deeb8498d803d8050a4c78bae9f73e359996a", func := "loop.example/g01012/laws.FnExactCalcName", spec := "fnExactCalcName", apart := false }
def FnExactCalcNameSaid : Prop := fnExactCalcNameRow.holds Try.pinned (OpenSpec.ofChange fnExactCalcNameSpec)

/-- ITS FALSE NEIGHBOUR: 'it returns false'. Refute it at one input. -/
def fnExactCalcNameWrong : ChangeSpec := { name := "fnExactCalcName", fn := fun _ => fun
  | [d] => { results := [.lit (.bool false)], args := [d] }
  | _ => none }
def FnExactCalcNameWrongFalsely : Prop := fnExactCalcNameRow.holds Try.pinned (OpenSpec.ofChange fnExactCalcNameWrong)

/-- 'laws.FnExactComponentsOf': WHATEVER THE INPUT: true; the input reads as it did. -/
def fnExactComponentsOfSpec : ChangeSpec := { name := "fnExactComponentsOf", fn := fun _ => fun
  | [d1, d2] => { results := [.lit (.bool true)], args := [d1, d2] }
  | _ => none }
def fnExactComponentsOfRow : OpenClaim := { program := "ytdgofpgpidhobaa", sum := "c0db4a8fa38816eab682b027487deeb8498d803d8050a4c78bae9f73e359996a", func := "loop.example/g01012/laws.FnExactComponentsOf", spec := "fnExactComponentsOf", apart := false }
def FnExactComponentsOfSaid : Prop := fnExactComponentsOfRow.holds Try.pinned (OpenSpec.ofChange fnExactComponentsOfSpec)

/-- ITS FALSE NEIGHBOUR: 'it returns false'. Refute it at one input. -/
def fnExactComponentsOfWrong : ChangeSpec := { name := "fnExactComponentsOf", fn := fun _ => fun
  | [d1, d2] => { results := [.lit (.bool false)], args := [d1, d2] }
  | _ => none }
def FnExactComponentsOfWrongFalsely : Prop := fnExactComponentsOfRow.holds Try.pinned (OpenSpec.ofChange fnExactComponentsOfWrong)

/-- 'laws.FnExactHalfAdjust': WHATEVER THE INPUT: true; the input reads as it did. -/
def fnExactHalfAdjustSpec : ChangeSpec := { name := "fnExactHalfAdjust", fn := fun _ => fun
  | [d1, d2] => { results := [.lit (.bool true)], args := [d1, d2] }
  | _ => none }
def fnExactHalfAdjustRow : OpenClaim := { program := "ytdgofpgpidhobaa", sum := "c0db4a8fa38816eab682b027487deeb8498d803d8050a4c78bae9f73e359996a", func := "loop.example/g01012/laws.FnExactHalfAdjust", spec := "fnExactHalfAdjust", apart := false }
def FnExactHalfAdjustSaid : Prop := fnExactHalfAdjustRow.holds Try.pinned (OpenSpec.ofChange fnExactHalfAdjustSpec)

/-- ITS FALSE NEIGHBOUR: 'it returns false'. Refute it at one input. -/
def fnExactHalfAdjustWrong : ChangeSpec := { name := "fnExactHalfAdjust", fn := fun _ => fun
  | [d1, d2] => { results := [.lit (.bool false)], args := [d1, d2] }
  | _ => none }
def FnExactHalfAdjustWrongFalsely : Prop := fnExactHalfAdjustRow.holds Try.pinned (OpenSpec.ofChange fnExactHalfAdjustWrong)

/-- 'laws.FnExactSameCounter': WHATEVER THE INPUT: true; the input reads as it did. -/
def fnExactSameCounterSpec : ChangeSpec := { name := "fnExactSameCounter", fn := fun _ => fun
  | [d1, d2] => { results := [.lit (.bool true)], args := [d1, d2] }
  | _ => none }
def fnExactSameCounterRow : OpenClaim := { program := "ytdgofpgpidhobaa", sum := "c0db4a8fa38816eab682b027487deeb8498d803d8050a4c78bae9f73e359996a", func := "loop.example/g01012/laws.FnExactSameCounter", spec := "fnExactSameCounter", apart := false }
def FnExactSameCounterSaid : Prop := fnExactSameCounterRow.holds Try.pinned (OpenSpec.ofChange fnExactSameCounterSpec)

/-- ITS FALSE NEIGHBOUR: 'it returns false'. Refute it at one input. -/
def fnExactSameCounterWrong : ChangeSpec := { name := "fnExactSameCounter", fn := fun _ => fun
  | [d1, d2] => { results := [.lit (.bool false)], args := [d1, d2] }
  | _ => none }
def FnExactSameCounterWrongFalsely : Prop := fnExactSameCounterRow.holds Try.pinned (OpenSpec.ofChange fnExactSameCounterWrong)

/-- 'laws.FnExactValidCounter': WHATEVER THE INPUT: true; the input reads as it did. -/
def fnExactValidCounterSpec : ChangeSpec := { name := "fnExactValidCounter", fn := fun _ => fun
  | [d] => { results := [.lit (.bool true)], args := [d] }
  | _ => none }
def fnExactValidCounterRow : OpenClaim := { program := "ytdgofpgpidhobaa", sum := "c0db4a8fa38816eab682b027487deeb8498d803d8050a4c78bae9f73e359996a", func := "loop.example/g01012/laws.FnExactValidCounter", spec := "fnExactValidCounter", unfollowed := true, recurses := true, apart := false }
def FnExactValidCounterSaid : Prop := fnExactValidCounterRow.holds Try.pinned (OpenSpec.ofChange fnExactValidCounterSpec)

/-- ITS FALSE NEIGHBOUR: 'it returns false'. Refute it at one input. -/
def fnExactValidCounterWrong : ChangeSpec := { name := "fnExactValidCounter", fn := fun _ => fun
  | [d] => { results := [.lit (.bool false)], args := [d] }
  | _ => none }
def FnExactValidCounterWrongFalsely : Prop := fnExactValidCounterRow.holds Try.pinned (OpenSpec.ofChange fnExactValidCounterWrong)

/- THE SECOND FORM. 'bulk': how many values and letters a reading holds, each counted each time it is reached (what is shared counts as often as it is met; a slice's spare places count too). A statement '..UptoSaid' is the law's where the arguments, and the package variables that the reading takes, are together of bulk at most 1048576: NARROWER than '..Said'. Prove '..Said' where nothing that the law and all that it calls make is longer than what came in: it says more and counts as full. Else prove '..UptoSaid'. A law counts once. -/
mutual
def uptoBulk {H : Type} : DataW H → Nat
  | .lit (.string bytes) => bytes.length + 1
  | .lit _ => 1
  | .nil => 1
  | .ptr d => uptoBulk d + 1
  | .slice elems spare => uptoBulkAll elems + uptoBulkAll spare + 1
  | .agg parts => uptoBulkAll parts + 1
  | .iface _ d => uptoBulk d + 1
  | .map entries => uptoBulkEntries entries + 1
  | .held _ => 1
def uptoBulkAll {H : Type} : List (DataW H) → Nat
  | [] => 0
  | d :: r => uptoBulk d + uptoBulkAll r
def uptoBulkEntries {H : Type} : List (Lit × DataW H) → Nat
  | [] => 0
  | x :: r => uptoBulkEntry x + uptoBulkEntries r
def uptoBulkEntry {H : Type} : Lit × DataW H → Nat
  | (.string bytes, d) => bytes.length + uptoBulk d + 1
  | (_, d) => uptoBulk d + 1
 end
def uptoSmall : (H : Type) → List (DataW H) → Bool := fun _ ds => decide (uptoBulkAll ds ≤ 1048576)
def OpenSpec.upto (s : _root_.Go.ChangeSpec) : _root_.Go.OpenSpec := { _root_.Go.OpenSpec.ofChange s with cond := some uptoSmall }

/-- 'laws.FnExactCalcName', WHERE WHAT IT READS IS OF BULK AT MOST 1048576: true; the input reads as it did. -/
def fnExactCalcNameUptoRow : OpenClaim := { program := "ytdgofpgpidhobaa", sum := "c0db4a8fa38816eab682b027487deeb8498d803d8050a4c78bae9f73e359996a", func := "loop.example/g01012/laws.FnExactCalcName", spec := "fnExactCalcName", apart := false, narrowed := true }
def FnExactCalcNameUptoSaid : Prop := fnExactCalcNameUptoRow.holds Try.pinned (OpenSpec.upto fnExactCalcNameSpec)

/-- 'laws.FnExactComponentsOf', WHERE WHAT IT READS IS OF BULK AT MOST 1048576: true; the input reads as it did. -/
def fnExactComponentsOfUptoRow : OpenClaim := { program := "ytdgofpgpidhobaa", sum := "c0db4a8fa38816eab682b027487deeb8498d803d8050a4c78bae9f73e359996a", func := "loop.example/g01012/laws.FnExactComponentsOf", spec := "fnExactComponentsOf", apart := false, narrowed := true }
def FnExactComponentsOfUptoSaid : Prop := fnExactComponentsOfUptoRow.holds Try.pinned (OpenSpec.upto fnExactComponentsOfSpec)

/-- 'laws.FnExactHalfAdjust', WHERE WHAT IT READS IS OF BULK AT MOST 1048576: true; the input reads as it did. -/
def fnExactHalfAdjustUptoRow : OpenClaim := { program := "ytdgofpgpidhobaa", sum := "c0db4a8fa38816eab682b027487deeb8498d803d8050a4c78bae9f73e359996a", func := "loop.example/g01012/laws.FnExactHalfAdjust", spec := "fnExactHalfAdjust", apart := false, narrowed := true }
def FnExactHalfAdjustUptoSaid : Prop := fnExactHalfAdjustUptoRow.holds Try.pinned (OpenSpec.upto fnExactHalfAdjustSpec)

/-- 'laws.FnExactSameCounter', WHERE WHAT IT READS IS OF BULK AT MOST 1048576: true; the input reads as it did. -/
def fnExactSameCounterUptoRow : OpenClaim := { program := "ytdgofpgpidhobaa", sum := "c0db4a8fa38816eab682b027487deeb8498d803d8050a4c78bae9f73e359996a", func := "loop.example/g01012/laws.FnExactSameCounter", spec := "fnExactSameCounter", apart := false, narrowed := true }
def FnExactSameCounterUptoSaid : Prop := fnExactSameCounterUptoRow.holds Try.pinned (OpenSpec.upto fnExactSameCounterSpec)

/-- 'laws.FnExactValidCounter', WHERE WHAT IT READS IS OF BULK AT MOST 1048576: true; the input reads as it did. -/
def fnExactValidCounterUptoRow : OpenClaim := { program := "ytdgofpgpidhobaa", sum := "c0db4a8fa38816eab682b027487deeb8498d803d8050a4c78bae9f73e359996a", func := "loop.example/g01012/laws.FnExactValidCounter", spec := "fnExactValidCounter", unfollowed := true, recurses := true, apart := false, narrowed := true }
def FnExactValidCounterUptoSaid : Prop := fnExactValidCounterUptoRow.holds Try.pinned (OpenSpec.upto fnExactValidCounterSpec)

end Rows
end Go.Proofs.Ytdgofpgpidhobaa

/-
  No cell of these rows narrows 'for every input' (looked for: loops, veiled, ifaces, maps, wideKeys, modest, calm, conditions, laid).
  DERIVED. THE GIVEN ROWS OF THIS SEAT. 12 by the template 'for every input the law returns true; each argument reads behind the call as it read before'; 0 by the template 'total and deterministic' (their statements: YtoknchhgjodpaaaTotals.lean).
  GIVEN WITH THE SEED: the statements are not yours to turn. If you find one false, say at which input.
  Laid BY PROGRAM, IN A SANDBOX (cutbox-rows.mjs): the forced cells as the released guide's own fill.sh prints them over the translation 2520134f90268cd2… (all of the seat's roots in one cut). By AI agents, Wed Nov 11 2026. No macro, syntax, notation, axiom, sorry.
-/
import Derived.Test.YtoknchhgjodpaaaChecked
import GoSem.Claim
import GoSem.ClaimJoined
import GoSem.ClaimMapViews
import Derived.JoinedTies
import Derived.KernelRfl
namespace Go.Proofs.Ytoknchhgjodpaaa
/- THE CELL 'sum', in the pinned program and in every row, IS THE sha256 OF THE DUMP (.gsa) THAT YtoknchhgjodpaaaProg.lean LOADS. Nothing in Lean hashes anything: it is a label: what it is worth is what the hold of that sum in a sandbox is worth. -/
noncomputable def Try.pinned : Pinned := { name := "ytoknchhgjodpaaa", sum := "2520134f90268cd205d4886dfea28a806f1477318d8299962251ef180be75e8e", checked := Try.checked }
namespace Rows
def none {H : Type} : Left H := { results := [], args := [] }

/-- 'laws.FnExactSameBoard': WHATEVER THE INPUT: true; the input reads as it did. -/
def fnExactSameBoardSpec : ChangeSpec := { name := "fnExactSameBoard", fn := fun _ => fun
  | [d1, d2] => { results := [.lit (.bool true)], args := [d1, d2] }
  | _ => none }
def fnExactSameBoardRow : OpenClaim := { program := "ytoknchhgjodpaaa", sum := "2520134f90268cd205d4886dfea28a806f1477318d8299962251ef180be75e8e", func := "loop.example/g01012/laws.FnExactSameBoard", spec := "fnExactSameBoard", apart := false }
def FnExactSameBoardSaid : Prop := fnExactSameBoardRow.holds Try.pinned (OpenSpec.ofChange fnExactSameBoardSpec)

/-- ITS FALSE NEIGHBOUR: 'it returns false'. Refute it at one input. -/
def fnExactSameBoardWrong : ChangeSpec := { name := "fnExactSameBoard", fn := fun _ => fun
  | [d1, d2] => { results := [.lit (.bool false)], args := [d1, d2] }
  | _ => none }
def FnExactSameBoardWrongFalsely : Prop := fnExactSameBoardRow.holds Try.pinned (OpenSpec.ofChange fnExactSameBoardWrong)

/-- 'laws.FnExactValidBoard': WHATEVER THE INPUT: true; the input reads as it did. -/
def fnExactValidBoardSpec : ChangeSpec := { name := "fnExactValidBoard", fn := fun _ => fun
  | [d] => { results := [.lit (.bool true)], args := [d] }
  | _ => none }
def fnExactValidBoardRow : OpenClaim := { program := "ytoknchhgjodpaaa", sum := "2520134f90268cd205d4886dfea28a806f1477318d8299962251ef180be75e8e", func := "loop.example/g01012/laws.FnExactValidBoard", spec := "fnExactValidBoard", unfollowed := true, recurses := true, apart := false }
def FnExactValidBoardSaid : Prop := fnExactValidBoardRow.holds Try.pinned (OpenSpec.ofChange fnExactValidBoardSpec)

/-- ITS FALSE NEIGHBOUR: 'it returns false'. Refute it at one input. -/
def fnExactValidBoardWrong : ChangeSpec := { name := "fnExactValidBoard", fn := fun _ => fun
  | [d] => { results := [.lit (.bool false)], args := [d] }
  | _ => none }
def FnExactValidBoardWrongFalsely : Prop := fnExactValidBoardRow.holds Try.pinned (OpenSpec.ofChange fnExactValidBoardWrong)

/-- 'laws.FnExactAddWire': WHATEVER THE INPUT: true; the input reads as it did. -/
def fnExactAddWireSpec : ChangeSpec := { name := "fnExactAddWire", fn := fun _ => fun
  | [d1, d2] => { results := [.lit (.bool true)], args := [d1, d2] }
  | _ => none }
def fnExactAddWireRow : OpenClaim := { program := "ytoknchhgjodpaaa", sum := "2520134f90268cd205d4886dfea28a806f1477318d8299962251ef180be75e8e", func := "loop.example/g01012/laws.FnExactAddWire", spec := "fnExactAddWire", unfollowed := true, recurses := true, apart := false }
def FnExactAddWireSaid : Prop := fnExactAddWireRow.holds Try.pinned (OpenSpec.ofChange fnExactAddWireSpec)

/-- ITS FALSE NEIGHBOUR: 'it returns false'. Refute it at one input. -/
def fnExactAddWireWrong : ChangeSpec := { name := "fnExactAddWire", fn := fun _ => fun
  | [d1, d2] => { results := [.lit (.bool false)], args := [d1, d2] }
  | _ => none }
def FnExactAddWireWrongFalsely : Prop := fnExactAddWireRow.holds Try.pinned (OpenSpec.ofChange fnExactAddWireWrong)

/-- 'laws.FnExactRemoveWire': WHATEVER THE INPUT: true; the input reads as it did. -/
def fnExactRemoveWireSpec : ChangeSpec := { name := "fnExactRemoveWire", fn := fun _ => fun
  | [d1, d2] => { results := [.lit (.bool true)], args := [d1, d2] }
  | _ => none }
def fnExactRemoveWireRow : OpenClaim := { program := "ytoknchhgjodpaaa", sum := "2520134f90268cd205d4886dfea28a806f1477318d8299962251ef180be75e8e", func := "loop.example/g01012/laws.FnExactRemoveWire", spec := "fnExactRemoveWire", unfollowed := true, recurses := true, apart := false }
def FnExactRemoveWireSaid : Prop := fnExactRemoveWireRow.holds Try.pinned (OpenSpec.ofChange fnExactRemoveWireSpec)

/-- ITS FALSE NEIGHBOUR: 'it returns false'. Refute it at one input. -/
def fnExactRemoveWireWrong : ChangeSpec := { name := "fnExactRemoveWire", fn := fun _ => fun
  | [d1, d2] => { results := [.lit (.bool false)], args := [d1, d2] }
  | _ => none }
def FnExactRemoveWireWrongFalsely : Prop := fnExactRemoveWireRow.holds Try.pinned (OpenSpec.ofChange fnExactRemoveWireWrong)

/-- 'laws.FnExactSpareWires': WHATEVER THE INPUT: true; the input reads as it did. -/
def fnExactSpareWiresSpec : ChangeSpec := { name := "fnExactSpareWires", fn := fun _ => fun
  | [d] => { results := [.lit (.bool true)], args := [d] }
  | _ => none }
def fnExactSpareWiresRow : OpenClaim := { program := "ytoknchhgjodpaaa", sum := "2520134f90268cd205d4886dfea28a806f1477318d8299962251ef180be75e8e", func := "loop.example/g01012/laws.FnExactSpareWires", spec := "fnExactSpareWires", unfollowed := true, recurses := true, apart := false }
def FnExactSpareWiresSaid : Prop := fnExactSpareWiresRow.holds Try.pinned (OpenSpec.ofChange fnExactSpareWiresSpec)

/-- ITS FALSE NEIGHBOUR: 'it returns false'. Refute it at one input. -/
def fnExactSpareWiresWrong : ChangeSpec := { name := "fnExactSpareWires", fn := fun _ => fun
  | [d] => { results := [.lit (.bool false)], args := [d] }
  | _ => none }
def FnExactSpareWiresWrongFalsely : Prop := fnExactSpareWiresRow.holds Try.pinned (OpenSpec.ofChange fnExactSpareWiresWrong)

/-- 'laws.FnExactOpenEntries': WHATEVER THE INPUT: true; the input reads as it did. -/
def fnExactOpenEntriesSpec : ChangeSpec := { name := "fnExactOpenEntries", fn := fun _ => fun
  | [d] => { results := [.lit (.bool true)], args := [d] }
  | _ => none }
def fnExactOpenEntriesRow : OpenClaim := { program := "ytoknchhgjodpaaa", sum := "2520134f90268cd205d4886dfea28a806f1477318d8299962251ef180be75e8e", func := "loop.example/g01012/laws.FnExactOpenEntries", spec := "fnExactOpenEntries", unfollowed := true, recurses := true, apart := false }
def FnExactOpenEntriesSaid : Prop := fnExactOpenEntriesRow.holds Try.pinned (OpenSpec.ofChange fnExactOpenEntriesSpec)

/-- ITS FALSE NEIGHBOUR: 'it returns false'. Refute it at one input. -/
def fnExactOpenEntriesWrong : ChangeSpec := { name := "fnExactOpenEntries", fn := fun _ => fun
  | [d] => { results := [.lit (.bool false)], args := [d] }
  | _ => none }
def FnExactOpenEntriesWrongFalsely : Prop := fnExactOpenEntriesRow.holds Try.pinned (OpenSpec.ofChange fnExactOpenEntriesWrong)

/-- 'laws.FnExactSourcesOf': WHATEVER THE INPUT: true; the input reads as it did. -/
def fnExactSourcesOfSpec : ChangeSpec := { name := "fnExactSourcesOf", fn := fun _ => fun
  | [d1, d2] => { results := [.lit (.bool true)], args := [d1, d2] }
  | _ => none }
def fnExactSourcesOfRow : OpenClaim := { program := "ytoknchhgjodpaaa", sum := "2520134f90268cd205d4886dfea28a806f1477318d8299962251ef180be75e8e", func := "loop.example/g01012/laws.FnExactSourcesOf", spec := "fnExactSourcesOf", unfollowed := true, recurses := true, apart := false }
def FnExactSourcesOfSaid : Prop := fnExactSourcesOfRow.holds Try.pinned (OpenSpec.ofChange fnExactSourcesOfSpec)

/-- ITS FALSE NEIGHBOUR: 'it returns false'. Refute it at one input. -/
def fnExactSourcesOfWrong : ChangeSpec := { name := "fnExactSourcesOf", fn := fun _ => fun
  | [d1, d2] => { results := [.lit (.bool false)], args := [d1, d2] }
  | _ => none }
def FnExactSourcesOfWrongFalsely : Prop := fnExactSourcesOfRow.holds Try.pinned (OpenSpec.ofChange fnExactSourcesOfWrong)

/-- 'laws.FnExactJoinedHubs': WHATEVER THE INPUT: true; the input reads as it did. -/
def fnExactJoinedHubsSpec : ChangeSpec := { name := "fnExactJoinedHubs", fn := fun _ => fun
  | [d1, d2] => { results := [.lit (.bool true)], args := [d1, d2] }
  | _ => none }
def fnExactJoinedHubsRow : OpenClaim := { program := "ytoknchhgjodpaaa", sum := "2520134f90268cd205d4886dfea28a806f1477318d8299962251ef180be75e8e", func := "loop.example/g01012/laws.FnExactJoinedHubs", spec := "fnExactJoinedHubs", unfollowed := true, recurses := true, apart := false }
def FnExactJoinedHubsSaid : Prop := fnExactJoinedHubsRow.holds Try.pinned (OpenSpec.ofChange fnExactJoinedHubsSpec)

/-- ITS FALSE NEIGHBOUR: 'it returns false'. Refute it at one input. -/
def fnExactJoinedHubsWrong : ChangeSpec := { name := "fnExactJoinedHubs", fn := fun _ => fun
  | [d1, d2] => { results := [.lit (.bool false)], args := [d1, d2] }
  | _ => none }
def FnExactJoinedHubsWrongFalsely : Prop := fnExactJoinedHubsRow.holds Try.pinned (OpenSpec.ofChange fnExactJoinedHubsWrong)

/-- 'laws.FnExactSneakPairs': WHATEVER THE INPUT: true; the input reads as it did. -/
def fnExactSneakPairsSpec : ChangeSpec := { name := "fnExactSneakPairs", fn := fun _ => fun
  | [d] => { results := [.lit (.bool true)], args := [d] }
  | _ => none }
def fnExactSneakPairsRow : OpenClaim := { program := "ytoknchhgjodpaaa", sum := "2520134f90268cd205d4886dfea28a806f1477318d8299962251ef180be75e8e", func := "loop.example/g01012/laws.FnExactSneakPairs", spec := "fnExactSneakPairs", unfollowed := true, recurses := true, apart := false }
def FnExactSneakPairsSaid : Prop := fnExactSneakPairsRow.holds Try.pinned (OpenSpec.ofChange fnExactSneakPairsSpec)

/-- ITS FALSE NEIGHBOUR: 'it returns false'. Refute it at one input. -/
def fnExactSneakPairsWrong : ChangeSpec := { name := "fnExactSneakPairs", fn := fun _ => fun
  | [d] => { results := [.lit (.bool false)], args := [d] }
  | _ => none }
def FnExactSneakPairsWrongFalsely : Prop := fnExactSneakPairsRow.holds Try.pinned (OpenSpec.ofChange fnExactSneakPairsWrong)

/-- 'laws.FnExactNetsOf': WHATEVER THE INPUT: true; the input reads as it did. -/
def fnExactNetsOfSpec : ChangeSpec := { name := "fnExactNetsOf", fn := fun _ => fun
  | [d] => { results := [.lit (.bool true)], args := [d] }
  | _ => none }
def fnExactNetsOfRow : OpenClaim := { program := "ytoknchhgjodpaaa", sum := "2520134f90268cd205d4886dfea28a806f1477318d8299962251ef180be75e8e", func := "loop.example/g01012/laws.FnExactNetsOf", spec := "fnExactNetsOf", unfollowed := true, recurses := true, apart := false }
def FnExactNetsOfSaid : Prop := fnExactNetsOfRow.holds Try.pinned (OpenSpec.ofChange fnExactNetsOfSpec)

/-- ITS FALSE NEIGHBOUR: 'it returns false'. Refute it at one input. -/
def fnExactNetsOfWrong : ChangeSpec := { name := "fnExactNetsOf", fn := fun _ => fun
  | [d] => { results := [.lit (.bool false)], args := [d] }
  | _ => none }
def FnExactNetsOfWrongFalsely : Prop := fnExactNetsOfRow.holds Try.pinned (OpenSpec.ofChange fnExactNetsOfWrong)

/-- 'laws.FnExactRouteCard': WHATEVER THE INPUT: true; the input reads as it did. -/
def fnExactRouteCardSpec : ChangeSpec := { name := "fnExactRouteCard", fn := fun _ => fun
  | [d1, d2] => { results := [.lit (.bool true)], args := [d1, d2] }
  | _ => none }
def fnExactRouteCardRow : OpenClaim := { program := "ytoknchhgjodpaaa", sum := "2520134f90268cd205d4886dfea28a806f1477318d8299962251ef180be75e8e", func := "loop.example/g01012/laws.FnExactRouteCard", spec := "fnExactRouteCard", unfollowed := true, recurses := true, apart := false }
def FnExactRouteCardSaid : Prop := fnExactRouteCardRow.holds Try.pinned (OpenSpec.ofChange fnExactRouteCardSpec)

/-- ITS FALSE NEIGHBOUR: 'it returns false'. Refute it at one input. -/
def fnExactRouteCardWrong : ChangeSpec := { name := "fnExactRouteCard", fn := fun _ => fun
  | [d1, d2] => { results := [.lit (.bool false)], args := [d1, d2] }
  | _ => none }
def FnExactRouteCardWrongFalsely : Prop := fnExactRouteCardRow.holds Try.pinned (OpenSpec.ofChange fnExactRouteCardWrong)

/-- 'laws.FnExactFewestCuts': WHATEVER THE INPUT: true; the input reads as it did. -/
def fnExactFewestCutsSpec : ChangeSpec := { name := "fnExactFewestCuts", fn := fun _ => fun
  | [d] => { results := [.lit (.bool true)], args := [d] }
  | _ => none }
def fnExactFewestCutsRow : OpenClaim := { program := "ytoknchhgjodpaaa", sum := "2520134f90268cd205d4886dfea28a806f1477318d8299962251ef180be75e8e", func := "loop.example/g01012/laws.FnExactFewestCuts", spec := "fnExactFewestCuts", unfollowed := true, recurses := true, apart := false }
def FnExactFewestCutsSaid : Prop := fnExactFewestCutsRow.holds Try.pinned (OpenSpec.ofChange fnExactFewestCutsSpec)

/-- ITS FALSE NEIGHBOUR: 'it returns false'. Refute it at one input. -/
def fnExactFewestCutsWrong : ChangeSpec := { name := "fnExactFewestCuts", fn := fun _ => fun
  | [d] => { results := [.lit (.bool false)], args := [d] }
  | _ => none }
def FnExactFewestCutsWrongFalsely : Prop := fnExactFewestCutsRow.holds Try.pinned (OpenSpec.ofChange fnExactFewestCutsWrong)

/- THE SECOND FORM. 'bulk': how many values and letters a reading holds, each counted each time it is reached (what is shared counts as often as it is met; a slice's spare places count too). A statement '..UptoSaid' is the law's where the arguments, and the package variables that the reading takes, are together of bulk at most 1048576: NARROWER than '..Said'. Prove '..Said' where nothing that the law and all that it calls make is longer than what came in: it says more and counts as full. Else prove '..UptoSaid'. A law counts once. -/
mutual
def uptoBulk {H : Type} : DataW H → Nat
  | .lit (.string bytes) => bytes.length + 1
  | .lit _ => 1
  | .nil => 1
  | .ptr d => uptoBulk d + 1
  | .slice elems spare => uptoBulkAll elems + uptoBulkAll spare + 1
  | .agg parts => uptoBulkAll parts + 1
  | .iface _ d => uptoBulk d + 1
  | .map entries => uptoBulkEntries entries + 1
  | .held _ => 1
def uptoBulkAll {H : Type} : List (DataW H) → Nat
  | [] => 0
  | d :: r => uptoBulk d + uptoBulkAll r
def uptoBulkEntries {H : Type} : List (Lit × DataW H) → Nat
  | [] => 0
  | x :: r => uptoBulkEntry x + uptoBulkEntries r
def uptoBulkEntry {H : Type} : Lit × DataW H → Nat
  | (.string bytes, d) => bytes.length + uptoBulk d + 1
  | (_, d) => uptoBulk d + 1
 end
def uptoSmall : (H : Type) → List (DataW H) → Bool := fun _ ds => decide (uptoBulkAll ds ≤ 1048576)
def OpenSpec.upto (s : _root_.Go.ChangeSpec) : _root_.Go.OpenSpec := { _root_.Go.OpenSpec.ofChange s with cond := some uptoSmall }

/-- 'laws.FnExactSameBoard', WHERE WHAT IT READS IS OF BULK AT MOST 1048576: true; the input reads as it did. -/
def fnExactSameBoardUptoRow : OpenClaim := { program := "ytoknchhgjodpaaa", sum := "2520134f90268cd205d4886dfea28a806f1477318d8299962251ef180be75e8e", func := "loop.example/g01012/laws.FnExactSameBoard", spec := "fnExactSameBoard", apart := false, narrowed := true }
def FnExactSameBoardUptoSaid : Prop := fnExactSameBoardUptoRow.holds Try.pinned (OpenSpec.upto fnExactSameBoardSpec)

/-- 'laws.FnExactValidBoard', WHERE WHAT IT READS IS OF BULK AT MOST 1048576: true; the input reads as it did. -/
def fnExactValidBoardUptoRow : OpenClaim := { program := "ytoknchhgjodpaaa", sum := "2520134f90268cd205d4886dfea28a806f1477318d8299962251ef180be75e8e", func := "loop.example/g01012/laws.FnExactValidBoard", spec := "fnExactValidBoard", unfollowed := true, recurses := true, apart := false, narrowed := true }
def FnExactValidBoardUptoSaid : Prop := fnExactValidBoardUptoRow.holds Try.pinned (OpenSpec.upto fnExactValidBoardSpec)

/-- 'laws.FnExactAddWire', WHERE WHAT IT READS IS OF BULK AT MOST 1048576: true; the input reads as it did. -/
def fnExactAddWireUptoRow : OpenClaim := { program := "ytoknchhgjodpaaa", sum := "2520134f90268cd205d4886dfea28a806f1477318d8299962251ef180be75e8e", func := "loop.example/g01012/laws.FnExactAddWire", spec := "fnExactAddWire", unfollowed := true, recurses := true, apart := false, narrowed := true }
def FnExactAddWireUptoSaid : Prop := fnExactAddWireUptoRow.holds Try.pinned (OpenSpec.upto fnExactAddWireSpec)

/-- 'laws.FnExactRemoveWire', WHERE WHAT IT READS IS OF BULK AT MOST 1048576: true; the input reads as it did. -/
def fnExactRemoveWireUptoRow : OpenClaim := { program := "ytoknchhgjodpaaa", sum := "2520134f90268cd205d4886dfea28a806f1477318d8299962251ef180be75e8e", func := "loop.example/g01012/laws.FnExactRemoveWire", spec := "fnExactRemoveWire", unfollowed := true, recurses := true, apart := false, narrowed := true }
def FnExactRemoveWireUptoSaid : Prop := fnExactRemoveWireUptoRow.holds Try.pinned (OpenSpec.upto fnExactRemoveWireSpec)

/-- 'laws.FnExactSpareWires', WHERE WHAT IT READS IS OF BULK AT MOST 1048576: true; the input reads as it did. -/
def fnExactSpareWiresUptoRow : OpenClaim := { program := "ytoknchhgjodpaaa", sum := "2520134f90268cd205d4886dfea28a806f1477318d8299962251ef180be75e8e", func := "loop.example/g01012/laws.FnExactSpareWires", spec := "fnExactSpareWires", unfollowed := true, recurses := true, apart := false, narrowed := true }
def FnExactSpareWiresUptoSaid : Prop := fnExactSpareWiresUptoRow.holds Try.pinned (OpenSpec.upto fnExactSpareWiresSpec)

/-- 'laws.FnExactOpenEntries', WHERE WHAT IT READS IS OF BULK AT MOST 1048576: true; the input reads as it did. -/
def fnExactOpenEntriesUptoRow : OpenClaim := { program := "ytoknchhgjodpaaa", sum := "2520134f90268cd205d4886dfea28a806f1477318d8299962251ef180be75e8e", func := "loop.example/g01012/laws.FnExactOpenEntries", spec := "fnExactOpenEntries", unfollowed := true, recurses := true, apart := false, narrowed := true }
def FnExactOpenEntriesUptoSaid : Prop := fnExactOpenEntriesUptoRow.holds Try.pinned (OpenSpec.upto fnExactOpenEntriesSpec)

/-- 'laws.FnExactSourcesOf', WHERE WHAT IT READS IS OF BULK AT MOST 1048576: true; the input reads as it did. -/
def fnExactSourcesOfUptoRow : OpenClaim := { program := "ytoknchhgjodpaaa", sum := "2520134f90268cd205d4886dfea28a806f1477318d8299962251ef180be75e8e", func := "loop.example/g01012/laws.FnExactSourcesOf", spec := "fnExactSourcesOf", unfollowed := true, recurses := true, apart := false, narrowed := true }
def FnExactSourcesOfUptoSaid : Prop := fnExactSourcesOfUptoRow.holds Try.pinned (OpenSpec.upto fnExactSourcesOfSpec)

/-- 'laws.FnExactJoinedHubs', WHERE WHAT IT READS IS OF BULK AT MOST 1048576: true; the input reads as it did. -/
def fnExactJoinedHubsUptoRow : OpenClaim := { program := "ytoknchhgjodpaaa", sum := "2520134f90268cd205d4886dfea28a806f1477318d8299962251ef180be75e8e", func := "loop.example/g01012/laws.FnExactJoinedHubs", spec := "fnExactJoinedHubs", unfollowed := true, recurses := true, apart := false, narrowed := true }
def FnExactJoinedHubsUptoSaid : Prop := fnExactJoinedHubsUptoRow.holds Try.pinned (OpenSpec.upto fnExactJoinedHubsSpec)

/-- 'laws.FnExactSneakPairs', WHERE WHAT IT READS IS OF BULK AT MOST 1048576: true; the input reads as it did. -/
def fnExactSneakPairsUptoRow : OpenClaim := { program := "ytoknchhgjodpaaa", sum := "2520134f90268cd205d4886dfea28a806f1477318d8299962251ef180be75e8e", func := "loop.example/g01012/laws.FnExactSneakPairs", spec := "fnExactSneakPairs", unfollowed := true, recurses := true, apart := false, narrowed := true }
def FnExactSneakPairsUptoSaid : Prop := fnExactSneakPairsUptoRow.holds Try.pinned (OpenSpec.upto fnExactSneakPairsSpec)

/-- 'laws.FnExactNetsOf', WHERE WHAT IT READS IS OF BULK AT MOST 1048576: true; the input reads as it did. -/
def fnExactNetsOfUptoRow : OpenClaim := { program := "ytoknchhgjodpaaa", sum := "2520134f90268cd205d4886dfea28a806f1477318d8299962251ef180be75e8e", func := "loop.example/g01012/laws.FnExactNetsOf", spec := "fnExactNetsOf", unfollowed := true, recurses := true, apart := false, narrowed := true }
def FnExactNetsOfUptoSaid : Prop := fnExactNetsOfUptoRow.holds Try.pinned (OpenSpec.upto fnExactNetsOfSpec)

/-- 'laws.FnExactRouteCard', WHERE WHAT IT READS IS OF BULK AT MOST 1048576: true; the input reads as it did. -/
def fnExactRouteCardUptoRow : OpenClaim := { program := "ytoknchhgjodpaaa", sum := "2520134f90268cd205d4886dfea28a806f1477318d8299962251ef180be75e8e", func := "loop.example/g01012/laws.FnExactRouteCard", spec := "fnExactRouteCard", unfollowed := true, recurses := true, apart := false, narrowed := true }
def FnExactRouteCardUptoSaid : Prop := fnExactRouteCardUptoRow.holds Try.pinned (OpenSpec.upto fnExactRouteCardSpec)

/-- 'laws.FnExactFewestCuts', WHERE WHAT IT READS IS OF BULK AT MOST 1048576: true; the input reads as it did. -/
def fnExactFewestCutsUptoRow : OpenClaim := { program := "ytoknchhgjodpaaa", sum := "2520134f90268cd205d4886dfea28a806f1477318d8299962251ef180be75e8e", func := "loop.example/g01012/laws.FnExactFewestCuts", spec := "fnExactFewestCuts", unfollowed := true, recurses := true, apart := false, narrowed := true }
def FnExactFewestCutsUptoSaid : Prop := fnExactFewestCutsUptoRow.holds Try.pinned (OpenSpec.upto fnExactFewestCutsSpec)

end Rows
end Go.Proofs.Ytoknchhgjodpaaa

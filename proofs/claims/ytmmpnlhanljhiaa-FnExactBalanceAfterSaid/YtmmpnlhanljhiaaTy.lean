/- What is known of this program's types and functions. -/
import Derived.Test.YtmmpnlhanljhiaaL11
import Derived.Test.YtmmpnlhanljhiaaChecked
namespace Go.Proofs.Ytmmpnlhanljhiaa
open Go Go.Gw
theorem mixed : Try.prog.follows .mixedOrders = true := by kernel_rfl
instance : TScal Try.prog 1 := ⟨⟨_, Try.underlying1, rfl⟩, by kernel_rfl⟩
instance : TScal Try.prog 2 := ⟨⟨_, Try.underlying2, rfl⟩, by kernel_rfl⟩
instance : TInt Try.prog 2 .i64 := ⟨Try.underlying2⟩
instance : TZero Try.prog 2 (.int .i64 0) := ⟨by kernel_rfl⟩
instance : TScal Try.prog 3 := ⟨⟨_, Try.underlying3, rfl⟩, by kernel_rfl⟩
instance : TInt Try.prog 3 .i64 := ⟨Try.underlying3⟩
instance : TZero Try.prog 3 (.int .i64 0) := ⟨by kernel_rfl⟩
instance : TScal Try.prog 4 := ⟨⟨_, Try.underlying4, rfl⟩, by kernel_rfl⟩
instance : TBool Try.prog 4 := ⟨Try.underlying4⟩
instance : TZero Try.prog 4 (.bool false) := ⟨by kernel_rfl⟩
instance : TScal Try.prog 5 := ⟨⟨_, Try.underlying5, rfl⟩, by kernel_rfl⟩
instance : TInt Try.prog 5 .u8 := ⟨Try.underlying5⟩
instance : TZero Try.prog 5 (.int .u8 0) := ⟨by kernel_rfl⟩
instance : TScal Try.prog 6 := ⟨⟨_, Try.underlying6, rfl⟩, by kernel_rfl⟩
instance : TInt Try.prog 6 .u8 := ⟨Try.underlying6⟩
instance : TZero Try.prog 6 (.int .u8 0) := ⟨by kernel_rfl⟩
instance : TStr Try.prog 7 4 := ⟨⟨_, Try.underlying7⟩, by kernel_rfl⟩
instance : TFldT Try.prog 7 0 0 2 := ⟨⟨_, _, Try.underlying7, rfl, rfl, rfl⟩⟩
instance : TFld Try.prog 7 0 0 := ⟨⟨_, _, Try.underlying7, rfl, rfl, _, (by kernel_rfl : (Try.prog.info? 2).map (·.size) = some (0 + 1))⟩⟩
instance : TFldT Try.prog 7 1 1 3 := ⟨⟨_, _, Try.underlying7, rfl, rfl, rfl⟩⟩
instance : TFld Try.prog 7 1 1 := ⟨⟨_, _, Try.underlying7, rfl, rfl, _, (by kernel_rfl : (Try.prog.info? 3).map (·.size) = some (0 + 1))⟩⟩
instance : TFldT Try.prog 7 2 2 4 := ⟨⟨_, _, Try.underlying7, rfl, rfl, rfl⟩⟩
instance : TFld Try.prog 7 2 2 := ⟨⟨_, _, Try.underlying7, rfl, rfl, _, (by kernel_rfl : (Try.prog.info? 4).map (·.size) = some (0 + 1))⟩⟩
instance : TFldT Try.prog 7 3 3 6 := ⟨⟨_, _, Try.underlying7, rfl, rfl, rfl⟩⟩
instance : TFld Try.prog 7 3 3 := ⟨⟨_, _, Try.underlying7, rfl, rfl, _, (by kernel_rfl : (Try.prog.info? 6).map (·.size) = some (0 + 1))⟩⟩
instance : TFlat Try.prog 7 [.int .i64 0, .int .i64 0, .bool false, .int .u8 0] := ⟨by kernel_rfl, _, Try.underlying7, by kernel_rfl⟩
instance : TZero Try.prog 7 (.agg #[.int .i64 0, .int .i64 0, .bool false, .int .u8 0]) := ⟨by kernel_rfl⟩
instance : TStr Try.prog 8 4 := ⟨⟨_, Try.underlying8⟩, by kernel_rfl⟩
instance : TFldT Try.prog 8 0 0 2 := ⟨⟨_, _, Try.underlying8, rfl, rfl, rfl⟩⟩
instance : TFld Try.prog 8 0 0 := ⟨⟨_, _, Try.underlying8, rfl, rfl, _, (by kernel_rfl : (Try.prog.info? 2).map (·.size) = some (0 + 1))⟩⟩
instance : TFldT Try.prog 8 1 1 3 := ⟨⟨_, _, Try.underlying8, rfl, rfl, rfl⟩⟩
instance : TFld Try.prog 8 1 1 := ⟨⟨_, _, Try.underlying8, rfl, rfl, _, (by kernel_rfl : (Try.prog.info? 3).map (·.size) = some (0 + 1))⟩⟩
instance : TFldT Try.prog 8 2 2 4 := ⟨⟨_, _, Try.underlying8, rfl, rfl, rfl⟩⟩
instance : TFld Try.prog 8 2 2 := ⟨⟨_, _, Try.underlying8, rfl, rfl, _, (by kernel_rfl : (Try.prog.info? 4).map (·.size) = some (0 + 1))⟩⟩
instance : TFldT Try.prog 8 3 3 6 := ⟨⟨_, _, Try.underlying8, rfl, rfl, rfl⟩⟩
instance : TFld Try.prog 8 3 3 := ⟨⟨_, _, Try.underlying8, rfl, rfl, _, (by kernel_rfl : (Try.prog.info? 6).map (·.size) = some (0 + 1))⟩⟩
instance : TFlat Try.prog 8 [.int .i64 0, .int .i64 0, .bool false, .int .u8 0] := ⟨by kernel_rfl, _, Try.underlying8, by kernel_rfl⟩
instance : TZero Try.prog 8 (.agg #[.int .i64 0, .int .i64 0, .bool false, .int .u8 0]) := ⟨by kernel_rfl⟩
instance : TScal Try.prog 9 := ⟨⟨_, Try.underlying9, rfl⟩, by kernel_rfl⟩
instance : TStg Try.prog 9 := ⟨Try.underlying9⟩
instance : TZero Try.prog 9 (.string ⟨#[]⟩) := ⟨by kernel_rfl⟩
instance : TScal Try.prog 10 := ⟨⟨_, Try.underlying10, rfl⟩, by kernel_rfl⟩
instance : TStg Try.prog 10 := ⟨Try.underlying10⟩
instance : TZero Try.prog 10 (.string ⟨#[]⟩) := ⟨by kernel_rfl⟩
instance : TScal Try.prog 11 := ⟨⟨_, Try.underlying11, rfl⟩, by kernel_rfl⟩
instance : TStg Try.prog 11 := ⟨Try.underlying11⟩
instance : TZero Try.prog 11 (.string ⟨#[]⟩) := ⟨by kernel_rfl⟩
instance : TScal Try.prog 12 := ⟨⟨_, Try.underlying12, rfl⟩, by kernel_rfl⟩
instance : TInt Try.prog 12 .u64 := ⟨Try.underlying12⟩
instance : TZero Try.prog 12 (.int .u64 0) := ⟨by kernel_rfl⟩
instance : TStr Try.prog 13 2 := ⟨⟨_, Try.underlying13⟩, by kernel_rfl⟩
instance : TFldT Try.prog 13 0 0 9 := ⟨⟨_, _, Try.underlying13, rfl, rfl, rfl⟩⟩
instance : TFld Try.prog 13 0 0 := ⟨⟨_, _, Try.underlying13, rfl, rfl, _, (by kernel_rfl : (Try.prog.info? 9).map (·.size) = some (0 + 1))⟩⟩
instance : TFldT Try.prog 13 1 1 12 := ⟨⟨_, _, Try.underlying13, rfl, rfl, rfl⟩⟩
instance : TFld Try.prog 13 1 1 := ⟨⟨_, _, Try.underlying13, rfl, rfl, _, (by kernel_rfl : (Try.prog.info? 12).map (·.size) = some (0 + 1))⟩⟩
instance : TFlat Try.prog 13 [.string ⟨#[]⟩, .int .u64 0] := ⟨by kernel_rfl, _, Try.underlying13, by kernel_rfl⟩
instance : TZero Try.prog 13 (.agg #[.string ⟨#[]⟩, .int .u64 0]) := ⟨by kernel_rfl⟩
instance : TStr Try.prog 14 2 := ⟨⟨_, Try.underlying14⟩, by kernel_rfl⟩
instance : TFldT Try.prog 14 0 0 9 := ⟨⟨_, _, Try.underlying14, rfl, rfl, rfl⟩⟩
instance : TFld Try.prog 14 0 0 := ⟨⟨_, _, Try.underlying14, rfl, rfl, _, (by kernel_rfl : (Try.prog.info? 9).map (·.size) = some (0 + 1))⟩⟩
instance : TFldT Try.prog 14 1 1 12 := ⟨⟨_, _, Try.underlying14, rfl, rfl, rfl⟩⟩
instance : TFld Try.prog 14 1 1 := ⟨⟨_, _, Try.underlying14, rfl, rfl, _, (by kernel_rfl : (Try.prog.info? 12).map (·.size) = some (0 + 1))⟩⟩
instance : TFlat Try.prog 14 [.string ⟨#[]⟩, .int .u64 0] := ⟨by kernel_rfl, _, Try.underlying14, by kernel_rfl⟩
instance : TZero Try.prog 14 (.agg #[.string ⟨#[]⟩, .int .u64 0]) := ⟨by kernel_rfl⟩
instance : TScal Try.prog 15 := ⟨⟨_, Try.underlying15, rfl⟩, by kernel_rfl⟩
instance : TScal Try.prog 16 := ⟨⟨_, Try.underlying16, rfl⟩, by kernel_rfl⟩
instance : TScal Try.prog 17 := ⟨⟨_, Try.underlying17, rfl⟩, by kernel_rfl⟩
instance : TStr Try.prog 18 1 := ⟨⟨_, Try.underlying18⟩, by kernel_rfl⟩
instance : TFldT Try.prog 18 0 0 17 := ⟨⟨_, _, Try.underlying18, rfl, rfl, rfl⟩⟩
instance : TFld Try.prog 18 0 0 := ⟨⟨_, _, Try.underlying18, rfl, rfl, _, (by kernel_rfl : (Try.prog.info? 17).map (·.size) = some (0 + 1))⟩⟩
instance : TFlat Try.prog 18 [.pointer none] := ⟨by kernel_rfl, _, Try.underlying18, by kernel_rfl⟩
instance : TZero Try.prog 18 (.agg #[.pointer none]) := ⟨by kernel_rfl⟩
instance : TStr Try.prog 19 1 := ⟨⟨_, Try.underlying19⟩, by kernel_rfl⟩
instance : TFldT Try.prog 19 0 0 17 := ⟨⟨_, _, Try.underlying19, rfl, rfl, rfl⟩⟩
instance : TFld Try.prog 19 0 0 := ⟨⟨_, _, Try.underlying19, rfl, rfl, _, (by kernel_rfl : (Try.prog.info? 17).map (·.size) = some (0 + 1))⟩⟩
instance : TFlat Try.prog 19 [.pointer none] := ⟨by kernel_rfl, _, Try.underlying19, by kernel_rfl⟩
instance : TZero Try.prog 19 (.agg #[.pointer none]) := ⟨by kernel_rfl⟩
instance : TScal Try.prog 20 := ⟨⟨_, Try.underlying20, rfl⟩, by kernel_rfl⟩
instance : TScal Try.prog 21 := ⟨⟨_, Try.underlying21, rfl⟩, by kernel_rfl⟩
instance : TInt Try.prog 21 .i32 := ⟨Try.underlying21⟩
instance : TZero Try.prog 21 (.int .i32 0) := ⟨by kernel_rfl⟩
instance : TScal Try.prog 22 := ⟨⟨_, Try.underlying22, rfl⟩, by kernel_rfl⟩
instance : TZero Try.prog 22 (.slice none 0 0) := ⟨by kernel_rfl⟩
instance : TSli Try.prog 22 2 1 8 := ⟨Try.underlying22, by kernel_rfl, by kernel_rfl, by kernel_rfl, zlen_of (z := .int .i64 0) (by kernel_rfl) rfl⟩
instance : TStr Try.prog 23 1 := ⟨⟨_, Try.underlying23⟩, by kernel_rfl⟩
instance : TFldT Try.prog 23 0 0 22 := ⟨⟨_, _, Try.underlying23, rfl, rfl, rfl⟩⟩
instance : TFld Try.prog 23 0 0 := ⟨⟨_, _, Try.underlying23, rfl, rfl, _, (by kernel_rfl : (Try.prog.info? 22).map (·.size) = some (0 + 1))⟩⟩
instance : TFlat Try.prog 23 [.slice none 0 0] := ⟨by kernel_rfl, _, Try.underlying23, by kernel_rfl⟩
instance : TZero Try.prog 23 (.agg #[.slice none 0 0]) := ⟨by kernel_rfl⟩
instance : TStr Try.prog 24 1 := ⟨⟨_, Try.underlying24⟩, by kernel_rfl⟩
instance : TFldT Try.prog 24 0 0 22 := ⟨⟨_, _, Try.underlying24, rfl, rfl, rfl⟩⟩
instance : TFld Try.prog 24 0 0 := ⟨⟨_, _, Try.underlying24, rfl, rfl, _, (by kernel_rfl : (Try.prog.info? 22).map (·.size) = some (0 + 1))⟩⟩
instance : TFlat Try.prog 24 [.slice none 0 0] := ⟨by kernel_rfl, _, Try.underlying24, by kernel_rfl⟩
instance : TZero Try.prog 24 (.agg #[.slice none 0 0]) := ⟨by kernel_rfl⟩
instance : TScal Try.prog 26 := ⟨⟨_, Try.underlying26, rfl⟩, by kernel_rfl⟩
instance : TScal Try.prog 27 := ⟨⟨_, Try.underlying27, rfl⟩, by kernel_rfl⟩
instance : TScal Try.prog 28 := ⟨⟨_, Try.underlying28, rfl⟩, by kernel_rfl⟩
instance : TScal Try.prog 29 := ⟨⟨_, Try.underlying29, rfl⟩, by kernel_rfl⟩
instance : TStr Try.prog 30 1 := ⟨⟨_, Try.underlying30⟩, by kernel_rfl⟩
instance : TFldT Try.prog 30 0 0 22 := ⟨⟨_, _, Try.underlying30, rfl, rfl, rfl⟩⟩
instance : TFld Try.prog 30 0 0 := ⟨⟨_, _, Try.underlying30, rfl, rfl, _, (by kernel_rfl : (Try.prog.info? 22).map (·.size) = some (0 + 1))⟩⟩
instance : TFlat Try.prog 30 [.slice none 0 0] := ⟨by kernel_rfl, _, Try.underlying30, by kernel_rfl⟩
instance : TZero Try.prog 30 (.agg #[.slice none 0 0]) := ⟨by kernel_rfl⟩
instance : TScal Try.prog 31 := ⟨⟨_, Try.underlying31, rfl⟩, by kernel_rfl⟩
instance : TScal Try.prog 32 := ⟨⟨_, Try.underlying32, rfl⟩, by kernel_rfl⟩
instance : TScal Try.prog 33 := ⟨⟨_, Try.underlying33, rfl⟩, by kernel_rfl⟩
instance : TScal Try.prog 34 := ⟨⟨_, Try.underlying34, rfl⟩, by kernel_rfl⟩
instance : TScal Try.prog 36 := ⟨⟨_, Try.underlying36, rfl⟩, by kernel_rfl⟩
instance : TScal Try.prog 38 := ⟨⟨_, Try.underlying38, rfl⟩, by kernel_rfl⟩
instance : TScal Try.prog 39 := ⟨⟨_, Try.underlying39, rfl⟩, by kernel_rfl⟩
instance : TScal Try.prog 41 := ⟨⟨_, Try.underlying41, rfl⟩, by kernel_rfl⟩
instance : TScal Try.prog 42 := ⟨⟨_, Try.underlying42, rfl⟩, by kernel_rfl⟩
instance : TScal Try.prog 43 := ⟨⟨_, Try.underlying43, rfl⟩, by kernel_rfl⟩
instance : TScal Try.prog 44 := ⟨⟨_, Try.underlying44, rfl⟩, by kernel_rfl⟩
instance : TScal Try.prog 46 := ⟨⟨_, Try.underlying46, rfl⟩, by kernel_rfl⟩
instance : TScal Try.prog 47 := ⟨⟨_, Try.underlying47, rfl⟩, by kernel_rfl⟩
instance : TScal Try.prog 48 := ⟨⟨_, Try.underlying48, rfl⟩, by kernel_rfl⟩
instance : TScal Try.prog 49 := ⟨⟨_, Try.underlying49, rfl⟩, by kernel_rfl⟩
instance : TScal Try.prog 51 := ⟨⟨_, Try.underlying51, rfl⟩, by kernel_rfl⟩
instance : TScal Try.prog 52 := ⟨⟨_, Try.underlying52, rfl⟩, by kernel_rfl⟩
instance : TZero Try.prog 52 (.slice none 0 0) := ⟨by kernel_rfl⟩
instance : TSli Try.prog 52 5 1 1 := ⟨Try.underlying52, by kernel_rfl, by kernel_rfl, by kernel_rfl, zlen_of (z := .int .u8 0) (by kernel_rfl) rfl⟩
instance : TScal Try.prog 53 := ⟨⟨_, Try.underlying53, rfl⟩, by kernel_rfl⟩
instance : TScal Try.prog 55 := ⟨⟨_, Try.underlying55, rfl⟩, by kernel_rfl⟩
instance : TScal Try.prog 56 := ⟨⟨_, Try.underlying56, rfl⟩, by kernel_rfl⟩
instance : TScal Try.prog 58 := ⟨⟨_, Try.underlying58, rfl⟩, by kernel_rfl⟩
instance : TScal Try.prog 59 := ⟨⟨_, Try.underlying59, rfl⟩, by kernel_rfl⟩
instance : TScal Try.prog 60 := ⟨⟨_, Try.underlying60, rfl⟩, by kernel_rfl⟩
instance : TScal Try.prog 61 := ⟨⟨_, Try.underlying61, rfl⟩, by kernel_rfl⟩
instance : TScal Try.prog 62 := ⟨⟨_, Try.underlying62, rfl⟩, by kernel_rfl⟩
instance : TScal Try.prog 63 := ⟨⟨_, Try.underlying63, rfl⟩, by kernel_rfl⟩
instance : TScal Try.prog 64 := ⟨⟨_, Try.underlying64, rfl⟩, by kernel_rfl⟩
instance : TScal Try.prog 65 := ⟨⟨_, Try.underlying65, rfl⟩, by kernel_rfl⟩
instance : TScal Try.prog 66 := ⟨⟨_, Try.underlying66, rfl⟩, by kernel_rfl⟩
instance : TScal Try.prog 67 := ⟨⟨_, Try.underlying67, rfl⟩, by kernel_rfl⟩
instance : TScal Try.prog 68 := ⟨⟨_, Try.underlying68, rfl⟩, by kernel_rfl⟩
instance : TScal Try.prog 69 := ⟨⟨_, Try.underlying69, rfl⟩, by kernel_rfl⟩
instance : TScal Try.prog 70 := ⟨⟨_, Try.underlying70, rfl⟩, by kernel_rfl⟩
instance : TScal Try.prog 72 := ⟨⟨_, Try.underlying72, rfl⟩, by kernel_rfl⟩
instance : TScal Try.prog 73 := ⟨⟨_, Try.underlying73, rfl⟩, by kernel_rfl⟩
instance : TScal Try.prog 74 := ⟨⟨_, Try.underlying74, rfl⟩, by kernel_rfl⟩
instance : TScal Try.prog 75 := ⟨⟨_, Try.underlying75, rfl⟩, by kernel_rfl⟩
instance : TScal Try.prog 76 := ⟨⟨_, Try.underlying76, rfl⟩, by kernel_rfl⟩
instance : TScal Try.prog 77 := ⟨⟨_, Try.underlying77, rfl⟩, by kernel_rfl⟩
instance : TScal Try.prog 78 := ⟨⟨_, Try.underlying78, rfl⟩, by kernel_rfl⟩
instance : TScal Try.prog 79 := ⟨⟨_, Try.underlying79, rfl⟩, by kernel_rfl⟩
instance : TScal Try.prog 80 := ⟨⟨_, Try.underlying80, rfl⟩, by kernel_rfl⟩
instance : TScal Try.prog 81 := ⟨⟨_, Try.underlying81, rfl⟩, by kernel_rfl⟩
instance : TScal Try.prog 82 := ⟨⟨_, Try.underlying82, rfl⟩, by kernel_rfl⟩
instance : TInt Try.prog 82 .u64 := ⟨Try.underlying82⟩
instance : TZero Try.prog 82 (.int .u64 0) := ⟨by kernel_rfl⟩
instance : TStr Try.prog 83 3 := ⟨⟨_, Try.underlying83⟩, by kernel_rfl⟩
instance : TFldT Try.prog 83 0 0 52 := ⟨⟨_, _, Try.underlying83, rfl, rfl, rfl⟩⟩
instance : TFld Try.prog 83 0 0 := ⟨⟨_, _, Try.underlying83, rfl, rfl, _, (by kernel_rfl : (Try.prog.info? 52).map (·.size) = some (0 + 1))⟩⟩
instance : TFldT Try.prog 83 1 1 3 := ⟨⟨_, _, Try.underlying83, rfl, rfl, rfl⟩⟩
instance : TFld Try.prog 83 1 1 := ⟨⟨_, _, Try.underlying83, rfl, rfl, _, (by kernel_rfl : (Try.prog.info? 3).map (·.size) = some (0 + 1))⟩⟩
instance : TFldT Try.prog 83 2 2 82 := ⟨⟨_, _, Try.underlying83, rfl, rfl, rfl⟩⟩
instance : TFld Try.prog 83 2 2 := ⟨⟨_, _, Try.underlying83, rfl, rfl, _, (by kernel_rfl : (Try.prog.info? 82).map (·.size) = some (0 + 1))⟩⟩
instance : TFlat Try.prog 83 [.slice none 0 0, .int .i64 0, .int .u64 0] := ⟨by kernel_rfl, _, Try.underlying83, by kernel_rfl⟩
instance : TZero Try.prog 83 (.agg #[.slice none 0 0, .int .i64 0, .int .u64 0]) := ⟨by kernel_rfl⟩
instance : TStr Try.prog 84 3 := ⟨⟨_, Try.underlying84⟩, by kernel_rfl⟩
instance : TFldT Try.prog 84 0 0 52 := ⟨⟨_, _, Try.underlying84, rfl, rfl, rfl⟩⟩
instance : TFld Try.prog 84 0 0 := ⟨⟨_, _, Try.underlying84, rfl, rfl, _, (by kernel_rfl : (Try.prog.info? 52).map (·.size) = some (0 + 1))⟩⟩
instance : TFldT Try.prog 84 1 1 3 := ⟨⟨_, _, Try.underlying84, rfl, rfl, rfl⟩⟩
instance : TFld Try.prog 84 1 1 := ⟨⟨_, _, Try.underlying84, rfl, rfl, _, (by kernel_rfl : (Try.prog.info? 3).map (·.size) = some (0 + 1))⟩⟩
instance : TFldT Try.prog 84 2 2 82 := ⟨⟨_, _, Try.underlying84, rfl, rfl, rfl⟩⟩
instance : TFld Try.prog 84 2 2 := ⟨⟨_, _, Try.underlying84, rfl, rfl, _, (by kernel_rfl : (Try.prog.info? 82).map (·.size) = some (0 + 1))⟩⟩
instance : TFlat Try.prog 84 [.slice none 0 0, .int .i64 0, .int .u64 0] := ⟨by kernel_rfl, _, Try.underlying84, by kernel_rfl⟩
instance : TZero Try.prog 84 (.agg #[.slice none 0 0, .int .i64 0, .int .u64 0]) := ⟨by kernel_rfl⟩
instance : TScal Try.prog 85 := ⟨⟨_, Try.underlying85, rfl⟩, by kernel_rfl⟩
instance : TScal Try.prog 86 := ⟨⟨_, Try.underlying86, rfl⟩, by kernel_rfl⟩
instance : TScal Try.prog 87 := ⟨⟨_, Try.underlying87, rfl⟩, by kernel_rfl⟩
instance : TInt Try.prog 87 .u64 := ⟨Try.underlying87⟩
instance : TZero Try.prog 87 (.int .u64 0) := ⟨by kernel_rfl⟩
instance : TScal Try.prog 88 := ⟨⟨_, Try.underlying88, rfl⟩, by kernel_rfl⟩
instance : TStr Try.prog 89 4 := ⟨⟨_, Try.underlying89⟩, by kernel_rfl⟩
instance : TFldT Try.prog 89 0 0 17 := ⟨⟨_, _, Try.underlying89, rfl, rfl, rfl⟩⟩
instance : TFld Try.prog 89 0 0 := ⟨⟨_, _, Try.underlying89, rfl, rfl, _, (by kernel_rfl : (Try.prog.info? 17).map (·.size) = some (0 + 1))⟩⟩
instance : TFldT Try.prog 89 1 1 17 := ⟨⟨_, _, Try.underlying89, rfl, rfl, rfl⟩⟩
instance : TFld Try.prog 89 1 1 := ⟨⟨_, _, Try.underlying89, rfl, rfl, _, (by kernel_rfl : (Try.prog.info? 17).map (·.size) = some (0 + 1))⟩⟩
instance : TFldT Try.prog 89 2 2 17 := ⟨⟨_, _, Try.underlying89, rfl, rfl, rfl⟩⟩
instance : TFld Try.prog 89 2 2 := ⟨⟨_, _, Try.underlying89, rfl, rfl, _, (by kernel_rfl : (Try.prog.info? 17).map (·.size) = some (0 + 1))⟩⟩
instance : TFldT Try.prog 89 3 3 9 := ⟨⟨_, _, Try.underlying89, rfl, rfl, rfl⟩⟩
instance : TFld Try.prog 89 3 3 := ⟨⟨_, _, Try.underlying89, rfl, rfl, _, (by kernel_rfl : (Try.prog.info? 9).map (·.size) = some (0 + 1))⟩⟩
instance : TFlat Try.prog 89 [.pointer none, .pointer none, .pointer none, .string ⟨#[]⟩] := ⟨by kernel_rfl, _, Try.underlying89, by kernel_rfl⟩
instance : TZero Try.prog 89 (.agg #[.pointer none, .pointer none, .pointer none, .string ⟨#[]⟩]) := ⟨by kernel_rfl⟩
instance : TStr Try.prog 90 4 := ⟨⟨_, Try.underlying90⟩, by kernel_rfl⟩
instance : TFldT Try.prog 90 0 0 17 := ⟨⟨_, _, Try.underlying90, rfl, rfl, rfl⟩⟩
instance : TFld Try.prog 90 0 0 := ⟨⟨_, _, Try.underlying90, rfl, rfl, _, (by kernel_rfl : (Try.prog.info? 17).map (·.size) = some (0 + 1))⟩⟩
instance : TFldT Try.prog 90 1 1 17 := ⟨⟨_, _, Try.underlying90, rfl, rfl, rfl⟩⟩
instance : TFld Try.prog 90 1 1 := ⟨⟨_, _, Try.underlying90, rfl, rfl, _, (by kernel_rfl : (Try.prog.info? 17).map (·.size) = some (0 + 1))⟩⟩
instance : TFldT Try.prog 90 2 2 17 := ⟨⟨_, _, Try.underlying90, rfl, rfl, rfl⟩⟩
instance : TFld Try.prog 90 2 2 := ⟨⟨_, _, Try.underlying90, rfl, rfl, _, (by kernel_rfl : (Try.prog.info? 17).map (·.size) = some (0 + 1))⟩⟩
instance : TFldT Try.prog 90 3 3 9 := ⟨⟨_, _, Try.underlying90, rfl, rfl, rfl⟩⟩
instance : TFld Try.prog 90 3 3 := ⟨⟨_, _, Try.underlying90, rfl, rfl, _, (by kernel_rfl : (Try.prog.info? 9).map (·.size) = some (0 + 1))⟩⟩
instance : TFlat Try.prog 90 [.pointer none, .pointer none, .pointer none, .string ⟨#[]⟩] := ⟨by kernel_rfl, _, Try.underlying90, by kernel_rfl⟩
instance : TZero Try.prog 90 (.agg #[.pointer none, .pointer none, .pointer none, .string ⟨#[]⟩]) := ⟨by kernel_rfl⟩
instance : TArr Try.prog 91 0 16 := ⟨Try.underlying91⟩
instance : TZero Try.prog 91 (.agg #[]) := ⟨by kernel_rfl⟩
instance : TScal Try.prog 94 := ⟨⟨_, Try.underlying94, rfl⟩, by kernel_rfl⟩
instance : TScal Try.prog 95 := ⟨⟨_, Try.underlying95, rfl⟩, by kernel_rfl⟩
instance : TInt Try.prog 95 .u32 := ⟨Try.underlying95⟩
instance : TZero Try.prog 95 (.int .u32 0) := ⟨by kernel_rfl⟩
instance : TScal Try.prog 96 := ⟨⟨_, Try.underlying96, rfl⟩, by kernel_rfl⟩
instance : TInt Try.prog 96 .u8 := ⟨Try.underlying96⟩
instance : TZero Try.prog 96 (.int .u8 0) := ⟨by kernel_rfl⟩
instance : TScal Try.prog 97 := ⟨⟨_, Try.underlying97, rfl⟩, by kernel_rfl⟩
instance : TInt Try.prog 97 .u8 := ⟨Try.underlying97⟩
instance : TZero Try.prog 97 (.int .u8 0) := ⟨by kernel_rfl⟩
instance : TScal Try.prog 98 := ⟨⟨_, Try.underlying98, rfl⟩, by kernel_rfl⟩
instance : TScal Try.prog 99 := ⟨⟨_, Try.underlying99, rfl⟩, by kernel_rfl⟩
instance : TScal Try.prog 100 := ⟨⟨_, Try.underlying100, rfl⟩, by kernel_rfl⟩
instance : TInt Try.prog 100 .i32 := ⟨Try.underlying100⟩
instance : TZero Try.prog 100 (.int .i32 0) := ⟨by kernel_rfl⟩
instance : TScal Try.prog 101 := ⟨⟨_, Try.underlying101, rfl⟩, by kernel_rfl⟩
instance : TInt Try.prog 101 .i32 := ⟨Try.underlying101⟩
instance : TZero Try.prog 101 (.int .i32 0) := ⟨by kernel_rfl⟩
instance : TStr Try.prog 102 11 := ⟨⟨_, Try.underlying102⟩, by kernel_rfl⟩
instance : TFldT Try.prog 102 0 0 12 := ⟨⟨_, _, Try.underlying102, rfl, rfl, rfl⟩⟩
instance : TFld Try.prog 102 0 0 := ⟨⟨_, _, Try.underlying102, rfl, rfl, _, (by kernel_rfl : (Try.prog.info? 12).map (·.size) = some (0 + 1))⟩⟩
instance : TFldT Try.prog 102 1 1 12 := ⟨⟨_, _, Try.underlying102, rfl, rfl, rfl⟩⟩
instance : TFld Try.prog 102 1 1 := ⟨⟨_, _, Try.underlying102, rfl, rfl, _, (by kernel_rfl : (Try.prog.info? 12).map (·.size) = some (0 + 1))⟩⟩
instance : TFldT Try.prog 102 2 2 95 := ⟨⟨_, _, Try.underlying102, rfl, rfl, rfl⟩⟩
instance : TFld Try.prog 102 2 2 := ⟨⟨_, _, Try.underlying102, rfl, rfl, _, (by kernel_rfl : (Try.prog.info? 95).map (·.size) = some (0 + 1))⟩⟩
instance : TFldT Try.prog 102 3 3 96 := ⟨⟨_, _, Try.underlying102, rfl, rfl, rfl⟩⟩
instance : TFld Try.prog 102 3 3 := ⟨⟨_, _, Try.underlying102, rfl, rfl, _, (by kernel_rfl : (Try.prog.info? 96).map (·.size) = some (0 + 1))⟩⟩
instance : TFldT Try.prog 102 4 4 5 := ⟨⟨_, _, Try.underlying102, rfl, rfl, rfl⟩⟩
instance : TFld Try.prog 102 4 4 := ⟨⟨_, _, Try.underlying102, rfl, rfl, _, (by kernel_rfl : (Try.prog.info? 5).map (·.size) = some (0 + 1))⟩⟩
instance : TFldT Try.prog 102 5 5 5 := ⟨⟨_, _, Try.underlying102, rfl, rfl, rfl⟩⟩
instance : TFld Try.prog 102 5 5 := ⟨⟨_, _, Try.underlying102, rfl, rfl, _, (by kernel_rfl : (Try.prog.info? 5).map (·.size) = some (0 + 1))⟩⟩
instance : TFldT Try.prog 102 6 6 97 := ⟨⟨_, _, Try.underlying102, rfl, rfl, rfl⟩⟩
instance : TFld Try.prog 102 6 6 := ⟨⟨_, _, Try.underlying102, rfl, rfl, _, (by kernel_rfl : (Try.prog.info? 97).map (·.size) = some (0 + 1))⟩⟩
instance : TFldT Try.prog 102 7 7 98 := ⟨⟨_, _, Try.underlying102, rfl, rfl, rfl⟩⟩
instance : TFld Try.prog 102 7 7 := ⟨⟨_, _, Try.underlying102, rfl, rfl, _, (by kernel_rfl : (Try.prog.info? 98).map (·.size) = some (0 + 1))⟩⟩
instance : TFldT Try.prog 102 8 8 99 := ⟨⟨_, _, Try.underlying102, rfl, rfl, rfl⟩⟩
instance : TFld Try.prog 102 8 8 := ⟨⟨_, _, Try.underlying102, rfl, rfl, _, (by kernel_rfl : (Try.prog.info? 99).map (·.size) = some (0 + 1))⟩⟩
instance : TFldT Try.prog 102 9 9 100 := ⟨⟨_, _, Try.underlying102, rfl, rfl, rfl⟩⟩
instance : TFld Try.prog 102 9 9 := ⟨⟨_, _, Try.underlying102, rfl, rfl, _, (by kernel_rfl : (Try.prog.info? 100).map (·.size) = some (0 + 1))⟩⟩
instance : TFldT Try.prog 102 10 10 101 := ⟨⟨_, _, Try.underlying102, rfl, rfl, rfl⟩⟩
instance : TFld Try.prog 102 10 10 := ⟨⟨_, _, Try.underlying102, rfl, rfl, _, (by kernel_rfl : (Try.prog.info? 101).map (·.size) = some (0 + 1))⟩⟩
instance : TFlat Try.prog 102 [.int .u64 0, .int .u64 0, .int .u32 0, .int .u8 0, .int .u8 0, .int .u8 0, .int .u8 0, .nilFunc, .pointer none, .int .i32 0, .int .i32 0] := ⟨by kernel_rfl, _, Try.underlying102, by kernel_rfl⟩
instance : TZero Try.prog 102 (.agg #[.int .u64 0, .int .u64 0, .int .u32 0, .int .u8 0, .int .u8 0, .int .u8 0, .int .u8 0, .nilFunc, .pointer none, .int .i32 0, .int .i32 0]) := ⟨by kernel_rfl⟩
instance : TStr Try.prog 103 11 := ⟨⟨_, Try.underlying103⟩, by kernel_rfl⟩
instance : TFldT Try.prog 103 0 0 12 := ⟨⟨_, _, Try.underlying103, rfl, rfl, rfl⟩⟩
instance : TFld Try.prog 103 0 0 := ⟨⟨_, _, Try.underlying103, rfl, rfl, _, (by kernel_rfl : (Try.prog.info? 12).map (·.size) = some (0 + 1))⟩⟩
instance : TFldT Try.prog 103 1 1 12 := ⟨⟨_, _, Try.underlying103, rfl, rfl, rfl⟩⟩
instance : TFld Try.prog 103 1 1 := ⟨⟨_, _, Try.underlying103, rfl, rfl, _, (by kernel_rfl : (Try.prog.info? 12).map (·.size) = some (0 + 1))⟩⟩
instance : TFldT Try.prog 103 2 2 95 := ⟨⟨_, _, Try.underlying103, rfl, rfl, rfl⟩⟩
instance : TFld Try.prog 103 2 2 := ⟨⟨_, _, Try.underlying103, rfl, rfl, _, (by kernel_rfl : (Try.prog.info? 95).map (·.size) = some (0 + 1))⟩⟩
instance : TFldT Try.prog 103 3 3 96 := ⟨⟨_, _, Try.underlying103, rfl, rfl, rfl⟩⟩
instance : TFld Try.prog 103 3 3 := ⟨⟨_, _, Try.underlying103, rfl, rfl, _, (by kernel_rfl : (Try.prog.info? 96).map (·.size) = some (0 + 1))⟩⟩
instance : TFldT Try.prog 103 4 4 5 := ⟨⟨_, _, Try.underlying103, rfl, rfl, rfl⟩⟩
instance : TFld Try.prog 103 4 4 := ⟨⟨_, _, Try.underlying103, rfl, rfl, _, (by kernel_rfl : (Try.prog.info? 5).map (·.size) = some (0 + 1))⟩⟩
instance : TFldT Try.prog 103 5 5 5 := ⟨⟨_, _, Try.underlying103, rfl, rfl, rfl⟩⟩
instance : TFld Try.prog 103 5 5 := ⟨⟨_, _, Try.underlying103, rfl, rfl, _, (by kernel_rfl : (Try.prog.info? 5).map (·.size) = some (0 + 1))⟩⟩
instance : TFldT Try.prog 103 6 6 97 := ⟨⟨_, _, Try.underlying103, rfl, rfl, rfl⟩⟩
instance : TFld Try.prog 103 6 6 := ⟨⟨_, _, Try.underlying103, rfl, rfl, _, (by kernel_rfl : (Try.prog.info? 97).map (·.size) = some (0 + 1))⟩⟩
instance : TFldT Try.prog 103 7 7 98 := ⟨⟨_, _, Try.underlying103, rfl, rfl, rfl⟩⟩
instance : TFld Try.prog 103 7 7 := ⟨⟨_, _, Try.underlying103, rfl, rfl, _, (by kernel_rfl : (Try.prog.info? 98).map (·.size) = some (0 + 1))⟩⟩
instance : TFldT Try.prog 103 8 8 99 := ⟨⟨_, _, Try.underlying103, rfl, rfl, rfl⟩⟩
instance : TFld Try.prog 103 8 8 := ⟨⟨_, _, Try.underlying103, rfl, rfl, _, (by kernel_rfl : (Try.prog.info? 99).map (·.size) = some (0 + 1))⟩⟩
instance : TFldT Try.prog 103 9 9 100 := ⟨⟨_, _, Try.underlying103, rfl, rfl, rfl⟩⟩
instance : TFld Try.prog 103 9 9 := ⟨⟨_, _, Try.underlying103, rfl, rfl, _, (by kernel_rfl : (Try.prog.info? 100).map (·.size) = some (0 + 1))⟩⟩
instance : TFldT Try.prog 103 10 10 101 := ⟨⟨_, _, Try.underlying103, rfl, rfl, rfl⟩⟩
instance : TFld Try.prog 103 10 10 := ⟨⟨_, _, Try.underlying103, rfl, rfl, _, (by kernel_rfl : (Try.prog.info? 101).map (·.size) = some (0 + 1))⟩⟩
instance : TFlat Try.prog 103 [.int .u64 0, .int .u64 0, .int .u32 0, .int .u8 0, .int .u8 0, .int .u8 0, .int .u8 0, .nilFunc, .pointer none, .int .i32 0, .int .i32 0] := ⟨by kernel_rfl, _, Try.underlying103, by kernel_rfl⟩
instance : TZero Try.prog 103 (.agg #[.int .u64 0, .int .u64 0, .int .u32 0, .int .u8 0, .int .u8 0, .int .u8 0, .int .u8 0, .nilFunc, .pointer none, .int .i32 0, .int .i32 0]) := ⟨by kernel_rfl⟩
instance : Callable Try.prog 3 := callable Try.func3 (by kernel_rfl) rfl   -- loop.example/g01012/laws.FnExactReadCounter
instance : Callable Try.prog 4 := callable Try.func4 (by kernel_rfl) rfl   -- loop.example/g01012/laws.FnExactCounterText
instance : Callable Try.prog 5 := callable Try.func5 (by kernel_rfl) rfl   -- loop.example/g01012/laws.FnExactNumberShown
instance : Callable Try.prog 6 := callable Try.func6 (by kernel_rfl) rfl   -- loop.example/g01012/laws.FnExactJoinCounters
instance : Callable Try.prog 7 := callable Try.func7 (by kernel_rfl) rfl   -- loop.example/g01012/laws.FnExactSplitCounter
instance : Callable Try.prog 8 := callable Try.func8 (by kernel_rfl) rfl   -- loop.example/g01012/laws.FnExactComplementOf
instance : Callable Try.prog 9 := callable Try.func9 (by kernel_rfl) rfl   -- loop.example/g01012/laws.FnExactCarriesOf
instance : Callable Try.prog 10 := callable Try.func10 (by kernel_rfl) rfl   -- loop.example/g01012/laws.FnExactBalanceAfter
instance : Callable Try.prog 11 := callable Try.func11 (by kernel_rfl) rfl   -- loop.example/g01012/laws.FnExactAddToCounter
instance : Callable Try.prog 12 := callable Try.func12 (by kernel_rfl) rfl   -- loop.example/g01012/laws.FnExactTakeFromCounter
instance : Callable Try.prog 13 := callable Try.func13 (by kernel_rfl) rfl   -- loop.example/g01012/laws.FnBalances
instance : Callable Try.prog 14 := callable Try.func14 (by kernel_rfl) rfl   -- loop.example/g01012/spec.ReadCounter
instance : Callable Try.prog 15 := callable Try.func15 (by kernel_rfl) rfl   -- loop.example/g01012/impl.ReadCounter
instance : Callable Try.prog 16 := callable Try.func16 (by kernel_rfl) rfl   -- loop.example/g01012/laws.eqCounter
instance : Callable Try.prog 17 := callable Try.func17 (by kernel_rfl) rfl   -- loop.example/g01012/laws.markCounter
instance : Callable Try.prog 18 := callable Try.func18 (by kernel_rfl) rfl   -- loop.example/g01012/laws.heldCounter
instance : Callable Try.prog 19 := callable Try.func19 (by kernel_rfl) rfl   -- loop.example/g01012/laws.szCounter
instance : Callable Try.prog 20 := callable Try.func20 (by kernel_rfl) rfl   -- loop.example/g01012/spec.CounterText
instance : Callable Try.prog 21 := callable Try.func21 (by kernel_rfl) rfl   -- loop.example/g01012/laws.toCounter
instance : Callable Try.prog 22 := callable Try.func22 (by kernel_rfl) rfl   -- loop.example/g01012/impl.CounterText
instance : Callable Try.prog 23 := callable Try.func23 (by kernel_rfl) rfl   -- loop.example/g01012/spec.NumberShown
instance : Callable Try.prog 24 := callable Try.func24 (by kernel_rfl) rfl   -- loop.example/g01012/impl.NumberShown
instance : Callable Try.prog 25 := callable Try.func25 (by kernel_rfl) rfl   -- loop.example/g01012/spec.JoinCounters
instance : Callable Try.prog 26 := callable Try.func26 (by kernel_rfl) rfl   -- loop.example/g01012/impl.JoinCounters
instance : Callable Try.prog 27 := callable Try.func27 (by kernel_rfl) rfl   -- loop.example/g01012/spec.SplitCounter
instance : Callable Try.prog 28 := callable Try.func28 (by kernel_rfl) rfl   -- loop.example/g01012/impl.SplitCounter
instance : Callable Try.prog 29 := callable Try.func29 (by kernel_rfl) rfl   -- loop.example/g01012/spec.ComplementOf
instance : Callable Try.prog 30 := callable Try.func30 (by kernel_rfl) rfl   -- loop.example/g01012/impl.ComplementOf
instance : Callable Try.prog 31 := callable Try.func31 (by kernel_rfl) rfl   -- loop.example/g01012/spec.CarriesOf
instance : Callable Try.prog 32 := callable Try.func32 (by kernel_rfl) rfl   -- loop.example/g01012/impl.CarriesOf
instance : Callable Try.prog 33 := callable Try.func33 (by kernel_rfl) rfl   -- loop.example/g01012/spec.BalanceAfter
instance : Callable Try.prog 34 := callable Try.func34 (by kernel_rfl) rfl   -- loop.example/g01012/laws.toInt64S
instance : Callable Try.prog 35 := callable Try.func35 (by kernel_rfl) rfl   -- loop.example/g01012/impl.BalanceAfter
instance : Callable Try.prog 36 := callable Try.func36 (by kernel_rfl) rfl   -- loop.example/g01012/laws.eqInt64S
instance : Callable Try.prog 37 := callable Try.func37 (by kernel_rfl) rfl   -- loop.example/g01012/spec.AddToCounter
instance : Callable Try.prog 38 := callable Try.func38 (by kernel_rfl) rfl   -- loop.example/g01012/impl.AddToCounter
instance : Callable Try.prog 39 := callable Try.func39 (by kernel_rfl) rfl   -- loop.example/g01012/spec.TakeFromCounter
instance : Callable Try.prog 40 := callable Try.func40 (by kernel_rfl) rfl   -- loop.example/g01012/impl.TakeFromCounter
instance : Callable Try.prog 41 := callable Try.func41 (by kernel_rfl) rfl   -- loop.example/g01012/laws.f6big
instance : Callable Try.prog 42 := callable Try.func42 (by kernel_rfl) rfl   -- loop.example/g01012/spec.DrawBalanceAfter
instance : Callable Try.prog 43 := callable Try.func43 (by kernel_rfl) rfl   -- loop.example/g01012/spec.DrawSplitCounter
instance : Callable Try.prog 44 := callable Try.func44 (by kernel_rfl) rfl   -- loop.example/g01012/spec.DrawJoinCounters
instance : Callable Try.prog 45 := callable Try.func45 (by kernel_rfl) rfl   -- loop.example/g01012/spec.SameCounter
instance : Callable Try.prog 46 := callable Try.func46 (by kernel_rfl) rfl   -- loop.example/g01012/spec.l11Ok
instance : Callable Try.prog 47 := callable Try.func47 (by kernel_rfl) rfl   -- loop.example/g01012/impl.ValidCounter
instance : Callable Try.prog 48 := callable Try.func48 (by kernel_rfl) rfl   -- loop.example/g01012/laws.markInt64S
instance : Callable Try.prog 49 := callable Try.func49 (by kernel_rfl) rfl   -- loop.example/g01012/laws.heldInt64S
instance : Callable Try.prog 50 := callable Try.func50 (by kernel_rfl) rfl   -- loop.example/g01012/laws.szInt64S
instance : Callable Try.prog 51 := callable Try.func51 (by kernel_rfl) rfl   -- loop.example/g01012/spec.l11Text
instance : Callable Try.prog 52 := callable Try.func52 (by kernel_rfl) rfl   -- loop.example/g01012/spec.l11Value
instance : Callable Try.prog 53 := callable Try.func53 (by kernel_rfl) rfl   -- loop.example/g01012/impl.shown
instance : Callable Try.prog 54 := callable Try.func54 (by kernel_rfl) rfl   -- loop.example/g01012/spec.l00Own
instance : Callable Try.prog 55 := callable Try.func55 (by kernel_rfl) rfl   -- loop.example/g01012/impl.copyInts
instance : Callable Try.prog 56 := callable Try.func56 (by kernel_rfl) rfl   -- loop.example/g01012/spec.l00In
instance : Callable Try.prog 57 := callable Try.func57 (by kernel_rfl) rfl   -- loop.example/g01012/impl.inside
instance : Callable Try.prog 58 := callable Try.func58 (by kernel_rfl) rfl   -- loop.example/g01012/impl.size[int64]
instance : Callable Try.prog 59 := callable Try.func59 (by kernel_rfl) rfl   -- loop.example/g01012/impl.wheelsShow
instance : Callable Try.prog 60 := callable Try.func60 (by kernel_rfl) rfl   -- loop.example/g01012/impl.nines
instance : Callable Try.prog 61 := callable Try.func61 (by kernel_rfl) rfl   -- loop.example/g01012/spec.l11Code
instance : Callable Try.prog 62 := callable Try.func62 (by kernel_rfl) rfl   -- loop.example/g01012/spec.l11Add
instance : Callable Try.prog 63 := callable Try.func63 (by kernel_rfl) rfl   -- loop.example/g01012/impl.countCode
instance : Callable Try.prog 64 := callable Try.func64 (by kernel_rfl) rfl   -- loop.example/g01012/impl.added
instance : Callable Try.prog 65 := callable Try.func65 (by kernel_rfl) rfl   -- loop.example/g01012/spec.l11Power
instance : Callable Try.prog 66 := callable Try.func66 (by kernel_rfl) rfl   -- loop.example/g01012/spec.l11Set
instance : Callable Try.prog 67 := callable Try.func67 (by kernel_rfl) rfl   -- loop.example/g01012/spec.l11Nines
instance : Callable Try.prog 68 := callable Try.func68 (by kernel_rfl) rfl   -- loop.example/g01012/spec.l11Take
instance : Callable Try.prog 69 := callable Try.func69 (by kernel_rfl) rfl   -- loop.example/g01012/spec.l00From
instance : Callable Try.prog 70 := callable Try.func70 (by kernel_rfl) rfl   -- (*loop.example/g01012/spec.l00Src).pick
instance : Callable Try.prog 71 := callable Try.func71 (by kernel_rfl) rfl   -- (*loop.example/g01012/spec.l00Src).one
instance : Callable Try.prog 72 := callable Try.func72 (by kernel_rfl) rfl   -- (*loop.example/g01012/spec.l00Src).among
instance : Callable Try.prog 73 := callable Try.func73 (by kernel_rfl) rfl   -- loop.example/g01012/spec.l00Max
instance : Callable Try.prog 74 := callable Try.func74 (by kernel_rfl) rfl   -- loop.example/g01012/spec.l00Min
instance : Callable Try.prog 75 := callable Try.func75 (by kernel_rfl) rfl   -- loop.example/g01012/spec.l11Bent
instance : Callable Try.prog 76 := callable Try.func76 (by kernel_rfl) rfl   -- loop.example/g01012/spec.l00Same
instance : Callable Try.prog 77 := callable Try.func77 (by kernel_rfl) rfl   -- slices.ContainsFunc[[]int64,int64]
instance : Callable Try.prog 78 := callable Try.func78 (by kernel_rfl) rfl   -- loop.example/g01012/impl.ValidCounter$1
instance : Callable Try.prog 79 := callable Try.func79 (by kernel_rfl) rfl   -- (*loop.example/g01012/spec.l00Src).next
instance : Callable Try.prog 80 := callable Try.func80 (by kernel_rfl) rfl   -- loop.example/g01012/spec.l11Draw
instance : Callable Try.prog 81 := callable Try.func81 (by kernel_rfl) rfl   -- slices.IndexFunc[[]int64,int64]
end Go.Proofs.Ytmmpnlhanljhiaa

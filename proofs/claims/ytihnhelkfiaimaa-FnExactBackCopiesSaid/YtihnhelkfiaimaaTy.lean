/- What is known of this program's types and functions. -/
import Derived.Test.YtihnhelkfiaimaaL12
import Derived.Test.YtihnhelkfiaimaaChecked
namespace Go.Proofs.Ytihnhelkfiaimaa
open Go Go.Gw
theorem mixed : Try.prog.follows .mixedOrders = true := by kernel_rfl
instance : TScal Try.prog 1 := ⟨⟨_, Try.underlying1, rfl⟩, by kernel_rfl⟩
instance : TScal Try.prog 2 := ⟨⟨_, Try.underlying2, rfl⟩, by kernel_rfl⟩
instance : TInt Try.prog 2 .i64 := ⟨Try.underlying2⟩
instance : TZero Try.prog 2 (.int .i64 0) := ⟨by kernel_rfl⟩
instance : TScal Try.prog 3 := ⟨⟨_, Try.underlying3, rfl⟩, by kernel_rfl⟩
instance : TInt Try.prog 3 .i64 := ⟨Try.underlying3⟩
instance : TZero Try.prog 3 (.int .i64 0) := ⟨by kernel_rfl⟩
instance : TScal Try.prog 4 := ⟨⟨_, Try.underlying4, rfl⟩, by kernel_rfl⟩
instance : TBool Try.prog 4 := ⟨Try.underlying4⟩
instance : TZero Try.prog 4 (.bool false) := ⟨by kernel_rfl⟩
instance : TScal Try.prog 5 := ⟨⟨_, Try.underlying5, rfl⟩, by kernel_rfl⟩
instance : TInt Try.prog 5 .u8 := ⟨Try.underlying5⟩
instance : TZero Try.prog 5 (.int .u8 0) := ⟨by kernel_rfl⟩
instance : TScal Try.prog 6 := ⟨⟨_, Try.underlying6, rfl⟩, by kernel_rfl⟩
instance : TInt Try.prog 6 .u8 := ⟨Try.underlying6⟩
instance : TZero Try.prog 6 (.int .u8 0) := ⟨by kernel_rfl⟩
instance : TStr Try.prog 7 4 := ⟨⟨_, Try.underlying7⟩, by kernel_rfl⟩
instance : TFldT Try.prog 7 0 0 2 := ⟨⟨_, _, Try.underlying7, rfl, rfl, rfl⟩⟩
instance : TFld Try.prog 7 0 0 := ⟨⟨_, _, Try.underlying7, rfl, rfl, _, (by kernel_rfl : (Try.prog.info? 2).map (·.size) = some (0 + 1))⟩⟩
instance : TFldT Try.prog 7 1 1 3 := ⟨⟨_, _, Try.underlying7, rfl, rfl, rfl⟩⟩
instance : TFld Try.prog 7 1 1 := ⟨⟨_, _, Try.underlying7, rfl, rfl, _, (by kernel_rfl : (Try.prog.info? 3).map (·.size) = some (0 + 1))⟩⟩
instance : TFldT Try.prog 7 2 2 4 := ⟨⟨_, _, Try.underlying7, rfl, rfl, rfl⟩⟩
instance : TFld Try.prog 7 2 2 := ⟨⟨_, _, Try.underlying7, rfl, rfl, _, (by kernel_rfl : (Try.prog.info? 4).map (·.size) = some (0 + 1))⟩⟩
instance : TFldT Try.prog 7 3 3 6 := ⟨⟨_, _, Try.underlying7, rfl, rfl, rfl⟩⟩
instance : TFld Try.prog 7 3 3 := ⟨⟨_, _, Try.underlying7, rfl, rfl, _, (by kernel_rfl : (Try.prog.info? 6).map (·.size) = some (0 + 1))⟩⟩
instance : TFlat Try.prog 7 [.int .i64 0, .int .i64 0, .bool false, .int .u8 0] := ⟨by kernel_rfl, _, Try.underlying7, by kernel_rfl⟩
instance : TZero Try.prog 7 (.agg #[.int .i64 0, .int .i64 0, .bool false, .int .u8 0]) := ⟨by kernel_rfl⟩
instance : TStr Try.prog 8 4 := ⟨⟨_, Try.underlying8⟩, by kernel_rfl⟩
instance : TFldT Try.prog 8 0 0 2 := ⟨⟨_, _, Try.underlying8, rfl, rfl, rfl⟩⟩
instance : TFld Try.prog 8 0 0 := ⟨⟨_, _, Try.underlying8, rfl, rfl, _, (by kernel_rfl : (Try.prog.info? 2).map (·.size) = some (0 + 1))⟩⟩
instance : TFldT Try.prog 8 1 1 3 := ⟨⟨_, _, Try.underlying8, rfl, rfl, rfl⟩⟩
instance : TFld Try.prog 8 1 1 := ⟨⟨_, _, Try.underlying8, rfl, rfl, _, (by kernel_rfl : (Try.prog.info? 3).map (·.size) = some (0 + 1))⟩⟩
instance : TFldT Try.prog 8 2 2 4 := ⟨⟨_, _, Try.underlying8, rfl, rfl, rfl⟩⟩
instance : TFld Try.prog 8 2 2 := ⟨⟨_, _, Try.underlying8, rfl, rfl, _, (by kernel_rfl : (Try.prog.info? 4).map (·.size) = some (0 + 1))⟩⟩
instance : TFldT Try.prog 8 3 3 6 := ⟨⟨_, _, Try.underlying8, rfl, rfl, rfl⟩⟩
instance : TFld Try.prog 8 3 3 := ⟨⟨_, _, Try.underlying8, rfl, rfl, _, (by kernel_rfl : (Try.prog.info? 6).map (·.size) = some (0 + 1))⟩⟩
instance : TFlat Try.prog 8 [.int .i64 0, .int .i64 0, .bool false, .int .u8 0] := ⟨by kernel_rfl, _, Try.underlying8, by kernel_rfl⟩
instance : TZero Try.prog 8 (.agg #[.int .i64 0, .int .i64 0, .bool false, .int .u8 0]) := ⟨by kernel_rfl⟩
instance : TScal Try.prog 9 := ⟨⟨_, Try.underlying9, rfl⟩, by kernel_rfl⟩
instance : TStg Try.prog 9 := ⟨Try.underlying9⟩
instance : TZero Try.prog 9 (.string ⟨#[]⟩) := ⟨by kernel_rfl⟩
instance : TScal Try.prog 10 := ⟨⟨_, Try.underlying10, rfl⟩, by kernel_rfl⟩
instance : TStg Try.prog 10 := ⟨Try.underlying10⟩
instance : TZero Try.prog 10 (.string ⟨#[]⟩) := ⟨by kernel_rfl⟩
instance : TScal Try.prog 11 := ⟨⟨_, Try.underlying11, rfl⟩, by kernel_rfl⟩
instance : TStg Try.prog 11 := ⟨Try.underlying11⟩
instance : TZero Try.prog 11 (.string ⟨#[]⟩) := ⟨by kernel_rfl⟩
instance : TScal Try.prog 12 := ⟨⟨_, Try.underlying12, rfl⟩, by kernel_rfl⟩
instance : TInt Try.prog 12 .u64 := ⟨Try.underlying12⟩
instance : TZero Try.prog 12 (.int .u64 0) := ⟨by kernel_rfl⟩
instance : TStr Try.prog 13 2 := ⟨⟨_, Try.underlying13⟩, by kernel_rfl⟩
instance : TFldT Try.prog 13 0 0 9 := ⟨⟨_, _, Try.underlying13, rfl, rfl, rfl⟩⟩
instance : TFld Try.prog 13 0 0 := ⟨⟨_, _, Try.underlying13, rfl, rfl, _, (by kernel_rfl : (Try.prog.info? 9).map (·.size) = some (0 + 1))⟩⟩
instance : TFldT Try.prog 13 1 1 12 := ⟨⟨_, _, Try.underlying13, rfl, rfl, rfl⟩⟩
instance : TFld Try.prog 13 1 1 := ⟨⟨_, _, Try.underlying13, rfl, rfl, _, (by kernel_rfl : (Try.prog.info? 12).map (·.size) = some (0 + 1))⟩⟩
instance : TFlat Try.prog 13 [.string ⟨#[]⟩, .int .u64 0] := ⟨by kernel_rfl, _, Try.underlying13, by kernel_rfl⟩
instance : TZero Try.prog 13 (.agg #[.string ⟨#[]⟩, .int .u64 0]) := ⟨by kernel_rfl⟩
instance : TStr Try.prog 14 2 := ⟨⟨_, Try.underlying14⟩, by kernel_rfl⟩
instance : TFldT Try.prog 14 0 0 9 := ⟨⟨_, _, Try.underlying14, rfl, rfl, rfl⟩⟩
instance : TFld Try.prog 14 0 0 := ⟨⟨_, _, Try.underlying14, rfl, rfl, _, (by kernel_rfl : (Try.prog.info? 9).map (·.size) = some (0 + 1))⟩⟩
instance : TFldT Try.prog 14 1 1 12 := ⟨⟨_, _, Try.underlying14, rfl, rfl, rfl⟩⟩
instance : TFld Try.prog 14 1 1 := ⟨⟨_, _, Try.underlying14, rfl, rfl, _, (by kernel_rfl : (Try.prog.info? 12).map (·.size) = some (0 + 1))⟩⟩
instance : TFlat Try.prog 14 [.string ⟨#[]⟩, .int .u64 0] := ⟨by kernel_rfl, _, Try.underlying14, by kernel_rfl⟩
instance : TZero Try.prog 14 (.agg #[.string ⟨#[]⟩, .int .u64 0]) := ⟨by kernel_rfl⟩
instance : TScal Try.prog 15 := ⟨⟨_, Try.underlying15, rfl⟩, by kernel_rfl⟩
instance : TScal Try.prog 16 := ⟨⟨_, Try.underlying16, rfl⟩, by kernel_rfl⟩
instance : TScal Try.prog 17 := ⟨⟨_, Try.underlying17, rfl⟩, by kernel_rfl⟩
instance : TStr Try.prog 18 1 := ⟨⟨_, Try.underlying18⟩, by kernel_rfl⟩
instance : TFldT Try.prog 18 0 0 17 := ⟨⟨_, _, Try.underlying18, rfl, rfl, rfl⟩⟩
instance : TFld Try.prog 18 0 0 := ⟨⟨_, _, Try.underlying18, rfl, rfl, _, (by kernel_rfl : (Try.prog.info? 17).map (·.size) = some (0 + 1))⟩⟩
instance : TFlat Try.prog 18 [.pointer none] := ⟨by kernel_rfl, _, Try.underlying18, by kernel_rfl⟩
instance : TZero Try.prog 18 (.agg #[.pointer none]) := ⟨by kernel_rfl⟩
instance : TStr Try.prog 19 1 := ⟨⟨_, Try.underlying19⟩, by kernel_rfl⟩
instance : TFldT Try.prog 19 0 0 17 := ⟨⟨_, _, Try.underlying19, rfl, rfl, rfl⟩⟩
instance : TFld Try.prog 19 0 0 := ⟨⟨_, _, Try.underlying19, rfl, rfl, _, (by kernel_rfl : (Try.prog.info? 17).map (·.size) = some (0 + 1))⟩⟩
instance : TFlat Try.prog 19 [.pointer none] := ⟨by kernel_rfl, _, Try.underlying19, by kernel_rfl⟩
instance : TZero Try.prog 19 (.agg #[.pointer none]) := ⟨by kernel_rfl⟩
instance : TScal Try.prog 20 := ⟨⟨_, Try.underlying20, rfl⟩, by kernel_rfl⟩
instance : TScal Try.prog 21 := ⟨⟨_, Try.underlying21, rfl⟩, by kernel_rfl⟩
instance : TInt Try.prog 21 .i32 := ⟨Try.underlying21⟩
instance : TZero Try.prog 21 (.int .i32 0) := ⟨by kernel_rfl⟩
instance : TScal Try.prog 22 := ⟨⟨_, Try.underlying22, rfl⟩, by kernel_rfl⟩
instance : TZero Try.prog 22 (.slice none 0 0) := ⟨by kernel_rfl⟩
instance : TSvE Try.prog 22 := ⟨trivial⟩
instance : TSli Try.prog 22 37 2 16 := ⟨Try.underlying22, by kernel_rfl, by kernel_rfl, by kernel_rfl, zlen_of (z := .agg #[.int .i64 0, .int .i64 0]) (by kernel_rfl) rfl⟩
instance : TScal Try.prog 23 := ⟨⟨_, Try.underlying23, rfl⟩, by kernel_rfl⟩
instance : TScal Try.prog 24 := ⟨⟨_, Try.underlying24, rfl⟩, by kernel_rfl⟩
instance : TZero Try.prog 24 (.slice none 0 0) := ⟨by kernel_rfl⟩
instance : TSvE Try.prog 24 := ⟨trivial⟩
instance : TSli Try.prog 24 35 2 16 := ⟨Try.underlying24, by kernel_rfl, by kernel_rfl, by kernel_rfl, zlen_of (z := .agg #[.int .i64 0, .int .i64 0]) (by kernel_rfl) rfl⟩
instance : TScal Try.prog 26 := ⟨⟨_, Try.underlying26, rfl⟩, by kernel_rfl⟩
instance : TScal Try.prog 27 := ⟨⟨_, Try.underlying27, rfl⟩, by kernel_rfl⟩
instance : TScal Try.prog 28 := ⟨⟨_, Try.underlying28, rfl⟩, by kernel_rfl⟩
instance : TScal Try.prog 29 := ⟨⟨_, Try.underlying29, rfl⟩, by kernel_rfl⟩
instance : TScal Try.prog 30 := ⟨⟨_, Try.underlying30, rfl⟩, by kernel_rfl⟩
instance : TScal Try.prog 31 := ⟨⟨_, Try.underlying31, rfl⟩, by kernel_rfl⟩
instance : TScal Try.prog 33 := ⟨⟨_, Try.underlying33, rfl⟩, by kernel_rfl⟩
instance : TStr Try.prog 34 2 := ⟨⟨_, Try.underlying34⟩, by kernel_rfl⟩
instance : TFldT Try.prog 34 0 0 2 := ⟨⟨_, _, Try.underlying34, rfl, rfl, rfl⟩⟩
instance : TFld Try.prog 34 0 0 := ⟨⟨_, _, Try.underlying34, rfl, rfl, _, (by kernel_rfl : (Try.prog.info? 2).map (·.size) = some (0 + 1))⟩⟩
instance : TFldT Try.prog 34 1 1 2 := ⟨⟨_, _, Try.underlying34, rfl, rfl, rfl⟩⟩
instance : TFld Try.prog 34 1 1 := ⟨⟨_, _, Try.underlying34, rfl, rfl, _, (by kernel_rfl : (Try.prog.info? 2).map (·.size) = some (0 + 1))⟩⟩
instance : TFlat Try.prog 34 [.int .i64 0, .int .i64 0] := ⟨by kernel_rfl, _, Try.underlying34, by kernel_rfl⟩
instance : TZero Try.prog 34 (.agg #[.int .i64 0, .int .i64 0]) := ⟨by kernel_rfl⟩
instance : TPair Try.prog 35 := ⟨by kernel_rfl, by kernel_rfl, _, _, Try.underlying35, by decide, by decide, rfl, rfl, Try.underlying2, Try.underlying2⟩
instance : TStr Try.prog 35 2 := ⟨⟨_, Try.underlying35⟩, by kernel_rfl⟩
instance : TFldT Try.prog 35 0 0 2 := ⟨⟨_, _, Try.underlying35, rfl, rfl, rfl⟩⟩
instance : TFld Try.prog 35 0 0 := ⟨⟨_, _, Try.underlying35, rfl, rfl, _, (by kernel_rfl : (Try.prog.info? 2).map (·.size) = some (0 + 1))⟩⟩
instance : TFldT Try.prog 35 1 1 2 := ⟨⟨_, _, Try.underlying35, rfl, rfl, rfl⟩⟩
instance : TFld Try.prog 35 1 1 := ⟨⟨_, _, Try.underlying35, rfl, rfl, _, (by kernel_rfl : (Try.prog.info? 2).map (·.size) = some (0 + 1))⟩⟩
instance : TFlat Try.prog 35 [.int .i64 0, .int .i64 0] := ⟨by kernel_rfl, _, Try.underlying35, by kernel_rfl⟩
instance : TZero Try.prog 35 (.agg #[.int .i64 0, .int .i64 0]) := ⟨by kernel_rfl⟩
instance : TScal Try.prog 36 := ⟨⟨_, Try.underlying36, rfl⟩, by kernel_rfl⟩
instance : TPair Try.prog 37 := ⟨by kernel_rfl, by kernel_rfl, _, _, Try.underlying37, by decide, by decide, rfl, rfl, Try.underlying2, Try.underlying2⟩
instance : TStr Try.prog 37 2 := ⟨⟨_, Try.underlying37⟩, by kernel_rfl⟩
instance : TFldT Try.prog 37 0 0 2 := ⟨⟨_, _, Try.underlying37, rfl, rfl, rfl⟩⟩
instance : TFld Try.prog 37 0 0 := ⟨⟨_, _, Try.underlying37, rfl, rfl, _, (by kernel_rfl : (Try.prog.info? 2).map (·.size) = some (0 + 1))⟩⟩
instance : TFldT Try.prog 37 1 1 2 := ⟨⟨_, _, Try.underlying37, rfl, rfl, rfl⟩⟩
instance : TFld Try.prog 37 1 1 := ⟨⟨_, _, Try.underlying37, rfl, rfl, _, (by kernel_rfl : (Try.prog.info? 2).map (·.size) = some (0 + 1))⟩⟩
instance : TFlat Try.prog 37 [.int .i64 0, .int .i64 0] := ⟨by kernel_rfl, _, Try.underlying37, by kernel_rfl⟩
instance : TZero Try.prog 37 (.agg #[.int .i64 0, .int .i64 0]) := ⟨by kernel_rfl⟩
instance : TScal Try.prog 38 := ⟨⟨_, Try.underlying38, rfl⟩, by kernel_rfl⟩
instance : TScal Try.prog 39 := ⟨⟨_, Try.underlying39, rfl⟩, by kernel_rfl⟩
instance : TScal Try.prog 40 := ⟨⟨_, Try.underlying40, rfl⟩, by kernel_rfl⟩
instance : TScal Try.prog 41 := ⟨⟨_, Try.underlying41, rfl⟩, by kernel_rfl⟩
instance : TScal Try.prog 42 := ⟨⟨_, Try.underlying42, rfl⟩, by kernel_rfl⟩
instance : TScal Try.prog 43 := ⟨⟨_, Try.underlying43, rfl⟩, by kernel_rfl⟩
instance : TScal Try.prog 44 := ⟨⟨_, Try.underlying44, rfl⟩, by kernel_rfl⟩
instance : TInt Try.prog 44 .u64 := ⟨Try.underlying44⟩
instance : TZero Try.prog 44 (.int .u64 0) := ⟨by kernel_rfl⟩
instance : TScal Try.prog 45 := ⟨⟨_, Try.underlying45, rfl⟩, by kernel_rfl⟩
instance : TScal Try.prog 46 := ⟨⟨_, Try.underlying46, rfl⟩, by kernel_rfl⟩
instance : TInt Try.prog 46 .i64 := ⟨Try.underlying46⟩
instance : TZero Try.prog 46 (.int .i64 0) := ⟨by kernel_rfl⟩
instance : TScal Try.prog 48 := ⟨⟨_, Try.underlying48, rfl⟩, by kernel_rfl⟩
instance : TScal Try.prog 49 := ⟨⟨_, Try.underlying49, rfl⟩, by kernel_rfl⟩
instance : TScal Try.prog 50 := ⟨⟨_, Try.underlying50, rfl⟩, by kernel_rfl⟩
instance : TScal Try.prog 52 := ⟨⟨_, Try.underlying52, rfl⟩, by kernel_rfl⟩
instance : TScal Try.prog 53 := ⟨⟨_, Try.underlying53, rfl⟩, by kernel_rfl⟩
instance : TScal Try.prog 54 := ⟨⟨_, Try.underlying54, rfl⟩, by kernel_rfl⟩
instance : TInt Try.prog 54 .u32 := ⟨Try.underlying54⟩
instance : TZero Try.prog 54 (.int .u32 0) := ⟨by kernel_rfl⟩
instance : TScal Try.prog 55 := ⟨⟨_, Try.underlying55, rfl⟩, by kernel_rfl⟩
instance : TScal Try.prog 56 := ⟨⟨_, Try.underlying56, rfl⟩, by kernel_rfl⟩
instance : TInt Try.prog 56 .u64 := ⟨Try.underlying56⟩
instance : TZero Try.prog 56 (.int .u64 0) := ⟨by kernel_rfl⟩
instance : TScal Try.prog 57 := ⟨⟨_, Try.underlying57, rfl⟩, by kernel_rfl⟩
instance : TInt Try.prog 57 .u64 := ⟨Try.underlying57⟩
instance : TZero Try.prog 57 (.int .u64 0) := ⟨by kernel_rfl⟩
instance : TScal Try.prog 58 := ⟨⟨_, Try.underlying58, rfl⟩, by kernel_rfl⟩
instance : TScal Try.prog 59 := ⟨⟨_, Try.underlying59, rfl⟩, by kernel_rfl⟩
instance : TScal Try.prog 60 := ⟨⟨_, Try.underlying60, rfl⟩, by kernel_rfl⟩
instance : TScal Try.prog 61 := ⟨⟨_, Try.underlying61, rfl⟩, by kernel_rfl⟩
instance : TScal Try.prog 62 := ⟨⟨_, Try.underlying62, rfl⟩, by kernel_rfl⟩
instance : TScal Try.prog 63 := ⟨⟨_, Try.underlying63, rfl⟩, by kernel_rfl⟩
instance : TScal Try.prog 65 := ⟨⟨_, Try.underlying65, rfl⟩, by kernel_rfl⟩
instance : TScal Try.prog 66 := ⟨⟨_, Try.underlying66, rfl⟩, by kernel_rfl⟩
instance : TStr Try.prog 67 4 := ⟨⟨_, Try.underlying67⟩, by kernel_rfl⟩
instance : TFldT Try.prog 67 0 0 17 := ⟨⟨_, _, Try.underlying67, rfl, rfl, rfl⟩⟩
instance : TFld Try.prog 67 0 0 := ⟨⟨_, _, Try.underlying67, rfl, rfl, _, (by kernel_rfl : (Try.prog.info? 17).map (·.size) = some (0 + 1))⟩⟩
instance : TFldT Try.prog 67 1 1 17 := ⟨⟨_, _, Try.underlying67, rfl, rfl, rfl⟩⟩
instance : TFld Try.prog 67 1 1 := ⟨⟨_, _, Try.underlying67, rfl, rfl, _, (by kernel_rfl : (Try.prog.info? 17).map (·.size) = some (0 + 1))⟩⟩
instance : TFldT Try.prog 67 2 2 17 := ⟨⟨_, _, Try.underlying67, rfl, rfl, rfl⟩⟩
instance : TFld Try.prog 67 2 2 := ⟨⟨_, _, Try.underlying67, rfl, rfl, _, (by kernel_rfl : (Try.prog.info? 17).map (·.size) = some (0 + 1))⟩⟩
instance : TFldT Try.prog 67 3 3 9 := ⟨⟨_, _, Try.underlying67, rfl, rfl, rfl⟩⟩
instance : TFld Try.prog 67 3 3 := ⟨⟨_, _, Try.underlying67, rfl, rfl, _, (by kernel_rfl : (Try.prog.info? 9).map (·.size) = some (0 + 1))⟩⟩
instance : TFlat Try.prog 67 [.pointer none, .pointer none, .pointer none, .string ⟨#[]⟩] := ⟨by kernel_rfl, _, Try.underlying67, by kernel_rfl⟩
instance : TZero Try.prog 67 (.agg #[.pointer none, .pointer none, .pointer none, .string ⟨#[]⟩]) := ⟨by kernel_rfl⟩
instance : TStr Try.prog 68 4 := ⟨⟨_, Try.underlying68⟩, by kernel_rfl⟩
instance : TFldT Try.prog 68 0 0 17 := ⟨⟨_, _, Try.underlying68, rfl, rfl, rfl⟩⟩
instance : TFld Try.prog 68 0 0 := ⟨⟨_, _, Try.underlying68, rfl, rfl, _, (by kernel_rfl : (Try.prog.info? 17).map (·.size) = some (0 + 1))⟩⟩
instance : TFldT Try.prog 68 1 1 17 := ⟨⟨_, _, Try.underlying68, rfl, rfl, rfl⟩⟩
instance : TFld Try.prog 68 1 1 := ⟨⟨_, _, Try.underlying68, rfl, rfl, _, (by kernel_rfl : (Try.prog.info? 17).map (·.size) = some (0 + 1))⟩⟩
instance : TFldT Try.prog 68 2 2 17 := ⟨⟨_, _, Try.underlying68, rfl, rfl, rfl⟩⟩
instance : TFld Try.prog 68 2 2 := ⟨⟨_, _, Try.underlying68, rfl, rfl, _, (by kernel_rfl : (Try.prog.info? 17).map (·.size) = some (0 + 1))⟩⟩
instance : TFldT Try.prog 68 3 3 9 := ⟨⟨_, _, Try.underlying68, rfl, rfl, rfl⟩⟩
instance : TFld Try.prog 68 3 3 := ⟨⟨_, _, Try.underlying68, rfl, rfl, _, (by kernel_rfl : (Try.prog.info? 9).map (·.size) = some (0 + 1))⟩⟩
instance : TFlat Try.prog 68 [.pointer none, .pointer none, .pointer none, .string ⟨#[]⟩] := ⟨by kernel_rfl, _, Try.underlying68, by kernel_rfl⟩
instance : TZero Try.prog 68 (.agg #[.pointer none, .pointer none, .pointer none, .string ⟨#[]⟩]) := ⟨by kernel_rfl⟩
instance : TArr Try.prog 69 0 16 := ⟨Try.underlying69⟩
instance : TZero Try.prog 69 (.agg #[]) := ⟨by kernel_rfl⟩
instance : TScal Try.prog 72 := ⟨⟨_, Try.underlying72, rfl⟩, by kernel_rfl⟩
instance : TScal Try.prog 73 := ⟨⟨_, Try.underlying73, rfl⟩, by kernel_rfl⟩
instance : TInt Try.prog 73 .u8 := ⟨Try.underlying73⟩
instance : TZero Try.prog 73 (.int .u8 0) := ⟨by kernel_rfl⟩
instance : TScal Try.prog 74 := ⟨⟨_, Try.underlying74, rfl⟩, by kernel_rfl⟩
instance : TInt Try.prog 74 .u8 := ⟨Try.underlying74⟩
instance : TZero Try.prog 74 (.int .u8 0) := ⟨by kernel_rfl⟩
instance : TScal Try.prog 75 := ⟨⟨_, Try.underlying75, rfl⟩, by kernel_rfl⟩
instance : TScal Try.prog 76 := ⟨⟨_, Try.underlying76, rfl⟩, by kernel_rfl⟩
instance : TScal Try.prog 77 := ⟨⟨_, Try.underlying77, rfl⟩, by kernel_rfl⟩
instance : TInt Try.prog 77 .i32 := ⟨Try.underlying77⟩
instance : TZero Try.prog 77 (.int .i32 0) := ⟨by kernel_rfl⟩
instance : TScal Try.prog 78 := ⟨⟨_, Try.underlying78, rfl⟩, by kernel_rfl⟩
instance : TInt Try.prog 78 .i32 := ⟨Try.underlying78⟩
instance : TZero Try.prog 78 (.int .i32 0) := ⟨by kernel_rfl⟩
instance : TStr Try.prog 79 11 := ⟨⟨_, Try.underlying79⟩, by kernel_rfl⟩
instance : TFldT Try.prog 79 0 0 12 := ⟨⟨_, _, Try.underlying79, rfl, rfl, rfl⟩⟩
instance : TFld Try.prog 79 0 0 := ⟨⟨_, _, Try.underlying79, rfl, rfl, _, (by kernel_rfl : (Try.prog.info? 12).map (·.size) = some (0 + 1))⟩⟩
instance : TFldT Try.prog 79 1 1 12 := ⟨⟨_, _, Try.underlying79, rfl, rfl, rfl⟩⟩
instance : TFld Try.prog 79 1 1 := ⟨⟨_, _, Try.underlying79, rfl, rfl, _, (by kernel_rfl : (Try.prog.info? 12).map (·.size) = some (0 + 1))⟩⟩
instance : TFldT Try.prog 79 2 2 54 := ⟨⟨_, _, Try.underlying79, rfl, rfl, rfl⟩⟩
instance : TFld Try.prog 79 2 2 := ⟨⟨_, _, Try.underlying79, rfl, rfl, _, (by kernel_rfl : (Try.prog.info? 54).map (·.size) = some (0 + 1))⟩⟩
instance : TFldT Try.prog 79 3 3 73 := ⟨⟨_, _, Try.underlying79, rfl, rfl, rfl⟩⟩
instance : TFld Try.prog 79 3 3 := ⟨⟨_, _, Try.underlying79, rfl, rfl, _, (by kernel_rfl : (Try.prog.info? 73).map (·.size) = some (0 + 1))⟩⟩
instance : TFldT Try.prog 79 4 4 5 := ⟨⟨_, _, Try.underlying79, rfl, rfl, rfl⟩⟩
instance : TFld Try.prog 79 4 4 := ⟨⟨_, _, Try.underlying79, rfl, rfl, _, (by kernel_rfl : (Try.prog.info? 5).map (·.size) = some (0 + 1))⟩⟩
instance : TFldT Try.prog 79 5 5 5 := ⟨⟨_, _, Try.underlying79, rfl, rfl, rfl⟩⟩
instance : TFld Try.prog 79 5 5 := ⟨⟨_, _, Try.underlying79, rfl, rfl, _, (by kernel_rfl : (Try.prog.info? 5).map (·.size) = some (0 + 1))⟩⟩
instance : TFldT Try.prog 79 6 6 74 := ⟨⟨_, _, Try.underlying79, rfl, rfl, rfl⟩⟩
instance : TFld Try.prog 79 6 6 := ⟨⟨_, _, Try.underlying79, rfl, rfl, _, (by kernel_rfl : (Try.prog.info? 74).map (·.size) = some (0 + 1))⟩⟩
instance : TFldT Try.prog 79 7 7 75 := ⟨⟨_, _, Try.underlying79, rfl, rfl, rfl⟩⟩
instance : TFld Try.prog 79 7 7 := ⟨⟨_, _, Try.underlying79, rfl, rfl, _, (by kernel_rfl : (Try.prog.info? 75).map (·.size) = some (0 + 1))⟩⟩
instance : TFldT Try.prog 79 8 8 76 := ⟨⟨_, _, Try.underlying79, rfl, rfl, rfl⟩⟩
instance : TFld Try.prog 79 8 8 := ⟨⟨_, _, Try.underlying79, rfl, rfl, _, (by kernel_rfl : (Try.prog.info? 76).map (·.size) = some (0 + 1))⟩⟩
instance : TFldT Try.prog 79 9 9 77 := ⟨⟨_, _, Try.underlying79, rfl, rfl, rfl⟩⟩
instance : TFld Try.prog 79 9 9 := ⟨⟨_, _, Try.underlying79, rfl, rfl, _, (by kernel_rfl : (Try.prog.info? 77).map (·.size) = some (0 + 1))⟩⟩
instance : TFldT Try.prog 79 10 10 78 := ⟨⟨_, _, Try.underlying79, rfl, rfl, rfl⟩⟩
instance : TFld Try.prog 79 10 10 := ⟨⟨_, _, Try.underlying79, rfl, rfl, _, (by kernel_rfl : (Try.prog.info? 78).map (·.size) = some (0 + 1))⟩⟩
instance : TFlat Try.prog 79 [.int .u64 0, .int .u64 0, .int .u32 0, .int .u8 0, .int .u8 0, .int .u8 0, .int .u8 0, .nilFunc, .pointer none, .int .i32 0, .int .i32 0] := ⟨by kernel_rfl, _, Try.underlying79, by kernel_rfl⟩
instance : TZero Try.prog 79 (.agg #[.int .u64 0, .int .u64 0, .int .u32 0, .int .u8 0, .int .u8 0, .int .u8 0, .int .u8 0, .nilFunc, .pointer none, .int .i32 0, .int .i32 0]) := ⟨by kernel_rfl⟩
instance : TStr Try.prog 80 11 := ⟨⟨_, Try.underlying80⟩, by kernel_rfl⟩
instance : TFldT Try.prog 80 0 0 12 := ⟨⟨_, _, Try.underlying80, rfl, rfl, rfl⟩⟩
instance : TFld Try.prog 80 0 0 := ⟨⟨_, _, Try.underlying80, rfl, rfl, _, (by kernel_rfl : (Try.prog.info? 12).map (·.size) = some (0 + 1))⟩⟩
instance : TFldT Try.prog 80 1 1 12 := ⟨⟨_, _, Try.underlying80, rfl, rfl, rfl⟩⟩
instance : TFld Try.prog 80 1 1 := ⟨⟨_, _, Try.underlying80, rfl, rfl, _, (by kernel_rfl : (Try.prog.info? 12).map (·.size) = some (0 + 1))⟩⟩
instance : TFldT Try.prog 80 2 2 54 := ⟨⟨_, _, Try.underlying80, rfl, rfl, rfl⟩⟩
instance : TFld Try.prog 80 2 2 := ⟨⟨_, _, Try.underlying80, rfl, rfl, _, (by kernel_rfl : (Try.prog.info? 54).map (·.size) = some (0 + 1))⟩⟩
instance : TFldT Try.prog 80 3 3 73 := ⟨⟨_, _, Try.underlying80, rfl, rfl, rfl⟩⟩
instance : TFld Try.prog 80 3 3 := ⟨⟨_, _, Try.underlying80, rfl, rfl, _, (by kernel_rfl : (Try.prog.info? 73).map (·.size) = some (0 + 1))⟩⟩
instance : TFldT Try.prog 80 4 4 5 := ⟨⟨_, _, Try.underlying80, rfl, rfl, rfl⟩⟩
instance : TFld Try.prog 80 4 4 := ⟨⟨_, _, Try.underlying80, rfl, rfl, _, (by kernel_rfl : (Try.prog.info? 5).map (·.size) = some (0 + 1))⟩⟩
instance : TFldT Try.prog 80 5 5 5 := ⟨⟨_, _, Try.underlying80, rfl, rfl, rfl⟩⟩
instance : TFld Try.prog 80 5 5 := ⟨⟨_, _, Try.underlying80, rfl, rfl, _, (by kernel_rfl : (Try.prog.info? 5).map (·.size) = some (0 + 1))⟩⟩
instance : TFldT Try.prog 80 6 6 74 := ⟨⟨_, _, Try.underlying80, rfl, rfl, rfl⟩⟩
instance : TFld Try.prog 80 6 6 := ⟨⟨_, _, Try.underlying80, rfl, rfl, _, (by kernel_rfl : (Try.prog.info? 74).map (·.size) = some (0 + 1))⟩⟩
instance : TFldT Try.prog 80 7 7 75 := ⟨⟨_, _, Try.underlying80, rfl, rfl, rfl⟩⟩
instance : TFld Try.prog 80 7 7 := ⟨⟨_, _, Try.underlying80, rfl, rfl, _, (by kernel_rfl : (Try.prog.info? 75).map (·.size) = some (0 + 1))⟩⟩
instance : TFldT Try.prog 80 8 8 76 := ⟨⟨_, _, Try.underlying80, rfl, rfl, rfl⟩⟩
instance : TFld Try.prog 80 8 8 := ⟨⟨_, _, Try.underlying80, rfl, rfl, _, (by kernel_rfl : (Try.prog.info? 76).map (·.size) = some (0 + 1))⟩⟩
instance : TFldT Try.prog 80 9 9 77 := ⟨⟨_, _, Try.underlying80, rfl, rfl, rfl⟩⟩
instance : TFld Try.prog 80 9 9 := ⟨⟨_, _, Try.underlying80, rfl, rfl, _, (by kernel_rfl : (Try.prog.info? 77).map (·.size) = some (0 + 1))⟩⟩
instance : TFldT Try.prog 80 10 10 78 := ⟨⟨_, _, Try.underlying80, rfl, rfl, rfl⟩⟩
instance : TFld Try.prog 80 10 10 := ⟨⟨_, _, Try.underlying80, rfl, rfl, _, (by kernel_rfl : (Try.prog.info? 78).map (·.size) = some (0 + 1))⟩⟩
instance : TFlat Try.prog 80 [.int .u64 0, .int .u64 0, .int .u32 0, .int .u8 0, .int .u8 0, .int .u8 0, .int .u8 0, .nilFunc, .pointer none, .int .i32 0, .int .i32 0] := ⟨by kernel_rfl, _, Try.underlying80, by kernel_rfl⟩
instance : TZero Try.prog 80 (.agg #[.int .u64 0, .int .u64 0, .int .u32 0, .int .u8 0, .int .u8 0, .int .u8 0, .int .u8 0, .nilFunc, .pointer none, .int .i32 0, .int .i32 0]) := ⟨by kernel_rfl⟩
instance : Callable Try.prog 3 := callable Try.func3 (by kernel_rfl) rfl   -- loop.example/g01012/laws.FnExactBackCopies
instance : Callable Try.prog 4 := callable Try.func4 (by kernel_rfl) rfl   -- loop.example/g01012/laws.szCopyS
instance : Callable Try.prog 5 := callable Try.func5 (by kernel_rfl) rfl   -- loop.example/g01012/spec.BackCopies
instance : Callable Try.prog 6 := callable Try.func6 (by kernel_rfl) rfl   -- loop.example/g01012/laws.toCopyS
instance : Callable Try.prog 7 := callable Try.func7 (by kernel_rfl) rfl   -- loop.example/g01012/impl.BackCopies
instance : Callable Try.prog 8 := callable Try.func8 (by kernel_rfl) rfl   -- loop.example/g01012/laws.eqCopyS
instance : Callable Try.prog 9 := callable Try.func9 (by kernel_rfl) rfl   -- loop.example/g01012/laws.markCopyS
instance : Callable Try.prog 10 := callable Try.func10 (by kernel_rfl) rfl   -- loop.example/g01012/laws.heldCopyS
instance : Callable Try.prog 11 := callable Try.func11 (by kernel_rfl) rfl   -- loop.example/g01012/spec.l10Plain
instance : Callable Try.prog 12 := callable Try.func12 (by kernel_rfl) rfl   -- loop.example/g01012/spec.l10Put
instance : Callable Try.prog 13 := callable Try.func13 (by kernel_rfl) rfl   -- loop.example/g01012/laws.toCopy
instance : Callable Try.prog 14 := callable Try.func14 (by kernel_rfl) rfl   -- loop.example/g01012/impl.isPlain
instance : Callable Try.prog 15 := callable Try.func15 (by kernel_rfl) rfl   -- slices.SortFunc[[]loop.example/g01012/impl.Copy,loop.example/g01012/impl.Copy]
instance : Callable Try.prog 16 := callable Try.func16 (by kernel_rfl) rfl   -- loop.example/g01012/impl.BackCopies$1
instance : Callable Try.prog 17 := callable Try.func17 (by kernel_rfl) rfl   -- loop.example/g01012/laws.eqCopy
instance : Callable Try.prog 18 := callable Try.func18 (by kernel_rfl) rfl   -- loop.example/g01012/spec.l00In
instance : Callable Try.prog 19 := callable Try.func19 (by kernel_rfl) rfl   -- loop.example/g01012/impl.inside
instance : Callable Try.prog 20 := callable Try.func20 (by kernel_rfl) rfl   -- slices.pdqsortCmpFunc[loop.example/g01012/impl.Copy]
instance : Callable Try.prog 22 := callable Try.func22 (by kernel_rfl) rfl   -- slices.insertionSortCmpFunc[loop.example/g01012/impl.Copy]
instance : Callable Try.prog 23 := callable Try.func23 (by kernel_rfl) rfl   -- slices.heapSortCmpFunc[loop.example/g01012/impl.Copy]
instance : Callable Try.prog 24 := callable Try.func24 (by kernel_rfl) rfl   -- slices.breakPatternsCmpFunc[loop.example/g01012/impl.Copy]
instance : Callable Try.prog 25 := callable Try.func25 (by kernel_rfl) rfl   -- slices.choosePivotCmpFunc[loop.example/g01012/impl.Copy]
instance : Callable Try.prog 26 := callable Try.func26 (by kernel_rfl) rfl   -- slices.reverseRangeCmpFunc[loop.example/g01012/impl.Copy]
instance : Callable Try.prog 27 := callable Try.func27 (by kernel_rfl) rfl   -- slices.partialInsertionSortCmpFunc[loop.example/g01012/impl.Copy]
instance : Callable Try.prog 28 := callable Try.func28 (by kernel_rfl) rfl   -- slices.partitionEqualCmpFunc[loop.example/g01012/impl.Copy]
instance : Callable Try.prog 29 := callable Try.func29 (by kernel_rfl) rfl   -- slices.partitionCmpFunc[loop.example/g01012/impl.Copy]
instance : Callable Try.prog 32 := callable Try.func32 (by kernel_rfl) rfl   -- slices.siftDownCmpFunc[loop.example/g01012/impl.Copy]
instance : Callable Try.prog 33 := callable Try.func33 (by kernel_rfl) rfl   -- slices.nextPowerOfTwo
instance : Callable Try.prog 35 := callable Try.func35 (by kernel_rfl) rfl   -- slices.medianAdjacentCmpFunc[loop.example/g01012/impl.Copy]
instance : Callable Try.prog 36 := callable Try.func36 (by kernel_rfl) rfl   -- slices.medianCmpFunc[loop.example/g01012/impl.Copy]
instance : Callable Try.prog 37 := callable Try.func37 (by kernel_rfl) rfl   -- slices.order2CmpFunc[loop.example/g01012/impl.Copy]
end Go.Proofs.Ytihnhelkfiaimaa

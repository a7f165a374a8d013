/- What is known of this program's types and functions. -/
import Derived.Test.YtgkljfncpgbngaaDoorL12
import Derived.Test.YtgkljfncpgbngaaDoorChecked
namespace Go.Proofs.YtgkljfncpgbngaaDoor
open Go Go.Gw
theorem mixed : Tryd.prog.follows .mixedOrders = true := by kernel_rfl
instance : TScal Tryd.prog 1 := ⟨⟨_, Tryd.underlying1, rfl⟩, by kernel_rfl⟩
instance : TScal Tryd.prog 2 := ⟨⟨_, Tryd.underlying2, rfl⟩, by kernel_rfl⟩
instance : TInt Tryd.prog 2 .i64 := ⟨Tryd.underlying2⟩
instance : TZero Tryd.prog 2 (.int .i64 0) := ⟨by kernel_rfl⟩
instance : TScal Tryd.prog 3 := ⟨⟨_, Tryd.underlying3, rfl⟩, by kernel_rfl⟩
instance : TInt Tryd.prog 3 .i64 := ⟨Tryd.underlying3⟩
instance : TZero Tryd.prog 3 (.int .i64 0) := ⟨by kernel_rfl⟩
instance : TScal Tryd.prog 4 := ⟨⟨_, Tryd.underlying4, rfl⟩, by kernel_rfl⟩
instance : TBool Tryd.prog 4 := ⟨Tryd.underlying4⟩
instance : TZero Tryd.prog 4 (.bool false) := ⟨by kernel_rfl⟩
instance : TScal Tryd.prog 5 := ⟨⟨_, Tryd.underlying5, rfl⟩, by kernel_rfl⟩
instance : TInt Tryd.prog 5 .u8 := ⟨Tryd.underlying5⟩
instance : TZero Tryd.prog 5 (.int .u8 0) := ⟨by kernel_rfl⟩
instance : TScal Tryd.prog 6 := ⟨⟨_, Tryd.underlying6, rfl⟩, by kernel_rfl⟩
instance : TInt Tryd.prog 6 .u8 := ⟨Tryd.underlying6⟩
instance : TZero Tryd.prog 6 (.int .u8 0) := ⟨by kernel_rfl⟩
instance : TStr Tryd.prog 7 4 := ⟨⟨_, Tryd.underlying7⟩, by kernel_rfl⟩
instance : TFldT Tryd.prog 7 0 0 2 := ⟨⟨_, _, Tryd.underlying7, rfl, rfl, rfl⟩⟩
instance : TFld Tryd.prog 7 0 0 := ⟨⟨_, _, Tryd.underlying7, rfl, rfl, _, (by kernel_rfl : (Tryd.prog.info? 2).map (·.size) = some (0 + 1))⟩⟩
instance : TFldT Tryd.prog 7 1 1 3 := ⟨⟨_, _, Tryd.underlying7, rfl, rfl, rfl⟩⟩
instance : TFld Tryd.prog 7 1 1 := ⟨⟨_, _, Tryd.underlying7, rfl, rfl, _, (by kernel_rfl : (Tryd.prog.info? 3).map (·.size) = some (0 + 1))⟩⟩
instance : TFldT Tryd.prog 7 2 2 4 := ⟨⟨_, _, Tryd.underlying7, rfl, rfl, rfl⟩⟩
instance : TFld Tryd.prog 7 2 2 := ⟨⟨_, _, Tryd.underlying7, rfl, rfl, _, (by kernel_rfl : (Tryd.prog.info? 4).map (·.size) = some (0 + 1))⟩⟩
instance : TFldT Tryd.prog 7 3 3 6 := ⟨⟨_, _, Tryd.underlying7, rfl, rfl, rfl⟩⟩
instance : TFld Tryd.prog 7 3 3 := ⟨⟨_, _, Tryd.underlying7, rfl, rfl, _, (by kernel_rfl : (Tryd.prog.info? 6).map (·.size) = some (0 + 1))⟩⟩
instance : TFlat Tryd.prog 7 [.int .i64 0, .int .i64 0, .bool false, .int .u8 0] := ⟨by kernel_rfl, _, Tryd.underlying7, by kernel_rfl⟩
instance : TZero Tryd.prog 7 (.agg #[.int .i64 0, .int .i64 0, .bool false, .int .u8 0]) := ⟨by kernel_rfl⟩
instance : TStr Tryd.prog 8 4 := ⟨⟨_, Tryd.underlying8⟩, by kernel_rfl⟩
instance : TFldT Tryd.prog 8 0 0 2 := ⟨⟨_, _, Tryd.underlying8, rfl, rfl, rfl⟩⟩
instance : TFld Tryd.prog 8 0 0 := ⟨⟨_, _, Tryd.underlying8, rfl, rfl, _, (by kernel_rfl : (Tryd.prog.info? 2).map (·.size) = some (0 + 1))⟩⟩
instance : TFldT Tryd.prog 8 1 1 3 := ⟨⟨_, _, Tryd.underlying8, rfl, rfl, rfl⟩⟩
instance : TFld Tryd.prog 8 1 1 := ⟨⟨_, _, Tryd.underlying8, rfl, rfl, _, (by kernel_rfl : (Tryd.prog.info? 3).map (·.size) = some (0 + 1))⟩⟩
instance : TFldT Tryd.prog 8 2 2 4 := ⟨⟨_, _, Tryd.underlying8, rfl, rfl, rfl⟩⟩
instance : TFld Tryd.prog 8 2 2 := ⟨⟨_, _, Tryd.underlying8, rfl, rfl, _, (by kernel_rfl : (Tryd.prog.info? 4).map (·.size) = some (0 + 1))⟩⟩
instance : TFldT Tryd.prog 8 3 3 6 := ⟨⟨_, _, Tryd.underlying8, rfl, rfl, rfl⟩⟩
instance : TFld Tryd.prog 8 3 3 := ⟨⟨_, _, Tryd.underlying8, rfl, rfl, _, (by kernel_rfl : (Tryd.prog.info? 6).map (·.size) = some (0 + 1))⟩⟩
instance : TFlat Tryd.prog 8 [.int .i64 0, .int .i64 0, .bool false, .int .u8 0] := ⟨by kernel_rfl, _, Tryd.underlying8, by kernel_rfl⟩
instance : TZero Tryd.prog 8 (.agg #[.int .i64 0, .int .i64 0, .bool false, .int .u8 0]) := ⟨by kernel_rfl⟩
instance : TScal Tryd.prog 9 := ⟨⟨_, Tryd.underlying9, rfl⟩, by kernel_rfl⟩
instance : TStg Tryd.prog 9 := ⟨Tryd.underlying9⟩
instance : TZero Tryd.prog 9 (.string ⟨#[]⟩) := ⟨by kernel_rfl⟩
instance : TScal Tryd.prog 10 := ⟨⟨_, Tryd.underlying10, rfl⟩, by kernel_rfl⟩
instance : TStg Tryd.prog 10 := ⟨Tryd.underlying10⟩
instance : TZero Tryd.prog 10 (.string ⟨#[]⟩) := ⟨by kernel_rfl⟩
instance : TScal Tryd.prog 11 := ⟨⟨_, Tryd.underlying11, rfl⟩, by kernel_rfl⟩
instance : TStg Tryd.prog 11 := ⟨Tryd.underlying11⟩
instance : TZero Tryd.prog 11 (.string ⟨#[]⟩) := ⟨by kernel_rfl⟩
instance : TScal Tryd.prog 12 := ⟨⟨_, Tryd.underlying12, rfl⟩, by kernel_rfl⟩
instance : TInt Tryd.prog 12 .u64 := ⟨Tryd.underlying12⟩
instance : TZero Tryd.prog 12 (.int .u64 0) := ⟨by kernel_rfl⟩
instance : TStr Tryd.prog 13 2 := ⟨⟨_, Tryd.underlying13⟩, by kernel_rfl⟩
instance : TFldT Tryd.prog 13 0 0 9 := ⟨⟨_, _, Tryd.underlying13, rfl, rfl, rfl⟩⟩
instance : TFld Tryd.prog 13 0 0 := ⟨⟨_, _, Tryd.underlying13, rfl, rfl, _, (by kernel_rfl : (Tryd.prog.info? 9).map (·.size) = some (0 + 1))⟩⟩
instance : TFldT Tryd.prog 13 1 1 12 := ⟨⟨_, _, Tryd.underlying13, rfl, rfl, rfl⟩⟩
instance : TFld Tryd.prog 13 1 1 := ⟨⟨_, _, Tryd.underlying13, rfl, rfl, _, (by kernel_rfl : (Tryd.prog.info? 12).map (·.size) = some (0 + 1))⟩⟩
instance : TFlat Tryd.prog 13 [.string ⟨#[]⟩, .int .u64 0] := ⟨by kernel_rfl, _, Tryd.underlying13, by kernel_rfl⟩
instance : TZero Tryd.prog 13 (.agg #[.string ⟨#[]⟩, .int .u64 0]) := ⟨by kernel_rfl⟩
instance : TStr Tryd.prog 14 2 := ⟨⟨_, Tryd.underlying14⟩, by kernel_rfl⟩
instance : TFldT Tryd.prog 14 0 0 9 := ⟨⟨_, _, Tryd.underlying14, rfl, rfl, rfl⟩⟩
instance : TFld Tryd.prog 14 0 0 := ⟨⟨_, _, Tryd.underlying14, rfl, rfl, _, (by kernel_rfl : (Tryd.prog.info? 9).map (·.size) = some (0 + 1))⟩⟩
instance : TFldT Tryd.prog 14 1 1 12 := ⟨⟨_, _, Tryd.underlying14, rfl, rfl, rfl⟩⟩
instance : TFld Tryd.prog 14 1 1 := ⟨⟨_, _, Tryd.underlying14, rfl, rfl, _, (by kernel_rfl : (Tryd.prog.info? 12).map (·.size) = some (0 + 1))⟩⟩
instance : TFlat Tryd.prog 14 [.string ⟨#[]⟩, .int .u64 0] := ⟨by kernel_rfl, _, Tryd.underlying14, by kernel_rfl⟩
instance : TZero Tryd.prog 14 (.agg #[.string ⟨#[]⟩, .int .u64 0]) := ⟨by kernel_rfl⟩
instance : TScal Tryd.prog 15 := ⟨⟨_, Tryd.underlying15, rfl⟩, by kernel_rfl⟩
instance : TScal Tryd.prog 16 := ⟨⟨_, Tryd.underlying16, rfl⟩, by kernel_rfl⟩
instance : TScal Tryd.prog 17 := ⟨⟨_, Tryd.underlying17, rfl⟩, by kernel_rfl⟩
instance : TStr Tryd.prog 18 1 := ⟨⟨_, Tryd.underlying18⟩, by kernel_rfl⟩
instance : TFldT Tryd.prog 18 0 0 17 := ⟨⟨_, _, Tryd.underlying18, rfl, rfl, rfl⟩⟩
instance : TFld Tryd.prog 18 0 0 := ⟨⟨_, _, Tryd.underlying18, rfl, rfl, _, (by kernel_rfl : (Tryd.prog.info? 17).map (·.size) = some (0 + 1))⟩⟩
instance : TFlat Tryd.prog 18 [.pointer none] := ⟨by kernel_rfl, _, Tryd.underlying18, by kernel_rfl⟩
instance : TZero Tryd.prog 18 (.agg #[.pointer none]) := ⟨by kernel_rfl⟩
instance : TStr Tryd.prog 19 1 := ⟨⟨_, Tryd.underlying19⟩, by kernel_rfl⟩
instance : TFldT Tryd.prog 19 0 0 17 := ⟨⟨_, _, Tryd.underlying19, rfl, rfl, rfl⟩⟩
instance : TFld Tryd.prog 19 0 0 := ⟨⟨_, _, Tryd.underlying19, rfl, rfl, _, (by kernel_rfl : (Tryd.prog.info? 17).map (·.size) = some (0 + 1))⟩⟩
instance : TFlat Tryd.prog 19 [.pointer none] := ⟨by kernel_rfl, _, Tryd.underlying19, by kernel_rfl⟩
instance : TZero Tryd.prog 19 (.agg #[.pointer none]) := ⟨by kernel_rfl⟩
instance : TScal Tryd.prog 20 := ⟨⟨_, Tryd.underlying20, rfl⟩, by kernel_rfl⟩
instance : TScal Tryd.prog 21 := ⟨⟨_, Tryd.underlying21, rfl⟩, by kernel_rfl⟩
instance : TInt Tryd.prog 21 .i32 := ⟨Tryd.underlying21⟩
instance : TZero Tryd.prog 21 (.int .i32 0) := ⟨by kernel_rfl⟩
instance : TScal Tryd.prog 22 := ⟨⟨_, Tryd.underlying22, rfl⟩, by kernel_rfl⟩
instance : TZero Tryd.prog 22 (.slice none 0 0) := ⟨by kernel_rfl⟩
instance : TSvE Tryd.prog 22 := ⟨trivial⟩
instance : TSli Tryd.prog 22 5 1 1 := ⟨Tryd.underlying22, by kernel_rfl, by kernel_rfl, by kernel_rfl, zlen_of (z := .int .u8 0) (by kernel_rfl) rfl⟩
instance : TScal Tryd.prog 23 := ⟨⟨_, Tryd.underlying23, rfl⟩, by kernel_rfl⟩
instance : TScal Tryd.prog 25 := ⟨⟨_, Tryd.underlying25, rfl⟩, by kernel_rfl⟩
instance : TScal Tryd.prog 27 := ⟨⟨_, Tryd.underlying27, rfl⟩, by kernel_rfl⟩
instance : TScal Tryd.prog 29 := ⟨⟨_, Tryd.underlying29, rfl⟩, by kernel_rfl⟩
instance : TScal Tryd.prog 30 := ⟨⟨_, Tryd.underlying30, rfl⟩, by kernel_rfl⟩
instance : TScal Tryd.prog 31 := ⟨⟨_, Tryd.underlying31, rfl⟩, by kernel_rfl⟩
instance : TScal Tryd.prog 32 := ⟨⟨_, Tryd.underlying32, rfl⟩, by kernel_rfl⟩
instance : TScal Tryd.prog 33 := ⟨⟨_, Tryd.underlying33, rfl⟩, by kernel_rfl⟩
instance : TScal Tryd.prog 34 := ⟨⟨_, Tryd.underlying34, rfl⟩, by kernel_rfl⟩
instance : TScal Tryd.prog 35 := ⟨⟨_, Tryd.underlying35, rfl⟩, by kernel_rfl⟩
instance : TScal Tryd.prog 36 := ⟨⟨_, Tryd.underlying36, rfl⟩, by kernel_rfl⟩
instance : TZero Tryd.prog 36 (.slice none 0 0) := ⟨by kernel_rfl⟩
instance : TSvE Tryd.prog 36 := ⟨trivial⟩
instance : TSli Tryd.prog 36 2 1 8 := ⟨Tryd.underlying36, by kernel_rfl, by kernel_rfl, by kernel_rfl, zlen_of (z := .int .i64 0) (by kernel_rfl) rfl⟩
instance : TStr Tryd.prog 37 1 := ⟨⟨_, Tryd.underlying37⟩, by kernel_rfl⟩
instance : TFldT Tryd.prog 37 0 0 36 := ⟨⟨_, _, Tryd.underlying37, rfl, rfl, rfl⟩⟩
instance : TFld Tryd.prog 37 0 0 := ⟨⟨_, _, Tryd.underlying37, rfl, rfl, _, (by kernel_rfl : (Tryd.prog.info? 36).map (·.size) = some (0 + 1))⟩⟩
instance : TFlat Tryd.prog 37 [.slice none 0 0] := ⟨by kernel_rfl, _, Tryd.underlying37, by kernel_rfl⟩
instance : TZero Tryd.prog 37 (.agg #[.slice none 0 0]) := ⟨by kernel_rfl⟩
instance : TSvE Tryd.prog 37 := ⟨trivial⟩
instance : TStr Tryd.prog 38 1 := ⟨⟨_, Tryd.underlying38⟩, by kernel_rfl⟩
instance : TFldT Tryd.prog 38 0 0 36 := ⟨⟨_, _, Tryd.underlying38, rfl, rfl, rfl⟩⟩
instance : TFld Tryd.prog 38 0 0 := ⟨⟨_, _, Tryd.underlying38, rfl, rfl, _, (by kernel_rfl : (Tryd.prog.info? 36).map (·.size) = some (0 + 1))⟩⟩
instance : TFlat Tryd.prog 38 [.slice none 0 0] := ⟨by kernel_rfl, _, Tryd.underlying38, by kernel_rfl⟩
instance : TZero Tryd.prog 38 (.agg #[.slice none 0 0]) := ⟨by kernel_rfl⟩
instance : TSvE Tryd.prog 38 := ⟨trivial⟩
instance : TScal Tryd.prog 40 := ⟨⟨_, Tryd.underlying40, rfl⟩, by kernel_rfl⟩
instance : TScal Tryd.prog 42 := ⟨⟨_, Tryd.underlying42, rfl⟩, by kernel_rfl⟩
instance : TScal Tryd.prog 43 := ⟨⟨_, Tryd.underlying43, rfl⟩, by kernel_rfl⟩
instance : TScal Tryd.prog 44 := ⟨⟨_, Tryd.underlying44, rfl⟩, by kernel_rfl⟩
instance : TScal Tryd.prog 45 := ⟨⟨_, Tryd.underlying45, rfl⟩, by kernel_rfl⟩
instance : TScal Tryd.prog 46 := ⟨⟨_, Tryd.underlying46, rfl⟩, by kernel_rfl⟩
instance : TScal Tryd.prog 47 := ⟨⟨_, Tryd.underlying47, rfl⟩, by kernel_rfl⟩
instance : TScal Tryd.prog 49 := ⟨⟨_, Tryd.underlying49, rfl⟩, by kernel_rfl⟩
instance : TScal Tryd.prog 50 := ⟨⟨_, Tryd.underlying50, rfl⟩, by kernel_rfl⟩
instance : TScal Tryd.prog 52 := ⟨⟨_, Tryd.underlying52, rfl⟩, by kernel_rfl⟩
instance : TScal Tryd.prog 53 := ⟨⟨_, Tryd.underlying53, rfl⟩, by kernel_rfl⟩
instance : TScal Tryd.prog 54 := ⟨⟨_, Tryd.underlying54, rfl⟩, by kernel_rfl⟩
instance : TScal Tryd.prog 55 := ⟨⟨_, Tryd.underlying55, rfl⟩, by kernel_rfl⟩
instance : TScal Tryd.prog 56 := ⟨⟨_, Tryd.underlying56, rfl⟩, by kernel_rfl⟩
instance : TScal Tryd.prog 57 := ⟨⟨_, Tryd.underlying57, rfl⟩, by kernel_rfl⟩
instance : TScal Tryd.prog 58 := ⟨⟨_, Tryd.underlying58, rfl⟩, by kernel_rfl⟩
instance : TScal Tryd.prog 59 := ⟨⟨_, Tryd.underlying59, rfl⟩, by kernel_rfl⟩
instance : TScal Tryd.prog 60 := ⟨⟨_, Tryd.underlying60, rfl⟩, by kernel_rfl⟩
instance : TScal Tryd.prog 61 := ⟨⟨_, Tryd.underlying61, rfl⟩, by kernel_rfl⟩
instance : TScal Tryd.prog 62 := ⟨⟨_, Tryd.underlying62, rfl⟩, by kernel_rfl⟩
instance : TScal Tryd.prog 63 := ⟨⟨_, Tryd.underlying63, rfl⟩, by kernel_rfl⟩
instance : TArr Tryd.prog 64 5 9 := ⟨Tryd.underlying64⟩
instance : TZero Tryd.prog 64 (.agg #[.string ⟨#[]⟩, .string ⟨#[]⟩, .string ⟨#[]⟩, .string ⟨#[]⟩, .string ⟨#[]⟩]) := ⟨by kernel_rfl⟩
instance : TScal Tryd.prog 65 := ⟨⟨_, Tryd.underlying65, rfl⟩, by kernel_rfl⟩
instance : TZero Tryd.prog 65 (.slice none 0 0) := ⟨by kernel_rfl⟩
instance : TSvE Tryd.prog 65 := ⟨trivial⟩
instance : TSli Tryd.prog 65 9 1 16 := ⟨Tryd.underlying65, by kernel_rfl, by kernel_rfl, by kernel_rfl, zlen_of (z := .string ⟨#[]⟩) (by kernel_rfl) rfl⟩
instance : TScal Tryd.prog 66 := ⟨⟨_, Tryd.underlying66, rfl⟩, by kernel_rfl⟩
instance : TScal Tryd.prog 68 := ⟨⟨_, Tryd.underlying68, rfl⟩, by kernel_rfl⟩
instance : TScal Tryd.prog 69 := ⟨⟨_, Tryd.underlying69, rfl⟩, by kernel_rfl⟩
instance : TScal Tryd.prog 70 := ⟨⟨_, Tryd.underlying70, rfl⟩, by kernel_rfl⟩
instance : TScal Tryd.prog 71 := ⟨⟨_, Tryd.underlying71, rfl⟩, by kernel_rfl⟩
instance : TScal Tryd.prog 72 := ⟨⟨_, Tryd.underlying72, rfl⟩, by kernel_rfl⟩
instance : TScal Tryd.prog 73 := ⟨⟨_, Tryd.underlying73, rfl⟩, by kernel_rfl⟩
instance : TScal Tryd.prog 74 := ⟨⟨_, Tryd.underlying74, rfl⟩, by kernel_rfl⟩
instance : TScal Tryd.prog 75 := ⟨⟨_, Tryd.underlying75, rfl⟩, by kernel_rfl⟩
instance : TScal Tryd.prog 76 := ⟨⟨_, Tryd.underlying76, rfl⟩, by kernel_rfl⟩
instance : TScal Tryd.prog 77 := ⟨⟨_, Tryd.underlying77, rfl⟩, by kernel_rfl⟩
instance : TScal Tryd.prog 78 := ⟨⟨_, Tryd.underlying78, rfl⟩, by kernel_rfl⟩
instance : TScal Tryd.prog 79 := ⟨⟨_, Tryd.underlying79, rfl⟩, by kernel_rfl⟩
instance : TScal Tryd.prog 80 := ⟨⟨_, Tryd.underlying80, rfl⟩, by kernel_rfl⟩
instance : TScal Tryd.prog 81 := ⟨⟨_, Tryd.underlying81, rfl⟩, by kernel_rfl⟩
instance : TScal Tryd.prog 82 := ⟨⟨_, Tryd.underlying82, rfl⟩, by kernel_rfl⟩
instance : TScal Tryd.prog 83 := ⟨⟨_, Tryd.underlying83, rfl⟩, by kernel_rfl⟩
instance : TScal Tryd.prog 84 := ⟨⟨_, Tryd.underlying84, rfl⟩, by kernel_rfl⟩
instance : TInt Tryd.prog 84 .u64 := ⟨Tryd.underlying84⟩
instance : TZero Tryd.prog 84 (.int .u64 0) := ⟨by kernel_rfl⟩
instance : TStr Tryd.prog 85 3 := ⟨⟨_, Tryd.underlying85⟩, by kernel_rfl⟩
instance : TFldT Tryd.prog 85 0 0 22 := ⟨⟨_, _, Tryd.underlying85, rfl, rfl, rfl⟩⟩
instance : TFld Tryd.prog 85 0 0 := ⟨⟨_, _, Tryd.underlying85, rfl, rfl, _, (by kernel_rfl : (Tryd.prog.info? 22).map (·.size) = some (0 + 1))⟩⟩
instance : TFldT Tryd.prog 85 1 1 3 := ⟨⟨_, _, Tryd.underlying85, rfl, rfl, rfl⟩⟩
instance : TFld Tryd.prog 85 1 1 := ⟨⟨_, _, Tryd.underlying85, rfl, rfl, _, (by kernel_rfl : (Tryd.prog.info? 3).map (·.size) = some (0 + 1))⟩⟩
instance : TFldT Tryd.prog 85 2 2 84 := ⟨⟨_, _, Tryd.underlying85, rfl, rfl, rfl⟩⟩
instance : TFld Tryd.prog 85 2 2 := ⟨⟨_, _, Tryd.underlying85, rfl, rfl, _, (by kernel_rfl : (Tryd.prog.info? 84).map (·.size) = some (0 + 1))⟩⟩
instance : TFlat Tryd.prog 85 [.slice none 0 0, .int .i64 0, .int .u64 0] := ⟨by kernel_rfl, _, Tryd.underlying85, by kernel_rfl⟩
instance : TZero Tryd.prog 85 (.agg #[.slice none 0 0, .int .i64 0, .int .u64 0]) := ⟨by kernel_rfl⟩
instance : TStr Tryd.prog 86 3 := ⟨⟨_, Tryd.underlying86⟩, by kernel_rfl⟩
instance : TFldT Tryd.prog 86 0 0 22 := ⟨⟨_, _, Tryd.underlying86, rfl, rfl, rfl⟩⟩
instance : TFld Tryd.prog 86 0 0 := ⟨⟨_, _, Tryd.underlying86, rfl, rfl, _, (by kernel_rfl : (Tryd.prog.info? 22).map (·.size) = some (0 + 1))⟩⟩
instance : TFldT Tryd.prog 86 1 1 3 := ⟨⟨_, _, Tryd.underlying86, rfl, rfl, rfl⟩⟩
instance : TFld Tryd.prog 86 1 1 := ⟨⟨_, _, Tryd.underlying86, rfl, rfl, _, (by kernel_rfl : (Tryd.prog.info? 3).map (·.size) = some (0 + 1))⟩⟩
instance : TFldT Tryd.prog 86 2 2 84 := ⟨⟨_, _, Tryd.underlying86, rfl, rfl, rfl⟩⟩
instance : TFld Tryd.prog 86 2 2 := ⟨⟨_, _, Tryd.underlying86, rfl, rfl, _, (by kernel_rfl : (Tryd.prog.info? 84).map (·.size) = some (0 + 1))⟩⟩
instance : TFlat Tryd.prog 86 [.slice none 0 0, .int .i64 0, .int .u64 0] := ⟨by kernel_rfl, _, Tryd.underlying86, by kernel_rfl⟩
instance : TZero Tryd.prog 86 (.agg #[.slice none 0 0, .int .i64 0, .int .u64 0]) := ⟨by kernel_rfl⟩
instance : TScal Tryd.prog 87 := ⟨⟨_, Tryd.underlying87, rfl⟩, by kernel_rfl⟩
instance : TScal Tryd.prog 88 := ⟨⟨_, Tryd.underlying88, rfl⟩, by kernel_rfl⟩
instance : TScal Tryd.prog 89 := ⟨⟨_, Tryd.underlying89, rfl⟩, by kernel_rfl⟩
instance : TScal Tryd.prog 90 := ⟨⟨_, Tryd.underlying90, rfl⟩, by kernel_rfl⟩
instance : TInt Tryd.prog 90 .u64 := ⟨Tryd.underlying90⟩
instance : TZero Tryd.prog 90 (.int .u64 0) := ⟨by kernel_rfl⟩
instance : TScal Tryd.prog 91 := ⟨⟨_, Tryd.underlying91, rfl⟩, by kernel_rfl⟩
instance : TScal Tryd.prog 92 := ⟨⟨_, Tryd.underlying92, rfl⟩, by kernel_rfl⟩
instance : TArr Tryd.prog 93 24 5 := ⟨Tryd.underlying93⟩
instance : TZero Tryd.prog 93 (.agg #[.int .u8 0, .int .u8 0, .int .u8 0, .int .u8 0, .int .u8 0, .int .u8 0, .int .u8 0, .int .u8 0, .int .u8 0, .int .u8 0, .int .u8 0, .int .u8 0, .int .u8 0, .int .u8 0, .int .u8 0, .int .u8 0, .int .u8 0, .int .u8 0, .int .u8 0, .int .u8 0, .int .u8 0, .int .u8 0, .int .u8 0, .int .u8 0]) := ⟨by kernel_rfl⟩
instance : TScal Tryd.prog 94 := ⟨⟨_, Tryd.underlying94, rfl⟩, by kernel_rfl⟩
instance : TScal Tryd.prog 95 := ⟨⟨_, Tryd.underlying95, rfl⟩, by kernel_rfl⟩
instance : TScal Tryd.prog 97 := ⟨⟨_, Tryd.underlying97, rfl⟩, by kernel_rfl⟩
instance : TScal Tryd.prog 98 := ⟨⟨_, Tryd.underlying98, rfl⟩, by kernel_rfl⟩
instance : TScal Tryd.prog 99 := ⟨⟨_, Tryd.underlying99, rfl⟩, by kernel_rfl⟩
instance : TArr Tryd.prog 100 20 84 := ⟨Tryd.underlying100⟩
instance : TZero Tryd.prog 100 (.agg #[.int .u64 0, .int .u64 0, .int .u64 0, .int .u64 0, .int .u64 0, .int .u64 0, .int .u64 0, .int .u64 0, .int .u64 0, .int .u64 0, .int .u64 0, .int .u64 0, .int .u64 0, .int .u64 0, .int .u64 0, .int .u64 0, .int .u64 0, .int .u64 0, .int .u64 0, .int .u64 0]) := ⟨by kernel_rfl⟩
instance : TScal Tryd.prog 101 := ⟨⟨_, Tryd.underlying101, rfl⟩, by kernel_rfl⟩
instance : TInt Tryd.prog 101 .u32 := ⟨Tryd.underlying101⟩
instance : TZero Tryd.prog 101 (.int .u32 0) := ⟨by kernel_rfl⟩
instance : TArr Tryd.prog 102 65 5 := ⟨Tryd.underlying102⟩
instance : TZero Tryd.prog 102 (.agg #[.int .u8 0, .int .u8 0, .int .u8 0, .int .u8 0, .int .u8 0, .int .u8 0, .int .u8 0, .int .u8 0, .int .u8 0, .int .u8 0, .int .u8 0, .int .u8 0, .int .u8 0, .int .u8 0, .int .u8 0, .int .u8 0, .int .u8 0, .int .u8 0, .int .u8 0, .int .u8 0, .int .u8 0, .int .u8 0, .int .u8 0, .int .u8 0, .int .u8 0, .int .u8 0, .int .u8 0, .int .u8 0, .int .u8 0, .int .u8 0, .int .u8 0, .int .u8 0, .int .u8 0, .int .u8 0, .int .u8 0, .int .u8 0, .int .u8 0, .int .u8 0, .int .u8 0, .int .u8 0, .int .u8 0, .int .u8 0, .int .u8 0, .int .u8 0, .int .u8 0, .int .u8 0, .int .u8 0, .int .u8 0, .int .u8 0, .int .u8 0, .int .u8 0, .int .u8 0, .int .u8 0, .int .u8 0, .int .u8 0, .int .u8 0, .int .u8 0, .int .u8 0, .int .u8 0, .int .u8 0, .int .u8 0, .int .u8 0, .int .u8 0, .int .u8 0, .int .u8 0]) := ⟨by kernel_rfl⟩
instance : TScal Tryd.prog 103 := ⟨⟨_, Tryd.underlying103, rfl⟩, by kernel_rfl⟩
instance : TScal Tryd.prog 104 := ⟨⟨_, Tryd.underlying104, rfl⟩, by kernel_rfl⟩
instance : TScal Tryd.prog 105 := ⟨⟨_, Tryd.underlying105, rfl⟩, by kernel_rfl⟩
instance : TArr Tryd.prog 106 32 5 := ⟨Tryd.underlying106⟩
instance : TZero Tryd.prog 106 (.agg #[.int .u8 0, .int .u8 0, .int .u8 0, .int .u8 0, .int .u8 0, .int .u8 0, .int .u8 0, .int .u8 0, .int .u8 0, .int .u8 0, .int .u8 0, .int .u8 0, .int .u8 0, .int .u8 0, .int .u8 0, .int .u8 0, .int .u8 0, .int .u8 0, .int .u8 0, .int .u8 0, .int .u8 0, .int .u8 0, .int .u8 0, .int .u8 0, .int .u8 0, .int .u8 0, .int .u8 0, .int .u8 0, .int .u8 0, .int .u8 0, .int .u8 0, .int .u8 0]) := ⟨by kernel_rfl⟩
instance : TArr Tryd.prog 107 64 5 := ⟨Tryd.underlying107⟩
instance : TZero Tryd.prog 107 (.agg #[.int .u8 0, .int .u8 0, .int .u8 0, .int .u8 0, .int .u8 0, .int .u8 0, .int .u8 0, .int .u8 0, .int .u8 0, .int .u8 0, .int .u8 0, .int .u8 0, .int .u8 0, .int .u8 0, .int .u8 0, .int .u8 0, .int .u8 0, .int .u8 0, .int .u8 0, .int .u8 0, .int .u8 0, .int .u8 0, .int .u8 0, .int .u8 0, .int .u8 0, .int .u8 0, .int .u8 0, .int .u8 0, .int .u8 0, .int .u8 0, .int .u8 0, .int .u8 0, .int .u8 0, .int .u8 0, .int .u8 0, .int .u8 0, .int .u8 0, .int .u8 0, .int .u8 0, .int .u8 0, .int .u8 0, .int .u8 0, .int .u8 0, .int .u8 0, .int .u8 0, .int .u8 0, .int .u8 0, .int .u8 0, .int .u8 0, .int .u8 0, .int .u8 0, .int .u8 0, .int .u8 0, .int .u8 0, .int .u8 0, .int .u8 0, .int .u8 0, .int .u8 0, .int .u8 0, .int .u8 0, .int .u8 0, .int .u8 0, .int .u8 0, .int .u8 0]) := ⟨by kernel_rfl⟩
instance : TScal Tryd.prog 108 := ⟨⟨_, Tryd.underlying108, rfl⟩, by kernel_rfl⟩
instance : TStr Tryd.prog 109 4 := ⟨⟨_, Tryd.underlying109⟩, by kernel_rfl⟩
instance : TFldT Tryd.prog 109 0 0 17 := ⟨⟨_, _, Tryd.underlying109, rfl, rfl, rfl⟩⟩
instance : TFld Tryd.prog 109 0 0 := ⟨⟨_, _, Tryd.underlying109, rfl, rfl, _, (by kernel_rfl : (Tryd.prog.info? 17).map (·.size) = some (0 + 1))⟩⟩
instance : TFldT Tryd.prog 109 1 1 17 := ⟨⟨_, _, Tryd.underlying109, rfl, rfl, rfl⟩⟩
instance : TFld Tryd.prog 109 1 1 := ⟨⟨_, _, Tryd.underlying109, rfl, rfl, _, (by kernel_rfl : (Tryd.prog.info? 17).map (·.size) = some (0 + 1))⟩⟩
instance : TFldT Tryd.prog 109 2 2 17 := ⟨⟨_, _, Tryd.underlying109, rfl, rfl, rfl⟩⟩
instance : TFld Tryd.prog 109 2 2 := ⟨⟨_, _, Tryd.underlying109, rfl, rfl, _, (by kernel_rfl : (Tryd.prog.info? 17).map (·.size) = some (0 + 1))⟩⟩
instance : TFldT Tryd.prog 109 3 3 9 := ⟨⟨_, _, Tryd.underlying109, rfl, rfl, rfl⟩⟩
instance : TFld Tryd.prog 109 3 3 := ⟨⟨_, _, Tryd.underlying109, rfl, rfl, _, (by kernel_rfl : (Tryd.prog.info? 9).map (·.size) = some (0 + 1))⟩⟩
instance : TFlat Tryd.prog 109 [.pointer none, .pointer none, .pointer none, .string ⟨#[]⟩] := ⟨by kernel_rfl, _, Tryd.underlying109, by kernel_rfl⟩
instance : TZero Tryd.prog 109 (.agg #[.pointer none, .pointer none, .pointer none, .string ⟨#[]⟩]) := ⟨by kernel_rfl⟩
instance : TStr Tryd.prog 110 4 := ⟨⟨_, Tryd.underlying110⟩, by kernel_rfl⟩
instance : TFldT Tryd.prog 110 0 0 17 := ⟨⟨_, _, Tryd.underlying110, rfl, rfl, rfl⟩⟩
instance : TFld Tryd.prog 110 0 0 := ⟨⟨_, _, Tryd.underlying110, rfl, rfl, _, (by kernel_rfl : (Tryd.prog.info? 17).map (·.size) = some (0 + 1))⟩⟩
instance : TFldT Tryd.prog 110 1 1 17 := ⟨⟨_, _, Tryd.underlying110, rfl, rfl, rfl⟩⟩
instance : TFld Tryd.prog 110 1 1 := ⟨⟨_, _, Tryd.underlying110, rfl, rfl, _, (by kernel_rfl : (Tryd.prog.info? 17).map (·.size) = some (0 + 1))⟩⟩
instance : TFldT Tryd.prog 110 2 2 17 := ⟨⟨_, _, Tryd.underlying110, rfl, rfl, rfl⟩⟩
instance : TFld Tryd.prog 110 2 2 := ⟨⟨_, _, Tryd.underlying110, rfl, rfl, _, (by kernel_rfl : (Tryd.prog.info? 17).map (·.size) = some (0 + 1))⟩⟩
instance : TFldT Tryd.prog 110 3 3 9 := ⟨⟨_, _, Tryd.underlying110, rfl, rfl, rfl⟩⟩
instance : TFld Tryd.prog 110 3 3 := ⟨⟨_, _, Tryd.underlying110, rfl, rfl, _, (by kernel_rfl : (Tryd.prog.info? 9).map (·.size) = some (0 + 1))⟩⟩
instance : TFlat Tryd.prog 110 [.pointer none, .pointer none, .pointer none, .string ⟨#[]⟩] := ⟨by kernel_rfl, _, Tryd.underlying110, by kernel_rfl⟩
instance : TZero Tryd.prog 110 (.agg #[.pointer none, .pointer none, .pointer none, .string ⟨#[]⟩]) := ⟨by kernel_rfl⟩
instance : TArr Tryd.prog 111 0 16 := ⟨Tryd.underlying111⟩
instance : TZero Tryd.prog 111 (.agg #[]) := ⟨by kernel_rfl⟩
instance : TScal Tryd.prog 114 := ⟨⟨_, Tryd.underlying114, rfl⟩, by kernel_rfl⟩
instance : TScal Tryd.prog 115 := ⟨⟨_, Tryd.underlying115, rfl⟩, by kernel_rfl⟩
instance : TInt Tryd.prog 115 .u8 := ⟨Tryd.underlying115⟩
instance : TZero Tryd.prog 115 (.int .u8 0) := ⟨by kernel_rfl⟩
instance : TScal Tryd.prog 116 := ⟨⟨_, Tryd.underlying116, rfl⟩, by kernel_rfl⟩
instance : TInt Tryd.prog 116 .u8 := ⟨Tryd.underlying116⟩
instance : TZero Tryd.prog 116 (.int .u8 0) := ⟨by kernel_rfl⟩
instance : TScal Tryd.prog 117 := ⟨⟨_, Tryd.underlying117, rfl⟩, by kernel_rfl⟩
instance : TScal Tryd.prog 118 := ⟨⟨_, Tryd.underlying118, rfl⟩, by kernel_rfl⟩
instance : TScal Tryd.prog 119 := ⟨⟨_, Tryd.underlying119, rfl⟩, by kernel_rfl⟩
instance : TInt Tryd.prog 119 .i32 := ⟨Tryd.underlying119⟩
instance : TZero Tryd.prog 119 (.int .i32 0) := ⟨by kernel_rfl⟩
instance : TScal Tryd.prog 120 := ⟨⟨_, Tryd.underlying120, rfl⟩, by kernel_rfl⟩
instance : TInt Tryd.prog 120 .i32 := ⟨Tryd.underlying120⟩
instance : TZero Tryd.prog 120 (.int .i32 0) := ⟨by kernel_rfl⟩
instance : TStr Tryd.prog 121 11 := ⟨⟨_, Tryd.underlying121⟩, by kernel_rfl⟩
instance : TFldT Tryd.prog 121 0 0 12 := ⟨⟨_, _, Tryd.underlying121, rfl, rfl, rfl⟩⟩
instance : TFld Tryd.prog 121 0 0 := ⟨⟨_, _, Tryd.underlying121, rfl, rfl, _, (by kernel_rfl : (Tryd.prog.info? 12).map (·.size) = some (0 + 1))⟩⟩
instance : TFldT Tryd.prog 121 1 1 12 := ⟨⟨_, _, Tryd.underlying121, rfl, rfl, rfl⟩⟩
instance : TFld Tryd.prog 121 1 1 := ⟨⟨_, _, Tryd.underlying121, rfl, rfl, _, (by kernel_rfl : (Tryd.prog.info? 12).map (·.size) = some (0 + 1))⟩⟩
instance : TFldT Tryd.prog 121 2 2 101 := ⟨⟨_, _, Tryd.underlying121, rfl, rfl, rfl⟩⟩
instance : TFld Tryd.prog 121 2 2 := ⟨⟨_, _, Tryd.underlying121, rfl, rfl, _, (by kernel_rfl : (Tryd.prog.info? 101).map (·.size) = some (0 + 1))⟩⟩
instance : TFldT Tryd.prog 121 3 3 115 := ⟨⟨_, _, Tryd.underlying121, rfl, rfl, rfl⟩⟩
instance : TFld Tryd.prog 121 3 3 := ⟨⟨_, _, Tryd.underlying121, rfl, rfl, _, (by kernel_rfl : (Tryd.prog.info? 115).map (·.size) = some (0 + 1))⟩⟩
instance : TFldT Tryd.prog 121 4 4 5 := ⟨⟨_, _, Tryd.underlying121, rfl, rfl, rfl⟩⟩
instance : TFld Tryd.prog 121 4 4 := ⟨⟨_, _, Tryd.underlying121, rfl, rfl, _, (by kernel_rfl : (Tryd.prog.info? 5).map (·.size) = some (0 + 1))⟩⟩
instance : TFldT Tryd.prog 121 5 5 5 := ⟨⟨_, _, Tryd.underlying121, rfl, rfl, rfl⟩⟩
instance : TFld Tryd.prog 121 5 5 := ⟨⟨_, _, Tryd.underlying121, rfl, rfl, _, (by kernel_rfl : (Tryd.prog.info? 5).map (·.size) = some (0 + 1))⟩⟩
instance : TFldT Tryd.prog 121 6 6 116 := ⟨⟨_, _, Tryd.underlying121, rfl, rfl, rfl⟩⟩
instance : TFld Tryd.prog 121 6 6 := ⟨⟨_, _, Tryd.underlying121, rfl, rfl, _, (by kernel_rfl : (Tryd.prog.info? 116).map (·.size) = some (0 + 1))⟩⟩
instance : TFldT Tryd.prog 121 7 7 117 := ⟨⟨_, _, Tryd.underlying121, rfl, rfl, rfl⟩⟩
instance : TFld Tryd.prog 121 7 7 := ⟨⟨_, _, Tryd.underlying121, rfl, rfl, _, (by kernel_rfl : (Tryd.prog.info? 117).map (·.size) = some (0 + 1))⟩⟩
instance : TFldT Tryd.prog 121 8 8 118 := ⟨⟨_, _, Tryd.underlying121, rfl, rfl, rfl⟩⟩
instance : TFld Tryd.prog 121 8 8 := ⟨⟨_, _, Tryd.underlying121, rfl, rfl, _, (by kernel_rfl : (Tryd.prog.info? 118).map (·.size) = some (0 + 1))⟩⟩
instance : TFldT Tryd.prog 121 9 9 119 := ⟨⟨_, _, Tryd.underlying121, rfl, rfl, rfl⟩⟩
instance : TFld Tryd.prog 121 9 9 := ⟨⟨_, _, Tryd.underlying121, rfl, rfl, _, (by kernel_rfl : (Tryd.prog.info? 119).map (·.size) = some (0 + 1))⟩⟩
instance : TFldT Tryd.prog 121 10 10 120 := ⟨⟨_, _, Tryd.underlying121, rfl, rfl, rfl⟩⟩
instance : TFld Tryd.prog 121 10 10 := ⟨⟨_, _, Tryd.underlying121, rfl, rfl, _, (by kernel_rfl : (Tryd.prog.info? 120).map (·.size) = some (0 + 1))⟩⟩
instance : TFlat Tryd.prog 121 [.int .u64 0, .int .u64 0, .int .u32 0, .int .u8 0, .int .u8 0, .int .u8 0, .int .u8 0, .nilFunc, .pointer none, .int .i32 0, .int .i32 0] := ⟨by kernel_rfl, _, Tryd.underlying121, by kernel_rfl⟩
instance : TZero Tryd.prog 121 (.agg #[.int .u64 0, .int .u64 0, .int .u32 0, .int .u8 0, .int .u8 0, .int .u8 0, .int .u8 0, .nilFunc, .pointer none, .int .i32 0, .int .i32 0]) := ⟨by kernel_rfl⟩
instance : TStr Tryd.prog 122 11 := ⟨⟨_, Tryd.underlying122⟩, by kernel_rfl⟩
instance : TFldT Tryd.prog 122 0 0 12 := ⟨⟨_, _, Tryd.underlying122, rfl, rfl, rfl⟩⟩
instance : TFld Tryd.prog 122 0 0 := ⟨⟨_, _, Tryd.underlying122, rfl, rfl, _, (by kernel_rfl : (Tryd.prog.info? 12).map (·.size) = some (0 + 1))⟩⟩
instance : TFldT Tryd.prog 122 1 1 12 := ⟨⟨_, _, Tryd.underlying122, rfl, rfl, rfl⟩⟩
instance : TFld Tryd.prog 122 1 1 := ⟨⟨_, _, Tryd.underlying122, rfl, rfl, _, (by kernel_rfl : (Tryd.prog.info? 12).map (·.size) = some (0 + 1))⟩⟩
instance : TFldT Tryd.prog 122 2 2 101 := ⟨⟨_, _, Tryd.underlying122, rfl, rfl, rfl⟩⟩
instance : TFld Tryd.prog 122 2 2 := ⟨⟨_, _, Tryd.underlying122, rfl, rfl, _, (by kernel_rfl : (Tryd.prog.info? 101).map (·.size) = some (0 + 1))⟩⟩
instance : TFldT Tryd.prog 122 3 3 115 := ⟨⟨_, _, Tryd.underlying122, rfl, rfl, rfl⟩⟩
instance : TFld Tryd.prog 122 3 3 := ⟨⟨_, _, Tryd.underlying122, rfl, rfl, _, (by kernel_rfl : (Tryd.prog.info? 115).map (·.size) = some (0 + 1))⟩⟩
instance : TFldT Tryd.prog 122 4 4 5 := ⟨⟨_, _, Tryd.underlying122, rfl, rfl, rfl⟩⟩
instance : TFld Tryd.prog 122 4 4 := ⟨⟨_, _, Tryd.underlying122, rfl, rfl, _, (by kernel_rfl : (Tryd.prog.info? 5).map (·.size) = some (0 + 1))⟩⟩
instance : TFldT Tryd.prog 122 5 5 5 := ⟨⟨_, _, Tryd.underlying122, rfl, rfl, rfl⟩⟩
instance : TFld Tryd.prog 122 5 5 := ⟨⟨_, _, Tryd.underlying122, rfl, rfl, _, (by kernel_rfl : (Tryd.prog.info? 5).map (·.size) = some (0 + 1))⟩⟩
instance : TFldT Tryd.prog 122 6 6 116 := ⟨⟨_, _, Tryd.underlying122, rfl, rfl, rfl⟩⟩
instance : TFld Tryd.prog 122 6 6 := ⟨⟨_, _, Tryd.underlying122, rfl, rfl, _, (by kernel_rfl : (Tryd.prog.info? 116).map (·.size) = some (0 + 1))⟩⟩
instance : TFldT Tryd.prog 122 7 7 117 := ⟨⟨_, _, Tryd.underlying122, rfl, rfl, rfl⟩⟩
instance : TFld Tryd.prog 122 7 7 := ⟨⟨_, _, Tryd.underlying122, rfl, rfl, _, (by kernel_rfl : (Tryd.prog.info? 117).map (·.size) = some (0 + 1))⟩⟩
instance : TFldT Tryd.prog 122 8 8 118 := ⟨⟨_, _, Tryd.underlying122, rfl, rfl, rfl⟩⟩
instance : TFld Tryd.prog 122 8 8 := ⟨⟨_, _, Tryd.underlying122, rfl, rfl, _, (by kernel_rfl : (Tryd.prog.info? 118).map (·.size) = some (0 + 1))⟩⟩
instance : TFldT Tryd.prog 122 9 9 119 := ⟨⟨_, _, Tryd.underlying122, rfl, rfl, rfl⟩⟩
instance : TFld Tryd.prog 122 9 9 := ⟨⟨_, _, Tryd.underlying122, rfl, rfl, _, (by kernel_rfl : (Tryd.prog.info? 119).map (·.size) = some (0 + 1))⟩⟩
instance : TFldT Tryd.prog 122 10 10 120 := ⟨⟨_, _, Tryd.underlying122, rfl, rfl, rfl⟩⟩
instance : TFld Tryd.prog 122 10 10 := ⟨⟨_, _, Tryd.underlying122, rfl, rfl, _, (by kernel_rfl : (Tryd.prog.info? 120).map (·.size) = some (0 + 1))⟩⟩
instance : TFlat Tryd.prog 122 [.int .u64 0, .int .u64 0, .int .u32 0, .int .u8 0, .int .u8 0, .int .u8 0, .int .u8 0, .nilFunc, .pointer none, .int .i32 0, .int .i32 0] := ⟨by kernel_rfl, _, Tryd.underlying122, by kernel_rfl⟩
instance : TZero Tryd.prog 122 (.agg #[.int .u64 0, .int .u64 0, .int .u32 0, .int .u8 0, .int .u8 0, .int .u8 0, .int .u8 0, .nilFunc, .pointer none, .int .i32 0, .int .i32 0]) := ⟨by kernel_rfl⟩
instance : Callable Tryd.prog 3 := callable Tryd.func3 (by kernel_rfl) rfl   -- loop.example/g01012/laws.FnProductsBy
instance : Callable Tryd.prog 4 := callable Tryd.func4 (by kernel_rfl) rfl   -- loop.example/g01012/laws.FnWheels
instance : Callable Tryd.prog 5 := callable Tryd.func5 (by kernel_rfl) rfl   -- loop.example/g01012/laws.f6big
instance : Callable Tryd.prog 6 := callable Tryd.func6 (by kernel_rfl) rfl   -- loop.example/g01012/spec.DrawProductBy
instance : Callable Tryd.prog 7 := callable Tryd.func7 (by kernel_rfl) rfl   -- loop.example/g01012/impl.ProductBy
instance : Callable Tryd.prog 8 := callable Tryd.func8 (by kernel_rfl) rfl   -- loop.example/g01012/spec.ProductBy
instance : Callable Tryd.prog 9 := callable Tryd.func9 (by kernel_rfl) rfl   -- loop.example/g01012/spec.DrawComponentsOf
instance : Callable Tryd.prog 10 := callable Tryd.func10 (by kernel_rfl) rfl   -- loop.example/g01012/impl.ComponentsOf
instance : Callable Tryd.prog 11 := callable Tryd.func11 (by kernel_rfl) rfl   -- loop.example/g01012/spec.ComponentsOf
instance : Callable Tryd.prog 12 := callable Tryd.func12 (by kernel_rfl) rfl   -- loop.example/g01012/spec.DrawQuotientBy
instance : Callable Tryd.prog 13 := callable Tryd.func13 (by kernel_rfl) rfl   -- loop.example/g01012/impl.QuotientBy
instance : Callable Tryd.prog 14 := callable Tryd.func14 (by kernel_rfl) rfl   -- loop.example/g01012/spec.QuotientBy
instance : Callable Tryd.prog 15 := callable Tryd.func15 (by kernel_rfl) rfl   -- loop.example/g01012/spec.DrawTurnsFor
instance : Callable Tryd.prog 16 := callable Tryd.func16 (by kernel_rfl) rfl   -- loop.example/g01012/impl.TurnsFor
instance : Callable Tryd.prog 17 := callable Tryd.func17 (by kernel_rfl) rfl   -- loop.example/g01012/spec.TurnsFor
instance : Callable Tryd.prog 18 := callable Tryd.func18 (by kernel_rfl) rfl   -- loop.example/g01012/spec.DrawHalfAdjust
instance : Callable Tryd.prog 19 := callable Tryd.func19 (by kernel_rfl) rfl   -- loop.example/g01012/impl.HalfAdjust
instance : Callable Tryd.prog 20 := callable Tryd.func20 (by kernel_rfl) rfl   -- loop.example/g01012/spec.HalfAdjust
instance : Callable Tryd.prog 21 := callable Tryd.func21 (by kernel_rfl) rfl   -- loop.example/g01012/spec.DrawCalculate
instance : Callable Tryd.prog 22 := callable Tryd.func22 (by kernel_rfl) rfl   -- loop.example/g01012/impl.Calculate
instance : Callable Tryd.prog 23 := callable Tryd.func23 (by kernel_rfl) rfl   -- loop.example/g01012/spec.Calculate
instance : Callable Tryd.prog 24 := callable Tryd.func24 (by kernel_rfl) rfl   -- loop.example/g01012/spec.DrawCalcName
instance : Callable Tryd.prog 25 := callable Tryd.func25 (by kernel_rfl) rfl   -- loop.example/g01012/impl.CalcName
instance : Callable Tryd.prog 26 := callable Tryd.func26 (by kernel_rfl) rfl   -- loop.example/g01012/spec.CalcName
instance : Callable Tryd.prog 27 := callable Tryd.func27 (by kernel_rfl) rfl   -- loop.example/g01012/spec.DrawAddToCounter
instance : Callable Tryd.prog 28 := callable Tryd.func28 (by kernel_rfl) rfl   -- loop.example/g01012/impl.AddToCounter
instance : Callable Tryd.prog 29 := callable Tryd.func29 (by kernel_rfl) rfl   -- loop.example/g01012/spec.AddToCounter
instance : Callable Tryd.prog 30 := callable Tryd.func30 (by kernel_rfl) rfl   -- loop.example/g01012/spec.DrawTakeFromCounter
instance : Callable Tryd.prog 31 := callable Tryd.func31 (by kernel_rfl) rfl   -- loop.example/g01012/impl.TakeFromCounter
instance : Callable Tryd.prog 32 := callable Tryd.func32 (by kernel_rfl) rfl   -- loop.example/g01012/spec.TakeFromCounter
instance : Callable Tryd.prog 33 := callable Tryd.func33 (by kernel_rfl) rfl   -- loop.example/g01012/impl.CarriesOf
instance : Callable Tryd.prog 34 := callable Tryd.func34 (by kernel_rfl) rfl   -- loop.example/g01012/spec.CarriesOf
instance : Callable Tryd.prog 35 := callable Tryd.func35 (by kernel_rfl) rfl   -- loop.example/g01012/spec.DrawComplementOf
instance : Callable Tryd.prog 36 := callable Tryd.func36 (by kernel_rfl) rfl   -- loop.example/g01012/impl.ComplementOf
instance : Callable Tryd.prog 37 := callable Tryd.func37 (by kernel_rfl) rfl   -- loop.example/g01012/spec.ComplementOf
instance : Callable Tryd.prog 38 := callable Tryd.func38 (by kernel_rfl) rfl   -- loop.example/g01012/spec.DrawSetCounter
instance : Callable Tryd.prog 39 := callable Tryd.func39 (by kernel_rfl) rfl   -- loop.example/g01012/impl.SetCounter
instance : Callable Tryd.prog 40 := callable Tryd.func40 (by kernel_rfl) rfl   -- loop.example/g01012/spec.SetCounter
instance : Callable Tryd.prog 41 := callable Tryd.func41 (by kernel_rfl) rfl   -- loop.example/g01012/spec.DrawCounterText
instance : Callable Tryd.prog 42 := callable Tryd.func42 (by kernel_rfl) rfl   -- loop.example/g01012/impl.CounterText
instance : Callable Tryd.prog 43 := callable Tryd.func43 (by kernel_rfl) rfl   -- loop.example/g01012/impl.ReadCounter
instance : Callable Tryd.prog 44 := callable Tryd.func44 (by kernel_rfl) rfl   -- loop.example/g01012/spec.DrawReadCounter
instance : Callable Tryd.prog 45 := callable Tryd.func45 (by kernel_rfl) rfl   -- loop.example/g01012/spec.ReadCounter
instance : Callable Tryd.prog 46 := callable Tryd.func46 (by kernel_rfl) rfl   -- loop.example/g01012/spec.DrawSameCounter
instance : Callable Tryd.prog 47 := callable Tryd.func47 (by kernel_rfl) rfl   -- loop.example/g01012/spec.SameCounter
instance : Callable Tryd.prog 48 := callable Tryd.func48 (by kernel_rfl) rfl   -- loop.example/g01012/spec.CounterText
instance : Callable Tryd.prog 49 := callable Tryd.func49 (by kernel_rfl) rfl   -- loop.example/g01012/impl.SameCounter
instance : Callable Tryd.prog 50 := callable Tryd.func50 (by kernel_rfl) rfl   -- loop.example/g01012/impl.ValidCounter
instance : Callable Tryd.prog 51 := callable Tryd.func51 (by kernel_rfl) rfl   -- loop.example/g01012/spec.ValidCounter
instance : Callable Tryd.prog 52 := callable Tryd.func52 (by kernel_rfl) rfl   -- loop.example/g01012/impl.NumberShown
instance : Callable Tryd.prog 53 := callable Tryd.func53 (by kernel_rfl) rfl   -- loop.example/g01012/spec.l00From
instance : Callable Tryd.prog 54 := callable Tryd.func54 (by kernel_rfl) rfl   -- loop.example/g01012/spec.l14DrawFactor
instance : Callable Tryd.prog 55 := callable Tryd.func55 (by kernel_rfl) rfl   -- loop.example/g01012/impl.isFactor
instance : Callable Tryd.prog 56 := callable Tryd.func56 (by kernel_rfl) rfl   -- loop.example/g01012/impl.digitList
instance : Callable Tryd.prog 57 := callable Tryd.func57 (by kernel_rfl) rfl   -- loop.example/g01012/spec.l14Factor
instance : Callable Tryd.prog 58 := callable Tryd.func58 (by kernel_rfl) rfl   -- loop.example/g01012/spec.l14Times
instance : Callable Tryd.prog 59 := callable Tryd.func59 (by kernel_rfl) rfl   -- loop.example/g01012/spec.l14Size
instance : Callable Tryd.prog 60 := callable Tryd.func60 (by kernel_rfl) rfl   -- (*loop.example/g01012/spec.l00Src).one
instance : Callable Tryd.prog 61 := callable Tryd.func61 (by kernel_rfl) rfl   -- (*loop.example/g01012/spec.l00Src).pick
instance : Callable Tryd.prog 62 := callable Tryd.func62 (by kernel_rfl) rfl   -- loop.example/g01012/impl.inside
instance : Callable Tryd.prog 63 := callable Tryd.func63 (by kernel_rfl) rfl   -- loop.example/g01012/spec.l00In
instance : Callable Tryd.prog 64 := callable Tryd.func64 (by kernel_rfl) rfl   -- loop.example/g01012/spec.l14Parts
instance : Callable Tryd.prog 65 := callable Tryd.func65 (by kernel_rfl) rfl   -- loop.example/g01012/spec.l14DrawNumber
instance : Callable Tryd.prog 66 := callable Tryd.func66 (by kernel_rfl) rfl   -- loop.example/g01012/impl.isNumber
instance : Callable Tryd.prog 67 := callable Tryd.func67 (by kernel_rfl) rfl   -- loop.example/g01012/impl.digitSum
instance : Callable Tryd.prog 68 := callable Tryd.func68 (by kernel_rfl) rfl   -- loop.example/g01012/impl.size[int64]
instance : Callable Tryd.prog 69 := callable Tryd.func69 (by kernel_rfl) rfl   -- loop.example/g01012/spec.l14Number
instance : Callable Tryd.prog 70 := callable Tryd.func70 (by kernel_rfl) rfl   -- loop.example/g01012/spec.l14Divide
instance : Callable Tryd.prog 71 := callable Tryd.func71 (by kernel_rfl) rfl   -- (*loop.example/g01012/spec.l00Src).among
instance : Callable Tryd.prog 72 := callable Tryd.func72 (by kernel_rfl) rfl   -- loop.example/g01012/impl.absOf
instance : Callable Tryd.prog 73 := callable Tryd.func73 (by kernel_rfl) rfl   -- loop.example/g01012/spec.l11Power
instance : Callable Tryd.prog 74 := callable Tryd.func74 (by kernel_rfl) rfl   -- loop.example/g01012/spec.l14DrawKind
instance : Callable Tryd.prog 75 := callable Tryd.func75 (by kernel_rfl) rfl   -- loop.example/g01012/spec.l14Kind
instance : Callable Tryd.prog 76 := callable Tryd.func76 (by kernel_rfl) rfl   -- loop.example/g01012/spec.l14Do
instance : Callable Tryd.prog 77 := callable Tryd.func77 (by kernel_rfl) rfl   -- loop.example/g01012/impl.isCalc
instance : Callable Tryd.prog 78 := callable Tryd.func78 (by kernel_rfl) rfl   -- loop.example/g01012/spec.l11Ask
instance : Callable Tryd.prog 79 := callable Tryd.func79 (by kernel_rfl) rfl   -- loop.example/g01012/impl.countCode
instance : Callable Tryd.prog 80 := callable Tryd.func80 (by kernel_rfl) rfl   -- loop.example/g01012/impl.added
instance : Callable Tryd.prog 81 := callable Tryd.func81 (by kernel_rfl) rfl   -- loop.example/g01012/spec.l11Code
instance : Callable Tryd.prog 82 := callable Tryd.func82 (by kernel_rfl) rfl   -- loop.example/g01012/spec.l11Add
instance : Callable Tryd.prog 83 := callable Tryd.func83 (by kernel_rfl) rfl   -- loop.example/g01012/spec.l11Bent
instance : Callable Tryd.prog 84 := callable Tryd.func84 (by kernel_rfl) rfl   -- loop.example/g01012/spec.l11Ok
instance : Callable Tryd.prog 85 := callable Tryd.func85 (by kernel_rfl) rfl   -- loop.example/g01012/spec.l11Value
instance : Callable Tryd.prog 86 := callable Tryd.func86 (by kernel_rfl) rfl   -- loop.example/g01012/impl.nines
instance : Callable Tryd.prog 87 := callable Tryd.func87 (by kernel_rfl) rfl   -- loop.example/g01012/spec.l11Take
instance : Callable Tryd.prog 88 := callable Tryd.func88 (by kernel_rfl) rfl   -- loop.example/g01012/impl.wheelsShow
instance : Callable Tryd.prog 89 := callable Tryd.func89 (by kernel_rfl) rfl   -- loop.example/g01012/impl.shown
instance : Callable Tryd.prog 90 := callable Tryd.func90 (by kernel_rfl) rfl   -- loop.example/g01012/impl.digitsOf
instance : Callable Tryd.prog 91 := callable Tryd.func91 (by kernel_rfl) rfl   -- loop.example/g01012/spec.l11Set
instance : Callable Tryd.prog 92 := callable Tryd.func92 (by kernel_rfl) rfl   -- loop.example/g01012/spec.l11Draw
instance : Callable Tryd.prog 93 := callable Tryd.func93 (by kernel_rfl) rfl   -- loop.example/g01012/spec.l11Text
instance : Callable Tryd.prog 94 := callable Tryd.func94 (by kernel_rfl) rfl   -- loop.example/g01012/spec.l01Spoil
instance : Callable Tryd.prog 95 := callable Tryd.func95 (by kernel_rfl) rfl   -- (*loop.example/g01012/spec.l00Src).text
instance : Callable Tryd.prog 96 := callable Tryd.func96 (by kernel_rfl) rfl   -- loop.example/g01012/spec.l00Own
instance : Callable Tryd.prog 97 := callable Tryd.func97 (by kernel_rfl) rfl   -- loop.example/g01012/spec.l00Same
instance : Callable Tryd.prog 98 := callable Tryd.func98 (by kernel_rfl) rfl   -- slices.Equal[[]int64,int64]
instance : Callable Tryd.prog 99 := callable Tryd.func99 (by kernel_rfl) rfl   -- slices.ContainsFunc[[]int64,int64]
instance : Callable Tryd.prog 100 := callable Tryd.func100 (by kernel_rfl) rfl   -- loop.example/g01012/impl.ValidCounter$1
instance : Callable Tryd.prog 101 := callable Tryd.func101 (by kernel_rfl) rfl   -- loop.example/g01012/spec.l00Max
instance : Callable Tryd.prog 102 := callable Tryd.func102 (by kernel_rfl) rfl   -- (*loop.example/g01012/spec.l00Src).next
instance : Callable Tryd.prog 103 := callable Tryd.func103 (by kernel_rfl) rfl   -- loop.example/g01012/spec.l00Min
instance : Callable Tryd.prog 104 := callable Tryd.func104 (by kernel_rfl) rfl   -- loop.example/g01012/impl.copyInts
instance : Callable Tryd.prog 105 := callable Tryd.func105 (by kernel_rfl) rfl   -- loop.example/g01012/spec.l11Nines
instance : Callable Tryd.prog 106 := callable Tryd.func106 (by kernel_rfl) rfl   -- loop.example/g01012/impl.Decimal
instance : Callable Tryd.prog 107 := callable Tryd.func107 (by kernel_rfl) rfl   -- slices.IndexFunc[[]int64,int64]
instance : Callable Tryd.prog 108 := callable Tryd.func108 (by kernel_rfl) rfl   -- strconv.FormatInt
end Go.Proofs.YtgkljfncpgbngaaDoor

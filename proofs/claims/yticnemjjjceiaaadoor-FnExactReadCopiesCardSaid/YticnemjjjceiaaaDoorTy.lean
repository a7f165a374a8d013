/- What is known of this program's types and functions. -/
import Derived.Test.YticnemjjjceiaaaDoorL12
import Derived.Test.YticnemjjjceiaaaDoorChecked
namespace Go.Proofs.YticnemjjjceiaaaDoor
open Go Go.Gw
theorem mixed : Tryd.prog.follows .mixedOrders = true := by kernel_rfl
instance : TScal Tryd.prog 1 := ⟨⟨_, Tryd.underlying1, rfl⟩, by kernel_rfl⟩
instance : TScal Tryd.prog 2 := ⟨⟨_, Tryd.underlying2, rfl⟩, by kernel_rfl⟩
instance : TInt Tryd.prog 2 .i64 := ⟨Tryd.underlying2⟩
instance : TZero Tryd.prog 2 (.int .i64 0) := ⟨by kernel_rfl⟩
instance : TScal Tryd.prog 3 := ⟨⟨_, Tryd.underlying3, rfl⟩, by kernel_rfl⟩
instance : TInt Tryd.prog 3 .i64 := ⟨Tryd.underlying3⟩
instance : TZero Tryd.prog 3 (.int .i64 0) := ⟨by kernel_rfl⟩
instance : TScal Tryd.prog 4 := ⟨⟨_, Tryd.underlying4, rfl⟩, by kernel_rfl⟩
instance : TBool Tryd.prog 4 := ⟨Tryd.underlying4⟩
instance : TZero Tryd.prog 4 (.bool false) := ⟨by kernel_rfl⟩
instance : TScal Tryd.prog 5 := ⟨⟨_, Tryd.underlying5, rfl⟩, by kernel_rfl⟩
instance : TInt Tryd.prog 5 .u8 := ⟨Tryd.underlying5⟩
instance : TZero Tryd.prog 5 (.int .u8 0) := ⟨by kernel_rfl⟩
instance : TScal Tryd.prog 6 := ⟨⟨_, Tryd.underlying6, rfl⟩, by kernel_rfl⟩
instance : TInt Tryd.prog 6 .u8 := ⟨Tryd.underlying6⟩
instance : TZero Tryd.prog 6 (.int .u8 0) := ⟨by kernel_rfl⟩
instance : TStr Tryd.prog 7 4 := ⟨⟨_, Tryd.underlying7⟩, by kernel_rfl⟩
instance : TFldT Tryd.prog 7 0 0 2 := ⟨⟨_, _, Tryd.underlying7, rfl, rfl, rfl⟩⟩
instance : TFld Tryd.prog 7 0 0 := ⟨⟨_, _, Tryd.underlying7, rfl, rfl, _, (by kernel_rfl : (Tryd.prog.info? 2).map (·.size) = some (0 + 1))⟩⟩
instance : TFldT Tryd.prog 7 1 1 3 := ⟨⟨_, _, Tryd.underlying7, rfl, rfl, rfl⟩⟩
instance : TFld Tryd.prog 7 1 1 := ⟨⟨_, _, Tryd.underlying7, rfl, rfl, _, (by kernel_rfl : (Tryd.prog.info? 3).map (·.size) = some (0 + 1))⟩⟩
instance : TFldT Tryd.prog 7 2 2 4 := ⟨⟨_, _, Tryd.underlying7, rfl, rfl, rfl⟩⟩
instance : TFld Tryd.prog 7 2 2 := ⟨⟨_, _, Tryd.underlying7, rfl, rfl, _, (by kernel_rfl : (Tryd.prog.info? 4).map (·.size) = some (0 + 1))⟩⟩
instance : TFldT Tryd.prog 7 3 3 6 := ⟨⟨_, _, Tryd.underlying7, rfl, rfl, rfl⟩⟩
instance : TFld Tryd.prog 7 3 3 := ⟨⟨_, _, Tryd.underlying7, rfl, rfl, _, (by kernel_rfl : (Tryd.prog.info? 6).map (·.size) = some (0 + 1))⟩⟩
instance : TFlat Tryd.prog 7 [.int .i64 0, .int .i64 0, .bool false, .int .u8 0] := ⟨by kernel_rfl, _, Tryd.underlying7, by kernel_rfl⟩
instance : TZero Tryd.prog 7 (.agg #[.int .i64 0, .int .i64 0, .bool false, .int .u8 0]) := ⟨by kernel_rfl⟩
instance : TStr Tryd.prog 8 4 := ⟨⟨_, Tryd.underlying8⟩, by kernel_rfl⟩
instance : TFldT Tryd.prog 8 0 0 2 := ⟨⟨_, _, Tryd.underlying8, rfl, rfl, rfl⟩⟩
instance : TFld Tryd.prog 8 0 0 := ⟨⟨_, _, Tryd.underlying8, rfl, rfl, _, (by kernel_rfl : (Tryd.prog.info? 2).map (·.size) = some (0 + 1))⟩⟩
instance : TFldT Tryd.prog 8 1 1 3 := ⟨⟨_, _, Tryd.underlying8, rfl, rfl, rfl⟩⟩
instance : TFld Tryd.prog 8 1 1 := ⟨⟨_, _, Tryd.underlying8, rfl, rfl, _, (by kernel_rfl : (Tryd.prog.info? 3).map (·.size) = some (0 + 1))⟩⟩
instance : TFldT Tryd.prog 8 2 2 4 := ⟨⟨_, _, Tryd.underlying8, rfl, rfl, rfl⟩⟩
instance : TFld Tryd.prog 8 2 2 := ⟨⟨_, _, Tryd.underlying8, rfl, rfl, _, (by kernel_rfl : (Tryd.prog.info? 4).map (·.size) = some (0 + 1))⟩⟩
instance : TFldT Tryd.prog 8 3 3 6 := ⟨⟨_, _, Tryd.underlying8, rfl, rfl, rfl⟩⟩
instance : TFld Tryd.prog 8 3 3 := ⟨⟨_, _, Tryd.underlying8, rfl, rfl, _, (by kernel_rfl : (Tryd.prog.info? 6).map (·.size) = some (0 + 1))⟩⟩
instance : TFlat Tryd.prog 8 [.int .i64 0, .int .i64 0, .bool false, .int .u8 0] := ⟨by kernel_rfl, _, Tryd.underlying8, by kernel_rfl⟩
instance : TZero Tryd.prog 8 (.agg #[.int .i64 0, .int .i64 0, .bool false, .int .u8 0]) := ⟨by kernel_rfl⟩
instance : TScal Tryd.prog 9 := ⟨⟨_, Tryd.underlying9, rfl⟩, by kernel_rfl⟩
instance : TStg Tryd.prog 9 := ⟨Tryd.underlying9⟩
instance : TZero Tryd.prog 9 (.string ⟨#[]⟩) := ⟨by kernel_rfl⟩
instance : TScal Tryd.prog 10 := ⟨⟨_, Tryd.underlying10, rfl⟩, by kernel_rfl⟩
instance : TStg Tryd.prog 10 := ⟨Tryd.underlying10⟩
instance : TZero Tryd.prog 10 (.string ⟨#[]⟩) := ⟨by kernel_rfl⟩
instance : TScal Tryd.prog 11 := ⟨⟨_, Tryd.underlying11, rfl⟩, by kernel_rfl⟩
instance : TStg Tryd.prog 11 := ⟨Tryd.underlying11⟩
instance : TZero Tryd.prog 11 (.string ⟨#[]⟩) := ⟨by kernel_rfl⟩
instance : TScal Tryd.prog 12 := ⟨⟨_, Tryd.underlying12, rfl⟩, by kernel_rfl⟩
instance : TInt Tryd.prog 12 .u64 := ⟨Tryd.underlying12⟩
instance : TZero Tryd.prog 12 (.int .u64 0) := ⟨by kernel_rfl⟩
instance : TStr Tryd.prog 13 2 := ⟨⟨_, Tryd.underlying13⟩, by kernel_rfl⟩
instance : TFldT Tryd.prog 13 0 0 9 := ⟨⟨_, _, Tryd.underlying13, rfl, rfl, rfl⟩⟩
instance : TFld Tryd.prog 13 0 0 := ⟨⟨_, _, Tryd.underlying13, rfl, rfl, _, (by kernel_rfl : (Tryd.prog.info? 9).map (·.size) = some (0 + 1))⟩⟩
instance : TFldT Tryd.prog 13 1 1 12 := ⟨⟨_, _, Tryd.underlying13, rfl, rfl, rfl⟩⟩
instance : TFld Tryd.prog 13 1 1 := ⟨⟨_, _, Tryd.underlying13, rfl, rfl, _, (by kernel_rfl : (Tryd.prog.info? 12).map (·.size) = some (0 + 1))⟩⟩
instance : TFlat Tryd.prog 13 [.string ⟨#[]⟩, .int .u64 0] := ⟨by kernel_rfl, _, Tryd.underlying13, by kernel_rfl⟩
instance : TZero Tryd.prog 13 (.agg #[.string ⟨#[]⟩, .int .u64 0]) := ⟨by kernel_rfl⟩
instance : TStr Tryd.prog 14 2 := ⟨⟨_, Tryd.underlying14⟩, by kernel_rfl⟩
instance : TFldT Tryd.prog 14 0 0 9 := ⟨⟨_, _, Tryd.underlying14, rfl, rfl, rfl⟩⟩
instance : TFld Tryd.prog 14 0 0 := ⟨⟨_, _, Tryd.underlying14, rfl, rfl, _, (by kernel_rfl : (Tryd.prog.info? 9).map (·.size) = some (0 + 1))⟩⟩
instance : TFldT Tryd.prog 14 1 1 12 := ⟨⟨_, _, Tryd.underlying14, rfl, rfl, rfl⟩⟩
instance : TFld Tryd.prog 14 1 1 := ⟨⟨_, _, Tryd.underlying14, rfl, rfl, _, (by kernel_rfl : (Tryd.prog.info? 12).map (·.size) = some (0 + 1))⟩⟩
instance : TFlat Tryd.prog 14 [.string ⟨#[]⟩, .int .u64 0] := ⟨by kernel_rfl, _, Tryd.underlying14, by kernel_rfl⟩
instance : TZero Tryd.prog 14 (.agg #[.string ⟨#[]⟩, .int .u64 0]) := ⟨by kernel_rfl⟩
instance : TScal Tryd.prog 15 := ⟨⟨_, Tryd.underlying15, rfl⟩, by kernel_rfl⟩
instance : TScal Tryd.prog 16 := ⟨⟨_, Tryd.underlying16, rfl⟩, by kernel_rfl⟩
instance : TScal Tryd.prog 17 := ⟨⟨_, Tryd.underlying17, rfl⟩, by kernel_rfl⟩
instance : TStr Tryd.prog 18 1 := ⟨⟨_, Tryd.underlying18⟩, by kernel_rfl⟩
instance : TFldT Tryd.prog 18 0 0 17 := ⟨⟨_, _, Tryd.underlying18, rfl, rfl, rfl⟩⟩
instance : TFld Tryd.prog 18 0 0 := ⟨⟨_, _, Tryd.underlying18, rfl, rfl, _, (by kernel_rfl : (Tryd.prog.info? 17).map (·.size) = some (0 + 1))⟩⟩
instance : TFlat Tryd.prog 18 [.pointer none] := ⟨by kernel_rfl, _, Tryd.underlying18, by kernel_rfl⟩
instance : TZero Tryd.prog 18 (.agg #[.pointer none]) := ⟨by kernel_rfl⟩
instance : TStr Tryd.prog 19 1 := ⟨⟨_, Tryd.underlying19⟩, by kernel_rfl⟩
instance : TFldT Tryd.prog 19 0 0 17 := ⟨⟨_, _, Tryd.underlying19, rfl, rfl, rfl⟩⟩
instance : TFld Tryd.prog 19 0 0 := ⟨⟨_, _, Tryd.underlying19, rfl, rfl, _, (by kernel_rfl : (Tryd.prog.info? 17).map (·.size) = some (0 + 1))⟩⟩
instance : TFlat Tryd.prog 19 [.pointer none] := ⟨by kernel_rfl, _, Tryd.underlying19, by kernel_rfl⟩
instance : TZero Tryd.prog 19 (.agg #[.pointer none]) := ⟨by kernel_rfl⟩
instance : TScal Tryd.prog 20 := ⟨⟨_, Tryd.underlying20, rfl⟩, by kernel_rfl⟩
instance : TScal Tryd.prog 21 := ⟨⟨_, Tryd.underlying21, rfl⟩, by kernel_rfl⟩
instance : TInt Tryd.prog 21 .i32 := ⟨Tryd.underlying21⟩
instance : TZero Tryd.prog 21 (.int .i32 0) := ⟨by kernel_rfl⟩
instance : TScal Tryd.prog 22 := ⟨⟨_, Tryd.underlying22, rfl⟩, by kernel_rfl⟩
instance : TZero Tryd.prog 22 (.slice none 0 0) := ⟨by kernel_rfl⟩
instance : TSvE Tryd.prog 22 := ⟨trivial⟩
instance : TSli Tryd.prog 22 33 2 16 := ⟨Tryd.underlying22, by kernel_rfl, by kernel_rfl, by kernel_rfl, zlen_of (z := .agg #[.int .i64 0, .int .i64 0]) (by kernel_rfl) rfl⟩
instance : TScal Tryd.prog 24 := ⟨⟨_, Tryd.underlying24, rfl⟩, by kernel_rfl⟩
instance : TScal Tryd.prog 25 := ⟨⟨_, Tryd.underlying25, rfl⟩, by kernel_rfl⟩
instance : TScal Tryd.prog 26 := ⟨⟨_, Tryd.underlying26, rfl⟩, by kernel_rfl⟩
instance : TScal Tryd.prog 27 := ⟨⟨_, Tryd.underlying27, rfl⟩, by kernel_rfl⟩
instance : TScal Tryd.prog 28 := ⟨⟨_, Tryd.underlying28, rfl⟩, by kernel_rfl⟩
instance : TZero Tryd.prog 28 (.slice none 0 0) := ⟨by kernel_rfl⟩
instance : TSvE Tryd.prog 28 := ⟨trivial⟩
instance : TSli Tryd.prog 28 9 1 16 := ⟨Tryd.underlying28, by kernel_rfl, by kernel_rfl, by kernel_rfl, zlen_of (z := .string ⟨#[]⟩) (by kernel_rfl) rfl⟩
instance : TScal Tryd.prog 29 := ⟨⟨_, Tryd.underlying29, rfl⟩, by kernel_rfl⟩
instance : TScal Tryd.prog 31 := ⟨⟨_, Tryd.underlying31, rfl⟩, by kernel_rfl⟩
instance : TStr Tryd.prog 32 2 := ⟨⟨_, Tryd.underlying32⟩, by kernel_rfl⟩
instance : TFldT Tryd.prog 32 0 0 2 := ⟨⟨_, _, Tryd.underlying32, rfl, rfl, rfl⟩⟩
instance : TFld Tryd.prog 32 0 0 := ⟨⟨_, _, Tryd.underlying32, rfl, rfl, _, (by kernel_rfl : (Tryd.prog.info? 2).map (·.size) = some (0 + 1))⟩⟩
instance : TFldT Tryd.prog 32 1 1 2 := ⟨⟨_, _, Tryd.underlying32, rfl, rfl, rfl⟩⟩
instance : TFld Tryd.prog 32 1 1 := ⟨⟨_, _, Tryd.underlying32, rfl, rfl, _, (by kernel_rfl : (Tryd.prog.info? 2).map (·.size) = some (0 + 1))⟩⟩
instance : TFlat Tryd.prog 32 [.int .i64 0, .int .i64 0] := ⟨by kernel_rfl, _, Tryd.underlying32, by kernel_rfl⟩
instance : TZero Tryd.prog 32 (.agg #[.int .i64 0, .int .i64 0]) := ⟨by kernel_rfl⟩
instance : TPair Tryd.prog 33 := ⟨by kernel_rfl, by kernel_rfl, _, _, Tryd.underlying33, by decide, by decide, rfl, rfl, Tryd.underlying2, Tryd.underlying2⟩
instance : TStr Tryd.prog 33 2 := ⟨⟨_, Tryd.underlying33⟩, by kernel_rfl⟩
instance : TFldT Tryd.prog 33 0 0 2 := ⟨⟨_, _, Tryd.underlying33, rfl, rfl, rfl⟩⟩
instance : TFld Tryd.prog 33 0 0 := ⟨⟨_, _, Tryd.underlying33, rfl, rfl, _, (by kernel_rfl : (Tryd.prog.info? 2).map (·.size) = some (0 + 1))⟩⟩
instance : TFldT Tryd.prog 33 1 1 2 := ⟨⟨_, _, Tryd.underlying33, rfl, rfl, rfl⟩⟩
instance : TFld Tryd.prog 33 1 1 := ⟨⟨_, _, Tryd.underlying33, rfl, rfl, _, (by kernel_rfl : (Tryd.prog.info? 2).map (·.size) = some (0 + 1))⟩⟩
instance : TFlat Tryd.prog 33 [.int .i64 0, .int .i64 0] := ⟨by kernel_rfl, _, Tryd.underlying33, by kernel_rfl⟩
instance : TZero Tryd.prog 33 (.agg #[.int .i64 0, .int .i64 0]) := ⟨by kernel_rfl⟩
instance : TScal Tryd.prog 34 := ⟨⟨_, Tryd.underlying34, rfl⟩, by kernel_rfl⟩
instance : TScal Tryd.prog 35 := ⟨⟨_, Tryd.underlying35, rfl⟩, by kernel_rfl⟩
instance : TScal Tryd.prog 37 := ⟨⟨_, Tryd.underlying37, rfl⟩, by kernel_rfl⟩
instance : TScal Tryd.prog 38 := ⟨⟨_, Tryd.underlying38, rfl⟩, by kernel_rfl⟩
instance : TScal Tryd.prog 39 := ⟨⟨_, Tryd.underlying39, rfl⟩, by kernel_rfl⟩
instance : TScal Tryd.prog 40 := ⟨⟨_, Tryd.underlying40, rfl⟩, by kernel_rfl⟩
instance : TScal Tryd.prog 41 := ⟨⟨_, Tryd.underlying41, rfl⟩, by kernel_rfl⟩
instance : TScal Tryd.prog 42 := ⟨⟨_, Tryd.underlying42, rfl⟩, by kernel_rfl⟩
instance : TScal Tryd.prog 43 := ⟨⟨_, Tryd.underlying43, rfl⟩, by kernel_rfl⟩
instance : TScal Tryd.prog 44 := ⟨⟨_, Tryd.underlying44, rfl⟩, by kernel_rfl⟩
instance : TScal Tryd.prog 45 := ⟨⟨_, Tryd.underlying45, rfl⟩, by kernel_rfl⟩
instance : TScal Tryd.prog 47 := ⟨⟨_, Tryd.underlying47, rfl⟩, by kernel_rfl⟩
instance : TScal Tryd.prog 48 := ⟨⟨_, Tryd.underlying48, rfl⟩, by kernel_rfl⟩
instance : TScal Tryd.prog 49 := ⟨⟨_, Tryd.underlying49, rfl⟩, by kernel_rfl⟩
instance : TScal Tryd.prog 50 := ⟨⟨_, Tryd.underlying50, rfl⟩, by kernel_rfl⟩
instance : TZero Tryd.prog 50 (.slice none 0 0) := ⟨by kernel_rfl⟩
instance : TSvE Tryd.prog 50 := ⟨trivial⟩
instance : TSli Tryd.prog 50 5 1 1 := ⟨Tryd.underlying50, by kernel_rfl, by kernel_rfl, by kernel_rfl, zlen_of (z := .int .u8 0) (by kernel_rfl) rfl⟩
instance : TScal Tryd.prog 51 := ⟨⟨_, Tryd.underlying51, rfl⟩, by kernel_rfl⟩
instance : TScal Tryd.prog 52 := ⟨⟨_, Tryd.underlying52, rfl⟩, by kernel_rfl⟩
instance : TScal Tryd.prog 53 := ⟨⟨_, Tryd.underlying53, rfl⟩, by kernel_rfl⟩
instance : TScal Tryd.prog 54 := ⟨⟨_, Tryd.underlying54, rfl⟩, by kernel_rfl⟩
instance : TScal Tryd.prog 55 := ⟨⟨_, Tryd.underlying55, rfl⟩, by kernel_rfl⟩
instance : TStr Tryd.prog 56 2 := ⟨⟨_, Tryd.underlying56⟩, by kernel_rfl⟩
instance : TFldT Tryd.prog 56 0 0 55 := ⟨⟨_, _, Tryd.underlying56, rfl, rfl, rfl⟩⟩
instance : TFld Tryd.prog 56 0 0 := ⟨⟨_, _, Tryd.underlying56, rfl, rfl, _, (by kernel_rfl : (Tryd.prog.info? 55).map (·.size) = some (0 + 1))⟩⟩
instance : TFldT Tryd.prog 56 1 1 50 := ⟨⟨_, _, Tryd.underlying56, rfl, rfl, rfl⟩⟩
instance : TFld Tryd.prog 56 1 1 := ⟨⟨_, _, Tryd.underlying56, rfl, rfl, _, (by kernel_rfl : (Tryd.prog.info? 50).map (·.size) = some (0 + 1))⟩⟩
instance : TFlat Tryd.prog 56 [.pointer none, .slice none 0 0] := ⟨by kernel_rfl, _, Tryd.underlying56, by kernel_rfl⟩
instance : TZero Tryd.prog 56 (.agg #[.pointer none, .slice none 0 0]) := ⟨by kernel_rfl⟩
instance : TStr Tryd.prog 57 2 := ⟨⟨_, Tryd.underlying57⟩, by kernel_rfl⟩
instance : TFldT Tryd.prog 57 0 0 55 := ⟨⟨_, _, Tryd.underlying57, rfl, rfl, rfl⟩⟩
instance : TFld Tryd.prog 57 0 0 := ⟨⟨_, _, Tryd.underlying57, rfl, rfl, _, (by kernel_rfl : (Tryd.prog.info? 55).map (·.size) = some (0 + 1))⟩⟩
instance : TFldT Tryd.prog 57 1 1 50 := ⟨⟨_, _, Tryd.underlying57, rfl, rfl, rfl⟩⟩
instance : TFld Tryd.prog 57 1 1 := ⟨⟨_, _, Tryd.underlying57, rfl, rfl, _, (by kernel_rfl : (Tryd.prog.info? 50).map (·.size) = some (0 + 1))⟩⟩
instance : TFlat Tryd.prog 57 [.pointer none, .slice none 0 0] := ⟨by kernel_rfl, _, Tryd.underlying57, by kernel_rfl⟩
instance : TZero Tryd.prog 57 (.agg #[.pointer none, .slice none 0 0]) := ⟨by kernel_rfl⟩
instance : TScal Tryd.prog 58 := ⟨⟨_, Tryd.underlying58, rfl⟩, by kernel_rfl⟩
instance : TScal Tryd.prog 60 := ⟨⟨_, Tryd.underlying60, rfl⟩, by kernel_rfl⟩
instance : TScal Tryd.prog 61 := ⟨⟨_, Tryd.underlying61, rfl⟩, by kernel_rfl⟩
instance : TScal Tryd.prog 62 := ⟨⟨_, Tryd.underlying62, rfl⟩, by kernel_rfl⟩
instance : TScal Tryd.prog 64 := ⟨⟨_, Tryd.underlying64, rfl⟩, by kernel_rfl⟩
instance : TScal Tryd.prog 65 := ⟨⟨_, Tryd.underlying65, rfl⟩, by kernel_rfl⟩
instance : TScal Tryd.prog 66 := ⟨⟨_, Tryd.underlying66, rfl⟩, by kernel_rfl⟩
instance : TScal Tryd.prog 67 := ⟨⟨_, Tryd.underlying67, rfl⟩, by kernel_rfl⟩
instance : TInt Tryd.prog 67 .u64 := ⟨Tryd.underlying67⟩
instance : TZero Tryd.prog 67 (.int .u64 0) := ⟨by kernel_rfl⟩
instance : TScal Tryd.prog 68 := ⟨⟨_, Tryd.underlying68, rfl⟩, by kernel_rfl⟩
instance : TInt Tryd.prog 68 .i64 := ⟨Tryd.underlying68⟩
instance : TZero Tryd.prog 68 (.int .i64 0) := ⟨by kernel_rfl⟩
instance : TScal Tryd.prog 69 := ⟨⟨_, Tryd.underlying69, rfl⟩, by kernel_rfl⟩
instance : TInt Tryd.prog 69 .u64 := ⟨Tryd.underlying69⟩
instance : TZero Tryd.prog 69 (.int .u64 0) := ⟨by kernel_rfl⟩
instance : TScal Tryd.prog 71 := ⟨⟨_, Tryd.underlying71, rfl⟩, by kernel_rfl⟩
instance : TScal Tryd.prog 72 := ⟨⟨_, Tryd.underlying72, rfl⟩, by kernel_rfl⟩
instance : TScal Tryd.prog 73 := ⟨⟨_, Tryd.underlying73, rfl⟩, by kernel_rfl⟩
instance : TScal Tryd.prog 74 := ⟨⟨_, Tryd.underlying74, rfl⟩, by kernel_rfl⟩
instance : TScal Tryd.prog 75 := ⟨⟨_, Tryd.underlying75, rfl⟩, by kernel_rfl⟩
instance : TScal Tryd.prog 76 := ⟨⟨_, Tryd.underlying76, rfl⟩, by kernel_rfl⟩
instance : TScal Tryd.prog 77 := ⟨⟨_, Tryd.underlying77, rfl⟩, by kernel_rfl⟩
instance : TInt Tryd.prog 77 .u32 := ⟨Tryd.underlying77⟩
instance : TZero Tryd.prog 77 (.int .u32 0) := ⟨by kernel_rfl⟩
instance : TScal Tryd.prog 79 := ⟨⟨_, Tryd.underlying79, rfl⟩, by kernel_rfl⟩
instance : TScal Tryd.prog 80 := ⟨⟨_, Tryd.underlying80, rfl⟩, by kernel_rfl⟩
instance : TScal Tryd.prog 81 := ⟨⟨_, Tryd.underlying81, rfl⟩, by kernel_rfl⟩
instance : TStr Tryd.prog 82 3 := ⟨⟨_, Tryd.underlying82⟩, by kernel_rfl⟩
instance : TFldT Tryd.prog 82 0 0 9 := ⟨⟨_, _, Tryd.underlying82, rfl, rfl, rfl⟩⟩
instance : TFld Tryd.prog 82 0 0 := ⟨⟨_, _, Tryd.underlying82, rfl, rfl, _, (by kernel_rfl : (Tryd.prog.info? 9).map (·.size) = some (0 + 1))⟩⟩
instance : TFldT Tryd.prog 82 1 1 9 := ⟨⟨_, _, Tryd.underlying82, rfl, rfl, rfl⟩⟩
instance : TFld Tryd.prog 82 1 1 := ⟨⟨_, _, Tryd.underlying82, rfl, rfl, _, (by kernel_rfl : (Tryd.prog.info? 9).map (·.size) = some (0 + 1))⟩⟩
instance : TFldT Tryd.prog 82 2 2 45 := ⟨⟨_, _, Tryd.underlying82, rfl, rfl, rfl⟩⟩
instance : TFld Tryd.prog 82 2 2 := ⟨⟨_, _, Tryd.underlying82, rfl, rfl, _, (by kernel_rfl : (Tryd.prog.info? 45).map (·.size) = some (0 + 1))⟩⟩
instance : TFlat Tryd.prog 82 [.string ⟨#[]⟩, .string ⟨#[]⟩, .nilIface] := ⟨by kernel_rfl, _, Tryd.underlying82, by kernel_rfl⟩
instance : TZero Tryd.prog 82 (.agg #[.string ⟨#[]⟩, .string ⟨#[]⟩, .nilIface]) := ⟨by kernel_rfl⟩
instance : TStr Tryd.prog 83 3 := ⟨⟨_, Tryd.underlying83⟩, by kernel_rfl⟩
instance : TFldT Tryd.prog 83 0 0 9 := ⟨⟨_, _, Tryd.underlying83, rfl, rfl, rfl⟩⟩
instance : TFld Tryd.prog 83 0 0 := ⟨⟨_, _, Tryd.underlying83, rfl, rfl, _, (by kernel_rfl : (Tryd.prog.info? 9).map (·.size) = some (0 + 1))⟩⟩
instance : TFldT Tryd.prog 83 1 1 9 := ⟨⟨_, _, Tryd.underlying83, rfl, rfl, rfl⟩⟩
instance : TFld Tryd.prog 83 1 1 := ⟨⟨_, _, Tryd.underlying83, rfl, rfl, _, (by kernel_rfl : (Tryd.prog.info? 9).map (·.size) = some (0 + 1))⟩⟩
instance : TFldT Tryd.prog 83 2 2 45 := ⟨⟨_, _, Tryd.underlying83, rfl, rfl, rfl⟩⟩
instance : TFld Tryd.prog 83 2 2 := ⟨⟨_, _, Tryd.underlying83, rfl, rfl, _, (by kernel_rfl : (Tryd.prog.info? 45).map (·.size) = some (0 + 1))⟩⟩
instance : TFlat Tryd.prog 83 [.string ⟨#[]⟩, .string ⟨#[]⟩, .nilIface] := ⟨by kernel_rfl, _, Tryd.underlying83, by kernel_rfl⟩
instance : TZero Tryd.prog 83 (.agg #[.string ⟨#[]⟩, .string ⟨#[]⟩, .nilIface]) := ⟨by kernel_rfl⟩
instance : TScal Tryd.prog 84 := ⟨⟨_, Tryd.underlying84, rfl⟩, by kernel_rfl⟩
instance : TScal Tryd.prog 85 := ⟨⟨_, Tryd.underlying85, rfl⟩, by kernel_rfl⟩
instance : TArr Tryd.prog 86 24 5 := ⟨Tryd.underlying86⟩
instance : TZero Tryd.prog 86 (.agg #[.int .u8 0, .int .u8 0, .int .u8 0, .int .u8 0, .int .u8 0, .int .u8 0, .int .u8 0, .int .u8 0, .int .u8 0, .int .u8 0, .int .u8 0, .int .u8 0, .int .u8 0, .int .u8 0, .int .u8 0, .int .u8 0, .int .u8 0, .int .u8 0, .int .u8 0, .int .u8 0, .int .u8 0, .int .u8 0, .int .u8 0, .int .u8 0]) := ⟨by kernel_rfl⟩
instance : TScal Tryd.prog 87 := ⟨⟨_, Tryd.underlying87, rfl⟩, by kernel_rfl⟩
instance : TScal Tryd.prog 88 := ⟨⟨_, Tryd.underlying88, rfl⟩, by kernel_rfl⟩
instance : TScal Tryd.prog 90 := ⟨⟨_, Tryd.underlying90, rfl⟩, by kernel_rfl⟩
instance : TScal Tryd.prog 92 := ⟨⟨_, Tryd.underlying92, rfl⟩, by kernel_rfl⟩
instance : TScal Tryd.prog 93 := ⟨⟨_, Tryd.underlying93, rfl⟩, by kernel_rfl⟩
instance : TArr Tryd.prog 94 256 5 := ⟨Tryd.underlying94⟩
instance : TZero Tryd.prog 94 (.agg #[.int .u8 0, .int .u8 0, .int .u8 0, .int .u8 0, .int .u8 0, .int .u8 0, .int .u8 0, .int .u8 0, .int .u8 0, .int .u8 0, .int .u8 0, .int .u8 0, .int .u8 0, .int .u8 0, .int .u8 0, .int .u8 0, .int .u8 0, .int .u8 0, .int .u8 0, .int .u8 0, .int .u8 0, .int .u8 0, .int .u8 0, .int .u8 0, .int .u8 0, .int .u8 0, .int .u8 0, .int .u8 0, .int .u8 0, .int .u8 0, .int .u8 0, .int .u8 0, .int .u8 0, .int .u8 0, .int .u8 0, .int .u8 0, .int .u8 0, .int .u8 0, .int .u8 0, .int .u8 0, .int .u8 0, .int .u8 0, .int .u8 0, .int .u8 0, .int .u8 0, .int .u8 0, .int .u8 0, .int .u8 0, .int .u8 0, .int .u8 0, .int .u8 0, .int .u8 0, .int .u8 0, .int .u8 0, .int .u8 0, .int .u8 0, .int .u8 0, .int .u8 0, .int .u8 0, .int .u8 0, .int .u8 0, .int .u8 0, .int .u8 0, .int .u8 0, .int .u8 0, .int .u8 0, .int .u8 0, .int .u8 0, .int .u8 0, .int .u8 0, .int .u8 0, .int .u8 0, .int .u8 0, .int .u8 0, .int .u8 0, .int .u8 0, .int .u8 0, .int .u8 0, .int .u8 0, .int .u8 0, .int .u8 0, .int .u8 0, .int .u8 0, .int .u8 0, .int .u8 0, .int .u8 0, .int .u8 0, .int .u8 0, .int .u8 0, .int .u8 0, .int .u8 0, .int .u8 0, .int .u8 0, .int .u8 0, .int .u8 0, .int .u8 0, .int .u8 0, .int .u8 0, .int .u8 0, .int .u8 0, .int .u8 0, .int .u8 0, .int .u8 0, .int .u8 0, .int .u8 0, .int .u8 0, .int .u8 0, .int .u8 0, .int .u8 0, .int .u8 0, .int .u8 0, .int .u8 0, .int .u8 0, .int .u8 0, .int .u8 0, .int .u8 0, .int .u8 0, .int .u8 0, .int .u8 0, .int .u8 0, .int .u8 0, .int .u8 0, .int .u8 0, .int .u8 0, .int .u8 0, .int .u8 0, .int .u8 0, .int .u8 0, .int .u8 0, .int .u8 0, .int .u8 0, .int .u8 0, .int .u8 0, .int .u8 0, .int .u8 0, .int .u8 0, .int .u8 0, .int .u8 0, .int .u8 0, .int .u8 0, .int .u8 0, .int .u8 0, .int .u8 0, .int .u8 0, .int .u8 0, .int .u8 0, .int .u8 0, .int .u8 0, .int .u8 0, .int .u8 0, .int .u8 0, .int .u8 0, .int .u8 0, .int .u8 0, .int .u8 0, .int .u8 0, .int .u8 0, .int .u8 0, .int .u8 0, .int .u8 0, .int .u8 0, .int .u8 0, .int .u8 0, .int .u8 0, .int .u8 0, .int .u8 0, .int .u8 0, .int .u8 0, .int .u8 0, .int .u8 0, .int .u8 0, .int .u8 0, .int .u8 0, .int .u8 0, .int .u8 0, .int .u8 0, .int .u8 0, .int .u8 0, .int .u8 0, .int .u8 0, .int .u8 0, .int .u8 0, .int .u8 0, .int .u8 0, .int .u8 0, .int .u8 0, .int .u8 0, .int .u8 0, .int .u8 0, .int .u8 0, .int .u8 0, .int .u8 0, .int .u8 0, .int .u8 0, .int .u8 0, .int .u8 0, .int .u8 0, .int .u8 0, .int .u8 0, .int .u8 0, .int .u8 0, .int .u8 0, .int .u8 0, .int .u8 0, .int .u8 0, .int .u8 0, .int .u8 0, .int .u8 0, .int .u8 0, .int .u8 0, .int .u8 0, .int .u8 0, .int .u8 0, .int .u8 0, .int .u8 0, .int .u8 0, .int .u8 0, .int .u8 0, .int .u8 0, .int .u8 0, .int .u8 0, .int .u8 0, .int .u8 0, .int .u8 0, .int .u8 0, .int .u8 0, .int .u8 0, .int .u8 0, .int .u8 0, .int .u8 0, .int .u8 0, .int .u8 0, .int .u8 0, .int .u8 0, .int .u8 0, .int .u8 0, .int .u8 0, .int .u8 0, .int .u8 0, .int .u8 0, .int .u8 0, .int .u8 0, .int .u8 0, .int .u8 0, .int .u8 0, .int .u8 0, .int .u8 0, .int .u8 0, .int .u8 0, .int .u8 0, .int .u8 0, .int .u8 0, .int .u8 0, .int .u8 0, .int .u8 0, .int .u8 0]) := ⟨by kernel_rfl⟩
instance : TStr Tryd.prog 95 2 := ⟨⟨_, Tryd.underlying95⟩, by kernel_rfl⟩
instance : TFldT Tryd.prog 95 0 0 5 := ⟨⟨_, _, Tryd.underlying95, rfl, rfl, rfl⟩⟩
instance : TFld Tryd.prog 95 0 0 := ⟨⟨_, _, Tryd.underlying95, rfl, rfl, _, (by kernel_rfl : (Tryd.prog.info? 5).map (·.size) = some (0 + 1))⟩⟩
instance : TFldT Tryd.prog 95 1 1 5 := ⟨⟨_, _, Tryd.underlying95, rfl, rfl, rfl⟩⟩
instance : TFld Tryd.prog 95 1 1 := ⟨⟨_, _, Tryd.underlying95, rfl, rfl, _, (by kernel_rfl : (Tryd.prog.info? 5).map (·.size) = some (0 + 1))⟩⟩
instance : TFlat Tryd.prog 95 [.int .u8 0, .int .u8 0] := ⟨by kernel_rfl, _, Tryd.underlying95, by kernel_rfl⟩
instance : TZero Tryd.prog 95 (.agg #[.int .u8 0, .int .u8 0]) := ⟨by kernel_rfl⟩
instance : TStr Tryd.prog 96 2 := ⟨⟨_, Tryd.underlying96⟩, by kernel_rfl⟩
instance : TFldT Tryd.prog 96 0 0 5 := ⟨⟨_, _, Tryd.underlying96, rfl, rfl, rfl⟩⟩
instance : TFld Tryd.prog 96 0 0 := ⟨⟨_, _, Tryd.underlying96, rfl, rfl, _, (by kernel_rfl : (Tryd.prog.info? 5).map (·.size) = some (0 + 1))⟩⟩
instance : TFldT Tryd.prog 96 1 1 5 := ⟨⟨_, _, Tryd.underlying96, rfl, rfl, rfl⟩⟩
instance : TFld Tryd.prog 96 1 1 := ⟨⟨_, _, Tryd.underlying96, rfl, rfl, _, (by kernel_rfl : (Tryd.prog.info? 5).map (·.size) = some (0 + 1))⟩⟩
instance : TFlat Tryd.prog 96 [.int .u8 0, .int .u8 0] := ⟨by kernel_rfl, _, Tryd.underlying96, by kernel_rfl⟩
instance : TZero Tryd.prog 96 (.agg #[.int .u8 0, .int .u8 0]) := ⟨by kernel_rfl⟩
instance : TArr Tryd.prog 97 16 96 := ⟨Tryd.underlying97⟩
instance : TZero Tryd.prog 97 (.agg #[.int .u8 0, .int .u8 0, .int .u8 0, .int .u8 0, .int .u8 0, .int .u8 0, .int .u8 0, .int .u8 0, .int .u8 0, .int .u8 0, .int .u8 0, .int .u8 0, .int .u8 0, .int .u8 0, .int .u8 0, .int .u8 0, .int .u8 0, .int .u8 0, .int .u8 0, .int .u8 0, .int .u8 0, .int .u8 0, .int .u8 0, .int .u8 0, .int .u8 0, .int .u8 0, .int .u8 0, .int .u8 0, .int .u8 0, .int .u8 0, .int .u8 0, .int .u8 0]) := ⟨by kernel_rfl⟩
instance : TScal Tryd.prog 98 := ⟨⟨_, Tryd.underlying98, rfl⟩, by kernel_rfl⟩
instance : TStr Tryd.prog 99 1 := ⟨⟨_, Tryd.underlying99⟩, by kernel_rfl⟩
instance : TFldT Tryd.prog 99 0 0 9 := ⟨⟨_, _, Tryd.underlying99, rfl, rfl, rfl⟩⟩
instance : TFld Tryd.prog 99 0 0 := ⟨⟨_, _, Tryd.underlying99, rfl, rfl, _, (by kernel_rfl : (Tryd.prog.info? 9).map (·.size) = some (0 + 1))⟩⟩
instance : TFlat Tryd.prog 99 [.string ⟨#[]⟩] := ⟨by kernel_rfl, _, Tryd.underlying99, by kernel_rfl⟩
instance : TZero Tryd.prog 99 (.agg #[.string ⟨#[]⟩]) := ⟨by kernel_rfl⟩
instance : TStr Tryd.prog 100 1 := ⟨⟨_, Tryd.underlying100⟩, by kernel_rfl⟩
instance : TFldT Tryd.prog 100 0 0 9 := ⟨⟨_, _, Tryd.underlying100, rfl, rfl, rfl⟩⟩
instance : TFld Tryd.prog 100 0 0 := ⟨⟨_, _, Tryd.underlying100, rfl, rfl, _, (by kernel_rfl : (Tryd.prog.info? 9).map (·.size) = some (0 + 1))⟩⟩
instance : TFlat Tryd.prog 100 [.string ⟨#[]⟩] := ⟨by kernel_rfl, _, Tryd.underlying100, by kernel_rfl⟩
instance : TZero Tryd.prog 100 (.agg #[.string ⟨#[]⟩]) := ⟨by kernel_rfl⟩
instance : TScal Tryd.prog 101 := ⟨⟨_, Tryd.underlying101, rfl⟩, by kernel_rfl⟩
instance : TArr Tryd.prog 102 20 69 := ⟨Tryd.underlying102⟩
instance : TZero Tryd.prog 102 (.agg #[.int .u64 0, .int .u64 0, .int .u64 0, .int .u64 0, .int .u64 0, .int .u64 0, .int .u64 0, .int .u64 0, .int .u64 0, .int .u64 0, .int .u64 0, .int .u64 0, .int .u64 0, .int .u64 0, .int .u64 0, .int .u64 0, .int .u64 0, .int .u64 0, .int .u64 0, .int .u64 0]) := ⟨by kernel_rfl⟩
instance : TArr Tryd.prog 103 65 5 := ⟨Tryd.underlying103⟩
instance : TZero Tryd.prog 103 (.agg #[.int .u8 0, .int .u8 0, .int .u8 0, .int .u8 0, .int .u8 0, .int .u8 0, .int .u8 0, .int .u8 0, .int .u8 0, .int .u8 0, .int .u8 0, .int .u8 0, .int .u8 0, .int .u8 0, .int .u8 0, .int .u8 0, .int .u8 0, .int .u8 0, .int .u8 0, .int .u8 0, .int .u8 0, .int .u8 0, .int .u8 0, .int .u8 0, .int .u8 0, .int .u8 0, .int .u8 0, .int .u8 0, .int .u8 0, .int .u8 0, .int .u8 0, .int .u8 0, .int .u8 0, .int .u8 0, .int .u8 0, .int .u8 0, .int .u8 0, .int .u8 0, .int .u8 0, .int .u8 0, .int .u8 0, .int .u8 0, .int .u8 0, .int .u8 0, .int .u8 0, .int .u8 0, .int .u8 0, .int .u8 0, .int .u8 0, .int .u8 0, .int .u8 0, .int .u8 0, .int .u8 0, .int .u8 0, .int .u8 0, .int .u8 0, .int .u8 0, .int .u8 0, .int .u8 0, .int .u8 0, .int .u8 0, .int .u8 0, .int .u8 0, .int .u8 0, .int .u8 0]) := ⟨by kernel_rfl⟩
instance : TScal Tryd.prog 104 := ⟨⟨_, Tryd.underlying104, rfl⟩, by kernel_rfl⟩
instance : TScal Tryd.prog 105 := ⟨⟨_, Tryd.underlying105, rfl⟩, by kernel_rfl⟩
instance : TScal Tryd.prog 106 := ⟨⟨_, Tryd.underlying106, rfl⟩, by kernel_rfl⟩
instance : TArr Tryd.prog 107 32 5 := ⟨Tryd.underlying107⟩
instance : TZero Tryd.prog 107 (.agg #[.int .u8 0, .int .u8 0, .int .u8 0, .int .u8 0, .int .u8 0, .int .u8 0, .int .u8 0, .int .u8 0, .int .u8 0, .int .u8 0, .int .u8 0, .int .u8 0, .int .u8 0, .int .u8 0, .int .u8 0, .int .u8 0, .int .u8 0, .int .u8 0, .int .u8 0, .int .u8 0, .int .u8 0, .int .u8 0, .int .u8 0, .int .u8 0, .int .u8 0, .int .u8 0, .int .u8 0, .int .u8 0, .int .u8 0, .int .u8 0, .int .u8 0, .int .u8 0]) := ⟨by kernel_rfl⟩
instance : TArr Tryd.prog 108 64 5 := ⟨Tryd.underlying108⟩
instance : TZero Tryd.prog 108 (.agg #[.int .u8 0, .int .u8 0, .int .u8 0, .int .u8 0, .int .u8 0, .int .u8 0, .int .u8 0, .int .u8 0, .int .u8 0, .int .u8 0, .int .u8 0, .int .u8 0, .int .u8 0, .int .u8 0, .int .u8 0, .int .u8 0, .int .u8 0, .int .u8 0, .int .u8 0, .int .u8 0, .int .u8 0, .int .u8 0, .int .u8 0, .int .u8 0, .int .u8 0, .int .u8 0, .int .u8 0, .int .u8 0, .int .u8 0, .int .u8 0, .int .u8 0, .int .u8 0, .int .u8 0, .int .u8 0, .int .u8 0, .int .u8 0, .int .u8 0, .int .u8 0, .int .u8 0, .int .u8 0, .int .u8 0, .int .u8 0, .int .u8 0, .int .u8 0, .int .u8 0, .int .u8 0, .int .u8 0, .int .u8 0, .int .u8 0, .int .u8 0, .int .u8 0, .int .u8 0, .int .u8 0, .int .u8 0, .int .u8 0, .int .u8 0, .int .u8 0, .int .u8 0, .int .u8 0, .int .u8 0, .int .u8 0, .int .u8 0, .int .u8 0, .int .u8 0]) := ⟨by kernel_rfl⟩
instance : TStr Tryd.prog 109 4 := ⟨⟨_, Tryd.underlying109⟩, by kernel_rfl⟩
instance : TFldT Tryd.prog 109 0 0 17 := ⟨⟨_, _, Tryd.underlying109, rfl, rfl, rfl⟩⟩
instance : TFld Tryd.prog 109 0 0 := ⟨⟨_, _, Tryd.underlying109, rfl, rfl, _, (by kernel_rfl : (Tryd.prog.info? 17).map (·.size) = some (0 + 1))⟩⟩
instance : TFldT Tryd.prog 109 1 1 17 := ⟨⟨_, _, Tryd.underlying109, rfl, rfl, rfl⟩⟩
instance : TFld Tryd.prog 109 1 1 := ⟨⟨_, _, Tryd.underlying109, rfl, rfl, _, (by kernel_rfl : (Tryd.prog.info? 17).map (·.size) = some (0 + 1))⟩⟩
instance : TFldT Tryd.prog 109 2 2 17 := ⟨⟨_, _, Tryd.underlying109, rfl, rfl, rfl⟩⟩
instance : TFld Tryd.prog 109 2 2 := ⟨⟨_, _, Tryd.underlying109, rfl, rfl, _, (by kernel_rfl : (Tryd.prog.info? 17).map (·.size) = some (0 + 1))⟩⟩
instance : TFldT Tryd.prog 109 3 3 9 := ⟨⟨_, _, Tryd.underlying109, rfl, rfl, rfl⟩⟩
instance : TFld Tryd.prog 109 3 3 := ⟨⟨_, _, Tryd.underlying109, rfl, rfl, _, (by kernel_rfl : (Tryd.prog.info? 9).map (·.size) = some (0 + 1))⟩⟩
instance : TFlat Tryd.prog 109 [.pointer none, .pointer none, .pointer none, .string ⟨#[]⟩] := ⟨by kernel_rfl, _, Tryd.underlying109, by kernel_rfl⟩
instance : TZero Tryd.prog 109 (.agg #[.pointer none, .pointer none, .pointer none, .string ⟨#[]⟩]) := ⟨by kernel_rfl⟩
instance : TStr Tryd.prog 110 4 := ⟨⟨_, Tryd.underlying110⟩, by kernel_rfl⟩
instance : TFldT Tryd.prog 110 0 0 17 := ⟨⟨_, _, Tryd.underlying110, rfl, rfl, rfl⟩⟩
instance : TFld Tryd.prog 110 0 0 := ⟨⟨_, _, Tryd.underlying110, rfl, rfl, _, (by kernel_rfl : (Tryd.prog.info? 17).map (·.size) = some (0 + 1))⟩⟩
instance : TFldT Tryd.prog 110 1 1 17 := ⟨⟨_, _, Tryd.underlying110, rfl, rfl, rfl⟩⟩
instance : TFld Tryd.prog 110 1 1 := ⟨⟨_, _, Tryd.underlying110, rfl, rfl, _, (by kernel_rfl : (Tryd.prog.info? 17).map (·.size) = some (0 + 1))⟩⟩
instance : TFldT Tryd.prog 110 2 2 17 := ⟨⟨_, _, Tryd.underlying110, rfl, rfl, rfl⟩⟩
instance : TFld Tryd.prog 110 2 2 := ⟨⟨_, _, Tryd.underlying110, rfl, rfl, _, (by kernel_rfl : (Tryd.prog.info? 17).map (·.size) = some (0 + 1))⟩⟩
instance : TFldT Tryd.prog 110 3 3 9 := ⟨⟨_, _, Tryd.underlying110, rfl, rfl, rfl⟩⟩
instance : TFld Tryd.prog 110 3 3 := ⟨⟨_, _, Tryd.underlying110, rfl, rfl, _, (by kernel_rfl : (Tryd.prog.info? 9).map (·.size) = some (0 + 1))⟩⟩
instance : TFlat Tryd.prog 110 [.pointer none, .pointer none, .pointer none, .string ⟨#[]⟩] := ⟨by kernel_rfl, _, Tryd.underlying110, by kernel_rfl⟩
instance : TZero Tryd.prog 110 (.agg #[.pointer none, .pointer none, .pointer none, .string ⟨#[]⟩]) := ⟨by kernel_rfl⟩
instance : TArr Tryd.prog 111 0 16 := ⟨Tryd.underlying111⟩
instance : TZero Tryd.prog 111 (.agg #[]) := ⟨by kernel_rfl⟩
instance : TScal Tryd.prog 114 := ⟨⟨_, Tryd.underlying114, rfl⟩, by kernel_rfl⟩
instance : TScal Tryd.prog 115 := ⟨⟨_, Tryd.underlying115, rfl⟩, by kernel_rfl⟩
instance : TInt Tryd.prog 115 .u8 := ⟨Tryd.underlying115⟩
instance : TZero Tryd.prog 115 (.int .u8 0) := ⟨by kernel_rfl⟩
instance : TScal Tryd.prog 116 := ⟨⟨_, Tryd.underlying116, rfl⟩, by kernel_rfl⟩
instance : TInt Tryd.prog 116 .u8 := ⟨Tryd.underlying116⟩
instance : TZero Tryd.prog 116 (.int .u8 0) := ⟨by kernel_rfl⟩
instance : TScal Tryd.prog 117 := ⟨⟨_, Tryd.underlying117, rfl⟩, by kernel_rfl⟩
instance : TScal Tryd.prog 118 := ⟨⟨_, Tryd.underlying118, rfl⟩, by kernel_rfl⟩
instance : TInt Tryd.prog 118 .i32 := ⟨Tryd.underlying118⟩
instance : TZero Tryd.prog 118 (.int .i32 0) := ⟨by kernel_rfl⟩
instance : TScal Tryd.prog 119 := ⟨⟨_, Tryd.underlying119, rfl⟩, by kernel_rfl⟩
instance : TInt Tryd.prog 119 .i32 := ⟨Tryd.underlying119⟩
instance : TZero Tryd.prog 119 (.int .i32 0) := ⟨by kernel_rfl⟩
instance : TStr Tryd.prog 120 11 := ⟨⟨_, Tryd.underlying120⟩, by kernel_rfl⟩
instance : TFldT Tryd.prog 120 0 0 12 := ⟨⟨_, _, Tryd.underlying120, rfl, rfl, rfl⟩⟩
instance : TFld Tryd.prog 120 0 0 := ⟨⟨_, _, Tryd.underlying120, rfl, rfl, _, (by kernel_rfl : (Tryd.prog.info? 12).map (·.size) = some (0 + 1))⟩⟩
instance : TFldT Tryd.prog 120 1 1 12 := ⟨⟨_, _, Tryd.underlying120, rfl, rfl, rfl⟩⟩
instance : TFld Tryd.prog 120 1 1 := ⟨⟨_, _, Tryd.underlying120, rfl, rfl, _, (by kernel_rfl : (Tryd.prog.info? 12).map (·.size) = some (0 + 1))⟩⟩
instance : TFldT Tryd.prog 120 2 2 77 := ⟨⟨_, _, Tryd.underlying120, rfl, rfl, rfl⟩⟩
instance : TFld Tryd.prog 120 2 2 := ⟨⟨_, _, Tryd.underlying120, rfl, rfl, _, (by kernel_rfl : (Tryd.prog.info? 77).map (·.size) = some (0 + 1))⟩⟩
instance : TFldT Tryd.prog 120 3 3 115 := ⟨⟨_, _, Tryd.underlying120, rfl, rfl, rfl⟩⟩
instance : TFld Tryd.prog 120 3 3 := ⟨⟨_, _, Tryd.underlying120, rfl, rfl, _, (by kernel_rfl : (Tryd.prog.info? 115).map (·.size) = some (0 + 1))⟩⟩
instance : TFldT Tryd.prog 120 4 4 5 := ⟨⟨_, _, Tryd.underlying120, rfl, rfl, rfl⟩⟩
instance : TFld Tryd.prog 120 4 4 := ⟨⟨_, _, Tryd.underlying120, rfl, rfl, _, (by kernel_rfl : (Tryd.prog.info? 5).map (·.size) = some (0 + 1))⟩⟩
instance : TFldT Tryd.prog 120 5 5 5 := ⟨⟨_, _, Tryd.underlying120, rfl, rfl, rfl⟩⟩
instance : TFld Tryd.prog 120 5 5 := ⟨⟨_, _, Tryd.underlying120, rfl, rfl, _, (by kernel_rfl : (Tryd.prog.info? 5).map (·.size) = some (0 + 1))⟩⟩
instance : TFldT Tryd.prog 120 6 6 116 := ⟨⟨_, _, Tryd.underlying120, rfl, rfl, rfl⟩⟩
instance : TFld Tryd.prog 120 6 6 := ⟨⟨_, _, Tryd.underlying120, rfl, rfl, _, (by kernel_rfl : (Tryd.prog.info? 116).map (·.size) = some (0 + 1))⟩⟩
instance : TFldT Tryd.prog 120 7 7 117 := ⟨⟨_, _, Tryd.underlying120, rfl, rfl, rfl⟩⟩
instance : TFld Tryd.prog 120 7 7 := ⟨⟨_, _, Tryd.underlying120, rfl, rfl, _, (by kernel_rfl : (Tryd.prog.info? 117).map (·.size) = some (0 + 1))⟩⟩
instance : TFldT Tryd.prog 120 8 8 76 := ⟨⟨_, _, Tryd.underlying120, rfl, rfl, rfl⟩⟩
instance : TFld Tryd.prog 120 8 8 := ⟨⟨_, _, Tryd.underlying120, rfl, rfl, _, (by kernel_rfl : (Tryd.prog.info? 76).map (·.size) = some (0 + 1))⟩⟩
instance : TFldT Tryd.prog 120 9 9 118 := ⟨⟨_, _, Tryd.underlying120, rfl, rfl, rfl⟩⟩
instance : TFld Tryd.prog 120 9 9 := ⟨⟨_, _, Tryd.underlying120, rfl, rfl, _, (by kernel_rfl : (Tryd.prog.info? 118).map (·.size) = some (0 + 1))⟩⟩
instance : TFldT Tryd.prog 120 10 10 119 := ⟨⟨_, _, Tryd.underlying120, rfl, rfl, rfl⟩⟩
instance : TFld Tryd.prog 120 10 10 := ⟨⟨_, _, Tryd.underlying120, rfl, rfl, _, (by kernel_rfl : (Tryd.prog.info? 119).map (·.size) = some (0 + 1))⟩⟩
instance : TFlat Tryd.prog 120 [.int .u64 0, .int .u64 0, .int .u32 0, .int .u8 0, .int .u8 0, .int .u8 0, .int .u8 0, .nilFunc, .pointer none, .int .i32 0, .int .i32 0] := ⟨by kernel_rfl, _, Tryd.underlying120, by kernel_rfl⟩
instance : TZero Tryd.prog 120 (.agg #[.int .u64 0, .int .u64 0, .int .u32 0, .int .u8 0, .int .u8 0, .int .u8 0, .int .u8 0, .nilFunc, .pointer none, .int .i32 0, .int .i32 0]) := ⟨by kernel_rfl⟩
instance : TStr Tryd.prog 121 11 := ⟨⟨_, Tryd.underlying121⟩, by kernel_rfl⟩
instance : TFldT Tryd.prog 121 0 0 12 := ⟨⟨_, _, Tryd.underlying121, rfl, rfl, rfl⟩⟩
instance : TFld Tryd.prog 121 0 0 := ⟨⟨_, _, Tryd.underlying121, rfl, rfl, _, (by kernel_rfl : (Tryd.prog.info? 12).map (·.size) = some (0 + 1))⟩⟩
instance : TFldT Tryd.prog 121 1 1 12 := ⟨⟨_, _, Tryd.underlying121, rfl, rfl, rfl⟩⟩
instance : TFld Tryd.prog 121 1 1 := ⟨⟨_, _, Tryd.underlying121, rfl, rfl, _, (by kernel_rfl : (Tryd.prog.info? 12).map (·.size) = some (0 + 1))⟩⟩
instance : TFldT Tryd.prog 121 2 2 77 := ⟨⟨_, _, Tryd.underlying121, rfl, rfl, rfl⟩⟩
instance : TFld Tryd.prog 121 2 2 := ⟨⟨_, _, Tryd.underlying121, rfl, rfl, _, (by kernel_rfl : (Tryd.prog.info? 77).map (·.size) = some (0 + 1))⟩⟩
instance : TFldT Tryd.prog 121 3 3 115 := ⟨⟨_, _, Tryd.underlying121, rfl, rfl, rfl⟩⟩
instance : TFld Tryd.prog 121 3 3 := ⟨⟨_, _, Tryd.underlying121, rfl, rfl, _, (by kernel_rfl : (Tryd.prog.info? 115).map (·.size) = some (0 + 1))⟩⟩
instance : TFldT Tryd.prog 121 4 4 5 := ⟨⟨_, _, Tryd.underlying121, rfl, rfl, rfl⟩⟩
instance : TFld Tryd.prog 121 4 4 := ⟨⟨_, _, Tryd.underlying121, rfl, rfl, _, (by kernel_rfl : (Tryd.prog.info? 5).map (·.size) = some (0 + 1))⟩⟩
instance : TFldT Tryd.prog 121 5 5 5 := ⟨⟨_, _, Tryd.underlying121, rfl, rfl, rfl⟩⟩
instance : TFld Tryd.prog 121 5 5 := ⟨⟨_, _, Tryd.underlying121, rfl, rfl, _, (by kernel_rfl : (Tryd.prog.info? 5).map (·.size) = some (0 + 1))⟩⟩
instance : TFldT Tryd.prog 121 6 6 116 := ⟨⟨_, _, Tryd.underlying121, rfl, rfl, rfl⟩⟩
instance : TFld Tryd.prog 121 6 6 := ⟨⟨_, _, Tryd.underlying121, rfl, rfl, _, (by kernel_rfl : (Tryd.prog.info? 116).map (·.size) = some (0 + 1))⟩⟩
instance : TFldT Tryd.prog 121 7 7 117 := ⟨⟨_, _, Tryd.underlying121, rfl, rfl, rfl⟩⟩
instance : TFld Tryd.prog 121 7 7 := ⟨⟨_, _, Tryd.underlying121, rfl, rfl, _, (by kernel_rfl : (Tryd.prog.info? 117).map (·.size) = some (0 + 1))⟩⟩
instance : TFldT Tryd.prog 121 8 8 76 := ⟨⟨_, _, Tryd.underlying121, rfl, rfl, rfl⟩⟩
instance : TFld Tryd.prog 121 8 8 := ⟨⟨_, _, Tryd.underlying121, rfl, rfl, _, (by kernel_rfl : (Tryd.prog.info? 76).map (·.size) = some (0 + 1))⟩⟩
instance : TFldT Tryd.prog 121 9 9 118 := ⟨⟨_, _, Tryd.underlying121, rfl, rfl, rfl⟩⟩
instance : TFld Tryd.prog 121 9 9 := ⟨⟨_, _, Tryd.underlying121, rfl, rfl, _, (by kernel_rfl : (Tryd.prog.info? 118).map (·.size) = some (0 + 1))⟩⟩
instance : TFldT Tryd.prog 121 10 10 119 := ⟨⟨_, _, Tryd.underlying121, rfl, rfl, rfl⟩⟩
instance : TFld Tryd.prog 121 10 10 := ⟨⟨_, _, Tryd.underlying121, rfl, rfl, _, (by kernel_rfl : (Tryd.prog.info? 119).map (·.size) = some (0 + 1))⟩⟩
instance : TFlat Tryd.prog 121 [.int .u64 0, .int .u64 0, .int .u32 0, .int .u8 0, .int .u8 0, .int .u8 0, .int .u8 0, .nilFunc, .pointer none, .int .i32 0, .int .i32 0] := ⟨by kernel_rfl, _, Tryd.underlying121, by kernel_rfl⟩
instance : TZero Tryd.prog 121 (.agg #[.int .u64 0, .int .u64 0, .int .u32 0, .int .u8 0, .int .u8 0, .int .u8 0, .int .u8 0, .nilFunc, .pointer none, .int .i32 0, .int .i32 0]) := ⟨by kernel_rfl⟩
instance : Callable Tryd.prog 3 := callable Tryd.func3 (by kernel_rfl) rfl   -- loop.example/g01012/laws.FnExactReadCopies
instance : Callable Tryd.prog 4 := callable Tryd.func4 (by kernel_rfl) rfl   -- loop.example/g01012/spec.ReadCopies
instance : Callable Tryd.prog 5 := callable Tryd.func5 (by kernel_rfl) rfl   -- loop.example/g01012/impl.ReadCopies
instance : Callable Tryd.prog 6 := callable Tryd.func6 (by kernel_rfl) rfl   -- loop.example/g01012/laws.eqCopyS
instance : Callable Tryd.prog 7 := callable Tryd.func7 (by kernel_rfl) rfl   -- loop.example/g01012/laws.markCopyS
instance : Callable Tryd.prog 8 := callable Tryd.func8 (by kernel_rfl) rfl   -- loop.example/g01012/laws.heldCopyS
instance : Callable Tryd.prog 9 := callable Tryd.func9 (by kernel_rfl) rfl   -- loop.example/g01012/spec.l01Split
instance : Callable Tryd.prog 10 := callable Tryd.func10 (by kernel_rfl) rfl   -- loop.example/g01012/spec.l01Number
instance : Callable Tryd.prog 11 := callable Tryd.func11 (by kernel_rfl) rfl   -- loop.example/g01012/spec.l10Plain
instance : Callable Tryd.prog 12 := callable Tryd.func12 (by kernel_rfl) rfl   -- strings.Split
instance : Callable Tryd.prog 13 := callable Tryd.func13 (by kernel_rfl) rfl   -- strings.Cut
instance : Callable Tryd.prog 14 := callable Tryd.func14 (by kernel_rfl) rfl   -- loop.example/g01012/impl.ReadDecimal
instance : Callable Tryd.prog 15 := callable Tryd.func15 (by kernel_rfl) rfl   -- loop.example/g01012/impl.isPlain
instance : Callable Tryd.prog 16 := callable Tryd.func16 (by kernel_rfl) rfl   -- loop.example/g01012/impl.CopiesText
instance : Callable Tryd.prog 17 := callable Tryd.func17 (by kernel_rfl) rfl   -- loop.example/g01012/laws.eqCopy
instance : Callable Tryd.prog 18 := callable Tryd.func18 (by kernel_rfl) rfl   -- loop.example/g01012/spec.l01Digit
instance : Callable Tryd.prog 19 := callable Tryd.func19 (by kernel_rfl) rfl   -- loop.example/g01012/spec.l01Dec
instance : Callable Tryd.prog 20 := callable Tryd.func20 (by kernel_rfl) rfl   -- loop.example/g01012/spec.l00In
instance : Callable Tryd.prog 23 := callable Tryd.func23 (by kernel_rfl) rfl   -- strconv.ParseInt
instance : Callable Tryd.prog 24 := callable Tryd.func24 (by kernel_rfl) rfl   -- loop.example/g01012/impl.Decimal
instance : Callable Tryd.prog 25 := callable Tryd.func25 (by kernel_rfl) rfl   -- strings.TrimPrefix
instance : Callable Tryd.prog 26 := callable Tryd.func26 (by kernel_rfl) rfl   -- loop.example/g01012/impl.inside
instance : Callable Tryd.prog 27 := callable Tryd.func27 (by kernel_rfl) rfl   -- strings.Join
instance : Callable Tryd.prog 34 := callable Tryd.func34 (by kernel_rfl) rfl   -- strconv.FormatInt
end Go.Proofs.YticnemjjjceiaaaDoor

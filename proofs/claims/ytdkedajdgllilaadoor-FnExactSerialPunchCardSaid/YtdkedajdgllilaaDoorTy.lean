/- What is known of this program's types and functions. -/
import Derived.Test.YtdkedajdgllilaaDoorL12
import Derived.Test.YtdkedajdgllilaaDoorChecked
namespace Go.Proofs.YtdkedajdgllilaaDoor
open Go Go.Gw
theorem mixed : Tryd.prog.follows .mixedOrders = true := by kernel_rfl
instance : TScal Tryd.prog 1 := ⟨⟨_, Tryd.underlying1, rfl⟩, by kernel_rfl⟩
instance : TScal Tryd.prog 2 := ⟨⟨_, Tryd.underlying2, rfl⟩, by kernel_rfl⟩
instance : TInt Tryd.prog 2 .i64 := ⟨Tryd.underlying2⟩
instance : TZero Tryd.prog 2 (.int .i64 0) := ⟨by kernel_rfl⟩
instance : TScal Tryd.prog 3 := ⟨⟨_, Tryd.underlying3, rfl⟩, by kernel_rfl⟩
instance : TInt Tryd.prog 3 .i64 := ⟨Tryd.underlying3⟩
instance : TZero Tryd.prog 3 (.int .i64 0) := ⟨by kernel_rfl⟩
instance : TScal Tryd.prog 4 := ⟨⟨_, Tryd.underlying4, rfl⟩, by kernel_rfl⟩
instance : TBool Tryd.prog 4 := ⟨Tryd.underlying4⟩
instance : TZero Tryd.prog 4 (.bool false) := ⟨by kernel_rfl⟩
instance : TScal Tryd.prog 5 := ⟨⟨_, Tryd.underlying5, rfl⟩, by kernel_rfl⟩
instance : TInt Tryd.prog 5 .u8 := ⟨Tryd.underlying5⟩
instance : TZero Tryd.prog 5 (.int .u8 0) := ⟨by kernel_rfl⟩
instance : TScal Tryd.prog 6 := ⟨⟨_, Tryd.underlying6, rfl⟩, by kernel_rfl⟩
instance : TInt Tryd.prog 6 .u8 := ⟨Tryd.underlying6⟩
instance : TZero Tryd.prog 6 (.int .u8 0) := ⟨by kernel_rfl⟩
instance : TStr Tryd.prog 7 4 := ⟨⟨_, Tryd.underlying7⟩, by kernel_rfl⟩
instance : TFldT Tryd.prog 7 0 0 2 := ⟨⟨_, _, Tryd.underlying7, rfl, rfl, rfl⟩⟩
instance : TFld Tryd.prog 7 0 0 := ⟨⟨_, _, Tryd.underlying7, rfl, rfl, _, (by kernel_rfl : (Tryd.prog.info? 2).map (·.size) = some (0 + 1))⟩⟩
instance : TFldT Tryd.prog 7 1 1 3 := ⟨⟨_, _, Tryd.underlying7, rfl, rfl, rfl⟩⟩
instance : TFld Tryd.prog 7 1 1 := ⟨⟨_, _, Tryd.underlying7, rfl, rfl, _, (by kernel_rfl : (Tryd.prog.info? 3).map (·.size) = some (0 + 1))⟩⟩
instance : TFldT Tryd.prog 7 2 2 4 := ⟨⟨_, _, Tryd.underlying7, rfl, rfl, rfl⟩⟩
instance : TFld Tryd.prog 7 2 2 := ⟨⟨_, _, Tryd.underlying7, rfl, rfl, _, (by kernel_rfl : (Tryd.prog.info? 4).map (·.size) = some (0 + 1))⟩⟩
instance : TFldT Tryd.prog 7 3 3 6 := ⟨⟨_, _, Tryd.underlying7, rfl, rfl, rfl⟩⟩
instance : TFld Tryd.prog 7 3 3 := ⟨⟨_, _, Tryd.underlying7, rfl, rfl, _, (by kernel_rfl : (Tryd.prog.info? 6).map (·.size) = some (0 + 1))⟩⟩
instance : TFlat Tryd.prog 7 [.int .i64 0, .int .i64 0, .bool false, .int .u8 0] := ⟨by kernel_rfl, _, Tryd.underlying7, by kernel_rfl⟩
instance : TZero Tryd.prog 7 (.agg #[.int .i64 0, .int .i64 0, .bool false, .int .u8 0]) := ⟨by kernel_rfl⟩
instance : TStr Tryd.prog 8 4 := ⟨⟨_, Tryd.underlying8⟩, by kernel_rfl⟩
instance : TFldT Tryd.prog 8 0 0 2 := ⟨⟨_, _, Tryd.underlying8, rfl, rfl, rfl⟩⟩
instance : TFld Tryd.prog 8 0 0 := ⟨⟨_, _, Tryd.underlying8, rfl, rfl, _, (by kernel_rfl : (Tryd.prog.info? 2).map (·.size) = some (0 + 1))⟩⟩
instance : TFldT Tryd.prog 8 1 1 3 := ⟨⟨_, _, Tryd.underlying8, rfl, rfl, rfl⟩⟩
instance : TFld Tryd.prog 8 1 1 := ⟨⟨_, _, Tryd.underlying8, rfl, rfl, _, (by kernel_rfl : (Tryd.prog.info? 3).map (·.size) = some (0 + 1))⟩⟩
instance : TFldT Tryd.prog 8 2 2 4 := ⟨⟨_, _, Tryd.underlying8, rfl, rfl, rfl⟩⟩
instance : TFld Tryd.prog 8 2 2 := ⟨⟨_, _, Tryd.underlying8, rfl, rfl, _, (by kernel_rfl : (Tryd.prog.info? 4).map (·.size) = some (0 + 1))⟩⟩
instance : TFldT Tryd.prog 8 3 3 6 := ⟨⟨_, _, Tryd.underlying8, rfl, rfl, rfl⟩⟩
instance : TFld Tryd.prog 8 3 3 := ⟨⟨_, _, Tryd.underlying8, rfl, rfl, _, (by kernel_rfl : (Tryd.prog.info? 6).map (·.size) = some (0 + 1))⟩⟩
instance : TFlat Tryd.prog 8 [.int .i64 0, .int .i64 0, .bool false, .int .u8 0] := ⟨by kernel_rfl, _, Tryd.underlying8, by kernel_rfl⟩
instance : TZero Tryd.prog 8 (.agg #[.int .i64 0, .int .i64 0, .bool false, .int .u8 0]) := ⟨by kernel_rfl⟩
instance : TScal Tryd.prog 9 := ⟨⟨_, Tryd.underlying9, rfl⟩, by kernel_rfl⟩
instance : TStg Tryd.prog 9 := ⟨Tryd.underlying9⟩
instance : TZero Tryd.prog 9 (.string ⟨#[]⟩) := ⟨by kernel_rfl⟩
instance : TScal Tryd.prog 10 := ⟨⟨_, Tryd.underlying10, rfl⟩, by kernel_rfl⟩
instance : TStg Tryd.prog 10 := ⟨Tryd.underlying10⟩
instance : TZero Tryd.prog 10 (.string ⟨#[]⟩) := ⟨by kernel_rfl⟩
instance : TScal Tryd.prog 11 := ⟨⟨_, Tryd.underlying11, rfl⟩, by kernel_rfl⟩
instance : TStg Tryd.prog 11 := ⟨Tryd.underlying11⟩
instance : TZero Tryd.prog 11 (.string ⟨#[]⟩) := ⟨by kernel_rfl⟩
instance : TScal Tryd.prog 12 := ⟨⟨_, Tryd.underlying12, rfl⟩, by kernel_rfl⟩
instance : TInt Tryd.prog 12 .u64 := ⟨Tryd.underlying12⟩
instance : TZero Tryd.prog 12 (.int .u64 0) := ⟨by kernel_rfl⟩
instance : TStr Tryd.prog 13 2 := ⟨⟨_, Tryd.underlying13⟩, by kernel_rfl⟩
instance : TFldT Tryd.prog 13 0 0 9 := ⟨⟨_, _, Tryd.underlying13, rfl, rfl, rfl⟩⟩
instance : TFld Tryd.prog 13 0 0 := ⟨⟨_, _, Tryd.underlying13, rfl, rfl, _, (by kernel_rfl : (Tryd.prog.info? 9).map (·.size) = some (0 + 1))⟩⟩
instance : TFldT Tryd.prog 13 1 1 12 := ⟨⟨_, _, Tryd.underlying13, rfl, rfl, rfl⟩⟩
instance : TFld Tryd.prog 13 1 1 := ⟨⟨_, _, Tryd.underlying13, rfl, rfl, _, (by kernel_rfl : (Tryd.prog.info? 12).map (·.size) = some (0 + 1))⟩⟩
instance : TFlat Tryd.prog 13 [.string ⟨#[]⟩, .int .u64 0] := ⟨by kernel_rfl, _, Tryd.underlying13, by kernel_rfl⟩
instance : TZero Tryd.prog 13 (.agg #[.string ⟨#[]⟩, .int .u64 0]) := ⟨by kernel_rfl⟩
instance : TStr Tryd.prog 14 2 := ⟨⟨_, Tryd.underlying14⟩, by kernel_rfl⟩
instance : TFldT Tryd.prog 14 0 0 9 := ⟨⟨_, _, Tryd.underlying14, rfl, rfl, rfl⟩⟩
instance : TFld Tryd.prog 14 0 0 := ⟨⟨_, _, Tryd.underlying14, rfl, rfl, _, (by kernel_rfl : (Tryd.prog.info? 9).map (·.size) = some (0 + 1))⟩⟩
instance : TFldT Tryd.prog 14 1 1 12 := ⟨⟨_, _, Tryd.underlying14, rfl, rfl, rfl⟩⟩
instance : TFld Tryd.prog 14 1 1 := ⟨⟨_, _, Tryd.underlying14, rfl, rfl, _, (by kernel_rfl : (Tryd.prog.info? 12).map (·.size) = some (0 + 1))⟩⟩
instance : TFlat Tryd.prog 14 [.string ⟨#[]⟩, .int .u64 0] := ⟨by kernel_rfl, _, Tryd.underlying14, by kernel_rfl⟩
instance : TZero Tryd.prog 14 (.agg #[.string ⟨#[]⟩, .int .u64 0]) := ⟨by kernel_rfl⟩
instance : TScal Tryd.prog 15 := ⟨⟨_, Tryd.underlying15, rfl⟩, by kernel_rfl⟩
instance : TScal Tryd.prog 16 := ⟨⟨_, Tryd.underlying16, rfl⟩, by kernel_rfl⟩
instance : TScal Tryd.prog 17 := ⟨⟨_, Tryd.underlying17, rfl⟩, by kernel_rfl⟩
instance : TStr Tryd.prog 18 1 := ⟨⟨_, Tryd.underlying18⟩, by kernel_rfl⟩
instance : TFldT Tryd.prog 18 0 0 17 := ⟨⟨_, _, Tryd.underlying18, rfl, rfl, rfl⟩⟩
instance : TFld Tryd.prog 18 0 0 := ⟨⟨_, _, Tryd.underlying18, rfl, rfl, _, (by kernel_rfl : (Tryd.prog.info? 17).map (·.size) = some (0 + 1))⟩⟩
instance : TFlat Tryd.prog 18 [.pointer none] := ⟨by kernel_rfl, _, Tryd.underlying18, by kernel_rfl⟩
instance : TZero Tryd.prog 18 (.agg #[.pointer none]) := ⟨by kernel_rfl⟩
instance : TStr Tryd.prog 19 1 := ⟨⟨_, Tryd.underlying19⟩, by kernel_rfl⟩
instance : TFldT Tryd.prog 19 0 0 17 := ⟨⟨_, _, Tryd.underlying19, rfl, rfl, rfl⟩⟩
instance : TFld Tryd.prog 19 0 0 := ⟨⟨_, _, Tryd.underlying19, rfl, rfl, _, (by kernel_rfl : (Tryd.prog.info? 17).map (·.size) = some (0 + 1))⟩⟩
instance : TFlat Tryd.prog 19 [.pointer none] := ⟨by kernel_rfl, _, Tryd.underlying19, by kernel_rfl⟩
instance : TZero Tryd.prog 19 (.agg #[.pointer none]) := ⟨by kernel_rfl⟩
instance : TScal Tryd.prog 20 := ⟨⟨_, Tryd.underlying20, rfl⟩, by kernel_rfl⟩
instance : TScal Tryd.prog 21 := ⟨⟨_, Tryd.underlying21, rfl⟩, by kernel_rfl⟩
instance : TInt Tryd.prog 21 .i32 := ⟨Tryd.underlying21⟩
instance : TZero Tryd.prog 21 (.int .i32 0) := ⟨by kernel_rfl⟩
instance : TScal Tryd.prog 22 := ⟨⟨_, Tryd.underlying22, rfl⟩, by kernel_rfl⟩
instance : TZero Tryd.prog 22 (.slice none 0 0) := ⟨by kernel_rfl⟩
instance : TSvE Tryd.prog 22 := ⟨trivial⟩
instance : TSli Tryd.prog 22 77 1 24 := ⟨Tryd.underlying22, by kernel_rfl, by kernel_rfl, by kernel_rfl, zlen_of (z := .agg #[.slice none 0 0]) (by kernel_rfl) rfl⟩
instance : TStr Tryd.prog 23 2 := ⟨⟨_, Tryd.underlying23⟩, by kernel_rfl⟩
instance : TFldT Tryd.prog 23 0 0 2 := ⟨⟨_, _, Tryd.underlying23, rfl, rfl, rfl⟩⟩
instance : TFld Tryd.prog 23 0 0 := ⟨⟨_, _, Tryd.underlying23, rfl, rfl, _, (by kernel_rfl : (Tryd.prog.info? 2).map (·.size) = some (0 + 1))⟩⟩
instance : TFldT Tryd.prog 23 1 1 2 := ⟨⟨_, _, Tryd.underlying23, rfl, rfl, rfl⟩⟩
instance : TFld Tryd.prog 23 1 1 := ⟨⟨_, _, Tryd.underlying23, rfl, rfl, _, (by kernel_rfl : (Tryd.prog.info? 2).map (·.size) = some (0 + 1))⟩⟩
instance : TFlat Tryd.prog 23 [.int .i64 0, .int .i64 0] := ⟨by kernel_rfl, _, Tryd.underlying23, by kernel_rfl⟩
instance : TZero Tryd.prog 23 (.agg #[.int .i64 0, .int .i64 0]) := ⟨by kernel_rfl⟩
instance : TPair Tryd.prog 24 := ⟨by kernel_rfl, by kernel_rfl, _, _, Tryd.underlying24, by decide, by decide, rfl, rfl, Tryd.underlying2, Tryd.underlying2⟩
instance : TStr Tryd.prog 24 2 := ⟨⟨_, Tryd.underlying24⟩, by kernel_rfl⟩
instance : TFldT Tryd.prog 24 0 0 2 := ⟨⟨_, _, Tryd.underlying24, rfl, rfl, rfl⟩⟩
instance : TFld Tryd.prog 24 0 0 := ⟨⟨_, _, Tryd.underlying24, rfl, rfl, _, (by kernel_rfl : (Tryd.prog.info? 2).map (·.size) = some (0 + 1))⟩⟩
instance : TFldT Tryd.prog 24 1 1 2 := ⟨⟨_, _, Tryd.underlying24, rfl, rfl, rfl⟩⟩
instance : TFld Tryd.prog 24 1 1 := ⟨⟨_, _, Tryd.underlying24, rfl, rfl, _, (by kernel_rfl : (Tryd.prog.info? 2).map (·.size) = some (0 + 1))⟩⟩
instance : TFlat Tryd.prog 24 [.int .i64 0, .int .i64 0] := ⟨by kernel_rfl, _, Tryd.underlying24, by kernel_rfl⟩
instance : TZero Tryd.prog 24 (.agg #[.int .i64 0, .int .i64 0]) := ⟨by kernel_rfl⟩
instance : TScal Tryd.prog 25 := ⟨⟨_, Tryd.underlying25, rfl⟩, by kernel_rfl⟩
instance : TScal Tryd.prog 26 := ⟨⟨_, Tryd.underlying26, rfl⟩, by kernel_rfl⟩
instance : TZero Tryd.prog 26 (.slice none 0 0) := ⟨by kernel_rfl⟩
instance : TSvE Tryd.prog 26 := ⟨trivial⟩
instance : TSli Tryd.prog 26 85 1 24 := ⟨Tryd.underlying26, by kernel_rfl, by kernel_rfl, by kernel_rfl, zlen_of (z := .agg #[.slice none 0 0]) (by kernel_rfl) rfl⟩
instance : TScal Tryd.prog 28 := ⟨⟨_, Tryd.underlying28, rfl⟩, by kernel_rfl⟩
instance : TScal Tryd.prog 29 := ⟨⟨_, Tryd.underlying29, rfl⟩, by kernel_rfl⟩
instance : TPair Tryd.prog 30 := ⟨by kernel_rfl, by kernel_rfl, _, _, Tryd.underlying30, by decide, by decide, rfl, rfl, Tryd.underlying2, Tryd.underlying2⟩
instance : TStr Tryd.prog 30 2 := ⟨⟨_, Tryd.underlying30⟩, by kernel_rfl⟩
instance : TFldT Tryd.prog 30 0 0 2 := ⟨⟨_, _, Tryd.underlying30, rfl, rfl, rfl⟩⟩
instance : TFld Tryd.prog 30 0 0 := ⟨⟨_, _, Tryd.underlying30, rfl, rfl, _, (by kernel_rfl : (Tryd.prog.info? 2).map (·.size) = some (0 + 1))⟩⟩
instance : TFldT Tryd.prog 30 1 1 2 := ⟨⟨_, _, Tryd.underlying30, rfl, rfl, rfl⟩⟩
instance : TFld Tryd.prog 30 1 1 := ⟨⟨_, _, Tryd.underlying30, rfl, rfl, _, (by kernel_rfl : (Tryd.prog.info? 2).map (·.size) = some (0 + 1))⟩⟩
instance : TFlat Tryd.prog 30 [.int .i64 0, .int .i64 0] := ⟨by kernel_rfl, _, Tryd.underlying30, by kernel_rfl⟩
instance : TZero Tryd.prog 30 (.agg #[.int .i64 0, .int .i64 0]) := ⟨by kernel_rfl⟩
instance : TScal Tryd.prog 31 := ⟨⟨_, Tryd.underlying31, rfl⟩, by kernel_rfl⟩
instance : TScal Tryd.prog 32 := ⟨⟨_, Tryd.underlying32, rfl⟩, by kernel_rfl⟩
instance : TScal Tryd.prog 33 := ⟨⟨_, Tryd.underlying33, rfl⟩, by kernel_rfl⟩
instance : TScal Tryd.prog 34 := ⟨⟨_, Tryd.underlying34, rfl⟩, by kernel_rfl⟩
instance : TScal Tryd.prog 35 := ⟨⟨_, Tryd.underlying35, rfl⟩, by kernel_rfl⟩
instance : TZero Tryd.prog 35 (.slice none 0 0) := ⟨by kernel_rfl⟩
instance : TSvE Tryd.prog 35 := ⟨trivial⟩
instance : TSli Tryd.prog 35 98 2 16 := ⟨Tryd.underlying35, by kernel_rfl, by kernel_rfl, by kernel_rfl, zlen_of (z := .agg #[.int .i64 0, .int .i64 0]) (by kernel_rfl) rfl⟩
instance : TScal Tryd.prog 37 := ⟨⟨_, Tryd.underlying37, rfl⟩, by kernel_rfl⟩
instance : TScal Tryd.prog 38 := ⟨⟨_, Tryd.underlying38, rfl⟩, by kernel_rfl⟩
instance : TScal Tryd.prog 39 := ⟨⟨_, Tryd.underlying39, rfl⟩, by kernel_rfl⟩
instance : TScal Tryd.prog 40 := ⟨⟨_, Tryd.underlying40, rfl⟩, by kernel_rfl⟩
instance : TScal Tryd.prog 41 := ⟨⟨_, Tryd.underlying41, rfl⟩, by kernel_rfl⟩
instance : TZero Tryd.prog 41 (.slice none 0 0) := ⟨by kernel_rfl⟩
instance : TSvE Tryd.prog 41 := ⟨trivial⟩
instance : TSli Tryd.prog 41 5 1 1 := ⟨Tryd.underlying41, by kernel_rfl, by kernel_rfl, by kernel_rfl, zlen_of (z := .int .u8 0) (by kernel_rfl) rfl⟩
instance : TScal Tryd.prog 42 := ⟨⟨_, Tryd.underlying42, rfl⟩, by kernel_rfl⟩
instance : TScal Tryd.prog 44 := ⟨⟨_, Tryd.underlying44, rfl⟩, by kernel_rfl⟩
instance : TScal Tryd.prog 46 := ⟨⟨_, Tryd.underlying46, rfl⟩, by kernel_rfl⟩
instance : TScal Tryd.prog 48 := ⟨⟨_, Tryd.underlying48, rfl⟩, by kernel_rfl⟩
instance : TScal Tryd.prog 49 := ⟨⟨_, Tryd.underlying49, rfl⟩, by kernel_rfl⟩
instance : TScal Tryd.prog 50 := ⟨⟨_, Tryd.underlying50, rfl⟩, by kernel_rfl⟩
instance : TScal Tryd.prog 51 := ⟨⟨_, Tryd.underlying51, rfl⟩, by kernel_rfl⟩
instance : TScal Tryd.prog 52 := ⟨⟨_, Tryd.underlying52, rfl⟩, by kernel_rfl⟩
instance : TScal Tryd.prog 53 := ⟨⟨_, Tryd.underlying53, rfl⟩, by kernel_rfl⟩
instance : TScal Tryd.prog 54 := ⟨⟨_, Tryd.underlying54, rfl⟩, by kernel_rfl⟩
instance : TScal Tryd.prog 55 := ⟨⟨_, Tryd.underlying55, rfl⟩, by kernel_rfl⟩
instance : TZero Tryd.prog 55 (.slice none 0 0) := ⟨by kernel_rfl⟩
instance : TSvE Tryd.prog 55 := ⟨trivial⟩
instance : TSli Tryd.prog 55 2 1 8 := ⟨Tryd.underlying55, by kernel_rfl, by kernel_rfl, by kernel_rfl, zlen_of (z := .int .i64 0) (by kernel_rfl) rfl⟩
instance : TStr Tryd.prog 56 1 := ⟨⟨_, Tryd.underlying56⟩, by kernel_rfl⟩
instance : TFldT Tryd.prog 56 0 0 55 := ⟨⟨_, _, Tryd.underlying56, rfl, rfl, rfl⟩⟩
instance : TFld Tryd.prog 56 0 0 := ⟨⟨_, _, Tryd.underlying56, rfl, rfl, _, (by kernel_rfl : (Tryd.prog.info? 55).map (·.size) = some (0 + 1))⟩⟩
instance : TFlat Tryd.prog 56 [.slice none 0 0] := ⟨by kernel_rfl, _, Tryd.underlying56, by kernel_rfl⟩
instance : TZero Tryd.prog 56 (.agg #[.slice none 0 0]) := ⟨by kernel_rfl⟩
instance : TSvE Tryd.prog 56 := ⟨trivial⟩
instance : TStr Tryd.prog 57 1 := ⟨⟨_, Tryd.underlying57⟩, by kernel_rfl⟩
instance : TFldT Tryd.prog 57 0 0 55 := ⟨⟨_, _, Tryd.underlying57, rfl, rfl, rfl⟩⟩
instance : TFld Tryd.prog 57 0 0 := ⟨⟨_, _, Tryd.underlying57, rfl, rfl, _, (by kernel_rfl : (Tryd.prog.info? 55).map (·.size) = some (0 + 1))⟩⟩
instance : TFlat Tryd.prog 57 [.slice none 0 0] := ⟨by kernel_rfl, _, Tryd.underlying57, by kernel_rfl⟩
instance : TZero Tryd.prog 57 (.agg #[.slice none 0 0]) := ⟨by kernel_rfl⟩
instance : TSvE Tryd.prog 57 := ⟨trivial⟩
instance : TScal Tryd.prog 59 := ⟨⟨_, Tryd.underlying59, rfl⟩, by kernel_rfl⟩
instance : TScal Tryd.prog 61 := ⟨⟨_, Tryd.underlying61, rfl⟩, by kernel_rfl⟩
instance : TScal Tryd.prog 62 := ⟨⟨_, Tryd.underlying62, rfl⟩, by kernel_rfl⟩
instance : TScal Tryd.prog 63 := ⟨⟨_, Tryd.underlying63, rfl⟩, by kernel_rfl⟩
instance : TScal Tryd.prog 64 := ⟨⟨_, Tryd.underlying64, rfl⟩, by kernel_rfl⟩
instance : TScal Tryd.prog 65 := ⟨⟨_, Tryd.underlying65, rfl⟩, by kernel_rfl⟩
instance : TScal Tryd.prog 66 := ⟨⟨_, Tryd.underlying66, rfl⟩, by kernel_rfl⟩
instance : TScal Tryd.prog 68 := ⟨⟨_, Tryd.underlying68, rfl⟩, by kernel_rfl⟩
instance : TScal Tryd.prog 69 := ⟨⟨_, Tryd.underlying69, rfl⟩, by kernel_rfl⟩
instance : TScal Tryd.prog 71 := ⟨⟨_, Tryd.underlying71, rfl⟩, by kernel_rfl⟩
instance : TScal Tryd.prog 72 := ⟨⟨_, Tryd.underlying72, rfl⟩, by kernel_rfl⟩
instance : TScal Tryd.prog 73 := ⟨⟨_, Tryd.underlying73, rfl⟩, by kernel_rfl⟩
instance : TScal Tryd.prog 74 := ⟨⟨_, Tryd.underlying74, rfl⟩, by kernel_rfl⟩
instance : TScal Tryd.prog 75 := ⟨⟨_, Tryd.underlying75, rfl⟩, by kernel_rfl⟩
instance : TStr Tryd.prog 76 1 := ⟨⟨_, Tryd.underlying76⟩, by kernel_rfl⟩
instance : TFldT Tryd.prog 76 0 0 55 := ⟨⟨_, _, Tryd.underlying76, rfl, rfl, rfl⟩⟩
instance : TFld Tryd.prog 76 0 0 := ⟨⟨_, _, Tryd.underlying76, rfl, rfl, _, (by kernel_rfl : (Tryd.prog.info? 55).map (·.size) = some (0 + 1))⟩⟩
instance : TFlat Tryd.prog 76 [.slice none 0 0] := ⟨by kernel_rfl, _, Tryd.underlying76, by kernel_rfl⟩
instance : TZero Tryd.prog 76 (.agg #[.slice none 0 0]) := ⟨by kernel_rfl⟩
instance : TSvE Tryd.prog 76 := ⟨trivial⟩
instance : TStr Tryd.prog 77 1 := ⟨⟨_, Tryd.underlying77⟩, by kernel_rfl⟩
instance : TFldT Tryd.prog 77 0 0 55 := ⟨⟨_, _, Tryd.underlying77, rfl, rfl, rfl⟩⟩
instance : TFld Tryd.prog 77 0 0 := ⟨⟨_, _, Tryd.underlying77, rfl, rfl, _, (by kernel_rfl : (Tryd.prog.info? 55).map (·.size) = some (0 + 1))⟩⟩
instance : TFlat Tryd.prog 77 [.slice none 0 0] := ⟨by kernel_rfl, _, Tryd.underlying77, by kernel_rfl⟩
instance : TZero Tryd.prog 77 (.agg #[.slice none 0 0]) := ⟨by kernel_rfl⟩
instance : TSvE Tryd.prog 77 := ⟨trivial⟩
instance : TScal Tryd.prog 78 := ⟨⟨_, Tryd.underlying78, rfl⟩, by kernel_rfl⟩
instance : TScal Tryd.prog 79 := ⟨⟨_, Tryd.underlying79, rfl⟩, by kernel_rfl⟩
instance : TScal Tryd.prog 80 := ⟨⟨_, Tryd.underlying80, rfl⟩, by kernel_rfl⟩
instance : TScal Tryd.prog 81 := ⟨⟨_, Tryd.underlying81, rfl⟩, by kernel_rfl⟩
instance : TScal Tryd.prog 82 := ⟨⟨_, Tryd.underlying82, rfl⟩, by kernel_rfl⟩
instance : TScal Tryd.prog 84 := ⟨⟨_, Tryd.underlying84, rfl⟩, by kernel_rfl⟩
instance : TStr Tryd.prog 85 1 := ⟨⟨_, Tryd.underlying85⟩, by kernel_rfl⟩
instance : TFldT Tryd.prog 85 0 0 55 := ⟨⟨_, _, Tryd.underlying85, rfl, rfl, rfl⟩⟩
instance : TFld Tryd.prog 85 0 0 := ⟨⟨_, _, Tryd.underlying85, rfl, rfl, _, (by kernel_rfl : (Tryd.prog.info? 55).map (·.size) = some (0 + 1))⟩⟩
instance : TFlat Tryd.prog 85 [.slice none 0 0] := ⟨by kernel_rfl, _, Tryd.underlying85, by kernel_rfl⟩
instance : TZero Tryd.prog 85 (.agg #[.slice none 0 0]) := ⟨by kernel_rfl⟩
instance : TSvE Tryd.prog 85 := ⟨trivial⟩
instance : TScal Tryd.prog 86 := ⟨⟨_, Tryd.underlying86, rfl⟩, by kernel_rfl⟩
instance : TScal Tryd.prog 87 := ⟨⟨_, Tryd.underlying87, rfl⟩, by kernel_rfl⟩
instance : TScal Tryd.prog 88 := ⟨⟨_, Tryd.underlying88, rfl⟩, by kernel_rfl⟩
instance : TScal Tryd.prog 89 := ⟨⟨_, Tryd.underlying89, rfl⟩, by kernel_rfl⟩
instance : TScal Tryd.prog 90 := ⟨⟨_, Tryd.underlying90, rfl⟩, by kernel_rfl⟩
instance : TScal Tryd.prog 91 := ⟨⟨_, Tryd.underlying91, rfl⟩, by kernel_rfl⟩
instance : TScal Tryd.prog 92 := ⟨⟨_, Tryd.underlying92, rfl⟩, by kernel_rfl⟩
instance : TScal Tryd.prog 93 := ⟨⟨_, Tryd.underlying93, rfl⟩, by kernel_rfl⟩
instance : TScal Tryd.prog 94 := ⟨⟨_, Tryd.underlying94, rfl⟩, by kernel_rfl⟩
instance : TZero Tryd.prog 94 (.slice none 0 0) := ⟨by kernel_rfl⟩
instance : TSvE Tryd.prog 94 := ⟨trivial⟩
instance : TSli Tryd.prog 94 9 1 16 := ⟨Tryd.underlying94, by kernel_rfl, by kernel_rfl, by kernel_rfl, zlen_of (z := .string ⟨#[]⟩) (by kernel_rfl) rfl⟩
instance : TScal Tryd.prog 95 := ⟨⟨_, Tryd.underlying95, rfl⟩, by kernel_rfl⟩
instance : TScal Tryd.prog 97 := ⟨⟨_, Tryd.underlying97, rfl⟩, by kernel_rfl⟩
instance : TPair Tryd.prog 98 := ⟨by kernel_rfl, by kernel_rfl, _, _, Tryd.underlying98, by decide, by decide, rfl, rfl, Tryd.underlying2, Tryd.underlying2⟩
instance : TStr Tryd.prog 98 2 := ⟨⟨_, Tryd.underlying98⟩, by kernel_rfl⟩
instance : TFldT Tryd.prog 98 0 0 2 := ⟨⟨_, _, Tryd.underlying98, rfl, rfl, rfl⟩⟩
instance : TFld Tryd.prog 98 0 0 := ⟨⟨_, _, Tryd.underlying98, rfl, rfl, _, (by kernel_rfl : (Tryd.prog.info? 2).map (·.size) = some (0 + 1))⟩⟩
instance : TFldT Tryd.prog 98 1 1 2 := ⟨⟨_, _, Tryd.underlying98, rfl, rfl, rfl⟩⟩
instance : TFld Tryd.prog 98 1 1 := ⟨⟨_, _, Tryd.underlying98, rfl, rfl, _, (by kernel_rfl : (Tryd.prog.info? 2).map (·.size) = some (0 + 1))⟩⟩
instance : TFlat Tryd.prog 98 [.int .i64 0, .int .i64 0] := ⟨by kernel_rfl, _, Tryd.underlying98, by kernel_rfl⟩
instance : TZero Tryd.prog 98 (.agg #[.int .i64 0, .int .i64 0]) := ⟨by kernel_rfl⟩
instance : TScal Tryd.prog 99 := ⟨⟨_, Tryd.underlying99, rfl⟩, by kernel_rfl⟩
instance : TScal Tryd.prog 100 := ⟨⟨_, Tryd.underlying100, rfl⟩, by kernel_rfl⟩
instance : TScal Tryd.prog 102 := ⟨⟨_, Tryd.underlying102, rfl⟩, by kernel_rfl⟩
instance : TScal Tryd.prog 103 := ⟨⟨_, Tryd.underlying103, rfl⟩, by kernel_rfl⟩
instance : TScal Tryd.prog 104 := ⟨⟨_, Tryd.underlying104, rfl⟩, by kernel_rfl⟩
instance : TScal Tryd.prog 105 := ⟨⟨_, Tryd.underlying105, rfl⟩, by kernel_rfl⟩
instance : TScal Tryd.prog 106 := ⟨⟨_, Tryd.underlying106, rfl⟩, by kernel_rfl⟩
instance : TScal Tryd.prog 107 := ⟨⟨_, Tryd.underlying107, rfl⟩, by kernel_rfl⟩
instance : TScal Tryd.prog 108 := ⟨⟨_, Tryd.underlying108, rfl⟩, by kernel_rfl⟩
instance : TScal Tryd.prog 109 := ⟨⟨_, Tryd.underlying109, rfl⟩, by kernel_rfl⟩
instance : TArr Tryd.prog 110 5 9 := ⟨Tryd.underlying110⟩
instance : TZero Tryd.prog 110 (.agg #[.string ⟨#[]⟩, .string ⟨#[]⟩, .string ⟨#[]⟩, .string ⟨#[]⟩, .string ⟨#[]⟩]) := ⟨by kernel_rfl⟩
instance : TScal Tryd.prog 111 := ⟨⟨_, Tryd.underlying111, rfl⟩, by kernel_rfl⟩
instance : TScal Tryd.prog 113 := ⟨⟨_, Tryd.underlying113, rfl⟩, by kernel_rfl⟩
instance : TScal Tryd.prog 114 := ⟨⟨_, Tryd.underlying114, rfl⟩, by kernel_rfl⟩
instance : TScal Tryd.prog 115 := ⟨⟨_, Tryd.underlying115, rfl⟩, by kernel_rfl⟩
instance : TScal Tryd.prog 116 := ⟨⟨_, Tryd.underlying116, rfl⟩, by kernel_rfl⟩
instance : TScal Tryd.prog 117 := ⟨⟨_, Tryd.underlying117, rfl⟩, by kernel_rfl⟩
instance : TScal Tryd.prog 118 := ⟨⟨_, Tryd.underlying118, rfl⟩, by kernel_rfl⟩
instance : TScal Tryd.prog 119 := ⟨⟨_, Tryd.underlying119, rfl⟩, by kernel_rfl⟩
instance : TScal Tryd.prog 120 := ⟨⟨_, Tryd.underlying120, rfl⟩, by kernel_rfl⟩
instance : TScal Tryd.prog 121 := ⟨⟨_, Tryd.underlying121, rfl⟩, by kernel_rfl⟩
instance : TScal Tryd.prog 122 := ⟨⟨_, Tryd.underlying122, rfl⟩, by kernel_rfl⟩
instance : TScal Tryd.prog 123 := ⟨⟨_, Tryd.underlying123, rfl⟩, by kernel_rfl⟩
instance : TScal Tryd.prog 124 := ⟨⟨_, Tryd.underlying124, rfl⟩, by kernel_rfl⟩
instance : TScal Tryd.prog 125 := ⟨⟨_, Tryd.underlying125, rfl⟩, by kernel_rfl⟩
instance : TScal Tryd.prog 126 := ⟨⟨_, Tryd.underlying126, rfl⟩, by kernel_rfl⟩
instance : TScal Tryd.prog 127 := ⟨⟨_, Tryd.underlying127, rfl⟩, by kernel_rfl⟩
instance : TScal Tryd.prog 128 := ⟨⟨_, Tryd.underlying128, rfl⟩, by kernel_rfl⟩
instance : TScal Tryd.prog 129 := ⟨⟨_, Tryd.underlying129, rfl⟩, by kernel_rfl⟩
instance : TScal Tryd.prog 130 := ⟨⟨_, Tryd.underlying130, rfl⟩, by kernel_rfl⟩
instance : TScal Tryd.prog 131 := ⟨⟨_, Tryd.underlying131, rfl⟩, by kernel_rfl⟩
instance : TScal Tryd.prog 132 := ⟨⟨_, Tryd.underlying132, rfl⟩, by kernel_rfl⟩
instance : TScal Tryd.prog 133 := ⟨⟨_, Tryd.underlying133, rfl⟩, by kernel_rfl⟩
instance : TScal Tryd.prog 134 := ⟨⟨_, Tryd.underlying134, rfl⟩, by kernel_rfl⟩
instance : TScal Tryd.prog 135 := ⟨⟨_, Tryd.underlying135, rfl⟩, by kernel_rfl⟩
instance : TScal Tryd.prog 136 := ⟨⟨_, Tryd.underlying136, rfl⟩, by kernel_rfl⟩
instance : TScal Tryd.prog 137 := ⟨⟨_, Tryd.underlying137, rfl⟩, by kernel_rfl⟩
instance : TScal Tryd.prog 138 := ⟨⟨_, Tryd.underlying138, rfl⟩, by kernel_rfl⟩
instance : TScal Tryd.prog 140 := ⟨⟨_, Tryd.underlying140, rfl⟩, by kernel_rfl⟩
instance : TScal Tryd.prog 141 := ⟨⟨_, Tryd.underlying141, rfl⟩, by kernel_rfl⟩
instance : TScal Tryd.prog 142 := ⟨⟨_, Tryd.underlying142, rfl⟩, by kernel_rfl⟩
instance : TScal Tryd.prog 143 := ⟨⟨_, Tryd.underlying143, rfl⟩, by kernel_rfl⟩
instance : TInt Tryd.prog 143 .u64 := ⟨Tryd.underlying143⟩
instance : TZero Tryd.prog 143 (.int .u64 0) := ⟨by kernel_rfl⟩
instance : TStr Tryd.prog 144 3 := ⟨⟨_, Tryd.underlying144⟩, by kernel_rfl⟩
instance : TFldT Tryd.prog 144 0 0 41 := ⟨⟨_, _, Tryd.underlying144, rfl, rfl, rfl⟩⟩
instance : TFld Tryd.prog 144 0 0 := ⟨⟨_, _, Tryd.underlying144, rfl, rfl, _, (by kernel_rfl : (Tryd.prog.info? 41).map (·.size) = some (0 + 1))⟩⟩
instance : TFldT Tryd.prog 144 1 1 3 := ⟨⟨_, _, Tryd.underlying144, rfl, rfl, rfl⟩⟩
instance : TFld Tryd.prog 144 1 1 := ⟨⟨_, _, Tryd.underlying144, rfl, rfl, _, (by kernel_rfl : (Tryd.prog.info? 3).map (·.size) = some (0 + 1))⟩⟩
instance : TFldT Tryd.prog 144 2 2 143 := ⟨⟨_, _, Tryd.underlying144, rfl, rfl, rfl⟩⟩
instance : TFld Tryd.prog 144 2 2 := ⟨⟨_, _, Tryd.underlying144, rfl, rfl, _, (by kernel_rfl : (Tryd.prog.info? 143).map (·.size) = some (0 + 1))⟩⟩
instance : TFlat Tryd.prog 144 [.slice none 0 0, .int .i64 0, .int .u64 0] := ⟨by kernel_rfl, _, Tryd.underlying144, by kernel_rfl⟩
instance : TZero Tryd.prog 144 (.agg #[.slice none 0 0, .int .i64 0, .int .u64 0]) := ⟨by kernel_rfl⟩
instance : TStr Tryd.prog 145 3 := ⟨⟨_, Tryd.underlying145⟩, by kernel_rfl⟩
instance : TFldT Tryd.prog 145 0 0 41 := ⟨⟨_, _, Tryd.underlying145, rfl, rfl, rfl⟩⟩
instance : TFld Tryd.prog 145 0 0 := ⟨⟨_, _, Tryd.underlying145, rfl, rfl, _, (by kernel_rfl : (Tryd.prog.info? 41).map (·.size) = some (0 + 1))⟩⟩
instance : TFldT Tryd.prog 145 1 1 3 := ⟨⟨_, _, Tryd.underlying145, rfl, rfl, rfl⟩⟩
instance : TFld Tryd.prog 145 1 1 := ⟨⟨_, _, Tryd.underlying145, rfl, rfl, _, (by kernel_rfl : (Tryd.prog.info? 3).map (·.size) = some (0 + 1))⟩⟩
instance : TFldT Tryd.prog 145 2 2 143 := ⟨⟨_, _, Tryd.underlying145, rfl, rfl, rfl⟩⟩
instance : TFld Tryd.prog 145 2 2 := ⟨⟨_, _, Tryd.underlying145, rfl, rfl, _, (by kernel_rfl : (Tryd.prog.info? 143).map (·.size) = some (0 + 1))⟩⟩
instance : TFlat Tryd.prog 145 [.slice none 0 0, .int .i64 0, .int .u64 0] := ⟨by kernel_rfl, _, Tryd.underlying145, by kernel_rfl⟩
instance : TZero Tryd.prog 145 (.agg #[.slice none 0 0, .int .i64 0, .int .u64 0]) := ⟨by kernel_rfl⟩
instance : TScal Tryd.prog 146 := ⟨⟨_, Tryd.underlying146, rfl⟩, by kernel_rfl⟩
instance : TScal Tryd.prog 147 := ⟨⟨_, Tryd.underlying147, rfl⟩, by kernel_rfl⟩
instance : TInt Tryd.prog 147 .u64 := ⟨Tryd.underlying147⟩
instance : TZero Tryd.prog 147 (.int .u64 0) := ⟨by kernel_rfl⟩
instance : TScal Tryd.prog 148 := ⟨⟨_, Tryd.underlying148, rfl⟩, by kernel_rfl⟩
instance : TScal Tryd.prog 149 := ⟨⟨_, Tryd.underlying149, rfl⟩, by kernel_rfl⟩
instance : TScal Tryd.prog 150 := ⟨⟨_, Tryd.underlying150, rfl⟩, by kernel_rfl⟩
instance : TScal Tryd.prog 151 := ⟨⟨_, Tryd.underlying151, rfl⟩, by kernel_rfl⟩
instance : TScal Tryd.prog 152 := ⟨⟨_, Tryd.underlying152, rfl⟩, by kernel_rfl⟩
instance : TStr Tryd.prog 153 2 := ⟨⟨_, Tryd.underlying153⟩, by kernel_rfl⟩
instance : TFldT Tryd.prog 153 0 0 152 := ⟨⟨_, _, Tryd.underlying153, rfl, rfl, rfl⟩⟩
instance : TFld Tryd.prog 153 0 0 := ⟨⟨_, _, Tryd.underlying153, rfl, rfl, _, (by kernel_rfl : (Tryd.prog.info? 152).map (·.size) = some (0 + 1))⟩⟩
instance : TFldT Tryd.prog 153 1 1 41 := ⟨⟨_, _, Tryd.underlying153, rfl, rfl, rfl⟩⟩
instance : TFld Tryd.prog 153 1 1 := ⟨⟨_, _, Tryd.underlying153, rfl, rfl, _, (by kernel_rfl : (Tryd.prog.info? 41).map (·.size) = some (0 + 1))⟩⟩
instance : TFlat Tryd.prog 153 [.pointer none, .slice none 0 0] := ⟨by kernel_rfl, _, Tryd.underlying153, by kernel_rfl⟩
instance : TZero Tryd.prog 153 (.agg #[.pointer none, .slice none 0 0]) := ⟨by kernel_rfl⟩
instance : TStr Tryd.prog 154 2 := ⟨⟨_, Tryd.underlying154⟩, by kernel_rfl⟩
instance : TFldT Tryd.prog 154 0 0 152 := ⟨⟨_, _, Tryd.underlying154, rfl, rfl, rfl⟩⟩
instance : TFld Tryd.prog 154 0 0 := ⟨⟨_, _, Tryd.underlying154, rfl, rfl, _, (by kernel_rfl : (Tryd.prog.info? 152).map (·.size) = some (0 + 1))⟩⟩
instance : TFldT Tryd.prog 154 1 1 41 := ⟨⟨_, _, Tryd.underlying154, rfl, rfl, rfl⟩⟩
instance : TFld Tryd.prog 154 1 1 := ⟨⟨_, _, Tryd.underlying154, rfl, rfl, _, (by kernel_rfl : (Tryd.prog.info? 41).map (·.size) = some (0 + 1))⟩⟩
instance : TFlat Tryd.prog 154 [.pointer none, .slice none 0 0] := ⟨by kernel_rfl, _, Tryd.underlying154, by kernel_rfl⟩
instance : TZero Tryd.prog 154 (.agg #[.pointer none, .slice none 0 0]) := ⟨by kernel_rfl⟩
instance : TScal Tryd.prog 155 := ⟨⟨_, Tryd.underlying155, rfl⟩, by kernel_rfl⟩
instance : TScal Tryd.prog 157 := ⟨⟨_, Tryd.underlying157, rfl⟩, by kernel_rfl⟩
instance : TScal Tryd.prog 158 := ⟨⟨_, Tryd.underlying158, rfl⟩, by kernel_rfl⟩
instance : TScal Tryd.prog 159 := ⟨⟨_, Tryd.underlying159, rfl⟩, by kernel_rfl⟩
instance : TScal Tryd.prog 161 := ⟨⟨_, Tryd.underlying161, rfl⟩, by kernel_rfl⟩
instance : TScal Tryd.prog 162 := ⟨⟨_, Tryd.underlying162, rfl⟩, by kernel_rfl⟩
instance : TScal Tryd.prog 163 := ⟨⟨_, Tryd.underlying163, rfl⟩, by kernel_rfl⟩
instance : TScal Tryd.prog 164 := ⟨⟨_, Tryd.underlying164, rfl⟩, by kernel_rfl⟩
instance : TInt Tryd.prog 164 .i64 := ⟨Tryd.underlying164⟩
instance : TZero Tryd.prog 164 (.int .i64 0) := ⟨by kernel_rfl⟩
instance : TScal Tryd.prog 166 := ⟨⟨_, Tryd.underlying166, rfl⟩, by kernel_rfl⟩
instance : TScal Tryd.prog 167 := ⟨⟨_, Tryd.underlying167, rfl⟩, by kernel_rfl⟩
instance : TScal Tryd.prog 168 := ⟨⟨_, Tryd.underlying168, rfl⟩, by kernel_rfl⟩
instance : TScal Tryd.prog 169 := ⟨⟨_, Tryd.underlying169, rfl⟩, by kernel_rfl⟩
instance : TScal Tryd.prog 170 := ⟨⟨_, Tryd.underlying170, rfl⟩, by kernel_rfl⟩
instance : TScal Tryd.prog 171 := ⟨⟨_, Tryd.underlying171, rfl⟩, by kernel_rfl⟩
instance : TScal Tryd.prog 172 := ⟨⟨_, Tryd.underlying172, rfl⟩, by kernel_rfl⟩
instance : TArr Tryd.prog 173 24 5 := ⟨Tryd.underlying173⟩
instance : TZero Tryd.prog 173 (.agg #[.int .u8 0, .int .u8 0, .int .u8 0, .int .u8 0, .int .u8 0, .int .u8 0, .int .u8 0, .int .u8 0, .int .u8 0, .int .u8 0, .int .u8 0, .int .u8 0, .int .u8 0, .int .u8 0, .int .u8 0, .int .u8 0, .int .u8 0, .int .u8 0, .int .u8 0, .int .u8 0, .int .u8 0, .int .u8 0, .int .u8 0, .int .u8 0]) := ⟨by kernel_rfl⟩
instance : TScal Tryd.prog 174 := ⟨⟨_, Tryd.underlying174, rfl⟩, by kernel_rfl⟩
instance : TScal Tryd.prog 175 := ⟨⟨_, Tryd.underlying175, rfl⟩, by kernel_rfl⟩
instance : TScal Tryd.prog 177 := ⟨⟨_, Tryd.underlying177, rfl⟩, by kernel_rfl⟩
instance : TScal Tryd.prog 178 := ⟨⟨_, Tryd.underlying178, rfl⟩, by kernel_rfl⟩
instance : TInt Tryd.prog 178 .u32 := ⟨Tryd.underlying178⟩
instance : TZero Tryd.prog 178 (.int .u32 0) := ⟨by kernel_rfl⟩
instance : TScal Tryd.prog 180 := ⟨⟨_, Tryd.underlying180, rfl⟩, by kernel_rfl⟩
instance : TScal Tryd.prog 181 := ⟨⟨_, Tryd.underlying181, rfl⟩, by kernel_rfl⟩
instance : TScal Tryd.prog 182 := ⟨⟨_, Tryd.underlying182, rfl⟩, by kernel_rfl⟩
instance : TStr Tryd.prog 183 3 := ⟨⟨_, Tryd.underlying183⟩, by kernel_rfl⟩
instance : TFldT Tryd.prog 183 0 0 9 := ⟨⟨_, _, Tryd.underlying183, rfl, rfl, rfl⟩⟩
instance : TFld Tryd.prog 183 0 0 := ⟨⟨_, _, Tryd.underlying183, rfl, rfl, _, (by kernel_rfl : (Tryd.prog.info? 9).map (·.size) = some (0 + 1))⟩⟩
instance : TFldT Tryd.prog 183 1 1 9 := ⟨⟨_, _, Tryd.underlying183, rfl, rfl, rfl⟩⟩
instance : TFld Tryd.prog 183 1 1 := ⟨⟨_, _, Tryd.underlying183, rfl, rfl, _, (by kernel_rfl : (Tryd.prog.info? 9).map (·.size) = some (0 + 1))⟩⟩
instance : TFldT Tryd.prog 183 2 2 138 := ⟨⟨_, _, Tryd.underlying183, rfl, rfl, rfl⟩⟩
instance : TFld Tryd.prog 183 2 2 := ⟨⟨_, _, Tryd.underlying183, rfl, rfl, _, (by kernel_rfl : (Tryd.prog.info? 138).map (·.size) = some (0 + 1))⟩⟩
instance : TFlat Tryd.prog 183 [.string ⟨#[]⟩, .string ⟨#[]⟩, .nilIface] := ⟨by kernel_rfl, _, Tryd.underlying183, by kernel_rfl⟩
instance : TZero Tryd.prog 183 (.agg #[.string ⟨#[]⟩, .string ⟨#[]⟩, .nilIface]) := ⟨by kernel_rfl⟩
instance : TStr Tryd.prog 184 3 := ⟨⟨_, Tryd.underlying184⟩, by kernel_rfl⟩
instance : TFldT Tryd.prog 184 0 0 9 := ⟨⟨_, _, Tryd.underlying184, rfl, rfl, rfl⟩⟩
instance : TFld Tryd.prog 184 0 0 := ⟨⟨_, _, Tryd.underlying184, rfl, rfl, _, (by kernel_rfl : (Tryd.prog.info? 9).map (·.size) = some (0 + 1))⟩⟩
instance : TFldT Tryd.prog 184 1 1 9 := ⟨⟨_, _, Tryd.underlying184, rfl, rfl, rfl⟩⟩
instance : TFld Tryd.prog 184 1 1 := ⟨⟨_, _, Tryd.underlying184, rfl, rfl, _, (by kernel_rfl : (Tryd.prog.info? 9).map (·.size) = some (0 + 1))⟩⟩
instance : TFldT Tryd.prog 184 2 2 138 := ⟨⟨_, _, Tryd.underlying184, rfl, rfl, rfl⟩⟩
instance : TFld Tryd.prog 184 2 2 := ⟨⟨_, _, Tryd.underlying184, rfl, rfl, _, (by kernel_rfl : (Tryd.prog.info? 138).map (·.size) = some (0 + 1))⟩⟩
instance : TFlat Tryd.prog 184 [.string ⟨#[]⟩, .string ⟨#[]⟩, .nilIface] := ⟨by kernel_rfl, _, Tryd.underlying184, by kernel_rfl⟩
instance : TZero Tryd.prog 184 (.agg #[.string ⟨#[]⟩, .string ⟨#[]⟩, .nilIface]) := ⟨by kernel_rfl⟩
instance : TScal Tryd.prog 185 := ⟨⟨_, Tryd.underlying185, rfl⟩, by kernel_rfl⟩
instance : TScal Tryd.prog 187 := ⟨⟨_, Tryd.underlying187, rfl⟩, by kernel_rfl⟩
instance : TScal Tryd.prog 188 := ⟨⟨_, Tryd.underlying188, rfl⟩, by kernel_rfl⟩
instance : TScal Tryd.prog 189 := ⟨⟨_, Tryd.underlying189, rfl⟩, by kernel_rfl⟩
instance : TArr Tryd.prog 190 20 143 := ⟨Tryd.underlying190⟩
instance : TZero Tryd.prog 190 (.agg #[.int .u64 0, .int .u64 0, .int .u64 0, .int .u64 0, .int .u64 0, .int .u64 0, .int .u64 0, .int .u64 0, .int .u64 0, .int .u64 0, .int .u64 0, .int .u64 0, .int .u64 0, .int .u64 0, .int .u64 0, .int .u64 0, .int .u64 0, .int .u64 0, .int .u64 0, .int .u64 0]) := ⟨by kernel_rfl⟩
instance : TArr Tryd.prog 191 65 5 := ⟨Tryd.underlying191⟩
instance : TZero Tryd.prog 191 (.agg #[.int .u8 0, .int .u8 0, .int .u8 0, .int .u8 0, .int .u8 0, .int .u8 0, .int .u8 0, .int .u8 0, .int .u8 0, .int .u8 0, .int .u8 0, .int .u8 0, .int .u8 0, .int .u8 0, .int .u8 0, .int .u8 0, .int .u8 0, .int .u8 0, .int .u8 0, .int .u8 0, .int .u8 0, .int .u8 0, .int .u8 0, .int .u8 0, .int .u8 0, .int .u8 0, .int .u8 0, .int .u8 0, .int .u8 0, .int .u8 0, .int .u8 0, .int .u8 0, .int .u8 0, .int .u8 0, .int .u8 0, .int .u8 0, .int .u8 0, .int .u8 0, .int .u8 0, .int .u8 0, .int .u8 0, .int .u8 0, .int .u8 0, .int .u8 0, .int .u8 0, .int .u8 0, .int .u8 0, .int .u8 0, .int .u8 0, .int .u8 0, .int .u8 0, .int .u8 0, .int .u8 0, .int .u8 0, .int .u8 0, .int .u8 0, .int .u8 0, .int .u8 0, .int .u8 0, .int .u8 0, .int .u8 0, .int .u8 0, .int .u8 0, .int .u8 0, .int .u8 0]) := ⟨by kernel_rfl⟩
instance : TScal Tryd.prog 192 := ⟨⟨_, Tryd.underlying192, rfl⟩, by kernel_rfl⟩
instance : TScal Tryd.prog 193 := ⟨⟨_, Tryd.underlying193, rfl⟩, by kernel_rfl⟩
instance : TArr Tryd.prog 194 256 5 := ⟨Tryd.underlying194⟩
instance : TZero Tryd.prog 194 (.agg #[.int .u8 0, .int .u8 0, .int .u8 0, .int .u8 0, .int .u8 0, .int .u8 0, .int .u8 0, .int .u8 0, .int .u8 0, .int .u8 0, .int .u8 0, .int .u8 0, .int .u8 0, .int .u8 0, .int .u8 0, .int .u8 0, .int .u8 0, .int .u8 0, .int .u8 0, .int .u8 0, .int .u8 0, .int .u8 0, .int .u8 0, .int .u8 0, .int .u8 0, .int .u8 0, .int .u8 0, .int .u8 0, .int .u8 0, .int .u8 0, .int .u8 0, .int .u8 0, .int .u8 0, .int .u8 0, .int .u8 0, .int .u8 0, .int .u8 0, .int .u8 0, .int .u8 0, .int .u8 0, .int .u8 0, .int .u8 0, .int .u8 0, .int .u8 0, .int .u8 0, .int .u8 0, .int .u8 0, .int .u8 0, .int .u8 0, .int .u8 0, .int .u8 0, .int .u8 0, .int .u8 0, .int .u8 0, .int .u8 0, .int .u8 0, .int .u8 0, .int .u8 0, .int .u8 0, .int .u8 0, .int .u8 0, .int .u8 0, .int .u8 0, .int .u8 0, .int .u8 0, .int .u8 0, .int .u8 0, .int .u8 0, .int .u8 0, .int .u8 0, .int .u8 0, .int .u8 0, .int .u8 0, .int .u8 0, .int .u8 0, .int .u8 0, .int .u8 0, .int .u8 0, .int .u8 0, .int .u8 0, .int .u8 0, .int .u8 0, .int .u8 0, .int .u8 0, .int .u8 0, .int .u8 0, .int .u8 0, .int .u8 0, .int .u8 0, .int .u8 0, .int .u8 0, .int .u8 0, .int .u8 0, .int .u8 0, .int .u8 0, .int .u8 0, .int .u8 0, .int .u8 0, .int .u8 0, .int .u8 0, .int .u8 0, .int .u8 0, .int .u8 0, .int .u8 0, .int .u8 0, .int .u8 0, .int .u8 0, .int .u8 0, .int .u8 0, .int .u8 0, .int .u8 0, .int .u8 0, .int .u8 0, .int .u8 0, .int .u8 0, .int .u8 0, .int .u8 0, .int .u8 0, .int .u8 0, .int .u8 0, .int .u8 0, .int .u8 0, .int .u8 0, .int .u8 0, .int .u8 0, .int .u8 0, .int .u8 0, .int .u8 0, .int .u8 0, .int .u8 0, .int .u8 0, .int .u8 0, .int .u8 0, .int .u8 0, .int .u8 0, .int .u8 0, .int .u8 0, .int .u8 0, .int .u8 0, .int .u8 0, .int .u8 0, .int .u8 0, .int .u8 0, .int .u8 0, .int .u8 0, .int .u8 0, .int .u8 0, .int .u8 0, .int .u8 0, .int .u8 0, .int .u8 0, .int .u8 0, .int .u8 0, .int .u8 0, .int .u8 0, .int .u8 0, .int .u8 0, .int .u8 0, .int .u8 0, .int .u8 0, .int .u8 0, .int .u8 0, .int .u8 0, .int .u8 0, .int .u8 0, .int .u8 0, .int .u8 0, .int .u8 0, .int .u8 0, .int .u8 0, .int .u8 0, .int .u8 0, .int .u8 0, .int .u8 0, .int .u8 0, .int .u8 0, .int .u8 0, .int .u8 0, .int .u8 0, .int .u8 0, .int .u8 0, .int .u8 0, .int .u8 0, .int .u8 0, .int .u8 0, .int .u8 0, .int .u8 0, .int .u8 0, .int .u8 0, .int .u8 0, .int .u8 0, .int .u8 0, .int .u8 0, .int .u8 0, .int .u8 0, .int .u8 0, .int .u8 0, .int .u8 0, .int .u8 0, .int .u8 0, .int .u8 0, .int .u8 0, .int .u8 0, .int .u8 0, .int .u8 0, .int .u8 0, .int .u8 0, .int .u8 0, .int .u8 0, .int .u8 0, .int .u8 0, .int .u8 0, .int .u8 0, .int .u8 0, .int .u8 0, .int .u8 0, .int .u8 0, .int .u8 0, .int .u8 0, .int .u8 0, .int .u8 0, .int .u8 0, .int .u8 0, .int .u8 0, .int .u8 0, .int .u8 0, .int .u8 0, .int .u8 0, .int .u8 0, .int .u8 0, .int .u8 0, .int .u8 0, .int .u8 0, .int .u8 0, .int .u8 0, .int .u8 0, .int .u8 0, .int .u8 0, .int .u8 0, .int .u8 0, .int .u8 0, .int .u8 0, .int .u8 0, .int .u8 0, .int .u8 0, .int .u8 0, .int .u8 0, .int .u8 0, .int .u8 0, .int .u8 0, .int .u8 0, .int .u8 0, .int .u8 0, .int .u8 0, .int .u8 0, .int .u8 0]) := ⟨by kernel_rfl⟩
instance : TStr Tryd.prog 195 2 := ⟨⟨_, Tryd.underlying195⟩, by kernel_rfl⟩
instance : TFldT Tryd.prog 195 0 0 5 := ⟨⟨_, _, Tryd.underlying195, rfl, rfl, rfl⟩⟩
instance : TFld Tryd.prog 195 0 0 := ⟨⟨_, _, Tryd.underlying195, rfl, rfl, _, (by kernel_rfl : (Tryd.prog.info? 5).map (·.size) = some (0 + 1))⟩⟩
instance : TFldT Tryd.prog 195 1 1 5 := ⟨⟨_, _, Tryd.underlying195, rfl, rfl, rfl⟩⟩
instance : TFld Tryd.prog 195 1 1 := ⟨⟨_, _, Tryd.underlying195, rfl, rfl, _, (by kernel_rfl : (Tryd.prog.info? 5).map (·.size) = some (0 + 1))⟩⟩
instance : TFlat Tryd.prog 195 [.int .u8 0, .int .u8 0] := ⟨by kernel_rfl, _, Tryd.underlying195, by kernel_rfl⟩
instance : TZero Tryd.prog 195 (.agg #[.int .u8 0, .int .u8 0]) := ⟨by kernel_rfl⟩
instance : TStr Tryd.prog 196 2 := ⟨⟨_, Tryd.underlying196⟩, by kernel_rfl⟩
instance : TFldT Tryd.prog 196 0 0 5 := ⟨⟨_, _, Tryd.underlying196, rfl, rfl, rfl⟩⟩
instance : TFld Tryd.prog 196 0 0 := ⟨⟨_, _, Tryd.underlying196, rfl, rfl, _, (by kernel_rfl : (Tryd.prog.info? 5).map (·.size) = some (0 + 1))⟩⟩
instance : TFldT Tryd.prog 196 1 1 5 := ⟨⟨_, _, Tryd.underlying196, rfl, rfl, rfl⟩⟩
instance : TFld Tryd.prog 196 1 1 := ⟨⟨_, _, Tryd.underlying196, rfl, rfl, _, (by kernel_rfl : (Tryd.prog.info? 5).map (·.size) = some (0 + 1))⟩⟩
instance : TFlat Tryd.prog 196 [.int .u8 0, .int .u8 0] := ⟨by kernel_rfl, _, Tryd.underlying196, by kernel_rfl⟩
instance : TZero Tryd.prog 196 (.agg #[.int .u8 0, .int .u8 0]) := ⟨by kernel_rfl⟩
instance : TArr Tryd.prog 197 16 196 := ⟨Tryd.underlying197⟩
instance : TZero Tryd.prog 197 (.agg #[.int .u8 0, .int .u8 0, .int .u8 0, .int .u8 0, .int .u8 0, .int .u8 0, .int .u8 0, .int .u8 0, .int .u8 0, .int .u8 0, .int .u8 0, .int .u8 0, .int .u8 0, .int .u8 0, .int .u8 0, .int .u8 0, .int .u8 0, .int .u8 0, .int .u8 0, .int .u8 0, .int .u8 0, .int .u8 0, .int .u8 0, .int .u8 0, .int .u8 0, .int .u8 0, .int .u8 0, .int .u8 0, .int .u8 0, .int .u8 0, .int .u8 0, .int .u8 0]) := ⟨by kernel_rfl⟩
instance : TScal Tryd.prog 198 := ⟨⟨_, Tryd.underlying198, rfl⟩, by kernel_rfl⟩
instance : TStr Tryd.prog 199 1 := ⟨⟨_, Tryd.underlying199⟩, by kernel_rfl⟩
instance : TFldT Tryd.prog 199 0 0 9 := ⟨⟨_, _, Tryd.underlying199, rfl, rfl, rfl⟩⟩
instance : TFld Tryd.prog 199 0 0 := ⟨⟨_, _, Tryd.underlying199, rfl, rfl, _, (by kernel_rfl : (Tryd.prog.info? 9).map (·.size) = some (0 + 1))⟩⟩
instance : TFlat Tryd.prog 199 [.string ⟨#[]⟩] := ⟨by kernel_rfl, _, Tryd.underlying199, by kernel_rfl⟩
instance : TZero Tryd.prog 199 (.agg #[.string ⟨#[]⟩]) := ⟨by kernel_rfl⟩
instance : TStr Tryd.prog 200 1 := ⟨⟨_, Tryd.underlying200⟩, by kernel_rfl⟩
instance : TFldT Tryd.prog 200 0 0 9 := ⟨⟨_, _, Tryd.underlying200, rfl, rfl, rfl⟩⟩
instance : TFld Tryd.prog 200 0 0 := ⟨⟨_, _, Tryd.underlying200, rfl, rfl, _, (by kernel_rfl : (Tryd.prog.info? 9).map (·.size) = some (0 + 1))⟩⟩
instance : TFlat Tryd.prog 200 [.string ⟨#[]⟩] := ⟨by kernel_rfl, _, Tryd.underlying200, by kernel_rfl⟩
instance : TZero Tryd.prog 200 (.agg #[.string ⟨#[]⟩]) := ⟨by kernel_rfl⟩
instance : TScal Tryd.prog 201 := ⟨⟨_, Tryd.underlying201, rfl⟩, by kernel_rfl⟩
instance : TArr Tryd.prog 202 32 5 := ⟨Tryd.underlying202⟩
instance : TZero Tryd.prog 202 (.agg #[.int .u8 0, .int .u8 0, .int .u8 0, .int .u8 0, .int .u8 0, .int .u8 0, .int .u8 0, .int .u8 0, .int .u8 0, .int .u8 0, .int .u8 0, .int .u8 0, .int .u8 0, .int .u8 0, .int .u8 0, .int .u8 0, .int .u8 0, .int .u8 0, .int .u8 0, .int .u8 0, .int .u8 0, .int .u8 0, .int .u8 0, .int .u8 0, .int .u8 0, .int .u8 0, .int .u8 0, .int .u8 0, .int .u8 0, .int .u8 0, .int .u8 0, .int .u8 0]) := ⟨by kernel_rfl⟩
instance : TArr Tryd.prog 203 64 5 := ⟨Tryd.underlying203⟩
instance : TZero Tryd.prog 203 (.agg #[.int .u8 0, .int .u8 0, .int .u8 0, .int .u8 0, .int .u8 0, .int .u8 0, .int .u8 0, .int .u8 0, .int .u8 0, .int .u8 0, .int .u8 0, .int .u8 0, .int .u8 0, .int .u8 0, .int .u8 0, .int .u8 0, .int .u8 0, .int .u8 0, .int .u8 0, .int .u8 0, .int .u8 0, .int .u8 0, .int .u8 0, .int .u8 0, .int .u8 0, .int .u8 0, .int .u8 0, .int .u8 0, .int .u8 0, .int .u8 0, .int .u8 0, .int .u8 0, .int .u8 0, .int .u8 0, .int .u8 0, .int .u8 0, .int .u8 0, .int .u8 0, .int .u8 0, .int .u8 0, .int .u8 0, .int .u8 0, .int .u8 0, .int .u8 0, .int .u8 0, .int .u8 0, .int .u8 0, .int .u8 0, .int .u8 0, .int .u8 0, .int .u8 0, .int .u8 0, .int .u8 0, .int .u8 0, .int .u8 0, .int .u8 0, .int .u8 0, .int .u8 0, .int .u8 0, .int .u8 0, .int .u8 0, .int .u8 0, .int .u8 0, .int .u8 0]) := ⟨by kernel_rfl⟩
instance : TStr Tryd.prog 204 4 := ⟨⟨_, Tryd.underlying204⟩, by kernel_rfl⟩
instance : TFldT Tryd.prog 204 0 0 17 := ⟨⟨_, _, Tryd.underlying204, rfl, rfl, rfl⟩⟩
instance : TFld Tryd.prog 204 0 0 := ⟨⟨_, _, Tryd.underlying204, rfl, rfl, _, (by kernel_rfl : (Tryd.prog.info? 17).map (·.size) = some (0 + 1))⟩⟩
instance : TFldT Tryd.prog 204 1 1 17 := ⟨⟨_, _, Tryd.underlying204, rfl, rfl, rfl⟩⟩
instance : TFld Tryd.prog 204 1 1 := ⟨⟨_, _, Tryd.underlying204, rfl, rfl, _, (by kernel_rfl : (Tryd.prog.info? 17).map (·.size) = some (0 + 1))⟩⟩
instance : TFldT Tryd.prog 204 2 2 17 := ⟨⟨_, _, Tryd.underlying204, rfl, rfl, rfl⟩⟩
instance : TFld Tryd.prog 204 2 2 := ⟨⟨_, _, Tryd.underlying204, rfl, rfl, _, (by kernel_rfl : (Tryd.prog.info? 17).map (·.size) = some (0 + 1))⟩⟩
instance : TFldT Tryd.prog 204 3 3 9 := ⟨⟨_, _, Tryd.underlying204, rfl, rfl, rfl⟩⟩
instance : TFld Tryd.prog 204 3 3 := ⟨⟨_, _, Tryd.underlying204, rfl, rfl, _, (by kernel_rfl : (Tryd.prog.info? 9).map (·.size) = some (0 + 1))⟩⟩
instance : TFlat Tryd.prog 204 [.pointer none, .pointer none, .pointer none, .string ⟨#[]⟩] := ⟨by kernel_rfl, _, Tryd.underlying204, by kernel_rfl⟩
instance : TZero Tryd.prog 204 (.agg #[.pointer none, .pointer none, .pointer none, .string ⟨#[]⟩]) := ⟨by kernel_rfl⟩
instance : TStr Tryd.prog 205 4 := ⟨⟨_, Tryd.underlying205⟩, by kernel_rfl⟩
instance : TFldT Tryd.prog 205 0 0 17 := ⟨⟨_, _, Tryd.underlying205, rfl, rfl, rfl⟩⟩
instance : TFld Tryd.prog 205 0 0 := ⟨⟨_, _, Tryd.underlying205, rfl, rfl, _, (by kernel_rfl : (Tryd.prog.info? 17).map (·.size) = some (0 + 1))⟩⟩
instance : TFldT Tryd.prog 205 1 1 17 := ⟨⟨_, _, Tryd.underlying205, rfl, rfl, rfl⟩⟩
instance : TFld Tryd.prog 205 1 1 := ⟨⟨_, _, Tryd.underlying205, rfl, rfl, _, (by kernel_rfl : (Tryd.prog.info? 17).map (·.size) = some (0 + 1))⟩⟩
instance : TFldT Tryd.prog 205 2 2 17 := ⟨⟨_, _, Tryd.underlying205, rfl, rfl, rfl⟩⟩
instance : TFld Tryd.prog 205 2 2 := ⟨⟨_, _, Tryd.underlying205, rfl, rfl, _, (by kernel_rfl : (Tryd.prog.info? 17).map (·.size) = some (0 + 1))⟩⟩
instance : TFldT Tryd.prog 205 3 3 9 := ⟨⟨_, _, Tryd.underlying205, rfl, rfl, rfl⟩⟩
instance : TFld Tryd.prog 205 3 3 := ⟨⟨_, _, Tryd.underlying205, rfl, rfl, _, (by kernel_rfl : (Tryd.prog.info? 9).map (·.size) = some (0 + 1))⟩⟩
instance : TFlat Tryd.prog 205 [.pointer none, .pointer none, .pointer none, .string ⟨#[]⟩] := ⟨by kernel_rfl, _, Tryd.underlying205, by kernel_rfl⟩
instance : TZero Tryd.prog 205 (.agg #[.pointer none, .pointer none, .pointer none, .string ⟨#[]⟩]) := ⟨by kernel_rfl⟩
instance : TArr Tryd.prog 206 0 16 := ⟨Tryd.underlying206⟩
instance : TZero Tryd.prog 206 (.agg #[]) := ⟨by kernel_rfl⟩
instance : TScal Tryd.prog 209 := ⟨⟨_, Tryd.underlying209, rfl⟩, by kernel_rfl⟩
instance : TScal Tryd.prog 210 := ⟨⟨_, Tryd.underlying210, rfl⟩, by kernel_rfl⟩
instance : TInt Tryd.prog 210 .u8 := ⟨Tryd.underlying210⟩
instance : TZero Tryd.prog 210 (.int .u8 0) := ⟨by kernel_rfl⟩
instance : TScal Tryd.prog 211 := ⟨⟨_, Tryd.underlying211, rfl⟩, by kernel_rfl⟩
instance : TInt Tryd.prog 211 .u8 := ⟨Tryd.underlying211⟩
instance : TZero Tryd.prog 211 (.int .u8 0) := ⟨by kernel_rfl⟩
instance : TScal Tryd.prog 212 := ⟨⟨_, Tryd.underlying212, rfl⟩, by kernel_rfl⟩
instance : TScal Tryd.prog 213 := ⟨⟨_, Tryd.underlying213, rfl⟩, by kernel_rfl⟩
instance : TInt Tryd.prog 213 .i32 := ⟨Tryd.underlying213⟩
instance : TZero Tryd.prog 213 (.int .i32 0) := ⟨by kernel_rfl⟩
instance : TScal Tryd.prog 214 := ⟨⟨_, Tryd.underlying214, rfl⟩, by kernel_rfl⟩
instance : TInt Tryd.prog 214 .i32 := ⟨Tryd.underlying214⟩
instance : TZero Tryd.prog 214 (.int .i32 0) := ⟨by kernel_rfl⟩
instance : TStr Tryd.prog 215 11 := ⟨⟨_, Tryd.underlying215⟩, by kernel_rfl⟩
instance : TFldT Tryd.prog 215 0 0 12 := ⟨⟨_, _, Tryd.underlying215, rfl, rfl, rfl⟩⟩
instance : TFld Tryd.prog 215 0 0 := ⟨⟨_, _, Tryd.underlying215, rfl, rfl, _, (by kernel_rfl : (Tryd.prog.info? 12).map (·.size) = some (0 + 1))⟩⟩
instance : TFldT Tryd.prog 215 1 1 12 := ⟨⟨_, _, Tryd.underlying215, rfl, rfl, rfl⟩⟩
instance : TFld Tryd.prog 215 1 1 := ⟨⟨_, _, Tryd.underlying215, rfl, rfl, _, (by kernel_rfl : (Tryd.prog.info? 12).map (·.size) = some (0 + 1))⟩⟩
instance : TFldT Tryd.prog 215 2 2 178 := ⟨⟨_, _, Tryd.underlying215, rfl, rfl, rfl⟩⟩
instance : TFld Tryd.prog 215 2 2 := ⟨⟨_, _, Tryd.underlying215, rfl, rfl, _, (by kernel_rfl : (Tryd.prog.info? 178).map (·.size) = some (0 + 1))⟩⟩
instance : TFldT Tryd.prog 215 3 3 210 := ⟨⟨_, _, Tryd.underlying215, rfl, rfl, rfl⟩⟩
instance : TFld Tryd.prog 215 3 3 := ⟨⟨_, _, Tryd.underlying215, rfl, rfl, _, (by kernel_rfl : (Tryd.prog.info? 210).map (·.size) = some (0 + 1))⟩⟩
instance : TFldT Tryd.prog 215 4 4 5 := ⟨⟨_, _, Tryd.underlying215, rfl, rfl, rfl⟩⟩
instance : TFld Tryd.prog 215 4 4 := ⟨⟨_, _, Tryd.underlying215, rfl, rfl, _, (by kernel_rfl : (Tryd.prog.info? 5).map (·.size) = some (0 + 1))⟩⟩
instance : TFldT Tryd.prog 215 5 5 5 := ⟨⟨_, _, Tryd.underlying215, rfl, rfl, rfl⟩⟩
instance : TFld Tryd.prog 215 5 5 := ⟨⟨_, _, Tryd.underlying215, rfl, rfl, _, (by kernel_rfl : (Tryd.prog.info? 5).map (·.size) = some (0 + 1))⟩⟩
instance : TFldT Tryd.prog 215 6 6 211 := ⟨⟨_, _, Tryd.underlying215, rfl, rfl, rfl⟩⟩
instance : TFld Tryd.prog 215 6 6 := ⟨⟨_, _, Tryd.underlying215, rfl, rfl, _, (by kernel_rfl : (Tryd.prog.info? 211).map (·.size) = some (0 + 1))⟩⟩
instance : TFldT Tryd.prog 215 7 7 212 := ⟨⟨_, _, Tryd.underlying215, rfl, rfl, rfl⟩⟩
instance : TFld Tryd.prog 215 7 7 := ⟨⟨_, _, Tryd.underlying215, rfl, rfl, _, (by kernel_rfl : (Tryd.prog.info? 212).map (·.size) = some (0 + 1))⟩⟩
instance : TFldT Tryd.prog 215 8 8 171 := ⟨⟨_, _, Tryd.underlying215, rfl, rfl, rfl⟩⟩
instance : TFld Tryd.prog 215 8 8 := ⟨⟨_, _, Tryd.underlying215, rfl, rfl, _, (by kernel_rfl : (Tryd.prog.info? 171).map (·.size) = some (0 + 1))⟩⟩
instance : TFldT Tryd.prog 215 9 9 213 := ⟨⟨_, _, Tryd.underlying215, rfl, rfl, rfl⟩⟩
instance : TFld Tryd.prog 215 9 9 := ⟨⟨_, _, Tryd.underlying215, rfl, rfl, _, (by kernel_rfl : (Tryd.prog.info? 213).map (·.size) = some (0 + 1))⟩⟩
instance : TFldT Tryd.prog 215 10 10 214 := ⟨⟨_, _, Tryd.underlying215, rfl, rfl, rfl⟩⟩
instance : TFld Tryd.prog 215 10 10 := ⟨⟨_, _, Tryd.underlying215, rfl, rfl, _, (by kernel_rfl : (Tryd.prog.info? 214).map (·.size) = some (0 + 1))⟩⟩
instance : TFlat Tryd.prog 215 [.int .u64 0, .int .u64 0, .int .u32 0, .int .u8 0, .int .u8 0, .int .u8 0, .int .u8 0, .nilFunc, .pointer none, .int .i32 0, .int .i32 0] := ⟨by kernel_rfl, _, Tryd.underlying215, by kernel_rfl⟩
instance : TZero Tryd.prog 215 (.agg #[.int .u64 0, .int .u64 0, .int .u32 0, .int .u8 0, .int .u8 0, .int .u8 0, .int .u8 0, .nilFunc, .pointer none, .int .i32 0, .int .i32 0]) := ⟨by kernel_rfl⟩
instance : TStr Tryd.prog 216 11 := ⟨⟨_, Tryd.underlying216⟩, by kernel_rfl⟩
instance : TFldT Tryd.prog 216 0 0 12 := ⟨⟨_, _, Tryd.underlying216, rfl, rfl, rfl⟩⟩
instance : TFld Tryd.prog 216 0 0 := ⟨⟨_, _, Tryd.underlying216, rfl, rfl, _, (by kernel_rfl : (Tryd.prog.info? 12).map (·.size) = some (0 + 1))⟩⟩
instance : TFldT Tryd.prog 216 1 1 12 := ⟨⟨_, _, Tryd.underlying216, rfl, rfl, rfl⟩⟩
instance : TFld Tryd.prog 216 1 1 := ⟨⟨_, _, Tryd.underlying216, rfl, rfl, _, (by kernel_rfl : (Tryd.prog.info? 12).map (·.size) = some (0 + 1))⟩⟩
instance : TFldT Tryd.prog 216 2 2 178 := ⟨⟨_, _, Tryd.underlying216, rfl, rfl, rfl⟩⟩
instance : TFld Tryd.prog 216 2 2 := ⟨⟨_, _, Tryd.underlying216, rfl, rfl, _, (by kernel_rfl : (Tryd.prog.info? 178).map (·.size) = some (0 + 1))⟩⟩
instance : TFldT Tryd.prog 216 3 3 210 := ⟨⟨_, _, Tryd.underlying216, rfl, rfl, rfl⟩⟩
instance : TFld Tryd.prog 216 3 3 := ⟨⟨_, _, Tryd.underlying216, rfl, rfl, _, (by kernel_rfl : (Tryd.prog.info? 210).map (·.size) = some (0 + 1))⟩⟩
instance : TFldT Tryd.prog 216 4 4 5 := ⟨⟨_, _, Tryd.underlying216, rfl, rfl, rfl⟩⟩
instance : TFld Tryd.prog 216 4 4 := ⟨⟨_, _, Tryd.underlying216, rfl, rfl, _, (by kernel_rfl : (Tryd.prog.info? 5).map (·.size) = some (0 + 1))⟩⟩
instance : TFldT Tryd.prog 216 5 5 5 := ⟨⟨_, _, Tryd.underlying216, rfl, rfl, rfl⟩⟩
instance : TFld Tryd.prog 216 5 5 := ⟨⟨_, _, Tryd.underlying216, rfl, rfl, _, (by kernel_rfl : (Tryd.prog.info? 5).map (·.size) = some (0 + 1))⟩⟩
instance : TFldT Tryd.prog 216 6 6 211 := ⟨⟨_, _, Tryd.underlying216, rfl, rfl, rfl⟩⟩
instance : TFld Tryd.prog 216 6 6 := ⟨⟨_, _, Tryd.underlying216, rfl, rfl, _, (by kernel_rfl : (Tryd.prog.info? 211).map (·.size) = some (0 + 1))⟩⟩
instance : TFldT Tryd.prog 216 7 7 212 := ⟨⟨_, _, Tryd.underlying216, rfl, rfl, rfl⟩⟩
instance : TFld Tryd.prog 216 7 7 := ⟨⟨_, _, Tryd.underlying216, rfl, rfl, _, (by kernel_rfl : (Tryd.prog.info? 212).map (·.size) = some (0 + 1))⟩⟩
instance : TFldT Tryd.prog 216 8 8 171 := ⟨⟨_, _, Tryd.underlying216, rfl, rfl, rfl⟩⟩
instance : TFld Tryd.prog 216 8 8 := ⟨⟨_, _, Tryd.underlying216, rfl, rfl, _, (by kernel_rfl : (Tryd.prog.info? 171).map (·.size) = some (0 + 1))⟩⟩
instance : TFldT Tryd.prog 216 9 9 213 := ⟨⟨_, _, Tryd.underlying216, rfl, rfl, rfl⟩⟩
instance : TFld Tryd.prog 216 9 9 := ⟨⟨_, _, Tryd.underlying216, rfl, rfl, _, (by kernel_rfl : (Tryd.prog.info? 213).map (·.size) = some (0 + 1))⟩⟩
instance : TFldT Tryd.prog 216 10 10 214 := ⟨⟨_, _, Tryd.underlying216, rfl, rfl, rfl⟩⟩
instance : TFld Tryd.prog 216 10 10 := ⟨⟨_, _, Tryd.underlying216, rfl, rfl, _, (by kernel_rfl : (Tryd.prog.info? 214).map (·.size) = some (0 + 1))⟩⟩
instance : TFlat Tryd.prog 216 [.int .u64 0, .int .u64 0, .int .u32 0, .int .u8 0, .int .u8 0, .int .u8 0, .int .u8 0, .nilFunc, .pointer none, .int .i32 0, .int .i32 0] := ⟨by kernel_rfl, _, Tryd.underlying216, by kernel_rfl⟩
instance : TZero Tryd.prog 216 (.agg #[.int .u64 0, .int .u64 0, .int .u32 0, .int .u8 0, .int .u8 0, .int .u8 0, .int .u8 0, .nilFunc, .pointer none, .int .i32 0, .int .i32 0]) := ⟨by kernel_rfl⟩
instance : Callable Tryd.prog 3 := callable Tryd.func3 (by kernel_rfl) rfl   -- loop.example/g01012/laws.FnExactSerialPunch
instance : Callable Tryd.prog 4 := callable Tryd.func4 (by kernel_rfl) rfl   -- loop.example/g01012/laws.FnExactReadCopies
instance : Callable Tryd.prog 5 := callable Tryd.func5 (by kernel_rfl) rfl   -- loop.example/g01012/laws.FnProductsBy
instance : Callable Tryd.prog 6 := callable Tryd.func6 (by kernel_rfl) rfl   -- loop.example/g01012/laws.FnWheels
instance : Callable Tryd.prog 7 := callable Tryd.func7 (by kernel_rfl) rfl   -- loop.example/g01012/laws.szCardS
instance : Callable Tryd.prog 8 := callable Tryd.func8 (by kernel_rfl) rfl   -- loop.example/g01012/spec.SerialPunch
instance : Callable Tryd.prog 9 := callable Tryd.func9 (by kernel_rfl) rfl   -- loop.example/g01012/laws.toCardS
instance : Callable Tryd.prog 10 := callable Tryd.func10 (by kernel_rfl) rfl   -- loop.example/g01012/laws.toField
instance : Callable Tryd.prog 11 := callable Tryd.func11 (by kernel_rfl) rfl   -- loop.example/g01012/impl.SerialPunch
instance : Callable Tryd.prog 12 := callable Tryd.func12 (by kernel_rfl) rfl   -- loop.example/g01012/laws.eqCardS
instance : Callable Tryd.prog 13 := callable Tryd.func13 (by kernel_rfl) rfl   -- loop.example/g01012/laws.markCardS
instance : Callable Tryd.prog 14 := callable Tryd.func14 (by kernel_rfl) rfl   -- loop.example/g01012/laws.heldCardS
instance : Callable Tryd.prog 15 := callable Tryd.func15 (by kernel_rfl) rfl   -- loop.example/g01012/spec.ReadCopies
instance : Callable Tryd.prog 16 := callable Tryd.func16 (by kernel_rfl) rfl   -- loop.example/g01012/impl.ReadCopies
instance : Callable Tryd.prog 17 := callable Tryd.func17 (by kernel_rfl) rfl   -- loop.example/g01012/laws.eqCopyS
instance : Callable Tryd.prog 18 := callable Tryd.func18 (by kernel_rfl) rfl   -- loop.example/g01012/laws.markCopyS
instance : Callable Tryd.prog 19 := callable Tryd.func19 (by kernel_rfl) rfl   -- loop.example/g01012/laws.heldCopyS
instance : Callable Tryd.prog 20 := callable Tryd.func20 (by kernel_rfl) rfl   -- loop.example/g01012/laws.f6big
instance : Callable Tryd.prog 21 := callable Tryd.func21 (by kernel_rfl) rfl   -- loop.example/g01012/spec.DrawProductBy
instance : Callable Tryd.prog 22 := callable Tryd.func22 (by kernel_rfl) rfl   -- loop.example/g01012/impl.ProductBy
instance : Callable Tryd.prog 23 := callable Tryd.func23 (by kernel_rfl) rfl   -- loop.example/g01012/spec.ProductBy
instance : Callable Tryd.prog 24 := callable Tryd.func24 (by kernel_rfl) rfl   -- loop.example/g01012/spec.DrawComponentsOf
instance : Callable Tryd.prog 25 := callable Tryd.func25 (by kernel_rfl) rfl   -- loop.example/g01012/impl.ComponentsOf
instance : Callable Tryd.prog 26 := callable Tryd.func26 (by kernel_rfl) rfl   -- loop.example/g01012/spec.ComponentsOf
instance : Callable Tryd.prog 27 := callable Tryd.func27 (by kernel_rfl) rfl   -- loop.example/g01012/spec.DrawQuotientBy
instance : Callable Tryd.prog 28 := callable Tryd.func28 (by kernel_rfl) rfl   -- loop.example/g01012/impl.QuotientBy
instance : Callable Tryd.prog 29 := callable Tryd.func29 (by kernel_rfl) rfl   -- loop.example/g01012/spec.QuotientBy
instance : Callable Tryd.prog 30 := callable Tryd.func30 (by kernel_rfl) rfl   -- loop.example/g01012/spec.DrawTurnsFor
instance : Callable Tryd.prog 31 := callable Tryd.func31 (by kernel_rfl) rfl   -- loop.example/g01012/impl.TurnsFor
instance : Callable Tryd.prog 32 := callable Tryd.func32 (by kernel_rfl) rfl   -- loop.example/g01012/spec.TurnsFor
instance : Callable Tryd.prog 33 := callable Tryd.func33 (by kernel_rfl) rfl   -- loop.example/g01012/spec.DrawHalfAdjust
instance : Callable Tryd.prog 34 := callable Tryd.func34 (by kernel_rfl) rfl   -- loop.example/g01012/impl.HalfAdjust
instance : Callable Tryd.prog 35 := callable Tryd.func35 (by kernel_rfl) rfl   -- loop.example/g01012/spec.HalfAdjust
instance : Callable Tryd.prog 36 := callable Tryd.func36 (by kernel_rfl) rfl   -- loop.example/g01012/spec.DrawCalculate
instance : Callable Tryd.prog 37 := callable Tryd.func37 (by kernel_rfl) rfl   -- loop.example/g01012/impl.Calculate
instance : Callable Tryd.prog 38 := callable Tryd.func38 (by kernel_rfl) rfl   -- loop.example/g01012/spec.Calculate
instance : Callable Tryd.prog 39 := callable Tryd.func39 (by kernel_rfl) rfl   -- loop.example/g01012/spec.DrawCalcName
instance : Callable Tryd.prog 40 := callable Tryd.func40 (by kernel_rfl) rfl   -- loop.example/g01012/impl.CalcName
instance : Callable Tryd.prog 41 := callable Tryd.func41 (by kernel_rfl) rfl   -- loop.example/g01012/spec.CalcName
instance : Callable Tryd.prog 42 := callable Tryd.func42 (by kernel_rfl) rfl   -- loop.example/g01012/spec.DrawAddToCounter
instance : Callable Tryd.prog 43 := callable Tryd.func43 (by kernel_rfl) rfl   -- loop.example/g01012/impl.AddToCounter
instance : Callable Tryd.prog 44 := callable Tryd.func44 (by kernel_rfl) rfl   -- loop.example/g01012/spec.AddToCounter
instance : Callable Tryd.prog 45 := callable Tryd.func45 (by kernel_rfl) rfl   -- loop.example/g01012/spec.DrawTakeFromCounter
instance : Callable Tryd.prog 46 := callable Tryd.func46 (by kernel_rfl) rfl   -- loop.example/g01012/impl.TakeFromCounter
instance : Callable Tryd.prog 47 := callable Tryd.func47 (by kernel_rfl) rfl   -- loop.example/g01012/spec.TakeFromCounter
instance : Callable Tryd.prog 48 := callable Tryd.func48 (by kernel_rfl) rfl   -- loop.example/g01012/impl.CarriesOf
instance : Callable Tryd.prog 49 := callable Tryd.func49 (by kernel_rfl) rfl   -- loop.example/g01012/spec.CarriesOf
instance : Callable Tryd.prog 50 := callable Tryd.func50 (by kernel_rfl) rfl   -- loop.example/g01012/spec.DrawComplementOf
instance : Callable Tryd.prog 51 := callable Tryd.func51 (by kernel_rfl) rfl   -- loop.example/g01012/impl.ComplementOf
instance : Callable Tryd.prog 52 := callable Tryd.func52 (by kernel_rfl) rfl   -- loop.example/g01012/spec.ComplementOf
instance : Callable Tryd.prog 53 := callable Tryd.func53 (by kernel_rfl) rfl   -- loop.example/g01012/spec.DrawSetCounter
instance : Callable Tryd.prog 54 := callable Tryd.func54 (by kernel_rfl) rfl   -- loop.example/g01012/impl.SetCounter
instance : Callable Tryd.prog 55 := callable Tryd.func55 (by kernel_rfl) rfl   -- loop.example/g01012/spec.SetCounter
instance : Callable Tryd.prog 56 := callable Tryd.func56 (by kernel_rfl) rfl   -- loop.example/g01012/spec.DrawCounterText
instance : Callable Tryd.prog 57 := callable Tryd.func57 (by kernel_rfl) rfl   -- loop.example/g01012/impl.CounterText
instance : Callable Tryd.prog 58 := callable Tryd.func58 (by kernel_rfl) rfl   -- loop.example/g01012/impl.ReadCounter
instance : Callable Tryd.prog 59 := callable Tryd.func59 (by kernel_rfl) rfl   -- loop.example/g01012/spec.DrawReadCounter
instance : Callable Tryd.prog 60 := callable Tryd.func60 (by kernel_rfl) rfl   -- loop.example/g01012/spec.ReadCounter
instance : Callable Tryd.prog 61 := callable Tryd.func61 (by kernel_rfl) rfl   -- loop.example/g01012/spec.DrawSameCounter
instance : Callable Tryd.prog 62 := callable Tryd.func62 (by kernel_rfl) rfl   -- loop.example/g01012/spec.SameCounter
instance : Callable Tryd.prog 63 := callable Tryd.func63 (by kernel_rfl) rfl   -- loop.example/g01012/spec.CounterText
instance : Callable Tryd.prog 64 := callable Tryd.func64 (by kernel_rfl) rfl   -- loop.example/g01012/impl.SameCounter
instance : Callable Tryd.prog 65 := callable Tryd.func65 (by kernel_rfl) rfl   -- loop.example/g01012/impl.ValidCounter
instance : Callable Tryd.prog 66 := callable Tryd.func66 (by kernel_rfl) rfl   -- loop.example/g01012/spec.ValidCounter
instance : Callable Tryd.prog 67 := callable Tryd.func67 (by kernel_rfl) rfl   -- loop.example/g01012/impl.NumberShown
instance : Callable Tryd.prog 68 := callable Tryd.func68 (by kernel_rfl) rfl   -- loop.example/g01012/laws.szCard
instance : Callable Tryd.prog 69 := callable Tryd.func69 (by kernel_rfl) rfl   -- loop.example/g01012/spec.l02Deck
instance : Callable Tryd.prog 70 := callable Tryd.func70 (by kernel_rfl) rfl   -- loop.example/g01012/spec.l02Field
instance : Callable Tryd.prog 71 := callable Tryd.func71 (by kernel_rfl) rfl   -- loop.example/g01012/spec.l07WidthOf
instance : Callable Tryd.prog 72 := callable Tryd.func72 (by kernel_rfl) rfl   -- loop.example/g01012/spec.l00In
instance : Callable Tryd.prog 73 := callable Tryd.func73 (by kernel_rfl) rfl   -- loop.example/g01012/spec.l02Copy
instance : Callable Tryd.prog 74 := callable Tryd.func74 (by kernel_rfl) rfl   -- loop.example/g01012/spec.l03Put
instance : Callable Tryd.prog 75 := callable Tryd.func75 (by kernel_rfl) rfl   -- loop.example/g01012/laws.toCard
instance : Callable Tryd.prog 76 := callable Tryd.func76 (by kernel_rfl) rfl   -- loop.example/g01012/impl.ValidDeck
instance : Callable Tryd.prog 77 := callable Tryd.func77 (by kernel_rfl) rfl   -- loop.example/g01012/impl.isField
instance : Callable Tryd.prog 78 := callable Tryd.func78 (by kernel_rfl) rfl   -- loop.example/g01012/impl.deckColumns
instance : Callable Tryd.prog 79 := callable Tryd.func79 (by kernel_rfl) rfl   -- loop.example/g01012/impl.inside
instance : Callable Tryd.prog 80 := callable Tryd.func80 (by kernel_rfl) rfl   -- loop.example/g01012/impl.digitsOf
instance : Callable Tryd.prog 81 := callable Tryd.func81 (by kernel_rfl) rfl   -- slices.ContainsFunc[[]int64,int64]
instance : Callable Tryd.prog 82 := callable Tryd.func82 (by kernel_rfl) rfl   -- loop.example/g01012/impl.SerialPunch$1
instance : Callable Tryd.prog 83 := callable Tryd.func83 (by kernel_rfl) rfl   -- loop.example/g01012/impl.punchNumber
instance : Callable Tryd.prog 84 := callable Tryd.func84 (by kernel_rfl) rfl   -- loop.example/g01012/laws.eqCard
instance : Callable Tryd.prog 85 := callable Tryd.func85 (by kernel_rfl) rfl   -- loop.example/g01012/laws.markInt64S
instance : Callable Tryd.prog 86 := callable Tryd.func86 (by kernel_rfl) rfl   -- loop.example/g01012/laws.heldInt64S
instance : Callable Tryd.prog 87 := callable Tryd.func87 (by kernel_rfl) rfl   -- loop.example/g01012/spec.l01Split
instance : Callable Tryd.prog 88 := callable Tryd.func88 (by kernel_rfl) rfl   -- loop.example/g01012/spec.l01Number
instance : Callable Tryd.prog 89 := callable Tryd.func89 (by kernel_rfl) rfl   -- loop.example/g01012/spec.l10Plain
instance : Callable Tryd.prog 90 := callable Tryd.func90 (by kernel_rfl) rfl   -- strings.Split
instance : Callable Tryd.prog 91 := callable Tryd.func91 (by kernel_rfl) rfl   -- strings.Cut
instance : Callable Tryd.prog 92 := callable Tryd.func92 (by kernel_rfl) rfl   -- loop.example/g01012/impl.ReadDecimal
instance : Callable Tryd.prog 93 := callable Tryd.func93 (by kernel_rfl) rfl   -- loop.example/g01012/impl.isPlain
instance : Callable Tryd.prog 94 := callable Tryd.func94 (by kernel_rfl) rfl   -- loop.example/g01012/impl.CopiesText
instance : Callable Tryd.prog 95 := callable Tryd.func95 (by kernel_rfl) rfl   -- loop.example/g01012/laws.eqCopy
instance : Callable Tryd.prog 96 := callable Tryd.func96 (by kernel_rfl) rfl   -- loop.example/g01012/spec.l00From
instance : Callable Tryd.prog 97 := callable Tryd.func97 (by kernel_rfl) rfl   -- loop.example/g01012/spec.l14DrawFactor
instance : Callable Tryd.prog 98 := callable Tryd.func98 (by kernel_rfl) rfl   -- loop.example/g01012/impl.isFactor
instance : Callable Tryd.prog 99 := callable Tryd.func99 (by kernel_rfl) rfl   -- loop.example/g01012/impl.digitList
instance : Callable Tryd.prog 100 := callable Tryd.func100 (by kernel_rfl) rfl   -- loop.example/g01012/spec.l14Factor
instance : Callable Tryd.prog 101 := callable Tryd.func101 (by kernel_rfl) rfl   -- loop.example/g01012/spec.l14Times
instance : Callable Tryd.prog 102 := callable Tryd.func102 (by kernel_rfl) rfl   -- loop.example/g01012/spec.l14Size
instance : Callable Tryd.prog 103 := callable Tryd.func103 (by kernel_rfl) rfl   -- (*loop.example/g01012/spec.l00Src).one
instance : Callable Tryd.prog 104 := callable Tryd.func104 (by kernel_rfl) rfl   -- (*loop.example/g01012/spec.l00Src).pick
instance : Callable Tryd.prog 105 := callable Tryd.func105 (by kernel_rfl) rfl   -- loop.example/g01012/spec.l14Parts
instance : Callable Tryd.prog 106 := callable Tryd.func106 (by kernel_rfl) rfl   -- loop.example/g01012/spec.l14DrawNumber
instance : Callable Tryd.prog 107 := callable Tryd.func107 (by kernel_rfl) rfl   -- loop.example/g01012/impl.isNumber
instance : Callable Tryd.prog 108 := callable Tryd.func108 (by kernel_rfl) rfl   -- loop.example/g01012/impl.digitSum
instance : Callable Tryd.prog 109 := callable Tryd.func109 (by kernel_rfl) rfl   -- loop.example/g01012/impl.size[int64]
instance : Callable Tryd.prog 110 := callable Tryd.func110 (by kernel_rfl) rfl   -- loop.example/g01012/spec.l14Number
instance : Callable Tryd.prog 111 := callable Tryd.func111 (by kernel_rfl) rfl   -- loop.example/g01012/spec.l14Divide
instance : Callable Tryd.prog 112 := callable Tryd.func112 (by kernel_rfl) rfl   -- (*loop.example/g01012/spec.l00Src).among
instance : Callable Tryd.prog 113 := callable Tryd.func113 (by kernel_rfl) rfl   -- loop.example/g01012/impl.absOf
instance : Callable Tryd.prog 114 := callable Tryd.func114 (by kernel_rfl) rfl   -- loop.example/g01012/spec.l11Power
instance : Callable Tryd.prog 115 := callable Tryd.func115 (by kernel_rfl) rfl   -- loop.example/g01012/spec.l14DrawKind
instance : Callable Tryd.prog 116 := callable Tryd.func116 (by kernel_rfl) rfl   -- loop.example/g01012/spec.l14Kind
instance : Callable Tryd.prog 117 := callable Tryd.func117 (by kernel_rfl) rfl   -- loop.example/g01012/spec.l14Do
instance : Callable Tryd.prog 118 := callable Tryd.func118 (by kernel_rfl) rfl   -- loop.example/g01012/impl.isCalc
instance : Callable Tryd.prog 119 := callable Tryd.func119 (by kernel_rfl) rfl   -- loop.example/g01012/spec.l11Ask
instance : Callable Tryd.prog 120 := callable Tryd.func120 (by kernel_rfl) rfl   -- loop.example/g01012/impl.countCode
instance : Callable Tryd.prog 121 := callable Tryd.func121 (by kernel_rfl) rfl   -- loop.example/g01012/impl.added
instance : Callable Tryd.prog 122 := callable Tryd.func122 (by kernel_rfl) rfl   -- loop.example/g01012/spec.l11Code
instance : Callable Tryd.prog 123 := callable Tryd.func123 (by kernel_rfl) rfl   -- loop.example/g01012/spec.l11Add
instance : Callable Tryd.prog 124 := callable Tryd.func124 (by kernel_rfl) rfl   -- loop.example/g01012/spec.l11Bent
instance : Callable Tryd.prog 125 := callable Tryd.func125 (by kernel_rfl) rfl   -- loop.example/g01012/spec.l11Ok
instance : Callable Tryd.prog 126 := callable Tryd.func126 (by kernel_rfl) rfl   -- loop.example/g01012/spec.l11Value
instance : Callable Tryd.prog 127 := callable Tryd.func127 (by kernel_rfl) rfl   -- loop.example/g01012/impl.nines
instance : Callable Tryd.prog 128 := callable Tryd.func128 (by kernel_rfl) rfl   -- loop.example/g01012/spec.l11Take
instance : Callable Tryd.prog 129 := callable Tryd.func129 (by kernel_rfl) rfl   -- loop.example/g01012/impl.wheelsShow
instance : Callable Tryd.prog 130 := callable Tryd.func130 (by kernel_rfl) rfl   -- loop.example/g01012/impl.shown
instance : Callable Tryd.prog 131 := callable Tryd.func131 (by kernel_rfl) rfl   -- loop.example/g01012/spec.l11Set
instance : Callable Tryd.prog 132 := callable Tryd.func132 (by kernel_rfl) rfl   -- loop.example/g01012/spec.l11Draw
instance : Callable Tryd.prog 133 := callable Tryd.func133 (by kernel_rfl) rfl   -- loop.example/g01012/spec.l11Text
instance : Callable Tryd.prog 134 := callable Tryd.func134 (by kernel_rfl) rfl   -- loop.example/g01012/spec.l01Spoil
instance : Callable Tryd.prog 135 := callable Tryd.func135 (by kernel_rfl) rfl   -- (*loop.example/g01012/spec.l00Src).text
instance : Callable Tryd.prog 136 := callable Tryd.func136 (by kernel_rfl) rfl   -- loop.example/g01012/spec.l00Own
instance : Callable Tryd.prog 137 := callable Tryd.func137 (by kernel_rfl) rfl   -- loop.example/g01012/spec.l00Same
instance : Callable Tryd.prog 138 := callable Tryd.func138 (by kernel_rfl) rfl   -- slices.Equal[[]int64,int64]
instance : Callable Tryd.prog 139 := callable Tryd.func139 (by kernel_rfl) rfl   -- loop.example/g01012/impl.ValidCounter$1
instance : Callable Tryd.prog 140 := callable Tryd.func140 (by kernel_rfl) rfl   -- loop.example/g01012/laws.szInt64S
instance : Callable Tryd.prog 141 := callable Tryd.func141 (by kernel_rfl) rfl   -- loop.example/g01012/spec.l02Ok
instance : Callable Tryd.prog 142 := callable Tryd.func142 (by kernel_rfl) rfl   -- loop.example/g01012/spec.l02Own
instance : Callable Tryd.prog 143 := callable Tryd.func143 (by kernel_rfl) rfl   -- loop.example/g01012/spec.l02Bit
instance : Callable Tryd.prog 144 := callable Tryd.func144 (by kernel_rfl) rfl   -- loop.example/g01012/laws.toInt64S
instance : Callable Tryd.prog 145 := callable Tryd.func145 (by kernel_rfl) rfl   -- loop.example/g01012/impl.ValidCard
instance : Callable Tryd.prog 146 := callable Tryd.func146 (by kernel_rfl) rfl   -- (loop.example/g01012/impl.Card).columns
instance : Callable Tryd.prog 147 := callable Tryd.func147 (by kernel_rfl) rfl   -- loop.example/g01012/impl.Decimal
instance : Callable Tryd.prog 148 := callable Tryd.func148 (by kernel_rfl) rfl   -- slices.IndexFunc[[]int64,int64]
instance : Callable Tryd.prog 149 := callable Tryd.func149 (by kernel_rfl) rfl   -- loop.example/g01012/impl.newCard
instance : Callable Tryd.prog 150 := callable Tryd.func150 (by kernel_rfl) rfl   -- loop.example/g01012/impl.bitOf
instance : Callable Tryd.prog 151 := callable Tryd.func151 (by kernel_rfl) rfl   -- loop.example/g01012/laws.eqInt64S
instance : Callable Tryd.prog 152 := callable Tryd.func152 (by kernel_rfl) rfl   -- loop.example/g01012/spec.l01Digit
instance : Callable Tryd.prog 153 := callable Tryd.func153 (by kernel_rfl) rfl   -- loop.example/g01012/spec.l01Dec
instance : Callable Tryd.prog 156 := callable Tryd.func156 (by kernel_rfl) rfl   -- strconv.ParseInt
instance : Callable Tryd.prog 157 := callable Tryd.func157 (by kernel_rfl) rfl   -- strings.TrimPrefix
instance : Callable Tryd.prog 158 := callable Tryd.func158 (by kernel_rfl) rfl   -- strings.Join
instance : Callable Tryd.prog 159 := callable Tryd.func159 (by kernel_rfl) rfl   -- loop.example/g01012/spec.l00Max
instance : Callable Tryd.prog 160 := callable Tryd.func160 (by kernel_rfl) rfl   -- (*loop.example/g01012/spec.l00Src).next
instance : Callable Tryd.prog 161 := callable Tryd.func161 (by kernel_rfl) rfl   -- loop.example/g01012/spec.l00Min
instance : Callable Tryd.prog 162 := callable Tryd.func162 (by kernel_rfl) rfl   -- loop.example/g01012/impl.copyInts
instance : Callable Tryd.prog 163 := callable Tryd.func163 (by kernel_rfl) rfl   -- loop.example/g01012/spec.l11Nines
instance : Callable Tryd.prog 164 := callable Tryd.func164 (by kernel_rfl) rfl   -- loop.example/g01012/impl.ValidCard$1
instance : Callable Tryd.prog 165 := callable Tryd.func165 (by kernel_rfl) rfl   -- strconv.FormatInt
end Go.Proofs.YtdkedajdgllilaaDoor

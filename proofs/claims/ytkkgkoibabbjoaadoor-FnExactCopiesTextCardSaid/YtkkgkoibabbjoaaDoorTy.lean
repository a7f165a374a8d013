/- What is known of this program's types and functions. -/
import Derived.Test.YtkkgkoibabbjoaaDoorL12
import Derived.Test.YtkkgkoibabbjoaaDoorChecked
namespace Go.Proofs.YtkkgkoibabbjoaaDoor
open Go Go.Gw
theorem mixed : Tryd.prog.follows .mixedOrders = true := by kernel_rfl
instance : TScal Tryd.prog 1 := ⟨⟨_, Tryd.underlying1, rfl⟩, by kernel_rfl⟩
instance : TScal Tryd.prog 2 := ⟨⟨_, Tryd.underlying2, rfl⟩, by kernel_rfl⟩
instance : TInt Tryd.prog 2 .i64 := ⟨Tryd.underlying2⟩
instance : TZero Tryd.prog 2 (.int .i64 0) := ⟨by kernel_rfl⟩
instance : TScal Tryd.prog 3 := ⟨⟨_, Tryd.underlying3, rfl⟩, by kernel_rfl⟩
instance : TInt Tryd.prog 3 .i64 := ⟨Tryd.underlying3⟩
instance : TZero Tryd.prog 3 (.int .i64 0) := ⟨by kernel_rfl⟩
instance : TScal Tryd.prog 4 := ⟨⟨_, Tryd.underlying4, rfl⟩, by kernel_rfl⟩
instance : TBool Tryd.prog 4 := ⟨Tryd.underlying4⟩
instance : TZero Tryd.prog 4 (.bool false) := ⟨by kernel_rfl⟩
instance : TScal Tryd.prog 5 := ⟨⟨_, Tryd.underlying5, rfl⟩, by kernel_rfl⟩
instance : TInt Tryd.prog 5 .u8 := ⟨Tryd.underlying5⟩
instance : TZero Tryd.prog 5 (.int .u8 0) := ⟨by kernel_rfl⟩
instance : TScal Tryd.prog 6 := ⟨⟨_, Tryd.underlying6, rfl⟩, by kernel_rfl⟩
instance : TInt Tryd.prog 6 .u8 := ⟨Tryd.underlying6⟩
instance : TZero Tryd.prog 6 (.int .u8 0) := ⟨by kernel_rfl⟩
instance : TStr Tryd.prog 7 4 := ⟨⟨_, Tryd.underlying7⟩, by kernel_rfl⟩
instance : TFldT Tryd.prog 7 0 0 2 := ⟨⟨_, _, Tryd.underlying7, rfl, rfl, rfl⟩⟩
instance : TFld Tryd.prog 7 0 0 := ⟨⟨_, _, Tryd.underlying7, rfl, rfl, _, (by kernel_rfl : (Tryd.prog.info? 2).map (·.size) = some (0 + 1))⟩⟩
instance : TFldT Tryd.prog 7 1 1 3 := ⟨⟨_, _, Tryd.underlying7, rfl, rfl, rfl⟩⟩
instance : TFld Tryd.prog 7 1 1 := ⟨⟨_, _, Tryd.underlying7, rfl, rfl, _, (by kernel_rfl : (Tryd.prog.info? 3).map (·.size) = some (0 + 1))⟩⟩
instance : TFldT Tryd.prog 7 2 2 4 := ⟨⟨_, _, Tryd.underlying7, rfl, rfl, rfl⟩⟩
instance : TFld Tryd.prog 7 2 2 := ⟨⟨_, _, Tryd.underlying7, rfl, rfl, _, (by kernel_rfl : (Tryd.prog.info? 4).map (·.size) = some (0 + 1))⟩⟩
instance : TFldT Tryd.prog 7 3 3 6 := ⟨⟨_, _, Tryd.underlying7, rfl, rfl, rfl⟩⟩
instance : TFld Tryd.prog 7 3 3 := ⟨⟨_, _, Tryd.underlying7, rfl, rfl, _, (by kernel_rfl : (Tryd.prog.info? 6).map (·.size) = some (0 + 1))⟩⟩
instance : TFlat Tryd.prog 7 [.int .i64 0, .int .i64 0, .bool false, .int .u8 0] := ⟨by kernel_rfl, _, Tryd.underlying7, by kernel_rfl⟩
instance : TZero Tryd.prog 7 (.agg #[.int .i64 0, .int .i64 0, .bool false, .int .u8 0]) := ⟨by kernel_rfl⟩
instance : TStr Tryd.prog 8 4 := ⟨⟨_, Tryd.underlying8⟩, by kernel_rfl⟩
instance : TFldT Tryd.prog 8 0 0 2 := ⟨⟨_, _, Tryd.underlying8, rfl, rfl, rfl⟩⟩
instance : TFld Tryd.prog 8 0 0 := ⟨⟨_, _, Tryd.underlying8, rfl, rfl, _, (by kernel_rfl : (Tryd.prog.info? 2).map (·.size) = some (0 + 1))⟩⟩
instance : TFldT Tryd.prog 8 1 1 3 := ⟨⟨_, _, Tryd.underlying8, rfl, rfl, rfl⟩⟩
instance : TFld Tryd.prog 8 1 1 := ⟨⟨_, _, Tryd.underlying8, rfl, rfl, _, (by kernel_rfl : (Tryd.prog.info? 3).map (·.size) = some (0 + 1))⟩⟩
instance : TFldT Tryd.prog 8 2 2 4 := ⟨⟨_, _, Tryd.underlying8, rfl, rfl, rfl⟩⟩
instance : TFld Tryd.prog 8 2 2 := ⟨⟨_, _, Tryd.underlying8, rfl, rfl, _, (by kernel_rfl : (Tryd.prog.info? 4).map (·.size) = some (0 + 1))⟩⟩
instance : TFldT Tryd.prog 8 3 3 6 := ⟨⟨_, _, Tryd.underlying8, rfl, rfl, rfl⟩⟩
instance : TFld Tryd.prog 8 3 3 := ⟨⟨_, _, Tryd.underlying8, rfl, rfl, _, (by kernel_rfl : (Tryd.prog.info? 6).map (·.size) = some (0 + 1))⟩⟩
instance : TFlat Tryd.prog 8 [.int .i64 0, .int .i64 0, .bool false, .int .u8 0] := ⟨by kernel_rfl, _, Tryd.underlying8, by kernel_rfl⟩
instance : TZero Tryd.prog 8 (.agg #[.int .i64 0, .int .i64 0, .bool false, .int .u8 0]) := ⟨by kernel_rfl⟩
instance : TScal Tryd.prog 9 := ⟨⟨_, Tryd.underlying9, rfl⟩, by kernel_rfl⟩
instance : TStg Tryd.prog 9 := ⟨Tryd.underlying9⟩
instance : TZero Tryd.prog 9 (.string ⟨#[]⟩) := ⟨by kernel_rfl⟩
instance : TScal Tryd.prog 10 := ⟨⟨_, Tryd.underlying10, rfl⟩, by kernel_rfl⟩
instance : TStg Tryd.prog 10 := ⟨Tryd.underlying10⟩
instance : TZero Tryd.prog 10 (.string ⟨#[]⟩) := ⟨by kernel_rfl⟩
instance : TScal Tryd.prog 11 := ⟨⟨_, Tryd.underlying11, rfl⟩, by kernel_rfl⟩
instance : TStg Tryd.prog 11 := ⟨Tryd.underlying11⟩
instance : TZero Tryd.prog 11 (.string ⟨#[]⟩) := ⟨by kernel_rfl⟩
instance : TScal Tryd.prog 12 := ⟨⟨_, Tryd.underlying12, rfl⟩, by kernel_rfl⟩
instance : TInt Tryd.prog 12 .u64 := ⟨Tryd.underlying12⟩
instance : TZero Tryd.prog 12 (.int .u64 0) := ⟨by kernel_rfl⟩
instance : TStr Tryd.prog 13 2 := ⟨⟨_, Tryd.underlying13⟩, by kernel_rfl⟩
instance : TFldT Tryd.prog 13 0 0 9 := ⟨⟨_, _, Tryd.underlying13, rfl, rfl, rfl⟩⟩
instance : TFld Tryd.prog 13 0 0 := ⟨⟨_, _, Tryd.underlying13, rfl, rfl, _, (by kernel_rfl : (Tryd.prog.info? 9).map (·.size) = some (0 + 1))⟩⟩
instance : TFldT Tryd.prog 13 1 1 12 := ⟨⟨_, _, Tryd.underlying13, rfl, rfl, rfl⟩⟩
instance : TFld Tryd.prog 13 1 1 := ⟨⟨_, _, Tryd.underlying13, rfl, rfl, _, (by kernel_rfl : (Tryd.prog.info? 12).map (·.size) = some (0 + 1))⟩⟩
instance : TFlat Tryd.prog 13 [.string ⟨#[]⟩, .int .u64 0] := ⟨by kernel_rfl, _, Tryd.underlying13, by kernel_rfl⟩
instance : TZero Tryd.prog 13 (.agg #[.string ⟨#[]⟩, .int .u64 0]) := ⟨by kernel_rfl⟩
instance : TStr Tryd.prog 14 2 := ⟨⟨_, Tryd.underlying14⟩, by kernel_rfl⟩
instance : TFldT Tryd.prog 14 0 0 9 := ⟨⟨_, _, Tryd.underlying14, rfl, rfl, rfl⟩⟩
instance : TFld Tryd.prog 14 0 0 := ⟨⟨_, _, Tryd.underlying14, rfl, rfl, _, (by kernel_rfl : (Tryd.prog.info? 9).map (·.size) = some (0 + 1))⟩⟩
instance : TFldT Tryd.prog 14 1 1 12 := ⟨⟨_, _, Tryd.underlying14, rfl, rfl, rfl⟩⟩
instance : TFld Tryd.prog 14 1 1 := ⟨⟨_, _, Tryd.underlying14, rfl, rfl, _, (by kernel_rfl : (Tryd.prog.info? 12).map (·.size) = some (0 + 1))⟩⟩
instance : TFlat Tryd.prog 14 [.string ⟨#[]⟩, .int .u64 0] := ⟨by kernel_rfl, _, Tryd.underlying14, by kernel_rfl⟩
instance : TZero Tryd.prog 14 (.agg #[.string ⟨#[]⟩, .int .u64 0]) := ⟨by kernel_rfl⟩
instance : TScal Tryd.prog 15 := ⟨⟨_, Tryd.underlying15, rfl⟩, by kernel_rfl⟩
instance : TScal Tryd.prog 16 := ⟨⟨_, Tryd.underlying16, rfl⟩, by kernel_rfl⟩
instance : TScal Tryd.prog 17 := ⟨⟨_, Tryd.underlying17, rfl⟩, by kernel_rfl⟩
instance : TStr Tryd.prog 18 1 := ⟨⟨_, Tryd.underlying18⟩, by kernel_rfl⟩
instance : TFldT Tryd.prog 18 0 0 17 := ⟨⟨_, _, Tryd.underlying18, rfl, rfl, rfl⟩⟩
instance : TFld Tryd.prog 18 0 0 := ⟨⟨_, _, Tryd.underlying18, rfl, rfl, _, (by kernel_rfl : (Tryd.prog.info? 17).map (·.size) = some (0 + 1))⟩⟩
instance : TFlat Tryd.prog 18 [.pointer none] := ⟨by kernel_rfl, _, Tryd.underlying18, by kernel_rfl⟩
instance : TZero Tryd.prog 18 (.agg #[.pointer none]) := ⟨by kernel_rfl⟩
instance : TStr Tryd.prog 19 1 := ⟨⟨_, Tryd.underlying19⟩, by kernel_rfl⟩
instance : TFldT Tryd.prog 19 0 0 17 := ⟨⟨_, _, Tryd.underlying19, rfl, rfl, rfl⟩⟩
instance : TFld Tryd.prog 19 0 0 := ⟨⟨_, _, Tryd.underlying19, rfl, rfl, _, (by kernel_rfl : (Tryd.prog.info? 17).map (·.size) = some (0 + 1))⟩⟩
instance : TFlat Tryd.prog 19 [.pointer none] := ⟨by kernel_rfl, _, Tryd.underlying19, by kernel_rfl⟩
instance : TZero Tryd.prog 19 (.agg #[.pointer none]) := ⟨by kernel_rfl⟩
instance : TScal Tryd.prog 20 := ⟨⟨_, Tryd.underlying20, rfl⟩, by kernel_rfl⟩
instance : TScal Tryd.prog 21 := ⟨⟨_, Tryd.underlying21, rfl⟩, by kernel_rfl⟩
instance : TInt Tryd.prog 21 .i32 := ⟨Tryd.underlying21⟩
instance : TZero Tryd.prog 21 (.int .i32 0) := ⟨by kernel_rfl⟩
instance : TScal Tryd.prog 22 := ⟨⟨_, Tryd.underlying22, rfl⟩, by kernel_rfl⟩
instance : TZero Tryd.prog 22 (.slice none 0 0) := ⟨by kernel_rfl⟩
instance : TSvE Tryd.prog 22 := ⟨trivial⟩
instance : TSli Tryd.prog 22 49 1 24 := ⟨Tryd.underlying22, by kernel_rfl, by kernel_rfl, by kernel_rfl, zlen_of (z := .agg #[.slice none 0 0]) (by kernel_rfl) rfl⟩
instance : TStr Tryd.prog 23 2 := ⟨⟨_, Tryd.underlying23⟩, by kernel_rfl⟩
instance : TFldT Tryd.prog 23 0 0 2 := ⟨⟨_, _, Tryd.underlying23, rfl, rfl, rfl⟩⟩
instance : TFld Tryd.prog 23 0 0 := ⟨⟨_, _, Tryd.underlying23, rfl, rfl, _, (by kernel_rfl : (Tryd.prog.info? 2).map (·.size) = some (0 + 1))⟩⟩
instance : TFldT Tryd.prog 23 1 1 2 := ⟨⟨_, _, Tryd.underlying23, rfl, rfl, rfl⟩⟩
instance : TFld Tryd.prog 23 1 1 := ⟨⟨_, _, Tryd.underlying23, rfl, rfl, _, (by kernel_rfl : (Tryd.prog.info? 2).map (·.size) = some (0 + 1))⟩⟩
instance : TFlat Tryd.prog 23 [.int .i64 0, .int .i64 0] := ⟨by kernel_rfl, _, Tryd.underlying23, by kernel_rfl⟩
instance : TZero Tryd.prog 23 (.agg #[.int .i64 0, .int .i64 0]) := ⟨by kernel_rfl⟩
instance : TPair Tryd.prog 24 := ⟨by kernel_rfl, by kernel_rfl, _, _, Tryd.underlying24, by decide, by decide, rfl, rfl, Tryd.underlying2, Tryd.underlying2⟩
instance : TStr Tryd.prog 24 2 := ⟨⟨_, Tryd.underlying24⟩, by kernel_rfl⟩
instance : TFldT Tryd.prog 24 0 0 2 := ⟨⟨_, _, Tryd.underlying24, rfl, rfl, rfl⟩⟩
instance : TFld Tryd.prog 24 0 0 := ⟨⟨_, _, Tryd.underlying24, rfl, rfl, _, (by kernel_rfl : (Tryd.prog.info? 2).map (·.size) = some (0 + 1))⟩⟩
instance : TFldT Tryd.prog 24 1 1 2 := ⟨⟨_, _, Tryd.underlying24, rfl, rfl, rfl⟩⟩
instance : TFld Tryd.prog 24 1 1 := ⟨⟨_, _, Tryd.underlying24, rfl, rfl, _, (by kernel_rfl : (Tryd.prog.info? 2).map (·.size) = some (0 + 1))⟩⟩
instance : TFlat Tryd.prog 24 [.int .i64 0, .int .i64 0] := ⟨by kernel_rfl, _, Tryd.underlying24, by kernel_rfl⟩
instance : TZero Tryd.prog 24 (.agg #[.int .i64 0, .int .i64 0]) := ⟨by kernel_rfl⟩
instance : TScal Tryd.prog 25 := ⟨⟨_, Tryd.underlying25, rfl⟩, by kernel_rfl⟩
instance : TScal Tryd.prog 26 := ⟨⟨_, Tryd.underlying26, rfl⟩, by kernel_rfl⟩
instance : TZero Tryd.prog 26 (.slice none 0 0) := ⟨by kernel_rfl⟩
instance : TSvE Tryd.prog 26 := ⟨trivial⟩
instance : TSli Tryd.prog 26 57 1 24 := ⟨Tryd.underlying26, by kernel_rfl, by kernel_rfl, by kernel_rfl, zlen_of (z := .agg #[.slice none 0 0]) (by kernel_rfl) rfl⟩
instance : TScal Tryd.prog 28 := ⟨⟨_, Tryd.underlying28, rfl⟩, by kernel_rfl⟩
instance : TScal Tryd.prog 29 := ⟨⟨_, Tryd.underlying29, rfl⟩, by kernel_rfl⟩
instance : TPair Tryd.prog 30 := ⟨by kernel_rfl, by kernel_rfl, _, _, Tryd.underlying30, by decide, by decide, rfl, rfl, Tryd.underlying2, Tryd.underlying2⟩
instance : TStr Tryd.prog 30 2 := ⟨⟨_, Tryd.underlying30⟩, by kernel_rfl⟩
instance : TFldT Tryd.prog 30 0 0 2 := ⟨⟨_, _, Tryd.underlying30, rfl, rfl, rfl⟩⟩
instance : TFld Tryd.prog 30 0 0 := ⟨⟨_, _, Tryd.underlying30, rfl, rfl, _, (by kernel_rfl : (Tryd.prog.info? 2).map (·.size) = some (0 + 1))⟩⟩
instance : TFldT Tryd.prog 30 1 1 2 := ⟨⟨_, _, Tryd.underlying30, rfl, rfl, rfl⟩⟩
instance : TFld Tryd.prog 30 1 1 := ⟨⟨_, _, Tryd.underlying30, rfl, rfl, _, (by kernel_rfl : (Tryd.prog.info? 2).map (·.size) = some (0 + 1))⟩⟩
instance : TFlat Tryd.prog 30 [.int .i64 0, .int .i64 0] := ⟨by kernel_rfl, _, Tryd.underlying30, by kernel_rfl⟩
instance : TZero Tryd.prog 30 (.agg #[.int .i64 0, .int .i64 0]) := ⟨by kernel_rfl⟩
instance : TScal Tryd.prog 31 := ⟨⟨_, Tryd.underlying31, rfl⟩, by kernel_rfl⟩
instance : TScal Tryd.prog 32 := ⟨⟨_, Tryd.underlying32, rfl⟩, by kernel_rfl⟩
instance : TScal Tryd.prog 33 := ⟨⟨_, Tryd.underlying33, rfl⟩, by kernel_rfl⟩
instance : TScal Tryd.prog 34 := ⟨⟨_, Tryd.underlying34, rfl⟩, by kernel_rfl⟩
instance : TScal Tryd.prog 35 := ⟨⟨_, Tryd.underlying35, rfl⟩, by kernel_rfl⟩
instance : TZero Tryd.prog 35 (.slice none 0 0) := ⟨by kernel_rfl⟩
instance : TSvE Tryd.prog 35 := ⟨trivial⟩
instance : TSli Tryd.prog 35 69 2 16 := ⟨Tryd.underlying35, by kernel_rfl, by kernel_rfl, by kernel_rfl, zlen_of (z := .agg #[.int .i64 0, .int .i64 0]) (by kernel_rfl) rfl⟩
instance : TScal Tryd.prog 36 := ⟨⟨_, Tryd.underlying36, rfl⟩, by kernel_rfl⟩
instance : TScal Tryd.prog 37 := ⟨⟨_, Tryd.underlying37, rfl⟩, by kernel_rfl⟩
instance : TScal Tryd.prog 38 := ⟨⟨_, Tryd.underlying38, rfl⟩, by kernel_rfl⟩
instance : TZero Tryd.prog 38 (.slice none 0 0) := ⟨by kernel_rfl⟩
instance : TSvE Tryd.prog 38 := ⟨trivial⟩
instance : TSli Tryd.prog 38 67 2 16 := ⟨Tryd.underlying38, by kernel_rfl, by kernel_rfl, by kernel_rfl, zlen_of (z := .agg #[.int .i64 0, .int .i64 0]) (by kernel_rfl) rfl⟩
instance : TScal Tryd.prog 39 := ⟨⟨_, Tryd.underlying39, rfl⟩, by kernel_rfl⟩
instance : TScal Tryd.prog 40 := ⟨⟨_, Tryd.underlying40, rfl⟩, by kernel_rfl⟩
instance : TScal Tryd.prog 41 := ⟨⟨_, Tryd.underlying41, rfl⟩, by kernel_rfl⟩
instance : TScal Tryd.prog 43 := ⟨⟨_, Tryd.underlying43, rfl⟩, by kernel_rfl⟩
instance : TScal Tryd.prog 44 := ⟨⟨_, Tryd.underlying44, rfl⟩, by kernel_rfl⟩
instance : TScal Tryd.prog 45 := ⟨⟨_, Tryd.underlying45, rfl⟩, by kernel_rfl⟩
instance : TScal Tryd.prog 46 := ⟨⟨_, Tryd.underlying46, rfl⟩, by kernel_rfl⟩
instance : TScal Tryd.prog 47 := ⟨⟨_, Tryd.underlying47, rfl⟩, by kernel_rfl⟩
instance : TZero Tryd.prog 47 (.slice none 0 0) := ⟨by kernel_rfl⟩
instance : TSvE Tryd.prog 47 := ⟨trivial⟩
instance : TSli Tryd.prog 47 2 1 8 := ⟨Tryd.underlying47, by kernel_rfl, by kernel_rfl, by kernel_rfl, zlen_of (z := .int .i64 0) (by kernel_rfl) rfl⟩
instance : TStr Tryd.prog 48 1 := ⟨⟨_, Tryd.underlying48⟩, by kernel_rfl⟩
instance : TFldT Tryd.prog 48 0 0 47 := ⟨⟨_, _, Tryd.underlying48, rfl, rfl, rfl⟩⟩
instance : TFld Tryd.prog 48 0 0 := ⟨⟨_, _, Tryd.underlying48, rfl, rfl, _, (by kernel_rfl : (Tryd.prog.info? 47).map (·.size) = some (0 + 1))⟩⟩
instance : TFlat Tryd.prog 48 [.slice none 0 0] := ⟨by kernel_rfl, _, Tryd.underlying48, by kernel_rfl⟩
instance : TZero Tryd.prog 48 (.agg #[.slice none 0 0]) := ⟨by kernel_rfl⟩
instance : TSvE Tryd.prog 48 := ⟨trivial⟩
instance : TStr Tryd.prog 49 1 := ⟨⟨_, Tryd.underlying49⟩, by kernel_rfl⟩
instance : TFldT Tryd.prog 49 0 0 47 := ⟨⟨_, _, Tryd.underlying49, rfl, rfl, rfl⟩⟩
instance : TFld Tryd.prog 49 0 0 := ⟨⟨_, _, Tryd.underlying49, rfl, rfl, _, (by kernel_rfl : (Tryd.prog.info? 47).map (·.size) = some (0 + 1))⟩⟩
instance : TFlat Tryd.prog 49 [.slice none 0 0] := ⟨by kernel_rfl, _, Tryd.underlying49, by kernel_rfl⟩
instance : TZero Tryd.prog 49 (.agg #[.slice none 0 0]) := ⟨by kernel_rfl⟩
instance : TSvE Tryd.prog 49 := ⟨trivial⟩
instance : TScal Tryd.prog 50 := ⟨⟨_, Tryd.underlying50, rfl⟩, by kernel_rfl⟩
instance : TScal Tryd.prog 51 := ⟨⟨_, Tryd.underlying51, rfl⟩, by kernel_rfl⟩
instance : TScal Tryd.prog 52 := ⟨⟨_, Tryd.underlying52, rfl⟩, by kernel_rfl⟩
instance : TScal Tryd.prog 53 := ⟨⟨_, Tryd.underlying53, rfl⟩, by kernel_rfl⟩
instance : TScal Tryd.prog 54 := ⟨⟨_, Tryd.underlying54, rfl⟩, by kernel_rfl⟩
instance : TScal Tryd.prog 56 := ⟨⟨_, Tryd.underlying56, rfl⟩, by kernel_rfl⟩
instance : TStr Tryd.prog 57 1 := ⟨⟨_, Tryd.underlying57⟩, by kernel_rfl⟩
instance : TFldT Tryd.prog 57 0 0 47 := ⟨⟨_, _, Tryd.underlying57, rfl, rfl, rfl⟩⟩
instance : TFld Tryd.prog 57 0 0 := ⟨⟨_, _, Tryd.underlying57, rfl, rfl, _, (by kernel_rfl : (Tryd.prog.info? 47).map (·.size) = some (0 + 1))⟩⟩
instance : TFlat Tryd.prog 57 [.slice none 0 0] := ⟨by kernel_rfl, _, Tryd.underlying57, by kernel_rfl⟩
instance : TZero Tryd.prog 57 (.agg #[.slice none 0 0]) := ⟨by kernel_rfl⟩
instance : TSvE Tryd.prog 57 := ⟨trivial⟩
instance : TScal Tryd.prog 58 := ⟨⟨_, Tryd.underlying58, rfl⟩, by kernel_rfl⟩
instance : TScal Tryd.prog 59 := ⟨⟨_, Tryd.underlying59, rfl⟩, by kernel_rfl⟩
instance : TScal Tryd.prog 60 := ⟨⟨_, Tryd.underlying60, rfl⟩, by kernel_rfl⟩
instance : TScal Tryd.prog 61 := ⟨⟨_, Tryd.underlying61, rfl⟩, by kernel_rfl⟩
instance : TScal Tryd.prog 62 := ⟨⟨_, Tryd.underlying62, rfl⟩, by kernel_rfl⟩
instance : TScal Tryd.prog 63 := ⟨⟨_, Tryd.underlying63, rfl⟩, by kernel_rfl⟩
instance : TScal Tryd.prog 64 := ⟨⟨_, Tryd.underlying64, rfl⟩, by kernel_rfl⟩
instance : TScal Tryd.prog 65 := ⟨⟨_, Tryd.underlying65, rfl⟩, by kernel_rfl⟩
instance : TScal Tryd.prog 66 := ⟨⟨_, Tryd.underlying66, rfl⟩, by kernel_rfl⟩
instance : TPair Tryd.prog 67 := ⟨by kernel_rfl, by kernel_rfl, _, _, Tryd.underlying67, by decide, by decide, rfl, rfl, Tryd.underlying2, Tryd.underlying2⟩
instance : TStr Tryd.prog 67 2 := ⟨⟨_, Tryd.underlying67⟩, by kernel_rfl⟩
instance : TFldT Tryd.prog 67 0 0 2 := ⟨⟨_, _, Tryd.underlying67, rfl, rfl, rfl⟩⟩
instance : TFld Tryd.prog 67 0 0 := ⟨⟨_, _, Tryd.underlying67, rfl, rfl, _, (by kernel_rfl : (Tryd.prog.info? 2).map (·.size) = some (0 + 1))⟩⟩
instance : TFldT Tryd.prog 67 1 1 2 := ⟨⟨_, _, Tryd.underlying67, rfl, rfl, rfl⟩⟩
instance : TFld Tryd.prog 67 1 1 := ⟨⟨_, _, Tryd.underlying67, rfl, rfl, _, (by kernel_rfl : (Tryd.prog.info? 2).map (·.size) = some (0 + 1))⟩⟩
instance : TFlat Tryd.prog 67 [.int .i64 0, .int .i64 0] := ⟨by kernel_rfl, _, Tryd.underlying67, by kernel_rfl⟩
instance : TZero Tryd.prog 67 (.agg #[.int .i64 0, .int .i64 0]) := ⟨by kernel_rfl⟩
instance : TScal Tryd.prog 68 := ⟨⟨_, Tryd.underlying68, rfl⟩, by kernel_rfl⟩
instance : TPair Tryd.prog 69 := ⟨by kernel_rfl, by kernel_rfl, _, _, Tryd.underlying69, by decide, by decide, rfl, rfl, Tryd.underlying2, Tryd.underlying2⟩
instance : TStr Tryd.prog 69 2 := ⟨⟨_, Tryd.underlying69⟩, by kernel_rfl⟩
instance : TFldT Tryd.prog 69 0 0 2 := ⟨⟨_, _, Tryd.underlying69, rfl, rfl, rfl⟩⟩
instance : TFld Tryd.prog 69 0 0 := ⟨⟨_, _, Tryd.underlying69, rfl, rfl, _, (by kernel_rfl : (Tryd.prog.info? 2).map (·.size) = some (0 + 1))⟩⟩
instance : TFldT Tryd.prog 69 1 1 2 := ⟨⟨_, _, Tryd.underlying69, rfl, rfl, rfl⟩⟩
instance : TFld Tryd.prog 69 1 1 := ⟨⟨_, _, Tryd.underlying69, rfl, rfl, _, (by kernel_rfl : (Tryd.prog.info? 2).map (·.size) = some (0 + 1))⟩⟩
instance : TFlat Tryd.prog 69 [.int .i64 0, .int .i64 0] := ⟨by kernel_rfl, _, Tryd.underlying69, by kernel_rfl⟩
instance : TZero Tryd.prog 69 (.agg #[.int .i64 0, .int .i64 0]) := ⟨by kernel_rfl⟩
instance : TScal Tryd.prog 70 := ⟨⟨_, Tryd.underlying70, rfl⟩, by kernel_rfl⟩
instance : TZero Tryd.prog 70 (.slice none 0 0) := ⟨by kernel_rfl⟩
instance : TSvE Tryd.prog 70 := ⟨trivial⟩
instance : TSli Tryd.prog 70 9 1 16 := ⟨Tryd.underlying70, by kernel_rfl, by kernel_rfl, by kernel_rfl, zlen_of (z := .string ⟨#[]⟩) (by kernel_rfl) rfl⟩
instance : TScal Tryd.prog 71 := ⟨⟨_, Tryd.underlying71, rfl⟩, by kernel_rfl⟩
instance : TScal Tryd.prog 72 := ⟨⟨_, Tryd.underlying72, rfl⟩, by kernel_rfl⟩
instance : TScal Tryd.prog 73 := ⟨⟨_, Tryd.underlying73, rfl⟩, by kernel_rfl⟩
instance : TScal Tryd.prog 74 := ⟨⟨_, Tryd.underlying74, rfl⟩, by kernel_rfl⟩
instance : TScal Tryd.prog 76 := ⟨⟨_, Tryd.underlying76, rfl⟩, by kernel_rfl⟩
instance : TScal Tryd.prog 77 := ⟨⟨_, Tryd.underlying77, rfl⟩, by kernel_rfl⟩
instance : TScal Tryd.prog 79 := ⟨⟨_, Tryd.underlying79, rfl⟩, by kernel_rfl⟩
instance : TScal Tryd.prog 80 := ⟨⟨_, Tryd.underlying80, rfl⟩, by kernel_rfl⟩
instance : TScal Tryd.prog 81 := ⟨⟨_, Tryd.underlying81, rfl⟩, by kernel_rfl⟩
instance : TScal Tryd.prog 82 := ⟨⟨_, Tryd.underlying82, rfl⟩, by kernel_rfl⟩
instance : TScal Tryd.prog 83 := ⟨⟨_, Tryd.underlying83, rfl⟩, by kernel_rfl⟩
instance : TScal Tryd.prog 84 := ⟨⟨_, Tryd.underlying84, rfl⟩, by kernel_rfl⟩
instance : TScal Tryd.prog 85 := ⟨⟨_, Tryd.underlying85, rfl⟩, by kernel_rfl⟩
instance : TScal Tryd.prog 86 := ⟨⟨_, Tryd.underlying86, rfl⟩, by kernel_rfl⟩
instance : TScal Tryd.prog 87 := ⟨⟨_, Tryd.underlying87, rfl⟩, by kernel_rfl⟩
instance : TScal Tryd.prog 88 := ⟨⟨_, Tryd.underlying88, rfl⟩, by kernel_rfl⟩
instance : TScal Tryd.prog 89 := ⟨⟨_, Tryd.underlying89, rfl⟩, by kernel_rfl⟩
instance : TScal Tryd.prog 90 := ⟨⟨_, Tryd.underlying90, rfl⟩, by kernel_rfl⟩
instance : TScal Tryd.prog 91 := ⟨⟨_, Tryd.underlying91, rfl⟩, by kernel_rfl⟩
instance : TZero Tryd.prog 91 (.slice none 0 0) := ⟨by kernel_rfl⟩
instance : TSvE Tryd.prog 91 := ⟨trivial⟩
instance : TSli Tryd.prog 91 5 1 1 := ⟨Tryd.underlying91, by kernel_rfl, by kernel_rfl, by kernel_rfl, zlen_of (z := .int .u8 0) (by kernel_rfl) rfl⟩
instance : TStr Tryd.prog 92 2 := ⟨⟨_, Tryd.underlying92⟩, by kernel_rfl⟩
instance : TFldT Tryd.prog 92 0 0 90 := ⟨⟨_, _, Tryd.underlying92, rfl, rfl, rfl⟩⟩
instance : TFld Tryd.prog 92 0 0 := ⟨⟨_, _, Tryd.underlying92, rfl, rfl, _, (by kernel_rfl : (Tryd.prog.info? 90).map (·.size) = some (0 + 1))⟩⟩
instance : TFldT Tryd.prog 92 1 1 91 := ⟨⟨_, _, Tryd.underlying92, rfl, rfl, rfl⟩⟩
instance : TFld Tryd.prog 92 1 1 := ⟨⟨_, _, Tryd.underlying92, rfl, rfl, _, (by kernel_rfl : (Tryd.prog.info? 91).map (·.size) = some (0 + 1))⟩⟩
instance : TFlat Tryd.prog 92 [.pointer none, .slice none 0 0] := ⟨by kernel_rfl, _, Tryd.underlying92, by kernel_rfl⟩
instance : TZero Tryd.prog 92 (.agg #[.pointer none, .slice none 0 0]) := ⟨by kernel_rfl⟩
instance : TStr Tryd.prog 93 2 := ⟨⟨_, Tryd.underlying93⟩, by kernel_rfl⟩
instance : TFldT Tryd.prog 93 0 0 90 := ⟨⟨_, _, Tryd.underlying93, rfl, rfl, rfl⟩⟩
instance : TFld Tryd.prog 93 0 0 := ⟨⟨_, _, Tryd.underlying93, rfl, rfl, _, (by kernel_rfl : (Tryd.prog.info? 90).map (·.size) = some (0 + 1))⟩⟩
instance : TFldT Tryd.prog 93 1 1 91 := ⟨⟨_, _, Tryd.underlying93, rfl, rfl, rfl⟩⟩
instance : TFld Tryd.prog 93 1 1 := ⟨⟨_, _, Tryd.underlying93, rfl, rfl, _, (by kernel_rfl : (Tryd.prog.info? 91).map (·.size) = some (0 + 1))⟩⟩
instance : TFlat Tryd.prog 93 [.pointer none, .slice none 0 0] := ⟨by kernel_rfl, _, Tryd.underlying93, by kernel_rfl⟩
instance : TZero Tryd.prog 93 (.agg #[.pointer none, .slice none 0 0]) := ⟨by kernel_rfl⟩
instance : TScal Tryd.prog 94 := ⟨⟨_, Tryd.underlying94, rfl⟩, by kernel_rfl⟩
instance : TScal Tryd.prog 95 := ⟨⟨_, Tryd.underlying95, rfl⟩, by kernel_rfl⟩
instance : TScal Tryd.prog 96 := ⟨⟨_, Tryd.underlying96, rfl⟩, by kernel_rfl⟩
instance : TScal Tryd.prog 98 := ⟨⟨_, Tryd.underlying98, rfl⟩, by kernel_rfl⟩
instance : TScal Tryd.prog 99 := ⟨⟨_, Tryd.underlying99, rfl⟩, by kernel_rfl⟩
instance : TScal Tryd.prog 100 := ⟨⟨_, Tryd.underlying100, rfl⟩, by kernel_rfl⟩
instance : TScal Tryd.prog 101 := ⟨⟨_, Tryd.underlying101, rfl⟩, by kernel_rfl⟩
instance : TScal Tryd.prog 103 := ⟨⟨_, Tryd.underlying103, rfl⟩, by kernel_rfl⟩
instance : TScal Tryd.prog 104 := ⟨⟨_, Tryd.underlying104, rfl⟩, by kernel_rfl⟩
instance : TScal Tryd.prog 105 := ⟨⟨_, Tryd.underlying105, rfl⟩, by kernel_rfl⟩
instance : TInt Tryd.prog 105 .u64 := ⟨Tryd.underlying105⟩
instance : TZero Tryd.prog 105 (.int .u64 0) := ⟨by kernel_rfl⟩
instance : TScal Tryd.prog 106 := ⟨⟨_, Tryd.underlying106, rfl⟩, by kernel_rfl⟩
instance : TScal Tryd.prog 107 := ⟨⟨_, Tryd.underlying107, rfl⟩, by kernel_rfl⟩
instance : TScal Tryd.prog 108 := ⟨⟨_, Tryd.underlying108, rfl⟩, by kernel_rfl⟩
instance : TScal Tryd.prog 109 := ⟨⟨_, Tryd.underlying109, rfl⟩, by kernel_rfl⟩
instance : TScal Tryd.prog 110 := ⟨⟨_, Tryd.underlying110, rfl⟩, by kernel_rfl⟩
instance : TScal Tryd.prog 111 := ⟨⟨_, Tryd.underlying111, rfl⟩, by kernel_rfl⟩
instance : TArr Tryd.prog 112 24 5 := ⟨Tryd.underlying112⟩
instance : TZero Tryd.prog 112 (.agg #[.int .u8 0, .int .u8 0, .int .u8 0, .int .u8 0, .int .u8 0, .int .u8 0, .int .u8 0, .int .u8 0, .int .u8 0, .int .u8 0, .int .u8 0, .int .u8 0, .int .u8 0, .int .u8 0, .int .u8 0, .int .u8 0, .int .u8 0, .int .u8 0, .int .u8 0, .int .u8 0, .int .u8 0, .int .u8 0, .int .u8 0, .int .u8 0]) := ⟨by kernel_rfl⟩
instance : TScal Tryd.prog 113 := ⟨⟨_, Tryd.underlying113, rfl⟩, by kernel_rfl⟩
instance : TInt Tryd.prog 113 .u64 := ⟨Tryd.underlying113⟩
instance : TZero Tryd.prog 113 (.int .u64 0) := ⟨by kernel_rfl⟩
instance : TScal Tryd.prog 114 := ⟨⟨_, Tryd.underlying114, rfl⟩, by kernel_rfl⟩
instance : TScal Tryd.prog 115 := ⟨⟨_, Tryd.underlying115, rfl⟩, by kernel_rfl⟩
instance : TScal Tryd.prog 117 := ⟨⟨_, Tryd.underlying117, rfl⟩, by kernel_rfl⟩
instance : TScal Tryd.prog 119 := ⟨⟨_, Tryd.underlying119, rfl⟩, by kernel_rfl⟩
instance : TScal Tryd.prog 120 := ⟨⟨_, Tryd.underlying120, rfl⟩, by kernel_rfl⟩
instance : TScal Tryd.prog 121 := ⟨⟨_, Tryd.underlying121, rfl⟩, by kernel_rfl⟩
instance : TScal Tryd.prog 123 := ⟨⟨_, Tryd.underlying123, rfl⟩, by kernel_rfl⟩
instance : TScal Tryd.prog 124 := ⟨⟨_, Tryd.underlying124, rfl⟩, by kernel_rfl⟩
instance : TScal Tryd.prog 125 := ⟨⟨_, Tryd.underlying125, rfl⟩, by kernel_rfl⟩
instance : TScal Tryd.prog 126 := ⟨⟨_, Tryd.underlying126, rfl⟩, by kernel_rfl⟩
instance : TInt Tryd.prog 126 .i64 := ⟨Tryd.underlying126⟩
instance : TZero Tryd.prog 126 (.int .i64 0) := ⟨by kernel_rfl⟩
instance : TScal Tryd.prog 128 := ⟨⟨_, Tryd.underlying128, rfl⟩, by kernel_rfl⟩
instance : TScal Tryd.prog 129 := ⟨⟨_, Tryd.underlying129, rfl⟩, by kernel_rfl⟩
instance : TScal Tryd.prog 130 := ⟨⟨_, Tryd.underlying130, rfl⟩, by kernel_rfl⟩
instance : TScal Tryd.prog 131 := ⟨⟨_, Tryd.underlying131, rfl⟩, by kernel_rfl⟩
instance : TScal Tryd.prog 132 := ⟨⟨_, Tryd.underlying132, rfl⟩, by kernel_rfl⟩
instance : TScal Tryd.prog 133 := ⟨⟨_, Tryd.underlying133, rfl⟩, by kernel_rfl⟩
instance : TArr Tryd.prog 134 20 113 := ⟨Tryd.underlying134⟩
instance : TZero Tryd.prog 134 (.agg #[.int .u64 0, .int .u64 0, .int .u64 0, .int .u64 0, .int .u64 0, .int .u64 0, .int .u64 0, .int .u64 0, .int .u64 0, .int .u64 0, .int .u64 0, .int .u64 0, .int .u64 0, .int .u64 0, .int .u64 0, .int .u64 0, .int .u64 0, .int .u64 0, .int .u64 0, .int .u64 0]) := ⟨by kernel_rfl⟩
instance : TScal Tryd.prog 135 := ⟨⟨_, Tryd.underlying135, rfl⟩, by kernel_rfl⟩
instance : TInt Tryd.prog 135 .u32 := ⟨Tryd.underlying135⟩
instance : TZero Tryd.prog 135 (.int .u32 0) := ⟨by kernel_rfl⟩
instance : TArr Tryd.prog 136 65 5 := ⟨Tryd.underlying136⟩
instance : TZero Tryd.prog 136 (.agg #[.int .u8 0, .int .u8 0, .int .u8 0, .int .u8 0, .int .u8 0, .int .u8 0, .int .u8 0, .int .u8 0, .int .u8 0, .int .u8 0, .int .u8 0, .int .u8 0, .int .u8 0, .int .u8 0, .int .u8 0, .int .u8 0, .int .u8 0, .int .u8 0, .int .u8 0, .int .u8 0, .int .u8 0, .int .u8 0, .int .u8 0, .int .u8 0, .int .u8 0, .int .u8 0, .int .u8 0, .int .u8 0, .int .u8 0, .int .u8 0, .int .u8 0, .int .u8 0, .int .u8 0, .int .u8 0, .int .u8 0, .int .u8 0, .int .u8 0, .int .u8 0, .int .u8 0, .int .u8 0, .int .u8 0, .int .u8 0, .int .u8 0, .int .u8 0, .int .u8 0, .int .u8 0, .int .u8 0, .int .u8 0, .int .u8 0, .int .u8 0, .int .u8 0, .int .u8 0, .int .u8 0, .int .u8 0, .int .u8 0, .int .u8 0, .int .u8 0, .int .u8 0, .int .u8 0, .int .u8 0, .int .u8 0, .int .u8 0, .int .u8 0, .int .u8 0, .int .u8 0]) := ⟨by kernel_rfl⟩
instance : TScal Tryd.prog 137 := ⟨⟨_, Tryd.underlying137, rfl⟩, by kernel_rfl⟩
instance : TScal Tryd.prog 138 := ⟨⟨_, Tryd.underlying138, rfl⟩, by kernel_rfl⟩
instance : TScal Tryd.prog 140 := ⟨⟨_, Tryd.underlying140, rfl⟩, by kernel_rfl⟩
instance : TScal Tryd.prog 141 := ⟨⟨_, Tryd.underlying141, rfl⟩, by kernel_rfl⟩
instance : TScal Tryd.prog 142 := ⟨⟨_, Tryd.underlying142, rfl⟩, by kernel_rfl⟩
instance : TStr Tryd.prog 143 3 := ⟨⟨_, Tryd.underlying143⟩, by kernel_rfl⟩
instance : TFldT Tryd.prog 143 0 0 9 := ⟨⟨_, _, Tryd.underlying143, rfl, rfl, rfl⟩⟩
instance : TFld Tryd.prog 143 0 0 := ⟨⟨_, _, Tryd.underlying143, rfl, rfl, _, (by kernel_rfl : (Tryd.prog.info? 9).map (·.size) = some (0 + 1))⟩⟩
instance : TFldT Tryd.prog 143 1 1 9 := ⟨⟨_, _, Tryd.underlying143, rfl, rfl, rfl⟩⟩
instance : TFld Tryd.prog 143 1 1 := ⟨⟨_, _, Tryd.underlying143, rfl, rfl, _, (by kernel_rfl : (Tryd.prog.info? 9).map (·.size) = some (0 + 1))⟩⟩
instance : TFldT Tryd.prog 143 2 2 96 := ⟨⟨_, _, Tryd.underlying143, rfl, rfl, rfl⟩⟩
instance : TFld Tryd.prog 143 2 2 := ⟨⟨_, _, Tryd.underlying143, rfl, rfl, _, (by kernel_rfl : (Tryd.prog.info? 96).map (·.size) = some (0 + 1))⟩⟩
instance : TFlat Tryd.prog 143 [.string ⟨#[]⟩, .string ⟨#[]⟩, .nilIface] := ⟨by kernel_rfl, _, Tryd.underlying143, by kernel_rfl⟩
instance : TZero Tryd.prog 143 (.agg #[.string ⟨#[]⟩, .string ⟨#[]⟩, .nilIface]) := ⟨by kernel_rfl⟩
instance : TStr Tryd.prog 144 3 := ⟨⟨_, Tryd.underlying144⟩, by kernel_rfl⟩
instance : TFldT Tryd.prog 144 0 0 9 := ⟨⟨_, _, Tryd.underlying144, rfl, rfl, rfl⟩⟩
instance : TFld Tryd.prog 144 0 0 := ⟨⟨_, _, Tryd.underlying144, rfl, rfl, _, (by kernel_rfl : (Tryd.prog.info? 9).map (·.size) = some (0 + 1))⟩⟩
instance : TFldT Tryd.prog 144 1 1 9 := ⟨⟨_, _, Tryd.underlying144, rfl, rfl, rfl⟩⟩
instance : TFld Tryd.prog 144 1 1 := ⟨⟨_, _, Tryd.underlying144, rfl, rfl, _, (by kernel_rfl : (Tryd.prog.info? 9).map (·.size) = some (0 + 1))⟩⟩
instance : TFldT Tryd.prog 144 2 2 96 := ⟨⟨_, _, Tryd.underlying144, rfl, rfl, rfl⟩⟩
instance : TFld Tryd.prog 144 2 2 := ⟨⟨_, _, Tryd.underlying144, rfl, rfl, _, (by kernel_rfl : (Tryd.prog.info? 96).map (·.size) = some (0 + 1))⟩⟩
instance : TFlat Tryd.prog 144 [.string ⟨#[]⟩, .string ⟨#[]⟩, .nilIface] := ⟨by kernel_rfl, _, Tryd.underlying144, by kernel_rfl⟩
instance : TZero Tryd.prog 144 (.agg #[.string ⟨#[]⟩, .string ⟨#[]⟩, .nilIface]) := ⟨by kernel_rfl⟩
instance : TScal Tryd.prog 145 := ⟨⟨_, Tryd.underlying145, rfl⟩, by kernel_rfl⟩
instance : TScal Tryd.prog 146 := ⟨⟨_, Tryd.underlying146, rfl⟩, by kernel_rfl⟩
instance : TArr Tryd.prog 147 256 5 := ⟨Tryd.underlying147⟩
instance : TZero Tryd.prog 147 (.agg #[.int .u8 0, .int .u8 0, .int .u8 0, .int .u8 0, .int .u8 0, .int .u8 0, .int .u8 0, .int .u8 0, .int .u8 0, .int .u8 0, .int .u8 0, .int .u8 0, .int .u8 0, .int .u8 0, .int .u8 0, .int .u8 0, .int .u8 0, .int .u8 0, .int .u8 0, .int .u8 0, .int .u8 0, .int .u8 0, .int .u8 0, .int .u8 0, .int .u8 0, .int .u8 0, .int .u8 0, .int .u8 0, .int .u8 0, .int .u8 0, .int .u8 0, .int .u8 0, .int .u8 0, .int .u8 0, .int .u8 0, .int .u8 0, .int .u8 0, .int .u8 0, .int .u8 0, .int .u8 0, .int .u8 0, .int .u8 0, .int .u8 0, .int .u8 0, .int .u8 0, .int .u8 0, .int .u8 0, .int .u8 0, .int .u8 0, .int .u8 0, .int .u8 0, .int .u8 0, .int .u8 0, .int .u8 0, .int .u8 0, .int .u8 0, .int .u8 0, .int .u8 0, .int .u8 0, .int .u8 0, .int .u8 0, .int .u8 0, .int .u8 0, .int .u8 0, .int .u8 0, .int .u8 0, .int .u8 0, .int .u8 0, .int .u8 0, .int .u8 0, .int .u8 0, .int .u8 0, .int .u8 0, .int .u8 0, .int .u8 0, .int .u8 0, .int .u8 0, .int .u8 0, .int .u8 0, .int .u8 0, .int .u8 0, .int .u8 0, .int .u8 0, .int .u8 0, .int .u8 0, .int .u8 0, .int .u8 0, .int .u8 0, .int .u8 0, .int .u8 0, .int .u8 0, .int .u8 0, .int .u8 0, .int .u8 0, .int .u8 0, .int .u8 0, .int .u8 0, .int .u8 0, .int .u8 0, .int .u8 0, .int .u8 0, .int .u8 0, .int .u8 0, .int .u8 0, .int .u8 0, .int .u8 0, .int .u8 0, .int .u8 0, .int .u8 0, .int .u8 0, .int .u8 0, .int .u8 0, .int .u8 0, .int .u8 0, .int .u8 0, .int .u8 0, .int .u8 0, .int .u8 0, .int .u8 0, .int .u8 0, .int .u8 0, .int .u8 0, .int .u8 0, .int .u8 0, .int .u8 0, .int .u8 0, .int .u8 0, .int .u8 0, .int .u8 0, .int .u8 0, .int .u8 0, .int .u8 0, .int .u8 0, .int .u8 0, .int .u8 0, .int .u8 0, .int .u8 0, .int .u8 0, .int .u8 0, .int .u8 0, .int .u8 0, .int .u8 0, .int .u8 0, .int .u8 0, .int .u8 0, .int .u8 0, .int .u8 0, .int .u8 0, .int .u8 0, .int .u8 0, .int .u8 0, .int .u8 0, .int .u8 0, .int .u8 0, .int .u8 0, .int .u8 0, .int .u8 0, .int .u8 0, .int .u8 0, .int .u8 0, .int .u8 0, .int .u8 0, .int .u8 0, .int .u8 0, .int .u8 0, .int .u8 0, .int .u8 0, .int .u8 0, .int .u8 0, .int .u8 0, .int .u8 0, .int .u8 0, .int .u8 0, .int .u8 0, .int .u8 0, .int .u8 0, .int .u8 0, .int .u8 0, .int .u8 0, .int .u8 0, .int .u8 0, .int .u8 0, .int .u8 0, .int .u8 0, .int .u8 0, .int .u8 0, .int .u8 0, .int .u8 0, .int .u8 0, .int .u8 0, .int .u8 0, .int .u8 0, .int .u8 0, .int .u8 0, .int .u8 0, .int .u8 0, .int .u8 0, .int .u8 0, .int .u8 0, .int .u8 0, .int .u8 0, .int .u8 0, .int .u8 0, .int .u8 0, .int .u8 0, .int .u8 0, .int .u8 0, .int .u8 0, .int .u8 0, .int .u8 0, .int .u8 0, .int .u8 0, .int .u8 0, .int .u8 0, .int .u8 0, .int .u8 0, .int .u8 0, .int .u8 0, .int .u8 0, .int .u8 0, .int .u8 0, .int .u8 0, .int .u8 0, .int .u8 0, .int .u8 0, .int .u8 0, .int .u8 0, .int .u8 0, .int .u8 0, .int .u8 0, .int .u8 0, .int .u8 0, .int .u8 0, .int .u8 0, .int .u8 0, .int .u8 0, .int .u8 0, .int .u8 0, .int .u8 0, .int .u8 0, .int .u8 0, .int .u8 0, .int .u8 0, .int .u8 0, .int .u8 0, .int .u8 0, .int .u8 0, .int .u8 0, .int .u8 0, .int .u8 0, .int .u8 0, .int .u8 0, .int .u8 0, .int .u8 0, .int .u8 0, .int .u8 0]) := ⟨by kernel_rfl⟩
instance : TStr Tryd.prog 148 2 := ⟨⟨_, Tryd.underlying148⟩, by kernel_rfl⟩
instance : TFldT Tryd.prog 148 0 0 5 := ⟨⟨_, _, Tryd.underlying148, rfl, rfl, rfl⟩⟩
instance : TFld Tryd.prog 148 0 0 := ⟨⟨_, _, Tryd.underlying148, rfl, rfl, _, (by kernel_rfl : (Tryd.prog.info? 5).map (·.size) = some (0 + 1))⟩⟩
instance : TFldT Tryd.prog 148 1 1 5 := ⟨⟨_, _, Tryd.underlying148, rfl, rfl, rfl⟩⟩
instance : TFld Tryd.prog 148 1 1 := ⟨⟨_, _, Tryd.underlying148, rfl, rfl, _, (by kernel_rfl : (Tryd.prog.info? 5).map (·.size) = some (0 + 1))⟩⟩
instance : TFlat Tryd.prog 148 [.int .u8 0, .int .u8 0] := ⟨by kernel_rfl, _, Tryd.underlying148, by kernel_rfl⟩
instance : TZero Tryd.prog 148 (.agg #[.int .u8 0, .int .u8 0]) := ⟨by kernel_rfl⟩
instance : TStr Tryd.prog 149 2 := ⟨⟨_, Tryd.underlying149⟩, by kernel_rfl⟩
instance : TFldT Tryd.prog 149 0 0 5 := ⟨⟨_, _, Tryd.underlying149, rfl, rfl, rfl⟩⟩
instance : TFld Tryd.prog 149 0 0 := ⟨⟨_, _, Tryd.underlying149, rfl, rfl, _, (by kernel_rfl : (Tryd.prog.info? 5).map (·.size) = some (0 + 1))⟩⟩
instance : TFldT Tryd.prog 149 1 1 5 := ⟨⟨_, _, Tryd.underlying149, rfl, rfl, rfl⟩⟩
instance : TFld Tryd.prog 149 1 1 := ⟨⟨_, _, Tryd.underlying149, rfl, rfl, _, (by kernel_rfl : (Tryd.prog.info? 5).map (·.size) = some (0 + 1))⟩⟩
instance : TFlat Tryd.prog 149 [.int .u8 0, .int .u8 0] := ⟨by kernel_rfl, _, Tryd.underlying149, by kernel_rfl⟩
instance : TZero Tryd.prog 149 (.agg #[.int .u8 0, .int .u8 0]) := ⟨by kernel_rfl⟩
instance : TArr Tryd.prog 150 16 149 := ⟨Tryd.underlying150⟩
instance : TZero Tryd.prog 150 (.agg #[.int .u8 0, .int .u8 0, .int .u8 0, .int .u8 0, .int .u8 0, .int .u8 0, .int .u8 0, .int .u8 0, .int .u8 0, .int .u8 0, .int .u8 0, .int .u8 0, .int .u8 0, .int .u8 0, .int .u8 0, .int .u8 0, .int .u8 0, .int .u8 0, .int .u8 0, .int .u8 0, .int .u8 0, .int .u8 0, .int .u8 0, .int .u8 0, .int .u8 0, .int .u8 0, .int .u8 0, .int .u8 0, .int .u8 0, .int .u8 0, .int .u8 0, .int .u8 0]) := ⟨by kernel_rfl⟩
instance : TScal Tryd.prog 151 := ⟨⟨_, Tryd.underlying151, rfl⟩, by kernel_rfl⟩
instance : TStr Tryd.prog 152 1 := ⟨⟨_, Tryd.underlying152⟩, by kernel_rfl⟩
instance : TFldT Tryd.prog 152 0 0 9 := ⟨⟨_, _, Tryd.underlying152, rfl, rfl, rfl⟩⟩
instance : TFld Tryd.prog 152 0 0 := ⟨⟨_, _, Tryd.underlying152, rfl, rfl, _, (by kernel_rfl : (Tryd.prog.info? 9).map (·.size) = some (0 + 1))⟩⟩
instance : TFlat Tryd.prog 152 [.string ⟨#[]⟩] := ⟨by kernel_rfl, _, Tryd.underlying152, by kernel_rfl⟩
instance : TZero Tryd.prog 152 (.agg #[.string ⟨#[]⟩]) := ⟨by kernel_rfl⟩
instance : TStr Tryd.prog 153 1 := ⟨⟨_, Tryd.underlying153⟩, by kernel_rfl⟩
instance : TFldT Tryd.prog 153 0 0 9 := ⟨⟨_, _, Tryd.underlying153, rfl, rfl, rfl⟩⟩
instance : TFld Tryd.prog 153 0 0 := ⟨⟨_, _, Tryd.underlying153, rfl, rfl, _, (by kernel_rfl : (Tryd.prog.info? 9).map (·.size) = some (0 + 1))⟩⟩
instance : TFlat Tryd.prog 153 [.string ⟨#[]⟩] := ⟨by kernel_rfl, _, Tryd.underlying153, by kernel_rfl⟩
instance : TZero Tryd.prog 153 (.agg #[.string ⟨#[]⟩]) := ⟨by kernel_rfl⟩
instance : TArr Tryd.prog 154 32 5 := ⟨Tryd.underlying154⟩
instance : TZero Tryd.prog 154 (.agg #[.int .u8 0, .int .u8 0, .int .u8 0, .int .u8 0, .int .u8 0, .int .u8 0, .int .u8 0, .int .u8 0, .int .u8 0, .int .u8 0, .int .u8 0, .int .u8 0, .int .u8 0, .int .u8 0, .int .u8 0, .int .u8 0, .int .u8 0, .int .u8 0, .int .u8 0, .int .u8 0, .int .u8 0, .int .u8 0, .int .u8 0, .int .u8 0, .int .u8 0, .int .u8 0, .int .u8 0, .int .u8 0, .int .u8 0, .int .u8 0, .int .u8 0, .int .u8 0]) := ⟨by kernel_rfl⟩
instance : TArr Tryd.prog 155 64 5 := ⟨Tryd.underlying155⟩
instance : TZero Tryd.prog 155 (.agg #[.int .u8 0, .int .u8 0, .int .u8 0, .int .u8 0, .int .u8 0, .int .u8 0, .int .u8 0, .int .u8 0, .int .u8 0, .int .u8 0, .int .u8 0, .int .u8 0, .int .u8 0, .int .u8 0, .int .u8 0, .int .u8 0, .int .u8 0, .int .u8 0, .int .u8 0, .int .u8 0, .int .u8 0, .int .u8 0, .int .u8 0, .int .u8 0, .int .u8 0, .int .u8 0, .int .u8 0, .int .u8 0, .int .u8 0, .int .u8 0, .int .u8 0, .int .u8 0, .int .u8 0, .int .u8 0, .int .u8 0, .int .u8 0, .int .u8 0, .int .u8 0, .int .u8 0, .int .u8 0, .int .u8 0, .int .u8 0, .int .u8 0, .int .u8 0, .int .u8 0, .int .u8 0, .int .u8 0, .int .u8 0, .int .u8 0, .int .u8 0, .int .u8 0, .int .u8 0, .int .u8 0, .int .u8 0, .int .u8 0, .int .u8 0, .int .u8 0, .int .u8 0, .int .u8 0, .int .u8 0, .int .u8 0, .int .u8 0, .int .u8 0, .int .u8 0]) := ⟨by kernel_rfl⟩
instance : TStr Tryd.prog 156 4 := ⟨⟨_, Tryd.underlying156⟩, by kernel_rfl⟩
instance : TFldT Tryd.prog 156 0 0 17 := ⟨⟨_, _, Tryd.underlying156, rfl, rfl, rfl⟩⟩
instance : TFld Tryd.prog 156 0 0 := ⟨⟨_, _, Tryd.underlying156, rfl, rfl, _, (by kernel_rfl : (Tryd.prog.info? 17).map (·.size) = some (0 + 1))⟩⟩
instance : TFldT Tryd.prog 156 1 1 17 := ⟨⟨_, _, Tryd.underlying156, rfl, rfl, rfl⟩⟩
instance : TFld Tryd.prog 156 1 1 := ⟨⟨_, _, Tryd.underlying156, rfl, rfl, _, (by kernel_rfl : (Tryd.prog.info? 17).map (·.size) = some (0 + 1))⟩⟩
instance : TFldT Tryd.prog 156 2 2 17 := ⟨⟨_, _, Tryd.underlying156, rfl, rfl, rfl⟩⟩
instance : TFld Tryd.prog 156 2 2 := ⟨⟨_, _, Tryd.underlying156, rfl, rfl, _, (by kernel_rfl : (Tryd.prog.info? 17).map (·.size) = some (0 + 1))⟩⟩
instance : TFldT Tryd.prog 156 3 3 9 := ⟨⟨_, _, Tryd.underlying156, rfl, rfl, rfl⟩⟩
instance : TFld Tryd.prog 156 3 3 := ⟨⟨_, _, Tryd.underlying156, rfl, rfl, _, (by kernel_rfl : (Tryd.prog.info? 9).map (·.size) = some (0 + 1))⟩⟩
instance : TFlat Tryd.prog 156 [.pointer none, .pointer none, .pointer none, .string ⟨#[]⟩] := ⟨by kernel_rfl, _, Tryd.underlying156, by kernel_rfl⟩
instance : TZero Tryd.prog 156 (.agg #[.pointer none, .pointer none, .pointer none, .string ⟨#[]⟩]) := ⟨by kernel_rfl⟩
instance : TStr Tryd.prog 157 4 := ⟨⟨_, Tryd.underlying157⟩, by kernel_rfl⟩
instance : TFldT Tryd.prog 157 0 0 17 := ⟨⟨_, _, Tryd.underlying157, rfl, rfl, rfl⟩⟩
instance : TFld Tryd.prog 157 0 0 := ⟨⟨_, _, Tryd.underlying157, rfl, rfl, _, (by kernel_rfl : (Tryd.prog.info? 17).map (·.size) = some (0 + 1))⟩⟩
instance : TFldT Tryd.prog 157 1 1 17 := ⟨⟨_, _, Tryd.underlying157, rfl, rfl, rfl⟩⟩
instance : TFld Tryd.prog 157 1 1 := ⟨⟨_, _, Tryd.underlying157, rfl, rfl, _, (by kernel_rfl : (Tryd.prog.info? 17).map (·.size) = some (0 + 1))⟩⟩
instance : TFldT Tryd.prog 157 2 2 17 := ⟨⟨_, _, Tryd.underlying157, rfl, rfl, rfl⟩⟩
instance : TFld Tryd.prog 157 2 2 := ⟨⟨_, _, Tryd.underlying157, rfl, rfl, _, (by kernel_rfl : (Tryd.prog.info? 17).map (·.size) = some (0 + 1))⟩⟩
instance : TFldT Tryd.prog 157 3 3 9 := ⟨⟨_, _, Tryd.underlying157, rfl, rfl, rfl⟩⟩
instance : TFld Tryd.prog 157 3 3 := ⟨⟨_, _, Tryd.underlying157, rfl, rfl, _, (by kernel_rfl : (Tryd.prog.info? 9).map (·.size) = some (0 + 1))⟩⟩
instance : TFlat Tryd.prog 157 [.pointer none, .pointer none, .pointer none, .string ⟨#[]⟩] := ⟨by kernel_rfl, _, Tryd.underlying157, by kernel_rfl⟩
instance : TZero Tryd.prog 157 (.agg #[.pointer none, .pointer none, .pointer none, .string ⟨#[]⟩]) := ⟨by kernel_rfl⟩
instance : TArr Tryd.prog 158 0 16 := ⟨Tryd.underlying158⟩
instance : TZero Tryd.prog 158 (.agg #[]) := ⟨by kernel_rfl⟩
instance : TScal Tryd.prog 161 := ⟨⟨_, Tryd.underlying161, rfl⟩, by kernel_rfl⟩
instance : TScal Tryd.prog 162 := ⟨⟨_, Tryd.underlying162, rfl⟩, by kernel_rfl⟩
instance : TInt Tryd.prog 162 .u8 := ⟨Tryd.underlying162⟩
instance : TZero Tryd.prog 162 (.int .u8 0) := ⟨by kernel_rfl⟩
instance : TScal Tryd.prog 163 := ⟨⟨_, Tryd.underlying163, rfl⟩, by kernel_rfl⟩
instance : TInt Tryd.prog 163 .u8 := ⟨Tryd.underlying163⟩
instance : TZero Tryd.prog 163 (.int .u8 0) := ⟨by kernel_rfl⟩
instance : TScal Tryd.prog 164 := ⟨⟨_, Tryd.underlying164, rfl⟩, by kernel_rfl⟩
instance : TScal Tryd.prog 165 := ⟨⟨_, Tryd.underlying165, rfl⟩, by kernel_rfl⟩
instance : TInt Tryd.prog 165 .i32 := ⟨Tryd.underlying165⟩
instance : TZero Tryd.prog 165 (.int .i32 0) := ⟨by kernel_rfl⟩
instance : TScal Tryd.prog 166 := ⟨⟨_, Tryd.underlying166, rfl⟩, by kernel_rfl⟩
instance : TInt Tryd.prog 166 .i32 := ⟨Tryd.underlying166⟩
instance : TZero Tryd.prog 166 (.int .i32 0) := ⟨by kernel_rfl⟩
instance : TStr Tryd.prog 167 11 := ⟨⟨_, Tryd.underlying167⟩, by kernel_rfl⟩
instance : TFldT Tryd.prog 167 0 0 12 := ⟨⟨_, _, Tryd.underlying167, rfl, rfl, rfl⟩⟩
instance : TFld Tryd.prog 167 0 0 := ⟨⟨_, _, Tryd.underlying167, rfl, rfl, _, (by kernel_rfl : (Tryd.prog.info? 12).map (·.size) = some (0 + 1))⟩⟩
instance : TFldT Tryd.prog 167 1 1 12 := ⟨⟨_, _, Tryd.underlying167, rfl, rfl, rfl⟩⟩
instance : TFld Tryd.prog 167 1 1 := ⟨⟨_, _, Tryd.underlying167, rfl, rfl, _, (by kernel_rfl : (Tryd.prog.info? 12).map (·.size) = some (0 + 1))⟩⟩
instance : TFldT Tryd.prog 167 2 2 135 := ⟨⟨_, _, Tryd.underlying167, rfl, rfl, rfl⟩⟩
instance : TFld Tryd.prog 167 2 2 := ⟨⟨_, _, Tryd.underlying167, rfl, rfl, _, (by kernel_rfl : (Tryd.prog.info? 135).map (·.size) = some (0 + 1))⟩⟩
instance : TFldT Tryd.prog 167 3 3 162 := ⟨⟨_, _, Tryd.underlying167, rfl, rfl, rfl⟩⟩
instance : TFld Tryd.prog 167 3 3 := ⟨⟨_, _, Tryd.underlying167, rfl, rfl, _, (by kernel_rfl : (Tryd.prog.info? 162).map (·.size) = some (0 + 1))⟩⟩
instance : TFldT Tryd.prog 167 4 4 5 := ⟨⟨_, _, Tryd.underlying167, rfl, rfl, rfl⟩⟩
instance : TFld Tryd.prog 167 4 4 := ⟨⟨_, _, Tryd.underlying167, rfl, rfl, _, (by kernel_rfl : (Tryd.prog.info? 5).map (·.size) = some (0 + 1))⟩⟩
instance : TFldT Tryd.prog 167 5 5 5 := ⟨⟨_, _, Tryd.underlying167, rfl, rfl, rfl⟩⟩
instance : TFld Tryd.prog 167 5 5 := ⟨⟨_, _, Tryd.underlying167, rfl, rfl, _, (by kernel_rfl : (Tryd.prog.info? 5).map (·.size) = some (0 + 1))⟩⟩
instance : TFldT Tryd.prog 167 6 6 163 := ⟨⟨_, _, Tryd.underlying167, rfl, rfl, rfl⟩⟩
instance : TFld Tryd.prog 167 6 6 := ⟨⟨_, _, Tryd.underlying167, rfl, rfl, _, (by kernel_rfl : (Tryd.prog.info? 163).map (·.size) = some (0 + 1))⟩⟩
instance : TFldT Tryd.prog 167 7 7 164 := ⟨⟨_, _, Tryd.underlying167, rfl, rfl, rfl⟩⟩
instance : TFld Tryd.prog 167 7 7 := ⟨⟨_, _, Tryd.underlying167, rfl, rfl, _, (by kernel_rfl : (Tryd.prog.info? 164).map (·.size) = some (0 + 1))⟩⟩
instance : TFldT Tryd.prog 167 8 8 107 := ⟨⟨_, _, Tryd.underlying167, rfl, rfl, rfl⟩⟩
instance : TFld Tryd.prog 167 8 8 := ⟨⟨_, _, Tryd.underlying167, rfl, rfl, _, (by kernel_rfl : (Tryd.prog.info? 107).map (·.size) = some (0 + 1))⟩⟩
instance : TFldT Tryd.prog 167 9 9 165 := ⟨⟨_, _, Tryd.underlying167, rfl, rfl, rfl⟩⟩
instance : TFld Tryd.prog 167 9 9 := ⟨⟨_, _, Tryd.underlying167, rfl, rfl, _, (by kernel_rfl : (Tryd.prog.info? 165).map (·.size) = some (0 + 1))⟩⟩
instance : TFldT Tryd.prog 167 10 10 166 := ⟨⟨_, _, Tryd.underlying167, rfl, rfl, rfl⟩⟩
instance : TFld Tryd.prog 167 10 10 := ⟨⟨_, _, Tryd.underlying167, rfl, rfl, _, (by kernel_rfl : (Tryd.prog.info? 166).map (·.size) = some (0 + 1))⟩⟩
instance : TFlat Tryd.prog 167 [.int .u64 0, .int .u64 0, .int .u32 0, .int .u8 0, .int .u8 0, .int .u8 0, .int .u8 0, .nilFunc, .pointer none, .int .i32 0, .int .i32 0] := ⟨by kernel_rfl, _, Tryd.underlying167, by kernel_rfl⟩
instance : TZero Tryd.prog 167 (.agg #[.int .u64 0, .int .u64 0, .int .u32 0, .int .u8 0, .int .u8 0, .int .u8 0, .int .u8 0, .nilFunc, .pointer none, .int .i32 0, .int .i32 0]) := ⟨by kernel_rfl⟩
instance : TStr Tryd.prog 168 11 := ⟨⟨_, Tryd.underlying168⟩, by kernel_rfl⟩
instance : TFldT Tryd.prog 168 0 0 12 := ⟨⟨_, _, Tryd.underlying168, rfl, rfl, rfl⟩⟩
instance : TFld Tryd.prog 168 0 0 := ⟨⟨_, _, Tryd.underlying168, rfl, rfl, _, (by kernel_rfl : (Tryd.prog.info? 12).map (·.size) = some (0 + 1))⟩⟩
instance : TFldT Tryd.prog 168 1 1 12 := ⟨⟨_, _, Tryd.underlying168, rfl, rfl, rfl⟩⟩
instance : TFld Tryd.prog 168 1 1 := ⟨⟨_, _, Tryd.underlying168, rfl, rfl, _, (by kernel_rfl : (Tryd.prog.info? 12).map (·.size) = some (0 + 1))⟩⟩
instance : TFldT Tryd.prog 168 2 2 135 := ⟨⟨_, _, Tryd.underlying168, rfl, rfl, rfl⟩⟩
instance : TFld Tryd.prog 168 2 2 := ⟨⟨_, _, Tryd.underlying168, rfl, rfl, _, (by kernel_rfl : (Tryd.prog.info? 135).map (·.size) = some (0 + 1))⟩⟩
instance : TFldT Tryd.prog 168 3 3 162 := ⟨⟨_, _, Tryd.underlying168, rfl, rfl, rfl⟩⟩
instance : TFld Tryd.prog 168 3 3 := ⟨⟨_, _, Tryd.underlying168, rfl, rfl, _, (by kernel_rfl : (Tryd.prog.info? 162).map (·.size) = some (0 + 1))⟩⟩
instance : TFldT Tryd.prog 168 4 4 5 := ⟨⟨_, _, Tryd.underlying168, rfl, rfl, rfl⟩⟩
instance : TFld Tryd.prog 168 4 4 := ⟨⟨_, _, Tryd.underlying168, rfl, rfl, _, (by kernel_rfl : (Tryd.prog.info? 5).map (·.size) = some (0 + 1))⟩⟩
instance : TFldT Tryd.prog 168 5 5 5 := ⟨⟨_, _, Tryd.underlying168, rfl, rfl, rfl⟩⟩
instance : TFld Tryd.prog 168 5 5 := ⟨⟨_, _, Tryd.underlying168, rfl, rfl, _, (by kernel_rfl : (Tryd.prog.info? 5).map (·.size) = some (0 + 1))⟩⟩
instance : TFldT Tryd.prog 168 6 6 163 := ⟨⟨_, _, Tryd.underlying168, rfl, rfl, rfl⟩⟩
instance : TFld Tryd.prog 168 6 6 := ⟨⟨_, _, Tryd.underlying168, rfl, rfl, _, (by kernel_rfl : (Tryd.prog.info? 163).map (·.size) = some (0 + 1))⟩⟩
instance : TFldT Tryd.prog 168 7 7 164 := ⟨⟨_, _, Tryd.underlying168, rfl, rfl, rfl⟩⟩
instance : TFld Tryd.prog 168 7 7 := ⟨⟨_, _, Tryd.underlying168, rfl, rfl, _, (by kernel_rfl : (Tryd.prog.info? 164).map (·.size) = some (0 + 1))⟩⟩
instance : TFldT Tryd.prog 168 8 8 107 := ⟨⟨_, _, Tryd.underlying168, rfl, rfl, rfl⟩⟩
instance : TFld Tryd.prog 168 8 8 := ⟨⟨_, _, Tryd.underlying168, rfl, rfl, _, (by kernel_rfl : (Tryd.prog.info? 107).map (·.size) = some (0 + 1))⟩⟩
instance : TFldT Tryd.prog 168 9 9 165 := ⟨⟨_, _, Tryd.underlying168, rfl, rfl, rfl⟩⟩
instance : TFld Tryd.prog 168 9 9 := ⟨⟨_, _, Tryd.underlying168, rfl, rfl, _, (by kernel_rfl : (Tryd.prog.info? 165).map (·.size) = some (0 + 1))⟩⟩
instance : TFldT Tryd.prog 168 10 10 166 := ⟨⟨_, _, Tryd.underlying168, rfl, rfl, rfl⟩⟩
instance : TFld Tryd.prog 168 10 10 := ⟨⟨_, _, Tryd.underlying168, rfl, rfl, _, (by kernel_rfl : (Tryd.prog.info? 166).map (·.size) = some (0 + 1))⟩⟩
instance : TFlat Tryd.prog 168 [.int .u64 0, .int .u64 0, .int .u32 0, .int .u8 0, .int .u8 0, .int .u8 0, .int .u8 0, .nilFunc, .pointer none, .int .i32 0, .int .i32 0] := ⟨by kernel_rfl, _, Tryd.underlying168, by kernel_rfl⟩
instance : TZero Tryd.prog 168 (.agg #[.int .u64 0, .int .u64 0, .int .u32 0, .int .u8 0, .int .u8 0, .int .u8 0, .int .u8 0, .nilFunc, .pointer none, .int .i32 0, .int .i32 0]) := ⟨by kernel_rfl⟩
instance : Callable Tryd.prog 3 := callable Tryd.func3 (by kernel_rfl) rfl   -- loop.example/g01012/laws.FnExactSerialPunch
instance : Callable Tryd.prog 4 := callable Tryd.func4 (by kernel_rfl) rfl   -- loop.example/g01012/laws.FnExactCopiesText
instance : Callable Tryd.prog 5 := callable Tryd.func5 (by kernel_rfl) rfl   -- loop.example/g01012/laws.FnExactReadCopies
instance : Callable Tryd.prog 6 := callable Tryd.func6 (by kernel_rfl) rfl   -- loop.example/g01012/laws.szCardS
instance : Callable Tryd.prog 7 := callable Tryd.func7 (by kernel_rfl) rfl   -- loop.example/g01012/spec.SerialPunch
instance : Callable Tryd.prog 8 := callable Tryd.func8 (by kernel_rfl) rfl   -- loop.example/g01012/laws.toCardS
instance : Callable Tryd.prog 9 := callable Tryd.func9 (by kernel_rfl) rfl   -- loop.example/g01012/laws.toField
instance : Callable Tryd.prog 10 := callable Tryd.func10 (by kernel_rfl) rfl   -- loop.example/g01012/impl.SerialPunch
instance : Callable Tryd.prog 11 := callable Tryd.func11 (by kernel_rfl) rfl   -- loop.example/g01012/laws.eqCardS
instance : Callable Tryd.prog 12 := callable Tryd.func12 (by kernel_rfl) rfl   -- loop.example/g01012/laws.markCardS
instance : Callable Tryd.prog 13 := callable Tryd.func13 (by kernel_rfl) rfl   -- loop.example/g01012/laws.heldCardS
instance : Callable Tryd.prog 14 := callable Tryd.func14 (by kernel_rfl) rfl   -- loop.example/g01012/laws.szCopyS
instance : Callable Tryd.prog 15 := callable Tryd.func15 (by kernel_rfl) rfl   -- loop.example/g01012/spec.CopiesText
instance : Callable Tryd.prog 16 := callable Tryd.func16 (by kernel_rfl) rfl   -- loop.example/g01012/laws.toCopyS
instance : Callable Tryd.prog 17 := callable Tryd.func17 (by kernel_rfl) rfl   -- loop.example/g01012/impl.CopiesText
instance : Callable Tryd.prog 18 := callable Tryd.func18 (by kernel_rfl) rfl   -- loop.example/g01012/laws.eqCopyS
instance : Callable Tryd.prog 19 := callable Tryd.func19 (by kernel_rfl) rfl   -- loop.example/g01012/spec.ReadCopies
instance : Callable Tryd.prog 20 := callable Tryd.func20 (by kernel_rfl) rfl   -- loop.example/g01012/impl.ReadCopies
instance : Callable Tryd.prog 21 := callable Tryd.func21 (by kernel_rfl) rfl   -- loop.example/g01012/laws.markCopyS
instance : Callable Tryd.prog 22 := callable Tryd.func22 (by kernel_rfl) rfl   -- loop.example/g01012/laws.heldCopyS
instance : Callable Tryd.prog 23 := callable Tryd.func23 (by kernel_rfl) rfl   -- loop.example/g01012/laws.szCard
instance : Callable Tryd.prog 24 := callable Tryd.func24 (by kernel_rfl) rfl   -- loop.example/g01012/spec.l02Deck
instance : Callable Tryd.prog 25 := callable Tryd.func25 (by kernel_rfl) rfl   -- loop.example/g01012/spec.l02Field
instance : Callable Tryd.prog 26 := callable Tryd.func26 (by kernel_rfl) rfl   -- loop.example/g01012/spec.l07WidthOf
instance : Callable Tryd.prog 27 := callable Tryd.func27 (by kernel_rfl) rfl   -- loop.example/g01012/spec.l00In
instance : Callable Tryd.prog 28 := callable Tryd.func28 (by kernel_rfl) rfl   -- loop.example/g01012/spec.l02Copy
instance : Callable Tryd.prog 29 := callable Tryd.func29 (by kernel_rfl) rfl   -- loop.example/g01012/spec.l03Put
instance : Callable Tryd.prog 30 := callable Tryd.func30 (by kernel_rfl) rfl   -- loop.example/g01012/laws.toCard
instance : Callable Tryd.prog 31 := callable Tryd.func31 (by kernel_rfl) rfl   -- loop.example/g01012/impl.ValidDeck
instance : Callable Tryd.prog 32 := callable Tryd.func32 (by kernel_rfl) rfl   -- loop.example/g01012/impl.isField
instance : Callable Tryd.prog 33 := callable Tryd.func33 (by kernel_rfl) rfl   -- loop.example/g01012/impl.deckColumns
instance : Callable Tryd.prog 34 := callable Tryd.func34 (by kernel_rfl) rfl   -- loop.example/g01012/impl.inside
instance : Callable Tryd.prog 35 := callable Tryd.func35 (by kernel_rfl) rfl   -- loop.example/g01012/impl.digitsOf
instance : Callable Tryd.prog 36 := callable Tryd.func36 (by kernel_rfl) rfl   -- slices.ContainsFunc[[]int64,int64]
instance : Callable Tryd.prog 37 := callable Tryd.func37 (by kernel_rfl) rfl   -- loop.example/g01012/impl.SerialPunch$1
instance : Callable Tryd.prog 38 := callable Tryd.func38 (by kernel_rfl) rfl   -- loop.example/g01012/impl.punchNumber
instance : Callable Tryd.prog 39 := callable Tryd.func39 (by kernel_rfl) rfl   -- loop.example/g01012/laws.eqCard
instance : Callable Tryd.prog 40 := callable Tryd.func40 (by kernel_rfl) rfl   -- loop.example/g01012/laws.markInt64S
instance : Callable Tryd.prog 41 := callable Tryd.func41 (by kernel_rfl) rfl   -- loop.example/g01012/laws.heldInt64S
instance : Callable Tryd.prog 42 := callable Tryd.func42 (by kernel_rfl) rfl   -- loop.example/g01012/spec.l10Plain
instance : Callable Tryd.prog 43 := callable Tryd.func43 (by kernel_rfl) rfl   -- loop.example/g01012/spec.l10Text
instance : Callable Tryd.prog 44 := callable Tryd.func44 (by kernel_rfl) rfl   -- loop.example/g01012/laws.toCopy
instance : Callable Tryd.prog 45 := callable Tryd.func45 (by kernel_rfl) rfl   -- loop.example/g01012/impl.isPlain
instance : Callable Tryd.prog 46 := callable Tryd.func46 (by kernel_rfl) rfl   -- loop.example/g01012/impl.Decimal
instance : Callable Tryd.prog 47 := callable Tryd.func47 (by kernel_rfl) rfl   -- strings.Join
instance : Callable Tryd.prog 48 := callable Tryd.func48 (by kernel_rfl) rfl   -- loop.example/g01012/laws.eqCopy
instance : Callable Tryd.prog 49 := callable Tryd.func49 (by kernel_rfl) rfl   -- loop.example/g01012/spec.l01Split
instance : Callable Tryd.prog 50 := callable Tryd.func50 (by kernel_rfl) rfl   -- loop.example/g01012/spec.l01Number
instance : Callable Tryd.prog 51 := callable Tryd.func51 (by kernel_rfl) rfl   -- strings.Split
instance : Callable Tryd.prog 52 := callable Tryd.func52 (by kernel_rfl) rfl   -- strings.Cut
instance : Callable Tryd.prog 53 := callable Tryd.func53 (by kernel_rfl) rfl   -- loop.example/g01012/impl.ReadDecimal
instance : Callable Tryd.prog 54 := callable Tryd.func54 (by kernel_rfl) rfl   -- loop.example/g01012/laws.szInt64S
instance : Callable Tryd.prog 55 := callable Tryd.func55 (by kernel_rfl) rfl   -- loop.example/g01012/spec.l02Ok
instance : Callable Tryd.prog 56 := callable Tryd.func56 (by kernel_rfl) rfl   -- loop.example/g01012/spec.l02Own
instance : Callable Tryd.prog 57 := callable Tryd.func57 (by kernel_rfl) rfl   -- loop.example/g01012/spec.l02Bit
instance : Callable Tryd.prog 58 := callable Tryd.func58 (by kernel_rfl) rfl   -- loop.example/g01012/laws.toInt64S
instance : Callable Tryd.prog 59 := callable Tryd.func59 (by kernel_rfl) rfl   -- loop.example/g01012/impl.ValidCard
instance : Callable Tryd.prog 60 := callable Tryd.func60 (by kernel_rfl) rfl   -- (loop.example/g01012/impl.Card).columns
instance : Callable Tryd.prog 61 := callable Tryd.func61 (by kernel_rfl) rfl   -- slices.IndexFunc[[]int64,int64]
instance : Callable Tryd.prog 62 := callable Tryd.func62 (by kernel_rfl) rfl   -- loop.example/g01012/impl.newCard
instance : Callable Tryd.prog 63 := callable Tryd.func63 (by kernel_rfl) rfl   -- loop.example/g01012/impl.absOf
instance : Callable Tryd.prog 64 := callable Tryd.func64 (by kernel_rfl) rfl   -- loop.example/g01012/impl.bitOf
instance : Callable Tryd.prog 65 := callable Tryd.func65 (by kernel_rfl) rfl   -- loop.example/g01012/laws.eqInt64S
instance : Callable Tryd.prog 66 := callable Tryd.func66 (by kernel_rfl) rfl   -- loop.example/g01012/spec.l01Dec
instance : Callable Tryd.prog 67 := callable Tryd.func67 (by kernel_rfl) rfl   -- strconv.FormatInt
instance : Callable Tryd.prog 71 := callable Tryd.func71 (by kernel_rfl) rfl   -- loop.example/g01012/spec.l01Digit
instance : Callable Tryd.prog 74 := callable Tryd.func74 (by kernel_rfl) rfl   -- strconv.ParseInt
instance : Callable Tryd.prog 75 := callable Tryd.func75 (by kernel_rfl) rfl   -- strings.TrimPrefix
instance : Callable Tryd.prog 76 := callable Tryd.func76 (by kernel_rfl) rfl   -- loop.example/g01012/spec.l00Own
instance : Callable Tryd.prog 77 := callable Tryd.func77 (by kernel_rfl) rfl   -- loop.example/g01012/impl.ValidCard$1
instance : Callable Tryd.prog 78 := callable Tryd.func78 (by kernel_rfl) rfl   -- loop.example/g01012/impl.size[int64]
instance : Callable Tryd.prog 79 := callable Tryd.func79 (by kernel_rfl) rfl   -- loop.example/g01012/impl.copyInts
end Go.Proofs.YtkkgkoibabbjoaaDoor

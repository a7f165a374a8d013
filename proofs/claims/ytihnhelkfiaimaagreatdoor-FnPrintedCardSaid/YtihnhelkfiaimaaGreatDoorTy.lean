/- What is known of this program's types and functions. -/
import Derived.Test.YtihnhelkfiaimaaGreatDoorL12
import Derived.Test.YtihnhelkfiaimaaGreatDoorChecked
namespace Go.Proofs.YtihnhelkfiaimaaGreatDoor
open Go Go.Gw
theorem mixed : Tryz.prog.follows .mixedOrders = true := by kernel_rfl
instance : TScal Tryz.prog 1 := ⟨⟨_, Tryz.underlying1, rfl⟩, by kernel_rfl⟩
instance : TScal Tryz.prog 2 := ⟨⟨_, Tryz.underlying2, rfl⟩, by kernel_rfl⟩
instance : TInt Tryz.prog 2 .i64 := ⟨Tryz.underlying2⟩
instance : TZero Tryz.prog 2 (.int .i64 0) := ⟨by kernel_rfl⟩
instance : TScal Tryz.prog 3 := ⟨⟨_, Tryz.underlying3, rfl⟩, by kernel_rfl⟩
instance : TInt Tryz.prog 3 .i64 := ⟨Tryz.underlying3⟩
instance : TZero Tryz.prog 3 (.int .i64 0) := ⟨by kernel_rfl⟩
instance : TScal Tryz.prog 4 := ⟨⟨_, Tryz.underlying4, rfl⟩, by kernel_rfl⟩
instance : TBool Tryz.prog 4 := ⟨Tryz.underlying4⟩
instance : TZero Tryz.prog 4 (.bool false) := ⟨by kernel_rfl⟩
instance : TScal Tryz.prog 5 := ⟨⟨_, Tryz.underlying5, rfl⟩, by kernel_rfl⟩
instance : TInt Tryz.prog 5 .u8 := ⟨Tryz.underlying5⟩
instance : TZero Tryz.prog 5 (.int .u8 0) := ⟨by kernel_rfl⟩
instance : TScal Tryz.prog 6 := ⟨⟨_, Tryz.underlying6, rfl⟩, by kernel_rfl⟩
instance : TInt Tryz.prog 6 .u8 := ⟨Tryz.underlying6⟩
instance : TZero Tryz.prog 6 (.int .u8 0) := ⟨by kernel_rfl⟩
instance : TStr Tryz.prog 7 4 := ⟨⟨_, Tryz.underlying7⟩, by kernel_rfl⟩
instance : TFldT Tryz.prog 7 0 0 2 := ⟨⟨_, _, Tryz.underlying7, rfl, rfl, rfl⟩⟩
instance : TFld Tryz.prog 7 0 0 := ⟨⟨_, _, Tryz.underlying7, rfl, rfl, _, (by kernel_rfl : (Tryz.prog.info? 2).map (·.size) = some (0 + 1))⟩⟩
instance : TFldT Tryz.prog 7 1 1 3 := ⟨⟨_, _, Tryz.underlying7, rfl, rfl, rfl⟩⟩
instance : TFld Tryz.prog 7 1 1 := ⟨⟨_, _, Tryz.underlying7, rfl, rfl, _, (by kernel_rfl : (Tryz.prog.info? 3).map (·.size) = some (0 + 1))⟩⟩
instance : TFldT Tryz.prog 7 2 2 4 := ⟨⟨_, _, Tryz.underlying7, rfl, rfl, rfl⟩⟩
instance : TFld Tryz.prog 7 2 2 := ⟨⟨_, _, Tryz.underlying7, rfl, rfl, _, (by kernel_rfl : (Tryz.prog.info? 4).map (·.size) = some (0 + 1))⟩⟩
instance : TFldT Tryz.prog 7 3 3 6 := ⟨⟨_, _, Tryz.underlying7, rfl, rfl, rfl⟩⟩
instance : TFld Tryz.prog 7 3 3 := ⟨⟨_, _, Tryz.underlying7, rfl, rfl, _, (by kernel_rfl : (Tryz.prog.info? 6).map (·.size) = some (0 + 1))⟩⟩
instance : TFlat Tryz.prog 7 [.int .i64 0, .int .i64 0, .bool false, .int .u8 0] := ⟨by kernel_rfl, _, Tryz.underlying7, by kernel_rfl⟩
instance : TZero Tryz.prog 7 (.agg #[.int .i64 0, .int .i64 0, .bool false, .int .u8 0]) := ⟨by kernel_rfl⟩
instance : TStr Tryz.prog 8 4 := ⟨⟨_, Tryz.underlying8⟩, by kernel_rfl⟩
instance : TFldT Tryz.prog 8 0 0 2 := ⟨⟨_, _, Tryz.underlying8, rfl, rfl, rfl⟩⟩
instance : TFld Tryz.prog 8 0 0 := ⟨⟨_, _, Tryz.underlying8, rfl, rfl, _, (by kernel_rfl : (Tryz.prog.info? 2).map (·.size) = some (0 + 1))⟩⟩
instance : TFldT Tryz.prog 8 1 1 3 := ⟨⟨_, _, Tryz.underlying8, rfl, rfl, rfl⟩⟩
instance : TFld Tryz.prog 8 1 1 := ⟨⟨_, _, Tryz.underlying8, rfl, rfl, _, (by kernel_rfl : (Tryz.prog.info? 3).map (·.size) = some (0 + 1))⟩⟩
instance : TFldT Tryz.prog 8 2 2 4 := ⟨⟨_, _, Tryz.underlying8, rfl, rfl, rfl⟩⟩
instance : TFld Tryz.prog 8 2 2 := ⟨⟨_, _, Tryz.underlying8, rfl, rfl, _, (by kernel_rfl : (Tryz.prog.info? 4).map (·.size) = some (0 + 1))⟩⟩
instance : TFldT Tryz.prog 8 3 3 6 := ⟨⟨_, _, Tryz.underlying8, rfl, rfl, rfl⟩⟩
instance : TFld Tryz.prog 8 3 3 := ⟨⟨_, _, Tryz.underlying8, rfl, rfl, _, (by kernel_rfl : (Tryz.prog.info? 6).map (·.size) = some (0 + 1))⟩⟩
instance : TFlat Tryz.prog 8 [.int .i64 0, .int .i64 0, .bool false, .int .u8 0] := ⟨by kernel_rfl, _, Tryz.underlying8, by kernel_rfl⟩
instance : TZero Tryz.prog 8 (.agg #[.int .i64 0, .int .i64 0, .bool false, .int .u8 0]) := ⟨by kernel_rfl⟩
instance : TScal Tryz.prog 9 := ⟨⟨_, Tryz.underlying9, rfl⟩, by kernel_rfl⟩
instance : TStg Tryz.prog 9 := ⟨Tryz.underlying9⟩
instance : TZero Tryz.prog 9 (.string ⟨#[]⟩) := ⟨by kernel_rfl⟩
instance : TScal Tryz.prog 10 := ⟨⟨_, Tryz.underlying10, rfl⟩, by kernel_rfl⟩
instance : TStg Tryz.prog 10 := ⟨Tryz.underlying10⟩
instance : TZero Tryz.prog 10 (.string ⟨#[]⟩) := ⟨by kernel_rfl⟩
instance : TScal Tryz.prog 11 := ⟨⟨_, Tryz.underlying11, rfl⟩, by kernel_rfl⟩
instance : TStg Tryz.prog 11 := ⟨Tryz.underlying11⟩
instance : TZero Tryz.prog 11 (.string ⟨#[]⟩) := ⟨by kernel_rfl⟩
instance : TScal Tryz.prog 12 := ⟨⟨_, Tryz.underlying12, rfl⟩, by kernel_rfl⟩
instance : TInt Tryz.prog 12 .u64 := ⟨Tryz.underlying12⟩
instance : TZero Tryz.prog 12 (.int .u64 0) := ⟨by kernel_rfl⟩
instance : TStr Tryz.prog 13 2 := ⟨⟨_, Tryz.underlying13⟩, by kernel_rfl⟩
instance : TFldT Tryz.prog 13 0 0 9 := ⟨⟨_, _, Tryz.underlying13, rfl, rfl, rfl⟩⟩
instance : TFld Tryz.prog 13 0 0 := ⟨⟨_, _, Tryz.underlying13, rfl, rfl, _, (by kernel_rfl : (Tryz.prog.info? 9).map (·.size) = some (0 + 1))⟩⟩
instance : TFldT Tryz.prog 13 1 1 12 := ⟨⟨_, _, Tryz.underlying13, rfl, rfl, rfl⟩⟩
instance : TFld Tryz.prog 13 1 1 := ⟨⟨_, _, Tryz.underlying13, rfl, rfl, _, (by kernel_rfl : (Tryz.prog.info? 12).map (·.size) = some (0 + 1))⟩⟩
instance : TFlat Tryz.prog 13 [.string ⟨#[]⟩, .int .u64 0] := ⟨by kernel_rfl, _, Tryz.underlying13, by kernel_rfl⟩
instance : TZero Tryz.prog 13 (.agg #[.string ⟨#[]⟩, .int .u64 0]) := ⟨by kernel_rfl⟩
instance : TStr Tryz.prog 14 2 := ⟨⟨_, Tryz.underlying14⟩, by kernel_rfl⟩
instance : TFldT Tryz.prog 14 0 0 9 := ⟨⟨_, _, Tryz.underlying14, rfl, rfl, rfl⟩⟩
instance : TFld Tryz.prog 14 0 0 := ⟨⟨_, _, Tryz.underlying14, rfl, rfl, _, (by kernel_rfl : (Tryz.prog.info? 9).map (·.size) = some (0 + 1))⟩⟩
instance : TFldT Tryz.prog 14 1 1 12 := ⟨⟨_, _, Tryz.underlying14, rfl, rfl, rfl⟩⟩
instance : TFld Tryz.prog 14 1 1 := ⟨⟨_, _, Tryz.underlying14, rfl, rfl, _, (by kernel_rfl : (Tryz.prog.info? 12).map (·.size) = some (0 + 1))⟩⟩
instance : TFlat Tryz.prog 14 [.string ⟨#[]⟩, .int .u64 0] := ⟨by kernel_rfl, _, Tryz.underlying14, by kernel_rfl⟩
instance : TZero Tryz.prog 14 (.agg #[.string ⟨#[]⟩, .int .u64 0]) := ⟨by kernel_rfl⟩
instance : TScal Tryz.prog 15 := ⟨⟨_, Tryz.underlying15, rfl⟩, by kernel_rfl⟩
instance : TScal Tryz.prog 16 := ⟨⟨_, Tryz.underlying16, rfl⟩, by kernel_rfl⟩
instance : TScal Tryz.prog 17 := ⟨⟨_, Tryz.underlying17, rfl⟩, by kernel_rfl⟩
instance : TStr Tryz.prog 18 1 := ⟨⟨_, Tryz.underlying18⟩, by kernel_rfl⟩
instance : TFldT Tryz.prog 18 0 0 17 := ⟨⟨_, _, Tryz.underlying18, rfl, rfl, rfl⟩⟩
instance : TFld Tryz.prog 18 0 0 := ⟨⟨_, _, Tryz.underlying18, rfl, rfl, _, (by kernel_rfl : (Tryz.prog.info? 17).map (·.size) = some (0 + 1))⟩⟩
instance : TFlat Tryz.prog 18 [.pointer none] := ⟨by kernel_rfl, _, Tryz.underlying18, by kernel_rfl⟩
instance : TZero Tryz.prog 18 (.agg #[.pointer none]) := ⟨by kernel_rfl⟩
instance : TStr Tryz.prog 19 1 := ⟨⟨_, Tryz.underlying19⟩, by kernel_rfl⟩
instance : TFldT Tryz.prog 19 0 0 17 := ⟨⟨_, _, Tryz.underlying19, rfl, rfl, rfl⟩⟩
instance : TFld Tryz.prog 19 0 0 := ⟨⟨_, _, Tryz.underlying19, rfl, rfl, _, (by kernel_rfl : (Tryz.prog.info? 17).map (·.size) = some (0 + 1))⟩⟩
instance : TFlat Tryz.prog 19 [.pointer none] := ⟨by kernel_rfl, _, Tryz.underlying19, by kernel_rfl⟩
instance : TZero Tryz.prog 19 (.agg #[.pointer none]) := ⟨by kernel_rfl⟩
instance : TScal Tryz.prog 20 := ⟨⟨_, Tryz.underlying20, rfl⟩, by kernel_rfl⟩
instance : TScal Tryz.prog 21 := ⟨⟨_, Tryz.underlying21, rfl⟩, by kernel_rfl⟩
instance : TInt Tryz.prog 21 .i32 := ⟨Tryz.underlying21⟩
instance : TZero Tryz.prog 21 (.int .i32 0) := ⟨by kernel_rfl⟩
instance : TScal Tryz.prog 22 := ⟨⟨_, Tryz.underlying22, rfl⟩, by kernel_rfl⟩
instance : TZero Tryz.prog 22 (.slice none 0 0) := ⟨by kernel_rfl⟩
instance : TSvE Tryz.prog 22 := ⟨trivial⟩
instance : TSli Tryz.prog 22 5 1 1 := ⟨Tryz.underlying22, by kernel_rfl, by kernel_rfl, by kernel_rfl, zlen_of (z := .int .u8 0) (by kernel_rfl) rfl⟩
instance : TScal Tryz.prog 23 := ⟨⟨_, Tryz.underlying23, rfl⟩, by kernel_rfl⟩
instance : TScal Tryz.prog 24 := ⟨⟨_, Tryz.underlying24, rfl⟩, by kernel_rfl⟩
instance : TZero Tryz.prog 24 (.slice none 0 0) := ⟨by kernel_rfl⟩
instance : TSvE Tryz.prog 24 := ⟨trivial⟩
instance : TSli Tryz.prog 24 43 1 24 := ⟨Tryz.underlying24, by kernel_rfl, by kernel_rfl, by kernel_rfl, zlen_of (z := .agg #[.slice none 0 0]) (by kernel_rfl) rfl⟩
instance : TScal Tryz.prog 25 := ⟨⟨_, Tryz.underlying25, rfl⟩, by kernel_rfl⟩
instance : TStr Tryz.prog 26 2 := ⟨⟨_, Tryz.underlying26⟩, by kernel_rfl⟩
instance : TFldT Tryz.prog 26 0 0 2 := ⟨⟨_, _, Tryz.underlying26, rfl, rfl, rfl⟩⟩
instance : TFld Tryz.prog 26 0 0 := ⟨⟨_, _, Tryz.underlying26, rfl, rfl, _, (by kernel_rfl : (Tryz.prog.info? 2).map (·.size) = some (0 + 1))⟩⟩
instance : TFldT Tryz.prog 26 1 1 2 := ⟨⟨_, _, Tryz.underlying26, rfl, rfl, rfl⟩⟩
instance : TFld Tryz.prog 26 1 1 := ⟨⟨_, _, Tryz.underlying26, rfl, rfl, _, (by kernel_rfl : (Tryz.prog.info? 2).map (·.size) = some (0 + 1))⟩⟩
instance : TFlat Tryz.prog 26 [.int .i64 0, .int .i64 0] := ⟨by kernel_rfl, _, Tryz.underlying26, by kernel_rfl⟩
instance : TZero Tryz.prog 26 (.agg #[.int .i64 0, .int .i64 0]) := ⟨by kernel_rfl⟩
instance : TPair Tryz.prog 27 := ⟨by kernel_rfl, by kernel_rfl, _, _, Tryz.underlying27, by decide, by decide, rfl, rfl, Tryz.underlying2, Tryz.underlying2⟩
instance : TStr Tryz.prog 27 2 := ⟨⟨_, Tryz.underlying27⟩, by kernel_rfl⟩
instance : TFldT Tryz.prog 27 0 0 2 := ⟨⟨_, _, Tryz.underlying27, rfl, rfl, rfl⟩⟩
instance : TFld Tryz.prog 27 0 0 := ⟨⟨_, _, Tryz.underlying27, rfl, rfl, _, (by kernel_rfl : (Tryz.prog.info? 2).map (·.size) = some (0 + 1))⟩⟩
instance : TFldT Tryz.prog 27 1 1 2 := ⟨⟨_, _, Tryz.underlying27, rfl, rfl, rfl⟩⟩
instance : TFld Tryz.prog 27 1 1 := ⟨⟨_, _, Tryz.underlying27, rfl, rfl, _, (by kernel_rfl : (Tryz.prog.info? 2).map (·.size) = some (0 + 1))⟩⟩
instance : TFlat Tryz.prog 27 [.int .i64 0, .int .i64 0] := ⟨by kernel_rfl, _, Tryz.underlying27, by kernel_rfl⟩
instance : TZero Tryz.prog 27 (.agg #[.int .i64 0, .int .i64 0]) := ⟨by kernel_rfl⟩
instance : TScal Tryz.prog 28 := ⟨⟨_, Tryz.underlying28, rfl⟩, by kernel_rfl⟩
instance : TZero Tryz.prog 28 (.slice none 0 0) := ⟨by kernel_rfl⟩
instance : TSvE Tryz.prog 28 := ⟨trivial⟩
instance : TSli Tryz.prog 28 27 2 16 := ⟨Tryz.underlying28, by kernel_rfl, by kernel_rfl, by kernel_rfl, zlen_of (z := .agg #[.int .i64 0, .int .i64 0]) (by kernel_rfl) rfl⟩
instance : TStr Tryz.prog 29 4 := ⟨⟨_, Tryz.underlying29⟩, by kernel_rfl⟩
instance : TFldT Tryz.prog 29 0 0 27 := ⟨⟨_, _, Tryz.underlying29, rfl, rfl, rfl⟩⟩
instance : TFld Tryz.prog 29 0 0 := ⟨⟨_, _, Tryz.underlying29, rfl, rfl, _, (by kernel_rfl : (Tryz.prog.info? 27).map (·.size) = some (1 + 1))⟩⟩
instance : TFldT Tryz.prog 29 1 2 28 := ⟨⟨_, _, Tryz.underlying29, rfl, rfl, rfl⟩⟩
instance : TFld Tryz.prog 29 1 2 := ⟨⟨_, _, Tryz.underlying29, rfl, rfl, _, (by kernel_rfl : (Tryz.prog.info? 28).map (·.size) = some (0 + 1))⟩⟩
instance : TFldT Tryz.prog 29 2 3 4 := ⟨⟨_, _, Tryz.underlying29, rfl, rfl, rfl⟩⟩
instance : TFld Tryz.prog 29 2 3 := ⟨⟨_, _, Tryz.underlying29, rfl, rfl, _, (by kernel_rfl : (Tryz.prog.info? 4).map (·.size) = some (0 + 1))⟩⟩
instance : TZero Tryz.prog 29 (.agg #[.int .i64 0, .int .i64 0, .slice none 0 0, .bool false]) := ⟨by kernel_rfl⟩
instance : TStr Tryz.prog 30 4 := ⟨⟨_, Tryz.underlying30⟩, by kernel_rfl⟩
instance : TFldT Tryz.prog 30 0 0 27 := ⟨⟨_, _, Tryz.underlying30, rfl, rfl, rfl⟩⟩
instance : TFld Tryz.prog 30 0 0 := ⟨⟨_, _, Tryz.underlying30, rfl, rfl, _, (by kernel_rfl : (Tryz.prog.info? 27).map (·.size) = some (1 + 1))⟩⟩
instance : TFldT Tryz.prog 30 1 2 28 := ⟨⟨_, _, Tryz.underlying30, rfl, rfl, rfl⟩⟩
instance : TFld Tryz.prog 30 1 2 := ⟨⟨_, _, Tryz.underlying30, rfl, rfl, _, (by kernel_rfl : (Tryz.prog.info? 28).map (·.size) = some (0 + 1))⟩⟩
instance : TFldT Tryz.prog 30 2 3 4 := ⟨⟨_, _, Tryz.underlying30, rfl, rfl, rfl⟩⟩
instance : TFld Tryz.prog 30 2 3 := ⟨⟨_, _, Tryz.underlying30, rfl, rfl, _, (by kernel_rfl : (Tryz.prog.info? 4).map (·.size) = some (0 + 1))⟩⟩
instance : TZero Tryz.prog 30 (.agg #[.int .i64 0, .int .i64 0, .slice none 0 0, .bool false]) := ⟨by kernel_rfl⟩
instance : TScal Tryz.prog 31 := ⟨⟨_, Tryz.underlying31, rfl⟩, by kernel_rfl⟩
instance : TScal Tryz.prog 32 := ⟨⟨_, Tryz.underlying32, rfl⟩, by kernel_rfl⟩
instance : TZero Tryz.prog 32 (.slice none 0 0) := ⟨by kernel_rfl⟩
instance : TSvE Tryz.prog 32 := ⟨trivial⟩
instance : TSli Tryz.prog 32 9 1 16 := ⟨Tryz.underlying32, by kernel_rfl, by kernel_rfl, by kernel_rfl, zlen_of (z := .string ⟨#[]⟩) (by kernel_rfl) rfl⟩
instance : TScal Tryz.prog 34 := ⟨⟨_, Tryz.underlying34, rfl⟩, by kernel_rfl⟩
instance : TScal Tryz.prog 36 := ⟨⟨_, Tryz.underlying36, rfl⟩, by kernel_rfl⟩
instance : TScal Tryz.prog 37 := ⟨⟨_, Tryz.underlying37, rfl⟩, by kernel_rfl⟩
instance : TZero Tryz.prog 37 (.slice none 0 0) := ⟨by kernel_rfl⟩
instance : TSvE Tryz.prog 37 := ⟨trivial⟩
instance : TSli Tryz.prog 37 2 1 8 := ⟨Tryz.underlying37, by kernel_rfl, by kernel_rfl, by kernel_rfl, zlen_of (z := .int .i64 0) (by kernel_rfl) rfl⟩
instance : TScal Tryz.prog 39 := ⟨⟨_, Tryz.underlying39, rfl⟩, by kernel_rfl⟩
instance : TScal Tryz.prog 40 := ⟨⟨_, Tryz.underlying40, rfl⟩, by kernel_rfl⟩
instance : TScal Tryz.prog 41 := ⟨⟨_, Tryz.underlying41, rfl⟩, by kernel_rfl⟩
instance : TStr Tryz.prog 42 1 := ⟨⟨_, Tryz.underlying42⟩, by kernel_rfl⟩
instance : TFldT Tryz.prog 42 0 0 37 := ⟨⟨_, _, Tryz.underlying42, rfl, rfl, rfl⟩⟩
instance : TFld Tryz.prog 42 0 0 := ⟨⟨_, _, Tryz.underlying42, rfl, rfl, _, (by kernel_rfl : (Tryz.prog.info? 37).map (·.size) = some (0 + 1))⟩⟩
instance : TFlat Tryz.prog 42 [.slice none 0 0] := ⟨by kernel_rfl, _, Tryz.underlying42, by kernel_rfl⟩
instance : TZero Tryz.prog 42 (.agg #[.slice none 0 0]) := ⟨by kernel_rfl⟩
instance : TSvE Tryz.prog 42 := ⟨trivial⟩
instance : TStr Tryz.prog 43 1 := ⟨⟨_, Tryz.underlying43⟩, by kernel_rfl⟩
instance : TFldT Tryz.prog 43 0 0 37 := ⟨⟨_, _, Tryz.underlying43, rfl, rfl, rfl⟩⟩
instance : TFld Tryz.prog 43 0 0 := ⟨⟨_, _, Tryz.underlying43, rfl, rfl, _, (by kernel_rfl : (Tryz.prog.info? 37).map (·.size) = some (0 + 1))⟩⟩
instance : TFlat Tryz.prog 43 [.slice none 0 0] := ⟨by kernel_rfl, _, Tryz.underlying43, by kernel_rfl⟩
instance : TZero Tryz.prog 43 (.agg #[.slice none 0 0]) := ⟨by kernel_rfl⟩
instance : TSvE Tryz.prog 43 := ⟨trivial⟩
instance : TScal Tryz.prog 44 := ⟨⟨_, Tryz.underlying44, rfl⟩, by kernel_rfl⟩
instance : TZero Tryz.prog 44 (.slice none 0 0) := ⟨by kernel_rfl⟩
instance : TSvE Tryz.prog 44 := ⟨trivial⟩
instance : TSli Tryz.prog 44 127 2 16 := ⟨Tryz.underlying44, by kernel_rfl, by kernel_rfl, by kernel_rfl, zlen_of (z := .agg #[.int .i64 0, .int .i64 0]) (by kernel_rfl) rfl⟩
instance : TScal Tryz.prog 46 := ⟨⟨_, Tryz.underlying46, rfl⟩, by kernel_rfl⟩
instance : TScal Tryz.prog 48 := ⟨⟨_, Tryz.underlying48, rfl⟩, by kernel_rfl⟩
instance : TScal Tryz.prog 50 := ⟨⟨_, Tryz.underlying50, rfl⟩, by kernel_rfl⟩
instance : TScal Tryz.prog 51 := ⟨⟨_, Tryz.underlying51, rfl⟩, by kernel_rfl⟩
instance : TScal Tryz.prog 53 := ⟨⟨_, Tryz.underlying53, rfl⟩, by kernel_rfl⟩
instance : TScal Tryz.prog 55 := ⟨⟨_, Tryz.underlying55, rfl⟩, by kernel_rfl⟩
instance : TScal Tryz.prog 56 := ⟨⟨_, Tryz.underlying56, rfl⟩, by kernel_rfl⟩
instance : TScal Tryz.prog 57 := ⟨⟨_, Tryz.underlying57, rfl⟩, by kernel_rfl⟩
instance : TScal Tryz.prog 58 := ⟨⟨_, Tryz.underlying58, rfl⟩, by kernel_rfl⟩
instance : TScal Tryz.prog 60 := ⟨⟨_, Tryz.underlying60, rfl⟩, by kernel_rfl⟩
instance : TScal Tryz.prog 61 := ⟨⟨_, Tryz.underlying61, rfl⟩, by kernel_rfl⟩
instance : TScal Tryz.prog 63 := ⟨⟨_, Tryz.underlying63, rfl⟩, by kernel_rfl⟩
instance : TScal Tryz.prog 64 := ⟨⟨_, Tryz.underlying64, rfl⟩, by kernel_rfl⟩
instance : TScal Tryz.prog 65 := ⟨⟨_, Tryz.underlying65, rfl⟩, by kernel_rfl⟩
instance : TScal Tryz.prog 66 := ⟨⟨_, Tryz.underlying66, rfl⟩, by kernel_rfl⟩
instance : TScal Tryz.prog 67 := ⟨⟨_, Tryz.underlying67, rfl⟩, by kernel_rfl⟩
instance : TScal Tryz.prog 69 := ⟨⟨_, Tryz.underlying69, rfl⟩, by kernel_rfl⟩
instance : TScal Tryz.prog 71 := ⟨⟨_, Tryz.underlying71, rfl⟩, by kernel_rfl⟩
instance : TScal Tryz.prog 73 := ⟨⟨_, Tryz.underlying73, rfl⟩, by kernel_rfl⟩
instance : TScal Tryz.prog 74 := ⟨⟨_, Tryz.underlying74, rfl⟩, by kernel_rfl⟩
instance : TScal Tryz.prog 76 := ⟨⟨_, Tryz.underlying76, rfl⟩, by kernel_rfl⟩
instance : TScal Tryz.prog 77 := ⟨⟨_, Tryz.underlying77, rfl⟩, by kernel_rfl⟩
instance : TScal Tryz.prog 79 := ⟨⟨_, Tryz.underlying79, rfl⟩, by kernel_rfl⟩
instance : TScal Tryz.prog 80 := ⟨⟨_, Tryz.underlying80, rfl⟩, by kernel_rfl⟩
instance : TScal Tryz.prog 82 := ⟨⟨_, Tryz.underlying82, rfl⟩, by kernel_rfl⟩
instance : TScal Tryz.prog 83 := ⟨⟨_, Tryz.underlying83, rfl⟩, by kernel_rfl⟩
instance : TScal Tryz.prog 84 := ⟨⟨_, Tryz.underlying84, rfl⟩, by kernel_rfl⟩
instance : TScal Tryz.prog 85 := ⟨⟨_, Tryz.underlying85, rfl⟩, by kernel_rfl⟩
instance : TScal Tryz.prog 86 := ⟨⟨_, Tryz.underlying86, rfl⟩, by kernel_rfl⟩
instance : TScal Tryz.prog 87 := ⟨⟨_, Tryz.underlying87, rfl⟩, by kernel_rfl⟩
instance : TScal Tryz.prog 88 := ⟨⟨_, Tryz.underlying88, rfl⟩, by kernel_rfl⟩
instance : TScal Tryz.prog 89 := ⟨⟨_, Tryz.underlying89, rfl⟩, by kernel_rfl⟩
instance : TScal Tryz.prog 90 := ⟨⟨_, Tryz.underlying90, rfl⟩, by kernel_rfl⟩
instance : TScal Tryz.prog 91 := ⟨⟨_, Tryz.underlying91, rfl⟩, by kernel_rfl⟩
instance : TScal Tryz.prog 92 := ⟨⟨_, Tryz.underlying92, rfl⟩, by kernel_rfl⟩
instance : TZero Tryz.prog 92 (.slice none 0 0) := ⟨by kernel_rfl⟩
instance : TSvE Tryz.prog 92 := ⟨trivial⟩
instance : TSli Tryz.prog 92 24 1 24 := ⟨Tryz.underlying92, by kernel_rfl, by kernel_rfl, by kernel_rfl, zlen_of (z := .slice none 0 0) (by kernel_rfl) rfl⟩
instance : TScal Tryz.prog 93 := ⟨⟨_, Tryz.underlying93, rfl⟩, by kernel_rfl⟩
instance : TScal Tryz.prog 94 := ⟨⟨_, Tryz.underlying94, rfl⟩, by kernel_rfl⟩
instance : TScal Tryz.prog 95 := ⟨⟨_, Tryz.underlying95, rfl⟩, by kernel_rfl⟩
instance : TScal Tryz.prog 96 := ⟨⟨_, Tryz.underlying96, rfl⟩, by kernel_rfl⟩
instance : TScal Tryz.prog 98 := ⟨⟨_, Tryz.underlying98, rfl⟩, by kernel_rfl⟩
instance : TScal Tryz.prog 99 := ⟨⟨_, Tryz.underlying99, rfl⟩, by kernel_rfl⟩
instance : TScal Tryz.prog 100 := ⟨⟨_, Tryz.underlying100, rfl⟩, by kernel_rfl⟩
instance : TZero Tryz.prog 100 (.slice none 0 0) := ⟨by kernel_rfl⟩
instance : TSvE Tryz.prog 100 := ⟨trivial⟩
instance : TSli Tryz.prog 100 37 1 24 := ⟨Tryz.underlying100, by kernel_rfl, by kernel_rfl, by kernel_rfl, zlen_of (z := .slice none 0 0) (by kernel_rfl) rfl⟩
instance : TStr Tryz.prog 101 3 := ⟨⟨_, Tryz.underlying101⟩, by kernel_rfl⟩
instance : TFldT Tryz.prog 101 0 0 32 := ⟨⟨_, _, Tryz.underlying101, rfl, rfl, rfl⟩⟩
instance : TFld Tryz.prog 101 0 0 := ⟨⟨_, _, Tryz.underlying101, rfl, rfl, _, (by kernel_rfl : (Tryz.prog.info? 32).map (·.size) = some (0 + 1))⟩⟩
instance : TFldT Tryz.prog 101 1 1 100 := ⟨⟨_, _, Tryz.underlying101, rfl, rfl, rfl⟩⟩
instance : TFld Tryz.prog 101 1 1 := ⟨⟨_, _, Tryz.underlying101, rfl, rfl, _, (by kernel_rfl : (Tryz.prog.info? 100).map (·.size) = some (0 + 1))⟩⟩
instance : TFldT Tryz.prog 101 2 2 37 := ⟨⟨_, _, Tryz.underlying101, rfl, rfl, rfl⟩⟩
instance : TFld Tryz.prog 101 2 2 := ⟨⟨_, _, Tryz.underlying101, rfl, rfl, _, (by kernel_rfl : (Tryz.prog.info? 37).map (·.size) = some (0 + 1))⟩⟩
instance : TFlat Tryz.prog 101 [.slice none 0 0, .slice none 0 0, .slice none 0 0] := ⟨by kernel_rfl, _, Tryz.underlying101, by kernel_rfl⟩
instance : TZero Tryz.prog 101 (.agg #[.slice none 0 0, .slice none 0 0, .slice none 0 0]) := ⟨by kernel_rfl⟩
instance : TStr Tryz.prog 102 3 := ⟨⟨_, Tryz.underlying102⟩, by kernel_rfl⟩
instance : TFldT Tryz.prog 102 0 0 32 := ⟨⟨_, _, Tryz.underlying102, rfl, rfl, rfl⟩⟩
instance : TFld Tryz.prog 102 0 0 := ⟨⟨_, _, Tryz.underlying102, rfl, rfl, _, (by kernel_rfl : (Tryz.prog.info? 32).map (·.size) = some (0 + 1))⟩⟩
instance : TFldT Tryz.prog 102 1 1 100 := ⟨⟨_, _, Tryz.underlying102, rfl, rfl, rfl⟩⟩
instance : TFld Tryz.prog 102 1 1 := ⟨⟨_, _, Tryz.underlying102, rfl, rfl, _, (by kernel_rfl : (Tryz.prog.info? 100).map (·.size) = some (0 + 1))⟩⟩
instance : TFldT Tryz.prog 102 2 2 37 := ⟨⟨_, _, Tryz.underlying102, rfl, rfl, rfl⟩⟩
instance : TFld Tryz.prog 102 2 2 := ⟨⟨_, _, Tryz.underlying102, rfl, rfl, _, (by kernel_rfl : (Tryz.prog.info? 37).map (·.size) = some (0 + 1))⟩⟩
instance : TFlat Tryz.prog 102 [.slice none 0 0, .slice none 0 0, .slice none 0 0] := ⟨by kernel_rfl, _, Tryz.underlying102, by kernel_rfl⟩
instance : TZero Tryz.prog 102 (.agg #[.slice none 0 0, .slice none 0 0, .slice none 0 0]) := ⟨by kernel_rfl⟩
instance : TScal Tryz.prog 103 := ⟨⟨_, Tryz.underlying103, rfl⟩, by kernel_rfl⟩
instance : TScal Tryz.prog 104 := ⟨⟨_, Tryz.underlying104, rfl⟩, by kernel_rfl⟩
instance : TScal Tryz.prog 105 := ⟨⟨_, Tryz.underlying105, rfl⟩, by kernel_rfl⟩
instance : TScal Tryz.prog 106 := ⟨⟨_, Tryz.underlying106, rfl⟩, by kernel_rfl⟩
instance : TScal Tryz.prog 107 := ⟨⟨_, Tryz.underlying107, rfl⟩, by kernel_rfl⟩
instance : TScal Tryz.prog 108 := ⟨⟨_, Tryz.underlying108, rfl⟩, by kernel_rfl⟩
instance : TScal Tryz.prog 109 := ⟨⟨_, Tryz.underlying109, rfl⟩, by kernel_rfl⟩
instance : TScal Tryz.prog 110 := ⟨⟨_, Tryz.underlying110, rfl⟩, by kernel_rfl⟩
instance : TScal Tryz.prog 111 := ⟨⟨_, Tryz.underlying111, rfl⟩, by kernel_rfl⟩
instance : TScal Tryz.prog 112 := ⟨⟨_, Tryz.underlying112, rfl⟩, by kernel_rfl⟩
instance : TScal Tryz.prog 113 := ⟨⟨_, Tryz.underlying113, rfl⟩, by kernel_rfl⟩
instance : TScal Tryz.prog 114 := ⟨⟨_, Tryz.underlying114, rfl⟩, by kernel_rfl⟩
instance : TScal Tryz.prog 115 := ⟨⟨_, Tryz.underlying115, rfl⟩, by kernel_rfl⟩
instance : TScal Tryz.prog 116 := ⟨⟨_, Tryz.underlying116, rfl⟩, by kernel_rfl⟩
instance : TScal Tryz.prog 117 := ⟨⟨_, Tryz.underlying117, rfl⟩, by kernel_rfl⟩
instance : TScal Tryz.prog 118 := ⟨⟨_, Tryz.underlying118, rfl⟩, by kernel_rfl⟩
instance : TScal Tryz.prog 119 := ⟨⟨_, Tryz.underlying119, rfl⟩, by kernel_rfl⟩
instance : TScal Tryz.prog 120 := ⟨⟨_, Tryz.underlying120, rfl⟩, by kernel_rfl⟩
instance : TScal Tryz.prog 121 := ⟨⟨_, Tryz.underlying121, rfl⟩, by kernel_rfl⟩
instance : TScal Tryz.prog 122 := ⟨⟨_, Tryz.underlying122, rfl⟩, by kernel_rfl⟩
instance : TScal Tryz.prog 123 := ⟨⟨_, Tryz.underlying123, rfl⟩, by kernel_rfl⟩
instance : TScal Tryz.prog 124 := ⟨⟨_, Tryz.underlying124, rfl⟩, by kernel_rfl⟩
instance : TScal Tryz.prog 125 := ⟨⟨_, Tryz.underlying125, rfl⟩, by kernel_rfl⟩
instance : TScal Tryz.prog 126 := ⟨⟨_, Tryz.underlying126, rfl⟩, by kernel_rfl⟩
instance : TPair Tryz.prog 127 := ⟨by kernel_rfl, by kernel_rfl, _, _, Tryz.underlying127, by decide, by decide, rfl, rfl, Tryz.underlying2, Tryz.underlying2⟩
instance : TStr Tryz.prog 127 2 := ⟨⟨_, Tryz.underlying127⟩, by kernel_rfl⟩
instance : TFldT Tryz.prog 127 0 0 2 := ⟨⟨_, _, Tryz.underlying127, rfl, rfl, rfl⟩⟩
instance : TFld Tryz.prog 127 0 0 := ⟨⟨_, _, Tryz.underlying127, rfl, rfl, _, (by kernel_rfl : (Tryz.prog.info? 2).map (·.size) = some (0 + 1))⟩⟩
instance : TFldT Tryz.prog 127 1 1 2 := ⟨⟨_, _, Tryz.underlying127, rfl, rfl, rfl⟩⟩
instance : TFld Tryz.prog 127 1 1 := ⟨⟨_, _, Tryz.underlying127, rfl, rfl, _, (by kernel_rfl : (Tryz.prog.info? 2).map (·.size) = some (0 + 1))⟩⟩
instance : TFlat Tryz.prog 127 [.int .i64 0, .int .i64 0] := ⟨by kernel_rfl, _, Tryz.underlying127, by kernel_rfl⟩
instance : TZero Tryz.prog 127 (.agg #[.int .i64 0, .int .i64 0]) := ⟨by kernel_rfl⟩
instance : TScal Tryz.prog 128 := ⟨⟨_, Tryz.underlying128, rfl⟩, by kernel_rfl⟩
instance : TScal Tryz.prog 129 := ⟨⟨_, Tryz.underlying129, rfl⟩, by kernel_rfl⟩
instance : TScal Tryz.prog 130 := ⟨⟨_, Tryz.underlying130, rfl⟩, by kernel_rfl⟩
instance : TScal Tryz.prog 131 := ⟨⟨_, Tryz.underlying131, rfl⟩, by kernel_rfl⟩
instance : TScal Tryz.prog 133 := ⟨⟨_, Tryz.underlying133, rfl⟩, by kernel_rfl⟩
instance : TScal Tryz.prog 135 := ⟨⟨_, Tryz.underlying135, rfl⟩, by kernel_rfl⟩
instance : TScal Tryz.prog 136 := ⟨⟨_, Tryz.underlying136, rfl⟩, by kernel_rfl⟩
instance : TScal Tryz.prog 137 := ⟨⟨_, Tryz.underlying137, rfl⟩, by kernel_rfl⟩
instance : TScal Tryz.prog 138 := ⟨⟨_, Tryz.underlying138, rfl⟩, by kernel_rfl⟩
instance : TScal Tryz.prog 139 := ⟨⟨_, Tryz.underlying139, rfl⟩, by kernel_rfl⟩
instance : TScal Tryz.prog 140 := ⟨⟨_, Tryz.underlying140, rfl⟩, by kernel_rfl⟩
instance : TScal Tryz.prog 141 := ⟨⟨_, Tryz.underlying141, rfl⟩, by kernel_rfl⟩
instance : TScal Tryz.prog 142 := ⟨⟨_, Tryz.underlying142, rfl⟩, by kernel_rfl⟩
instance : TScal Tryz.prog 143 := ⟨⟨_, Tryz.underlying143, rfl⟩, by kernel_rfl⟩
instance : TScal Tryz.prog 144 := ⟨⟨_, Tryz.underlying144, rfl⟩, by kernel_rfl⟩
instance : TScal Tryz.prog 145 := ⟨⟨_, Tryz.underlying145, rfl⟩, by kernel_rfl⟩
instance : TScal Tryz.prog 146 := ⟨⟨_, Tryz.underlying146, rfl⟩, by kernel_rfl⟩
instance : TScal Tryz.prog 147 := ⟨⟨_, Tryz.underlying147, rfl⟩, by kernel_rfl⟩
instance : TScal Tryz.prog 148 := ⟨⟨_, Tryz.underlying148, rfl⟩, by kernel_rfl⟩
instance : TScal Tryz.prog 149 := ⟨⟨_, Tryz.underlying149, rfl⟩, by kernel_rfl⟩
instance : TScal Tryz.prog 150 := ⟨⟨_, Tryz.underlying150, rfl⟩, by kernel_rfl⟩
instance : TScal Tryz.prog 151 := ⟨⟨_, Tryz.underlying151, rfl⟩, by kernel_rfl⟩
instance : TScal Tryz.prog 153 := ⟨⟨_, Tryz.underlying153, rfl⟩, by kernel_rfl⟩
instance : TScal Tryz.prog 154 := ⟨⟨_, Tryz.underlying154, rfl⟩, by kernel_rfl⟩
instance : TScal Tryz.prog 155 := ⟨⟨_, Tryz.underlying155, rfl⟩, by kernel_rfl⟩
instance : TScal Tryz.prog 156 := ⟨⟨_, Tryz.underlying156, rfl⟩, by kernel_rfl⟩
instance : TInt Tryz.prog 156 .u64 := ⟨Tryz.underlying156⟩
instance : TZero Tryz.prog 156 (.int .u64 0) := ⟨by kernel_rfl⟩
instance : TStr Tryz.prog 157 3 := ⟨⟨_, Tryz.underlying157⟩, by kernel_rfl⟩
instance : TFldT Tryz.prog 157 0 0 22 := ⟨⟨_, _, Tryz.underlying157, rfl, rfl, rfl⟩⟩
instance : TFld Tryz.prog 157 0 0 := ⟨⟨_, _, Tryz.underlying157, rfl, rfl, _, (by kernel_rfl : (Tryz.prog.info? 22).map (·.size) = some (0 + 1))⟩⟩
instance : TFldT Tryz.prog 157 1 1 3 := ⟨⟨_, _, Tryz.underlying157, rfl, rfl, rfl⟩⟩
instance : TFld Tryz.prog 157 1 1 := ⟨⟨_, _, Tryz.underlying157, rfl, rfl, _, (by kernel_rfl : (Tryz.prog.info? 3).map (·.size) = some (0 + 1))⟩⟩
instance : TFldT Tryz.prog 157 2 2 156 := ⟨⟨_, _, Tryz.underlying157, rfl, rfl, rfl⟩⟩
instance : TFld Tryz.prog 157 2 2 := ⟨⟨_, _, Tryz.underlying157, rfl, rfl, _, (by kernel_rfl : (Tryz.prog.info? 156).map (·.size) = some (0 + 1))⟩⟩
instance : TFlat Tryz.prog 157 [.slice none 0 0, .int .i64 0, .int .u64 0] := ⟨by kernel_rfl, _, Tryz.underlying157, by kernel_rfl⟩
instance : TZero Tryz.prog 157 (.agg #[.slice none 0 0, .int .i64 0, .int .u64 0]) := ⟨by kernel_rfl⟩
instance : TStr Tryz.prog 158 3 := ⟨⟨_, Tryz.underlying158⟩, by kernel_rfl⟩
instance : TFldT Tryz.prog 158 0 0 22 := ⟨⟨_, _, Tryz.underlying158, rfl, rfl, rfl⟩⟩
instance : TFld Tryz.prog 158 0 0 := ⟨⟨_, _, Tryz.underlying158, rfl, rfl, _, (by kernel_rfl : (Tryz.prog.info? 22).map (·.size) = some (0 + 1))⟩⟩
instance : TFldT Tryz.prog 158 1 1 3 := ⟨⟨_, _, Tryz.underlying158, rfl, rfl, rfl⟩⟩
instance : TFld Tryz.prog 158 1 1 := ⟨⟨_, _, Tryz.underlying158, rfl, rfl, _, (by kernel_rfl : (Tryz.prog.info? 3).map (·.size) = some (0 + 1))⟩⟩
instance : TFldT Tryz.prog 158 2 2 156 := ⟨⟨_, _, Tryz.underlying158, rfl, rfl, rfl⟩⟩
instance : TFld Tryz.prog 158 2 2 := ⟨⟨_, _, Tryz.underlying158, rfl, rfl, _, (by kernel_rfl : (Tryz.prog.info? 156).map (·.size) = some (0 + 1))⟩⟩
instance : TFlat Tryz.prog 158 [.slice none 0 0, .int .i64 0, .int .u64 0] := ⟨by kernel_rfl, _, Tryz.underlying158, by kernel_rfl⟩
instance : TZero Tryz.prog 158 (.agg #[.slice none 0 0, .int .i64 0, .int .u64 0]) := ⟨by kernel_rfl⟩
instance : TScal Tryz.prog 159 := ⟨⟨_, Tryz.underlying159, rfl⟩, by kernel_rfl⟩
instance : TScal Tryz.prog 160 := ⟨⟨_, Tryz.underlying160, rfl⟩, by kernel_rfl⟩
instance : TScal Tryz.prog 161 := ⟨⟨_, Tryz.underlying161, rfl⟩, by kernel_rfl⟩
instance : TScal Tryz.prog 162 := ⟨⟨_, Tryz.underlying162, rfl⟩, by kernel_rfl⟩
instance : TScal Tryz.prog 163 := ⟨⟨_, Tryz.underlying163, rfl⟩, by kernel_rfl⟩
instance : TScal Tryz.prog 164 := ⟨⟨_, Tryz.underlying164, rfl⟩, by kernel_rfl⟩
instance : TScal Tryz.prog 165 := ⟨⟨_, Tryz.underlying165, rfl⟩, by kernel_rfl⟩
instance : TScal Tryz.prog 166 := ⟨⟨_, Tryz.underlying166, rfl⟩, by kernel_rfl⟩
instance : TScal Tryz.prog 167 := ⟨⟨_, Tryz.underlying167, rfl⟩, by kernel_rfl⟩
instance : TScal Tryz.prog 168 := ⟨⟨_, Tryz.underlying168, rfl⟩, by kernel_rfl⟩
instance : TScal Tryz.prog 169 := ⟨⟨_, Tryz.underlying169, rfl⟩, by kernel_rfl⟩
instance : TScal Tryz.prog 170 := ⟨⟨_, Tryz.underlying170, rfl⟩, by kernel_rfl⟩
instance : TStr Tryz.prog 171 2 := ⟨⟨_, Tryz.underlying171⟩, by kernel_rfl⟩
instance : TFldT Tryz.prog 171 0 0 170 := ⟨⟨_, _, Tryz.underlying171, rfl, rfl, rfl⟩⟩
instance : TFld Tryz.prog 171 0 0 := ⟨⟨_, _, Tryz.underlying171, rfl, rfl, _, (by kernel_rfl : (Tryz.prog.info? 170).map (·.size) = some (0 + 1))⟩⟩
instance : TFldT Tryz.prog 171 1 1 22 := ⟨⟨_, _, Tryz.underlying171, rfl, rfl, rfl⟩⟩
instance : TFld Tryz.prog 171 1 1 := ⟨⟨_, _, Tryz.underlying171, rfl, rfl, _, (by kernel_rfl : (Tryz.prog.info? 22).map (·.size) = some (0 + 1))⟩⟩
instance : TFlat Tryz.prog 171 [.pointer none, .slice none 0 0] := ⟨by kernel_rfl, _, Tryz.underlying171, by kernel_rfl⟩
instance : TZero Tryz.prog 171 (.agg #[.pointer none, .slice none 0 0]) := ⟨by kernel_rfl⟩
instance : TStr Tryz.prog 172 2 := ⟨⟨_, Tryz.underlying172⟩, by kernel_rfl⟩
instance : TFldT Tryz.prog 172 0 0 170 := ⟨⟨_, _, Tryz.underlying172, rfl, rfl, rfl⟩⟩
instance : TFld Tryz.prog 172 0 0 := ⟨⟨_, _, Tryz.underlying172, rfl, rfl, _, (by kernel_rfl : (Tryz.prog.info? 170).map (·.size) = some (0 + 1))⟩⟩
instance : TFldT Tryz.prog 172 1 1 22 := ⟨⟨_, _, Tryz.underlying172, rfl, rfl, rfl⟩⟩
instance : TFld Tryz.prog 172 1 1 := ⟨⟨_, _, Tryz.underlying172, rfl, rfl, _, (by kernel_rfl : (Tryz.prog.info? 22).map (·.size) = some (0 + 1))⟩⟩
instance : TFlat Tryz.prog 172 [.pointer none, .slice none 0 0] := ⟨by kernel_rfl, _, Tryz.underlying172, by kernel_rfl⟩
instance : TZero Tryz.prog 172 (.agg #[.pointer none, .slice none 0 0]) := ⟨by kernel_rfl⟩
instance : TScal Tryz.prog 173 := ⟨⟨_, Tryz.underlying173, rfl⟩, by kernel_rfl⟩
instance : TScal Tryz.prog 174 := ⟨⟨_, Tryz.underlying174, rfl⟩, by kernel_rfl⟩
instance : TScal Tryz.prog 175 := ⟨⟨_, Tryz.underlying175, rfl⟩, by kernel_rfl⟩
instance : TScal Tryz.prog 177 := ⟨⟨_, Tryz.underlying177, rfl⟩, by kernel_rfl⟩
instance : TScal Tryz.prog 178 := ⟨⟨_, Tryz.underlying178, rfl⟩, by kernel_rfl⟩
instance : TScal Tryz.prog 179 := ⟨⟨_, Tryz.underlying179, rfl⟩, by kernel_rfl⟩
instance : TScal Tryz.prog 180 := ⟨⟨_, Tryz.underlying180, rfl⟩, by kernel_rfl⟩
instance : TScal Tryz.prog 181 := ⟨⟨_, Tryz.underlying181, rfl⟩, by kernel_rfl⟩
instance : TScal Tryz.prog 182 := ⟨⟨_, Tryz.underlying182, rfl⟩, by kernel_rfl⟩
instance : TScal Tryz.prog 183 := ⟨⟨_, Tryz.underlying183, rfl⟩, by kernel_rfl⟩
instance : TScal Tryz.prog 184 := ⟨⟨_, Tryz.underlying184, rfl⟩, by kernel_rfl⟩
instance : TInt Tryz.prog 184 .u64 := ⟨Tryz.underlying184⟩
instance : TZero Tryz.prog 184 (.int .u64 0) := ⟨by kernel_rfl⟩
instance : TScal Tryz.prog 185 := ⟨⟨_, Tryz.underlying185, rfl⟩, by kernel_rfl⟩
instance : TScal Tryz.prog 186 := ⟨⟨_, Tryz.underlying186, rfl⟩, by kernel_rfl⟩
instance : TScal Tryz.prog 187 := ⟨⟨_, Tryz.underlying187, rfl⟩, by kernel_rfl⟩
instance : TScal Tryz.prog 189 := ⟨⟨_, Tryz.underlying189, rfl⟩, by kernel_rfl⟩
instance : TScal Tryz.prog 190 := ⟨⟨_, Tryz.underlying190, rfl⟩, by kernel_rfl⟩
instance : TScal Tryz.prog 191 := ⟨⟨_, Tryz.underlying191, rfl⟩, by kernel_rfl⟩
instance : TScal Tryz.prog 192 := ⟨⟨_, Tryz.underlying192, rfl⟩, by kernel_rfl⟩
instance : TScal Tryz.prog 193 := ⟨⟨_, Tryz.underlying193, rfl⟩, by kernel_rfl⟩
instance : TScal Tryz.prog 194 := ⟨⟨_, Tryz.underlying194, rfl⟩, by kernel_rfl⟩
instance : TScal Tryz.prog 195 := ⟨⟨_, Tryz.underlying195, rfl⟩, by kernel_rfl⟩
instance : TScal Tryz.prog 196 := ⟨⟨_, Tryz.underlying196, rfl⟩, by kernel_rfl⟩
instance : TScal Tryz.prog 197 := ⟨⟨_, Tryz.underlying197, rfl⟩, by kernel_rfl⟩
instance : TScal Tryz.prog 198 := ⟨⟨_, Tryz.underlying198, rfl⟩, by kernel_rfl⟩
instance : TScal Tryz.prog 199 := ⟨⟨_, Tryz.underlying199, rfl⟩, by kernel_rfl⟩
instance : TScal Tryz.prog 200 := ⟨⟨_, Tryz.underlying200, rfl⟩, by kernel_rfl⟩
instance : TScal Tryz.prog 202 := ⟨⟨_, Tryz.underlying202, rfl⟩, by kernel_rfl⟩
instance : TScal Tryz.prog 203 := ⟨⟨_, Tryz.underlying203, rfl⟩, by kernel_rfl⟩
instance : TScal Tryz.prog 204 := ⟨⟨_, Tryz.underlying204, rfl⟩, by kernel_rfl⟩
instance : TScal Tryz.prog 205 := ⟨⟨_, Tryz.underlying205, rfl⟩, by kernel_rfl⟩
instance : TScal Tryz.prog 206 := ⟨⟨_, Tryz.underlying206, rfl⟩, by kernel_rfl⟩
instance : TScal Tryz.prog 207 := ⟨⟨_, Tryz.underlying207, rfl⟩, by kernel_rfl⟩
instance : TInt Tryz.prog 207 .i64 := ⟨Tryz.underlying207⟩
instance : TZero Tryz.prog 207 (.int .i64 0) := ⟨by kernel_rfl⟩
instance : TScal Tryz.prog 209 := ⟨⟨_, Tryz.underlying209, rfl⟩, by kernel_rfl⟩
instance : TScal Tryz.prog 210 := ⟨⟨_, Tryz.underlying210, rfl⟩, by kernel_rfl⟩
instance : TScal Tryz.prog 211 := ⟨⟨_, Tryz.underlying211, rfl⟩, by kernel_rfl⟩
instance : TScal Tryz.prog 213 := ⟨⟨_, Tryz.underlying213, rfl⟩, by kernel_rfl⟩
instance : TScal Tryz.prog 214 := ⟨⟨_, Tryz.underlying214, rfl⟩, by kernel_rfl⟩
instance : TScal Tryz.prog 215 := ⟨⟨_, Tryz.underlying215, rfl⟩, by kernel_rfl⟩
instance : TInt Tryz.prog 215 .u32 := ⟨Tryz.underlying215⟩
instance : TZero Tryz.prog 215 (.int .u32 0) := ⟨by kernel_rfl⟩
instance : TScal Tryz.prog 216 := ⟨⟨_, Tryz.underlying216, rfl⟩, by kernel_rfl⟩
instance : TScal Tryz.prog 217 := ⟨⟨_, Tryz.underlying217, rfl⟩, by kernel_rfl⟩
instance : TScal Tryz.prog 218 := ⟨⟨_, Tryz.underlying218, rfl⟩, by kernel_rfl⟩
instance : TScal Tryz.prog 219 := ⟨⟨_, Tryz.underlying219, rfl⟩, by kernel_rfl⟩
instance : TScal Tryz.prog 220 := ⟨⟨_, Tryz.underlying220, rfl⟩, by kernel_rfl⟩
instance : TScal Tryz.prog 221 := ⟨⟨_, Tryz.underlying221, rfl⟩, by kernel_rfl⟩
instance : TScal Tryz.prog 222 := ⟨⟨_, Tryz.underlying222, rfl⟩, by kernel_rfl⟩
instance : TScal Tryz.prog 223 := ⟨⟨_, Tryz.underlying223, rfl⟩, by kernel_rfl⟩
instance : TScal Tryz.prog 224 := ⟨⟨_, Tryz.underlying224, rfl⟩, by kernel_rfl⟩
instance : TArr Tryz.prog 225 24 5 := ⟨Tryz.underlying225⟩
instance : TZero Tryz.prog 225 (.agg #[.int .u8 0, .int .u8 0, .int .u8 0, .int .u8 0, .int .u8 0, .int .u8 0, .int .u8 0, .int .u8 0, .int .u8 0, .int .u8 0, .int .u8 0, .int .u8 0, .int .u8 0, .int .u8 0, .int .u8 0, .int .u8 0, .int .u8 0, .int .u8 0, .int .u8 0, .int .u8 0, .int .u8 0, .int .u8 0, .int .u8 0, .int .u8 0]) := ⟨by kernel_rfl⟩
instance : TScal Tryz.prog 226 := ⟨⟨_, Tryz.underlying226, rfl⟩, by kernel_rfl⟩
instance : TScal Tryz.prog 228 := ⟨⟨_, Tryz.underlying228, rfl⟩, by kernel_rfl⟩
instance : TScal Tryz.prog 230 := ⟨⟨_, Tryz.underlying230, rfl⟩, by kernel_rfl⟩
instance : TScal Tryz.prog 231 := ⟨⟨_, Tryz.underlying231, rfl⟩, by kernel_rfl⟩
instance : TScal Tryz.prog 232 := ⟨⟨_, Tryz.underlying232, rfl⟩, by kernel_rfl⟩
instance : TInt Tryz.prog 232 .u64 := ⟨Tryz.underlying232⟩
instance : TZero Tryz.prog 232 (.int .u64 0) := ⟨by kernel_rfl⟩
instance : TScal Tryz.prog 233 := ⟨⟨_, Tryz.underlying233, rfl⟩, by kernel_rfl⟩
instance : TScal Tryz.prog 234 := ⟨⟨_, Tryz.underlying234, rfl⟩, by kernel_rfl⟩
instance : TScal Tryz.prog 235 := ⟨⟨_, Tryz.underlying235, rfl⟩, by kernel_rfl⟩
instance : TScal Tryz.prog 236 := ⟨⟨_, Tryz.underlying236, rfl⟩, by kernel_rfl⟩
instance : TScal Tryz.prog 237 := ⟨⟨_, Tryz.underlying237, rfl⟩, by kernel_rfl⟩
instance : TScal Tryz.prog 238 := ⟨⟨_, Tryz.underlying238, rfl⟩, by kernel_rfl⟩
instance : TScal Tryz.prog 240 := ⟨⟨_, Tryz.underlying240, rfl⟩, by kernel_rfl⟩
instance : TScal Tryz.prog 241 := ⟨⟨_, Tryz.underlying241, rfl⟩, by kernel_rfl⟩
instance : TScal Tryz.prog 242 := ⟨⟨_, Tryz.underlying242, rfl⟩, by kernel_rfl⟩
instance : TScal Tryz.prog 243 := ⟨⟨_, Tryz.underlying243, rfl⟩, by kernel_rfl⟩
instance : TInt Tryz.prog 243 .i64 := ⟨Tryz.underlying243⟩
instance : TZero Tryz.prog 243 (.int .i64 0) := ⟨by kernel_rfl⟩
instance : TScal Tryz.prog 245 := ⟨⟨_, Tryz.underlying245, rfl⟩, by kernel_rfl⟩
instance : TScal Tryz.prog 246 := ⟨⟨_, Tryz.underlying246, rfl⟩, by kernel_rfl⟩
instance : TScal Tryz.prog 247 := ⟨⟨_, Tryz.underlying247, rfl⟩, by kernel_rfl⟩
instance : TScal Tryz.prog 248 := ⟨⟨_, Tryz.underlying248, rfl⟩, by kernel_rfl⟩
instance : TScal Tryz.prog 249 := ⟨⟨_, Tryz.underlying249, rfl⟩, by kernel_rfl⟩
instance : TScal Tryz.prog 250 := ⟨⟨_, Tryz.underlying250, rfl⟩, by kernel_rfl⟩
instance : TScal Tryz.prog 252 := ⟨⟨_, Tryz.underlying252, rfl⟩, by kernel_rfl⟩
instance : TScal Tryz.prog 253 := ⟨⟨_, Tryz.underlying253, rfl⟩, by kernel_rfl⟩
instance : TArr Tryz.prog 254 20 156 := ⟨Tryz.underlying254⟩
instance : TZero Tryz.prog 254 (.agg #[.int .u64 0, .int .u64 0, .int .u64 0, .int .u64 0, .int .u64 0, .int .u64 0, .int .u64 0, .int .u64 0, .int .u64 0, .int .u64 0, .int .u64 0, .int .u64 0, .int .u64 0, .int .u64 0, .int .u64 0, .int .u64 0, .int .u64 0, .int .u64 0, .int .u64 0, .int .u64 0]) := ⟨by kernel_rfl⟩
instance : TArr Tryz.prog 255 65 5 := ⟨Tryz.underlying255⟩
instance : TZero Tryz.prog 255 (.agg #[.int .u8 0, .int .u8 0, .int .u8 0, .int .u8 0, .int .u8 0, .int .u8 0, .int .u8 0, .int .u8 0, .int .u8 0, .int .u8 0, .int .u8 0, .int .u8 0, .int .u8 0, .int .u8 0, .int .u8 0, .int .u8 0, .int .u8 0, .int .u8 0, .int .u8 0, .int .u8 0, .int .u8 0, .int .u8 0, .int .u8 0, .int .u8 0, .int .u8 0, .int .u8 0, .int .u8 0, .int .u8 0, .int .u8 0, .int .u8 0, .int .u8 0, .int .u8 0, .int .u8 0, .int .u8 0, .int .u8 0, .int .u8 0, .int .u8 0, .int .u8 0, .int .u8 0, .int .u8 0, .int .u8 0, .int .u8 0, .int .u8 0, .int .u8 0, .int .u8 0, .int .u8 0, .int .u8 0, .int .u8 0, .int .u8 0, .int .u8 0, .int .u8 0, .int .u8 0, .int .u8 0, .int .u8 0, .int .u8 0, .int .u8 0, .int .u8 0, .int .u8 0, .int .u8 0, .int .u8 0, .int .u8 0, .int .u8 0, .int .u8 0, .int .u8 0, .int .u8 0]) := ⟨by kernel_rfl⟩
instance : TScal Tryz.prog 256 := ⟨⟨_, Tryz.underlying256, rfl⟩, by kernel_rfl⟩
instance : TScal Tryz.prog 257 := ⟨⟨_, Tryz.underlying257, rfl⟩, by kernel_rfl⟩
instance : TScal Tryz.prog 259 := ⟨⟨_, Tryz.underlying259, rfl⟩, by kernel_rfl⟩
instance : TScal Tryz.prog 261 := ⟨⟨_, Tryz.underlying261, rfl⟩, by kernel_rfl⟩
instance : TScal Tryz.prog 262 := ⟨⟨_, Tryz.underlying262, rfl⟩, by kernel_rfl⟩
instance : TScal Tryz.prog 263 := ⟨⟨_, Tryz.underlying263, rfl⟩, by kernel_rfl⟩
instance : TScal Tryz.prog 264 := ⟨⟨_, Tryz.underlying264, rfl⟩, by kernel_rfl⟩
instance : TStr Tryz.prog 265 3 := ⟨⟨_, Tryz.underlying265⟩, by kernel_rfl⟩
instance : TFldT Tryz.prog 265 0 0 9 := ⟨⟨_, _, Tryz.underlying265, rfl, rfl, rfl⟩⟩
instance : TFld Tryz.prog 265 0 0 := ⟨⟨_, _, Tryz.underlying265, rfl, rfl, _, (by kernel_rfl : (Tryz.prog.info? 9).map (·.size) = some (0 + 1))⟩⟩
instance : TFldT Tryz.prog 265 1 1 9 := ⟨⟨_, _, Tryz.underlying265, rfl, rfl, rfl⟩⟩
instance : TFld Tryz.prog 265 1 1 := ⟨⟨_, _, Tryz.underlying265, rfl, rfl, _, (by kernel_rfl : (Tryz.prog.info? 9).map (·.size) = some (0 + 1))⟩⟩
instance : TFldT Tryz.prog 265 2 2 175 := ⟨⟨_, _, Tryz.underlying265, rfl, rfl, rfl⟩⟩
instance : TFld Tryz.prog 265 2 2 := ⟨⟨_, _, Tryz.underlying265, rfl, rfl, _, (by kernel_rfl : (Tryz.prog.info? 175).map (·.size) = some (0 + 1))⟩⟩
instance : TFlat Tryz.prog 265 [.string ⟨#[]⟩, .string ⟨#[]⟩, .nilIface] := ⟨by kernel_rfl, _, Tryz.underlying265, by kernel_rfl⟩
instance : TZero Tryz.prog 265 (.agg #[.string ⟨#[]⟩, .string ⟨#[]⟩, .nilIface]) := ⟨by kernel_rfl⟩
instance : TStr Tryz.prog 266 3 := ⟨⟨_, Tryz.underlying266⟩, by kernel_rfl⟩
instance : TFldT Tryz.prog 266 0 0 9 := ⟨⟨_, _, Tryz.underlying266, rfl, rfl, rfl⟩⟩
instance : TFld Tryz.prog 266 0 0 := ⟨⟨_, _, Tryz.underlying266, rfl, rfl, _, (by kernel_rfl : (Tryz.prog.info? 9).map (·.size) = some (0 + 1))⟩⟩
instance : TFldT Tryz.prog 266 1 1 9 := ⟨⟨_, _, Tryz.underlying266, rfl, rfl, rfl⟩⟩
instance : TFld Tryz.prog 266 1 1 := ⟨⟨_, _, Tryz.underlying266, rfl, rfl, _, (by kernel_rfl : (Tryz.prog.info? 9).map (·.size) = some (0 + 1))⟩⟩
instance : TFldT Tryz.prog 266 2 2 175 := ⟨⟨_, _, Tryz.underlying266, rfl, rfl, rfl⟩⟩
instance : TFld Tryz.prog 266 2 2 := ⟨⟨_, _, Tryz.underlying266, rfl, rfl, _, (by kernel_rfl : (Tryz.prog.info? 175).map (·.size) = some (0 + 1))⟩⟩
instance : TFlat Tryz.prog 266 [.string ⟨#[]⟩, .string ⟨#[]⟩, .nilIface] := ⟨by kernel_rfl, _, Tryz.underlying266, by kernel_rfl⟩
instance : TZero Tryz.prog 266 (.agg #[.string ⟨#[]⟩, .string ⟨#[]⟩, .nilIface]) := ⟨by kernel_rfl⟩
instance : TScal Tryz.prog 267 := ⟨⟨_, Tryz.underlying267, rfl⟩, by kernel_rfl⟩
instance : TArr Tryz.prog 268 256 5 := ⟨Tryz.underlying268⟩
instance : TZero Tryz.prog 268 (.agg #[.int .u8 0, .int .u8 0, .int .u8 0, .int .u8 0, .int .u8 0, .int .u8 0, .int .u8 0, .int .u8 0, .int .u8 0, .int .u8 0, .int .u8 0, .int .u8 0, .int .u8 0, .int .u8 0, .int .u8 0, .int .u8 0, .int .u8 0, .int .u8 0, .int .u8 0, .int .u8 0, .int .u8 0, .int .u8 0, .int .u8 0, .int .u8 0, .int .u8 0, .int .u8 0, .int .u8 0, .int .u8 0, .int .u8 0, .int .u8 0, .int .u8 0, .int .u8 0, .int .u8 0, .int .u8 0, .int .u8 0, .int .u8 0, .int .u8 0, .int .u8 0, .int .u8 0, .int .u8 0, .int .u8 0, .int .u8 0, .int .u8 0, .int .u8 0, .int .u8 0, .int .u8 0, .int .u8 0, .int .u8 0, .int .u8 0, .int .u8 0, .int .u8 0, .int .u8 0, .int .u8 0, .int .u8 0, .int .u8 0, .int .u8 0, .int .u8 0, .int .u8 0, .int .u8 0, .int .u8 0, .int .u8 0, .int .u8 0, .int .u8 0, .int .u8 0, .int .u8 0, .int .u8 0, .int .u8 0, .int .u8 0, .int .u8 0, .int .u8 0, .int .u8 0, .int .u8 0, .int .u8 0, .int .u8 0, .int .u8 0, .int .u8 0, .int .u8 0, .int .u8 0, .int .u8 0, .int .u8 0, .int .u8 0, .int .u8 0, .int .u8 0, .int .u8 0, .int .u8 0, .int .u8 0, .int .u8 0, .int .u8 0, .int .u8 0, .int .u8 0, .int .u8 0, .int .u8 0, .int .u8 0, .int .u8 0, .int .u8 0, .int .u8 0, .int .u8 0, .int .u8 0, .int .u8 0, .int .u8 0, .int .u8 0, .int .u8 0, .int .u8 0, .int .u8 0, .int .u8 0, .int .u8 0, .int .u8 0, .int .u8 0, .int .u8 0, .int .u8 0, .int .u8 0, .int .u8 0, .int .u8 0, .int .u8 0, .int .u8 0, .int .u8 0, .int .u8 0, .int .u8 0, .int .u8 0, .int .u8 0, .int .u8 0, .int .u8 0, .int .u8 0, .int .u8 0, .int .u8 0, .int .u8 0, .int .u8 0, .int .u8 0, .int .u8 0, .int .u8 0, .int .u8 0, .int .u8 0, .int .u8 0, .int .u8 0, .int .u8 0, .int .u8 0, .int .u8 0, .int .u8 0, .int .u8 0, .int .u8 0, .int .u8 0, .int .u8 0, .int .u8 0, .int .u8 0, .int .u8 0, .int .u8 0, .int .u8 0, .int .u8 0, .int .u8 0, .int .u8 0, .int .u8 0, .int .u8 0, .int .u8 0, .int .u8 0, .int .u8 0, .int .u8 0, .int .u8 0, .int .u8 0, .int .u8 0, .int .u8 0, .int .u8 0, .int .u8 0, .int .u8 0, .int .u8 0, .int .u8 0, .int .u8 0, .int .u8 0, .int .u8 0, .int .u8 0, .int .u8 0, .int .u8 0, .int .u8 0, .int .u8 0, .int .u8 0, .int .u8 0, .int .u8 0, .int .u8 0, .int .u8 0, .int .u8 0, .int .u8 0, .int .u8 0, .int .u8 0, .int .u8 0, .int .u8 0, .int .u8 0, .int .u8 0, .int .u8 0, .int .u8 0, .int .u8 0, .int .u8 0, .int .u8 0, .int .u8 0, .int .u8 0, .int .u8 0, .int .u8 0, .int .u8 0, .int .u8 0, .int .u8 0, .int .u8 0, .int .u8 0, .int .u8 0, .int .u8 0, .int .u8 0, .int .u8 0, .int .u8 0, .int .u8 0, .int .u8 0, .int .u8 0, .int .u8 0, .int .u8 0, .int .u8 0, .int .u8 0, .int .u8 0, .int .u8 0, .int .u8 0, .int .u8 0, .int .u8 0, .int .u8 0, .int .u8 0, .int .u8 0, .int .u8 0, .int .u8 0, .int .u8 0, .int .u8 0, .int .u8 0, .int .u8 0, .int .u8 0, .int .u8 0, .int .u8 0, .int .u8 0, .int .u8 0, .int .u8 0, .int .u8 0, .int .u8 0, .int .u8 0, .int .u8 0, .int .u8 0, .int .u8 0, .int .u8 0, .int .u8 0, .int .u8 0, .int .u8 0, .int .u8 0, .int .u8 0, .int .u8 0, .int .u8 0, .int .u8 0, .int .u8 0, .int .u8 0, .int .u8 0, .int .u8 0, .int .u8 0, .int .u8 0, .int .u8 0, .int .u8 0, .int .u8 0]) := ⟨by kernel_rfl⟩
instance : TStr Tryz.prog 269 2 := ⟨⟨_, Tryz.underlying269⟩, by kernel_rfl⟩
instance : TFldT Tryz.prog 269 0 0 5 := ⟨⟨_, _, Tryz.underlying269, rfl, rfl, rfl⟩⟩
instance : TFld Tryz.prog 269 0 0 := ⟨⟨_, _, Tryz.underlying269, rfl, rfl, _, (by kernel_rfl : (Tryz.prog.info? 5).map (·.size) = some (0 + 1))⟩⟩
instance : TFldT Tryz.prog 269 1 1 5 := ⟨⟨_, _, Tryz.underlying269, rfl, rfl, rfl⟩⟩
instance : TFld Tryz.prog 269 1 1 := ⟨⟨_, _, Tryz.underlying269, rfl, rfl, _, (by kernel_rfl : (Tryz.prog.info? 5).map (·.size) = some (0 + 1))⟩⟩
instance : TFlat Tryz.prog 269 [.int .u8 0, .int .u8 0] := ⟨by kernel_rfl, _, Tryz.underlying269, by kernel_rfl⟩
instance : TZero Tryz.prog 269 (.agg #[.int .u8 0, .int .u8 0]) := ⟨by kernel_rfl⟩
instance : TStr Tryz.prog 270 2 := ⟨⟨_, Tryz.underlying270⟩, by kernel_rfl⟩
instance : TFldT Tryz.prog 270 0 0 5 := ⟨⟨_, _, Tryz.underlying270, rfl, rfl, rfl⟩⟩
instance : TFld Tryz.prog 270 0 0 := ⟨⟨_, _, Tryz.underlying270, rfl, rfl, _, (by kernel_rfl : (Tryz.prog.info? 5).map (·.size) = some (0 + 1))⟩⟩
instance : TFldT Tryz.prog 270 1 1 5 := ⟨⟨_, _, Tryz.underlying270, rfl, rfl, rfl⟩⟩
instance : TFld Tryz.prog 270 1 1 := ⟨⟨_, _, Tryz.underlying270, rfl, rfl, _, (by kernel_rfl : (Tryz.prog.info? 5).map (·.size) = some (0 + 1))⟩⟩
instance : TFlat Tryz.prog 270 [.int .u8 0, .int .u8 0] := ⟨by kernel_rfl, _, Tryz.underlying270, by kernel_rfl⟩
instance : TZero Tryz.prog 270 (.agg #[.int .u8 0, .int .u8 0]) := ⟨by kernel_rfl⟩
instance : TArr Tryz.prog 271 16 270 := ⟨Tryz.underlying271⟩
instance : TZero Tryz.prog 271 (.agg #[.int .u8 0, .int .u8 0, .int .u8 0, .int .u8 0, .int .u8 0, .int .u8 0, .int .u8 0, .int .u8 0, .int .u8 0, .int .u8 0, .int .u8 0, .int .u8 0, .int .u8 0, .int .u8 0, .int .u8 0, .int .u8 0, .int .u8 0, .int .u8 0, .int .u8 0, .int .u8 0, .int .u8 0, .int .u8 0, .int .u8 0, .int .u8 0, .int .u8 0, .int .u8 0, .int .u8 0, .int .u8 0, .int .u8 0, .int .u8 0, .int .u8 0, .int .u8 0]) := ⟨by kernel_rfl⟩
instance : TScal Tryz.prog 272 := ⟨⟨_, Tryz.underlying272, rfl⟩, by kernel_rfl⟩
instance : TStr Tryz.prog 273 1 := ⟨⟨_, Tryz.underlying273⟩, by kernel_rfl⟩
instance : TFldT Tryz.prog 273 0 0 9 := ⟨⟨_, _, Tryz.underlying273, rfl, rfl, rfl⟩⟩
instance : TFld Tryz.prog 273 0 0 := ⟨⟨_, _, Tryz.underlying273, rfl, rfl, _, (by kernel_rfl : (Tryz.prog.info? 9).map (·.size) = some (0 + 1))⟩⟩
instance : TFlat Tryz.prog 273 [.string ⟨#[]⟩] := ⟨by kernel_rfl, _, Tryz.underlying273, by kernel_rfl⟩
instance : TZero Tryz.prog 273 (.agg #[.string ⟨#[]⟩]) := ⟨by kernel_rfl⟩
instance : TStr Tryz.prog 274 1 := ⟨⟨_, Tryz.underlying274⟩, by kernel_rfl⟩
instance : TFldT Tryz.prog 274 0 0 9 := ⟨⟨_, _, Tryz.underlying274, rfl, rfl, rfl⟩⟩
instance : TFld Tryz.prog 274 0 0 := ⟨⟨_, _, Tryz.underlying274, rfl, rfl, _, (by kernel_rfl : (Tryz.prog.info? 9).map (·.size) = some (0 + 1))⟩⟩
instance : TFlat Tryz.prog 274 [.string ⟨#[]⟩] := ⟨by kernel_rfl, _, Tryz.underlying274, by kernel_rfl⟩
instance : TZero Tryz.prog 274 (.agg #[.string ⟨#[]⟩]) := ⟨by kernel_rfl⟩
instance : TArr Tryz.prog 275 32 5 := ⟨Tryz.underlying275⟩
instance : TZero Tryz.prog 275 (.agg #[.int .u8 0, .int .u8 0, .int .u8 0, .int .u8 0, .int .u8 0, .int .u8 0, .int .u8 0, .int .u8 0, .int .u8 0, .int .u8 0, .int .u8 0, .int .u8 0, .int .u8 0, .int .u8 0, .int .u8 0, .int .u8 0, .int .u8 0, .int .u8 0, .int .u8 0, .int .u8 0, .int .u8 0, .int .u8 0, .int .u8 0, .int .u8 0, .int .u8 0, .int .u8 0, .int .u8 0, .int .u8 0, .int .u8 0, .int .u8 0, .int .u8 0, .int .u8 0]) := ⟨by kernel_rfl⟩
instance : TArr Tryz.prog 276 64 5 := ⟨Tryz.underlying276⟩
instance : TZero Tryz.prog 276 (.agg #[.int .u8 0, .int .u8 0, .int .u8 0, .int .u8 0, .int .u8 0, .int .u8 0, .int .u8 0, .int .u8 0, .int .u8 0, .int .u8 0, .int .u8 0, .int .u8 0, .int .u8 0, .int .u8 0, .int .u8 0, .int .u8 0, .int .u8 0, .int .u8 0, .int .u8 0, .int .u8 0, .int .u8 0, .int .u8 0, .int .u8 0, .int .u8 0, .int .u8 0, .int .u8 0, .int .u8 0, .int .u8 0, .int .u8 0, .int .u8 0, .int .u8 0, .int .u8 0, .int .u8 0, .int .u8 0, .int .u8 0, .int .u8 0, .int .u8 0, .int .u8 0, .int .u8 0, .int .u8 0, .int .u8 0, .int .u8 0, .int .u8 0, .int .u8 0, .int .u8 0, .int .u8 0, .int .u8 0, .int .u8 0, .int .u8 0, .int .u8 0, .int .u8 0, .int .u8 0, .int .u8 0, .int .u8 0, .int .u8 0, .int .u8 0, .int .u8 0, .int .u8 0, .int .u8 0, .int .u8 0, .int .u8 0, .int .u8 0, .int .u8 0, .int .u8 0]) := ⟨by kernel_rfl⟩
instance : TStr Tryz.prog 277 4 := ⟨⟨_, Tryz.underlying277⟩, by kernel_rfl⟩
instance : TFldT Tryz.prog 277 0 0 17 := ⟨⟨_, _, Tryz.underlying277, rfl, rfl, rfl⟩⟩
instance : TFld Tryz.prog 277 0 0 := ⟨⟨_, _, Tryz.underlying277, rfl, rfl, _, (by kernel_rfl : (Tryz.prog.info? 17).map (·.size) = some (0 + 1))⟩⟩
instance : TFldT Tryz.prog 277 1 1 17 := ⟨⟨_, _, Tryz.underlying277, rfl, rfl, rfl⟩⟩
instance : TFld Tryz.prog 277 1 1 := ⟨⟨_, _, Tryz.underlying277, rfl, rfl, _, (by kernel_rfl : (Tryz.prog.info? 17).map (·.size) = some (0 + 1))⟩⟩
instance : TFldT Tryz.prog 277 2 2 17 := ⟨⟨_, _, Tryz.underlying277, rfl, rfl, rfl⟩⟩
instance : TFld Tryz.prog 277 2 2 := ⟨⟨_, _, Tryz.underlying277, rfl, rfl, _, (by kernel_rfl : (Tryz.prog.info? 17).map (·.size) = some (0 + 1))⟩⟩
instance : TFldT Tryz.prog 277 3 3 9 := ⟨⟨_, _, Tryz.underlying277, rfl, rfl, rfl⟩⟩
instance : TFld Tryz.prog 277 3 3 := ⟨⟨_, _, Tryz.underlying277, rfl, rfl, _, (by kernel_rfl : (Tryz.prog.info? 9).map (·.size) = some (0 + 1))⟩⟩
instance : TFlat Tryz.prog 277 [.pointer none, .pointer none, .pointer none, .string ⟨#[]⟩] := ⟨by kernel_rfl, _, Tryz.underlying277, by kernel_rfl⟩
instance : TZero Tryz.prog 277 (.agg #[.pointer none, .pointer none, .pointer none, .string ⟨#[]⟩]) := ⟨by kernel_rfl⟩
instance : TStr Tryz.prog 278 4 := ⟨⟨_, Tryz.underlying278⟩, by kernel_rfl⟩
instance : TFldT Tryz.prog 278 0 0 17 := ⟨⟨_, _, Tryz.underlying278, rfl, rfl, rfl⟩⟩
instance : TFld Tryz.prog 278 0 0 := ⟨⟨_, _, Tryz.underlying278, rfl, rfl, _, (by kernel_rfl : (Tryz.prog.info? 17).map (·.size) = some (0 + 1))⟩⟩
instance : TFldT Tryz.prog 278 1 1 17 := ⟨⟨_, _, Tryz.underlying278, rfl, rfl, rfl⟩⟩
instance : TFld Tryz.prog 278 1 1 := ⟨⟨_, _, Tryz.underlying278, rfl, rfl, _, (by kernel_rfl : (Tryz.prog.info? 17).map (·.size) = some (0 + 1))⟩⟩
instance : TFldT Tryz.prog 278 2 2 17 := ⟨⟨_, _, Tryz.underlying278, rfl, rfl, rfl⟩⟩
instance : TFld Tryz.prog 278 2 2 := ⟨⟨_, _, Tryz.underlying278, rfl, rfl, _, (by kernel_rfl : (Tryz.prog.info? 17).map (·.size) = some (0 + 1))⟩⟩
instance : TFldT Tryz.prog 278 3 3 9 := ⟨⟨_, _, Tryz.underlying278, rfl, rfl, rfl⟩⟩
instance : TFld Tryz.prog 278 3 3 := ⟨⟨_, _, Tryz.underlying278, rfl, rfl, _, (by kernel_rfl : (Tryz.prog.info? 9).map (·.size) = some (0 + 1))⟩⟩
instance : TFlat Tryz.prog 278 [.pointer none, .pointer none, .pointer none, .string ⟨#[]⟩] := ⟨by kernel_rfl, _, Tryz.underlying278, by kernel_rfl⟩
instance : TZero Tryz.prog 278 (.agg #[.pointer none, .pointer none, .pointer none, .string ⟨#[]⟩]) := ⟨by kernel_rfl⟩
instance : TArr Tryz.prog 279 0 16 := ⟨Tryz.underlying279⟩
instance : TZero Tryz.prog 279 (.agg #[]) := ⟨by kernel_rfl⟩
instance : TScal Tryz.prog 282 := ⟨⟨_, Tryz.underlying282, rfl⟩, by kernel_rfl⟩
instance : TScal Tryz.prog 283 := ⟨⟨_, Tryz.underlying283, rfl⟩, by kernel_rfl⟩
instance : TInt Tryz.prog 283 .u8 := ⟨Tryz.underlying283⟩
instance : TZero Tryz.prog 283 (.int .u8 0) := ⟨by kernel_rfl⟩
instance : TScal Tryz.prog 284 := ⟨⟨_, Tryz.underlying284, rfl⟩, by kernel_rfl⟩
instance : TInt Tryz.prog 284 .u8 := ⟨Tryz.underlying284⟩
instance : TZero Tryz.prog 284 (.int .u8 0) := ⟨by kernel_rfl⟩
instance : TScal Tryz.prog 285 := ⟨⟨_, Tryz.underlying285, rfl⟩, by kernel_rfl⟩
instance : TScal Tryz.prog 286 := ⟨⟨_, Tryz.underlying286, rfl⟩, by kernel_rfl⟩
instance : TInt Tryz.prog 286 .i32 := ⟨Tryz.underlying286⟩
instance : TZero Tryz.prog 286 (.int .i32 0) := ⟨by kernel_rfl⟩
instance : TScal Tryz.prog 287 := ⟨⟨_, Tryz.underlying287, rfl⟩, by kernel_rfl⟩
instance : TInt Tryz.prog 287 .i32 := ⟨Tryz.underlying287⟩
instance : TZero Tryz.prog 287 (.int .i32 0) := ⟨by kernel_rfl⟩
instance : TStr Tryz.prog 288 11 := ⟨⟨_, Tryz.underlying288⟩, by kernel_rfl⟩
instance : TFldT Tryz.prog 288 0 0 12 := ⟨⟨_, _, Tryz.underlying288, rfl, rfl, rfl⟩⟩
instance : TFld Tryz.prog 288 0 0 := ⟨⟨_, _, Tryz.underlying288, rfl, rfl, _, (by kernel_rfl : (Tryz.prog.info? 12).map (·.size) = some (0 + 1))⟩⟩
instance : TFldT Tryz.prog 288 1 1 12 := ⟨⟨_, _, Tryz.underlying288, rfl, rfl, rfl⟩⟩
instance : TFld Tryz.prog 288 1 1 := ⟨⟨_, _, Tryz.underlying288, rfl, rfl, _, (by kernel_rfl : (Tryz.prog.info? 12).map (·.size) = some (0 + 1))⟩⟩
instance : TFldT Tryz.prog 288 2 2 215 := ⟨⟨_, _, Tryz.underlying288, rfl, rfl, rfl⟩⟩
instance : TFld Tryz.prog 288 2 2 := ⟨⟨_, _, Tryz.underlying288, rfl, rfl, _, (by kernel_rfl : (Tryz.prog.info? 215).map (·.size) = some (0 + 1))⟩⟩
instance : TFldT Tryz.prog 288 3 3 283 := ⟨⟨_, _, Tryz.underlying288, rfl, rfl, rfl⟩⟩
instance : TFld Tryz.prog 288 3 3 := ⟨⟨_, _, Tryz.underlying288, rfl, rfl, _, (by kernel_rfl : (Tryz.prog.info? 283).map (·.size) = some (0 + 1))⟩⟩
instance : TFldT Tryz.prog 288 4 4 5 := ⟨⟨_, _, Tryz.underlying288, rfl, rfl, rfl⟩⟩
instance : TFld Tryz.prog 288 4 4 := ⟨⟨_, _, Tryz.underlying288, rfl, rfl, _, (by kernel_rfl : (Tryz.prog.info? 5).map (·.size) = some (0 + 1))⟩⟩
instance : TFldT Tryz.prog 288 5 5 5 := ⟨⟨_, _, Tryz.underlying288, rfl, rfl, rfl⟩⟩
instance : TFld Tryz.prog 288 5 5 := ⟨⟨_, _, Tryz.underlying288, rfl, rfl, _, (by kernel_rfl : (Tryz.prog.info? 5).map (·.size) = some (0 + 1))⟩⟩
instance : TFldT Tryz.prog 288 6 6 284 := ⟨⟨_, _, Tryz.underlying288, rfl, rfl, rfl⟩⟩
instance : TFld Tryz.prog 288 6 6 := ⟨⟨_, _, Tryz.underlying288, rfl, rfl, _, (by kernel_rfl : (Tryz.prog.info? 284).map (·.size) = some (0 + 1))⟩⟩
instance : TFldT Tryz.prog 288 7 7 285 := ⟨⟨_, _, Tryz.underlying288, rfl, rfl, rfl⟩⟩
instance : TFld Tryz.prog 288 7 7 := ⟨⟨_, _, Tryz.underlying288, rfl, rfl, _, (by kernel_rfl : (Tryz.prog.info? 285).map (·.size) = some (0 + 1))⟩⟩
instance : TFldT Tryz.prog 288 8 8 204 := ⟨⟨_, _, Tryz.underlying288, rfl, rfl, rfl⟩⟩
instance : TFld Tryz.prog 288 8 8 := ⟨⟨_, _, Tryz.underlying288, rfl, rfl, _, (by kernel_rfl : (Tryz.prog.info? 204).map (·.size) = some (0 + 1))⟩⟩
instance : TFldT Tryz.prog 288 9 9 286 := ⟨⟨_, _, Tryz.underlying288, rfl, rfl, rfl⟩⟩
instance : TFld Tryz.prog 288 9 9 := ⟨⟨_, _, Tryz.underlying288, rfl, rfl, _, (by kernel_rfl : (Tryz.prog.info? 286).map (·.size) = some (0 + 1))⟩⟩
instance : TFldT Tryz.prog 288 10 10 287 := ⟨⟨_, _, Tryz.underlying288, rfl, rfl, rfl⟩⟩
instance : TFld Tryz.prog 288 10 10 := ⟨⟨_, _, Tryz.underlying288, rfl, rfl, _, (by kernel_rfl : (Tryz.prog.info? 287).map (·.size) = some (0 + 1))⟩⟩
instance : TFlat Tryz.prog 288 [.int .u64 0, .int .u64 0, .int .u32 0, .int .u8 0, .int .u8 0, .int .u8 0, .int .u8 0, .nilFunc, .pointer none, .int .i32 0, .int .i32 0] := ⟨by kernel_rfl, _, Tryz.underlying288, by kernel_rfl⟩
instance : TZero Tryz.prog 288 (.agg #[.int .u64 0, .int .u64 0, .int .u32 0, .int .u8 0, .int .u8 0, .int .u8 0, .int .u8 0, .nilFunc, .pointer none, .int .i32 0, .int .i32 0]) := ⟨by kernel_rfl⟩
instance : TStr Tryz.prog 289 11 := ⟨⟨_, Tryz.underlying289⟩, by kernel_rfl⟩
instance : TFldT Tryz.prog 289 0 0 12 := ⟨⟨_, _, Tryz.underlying289, rfl, rfl, rfl⟩⟩
instance : TFld Tryz.prog 289 0 0 := ⟨⟨_, _, Tryz.underlying289, rfl, rfl, _, (by kernel_rfl : (Tryz.prog.info? 12).map (·.size) = some (0 + 1))⟩⟩
instance : TFldT Tryz.prog 289 1 1 12 := ⟨⟨_, _, Tryz.underlying289, rfl, rfl, rfl⟩⟩
instance : TFld Tryz.prog 289 1 1 := ⟨⟨_, _, Tryz.underlying289, rfl, rfl, _, (by kernel_rfl : (Tryz.prog.info? 12).map (·.size) = some (0 + 1))⟩⟩
instance : TFldT Tryz.prog 289 2 2 215 := ⟨⟨_, _, Tryz.underlying289, rfl, rfl, rfl⟩⟩
instance : TFld Tryz.prog 289 2 2 := ⟨⟨_, _, Tryz.underlying289, rfl, rfl, _, (by kernel_rfl : (Tryz.prog.info? 215).map (·.size) = some (0 + 1))⟩⟩
instance : TFldT Tryz.prog 289 3 3 283 := ⟨⟨_, _, Tryz.underlying289, rfl, rfl, rfl⟩⟩
instance : TFld Tryz.prog 289 3 3 := ⟨⟨_, _, Tryz.underlying289, rfl, rfl, _, (by kernel_rfl : (Tryz.prog.info? 283).map (·.size) = some (0 + 1))⟩⟩
instance : TFldT Tryz.prog 289 4 4 5 := ⟨⟨_, _, Tryz.underlying289, rfl, rfl, rfl⟩⟩
instance : TFld Tryz.prog 289 4 4 := ⟨⟨_, _, Tryz.underlying289, rfl, rfl, _, (by kernel_rfl : (Tryz.prog.info? 5).map (·.size) = some (0 + 1))⟩⟩
instance : TFldT Tryz.prog 289 5 5 5 := ⟨⟨_, _, Tryz.underlying289, rfl, rfl, rfl⟩⟩
instance : TFld Tryz.prog 289 5 5 := ⟨⟨_, _, Tryz.underlying289, rfl, rfl, _, (by kernel_rfl : (Tryz.prog.info? 5).map (·.size) = some (0 + 1))⟩⟩
instance : TFldT Tryz.prog 289 6 6 284 := ⟨⟨_, _, Tryz.underlying289, rfl, rfl, rfl⟩⟩
instance : TFld Tryz.prog 289 6 6 := ⟨⟨_, _, Tryz.underlying289, rfl, rfl, _, (by kernel_rfl : (Tryz.prog.info? 284).map (·.size) = some (0 + 1))⟩⟩
instance : TFldT Tryz.prog 289 7 7 285 := ⟨⟨_, _, Tryz.underlying289, rfl, rfl, rfl⟩⟩
instance : TFld Tryz.prog 289 7 7 := ⟨⟨_, _, Tryz.underlying289, rfl, rfl, _, (by kernel_rfl : (Tryz.prog.info? 285).map (·.size) = some (0 + 1))⟩⟩
instance : TFldT Tryz.prog 289 8 8 204 := ⟨⟨_, _, Tryz.underlying289, rfl, rfl, rfl⟩⟩
instance : TFld Tryz.prog 289 8 8 := ⟨⟨_, _, Tryz.underlying289, rfl, rfl, _, (by kernel_rfl : (Tryz.prog.info? 204).map (·.size) = some (0 + 1))⟩⟩
instance : TFldT Tryz.prog 289 9 9 286 := ⟨⟨_, _, Tryz.underlying289, rfl, rfl, rfl⟩⟩
instance : TFld Tryz.prog 289 9 9 := ⟨⟨_, _, Tryz.underlying289, rfl, rfl, _, (by kernel_rfl : (Tryz.prog.info? 286).map (·.size) = some (0 + 1))⟩⟩
instance : TFldT Tryz.prog 289 10 10 287 := ⟨⟨_, _, Tryz.underlying289, rfl, rfl, rfl⟩⟩
instance : TFld Tryz.prog 289 10 10 := ⟨⟨_, _, Tryz.underlying289, rfl, rfl, _, (by kernel_rfl : (Tryz.prog.info? 287).map (·.size) = some (0 + 1))⟩⟩
instance : TFlat Tryz.prog 289 [.int .u64 0, .int .u64 0, .int .u32 0, .int .u8 0, .int .u8 0, .int .u8 0, .int .u8 0, .nilFunc, .pointer none, .int .i32 0, .int .i32 0] := ⟨by kernel_rfl, _, Tryz.underlying289, by kernel_rfl⟩
instance : TZero Tryz.prog 289 (.agg #[.int .u64 0, .int .u64 0, .int .u32 0, .int .u8 0, .int .u8 0, .int .u8 0, .int .u8 0, .nilFunc, .pointer none, .int .i32 0, .int .i32 0]) := ⟨by kernel_rfl⟩
instance : TScal Tryz.prog 290 := ⟨⟨_, Tryz.underlying290, rfl⟩, by kernel_rfl⟩
instance : Callable Tryz.prog 3 := callable Tryz.func3 (by kernel_rfl) rfl   -- loop.example/g01012/laws.FnPrinted
instance : Callable Tryz.prog 4 := callable Tryz.func4 (by kernel_rfl) rfl   -- loop.example/g01012/laws.FnReproduced
instance : Callable Tryz.prog 5 := callable Tryz.func5 (by kernel_rfl) rfl   -- loop.example/g01012/laws.FnGangs
instance : Callable Tryz.prog 6 := callable Tryz.func6 (by kernel_rfl) rfl   -- loop.example/g01012/laws.a2Long
instance : Callable Tryz.prog 7 := callable Tryz.func7 (by kernel_rfl) rfl   -- loop.example/g01012/spec.A2Cards
instance : Callable Tryz.prog 8 := callable Tryz.func8 (by kernel_rfl) rfl   -- loop.example/g01012/spec.A2Setup
instance : Callable Tryz.prog 9 := callable Tryz.func9 (by kernel_rfl) rfl   -- loop.example/g01012/impl.TabulateDeck
instance : Callable Tryz.prog 10 := callable Tryz.func10 (by kernel_rfl) rfl   -- loop.example/g01012/spec.GroupNames
instance : Callable Tryz.prog 11 := callable Tryz.func11 (by kernel_rfl) rfl   -- loop.example/g01012/impl.CyclesFor
instance : Callable Tryz.prog 12 := callable Tryz.func12 (by kernel_rfl) rfl   -- loop.example/g01012/spec.GrandSums
instance : Callable Tryz.prog 13 := callable Tryz.func13 (by kernel_rfl) rfl   -- loop.example/g01012/impl.SumLine
instance : Callable Tryz.prog 14 := callable Tryz.func14 (by kernel_rfl) rfl   -- loop.example/g01012/laws.f6big
instance : Callable Tryz.prog 15 := callable Tryz.func15 (by kernel_rfl) rfl   -- loop.example/g01012/spec.DrawReproduceCard
instance : Callable Tryz.prog 16 := callable Tryz.func16 (by kernel_rfl) rfl   -- loop.example/g01012/impl.ReproduceCard
instance : Callable Tryz.prog 17 := callable Tryz.func17 (by kernel_rfl) rfl   -- loop.example/g01012/spec.ReproduceCard
instance : Callable Tryz.prog 18 := callable Tryz.func18 (by kernel_rfl) rfl   -- loop.example/g01012/spec.DrawCompareCards
instance : Callable Tryz.prog 19 := callable Tryz.func19 (by kernel_rfl) rfl   -- loop.example/g01012/impl.CompareCards
instance : Callable Tryz.prog 20 := callable Tryz.func20 (by kernel_rfl) rfl   -- loop.example/g01012/spec.CompareCards
instance : Callable Tryz.prog 21 := callable Tryz.func21 (by kernel_rfl) rfl   -- loop.example/g01012/spec.DrawJoinCopies
instance : Callable Tryz.prog 22 := callable Tryz.func22 (by kernel_rfl) rfl   -- loop.example/g01012/impl.JoinCopies
instance : Callable Tryz.prog 23 := callable Tryz.func23 (by kernel_rfl) rfl   -- loop.example/g01012/spec.JoinCopies
instance : Callable Tryz.prog 24 := callable Tryz.func24 (by kernel_rfl) rfl   -- loop.example/g01012/spec.DrawBackCopies
instance : Callable Tryz.prog 25 := callable Tryz.func25 (by kernel_rfl) rfl   -- loop.example/g01012/impl.BackCopies
instance : Callable Tryz.prog 26 := callable Tryz.func26 (by kernel_rfl) rfl   -- loop.example/g01012/spec.BackCopies
instance : Callable Tryz.prog 27 := callable Tryz.func27 (by kernel_rfl) rfl   -- loop.example/g01012/spec.DrawCopiesText
instance : Callable Tryz.prog 28 := callable Tryz.func28 (by kernel_rfl) rfl   -- loop.example/g01012/impl.CopiesText
instance : Callable Tryz.prog 29 := callable Tryz.func29 (by kernel_rfl) rfl   -- loop.example/g01012/impl.ReadCopies
instance : Callable Tryz.prog 30 := callable Tryz.func30 (by kernel_rfl) rfl   -- loop.example/g01012/spec.DrawReadCopies
instance : Callable Tryz.prog 31 := callable Tryz.func31 (by kernel_rfl) rfl   -- loop.example/g01012/spec.ReadCopies
instance : Callable Tryz.prog 32 := callable Tryz.func32 (by kernel_rfl) rfl   -- loop.example/g01012/spec.DrawValidCopies
instance : Callable Tryz.prog 33 := callable Tryz.func33 (by kernel_rfl) rfl   -- loop.example/g01012/spec.SameCard
instance : Callable Tryz.prog 34 := callable Tryz.func34 (by kernel_rfl) rfl   -- loop.example/g01012/laws.f6ints
instance : Callable Tryz.prog 35 := callable Tryz.func35 (by kernel_rfl) rfl   -- loop.example/g01012/laws.f6copies
instance : Callable Tryz.prog 36 := callable Tryz.func36 (by kernel_rfl) rfl   -- loop.example/g01012/spec.CopiesText
instance : Callable Tryz.prog 37 := callable Tryz.func37 (by kernel_rfl) rfl   -- loop.example/g01012/impl.ValidCopies
instance : Callable Tryz.prog 38 := callable Tryz.func38 (by kernel_rfl) rfl   -- loop.example/g01012/spec.ValidCopies
instance : Callable Tryz.prog 39 := callable Tryz.func39 (by kernel_rfl) rfl   -- loop.example/g01012/spec.DrawReproduceDeck
instance : Callable Tryz.prog 40 := callable Tryz.func40 (by kernel_rfl) rfl   -- loop.example/g01012/impl.ReproduceDeck
instance : Callable Tryz.prog 41 := callable Tryz.func41 (by kernel_rfl) rfl   -- loop.example/g01012/spec.ReproduceDeck
instance : Callable Tryz.prog 42 := callable Tryz.func42 (by kernel_rfl) rfl   -- loop.example/g01012/spec.DrawGangPunch
instance : Callable Tryz.prog 43 := callable Tryz.func43 (by kernel_rfl) rfl   -- loop.example/g01012/impl.GangPunch
instance : Callable Tryz.prog 44 := callable Tryz.func44 (by kernel_rfl) rfl   -- loop.example/g01012/spec.GangPunch
instance : Callable Tryz.prog 45 := callable Tryz.func45 (by kernel_rfl) rfl   -- loop.example/g01012/spec.DrawInterspersedGang
instance : Callable Tryz.prog 46 := callable Tryz.func46 (by kernel_rfl) rfl   -- loop.example/g01012/impl.InterspersedGang
instance : Callable Tryz.prog 47 := callable Tryz.func47 (by kernel_rfl) rfl   -- loop.example/g01012/spec.InterspersedGang
instance : Callable Tryz.prog 48 := callable Tryz.func48 (by kernel_rfl) rfl   -- loop.example/g01012/spec.DrawCompareDecks
instance : Callable Tryz.prog 49 := callable Tryz.func49 (by kernel_rfl) rfl   -- loop.example/g01012/impl.CompareDecks
instance : Callable Tryz.prog 50 := callable Tryz.func50 (by kernel_rfl) rfl   -- loop.example/g01012/spec.CompareDecks
instance : Callable Tryz.prog 51 := callable Tryz.func51 (by kernel_rfl) rfl   -- loop.example/g01012/spec.DrawSerialPunch
instance : Callable Tryz.prog 52 := callable Tryz.func52 (by kernel_rfl) rfl   -- loop.example/g01012/impl.SerialPunch
instance : Callable Tryz.prog 53 := callable Tryz.func53 (by kernel_rfl) rfl   -- loop.example/g01012/spec.SerialPunch
instance : Callable Tryz.prog 54 := callable Tryz.func54 (by kernel_rfl) rfl   -- loop.example/g01012/spec.SameDeck
instance : Callable Tryz.prog 55 := callable Tryz.func55 (by kernel_rfl) rfl   -- loop.example/g01012/impl.Overlay
instance : Callable Tryz.prog 56 := callable Tryz.func56 (by kernel_rfl) rfl   -- loop.example/g01012/impl.NumberIn
instance : Callable Tryz.prog 57 := callable Tryz.func57 (by kernel_rfl) rfl   -- loop.example/g01012/spec.l13Deck
instance : Callable Tryz.prog 58 := callable Tryz.func58 (by kernel_rfl) rfl   -- loop.example/g01012/spec.l00From
instance : Callable Tryz.prog 59 := callable Tryz.func59 (by kernel_rfl) rfl   -- loop.example/g01012/spec.l13Setup
instance : Callable Tryz.prog 60 := callable Tryz.func60 (by kernel_rfl) rfl   -- loop.example/g01012/impl.setupCode
instance : Callable Tryz.prog 61 := callable Tryz.func61 (by kernel_rfl) rfl   -- loop.example/g01012/impl.groups
instance : Callable Tryz.prog 62 := callable Tryz.func62 (by kernel_rfl) rfl   -- loop.example/g01012/impl.fieldText
instance : Callable Tryz.prog 63 := callable Tryz.func63 (by kernel_rfl) rfl   -- loop.example/g01012/impl.sumText
instance : Callable Tryz.prog 64 := callable Tryz.func64 (by kernel_rfl) rfl   -- loop.example/g01012/spec.l13Read
instance : Callable Tryz.prog 65 := callable Tryz.func65 (by kernel_rfl) rfl   -- loop.example/g01012/impl.size[loop.example/g01012/impl.Card]
instance : Callable Tryz.prog 66 := callable Tryz.func66 (by kernel_rfl) rfl   -- loop.example/g01012/impl.size[int64]
instance : Callable Tryz.prog 67 := callable Tryz.func67 (by kernel_rfl) rfl   -- loop.example/g01012/impl.groupsOf
instance : Callable Tryz.prog 68 := callable Tryz.func68 (by kernel_rfl) rfl   -- (*loop.example/g01012/spec.l13R).sums
instance : Callable Tryz.prog 69 := callable Tryz.func69 (by kernel_rfl) rfl   -- loop.example/g01012/impl.Decimal
instance : Callable Tryz.prog 70 := callable Tryz.func70 (by kernel_rfl) rfl   -- strings.Join
instance : Callable Tryz.prog 71 := callable Tryz.func71 (by kernel_rfl) rfl   -- loop.example/g01012/spec.l03Bent
instance : Callable Tryz.prog 72 := callable Tryz.func72 (by kernel_rfl) rfl   -- loop.example/g01012/spec.l10Width
instance : Callable Tryz.prog 73 := callable Tryz.func73 (by kernel_rfl) rfl   -- loop.example/g01012/spec.l10Bent
instance : Callable Tryz.prog 74 := callable Tryz.func74 (by kernel_rfl) rfl   -- loop.example/g01012/impl.ValidCard
instance : Callable Tryz.prog 75 := callable Tryz.func75 (by kernel_rfl) rfl   -- (loop.example/g01012/impl.Card).columns
instance : Callable Tryz.prog 76 := callable Tryz.func76 (by kernel_rfl) rfl   -- loop.example/g01012/impl.copied
instance : Callable Tryz.prog 77 := callable Tryz.func77 (by kernel_rfl) rfl   -- loop.example/g01012/impl.blank
instance : Callable Tryz.prog 78 := callable Tryz.func78 (by kernel_rfl) rfl   -- loop.example/g01012/spec.l02Ok
instance : Callable Tryz.prog 79 := callable Tryz.func79 (by kernel_rfl) rfl   -- loop.example/g01012/spec.l10Copy
instance : Callable Tryz.prog 80 := callable Tryz.func80 (by kernel_rfl) rfl   -- (*loop.example/g01012/spec.l00Src).pick
instance : Callable Tryz.prog 81 := callable Tryz.func81 (by kernel_rfl) rfl   -- (*loop.example/g01012/spec.l00Src).one
instance : Callable Tryz.prog 82 := callable Tryz.func82 (by kernel_rfl) rfl   -- loop.example/g01012/spec.l03Draw
instance : Callable Tryz.prog 83 := callable Tryz.func83 (by kernel_rfl) rfl   -- loop.example/g01012/spec.l06Damaged
instance : Callable Tryz.prog 84 := callable Tryz.func84 (by kernel_rfl) rfl   -- loop.example/g01012/impl.compared
instance : Callable Tryz.prog 85 := callable Tryz.func85 (by kernel_rfl) rfl   -- loop.example/g01012/spec.l10Ok
instance : Callable Tryz.prog 86 := callable Tryz.func86 (by kernel_rfl) rfl   -- loop.example/g01012/spec.l10Differ
instance : Callable Tryz.prog 87 := callable Tryz.func87 (by kernel_rfl) rfl   -- loop.example/g01012/impl.isPlain
instance : Callable Tryz.prog 88 := callable Tryz.func88 (by kernel_rfl) rfl   -- loop.example/g01012/spec.l10Plain
instance : Callable Tryz.prog 89 := callable Tryz.func89 (by kernel_rfl) rfl   -- slices.SortFunc[[]loop.example/g01012/impl.Copy,loop.example/g01012/impl.Copy]
instance : Callable Tryz.prog 90 := callable Tryz.func90 (by kernel_rfl) rfl   -- loop.example/g01012/impl.BackCopies$1
instance : Callable Tryz.prog 91 := callable Tryz.func91 (by kernel_rfl) rfl   -- loop.example/g01012/spec.l10Put
instance : Callable Tryz.prog 92 := callable Tryz.func92 (by kernel_rfl) rfl   -- strings.Split
instance : Callable Tryz.prog 93 := callable Tryz.func93 (by kernel_rfl) rfl   -- strings.Cut
instance : Callable Tryz.prog 94 := callable Tryz.func94 (by kernel_rfl) rfl   -- loop.example/g01012/impl.ReadDecimal
instance : Callable Tryz.prog 95 := callable Tryz.func95 (by kernel_rfl) rfl   -- loop.example/g01012/spec.l10Text
instance : Callable Tryz.prog 96 := callable Tryz.func96 (by kernel_rfl) rfl   -- loop.example/g01012/spec.l10Draw
instance : Callable Tryz.prog 97 := callable Tryz.func97 (by kernel_rfl) rfl   -- loop.example/g01012/spec.l01Spoil
instance : Callable Tryz.prog 98 := callable Tryz.func98 (by kernel_rfl) rfl   -- loop.example/g01012/spec.l01Split
instance : Callable Tryz.prog 99 := callable Tryz.func99 (by kernel_rfl) rfl   -- loop.example/g01012/spec.l01Number
instance : Callable Tryz.prog 100 := callable Tryz.func100 (by kernel_rfl) rfl   -- loop.example/g01012/spec.l00Same
instance : Callable Tryz.prog 101 := callable Tryz.func101 (by kernel_rfl) rfl   -- loop.example/g01012/impl.inside
instance : Callable Tryz.prog 102 := callable Tryz.func102 (by kernel_rfl) rfl   -- slices.ContainsFunc[[]loop.example/g01012/impl.Copy,loop.example/g01012/impl.Copy]
instance : Callable Tryz.prog 103 := callable Tryz.func103 (by kernel_rfl) rfl   -- loop.example/g01012/impl.ValidCopies$1
instance : Callable Tryz.prog 104 := callable Tryz.func104 (by kernel_rfl) rfl   -- loop.example/g01012/spec.l00In
instance : Callable Tryz.prog 105 := callable Tryz.func105 (by kernel_rfl) rfl   -- loop.example/g01012/spec.l10Deck
instance : Callable Tryz.prog 106 := callable Tryz.func106 (by kernel_rfl) rfl   -- loop.example/g01012/impl.ValidDeck
instance : Callable Tryz.prog 107 := callable Tryz.func107 (by kernel_rfl) rfl   -- loop.example/g01012/impl.deckColumns
instance : Callable Tryz.prog 108 := callable Tryz.func108 (by kernel_rfl) rfl   -- loop.example/g01012/spec.l02Deck
instance : Callable Tryz.prog 109 := callable Tryz.func109 (by kernel_rfl) rfl   -- loop.example/g01012/spec.l07WidthOf
instance : Callable Tryz.prog 110 := callable Tryz.func110 (by kernel_rfl) rfl   -- loop.example/g01012/spec.l02Copy
instance : Callable Tryz.prog 111 := callable Tryz.func111 (by kernel_rfl) rfl   -- loop.example/g01012/impl.bitOf
instance : Callable Tryz.prog 112 := callable Tryz.func112 (by kernel_rfl) rfl   -- loop.example/g01012/impl.newCard
instance : Callable Tryz.prog 113 := callable Tryz.func113 (by kernel_rfl) rfl   -- loop.example/g01012/spec.l02DrawDeck
instance : Callable Tryz.prog 114 := callable Tryz.func114 (by kernel_rfl) rfl   -- loop.example/g01012/spec.l00Min
instance : Callable Tryz.prog 115 := callable Tryz.func115 (by kernel_rfl) rfl   -- loop.example/g01012/spec.l02DrawField
instance : Callable Tryz.prog 116 := callable Tryz.func116 (by kernel_rfl) rfl   -- loop.example/g01012/spec.l02Field
instance : Callable Tryz.prog 117 := callable Tryz.func117 (by kernel_rfl) rfl   -- (*loop.example/g01012/spec.l00Src).among
instance : Callable Tryz.prog 118 := callable Tryz.func118 (by kernel_rfl) rfl   -- loop.example/g01012/impl.isField
instance : Callable Tryz.prog 119 := callable Tryz.func119 (by kernel_rfl) rfl   -- loop.example/g01012/impl.digitsOf
instance : Callable Tryz.prog 120 := callable Tryz.func120 (by kernel_rfl) rfl   -- slices.ContainsFunc[[]int64,int64]
instance : Callable Tryz.prog 121 := callable Tryz.func121 (by kernel_rfl) rfl   -- loop.example/g01012/impl.SerialPunch$1
instance : Callable Tryz.prog 122 := callable Tryz.func122 (by kernel_rfl) rfl   -- loop.example/g01012/impl.punchNumber
instance : Callable Tryz.prog 123 := callable Tryz.func123 (by kernel_rfl) rfl   -- loop.example/g01012/spec.l03Put
instance : Callable Tryz.prog 124 := callable Tryz.func124 (by kernel_rfl) rfl   -- loop.example/g01012/impl.fieldCode
instance : Callable Tryz.prog 125 := callable Tryz.func125 (by kernel_rfl) rfl   -- loop.example/g01012/impl.numberIn
instance : Callable Tryz.prog 126 := callable Tryz.func126 (by kernel_rfl) rfl   -- loop.example/g01012/spec.l13Card
instance : Callable Tryz.prog 127 := callable Tryz.func127 (by kernel_rfl) rfl   -- loop.example/g01012/impl.ValidSetup
instance : Callable Tryz.prog 128 := callable Tryz.func128 (by kernel_rfl) rfl   -- loop.example/g01012/impl.sumsOf
instance : Callable Tryz.prog 129 := callable Tryz.func129 (by kernel_rfl) rfl   -- loop.example/g01012/impl.haveField
instance : Callable Tryz.prog 130 := callable Tryz.func130 (by kernel_rfl) rfl   -- loop.example/g01012/impl.textOf
instance : Callable Tryz.prog 131 := callable Tryz.func131 (by kernel_rfl) rfl   -- loop.example/g01012/spec.l13Ok
instance : Callable Tryz.prog 132 := callable Tryz.func132 (by kernel_rfl) rfl   -- loop.example/g01012/spec.l07Width
instance : Callable Tryz.prog 133 := callable Tryz.func133 (by kernel_rfl) rfl   -- loop.example/g01012/spec.l07Keys
instance : Callable Tryz.prog 134 := callable Tryz.func134 (by kernel_rfl) rfl   -- loop.example/g01012/spec.l03Number
instance : Callable Tryz.prog 135 := callable Tryz.func135 (by kernel_rfl) rfl   -- loop.example/g01012/spec.l02Part
instance : Callable Tryz.prog 136 := callable Tryz.func136 (by kernel_rfl) rfl   -- loop.example/g01012/spec.l09Groups
instance : Callable Tryz.prog 137 := callable Tryz.func137 (by kernel_rfl) rfl   -- loop.example/g01012/impl.compareFields
instance : Callable Tryz.prog 138 := callable Tryz.func138 (by kernel_rfl) rfl   -- strconv.FormatInt
instance : Callable Tryz.prog 142 := callable Tryz.func142 (by kernel_rfl) rfl   -- loop.example/g01012/spec.l02Spoil
instance : Callable Tryz.prog 143 := callable Tryz.func143 (by kernel_rfl) rfl   -- loop.example/g01012/impl.ValidCard$1
instance : Callable Tryz.prog 144 := callable Tryz.func144 (by kernel_rfl) rfl   -- (*loop.example/g01012/spec.l00Src).next
instance : Callable Tryz.prog 145 := callable Tryz.func145 (by kernel_rfl) rfl   -- loop.example/g01012/spec.l02Draw
instance : Callable Tryz.prog 146 := callable Tryz.func146 (by kernel_rfl) rfl   -- loop.example/g01012/spec.l03Card
instance : Callable Tryz.prog 147 := callable Tryz.func147 (by kernel_rfl) rfl   -- loop.example/g01012/spec.l03DrawText
instance : Callable Tryz.prog 148 := callable Tryz.func148 (by kernel_rfl) rfl   -- loop.example/g01012/spec.l02Own
instance : Callable Tryz.prog 149 := callable Tryz.func149 (by kernel_rfl) rfl   -- slices.pdqsortCmpFunc[loop.example/g01012/impl.Copy]
instance : Callable Tryz.prog 153 := callable Tryz.func153 (by kernel_rfl) rfl   -- strconv.ParseInt
instance : Callable Tryz.prog 154 := callable Tryz.func154 (by kernel_rfl) rfl   -- strings.TrimPrefix
instance : Callable Tryz.prog 155 := callable Tryz.func155 (by kernel_rfl) rfl   -- loop.example/g01012/spec.l01Dec
instance : Callable Tryz.prog 156 := callable Tryz.func156 (by kernel_rfl) rfl   -- loop.example/g01012/spec.l00Max
instance : Callable Tryz.prog 157 := callable Tryz.func157 (by kernel_rfl) rfl   -- (*loop.example/g01012/spec.l00Src).text
instance : Callable Tryz.prog 158 := callable Tryz.func158 (by kernel_rfl) rfl   -- loop.example/g01012/spec.l01Digit
instance : Callable Tryz.prog 159 := callable Tryz.func159 (by kernel_rfl) rfl   -- slices.IndexFunc[[]loop.example/g01012/impl.Copy,loop.example/g01012/impl.Copy]
instance : Callable Tryz.prog 160 := callable Tryz.func160 (by kernel_rfl) rfl   -- loop.example/g01012/spec.l02BentDeck
instance : Callable Tryz.prog 161 := callable Tryz.func161 (by kernel_rfl) rfl   -- loop.example/g01012/impl.copyInts
instance : Callable Tryz.prog 162 := callable Tryz.func162 (by kernel_rfl) rfl   -- slices.IndexFunc[[]int64,int64]
instance : Callable Tryz.prog 163 := callable Tryz.func163 (by kernel_rfl) rfl   -- loop.example/g01012/impl.absOf
instance : Callable Tryz.prog 164 := callable Tryz.func164 (by kernel_rfl) rfl   -- loop.example/g01012/spec.l02Bit
instance : Callable Tryz.prog 165 := callable Tryz.func165 (by kernel_rfl) rfl   -- loop.example/g01012/impl.numberIn$1
instance : Callable Tryz.prog 166 := callable Tryz.func166 (by kernel_rfl) rfl   -- loop.example/g01012/impl.digitOf
instance : Callable Tryz.prog 167 := callable Tryz.func167 (by kernel_rfl) rfl   -- slices.ContainsFunc[[]loop.example/g01012/impl.Field,loop.example/g01012/impl.Field]
instance : Callable Tryz.prog 168 := callable Tryz.func168 (by kernel_rfl) rfl   -- loop.example/g01012/impl.ValidSetup$1
instance : Callable Tryz.prog 169 := callable Tryz.func169 (by kernel_rfl) rfl   -- loop.example/g01012/impl.isNumberField
instance : Callable Tryz.prog 170 := callable Tryz.func170 (by kernel_rfl) rfl   -- slices.ContainsFunc[[]loop.example/g01012/impl.Card,loop.example/g01012/impl.Card]
instance : Callable Tryz.prog 171 := callable Tryz.func171 (by kernel_rfl) rfl   -- loop.example/g01012/impl.haveField$1
instance : Callable Tryz.prog 172 := callable Tryz.func172 (by kernel_rfl) rfl   -- loop.example/g01012/impl.hasField
instance : Callable Tryz.prog 173 := callable Tryz.func173 (by kernel_rfl) rfl   -- loop.example/g01012/impl.rankOf
instance : Callable Tryz.prog 174 := callable Tryz.func174 (by kernel_rfl) rfl   -- loop.example/g01012/spec.l03Key
instance : Callable Tryz.prog 175 := callable Tryz.func175 (by kernel_rfl) rfl   -- loop.example/g01012/spec.l03Digit
instance : Callable Tryz.prog 176 := callable Tryz.func176 (by kernel_rfl) rfl   -- loop.example/g01012/impl.compareHoles
instance : Callable Tryz.prog 180 := callable Tryz.func180 (by kernel_rfl) rfl   -- loop.example/g01012/spec.l03Code
instance : Callable Tryz.prog 181 := callable Tryz.func181 (by kernel_rfl) rfl   -- loop.example/g01012/spec.l03Order
instance : Callable Tryz.prog 182 := callable Tryz.func182 (by kernel_rfl) rfl   -- loop.example/g01012/spec.l00Own
instance : Callable Tryz.prog 183 := callable Tryz.func183 (by kernel_rfl) rfl   -- slices.insertionSortCmpFunc[loop.example/g01012/impl.Copy]
instance : Callable Tryz.prog 184 := callable Tryz.func184 (by kernel_rfl) rfl   -- slices.heapSortCmpFunc[loop.example/g01012/impl.Copy]
instance : Callable Tryz.prog 185 := callable Tryz.func185 (by kernel_rfl) rfl   -- slices.breakPatternsCmpFunc[loop.example/g01012/impl.Copy]
instance : Callable Tryz.prog 186 := callable Tryz.func186 (by kernel_rfl) rfl   -- slices.choosePivotCmpFunc[loop.example/g01012/impl.Copy]
instance : Callable Tryz.prog 187 := callable Tryz.func187 (by kernel_rfl) rfl   -- slices.reverseRangeCmpFunc[loop.example/g01012/impl.Copy]
instance : Callable Tryz.prog 188 := callable Tryz.func188 (by kernel_rfl) rfl   -- slices.partialInsertionSortCmpFunc[loop.example/g01012/impl.Copy]
instance : Callable Tryz.prog 189 := callable Tryz.func189 (by kernel_rfl) rfl   -- slices.partitionEqualCmpFunc[loop.example/g01012/impl.Copy]
instance : Callable Tryz.prog 190 := callable Tryz.func190 (by kernel_rfl) rfl   -- slices.partitionCmpFunc[loop.example/g01012/impl.Copy]
instance : Callable Tryz.prog 200 := callable Tryz.func200 (by kernel_rfl) rfl   -- slices.IndexFunc[[]loop.example/g01012/impl.Field,loop.example/g01012/impl.Field]
instance : Callable Tryz.prog 201 := callable Tryz.func201 (by kernel_rfl) rfl   -- slices.IndexFunc[[]loop.example/g01012/impl.Card,loop.example/g01012/impl.Card]
instance : Callable Tryz.prog 202 := callable Tryz.func202 (by kernel_rfl) rfl   -- loop.example/g01012/impl.hasCharacters
instance : Callable Tryz.prog 203 := callable Tryz.func203 (by kernel_rfl) rfl   -- loop.example/g01012/impl.codeOf
instance : Callable Tryz.prog 204 := callable Tryz.func204 (by kernel_rfl) rfl   -- loop.example/g01012/spec.l03Text
instance : Callable Tryz.prog 211 := callable Tryz.func211 (by kernel_rfl) rfl   -- slices.siftDownCmpFunc[loop.example/g01012/impl.Copy]
instance : Callable Tryz.prog 212 := callable Tryz.func212 (by kernel_rfl) rfl   -- slices.nextPowerOfTwo
instance : Callable Tryz.prog 214 := callable Tryz.func214 (by kernel_rfl) rfl   -- slices.medianAdjacentCmpFunc[loop.example/g01012/impl.Copy]
instance : Callable Tryz.prog 215 := callable Tryz.func215 (by kernel_rfl) rfl   -- slices.medianCmpFunc[loop.example/g01012/impl.Copy]
instance : Callable Tryz.prog 229 := callable Tryz.func229 (by kernel_rfl) rfl   -- loop.example/g01012/impl.hasCharacters$1
instance : Callable Tryz.prog 230 := callable Tryz.func230 (by kernel_rfl) rfl   -- loop.example/g01012/impl.CodeOf
instance : Callable Tryz.prog 231 := callable Tryz.func231 (by kernel_rfl) rfl   -- loop.example/g01012/spec.l03Char
instance : Callable Tryz.prog 236 := callable Tryz.func236 (by kernel_rfl) rfl   -- slices.order2CmpFunc[loop.example/g01012/impl.Copy]
instance : Callable Tryz.prog 245 := callable Tryz.func245 (by kernel_rfl) rfl   -- loop.example/g01012/impl.isDigit
end Go.Proofs.YtihnhelkfiaimaaGreatDoor

/- Rules, contracts and plain laws towards the law FnReproduced, part 2. -/
import Derived.Test.YtcbpiaehkodliaaGreatDoorCh1
/- Ty -/
namespace Go.Proofs.YtcbpiaehkodliaaGreatDoor
open Go Go.Gw
theorem mixed : Tryz.prog.follows .mixedOrders = true := by kernel_rfl
instance : TScal Tryz.prog 1 := ⟨⟨_, Tryz.underlying1, rfl⟩, by kernel_rfl⟩
instance : TScal Tryz.prog 2 := ⟨⟨_, Tryz.underlying2, rfl⟩, by kernel_rfl⟩
instance : TInt Tryz.prog 2 .i64 := ⟨Tryz.underlying2⟩
instance : TZero Tryz.prog 2 (.int .i64 0) := ⟨by kernel_rfl⟩
instance : TScal Tryz.prog 3 := ⟨⟨_, Tryz.underlying3, rfl⟩, by kernel_rfl⟩
instance : TInt Tryz.prog 3 .i64 := ⟨Tryz.underlying3⟩
instance : TZero Tryz.prog 3 (.int .i64 0) := ⟨by kernel_rfl⟩
instance : TScal Tryz.prog 4 := ⟨⟨_, Tryz.underlying4, rfl⟩, by kernel_rfl⟩
instance : TBool Tryz.prog 4 := ⟨Tryz.underlying4⟩
instance : TZero Tryz.prog 4 (.bool false) := ⟨by kernel_rfl⟩
instance : TScal Tryz.prog 5 := ⟨⟨_, Tryz.underlying5, rfl⟩, by kernel_rfl⟩
instance : TInt Tryz.prog 5 .u8 := ⟨Tryz.underlying5⟩
instance : TZero Tryz.prog 5 (.int .u8 0) := ⟨by kernel_rfl⟩
instance : TScal Tryz.prog 6 := ⟨⟨_, Tryz.underlying6, rfl⟩, by kernel_rfl⟩
instance : TInt Tryz.prog 6 .u8 := ⟨Tryz.underlying6⟩
instance : TZero Tryz.prog 6 (.int .u8 0) := ⟨by kernel_rfl⟩
instance : TStr Tryz.prog 7 4 := ⟨⟨_, Tryz.underlying7⟩, by kernel_rfl⟩
instance : TFldT Tryz.prog 7 0 0 2 := ⟨⟨_, _, Tryz.underlying7, rfl, rfl, rfl⟩⟩
instance : TFld Tryz.prog 7 0 0 := ⟨⟨_, _, Tryz.underlying7, rfl, rfl, _, (by kernel_rfl : (Tryz.prog.info? 2).map (·.size) = some (0 + 1))⟩⟩
instance : TFldT Tryz.prog 7 1 1 3 := ⟨⟨_, _, Tryz.underlying7, rfl, rfl, rfl⟩⟩
instance : TFld Tryz.prog 7 1 1 := ⟨⟨_, _, Tryz.underlying7, rfl, rfl, _, (by kernel_rfl : (Tryz.prog.info? 3).map (·.size) = some (0 + 1))⟩⟩
instance : TFldT Tryz.prog 7 2 2 4 := ⟨⟨_, _, Tryz.underlying7, rfl, rfl, rfl⟩⟩
instance : TFld Tryz.prog 7 2 2 := ⟨⟨_, _, Tryz.underlying7, rfl, rfl, _, (by kernel_rfl : (Tryz.prog.info? 4).map (·.size) = some (0 + 1))⟩⟩
instance : TFldT Tryz.prog 7 3 3 6 := ⟨⟨_, _, Tryz.underlying7, rfl, rfl, rfl⟩⟩
instance : TFld Tryz.prog 7 3 3 := ⟨⟨_, _, Tryz.underlying7, rfl, rfl, _, (by kernel_rfl : (Tryz.prog.info? 6).map (·.size) = some (0 + 1))⟩⟩
instance : TFlat Tryz.prog 7 [.int .i64 0, .int .i64 0, .bool false, .int .u8 0] := ⟨by kernel_rfl, _, Tryz.underlying7, by kernel_rfl⟩
instance : TZero Tryz.prog 7 (.agg #[.int .i64 0, .int .i64 0, .bool false, .int .u8 0]) := ⟨by kernel_rfl⟩
instance : TStr Tryz.prog 8 4 := ⟨⟨_, Tryz.underlying8⟩, by kernel_rfl⟩
instance : TFldT Tryz.prog 8 0 0 2 := ⟨⟨_, _, Tryz.underlying8, rfl, rfl, rfl⟩⟩
instance : TFld Tryz.prog 8 0 0 := ⟨⟨_, _, Tryz.underlying8, rfl, rfl, _, (by kernel_rfl : (Tryz.prog.info? 2).map (·.size) = some (0 + 1))⟩⟩
instance : TFldT Tryz.prog 8 1 1 3 := ⟨⟨_, _, Tryz.underlying8, rfl, rfl, rfl⟩⟩
instance : TFld Tryz.prog 8 1 1 := ⟨⟨_, _, Tryz.underlying8, rfl, rfl, _, (by kernel_rfl : (Tryz.prog.info? 3).map (·.size) = some (0 + 1))⟩⟩
instance : TFldT Tryz.prog 8 2 2 4 := ⟨⟨_, _, Tryz.underlying8, rfl, rfl, rfl⟩⟩
instance : TFld Tryz.prog 8 2 2 := ⟨⟨_, _, Tryz.underlying8, rfl, rfl, _, (by kernel_rfl : (Tryz.prog.info? 4).map (·.size) = some (0 + 1))⟩⟩
instance : TFldT Tryz.prog 8 3 3 6 := ⟨⟨_, _, Tryz.underlying8, rfl, rfl, rfl⟩⟩
instance : TFld Tryz.prog 8 3 3 := ⟨⟨_, _, Tryz.underlying8, rfl, rfl, _, (by kernel_rfl : (Tryz.prog.info? 6).map (·.size) = some (0 + 1))⟩⟩
instance : TFlat Tryz.prog 8 [.int .i64 0, .int .i64 0, .bool false, .int .u8 0] := ⟨by kernel_rfl, _, Tryz.underlying8, by kernel_rfl⟩
instance : TZero Tryz.prog 8 (.agg #[.int .i64 0, .int .i64 0, .bool false, .int .u8 0]) := ⟨by kernel_rfl⟩
instance : TScal Tryz.prog 9 := ⟨⟨_, Tryz.underlying9, rfl⟩, by kernel_rfl⟩
instance : TStg Tryz.prog 9 := ⟨Tryz.underlying9⟩
instance : TZero Tryz.prog 9 (.string ⟨#[]⟩) := ⟨by kernel_rfl⟩
instance : TScal Tryz.prog 10 := ⟨⟨_, Tryz.underlying10, rfl⟩, by kernel_rfl⟩
instance : TStg Tryz.prog 10 := ⟨Tryz.underlying10⟩
instance : TZero Tryz.prog 10 (.string ⟨#[]⟩) := ⟨by kernel_rfl⟩
instance : TScal Tryz.prog 11 := ⟨⟨_, Tryz.underlying11, rfl⟩, by kernel_rfl⟩
instance : TStg Tryz.prog 11 := ⟨Tryz.underlying11⟩
instance : TZero Tryz.prog 11 (.string ⟨#[]⟩) := ⟨by kernel_rfl⟩
instance : TScal Tryz.prog 12 := ⟨⟨_, Tryz.underlying12, rfl⟩, by kernel_rfl⟩
instance : TInt Tryz.prog 12 .u64 := ⟨Tryz.underlying12⟩
instance : TZero Tryz.prog 12 (.int .u64 0) := ⟨by kernel_rfl⟩
instance : TStr Tryz.prog 13 2 := ⟨⟨_, Tryz.underlying13⟩, by kernel_rfl⟩
instance : TFldT Tryz.prog 13 0 0 9 := ⟨⟨_, _, Tryz.underlying13, rfl, rfl, rfl⟩⟩
instance : TFld Tryz.prog 13 0 0 := ⟨⟨_, _, Tryz.underlying13, rfl, rfl, _, (by kernel_rfl : (Tryz.prog.info? 9).map (·.size) = some (0 + 1))⟩⟩
instance : TFldT Tryz.prog 13 1 1 12 := ⟨⟨_, _, Tryz.underlying13, rfl, rfl, rfl⟩⟩
instance : TFld Tryz.prog 13 1 1 := ⟨⟨_, _, Tryz.underlying13, rfl, rfl, _, (by kernel_rfl : (Tryz.prog.info? 12).map (·.size) = some (0 + 1))⟩⟩
instance : TFlat Tryz.prog 13 [.string ⟨#[]⟩, .int .u64 0] := ⟨by kernel_rfl, _, Tryz.underlying13, by kernel_rfl⟩
instance : TZero Tryz.prog 13 (.agg #[.string ⟨#[]⟩, .int .u64 0]) := ⟨by kernel_rfl⟩
instance : TStr Tryz.prog 14 2 := ⟨⟨_, Tryz.underlying14⟩, by kernel_rfl⟩
instance : TFldT Tryz.prog 14 0 0 9 := ⟨⟨_, _, Tryz.underlying14, rfl, rfl, rfl⟩⟩
instance : TFld Tryz.prog 14 0 0 := ⟨⟨_, _, Tryz.underlying14, rfl, rfl, _, (by kernel_rfl : (Tryz.prog.info? 9).map (·.size) = some (0 + 1))⟩⟩
instance : TFldT Tryz.prog 14 1 1 12 := ⟨⟨_, _, Tryz.underlying14, rfl, rfl, rfl⟩⟩
instance : TFld Tryz.prog 14 1 1 := ⟨⟨_, _, Tryz.underlying14, rfl, rfl, _, (by kernel_rfl : (Tryz.prog.info? 12).map (·.size) = some (0 + 1))⟩⟩
instance : TFlat Tryz.prog 14 [.string ⟨#[]⟩, .int .u64 0] := ⟨by kernel_rfl, _, Tryz.underlying14, by kernel_rfl⟩
instance : TZero Tryz.prog 14 (.agg #[.string ⟨#[]⟩, .int .u64 0]) := ⟨by kernel_rfl⟩
instance : TScal Tryz.prog 15 := ⟨⟨_, Tryz.underlying15, rfl⟩, by kernel_rfl⟩
instance : TScal Tryz.prog 16 := ⟨⟨_, Tryz.underlying16, rfl⟩, by kernel_rfl⟩
instance : TScal Tryz.prog 17 := ⟨⟨_, Tryz.underlying17, rfl⟩, by kernel_rfl⟩
instance : TStr Tryz.prog 18 1 := ⟨⟨_, Tryz.underlying18⟩, by kernel_rfl⟩
instance : TFldT Tryz.prog 18 0 0 17 := ⟨⟨_, _, Tryz.underlying18, rfl, rfl, rfl⟩⟩
instance : TFld Tryz.prog 18 0 0 := ⟨⟨_, _, Tryz.underlying18, rfl, rfl, _, (by kernel_rfl : (Tryz.prog.info? 17).map (·.size) = some (0 + 1))⟩⟩
instance : TFlat Tryz.prog 18 [.pointer none] := ⟨by kernel_rfl, _, Tryz.underlying18, by kernel_rfl⟩
instance : TZero Tryz.prog 18 (.agg #[.pointer none]) := ⟨by kernel_rfl⟩
instance : TStr Tryz.prog 19 1 := ⟨⟨_, Tryz.underlying19⟩, by kernel_rfl⟩
instance : TFldT Tryz.prog 19 0 0 17 := ⟨⟨_, _, Tryz.underlying19, rfl, rfl, rfl⟩⟩
instance : TFld Tryz.prog 19 0 0 := ⟨⟨_, _, Tryz.underlying19, rfl, rfl, _, (by kernel_rfl : (Tryz.prog.info? 17).map (·.size) = some (0 + 1))⟩⟩
instance : TFlat Tryz.prog 19 [.pointer none] := ⟨by kernel_rfl, _, Tryz.underlying19, by kernel_rfl⟩
instance : TZero Tryz.prog 19 (.agg #[.pointer none]) := ⟨by kernel_rfl⟩
instance : TScal Tryz.prog 20 := ⟨⟨_, Tryz.underlying20, rfl⟩, by kernel_rfl⟩
instance : TScal Tryz.prog 21 := ⟨⟨_, Tryz.underlying21, rfl⟩, by kernel_rfl⟩
instance : TInt Tryz.prog 21 .i32 := ⟨Tryz.underlying21⟩
instance : TZero Tryz.prog 21 (.int .i32 0) := ⟨by kernel_rfl⟩
instance : TScal Tryz.prog 22 := ⟨⟨_, Tryz.underlying22, rfl⟩, by kernel_rfl⟩
instance : TZero Tryz.prog 22 (.slice none 0 0) := ⟨by kernel_rfl⟩
instance : TSvE Tryz.prog 22 := ⟨trivial⟩
instance : TSli Tryz.prog 22 5 1 1 := ⟨Tryz.underlying22, by kernel_rfl, by kernel_rfl, by kernel_rfl, zlen_of (z := .int .u8 0) (by kernel_rfl) rfl⟩
instance : TScal Tryz.prog 23 := ⟨⟨_, Tryz.underlying23, rfl⟩, by kernel_rfl⟩
instance : TScal Tryz.prog 24 := ⟨⟨_, Tryz.underlying24, rfl⟩, by kernel_rfl⟩
instance : TZero Tryz.prog 24 (.slice none 0 0) := ⟨by kernel_rfl⟩
instance : TSvE Tryz.prog 24 := ⟨trivial⟩
instance : TSli Tryz.prog 24 2 1 8 := ⟨Tryz.underlying24, by kernel_rfl, by kernel_rfl, by kernel_rfl, zlen_of (z := .int .i64 0) (by kernel_rfl) rfl⟩
instance : TStr Tryz.prog 25 1 := ⟨⟨_, Tryz.underlying25⟩, by kernel_rfl⟩
instance : TFldT Tryz.prog 25 0 0 24 := ⟨⟨_, _, Tryz.underlying25, rfl, rfl, rfl⟩⟩
instance : TFld Tryz.prog 25 0 0 := ⟨⟨_, _, Tryz.underlying25, rfl, rfl, _, (by kernel_rfl : (Tryz.prog.info? 24).map (·.size) = some (0 + 1))⟩⟩
instance : TFlat Tryz.prog 25 [.slice none 0 0] := ⟨by kernel_rfl, _, Tryz.underlying25, by kernel_rfl⟩
instance : TZero Tryz.prog 25 (.agg #[.slice none 0 0]) := ⟨by kernel_rfl⟩
instance : TSvE Tryz.prog 25 := ⟨trivial⟩
instance : TStr Tryz.prog 26 1 := ⟨⟨_, Tryz.underlying26⟩, by kernel_rfl⟩
instance : TFldT Tryz.prog 26 0 0 24 := ⟨⟨_, _, Tryz.underlying26, rfl, rfl, rfl⟩⟩
instance : TFld Tryz.prog 26 0 0 := ⟨⟨_, _, Tryz.underlying26, rfl, rfl, _, (by kernel_rfl : (Tryz.prog.info? 24).map (·.size) = some (0 + 1))⟩⟩
instance : TFlat Tryz.prog 26 [.slice none 0 0] := ⟨by kernel_rfl, _, Tryz.underlying26, by kernel_rfl⟩
instance : TZero Tryz.prog 26 (.agg #[.slice none 0 0]) := ⟨by kernel_rfl⟩
instance : TSvE Tryz.prog 26 := ⟨trivial⟩
instance : TScal Tryz.prog 27 := ⟨⟨_, Tryz.underlying27, rfl⟩, by kernel_rfl⟩
instance : TZero Tryz.prog 27 (.slice none 0 0) := ⟨by kernel_rfl⟩
instance : TSvE Tryz.prog 27 := ⟨trivial⟩
instance : TSli Tryz.prog 27 73 2 16 := ⟨Tryz.underlying27, by kernel_rfl, by kernel_rfl, by kernel_rfl, zlen_of (z := .agg #[.int .i64 0, .int .i64 0]) (by kernel_rfl) rfl⟩
instance : TScal Tryz.prog 29 := ⟨⟨_, Tryz.underlying29, rfl⟩, by kernel_rfl⟩
instance : TScal Tryz.prog 31 := ⟨⟨_, Tryz.underlying31, rfl⟩, by kernel_rfl⟩
instance : TScal Tryz.prog 33 := ⟨⟨_, Tryz.underlying33, rfl⟩, by kernel_rfl⟩
instance : TScal Tryz.prog 35 := ⟨⟨_, Tryz.underlying35, rfl⟩, by kernel_rfl⟩
instance : TScal Tryz.prog 37 := ⟨⟨_, Tryz.underlying37, rfl⟩, by kernel_rfl⟩
instance : TScal Tryz.prog 39 := ⟨⟨_, Tryz.underlying39, rfl⟩, by kernel_rfl⟩
instance : TScal Tryz.prog 40 := ⟨⟨_, Tryz.underlying40, rfl⟩, by kernel_rfl⟩
instance : TScal Tryz.prog 41 := ⟨⟨_, Tryz.underlying41, rfl⟩, by kernel_rfl⟩
instance : TScal Tryz.prog 42 := ⟨⟨_, Tryz.underlying42, rfl⟩, by kernel_rfl⟩
instance : TScal Tryz.prog 44 := ⟨⟨_, Tryz.underlying44, rfl⟩, by kernel_rfl⟩
instance : TScal Tryz.prog 45 := ⟨⟨_, Tryz.underlying45, rfl⟩, by kernel_rfl⟩
instance : TScal Tryz.prog 47 := ⟨⟨_, Tryz.underlying47, rfl⟩, by kernel_rfl⟩
instance : TScal Tryz.prog 48 := ⟨⟨_, Tryz.underlying48, rfl⟩, by kernel_rfl⟩
instance : TScal Tryz.prog 49 := ⟨⟨_, Tryz.underlying49, rfl⟩, by kernel_rfl⟩
instance : TScal Tryz.prog 50 := ⟨⟨_, Tryz.underlying50, rfl⟩, by kernel_rfl⟩
instance : TScal Tryz.prog 51 := ⟨⟨_, Tryz.underlying51, rfl⟩, by kernel_rfl⟩
instance : TScal Tryz.prog 52 := ⟨⟨_, Tryz.underlying52, rfl⟩, by kernel_rfl⟩
instance : TScal Tryz.prog 53 := ⟨⟨_, Tryz.underlying53, rfl⟩, by kernel_rfl⟩
instance : TScal Tryz.prog 54 := ⟨⟨_, Tryz.underlying54, rfl⟩, by kernel_rfl⟩
instance : TScal Tryz.prog 55 := ⟨⟨_, Tryz.underlying55, rfl⟩, by kernel_rfl⟩
instance : TScal Tryz.prog 56 := ⟨⟨_, Tryz.underlying56, rfl⟩, by kernel_rfl⟩
instance : TScal Tryz.prog 57 := ⟨⟨_, Tryz.underlying57, rfl⟩, by kernel_rfl⟩
instance : TScal Tryz.prog 58 := ⟨⟨_, Tryz.underlying58, rfl⟩, by kernel_rfl⟩
instance : TScal Tryz.prog 59 := ⟨⟨_, Tryz.underlying59, rfl⟩, by kernel_rfl⟩
instance : TScal Tryz.prog 60 := ⟨⟨_, Tryz.underlying60, rfl⟩, by kernel_rfl⟩
instance : TScal Tryz.prog 61 := ⟨⟨_, Tryz.underlying61, rfl⟩, by kernel_rfl⟩
instance : TScal Tryz.prog 62 := ⟨⟨_, Tryz.underlying62, rfl⟩, by kernel_rfl⟩
instance : TScal Tryz.prog 63 := ⟨⟨_, Tryz.underlying63, rfl⟩, by kernel_rfl⟩
instance : TScal Tryz.prog 64 := ⟨⟨_, Tryz.underlying64, rfl⟩, by kernel_rfl⟩
instance : TScal Tryz.prog 65 := ⟨⟨_, Tryz.underlying65, rfl⟩, by kernel_rfl⟩
instance : TScal Tryz.prog 66 := ⟨⟨_, Tryz.underlying66, rfl⟩, by kernel_rfl⟩
instance : TScal Tryz.prog 67 := ⟨⟨_, Tryz.underlying67, rfl⟩, by kernel_rfl⟩
instance : TScal Tryz.prog 68 := ⟨⟨_, Tryz.underlying68, rfl⟩, by kernel_rfl⟩
instance : TScal Tryz.prog 69 := ⟨⟨_, Tryz.underlying69, rfl⟩, by kernel_rfl⟩
instance : TScal Tryz.prog 70 := ⟨⟨_, Tryz.underlying70, rfl⟩, by kernel_rfl⟩
instance : TScal Tryz.prog 71 := ⟨⟨_, Tryz.underlying71, rfl⟩, by kernel_rfl⟩
instance : TStr Tryz.prog 72 2 := ⟨⟨_, Tryz.underlying72⟩, by kernel_rfl⟩
instance : TFldT Tryz.prog 72 0 0 2 := ⟨⟨_, _, Tryz.underlying72, rfl, rfl, rfl⟩⟩
instance : TFld Tryz.prog 72 0 0 := ⟨⟨_, _, Tryz.underlying72, rfl, rfl, _, (by kernel_rfl : (Tryz.prog.info? 2).map (·.size) = some (0 + 1))⟩⟩
instance : TFldT Tryz.prog 72 1 1 2 := ⟨⟨_, _, Tryz.underlying72, rfl, rfl, rfl⟩⟩
instance : TFld Tryz.prog 72 1 1 := ⟨⟨_, _, Tryz.underlying72, rfl, rfl, _, (by kernel_rfl : (Tryz.prog.info? 2).map (·.size) = some (0 + 1))⟩⟩
instance : TFlat Tryz.prog 72 [.int .i64 0, .int .i64 0] := ⟨by kernel_rfl, _, Tryz.underlying72, by kernel_rfl⟩
instance : TZero Tryz.prog 72 (.agg #[.int .i64 0, .int .i64 0]) := ⟨by kernel_rfl⟩
instance : TPair Tryz.prog 73 := ⟨by kernel_rfl, by kernel_rfl, _, _, Tryz.underlying73, by decide, by decide, rfl, rfl, Tryz.underlying2, Tryz.underlying2⟩
instance : TStr Tryz.prog 73 2 := ⟨⟨_, Tryz.underlying73⟩, by kernel_rfl⟩
instance : TFldT Tryz.prog 73 0 0 2 := ⟨⟨_, _, Tryz.underlying73, rfl, rfl, rfl⟩⟩
instance : TFld Tryz.prog 73 0 0 := ⟨⟨_, _, Tryz.underlying73, rfl, rfl, _, (by kernel_rfl : (Tryz.prog.info? 2).map (·.size) = some (0 + 1))⟩⟩
instance : TFldT Tryz.prog 73 1 1 2 := ⟨⟨_, _, Tryz.underlying73, rfl, rfl, rfl⟩⟩
instance : TFld Tryz.prog 73 1 1 := ⟨⟨_, _, Tryz.underlying73, rfl, rfl, _, (by kernel_rfl : (Tryz.prog.info? 2).map (·.size) = some (0 + 1))⟩⟩
instance : TFlat Tryz.prog 73 [.int .i64 0, .int .i64 0] := ⟨by kernel_rfl, _, Tryz.underlying73, by kernel_rfl⟩
instance : TZero Tryz.prog 73 (.agg #[.int .i64 0, .int .i64 0]) := ⟨by kernel_rfl⟩
instance : TScal Tryz.prog 74 := ⟨⟨_, Tryz.underlying74, rfl⟩, by kernel_rfl⟩
instance : TScal Tryz.prog 75 := ⟨⟨_, Tryz.underlying75, rfl⟩, by kernel_rfl⟩
instance : TScal Tryz.prog 76 := ⟨⟨_, Tryz.underlying76, rfl⟩, by kernel_rfl⟩
instance : TScal Tryz.prog 77 := ⟨⟨_, Tryz.underlying77, rfl⟩, by kernel_rfl⟩
instance : TZero Tryz.prog 77 (.slice none 0 0) := ⟨by kernel_rfl⟩
instance : TSvE Tryz.prog 77 := ⟨trivial⟩
instance : TSli Tryz.prog 77 9 1 16 := ⟨Tryz.underlying77, by kernel_rfl, by kernel_rfl, by kernel_rfl, zlen_of (z := .string ⟨#[]⟩) (by kernel_rfl) rfl⟩
instance : TScal Tryz.prog 78 := ⟨⟨_, Tryz.underlying78, rfl⟩, by kernel_rfl⟩
instance : TScal Tryz.prog 79 := ⟨⟨_, Tryz.underlying79, rfl⟩, by kernel_rfl⟩
instance : TScal Tryz.prog 80 := ⟨⟨_, Tryz.underlying80, rfl⟩, by kernel_rfl⟩
instance : TScal Tryz.prog 82 := ⟨⟨_, Tryz.underlying82, rfl⟩, by kernel_rfl⟩
instance : TScal Tryz.prog 84 := ⟨⟨_, Tryz.underlying84, rfl⟩, by kernel_rfl⟩
instance : TScal Tryz.prog 85 := ⟨⟨_, Tryz.underlying85, rfl⟩, by kernel_rfl⟩
instance : TScal Tryz.prog 86 := ⟨⟨_, Tryz.underlying86, rfl⟩, by kernel_rfl⟩
instance : TScal Tryz.prog 87 := ⟨⟨_, Tryz.underlying87, rfl⟩, by kernel_rfl⟩
instance : TScal Tryz.prog 88 := ⟨⟨_, Tryz.underlying88, rfl⟩, by kernel_rfl⟩
instance : TScal Tryz.prog 89 := ⟨⟨_, Tryz.underlying89, rfl⟩, by kernel_rfl⟩
instance : TScal Tryz.prog 90 := ⟨⟨_, Tryz.underlying90, rfl⟩, by kernel_rfl⟩
instance : TInt Tryz.prog 90 .u64 := ⟨Tryz.underlying90⟩
instance : TZero Tryz.prog 90 (.int .u64 0) := ⟨by kernel_rfl⟩
instance : TStr Tryz.prog 91 3 := ⟨⟨_, Tryz.underlying91⟩, by kernel_rfl⟩
instance : TFldT Tryz.prog 91 0 0 22 := ⟨⟨_, _, Tryz.underlying91, rfl, rfl, rfl⟩⟩
instance : TFld Tryz.prog 91 0 0 := ⟨⟨_, _, Tryz.underlying91, rfl, rfl, _, (by kernel_rfl : (Tryz.prog.info? 22).map (·.size) = some (0 + 1))⟩⟩
instance : TFldT Tryz.prog 91 1 1 3 := ⟨⟨_, _, Tryz.underlying91, rfl, rfl, rfl⟩⟩
instance : TFld Tryz.prog 91 1 1 := ⟨⟨_, _, Tryz.underlying91, rfl, rfl, _, (by kernel_rfl : (Tryz.prog.info? 3).map (·.size) = some (0 + 1))⟩⟩
instance : TFldT Tryz.prog 91 2 2 90 := ⟨⟨_, _, Tryz.underlying91, rfl, rfl, rfl⟩⟩
instance : TFld Tryz.prog 91 2 2 := ⟨⟨_, _, Tryz.underlying91, rfl, rfl, _, (by kernel_rfl : (Tryz.prog.info? 90).map (·.size) = some (0 + 1))⟩⟩
instance : TFlat Tryz.prog 91 [.slice none 0 0, .int .i64 0, .int .u64 0] := ⟨by kernel_rfl, _, Tryz.underlying91, by kernel_rfl⟩
instance : TZero Tryz.prog 91 (.agg #[.slice none 0 0, .int .i64 0, .int .u64 0]) := ⟨by kernel_rfl⟩
instance : TStr Tryz.prog 92 3 := ⟨⟨_, Tryz.underlying92⟩, by kernel_rfl⟩
instance : TFldT Tryz.prog 92 0 0 22 := ⟨⟨_, _, Tryz.underlying92, rfl, rfl, rfl⟩⟩
instance : TFld Tryz.prog 92 0 0 := ⟨⟨_, _, Tryz.underlying92, rfl, rfl, _, (by kernel_rfl : (Tryz.prog.info? 22).map (·.size) = some (0 + 1))⟩⟩
instance : TFldT Tryz.prog 92 1 1 3 := ⟨⟨_, _, Tryz.underlying92, rfl, rfl, rfl⟩⟩
instance : TFld Tryz.prog 92 1 1 := ⟨⟨_, _, Tryz.underlying92, rfl, rfl, _, (by kernel_rfl : (Tryz.prog.info? 3).map (·.size) = some (0 + 1))⟩⟩
instance : TFldT Tryz.prog 92 2 2 90 := ⟨⟨_, _, Tryz.underlying92, rfl, rfl, rfl⟩⟩
instance : TFld Tryz.prog 92 2 2 := ⟨⟨_, _, Tryz.underlying92, rfl, rfl, _, (by kernel_rfl : (Tryz.prog.info? 90).map (·.size) = some (0 + 1))⟩⟩
instance : TFlat Tryz.prog 92 [.slice none 0 0, .int .i64 0, .int .u64 0] := ⟨by kernel_rfl, _, Tryz.underlying92, by kernel_rfl⟩
instance : TZero Tryz.prog 92 (.agg #[.slice none 0 0, .int .i64 0, .int .u64 0]) := ⟨by kernel_rfl⟩
instance : TScal Tryz.prog 93 := ⟨⟨_, Tryz.underlying93, rfl⟩, by kernel_rfl⟩
instance : TScal Tryz.prog 94 := ⟨⟨_, Tryz.underlying94, rfl⟩, by kernel_rfl⟩
instance : TScal Tryz.prog 95 := ⟨⟨_, Tryz.underlying95, rfl⟩, by kernel_rfl⟩
instance : TScal Tryz.prog 96 := ⟨⟨_, Tryz.underlying96, rfl⟩, by kernel_rfl⟩
instance : TScal Tryz.prog 97 := ⟨⟨_, Tryz.underlying97, rfl⟩, by kernel_rfl⟩
instance : TScal Tryz.prog 98 := ⟨⟨_, Tryz.underlying98, rfl⟩, by kernel_rfl⟩
instance : TScal Tryz.prog 99 := ⟨⟨_, Tryz.underlying99, rfl⟩, by kernel_rfl⟩
instance : TScal Tryz.prog 100 := ⟨⟨_, Tryz.underlying100, rfl⟩, by kernel_rfl⟩
instance : TScal Tryz.prog 101 := ⟨⟨_, Tryz.underlying101, rfl⟩, by kernel_rfl⟩
instance : TInt Tryz.prog 101 .u64 := ⟨Tryz.underlying101⟩
instance : TZero Tryz.prog 101 (.int .u64 0) := ⟨by kernel_rfl⟩
instance : TScal Tryz.prog 102 := ⟨⟨_, Tryz.underlying102, rfl⟩, by kernel_rfl⟩
instance : TScal Tryz.prog 103 := ⟨⟨_, Tryz.underlying103, rfl⟩, by kernel_rfl⟩
instance : TScal Tryz.prog 104 := ⟨⟨_, Tryz.underlying104, rfl⟩, by kernel_rfl⟩
instance : TScal Tryz.prog 105 := ⟨⟨_, Tryz.underlying105, rfl⟩, by kernel_rfl⟩
instance : TStr Tryz.prog 106 2 := ⟨⟨_, Tryz.underlying106⟩, by kernel_rfl⟩
instance : TFldT Tryz.prog 106 0 0 105 := ⟨⟨_, _, Tryz.underlying106, rfl, rfl, rfl⟩⟩
instance : TFld Tryz.prog 106 0 0 := ⟨⟨_, _, Tryz.underlying106, rfl, rfl, _, (by kernel_rfl : (Tryz.prog.info? 105).map (·.size) = some (0 + 1))⟩⟩
instance : TFldT Tryz.prog 106 1 1 22 := ⟨⟨_, _, Tryz.underlying106, rfl, rfl, rfl⟩⟩
instance : TFld Tryz.prog 106 1 1 := ⟨⟨_, _, Tryz.underlying106, rfl, rfl, _, (by kernel_rfl : (Tryz.prog.info? 22).map (·.size) = some (0 + 1))⟩⟩
instance : TFlat Tryz.prog 106 [.pointer none, .slice none 0 0] := ⟨by kernel_rfl, _, Tryz.underlying106, by kernel_rfl⟩
instance : TZero Tryz.prog 106 (.agg #[.pointer none, .slice none 0 0]) := ⟨by kernel_rfl⟩
instance : TStr Tryz.prog 107 2 := ⟨⟨_, Tryz.underlying107⟩, by kernel_rfl⟩
instance : TFldT Tryz.prog 107 0 0 105 := ⟨⟨_, _, Tryz.underlying107, rfl, rfl, rfl⟩⟩
instance : TFld Tryz.prog 107 0 0 := ⟨⟨_, _, Tryz.underlying107, rfl, rfl, _, (by kernel_rfl : (Tryz.prog.info? 105).map (·.size) = some (0 + 1))⟩⟩
instance : TFldT Tryz.prog 107 1 1 22 := ⟨⟨_, _, Tryz.underlying107, rfl, rfl, rfl⟩⟩
instance : TFld Tryz.prog 107 1 1 := ⟨⟨_, _, Tryz.underlying107, rfl, rfl, _, (by kernel_rfl : (Tryz.prog.info? 22).map (·.size) = some (0 + 1))⟩⟩
instance : TFlat Tryz.prog 107 [.pointer none, .slice none 0 0] := ⟨by kernel_rfl, _, Tryz.underlying107, by kernel_rfl⟩
instance : TZero Tryz.prog 107 (.agg #[.pointer none, .slice none 0 0]) := ⟨by kernel_rfl⟩
instance : TScal Tryz.prog 108 := ⟨⟨_, Tryz.underlying108, rfl⟩, by kernel_rfl⟩
instance : TScal Tryz.prog 109 := ⟨⟨_, Tryz.underlying109, rfl⟩, by kernel_rfl⟩
instance : TScal Tryz.prog 110 := ⟨⟨_, Tryz.underlying110, rfl⟩, by kernel_rfl⟩
instance : TScal Tryz.prog 112 := ⟨⟨_, Tryz.underlying112, rfl⟩, by kernel_rfl⟩
instance : TScal Tryz.prog 113 := ⟨⟨_, Tryz.underlying113, rfl⟩, by kernel_rfl⟩
instance : TScal Tryz.prog 114 := ⟨⟨_, Tryz.underlying114, rfl⟩, by kernel_rfl⟩
instance : TScal Tryz.prog 116 := ⟨⟨_, Tryz.underlying116, rfl⟩, by kernel_rfl⟩
instance : TScal Tryz.prog 117 := ⟨⟨_, Tryz.underlying117, rfl⟩, by kernel_rfl⟩
instance : TScal Tryz.prog 118 := ⟨⟨_, Tryz.underlying118, rfl⟩, by kernel_rfl⟩
instance : TScal Tryz.prog 119 := ⟨⟨_, Tryz.underlying119, rfl⟩, by kernel_rfl⟩
instance : TScal Tryz.prog 120 := ⟨⟨_, Tryz.underlying120, rfl⟩, by kernel_rfl⟩
instance : TScal Tryz.prog 121 := ⟨⟨_, Tryz.underlying121, rfl⟩, by kernel_rfl⟩
instance : TScal Tryz.prog 122 := ⟨⟨_, Tryz.underlying122, rfl⟩, by kernel_rfl⟩
instance : TScal Tryz.prog 123 := ⟨⟨_, Tryz.underlying123, rfl⟩, by kernel_rfl⟩
instance : TScal Tryz.prog 124 := ⟨⟨_, Tryz.underlying124, rfl⟩, by kernel_rfl⟩
instance : TScal Tryz.prog 125 := ⟨⟨_, Tryz.underlying125, rfl⟩, by kernel_rfl⟩
instance : TScal Tryz.prog 126 := ⟨⟨_, Tryz.underlying126, rfl⟩, by kernel_rfl⟩
instance : TInt Tryz.prog 126 .i64 := ⟨Tryz.underlying126⟩
instance : TZero Tryz.prog 126 (.int .i64 0) := ⟨by kernel_rfl⟩
instance : TScal Tryz.prog 128 := ⟨⟨_, Tryz.underlying128, rfl⟩, by kernel_rfl⟩
instance : TScal Tryz.prog 129 := ⟨⟨_, Tryz.underlying129, rfl⟩, by kernel_rfl⟩
instance : TScal Tryz.prog 130 := ⟨⟨_, Tryz.underlying130, rfl⟩, by kernel_rfl⟩
instance : TScal Tryz.prog 132 := ⟨⟨_, Tryz.underlying132, rfl⟩, by kernel_rfl⟩
instance : TScal Tryz.prog 133 := ⟨⟨_, Tryz.underlying133, rfl⟩, by kernel_rfl⟩
instance : TScal Tryz.prog 134 := ⟨⟨_, Tryz.underlying134, rfl⟩, by kernel_rfl⟩
instance : TInt Tryz.prog 134 .u32 := ⟨Tryz.underlying134⟩
instance : TZero Tryz.prog 134 (.int .u32 0) := ⟨by kernel_rfl⟩
instance : TScal Tryz.prog 135 := ⟨⟨_, Tryz.underlying135, rfl⟩, by kernel_rfl⟩
instance : TScal Tryz.prog 136 := ⟨⟨_, Tryz.underlying136, rfl⟩, by kernel_rfl⟩
instance : TScal Tryz.prog 137 := ⟨⟨_, Tryz.underlying137, rfl⟩, by kernel_rfl⟩
instance : TScal Tryz.prog 138 := ⟨⟨_, Tryz.underlying138, rfl⟩, by kernel_rfl⟩
instance : TScal Tryz.prog 139 := ⟨⟨_, Tryz.underlying139, rfl⟩, by kernel_rfl⟩
instance : TScal Tryz.prog 140 := ⟨⟨_, Tryz.underlying140, rfl⟩, by kernel_rfl⟩
instance : TInt Tryz.prog 140 .u64 := ⟨Tryz.underlying140⟩
instance : TZero Tryz.prog 140 (.int .u64 0) := ⟨by kernel_rfl⟩
instance : TScal Tryz.prog 141 := ⟨⟨_, Tryz.underlying141, rfl⟩, by kernel_rfl⟩
instance : TScal Tryz.prog 142 := ⟨⟨_, Tryz.underlying142, rfl⟩, by kernel_rfl⟩
instance : TScal Tryz.prog 143 := ⟨⟨_, Tryz.underlying143, rfl⟩, by kernel_rfl⟩
instance : TScal Tryz.prog 144 := ⟨⟨_, Tryz.underlying144, rfl⟩, by kernel_rfl⟩
instance : TScal Tryz.prog 145 := ⟨⟨_, Tryz.underlying145, rfl⟩, by kernel_rfl⟩
instance : TScal Tryz.prog 146 := ⟨⟨_, Tryz.underlying146, rfl⟩, by kernel_rfl⟩
instance : TArr Tryz.prog 147 24 5 := ⟨Tryz.underlying147⟩
instance : TZero Tryz.prog 147 (.agg #[.int .u8 0, .int .u8 0, .int .u8 0, .int .u8 0, .int .u8 0, .int .u8 0, .int .u8 0, .int .u8 0, .int .u8 0, .int .u8 0, .int .u8 0, .int .u8 0, .int .u8 0, .int .u8 0, .int .u8 0, .int .u8 0, .int .u8 0, .int .u8 0, .int .u8 0, .int .u8 0, .int .u8 0, .int .u8 0, .int .u8 0, .int .u8 0]) := ⟨by kernel_rfl⟩
instance : TScal Tryz.prog 148 := ⟨⟨_, Tryz.underlying148, rfl⟩, by kernel_rfl⟩
instance : TScal Tryz.prog 150 := ⟨⟨_, Tryz.underlying150, rfl⟩, by kernel_rfl⟩
instance : TScal Tryz.prog 152 := ⟨⟨_, Tryz.underlying152, rfl⟩, by kernel_rfl⟩
instance : TScal Tryz.prog 153 := ⟨⟨_, Tryz.underlying153, rfl⟩, by kernel_rfl⟩
instance : TScal Tryz.prog 154 := ⟨⟨_, Tryz.underlying154, rfl⟩, by kernel_rfl⟩
instance : TScal Tryz.prog 156 := ⟨⟨_, Tryz.underlying156, rfl⟩, by kernel_rfl⟩
instance : TScal Tryz.prog 157 := ⟨⟨_, Tryz.underlying157, rfl⟩, by kernel_rfl⟩
instance : TScal Tryz.prog 158 := ⟨⟨_, Tryz.underlying158, rfl⟩, by kernel_rfl⟩
instance : TScal Tryz.prog 159 := ⟨⟨_, Tryz.underlying159, rfl⟩, by kernel_rfl⟩
instance : TInt Tryz.prog 159 .i64 := ⟨Tryz.underlying159⟩
instance : TZero Tryz.prog 159 (.int .i64 0) := ⟨by kernel_rfl⟩
instance : TScal Tryz.prog 161 := ⟨⟨_, Tryz.underlying161, rfl⟩, by kernel_rfl⟩
instance : TScal Tryz.prog 162 := ⟨⟨_, Tryz.underlying162, rfl⟩, by kernel_rfl⟩
instance : TScal Tryz.prog 163 := ⟨⟨_, Tryz.underlying163, rfl⟩, by kernel_rfl⟩
instance : TScal Tryz.prog 164 := ⟨⟨_, Tryz.underlying164, rfl⟩, by kernel_rfl⟩
instance : TScal Tryz.prog 165 := ⟨⟨_, Tryz.underlying165, rfl⟩, by kernel_rfl⟩
instance : TScal Tryz.prog 166 := ⟨⟨_, Tryz.underlying166, rfl⟩, by kernel_rfl⟩
instance : TScal Tryz.prog 168 := ⟨⟨_, Tryz.underlying168, rfl⟩, by kernel_rfl⟩
instance : TScal Tryz.prog 169 := ⟨⟨_, Tryz.underlying169, rfl⟩, by kernel_rfl⟩
instance : TArr Tryz.prog 170 20 90 := ⟨Tryz.underlying170⟩
instance : TZero Tryz.prog 170 (.agg #[.int .u64 0, .int .u64 0, .int .u64 0, .int .u64 0, .int .u64 0, .int .u64 0, .int .u64 0, .int .u64 0, .int .u64 0, .int .u64 0, .int .u64 0, .int .u64 0, .int .u64 0, .int .u64 0, .int .u64 0, .int .u64 0, .int .u64 0, .int .u64 0, .int .u64 0, .int .u64 0]) := ⟨by kernel_rfl⟩
instance : TArr Tryz.prog 171 65 5 := ⟨Tryz.underlying171⟩
instance : TZero Tryz.prog 171 (.agg #[.int .u8 0, .int .u8 0, .int .u8 0, .int .u8 0, .int .u8 0, .int .u8 0, .int .u8 0, .int .u8 0, .int .u8 0, .int .u8 0, .int .u8 0, .int .u8 0, .int .u8 0, .int .u8 0, .int .u8 0, .int .u8 0, .int .u8 0, .int .u8 0, .int .u8 0, .int .u8 0, .int .u8 0, .int .u8 0, .int .u8 0, .int .u8 0, .int .u8 0, .int .u8 0, .int .u8 0, .int .u8 0, .int .u8 0, .int .u8 0, .int .u8 0, .int .u8 0, .int .u8 0, .int .u8 0, .int .u8 0, .int .u8 0, .int .u8 0, .int .u8 0, .int .u8 0, .int .u8 0, .int .u8 0, .int .u8 0, .int .u8 0, .int .u8 0, .int .u8 0, .int .u8 0, .int .u8 0, .int .u8 0, .int .u8 0, .int .u8 0, .int .u8 0, .int .u8 0, .int .u8 0, .int .u8 0, .int .u8 0, .int .u8 0, .int .u8 0, .int .u8 0, .int .u8 0, .int .u8 0, .int .u8 0, .int .u8 0, .int .u8 0, .int .u8 0, .int .u8 0]) := ⟨by kernel_rfl⟩
instance : TScal Tryz.prog 172 := ⟨⟨_, Tryz.underlying172, rfl⟩, by kernel_rfl⟩
instance : TScal Tryz.prog 174 := ⟨⟨_, Tryz.underlying174, rfl⟩, by kernel_rfl⟩
instance : TScal Tryz.prog 175 := ⟨⟨_, Tryz.underlying175, rfl⟩, by kernel_rfl⟩
instance : TScal Tryz.prog 176 := ⟨⟨_, Tryz.underlying176, rfl⟩, by kernel_rfl⟩
instance : TScal Tryz.prog 177 := ⟨⟨_, Tryz.underlying177, rfl⟩, by kernel_rfl⟩
instance : TStr Tryz.prog 178 3 := ⟨⟨_, Tryz.underlying178⟩, by kernel_rfl⟩
instance : TFldT Tryz.prog 178 0 0 9 := ⟨⟨_, _, Tryz.underlying178, rfl, rfl, rfl⟩⟩
instance : TFld Tryz.prog 178 0 0 := ⟨⟨_, _, Tryz.underlying178, rfl, rfl, _, (by kernel_rfl : (Tryz.prog.info? 9).map (·.size) = some (0 + 1))⟩⟩
instance : TFldT Tryz.prog 178 1 1 9 := ⟨⟨_, _, Tryz.underlying178, rfl, rfl, rfl⟩⟩
instance : TFld Tryz.prog 178 1 1 := ⟨⟨_, _, Tryz.underlying178, rfl, rfl, _, (by kernel_rfl : (Tryz.prog.info? 9).map (·.size) = some (0 + 1))⟩⟩
instance : TFldT Tryz.prog 178 2 2 110 := ⟨⟨_, _, Tryz.underlying178, rfl, rfl, rfl⟩⟩
instance : TFld Tryz.prog 178 2 2 := ⟨⟨_, _, Tryz.underlying178, rfl, rfl, _, (by kernel_rfl : (Tryz.prog.info? 110).map (·.size) = some (0 + 1))⟩⟩
instance : TFlat Tryz.prog 178 [.string ⟨#[]⟩, .string ⟨#[]⟩, .nilIface] := ⟨by kernel_rfl, _, Tryz.underlying178, by kernel_rfl⟩
instance : TZero Tryz.prog 178 (.agg #[.string ⟨#[]⟩, .string ⟨#[]⟩, .nilIface]) := ⟨by kernel_rfl⟩
instance : TStr Tryz.prog 179 3 := ⟨⟨_, Tryz.underlying179⟩, by kernel_rfl⟩
instance : TFldT Tryz.prog 179 0 0 9 := ⟨⟨_, _, Tryz.underlying179, rfl, rfl, rfl⟩⟩
instance : TFld Tryz.prog 179 0 0 := ⟨⟨_, _, Tryz.underlying179, rfl, rfl, _, (by kernel_rfl : (Tryz.prog.info? 9).map (·.size) = some (0 + 1))⟩⟩
instance : TFldT Tryz.prog 179 1 1 9 := ⟨⟨_, _, Tryz.underlying179, rfl, rfl, rfl⟩⟩
instance : TFld Tryz.prog 179 1 1 := ⟨⟨_, _, Tryz.underlying179, rfl, rfl, _, (by kernel_rfl : (Tryz.prog.info? 9).map (·.size) = some (0 + 1))⟩⟩
instance : TFldT Tryz.prog 179 2 2 110 := ⟨⟨_, _, Tryz.underlying179, rfl, rfl, rfl⟩⟩
instance : TFld Tryz.prog 179 2 2 := ⟨⟨_, _, Tryz.underlying179, rfl, rfl, _, (by kernel_rfl : (Tryz.prog.info? 110).map (·.size) = some (0 + 1))⟩⟩
instance : TFlat Tryz.prog 179 [.string ⟨#[]⟩, .string ⟨#[]⟩, .nilIface] := ⟨by kernel_rfl, _, Tryz.underlying179, by kernel_rfl⟩
instance : TZero Tryz.prog 179 (.agg #[.string ⟨#[]⟩, .string ⟨#[]⟩, .nilIface]) := ⟨by kernel_rfl⟩
instance : TScal Tryz.prog 180 := ⟨⟨_, Tryz.underlying180, rfl⟩, by kernel_rfl⟩
instance : TArr Tryz.prog 181 256 5 := ⟨Tryz.underlying181⟩
instance : TZero Tryz.prog 181 (.agg #[.int .u8 0, .int .u8 0, .int .u8 0, .int .u8 0, .int .u8 0, .int .u8 0, .int .u8 0, .int .u8 0, .int .u8 0, .int .u8 0, .int .u8 0, .int .u8 0, .int .u8 0, .int .u8 0, .int .u8 0, .int .u8 0, .int .u8 0, .int .u8 0, .int .u8 0, .int .u8 0, .int .u8 0, .int .u8 0, .int .u8 0, .int .u8 0, .int .u8 0, .int .u8 0, .int .u8 0, .int .u8 0, .int .u8 0, .int .u8 0, .int .u8 0, .int .u8 0, .int .u8 0, .int .u8 0, .int .u8 0, .int .u8 0, .int .u8 0, .int .u8 0, .int .u8 0, .int .u8 0, .int .u8 0, .int .u8 0, .int .u8 0, .int .u8 0, .int .u8 0, .int .u8 0, .int .u8 0, .int .u8 0, .int .u8 0, .int .u8 0, .int .u8 0, .int .u8 0, .int .u8 0, .int .u8 0, .int .u8 0, .int .u8 0, .int .u8 0, .int .u8 0, .int .u8 0, .int .u8 0, .int .u8 0, .int .u8 0, .int .u8 0, .int .u8 0, .int .u8 0, .int .u8 0, .int .u8 0, .int .u8 0, .int .u8 0, .int .u8 0, .int .u8 0, .int .u8 0, .int .u8 0, .int .u8 0, .int .u8 0, .int .u8 0, .int .u8 0, .int .u8 0, .int .u8 0, .int .u8 0, .int .u8 0, .int .u8 0, .int .u8 0, .int .u8 0, .int .u8 0, .int .u8 0, .int .u8 0, .int .u8 0, .int .u8 0, .int .u8 0, .int .u8 0, .int .u8 0, .int .u8 0, .int .u8 0, .int .u8 0, .int .u8 0, .int .u8 0, .int .u8 0, .int .u8 0, .int .u8 0, .int .u8 0, .int .u8 0, .int .u8 0, .int .u8 0, .int .u8 0, .int .u8 0, .int .u8 0, .int .u8 0, .int .u8 0, .int .u8 0, .int .u8 0, .int .u8 0, .int .u8 0, .int .u8 0, .int .u8 0, .int .u8 0, .int .u8 0, .int .u8 0, .int .u8 0, .int .u8 0, .int .u8 0, .int .u8 0, .int .u8 0, .int .u8 0, .int .u8 0, .int .u8 0, .int .u8 0, .int .u8 0, .int .u8 0, .int .u8 0, .int .u8 0, .int .u8 0, .int .u8 0, .int .u8 0, .int .u8 0, .int .u8 0, .int .u8 0, .int .u8 0, .int .u8 0, .int .u8 0, .int .u8 0, .int .u8 0, .int .u8 0, .int .u8 0, .int .u8 0, .int .u8 0, .int .u8 0, .int .u8 0, .int .u8 0, .int .u8 0, .int .u8 0, .int .u8 0, .int .u8 0, .int .u8 0, .int .u8 0, .int .u8 0, .int .u8 0, .int .u8 0, .int .u8 0, .int .u8 0, .int .u8 0, .int .u8 0, .int .u8 0, .int .u8 0, .int .u8 0, .int .u8 0, .int .u8 0, .int .u8 0, .int .u8 0, .int .u8 0, .int .u8 0, .int .u8 0, .int .u8 0, .int .u8 0, .int .u8 0, .int .u8 0, .int .u8 0, .int .u8 0, .int .u8 0, .int .u8 0, .int .u8 0, .int .u8 0, .int .u8 0, .int .u8 0, .int .u8 0, .int .u8 0, .int .u8 0, .int .u8 0, .int .u8 0, .int .u8 0, .int .u8 0, .int .u8 0, .int .u8 0, .int .u8 0, .int .u8 0, .int .u8 0, .int .u8 0, .int .u8 0, .int .u8 0, .int .u8 0, .int .u8 0, .int .u8 0, .int .u8 0, .int .u8 0, .int .u8 0, .int .u8 0, .int .u8 0, .int .u8 0, .int .u8 0, .int .u8 0, .int .u8 0, .int .u8 0, .int .u8 0, .int .u8 0, .int .u8 0, .int .u8 0, .int .u8 0, .int .u8 0, .int .u8 0, .int .u8 0, .int .u8 0, .int .u8 0, .int .u8 0, .int .u8 0, .int .u8 0, .int .u8 0, .int .u8 0, .int .u8 0, .int .u8 0, .int .u8 0, .int .u8 0, .int .u8 0, .int .u8 0, .int .u8 0, .int .u8 0, .int .u8 0, .int .u8 0, .int .u8 0, .int .u8 0, .int .u8 0, .int .u8 0, .int .u8 0, .int .u8 0, .int .u8 0, .int .u8 0, .int .u8 0, .int .u8 0, .int .u8 0, .int .u8 0, .int .u8 0, .int .u8 0, .int .u8 0, .int .u8 0, .int .u8 0, .int .u8 0, .int .u8 0]) := ⟨by kernel_rfl⟩
instance : TStr Tryz.prog 182 2 := ⟨⟨_, Tryz.underlying182⟩, by kernel_rfl⟩
instance : TFldT Tryz.prog 182 0 0 5 := ⟨⟨_, _, Tryz.underlying182, rfl, rfl, rfl⟩⟩
instance : TFld Tryz.prog 182 0 0 := ⟨⟨_, _, Tryz.underlying182, rfl, rfl, _, (by kernel_rfl : (Tryz.prog.info? 5).map (·.size) = some (0 + 1))⟩⟩
instance : TFldT Tryz.prog 182 1 1 5 := ⟨⟨_, _, Tryz.underlying182, rfl, rfl, rfl⟩⟩
instance : TFld Tryz.prog 182 1 1 := ⟨⟨_, _, Tryz.underlying182, rfl, rfl, _, (by kernel_rfl : (Tryz.prog.info? 5).map (·.size) = some (0 + 1))⟩⟩
instance : TFlat Tryz.prog 182 [.int .u8 0, .int .u8 0] := ⟨by kernel_rfl, _, Tryz.underlying182, by kernel_rfl⟩
instance : TZero Tryz.prog 182 (.agg #[.int .u8 0, .int .u8 0]) := ⟨by kernel_rfl⟩
instance : TStr Tryz.prog 183 2 := ⟨⟨_, Tryz.underlying183⟩, by kernel_rfl⟩
instance : TFldT Tryz.prog 183 0 0 5 := ⟨⟨_, _, Tryz.underlying183, rfl, rfl, rfl⟩⟩
instance : TFld Tryz.prog 183 0 0 := ⟨⟨_, _, Tryz.underlying183, rfl, rfl, _, (by kernel_rfl : (Tryz.prog.info? 5).map (·.size) = some (0 + 1))⟩⟩
instance : TFldT Tryz.prog 183 1 1 5 := ⟨⟨_, _, Tryz.underlying183, rfl, rfl, rfl⟩⟩
instance : TFld Tryz.prog 183 1 1 := ⟨⟨_, _, Tryz.underlying183, rfl, rfl, _, (by kernel_rfl : (Tryz.prog.info? 5).map (·.size) = some (0 + 1))⟩⟩
instance : TFlat Tryz.prog 183 [.int .u8 0, .int .u8 0] := ⟨by kernel_rfl, _, Tryz.underlying183, by kernel_rfl⟩
instance : TZero Tryz.prog 183 (.agg #[.int .u8 0, .int .u8 0]) := ⟨by kernel_rfl⟩
instance : TArr Tryz.prog 184 16 183 := ⟨Tryz.underlying184⟩
instance : TZero Tryz.prog 184 (.agg #[.int .u8 0, .int .u8 0, .int .u8 0, .int .u8 0, .int .u8 0, .int .u8 0, .int .u8 0, .int .u8 0, .int .u8 0, .int .u8 0, .int .u8 0, .int .u8 0, .int .u8 0, .int .u8 0, .int .u8 0, .int .u8 0, .int .u8 0, .int .u8 0, .int .u8 0, .int .u8 0, .int .u8 0, .int .u8 0, .int .u8 0, .int .u8 0, .int .u8 0, .int .u8 0, .int .u8 0, .int .u8 0, .int .u8 0, .int .u8 0, .int .u8 0, .int .u8 0]) := ⟨by kernel_rfl⟩
instance : TScal Tryz.prog 185 := ⟨⟨_, Tryz.underlying185, rfl⟩, by kernel_rfl⟩
instance : TStr Tryz.prog 186 1 := ⟨⟨_, Tryz.underlying186⟩, by kernel_rfl⟩
instance : TFldT Tryz.prog 186 0 0 9 := ⟨⟨_, _, Tryz.underlying186, rfl, rfl, rfl⟩⟩
instance : TFld Tryz.prog 186 0 0 := ⟨⟨_, _, Tryz.underlying186, rfl, rfl, _, (by kernel_rfl : (Tryz.prog.info? 9).map (·.size) = some (0 + 1))⟩⟩
instance : TFlat Tryz.prog 186 [.string ⟨#[]⟩] := ⟨by kernel_rfl, _, Tryz.underlying186, by kernel_rfl⟩
instance : TZero Tryz.prog 186 (.agg #[.string ⟨#[]⟩]) := ⟨by kernel_rfl⟩
instance : TStr Tryz.prog 187 1 := ⟨⟨_, Tryz.underlying187⟩, by kernel_rfl⟩
instance : TFldT Tryz.prog 187 0 0 9 := ⟨⟨_, _, Tryz.underlying187, rfl, rfl, rfl⟩⟩
instance : TFld Tryz.prog 187 0 0 := ⟨⟨_, _, Tryz.underlying187, rfl, rfl, _, (by kernel_rfl : (Tryz.prog.info? 9).map (·.size) = some (0 + 1))⟩⟩
instance : TFlat Tryz.prog 187 [.string ⟨#[]⟩] := ⟨by kernel_rfl, _, Tryz.underlying187, by kernel_rfl⟩
instance : TZero Tryz.prog 187 (.agg #[.string ⟨#[]⟩]) := ⟨by kernel_rfl⟩
instance : TArr Tryz.prog 188 32 5 := ⟨Tryz.underlying188⟩
instance : TZero Tryz.prog 188 (.agg #[.int .u8 0, .int .u8 0, .int .u8 0, .int .u8 0, .int .u8 0, .int .u8 0, .int .u8 0, .int .u8 0, .int .u8 0, .int .u8 0, .int .u8 0, .int .u8 0, .int .u8 0, .int .u8 0, .int .u8 0, .int .u8 0, .int .u8 0, .int .u8 0, .int .u8 0, .int .u8 0, .int .u8 0, .int .u8 0, .int .u8 0, .int .u8 0, .int .u8 0, .int .u8 0, .int .u8 0, .int .u8 0, .int .u8 0, .int .u8 0, .int .u8 0, .int .u8 0]) := ⟨by kernel_rfl⟩
instance : TArr Tryz.prog 189 64 5 := ⟨Tryz.underlying189⟩
instance : TZero Tryz.prog 189 (.agg #[.int .u8 0, .int .u8 0, .int .u8 0, .int .u8 0, .int .u8 0, .int .u8 0, .int .u8 0, .int .u8 0, .int .u8 0, .int .u8 0, .int .u8 0, .int .u8 0, .int .u8 0, .int .u8 0, .int .u8 0, .int .u8 0, .int .u8 0, .int .u8 0, .int .u8 0, .int .u8 0, .int .u8 0, .int .u8 0, .int .u8 0, .int .u8 0, .int .u8 0, .int .u8 0, .int .u8 0, .int .u8 0, .int .u8 0, .int .u8 0, .int .u8 0, .int .u8 0, .int .u8 0, .int .u8 0, .int .u8 0, .int .u8 0, .int .u8 0, .int .u8 0, .int .u8 0, .int .u8 0, .int .u8 0, .int .u8 0, .int .u8 0, .int .u8 0, .int .u8 0, .int .u8 0, .int .u8 0, .int .u8 0, .int .u8 0, .int .u8 0, .int .u8 0, .int .u8 0, .int .u8 0, .int .u8 0, .int .u8 0, .int .u8 0, .int .u8 0, .int .u8 0, .int .u8 0, .int .u8 0, .int .u8 0, .int .u8 0, .int .u8 0, .int .u8 0]) := ⟨by kernel_rfl⟩
instance : TStr Tryz.prog 190 4 := ⟨⟨_, Tryz.underlying190⟩, by kernel_rfl⟩
instance : TFldT Tryz.prog 190 0 0 17 := ⟨⟨_, _, Tryz.underlying190, rfl, rfl, rfl⟩⟩
instance : TFld Tryz.prog 190 0 0 := ⟨⟨_, _, Tryz.underlying190, rfl, rfl, _, (by kernel_rfl : (Tryz.prog.info? 17).map (·.size) = some (0 + 1))⟩⟩
instance : TFldT Tryz.prog 190 1 1 17 := ⟨⟨_, _, Tryz.underlying190, rfl, rfl, rfl⟩⟩
instance : TFld Tryz.prog 190 1 1 := ⟨⟨_, _, Tryz.underlying190, rfl, rfl, _, (by kernel_rfl : (Tryz.prog.info? 17).map (·.size) = some (0 + 1))⟩⟩
instance : TFldT Tryz.prog 190 2 2 17 := ⟨⟨_, _, Tryz.underlying190, rfl, rfl, rfl⟩⟩
instance : TFld Tryz.prog 190 2 2 := ⟨⟨_, _, Tryz.underlying190, rfl, rfl, _, (by kernel_rfl : (Tryz.prog.info? 17).map (·.size) = some (0 + 1))⟩⟩
instance : TFldT Tryz.prog 190 3 3 9 := ⟨⟨_, _, Tryz.underlying190, rfl, rfl, rfl⟩⟩
instance : TFld Tryz.prog 190 3 3 := ⟨⟨_, _, Tryz.underlying190, rfl, rfl, _, (by kernel_rfl : (Tryz.prog.info? 9).map (·.size) = some (0 + 1))⟩⟩
instance : TFlat Tryz.prog 190 [.pointer none, .pointer none, .pointer none, .string ⟨#[]⟩] := ⟨by kernel_rfl, _, Tryz.underlying190, by kernel_rfl⟩
instance : TZero Tryz.prog 190 (.agg #[.pointer none, .pointer none, .pointer none, .string ⟨#[]⟩]) := ⟨by kernel_rfl⟩
instance : TStr Tryz.prog 191 4 := ⟨⟨_, Tryz.underlying191⟩, by kernel_rfl⟩
instance : TFldT Tryz.prog 191 0 0 17 := ⟨⟨_, _, Tryz.underlying191, rfl, rfl, rfl⟩⟩
instance : TFld Tryz.prog 191 0 0 := ⟨⟨_, _, Tryz.underlying191, rfl, rfl, _, (by kernel_rfl : (Tryz.prog.info? 17).map (·.size) = some (0 + 1))⟩⟩
instance : TFldT Tryz.prog 191 1 1 17 := ⟨⟨_, _, Tryz.underlying191, rfl, rfl, rfl⟩⟩
instance : TFld Tryz.prog 191 1 1 := ⟨⟨_, _, Tryz.underlying191, rfl, rfl, _, (by kernel_rfl : (Tryz.prog.info? 17).map (·.size) = some (0 + 1))⟩⟩
instance : TFldT Tryz.prog 191 2 2 17 := ⟨⟨_, _, Tryz.underlying191, rfl, rfl, rfl⟩⟩
instance : TFld Tryz.prog 191 2 2 := ⟨⟨_, _, Tryz.underlying191, rfl, rfl, _, (by kernel_rfl : (Tryz.prog.info? 17).map (·.size) = some (0 + 1))⟩⟩
instance : TFldT Tryz.prog 191 3 3 9 := ⟨⟨_, _, Tryz.underlying191, rfl, rfl, rfl⟩⟩
instance : TFld Tryz.prog 191 3 3 := ⟨⟨_, _, Tryz.underlying191, rfl, rfl, _, (by kernel_rfl : (Tryz.prog.info? 9).map (·.size) = some (0 + 1))⟩⟩
instance : TFlat Tryz.prog 191 [.pointer none, .pointer none, .pointer none, .string ⟨#[]⟩] := ⟨by kernel_rfl, _, Tryz.underlying191, by kernel_rfl⟩
instance : TZero Tryz.prog 191 (.agg #[.pointer none, .pointer none, .pointer none, .string ⟨#[]⟩]) := ⟨by kernel_rfl⟩
instance : TArr Tryz.prog 192 0 16 := ⟨Tryz.underlying192⟩
instance : TZero Tryz.prog 192 (.agg #[]) := ⟨by kernel_rfl⟩
instance : TScal Tryz.prog 195 := ⟨⟨_, Tryz.underlying195, rfl⟩, by kernel_rfl⟩
instance : TScal Tryz.prog 196 := ⟨⟨_, Tryz.underlying196, rfl⟩, by kernel_rfl⟩
instance : TInt Tryz.prog 196 .u8 := ⟨Tryz.underlying196⟩
instance : TZero Tryz.prog 196 (.int .u8 0) := ⟨by kernel_rfl⟩
instance : TScal Tryz.prog 197 := ⟨⟨_, Tryz.underlying197, rfl⟩, by kernel_rfl⟩
instance : TInt Tryz.prog 197 .u8 := ⟨Tryz.underlying197⟩
instance : TZero Tryz.prog 197 (.int .u8 0) := ⟨by kernel_rfl⟩
instance : TScal Tryz.prog 198 := ⟨⟨_, Tryz.underlying198, rfl⟩, by kernel_rfl⟩
instance : TScal Tryz.prog 199 := ⟨⟨_, Tryz.underlying199, rfl⟩, by kernel_rfl⟩
instance : TInt Tryz.prog 199 .i32 := ⟨Tryz.underlying199⟩
instance : TZero Tryz.prog 199 (.int .i32 0) := ⟨by kernel_rfl⟩
instance : TScal Tryz.prog 200 := ⟨⟨_, Tryz.underlying200, rfl⟩, by kernel_rfl⟩
instance : TInt Tryz.prog 200 .i32 := ⟨Tryz.underlying200⟩
instance : TZero Tryz.prog 200 (.int .i32 0) := ⟨by kernel_rfl⟩
instance : TStr Tryz.prog 201 11 := ⟨⟨_, Tryz.underlying201⟩, by kernel_rfl⟩
instance : TFldT Tryz.prog 201 0 0 12 := ⟨⟨_, _, Tryz.underlying201, rfl, rfl, rfl⟩⟩
instance : TFld Tryz.prog 201 0 0 := ⟨⟨_, _, Tryz.underlying201, rfl, rfl, _, (by kernel_rfl : (Tryz.prog.info? 12).map (·.size) = some (0 + 1))⟩⟩
instance : TFldT Tryz.prog 201 1 1 12 := ⟨⟨_, _, Tryz.underlying201, rfl, rfl, rfl⟩⟩
instance : TFld Tryz.prog 201 1 1 := ⟨⟨_, _, Tryz.underlying201, rfl, rfl, _, (by kernel_rfl : (Tryz.prog.info? 12).map (·.size) = some (0 + 1))⟩⟩
instance : TFldT Tryz.prog 201 2 2 134 := ⟨⟨_, _, Tryz.underlying201, rfl, rfl, rfl⟩⟩
instance : TFld Tryz.prog 201 2 2 := ⟨⟨_, _, Tryz.underlying201, rfl, rfl, _, (by kernel_rfl : (Tryz.prog.info? 134).map (·.size) = some (0 + 1))⟩⟩
instance : TFldT Tryz.prog 201 3 3 196 := ⟨⟨_, _, Tryz.underlying201, rfl, rfl, rfl⟩⟩
instance : TFld Tryz.prog 201 3 3 := ⟨⟨_, _, Tryz.underlying201, rfl, rfl, _, (by kernel_rfl : (Tryz.prog.info? 196).map (·.size) = some (0 + 1))⟩⟩
instance : TFldT Tryz.prog 201 4 4 5 := ⟨⟨_, _, Tryz.underlying201, rfl, rfl, rfl⟩⟩
instance : TFld Tryz.prog 201 4 4 := ⟨⟨_, _, Tryz.underlying201, rfl, rfl, _, (by kernel_rfl : (Tryz.prog.info? 5).map (·.size) = some (0 + 1))⟩⟩
instance : TFldT Tryz.prog 201 5 5 5 := ⟨⟨_, _, Tryz.underlying201, rfl, rfl, rfl⟩⟩
instance : TFld Tryz.prog 201 5 5 := ⟨⟨_, _, Tryz.underlying201, rfl, rfl, _, (by kernel_rfl : (Tryz.prog.info? 5).map (·.size) = some (0 + 1))⟩⟩
instance : TFldT Tryz.prog 201 6 6 197 := ⟨⟨_, _, Tryz.underlying201, rfl, rfl, rfl⟩⟩
instance : TFld Tryz.prog 201 6 6 := ⟨⟨_, _, Tryz.underlying201, rfl, rfl, _, (by kernel_rfl : (Tryz.prog.info? 197).map (·.size) = some (0 + 1))⟩⟩
instance : TFldT Tryz.prog 201 7 7 198 := ⟨⟨_, _, Tryz.underlying201, rfl, rfl, rfl⟩⟩
instance : TFld Tryz.prog 201 7 7 := ⟨⟨_, _, Tryz.underlying201, rfl, rfl, _, (by kernel_rfl : (Tryz.prog.info? 198).map (·.size) = some (0 + 1))⟩⟩
instance : TFldT Tryz.prog 201 8 8 136 := ⟨⟨_, _, Tryz.underlying201, rfl, rfl, rfl⟩⟩
instance : TFld Tryz.prog 201 8 8 := ⟨⟨_, _, Tryz.underlying201, rfl, rfl, _, (by kernel_rfl : (Tryz.prog.info? 136).map (·.size) = some (0 + 1))⟩⟩
instance : TFldT Tryz.prog 201 9 9 199 := ⟨⟨_, _, Tryz.underlying201, rfl, rfl, rfl⟩⟩
instance : TFld Tryz.prog 201 9 9 := ⟨⟨_, _, Tryz.underlying201, rfl, rfl, _, (by kernel_rfl : (Tryz.prog.info? 199).map (·.size) = some (0 + 1))⟩⟩
instance : TFldT Tryz.prog 201 10 10 200 := ⟨⟨_, _, Tryz.underlying201, rfl, rfl, rfl⟩⟩
instance : TFld Tryz.prog 201 10 10 := ⟨⟨_, _, Tryz.underlying201, rfl, rfl, _, (by kernel_rfl : (Tryz.prog.info? 200).map (·.size) = some (0 + 1))⟩⟩
instance : TFlat Tryz.prog 201 [.int .u64 0, .int .u64 0, .int .u32 0, .int .u8 0, .int .u8 0, .int .u8 0, .int .u8 0, .nilFunc, .pointer none, .int .i32 0, .int .i32 0] := ⟨by kernel_rfl, _, Tryz.underlying201, by kernel_rfl⟩
instance : TZero Tryz.prog 201 (.agg #[.int .u64 0, .int .u64 0, .int .u32 0, .int .u8 0, .int .u8 0, .int .u8 0, .int .u8 0, .nilFunc, .pointer none, .int .i32 0, .int .i32 0]) := ⟨by kernel_rfl⟩
instance : TStr Tryz.prog 202 11 := ⟨⟨_, Tryz.underlying202⟩, by kernel_rfl⟩
instance : TFldT Tryz.prog 202 0 0 12 := ⟨⟨_, _, Tryz.underlying202, rfl, rfl, rfl⟩⟩
instance : TFld Tryz.prog 202 0 0 := ⟨⟨_, _, Tryz.underlying202, rfl, rfl, _, (by kernel_rfl : (Tryz.prog.info? 12).map (·.size) = some (0 + 1))⟩⟩
instance : TFldT Tryz.prog 202 1 1 12 := ⟨⟨_, _, Tryz.underlying202, rfl, rfl, rfl⟩⟩
instance : TFld Tryz.prog 202 1 1 := ⟨⟨_, _, Tryz.underlying202, rfl, rfl, _, (by kernel_rfl : (Tryz.prog.info? 12).map (·.size) = some (0 + 1))⟩⟩
instance : TFldT Tryz.prog 202 2 2 134 := ⟨⟨_, _, Tryz.underlying202, rfl, rfl, rfl⟩⟩
instance : TFld Tryz.prog 202 2 2 := ⟨⟨_, _, Tryz.underlying202, rfl, rfl, _, (by kernel_rfl : (Tryz.prog.info? 134).map (·.size) = some (0 + 1))⟩⟩
instance : TFldT Tryz.prog 202 3 3 196 := ⟨⟨_, _, Tryz.underlying202, rfl, rfl, rfl⟩⟩
instance : TFld Tryz.prog 202 3 3 := ⟨⟨_, _, Tryz.underlying202, rfl, rfl, _, (by kernel_rfl : (Tryz.prog.info? 196).map (·.size) = some (0 + 1))⟩⟩
instance : TFldT Tryz.prog 202 4 4 5 := ⟨⟨_, _, Tryz.underlying202, rfl, rfl, rfl⟩⟩
instance : TFld Tryz.prog 202 4 4 := ⟨⟨_, _, Tryz.underlying202, rfl, rfl, _, (by kernel_rfl : (Tryz.prog.info? 5).map (·.size) = some (0 + 1))⟩⟩
instance : TFldT Tryz.prog 202 5 5 5 := ⟨⟨_, _, Tryz.underlying202, rfl, rfl, rfl⟩⟩
instance : TFld Tryz.prog 202 5 5 := ⟨⟨_, _, Tryz.underlying202, rfl, rfl, _, (by kernel_rfl : (Tryz.prog.info? 5).map (·.size) = some (0 + 1))⟩⟩
instance : TFldT Tryz.prog 202 6 6 197 := ⟨⟨_, _, Tryz.underlying202, rfl, rfl, rfl⟩⟩
instance : TFld Tryz.prog 202 6 6 := ⟨⟨_, _, Tryz.underlying202, rfl, rfl, _, (by kernel_rfl : (Tryz.prog.info? 197).map (·.size) = some (0 + 1))⟩⟩
instance : TFldT Tryz.prog 202 7 7 198 := ⟨⟨_, _, Tryz.underlying202, rfl, rfl, rfl⟩⟩
instance : TFld Tryz.prog 202 7 7 := ⟨⟨_, _, Tryz.underlying202, rfl, rfl, _, (by kernel_rfl : (Tryz.prog.info? 198).map (·.size) = some (0 + 1))⟩⟩
instance : TFldT Tryz.prog 202 8 8 136 := ⟨⟨_, _, Tryz.underlying202, rfl, rfl, rfl⟩⟩
instance : TFld Tryz.prog 202 8 8 := ⟨⟨_, _, Tryz.underlying202, rfl, rfl, _, (by kernel_rfl : (Tryz.prog.info? 136).map (·.size) = some (0 + 1))⟩⟩
instance : TFldT Tryz.prog 202 9 9 199 := ⟨⟨_, _, Tryz.underlying202, rfl, rfl, rfl⟩⟩
instance : TFld Tryz.prog 202 9 9 := ⟨⟨_, _, Tryz.underlying202, rfl, rfl, _, (by kernel_rfl : (Tryz.prog.info? 199).map (·.size) = some (0 + 1))⟩⟩
instance : TFldT Tryz.prog 202 10 10 200 := ⟨⟨_, _, Tryz.underlying202, rfl, rfl, rfl⟩⟩
instance : TFld Tryz.prog 202 10 10 := ⟨⟨_, _, Tryz.underlying202, rfl, rfl, _, (by kernel_rfl : (Tryz.prog.info? 200).map (·.size) = some (0 + 1))⟩⟩
instance : TFlat Tryz.prog 202 [.int .u64 0, .int .u64 0, .int .u32 0, .int .u8 0, .int .u8 0, .int .u8 0, .int .u8 0, .nilFunc, .pointer none, .int .i32 0, .int .i32 0] := ⟨by kernel_rfl, _, Tryz.underlying202, by kernel_rfl⟩
instance : TZero Tryz.prog 202 (.agg #[.int .u64 0, .int .u64 0, .int .u32 0, .int .u8 0, .int .u8 0, .int .u8 0, .int .u8 0, .nilFunc, .pointer none, .int .i32 0, .int .i32 0]) := ⟨by kernel_rfl⟩
instance : Callable Tryz.prog 3 := callable Tryz.func3 (by kernel_rfl) rfl   -- loop.example/g01012/laws.FnReproduced
instance : Callable Tryz.prog 4 := callable Tryz.func4 (by kernel_rfl) rfl   -- loop.example/g01012/laws.f6big
instance : Callable Tryz.prog 5 := callable Tryz.func5 (by kernel_rfl) rfl   -- loop.example/g01012/spec.DrawReproduceCard
instance : Callable Tryz.prog 6 := callable Tryz.func6 (by kernel_rfl) rfl   -- loop.example/g01012/impl.ReproduceCard
instance : Callable Tryz.prog 7 := callable Tryz.func7 (by kernel_rfl) rfl   -- loop.example/g01012/spec.ReproduceCard
instance : Callable Tryz.prog 8 := callable Tryz.func8 (by kernel_rfl) rfl   -- loop.example/g01012/spec.DrawCompareCards
instance : Callable Tryz.prog 9 := callable Tryz.func9 (by kernel_rfl) rfl   -- loop.example/g01012/impl.CompareCards
instance : Callable Tryz.prog 10 := callable Tryz.func10 (by kernel_rfl) rfl   -- loop.example/g01012/spec.CompareCards
instance : Callable Tryz.prog 11 := callable Tryz.func11 (by kernel_rfl) rfl   -- loop.example/g01012/spec.DrawJoinCopies
instance : Callable Tryz.prog 12 := callable Tryz.func12 (by kernel_rfl) rfl   -- loop.example/g01012/impl.JoinCopies
instance : Callable Tryz.prog 13 := callable Tryz.func13 (by kernel_rfl) rfl   -- loop.example/g01012/spec.JoinCopies
instance : Callable Tryz.prog 14 := callable Tryz.func14 (by kernel_rfl) rfl   -- loop.example/g01012/spec.DrawBackCopies
instance : Callable Tryz.prog 15 := callable Tryz.func15 (by kernel_rfl) rfl   -- loop.example/g01012/impl.BackCopies
instance : Callable Tryz.prog 16 := callable Tryz.func16 (by kernel_rfl) rfl   -- loop.example/g01012/spec.BackCopies
instance : Callable Tryz.prog 17 := callable Tryz.func17 (by kernel_rfl) rfl   -- loop.example/g01012/spec.DrawCopiesText
instance : Callable Tryz.prog 18 := callable Tryz.func18 (by kernel_rfl) rfl   -- loop.example/g01012/impl.CopiesText
instance : Callable Tryz.prog 19 := callable Tryz.func19 (by kernel_rfl) rfl   -- loop.example/g01012/impl.ReadCopies
instance : Callable Tryz.prog 20 := callable Tryz.func20 (by kernel_rfl) rfl   -- loop.example/g01012/spec.DrawReadCopies
instance : Callable Tryz.prog 21 := callable Tryz.func21 (by kernel_rfl) rfl   -- loop.example/g01012/spec.ReadCopies
instance : Callable Tryz.prog 22 := callable Tryz.func22 (by kernel_rfl) rfl   -- loop.example/g01012/spec.DrawValidCopies
instance : Callable Tryz.prog 23 := callable Tryz.func23 (by kernel_rfl) rfl   -- loop.example/g01012/spec.SameCard
instance : Callable Tryz.prog 24 := callable Tryz.func24 (by kernel_rfl) rfl   -- loop.example/g01012/laws.f6ints
instance : Callable Tryz.prog 25 := callable Tryz.func25 (by kernel_rfl) rfl   -- loop.example/g01012/laws.f6copies
instance : Callable Tryz.prog 26 := callable Tryz.func26 (by kernel_rfl) rfl   -- loop.example/g01012/spec.CopiesText
instance : Callable Tryz.prog 27 := callable Tryz.func27 (by kernel_rfl) rfl   -- loop.example/g01012/impl.ValidCopies
instance : Callable Tryz.prog 28 := callable Tryz.func28 (by kernel_rfl) rfl   -- loop.example/g01012/spec.ValidCopies
instance : Callable Tryz.prog 29 := callable Tryz.func29 (by kernel_rfl) rfl   -- loop.example/g01012/spec.l00From
instance : Callable Tryz.prog 30 := callable Tryz.func30 (by kernel_rfl) rfl   -- loop.example/g01012/spec.l03Bent
instance : Callable Tryz.prog 31 := callable Tryz.func31 (by kernel_rfl) rfl   -- loop.example/g01012/spec.l10Width
instance : Callable Tryz.prog 32 := callable Tryz.func32 (by kernel_rfl) rfl   -- loop.example/g01012/spec.l10Bent
instance : Callable Tryz.prog 33 := callable Tryz.func33 (by kernel_rfl) rfl   -- loop.example/g01012/impl.ValidCard
instance : Callable Tryz.prog 34 := callable Tryz.func34 (by kernel_rfl) rfl   -- (loop.example/g01012/impl.Card).columns
instance : Callable Tryz.prog 35 := callable Tryz.func35 (by kernel_rfl) rfl   -- loop.example/g01012/impl.copied
instance : Callable Tryz.prog 36 := callable Tryz.func36 (by kernel_rfl) rfl   -- loop.example/g01012/impl.blank
instance : Callable Tryz.prog 37 := callable Tryz.func37 (by kernel_rfl) rfl   -- loop.example/g01012/spec.l02Ok
instance : Callable Tryz.prog 38 := callable Tryz.func38 (by kernel_rfl) rfl   -- loop.example/g01012/spec.l10Copy
instance : Callable Tryz.prog 39 := callable Tryz.func39 (by kernel_rfl) rfl   -- (*loop.example/g01012/spec.l00Src).pick
instance : Callable Tryz.prog 40 := callable Tryz.func40 (by kernel_rfl) rfl   -- (*loop.example/g01012/spec.l00Src).one
instance : Callable Tryz.prog 41 := callable Tryz.func41 (by kernel_rfl) rfl   -- loop.example/g01012/spec.l03Draw
instance : Callable Tryz.prog 42 := callable Tryz.func42 (by kernel_rfl) rfl   -- loop.example/g01012/spec.l06Damaged
instance : Callable Tryz.prog 43 := callable Tryz.func43 (by kernel_rfl) rfl   -- loop.example/g01012/impl.compared
instance : Callable Tryz.prog 44 := callable Tryz.func44 (by kernel_rfl) rfl   -- loop.example/g01012/spec.l10Ok
instance : Callable Tryz.prog 45 := callable Tryz.func45 (by kernel_rfl) rfl   -- loop.example/g01012/spec.l10Differ
instance : Callable Tryz.prog 46 := callable Tryz.func46 (by kernel_rfl) rfl   -- loop.example/g01012/impl.isPlain
instance : Callable Tryz.prog 47 := callable Tryz.func47 (by kernel_rfl) rfl   -- loop.example/g01012/spec.l10Plain
instance : Callable Tryz.prog 48 := callable Tryz.func48 (by kernel_rfl) rfl   -- slices.SortFunc[[]loop.example/g01012/impl.Copy,loop.example/g01012/impl.Copy]
instance : Callable Tryz.prog 49 := callable Tryz.func49 (by kernel_rfl) rfl   -- loop.example/g01012/impl.BackCopies$1
instance : Callable Tryz.prog 50 := callable Tryz.func50 (by kernel_rfl) rfl   -- loop.example/g01012/spec.l10Put
instance : Callable Tryz.prog 51 := callable Tryz.func51 (by kernel_rfl) rfl   -- loop.example/g01012/impl.Decimal
instance : Callable Tryz.prog 52 := callable Tryz.func52 (by kernel_rfl) rfl   -- strings.Join
instance : Callable Tryz.prog 53 := callable Tryz.func53 (by kernel_rfl) rfl   -- strings.Split
instance : Callable Tryz.prog 54 := callable Tryz.func54 (by kernel_rfl) rfl   -- strings.Cut
instance : Callable Tryz.prog 55 := callable Tryz.func55 (by kernel_rfl) rfl   -- loop.example/g01012/impl.ReadDecimal
instance : Callable Tryz.prog 56 := callable Tryz.func56 (by kernel_rfl) rfl   -- loop.example/g01012/spec.l10Text
instance : Callable Tryz.prog 57 := callable Tryz.func57 (by kernel_rfl) rfl   -- loop.example/g01012/spec.l10Draw
instance : Callable Tryz.prog 58 := callable Tryz.func58 (by kernel_rfl) rfl   -- loop.example/g01012/spec.l01Spoil
instance : Callable Tryz.prog 59 := callable Tryz.func59 (by kernel_rfl) rfl   -- loop.example/g01012/spec.l01Split
instance : Callable Tryz.prog 60 := callable Tryz.func60 (by kernel_rfl) rfl   -- loop.example/g01012/spec.l01Number
instance : Callable Tryz.prog 61 := callable Tryz.func61 (by kernel_rfl) rfl   -- loop.example/g01012/spec.l00Same
instance : Callable Tryz.prog 62 := callable Tryz.func62 (by kernel_rfl) rfl   -- loop.example/g01012/impl.inside
instance : Callable Tryz.prog 63 := callable Tryz.func63 (by kernel_rfl) rfl   -- slices.ContainsFunc[[]loop.example/g01012/impl.Copy,loop.example/g01012/impl.Copy]
instance : Callable Tryz.prog 64 := callable Tryz.func64 (by kernel_rfl) rfl   -- loop.example/g01012/impl.ValidCopies$1
instance : Callable Tryz.prog 65 := callable Tryz.func65 (by kernel_rfl) rfl   -- loop.example/g01012/spec.l00In
instance : Callable Tryz.prog 66 := callable Tryz.func66 (by kernel_rfl) rfl   -- loop.example/g01012/spec.l02Spoil
instance : Callable Tryz.prog 67 := callable Tryz.func67 (by kernel_rfl) rfl   -- (*loop.example/g01012/spec.l00Src).among
instance : Callable Tryz.prog 68 := callable Tryz.func68 (by kernel_rfl) rfl   -- slices.ContainsFunc[[]int64,int64]
instance : Callable Tryz.prog 69 := callable Tryz.func69 (by kernel_rfl) rfl   -- loop.example/g01012/impl.ValidCard$1
instance : Callable Tryz.prog 70 := callable Tryz.func70 (by kernel_rfl) rfl   -- loop.example/g01012/impl.size[int64]
instance : Callable Tryz.prog 71 := callable Tryz.func71 (by kernel_rfl) rfl   -- loop.example/g01012/impl.newCard
instance : Callable Tryz.prog 72 := callable Tryz.func72 (by kernel_rfl) rfl   -- (*loop.example/g01012/spec.l00Src).next
instance : Callable Tryz.prog 73 := callable Tryz.func73 (by kernel_rfl) rfl   -- loop.example/g01012/spec.l02Draw
instance : Callable Tryz.prog 74 := callable Tryz.func74 (by kernel_rfl) rfl   -- loop.example/g01012/spec.l03Card
instance : Callable Tryz.prog 75 := callable Tryz.func75 (by kernel_rfl) rfl   -- loop.example/g01012/spec.l03DrawText
instance : Callable Tryz.prog 76 := callable Tryz.func76 (by kernel_rfl) rfl   -- loop.example/g01012/spec.l02Own
instance : Callable Tryz.prog 77 := callable Tryz.func77 (by kernel_rfl) rfl   -- slices.pdqsortCmpFunc[loop.example/g01012/impl.Copy]
instance : Callable Tryz.prog 79 := callable Tryz.func79 (by kernel_rfl) rfl   -- strconv.FormatInt
instance : Callable Tryz.prog 85 := callable Tryz.func85 (by kernel_rfl) rfl   -- strconv.ParseInt
instance : Callable Tryz.prog 86 := callable Tryz.func86 (by kernel_rfl) rfl   -- strings.TrimPrefix
instance : Callable Tryz.prog 87 := callable Tryz.func87 (by kernel_rfl) rfl   -- loop.example/g01012/spec.l01Dec
instance : Callable Tryz.prog 88 := callable Tryz.func88 (by kernel_rfl) rfl   -- loop.example/g01012/spec.l00Max
instance : Callable Tryz.prog 89 := callable Tryz.func89 (by kernel_rfl) rfl   -- (*loop.example/g01012/spec.l00Src).text
instance : Callable Tryz.prog 90 := callable Tryz.func90 (by kernel_rfl) rfl   -- loop.example/g01012/spec.l01Digit
instance : Callable Tryz.prog 91 := callable Tryz.func91 (by kernel_rfl) rfl   -- slices.IndexFunc[[]loop.example/g01012/impl.Copy,loop.example/g01012/impl.Copy]
instance : Callable Tryz.prog 92 := callable Tryz.func92 (by kernel_rfl) rfl   -- slices.IndexFunc[[]int64,int64]
instance : Callable Tryz.prog 93 := callable Tryz.func93 (by kernel_rfl) rfl   -- loop.example/g01012/impl.copyInts
instance : Callable Tryz.prog 94 := callable Tryz.func94 (by kernel_rfl) rfl   -- loop.example/g01012/spec.l03Code
instance : Callable Tryz.prog 95 := callable Tryz.func95 (by kernel_rfl) rfl   -- loop.example/g01012/spec.l03Order
instance : Callable Tryz.prog 96 := callable Tryz.func96 (by kernel_rfl) rfl   -- loop.example/g01012/spec.l00Own
instance : Callable Tryz.prog 97 := callable Tryz.func97 (by kernel_rfl) rfl   -- slices.insertionSortCmpFunc[loop.example/g01012/impl.Copy]
instance : Callable Tryz.prog 98 := callable Tryz.func98 (by kernel_rfl) rfl   -- slices.heapSortCmpFunc[loop.example/g01012/impl.Copy]
instance : Callable Tryz.prog 99 := callable Tryz.func99 (by kernel_rfl) rfl   -- slices.breakPatternsCmpFunc[loop.example/g01012/impl.Copy]
instance : Callable Tryz.prog 100 := callable Tryz.func100 (by kernel_rfl) rfl   -- slices.choosePivotCmpFunc[loop.example/g01012/impl.Copy]
instance : Callable Tryz.prog 101 := callable Tryz.func101 (by kernel_rfl) rfl   -- slices.reverseRangeCmpFunc[loop.example/g01012/impl.Copy]
instance : Callable Tryz.prog 102 := callable Tryz.func102 (by kernel_rfl) rfl   -- slices.partialInsertionSortCmpFunc[loop.example/g01012/impl.Copy]
instance : Callable Tryz.prog 103 := callable Tryz.func103 (by kernel_rfl) rfl   -- slices.partitionEqualCmpFunc[loop.example/g01012/impl.Copy]
instance : Callable Tryz.prog 104 := callable Tryz.func104 (by kernel_rfl) rfl   -- slices.partitionCmpFunc[loop.example/g01012/impl.Copy]
instance : Callable Tryz.prog 117 := callable Tryz.func117 (by kernel_rfl) rfl   -- loop.example/g01012/spec.l02Bit
instance : Callable Tryz.prog 118 := callable Tryz.func118 (by kernel_rfl) rfl   -- slices.siftDownCmpFunc[loop.example/g01012/impl.Copy]
instance : Callable Tryz.prog 119 := callable Tryz.func119 (by kernel_rfl) rfl   -- slices.nextPowerOfTwo
instance : Callable Tryz.prog 121 := callable Tryz.func121 (by kernel_rfl) rfl   -- slices.medianAdjacentCmpFunc[loop.example/g01012/impl.Copy]
instance : Callable Tryz.prog 122 := callable Tryz.func122 (by kernel_rfl) rfl   -- slices.medianCmpFunc[loop.example/g01012/impl.Copy]
instance : Callable Tryz.prog 142 := callable Tryz.func142 (by kernel_rfl) rfl   -- slices.order2CmpFunc[loop.example/g01012/impl.Copy]
end Go.Proofs.YtcbpiaehkodliaaGreatDoor
/- Num -/
namespace Go.Proofs.YtcbpiaehkodliaaGreatDoor
open Go Go.Gw
set_option linter.unusedVariables false
set_option linter.unusedSimpArgs false

theorem pow10_le {k m : Nat} (h : k ≤ m) : (10 : Int) ^ k ≤ 10 ^ m := by
  have : (10 : Nat) ^ k ≤ 10 ^ m := Nat.pow_le_pow_right (by omega) h
  exact_mod_cast this
theorem pow10_pos (k : Nat) : (0 : Int) < 10 ^ k := by
  have : (0 : Nat) < 10 ^ k := Nat.pow_pos (by omega)
  exact_mod_cast this
theorem pow10_18 {k : Nat} (h : k ≤ 18) : (10 : Int) ^ k ≤ 1000000000000000000 := pow10_le h
theorem pow10_12 {k : Nat} (h : k ≤ 12) : (10 : Int) ^ k ≤ 1000000000000 := pow10_le h
theorem pow10_succ (n : Int) (h : 0 ≤ n) : (10 : Int) ^ (n + 1).toNat = 10 ^ n.toNat * 10 := by
  rw [show (n + 1).toNat = n.toNat + 1 by omega, Int.pow_succ]

theorem inside_c (n lo hi : Int) : Pur Tryz.prog 62 [.int .i64 n, .int .i64 lo, .int .i64 hi] (.bool (decide (lo ≤ n ∧ n ≤ hi))) := by
  refine ⟨fun w => ?_⟩
  refine ret_enter Tryz.func62 rfl Tryz.ntmps62 rfl ?_
  focus refine c_seq ?_; refine c_region ?_; refine w_pure (y_assign rfl) rfl ?_; refine w_nil ?_; refine x_next ?_; refine c_seq ?_; refine c_region ?_; refine w_pure (y_move rfl) rfl ?_; refine w_pure (y_move rfl) rfl ?_; refine w_pure (y_ge rfl rfl) rfl ?_; refine w_pure (y_move rfl) rfl ?_; (refine w_part_dec rfl rfl (fun hc => ?_) (fun hc => ?_) <;> try (exfalso; omega)); refine w_yes rfl rfl ?_; refine w_pure (y_move rfl) rfl ?_; refine w_yes rfl rfl ?_; refine w_pure (y_move rfl) rfl ?_; refine w_yes rfl rfl ?_; refine w_pure (y_le rfl rfl) rfl ?_; refine w_pure (y_pick_t rfl rfl) rfl ?_; refine w_pure (y_assign rfl) rfl ?_; refine w_nil ?_; refine x_next ?_; refine c_ret ?_; rotate_left; refine w_no rfl rfl rfl rfl ?_; refine w_no rfl rfl rfl rfl ?_; refine w_no rfl rfl rfl rfl ?_; refine w_pure (y_pick_f rfl rfl) rfl ?_; refine w_pure (y_assign rfl) rfl ?_; refine w_nil ?_; refine x_next ?_; refine c_ret ?_; rotate_left
  all_goals refine x_retv [_] rfl ⟨rfl, trivial⟩ ⟨?_, rfl⟩
  all_goals simp [ofResults, hc]
theorem l00In_c (n lo hi : Int) : Pur Tryz.prog 65 [.int .i64 n, .int .i64 lo, .int .i64 hi] (.bool (decide (lo ≤ n ∧ n ≤ hi))) := by
  refine ⟨fun w => ?_⟩
  refine ret_enter Tryz.func65 rfl Tryz.ntmps65 rfl ?_
  focus refine c_seq ?_; refine c_region ?_; refine w_pure (y_assign rfl) rfl ?_; refine w_nil ?_; refine x_next ?_; refine c_seq ?_; refine c_region ?_; refine w_pure (y_move rfl) rfl ?_; refine w_pure (y_move rfl) rfl ?_; refine w_pure (y_ge rfl rfl) rfl ?_; refine w_pure (y_move rfl) rfl ?_; (refine w_part_dec rfl rfl (fun hc => ?_) (fun hc => ?_) <;> try (exfalso; omega)); refine w_yes rfl rfl ?_; refine w_pure (y_move rfl) rfl ?_; refine w_yes rfl rfl ?_; refine w_pure (y_move rfl) rfl ?_; refine w_yes rfl rfl ?_; refine w_pure (y_le rfl rfl) rfl ?_; refine w_pure (y_pick_t rfl rfl) rfl ?_; refine w_pure (y_assign rfl) rfl ?_; refine w_nil ?_; refine x_next ?_; refine c_ret ?_; rotate_left; refine w_no rfl rfl rfl rfl ?_; refine w_no rfl rfl rfl rfl ?_; refine w_no rfl rfl rfl rfl ?_; refine w_pure (y_pick_f rfl rfl) rfl ?_; refine w_pure (y_assign rfl) rfl ?_; refine w_nil ?_; refine x_next ?_; refine c_ret ?_; rotate_left
  all_goals refine x_retv [_] rfl ⟨rfl, trivial⟩ ⟨?_, rfl⟩
  all_goals simp [ofResults, hc]
theorem l00Max_c (a b : Int) : Pur Tryz.prog 88 [.int .i64 a, .int .i64 b] (.int .i64 (max a b)) := by
  refine ⟨fun w => ?_⟩
  refine ret_enter Tryz.func88 rfl Tryz.ntmps88 rfl ?_
  focus refine c_seq ?_; refine c_region ?_; refine w_pure (y_assign rfl) rfl ?_; refine w_nil ?_; refine x_next ?_; refine c_seq ?_; refine c_seq ?_; refine c_region ?_; refine w_pure (y_move rfl) rfl ?_; refine w_pure (y_move rfl) rfl ?_; refine w_pure (y_gt rfl rfl) rfl ?_; refine w_nil ?_; refine x_next ?_; (refine c_dec rfl (fun hc => ?_) (fun hc => ?_) <;> try (exfalso; omega)); refine c_seq ?_; refine c_region ?_; refine w_pure (y_move rfl) rfl ?_; refine w_pure (y_assign rfl) rfl ?_; refine w_nil ?_; refine x_next ?_; refine c_ret ?_; refine x_then_ret ?_; rotate_left; refine c_skip ?_; refine x_next ?_; refine c_seq ?_; refine c_region ?_; refine w_pure (y_move rfl) rfl ?_; refine w_pure (y_assign rfl) rfl ?_; refine w_nil ?_; refine x_next ?_; refine c_ret ?_; rotate_left
  all_goals refine x_retv [_] rfl ⟨rfl, trivial⟩ ⟨?_, rfl⟩
  all_goals simp only [ofResults]; congr 1; omega

/-! ### components of a product -/
def partsF (n d r l p : Int) : Int × Int := if 0 < n then partsF (n / 10) d (r + n % 10 * d % 10 * p) (l + n % 10 * d / 10 * p) (p * 10) else (r, l)
  termination_by n.toNat
  decreasing_by omega
theorem partsF_step {n d r l p : Int} (h : 0 < n) : partsF n d r l p = partsF (n / 10) d (r + n % 10 * d % 10 * p) (l + n % 10 * d / 10 * p) (p * 10) := by
  conv => lhs; rw [partsF, if_pos h]
theorem partsF_end {n d r l p : Int} (h : ¬ 0 < n) : partsF n d r l p = (r, l) := by rw [partsF, if_neg h]
theorem parts_bd {n d p M : Int} (hd0 : 0 ≤ d) (hd : d ≤ 9) (hn : 0 < n) (hp : 0 < p) (hM : n * p ≤ M) :
    p ≤ M ∧ 0 ≤ n % 10 * d ∧ n % 10 * d ≤ 81 ∧ 0 ≤ n % 10 * d % 10 * p ∧ n % 10 * d % 10 * p ≤ 9 * p ∧ 0 ≤ n % 10 * d / 10 * p ∧ n % 10 * d / 10 * p ≤ 9 * p ∧ n / 10 * (p * 10) ≤ M := by
  have h1 : p ≤ n * p := by
    have := Int.mul_le_mul_of_nonneg_right (show 1 ≤ n by omega) (show 0 ≤ p by omega)
    omega
  have h2 : 0 ≤ n % 10 * d := Int.mul_nonneg (by omega) hd0
  have h3 : n % 10 * d ≤ 81 := by
    have a := Int.mul_le_mul_of_nonneg_right (show n % 10 ≤ 9 by omega) hd0
    omega
  have h4 : n / 10 * (p * 10) ≤ n * p := by
    have : n / 10 * (p * 10) = (n / 10 * 10) * p := by rw [Int.mul_comm p 10, Int.mul_assoc]
    rw [this]
    exact Int.mul_le_mul_of_nonneg_right (by omega) (by omega)
  refine ⟨by omega, h2, h3, Int.mul_nonneg (by omega) (by omega), Int.mul_le_mul_of_nonneg_right (by omega) (by omega), Int.mul_nonneg (by omega) (by omega), Int.mul_le_mul_of_nonneg_right (by omega) (by omega), by omega⟩

end Go.Proofs.YtcbpiaehkodliaaGreatDoor
/- CntA -/
namespace Go.Proofs.YtcbpiaehkodliaaGreatDoor
open Go Go.Gw
set_option linter.unusedVariables false
set_option linter.unusedSimpArgs false

theorem upd_step {α : Type} {f xs : List α} {i : Nat} (hl : f.length = xs.length) (hi : i < xs.length) {y : α} (hy : f[i]? = some y) :
    (f.take i ++ xs.drop i).set i y = f.take (i + 1) ++ xs.drop (i + 1) := by
  have h1 : (f.take i).length = i := by rw [List.length_take]; omega
  rw [List.set_append_right _ _ (by omega), h1, Nat.sub_self]
  rw [List.drop_eq_getElem_cons hi, List.set_cons_zero, List.take_add_one, hy]
  simp
def marks (k : Int) (n : Nat) : List Int := (List.range n).map fun i => k + (i : Nat)
theorem marks_len (k : Int) (n : Nat) : (marks k n).length = n := by simp [marks]
theorem marks_get (k : Int) (n i : Nat) (h : i < n) : (marks k n)[i]? = some (k + i) := by simp [marks, h]
theorem marks_getD (k : Int) (n i : Nat) (h : i < n) : (marks k n).getD i 0 = k + i := by simp [List.getD_eq_getElem?_getD, marks_get k n i h]

theorem list_ext {xs ys : List Int} (hl : xs.length = ys.length) (h : ∀ j : Nat, j < xs.length → xs.getD j 0 = ys.getD j 0) : xs = ys := by
  apply List.ext_getElem hl
  intro i h1 h2
  have := h i h1
  rw [List.getD_eq_getElem?_getD, List.getD_eq_getElem?_getD, List.getElem?_eq_getElem h1, List.getElem?_eq_getElem h2] at this
  exact this
section
variable {w : World} {lo hi lo' hi' : Nat} {v v' : Value} {xs ys : List Int}

end
end Go.Proofs.YtcbpiaehkodliaaGreatDoor
/- CntB -/
namespace Go.Proofs.YtcbpiaehkodliaaGreatDoor
open Go Go.Gw
set_option linter.unusedVariables false
set_option linter.unusedSimpArgs false

section
variable {w : World} {lo hi lo' hi' : Nat} {v v' : Value} {xs ys : List Int}

theorem copyInts_c (w0 : World) (h : SL w0 lo hi v xs := by repeat (first | assumption | exact Go.Gw.Own.sl (by assumption) | exact Go.Gw.Box.at (by assumption) | exact Go.Gw.SLL.el (by first | assumption | exact Go.Gw.OwnD.sll (by assumption)) _ (by omega) | exact Go.Gw.SLL.at (by first | assumption | exact Go.Gw.OwnD.sll (by assumption)) (by omega) | exact Go.Gw.OwnD.sll (by assumption) | (apply Go.Gw.SL.chg; case hx => assumption) | (apply Go.Gw.Own.chg; case hx => assumption) | (apply Go.Gw.Box.chg; case hx => assumption) | (apply Go.Gw.At.chg; case hx => assumption) | exact .inl (Nat.zero_le _) | exact .inr (Nat.zero_le _) | (show _ ∨ _; omega))) (hl : xs.length ≤ 1048576 := by omega) : Ret Tryz.prog 93 [v] w0 fun u w' => Own w' 2 w0.heap.size u xs ∧ Ext w0 w' := by
  refine ret_enter Tryz.func93 rfl Tryz.ntmps93 rfl ?_
  focus refine c_seq ?_; refine c_region ?_; refine w_pure (y_assign rfl) rfl ?_; refine w_nil ?_; refine x_next ?_; refine c_seq ?_; refine c_region ?_; rotate_left
  refine w_lit (α := Int) rfl rfl rfl rfl rfl rfl rfl rfl (fun v1 w1 ho1 hx1 hl1 hh1 hs1 => ?_)
  focus refine w_pure (y_move rfl) rfl ?_; rotate_left
  have hol := ho1.lt
  refine w_append rfl rfl (k := fun v2 w2 ho2 hx2 hr2 => ?_)
  focus refine w_pure (y_assign rfl) rfl ?_; refine w_nil ?_; refine x_next ?_; refine c_ret ?_; rotate_left
  refine x_retv [_] rfl ⟨rfl, trivial⟩ ⟨ho2, by (repeat (first | exact Chg.refl _ _ _ | assumption | refine Chg.next ?_ (by assumption) (by omega)))⟩
theorem l00Own_c (w0 : World) (h : SL w0 lo hi v xs := by repeat (first | assumption | exact Go.Gw.Own.sl (by assumption) | exact Go.Gw.Box.at (by assumption) | exact Go.Gw.SLL.el (by first | assumption | exact Go.Gw.OwnD.sll (by assumption)) _ (by omega) | exact Go.Gw.SLL.at (by first | assumption | exact Go.Gw.OwnD.sll (by assumption)) (by omega) | exact Go.Gw.OwnD.sll (by assumption) | (apply Go.Gw.SL.chg; case hx => assumption) | (apply Go.Gw.Own.chg; case hx => assumption) | (apply Go.Gw.Box.chg; case hx => assumption) | (apply Go.Gw.At.chg; case hx => assumption) | exact .inl (Nat.zero_le _) | exact .inr (Nat.zero_le _) | (show _ ∨ _; omega))) (hl : xs.length ≤ 1048576 := by omega) : Ret Tryz.prog 96 [v] w0 fun u w' => Own w' 2 w0.heap.size u xs ∧ Ext w0 w' := by
  refine ret_enter Tryz.func96 rfl Tryz.ntmps96 rfl ?_
  focus refine c_seq ?_; refine c_region ?_; refine w_pure (y_assign rfl) rfl ?_; refine w_nil ?_; refine x_next ?_; refine c_seq ?_; refine c_region ?_; rotate_left
  refine w_lit (α := Int) rfl rfl rfl rfl rfl rfl rfl rfl (fun v1 w1 ho1 hx1 hl1 hh1 hs1 => ?_)
  focus refine w_pure (y_move rfl) rfl ?_; rotate_left
  have hol := ho1.lt
  refine w_append rfl rfl (k := fun v2 w2 ho2 hx2 hr2 => ?_)
  focus refine w_pure (y_assign rfl) rfl ?_; refine w_nil ?_; refine x_next ?_; refine c_ret ?_; rotate_left
  refine x_retv [_] rfl ⟨rfl, trivial⟩ ⟨ho2, by (repeat (first | exact Chg.refl _ _ _ | assumption | refine Chg.next ?_ (by assumption) (by omega)))⟩
theorem size_c (h : SL w lo hi v xs := by repeat (first | assumption | exact Go.Gw.Own.sl (by assumption) | exact Go.Gw.Box.at (by assumption) | exact Go.Gw.SLL.el (by first | assumption | exact Go.Gw.OwnD.sll (by assumption)) _ (by omega) | exact Go.Gw.SLL.at (by first | assumption | exact Go.Gw.OwnD.sll (by assumption)) (by omega) | exact Go.Gw.OwnD.sll (by assumption) | (apply Go.Gw.SL.chg; case hx => assumption) | (apply Go.Gw.Own.chg; case hx => assumption) | (apply Go.Gw.Box.chg; case hx => assumption) | (apply Go.Gw.At.chg; case hx => assumption) | exact .inl (Nat.zero_le _) | exact .inr (Nat.zero_le _) | (show _ ∨ _; omega))) : Val Tryz.prog 70 [v] w (.int .i64 xs.length) := by
  refine ⟨fun w1 hx1 => ?_⟩
  refine ret_enter Tryz.func70 rfl Tryz.ntmps70 rfl ?_
  focus refine c_seq ?_; refine c_region ?_; refine w_pure (y_assign rfl) rfl ?_; refine w_nil ?_; refine x_next ?_; refine c_seq ?_; refine c_region ?_; refine w_pure (y_move rfl) rfl ?_; refine w_pure (y_len rfl) rfl ?_; refine w_pure (y_assign rfl) rfl ?_; refine w_nil ?_; refine x_next ?_; refine c_ret ?_; rotate_left
  exact x_retv [_] rfl ⟨rfl, trivial⟩ ⟨rfl, by (repeat (first | exact Chg.refl _ _ _ | assumption | refine Chg.next ?_ (by assumption) (by omega)))⟩
def idxI (p : Int → Bool) : List Int → Int → Int
  | [], _ => -1
  | x :: r, i => if p x then i else idxI p r (i + 1)
theorem idxI_any (p : Int → Bool) : ∀ (xs : List Int) (i : Int), 0 ≤ i → (decide (0 ≤ idxI p xs i) = xs.any p)
  | [], i, h => by simp [idxI]
  | x :: r, i, h => by
    cases hp : p x
    · simp [idxI, hp, idxI_any p r (i + 1) (by omega)]
    · simp [idxI, hp, h]
theorem idxI_drop (p : Int → Bool) (xs : List Int) (i : Nat) (h : i < xs.length) : idxI p (xs.drop i) i = if p (xs.getD i 0) then (i : Int) else idxI p (xs.drop (i + 1)) (i + 1) := by
  rw [List.drop_eq_getElem_cons h, idxI, List.getD_eq_getElem?_getD, List.getElem?_eq_getElem h]; rfl
theorem IndexFunc_int {f : FuncId} [Callable Tryz.prog f] {first cap : List Value} {p : Int → Bool} (h : SL w lo hi v xs) (hp : ∀ x ∈ xs, Val Tryz.prog f (first ++ [.int .i64 x] ++ cap) w (.bool (p x))) :
    Val Tryz.prog 92 [v, .func (.func f) first.toArray cap.toArray] w (.int .i64 (idxI p xs 0)) := by
  refine ⟨fun w1 hx1 => ?_⟩
  have hsm := h.small
  refine ret_enter Tryz.func92 rfl Tryz.ntmps92 rfl ?_
  focus refine c_seq ?_; refine c_region ?_; refine w_pure (y_assign rfl) rfl ?_; refine w_nil ?_; refine x_next ?_; refine c_seq ?_; refine c_seq ?_; refine c_region ?_; refine w_pure (y_move rfl) rfl ?_; refine w_pure (y_len rfl) rfl ?_; refine w_pure (y_move rfl) rfl ?_; refine w_nil ?_; refine x_next ?_; refine c_block ?_; rotate_left
  refine c_loop (ι := Int) (fun x => [(0, v), (1, .func (.func f) first.toArray cap.toArray), (7, .int .i64 xs.length), (8, .int .i64 x)]) (fun x w => Ext w1 w ∧ 0 ≤ x ∧ x ≤ xs.length ∧ idxI p (xs.drop x.toNat) x = idxI p xs 0) (fun x => (xs.length - x).toNat) 0
    ⟨rfl, rfl, rfl, rfl, trivial⟩ ⟨Chg.refl _ _ _, by omega, by omega, by simp⟩ ?_
  rintro i w2 ⟨hx2, hi0, hi1, hidx⟩
  have hstep : i < xs.length → (if p (xs.getD i.toNat 0) then i else idxI p (xs.drop (i + 1).toNat) (i + 1)) = idxI p xs 0 := fun hlt => by
    have := idxI_drop p xs i.toNat (by omega)
    rw [Int.toNat_of_nonneg hi0] at this
    rw [show (i + 1).toNat = i.toNat + 1 by omega, ← this, hidx]
  focus refine c_seq ?_; refine c_region ?_; refine w_pure (y_lt rfl rfl) rfl ?_; refine w_nil ?_; refine x_next ?_; refine c_seq ?_; (refine c_dec rfl (fun hc => ?_) (fun hc => ?_) <;> try (exfalso; omega)); refine c_skip ?_; refine x_next ?_; refine c_seq ?_; refine c_block ?_; refine c_seq ?_; refine c_region ?_; refine w_pure (y_move rfl) rfl ?_; refine w_pure (y_assign rfl) rfl ?_; refine w_nil ?_; refine x_next ?_; refine c_seq ?_; refine c_region ?_; refine w_pure (y_move rfl) rfl ?_; refine w_pure (y_move rfl) rfl ?_; refine w_pure (y_move rfl) rfl ?_; refine w_pure (y_index rfl rfl) rfl ?_; refine w_pure (y_load_int rfl) rfl ?_; rotate_left; refine c_exit ?_; refine x_then_exit ?_; refine x_then_exit ?_; refine x_block_hit ?_; refine x_next ?_; refine c_seq ?_; refine c_region ?_; refine w_pure (y_assign rfl) rfl ?_; refine w_nil ?_; refine x_next ?_; refine c_ret ?_; rotate_left
  · have hmem : xs.getD i.toNat 0 ∈ xs := by rw [List.getD_eq_getElem?_getD, List.getElem?_eq_getElem (by omega)]; simp
    have hpx := hp _ hmem
    refine w_val rfl rfl rfl ⟨fun w3 hx3 => hpx.go w3 ((hx1.trans hx2).trans hx3)⟩ rfl (fun w3 hx3 hz3 => ?_)
    have hs := hstep (by omega)
    focus refine w_nil ?_; refine x_next ?_; (refine c_if rfl (fun hc => ?_) (fun hc => ?_)); refine c_seq ?_; refine c_region ?_; refine w_pure (y_move rfl) rfl ?_; refine w_pure (y_assign rfl) rfl ?_; refine w_nil ?_; refine x_next ?_; refine c_ret ?_; refine x_block_ret ?_; refine x_then_ret ?_; refine x_then_ret ?_; refine x_block_ret ?_; refine x_then_ret ?_; rotate_left; refine c_skip ?_; refine x_block_norm ?_; refine x_next ?_; refine c_region ?_; refine w_pure (y_add rfl rfl) rfl ?_; refine w_pure (y_move rfl) rfl ?_; refine w_nil ?_; rotate_left
    · refine x_retv [_] rfl ⟨rfl, trivial⟩ ⟨?_, by (repeat (first | exact Chg.refl _ _ _ | assumption | refine Chg.next ?_ (by assumption) (by omega)))⟩
      rw [if_pos hc] at hs
      rw [← hs]; rfl
    · refine x_again (i + 1) ⟨rfl, rfl, rfl, rfl, trivial⟩ ⟨by (repeat (first | exact Chg.refl _ _ _ | assumption | refine Chg.next ?_ (by assumption) (by omega))), by omega, by omega, ?_⟩ (by omega)
      rw [hc] at hs
      simpa using hs
  · refine x_retv [_] rfl ⟨rfl, trivial⟩ ⟨?_, by (repeat (first | exact Chg.refl _ _ _ | assumption | refine Chg.next ?_ (by assumption) (by omega)))⟩
    rw [List.drop_eq_nil_of_le (by omega)] at hidx
    rw [← hidx]; rfl
theorem ContainsFunc_int {f : FuncId} [Callable Tryz.prog f] {first cap : List Value} {p : Int → Bool} (h : SL w lo hi v xs) (hp : ∀ x ∈ xs, Val Tryz.prog f (first ++ [.int .i64 x] ++ cap) w (.bool (p x))) :
    Val Tryz.prog 68 [v, .func (.func f) first.toArray cap.toArray] w (.bool (xs.any p)) := by
  refine ⟨fun w1 hx1 => ?_⟩
  refine ret_enter Tryz.func68 rfl Tryz.ntmps68 rfl ?_
  have h2 := IndexFunc_int (w := w) h hp
  focus refine c_seq ?_; refine c_region ?_; refine w_pure (y_assign rfl) rfl ?_; refine w_nil ?_; refine x_next ?_; refine c_seq ?_; refine c_region ?_; refine w_pure (y_move rfl) rfl ?_; refine w_pure (y_move rfl) rfl ?_; refine w_val rfl rfl rfl ⟨fun w3 hx3 => h2.go w3 (hx1.trans hx3)⟩ rfl (fun w3 hx3 hz3 => ?_); refine w_pure (y_ge rfl rfl) rfl ?_; refine w_pure (y_assign rfl) rfl ?_; refine w_nil ?_; refine x_next ?_; refine c_ret ?_; rotate_left
  refine x_retv [_] rfl ⟨rfl, trivial⟩ ⟨?_, by (repeat (first | exact Chg.refl _ _ _ | assumption | refine Chg.next ?_ (by assumption) (by omega)))⟩
  rw [idxI_any p xs 0 (by omega)]; rfl
end
end Go.Proofs.YtcbpiaehkodliaaGreatDoor
/- LawA -/
namespace Go.Proofs.YtcbpiaehkodliaaGreatDoor
open Go Go.Gw
set_option linter.unusedVariables false
set_option linter.unusedSimpArgs false
section
variable {w : World} {lo hi lo' hi' : Nat} {v v' : Value} {xs ys : List Int}
end
end Go.Proofs.YtcbpiaehkodliaaGreatDoor
/- LawB -/
namespace Go.Proofs.YtcbpiaehkodliaaGreatDoor
open Go Go.Gw
set_option linter.unusedVariables false
set_option linter.unusedSimpArgs false
theorem listP_ext {xs ys : List (Int × Int)} (hl : xs.length = ys.length) (h : ∀ j : Nat, j < xs.length → xs.getD j (0, 0) = ys.getD j (0, 0)) : xs = ys := by
  apply List.ext_getElem hl
  intro i h1 h2
  have := h i h1
  rw [List.getD_eq_getElem?_getD, List.getD_eq_getElem?_getD, List.getElem?_eq_getElem h1, List.getElem?_eq_getElem h2] at this
  exact this
def marksP (k : Int) (n : Nat) : List (Int × Int) := (List.range n).map fun i => (k + 2 * (i : Nat), k + 2 * (i : Nat) + 1)
theorem marksP_len (k : Int) (n : Nat) : (marksP k n).length = n := by simp [marksP]
theorem marksP_get (k : Int) (n i : Nat) (h : i < n) : (marksP k n)[i]? = some (k + 2 * i, k + 2 * i + 1) := by simp [marksP, h]
theorem marksP_getD (k : Int) (n i : Nat) (h : i < n) : (marksP k n).getD i (0, 0) = (k + 2 * i, k + 2 * i + 1) := by simp [List.getD_eq_getElem?_getD, marksP_get k n i h]
section
variable {w : World} {lo hi lo' hi' : Nat} {v v' : Value} {xs ys : List (Int × Int)}
variable {e n j e' n' j' : Int}
end
end Go.Proofs.YtcbpiaehkodliaaGreatDoor
/- PairA -/
namespace Go.Proofs.YtcbpiaehkodliaaGreatDoor
open Go Go.Gw
set_option linter.unusedVariables false
set_option linter.unusedSimpArgs false
section
variable {w : World} {lo hi : Nat} {v : Value} {xs : List (Int × Int)}
def idxQ (p : Int × Int → Bool) : List (Int × Int) → Int → Int
  | [], _ => -1
  | x :: r, i => if p x then i else idxQ p r (i + 1)
theorem idxQ_any (p : Int × Int → Bool) : ∀ (xs : List (Int × Int)) (i : Int), 0 ≤ i → (decide (0 ≤ idxQ p xs i) = xs.any p)
  | [], i, h => by simp [idxQ]
  | x :: r, i, h => by
    cases hp : p x
    · simp [idxQ, hp, idxQ_any p r (i + 1) (by omega)]
    · simp [idxQ, hp, h]
theorem idxQ_drop (p : Int × Int → Bool) (xs : List (Int × Int)) (i : Nat) (h : i < xs.length) : idxQ p (xs.drop i) i = if p (xs.getD i (0, 0)) then (i : Int) else idxQ p (xs.drop (i + 1)) (i + 1) := by
  rw [List.drop_eq_getElem_cons h, idxQ, List.getD_eq_getElem?_getD, List.getElem?_eq_getElem h]; rfl
theorem IndexFuncCopy {f : FuncId} [Callable Tryz.prog f] {first cap : List Value} {p : Int × Int → Bool} (h : SL w lo hi v xs) (hp : ∀ x ∈ xs, Val Tryz.prog f (first ++ [.agg #[.int .i64 x.1, .int .i64 x.2]] ++ cap) w (.bool (p x))) :
    Val Tryz.prog 91 [v, .func (.func f) first.toArray cap.toArray] w (.int .i64 (idxQ p xs 0)) := by
  refine ⟨fun w1 hx1 => ?_⟩
  have hsm := h.small
  have hp1 : ∀ x ∈ xs, Val Tryz.prog f (first ++ [.agg #[.int .i64 x.1, .int .i64 x.2]] ++ cap) w1 (.bool (p x)) := fun x hx => ⟨fun w3 hx3 => (hp x hx).go w3 (hx1.trans hx3)⟩
  have E : Since 0 0 w1 w1 := Since.refl 0 0 w1
  refine ret_enter Tryz.func91 rfl Tryz.ntmps91 rfl ?_
  focus have ht_h := h.top; have hz_hx1 := hx1.size; replace h := h.ext hx1; refine c_seq ?_; refine c_region ?_; refine w_pure (y_assign rfl) rfl ?_; refine w_nil ?_; refine x_next ?_; refine c_seq ?_; refine c_seq ?_; refine c_region ?_; refine w_pure (y_move rfl) rfl ?_; refine w_pure (y_len rfl) rfl ?_; refine w_pure (y_move rfl) rfl ?_; refine w_nil ?_; refine x_next ?_; refine c_block ?_; rotate_left
  refine c_loopC 0 0 (ι := Nat) (fun x => [(0, v), (1, .func (.func f) first.toArray cap.toArray), (7, .int .i64 xs.length), (8, .int .i64 x)]) (fun x w => x ≤ xs.length ∧ idxQ p (xs.drop x) x = idxQ p xs 0) (fun x => xs.length - x) 0
    (by repeat (first | exact trivial | refine ⟨rfl, ?_⟩)) ⟨by omega, rfl⟩ ?_
  rintro i wL hxL EL ⟨hi, hidx⟩
  have hstep := idxQ_drop p xs i
  focus have hz_hxL := hxL.size; replace E := E.trans hxL; replace h := h.ext hxL; refine c_seq ?_; refine c_region ?_; refine w_pure (y_lt rfl rfl) rfl ?_; refine w_nil ?_; refine x_next ?_; refine c_seq ?_; (refine c_dec rfl (fun hc9 => ?_) (fun hc9 => ?_) <;> try (first | exact absurd rfl hc9 | contradiction | exact Bool.noConfusion (show false = true from hc9.symm.trans (by assumption)) | exact Bool.noConfusion (show true = false from hc9.symm.trans (by assumption)) | (exfalso; omega) | (exfalso; simp only [*, Bool.not_true, Bool.not_false, reduceCtorEq] at hc9; done))); refine c_skip ?_; refine x_next ?_; refine c_seq ?_; refine c_block ?_; refine c_seq ?_; refine c_region ?_; refine w_pure (y_move rfl) rfl ?_; refine w_pure (y_assign rfl) rfl ?_; refine w_nil ?_; refine x_next ?_; refine c_seq ?_; refine c_region ?_; refine w_pure (y_move rfl) rfl ?_; refine w_pure (y_move rfl) rfl ?_; refine w_pure (y_move rfl) rfl ?_; refine w_pure (y_index rfl rfl) rfl ?_; refine w_pure (y_load_pair rfl) rfl ?_; rotate_left; refine c_exit ?_; refine x_then_exit ?_; refine x_then_exit ?_; refine x_block_hit ?_; refine x_next ?_; refine c_seq ?_; refine c_region ?_; refine w_pure (y_assign rfl) rfl ?_; refine w_nil ?_; refine x_next ?_; refine c_ret ?_; rotate_left
  · have hlt : i < xs.length := by omega
    have hmem : xs.getD i (0, 0) ∈ xs := by rw [List.getD_eq_getElem?_getD, List.getElem?_eq_getElem hlt]; simp
    refine w_val rfl rfl rfl ⟨fun w3 hx3 => (hp1 _ hmem).go w3 (EL.go.trans hx3)⟩ rfl (fun w9a hx9a hz9a => ?_)
    have hs := (hstep hlt).symm.trans hidx
    focus have hz_hx9a := hx9a.size; replace EL := EL.trans hx9a; replace E := E.trans hx9a; replace h := h.ext hx9a; refine w_nil ?_; refine x_next ?_; (refine c_if rfl (fun hc16 => ?_) (fun hc16 => ?_) <;> try (first | exact absurd rfl hc16 | contradiction | exact Bool.noConfusion (show false = true from hc16.symm.trans (by assumption)) | exact Bool.noConfusion (show true = false from hc16.symm.trans (by assumption)) | (exfalso; omega) | (exfalso; simp only [*, Bool.not_true, Bool.not_false, reduceCtorEq] at hc16; done))); refine c_seq ?_; refine c_region ?_; refine w_pure (y_move rfl) rfl ?_; refine w_pure (y_assign rfl) rfl ?_; refine w_nil ?_; refine x_next ?_; refine c_ret ?_; refine x_block_ret ?_; refine x_then_ret ?_; refine x_then_ret ?_; refine x_block_ret ?_; refine x_then_ret ?_; rotate_left; refine c_skip ?_; refine x_block_norm ?_; refine x_next ?_; refine c_region ?_; refine w_pure (y_add rfl rfl) rfl ?_; refine w_pure (y_move rfl) rfl ?_; refine w_nil ?_; rotate_left
    · refine x_retv [_] rfl ⟨rfl, trivial⟩ ⟨?_, E.go⟩
      rw [if_pos hc16] at hs
      rw [← hs]; rfl
    · refine x_again (i + 1) (by repeat (first | exact trivial | refine ⟨rfl, ?_⟩)) ⟨EL.go, by omega, ?_⟩ (by omega)
      rw [hc16] at hs
      simpa using hs
  · refine x_retv [_] rfl ⟨rfl, trivial⟩ ⟨?_, E.go⟩
    rw [List.drop_eq_nil_of_le (by omega)] at hidx
    rw [← hidx]; rfl
theorem ContainsFuncCopy {f : FuncId} [Callable Tryz.prog f] {first cap : List Value} {p : Int × Int → Bool} (h : SL w lo hi v xs := by repeat (first | assumption | exact Go.Gw.Own.sl (by assumption) | exact Go.Gw.Box.at (by assumption) | exact Go.Gw.SLL.el (by first | assumption | exact Go.Gw.OwnD.sll (by assumption)) _ (by omega) | exact Go.Gw.SLL.at (by first | assumption | exact Go.Gw.OwnD.sll (by assumption)) (by omega) | exact Go.Gw.OwnD.sll (by assumption) | (apply Go.Gw.SL.chg; case hx => assumption) | (apply Go.Gw.Own.chg; case hx => assumption) | (apply Go.Gw.Box.chg; case hx => assumption) | (apply Go.Gw.At.chg; case hx => assumption) | exact .inl (Nat.zero_le _) | exact .inr (Nat.zero_le _) | (show _ ∨ _; omega))) (hp : ∀ x ∈ xs, Val Tryz.prog f (first ++ [.agg #[.int .i64 x.1, .int .i64 x.2]] ++ cap) w (.bool (p x))) :
    Val Tryz.prog 63 [v, .func (.func f) first.toArray cap.toArray] w (.bool (xs.any p)) := by
  refine ⟨fun w1 hx1 => ?_⟩
  have h2 := IndexFuncCopy (w := w) h hp
  have h3 : Val Tryz.prog 91 [v, .func (.func f) first.toArray cap.toArray] w1 (.int .i64 (idxQ p xs 0)) := ⟨fun w3 hx3 => h2.go w3 (hx1.trans hx3)⟩
  have E : Since 0 0 w1 w1 := Since.refl 0 0 w1
  refine ret_enter Tryz.func63 rfl Tryz.ntmps63 rfl ?_
  focus have ht_h := h.top; have hz_hx1 := hx1.size; replace h := h.ext hx1; refine c_seq ?_; refine c_region ?_; refine w_pure (y_assign rfl) rfl ?_; refine w_nil ?_; refine x_next ?_; refine c_seq ?_; refine c_region ?_; refine w_pure (y_move rfl) rfl ?_; refine w_pure (y_move rfl) rfl ?_; refine w_val rfl rfl rfl (h3) rfl (fun w7 hx7 hz7 => ?_); have hz_hx7 := hx7.size; replace E := E.trans hx7; replace h := h.ext hx7; refine w_pure (y_ge rfl rfl) rfl ?_; refine w_pure (y_assign rfl) rfl ?_; refine w_nil ?_; refine x_next ?_; refine c_ret ?_; rotate_left
  refine x_retv [_] rfl ⟨rfl, trivial⟩ ⟨?_, E.go⟩
  rw [idxQ_any p xs 0 (by omega)]; rfl
end
end Go.Proofs.YtcbpiaehkodliaaGreatDoor
/- CntC -/
namespace Go.Proofs.YtcbpiaehkodliaaGreatDoor
open Go Go.Gw
set_option linter.unusedVariables false
set_option linter.unusedSimpArgs false

section
variable {w : World} {lo hi lo' hi' : Nat} {v v' : Value} {xs ys : List Int} {b : Nat}

/-- a counter that is valid -/
def okC (xs : List Int) : Bool := decide (1 ≤ xs.length ∧ xs.length ≤ 12) && !xs.any fun d => !decide (0 ≤ d ∧ d ≤ 9)
theorem okC_len {xs : List Int} (h : okC xs = true) : 1 ≤ xs.length ∧ xs.length ≤ 12 := by simp [okC] at h; exact h.1
theorem okC_dig {xs : List Int} (h : okC xs = true) : ∀ d ∈ xs, 0 ≤ d ∧ d ≤ 9 := by simp [okC] at h; exact h.2
theorem okC_getD {xs : List Int} (h : okC xs = true) (i : Nat) (hi : i < xs.length) : 0 ≤ xs.getD i 0 ∧ xs.getD i 0 ≤ 9 := by
  rw [List.getD_eq_getElem?_getD, List.getElem?_eq_getElem hi]
  exact okC_dig h _ (List.getElem_mem hi)

theorem l00Same_c (h : SL w lo hi v xs := by repeat (first | assumption | exact Go.Gw.Own.sl (by assumption) | exact Go.Gw.Box.at (by assumption) | exact Go.Gw.SLL.el (by first | assumption | exact Go.Gw.OwnD.sll (by assumption)) _ (by omega) | exact Go.Gw.SLL.at (by first | assumption | exact Go.Gw.OwnD.sll (by assumption)) (by omega) | exact Go.Gw.OwnD.sll (by assumption) | (apply Go.Gw.SL.chg; case hx => assumption) | (apply Go.Gw.Own.chg; case hx => assumption) | (apply Go.Gw.Box.chg; case hx => assumption) | (apply Go.Gw.At.chg; case hx => assumption) | exact .inl (Nat.zero_le _) | exact .inr (Nat.zero_le _) | (show _ ∨ _; omega))) (h' : SL w lo' hi' v' ys := by repeat (first | assumption | exact Go.Gw.Own.sl (by assumption) | exact Go.Gw.Box.at (by assumption) | exact Go.Gw.SLL.el (by first | assumption | exact Go.Gw.OwnD.sll (by assumption)) _ (by omega) | exact Go.Gw.SLL.at (by first | assumption | exact Go.Gw.OwnD.sll (by assumption)) (by omega) | exact Go.Gw.OwnD.sll (by assumption) | (apply Go.Gw.SL.chg; case hx => assumption) | (apply Go.Gw.Own.chg; case hx => assumption) | (apply Go.Gw.Box.chg; case hx => assumption) | (apply Go.Gw.At.chg; case hx => assumption) | exact .inl (Nat.zero_le _) | exact .inr (Nat.zero_le _) | (show _ ∨ _; omega))) : Val Tryz.prog 61 [v, v'] w (.bool (decide (xs = ys))) := by
  refine ⟨fun w1 hx1 => ?_⟩
  have hsm := h.small
  have hsm' := h'.small
  by_cases hl : xs.length = ys.length
  · refine ret_enter Tryz.func61 rfl Tryz.ntmps61 rfl ?_
    focus refine c_seq ?_; refine c_region ?_; refine w_pure (y_assign rfl) rfl ?_; refine w_nil ?_; refine x_next ?_; refine c_seq ?_; refine c_seq ?_; refine c_region ?_; refine w_pure (y_move rfl) rfl ?_; refine w_pure (y_len rfl) rfl ?_; refine w_pure (y_move rfl) rfl ?_; refine w_pure (y_len rfl) rfl ?_; refine w_pure (y_ne rfl rfl) rfl ?_; refine w_nil ?_; refine x_next ?_; (refine c_dec rfl (fun hc => ?_) (fun hc => ?_) <;> try (exfalso; omega)); refine c_skip ?_; refine x_next ?_; refine c_seq ?_; refine c_seq ?_; refine c_region ?_; refine w_pure (y_assign rfl) rfl ?_; refine w_nil ?_; refine x_next ?_; refine c_block ?_; rotate_left
    refine c_loop (ι := Int) (fun x => [(0, v), (1, v'), (5, .int .i64 x)]) (fun x w' => Ext w1 w' ∧ 0 ≤ x ∧ x ≤ xs.length ∧ ∀ j : Nat, j < x.toNat → xs.getD j 0 = ys.getD j 0) (fun x => (xs.length - x).toNat) 0
      ⟨rfl, rfl, rfl, trivial⟩ ⟨Chg.refl _ _ _, by omega, by omega, fun j hj => by simp at hj⟩ ?_
    rintro i w2 ⟨hx2, hi0, hi1, hall⟩
    focus refine c_seq ?_; refine c_seq ?_; refine c_region ?_; refine w_pure (y_move rfl) rfl ?_; refine w_pure (y_move rfl) rfl ?_; refine w_pure (y_len rfl) rfl ?_; refine w_pure (y_lt rfl rfl) rfl ?_; refine w_nil ?_; refine x_next ?_; (refine c_dec rfl (fun hc => ?_) (fun hc => ?_) <;> try (exfalso; omega)); refine c_skip ?_; refine x_next ?_; refine c_seq ?_; refine c_block ?_; refine c_seq ?_; refine c_region_quiet mixed (by kernel_rfl) ?_; refine q_pure (y_move rfl) rfl ?_; refine q_pure (y_move rfl) rfl ?_; refine q_pure (y_index rfl rfl) rfl ?_; refine q_pure (y_load_int rfl) rfl ?_; refine q_pure (y_move rfl) rfl ?_; refine q_pure (y_move rfl) rfl ?_; refine q_pure (y_index rfl rfl) rfl ?_; refine q_pure (y_load_int rfl) rfl ?_; refine q_pure (y_ne rfl rfl) rfl ?_; refine q_nil (fun wq hxq hzq => ?_); refine x_next ?_; (refine c_dec rfl (fun hc => ?_) (fun hc => ?_) <;> try (exfalso; omega)); refine c_seq ?_; refine c_region ?_; refine w_pure (y_assign rfl) rfl ?_; refine w_nil ?_; refine x_next ?_; refine c_ret ?_; refine x_block_ret ?_; refine x_then_ret ?_; refine x_then_ret ?_; refine x_block_ret ?_; refine x_then_ret ?_; rotate_left; refine c_skip ?_; refine x_block_norm ?_; refine x_next ?_; refine c_region ?_; refine w_pure (y_move rfl) rfl ?_; refine w_pure (y_add rfl rfl) rfl ?_; refine w_pure (y_assign rfl) rfl ?_; refine w_nil ?_; rotate_left; refine c_exit ?_; refine x_then_exit ?_; refine x_then_exit ?_; refine x_block_hit ?_; refine x_next ?_; refine c_seq ?_; refine c_region ?_; refine w_pure (y_assign rfl) rfl ?_; refine w_nil ?_; refine x_next ?_; refine c_ret ?_; rotate_left
    · refine x_retv [_] rfl ⟨rfl, trivial⟩ ⟨?_, by (repeat (first | exact Chg.refl _ _ _ | assumption | refine Chg.next ?_ (by assumption) (by omega)))⟩
      have : ¬ xs = ys := fun e => hc (by rw [e])
      simp [ofResults, this]
    · refine x_again (i + 1) ⟨rfl, rfl, rfl, trivial⟩ ⟨by (repeat (first | exact Chg.refl _ _ _ | assumption | refine Chg.next ?_ (by assumption) (by omega))), by omega, by omega, fun j hj => ?_⟩ (by omega)
      by_cases e : j = i.toNat
      · subst e; exact Decidable.not_not.1 hc
      · exact hall j (by omega)
    · refine x_retv [_] rfl ⟨rfl, trivial⟩ ⟨?_, by (repeat (first | exact Chg.refl _ _ _ | assumption | refine Chg.next ?_ (by assumption) (by omega)))⟩
      have : xs = ys := list_ext hl fun j hj => hall j (by omega)
      simp [ofResults, this]
  · refine ret_enter Tryz.func61 rfl Tryz.ntmps61 rfl ?_
    focus refine c_seq ?_; refine c_region ?_; refine w_pure (y_assign rfl) rfl ?_; refine w_nil ?_; refine x_next ?_; refine c_seq ?_; refine c_seq ?_; refine c_region ?_; refine w_pure (y_move rfl) rfl ?_; refine w_pure (y_len rfl) rfl ?_; refine w_pure (y_move rfl) rfl ?_; refine w_pure (y_len rfl) rfl ?_; refine w_pure (y_ne rfl rfl) rfl ?_; refine w_nil ?_; refine x_next ?_; (refine c_dec rfl (fun hc => ?_) (fun hc => ?_) <;> try (exfalso; omega)); refine c_seq ?_; refine c_region ?_; refine w_pure (y_assign rfl) rfl ?_; refine w_nil ?_; refine x_next ?_; refine c_ret ?_; refine x_then_ret ?_; rotate_left
    refine x_retv [_] rfl ⟨rfl, trivial⟩ ⟨?_, by (repeat (first | exact Chg.refl _ _ _ | assumption | refine Chg.next ?_ (by assumption) (by omega)))⟩
    have : ¬ xs = ys := fun e => hl (by rw [e])
    simp [ofResults, this]
end
end Go.Proofs.YtcbpiaehkodliaaGreatDoor
/- L13 -/
namespace Go.Gw
open Go
set_option linter.unusedVariables false
set_option linter.unusedSimpArgs false
/-- two numbers' bits taken together (both at least 0) -/
def orI (a b : Int) : Int := ((a.toNat ||| b.toNat : Nat) : Int)
theorem orI_lt {a b : Int} {k : Nat} (ha : a < 2 ^ k) (hb : b < 2 ^ k) : 0 ≤ orI a b ∧ orI a b < 2 ^ k := by
  have h : ∀ x : Int, x < 2 ^ k → x.toNat < 2 ^ k := fun x hx => by
    have : (0 : Nat) < 2 ^ k := Nat.pow_pos (by decide)
    have e : ((2 ^ k : Nat) : Int) = 2 ^ k := by push_cast; rfl
    omega
  have h1 := Nat.or_lt_two_pow (h a ha) (h b hb)
  have e : ((2 ^ k : Nat) : Int) = 2 ^ k := by push_cast; rfl
  unfold orI
  omega
theorem orI_12 {a b : Int} (ha : a ≤ 4095) (hb : b ≤ 4095) : 0 ≤ orI a b ∧ orI a b ≤ 4095 := by
  have := orI_lt (a := a) (b := b) (k := 12) (by omega) (by omega)
  omega
section
variable {P : Program} {N : Nat} {σ : Fm} {w : World} {ty t t' : TypeId} {x y : Operand} {a b : Int}
theorem bits_of {a : Int} (h0 : 0 ≤ a) (h : a ≤ 9223372036854775807) : (BitVec.ofInt 64 a).toNat = a.toNat := by
  rw [BitVec.toNat_ofInt]
  omega
theorem y_or (hx : ev σ x = some (.int .i64 a)) (hy : ev σ y = some (.int .i64 b)) (ha : 0 ≤ a ∧ a ≤ 9223372036854775807 := by exact ⟨by omega, by omega⟩) (hb : 0 ≤ b ∧ b ≤ 9223372036854775807 := by exact ⟨by omega, by omega⟩) : YE P σ (.binOp .or t x y t') ty w (.int .i64 (orI a b)) := by
  have hw : IntKind.i64.wrap ((BitVec.ofInt 64 a ||| BitVec.ofInt 64 b).toNat : Int) = orI a b := by
    rw [BitVec.toNat_or, bits_of ha.1 ha.2, bits_of hb.1 hb.2]
    have := orI_lt (a := a) (b := b) (k := 63) (by omega) (by omega)
    exact wrap_in ⟨by unfold orI at this; omega, by unfold orI at this; omega⟩
  exact ⟨fun w' _ ρ hρ => by
    simp [execOp, hρ _ _ hx, hρ _ _ hy, eqGuard, binOp, Op.intBits]
    first
      | exact ⟨hw, by assumption⟩
      | exact hw
      | (intro; exact hw)
      | skip⟩
end
end Go.Gw
/- L14 -/
namespace Go.Gw
open Go
set_option linter.unusedVariables false
set_option linter.unusedSimpArgs false

/-- a slice that is no slice reads as nil -/
def svOf : Value → SV
  | .slice a n c => ⟨a, n, c⟩
  | _ => ⟨none, 0, 0⟩
abbrev sv0 : SV := ⟨none, 0, 0⟩
abbrev svD (svs : List SV) (i : Nat) : Value := (svs.getD i sv0).v
theorem svOf_v {α : Type} {E : Enc α} {w : World} {lo hi : Nat} {v : Value} {xs : List α} (h : SL w lo hi v xs) : (svOf v).v = v := by
  obtain ⟨a, c, hv, _⟩ := h.form
  rw [hv]; rfl
theorem nil_sl {α : Type} {E : Enc α} (w : World) (lo hi : Nat) (ht : hi ≤ w.heap.size) : SL w lo hi (.slice none 0 0) ([] : List α) :=
  ⟨⟨none, 0, rfl, Nat.le_refl _, Nat.zero_le _, fun h => by simp at h⟩, fun i x hi => by simp at hi, fun h => by simp at h, ht, fun i hi => by simp at hi⟩

/-- v is a slice of slices; they read as xss; all lie in blocks from lo up to hi -/
structure SLL (w : World) (lo hi : Nat) (svs : List SV) (v : Value) (xss : List (List Int)) : Prop where
  out : SL w lo hi v svs
  len : svs.length = xss.length
  el : ∀ i, i < xss.length → SL w lo hi (svD svs i) (xss.getD i [])
theorem SLL.chg {w w' : World} {lo hi l k : Nat} {svs : List SV} {v : Value} {xss : List (List Int)} (h : SLL w lo hi svs v xss) (hx : Chg l k w w') (ho : k ≤ lo ∨ hi ≤ l) : SLL w' lo hi svs v xss :=
  ⟨h.out.chg hx ho, h.len, fun i hi => (h.el i hi).chg hx ho⟩
theorem SLL.ext {w w' : World} {lo hi : Nat} {svs : List SV} {v : Value} {xss : List (List Int)} (h : SLL w lo hi svs v xss) (hx : Ext w w') : SLL w' lo hi svs v xss := h.chg hx (.inl (Nat.zero_le _))
theorem SLL.top {w : World} {lo hi : Nat} {svs : List SV} {v : Value} {xss : List (List Int)} (h : SLL w lo hi svs v xss) : hi ≤ w.heap.size := h.out.top
theorem SLL.at {w : World} {lo hi : Nat} {svs : List SV} {v : Value} {xss : List (List Int)} (h : SLL w lo hi svs v xss) {i : Nat} (hi : i < xss.length) : At w (sb v) (so v + i * 1) [svD svs i] := by
  have hl := h.len
  have := h.out.el i (svs.getD i sv0) (by rw [List.getD_eq_getElem?_getD, List.getElem?_eq_getElem (by omega)]; rfl)
  exact this
theorem SLL.small {w : World} {lo hi : Nat} {svs : List SV} {v : Value} {xss : List (List Int)} (h : SLL w lo hi svs v xss) : (xss.length : Int) ≤ 9223372036854775807 := by
  have := h.out.small; rw [h.len] at this; exact this

/-- two slices lie apart -/
abbrev Apart (u v : Value) : Prop := bH u ≤ bL v ∨ bH v ≤ bL u
/-- a place in a deck of the call's own -/
structure Plc (lo hi : Nat) (v : Value) (u : Value) : Prop where
  rng : (bH u = 0 ∧ bL u = 0) ∨ (lo ≤ bL u ∧ bH u = bL u + 1 ∧ bH u ≤ hi)
  out : Apart u v
/-- v is a slice of slices, all of the call's own, no two in one block, in blocks from lo up to hi -/
structure OwnD (w : World) (e : TypeId) (lo hi : Nat) (svs : List SV) (v : Value) (xss : List (List Int)) : Prop where
  own : Own w e lo v svs
  oh : bH v ≤ hi
  len : svs.length = xss.length
  el : ∀ i, i < xss.length → SL w (bL (svD svs i)) (bH (svD svs i)) (svD svs i) (xss.getD i [])
  plc : ∀ i, i < xss.length → Plc lo hi v (svD svs i)
  pw : ∀ i j, i < j → j < xss.length → Apart (svD svs i) (svD svs j)
  top : hi ≤ w.heap.size
section
variable {w w' : World} {e : TypeId} {lo hi : Nat} {svs : List SV} {v u : Value} {xss : List (List Int)}
theorem OwnD.lt (h : OwnD w e lo hi svs v xss) : ((bH v = 0 ∧ bL v = 0) ∨ (lo ≤ bL v ∧ bL v < hi ∧ bH v = bL v + 1)) ∧ hi ≤ w.heap.size ∧ svs.length = xss.length := by
  have h1 := h.own.lt
  have h2 := h.oh
  have h3 := h.top
  refine ⟨?_, h3, h.len⟩
  omega
theorem OwnD.chg {l k : Nat} (h : OwnD w e lo hi svs v xss) (hx : Chg l k w w') (ho : k ≤ lo ∨ hi ≤ l) : OwnD w' e lo hi svs v xss := by
  refine ⟨h.own.chg hx ?_, h.oh, h.len, fun i hi' => (h.el i hi').chg hx ?_, h.plc, h.pw, Nat.le_trans h.top hx.size⟩
  · have := h.lt.1; omega
  · have := (h.plc i hi').rng; omega
theorem OwnD.ext (h : OwnD w e lo hi svs v xss) (hx : Ext w w') : OwnD w' e lo hi svs v xss := h.chg hx (.inl (Nat.zero_le _))
theorem OwnD.wide {hi' : Nat} (h : OwnD w e lo hi svs v xss) (h1 : hi ≤ hi') (h2 : hi' ≤ w.heap.size) : OwnD w e lo hi' svs v xss :=
  ⟨h.own, Nat.le_trans h.oh h1, h.len, h.el, fun i hi => ⟨by have := (h.plc i hi).rng; omega, (h.plc i hi).out⟩, h.pw, h2⟩
theorem OwnD.low {lo' : Nat} (h : OwnD w e lo hi svs v xss) (h1 : lo' ≤ lo) : OwnD w e lo' hi svs v xss :=
  ⟨h.own.base h1, h.oh, h.len, h.el, fun i hi => ⟨by have := (h.plc i hi).rng; omega, (h.plc i hi).out⟩, h.pw, h.top⟩
theorem sl_into {α : Type} {E : Enc α} {w : World} {l h lo hi : Nat} {v : Value} {xs : List α} (s : SL w l h v xs) (hr : (h = 0 ∧ l = 0) ∨ (lo ≤ l ∧ h ≤ hi)) (ht : hi ≤ w.heap.size) : SL w lo hi v xs :=
  ⟨s.form, s.el, fun h0 => by have := s.inn h0; omega, ht, s.free⟩
theorem OwnD.sll (h : OwnD w e lo hi svs v xss) : SLL w lo hi svs v xss :=
  ⟨sl_into h.own.sl (by have := h.lt.1; omega) h.top, h.len, fun i hi => sl_into (h.el i hi) (by have := (h.plc i hi).rng; omega) h.top⟩
theorem OwnD.nil (w : World) (e : TypeId) (lo hi : Nat) (ht : hi ≤ w.heap.size) : OwnD w e lo hi [] (.slice none 0 0) [] :=
  ⟨Own.nil w e lo, Nat.zero_le _, rfl, fun i h => by simp at h, fun i h => by simp at h, fun i j _ h => by simp at h, ht⟩
/-- an empty slice, of a block of its own -/
theorem OwnD.of_empty (h : Own w e lo v ([] : List SV)) : OwnD w e lo w.heap.size [] v [] :=
  ⟨h, by have := h.lt; omega, rfl, fun i h => by simp at h, fun i h => by simp at h, fun i j _ h => by simp at h, Nat.le_refl _⟩
theorem svD_append_lt {svs : List SV} {s : SV} {i : Nat} (h : i < svs.length) : svD (svs ++ [s]) i = svD svs i := by
  simp [svD, List.getD_eq_getElem?_getD, List.getElem?_append_left h]
theorem svD_append_eq {svs : List SV} {s : SV} {i : Nat} (h : i = svs.length) : svD (svs ++ [s]) i = s.v := by
  subst h; simp [svD, List.getD_eq_getElem?_getD]
theorem getD_append_lt {α : Type} {xs : List α} {x d : α} {i : Nat} (h : i < xs.length) : (xs ++ [x]).getD i d = xs.getD i d := by
  simp [List.getD_eq_getElem?_getD, List.getElem?_append_left h]
theorem getD_append_eq {α : Type} {xs : List α} {x d : α} {i : Nat} (h : i = xs.length) : (xs ++ [x]).getD i d = x := by
  subst h; simp [List.getD_eq_getElem?_getD]
/-- one slice more, at the end: the outer one has grown from w to w' -/
theorem OwnD.push {v' : Value} {ys : List Int} {s : SV} {ti : Nat} (h : OwnD w e lo hi svs v xss) (h2 : Own w' e lo v' (svs ++ [s])) (hx : Chg (bL v) (bH v) w w') (hr : (bL v' = bL v ∧ bH v' = bH v) ∨ (w.heap.size ≤ bL v' ∧ bH v' = bL v' + 1 ∧ bL v' < w'.heap.size))
    (hs : SL w (bL s.v) (bH s.v) s.v ys) (hp : (bH s.v = 0 ∧ bL s.v = 0) ∨ (hi ≤ bL s.v ∧ lo ≤ bL s.v ∧ bH s.v = bL s.v + 1 ∧ bH s.v ≤ w.heap.size)) : OwnD w' e lo w'.heap.size (svs ++ [s]) v' (xss ++ [ys]) := by
  have hl := h.len
  have hlt := h.lt
  have hz := hx.size
  have hsv : Apart s.v v' ∧ Apart s.v v := by
    constructor <;> rcases hp with hp | hp <;> omega
  refine ⟨h2, ?_, by simp [hl], ?_, ?_, ?_, Nat.le_refl _⟩
  · have := h2.lt; omega
  · intro i hi'
    by_cases hi : i < xss.length
    · rw [svD_append_lt (by omega), getD_append_lt hi]
      have hp := h.plc i hi
      exact (h.el i hi).chg hx (by have := hp.out; rcases this with h | h <;> omega)
    · have e : i = xss.length := by simp at hi'; omega
      rw [svD_append_eq (by omega), getD_append_eq e]
      exact hs.chg hx (by have := hsv.2; rcases this with h | h <;> omega)
  · intro i hi'
    by_cases hi : i < xss.length
    · rw [svD_append_lt (by omega)]
      have hp := h.plc i hi
      refine ⟨by have := hp.rng; omega, ?_⟩
      have h3 := hp.out
      have h4 := hp.rng
      rcases hr with hr | hr
      · rw [Apart, hr.1, hr.2]; exact h3
      · show _ ∨ _; omega
    · have e : i = xss.length := by simp at hi'; omega
      rw [svD_append_eq (by omega)]
      exact ⟨by omega, hsv.1⟩
  · intro i j hij hj
    by_cases hi : j < xss.length
    · rw [svD_append_lt (by omega), svD_append_lt (by omega)]
      exact h.pw i j hij hi
    · have e : j = xss.length := by simp at hj; omega
      rw [svD_append_lt (by omega), svD_append_eq (by omega)]
      have := (h.plc i (by omega)).rng
      show _ ∨ _
      omega
/-- one of the slices has other elements -/
theorem OwnD.upd {i : Nat} {ys : List Int} {l k : Nat} (h : OwnD w e lo hi svs v xss) (hi' : i < xss.length) (hx : Chg l k w w') (hl : l = bL (svD svs i)) (hk : k = bH (svD svs i)) (hs : SL w' (bL (svD svs i)) (bH (svD svs i)) (svD svs i) ys) : OwnD w' e lo hi svs v (xss.set i ys) := by
  subst hl; subst hk
  refine ⟨h.own.chg hx ?_, h.oh, by simp [h.len], ?_, ?_, ?_, Nat.le_trans h.top hx.size⟩
  · rcases (h.plc i hi').out with h1 | h1
    · exact .inl h1
    · exact .inr h1
  · intro j hj
    simp only [List.length_set] at hj
    by_cases e : j = i
    · subst e
      have e2 : (xss.set j ys).getD j [] = ys := by simp [List.getD_eq_getElem?_getD, hj]
      rw [e2]; exact hs
    · have e2 : (xss.set i ys).getD j [] = xss.getD j [] := by simp [List.getD_eq_getElem?_getD, List.getElem?_set, Ne.symm e]
      rw [e2]
      refine (h.el j hj).chg hx ?_
      rcases Nat.lt_or_ge j i with hji | hji
      · rcases h.pw j i hji hi' with h1 | h1
        · exact .inr h1
        · exact .inl h1
      · rcases h.pw i j (by omega) hj with h1 | h1
        · exact .inl h1
        · exact .inr h1
  · intro j hj; exact h.plc j (by simpa using hj)
  · intro a b hab hb; exact h.pw a b hab (by simpa using hb)
/-- one of the slices is another one -/
theorem OwnD.put {i : Nat} {ys : List Int} {s : SV} (h : OwnD w e lo hi svs v xss) (hi' : i < xss.length) (h2 : Own w' e lo v (svs.set i s)) (hx : Chg (bL v) (bH v) w w')
    (hs : SL w (bL s.v) (bH s.v) s.v ys) (hp : (bH s.v = 0 ∧ bL s.v = 0) ∨ (hi ≤ bL s.v ∧ lo ≤ bL s.v ∧ bH s.v = bL s.v + 1 ∧ bH s.v ≤ w.heap.size)) : OwnD w' e lo w'.heap.size (svs.set i s) v (xss.set i ys) := by
  have hl := h.len
  have hlt := h.lt
  have hz := hx.size
  have hsv : Apart s.v v := by rcases hp with hp | hp <;> (show _ ∨ _; omega)
  have eS : ∀ j, j ≠ i → svD (svs.set i s) j = svD svs j := fun j hj => by simp [svD, List.getD_eq_getElem?_getD, List.getElem?_set, Ne.symm hj]
  have eI : svD (svs.set i s) i = s.v := by simp [svD, List.getD_eq_getElem?_getD, show i < svs.length by omega]
  refine ⟨h2, by have := h2.lt; omega, by simp [hl], ?_, ?_, ?_, Nat.le_refl _⟩
  · intro j hj
    simp only [List.length_set] at hj
    by_cases e : j = i
    · subst e
      have e2 : (xss.set j ys).getD j [] = ys := by simp [List.getD_eq_getElem?_getD, hj]
      rw [e2, eI]
      exact hs.chg hx (by rcases hsv with h | h <;> omega)
    · have e2 : (xss.set i ys).getD j [] = xss.getD j [] := by simp [List.getD_eq_getElem?_getD, List.getElem?_set, Ne.symm e]
      rw [e2, eS j e]
      exact (h.el j hj).chg hx (by rcases (h.plc j hj).out with h | h <;> omega)
  · intro j hj
    simp only [List.length_set] at hj
    by_cases e : j = i
    · subst e; rw [eI]; exact ⟨by omega, hsv⟩
    · rw [eS j e]; exact ⟨by have := (h.plc j hj).rng; omega, (h.plc j hj).out⟩
  · intro a b hab hb
    simp only [List.length_set] at hb
    by_cases ea : a = i
    · subst ea
      rw [eI, eS b (by omega)]
      have := (h.plc b hb).rng
      show _ ∨ _; omega
    · rw [eS a ea]
      by_cases eb : b = i
      · subst eb
        rw [eI]
        have := (h.plc a (by omega)).rng
        show _ ∨ _; omega
      · rw [eS b eb]; exact h.pw a b hab hb
end

section
variable {P : Program} {N : Nat} {Q : Post} {σ : Fm} {w w' : World} {ops : Array Oper} {rest : List Oper} {T ty : TypeId} {x y : Operand} {v u t : Value} {lo hi l k e s b d : Nat} {pos : String} {af : Array Edge} {svs : List SV} {xss : List (List Int)} {ys : List Int}
/-- a slice of numbers that is an element -/
theorem y_load_sv [TScal P T] {n : Nat} (hx : ev σ x = some (ptr (sb v) (so v + n * 1))) (h : SLL w lo hi svs v xss := by first | assumption | exact Go.Gw.OwnD.sll (by assumption)) (hn : n < xss.length := by first | omega | (simp only [List.length_set]; omega) | (simp only [List.length_set, List.length_append, List.length_cons, List.length_nil]; omega)) : YE P σ (.load T x) ty w (svD svs n) := by
  have hl := h.len
  exact y_load_el (d := sv0) hx h.out (by omega) rfl
/-- a card that is an element -/
theorem y_load_cd [TStr P T 1] {n : Nat} (hx : ev σ x = some (ptr (sb v) (so v + n * 1))) (h : SLL w lo hi svs v xss := by first | assumption | exact Go.Gw.OwnD.sll (by assumption)) (hn : n < xss.length := by first | omega | (simp only [List.length_set]; omega) | (simp only [List.length_set, List.length_append, List.length_cons, List.length_nil]; omega)) : YE P σ (.load T x) ty w (.agg #[svD svs n]) := by
  have hl := h.len
  exact y_load_els (d := sv0) hx h.out rfl (by omega) rfl
theorem y_lend {e s b : Nat} [hT : TSli P T e s b] (hx : ev σ x = some v) (h : SLL w lo hi svs v xss := by first | assumption | exact Go.Gw.OwnD.sll (by assumption)) : YE P σ (.call { callee := .builtin .len, args := #[x], argTypes := #[T] }) ty w (.int .i64 xss.length) := by
  have := y_len (P := P) (T := T) (ty := ty) hx h.out
  rwa [h.len] at this
theorem y_indexd {e s b : Nat} {k : IntKind} {i : Int} [hT : TSli P T e s b] (hx : ev σ x = some v) (hy : ev σ y = some (.int k i)) (h : SLL w lo hi svs v xss := by first | assumption | exact Go.Gw.OwnD.sll (by assumption)) (hi : 0 ≤ i ∧ i < xss.length := by first | omega | (simp only [List.length_set]; omega) | (simp only [List.length_set, List.length_append, List.length_cons, List.length_nil]; omega)) : YE P σ (.indexAddr T x y) ty w (ptr (sb v) (so v + i.toNat * s)) := by
  have hl := h.len
  exact y_index hx hy h.out (by omega)
/-- an empty literal -/
theorem w_lit_d0 [hT : TSli P T e s b] [TSvE P e] (hs1 : s = 1) (hd : Nat.blt d N = true := by rfl)
    (k : ∀ v w', OwnD w' e w.heap.size w'.heap.size [] v [] → Ext w w' → bL v = w.heap.size → bH v = w.heap.size + 1 → w'.heap.size = w.heap.size + 1 → W P N ops Q rest ((d, v) :: σ) w') : W P N ops Q (⟨some d, .buildSlice T 0 #[], ty, pos, af, none⟩ :: rest) σ w :=
  w_lit' (n := 0) (parts := []) (vs := []) (xs := ([] : List SV)) hs1 rfl rfl rfl (fun v hv => by simp at hv) rfl (by omega) (by omega) hd (fun v w' h hx h1 h2 h3 => k v w' (OwnD.of_empty h) hx h1 h2 h3)
theorem w_lit_s0 [hT : TSli P T e s b] [TStg P e] (hs1 : s = 1) (hd : Nat.blt d N = true := by rfl)
    (k : ∀ v w', Own w' e w.heap.size v ([] : List (List UInt8)) → Ext w w' → bL v = w.heap.size → bH v = w.heap.size + 1 → w'.heap.size = w.heap.size + 1 → W P N ops Q rest ((d, v) :: σ) w') : W P N ops Q (⟨some d, .buildSlice T 0 #[], ty, pos, af, none⟩ :: rest) σ w :=
  w_lit' (n := 0) (parts := []) (vs := []) (xs := ([] : List (List UInt8))) hs1 rfl rfl rfl (fun v hv => by simp at hv) rfl (by omega) (by omega) hd k
theorem OwnD.made {n : Nat} (h : Own w e lo v (List.replicate n sv0)) : OwnD w e lo w.heap.size (List.replicate n sv0) v (List.replicate n []) := by
  have e1 : ∀ i, svD (List.replicate n sv0) i = .slice none 0 0 := fun i => by
    simp only [svD, List.getD_eq_getElem?_getD, List.getElem?_replicate]; split <;> rfl
  refine ⟨h, by have := h.lt; omega, by simp, fun i hi => ?_, fun i hi => ?_, fun i j _ _ => ?_, Nat.le_refl _⟩
  · rw [e1]
    have e2 : (List.replicate n ([] : List Int)).getD i [] = [] := by simp only [List.getD_eq_getElem?_getD, List.getElem?_replicate]; split <;> rfl
    rw [e2]
    exact nil_sl w _ _ (Nat.zero_le _)
  · rw [e1]; exact ⟨.inl ⟨rfl, rfl⟩, .inl (Nat.zero_le _)⟩
  · rw [e1]; exact .inl (Nat.zero_le _)
theorem w_make_d {z : Value} {n : Int} [hT : TSli P T e s b] [hz : TZero P e z] (hx : ev σ x = some (.int .i64 n)) (hy : ev σ y = some (.int .i64 n)) (hs : s = 1 := by rfl) (hdec : decSV z = some sv0 := by rfl) (h0 : 0 ≤ n := by omega) (hb : n.toNat * b ≤ 140737488355328 := by omega) (hm : n ≤ 140737488355328 := by omega) (hd : Nat.blt d N = true := by rfl)
    (k : ∀ v w', OwnD w' e w.heap.size w'.heap.size (List.replicate n.toNat sv0) v (List.replicate n.toNat []) → Ext w w' → bL v = w.heap.size → bH v = w.heap.size + 1 → w'.heap.size = w.heap.size + 1 → W P N ops Q rest ((d, v) :: σ) w') :
    W P N ops Q (⟨some d, .makeSlice T x y, ty, pos, af, none⟩ :: rest) σ w :=
  w_make (α := SV) hx hy hs hdec h0 hb hm hd (k := fun v w' h hx h1 h2 h3 => k v w' (OwnD.made h) hx h1 h2 h3)
/-- a literal of one slice -/
theorem w_lit_sv [hT : TSli P T e s b] (hs1 : s = 1) {h : Nat} (hx : ev σ x = some u) (hu : SL w l h u ys := by repeat (first | assumption | exact Go.Gw.Own.sl (by assumption) | exact Go.Gw.Box.at (by assumption) | exact Go.Gw.SLL.el (by first | assumption | exact Go.Gw.OwnD.sll (by assumption)) _ (by omega) | exact Go.Gw.SLL.at (by first | assumption | exact Go.Gw.OwnD.sll (by assumption)) (by omega) | exact Go.Gw.OwnD.sll (by assumption) | (apply Go.Gw.SL.chg; case hx => assumption) | (apply Go.Gw.Own.chg; case hx => assumption) | (apply Go.Gw.Box.chg; case hx => assumption) | (apply Go.Gw.At.chg; case hx => assumption) | exact .inl (Nat.zero_le _) | exact .inr (Nat.zero_le _) | (show _ ∨ _; omega))) (hd : Nat.blt d N = true := by rfl)
    (k : ∀ v w', Own w' e w.heap.size v [svOf u] → Ext w w' → bL v = w.heap.size → bH v = w.heap.size + 1 → w'.heap.size = w.heap.size + 1 → W P N ops Q rest ((d, v) :: σ) w') : W P N ops Q (⟨some d, .buildSlice T 1 #[(0, x)], ty, pos, af, none⟩ :: rest) σ w :=
  w_lit' (n := 1) (parts := [(0, x)]) (vs := [u]) (xs := [svOf u]) hs1 (by simp [evp, hx, num]) rfl (by
    have h1 := cells_one hu.one
    simp only [List.flatMap_cons, List.flatMap_nil, List.append_nil, h1]
    show [u] = [(svOf u).v]; rw [svOf_v hu]) (fun v hv => by simp at hv; subst hv; rw [cells_one hu.one]; rfl) rfl (by omega) (by omega) hd k
theorem w_lit_cd [hT : TSli P T e s b] (hs1 : s = 1) {h : Nat} (hx : ev σ x = some (.agg #[u])) (hu : SL w l h u ys := by repeat (first | assumption | exact Go.Gw.Own.sl (by assumption) | exact Go.Gw.Box.at (by assumption) | exact Go.Gw.SLL.el (by first | assumption | exact Go.Gw.OwnD.sll (by assumption)) _ (by omega) | exact Go.Gw.SLL.at (by first | assumption | exact Go.Gw.OwnD.sll (by assumption)) (by omega) | exact Go.Gw.OwnD.sll (by assumption) | (apply Go.Gw.SL.chg; case hx => assumption) | (apply Go.Gw.Own.chg; case hx => assumption) | (apply Go.Gw.Box.chg; case hx => assumption) | (apply Go.Gw.At.chg; case hx => assumption) | exact .inl (Nat.zero_le _) | exact .inr (Nat.zero_le _) | (show _ ∨ _; omega))) (hd : Nat.blt d N = true := by rfl)
    (k : ∀ v w', Own w' e w.heap.size v [svOf u] → Ext w w' → bL v = w.heap.size → bH v = w.heap.size + 1 → w'.heap.size = w.heap.size + 1 → W P N ops Q rest ((d, v) :: σ) w') : W P N ops Q (⟨some d, .buildSlice T 1 #[(0, x)], ty, pos, af, none⟩ :: rest) σ w :=
  w_lit' (n := 1) (parts := [(0, x)]) (vs := [.agg #[u]]) (xs := [svOf u]) hs1 (by simp [evp, hx, num]) rfl (by
    simp only [List.flatMap_cons, List.flatMap_nil, List.append_nil]
    show [u] = [(svOf u).v]; rw [svOf_v hu]) (fun v hv => by simp at hv; subst hv; rfl) rfl (by omega) (by omega) hd k
/-- one slice more -/
theorem w_append_d {lt ht : Nat} [hT : TSli P T e s b] (hx : ev σ x = some v) (hy : ev σ y = some t) (h : OwnD w e lo hi svs v xss := by assumption) (h2 : SL w lt ht t [svOf u] := by repeat (first | assumption | exact Go.Gw.Own.sl (by assumption) | exact Go.Gw.Box.at (by assumption) | exact Go.Gw.SLL.el (by first | assumption | exact Go.Gw.OwnD.sll (by assumption)) _ (by omega) | exact Go.Gw.SLL.at (by first | assumption | exact Go.Gw.OwnD.sll (by assumption)) (by omega) | exact Go.Gw.OwnD.sll (by assumption) | (apply Go.Gw.SL.chg; case hx => assumption) | (apply Go.Gw.Own.chg; case hx => assumption) | (apply Go.Gw.Box.chg; case hx => assumption) | (apply Go.Gw.At.chg; case hx => assumption) | exact .inl (Nat.zero_le _) | exact .inr (Nat.zero_le _) | (show _ ∨ _; omega))) (h3 : SL w (bL u) (bH u) u ys := by first | assumption | exact Go.Gw.Own.sl (by assumption)) (hs : s = 1 := by rfl)
    (hp : (bH u = 0 ∧ bL u = 0) ∨ (hi ≤ bL u ∧ lo ≤ bL u ∧ bH u = bL u + 1 ∧ bH u ≤ w.heap.size) := by omega) (hb : (xss.length + 1) * b ≤ 140737488355328 := by first | omega | (simp only [List.length_append, List.length_cons, List.length_nil]; omega)) (hb1 : Nat.ble 1 b = true := by rfl) (hB : lo ≤ w.heap.size := by omega) (hd : Nat.blt d N = true := by rfl)
    (k : ∀ v' w', OwnD w' e lo w'.heap.size (svs ++ [svOf u]) v' (xss ++ [ys]) → Chg (bL v) (bH v) w w' → ((bL v' = bL v ∧ bH v' = bH v) ∨ (w.heap.size ≤ bL v' ∧ bH v' = bL v' + 1 ∧ bL v' < w'.heap.size)) → W P N ops Q rest ((d, v') :: σ) w') :
    W P N ops Q (⟨some d, .call { callee := .builtin .append, args := #[x, y], argTypes := #[T, T] }, ty, pos, af, none⟩ :: rest) σ w := by
  have hl := h.len
  have hb1 : 1 ≤ b := Nat.le_of_ble_eq_true hb1
  have e1 : (svs.length + [svOf u].length) = xss.length + 1 := by simp [hl]
  have hle : xss.length + 1 ≤ (xss.length + 1) * b := Nat.le_mul_of_pos_right _ hb1
  refine w_append hx hy h.own h2 hs (by rw [e1]; exact hb) (by rw [e1]; omega) hB hd (fun v' w' ho hch hr => ?_)
  have hu := svOf_v h3
  exact k v' w' (h.push (ti := 0) ho hch hr (by rw [hu]; exact h3) (by rw [hu]; exact hp)) hch hr
/-- a card is put into a deck -/
theorem w_store_cd [hT : TStr P T 1] {n : Nat} (hx : ev σ x = some (ptr (sb v) (so v + n * 1))) (hy : ev σ y = some (.agg #[u])) (h : OwnD w e lo hi svs v xss := by assumption) (h3 : SL w (bL u) (bH u) u ys := by first | assumption | exact Go.Gw.Own.sl (by assumption)) (hn : n < xss.length := by first | omega | (simp only [List.length_set]; omega) | (simp only [List.length_set, List.length_append, List.length_cons, List.length_nil]; omega))
    (hp : (bH u = 0 ∧ bL u = 0) ∨ (hi ≤ bL u ∧ lo ≤ bL u ∧ bH u = bL u + 1 ∧ bH u ≤ w.heap.size) := by omega)
    (next : ∀ w', OwnD w' e lo w'.heap.size (svs.set n (svOf u)) v (xss.set n ys) → Chg (bL v) (bH v) w w' → w'.heap.size = w.heap.size → W P N ops Q rest σ w') : W P N ops Q (⟨none, .store T x y, ty, pos, af, none⟩ :: rest) σ w := by
  have hl := h.len
  have hu := svOf_v h3
  have hn' : n < svs.length := by omega
  refine ⟨fun ac ha => ?_⟩
  refine wpList_plain rfl fun K hK => ?_
  unfold Oper.wp
  have h1 := own_set (u := u) (k := 0) (x' := svOf u) h.own hn' (by show [u] = [(svOf u).v]; rw [hu]) (by decide)
  have c0 := (h.own.sl.el n svs[n] (by simp [hn'])).go 0 (svs[n]).v rfl
  have f0 := h.own.sl.free (n * 1 + 0) (by show n * 1 + 0 < svs.length * 1; omega)
  rw [← Nat.add_assoc] at f0
  change w.cell? ⟨sb v, so v + n * 1 + 0, none⟩ = some _ at c0
  have o1 := h3.one
  have : (execOp ac.eval ⟨none, .store T x y, ty, pos, af, none⟩).run P w = .ok .skip (w.setCell ⟨sb v, so v + n * 1 + 0, none⟩ u) := by
    simp only [Nat.add_zero, Nat.mul_one] at c0 f0
    simp [execOp, ha.eval hx, ha.eval hy, Instr.storeAt, Instr.sureAddr, storeVar, run_size w hT.size, Value.cells, storeCells, run_store, add_lit, c0, f0, o1]
  rw [this]
  exact hK _ _ ((next _ (h.put hn h1.1 h1.2 (by rw [hu]; exact h3) (by rw [hu]; exact hp)) h1.2 (by simp)).go _ (ha.put_none _))
end
end Go.Gw
/- L15 -/
namespace Go.Gw
open Go
set_option linter.unusedVariables false
set_option linter.unusedSimpArgs false
section
variable {P : Program} {N : Nat} {σ : Fm} {w : World} {ty t t' : TypeId} {x y : Operand} {a b : Int}
theorem tdiv_in {a b : Int} (h : In64 a) (h2 : 1 < b) : In64 (a.tdiv b) := by
  have h1 := Int.natAbs_tdiv_le_natAbs a b
  rcases Int.lt_or_le a 0 with ha | ha
  · have : a.tdiv b ≤ 0 := by
      have := Int.tdiv_nonneg (a := -a) (b := b) (by omega) (by omega)
      rw [Int.neg_tdiv] at this; omega
    unfold In64 at *; omega
  · have := Int.tdiv_nonneg (a := a) (b := b) ha (by omega)
    unfold In64 at *; omega
theorem y_quot (hx : ev σ x = some (.int .i64 a)) (hy : ev σ y = some (.int .i64 b)) (hb : b ≠ 0 := by omega) (h : In64 (a.tdiv b) := by first | assumption | exact tdiv_in (by assumption) (by omega) | exact tdiv_in ⟨by omega, by omega⟩ (by omega)) : YE P σ (.binOp .quo t x y t') ty w (.int .i64 (a.tdiv b)) := by
  have := y_quo_wrap (P := P) (w := w) (ty := ty) (t := t) (t' := t') hx hy hb
  rwa [wrap_in h] at this
theorem y_remt (hx : ev σ x = some (.int .i64 a)) (hy : ev σ y = some (.int .i64 b)) (hb : b ≠ 0 := by omega) : YE P σ (.binOp .rem t x y t') ty w (.int .i64 (a.tmod b)) := y_rem_wrap (P := P) (w := w) (ty := ty) (t := t) (t' := t') hx hy hb
/-- two numbers' common bits (both at least 0) -/
def andI (a b : Int) : Int := ((a.toNat &&& b.toNat : Nat) : Int)
theorem andI_le {a b : Int} (hb : 0 ≤ b) : 0 ≤ andI a b ∧ andI a b ≤ b := by
  have := Nat.and_le_right (n := a.toNat) (m := b.toNat)
  unfold andI; omega
theorem y_and (hx : ev σ x = some (.int .i64 a)) (hy : ev σ y = some (.int .i64 b)) (ha : 0 ≤ a ∧ a ≤ 9223372036854775807 := by exact ⟨by omega, by omega⟩) (hb : 0 ≤ b ∧ b ≤ 9223372036854775807 := by exact ⟨by omega, by omega⟩) : YE P σ (.binOp .and t x y t') ty w (.int .i64 (andI a b)) := by
  have hw : IntKind.i64.wrap ((BitVec.ofInt 64 a &&& BitVec.ofInt 64 b).toNat : Int) = andI a b := by
    rw [BitVec.toNat_and, bits_of ha.1 ha.2, bits_of hb.1 hb.2]
    have := andI_le (a := a) hb.1
    exact wrap_in ⟨by unfold andI at this; omega, by unfold andI at this; omega⟩
  exact ⟨fun w' _ ρ hρ => by
    simp [execOp, hρ _ _ hx, hρ _ _ hy, eqGuard, binOp, Op.intBits]
    first
      | exact ⟨hw, by assumption⟩
      | exact hw
      | (intro; exact hw)
      | skip⟩
end
section
variable {P : Program} {N : Nat} {Q : Post} {σ : Fm} {w : World} {ops : Array Oper} {rest : List Oper} {T ty : TypeId} {x y : Operand} {u v : Value} {b o : Nat} {cs : List Value} {pos : String} {af : Array Edge}
/-- a struct that is a part of what is read -/
theorem y_loadsk {n k : Nat} {ds : List Value} [TStr P T n] (hx : ev σ x = some (ptr b (o + k))) (h : At w b o cs := by repeat (first | assumption | exact Go.Gw.Own.sl (by assumption) | exact Go.Gw.Box.at (by assumption) | exact Go.Gw.SLL.el (by first | assumption | exact Go.Gw.OwnD.sll (by assumption)) _ (by omega) | exact Go.Gw.SLL.at (by first | assumption | exact Go.Gw.OwnD.sll (by assumption)) (by omega) | exact Go.Gw.OwnD.sll (by assumption) | (apply Go.Gw.SL.chg; case hx => assumption) | (apply Go.Gw.Own.chg; case hx => assumption) | (apply Go.Gw.Box.chg; case hx => assumption) | (apply Go.Gw.At.chg; case hx => assumption) | exact .inl (Nat.zero_le _) | exact .inr (Nat.zero_le _) | (show _ ∨ _; omega))) (hd : (cs.drop k).take n = ds := by rfl) (hn : ds.length = n := by rfl) : YE P σ (.load T x) ty w (.agg ds.toArray) := y_loads hx (by have := h.part (k := k) (n := n); rw [hd] at this; exact this) hn
/-- a struct of two cells is stored as a part of a variable -/
theorem w_store_box2 [hT : TStr P T 2] {k : Nat} {cs' : List Value} (hx : ev σ x = some (ptr b k)) (hy : ev σ y = some (.agg #[u, v])) (hu : u.oneCell' = true := by first | rfl | exact Go.Gw.SL.one (by assumption) | exact Go.Gw.Own.one (by assumption)) (hv : v.oneCell' = true := by first | rfl | exact Go.Gw.SL.one (by assumption) | exact Go.Gw.Own.one (by assumption)) (h : Box w b cs := by repeat (first | assumption | exact Go.Gw.Own.sl (by assumption) | exact Go.Gw.Box.at (by assumption) | exact Go.Gw.SLL.el (by first | assumption | exact Go.Gw.OwnD.sll (by assumption)) _ (by omega) | exact Go.Gw.SLL.at (by first | assumption | exact Go.Gw.OwnD.sll (by assumption)) (by omega) | exact Go.Gw.OwnD.sll (by assumption) | (apply Go.Gw.SL.chg; case hx => assumption) | (apply Go.Gw.Own.chg; case hx => assumption) | (apply Go.Gw.Box.chg; case hx => assumption) | (apply Go.Gw.At.chg; case hx => assumption) | exact .inl (Nat.zero_le _) | exact .inr (Nat.zero_le _) | (show _ ∨ _; omega))) (hk : Nat.blt (k + 1) cs.length = true := by rfl) (hset : (cs.set k u).set (k + 1) v = cs' := by dsimp only [Nat.reduceAdd, List.set])
    (next : ∀ w', Box w' b cs' → Chg b (b + 1) w w' → w'.heap.size = w.heap.size → W P N ops Q rest σ w') : W P N ops Q (⟨none, .store T x y, ty, pos, af, none⟩ :: rest) σ w := by
  subst hset
  have hk1 : k + 1 < cs.length := by simpa [Nat.blt_eq] using hk
  have hk0 : k < cs.length := by omega
  refine ⟨fun a ha => ?_⟩
  refine wpList_plain rfl fun K hK => ?_
  unfold Oper.wp
  obtain ⟨h1, h2⟩ := setCell_box h hk0 u
  obtain ⟨h3, h4⟩ := setCell_box h1 (k := k + 1) (by simpa using hk1) v
  have hc : w.cell? ⟨b, k, none⟩ = some cs[k] := by have := h.at.go k cs[k] (by simp [hk0]); simpa using this
  have hc2 : (w.setCell ⟨b, k, none⟩ u).cell? ⟨b, k + 1, none⟩ = some ((cs.set k u)[k + 1]'(by simpa using hk1)) := by have := h1.at.go (k + 1) _ (List.getElem?_eq_getElem (by simpa using hk1)); simpa using this
  have f0 := h.free k
  have f1 := h1.free (k + 1)
  have : (execOp a.eval ⟨none, .store T x y, ty, pos, af, none⟩).run P w = .ok .skip ((w.setCell ⟨b, k, none⟩ u).setCell ⟨b, k + 1, none⟩ v) := by
    simp [execOp, ha.eval hx, ha.eval hy, Instr.storeAt, Instr.sureAddr, storeVar, run_size w hT.size, Value.cells, storeCells, run_store, add_lit, hc, hc2, hu, hv, f0, f1]
  rw [this]
  exact hK _ _ ((next _ h3 (h2.trans h4) (by simp)).go _ (ha.put_none _))
end
section
variable {P : Program} {N : Nat} {σ : Fm} {w : World} {ty t t' : TypeId} {x y : Operand} {a b : Int} {k k' : IntKind}
theorem y_shl (hx : ev σ x = some (.int .i64 a)) (hy : ev σ y = some (.int k b)) (hb : 0 ≤ b ∧ b ≤ 63 := by omega) (h : In64 (a * 2 ^ b.toNat)) : YE P σ (.binOp .shl t x y t') ty w (.int .i64 (a * 2 ^ b.toNat)) := ⟨fun w' _ ρ hρ => by
  have e : min b.toNat IntKind.i64.bits = b.toNat := by
    have : IntKind.i64.bits = 64 := by decide
    omega
  have hn : ¬ b < 0 := by omega
  simp [execOp, hρ _ _ hx, hρ _ _ hy, eqGuard, binOp, Op.shift, hn, e, wrap_in h]⟩
theorem and_not2x : ∀ x y : Fin 64, (BitVec.ofNat 64 (64 * x.val + y.val) &&& ~~~ (2#64)).toNat = (64 * x.val + y.val) - ((64 * x.val + y.val) &&& 2) := by decide +kernel
theorem and_not2 (a : Nat) (h : a < 4096) : (BitVec.ofNat 64 a &&& ~~~ (2#64)).toNat = a - (a &&& 2) := by
  have := and_not2x ⟨a / 64, by omega⟩ ⟨a % 64, by omega⟩
  rwa [show 64 * (⟨a / 64, by omega⟩ : Fin 64).val + (⟨a % 64, by omega⟩ : Fin 64).val = a by show 64 * (a / 64) + a % 64 = a; omega] at this
theorem y_andNot2 (hx : ev σ x = some (.int .i64 a)) (hy : ev σ y = some (.int .i64 2)) (ha : 0 ≤ a ∧ a ≤ 4095 := by omega) : YE P σ (.binOp .andNot t x y t') ty w (.int .i64 (a - andI a 2)) := by
  have h2 := and_not2 a.toNat (by omega)
  have hle := Nat.and_le_left (n := a.toNat) (m := 2)
  have e0 : BitVec.ofInt 64 a = BitVec.ofNat 64 a.toNat := by apply BitVec.eq_of_toNat_eq; rw [bits_of ha.1 (by omega)]; simp; omega
  have hw : IntKind.i64.wrap ((BitVec.ofInt 64 a &&& ~~~ BitVec.ofInt 64 2).toNat : Int) = a - andI a 2 := by
    have e2 : BitVec.ofInt 64 2 = 2#64 := by decide
    rw [e0, e2, h2]
    have e3 : ((a.toNat - (a.toNat &&& 2) : Nat) : Int) = a - andI a 2 := by unfold andI; simp only [show (2 : Int).toNat = 2 from rfl]; omega
    rw [e3]
    have : 0 ≤ andI a 2 ∧ andI a 2 ≤ a := by unfold andI; simp only [show (2 : Int).toNat = 2 from rfl]; omega
    exact wrap_in ⟨by omega, by omega⟩
  exact ⟨fun w' _ ρ hρ => by
    simp [execOp, hρ _ _ hx, hρ _ _ hy, eqGuard, binOp, Op.intBits]
    first
      | exact ⟨hw, by assumption⟩
      | exact hw
      | (intro; exact hw)
      | skip⟩
theorem y_convu {s' d' : TypeId} [hs : TInt P s' k] [hd : TInt P d' .u64] (hx : ev σ x = some (.int k a)) (h : 0 ≤ a ∧ a ≤ 9223372036854775807 := by omega) : YE P σ (.convert s' d' x) ty w (.int .u64 a) := by
  have := y_conv_wrap (P := P) (w := w) (ty := ty) hx ⟨_, hs.und⟩ hd.und
  have e : IntKind.u64.wrap a = a := by
    simp only [IntKind.wrap, show IntKind.u64.signed = false from rfl, show IntKind.u64.bits = 64 from rfl, Bool.false_eq_true, false_and, Bool.false_and, if_false]
    omega
  rwa [e] at this
end
end Go.Gw
/- CrdA -/
namespace Go.Proofs.YtcbpiaehkodliaaGreatDoor
open Go Go.Gw
set_option linter.unusedVariables false
set_option linter.unusedSimpArgs false
section
variable {w : World} {lo hi lo' hi' : Nat} {v v' v2 : Value} {xs ys : List Int} {ws us : List (Int × Int)} {b b' b2 b3 : Nat} {e n j : Int}
/-- a card that is valid -/
def okK (xs : List Int) : Bool := decide (1 ≤ xs.length ∧ xs.length ≤ 20) && !xs.any fun d => !decide (0 ≤ d ∧ d ≤ 4095)
theorem okK_len {xs : List Int} (h : okK xs = true) : 1 ≤ xs.length ∧ xs.length ≤ 20 := by simp [okK] at h; exact h.1
theorem okK_dig {xs : List Int} (h : okK xs = true) : ∀ d ∈ xs, 0 ≤ d ∧ d ≤ 4095 := by simp [okK] at h; exact h.2
theorem okK_getD {xs : List Int} (h : okK xs = true) (i : Nat) (hi : i < xs.length) : 0 ≤ xs.getD i 0 ∧ xs.getD i 0 ≤ 4095 := by
  rw [List.getD_eq_getElem?_getD, List.getElem?_eq_getElem hi]
  exact okK_dig h _ (List.getElem_mem hi)

theorem columns_c (h : SL w lo hi v xs := by repeat (first | assumption | exact Go.Gw.Own.sl (by assumption) | exact Go.Gw.Box.at (by assumption) | exact Go.Gw.SLL.el (by first | assumption | exact Go.Gw.OwnD.sll (by assumption)) _ (by omega) | exact Go.Gw.SLL.at (by first | assumption | exact Go.Gw.OwnD.sll (by assumption)) (by omega) | exact Go.Gw.OwnD.sll (by assumption) | (apply Go.Gw.SL.chg; case hx => assumption) | (apply Go.Gw.Own.chg; case hx => assumption) | (apply Go.Gw.Box.chg; case hx => assumption) | (apply Go.Gw.At.chg; case hx => assumption) | exact .inl (Nat.zero_le _) | exact .inr (Nat.zero_le _) | (show _ ∨ _; omega))) : Val Tryz.prog 34 [.agg #[v]] w (.int .i64 xs.length) := by
  refine ⟨fun w1 hx1 => ?_⟩
  have E : Since 0 0 w1 w1 := Since.refl 0 0 w1
  refine ret_enter Tryz.func34 rfl Tryz.ntmps34 rfl ?_
  focus have ht_h := h.top; have hz_hx1 := hx1.size; replace h := h.ext hx1; refine c_seq ?_; refine c_region ?_; refine w_box rfl (k := fun b1x1_3 w1x1_3 hb1x1_3 hx1x1_3 hl1x1_3 hs1x1_3 => ?_); have hz_hx1x1_3 := hx1x1_3.size; replace E := E.trans hx1x1_3; replace h := h.ext hx1x1_3; refine w_pure (y_assign rfl) rfl ?_; refine w_nil ?_; refine x_next ?_; refine c_seq ?_; refine c_region ?_; refine w_pure (y_field rfl) rfl ?_; refine w_pure (y_load_box rfl) rfl ?_; refine w_val rfl rfl rfl (size_c) rfl (fun w5 hx5 hz5 => ?_); have hz_hx5 := hx5.size; replace hb1x1_3 := hb1x1_3.ext hx5; replace E := E.trans hx5; replace h := h.ext hx5; refine w_pure (y_assign rfl) rfl ?_; refine w_nil ?_; refine x_next ?_; refine c_ret ?_; rotate_left
  exact x_retv [_] rfl ⟨rfl, trivial⟩ ⟨rfl, E.go⟩
theorem ValidCard1_c (x : Int) : Pur Tryz.prog 69 [.int .i64 x] (.bool (!decide (0 ≤ x ∧ x ≤ 4095))) := by
  refine ⟨fun w => ?_⟩
  refine ret_enter Tryz.func69 rfl Tryz.ntmps69 rfl ?_
  focus refine c_seq ?_; refine c_region ?_; refine w_pure (y_assign rfl) rfl ?_; refine w_nil ?_; refine x_next ?_; refine c_seq ?_; refine c_region ?_; refine w_pure (y_move rfl) rfl ?_; refine w_pur rfl rfl rfl (inside_c _ _ _) rfl ?_; refine w_pure (y_not_dec rfl) rfl ?_; refine w_pure (y_assign rfl) rfl ?_; refine w_nil ?_; refine x_next ?_; refine c_ret ?_; rotate_left
  refine x_retv [_] rfl ⟨rfl, trivial⟩ ⟨?_, rfl⟩
  simp only [ofResults, decide_not]
theorem iValidCard_c (h : SL w lo hi v xs := by repeat (first | assumption | exact Go.Gw.Own.sl (by assumption) | exact Go.Gw.Box.at (by assumption) | exact Go.Gw.SLL.el (by first | assumption | exact Go.Gw.OwnD.sll (by assumption)) _ (by omega) | exact Go.Gw.SLL.at (by first | assumption | exact Go.Gw.OwnD.sll (by assumption)) (by omega) | exact Go.Gw.OwnD.sll (by assumption) | (apply Go.Gw.SL.chg; case hx => assumption) | (apply Go.Gw.Own.chg; case hx => assumption) | (apply Go.Gw.Box.chg; case hx => assumption) | (apply Go.Gw.At.chg; case hx => assumption) | exact .inl (Nat.zero_le _) | exact .inr (Nat.zero_le _) | (show _ ∨ _; omega))) : Val Tryz.prog 33 [.agg #[v]] w (.bool (okK xs)) := by
  refine ⟨fun w1 hx1 => ?_⟩
  have hcf : ∀ w2, Ext w w2 → Val Tryz.prog 68 [v, .func (.func 69) #[] #[]] w2 (.bool (xs.any fun x => !decide (0 ≤ x ∧ x ≤ 4095))) := fun w2 h2 =>
    ContainsFunc_int (first := []) (cap := []) (h.ext h2) (fun x _ => (ValidCard1_c x).val)
  refine ret_enter Tryz.func33 rfl Tryz.ntmps33 rfl ?_
  focus have ht_h := h.top; have hz_hx1 := hx1.size; replace h := h.ext hx1; refine c_seq ?_; refine c_region ?_; refine w_box rfl (k := fun b1x1_3 w1x1_3 hb1x1_3 hx1x1_3 hl1x1_3 hs1x1_3 => ?_); have hz_hx1x1_3 := hx1x1_3.size; replace h := h.ext hx1x1_3; refine w_pure (y_assign rfl) rfl ?_; refine w_nil ?_; refine x_next ?_; refine c_seq ?_; refine c_region ?_; refine w_pure (y_load_boxs rfl) rfl ?_; refine w_val rfl rfl rfl (columns_c) rfl (fun w4 hx4 hz4 => ?_); have hz_hx4 := hx4.size; replace hb1x1_3 := hb1x1_3.ext hx4; replace h := h.ext hx4; refine w_pur rfl rfl rfl (inside_c _ _ _) rfl ?_; refine w_pure (y_move rfl) rfl ?_; (refine w_part_dec rfl rfl (fun hc7 => ?_) (fun hc7 => ?_) <;> try (first | exact absurd rfl hc7 | contradiction | exact Bool.noConfusion (show false = true from hc7.symm.trans (by assumption)) | exact Bool.noConfusion (show true = false from hc7.symm.trans (by assumption)) | (exfalso; omega) | (exfalso; simp only [*, Bool.not_true, Bool.not_false, reduceCtorEq] at hc7; done))); refine w_yes rfl rfl ?_; refine w_pure (y_field rfl) rfl ?_; refine w_yes rfl rfl ?_; refine w_pure (y_load_box rfl) rfl ?_; refine w_yes rfl rfl ?_; rotate_left; refine w_no rfl rfl rfl rfl ?_; refine w_no rfl rfl rfl rfl ?_; refine w_no rfl rfl rfl rfl ?_; refine w_no rfl rfl rfl rfl ?_; refine w_pure (y_pick_f rfl rfl) rfl ?_; refine w_pure (y_assign rfl) rfl ?_; refine w_nil ?_; refine x_next ?_; refine c_ret ?_; rotate_left
  · refine w_val rfl rfl rfl (hcf _ (by (repeat (first | exact Chg.refl _ _ _ | assumption | refine Chg.next ?_ (by assumption) (by omega))))) rfl (fun w5 hx5 hz5 => ?_)
    focus have hz_hx5 := hx5.size; replace hb1x1_3 := hb1x1_3.ext hx5; replace h := h.ext hx5; refine w_yes rfl rfl ?_; refine w_pure (y_not rfl) rfl ?_; refine w_pure (y_pick_t rfl rfl) rfl ?_; refine w_pure (y_assign rfl) rfl ?_; refine w_nil ?_; refine x_next ?_; refine c_ret ?_; rotate_left
    refine x_retv [_] rfl ⟨rfl, trivial⟩ ⟨?_, by (repeat (first | exact Chg.refl _ _ _ | assumption | refine Chg.next ?_ (by assumption) (by omega)))⟩
    have : decide (1 ≤ xs.length ∧ xs.length ≤ 20) = true := by simp; omega
    simp only [ofResults, okK, this, Bool.true_and]
  · refine x_retv [_] rfl ⟨rfl, trivial⟩ ⟨?_, by (repeat (first | exact Chg.refl _ _ _ | assumption | refine Chg.next ?_ (by assumption) (by omega)))⟩
    have : decide (1 ≤ xs.length ∧ xs.length ≤ 20) = false := by simp; omega
    simp only [ofResults, okK, this, Bool.false_and]
theorem l02Ok_c {o : Nat} (hp : At w b o [v] := by repeat (first | assumption | exact Go.Gw.Own.sl (by assumption) | exact Go.Gw.Box.at (by assumption) | exact Go.Gw.SLL.el (by first | assumption | exact Go.Gw.OwnD.sll (by assumption)) _ (by omega) | exact Go.Gw.SLL.at (by first | assumption | exact Go.Gw.OwnD.sll (by assumption)) (by omega) | exact Go.Gw.OwnD.sll (by assumption) | (apply Go.Gw.SL.chg; case hx => assumption) | (apply Go.Gw.Own.chg; case hx => assumption) | (apply Go.Gw.Box.chg; case hx => assumption) | (apply Go.Gw.At.chg; case hx => assumption) | exact .inl (Nat.zero_le _) | exact .inr (Nat.zero_le _) | (show _ ∨ _; omega))) (h : SL w lo hi v xs := by repeat (first | assumption | exact Go.Gw.Own.sl (by assumption) | exact Go.Gw.Box.at (by assumption) | exact Go.Gw.SLL.el (by first | assumption | exact Go.Gw.OwnD.sll (by assumption)) _ (by omega) | exact Go.Gw.SLL.at (by first | assumption | exact Go.Gw.OwnD.sll (by assumption)) (by omega) | exact Go.Gw.OwnD.sll (by assumption) | (apply Go.Gw.SL.chg; case hx => assumption) | (apply Go.Gw.Own.chg; case hx => assumption) | (apply Go.Gw.Box.chg; case hx => assumption) | (apply Go.Gw.At.chg; case hx => assumption) | exact .inl (Nat.zero_le _) | exact .inr (Nat.zero_le _) | (show _ ∨ _; omega))) : Val Tryz.prog 37 [ptr b o] w (.bool (okK xs)) := by
  refine ⟨fun w1 hx1 => ?_⟩
  have hsm := h.small
  refine ret_enter Tryz.func37 rfl Tryz.ntmps37 rfl ?_
  focus have ht_h := h.top; have hz_hx1 := hx1.size; replace hp := hp.ext hx1; replace h := h.ext hx1; refine c_seq ?_; refine c_region ?_; refine w_pure (y_assign rfl) rfl ?_; refine w_nil ?_; refine x_next ?_; refine c_seq ?_; refine c_seq ?_; refine c_region ?_; refine w_pure (y_assign rfl) rfl ?_; refine w_nil ?_; refine x_next ?_; refine c_block ?_; rotate_left
  refine c_loop (ι := Int) (fun x => [(0, ptr b o), (3, .int .i64 x)]) (fun x w' => Ext w1 w' ∧ 0 ≤ x ∧ x ≤ xs.length ∧ ∀ j : Nat, j < x.toNat → 0 ≤ xs.getD j 0 ∧ xs.getD j 0 ≤ 4095) (fun x => (xs.length - x).toNat) 0
    ⟨rfl, rfl, trivial⟩ ⟨Chg.refl _ _ _, by omega, by omega, fun j hj => by simp at hj⟩ ?_
  rintro i w2 ⟨hx2, hi0, hi1, hall⟩
  focus have hz_hx2 := hx2.size; replace hp := hp.ext hx2; replace h := h.ext hx2; refine c_seq ?_; refine c_seq ?_; refine c_region ?_; refine w_pure (y_move rfl) rfl ?_; refine w_pure (y_move rfl) rfl ?_; refine w_pure (y_nil rfl) rfl ?_; refine w_pure (y_field rfl) rfl ?_; refine w_pure (y_loadk rfl) rfl ?_; refine w_pure (y_len rfl) rfl ?_; refine w_pure (y_lt rfl rfl) rfl ?_; refine w_nil ?_; refine x_next ?_; (refine c_dec rfl (fun hc10 => ?_) (fun hc10 => ?_) <;> try (first | exact absurd rfl hc10 | contradiction | exact Bool.noConfusion (show false = true from hc10.symm.trans (by assumption)) | exact Bool.noConfusion (show true = false from hc10.symm.trans (by assumption)) | (exfalso; omega) | (exfalso; simp only [*, Bool.not_true, Bool.not_false, reduceCtorEq] at hc10; done))); refine c_skip ?_; refine x_next ?_; refine c_seq ?_; refine c_block ?_; refine c_seq ?_; refine c_region ?_; refine w_pure (y_move rfl) rfl ?_; refine w_pure (y_nil rfl) rfl ?_; refine w_pure (y_field rfl) rfl ?_; refine w_pure (y_loadk rfl) rfl ?_; refine w_pure (y_move rfl) rfl ?_; refine w_pure (y_index rfl rfl) rfl ?_; refine w_pure (y_load_int rfl) rfl ?_; refine w_pur rfl rfl rfl (l00In_c _ _ _) rfl ?_; refine w_pure (y_not_dec rfl) rfl ?_; refine w_nil ?_; refine x_next ?_; (refine c_dec rfl (fun hc21 => ?_) (fun hc21 => ?_) <;> try (first | exact absurd rfl hc21 | contradiction | exact Bool.noConfusion (show false = true from hc21.symm.trans (by assumption)) | exact Bool.noConfusion (show true = false from hc21.symm.trans (by assumption)) | (exfalso; omega) | (exfalso; simp only [*, Bool.not_true, Bool.not_false, reduceCtorEq] at hc21; done))); refine c_seq ?_; refine c_region ?_; refine w_pure (y_assign rfl) rfl ?_; refine w_nil ?_; refine x_next ?_; refine c_ret ?_; refine x_block_ret ?_; refine x_then_ret ?_; refine x_then_ret ?_; refine x_block_ret ?_; refine x_then_ret ?_; rotate_left; refine c_skip ?_; refine x_block_norm ?_; refine x_next ?_; refine c_region ?_; refine w_pure (y_move rfl) rfl ?_; refine w_pure (y_add rfl rfl) rfl ?_; refine w_pure (y_assign rfl) rfl ?_; refine w_nil ?_; rotate_left; refine c_exit ?_; refine x_then_exit ?_; refine x_then_exit ?_; refine x_block_hit ?_; refine x_next ?_; refine c_seq ?_; refine c_region ?_; refine w_pure (y_move rfl) rfl ?_; refine w_pure (y_nil rfl) rfl ?_; refine w_pure (y_field rfl) rfl ?_; refine w_pure (y_loadk rfl) rfl ?_; refine w_pure (y_len rfl) rfl ?_; refine w_pur rfl rfl rfl (l00In_c _ _ _) rfl ?_; refine w_pure (y_assign rfl) rfl ?_; refine w_nil ?_; refine x_next ?_; refine c_ret ?_; rotate_left
  · refine x_retv [_] rfl ⟨rfl, trivial⟩ ⟨?_, by (repeat (first | exact Chg.refl _ _ _ | assumption | refine Chg.next ?_ (by assumption) (by omega)))⟩
    have : okK xs = false := by
      cases hk : okK xs
      · rfl
      · exact absurd (okK_getD hk i.toNat (by omega)) hc21
    rw [this]; rfl
  · refine x_again (i + 1) ⟨rfl, rfl, trivial⟩ ⟨by (repeat (first | exact Chg.refl _ _ _ | assumption | refine Chg.next ?_ (by assumption) (by omega))), by omega, by omega, fun j hj => ?_⟩ (by omega)
    by_cases e : j = i.toNat
    · subst e; exact Decidable.not_not.1 hc21
    · exact hall j (by omega)
  · refine x_retv [_] rfl ⟨rfl, trivial⟩ ⟨?_, by (repeat (first | exact Chg.refl _ _ _ | assumption | refine Chg.next ?_ (by assumption) (by omega)))⟩
    have hd : xs.any (fun d => !decide (0 ≤ d ∧ d ≤ 4095)) = false := by
      rw [List.any_eq_false]
      intro d hd
      obtain ⟨j, hj, rfl⟩ := List.mem_iff_getElem.1 hd
      have := hall j (by omega)
      rw [List.getD_eq_getElem?_getD, List.getElem?_eq_getElem hj] at this
      simpa using this
    have : decide (1 ≤ (xs.length : Int) ∧ (xs.length : Int) ≤ 20) = decide (1 ≤ xs.length ∧ xs.length ≤ 20) := by congr 1; simp; omega
    simp only [ofResults, okK, hd, this, Bool.not_false, Bool.and_true]
theorem blank_c (k : Int) (hk : 0 ≤ k ∧ k ≤ 1000 := by omega) : Ret Tryz.prog 36 [.int .i64 k] w fun u w' => ∃ d, u = .agg #[d] ∧ Own w' 2 w.heap.size d (List.replicate k.toNat (0 : Int)) ∧ Ext w w' := by
  have E : Since 0 0 w w := Since.refl 0 0 w
  refine ret_enter Tryz.func36 rfl Tryz.ntmps36 rfl ?_
  focus refine c_seq ?_; refine c_region ?_; refine w_alloc (k := fun b2 w2 hb2 hx2 hl2 hs2 => ?_); have hz_hx2 := hx2.size; replace E := E.trans hx2; refine w_nil ?_; refine x_next ?_; refine c_seq ?_; refine c_region ?_; refine w_pure (y_move rfl) rfl ?_; refine w_make (α := Int) rfl rfl (k := fun v4 w4 ho4 hx4 hl4 hh4 hs4 => ?_); have hl_ho4 := ho4.lt; have hz_hx4 := hx4.size; replace hb2 := hb2.ext hx4; replace E := E.trans hx4; refine w_pure (y_build rfl) rfl ?_; refine w_store_boxs rfl rfl (next := fun ws11 hbs11 hxs11 hss11 => ?_); (replace hb2 := hbs11; clear hbs11); have hz_hxs11 := hxs11.size; replace ho4 := ho4.chg hxs11 (by omega); replace E := E.next hxs11 (by omega); refine w_nil ?_; refine x_next ?_; refine c_ret ?_; rotate_left
  exact x_retv [_] rfl ⟨⟨_, rfl, run_load_str (Box.at (by assumption)) (by rfl)⟩, trivial⟩ ⟨_, rfl, Own.base (by assumption) (by omega), E.go⟩
end
end Go.Proofs.YtcbpiaehkodliaaGreatDoor
/- DkA -/
namespace Go.Proofs.YtcbpiaehkodliaaGreatDoor
open Go Go.Gw
set_option linter.unusedVariables false
set_option linter.unusedSimpArgs false

/-- how many numbers stand in the first i slices -/
def tot (xss : List (List Int)) (i : Nat) : Nat := ((xss.take i).map List.length).sum
def totD (xss : List (List Int)) : Nat := tot xss xss.length
theorem tot_zero (xss : List (List Int)) : tot xss 0 = 0 := rfl
theorem tot_succ {xss : List (List Int)} {i : Nat} (h : i < xss.length) : tot xss (i + 1) = tot xss i + (xss.getD i []).length := by
  unfold tot
  rw [List.take_add_one, List.getD_eq_getElem?_getD, List.getElem?_eq_getElem h]
  rw [List.map_append, List.sum_append]
  simp
theorem tot_mono (xss : List (List Int)) (i : Nat) : ∀ j, tot xss i ≤ tot xss (i + j)
  | 0 => Nat.le_refl _
  | j + 1 => by
    have h1 := tot_mono xss i j
    by_cases h : i + j < xss.length
    · have := tot_succ h
      rw [← Nat.add_assoc]; omega
    · have : tot xss (i + (j + 1)) = tot xss (i + j) := by unfold tot; rw [List.take_of_length_le (by omega), List.take_of_length_le (by omega)]
      omega
theorem tot_le {xss : List (List Int)} {i : Nat} (h : i ≤ xss.length) : tot xss i ≤ totD xss := by
  have := tot_mono xss i (xss.length - i)
  rwa [show i + (xss.length - i) = xss.length by omega] at this
theorem tot_el {xss : List (List Int)} {i : Nat} (h : i < xss.length) : tot xss i + (xss.getD i []).length ≤ totD xss := by
  rw [← tot_succ h]; exact tot_le h
theorem tot_all (xss : List (List Int)) : tot xss xss.length = totD xss := rfl
theorem tot_cons (x : List Int) (r : List (List Int)) (i : Nat) : tot (x :: r) (i + 1) = x.length + tot r i := by simp [tot]
def marksD (k : Int) : List (List Int) → List (List Int)
  | [] => []
  | x :: r => marks k x.length :: marksD (k + x.length) r
theorem marksD_len (k : Int) (xss : List (List Int)) : (marksD k xss).length = xss.length := by
  induction xss generalizing k with
  | nil => rfl
  | cons x r ih => simp [marksD, ih]
theorem marksD_get (k : Int) (xss : List (List Int)) (i : Nat) (h : i < xss.length) : (marksD k xss)[i]? = some (marks (k + tot xss i) (xss.getD i []).length) := by
  induction xss generalizing k i with
  | nil => simp at h
  | cons x r ih =>
    cases i with
    | zero => simp [marksD, tot_zero]
    | succ i =>
      have := ih (k + x.length) i (by simpa using h)
      simp only [marksD, List.getElem?_cons_succ, this, tot_cons]
      simp [Int.add_assoc]
theorem marksD_getD (k : Int) (xss : List (List Int)) (i : Nat) (h : i < xss.length) : (marksD k xss).getD i [] = marks (k + tot xss i) (xss.getD i []).length := by
  rw [List.getD_eq_getElem?_getD, marksD_get k xss i h]; rfl
theorem mix_getD {α : Type} {f xs : List α} {i : Nat} {d : α} (hl : f.length = xs.length) (hi : i < xs.length) : (f.take i ++ xs.drop i).getD i d = xs.getD i d := by
  have h1 : (f.take i).length = i := by rw [List.length_take]; omega
  rw [List.getD_eq_getElem?_getD, List.getElem?_append_right (by omega), h1, Nat.sub_self, List.getElem?_drop, Nat.add_zero, List.getD_eq_getElem?_getD]
theorem mix_len {α : Type} {f xs : List α} {i : Nat} (hl : f.length = xs.length) : (f.take i ++ xs.drop i).length = xs.length := by simp; omega
theorem mix_all {α : Type} {f xs : List α} {i : Nat} (hl : f.length = xs.length) (hi : i = xs.length) : f.take i ++ xs.drop i = f := by
  rw [List.take_of_length_le (by omega), List.drop_eq_nil_of_le (by omega), List.append_nil]
theorem listD_ext {α : Type} {d : α} {xs ys : List α} (hl : xs.length = ys.length) (h : ∀ j : Nat, j < xs.length → xs.getD j d = ys.getD j d) : xs = ys := by
  apply List.ext_getElem hl
  intro i h1 h2
  have := h i h1
  rw [List.getD_eq_getElem?_getD, List.getD_eq_getElem?_getD, List.getElem?_eq_getElem h1, List.getElem?_eq_getElem h2] at this
  exact this
section
variable {w : World} {lo hi lo' hi' e : Nat} {v v' : Value} {xs ys : List Int} {xss yss : List (List Int)} {svs sus : List SV}
end
end Go.Proofs.YtcbpiaehkodliaaGreatDoor
/- DkB -/
namespace Go.Proofs.YtcbpiaehkodliaaGreatDoor
open Go Go.Gw
set_option linter.unusedVariables false
set_option linter.unusedSimpArgs false
/-- a card of a deck -/
def okAt (xss : List (List Int)) (i : Nat) : Prop := okK (xss.getD i []) = true ∧ (xss.getD i []).length = (xss.getD 0 []).length
instance (xss : List (List Int)) (i : Nat) : Decidable (okAt xss i) := by unfold okAt; infer_instance
def okD (xss : List (List Int)) : Bool := decide (∀ i, i < xss.length → okAt xss i) && decide (xss.length ≤ 40)
theorem okD_at {xss : List (List Int)} (h : okD xss = true) (i : Nat) (hi : i < xss.length) : okAt xss i := by
  simp only [okD, Bool.and_eq_true, decide_eq_true_eq] at h; exact h.1 i hi
theorem okD_len {xss : List (List Int)} (h : okD xss = true) : xss.length ≤ 40 := by
  simp only [okD, Bool.and_eq_true, decide_eq_true_eq] at h; exact h.2
theorem okD_no {xss : List (List Int)} (i : Nat) (hi : i < xss.length) (h : ¬ okAt xss i) : okD xss = false := by
  cases hk : okD xss
  · rfl
  · exact absurd (okD_at hk i hi) h
theorem okD_yes {xss : List (List Int)} (h : ∀ i, i < xss.length → okAt xss i) : okD xss = decide ((xss.length : Int) ≤ 40) := by
  have e : decide ((xss.length : Int) ≤ 40) = decide (xss.length ≤ 40) := by congr 1; simp; omega
  rw [okD, decide_eq_true h, Bool.true_and, e]
/-- how many columns the cards of a deck have -/
def widD (xss : List (List Int)) : Int := if xss.length = 0 then 20 else (xss.getD 0 []).length
theorem widD_bd {xss : List (List Int)} (h : okD xss = true) : 1 ≤ widD xss ∧ widD xss ≤ 20 := by
  unfold widD; split
  · omega
  · have := okK_len (okD_at h 0 (by omega)).1; omega
theorem widD_at {xss : List (List Int)} (h : okD xss = true) (i : Nat) (hi : i < xss.length) : ((xss.getD i []).length : Int) = widD xss := by
  unfold widD; rw [if_neg (by omega), (okD_at h i hi).2]
section
variable {w : World} {lo hi lo' hi' e : Nat} {v v' : Value} {xs ys : List Int} {xss yss : List (List Int)} {svs sus : List SV} {b o : Nat}
theorem newCard_c (h : SL w lo hi v xs := by repeat (first | assumption | exact Go.Gw.Own.sl (by assumption) | exact Go.Gw.Box.at (by assumption) | exact Go.Gw.SLL.el (by first | assumption | exact Go.Gw.OwnD.sll (by assumption)) _ (by omega) | exact Go.Gw.SLL.at (by first | assumption | exact Go.Gw.OwnD.sll (by assumption)) (by omega) | exact Go.Gw.OwnD.sll (by assumption) | (apply Go.Gw.SL.chg; case hx => assumption) | (apply Go.Gw.Own.chg; case hx => assumption) | (apply Go.Gw.Box.chg; case hx => assumption) | (apply Go.Gw.At.chg; case hx => assumption) | exact .inl (Nat.zero_le _) | exact .inr (Nat.zero_le _) | (show _ ∨ _; omega))) (hl : xs.length ≤ 1048576 := by omega) : Ret Tryz.prog 71 [.agg #[v]] w fun u w' => ∃ d, u = .agg #[d] ∧ Own w' 2 w.heap.size d xs ∧ Ext w w' := by
  have E : Since 0 0 w w := Since.refl 0 0 w
  refine ret_enter Tryz.func71 rfl Tryz.ntmps71 rfl ?_
  focus have ht_h := h.top; refine c_seq ?_; refine c_region ?_; refine w_box rfl (k := fun b1 w1 hb1 hx1 hl1 hs1 => ?_); have hz_hx1 := hx1.size; replace h := h.ext hx1; replace E := E.trans hx1; refine w_alloc (k := fun b2 w2 hb2 hx2 hl2 hs2 => ?_); have hz_hx2 := hx2.size; replace hb1 := hb1.ext hx2; replace h := h.ext hx2; replace E := E.trans hx2; refine w_nil ?_; refine x_next ?_; refine c_seq ?_; refine c_region ?_; refine w_pure (y_field rfl) rfl ?_; refine w_pure (y_load_box rfl) rfl ?_; (refine w_call rfl rfl rfl (copyInts_c _) rfl ?_; rintro v5 w5 ⟨hp1_5, hx5⟩); have hl_hp1_5 := hp1_5.lt; have hz_hx5 := hx5.size; replace hb2 := hb2.ext hx5; replace hb1 := hb1.ext hx5; replace h := h.ext hx5; replace E := E.trans hx5; refine w_pure (y_build rfl) rfl ?_; refine w_store_boxs rfl rfl (next := fun ws13 hbs13 hxs13 hss13 => ?_); (replace hb2 := hbs13; clear hbs13); have hz_hxs13 := hxs13.size; replace hp1_5 := hp1_5.chg hxs13 (by omega); replace hb1 := hb1.chg hxs13 (by omega); replace h := h.chg hxs13 (by omega); replace E := E.next hxs13 (by omega); refine w_nil ?_; refine x_next ?_; refine c_ret ?_; rotate_left
  exact x_retv [_] rfl ⟨⟨_, rfl, run_load_str (Box.at (by assumption)) (by rfl)⟩, trivial⟩ ⟨_, rfl, Own.base (by assumption) (by omega), E.go⟩
theorem l02Own_c (hp : At w b o [v] := by repeat (first | assumption | exact Go.Gw.Own.sl (by assumption) | exact Go.Gw.Box.at (by assumption) | exact Go.Gw.SLL.el (by first | assumption | exact Go.Gw.OwnD.sll (by assumption)) _ (by omega) | exact Go.Gw.SLL.at (by first | assumption | exact Go.Gw.OwnD.sll (by assumption)) (by omega) | exact Go.Gw.OwnD.sll (by assumption) | (apply Go.Gw.SL.chg; case hx => assumption) | (apply Go.Gw.Own.chg; case hx => assumption) | (apply Go.Gw.Box.chg; case hx => assumption) | (apply Go.Gw.At.chg; case hx => assumption) | exact .inl (Nat.zero_le _) | exact .inr (Nat.zero_le _) | (show _ ∨ _; omega))) (h : SL w lo hi v xs := by repeat (first | assumption | exact Go.Gw.Own.sl (by assumption) | exact Go.Gw.Box.at (by assumption) | exact Go.Gw.SLL.el (by first | assumption | exact Go.Gw.OwnD.sll (by assumption)) _ (by omega) | exact Go.Gw.SLL.at (by first | assumption | exact Go.Gw.OwnD.sll (by assumption)) (by omega) | exact Go.Gw.OwnD.sll (by assumption) | (apply Go.Gw.SL.chg; case hx => assumption) | (apply Go.Gw.Own.chg; case hx => assumption) | (apply Go.Gw.Box.chg; case hx => assumption) | (apply Go.Gw.At.chg; case hx => assumption) | exact .inl (Nat.zero_le _) | exact .inr (Nat.zero_le _) | (show _ ∨ _; omega))) (hl : xs.length ≤ 1048576 := by omega) : Ret Tryz.prog 76 [ptr b o] w fun u w' => ∃ d, u = .agg #[d] ∧ Own w' 2 w.heap.size d xs ∧ Ext w w' := by
  have E : Since 0 0 w w := Since.refl 0 0 w
  refine ret_enter Tryz.func76 rfl Tryz.ntmps76 rfl ?_
  focus have ht_h := h.top; refine c_seq ?_; refine c_region ?_; refine w_alloc (k := fun b2 w2 hb2 hx2 hl2 hs2 => ?_); have hz_hx2 := hx2.size; replace hp := hp.ext hx2; replace h := h.ext hx2; replace E := E.trans hx2; refine w_nil ?_; refine x_next ?_; refine c_seq ?_; refine c_region ?_; refine w_pure (y_move rfl) rfl ?_; refine w_pure (y_nil rfl) rfl ?_; refine w_pure (y_field rfl) rfl ?_; refine w_pure (y_loadk rfl) rfl ?_; (refine w_call rfl rfl rfl (l00Own_c _) rfl ?_; rintro v7 w7 ⟨hp1_7, hx7⟩); have hl_hp1_7 := hp1_7.lt; have hz_hx7 := hx7.size; replace hb2 := hb2.ext hx7; replace hp := hp.ext hx7; replace h := h.ext hx7; replace E := E.trans hx7; refine w_pure (y_build rfl) rfl ?_; refine w_store_boxs rfl rfl (next := fun ws14 hbs14 hxs14 hss14 => ?_); (replace hb2 := hbs14; clear hbs14); have hz_hxs14 := hxs14.size; replace hp1_7 := hp1_7.chg hxs14 (by omega); replace h := h.chg hxs14 (by omega); replace E := E.next hxs14 (by omega); refine w_nil ?_; refine x_next ?_; refine c_ret ?_; rotate_left
  exact x_retv [_] rfl ⟨⟨_, rfl, run_load_str (Box.at (by assumption)) (by rfl)⟩, trivial⟩ ⟨_, rfl, Own.base (by assumption) (by omega), E.go⟩
end
end Go.Proofs.YtcbpiaehkodliaaGreatDoor
/- CpyA -/
namespace Go.Proofs.YtcbpiaehkodliaaGreatDoor
open Go Go.Gw
set_option linter.unusedVariables false
set_option linter.unusedSimpArgs false
/-- copies in the ranges of all cards, whose targets rise -/
def plainAt (ps : List (Int × Int)) (i : Nat) : Prop := 0 ≤ (ps.getD i (0, 0)).1 ∧ (ps.getD i (0, 0)).1 ≤ 19 ∧ 0 ≤ (ps.getD i (0, 0)).2 ∧ (ps.getD i (0, 0)).2 ≤ 19 ∧ (0 < i → (ps.getD (i - 1) (0, 0)).2 < (ps.getD i (0, 0)).2)
instance (ps : List (Int × Int)) (i : Nat) : Decidable (plainAt ps i) := by unfold plainAt; infer_instance
def plainB (ps : List (Int × Int)) : Bool := decide (∀ i, i < ps.length → plainAt ps i)
theorem plainB_yes {ps : List (Int × Int)} (h : ∀ i, i < ps.length → plainAt ps i) : plainB ps = true := by simpa [plainB] using h
theorem plainB_no {ps : List (Int × Int)} (i : Nat) (hi : i < ps.length) (h : ¬ plainAt ps i) : plainB ps = false := by
  cases hp : plainB ps
  · rfl
  · exact absurd ((by simpa [plainB] using hp : ∀ i, i < ps.length → plainAt ps i) i hi) h
theorem plainB_at {ps : List (Int × Int)} (h : plainB ps = true) (i : Nat) (hi : i < ps.length) : plainAt ps i := (by simpa [plainB] using h : ∀ i, i < ps.length → plainAt ps i) i hi
theorem plainB_rise {ps : List (Int × Int)} (h : plainB ps = true) : ∀ i, i < ps.length → (i : Int) ≤ (ps.getD i (0, 0)).2
  | 0, hi => (plainB_at h 0 hi).2.2.1
  | i + 1, hi => by
    have h1 := plainB_rise h i (by omega)
    have h2 := (plainB_at h (i + 1) hi).2.2.2.2 (by omega)
    simp only [Nat.add_sub_cancel] at h2
    push_cast; omega
theorem plainB_len {ps : List (Int × Int)} (h : plainB ps = true) : ps.length ≤ 20 := by
  rcases Nat.eq_zero_or_pos ps.length with h0 | h0
  · omega
  · have h1 := plainB_rise h (ps.length - 1) (by omega)
    have h2 := (plainB_at h (ps.length - 1) (by omega)).2.2.2.1
    omega
/-- copies for cards with so many columns -/
def okCp (ps : List (Int × Int)) (f t : Int) : Bool := decide (1 ≤ f ∧ f ≤ 20 ∧ 1 ≤ t ∧ t ≤ 20) && plainB ps && !ps.any fun p => decide (f ≤ p.1 ∨ t ≤ p.2)
theorem okCp_at {ps : List (Int × Int)} {f t : Int} (h : okCp ps f t = true) (i : Nat) (hi : i < ps.length) : 0 ≤ (ps.getD i (0, 0)).1 ∧ (ps.getD i (0, 0)).1 < f ∧ 0 ≤ (ps.getD i (0, 0)).2 ∧ (ps.getD i (0, 0)).2 < t := by
  simp only [okCp, Bool.and_eq_true, decide_eq_true_eq, Bool.not_eq_true', List.any_eq_false] at h
  have h1 := plainB_at h.1.2 i hi
  have h2 := h.2 (ps.getD i (0, 0)) (by rw [List.getD_eq_getElem?_getD, List.getElem?_eq_getElem hi]; exact List.getElem_mem hi)
  unfold plainAt at h1
  omega
theorem okCp_bd {ps : List (Int × Int)} {f t : Int} (h : okCp ps f t = true) : 1 ≤ f ∧ f ≤ 20 ∧ 1 ≤ t ∧ t ≤ 20 ∧ ps.length ≤ 20 := by
  simp only [okCp, Bool.and_eq_true, decide_eq_true_eq] at h
  have := plainB_len h.1.2
  have := h.1.1
  omega
theorem okCp_no1 {ps : List (Int × Int)} {f t : Int} (h : ¬ (1 ≤ f ∧ f ≤ 20 ∧ 1 ≤ t ∧ t ≤ 20)) : okCp ps f t = false := by
  unfold okCp; rw [decide_eq_false h]; rfl
theorem okCp_no2 {ps : List (Int × Int)} {f t : Int} (h : plainB ps = false) : okCp ps f t = false := by
  unfold okCp; rw [h]; simp
theorem okCp_no3 {ps : List (Int × Int)} {f t : Int} (i : Nat) (hi : i < ps.length) (h : f ≤ (ps.getD i (0, 0)).1 ∨ t ≤ (ps.getD i (0, 0)).2) : okCp ps f t = false := by
  cases hk : okCp ps f t
  · rfl
  · have := okCp_at hk i hi; omega
theorem okCp_yes {ps : List (Int × Int)} {f t : Int} (h : 1 ≤ f ∧ f ≤ 20 ∧ 1 ≤ t ∧ t ≤ 20) (h2 : plainB ps = true) : okCp ps f t = !ps.any fun p => decide (f ≤ p.1 ∨ t ≤ p.2) := by
  unfold okCp; rw [decide_eq_true h, h2]; rfl
theorem okCp_yes' {ps : List (Int × Int)} {f t : Int} (h : 1 ≤ f ∧ f ≤ 20 ∧ 1 ≤ t ∧ t ≤ 20) (h2 : plainB ps = true) (h3 : ∀ j : Nat, j < ps.length → ¬ (f ≤ (ps.getD j (0, 0)).1 ∨ t ≤ (ps.getD j (0, 0)).2)) : okCp ps f t = true := by
  rw [okCp_yes h h2]
  simp only [Bool.not_eq_true', List.any_eq_false, decide_eq_true_eq]
  intro p hp
  obtain ⟨j, hj, rfl⟩ := List.mem_iff_getElem.1 hp
  have := h3 j hj
  rwa [List.getD_eq_getElem?_getD, List.getElem?_eq_getElem hj] at this
/-- columns after the first n copies -/
def copyF (xs : List Int) (ps : List (Int × Int)) (ys : List Int) : Nat → List Int
  | 0 => ys
  | n + 1 => (copyF xs ps ys n).set (ps.getD n (0, 0)).2.toNat (orI ((copyF xs ps ys n).getD (ps.getD n (0, 0)).2.toNat 0) (xs.getD (ps.getD n (0, 0)).1.toNat 0))
theorem copyF_len (xs : List Int) (ps : List (Int × Int)) (ys : List Int) : ∀ n, (copyF xs ps ys n).length = ys.length
  | 0 => rfl
  | n + 1 => by simp [copyF, copyF_len xs ps ys n]
theorem copyF_bd {xs : List Int} {ps : List (Int × Int)} {ys : List Int} (hx : ∀ i, i < xs.length → 0 ≤ xs.getD i 0 ∧ xs.getD i 0 ≤ 4095) (hy : ∀ i, i < ys.length → 0 ≤ ys.getD i 0 ∧ ys.getD i 0 ≤ 4095) (f t : Int) (h : okCp ps f t = true) (hf : f = xs.length) : ∀ n, n ≤ ps.length → ∀ i, i < ys.length → 0 ≤ (copyF xs ps ys n).getD i 0 ∧ (copyF xs ps ys n).getD i 0 ≤ 4095
  | 0, _, i, hi => hy i hi
  | n + 1, hn, i, hi => by
    have ih := copyF_bd hx hy f t h hf n (by omega)
    have hl := copyF_len xs ps ys n
    have ha := okCp_at h n (by omega)
    simp only [copyF]
    rw [List.getD_eq_getElem?_getD, List.getElem?_set]
    split
    · rename_i e
      rw [if_pos (by omega)]
      have h1 := ih _ (show i < ys.length from hi)
      have h2 := hx (ps.getD n (0, 0)).1.toNat (by omega)
      rw [e]
      exact orI_12 h1.2 h2.2
    · rw [← List.getD_eq_getElem?_getD]; exact ih i hi
section
variable {w : World} {lo hi lo' hi' l2 h2 e b b' o o' : Nat} {v v' v2 : Value} {xs ys : List Int} {ps : List (Int × Int)} {xss : List (List Int)} {svs : List SV}
theorem isPlain_c (h : SL w lo hi v ps := by repeat (first | assumption | exact Go.Gw.Own.sl (by assumption) | exact Go.Gw.Box.at (by assumption) | exact Go.Gw.SLL.el (by first | assumption | exact Go.Gw.OwnD.sll (by assumption)) _ (by omega) | exact Go.Gw.SLL.at (by first | assumption | exact Go.Gw.OwnD.sll (by assumption)) (by omega) | exact Go.Gw.OwnD.sll (by assumption) | (apply Go.Gw.SL.chg; case hx => assumption) | (apply Go.Gw.Own.chg; case hx => assumption) | (apply Go.Gw.Box.chg; case hx => assumption) | (apply Go.Gw.At.chg; case hx => assumption) | exact .inl (Nat.zero_le _) | exact .inr (Nat.zero_le _) | (show _ ∨ _; omega))) : Val Tryz.prog 46 [v] w (.bool (plainB ps)) := by
  refine ⟨fun w1 hx1 => ?_⟩
  replace h := h.ext hx1
  have hsm := h.small
  have E : Since 0 0 w1 w1 := Since.refl 0 0 w1
  refine ret_enter Tryz.func46 rfl Tryz.ntmps46 rfl ?_
  focus have ht_h := h.top; refine c_seq ?_; refine c_region ?_; refine w_pure (y_assign rfl) rfl ?_; refine w_nil ?_; refine x_next ?_; refine c_seq ?_; refine c_seq ?_; refine c_region ?_; refine w_pure (y_move rfl) rfl ?_; refine w_pure (y_len rfl) rfl ?_; refine w_pure (y_move rfl) rfl ?_; refine w_nil ?_; refine x_next ?_; refine c_block ?_; rotate_left
  refine c_loopC 0 0 (ι := Int) (fun x => [(0, v), (5, v), (6, .int .i64 ps.length), (7, .int .i64 x)]) (fun x w' => SL w' lo hi v ps ∧ 0 ≤ x ∧ x ≤ ps.length ∧ ∀ j : Nat, j < x.toNat → plainAt ps j) (fun x => (ps.length - x).toNat) 0
    (by repeat (first | exact trivial | refine ⟨rfl, ?_⟩)) ⟨h, by omega, by omega, fun j hj => by simp at hj⟩ ?_
  rintro i w2 hx2 E2 ⟨h2, hi0, hi1, hall⟩
  focus have ht_h2 := h2.top; have hz_hx2 := hx2.size; replace h := h.ext hx2; replace E := E.trans hx2; refine c_seq ?_; refine c_region ?_; refine w_pure (y_lt rfl rfl) rfl ?_; refine w_nil ?_; refine x_next ?_; refine c_seq ?_; (refine c_dec rfl (fun hc8 => ?_) (fun hc8 => ?_) <;> try (first | exact absurd rfl hc8 | contradiction | exact Bool.noConfusion (show false = true from hc8.symm.trans (by assumption)) | exact Bool.noConfusion (show true = false from hc8.symm.trans (by assumption)) | (exfalso; omega) | (exfalso; simp only [*, Bool.not_true, Bool.not_false, reduceCtorEq] at hc8; done))); refine c_skip ?_; refine x_next ?_; refine c_seq ?_; refine c_block ?_; refine c_seq ?_; refine c_region ?_; refine w_pure (y_move rfl) rfl ?_; refine w_pure (y_index rfl rfl) rfl ?_; refine w_pure (y_load_pair rfl) rfl ?_; refine w_alloc (k := fun b4 w4 hb4 hx4 hl4 hs4 => ?_); have hz_hx4 := hx4.size; replace E2 := E2.trans hx4; replace h2 := h2.ext hx4; replace h := h.ext hx4; replace E := E.trans hx4; refine w_pure (y_assign rfl) rfl ?_; refine w_store_boxs rfl rfl (next := fun ws19 hbs19 hxs19 hss19 => ?_); (replace hb4 := hbs19; clear hbs19); have hz_hxs19 := hxs19.size; replace E2 := E2.next hxs19 (by omega); replace h2 := h2.chg hxs19 (by omega); replace h := h.chg hxs19 (by omega); replace E := E.next hxs19 (by omega); refine w_nil ?_; refine x_next ?_; refine c_seq ?_; refine c_region_held mixed (fun wr4 hxr4 hzr4 => ?_); have hz_hxr4 := hxr4.size; replace hb4 := hb4.ext hxr4; replace E2 := E2.trans hxr4; replace h2 := h2.ext hxr4; replace h := h.ext hxr4; replace E := E.trans hxr4; refine h_pure rfl (y_field rfl) rfl ?_; refine h_pure rfl (y_load_box rfl) rfl ?_; refine h_one rfl ?_; refine w_pur rfl rfl rfl (inside_c _ _ _) rfl ?_; refine w_nil ?_; refine x_held ?_; refine h_pure rfl (y_not_dec rfl) rfl ?_; refine h_pure rfl (y_move rfl) rfl ?_; (refine h_part_dec rfl rfl (fun hc17 => ?_) (fun hc17 => ?_) <;> try (first | exact absurd rfl hc17 | contradiction | exact Bool.noConfusion (show false = true from hc17.symm.trans (by assumption)) | exact Bool.noConfusion (show true = false from hc17.symm.trans (by assumption)) | (exfalso; omega) | (exfalso; simp only [*, Bool.not_true, Bool.not_false, reduceCtorEq] at hc17; done))); refine h_no rfl rfl rfl rfl rfl ?_; refine h_no rfl rfl rfl rfl rfl ?_; refine h_no rfl rfl rfl rfl rfl ?_; refine h_no rfl rfl rfl rfl rfl ?_; refine h_pure rfl (y_pick_t rfl rfl) rfl ?_; refine h_pure rfl (y_move rfl) rfl ?_; refine h_no rfl rfl rfl rfl rfl ?_; refine h_no rfl rfl rfl rfl rfl ?_; refine h_no rfl rfl rfl rfl rfl ?_; refine h_none rfl rfl rfl rfl ?_; refine h_none rfl rfl rfl rfl ?_; refine h_none rfl rfl rfl rfl ?_; refine h_none rfl rfl rfl rfl ?_; refine h_none rfl rfl rfl rfl ?_; refine h_none rfl rfl rfl rfl ?_; refine h_none rfl rfl rfl rfl ?_; refine h_none rfl rfl rfl rfl ?_; refine h_none rfl rfl rfl rfl ?_; refine h_no rfl rfl rfl rfl rfl ?_; refine h_pure rfl (y_pick_t rfl rfl) rfl ?_; refine h_nil ?_; refine x_next ?_; refine c_true rfl ?_; refine c_seq ?_; refine c_region ?_; refine w_pure (y_assign rfl) rfl ?_; refine w_nil ?_; refine x_next ?_; refine c_ret ?_; refine x_block_ret ?_; refine x_then_ret ?_; refine x_then_ret ?_; refine x_block_ret ?_; refine x_then_ret ?_; rotate_left; refine h_yes rfl rfl rfl (y_field rfl) rfl ?_; refine h_yes rfl rfl rfl (y_load_box rfl) rfl ?_; (refine h_part rfl rfl (fun hc19 => ?_) (fun hc19 => ?_) <;> try (first | exact absurd rfl hc19 | contradiction | exact Bool.noConfusion (show false = true from hc19.symm.trans (by assumption)) | exact Bool.noConfusion (show true = false from hc19.symm.trans (by assumption)) | (exfalso; omega) | (exfalso; simp only [*, Bool.not_true, Bool.not_false, reduceCtorEq] at hc19; done))); refine h_one rfl ?_; refine w_yes rfl rfl ?_; refine w_pur rfl rfl rfl (inside_c _ _ _) rfl ?_; refine w_nil ?_; refine x_held ?_; refine h_yes rfl rfl rfl (y_not_dec rfl) rfl ?_; refine h_pure rfl (y_pick_f rfl rfl) rfl ?_; refine h_pure rfl (y_move rfl) rfl ?_; (refine h_part_dec rfl rfl (fun hc23 => ?_) (fun hc23 => ?_) <;> try (first | exact absurd rfl hc23 | contradiction | exact Bool.noConfusion (show false = true from hc23.symm.trans (by assumption)) | exact Bool.noConfusion (show true = false from hc23.symm.trans (by assumption)) | (exfalso; omega) | (exfalso; simp only [*, Bool.not_true, Bool.not_false, reduceCtorEq] at hc23; done))); refine h_no rfl rfl rfl rfl rfl ?_; refine h_no rfl rfl rfl rfl rfl ?_; refine h_no rfl rfl rfl rfl rfl ?_; refine h_none rfl rfl rfl rfl ?_; refine h_none rfl rfl rfl rfl ?_; refine h_none rfl rfl rfl rfl ?_; refine h_none rfl rfl rfl rfl ?_; refine h_none rfl rfl rfl rfl ?_; refine h_none rfl rfl rfl rfl ?_; refine h_none rfl rfl rfl rfl ?_; refine h_none rfl rfl rfl rfl ?_; refine h_none rfl rfl rfl rfl ?_; refine h_no rfl rfl rfl rfl rfl ?_; refine h_pure rfl (y_pick_t rfl rfl) rfl ?_; refine h_nil ?_; refine x_next ?_; refine c_true rfl ?_; refine c_seq ?_; refine c_region ?_; refine w_pure (y_assign rfl) rfl ?_; refine w_nil ?_; refine x_next ?_; refine c_ret ?_; refine x_block_ret ?_; refine x_then_ret ?_; refine x_then_ret ?_; refine x_block_ret ?_; refine x_then_ret ?_; rotate_left; refine h_yes rfl rfl rfl (y_move rfl) rfl ?_; refine h_yes rfl rfl rfl (y_gt rfl rfl) rfl ?_; refine h_yes rfl rfl rfl (y_move rfl) rfl ?_; (refine h_part_dec rfl rfl (fun hc26 => ?_) (fun hc26 => ?_) <;> try (first | exact absurd rfl hc26 | contradiction | exact Bool.noConfusion (show false = true from hc26.symm.trans (by assumption)) | exact Bool.noConfusion (show true = false from hc26.symm.trans (by assumption)) | (exfalso; omega) | (exfalso; simp only [*, Bool.not_true, Bool.not_false, reduceCtorEq] at hc26; done))); refine h_yes rfl rfl rfl (y_move rfl) rfl ?_; refine h_yes rfl rfl rfl (y_move rfl) rfl ?_; refine h_yes rfl rfl rfl (y_sub rfl rfl) rfl ?_; refine h_yes rfl rfl rfl (y_index rfl rfl) rfl ?_; refine h_yes rfl rfl rfl (y_field rfl) rfl ?_; refine h_yes rfl rfl rfl (y_load_p1 rfl) rfl ?_; refine h_yes rfl rfl rfl (y_field rfl) rfl ?_; refine h_yes rfl rfl rfl (y_load_box rfl) rfl ?_; refine h_yes rfl rfl rfl (y_ge rfl rfl) rfl ?_; refine h_yes rfl rfl rfl (y_pick_t rfl rfl) rfl ?_; refine h_pure rfl (y_pick_f rfl rfl) rfl ?_; refine h_nil ?_; refine x_next ?_; (refine c_dec rfl (fun hc36 => ?_) (fun hc36 => ?_) <;> try (first | exact absurd rfl hc36 | contradiction | exact Bool.noConfusion (show false = true from hc36.symm.trans (by assumption)) | exact Bool.noConfusion (show true = false from hc36.symm.trans (by assumption)) | (exfalso; omega) | (exfalso; simp only [*, Bool.not_true, Bool.not_false, reduceCtorEq] at hc36; done))); refine c_seq ?_; refine c_region ?_; refine w_pure (y_assign rfl) rfl ?_; refine w_nil ?_; refine x_next ?_; refine c_ret ?_; refine x_block_ret ?_; refine x_then_ret ?_; refine x_then_ret ?_; refine x_block_ret ?_; refine x_then_ret ?_; rotate_left; refine c_skip ?_; refine x_block_norm ?_; refine x_next ?_; refine c_region ?_; refine w_pure (y_add rfl rfl) rfl ?_; refine w_pure (y_move rfl) rfl ?_; refine w_nil ?_; rotate_left; refine h_no rfl rfl rfl rfl rfl ?_; refine h_no rfl rfl rfl rfl rfl ?_; refine h_no rfl rfl rfl rfl rfl ?_; refine h_no rfl rfl rfl rfl rfl ?_; refine h_no rfl rfl rfl rfl rfl ?_; refine h_no rfl rfl rfl rfl rfl ?_; refine h_no rfl rfl rfl rfl rfl ?_; refine h_no rfl rfl rfl rfl rfl ?_; refine h_no rfl rfl rfl rfl rfl ?_; refine h_yes rfl rfl rfl (y_pick_f rfl rfl) rfl ?_; refine h_pure rfl (y_pick_f rfl rfl) rfl ?_; refine h_nil ?_; refine x_next ?_; refine c_false rfl ?_; refine c_skip ?_; refine x_block_norm ?_; refine x_next ?_; refine c_region ?_; refine w_pure (y_add rfl rfl) rfl ?_; refine w_pure (y_move rfl) rfl ?_; refine w_nil ?_; rotate_left; refine c_exit ?_; refine x_then_exit ?_; refine x_then_exit ?_; refine x_block_hit ?_; refine x_next ?_; refine c_seq ?_; refine c_region ?_; refine w_pure (y_assign rfl) rfl ?_; refine w_nil ?_; refine x_next ?_; refine c_ret ?_; rotate_left
  · exact x_retv [_] rfl ⟨rfl, trivial⟩ ⟨by rw [plainB_no i.toNat (by omega) (fun hh => by have := hh.1; have := hh.2.1; omega)]; rfl, E.go⟩
  · exact x_retv [_] rfl ⟨rfl, trivial⟩ ⟨by rw [plainB_no i.toNat (by omega) (fun hh => by have := hh.2.2.1; have := hh.2.2.2.1; omega)]; rfl, E.go⟩
  · exact x_retv [_] rfl ⟨rfl, trivial⟩ ⟨by rw [plainB_no i.toNat (by omega) (fun hh => by have := hh.2.2.2.2 (by omega); rw [show (i - 1).toNat = i.toNat - 1 by omega] at *; omega)]; rfl, E.go⟩
  · refine x_again (i + 1) (by repeat (first | exact trivial | refine ⟨rfl, ?_⟩)) ⟨E2.go, by assumption, by omega, by omega, fun j hj => ?_⟩ (by omega)
    by_cases ej : j = i.toNat
    · subst ej
      rw [show (i - 1).toNat = i.toNat - 1 by omega] at *
      exact ⟨by omega, by omega, by omega, by omega, fun _ => by omega⟩
    · exact hall j (by omega)
  · refine x_again (i + 1) (by repeat (first | exact trivial | refine ⟨rfl, ?_⟩)) ⟨E2.go, by assumption, by omega, by omega, fun j hj => ?_⟩ (by omega)
    by_cases ej : j = i.toNat
    · subst ej
      exact ⟨by omega, by omega, by omega, by omega, fun _ => by omega⟩
    · exact hall j (by omega)
  · exact x_retv [_] rfl ⟨rfl, trivial⟩ ⟨by rw [plainB_yes (fun j hj => hall j (by omega))]; rfl, E.go⟩
theorem l10Plain_c (h : SL w lo hi v ps := by repeat (first | assumption | exact Go.Gw.Own.sl (by assumption) | exact Go.Gw.Box.at (by assumption) | exact Go.Gw.SLL.el (by first | assumption | exact Go.Gw.OwnD.sll (by assumption)) _ (by omega) | exact Go.Gw.SLL.at (by first | assumption | exact Go.Gw.OwnD.sll (by assumption)) (by omega) | exact Go.Gw.OwnD.sll (by assumption) | (apply Go.Gw.SL.chg; case hx => assumption) | (apply Go.Gw.Own.chg; case hx => assumption) | (apply Go.Gw.Box.chg; case hx => assumption) | (apply Go.Gw.At.chg; case hx => assumption) | exact .inl (Nat.zero_le _) | exact .inr (Nat.zero_le _) | (show _ ∨ _; omega))) : Val Tryz.prog 47 [v] w (.bool (plainB ps)) := by
  refine ⟨fun w1 hx1 => ?_⟩
  replace h := h.ext hx1
  have hsm := h.small
  have E : Since 0 0 w1 w1 := Since.refl 0 0 w1
  refine ret_enter Tryz.func47 rfl Tryz.ntmps47 rfl ?_
  focus have ht_h := h.top; refine c_seq ?_; refine c_region ?_; refine w_pure (y_assign rfl) rfl ?_; refine w_nil ?_; refine x_next ?_; refine c_seq ?_; refine c_seq ?_; refine c_region ?_; refine w_pure (y_assign rfl) rfl ?_; refine w_nil ?_; refine x_next ?_; refine c_block ?_; rotate_left
  refine c_loopC 0 0 (ι := Int) (fun x => [(0, v), (3, .int .i64 x)]) (fun x w' => SL w' lo hi v ps ∧ 0 ≤ x ∧ x ≤ ps.length ∧ ∀ j : Nat, j < x.toNat → plainAt ps j) (fun x => (ps.length - x).toNat) 0
    (by repeat (first | exact trivial | refine ⟨rfl, ?_⟩)) ⟨h, by omega, by omega, fun j hj => by simp at hj⟩ ?_
  rintro i w2 hx2 E2 ⟨h2, hi0, hi1, hall⟩
  focus have ht_h2 := h2.top; have hz_hx2 := hx2.size; replace h := h.ext hx2; replace E := E.trans hx2; refine c_seq ?_; refine c_seq ?_; refine c_region ?_; refine w_pure (y_move rfl) rfl ?_; refine w_pure (y_move rfl) rfl ?_; refine w_pure (y_len rfl) rfl ?_; refine w_pure (y_lt rfl rfl) rfl ?_; refine w_nil ?_; refine x_next ?_; (refine c_dec rfl (fun hc7 => ?_) (fun hc7 => ?_) <;> try (first | exact absurd rfl hc7 | contradiction | exact Bool.noConfusion (show false = true from hc7.symm.trans (by assumption)) | exact Bool.noConfusion (show true = false from hc7.symm.trans (by assumption)) | (exfalso; omega) | (exfalso; simp only [*, Bool.not_true, Bool.not_false, reduceCtorEq] at hc7; done))); refine c_skip ?_; refine x_next ?_; refine c_seq ?_; refine c_block ?_; refine c_seq ?_; refine c_region_held mixed (fun wr4 hxr4 hzr4 => ?_); have hz_hxr4 := hxr4.size; replace E2 := E2.trans hxr4; replace h2 := h2.ext hxr4; replace h := h.ext hxr4; replace E := E.trans hxr4; refine h_pure rfl (y_move rfl) rfl ?_; refine h_pure rfl (y_move rfl) rfl ?_; refine h_pure rfl (y_index rfl rfl) rfl ?_; refine h_pure rfl (y_field rfl) rfl ?_; refine h_pure rfl (y_load_p0 rfl) rfl ?_; refine h_one rfl ?_; refine w_pur rfl rfl rfl (l00In_c _ _ _) rfl ?_; refine w_nil ?_; refine x_held ?_; refine h_pure rfl (y_not_dec rfl) rfl ?_; refine h_pure rfl (y_move rfl) rfl ?_; (refine h_part_dec rfl rfl (fun hc18 => ?_) (fun hc18 => ?_) <;> try (first | exact absurd rfl hc18 | contradiction | exact Bool.noConfusion (show false = true from hc18.symm.trans (by assumption)) | exact Bool.noConfusion (show true = false from hc18.symm.trans (by assumption)) | (exfalso; omega) | (exfalso; simp only [*, Bool.not_true, Bool.not_false, reduceCtorEq] at hc18; done))); refine h_no rfl rfl rfl rfl rfl ?_; refine h_no rfl rfl rfl rfl rfl ?_; refine h_no rfl rfl rfl rfl rfl ?_; refine h_no rfl rfl rfl rfl rfl ?_; refine h_no rfl rfl rfl rfl rfl ?_; refine h_no rfl rfl rfl rfl rfl ?_; refine h_no rfl rfl rfl rfl rfl ?_; refine h_pure rfl (y_pick_t rfl rfl) rfl ?_; refine h_pure rfl (y_move rfl) rfl ?_; refine h_no rfl rfl rfl rfl rfl ?_; refine h_no rfl rfl rfl rfl rfl ?_; refine h_no rfl rfl rfl rfl rfl ?_; refine h_none rfl rfl rfl rfl ?_; refine h_none rfl rfl rfl rfl ?_; refine h_none rfl rfl rfl rfl ?_; refine h_none rfl rfl rfl rfl ?_; refine h_none rfl rfl rfl rfl ?_; refine h_none rfl rfl rfl rfl ?_; refine h_none rfl rfl rfl rfl ?_; refine h_none rfl rfl rfl rfl ?_; refine h_none rfl rfl rfl rfl ?_; refine h_none rfl rfl rfl rfl ?_; refine h_none rfl rfl rfl rfl ?_; refine h_none rfl rfl rfl rfl ?_; refine h_no rfl rfl rfl rfl rfl ?_; refine h_pure rfl (y_pick_t rfl rfl) rfl ?_; refine h_nil ?_; refine x_next ?_; refine c_true rfl ?_; refine c_seq ?_; refine c_region ?_; refine w_pure (y_assign rfl) rfl ?_; refine w_nil ?_; refine x_next ?_; refine c_ret ?_; refine x_block_ret ?_; refine x_then_ret ?_; refine x_then_ret ?_; refine x_block_ret ?_; refine x_then_ret ?_; rotate_left; refine h_yes rfl rfl rfl (y_move rfl) rfl ?_; refine h_yes rfl rfl rfl (y_move rfl) rfl ?_; refine h_yes rfl rfl rfl (y_index rfl rfl) rfl ?_; refine h_yes rfl rfl rfl (y_field rfl) rfl ?_; refine h_yes rfl rfl rfl (y_load_p1 rfl) rfl ?_; (refine h_part rfl rfl (fun hc23 => ?_) (fun hc23 => ?_) <;> try (first | exact absurd rfl hc23 | contradiction | exact Bool.noConfusion (show false = true from hc23.symm.trans (by assumption)) | exact Bool.noConfusion (show true = false from hc23.symm.trans (by assumption)) | (exfalso; omega) | (exfalso; simp only [*, Bool.not_true, Bool.not_false, reduceCtorEq] at hc23; done))); refine h_one rfl ?_; refine w_yes rfl rfl ?_; refine w_pur rfl rfl rfl (l00In_c _ _ _) rfl ?_; refine w_nil ?_; refine x_held ?_; refine h_yes rfl rfl rfl (y_not_dec rfl) rfl ?_; refine h_pure rfl (y_pick_f rfl rfl) rfl ?_; refine h_pure rfl (y_move rfl) rfl ?_; (refine h_part_dec rfl rfl (fun hc27 => ?_) (fun hc27 => ?_) <;> try (first | exact absurd rfl hc27 | contradiction | exact Bool.noConfusion (show false = true from hc27.symm.trans (by assumption)) | exact Bool.noConfusion (show true = false from hc27.symm.trans (by assumption)) | (exfalso; omega) | (exfalso; simp only [*, Bool.not_true, Bool.not_false, reduceCtorEq] at hc27; done))); refine h_no rfl rfl rfl rfl rfl ?_; refine h_no rfl rfl rfl rfl rfl ?_; refine h_no rfl rfl rfl rfl rfl ?_; refine h_none rfl rfl rfl rfl ?_; refine h_none rfl rfl rfl rfl ?_; refine h_none rfl rfl rfl rfl ?_; refine h_none rfl rfl rfl rfl ?_; refine h_none rfl rfl rfl rfl ?_; refine h_none rfl rfl rfl rfl ?_; refine h_none rfl rfl rfl rfl ?_; refine h_none rfl rfl rfl rfl ?_; refine h_none rfl rfl rfl rfl ?_; refine h_none rfl rfl rfl rfl ?_; refine h_none rfl rfl rfl rfl ?_; refine h_none rfl rfl rfl rfl ?_; refine h_no rfl rfl rfl rfl rfl ?_; refine h_pure rfl (y_pick_t rfl rfl) rfl ?_; refine h_nil ?_; refine x_next ?_; refine c_true rfl ?_; refine c_seq ?_; refine c_region ?_; refine w_pure (y_assign rfl) rfl ?_; refine w_nil ?_; refine x_next ?_; refine c_ret ?_; refine x_block_ret ?_; refine x_then_ret ?_; refine x_then_ret ?_; refine x_block_ret ?_; refine x_then_ret ?_; rotate_left; refine h_yes rfl rfl rfl (y_move rfl) rfl ?_; refine h_yes rfl rfl rfl (y_gt rfl rfl) rfl ?_; refine h_yes rfl rfl rfl (y_move rfl) rfl ?_; (refine h_part_dec rfl rfl (fun hc30 => ?_) (fun hc30 => ?_) <;> try (first | exact absurd rfl hc30 | contradiction | exact Bool.noConfusion (show false = true from hc30.symm.trans (by assumption)) | exact Bool.noConfusion (show true = false from hc30.symm.trans (by assumption)) | (exfalso; omega) | (exfalso; simp only [*, Bool.not_true, Bool.not_false, reduceCtorEq] at hc30; done))); refine h_yes rfl rfl rfl (y_move rfl) rfl ?_; refine h_yes rfl rfl rfl (y_move rfl) rfl ?_; refine h_yes rfl rfl rfl (y_sub rfl rfl) rfl ?_; refine h_yes rfl rfl rfl (y_index rfl rfl) rfl ?_; refine h_yes rfl rfl rfl (y_field rfl) rfl ?_; refine h_yes rfl rfl rfl (y_load_p1 rfl) rfl ?_; refine h_yes rfl rfl rfl (y_move rfl) rfl ?_; refine h_yes rfl rfl rfl (y_move rfl) rfl ?_; refine h_yes rfl rfl rfl (y_index rfl rfl) rfl ?_; refine h_yes rfl rfl rfl (y_field rfl) rfl ?_; refine h_yes rfl rfl rfl (y_load_p1 rfl) rfl ?_; refine h_yes rfl rfl rfl (y_ge rfl rfl) rfl ?_; refine h_yes rfl rfl rfl (y_pick_t rfl rfl) rfl ?_; refine h_pure rfl (y_pick_f rfl rfl) rfl ?_; refine h_nil ?_; refine x_next ?_; (refine c_dec rfl (fun hc43 => ?_) (fun hc43 => ?_) <;> try (first | exact absurd rfl hc43 | contradiction | exact Bool.noConfusion (show false = true from hc43.symm.trans (by assumption)) | exact Bool.noConfusion (show true = false from hc43.symm.trans (by assumption)) | (exfalso; omega) | (exfalso; simp only [*, Bool.not_true, Bool.not_false, reduceCtorEq] at hc43; done))); refine c_seq ?_; refine c_region ?_; refine w_pure (y_assign rfl) rfl ?_; refine w_nil ?_; refine x_next ?_; refine c_ret ?_; refine x_block_ret ?_; refine x_then_ret ?_; refine x_then_ret ?_; refine x_block_ret ?_; refine x_then_ret ?_; rotate_left; refine c_skip ?_; refine x_block_norm ?_; refine x_next ?_; refine c_region ?_; refine w_pure (y_move rfl) rfl ?_; refine w_pure (y_add rfl rfl) rfl ?_; refine w_pure (y_assign rfl) rfl ?_; refine w_nil ?_; rotate_left; refine h_no rfl rfl rfl rfl rfl ?_; refine h_no rfl rfl rfl rfl rfl ?_; refine h_no rfl rfl rfl rfl rfl ?_; refine h_no rfl rfl rfl rfl rfl ?_; refine h_no rfl rfl rfl rfl rfl ?_; refine h_no rfl rfl rfl rfl rfl ?_; refine h_no rfl rfl rfl rfl rfl ?_; refine h_no rfl rfl rfl rfl rfl ?_; refine h_no rfl rfl rfl rfl rfl ?_; refine h_no rfl rfl rfl rfl rfl ?_; refine h_no rfl rfl rfl rfl rfl ?_; refine h_no rfl rfl rfl rfl rfl ?_; refine h_yes rfl rfl rfl (y_pick_f rfl rfl) rfl ?_; refine h_pure rfl (y_pick_f rfl rfl) rfl ?_; refine h_nil ?_; refine x_next ?_; refine c_false rfl ?_; refine c_skip ?_; refine x_block_norm ?_; refine x_next ?_; refine c_region ?_; refine w_pure (y_move rfl) rfl ?_; refine w_pure (y_add rfl rfl) rfl ?_; refine w_pure (y_assign rfl) rfl ?_; refine w_nil ?_; rotate_left; refine c_exit ?_; refine x_then_exit ?_; refine x_then_exit ?_; refine x_block_hit ?_; refine x_next ?_; refine c_seq ?_; refine c_region ?_; refine w_pure (y_assign rfl) rfl ?_; refine w_nil ?_; refine x_next ?_; refine c_ret ?_; rotate_left
  · exact x_retv [_] rfl ⟨rfl, trivial⟩ ⟨by rw [plainB_no i.toNat (by omega) (fun hh => by have := hh.1; have := hh.2.1; omega)]; rfl, E.go⟩
  · exact x_retv [_] rfl ⟨rfl, trivial⟩ ⟨by rw [plainB_no i.toNat (by omega) (fun hh => by have := hh.2.2.1; have := hh.2.2.2.1; omega)]; rfl, E.go⟩
  · exact x_retv [_] rfl ⟨rfl, trivial⟩ ⟨by rw [plainB_no i.toNat (by omega) (fun hh => by have := hh.2.2.2.2 (by omega); rw [show (i - 1).toNat = i.toNat - 1 by omega] at *; omega)]; rfl, E.go⟩
  · refine x_again (i + 1) (by repeat (first | exact trivial | refine ⟨rfl, ?_⟩)) ⟨E2.go, by assumption, by omega, by omega, fun j hj => ?_⟩ (by omega)
    by_cases ej : j = i.toNat
    · subst ej
      rw [show (i - 1).toNat = i.toNat - 1 by omega] at *
      exact ⟨by omega, by omega, by omega, by omega, fun _ => by omega⟩
    · exact hall j (by omega)
  · refine x_again (i + 1) (by repeat (first | exact trivial | refine ⟨rfl, ?_⟩)) ⟨E2.go, by assumption, by omega, by omega, fun j hj => ?_⟩ (by omega)
    by_cases ej : j = i.toNat
    · subst ej
      exact ⟨by omega, by omega, by omega, by omega, fun _ => by omega⟩
    · exact hall j (by omega)
  · exact x_retv [_] rfl ⟨rfl, trivial⟩ ⟨by rw [plainB_yes (fun j hj => hall j (by omega))]; rfl, E.go⟩
theorem ValidCopies1_c (x y f t : Int) (hp : At w b 0 [.int .i64 f] := by repeat (first | assumption | exact Go.Gw.Own.sl (by assumption) | exact Go.Gw.Box.at (by assumption) | exact Go.Gw.SLL.el (by first | assumption | exact Go.Gw.OwnD.sll (by assumption)) _ (by omega) | exact Go.Gw.SLL.at (by first | assumption | exact Go.Gw.OwnD.sll (by assumption)) (by omega) | exact Go.Gw.OwnD.sll (by assumption) | (apply Go.Gw.SL.chg; case hx => assumption) | (apply Go.Gw.Own.chg; case hx => assumption) | (apply Go.Gw.Box.chg; case hx => assumption) | (apply Go.Gw.At.chg; case hx => assumption) | exact .inl (Nat.zero_le _) | exact .inr (Nat.zero_le _) | (show _ ∨ _; omega))) (hp' : At w b' 0 [.int .i64 t] := by repeat (first | assumption | exact Go.Gw.Own.sl (by assumption) | exact Go.Gw.Box.at (by assumption) | exact Go.Gw.SLL.el (by first | assumption | exact Go.Gw.OwnD.sll (by assumption)) _ (by omega) | exact Go.Gw.SLL.at (by first | assumption | exact Go.Gw.OwnD.sll (by assumption)) (by omega) | exact Go.Gw.OwnD.sll (by assumption) | (apply Go.Gw.SL.chg; case hx => assumption) | (apply Go.Gw.Own.chg; case hx => assumption) | (apply Go.Gw.Box.chg; case hx => assumption) | (apply Go.Gw.At.chg; case hx => assumption) | exact .inl (Nat.zero_le _) | exact .inr (Nat.zero_le _) | (show _ ∨ _; omega))) : Val Tryz.prog 64 [.agg #[.int .i64 x, .int .i64 y], ptr b 0, ptr b' 0] w (.bool (decide (f ≤ x ∨ t ≤ y))) := by
  refine ⟨fun w1 hx1 => ?_⟩
  have E : Since 0 0 w1 w1 := Since.refl 0 0 w1
  refine ret_enter Tryz.func64 rfl Tryz.ntmps64 rfl ?_
  focus have hz_hx1 := hx1.size; replace hp := hp.ext hx1; replace hp' := hp'.ext hx1; refine c_seq ?_; refine c_region ?_; refine w_box rfl (k := fun b3 w3 hb3 hx3 hl3 hs3 => ?_); have hz_hx3 := hx3.size; replace E := E.trans hx3; replace hp := hp.ext hx3; replace hp' := hp'.ext hx3; refine w_pure (y_assign rfl) rfl ?_; refine w_nil ?_; refine x_next ?_; refine c_seq ?_; refine c_region ?_; refine w_pure (y_field rfl) rfl ?_; refine w_pure (y_load_box rfl) rfl ?_; refine w_pure (y_load rfl) rfl ?_; refine w_pure (y_ge rfl rfl) rfl ?_; refine w_pure (y_move rfl) rfl ?_; (refine w_part_dec rfl rfl (fun hc10 => ?_) (fun hc10 => ?_) <;> try (first | exact absurd rfl hc10 | contradiction | exact Bool.noConfusion (show false = true from hc10.symm.trans (by assumption)) | exact Bool.noConfusion (show true = false from hc10.symm.trans (by assumption)) | (exfalso; omega) | (exfalso; simp only [*, Bool.not_true, Bool.not_false, reduceCtorEq] at hc10; done))); refine w_no rfl rfl rfl rfl ?_; refine w_no rfl rfl rfl rfl ?_; refine w_no rfl rfl rfl rfl ?_; refine w_no rfl rfl rfl rfl ?_; refine w_pure (y_pick_t rfl rfl) rfl ?_; refine w_pure (y_assign rfl) rfl ?_; refine w_nil ?_; refine x_next ?_; refine c_ret ?_; rotate_left; refine w_yes rfl rfl ?_; refine w_pure (y_field rfl) rfl ?_; refine w_yes rfl rfl ?_; refine w_pure (y_load_box rfl) rfl ?_; refine w_yes rfl rfl ?_; refine w_pure (y_load rfl) rfl ?_; refine w_yes rfl rfl ?_; refine w_pure (y_ge rfl rfl) rfl ?_; refine w_pure (y_pick_f rfl rfl) rfl ?_; refine w_pure (y_assign rfl) rfl ?_; refine w_nil ?_; refine x_next ?_; refine c_ret ?_; rotate_left
  · exact x_retv [_] rfl ⟨rfl, trivial⟩ ⟨congrArg Value.bool (decide_eq_true (.inl (by assumption))).symm, E.go⟩
  · refine x_retv [_] rfl ⟨rfl, trivial⟩ ⟨congrArg Value.bool (decide_eq_decide.2 ⟨fun hh => .inr hh, fun hh => ?_⟩), E.go⟩
    rcases hh with hh | hh
    · contradiction
    · exact hh
theorem iValidCopies_c (f t : Int) (h : SL w lo hi v ps := by repeat (first | assumption | exact Go.Gw.Own.sl (by assumption) | exact Go.Gw.Box.at (by assumption) | exact Go.Gw.SLL.el (by first | assumption | exact Go.Gw.OwnD.sll (by assumption)) _ (by omega) | exact Go.Gw.SLL.at (by first | assumption | exact Go.Gw.OwnD.sll (by assumption)) (by omega) | exact Go.Gw.OwnD.sll (by assumption) | (apply Go.Gw.SL.chg; case hx => assumption) | (apply Go.Gw.Own.chg; case hx => assumption) | (apply Go.Gw.Box.chg; case hx => assumption) | (apply Go.Gw.At.chg; case hx => assumption) | exact .inl (Nat.zero_le _) | exact .inr (Nat.zero_le _) | (show _ ∨ _; omega))) : Val Tryz.prog 27 [v, .int .i64 f, .int .i64 t] w (.bool (okCp ps f t)) := by
  refine ⟨fun w1 hx1 => ?_⟩
  replace h := h.ext hx1
  have E : Since 0 0 w1 w1 := Since.refl 0 0 w1
  refine ret_enter Tryz.func27 rfl Tryz.ntmps27 rfl ?_
  focus have ht_h := h.top; refine c_seq ?_; refine c_region ?_; refine w_box1 rfl (k := fun b4 w4 hb4 hx4 hl4 hs4 => ?_); have hz_hx4 := hx4.size; replace h := h.ext hx4; replace E := E.trans hx4; refine w_box1 rfl (k := fun b5 w5 hb5 hx5 hl5 hs5 => ?_); have hz_hx5 := hx5.size; replace hb4 := hb4.ext hx5; replace h := h.ext hx5; replace E := E.trans hx5; refine w_pure (y_assign rfl) rfl ?_; refine w_nil ?_; refine x_next ?_; refine c_seq ?_; refine c_seq ?_; refine c_region ?_; refine w_pure (y_load_box rfl) rfl ?_; refine w_pur rfl rfl rfl (inside_c _ _ _) rfl ?_; refine w_pure (y_not_dec rfl) rfl ?_; refine w_pure (y_move rfl) rfl ?_; (refine w_part_dec rfl rfl (fun hc11 => ?_) (fun hc11 => ?_) <;> try (first | exact absurd rfl hc11 | contradiction | exact Bool.noConfusion (show false = true from hc11.symm.trans (by assumption)) | exact Bool.noConfusion (show true = false from hc11.symm.trans (by assumption)) | (exfalso; omega) | (exfalso; simp only [*, Bool.not_true, Bool.not_false, reduceCtorEq] at hc11; done))); refine w_no rfl rfl rfl rfl ?_; refine w_no rfl rfl rfl rfl ?_; refine w_no rfl rfl rfl rfl ?_; refine w_pure (y_pick_t rfl rfl) rfl ?_; refine w_pure (y_move rfl) rfl ?_; refine w_no rfl rfl rfl rfl ?_; refine w_no rfl rfl rfl rfl ?_; refine w_no rfl rfl rfl rfl ?_; refine w_pure (y_pick_t rfl rfl) rfl ?_; refine w_nil ?_; refine x_next ?_; refine c_true rfl ?_; refine c_seq ?_; refine c_region ?_; refine w_pure (y_assign rfl) rfl ?_; refine w_nil ?_; refine x_next ?_; refine c_ret ?_; refine x_then_ret ?_; rotate_left; refine w_yes rfl rfl ?_; refine w_pure (y_load_box rfl) rfl ?_; refine w_yes rfl rfl ?_; refine w_pur rfl rfl rfl (inside_c _ _ _) rfl ?_; refine w_yes rfl rfl ?_; refine w_pure (y_not_dec rfl) rfl ?_; refine w_pure (y_pick_f rfl rfl) rfl ?_; refine w_pure (y_move rfl) rfl ?_; (refine w_part_dec rfl rfl (fun hc16 => ?_) (fun hc16 => ?_) <;> try (first | exact absurd rfl hc16 | contradiction | exact Bool.noConfusion (show false = true from hc16.symm.trans (by assumption)) | exact Bool.noConfusion (show true = false from hc16.symm.trans (by assumption)) | (exfalso; omega) | (exfalso; simp only [*, Bool.not_true, Bool.not_false, reduceCtorEq] at hc16; done))); refine w_no rfl rfl rfl rfl ?_; refine w_no rfl rfl rfl rfl ?_; refine w_no rfl rfl rfl rfl ?_; refine w_pure (y_pick_t rfl rfl) rfl ?_; refine w_nil ?_; refine x_next ?_; refine c_true rfl ?_; refine c_seq ?_; refine c_region ?_; refine w_pure (y_assign rfl) rfl ?_; refine w_nil ?_; refine x_next ?_; refine c_ret ?_; refine x_then_ret ?_; rotate_left; refine w_yes rfl rfl ?_; refine w_pure (y_move rfl) rfl ?_; refine w_yes rfl rfl ?_; refine w_val rfl rfl rfl (isPlain_c) rfl (fun w17 hx17 hz17 => ?_); have hz_hx17 := hx17.size; replace hb5 := hb5.ext hx17; replace hb4 := hb4.ext hx17; replace h := h.ext hx17; replace E := E.trans hx17; refine w_yes rfl rfl ?_; refine w_pure (y_not_dec rfl) rfl ?_; refine w_pure (y_pick_f rfl rfl) rfl ?_; refine w_nil ?_; refine x_next ?_; (refine c_dec rfl (fun hc19 => ?_) (fun hc19 => ?_) <;> try (first | exact absurd rfl hc19 | contradiction | exact Bool.noConfusion (show false = true from hc19.symm.trans (by assumption)) | exact Bool.noConfusion (show true = false from hc19.symm.trans (by assumption)) | (exfalso; omega) | (exfalso; simp only [*, Bool.not_true, Bool.not_false, reduceCtorEq] at hc19; done))); refine c_seq ?_; refine c_region ?_; refine w_pure (y_assign rfl) rfl ?_; refine w_nil ?_; refine x_next ?_; refine c_ret ?_; refine x_then_ret ?_; rotate_left; refine c_skip ?_; refine x_next ?_; refine c_seq ?_; refine c_region ?_; refine w_pure (y_move rfl) rfl ?_; refine w_pure (y_func rfl) rfl ?_; refine w_val rfl rfl rfl (ContainsFuncCopy (first := []) (cap := [ptr b4 0, ptr b5 0]) (p := fun x => decide (f ≤ x.1 ∨ t ≤ x.2)) (hp := fun x _ => ValidCopies1_c x.1 x.2 f t)) rfl (fun w22 hx22 hz22 => ?_); have hz_hx22 := hx22.size; replace hb5 := hb5.ext hx22; replace hb4 := hb4.ext hx22; replace h := h.ext hx22; replace E := E.trans hx22; refine w_pure (y_not rfl) rfl ?_; refine w_pure (y_assign rfl) rfl ?_; refine w_nil ?_; refine x_next ?_; refine c_ret ?_; rotate_left
  · exact x_retv [_] rfl ⟨rfl, trivial⟩ ⟨by rw [okCp_no1 (by omega)]; rfl, E.go⟩
  · exact x_retv [_] rfl ⟨rfl, trivial⟩ ⟨by rw [okCp_no1 (by omega)]; rfl, E.go⟩
  · exact x_retv [_] rfl ⟨rfl, trivial⟩ ⟨by rw [okCp_no2 (decide_eq_false hc19)]; rfl, E.go⟩
  · exact x_retv [_] rfl ⟨rfl, trivial⟩ ⟨by rw [okCp_yes (by omega) (decide_eq_true (Decidable.not_not.1 hc19))]; rfl, E.go⟩
theorem l10Ok_c (f t : Int) (hf : 1 ≤ f ∧ f ≤ 20 ∧ 1 ≤ t ∧ t ≤ 20 := by omega) (h : SL w lo hi v ps := by repeat (first | assumption | exact Go.Gw.Own.sl (by assumption) | exact Go.Gw.Box.at (by assumption) | exact Go.Gw.SLL.el (by first | assumption | exact Go.Gw.OwnD.sll (by assumption)) _ (by omega) | exact Go.Gw.SLL.at (by first | assumption | exact Go.Gw.OwnD.sll (by assumption)) (by omega) | exact Go.Gw.OwnD.sll (by assumption) | (apply Go.Gw.SL.chg; case hx => assumption) | (apply Go.Gw.Own.chg; case hx => assumption) | (apply Go.Gw.Box.chg; case hx => assumption) | (apply Go.Gw.At.chg; case hx => assumption) | exact .inl (Nat.zero_le _) | exact .inr (Nat.zero_le _) | (show _ ∨ _; omega))) : Val Tryz.prog 44 [v, .int .i64 f, .int .i64 t] w (.bool (okCp ps f t)) := by
  refine ⟨fun w1 hx1 => ?_⟩
  replace h := h.ext hx1
  have hsm := h.small
  have E : Since 0 0 w1 w1 := Since.refl 0 0 w1
  refine ret_enter Tryz.func44 rfl Tryz.ntmps44 rfl ?_
  focus have ht_h := h.top; refine c_seq ?_; refine c_region ?_; refine w_pure (y_assign rfl) rfl ?_; refine w_nil ?_; refine x_next ?_; refine c_seq ?_; refine c_seq ?_; refine c_region ?_; refine w_pure (y_move rfl) rfl ?_; refine w_val rfl rfl rfl (l10Plain_c) rfl (fun w9 hx9 hz9 => ?_); have hz_hx9 := hx9.size; replace h := h.ext hx9; replace E := E.trans hx9; refine w_pure (y_not_dec rfl) rfl ?_; refine w_nil ?_; refine x_next ?_; (refine c_dec rfl (fun hc10 => ?_) (fun hc10 => ?_) <;> try (first | exact absurd rfl hc10 | contradiction | exact Bool.noConfusion (show false = true from hc10.symm.trans (by assumption)) | exact Bool.noConfusion (show true = false from hc10.symm.trans (by assumption)) | (exfalso; omega) | (exfalso; simp only [*, Bool.not_true, Bool.not_false, reduceCtorEq] at hc10; done))); refine c_seq ?_; refine c_region ?_; refine w_pure (y_assign rfl) rfl ?_; refine w_nil ?_; refine x_next ?_; refine c_ret ?_; refine x_then_ret ?_; rotate_left; refine c_skip ?_; refine x_next ?_; refine c_seq ?_; refine c_seq ?_; refine c_region ?_; refine w_pure (y_assign rfl) rfl ?_; refine w_nil ?_; refine x_next ?_; refine c_block ?_; rotate_left
  · exact x_retv [_] rfl ⟨rfl, trivial⟩ ⟨by rw [okCp_no2 (decide_eq_false hc10)]; rfl, E.go⟩
  refine c_loopC 0 0 (ι := Int) (fun x => [(0, v), (1, .int .i64 f), (2, .int .i64 t), (7, .int .i64 x)]) (fun x w' => SL w' lo hi v ps ∧ 0 ≤ x ∧ x ≤ ps.length ∧ ∀ j : Nat, j < x.toNat → ¬ (f ≤ (ps.getD j (0, 0)).1 ∨ t ≤ (ps.getD j (0, 0)).2)) (fun x => (ps.length - x).toNat) 0
    (by repeat (first | exact trivial | refine ⟨rfl, ?_⟩)) ⟨h, by omega, by omega, fun j hj => by simp at hj⟩ ?_
  rintro i w2 hx2 E2 ⟨h2, hi0, hi1, hall⟩
  focus have ht_h2 := h2.top; have hz_hx2 := hx2.size; replace h := h.ext hx2; replace E := E.trans hx2; refine c_seq ?_; refine c_seq ?_; refine c_region ?_; refine w_pure (y_move rfl) rfl ?_; refine w_pure (y_move rfl) rfl ?_; refine w_pure (y_len rfl) rfl ?_; refine w_pure (y_lt rfl rfl) rfl ?_; refine w_nil ?_; refine x_next ?_; (refine c_dec rfl (fun hc14 => ?_) (fun hc14 => ?_) <;> try (first | exact absurd rfl hc14 | contradiction | exact Bool.noConfusion (show false = true from hc14.symm.trans (by assumption)) | exact Bool.noConfusion (show true = false from hc14.symm.trans (by assumption)) | (exfalso; omega) | (exfalso; simp only [*, Bool.not_true, Bool.not_false, reduceCtorEq] at hc14; done))); refine c_skip ?_; refine x_next ?_; refine c_seq ?_; refine c_block ?_; refine c_seq ?_; refine c_region ?_; refine w_pure (y_move rfl) rfl ?_; refine w_pure (y_move rfl) rfl ?_; refine w_pure (y_index rfl rfl) rfl ?_; refine w_pure (y_field rfl) rfl ?_; refine w_pure (y_load_p0 rfl) rfl ?_; refine w_pure (y_move rfl) rfl ?_; refine w_pure (y_ge rfl rfl) rfl ?_; refine w_pure (y_move rfl) rfl ?_; (refine w_part_dec rfl rfl (fun hc25 => ?_) (fun hc25 => ?_) <;> try (first | exact absurd rfl hc25 | contradiction | exact Bool.noConfusion (show false = true from hc25.symm.trans (by assumption)) | exact Bool.noConfusion (show true = false from hc25.symm.trans (by assumption)) | (exfalso; omega) | (exfalso; simp only [*, Bool.not_true, Bool.not_false, reduceCtorEq] at hc25; done))); refine w_no rfl rfl rfl rfl ?_; refine w_no rfl rfl rfl rfl ?_; refine w_no rfl rfl rfl rfl ?_; refine w_no rfl rfl rfl rfl ?_; refine w_no rfl rfl rfl rfl ?_; refine w_no rfl rfl rfl rfl ?_; refine w_no rfl rfl rfl rfl ?_; refine w_pure (y_pick_t rfl rfl) rfl ?_; refine w_nil ?_; refine x_next ?_; refine c_true rfl ?_; refine c_seq ?_; refine c_region ?_; refine w_pure (y_assign rfl) rfl ?_; refine w_nil ?_; refine x_next ?_; refine c_ret ?_; refine x_block_ret ?_; refine x_then_ret ?_; refine x_then_ret ?_; refine x_block_ret ?_; refine x_then_ret ?_; rotate_left; refine w_yes rfl rfl ?_; refine w_pure (y_move rfl) rfl ?_; refine w_yes rfl rfl ?_; refine w_pure (y_move rfl) rfl ?_; refine w_yes rfl rfl ?_; refine w_pure (y_index rfl rfl) rfl ?_; refine w_yes rfl rfl ?_; refine w_pure (y_field rfl) rfl ?_; refine w_yes rfl rfl ?_; refine w_pure (y_load_p1 rfl) rfl ?_; refine w_yes rfl rfl ?_; refine w_pure (y_move rfl) rfl ?_; refine w_yes rfl rfl ?_; refine w_pure (y_ge rfl rfl) rfl ?_; refine w_pure (y_pick_f rfl rfl) rfl ?_; refine w_nil ?_; refine x_next ?_; (refine c_dec rfl (fun hc32 => ?_) (fun hc32 => ?_) <;> try (first | exact absurd rfl hc32 | contradiction | exact Bool.noConfusion (show false = true from hc32.symm.trans (by assumption)) | exact Bool.noConfusion (show true = false from hc32.symm.trans (by assumption)) | (exfalso; omega) | (exfalso; simp only [*, Bool.not_true, Bool.not_false, reduceCtorEq] at hc32; done))); refine c_seq ?_; refine c_region ?_; refine w_pure (y_assign rfl) rfl ?_; refine w_nil ?_; refine x_next ?_; refine c_ret ?_; refine x_block_ret ?_; refine x_then_ret ?_; refine x_then_ret ?_; refine x_block_ret ?_; refine x_then_ret ?_; rotate_left; refine c_skip ?_; refine x_block_norm ?_; refine x_next ?_; refine c_region ?_; refine w_pure (y_move rfl) rfl ?_; refine w_pure (y_add rfl rfl) rfl ?_; refine w_pure (y_assign rfl) rfl ?_; refine w_nil ?_; rotate_left; refine c_exit ?_; refine x_then_exit ?_; refine x_then_exit ?_; refine x_block_hit ?_; refine x_next ?_; refine c_seq ?_; refine c_region ?_; refine w_pure (y_assign rfl) rfl ?_; refine w_nil ?_; refine x_next ?_; refine c_ret ?_; rotate_left
  · exact x_retv [_] rfl ⟨rfl, trivial⟩ ⟨by rw [okCp_no3 i.toNat (by omega) (.inl (by assumption))]; rfl, E.go⟩
  · exact x_retv [_] rfl ⟨rfl, trivial⟩ ⟨by rw [okCp_no3 i.toNat (by omega) (.inr (by assumption))]; rfl, E.go⟩
  · refine x_again (i + 1) (by repeat (first | exact trivial | refine ⟨rfl, ?_⟩)) ⟨E2.go, by assumption, by omega, by omega, fun j hj => ?_⟩ (by omega)
    by_cases ej : j = i.toNat
    · subst ej; omega
    · exact hall j (by omega)
  · exact x_retv [_] rfl ⟨rfl, trivial⟩ ⟨by rw [okCp_yes' hf (decide_eq_true (Decidable.not_not.1 hc10)) (fun j hj => hall j (by omega))]; rfl, E.go⟩
theorem sValidCopies_c (f t : Int) (h : SL w lo hi v ps := by repeat (first | assumption | exact Go.Gw.Own.sl (by assumption) | exact Go.Gw.Box.at (by assumption) | exact Go.Gw.SLL.el (by first | assumption | exact Go.Gw.OwnD.sll (by assumption)) _ (by omega) | exact Go.Gw.SLL.at (by first | assumption | exact Go.Gw.OwnD.sll (by assumption)) (by omega) | exact Go.Gw.OwnD.sll (by assumption) | (apply Go.Gw.SL.chg; case hx => assumption) | (apply Go.Gw.Own.chg; case hx => assumption) | (apply Go.Gw.Box.chg; case hx => assumption) | (apply Go.Gw.At.chg; case hx => assumption) | exact .inl (Nat.zero_le _) | exact .inr (Nat.zero_le _) | (show _ ∨ _; omega))) : Val Tryz.prog 28 [v, .int .i64 f, .int .i64 t] w (.bool (okCp ps f t)) := by
  refine ⟨fun w1 hx1 => ?_⟩
  replace h := h.ext hx1
  have E : Since 0 0 w1 w1 := Since.refl 0 0 w1
  refine ret_enter Tryz.func28 rfl Tryz.ntmps28 rfl ?_
  focus have ht_h := h.top; refine c_seq ?_; refine c_region ?_; refine w_pure (y_assign rfl) rfl ?_; refine w_nil ?_; refine x_next ?_; refine c_seq ?_; refine c_region ?_; refine w_pure (y_move rfl) rfl ?_; refine w_pur rfl rfl rfl (l00In_c _ _ _) rfl ?_; refine w_pure (y_move rfl) rfl ?_; (refine w_part_dec rfl rfl (fun hc10 => ?_) (fun hc10 => ?_) <;> try (first | exact absurd rfl hc10 | contradiction | exact Bool.noConfusion (show false = true from hc10.symm.trans (by assumption)) | exact Bool.noConfusion (show true = false from hc10.symm.trans (by assumption)) | (exfalso; omega) | (exfalso; simp only [*, Bool.not_true, Bool.not_false, reduceCtorEq] at hc10; done))); refine w_yes rfl rfl ?_; refine w_pure (y_move rfl) rfl ?_; refine w_yes rfl rfl ?_; refine w_pur rfl rfl rfl (l00In_c _ _ _) rfl ?_; refine w_pure (y_pick_t rfl rfl) rfl ?_; refine w_pure (y_move rfl) rfl ?_; (refine w_part_dec rfl rfl (fun hc14 => ?_) (fun hc14 => ?_) <;> try (first | exact absurd rfl hc14 | contradiction | exact Bool.noConfusion (show false = true from hc14.symm.trans (by assumption)) | exact Bool.noConfusion (show true = false from hc14.symm.trans (by assumption)) | (exfalso; omega) | (exfalso; simp only [*, Bool.not_true, Bool.not_false, reduceCtorEq] at hc14; done))); refine w_yes rfl rfl ?_; refine w_pure (y_move rfl) rfl ?_; refine w_yes rfl rfl ?_; refine w_pure (y_move rfl) rfl ?_; refine w_yes rfl rfl ?_; refine w_pure (y_move rfl) rfl ?_; refine w_yes rfl rfl ?_; refine w_val rfl rfl rfl (l10Ok_c _ _) rfl (fun w17 hx17 hz17 => ?_); have hz_hx17 := hx17.size; replace h := h.ext hx17; replace E := E.trans hx17; refine w_pure (y_pick_t rfl rfl) rfl ?_; refine w_pure (y_assign rfl) rfl ?_; refine w_nil ?_; refine x_next ?_; refine c_ret ?_; rotate_left; refine w_no rfl rfl rfl rfl ?_; refine w_no rfl rfl rfl rfl ?_; refine w_no rfl rfl rfl rfl ?_; refine w_no rfl rfl rfl rfl ?_; refine w_pure (y_pick_f rfl rfl) rfl ?_; refine w_pure (y_assign rfl) rfl ?_; refine w_nil ?_; refine x_next ?_; refine c_ret ?_; rotate_left; refine w_no rfl rfl rfl rfl ?_; refine w_no rfl rfl rfl rfl ?_; refine w_pure (y_pick_f rfl rfl) rfl ?_; refine w_pure (y_move rfl) rfl ?_; refine w_no rfl rfl rfl rfl ?_; refine w_no rfl rfl rfl rfl ?_; refine w_no rfl rfl rfl rfl ?_; refine w_no rfl rfl rfl rfl ?_; refine w_pure (y_pick_f rfl rfl) rfl ?_; refine w_pure (y_assign rfl) rfl ?_; refine w_nil ?_; refine x_next ?_; refine c_ret ?_; rotate_left
  · exact x_retv [_] rfl ⟨rfl, trivial⟩ ⟨rfl, E.go⟩
  · exact x_retv [_] rfl ⟨rfl, trivial⟩ ⟨by rw [okCp_no1 (by omega)]; rfl, E.go⟩
  · exact x_retv [_] rfl ⟨rfl, trivial⟩ ⟨by rw [okCp_no1 (by omega)]; rfl, E.go⟩
end
end Go.Proofs.YtcbpiaehkodliaaGreatDoor
/- CpyB -/
namespace Go.Proofs.YtcbpiaehkodliaaGreatDoor
open Go Go.Gw
set_option linter.unusedVariables false
set_option linter.unusedSimpArgs false
theorem map_take_succ {α β : Type} {d : α} (g : α → β) {xs : List α} {i : Nat} (h : i < xs.length) : (xs.take (i + 1)).map g = (xs.take i).map g ++ [g (xs.getD i d)] := by
  rw [List.take_add_one, List.getD_eq_getElem?_getD, List.getElem?_eq_getElem h, List.map_append]; rfl
theorem map_take_len {α β : Type} (g : α → β) {xs : List α} {i : Nat} (h : i ≤ xs.length) : ((xs.take i).map g).length = i := by simp; omega
/-- a card's columns are in range -/
def Rng (xs : List Int) : Prop := ∀ i, i < xs.length → 0 ≤ xs.getD i 0 ∧ xs.getD i 0 ≤ 4095
theorem rng_of {xs : List Int} (h : okK xs = true) : Rng xs := okK_getD h
theorem rng_zero (k : Nat) : Rng (List.replicate k 0) := fun i hi => by
  simp only [List.length_replicate] at hi
  simp [List.getD_eq_getElem?_getD, List.getElem?_replicate, hi]
section
variable {w : World} {lo hi lo' hi' l2 h2 e b b' o o' : Nat} {v v' v2 d : Value} {xs ys : List Int} {ps : List (Int × Int)} {xss : List (List Int)} {svs : List SV} {f t : Int}
theorem copied_c (h : SL w lo hi v ys := by repeat (first | assumption | exact Go.Gw.Own.sl (by assumption) | exact Go.Gw.Box.at (by assumption) | exact Go.Gw.SLL.el (by first | assumption | exact Go.Gw.OwnD.sll (by assumption)) _ (by omega) | exact Go.Gw.SLL.at (by first | assumption | exact Go.Gw.OwnD.sll (by assumption)) (by omega) | exact Go.Gw.OwnD.sll (by assumption) | (apply Go.Gw.SL.chg; case hx => assumption) | (apply Go.Gw.Own.chg; case hx => assumption) | (apply Go.Gw.Box.chg; case hx => assumption) | (apply Go.Gw.At.chg; case hx => assumption) | exact .inl (Nat.zero_le _) | exact .inr (Nat.zero_le _) | (show _ ∨ _; omega))) (h' : SL w lo' hi' v' xs := by repeat (first | assumption | exact Go.Gw.Own.sl (by assumption) | exact Go.Gw.Box.at (by assumption) | exact Go.Gw.SLL.el (by first | assumption | exact Go.Gw.OwnD.sll (by assumption)) _ (by omega) | exact Go.Gw.SLL.at (by first | assumption | exact Go.Gw.OwnD.sll (by assumption)) (by omega) | exact Go.Gw.OwnD.sll (by assumption) | (apply Go.Gw.SL.chg; case hx => assumption) | (apply Go.Gw.Own.chg; case hx => assumption) | (apply Go.Gw.Box.chg; case hx => assumption) | (apply Go.Gw.At.chg; case hx => assumption) | exact .inl (Nat.zero_le _) | exact .inr (Nat.zero_le _) | (show _ ∨ _; omega))) (hl : SL w l2 h2 v2 ps := by repeat (first | assumption | exact Go.Gw.Own.sl (by assumption) | exact Go.Gw.Box.at (by assumption) | exact Go.Gw.SLL.el (by first | assumption | exact Go.Gw.OwnD.sll (by assumption)) _ (by omega) | exact Go.Gw.SLL.at (by first | assumption | exact Go.Gw.OwnD.sll (by assumption)) (by omega) | exact Go.Gw.OwnD.sll (by assumption) | (apply Go.Gw.SL.chg; case hx => assumption) | (apply Go.Gw.Own.chg; case hx => assumption) | (apply Go.Gw.Box.chg; case hx => assumption) | (apply Go.Gw.At.chg; case hx => assumption) | exact .inl (Nat.zero_le _) | exact .inr (Nat.zero_le _) | (show _ ∨ _; omega))) (hx : Rng xs := by assumption) (hy : Rng ys := by assumption) (hc : okCp ps f t = true := by assumption) (hf : f = xs.length := by first | assumption | omega) (ht : t = ys.length := by first | assumption | omega) :
    Ret Tryz.prog 35 [.agg #[v], .agg #[v'], v2] w fun u w' => ∃ d, u = .agg #[d] ∧ Own w' 2 w.heap.size d (copyF xs ps ys ps.length) ∧ Ext w w' := by
  have hb := okCp_bd hc
  have hsm := hl.small
  have E : Since 0 0 w w := Since.refl 0 0 w
  refine ret_enter Tryz.func35 rfl Tryz.ntmps35 rfl ?_
  focus have ht_h := h.top; have ht_h' := h'.top; have ht_hl := hl.top; refine c_seq ?_; refine c_region ?_; refine w_box rfl (k := fun b3 w3 hb3 hx3 hl3 hs3 => ?_); have hz_hx3 := hx3.size; replace h := h.ext hx3; replace h' := h'.ext hx3; replace hl := hl.ext hx3; replace E := E.trans hx3; refine w_box rfl (k := fun b4 w4 hb4 hx4 hl4 hs4 => ?_); have hz_hx4 := hx4.size; replace hb3 := hb3.ext hx4; replace h := h.ext hx4; replace h' := h'.ext hx4; replace hl := hl.ext hx4; replace E := E.trans hx4; refine w_alloc (k := fun b6 w6 hb6 hx6 hl6 hs6 => ?_); have hz_hx6 := hx6.size; replace hb4 := hb4.ext hx6; replace hb3 := hb3.ext hx6; replace h := h.ext hx6; replace h' := h'.ext hx6; replace hl := hl.ext hx6; replace E := E.trans hx6; refine w_nil ?_; refine x_next ?_; refine c_seq ?_; refine c_region ?_; refine w_pure (y_load_boxs rfl) rfl ?_; (refine w_call rfl rfl rfl (newCard_c) rfl ?_; rintro _ w11 ⟨d11, ⟨rfl, ⟨hp1_11, hx11⟩⟩⟩); have hl_hp1_11 := hp1_11.lt; have hz_hx11 := hx11.size; replace hb6 := hb6.ext hx11; replace hb4 := hb4.ext hx11; replace hb3 := hb3.ext hx11; replace h := h.ext hx11; replace h' := h'.ext hx11; replace hl := hl.ext hx11; replace E := E.trans hx11; refine w_alloc (k := fun b7 w7 hb7 hx7 hl7 hs7 => ?_); have hz_hx7 := hx7.size; replace hp1_11 := hp1_11.ext hx7; replace hb6 := hb6.ext hx7; replace hb4 := hb4.ext hx7; replace hb3 := hb3.ext hx7; replace h := h.ext hx7; replace h' := h'.ext hx7; replace hl := hl.ext hx7; replace E := E.trans hx7; refine w_store_boxs rfl rfl (next := fun ws13 hbs13 hxs13 hss13 => ?_); (replace hb7 := hbs13; clear hbs13); have hz_hxs13 := hxs13.size; replace hp1_11 := hp1_11.chg hxs13 (by omega); replace hb6 := hb6.chg hxs13 (by omega); replace hb4 := hb4.chg hxs13 (by omega); replace hb3 := hb3.chg hxs13 (by omega); replace h := h.chg hxs13 (by omega); replace h' := h'.chg hxs13 (by omega); replace hl := hl.chg hxs13 (by omega); replace E := E.next hxs13 (by omega); refine w_nil ?_; refine x_next ?_; refine c_seq ?_; refine c_seq ?_; refine c_region ?_; refine w_pure (y_move rfl) rfl ?_; refine w_pure (y_len rfl) rfl ?_; refine w_pure (y_move rfl) rfl ?_; refine w_nil ?_; refine x_next ?_; refine c_block ?_; rotate_left
  refine c_loopC (bL d11) (bH d11) (ι := Int) (fun x => [(4, ptr b4 0), (6, ptr b6 0), (7, ptr b7 0), (12, v2), (13, .int .i64 ps.length), (14, .int .i64 x)])
    (fun x w' => SL w' lo' hi' v' xs ∧ SL w' l2 h2 v2 ps ∧ Box w' b4 [v'] ∧ Box w' b6 [.slice none 0 0] ∧ Box w' b7 [d11] ∧ Own w' 2 w.heap.size d11 (copyF xs ps ys x.toNat) ∧ 0 ≤ x ∧ x ≤ ps.length) (fun x => (ps.length - x).toNat) 0
    (by repeat (first | exact trivial | refine ⟨rfl, ?_⟩)) ⟨by assumption, by assumption, by assumption, by assumption, by assumption, Own.base (by assumption) (by omega), by omega, by omega⟩ ?_
  clear hp1_11 hb4 hb6 hb7
  rintro i w2' hx2 E2 ⟨g1, g2, g3, g4, g5, g6, hi0, hi1⟩
  have hlen : (copyF xs ps ys i.toNat).length = ys.length := copyF_len _ _ _ _
  have hat : i < ps.length → 0 ≤ (ps.getD i.toNat (0, 0)).1 ∧ (ps.getD i.toNat (0, 0)).1 < xs.length ∧ 0 ≤ (ps.getD i.toNat (0, 0)).2 ∧ (ps.getD i.toNat (0, 0)).2 < ys.length := fun hh => by have := okCp_at hc i.toNat (by omega); omega
  have hv1 : i < ps.length → 0 ≤ (copyF xs ps ys i.toNat).getD (ps.getD i.toNat (0, 0)).2.toNat 0 ∧ (copyF xs ps ys i.toNat).getD (ps.getD i.toNat (0, 0)).2.toNat 0 ≤ 4095 := fun hh => copyF_bd hx hy f t hc hf i.toNat (by omega) _ (by have := hat hh; omega)
  have hv2 : i < ps.length → 0 ≤ xs.getD (ps.getD i.toNat (0, 0)).1.toNat 0 ∧ xs.getD (ps.getD i.toNat (0, 0)).1.toNat 0 ≤ 4095 := fun hh => hx _ (by have := hat hh; omega)
  have e1 : (i + 1).toNat = i.toNat + 1 := by omega
  focus have ht_g1 := g1.top; have ht_g2 := g2.top; have hl_g6 := g6.lt; have hz_hx2 := hx2.size; replace hb3 := hb3.chg hx2 (by omega); replace h := h.chg hx2 (by omega); replace h' := h'.chg hx2 (by omega); replace hl := hl.chg hx2 (by omega); replace E := E.next hx2 (by omega); refine c_seq ?_; refine c_region ?_; refine w_pure (y_lt rfl rfl) rfl ?_; refine w_nil ?_; refine x_next ?_; refine c_seq ?_; (refine c_dec rfl (fun hc15 => ?_) (fun hc15 => ?_) <;> try (first | exact absurd rfl hc15 | contradiction | exact Bool.noConfusion (show false = true from hc15.symm.trans (by assumption)) | exact Bool.noConfusion (show true = false from hc15.symm.trans (by assumption)) | (exfalso; omega) | (exfalso; simp only [*, Bool.not_true, Bool.not_false, reduceCtorEq] at hc15; done))); refine c_skip ?_; refine x_next ?_; refine c_seq ?_; refine c_block ?_; refine c_seq ?_; refine c_region ?_; refine w_pure (y_index rfl rfl) rfl ?_; refine w_pure (y_load_pair rfl) rfl ?_; refine w_alloc (k := fun b9 w9 hb9 hx9 hl9 hs9 => ?_); have hz_hx9 := hx9.size; replace E2 := E2.next hx9 (by omega); replace g1 := g1.ext hx9; replace g2 := g2.ext hx9; replace g3 := g3.ext hx9; replace g4 := g4.ext hx9; replace g5 := g5.ext hx9; replace g6 := g6.ext hx9; replace hb3 := hb3.ext hx9; replace h := h.ext hx9; replace h' := h'.ext hx9; replace hl := hl.ext hx9; replace E := E.trans hx9; refine w_store_boxs rfl rfl (next := fun ws17 hbs17 hxs17 hss17 => ?_); (replace hb9 := hbs17; clear hbs17); have hz_hxs17 := hxs17.size; replace E2 := E2.next hxs17 (by omega); replace g1 := g1.chg hxs17 (by omega); replace g2 := g2.chg hxs17 (by omega); replace g3 := g3.chg hxs17 (by omega); replace g4 := g4.chg hxs17 (by omega); replace g5 := g5.chg hxs17 (by omega); replace g6 := g6.chg hxs17 (by omega); replace hb3 := hb3.chg hxs17 (by omega); replace h := h.chg hxs17 (by omega); replace h' := h'.chg hxs17 (by omega); replace hl := hl.chg hxs17 (by omega); replace E := E.next hxs17 (by omega); refine w_nil ?_; refine x_next ?_; refine c_region_held mixed (fun wr5 hxr5 hzr5 => ?_); have hz_hxr5 := hxr5.size; replace hb9 := hb9.ext hxr5; replace E2 := E2.next hxr5 (by omega); replace g1 := g1.ext hxr5; replace g2 := g2.ext hxr5; replace g3 := g3.ext hxr5; replace g4 := g4.ext hxr5; replace g5 := g5.ext hxr5; replace g6 := g6.ext hxr5; replace hb3 := hb3.ext hxr5; replace h := h.ext hxr5; replace h' := h'.ext hxr5; replace hl := hl.ext hxr5; replace E := E.trans hxr5; refine h_pure rfl (y_field rfl) rfl ?_; refine h_pure rfl (y_load_box rfl) rfl ?_; refine h_pure rfl (y_field rfl) rfl ?_; refine h_pure rfl (y_load_box rfl) rfl ?_; refine h_pure rfl (y_index rfl rfl) rfl ?_; refine h_pure rfl (y_load_int rfl) rfl ?_; refine h_pure rfl (y_field rfl) rfl ?_; refine h_pure rfl (y_load_box rfl) rfl ?_; refine h_pure rfl (y_field rfl) rfl ?_; refine h_pure rfl (y_load_box rfl) rfl ?_; refine h_pure rfl (y_index rfl rfl) rfl ?_; refine h_pure rfl (y_load_int rfl) rfl ?_; refine h_pure rfl (y_or rfl rfl) rfl ?_; refine h_pure rfl (y_index rfl rfl) rfl ?_; refine h_one rfl ?_; refine w_store_own rfl rfl (next := fun ws36 hos36 hxs36 hss36 => ?_); (replace g6 := hos36; clear hos36); have hz_hxs36 := hxs36.size; replace hb9 := hb9.chg hxs36 (by omega); replace E2 := E2.trans hxs36; replace g1 := g1.chg hxs36 (by omega); replace g2 := g2.chg hxs36 (by omega); replace g3 := g3.chg hxs36 (by omega); replace g4 := g4.chg hxs36 (by omega); replace g5 := g5.chg hxs36 (by omega); replace hb3 := hb3.chg hxs36 (by omega); replace h := h.chg hxs36 (by omega); replace h' := h'.chg hxs36 (by omega); replace hl := hl.chg hxs36 (by omega); replace E := E.next hxs36 (by omega); refine w_nil ?_; refine x_heldk ?_; refine h_nil ?_; refine x_block_norm ?_; refine x_next ?_; refine c_region ?_; refine w_pure (y_add rfl rfl) rfl ?_; refine w_pure (y_move rfl) rfl ?_; refine w_nil ?_; rotate_left; refine c_exit ?_; refine x_then_exit ?_; refine x_then_exit ?_; refine x_block_hit ?_; refine x_next ?_; refine c_seq ?_; refine c_region ?_; refine w_pure (y_load_boxs rfl) rfl ?_; refine w_store_boxs rfl rfl (next := fun ws55 hbs55 hxs55 hss55 => ?_); (replace g4 := hbs55; clear hbs55); have hz_hxs55 := hxs55.size; replace g1 := g1.chg hxs55 (by omega); replace g2 := g2.chg hxs55 (by omega); replace g3 := g3.chg hxs55 (by omega); replace g5 := g5.chg hxs55 (by omega); replace g6 := g6.chg hxs55 (by omega); replace hb3 := hb3.chg hxs55 (by omega); replace h := h.chg hxs55 (by omega); replace h' := h'.chg hxs55 (by omega); replace hl := hl.chg hxs55 (by omega); replace E := E.next hxs55 (by omega); refine w_nil ?_; refine x_next ?_; refine c_ret ?_; rotate_left
  · refine x_again (i + 1) (by repeat (first | exact trivial | refine ⟨rfl, ?_⟩)) ⟨E2.go, by assumption, by assumption, by assumption, by assumption, by assumption, ?_, by omega, by omega⟩ (by omega)
    rw [e1]; assumption
  · refine x_retv [_] rfl ⟨⟨_, rfl, run_load_str (Box.at (by assumption)) (by rfl)⟩, trivial⟩ ⟨_, rfl, ?_, E.go⟩
    rw [show i.toNat = ps.length by omega] at g6
    exact g6
theorem l10Copy_c (hp : At w b o [v'] := by repeat (first | assumption | exact Go.Gw.Own.sl (by assumption) | exact Go.Gw.Box.at (by assumption) | exact Go.Gw.SLL.el (by first | assumption | exact Go.Gw.OwnD.sll (by assumption)) _ (by omega) | exact Go.Gw.SLL.at (by first | assumption | exact Go.Gw.OwnD.sll (by assumption)) (by omega) | exact Go.Gw.OwnD.sll (by assumption) | (apply Go.Gw.SL.chg; case hx => assumption) | (apply Go.Gw.Own.chg; case hx => assumption) | (apply Go.Gw.Box.chg; case hx => assumption) | (apply Go.Gw.At.chg; case hx => assumption) | exact .inl (Nat.zero_le _) | exact .inr (Nat.zero_le _) | (show _ ∨ _; omega))) (hp' : At w b' o' [d] := by repeat (first | assumption | exact Go.Gw.Own.sl (by assumption) | exact Go.Gw.Box.at (by assumption) | exact Go.Gw.SLL.el (by first | assumption | exact Go.Gw.OwnD.sll (by assumption)) _ (by omega) | exact Go.Gw.SLL.at (by first | assumption | exact Go.Gw.OwnD.sll (by assumption)) (by omega) | exact Go.Gw.OwnD.sll (by assumption) | (apply Go.Gw.SL.chg; case hx => assumption) | (apply Go.Gw.Own.chg; case hx => assumption) | (apply Go.Gw.Box.chg; case hx => assumption) | (apply Go.Gw.At.chg; case hx => assumption) | exact .inl (Nat.zero_le _) | exact .inr (Nat.zero_le _) | (show _ ∨ _; omega))) (h : SL w (bL d) (bH d) d ys := by repeat (first | assumption | exact Go.Gw.Own.sl (by assumption) | exact Go.Gw.Box.at (by assumption) | exact Go.Gw.SLL.el (by first | assumption | exact Go.Gw.OwnD.sll (by assumption)) _ (by omega) | exact Go.Gw.SLL.at (by first | assumption | exact Go.Gw.OwnD.sll (by assumption)) (by omega) | exact Go.Gw.OwnD.sll (by assumption) | (apply Go.Gw.SL.chg; case hx => assumption) | (apply Go.Gw.Own.chg; case hx => assumption) | (apply Go.Gw.Box.chg; case hx => assumption) | (apply Go.Gw.At.chg; case hx => assumption) | exact .inl (Nat.zero_le _) | exact .inr (Nat.zero_le _) | (show _ ∨ _; omega))) (h' : SL w lo' hi' v' xs := by repeat (first | assumption | exact Go.Gw.Own.sl (by assumption) | exact Go.Gw.Box.at (by assumption) | exact Go.Gw.SLL.el (by first | assumption | exact Go.Gw.OwnD.sll (by assumption)) _ (by omega) | exact Go.Gw.SLL.at (by first | assumption | exact Go.Gw.OwnD.sll (by assumption)) (by omega) | exact Go.Gw.OwnD.sll (by assumption) | (apply Go.Gw.SL.chg; case hx => assumption) | (apply Go.Gw.Own.chg; case hx => assumption) | (apply Go.Gw.Box.chg; case hx => assumption) | (apply Go.Gw.At.chg; case hx => assumption) | exact .inl (Nat.zero_le _) | exact .inr (Nat.zero_le _) | (show _ ∨ _; omega))) (hl : SL w l2 h2 v2 ps := by repeat (first | assumption | exact Go.Gw.Own.sl (by assumption) | exact Go.Gw.Box.at (by assumption) | exact Go.Gw.SLL.el (by first | assumption | exact Go.Gw.OwnD.sll (by assumption)) _ (by omega) | exact Go.Gw.SLL.at (by first | assumption | exact Go.Gw.OwnD.sll (by assumption)) (by omega) | exact Go.Gw.OwnD.sll (by assumption) | (apply Go.Gw.SL.chg; case hx => assumption) | (apply Go.Gw.Own.chg; case hx => assumption) | (apply Go.Gw.Box.chg; case hx => assumption) | (apply Go.Gw.At.chg; case hx => assumption) | exact .inl (Nat.zero_le _) | exact .inr (Nat.zero_le _) | (show _ ∨ _; omega))) (hx : Rng xs := by assumption) (hy : Rng ys := by assumption) (hc : okCp ps f t = true := by assumption) (hf : f = xs.length := by first | assumption | omega) (ht : t = ys.length := by first | assumption | omega)
    (hd : (bH d ≤ lo' ∨ hi' ≤ bL d) ∧ (bH d ≤ l2 ∨ h2 ≤ bL d) ∧ (b < bL d ∨ bH d ≤ b) ∧ (b' < bL d ∨ bH d ≤ b') := by omega) :
    Ret Tryz.prog 38 [ptr b o, ptr b' o', v2] w fun u w' => u = .tuple #[] ∧ SL w' (bL d) (bH d) d (copyF xs ps ys ps.length) ∧ Chg (bL d) (bH d) w w' := by
  have hb := okCp_bd hc
  have hsm := hl.small
  refine ret_enter Tryz.func38 rfl Tryz.ntmps38 rfl ?_
  focus have ht_h := h.top; have ht_h' := h'.top; have ht_hl := hl.top; refine c_seq ?_; refine c_region ?_; refine w_pure (y_assign rfl) rfl ?_; refine w_nil ?_; refine x_next ?_; refine c_block ?_; rotate_left
  refine c_loopC (bL d) (bH d) (ι := Int) (fun x => [(0, ptr b o), (1, ptr b' o'), (2, v2), (6, .int .i64 x)])
    (fun x w' => At w' b o [v'] ∧ At w' b' o' [d] ∧ SL w' lo' hi' v' xs ∧ SL w' l2 h2 v2 ps ∧ SL w' (bL d) (bH d) d (copyF xs ps ys x.toNat) ∧ 0 ≤ x ∧ x ≤ ps.length) (fun x => (ps.length - x).toNat) 0
    (by repeat (first | exact trivial | refine ⟨rfl, ?_⟩)) ⟨hp, hp', h', hl, h, by omega, by omega⟩ ?_
  rintro i w2' hx2 E2 ⟨g1, g2, g3, g4, g5, hi0, hi1⟩
  have hlen : (copyF xs ps ys i.toNat).length = ys.length := copyF_len _ _ _ _
  have hat : i < ps.length → 0 ≤ (ps.getD i.toNat (0, 0)).1 ∧ (ps.getD i.toNat (0, 0)).1 < xs.length ∧ 0 ≤ (ps.getD i.toNat (0, 0)).2 ∧ (ps.getD i.toNat (0, 0)).2 < ys.length := fun hh => by have := okCp_at hc i.toNat (by omega); omega
  have hv1 : i < ps.length → 0 ≤ (copyF xs ps ys i.toNat).getD (ps.getD i.toNat (0, 0)).2.toNat 0 ∧ (copyF xs ps ys i.toNat).getD (ps.getD i.toNat (0, 0)).2.toNat 0 ≤ 4095 := fun hh => copyF_bd hx hy f t hc hf i.toNat (by omega) _ (by have := hat hh; omega)
  have hv2 : i < ps.length → 0 ≤ xs.getD (ps.getD i.toNat (0, 0)).1.toNat 0 ∧ xs.getD (ps.getD i.toNat (0, 0)).1.toNat 0 ≤ 4095 := fun hh => hx _ (by have := hat hh; omega)
  have e1 : (i + 1).toNat = i.toNat + 1 := by omega
  have hin := g5.block (by omega)
  focus have ht_g3 := g3.top; have ht_g4 := g4.top; have ht_g5 := g5.top; have hz_hx2 := hx2.size; replace hp := hp.chg hx2 (by omega); replace hp' := hp'.chg hx2 (by omega); replace h' := h'.chg hx2 (by omega); replace hl := hl.chg hx2 (by omega); refine c_seq ?_; refine c_seq ?_; refine c_region ?_; refine w_pure (y_move rfl) rfl ?_; refine w_pure (y_move rfl) rfl ?_; refine w_pure (y_len rfl) rfl ?_; refine w_pure (y_lt rfl rfl) rfl ?_; refine w_nil ?_; refine x_next ?_; (refine c_dec rfl (fun hc10 => ?_) (fun hc10 => ?_) <;> try (first | exact absurd rfl hc10 | contradiction | exact Bool.noConfusion (show false = true from hc10.symm.trans (by assumption)) | exact Bool.noConfusion (show true = false from hc10.symm.trans (by assumption)) | (exfalso; omega) | (exfalso; simp only [*, Bool.not_true, Bool.not_false, reduceCtorEq] at hc10; done))); refine c_skip ?_; refine x_next ?_; refine c_seq ?_; refine c_block ?_; refine c_region_held mixed (fun wr3 hxr3 hzr3 => ?_); have hz_hxr3 := hxr3.size; replace E2 := E2.next hxr3 (by omega); replace g1 := g1.ext hxr3; replace g2 := g2.ext hxr3; replace g3 := g3.ext hxr3; replace g4 := g4.ext hxr3; replace g5 := g5.ext hxr3; replace hp := hp.ext hxr3; replace hp' := hp'.ext hxr3; replace h' := h'.ext hxr3; replace hl := hl.ext hxr3; refine h_pure rfl (y_move rfl) rfl ?_; refine h_pure rfl (y_nil rfl) rfl ?_; refine h_pure rfl (y_field rfl) rfl ?_; refine h_pure rfl (y_loadk rfl) rfl ?_; refine h_pure rfl (y_move rfl) rfl ?_; refine h_pure rfl (y_move rfl) rfl ?_; refine h_pure rfl (y_index rfl rfl) rfl ?_; refine h_pure rfl (y_field rfl) rfl ?_; refine h_pure rfl (y_load_p1 rfl) rfl ?_; refine h_pure rfl (y_index rfl rfl) rfl ?_; refine h_pure rfl (y_load_int rfl) rfl ?_; refine h_pure rfl (y_move rfl) rfl ?_; refine h_pure rfl (y_nil rfl) rfl ?_; refine h_pure rfl (y_field rfl) rfl ?_; refine h_pure rfl (y_loadk rfl) rfl ?_; refine h_pure rfl (y_move rfl) rfl ?_; refine h_pure rfl (y_move rfl) rfl ?_; refine h_pure rfl (y_index rfl rfl) rfl ?_; refine h_pure rfl (y_field rfl) rfl ?_; refine h_pure rfl (y_load_p0 rfl) rfl ?_; refine h_pure rfl (y_index rfl rfl) rfl ?_; refine h_pure rfl (y_load_int rfl) rfl ?_; refine h_pure rfl (y_or rfl rfl) rfl ?_; refine h_pure rfl (y_index rfl rfl) rfl ?_; refine h_one rfl ?_; refine w_store_sl rfl rfl (next := fun ws41 hos41 hxs41 hss41 => ?_); (replace h := hos41; clear hos41); have hz_hxs41 := hxs41.size; replace E2 := E2.next hxs41 (by omega); replace g1 := g1.chg hxs41 (by omega); replace g2 := g2.chg hxs41 (by omega); replace g3 := g3.chg hxs41 (by omega); replace g4 := g4.chg hxs41 (by omega); replace hp := hp.chg hxs41 (by omega); replace hp' := hp'.chg hxs41 (by omega); replace h' := h'.chg hxs41 (by omega); replace hl := hl.chg hxs41 (by omega); refine w_nil ?_; refine x_heldk ?_; refine h_nil ?_; refine x_block_norm ?_; refine x_next ?_; refine c_region ?_; refine w_pure (y_move rfl) rfl ?_; refine w_pure (y_add rfl rfl) rfl ?_; refine w_pure (y_assign rfl) rfl ?_; refine w_nil ?_; rotate_left; refine c_exit ?_; refine x_then_exit ?_; refine x_then_exit ?_; refine x_block_hit ?_; rotate_left
  · refine x_again (i + 1) (by repeat (first | exact trivial | refine ⟨rfl, ?_⟩)) ⟨E2.go, by assumption, by assumption, by assumption, by assumption, ?_, by omega, by omega⟩ (by omega)
    rw [e1]; assumption
  · refine x_end0 rfl ⟨_, rfl, rfl, ?_, E2.go⟩
    rw [show i.toNat = ps.length by omega] at g5
    exact g5
end
end Go.Proofs.YtcbpiaehkodliaaGreatDoor
/- RepA -/
namespace Go.Proofs.YtcbpiaehkodliaaGreatDoor
open Go Go.Gw
set_option linter.unusedVariables false
set_option linter.unusedSimpArgs false
def cRep (xss : List (List Int)) (ps : List (Int × Int)) (k : Int) : Int := if okD xss = true then (if okCp ps (widD xss) k = true then 0 else 2) else 1
def repF (ps : List (Int × Int)) (k : Int) (xs : List Int) : List Int := copyF xs ps (List.replicate k.toNat 0) ps.length
def resRep (xss : List (List Int)) (ps : List (Int × Int)) (k : Int) : List (List Int) := if cRep xss ps k = 0 then xss.map (repF ps k) else []
theorem take_map_all {α β : Type} (g : α → β) {xs : List α} {i : Nat} (h : i = xs.length) : (xs.take i).map g = xs.map g := by rw [List.take_of_length_le (by omega)]
theorem cRep_1 {xss : List (List Int)} {ps : List (Int × Int)} {k : Int} (h : okD xss = false) : cRep xss ps k = 1 := by simp [cRep, h]
theorem cRep_2 {xss : List (List Int)} {ps : List (Int × Int)} {k : Int} (h : okD xss = true) (h2 : okCp ps (widD xss) k = false) : cRep xss ps k = 2 := by simp [cRep, h, h2]
theorem cRep_0 {xss : List (List Int)} {ps : List (Int × Int)} {k : Int} (h : okD xss = true) (h2 : okCp ps (widD xss) k = true) : cRep xss ps k = 0 := by simp [cRep, h, h2]
theorem totD_lem {xss : List (List Int)} (m : Nat) (h : ∀ i, i < xss.length → (xss.getD i []).length ≤ m) : totD xss ≤ xss.length * m := by
  have : ∀ j, j ≤ xss.length → tot xss j ≤ j * m := by
    intro j
    induction j with
    | zero => intro _; simp [tot_zero]
    | succ j ih =>
      intro hj
      rw [tot_succ (by omega), Nat.succ_mul]
      have := ih (by omega)
      have := h j (by omega)
      omega
  exact this _ (Nat.le_refl _)
theorem map_getD {α β : Type} {d : α} {d' : β} (g : α → β) {xs : List α} {i : Nat} (h : i < xs.length) : (xs.map g).getD i d' = g (xs.getD i d) := by
  rw [List.getD_eq_getElem?_getD, List.getElem?_map, List.getElem?_eq_getElem h, List.getD_eq_getElem?_getD, List.getElem?_eq_getElem h]; rfl
theorem resRep_bd (xss : List (List Int)) (ps : List (Int × Int)) (k : Int) : totD (resRep xss ps k) ≤ 800 ∧ (resRep xss ps k).length ≤ 40 := by
  unfold resRep
  split
  · rename_i h
    cases hk : okD xss
    · rw [cRep_1 hk] at h; cases h
    cases hk2 : okCp ps (widD xss) k
    · rw [cRep_2 hk hk2] at h; cases h
    have hb := okCp_bd hk2
    have hb2 := okD_len hk
    have h1 := totD_lem (xss := xss.map (repF ps k)) 20 (fun i hi => by
      simp only [List.length_map] at hi
      rw [map_getD (d := []) _ hi, repF, copyF_len]
      simp; omega)
    simp only [List.length_map] at h1 ⊢
    omega
  · simp [totD, tot]
section
variable {w : World} {lo hi lo' hi' l2 h2 e b b' o o' : Nat} {v v' v2 d : Value} {xs ys : List Int} {ps : List (Int × Int)} {xss : List (List Int)} {svs : List SV} {f t : Int}
end
end Go.Proofs.YtcbpiaehkodliaaGreatDoor
/- RepB -/
namespace Go.Proofs.YtcbpiaehkodliaaGreatDoor
open Go Go.Gw
set_option linter.unusedVariables false
set_option linter.unusedSimpArgs false
def cGng (ms : List Int) (xss : List (List Int)) (ps : List (Int × Int)) : Int := if okK ms = true ∧ okD xss = true then (if okCp ps ms.length (widD xss) = true then 0 else 2) else 1
def gngF (ms : List Int) (ps : List (Int × Int)) (xs : List Int) : List Int := copyF ms ps xs ps.length
def resGng (ms : List Int) (xss : List (List Int)) (ps : List (Int × Int)) : List (List Int) := if cGng ms xss ps = 0 then xss.map (gngF ms ps) else []
theorem cGng_1 {ms : List Int} {xss : List (List Int)} {ps : List (Int × Int)} (h : okK ms = false ∨ okD xss = false) : cGng ms xss ps = 1 := by
  rw [cGng, if_neg]; rintro ⟨h1, h2⟩; simp [h1, h2] at h
theorem cGng_2 {ms : List Int} {xss : List (List Int)} {ps : List (Int × Int)} (h0 : okK ms = true) (h : okD xss = true) (h2 : okCp ps ms.length (widD xss) = false) : cGng ms xss ps = 2 := by simp [cGng, h, h2, h0]
theorem cGng_0 {ms : List Int} {xss : List (List Int)} {ps : List (Int × Int)} (h0 : okK ms = true) (h : okD xss = true) (h2 : okCp ps ms.length (widD xss) = true) : cGng ms xss ps = 0 := by simp [cGng, h, h2, h0]
theorem deck_bd {xss yss : List (List Int)} (hk : okD xss = true) (hl : yss.length = xss.length) (h : ∀ i, i < xss.length → (yss.getD i []).length = (xss.getD i []).length) : totD yss ≤ 800 ∧ yss.length ≤ 40 := by
  have hb2 := okD_len hk
  have h1 := totD_lem (xss := yss) 20 (fun i hi => by rw [h i (by omega)]; exact (okK_len (okD_at hk i (by omega)).1).2)
  omega
theorem resGng_bd (ms : List Int) (xss : List (List Int)) (ps : List (Int × Int)) : totD (resGng ms xss ps) ≤ 800 ∧ (resGng ms xss ps).length ≤ 40 := by
  unfold resGng
  split
  · rename_i h
    cases hk : okD xss
    · rw [cGng_1 (.inr hk)] at h; cases h
    exact deck_bd hk (by simp) (fun i hi => by rw [map_getD (d := []) _ hi, gngF, copyF_len])
  · simp [totD, tot]
section
variable {w : World} {lo hi lo' hi' l2 h2 e b b' o o' lo3 hi3 : Nat} {v v' v2 d vo : Value} {xs ys ms : List Int} {ps : List (Int × Int)} {xss yss : List (List Int)} {svs sus : List SV} {f t : Int}
theorem l10CopyEl_e {i : Nat} (g : OwnD w e lo3 hi3 sus vo yss := by assumption) (hlt : i < yss.length := by omega) (hp : At w b o [v'] := by repeat (first | assumption | exact Go.Gw.Own.sl (by assumption) | exact Go.Gw.Box.at (by assumption) | exact Go.Gw.SLL.el (by first | assumption | exact Go.Gw.OwnD.sll (by assumption)) _ (by omega) | exact Go.Gw.SLL.at (by first | assumption | exact Go.Gw.OwnD.sll (by assumption)) (by omega) | exact Go.Gw.OwnD.sll (by assumption) | (apply Go.Gw.SL.chg; case hx => assumption) | (apply Go.Gw.Own.chg; case hx => assumption) | (apply Go.Gw.Box.chg; case hx => assumption) | (apply Go.Gw.At.chg; case hx => assumption) | exact .inl (Nat.zero_le _) | exact .inr (Nat.zero_le _) | (show _ ∨ _; omega))) (h' : SL w lo' hi' v' xs := by repeat (first | assumption | exact Go.Gw.Own.sl (by assumption) | exact Go.Gw.Box.at (by assumption) | exact Go.Gw.SLL.el (by first | assumption | exact Go.Gw.OwnD.sll (by assumption)) _ (by omega) | exact Go.Gw.SLL.at (by first | assumption | exact Go.Gw.OwnD.sll (by assumption)) (by omega) | exact Go.Gw.OwnD.sll (by assumption) | (apply Go.Gw.SL.chg; case hx => assumption) | (apply Go.Gw.Own.chg; case hx => assumption) | (apply Go.Gw.Box.chg; case hx => assumption) | (apply Go.Gw.At.chg; case hx => assumption) | exact .inl (Nat.zero_le _) | exact .inr (Nat.zero_le _) | (show _ ∨ _; omega))) (hl : SL w l2 h2 v2 ps := by repeat (first | assumption | exact Go.Gw.Own.sl (by assumption) | exact Go.Gw.Box.at (by assumption) | exact Go.Gw.SLL.el (by first | assumption | exact Go.Gw.OwnD.sll (by assumption)) _ (by omega) | exact Go.Gw.SLL.at (by first | assumption | exact Go.Gw.OwnD.sll (by assumption)) (by omega) | exact Go.Gw.OwnD.sll (by assumption) | (apply Go.Gw.SL.chg; case hx => assumption) | (apply Go.Gw.Own.chg; case hx => assumption) | (apply Go.Gw.Box.chg; case hx => assumption) | (apply Go.Gw.At.chg; case hx => assumption) | exact .inl (Nat.zero_le _) | exact .inr (Nat.zero_le _) | (show _ ∨ _; omega))) (hx : Rng xs := by assumption) (hy : Rng (yss.getD i []) := by assumption) (hc : okCp ps f t = true := by assumption) (hf : f = xs.length := by first | assumption | omega) (ht : t = (yss.getD i []).length := by first | assumption | omega)
    (hd : (hi3 ≤ lo' ∨ hi' ≤ lo3) ∧ (hi3 ≤ l2 ∨ h2 ≤ lo3) ∧ (b < lo3 ∨ hi3 ≤ b) := by omega) :
    Ret Tryz.prog 38 [ptr b o, ptr (sb vo) (so vo + i * 1), v2] w fun u w' => u = .tuple #[] ∧ OwnD w' e lo3 hi3 sus vo (yss.set i (copyF xs ps (yss.getD i []) ps.length)) ∧ Chg lo3 hi3 w w' := by
  have hr := (g.plc i hlt).rng
  have ho := (g.plc i hlt).out
  have hv := g.lt
  have hln := g.len
  have hin := g.own.sl.inn (by omega)
  refine (l10Copy_c hp (g.sll.at hlt) (g.el i hlt) h' hl hx hy hc hf ht (by unfold Apart at ho; omega)).mono ?_
  rintro u w' ⟨rfl, hs, hch⟩
  exact ⟨rfl, g.upd hlt hch rfl rfl hs, hch.wide (by omega) (by omega)⟩
end
end Go.Proofs.YtcbpiaehkodliaaGreatDoor
/- DigA -/
namespace Go.Proofs.YtcbpiaehkodliaaGreatDoor
open Go Go.Gw
set_option linter.unusedVariables false
set_option linter.unusedSimpArgs false
/-- the punch of a row -/
def bitI (r : Int) : Int := if r = 12 then 1 else if r = 11 then 2 else if 0 ≤ r ∧ r ≤ 9 then 4 * 2 ^ r.toNat else 0
theorem shl_bd {r : Int} (h : 0 ≤ r ∧ r ≤ 9) : In64 (4 * 2 ^ r.toNat) := by
  have h1 : (2 : Int) ^ r.toNat ≤ 2 ^ 9 := by
    have : r.toNat ≤ 9 := by omega
    exact_mod_cast Nat.pow_le_pow_right (by decide) this
  have h2 : (0 : Int) < 2 ^ r.toNat := Int.pow_pos (by decide)
  have e : (2 : Int) ^ 9 = 512 := by decide
  exact ⟨by omega, by omega⟩
/-- the first digit from d on whose punch is m -/
def digFrom (m d : Int) : Int := if h : d ≤ 9 then (if bitI d = m then d else digFrom m (d + 1)) else -1
termination_by (10 - d).toNat
decreasing_by omega
theorem digFrom_hit {m d : Int} (h : d ≤ 9) (e : bitI d = m) : digFrom m d = d := by rw [digFrom, dif_pos h, if_pos e]
theorem digFrom_on {m d : Int} (h : d ≤ 9) (e : ¬ bitI d = m) : digFrom m d = digFrom m (d + 1) := by rw [digFrom, dif_pos h, if_neg e]
theorem digFrom_end {m d : Int} (h : ¬ d ≤ 9) : digFrom m d = -1 := by rw [digFrom, dif_neg h]
section
variable {w : World}
theorem l02Bit_c (r : Int) : Pur Tryz.prog 117 [.int .i64 r] (.int .i64 (bitI r)) := by
  refine ⟨fun w => ?_⟩
  have hs := @shl_bd r
  refine ret_enter Tryz.func117 rfl Tryz.ntmps117 rfl ?_
  focus refine c_seq ?_; refine c_region ?_; refine w_pure (y_assign rfl) rfl ?_; refine w_nil ?_; refine x_next ?_; refine c_seq ?_; refine c_block ?_; refine c_seq ?_; refine c_region ?_; refine w_pure (y_move rfl) rfl ?_; refine w_pure (y_eq rfl rfl) rfl ?_; refine w_pure (y_assign rfl) rfl ?_; refine w_nil ?_; refine x_next ?_; (refine c_dec rfl (fun hc3 => ?_) (fun hc3 => ?_) <;> try (first | exact absurd rfl hc3 | contradiction | exact Bool.noConfusion (show false = true from hc3.symm.trans (by assumption)) | exact Bool.noConfusion (show true = false from hc3.symm.trans (by assumption)) | (exfalso; omega) | (exfalso; simp only [*, Bool.not_true, Bool.not_false, reduceCtorEq] at hc3; done))); refine c_seq ?_; refine c_region ?_; refine w_pure (y_assign rfl) rfl ?_; refine w_nil ?_; refine x_next ?_; refine c_ret ?_; refine x_block_ret ?_; refine x_then_ret ?_; rotate_left; refine c_seq ?_; refine c_region ?_; refine w_pure (y_move rfl) rfl ?_; refine w_pure (y_eq rfl rfl) rfl ?_; refine w_pure (y_assign rfl) rfl ?_; refine w_nil ?_; refine x_next ?_; (refine c_dec rfl (fun hc6 => ?_) (fun hc6 => ?_) <;> try (first | exact absurd rfl hc6 | contradiction | exact Bool.noConfusion (show false = true from hc6.symm.trans (by assumption)) | exact Bool.noConfusion (show true = false from hc6.symm.trans (by assumption)) | (exfalso; omega) | (exfalso; simp only [*, Bool.not_true, Bool.not_false, reduceCtorEq] at hc6; done))); refine c_seq ?_; refine c_region ?_; refine w_pure (y_assign rfl) rfl ?_; refine w_nil ?_; refine x_next ?_; refine c_ret ?_; refine x_block_ret ?_; refine x_then_ret ?_; rotate_left; refine c_seq ?_; refine c_region ?_; refine w_pure (y_move rfl) rfl ?_; refine w_pur rfl rfl rfl (l00In_c _ _ _) rfl ?_; refine w_pure (y_assign rfl) rfl ?_; refine w_nil ?_; refine x_next ?_; (refine c_dec rfl (fun hc9 => ?_) (fun hc9 => ?_) <;> try (first | exact absurd rfl hc9 | contradiction | exact Bool.noConfusion (show false = true from hc9.symm.trans (by assumption)) | exact Bool.noConfusion (show true = false from hc9.symm.trans (by assumption)) | (exfalso; omega) | (exfalso; simp only [*, Bool.not_true, Bool.not_false, reduceCtorEq] at hc9; done))); refine c_seq ?_; refine c_region ?_; refine w_pure (y_move rfl) rfl ?_; refine w_pure (y_convu rfl (by omega)) rfl ?_; refine w_pure (y_shl rfl rfl (by omega) (hs (by assumption))) rfl ?_; refine w_pure (y_assign rfl) rfl ?_; refine w_nil ?_; refine x_next ?_; refine c_ret ?_; refine x_block_ret ?_; refine x_then_ret ?_; rotate_left; refine c_skip ?_; refine x_block_norm ?_; refine x_next ?_; refine c_seq ?_; refine c_region ?_; refine w_pure (y_assign rfl) rfl ?_; refine w_nil ?_; refine x_next ?_; refine c_ret ?_; rotate_left
  all_goals exact x_retv [_] rfl ⟨rfl, trivial⟩ (by simp [bitI, ofResults, *] <;> omega)
end
end Go.Proofs.YtcbpiaehkodliaaGreatDoor
/- NmA -/
namespace Go.Proofs.YtcbpiaehkodliaaGreatDoor
open Go Go.Gw
set_option linter.unusedVariables false
set_option linter.unusedSimpArgs false
theorem digFrom_bd (m : Int) : ∀ (k : Nat) (d : Int), 0 ≤ d → (10 - d).toNat ≤ k → -1 ≤ digFrom m d ∧ digFrom m d ≤ 9
  | 0, d, h, hk => by rw [digFrom_end (by omega)]; omega
  | k + 1, d, h, hk => by
    by_cases h9 : d ≤ 9
    · by_cases e : bitI d = m
      · rw [digFrom_hit h9 e]; omega
      · rw [digFrom_on h9 e]; exact digFrom_bd m k (d + 1) (by omega) (by omega)
    · rw [digFrom_end h9]; omega
theorem dig_bd (m : Int) : -1 ≤ digFrom m 0 ∧ digFrom m 0 ≤ 9 := digFrom_bd m 10 0 (by omega) (by omega)
theorem bitI_pos {d : Int} (h : 0 ≤ d ∧ d ≤ 9) : 0 < bitI d := by
  unfold bitI
  rw [if_neg (by omega), if_neg (by omega), if_pos h]
  have : (0 : Int) < 2 ^ d.toNat := Int.pow_pos (by decide)
  omega
theorem digFrom_zero : ∀ (k : Nat) (d : Int), 0 ≤ d → (10 - d).toNat ≤ k → digFrom 0 d = -1
  | 0, d, h, hk => digFrom_end (by omega)
  | k + 1, d, h, hk => by
    by_cases h9 : d ≤ 9
    · have := bitI_pos ⟨h, h9⟩
      rw [digFrom_on h9 (by omega)]; exact digFrom_zero k (d + 1) (by omega) (by omega)
    · exact digFrom_end h9
theorem dig_zero : digFrom 0 0 = -1 := digFrom_zero 10 0 (by omega) (by omega)
theorem and2 (a : Int) : andI a 2 = 0 ∨ andI a 2 = 2 := by
  have h : (a.toNat &&& 2) = 0 ∨ (a.toNat &&& 2) = 2 := by
    have e : a.toNat &&& 2 = 2 * ((a.toNat / 2) % 2) := by
      apply Nat.eq_of_testBit_eq
      intro i
      have h2 : (2 : Nat).testBit i = decide (i = 1) := by
        rw [show (2 : Nat) = 2 ^ 1 from rfl, Nat.testBit_two_pow]; congr 1; exact propext ⟨fun h => h.symm, fun h => h.symm⟩
      rw [Nat.testBit_and, h2]
      cases i with
      | zero => simp [Nat.testBit_zero]
      | succ i =>
        cases i with
        | zero => simp [Nat.testBit_succ, Nat.testBit_zero]
        | succ i =>
          have : (2 * (a.toNat / 2 % 2)).testBit (i + 1 + 1) = false := by
            rw [Nat.testBit_succ, Nat.testBit_succ]
            rw [show 2 * (a.toNat / 2 % 2) / 2 = a.toNat / 2 % 2 by omega, show a.toNat / 2 % 2 / 2 = 0 by omega]
            exact Nat.zero_testBit i
          rw [this]; simp
    omega
  rcases h with h | h
  · left; show ((a.toNat &&& (2 : Int).toNat : Nat) : Int) = 0; rw [show (2 : Int).toNat = 2 from rfl, h]; rfl
  · right; show ((a.toNat &&& (2 : Int).toNat : Nat) : Int) = 2; rw [show (2 : Int).toNat = 2 from rfl, h]; rfl
/-- the last column's step -/
def numE (L n : Int) (b : Bool) : Int × Bool :=
  if andI L 2 = 0 then (if L = 0 ∧ b = false then (n, true) else if digFrom L 0 < 0 then (0, false) else (10 * n + digFrom L 0, true))
  else if digFrom (L - 2) 0 < 0 then (0, false) else if 10 * n + digFrom (L - 2) 0 = 0 then (0, false) else (-(10 * n + digFrom (L - 2) 0), true)
/-- the number in columns, from n on; whether digits have come -/
def numS : List Int → Int → Bool → Int × Bool
  | [], n, _ => (n, true)
  | [L], n, b => numE L n b
  | m :: x :: r, n, b => if m = 0 ∧ b = false then numS (x :: r) n b else if digFrom m 0 < 0 then (0, false) else numS (x :: r) (10 * n + digFrom m 0) true
def numL (xs : List Int) : Int × Bool := numS xs 0 false
theorem numS_last {xs : List Int} {i : Nat} (h : i + 1 = xs.length) (n : Int) (b : Bool) : numS (xs.drop i) n b = numE (xs.getD i 0) n b := by
  rw [List.drop_eq_getElem_cons (by omega), List.drop_eq_nil_of_le (by omega), numS, List.getD_eq_getElem?_getD, List.getElem?_eq_getElem (by omega)]; rfl
theorem numS_step {xs : List Int} {i : Nat} (h : i + 1 < xs.length) (n : Int) (b : Bool) : numS (xs.drop i) n b = if xs.getD i 0 = 0 ∧ b = false then numS (xs.drop (i + 1)) n b else if digFrom (xs.getD i 0) 0 < 0 then (0, false) else numS (xs.drop (i + 1)) (10 * n + digFrom (xs.getD i 0) 0) true := by
  rw [List.drop_eq_getElem_cons (show i < xs.length by omega), List.drop_eq_getElem_cons (show i + 1 < xs.length by omega), numS, List.getD_eq_getElem?_getD, List.getElem?_eq_getElem (show i < xs.length by omega)]; rfl
/-- what the reference answers at its end -/
def numZ (n : Int) (m : Bool) : Int × Bool := if m = true then (-n, decide (¬ n = 0)) else (n, true)
theorem numE_bd (L n : Int) (b : Bool) (B : Int) (h0 : 0 ≤ n) (h1 : n < B) : -(10 * B) < (numE L n b).1 ∧ (numE L n b).1 < 10 * B := by
  have h3 := dig_bd L
  have h4 := dig_bd (L - 2)
  unfold numE
  split
  · split
    · dsimp only; omega
    · split <;> dsimp only <;> omega
  · split
    · dsimp only; omega
    · split <;> dsimp only <;> omega
theorem numS_bd : ∀ (xs : List Int) (n : Int) (b : Bool) (B : Int), 0 ≤ n → n < B → -(B * 10 ^ xs.length) < (numS xs n b).1 ∧ (numS xs n b).1 < B * 10 ^ xs.length
  | [], n, b, B, h0, h1 => by simp only [numS, List.length_nil, Int.pow_zero]; omega
  | [L], n, b, B, h0, h1 => by
    have := numE_bd L n b B h0 h1
    simp only [numS, List.length_cons, List.length_nil, Nat.zero_add, Int.pow_succ, Int.pow_zero]; omega
  | m :: x :: r, n, b, B, h0, h1 => by
    have h3 := dig_bd m
    have e : B * 10 ^ (m :: x :: r).length = (10 * B) * 10 ^ (x :: r).length := by
      rw [show (m :: x :: r).length = (x :: r).length + 1 from rfl, Int.pow_succ, Int.mul_comm (10 ^ _) 10, ← Int.mul_assoc, Int.mul_comm B 10]
    rw [e]
    unfold numS
    split
    · exact numS_bd (x :: r) n b (10 * B) h0 (by omega)
    · split
      · have h5 := pow10_pos (x :: r).length
        have := Int.mul_pos (show 0 < 10 * B by omega) h5
        dsimp only; omega
      · exact numS_bd (x :: r) _ _ (10 * B) (by omega) (by omega)
theorem numL_bd {xs : List Int} (h : xs.length ≤ 12) : -999999999999 ≤ (numL xs).1 ∧ (numL xs).1 ≤ 999999999999 := by
  have h1 := numS_bd xs 0 false 1 (by omega) (by omega)
  have h2 := pow10_12 h
  unfold numL; omega
theorem numL_in {xs : List Int} (h : xs.length ≤ 12) : In64 (numL xs).1 := by
  have := numL_bd h
  exact ⟨by omega, by omega⟩
/-- the same, the last column's minus taken off ahead -/
def numF : List Int → Int → Bool → Option (Int × Bool)
  | [], n, b => some (n, b)
  | m :: r, n, b => if m = 0 ∧ b = false then numF r n b else if digFrom m 0 < 0 then none else numF r (10 * n + digFrom m 0) true
theorem numF_drop {xs : List Int} {i : Nat} (h : i < xs.length) (n : Int) (b : Bool) : numF (xs.drop i) n b = if xs.getD i 0 = 0 ∧ b = false then numF (xs.drop (i + 1)) n b else if digFrom (xs.getD i 0) 0 < 0 then none else numF (xs.drop (i + 1)) (10 * n + digFrom (xs.getD i 0) 0) true := by
  rw [List.drop_eq_getElem_cons h, numF, List.getD_eq_getElem?_getD, List.getElem?_eq_getElem h]; rfl
/-- what the program answers behind its loop -/
def numR (g : Option (Int × Bool)) (L : Int) : Int × Bool :=
  match g with
  | none => (0, false)
  | some (n, b) => if b = false ∨ L - andI L 2 = 0 ∨ (¬ andI L 2 = 0 ∧ n = 0) then (0, false) else if ¬ andI L 2 = 0 then (-n, true) else (n, true)
theorem numR_end (L n : Int) (b : Bool) (h : b = true ∨ L ≠ 0) : numR (numF [L - andI L 2] n b) L = numE L n b := by
  have h3 := dig_zero
  unfold numE numF
  rcases and2 L with e | e <;> rw [e]
  · rw [if_pos rfl, Int.sub_zero]
    by_cases hz : L = 0 ∧ b = false
    · exfalso; rcases h with h | h
      · rw [h] at hz; exact absurd hz.2 (by decide)
      · exact h hz.1
    · rw [if_neg hz, if_neg hz]
      by_cases hd : digFrom L 0 < 0
      · rw [if_pos hd, if_pos hd]; rfl
      · rw [if_neg hd, if_neg hd]
        have hL : L ≠ 0 := fun hh => hd (by rw [hh, dig_zero]; omega)
        simp [numF, numR, e, hL]
  · rw [if_neg (show ¬ (2 : Int) = 0 by decide)]
    by_cases hz : L - 2 = 0 ∧ b = false
    · rw [if_pos hz, hz.1, dig_zero, if_pos (by omega)]
      simp [numF, numR, hz.2]
    · rw [if_neg hz]
      by_cases hd : digFrom (L - 2) 0 < 0
      · rw [if_pos hd, if_pos hd]; rfl
      · rw [if_neg hd, if_neg hd]
        have hL : L - 2 ≠ 0 := fun hh => hd (by rw [hh, dig_zero]; omega)
        by_cases hn : 10 * n + digFrom (L - 2) 0 = 0
        · simp [numF, numR, e, hn]
        · simp [numF, numR, e, hn, hL]
theorem numR_all : ∀ (xs : List Int) (L n : Int) (b : Bool), (b = true ∨ ∃ m ∈ xs ++ [L], m ≠ 0) → numR (numF (xs ++ [L - andI L 2]) n b) L = numS (xs ++ [L]) n b
  | [], L, n, b, h => numR_end L n b (by
    rcases h with h | ⟨m, hm, h⟩
    · exact .inl h
    · simp at hm; subst hm; exact .inr h)
  | m :: r, L, n, b, h => by
    have e : numS (m :: r ++ [L]) n b = if m = 0 ∧ b = false then numS (r ++ [L]) n b else if digFrom m 0 < 0 then (0, false) else numS (r ++ [L]) (10 * n + digFrom m 0) true := by
      cases r <;> rfl
    rw [e, List.cons_append, numF]
    by_cases hz : m = 0 ∧ b = false
    · rw [if_pos hz, if_pos hz]
      refine numR_all r L n b ?_
      rcases h with h | ⟨k, hk, h⟩
      · exact .inl h
      · refine .inr ⟨k, ?_, h⟩
        rw [List.cons_append, List.mem_cons] at hk
        rcases hk with rfl | hk
        · exact absurd hz.1 h
        · exact hk
    · rw [if_neg hz, if_neg hz]
      by_cases hd : digFrom m 0 < 0
      · rw [if_pos hd, if_pos hd]; rfl
      · rw [if_neg hd, if_neg hd]; exact numR_all r L _ true (.inl rfl)
theorem numS_zero : ∀ (xs : List Int), (∀ m ∈ xs, m = 0) → numS xs 0 false = (0, true)
  | [], h => rfl
  | [L], h => by have := h L (by simp); subst this; rfl
  | m :: x :: r, h => by
    have := h m (by simp)
    subst this
    rw [numS, if_pos ⟨rfl, rfl⟩]
    exact numS_zero (x :: r) (fun m hm => h m (by simp [hm]))
theorem set_last {xs : List Int} (h : 0 < xs.length) (y : Int) : xs.set (xs.length - 1) y = xs.take (xs.length - 1) ++ [y] := by
  rw [List.set_eq_take_append_cons_drop, if_pos (by omega), List.drop_eq_nil_of_le (by omega)]
theorem take_last {xs : List Int} (h : 0 < xs.length) : xs = xs.take (xs.length - 1) ++ [xs.getD (xs.length - 1) 0] := by
  conv => lhs; rw [← List.take_append_drop (xs.length - 1) xs]
  rw [List.drop_eq_getElem_cons (by omega), List.drop_eq_nil_of_le (by omega), List.getD_eq_getElem?_getD, List.getElem?_eq_getElem (by omega)]; rfl
/-- the program's way is the reference's -/
theorem numL_of {xs : List Int} (h : 0 < xs.length) (hz : ∃ m ∈ xs, m ≠ 0) : numR (numF (xs.set (xs.length - 1) (xs.getD (xs.length - 1) 0 - andI (xs.getD (xs.length - 1) 0) 2)) 0 false) (xs.getD (xs.length - 1) 0) = numL xs := by
  rw [set_last h]
  have e := take_last h
  unfold numL
  conv => rhs; rw [e]
  refine numR_all _ _ _ _ (.inr ?_)
  rw [← e]; exact hz
end Go.Proofs.YtcbpiaehkodliaaGreatDoor
/- NmB -/
namespace Go.Proofs.YtcbpiaehkodliaaGreatDoor
open Go Go.Gw
set_option linter.unusedVariables false
set_option linter.unusedSimpArgs false
/-- the columns of a field -/
abbrev prt (xs : List Int) (f t : Int) : List Int := (xs.take t.toNat).drop f.toNat
theorem prt_len {xs : List Int} {f t : Int} (h : 0 ≤ f ∧ f < t ∧ t ≤ xs.length) : ((prt xs f t).length : Int) = t - f := by
  simp only [prt, List.length_drop, List.length_take]; omega
theorem prt_get {xs : List Int} {f t : Int} (h : 0 ≤ f ∧ f < t ∧ t ≤ xs.length) {i : Nat} (hi : i < (prt xs f t).length) : (prt xs f t).getD i 0 = xs.getD (f.toNat + i) 0 := by
  have := prt_len h
  rw [List.getD_eq_getElem?_getD, List.getElem?_drop, List.getElem?_take_of_lt (by omega), List.getD_eq_getElem?_getD]
theorem prt_ok {xs : List Int} {f t : Int} (h : 0 ≤ f ∧ f < t ∧ t ≤ xs.length) (hk : okK xs = true) : ∀ i, i < (prt xs f t).length → 0 ≤ (prt xs f t).getD i 0 ∧ (prt xs f t).getD i 0 ≤ 4095 := fun i hi => by
  have := prt_len h
  rw [prt_get h hi]; exact okK_getD hk _ (by omega)
theorem numR_no {L n : Int} {b : Bool} (h : b = false ∨ L - andI L 2 = 0 ∨ (¬ andI L 2 = 0 ∧ n = 0)) : numR (some (n, b)) L = (0, false) := by
  simp only [numR, if_pos h]
theorem numR_neg {L n : Int} {b : Bool} (h : b = true) (h1 : ¬ L - andI L 2 = 0) (h2 : ¬ andI L 2 = 0) (h3 : ¬ n = 0) : numR (some (n, b)) L = (-n, true) := by
  subst h
  simp only [numR]
  rw [if_neg, if_pos h2]
  rintro (h | h | h)
  · cases h
  · exact h1 h
  · exact h3 h.2
theorem numR_pos {L n : Int} {b : Bool} (h : b = true) (h1 : ¬ L - andI L 2 = 0) (h2 : andI L 2 = 0) : numR (some (n, b)) L = (n, true) := by
  subst h
  simp only [numR]
  rw [if_neg, if_neg (fun h => h h2)]
  rintro (h | h | h)
  · cases h
  · exact h1 h
  · exact h.1 h2
theorem numE_1 {L n : Int} {b : Bool} (h : andI L 2 = 0) (h0 : L = 0) (hb : b = false) : numE L n b = numZ n false := by rw [numE, if_pos h, if_pos ⟨h0, hb⟩]; rfl
theorem numE_2 {L n : Int} {b : Bool} (h : andI L 2 = 0) (h0 : ¬ (L = 0 ∧ b = false)) (h1 : digFrom L 0 < 0) : numE L n b = (0, false) := by rw [numE, if_pos h, if_neg h0, if_pos h1]
theorem numE_3 {L n : Int} {b : Bool} (h : andI L 2 = 0) (h0 : ¬ (L = 0 ∧ b = false)) (h1 : ¬ digFrom L 0 < 0) : numE L n b = numZ (10 * n + digFrom L 0) false := by rw [numE, if_pos h, if_neg h0, if_neg h1]; rfl
theorem numE_4 {L n : Int} {b : Bool} (h : ¬ andI L 2 = 0) (h1 : digFrom (L - 2) 0 < 0) : numE L n b = (0, false) := by rw [numE, if_neg h, if_pos h1]
theorem numE_5 {L n : Int} {b : Bool} (h : ¬ andI L 2 = 0) (h1 : ¬ digFrom (L - 2) 0 < 0) : numE L n b = numZ (10 * n + digFrom (L - 2) 0) true := by
  rw [numE, if_neg h, if_neg h1, numZ, if_pos rfl]
  by_cases h0 : 10 * n + digFrom (L - 2) 0 = 0
  · rw [if_pos h0, h0]; rfl
  · rw [if_neg h0, decide_eq_true h0]
section
variable {w : World} {lo hi : Nat} {v : Value} {xs : List Int} {b o : Nat}
end
end Go.Proofs.YtcbpiaehkodliaaGreatDoor
/- L18 -/
namespace Go.Gw
open Go
set_option linter.unusedVariables false
set_option linter.unusedSimpArgs false
/-- the room of a slice -/
def cp : Value → Nat
  | .slice _ _ c => c
  | _ => 0
section
variable {P : Program} {N : Nat} {Q : Post} {T e ty : TypeId} {s b d : Nat} {σ : Fm} {x y z m : Operand} {v u : Value} {w : World} {k k2 k3 : IntKind} {ops : Array Oper} {rest : List Oper} {pos : String} {af : Array Edge}
variable {α : Type} [E : Enc α]
theorem y_slice3 {lo hi : Nat} {xs : List α} {l h n : Int} [hT : TSli P T e s b] (hx : ev σ x = some v) (hl : ev σ y = some (.int k l)) (hh : ev σ z = some (.int k2 h)) (hm : ev σ m = some (.int k3 n))
    (H : SL w lo hi v xs := by repeat (first | assumption | exact Go.Gw.Own.sl (by assumption) | exact Go.Gw.Box.at (by assumption) | exact Go.Gw.SLL.el (by first | assumption | exact Go.Gw.OwnD.sll (by assumption)) _ (by omega) | exact Go.Gw.SLL.at (by first | assumption | exact Go.Gw.OwnD.sll (by assumption)) (by omega) | exact Go.Gw.OwnD.sll (by assumption) | (apply Go.Gw.SL.chg; case hx => assumption) | (apply Go.Gw.Own.chg; case hx => assumption) | (apply Go.Gw.Box.chg; case hx => assumption) | (apply Go.Gw.At.chg; case hx => assumption) | exact .inl (Nat.zero_le _) | exact .inr (Nat.zero_le _) | (show _ ∨ _; omega))) (hn : 0 ≤ l ∧ l ≤ h ∧ h ≤ n ∧ n ≤ xs.length := by omega) : ∃ u, YE P σ (.slice T x (some y) (some z) (some m)) ty w u := by
  obtain ⟨a, c, hv, hle, hcm, ha⟩ := H.form
  refine ⟨.slice (if n.toNat = l.toNat then a else a.map (·.add (l.toNat * s))) (h.toNat - l.toNat) (n.toNat - l.toNat), ⟨fun w' hw ρ hρ => ?_⟩⟩
  have e1 : ρ x = .slice a xs.length c := by rw [hρ _ _ hx, hv]
  have h1 : (Instr.sliceBound (.int k3 n) c .slice3Acap).run P w' = .ok n.toNat w' := by
    have h1 : 0 ≤ n ∧ n ≤ (c : Int) := by omega
    simp only [Instr.sliceBound, asIntOf, Sem.run_bind, Sem.run_pure, Result.andThen_ok, if_pos h1]
  have h2 : (Instr.sliceBound (.int k2 h) n.toNat .slice3B).run P w' = .ok h.toNat w' := by
    have h1 : 0 ≤ h ∧ h ≤ (n.toNat : Int) := by omega
    simp only [Instr.sliceBound, asIntOf, Sem.run_bind, Sem.run_pure, Result.andThen_ok, if_pos h1]
  have h3 : (Instr.sliceBound (.int k l) h.toNat .slice3C).run P w' = .ok l.toNat w' := by
    have h1 : 0 ≤ l ∧ l ≤ (h.toNat : Int) := by omega
    simp only [Instr.sliceBound, asIntOf, Sem.run_bind, Sem.run_pure, Result.andThen_ok, if_pos h1]
  have hsl : (Instr.sliceAt T (.slice a xs.length c) (some (ρ y)) (some (ρ z)) (some (ρ m))).run P w' = .ok (.slice (if n.toNat = l.toNat then a else a.map (·.add (l.toNat * s))) (h.toNat - l.toNat) (n.toNat - l.toNat)) w' := by
    simp [Instr.sliceAt, Instr.slice, Instr.sliceBounds, run_underlying hT.und, run_size w' hT.size, hρ _ _ hl, hρ _ _ hh, hρ _ _ hm, h1, h2, h3]
  simp only [execOp, e1, Option.map_some, Sem.run_bind, hsl, Result.andThen_ok, Sem.run_pure]
theorem y_slicep {B : Nat} {xs : List α} {h : Int} [hT : TSli P T e s b] (hx : ev σ x = some v) (hh : ev σ y = some (.int k h)) (H : Own w e B v xs := by repeat (first | assumption | exact Go.Gw.Own.sl (by assumption) | exact Go.Gw.Box.at (by assumption) | exact Go.Gw.SLL.el (by first | assumption | exact Go.Gw.OwnD.sll (by assumption)) _ (by omega) | exact Go.Gw.SLL.at (by first | assumption | exact Go.Gw.OwnD.sll (by assumption)) (by omega) | exact Go.Gw.OwnD.sll (by assumption) | (apply Go.Gw.SL.chg; case hx => assumption) | (apply Go.Gw.Own.chg; case hx => assumption) | (apply Go.Gw.Box.chg; case hx => assumption) | (apply Go.Gw.At.chg; case hx => assumption) | exact .inl (Nat.zero_le _) | exact .inr (Nat.zero_le _) | (show _ ∨ _; omega))) (hb : 0 ≤ h ∧ h ≤ xs.length := by omega) :
    ∃ u, YE P σ (.slice T x none (some y) none) ty w u ∧ Own w e B u (xs.take h.toNat) ∧ bL u = bL v ∧ bH u = bH v ∧ cp u = cp v := by
  have hlen : (xs.take h.toNat).length = h.toNat := by simp; omega
  have hy : ∀ {a : Option Addr} {c : Nat}, v = .slice a xs.length c → xs.length ≤ c → YE P σ (.slice T x none (some y) none) ty w (.slice (if c = 0 then a else a.map (·.add (0 * s))) h.toNat c) := fun {a c} hv hc => ⟨fun w' hw ρ hρ => by
    have e1 : ρ x = .slice a xs.length c := by rw [hρ _ _ hx, hv]
    have h2 : (Instr.sliceBound (.int k h) c .sliceAcap).run P w' = .ok h.toNat w' := by
      have h1 : 0 ≤ h ∧ h ≤ (c : Int) := by omega
      simp only [Instr.sliceBound, asIntOf, Sem.run_bind, Sem.run_pure, Result.andThen_ok, if_pos h1]
    have hsl : (Instr.sliceAt T (.slice a xs.length c) none (some (ρ y)) none).run P w' = .ok (.slice (if c = 0 then a else a.map (·.add (0 * s))) h.toNat c) w' := by
      simp [Instr.sliceAt, Instr.slice, Instr.sliceBounds, run_underlying hT.und, run_size w' hT.size, hρ _ _ hh, h2]
    simp only [execOp, e1, Option.map_some, Option.map_none, Sem.run_bind, hsl, Result.andThen_ok, Sem.run_pure]⟩
  rcases H.go with ⟨hl, ⟨rfl, hn⟩ | ⟨g, cap, cur, rfl, hb', hg, hnc, hcm, hcs, htk⟩⟩
  · have hx0 : xs = [] := List.eq_nil_of_length_eq_zero hn
    subst hx0
    have h0 : h.toNat = 0 := by simp at hb; omega
    refine ⟨_, hy rfl (Nat.le_refl _), ?_, rfl, rfl, rfl⟩
    rw [h0]
    exact Own.nil w e B
  · refine ⟨_, hy rfl hnc, ⟨?_⟩, ?_, ?_, rfl⟩
    · have ea : (if cap = 0 then (some ⟨g, 0, none⟩ : Option Addr) else (some (⟨g, 0, none⟩ : Addr)).map (·.add (0 * s))) = some ⟨g, 0, none⟩ := by
        split
        · rfl
        · rw [Nat.zero_mul, Option.map_some, Addr.add_lit]
      rw [ea, hlen]
      refine ⟨by rw [flat_len, hlen], .inr ⟨g, cap, cur, rfl, hb', hg, by omega, hcm, hcs, ?_⟩⟩
      have e2 : cur.toList.take (h.toNat * Enc.sz α) = (cur.toList.take (xs.length * Enc.sz α)).take (h.toNat * Enc.sz α) := by
        rw [List.take_take, Nat.min_eq_left (Nat.mul_le_mul_right _ (by omega))]
      rw [e2, htk]
      conv => lhs; rw [← List.take_append_drop h.toNat xs, List.flatMap_append]
      rw [List.take_left' (by rw [flat_len, hlen])]
    · split <;> simp [bL, sb, Addr.add_lit]
    · split <;> simp [bH, Addr.add_lit]
theorem chg_setRow (w : World) (g : Nat) (cs : Array Value) : Chg g (g + 1) w (w.setRow g cs) :=
  ⟨rfl, rfl, rfl, by simp, fun k hk ho => setRow_other w g k cs (by omega)⟩
theorem run_append_keep {lo hi B : Nat} {xs ys : List α} {t2 : TypeId} [hT : TSli P T e s b] (hs : s = Enc.sz α) (h : Own w e B v xs) (h2 : SL w lo hi u ys) (hc : xs.length + ys.length ≤ cp v) :
    ∃ v' w', (Builtin.append_ #[T, T] t2 #[v, u]).run P w = .ok v' w' ∧ Own w' e B v' (xs ++ ys) ∧ Chg (bL v) (bH v) w w' ∧ bL v' = bL v ∧ bH v' = bH v ∧ cp v' = cp v := by
  subst hs
  obtain ⟨i, z, hi, hz, his, hib, hzs⟩ := info_of (P := P) (T := T)
  obtain ⟨a, c, hu, hle, hcm, ha⟩ := h2.form
  rcases Nat.eq_zero_or_pos ys.length with h0 | h0
  · have : ys = [] := List.eq_nil_of_length_eq_zero h0
    subst this
    refine ⟨v, w, ?_, by simpa using h, Chg.refl _ _ _, rfl, rfl, rfl⟩
    rw [hu]
    obtain ⟨a', c', hv, hle', _⟩ := h.sl.form
    rw [hv]
    have hf : (Builtin.firstCells i.size 0 (.slice a 0 c)).run P w = .ok #[] w := by
      cases a <;> simp [Builtin.firstCells, loadCells, loadCellsFrom]
    have hlen : xs.length + 0 ≤ c' := by omega
    simp only [List.length_nil, Builtin.append_, run_underlying hT.und, sizeOf, typeInfo, hi, Builtin.lenOf]
    cases a' <;> simp [run_underlying hT.und, hi, hle', hf, storeCells]
  · have ha := ha h0
    subst ha
    rcases h.go with ⟨hl, ⟨rfl, hn⟩ | ⟨g, cap, cur, rfl, hbg, hg, hnc, hcm', hcs, htk⟩⟩
    · exact absurd hc (by simp only [cp]; omega)
    · have hroom : xs.length + ys.length ≤ cap := hc
      have hfit : xs.length * i.size + (ys.flatMap Enc.enc).length ≤ cur.size := by rw [flat_len, hcs, his, ← Nat.add_mul]; exact Nat.mul_le_mul_right _ hroom
      have hr2 := run_append_room (P := P) w T t2 e i hT.und hi g xs.length cap cur hg ⟨sb u, so u, none⟩ ys.length c (ys.flatMap Enc.enc) (by rw [his]; exact flat_len ys) (sl_cells h2 h0) (enc_all ys) hroom hfit
      have hlt := (Array.getElem?_eq_some_iff.1 hg).1
      refine ⟨.slice (some ⟨g, 0, none⟩) (xs.length + ys.length) cap, _, by rw [hu]; exact hr2, ⟨?_⟩, chg_setRow w g _, rfl, rfl, rfl⟩
      · refine ⟨flat_len _, .inr ⟨g, cap, _, by rw [List.length_append], hbg, setRow_heap w g cur _ e (0, 0) hg, by rw [List.length_append]; exact hc, hcm', ?_, ?_⟩⟩
        · simp only [List.size_toArray, List.length_append, List.length_take, List.length_drop, Array.length_toList]
          omega
        · rw [his, List.length_append, List.flatMap_append, htk]
          rw [List.take_left' (by rw [List.length_append, flat_len, flat_len, Nat.add_mul])]
theorem w_append_keep {lo hi B : Nat} {xs ys : List α} [hT : TSli P T e s b] (hx : ev σ x = some v) (hy : ev σ y = some u) (h : Own w e B v xs := by repeat (first | assumption | exact Go.Gw.Own.sl (by assumption) | exact Go.Gw.Box.at (by assumption) | exact Go.Gw.SLL.el (by first | assumption | exact Go.Gw.OwnD.sll (by assumption)) _ (by omega) | exact Go.Gw.SLL.at (by first | assumption | exact Go.Gw.OwnD.sll (by assumption)) (by omega) | exact Go.Gw.OwnD.sll (by assumption) | (apply Go.Gw.SL.chg; case hx => assumption) | (apply Go.Gw.Own.chg; case hx => assumption) | (apply Go.Gw.Box.chg; case hx => assumption) | (apply Go.Gw.At.chg; case hx => assumption) | exact .inl (Nat.zero_le _) | exact .inr (Nat.zero_le _) | (show _ ∨ _; omega))) (h2 : SL w lo hi u ys := by repeat (first | assumption | exact Go.Gw.Own.sl (by assumption) | exact Go.Gw.Box.at (by assumption) | exact Go.Gw.SLL.el (by first | assumption | exact Go.Gw.OwnD.sll (by assumption)) _ (by omega) | exact Go.Gw.SLL.at (by first | assumption | exact Go.Gw.OwnD.sll (by assumption)) (by omega) | exact Go.Gw.OwnD.sll (by assumption) | (apply Go.Gw.SL.chg; case hx => assumption) | (apply Go.Gw.Own.chg; case hx => assumption) | (apply Go.Gw.Box.chg; case hx => assumption) | (apply Go.Gw.At.chg; case hx => assumption) | exact .inl (Nat.zero_le _) | exact .inr (Nat.zero_le _) | (show _ ∨ _; omega))) (hc : xs.length + ys.length ≤ cp v) (hs : s = Enc.sz α := by rfl) (hd : Nat.blt d N = true := by rfl)
    (k : ∀ v' w', Own w' e B v' (xs ++ ys) → Chg (bL v) (bH v) w w' → (bL v' = bL v ∧ bH v' = bH v ∧ cp v' = cp v) → W P N ops Q rest ((d, v') :: σ) w') :
    W P N ops Q (⟨some d, .call { callee := .builtin .append, args := #[x, y], argTypes := #[T, T] }, ty, pos, af, none⟩ :: rest) σ w := by
  refine ⟨fun a ha => ?_⟩
  refine wpList_plain rfl fun K hK => ?_
  unfold Oper.wp
  obtain ⟨v', w', hr, h3, h4, h5⟩ := run_append_keep (P := P) (T := T) (t2 := ty) hs h h2 hc
  have : (execOp a.eval ⟨some d, .call { callee := .builtin .append, args := #[x, y], argTypes := #[T, T] }, ty, pos, af, none⟩).run P w = .ok (.value v') w' := by
    simp only [execOp, resolve, Sem.run_bind, Sem.run_pure, Result.andThen_ok, invoke, builtin, List.map_toArray, List.map_cons, List.map_nil, ha.eval hx, ha.eval hy, hr]
  rw [this]
  exact hK _ _ ((k v' w' h3 h4 h5).go _ (ha.put hd _))
/-- u is the part of v from its l-th element on, n elements long, within v's room -/
structure Past (sz : Nat) (v u : Value) (l n : Nat) : Prop where
  go : ∃ a c, u = .slice a n c ∧ (0 < n → a = some ⟨bL v, l * sz, none⟩)
  room : l + n ≤ cp v
theorem y_slicet {B : Nat} {xs : List α} {l h : Int} [hT : TSli P T e s b] (hx : ev σ x = some v) (hl : ev σ y = some (.int k l)) (hh : ev σ z = some (.int k2 h)) (H : Own w e B v xs := by repeat (first | assumption | exact Go.Gw.Own.sl (by assumption) | exact Go.Gw.Box.at (by assumption) | exact Go.Gw.SLL.el (by first | assumption | exact Go.Gw.OwnD.sll (by assumption)) _ (by omega) | exact Go.Gw.SLL.at (by first | assumption | exact Go.Gw.OwnD.sll (by assumption)) (by omega) | exact Go.Gw.OwnD.sll (by assumption) | (apply Go.Gw.SL.chg; case hx => assumption) | (apply Go.Gw.Own.chg; case hx => assumption) | (apply Go.Gw.Box.chg; case hx => assumption) | (apply Go.Gw.At.chg; case hx => assumption) | exact .inl (Nat.zero_le _) | exact .inr (Nat.zero_le _) | (show _ ∨ _; omega))) (hn : 0 ≤ l ∧ l ≤ h ∧ h ≤ cp v) :
    ∃ u, YE P σ (.slice T x (some y) (some z) none) ty w u ∧ Past s v u l.toNat (h.toNat - l.toNat) := by
  obtain ⟨a, c, hv, hle, hcm, ha⟩ := H.sl.form
  have hc : cp v = c := by rw [hv]; rfl
  refine ⟨.slice (if c = l.toNat then a else a.map (·.add (l.toNat * s))) (h.toNat - l.toNat) (c - l.toNat), ⟨fun w' hw ρ hρ => ?_⟩, ⟨⟨_, _, rfl, fun h0 => ?_⟩, by omega⟩⟩
  · have e1 : ρ x = .slice a xs.length c := by rw [hρ _ _ hx, hv]
    have h2 : (Instr.sliceBound (.int k2 h) c .sliceAcap).run P w' = .ok h.toNat w' := by
      have h1 : 0 ≤ h ∧ h ≤ (c : Int) := by omega
      simp only [Instr.sliceBound, asIntOf, Sem.run_bind, Sem.run_pure, Result.andThen_ok, if_pos h1]
    have h3 : (Instr.sliceBound (.int k l) h.toNat .sliceB).run P w' = .ok l.toNat w' := by
      have h1 : 0 ≤ l ∧ l ≤ (h.toNat : Int) := by omega
      simp only [Instr.sliceBound, asIntOf, Sem.run_bind, Sem.run_pure, Result.andThen_ok, if_pos h1]
    have hsl : (Instr.sliceAt T (.slice a xs.length c) (some (ρ y)) (some (ρ z)) none).run P w' = .ok (.slice (if c = l.toNat then a else a.map (·.add (l.toNat * s))) (h.toNat - l.toNat) (c - l.toNat)) w' := by
      simp [Instr.sliceAt, Instr.slice, Instr.sliceBounds, run_underlying hT.und, run_size w' hT.size, hρ _ _ hl, hρ _ _ hh, h2, h3]
    simp only [execOp, e1, Option.map_some, Option.map_none, Sem.run_bind, hsl, Result.andThen_ok, Sem.run_pure]
  · rcases H.go.2 with ⟨rfl, hz⟩ | ⟨g, cap, cur, rfl, _⟩
    · simp only [cp] at hn; omega
    · cases hv
      rw [if_neg (by omega), Option.map_some, Addr.add_lit, Nat.zero_add]; rfl
theorem w_clear {B n : Nat} {xs : List α} {zv : Value} {x0 : α} [hT : TSli P T e s b] [hz : TZero P e zv] (hx : ev σ x = some u) (hp : Past s v u xs.length n) (h : Own w e B v xs := by repeat (first | assumption | exact Go.Gw.Own.sl (by assumption) | exact Go.Gw.Box.at (by assumption) | exact Go.Gw.SLL.el (by first | assumption | exact Go.Gw.OwnD.sll (by assumption)) _ (by omega) | exact Go.Gw.SLL.at (by first | assumption | exact Go.Gw.OwnD.sll (by assumption)) (by omega) | exact Go.Gw.OwnD.sll (by assumption) | (apply Go.Gw.SL.chg; case hx => assumption) | (apply Go.Gw.Own.chg; case hx => assumption) | (apply Go.Gw.Box.chg; case hx => assumption) | (apply Go.Gw.At.chg; case hx => assumption) | exact .inl (Nat.zero_le _) | exact .inr (Nat.zero_le _) | (show _ ∨ _; omega))) (hs : s = Enc.sz α := by rfl) (hdec : E.dec zv = some x0 := by rfl)
    (k : ∀ w', Own w' e B v xs → Chg (bL v) (bH v) w w' → W P N ops Q rest σ w') :
    W P N ops Q (⟨none, .call { callee := .builtin .clear, args := #[x], argTypes := #[T] }, ty, pos, af, none⟩ :: rest) σ w := by
  subst hs
  refine ⟨fun a ha => ?_⟩
  refine wpList_plain rfl fun K hK => ?_
  unfold Oper.wp
  have hfl := made_flat (E.dec_ok _ _ hdec) n
  have hsz : zv.cells.size = Enc.sz α := by rw [← Array.length_toList, E.dec_ok _ _ hdec, Enc.len]
  have hzc : (Builtin.zeroCells zv.cells n).toList = (List.replicate n x0).flatMap Enc.enc := by
    rw [← hfl, ← hsz]; rfl
  obtain ⟨⟨a', c, hu, haa⟩, hroom⟩ := hp
  have hr : ∃ w', (Builtin.clear_ #[T] ty #[u]).run P w = .ok (.tuple #[]) w' ∧ Own w' e B v xs ∧ Chg (bL v) (bH v) w w' := by
    rcases Nat.eq_zero_or_pos n with h0 | h0
    · refine ⟨w, ?_, h, Chg.refl _ _ _⟩
      rw [hu, h0]
      cases a' <;> simp [Builtin.clear_, run_underlying hT.und]
    · have ha' := haa h0
      subst ha'
      rcases h.go with ⟨hl, ⟨rfl, hn⟩ | ⟨g, cap, cur, rfl, hbg, hg, hnc, hcm', hcs, htk⟩⟩
      · simp only [cp] at hroom; omega
      · have hroom' : xs.length + n ≤ cap := hroom
        have hm : xs.length * Enc.sz α + n * Enc.sz α ≤ cur.size := by rw [hcs, ← Nat.add_mul]; exact Nat.mul_le_mul_right _ hroom'
        have hst := run_storeCells_at P g (xs.length * Enc.sz α) e ((List.replicate n x0).flatMap Enc.enc) 0 cur w hg (by rw [flat_len, List.length_replicate]; exact hm) (enc_all _)
        rw [Nat.add_zero] at hst
        refine ⟨w.setRow g (cur.toList.take (xs.length * Enc.sz α) ++ (List.replicate n x0).flatMap Enc.enc ++ cur.toList.drop (xs.length * Enc.sz α + ((List.replicate n x0).flatMap Enc.enc).length)).toArray, ?_, ⟨?_⟩, chg_setRow w g _⟩
        · rw [hu]
          obtain ⟨m, rfl⟩ : ∃ m, n = m + 1 := ⟨n - 1, by omega⟩
          simp only [bL, sb]
          simp only [Builtin.clear_, Sem.run_bind, List.getElem?_toArray, List.getElem?_cons_zero, run_underlying hT.und, Result.andThen_ok, run_zero w (h := hz), hzc, hst, Sem.run_pure]
        · refine ⟨hl, .inr ⟨g, cap, _, rfl, hbg, setRow_heap w g cur _ e (0, 0) hg, hnc, hcm', ?_, ?_⟩⟩
          · simp only [List.size_toArray, List.length_append, List.length_take, List.length_drop, Array.length_toList, flat_len, List.length_replicate]
            omega
          · rw [List.append_assoc, List.take_left' (by rw [List.length_take]; have e : cur.toList.length = cur.size := Array.length_toList; omega), htk]
  obtain ⟨w', hr, h3, h4⟩ := hr
  have : (execOp a.eval ⟨none, .call { callee := .builtin .clear, args := #[x], argTypes := #[T] }, ty, pos, af, none⟩).run P w = .ok (.value (.tuple #[])) w' := by
    simp only [execOp, resolve, Sem.run_bind, Sem.run_pure, Result.andThen_ok, invoke, builtin, List.map_toArray, List.map_cons, List.map_nil, ha.eval hx, hr]
  rw [this]
  exact hK _ _ ((k w' h3 h4).go _ (ha.put_none _))
theorem w_slice3 {lo hi : Nat} {xs : List α} {l h n : Int} [hT : TSli P T e s b] (hx : ev σ x = some v) (hl : ev σ y = some (.int k l)) (hh : ev σ z = some (.int k2 h)) (hm : ev σ m = some (.int k3 n)) (hd : Nat.blt d N = true) (kk : ∀ u, W P N ops Q rest ((d, u) :: σ) w)
    (H : SL w lo hi v xs := by repeat (first | assumption | exact Go.Gw.Own.sl (by assumption) | exact Go.Gw.Box.at (by assumption) | exact Go.Gw.SLL.el (by first | assumption | exact Go.Gw.OwnD.sll (by assumption)) _ (by omega) | exact Go.Gw.SLL.at (by first | assumption | exact Go.Gw.OwnD.sll (by assumption)) (by omega) | exact Go.Gw.OwnD.sll (by assumption) | (apply Go.Gw.SL.chg; case hx => assumption) | (apply Go.Gw.Own.chg; case hx => assumption) | (apply Go.Gw.Box.chg; case hx => assumption) | (apply Go.Gw.At.chg; case hx => assumption) | exact .inl (Nat.zero_le _) | exact .inr (Nat.zero_le _) | (show _ ∨ _; omega))) (hn : 0 ≤ l ∧ l ≤ h ∧ h ≤ n ∧ n ≤ xs.length := by omega) : W P N ops Q (⟨some d, .slice T x (some y) (some z) (some m), ty, pos, af, none⟩ :: rest) σ w := by
  obtain ⟨u, hy⟩ := y_slice3 (P := P) (ty := ty) (T := T) hx hl hh hm H hn
  exact w_pure hy hd (kk u)
theorem w_slicet {B : Nat} {xs : List α} {l h : Int} [hT : TSli P T e s b] (hx : ev σ x = some v) (hl : ev σ y = some (.int k l)) (hh : ev σ z = some (.int k2 h)) (hd : Nat.blt d N = true) (kk : ∀ u, Past s v u l.toNat (h.toNat - l.toNat) → W P N ops Q rest ((d, u) :: σ) w)
    (H : Own w e B v xs := by repeat (first | assumption | exact Go.Gw.Own.sl (by assumption) | exact Go.Gw.Box.at (by assumption) | exact Go.Gw.SLL.el (by first | assumption | exact Go.Gw.OwnD.sll (by assumption)) _ (by omega) | exact Go.Gw.SLL.at (by first | assumption | exact Go.Gw.OwnD.sll (by assumption)) (by omega) | exact Go.Gw.OwnD.sll (by assumption) | (apply Go.Gw.SL.chg; case hx => assumption) | (apply Go.Gw.Own.chg; case hx => assumption) | (apply Go.Gw.Box.chg; case hx => assumption) | (apply Go.Gw.At.chg; case hx => assumption) | exact .inl (Nat.zero_le _) | exact .inr (Nat.zero_le _) | (show _ ∨ _; omega))) (hn : 0 ≤ l ∧ l ≤ h ∧ h ≤ cp v := by omega) : W P N ops Q (⟨some d, .slice T x (some y) (some z) none, ty, pos, af, none⟩ :: rest) σ w := by
  obtain ⟨u, hy, hp⟩ := y_slicet (P := P) (ty := ty) (T := T) hx hl hh H hn
  exact w_pure hy hd (kk u hp)
theorem h_slicep {B : Nat} {xs : List α} {h : Int} {i fuel n : Nat} {q : List (Nat × Oper)} {ls : List Bool} [hT : TSli P T e s b] (hi' : ops[i]? = some ⟨some d, .slice T x none (some y) none, ty, pos, af, none⟩) (hx : ev σ x = some v) (hh : ev σ y = some (.int k h))
    (hd : Nat.blt d N = true) (kk : ∀ u, Own w e B u (xs.take h.toNat) → bL u = bL v ∧ bH u = bH v ∧ cp u = cp v → WH P N ops Q fuel q.length q (ls.set i true) ((d, u) :: σ) w) (H : Own w e B v xs := by repeat (first | assumption | exact Go.Gw.Own.sl (by assumption) | exact Go.Gw.Box.at (by assumption) | exact Go.Gw.SLL.el (by first | assumption | exact Go.Gw.OwnD.sll (by assumption)) _ (by omega) | exact Go.Gw.SLL.at (by first | assumption | exact Go.Gw.OwnD.sll (by assumption)) (by omega) | exact Go.Gw.OwnD.sll (by assumption) | (apply Go.Gw.SL.chg; case hx => assumption) | (apply Go.Gw.Own.chg; case hx => assumption) | (apply Go.Gw.Box.chg; case hx => assumption) | (apply Go.Gw.At.chg; case hx => assumption) | exact .inl (Nat.zero_le _) | exact .inr (Nat.zero_le _) | (show _ ∨ _; omega))) (hb : 0 ≤ h ∧ h ≤ xs.length := by omega)
    (hm : mayTake ops (spoil ops) ls.toArray i = true := by decide +kernel) (hQ : ∀ c a u w, Q (.panic c) (a.put (some d) u) w → Q (.panic c) a w := by exact fun _ _ _ _ h => h) :
    WH P N ops Q (fuel + 1) n ((i, ⟨some d, .slice T x none (some y) none, ty, pos, af, none⟩) :: q) ls σ w := by
  obtain ⟨u, hy, hu, h3⟩ := y_slicep (P := P) (ty := ty) (T := T) hx hh H hb
  exact h_pure hi' hy hd (kk u hu h3) hm (fun c a w => hQ c a u w)
theorem Own.cp_le {B : Nat} {xs : List α} (h : Own w e B v xs) : xs.length ≤ cp v := by
  obtain ⟨a, c, hv, hle, _⟩ := h.sl.form
  rw [hv]; exact hle
end
end Go.Gw

namespace Go.Gw
open Go
set_option linter.unusedVariables false
set_option linter.unusedSimpArgs false
section
variable {P : Program} {N : Nat} {σ : Fm} {w : World} {ty t t' : TypeId} {x y : Operand} {a b : Int}
theorem wrap_u8 {a : Int} (h : 0 ≤ a ∧ a < 256) : IntKind.u8.wrap a = a := by
  simp only [IntKind.wrap, show IntKind.u8.signed = false from rfl, show IntKind.u8.bits = 8 from rfl, Bool.false_eq_true, false_and, Bool.false_and, if_false]
  omega
theorem y_sub8 (hx : ev σ x = some (.int .u8 a)) (hy : ev σ y = some (.int .u8 b)) (h : 0 ≤ a - b ∧ a - b < 256 := by omega) : YE P σ (.binOp .sub t x y t') ty w (.int .u8 (a - b)) := by
  have := y_sub_wrap (P := P) (w := w) (ty := ty) (t := t) (t' := t') hx hy
  rwa [wrap_u8 h] at this
end
end Go.Gw

namespace Go.Gw
open Go
set_option linter.unusedVariables false
set_option linter.unusedSimpArgs false
section
variable {P : Program} {N : Nat} {Q : Post} {σ : Fm} {w w' : World} {ops : Array Oper} {rest : List Oper} {T ty : TypeId} {x y z : Operand} {v u t : Value} {lo hi l k e s b d : Nat} {pos : String} {af : Array Edge} {svs gs : List SV} {xss : List (List Int)} {k1 k2 : IntKind}
theorem drop_take_getD {α : Type} {xs : List α} {a b i : Nat} {d : α} (h : i < ((xs.take b).drop a).length) : ((xs.take b).drop a).getD i d = xs.getD (a + i) d := by
  simp only [List.length_drop, List.length_take] at h
  rw [List.getD_eq_getElem?_getD, List.getElem?_drop, List.getElem?_take_of_lt (by omega), List.getD_eq_getElem?_getD]
theorem SLL.part {a c : Nat} (H : SLL w lo hi svs v xss) (hu : SL w lo hi u ((svs.take c).drop a)) : SLL w lo hi ((svs.take c).drop a) u ((xss.take c).drop a) := by
  have hl := H.len
  refine ⟨hu, by simp only [List.length_drop, List.length_take, hl], fun i hi => ?_⟩
  have h2 : i < ((svs.take c).drop a).length := by simp only [List.length_drop, List.length_take] at hi ⊢; omega
  rw [svD, drop_take_getD h2, drop_take_getD hi]
  exact H.el _ (by simp only [List.length_drop, List.length_take] at hi; omega)
theorem w_sliced {l h : Int} [hT : TSli P T e s b] (hx : ev σ x = some v) (hl : ev σ y = some (.int k1 l)) (hh : ev σ z = some (.int k2 h)) (hd : Nat.blt d N = true) (kk : ∀ u, SLL w lo hi ((svs.take h.toNat).drop l.toNat) u ((xss.take h.toNat).drop l.toNat) → W P N ops Q rest ((d, u) :: σ) w)
    (H : SLL w lo hi svs v xss := by first | assumption | exact Go.Gw.OwnD.sll (by assumption)) (hs : s = 1 := by rfl) (hb : 0 ≤ l ∧ l ≤ h ∧ h ≤ xss.length := by omega) :
    W P N ops Q (⟨some d, .slice T x (some y) (some z) none, ty, pos, af, none⟩ :: rest) σ w := by
  have hln := H.len
  obtain ⟨u, hy, hu⟩ := y_slice (P := P) (ty := ty) (T := T) hx (.inr ⟨y, _, rfl, hl⟩) (.inr ⟨z, _, rfl, hh⟩) H.out hs (by omega)
  exact w_pure hy hd (kk u (H.part hu))
theorem q_part_dec {op : Op} {Cl : World → Prop} {Q : Act → Prop} {o : Option Tmp} {j t : Nat} {b' : Bool} {p : Prop} {dp : Decidable p} (hj : (ops[j]?).bind (·.dst) = some t) (ht : look σ t = some (.bool (decide p)))
    (k1 : p → WQ P N ops Cl Q (⟨o, op, ty, pos, af, some (j, b')⟩ :: rest) ((t, .bool true) :: σ)) (k2 : ¬ p → WQ P N ops Cl Q (⟨o, op, ty, pos, af, some (j, b')⟩ :: rest) ((t, .bool false) :: σ)) : WQ P N ops Cl Q (⟨o, op, ty, pos, af, some (j, b')⟩ :: rest) σ :=
  q_part hj ht (fun h => k1 (of_decide_eq_true h)) (fun h => k2 (of_decide_eq_false h))
theorem q_slice {α : Type} {E : Enc α} {xs : List α} {l h : Int} {ol oh : Option Operand} {Q : Act → Prop} [hT : TSli P T e s b] (hx : ev σ x = some v) (hl : (ol = none ∧ l = 0) ∨ ∃ y k, ol = some y ∧ ev σ y = some (.int k l)) (hh : (oh = none ∧ h = xs.length) ∨ ∃ y k, oh = some y ∧ ev σ y = some (.int k h))
    (hd : Nat.blt d N = true) (k : ∀ u, SL w lo hi u ((xs.take h.toNat).drop l.toNat) → WQ P N ops (Ext w) Q rest ((d, u) :: σ)) (H : SL w lo hi v xs := by repeat (first | assumption | exact Go.Gw.Own.sl (by assumption) | exact Go.Gw.Box.at (by assumption) | exact Go.Gw.SLL.el (by first | assumption | exact Go.Gw.OwnD.sll (by assumption)) _ (by omega) | exact Go.Gw.SLL.at (by first | assumption | exact Go.Gw.OwnD.sll (by assumption)) (by omega) | exact Go.Gw.OwnD.sll (by assumption) | (apply Go.Gw.SL.chg; case hx => assumption) | (apply Go.Gw.Own.chg; case hx => assumption) | (apply Go.Gw.Box.chg; case hx => assumption) | (apply Go.Gw.At.chg; case hx => assumption) | exact .inl (Nat.zero_le _) | exact .inr (Nat.zero_le _) | (show _ ∨ _; omega))) (hs : s = Enc.sz α := by rfl) (hb : 0 ≤ l ∧ l ≤ h ∧ h ≤ xs.length := by omega) :
    WQ P N ops (Ext w) Q (⟨some d, .slice T x ol oh none, ty, pos, af, none⟩ :: rest) σ := by
  obtain ⟨u, hy, hu⟩ := y_slice (P := P) (ty := ty) (T := T) hx hl hh H hs hb
  exact q_pure hy hd (k u hu)
/-- an element that is a slice -/
theorem y_load_svo [TScal P T] {n : Nat} (hx : ev σ x = some (ptr (sb v) (so v + n * 1))) (h : SL w lo hi v gs := by repeat (first | assumption | exact Go.Gw.Own.sl (by assumption) | exact Go.Gw.Box.at (by assumption) | exact Go.Gw.SLL.el (by first | assumption | exact Go.Gw.OwnD.sll (by assumption)) _ (by omega) | exact Go.Gw.SLL.at (by first | assumption | exact Go.Gw.OwnD.sll (by assumption)) (by omega) | exact Go.Gw.OwnD.sll (by assumption) | (apply Go.Gw.SL.chg; case hx => assumption) | (apply Go.Gw.Own.chg; case hx => assumption) | (apply Go.Gw.Box.chg; case hx => assumption) | (apply Go.Gw.At.chg; case hx => assumption) | exact .inl (Nat.zero_le _) | exact .inr (Nat.zero_le _) | (show _ ∨ _; omega))) (hn : n < gs.length := by first | omega | (simp only [List.length_set]; omega) | (simp only [List.length_set, List.length_append, List.length_cons, List.length_nil]; omega)) : YE P σ (.load T x) ty w (svD gs n) := y_load_el hx h hn rfl
theorem w_lit_svl [hT : TSli P T e s b] (hs1 : s = 1) {h : Nat} (hx : ev σ x = some u) (hu : SLL w l h svs u xss := by first | assumption | exact Go.Gw.OwnD.sll (by assumption)) (hd : Nat.blt d N = true := by rfl)
    (k : ∀ v w', Own w' e w.heap.size v [svOf u] → Ext w w' → bL v = w.heap.size → bH v = w.heap.size + 1 → w'.heap.size = w.heap.size + 1 → W P N ops Q rest ((d, v) :: σ) w') : W P N ops Q (⟨some d, .buildSlice T 1 #[(0, x)], ty, pos, af, none⟩ :: rest) σ w :=
  w_lit' (n := 1) (parts := [(0, x)]) (vs := [u]) (xs := [svOf u]) hs1 (by simp [evp, hx, num]) rfl (by
    have h1 := cells_one hu.out.one
    simp only [List.flatMap_cons, List.flatMap_nil, List.append_nil, h1]
    show [u] = [(svOf u).v]; rw [svOf_v hu.out]) (fun v hv => by simp at hv; subst hv; rw [cells_one hu.out.one]; rfl) rfl (by omega) (by omega) hd k
end
end Go.Gw

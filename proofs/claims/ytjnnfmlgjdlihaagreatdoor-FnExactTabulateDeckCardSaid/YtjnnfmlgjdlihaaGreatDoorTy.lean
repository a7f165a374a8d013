/- What is known of this program's types and functions. -/
import Derived.Test.YtjnnfmlgjdlihaaGreatDoorL12
import Derived.Test.YtjnnfmlgjdlihaaGreatDoorChecked
namespace Go.Proofs.YtjnnfmlgjdlihaaGreatDoor
open Go Go.Gw
theorem mixed : Tryz.prog.follows .mixedOrders = true := by kernel_rfl
instance : TScal Tryz.prog 1 := ⟨⟨_, Tryz.underlying1, rfl⟩, by kernel_rfl⟩
instance : TScal Tryz.prog 2 := ⟨⟨_, Tryz.underlying2, rfl⟩, by kernel_rfl⟩
instance : TInt Tryz.prog 2 .i64 := ⟨Tryz.underlying2⟩
instance : TZero Tryz.prog 2 (.int .i64 0) := ⟨by kernel_rfl⟩
instance : TScal Tryz.prog 3 := ⟨⟨_, Tryz.underlying3, rfl⟩, by kernel_rfl⟩
instance : TInt Tryz.prog 3 .i64 := ⟨Tryz.underlying3⟩
instance : TZero Tryz.prog 3 (.int .i64 0) := ⟨by kernel_rfl⟩
instance : TScal Tryz.prog 4 := ⟨⟨_, Tryz.underlying4, rfl⟩, by kernel_rfl⟩
instance : TBool Tryz.prog 4 := ⟨Tryz.underlying4⟩
instance : TZero Tryz.prog 4 (.bool false) := ⟨by kernel_rfl⟩
instance : TScal Tryz.prog 5 := ⟨⟨_, Tryz.underlying5, rfl⟩, by kernel_rfl⟩
instance : TInt Tryz.prog 5 .u8 := ⟨Tryz.underlying5⟩
instance : TZero Tryz.prog 5 (.int .u8 0) := ⟨by kernel_rfl⟩
instance : TScal Tryz.prog 6 := ⟨⟨_, Tryz.underlying6, rfl⟩, by kernel_rfl⟩
instance : TInt Tryz.prog 6 .u8 := ⟨Tryz.underlying6⟩
instance : TZero Tryz.prog 6 (.int .u8 0) := ⟨by kernel_rfl⟩
instance : TStr Tryz.prog 7 4 := ⟨⟨_, Tryz.underlying7⟩, by kernel_rfl⟩
instance : TFldT Tryz.prog 7 0 0 2 := ⟨⟨_, _, Tryz.underlying7, rfl, rfl, rfl⟩⟩
instance : TFld Tryz.prog 7 0 0 := ⟨⟨_, _, Tryz.underlying7, rfl, rfl, _, (by kernel_rfl : (Tryz.prog.info? 2).map (·.size) = some (0 + 1))⟩⟩
instance : TFldT Tryz.prog 7 1 1 3 := ⟨⟨_, _, Tryz.underlying7, rfl, rfl, rfl⟩⟩
instance : TFld Tryz.prog 7 1 1 := ⟨⟨_, _, Tryz.underlying7, rfl, rfl, _, (by kernel_rfl : (Tryz.prog.info? 3).map (·.size) = some (0 + 1))⟩⟩
instance : TFldT Tryz.prog 7 2 2 4 := ⟨⟨_, _, Tryz.underlying7, rfl, rfl, rfl⟩⟩
instance : TFld Tryz.prog 7 2 2 := ⟨⟨_, _, Tryz.underlying7, rfl, rfl, _, (by kernel_rfl : (Tryz.prog.info? 4).map (·.size) = some (0 + 1))⟩⟩
instance : TFldT Tryz.prog 7 3 3 6 := ⟨⟨_, _, Tryz.underlying7, rfl, rfl, rfl⟩⟩
instance : TFld Tryz.prog 7 3 3 := ⟨⟨_, _, Tryz.underlying7, rfl, rfl, _, (by kernel_rfl : (Tryz.prog.info? 6).map (·.size) = some (0 + 1))⟩⟩
instance : TFlat Tryz.prog 7 [.int .i64 0, .int .i64 0, .bool false, .int .u8 0] := ⟨by kernel_rfl, _, Tryz.underlying7, by kernel_rfl⟩
instance : TZero Tryz.prog 7 (.agg #[.int .i64 0, .int .i64 0, .bool false, .int .u8 0]) := ⟨by kernel_rfl⟩
instance : TStr Tryz.prog 8 4 := ⟨⟨_, Tryz.underlying8⟩, by kernel_rfl⟩
instance : TFldT Tryz.prog 8 0 0 2 := ⟨⟨_, _, Tryz.underlying8, rfl, rfl, rfl⟩⟩
instance : TFld Tryz.prog 8 0 0 := ⟨⟨_, _, Tryz.underlying8, rfl, rfl, _, (by kernel_rfl : (Tryz.prog.info? 2).map (·.size) = some (0 + 1))⟩⟩
instance : TFldT Tryz.prog 8 1 1 3 := ⟨⟨_, _, Tryz.underlying8, rfl, rfl, rfl⟩⟩
instance : TFld Tryz.prog 8 1 1 := ⟨⟨_, _, Tryz.underlying8, rfl, rfl, _, (by kernel_rfl : (Tryz.prog.info? 3).map (·.size) = some (0 + 1))⟩⟩
instance : TFldT Tryz.prog 8 2 2 4 := ⟨⟨_, _, Tryz.underlying8, rfl, rfl, rfl⟩⟩
instance : TFld Tryz.prog 8 2 2 := ⟨⟨_, _, Tryz.underlying8, rfl, rfl, _, (by kernel_rfl : (Tryz.prog.info? 4).map (·.size) = some (0 + 1))⟩⟩
instance : TFldT Tryz.prog 8 3 3 6 := ⟨⟨_, _, Tryz.underlying8, rfl, rfl, rfl⟩⟩
instance : TFld Tryz.prog 8 3 3 := ⟨⟨_, _, Tryz.underlying8, rfl, rfl, _, (by kernel_rfl : (Tryz.prog.info? 6).map (·.size) = some (0 + 1))⟩⟩
instance : TFlat Tryz.prog 8 [.int .i64 0, .int .i64 0, .bool false, .int .u8 0] := ⟨by kernel_rfl, _, Tryz.underlying8, by kernel_rfl⟩
instance : TZero Tryz.prog 8 (.agg #[.int .i64 0, .int .i64 0, .bool false, .int .u8 0]) := ⟨by kernel_rfl⟩
instance : TScal Tryz.prog 9 := ⟨⟨_, Tryz.underlying9, rfl⟩, by kernel_rfl⟩
instance : TStg Tryz.prog 9 := ⟨Tryz.underlying9⟩
instance : TZero Tryz.prog 9 (.string ⟨#[]⟩) := ⟨by kernel_rfl⟩
instance : TScal Tryz.prog 10 := ⟨⟨_, Tryz.underlying10, rfl⟩, by kernel_rfl⟩
instance : TStg Tryz.prog 10 := ⟨Tryz.underlying10⟩
instance : TZero Tryz.prog 10 (.string ⟨#[]⟩) := ⟨by kernel_rfl⟩
instance : TScal Tryz.prog 11 := ⟨⟨_, Tryz.underlying11, rfl⟩, by kernel_rfl⟩
instance : TStg Tryz.prog 11 := ⟨Tryz.underlying11⟩
instance : TZero Tryz.prog 11 (.string ⟨#[]⟩) := ⟨by kernel_rfl⟩
instance : TScal Tryz.prog 12 := ⟨⟨_, Tryz.underlying12, rfl⟩, by kernel_rfl⟩
instance : TInt Tryz.prog 12 .u64 := ⟨Tryz.underlying12⟩
instance : TZero Tryz.prog 12 (.int .u64 0) := ⟨by kernel_rfl⟩
instance : TStr Tryz.prog 13 2 := ⟨⟨_, Tryz.underlying13⟩, by kernel_rfl⟩
instance : TFldT Tryz.prog 13 0 0 9 := ⟨⟨_, _, Tryz.underlying13, rfl, rfl, rfl⟩⟩
instance : TFld Tryz.prog 13 0 0 := ⟨⟨_, _, Tryz.underlying13, rfl, rfl, _, (by kernel_rfl : (Tryz.prog.info? 9).map (·.size) = some (0 + 1))⟩⟩
instance : TFldT Tryz.prog 13 1 1 12 := ⟨⟨_, _, Tryz.underlying13, rfl, rfl, rfl⟩⟩
instance : TFld Tryz.prog 13 1 1 := ⟨⟨_, _, Tryz.underlying13, rfl, rfl, _, (by kernel_rfl : (Tryz.prog.info? 12).map (·.size) = some (0 + 1))⟩⟩
instance : TFlat Tryz.prog 13 [.string ⟨#[]⟩, .int .u64 0] := ⟨by kernel_rfl, _, Tryz.underlying13, by kernel_rfl⟩
instance : TZero Tryz.prog 13 (.agg #[.string ⟨#[]⟩, .int .u64 0]) := ⟨by kernel_rfl⟩
instance : TStr Tryz.prog 14 2 := ⟨⟨_, Tryz.underlying14⟩, by kernel_rfl⟩
instance : TFldT Tryz.prog 14 0 0 9 := ⟨⟨_, _, Tryz.underlying14, rfl, rfl, rfl⟩⟩
instance : TFld Tryz.prog 14 0 0 := ⟨⟨_, _, Tryz.underlying14, rfl, rfl, _, (by kernel_rfl : (Tryz.prog.info? 9).map (·.size) = some (0 + 1))⟩⟩
instance : TFldT Tryz.prog 14 1 1 12 := ⟨⟨_, _, Tryz.underlying14, rfl, rfl, rfl⟩⟩
instance : TFld Tryz.prog 14 1 1 := ⟨⟨_, _, Tryz.underlying14, rfl, rfl, _, (by kernel_rfl : (Tryz.prog.info? 12).map (·.size) = some (0 + 1))⟩⟩
instance : TFlat Tryz.prog 14 [.string ⟨#[]⟩, .int .u64 0] := ⟨by kernel_rfl, _, Tryz.underlying14, by kernel_rfl⟩
instance : TZero Tryz.prog 14 (.agg #[.string ⟨#[]⟩, .int .u64 0]) := ⟨by kernel_rfl⟩
instance : TScal Tryz.prog 15 := ⟨⟨_, Tryz.underlying15, rfl⟩, by kernel_rfl⟩
instance : TScal Tryz.prog 16 := ⟨⟨_, Tryz.underlying16, rfl⟩, by kernel_rfl⟩
instance : TScal Tryz.prog 17 := ⟨⟨_, Tryz.underlying17, rfl⟩, by kernel_rfl⟩
instance : TStr Tryz.prog 18 1 := ⟨⟨_, Tryz.underlying18⟩, by kernel_rfl⟩
instance : TFldT Tryz.prog 18 0 0 17 := ⟨⟨_, _, Tryz.underlying18, rfl, rfl, rfl⟩⟩
instance : TFld Tryz.prog 18 0 0 := ⟨⟨_, _, Tryz.underlying18, rfl, rfl, _, (by kernel_rfl : (Tryz.prog.info? 17).map (·.size) = some (0 + 1))⟩⟩
instance : TFlat Tryz.prog 18 [.pointer none] := ⟨by kernel_rfl, _, Tryz.underlying18, by kernel_rfl⟩
instance : TZero Tryz.prog 18 (.agg #[.pointer none]) := ⟨by kernel_rfl⟩
instance : TStr Tryz.prog 19 1 := ⟨⟨_, Tryz.underlying19⟩, by kernel_rfl⟩
instance : TFldT Tryz.prog 19 0 0 17 := ⟨⟨_, _, Tryz.underlying19, rfl, rfl, rfl⟩⟩
instance : TFld Tryz.prog 19 0 0 := ⟨⟨_, _, Tryz.underlying19, rfl, rfl, _, (by kernel_rfl : (Tryz.prog.info? 17).map (·.size) = some (0 + 1))⟩⟩
instance : TFlat Tryz.prog 19 [.pointer none] := ⟨by kernel_rfl, _, Tryz.underlying19, by kernel_rfl⟩
instance : TZero Tryz.prog 19 (.agg #[.pointer none]) := ⟨by kernel_rfl⟩
instance : TScal Tryz.prog 20 := ⟨⟨_, Tryz.underlying20, rfl⟩, by kernel_rfl⟩
instance : TScal Tryz.prog 21 := ⟨⟨_, Tryz.underlying21, rfl⟩, by kernel_rfl⟩
instance : TInt Tryz.prog 21 .i32 := ⟨Tryz.underlying21⟩
instance : TZero Tryz.prog 21 (.int .i32 0) := ⟨by kernel_rfl⟩
instance : TStr Tryz.prog 22 2 := ⟨⟨_, Tryz.underlying22⟩, by kernel_rfl⟩
instance : TFldT Tryz.prog 22 0 0 2 := ⟨⟨_, _, Tryz.underlying22, rfl, rfl, rfl⟩⟩
instance : TFld Tryz.prog 22 0 0 := ⟨⟨_, _, Tryz.underlying22, rfl, rfl, _, (by kernel_rfl : (Tryz.prog.info? 2).map (·.size) = some (0 + 1))⟩⟩
instance : TFldT Tryz.prog 22 1 1 2 := ⟨⟨_, _, Tryz.underlying22, rfl, rfl, rfl⟩⟩
instance : TFld Tryz.prog 22 1 1 := ⟨⟨_, _, Tryz.underlying22, rfl, rfl, _, (by kernel_rfl : (Tryz.prog.info? 2).map (·.size) = some (0 + 1))⟩⟩
instance : TFlat Tryz.prog 22 [.int .i64 0, .int .i64 0] := ⟨by kernel_rfl, _, Tryz.underlying22, by kernel_rfl⟩
instance : TZero Tryz.prog 22 (.agg #[.int .i64 0, .int .i64 0]) := ⟨by kernel_rfl⟩
instance : TPair Tryz.prog 23 := ⟨by kernel_rfl, by kernel_rfl, _, _, Tryz.underlying23, by decide, by decide, rfl, rfl, Tryz.underlying2, Tryz.underlying2⟩
instance : TStr Tryz.prog 23 2 := ⟨⟨_, Tryz.underlying23⟩, by kernel_rfl⟩
instance : TFldT Tryz.prog 23 0 0 2 := ⟨⟨_, _, Tryz.underlying23, rfl, rfl, rfl⟩⟩
instance : TFld Tryz.prog 23 0 0 := ⟨⟨_, _, Tryz.underlying23, rfl, rfl, _, (by kernel_rfl : (Tryz.prog.info? 2).map (·.size) = some (0 + 1))⟩⟩
instance : TFldT Tryz.prog 23 1 1 2 := ⟨⟨_, _, Tryz.underlying23, rfl, rfl, rfl⟩⟩
instance : TFld Tryz.prog 23 1 1 := ⟨⟨_, _, Tryz.underlying23, rfl, rfl, _, (by kernel_rfl : (Tryz.prog.info? 2).map (·.size) = some (0 + 1))⟩⟩
instance : TFlat Tryz.prog 23 [.int .i64 0, .int .i64 0] := ⟨by kernel_rfl, _, Tryz.underlying23, by kernel_rfl⟩
instance : TZero Tryz.prog 23 (.agg #[.int .i64 0, .int .i64 0]) := ⟨by kernel_rfl⟩
instance : TScal Tryz.prog 24 := ⟨⟨_, Tryz.underlying24, rfl⟩, by kernel_rfl⟩
instance : TZero Tryz.prog 24 (.slice none 0 0) := ⟨by kernel_rfl⟩
instance : TSvE Tryz.prog 24 := ⟨trivial⟩
instance : TSli Tryz.prog 24 23 2 16 := ⟨Tryz.underlying24, by kernel_rfl, by kernel_rfl, by kernel_rfl, zlen_of (z := .agg #[.int .i64 0, .int .i64 0]) (by kernel_rfl) rfl⟩
instance : TStr Tryz.prog 25 4 := ⟨⟨_, Tryz.underlying25⟩, by kernel_rfl⟩
instance : TFldT Tryz.prog 25 0 0 23 := ⟨⟨_, _, Tryz.underlying25, rfl, rfl, rfl⟩⟩
instance : TFld Tryz.prog 25 0 0 := ⟨⟨_, _, Tryz.underlying25, rfl, rfl, _, (by kernel_rfl : (Tryz.prog.info? 23).map (·.size) = some (1 + 1))⟩⟩
instance : TFldT Tryz.prog 25 1 2 24 := ⟨⟨_, _, Tryz.underlying25, rfl, rfl, rfl⟩⟩
instance : TFld Tryz.prog 25 1 2 := ⟨⟨_, _, Tryz.underlying25, rfl, rfl, _, (by kernel_rfl : (Tryz.prog.info? 24).map (·.size) = some (0 + 1))⟩⟩
instance : TFldT Tryz.prog 25 2 3 4 := ⟨⟨_, _, Tryz.underlying25, rfl, rfl, rfl⟩⟩
instance : TFld Tryz.prog 25 2 3 := ⟨⟨_, _, Tryz.underlying25, rfl, rfl, _, (by kernel_rfl : (Tryz.prog.info? 4).map (·.size) = some (0 + 1))⟩⟩
instance : TZero Tryz.prog 25 (.agg #[.int .i64 0, .int .i64 0, .slice none 0 0, .bool false]) := ⟨by kernel_rfl⟩
instance : TStr Tryz.prog 26 4 := ⟨⟨_, Tryz.underlying26⟩, by kernel_rfl⟩
instance : TFldT Tryz.prog 26 0 0 23 := ⟨⟨_, _, Tryz.underlying26, rfl, rfl, rfl⟩⟩
instance : TFld Tryz.prog 26 0 0 := ⟨⟨_, _, Tryz.underlying26, rfl, rfl, _, (by kernel_rfl : (Tryz.prog.info? 23).map (·.size) = some (1 + 1))⟩⟩
instance : TFldT Tryz.prog 26 1 2 24 := ⟨⟨_, _, Tryz.underlying26, rfl, rfl, rfl⟩⟩
instance : TFld Tryz.prog 26 1 2 := ⟨⟨_, _, Tryz.underlying26, rfl, rfl, _, (by kernel_rfl : (Tryz.prog.info? 24).map (·.size) = some (0 + 1))⟩⟩
instance : TFldT Tryz.prog 26 2 3 4 := ⟨⟨_, _, Tryz.underlying26, rfl, rfl, rfl⟩⟩
instance : TFld Tryz.prog 26 2 3 := ⟨⟨_, _, Tryz.underlying26, rfl, rfl, _, (by kernel_rfl : (Tryz.prog.info? 4).map (·.size) = some (0 + 1))⟩⟩
instance : TZero Tryz.prog 26 (.agg #[.int .i64 0, .int .i64 0, .slice none 0 0, .bool false]) := ⟨by kernel_rfl⟩
instance : TScal Tryz.prog 27 := ⟨⟨_, Tryz.underlying27, rfl⟩, by kernel_rfl⟩
instance : TZero Tryz.prog 27 (.slice none 0 0) := ⟨by kernel_rfl⟩
instance : TSvE Tryz.prog 27 := ⟨trivial⟩
instance : TSli Tryz.prog 27 60 1 24 := ⟨Tryz.underlying27, by kernel_rfl, by kernel_rfl, by kernel_rfl, zlen_of (z := .agg #[.slice none 0 0]) (by kernel_rfl) rfl⟩
instance : TScal Tryz.prog 28 := ⟨⟨_, Tryz.underlying28, rfl⟩, by kernel_rfl⟩
instance : TScal Tryz.prog 29 := ⟨⟨_, Tryz.underlying29, rfl⟩, by kernel_rfl⟩
instance : TScal Tryz.prog 30 := ⟨⟨_, Tryz.underlying30, rfl⟩, by kernel_rfl⟩
instance : TZero Tryz.prog 30 (.slice none 0 0) := ⟨by kernel_rfl⟩
instance : TSvE Tryz.prog 30 := ⟨trivial⟩
instance : TSli Tryz.prog 30 9 1 16 := ⟨Tryz.underlying30, by kernel_rfl, by kernel_rfl, by kernel_rfl, zlen_of (z := .string ⟨#[]⟩) (by kernel_rfl) rfl⟩
instance : TScal Tryz.prog 32 := ⟨⟨_, Tryz.underlying32, rfl⟩, by kernel_rfl⟩
instance : TPair Tryz.prog 33 := ⟨by kernel_rfl, by kernel_rfl, _, _, Tryz.underlying33, by decide, by decide, rfl, rfl, Tryz.underlying2, Tryz.underlying2⟩
instance : TStr Tryz.prog 33 2 := ⟨⟨_, Tryz.underlying33⟩, by kernel_rfl⟩
instance : TFldT Tryz.prog 33 0 0 2 := ⟨⟨_, _, Tryz.underlying33, rfl, rfl, rfl⟩⟩
instance : TFld Tryz.prog 33 0 0 := ⟨⟨_, _, Tryz.underlying33, rfl, rfl, _, (by kernel_rfl : (Tryz.prog.info? 2).map (·.size) = some (0 + 1))⟩⟩
instance : TFldT Tryz.prog 33 1 1 2 := ⟨⟨_, _, Tryz.underlying33, rfl, rfl, rfl⟩⟩
instance : TFld Tryz.prog 33 1 1 := ⟨⟨_, _, Tryz.underlying33, rfl, rfl, _, (by kernel_rfl : (Tryz.prog.info? 2).map (·.size) = some (0 + 1))⟩⟩
instance : TFlat Tryz.prog 33 [.int .i64 0, .int .i64 0] := ⟨by kernel_rfl, _, Tryz.underlying33, by kernel_rfl⟩
instance : TZero Tryz.prog 33 (.agg #[.int .i64 0, .int .i64 0]) := ⟨by kernel_rfl⟩
instance : TScal Tryz.prog 34 := ⟨⟨_, Tryz.underlying34, rfl⟩, by kernel_rfl⟩
instance : TZero Tryz.prog 34 (.slice none 0 0) := ⟨by kernel_rfl⟩
instance : TSvE Tryz.prog 34 := ⟨trivial⟩
instance : TSli Tryz.prog 34 33 2 16 := ⟨Tryz.underlying34, by kernel_rfl, by kernel_rfl, by kernel_rfl, zlen_of (z := .agg #[.int .i64 0, .int .i64 0]) (by kernel_rfl) rfl⟩
instance : TStr Tryz.prog 35 4 := ⟨⟨_, Tryz.underlying35⟩, by kernel_rfl⟩
instance : TFldT Tryz.prog 35 0 0 33 := ⟨⟨_, _, Tryz.underlying35, rfl, rfl, rfl⟩⟩
instance : TFld Tryz.prog 35 0 0 := ⟨⟨_, _, Tryz.underlying35, rfl, rfl, _, (by kernel_rfl : (Tryz.prog.info? 33).map (·.size) = some (1 + 1))⟩⟩
instance : TFldT Tryz.prog 35 1 2 34 := ⟨⟨_, _, Tryz.underlying35, rfl, rfl, rfl⟩⟩
instance : TFld Tryz.prog 35 1 2 := ⟨⟨_, _, Tryz.underlying35, rfl, rfl, _, (by kernel_rfl : (Tryz.prog.info? 34).map (·.size) = some (0 + 1))⟩⟩
instance : TFldT Tryz.prog 35 2 3 4 := ⟨⟨_, _, Tryz.underlying35, rfl, rfl, rfl⟩⟩
instance : TFld Tryz.prog 35 2 3 := ⟨⟨_, _, Tryz.underlying35, rfl, rfl, _, (by kernel_rfl : (Tryz.prog.info? 4).map (·.size) = some (0 + 1))⟩⟩
instance : TZero Tryz.prog 35 (.agg #[.int .i64 0, .int .i64 0, .slice none 0 0, .bool false]) := ⟨by kernel_rfl⟩
instance : TStr Tryz.prog 36 4 := ⟨⟨_, Tryz.underlying36⟩, by kernel_rfl⟩
instance : TFldT Tryz.prog 36 0 0 33 := ⟨⟨_, _, Tryz.underlying36, rfl, rfl, rfl⟩⟩
instance : TFld Tryz.prog 36 0 0 := ⟨⟨_, _, Tryz.underlying36, rfl, rfl, _, (by kernel_rfl : (Tryz.prog.info? 33).map (·.size) = some (1 + 1))⟩⟩
instance : TFldT Tryz.prog 36 1 2 34 := ⟨⟨_, _, Tryz.underlying36, rfl, rfl, rfl⟩⟩
instance : TFld Tryz.prog 36 1 2 := ⟨⟨_, _, Tryz.underlying36, rfl, rfl, _, (by kernel_rfl : (Tryz.prog.info? 34).map (·.size) = some (0 + 1))⟩⟩
instance : TFldT Tryz.prog 36 2 3 4 := ⟨⟨_, _, Tryz.underlying36, rfl, rfl, rfl⟩⟩
instance : TFld Tryz.prog 36 2 3 := ⟨⟨_, _, Tryz.underlying36, rfl, rfl, _, (by kernel_rfl : (Tryz.prog.info? 4).map (·.size) = some (0 + 1))⟩⟩
instance : TZero Tryz.prog 36 (.agg #[.int .i64 0, .int .i64 0, .slice none 0 0, .bool false]) := ⟨by kernel_rfl⟩
instance : TScal Tryz.prog 37 := ⟨⟨_, Tryz.underlying37, rfl⟩, by kernel_rfl⟩
instance : TScal Tryz.prog 38 := ⟨⟨_, Tryz.underlying38, rfl⟩, by kernel_rfl⟩
instance : TZero Tryz.prog 38 (.slice none 0 0) := ⟨by kernel_rfl⟩
instance : TSvE Tryz.prog 38 := ⟨trivial⟩
instance : TSli Tryz.prog 38 72 1 24 := ⟨Tryz.underlying38, by kernel_rfl, by kernel_rfl, by kernel_rfl, zlen_of (z := .agg #[.slice none 0 0]) (by kernel_rfl) rfl⟩
instance : TScal Tryz.prog 39 := ⟨⟨_, Tryz.underlying39, rfl⟩, by kernel_rfl⟩
instance : TScal Tryz.prog 40 := ⟨⟨_, Tryz.underlying40, rfl⟩, by kernel_rfl⟩
instance : TScal Tryz.prog 41 := ⟨⟨_, Tryz.underlying41, rfl⟩, by kernel_rfl⟩
instance : TScal Tryz.prog 42 := ⟨⟨_, Tryz.underlying42, rfl⟩, by kernel_rfl⟩
instance : TScal Tryz.prog 43 := ⟨⟨_, Tryz.underlying43, rfl⟩, by kernel_rfl⟩
instance : TScal Tryz.prog 44 := ⟨⟨_, Tryz.underlying44, rfl⟩, by kernel_rfl⟩
instance : TScal Tryz.prog 45 := ⟨⟨_, Tryz.underlying45, rfl⟩, by kernel_rfl⟩
instance : TScal Tryz.prog 46 := ⟨⟨_, Tryz.underlying46, rfl⟩, by kernel_rfl⟩
instance : TScal Tryz.prog 47 := ⟨⟨_, Tryz.underlying47, rfl⟩, by kernel_rfl⟩
instance : TZero Tryz.prog 47 (.slice none 0 0) := ⟨by kernel_rfl⟩
instance : TSvE Tryz.prog 47 := ⟨trivial⟩
instance : TSli Tryz.prog 47 5 1 1 := ⟨Tryz.underlying47, by kernel_rfl, by kernel_rfl, by kernel_rfl, zlen_of (z := .int .u8 0) (by kernel_rfl) rfl⟩
instance : TScal Tryz.prog 48 := ⟨⟨_, Tryz.underlying48, rfl⟩, by kernel_rfl⟩
instance : TScal Tryz.prog 49 := ⟨⟨_, Tryz.underlying49, rfl⟩, by kernel_rfl⟩
instance : TScal Tryz.prog 50 := ⟨⟨_, Tryz.underlying50, rfl⟩, by kernel_rfl⟩
instance : TScal Tryz.prog 52 := ⟨⟨_, Tryz.underlying52, rfl⟩, by kernel_rfl⟩
instance : TScal Tryz.prog 53 := ⟨⟨_, Tryz.underlying53, rfl⟩, by kernel_rfl⟩
instance : TZero Tryz.prog 53 (.slice none 0 0) := ⟨by kernel_rfl⟩
instance : TSvE Tryz.prog 53 := ⟨trivial⟩
instance : TSli Tryz.prog 53 2 1 8 := ⟨Tryz.underlying53, by kernel_rfl, by kernel_rfl, by kernel_rfl, zlen_of (z := .int .i64 0) (by kernel_rfl) rfl⟩
instance : TScal Tryz.prog 55 := ⟨⟨_, Tryz.underlying55, rfl⟩, by kernel_rfl⟩
instance : TScal Tryz.prog 56 := ⟨⟨_, Tryz.underlying56, rfl⟩, by kernel_rfl⟩
instance : TScal Tryz.prog 57 := ⟨⟨_, Tryz.underlying57, rfl⟩, by kernel_rfl⟩
instance : TScal Tryz.prog 58 := ⟨⟨_, Tryz.underlying58, rfl⟩, by kernel_rfl⟩
instance : TStr Tryz.prog 59 1 := ⟨⟨_, Tryz.underlying59⟩, by kernel_rfl⟩
instance : TFldT Tryz.prog 59 0 0 53 := ⟨⟨_, _, Tryz.underlying59, rfl, rfl, rfl⟩⟩
instance : TFld Tryz.prog 59 0 0 := ⟨⟨_, _, Tryz.underlying59, rfl, rfl, _, (by kernel_rfl : (Tryz.prog.info? 53).map (·.size) = some (0 + 1))⟩⟩
instance : TFlat Tryz.prog 59 [.slice none 0 0] := ⟨by kernel_rfl, _, Tryz.underlying59, by kernel_rfl⟩
instance : TZero Tryz.prog 59 (.agg #[.slice none 0 0]) := ⟨by kernel_rfl⟩
instance : TSvE Tryz.prog 59 := ⟨trivial⟩
instance : TStr Tryz.prog 60 1 := ⟨⟨_, Tryz.underlying60⟩, by kernel_rfl⟩
instance : TFldT Tryz.prog 60 0 0 53 := ⟨⟨_, _, Tryz.underlying60, rfl, rfl, rfl⟩⟩
instance : TFld Tryz.prog 60 0 0 := ⟨⟨_, _, Tryz.underlying60, rfl, rfl, _, (by kernel_rfl : (Tryz.prog.info? 53).map (·.size) = some (0 + 1))⟩⟩
instance : TFlat Tryz.prog 60 [.slice none 0 0] := ⟨by kernel_rfl, _, Tryz.underlying60, by kernel_rfl⟩
instance : TZero Tryz.prog 60 (.agg #[.slice none 0 0]) := ⟨by kernel_rfl⟩
instance : TSvE Tryz.prog 60 := ⟨trivial⟩
instance : TScal Tryz.prog 61 := ⟨⟨_, Tryz.underlying61, rfl⟩, by kernel_rfl⟩
instance : TScal Tryz.prog 63 := ⟨⟨_, Tryz.underlying63, rfl⟩, by kernel_rfl⟩
instance : TScal Tryz.prog 64 := ⟨⟨_, Tryz.underlying64, rfl⟩, by kernel_rfl⟩
instance : TScal Tryz.prog 65 := ⟨⟨_, Tryz.underlying65, rfl⟩, by kernel_rfl⟩
instance : TZero Tryz.prog 65 (.slice none 0 0) := ⟨by kernel_rfl⟩
instance : TSvE Tryz.prog 65 := ⟨trivial⟩
instance : TSli Tryz.prog 65 53 1 24 := ⟨Tryz.underlying65, by kernel_rfl, by kernel_rfl, by kernel_rfl, zlen_of (z := .slice none 0 0) (by kernel_rfl) rfl⟩
instance : TStr Tryz.prog 66 3 := ⟨⟨_, Tryz.underlying66⟩, by kernel_rfl⟩
instance : TFldT Tryz.prog 66 0 0 30 := ⟨⟨_, _, Tryz.underlying66, rfl, rfl, rfl⟩⟩
instance : TFld Tryz.prog 66 0 0 := ⟨⟨_, _, Tryz.underlying66, rfl, rfl, _, (by kernel_rfl : (Tryz.prog.info? 30).map (·.size) = some (0 + 1))⟩⟩
instance : TFldT Tryz.prog 66 1 1 65 := ⟨⟨_, _, Tryz.underlying66, rfl, rfl, rfl⟩⟩
instance : TFld Tryz.prog 66 1 1 := ⟨⟨_, _, Tryz.underlying66, rfl, rfl, _, (by kernel_rfl : (Tryz.prog.info? 65).map (·.size) = some (0 + 1))⟩⟩
instance : TFldT Tryz.prog 66 2 2 53 := ⟨⟨_, _, Tryz.underlying66, rfl, rfl, rfl⟩⟩
instance : TFld Tryz.prog 66 2 2 := ⟨⟨_, _, Tryz.underlying66, rfl, rfl, _, (by kernel_rfl : (Tryz.prog.info? 53).map (·.size) = some (0 + 1))⟩⟩
instance : TFlat Tryz.prog 66 [.slice none 0 0, .slice none 0 0, .slice none 0 0] := ⟨by kernel_rfl, _, Tryz.underlying66, by kernel_rfl⟩
instance : TZero Tryz.prog 66 (.agg #[.slice none 0 0, .slice none 0 0, .slice none 0 0]) := ⟨by kernel_rfl⟩
instance : TStr Tryz.prog 67 3 := ⟨⟨_, Tryz.underlying67⟩, by kernel_rfl⟩
instance : TFldT Tryz.prog 67 0 0 30 := ⟨⟨_, _, Tryz.underlying67, rfl, rfl, rfl⟩⟩
instance : TFld Tryz.prog 67 0 0 := ⟨⟨_, _, Tryz.underlying67, rfl, rfl, _, (by kernel_rfl : (Tryz.prog.info? 30).map (·.size) = some (0 + 1))⟩⟩
instance : TFldT Tryz.prog 67 1 1 65 := ⟨⟨_, _, Tryz.underlying67, rfl, rfl, rfl⟩⟩
instance : TFld Tryz.prog 67 1 1 := ⟨⟨_, _, Tryz.underlying67, rfl, rfl, _, (by kernel_rfl : (Tryz.prog.info? 65).map (·.size) = some (0 + 1))⟩⟩
instance : TFldT Tryz.prog 67 2 2 53 := ⟨⟨_, _, Tryz.underlying67, rfl, rfl, rfl⟩⟩
instance : TFld Tryz.prog 67 2 2 := ⟨⟨_, _, Tryz.underlying67, rfl, rfl, _, (by kernel_rfl : (Tryz.prog.info? 53).map (·.size) = some (0 + 1))⟩⟩
instance : TFlat Tryz.prog 67 [.slice none 0 0, .slice none 0 0, .slice none 0 0] := ⟨by kernel_rfl, _, Tryz.underlying67, by kernel_rfl⟩
instance : TZero Tryz.prog 67 (.agg #[.slice none 0 0, .slice none 0 0, .slice none 0 0]) := ⟨by kernel_rfl⟩
instance : TScal Tryz.prog 68 := ⟨⟨_, Tryz.underlying68, rfl⟩, by kernel_rfl⟩
instance : TScal Tryz.prog 69 := ⟨⟨_, Tryz.underlying69, rfl⟩, by kernel_rfl⟩
instance : TScal Tryz.prog 70 := ⟨⟨_, Tryz.underlying70, rfl⟩, by kernel_rfl⟩
instance : TScal Tryz.prog 71 := ⟨⟨_, Tryz.underlying71, rfl⟩, by kernel_rfl⟩
instance : TStr Tryz.prog 72 1 := ⟨⟨_, Tryz.underlying72⟩, by kernel_rfl⟩
instance : TFldT Tryz.prog 72 0 0 53 := ⟨⟨_, _, Tryz.underlying72, rfl, rfl, rfl⟩⟩
instance : TFld Tryz.prog 72 0 0 := ⟨⟨_, _, Tryz.underlying72, rfl, rfl, _, (by kernel_rfl : (Tryz.prog.info? 53).map (·.size) = some (0 + 1))⟩⟩
instance : TFlat Tryz.prog 72 [.slice none 0 0] := ⟨by kernel_rfl, _, Tryz.underlying72, by kernel_rfl⟩
instance : TZero Tryz.prog 72 (.agg #[.slice none 0 0]) := ⟨by kernel_rfl⟩
instance : TSvE Tryz.prog 72 := ⟨trivial⟩
instance : TScal Tryz.prog 73 := ⟨⟨_, Tryz.underlying73, rfl⟩, by kernel_rfl⟩
instance : TScal Tryz.prog 74 := ⟨⟨_, Tryz.underlying74, rfl⟩, by kernel_rfl⟩
instance : TScal Tryz.prog 75 := ⟨⟨_, Tryz.underlying75, rfl⟩, by kernel_rfl⟩
instance : TZero Tryz.prog 75 (.slice none 0 0) := ⟨by kernel_rfl⟩
instance : TSvE Tryz.prog 75 := ⟨trivial⟩
instance : TSli Tryz.prog 75 38 1 24 := ⟨Tryz.underlying75, by kernel_rfl, by kernel_rfl, by kernel_rfl, zlen_of (z := .slice none 0 0) (by kernel_rfl) rfl⟩
instance : TScal Tryz.prog 76 := ⟨⟨_, Tryz.underlying76, rfl⟩, by kernel_rfl⟩
instance : TScal Tryz.prog 77 := ⟨⟨_, Tryz.underlying77, rfl⟩, by kernel_rfl⟩
instance : TScal Tryz.prog 78 := ⟨⟨_, Tryz.underlying78, rfl⟩, by kernel_rfl⟩
instance : TScal Tryz.prog 79 := ⟨⟨_, Tryz.underlying79, rfl⟩, by kernel_rfl⟩
instance : TScal Tryz.prog 80 := ⟨⟨_, Tryz.underlying80, rfl⟩, by kernel_rfl⟩
instance : TScal Tryz.prog 81 := ⟨⟨_, Tryz.underlying81, rfl⟩, by kernel_rfl⟩
instance : TScal Tryz.prog 82 := ⟨⟨_, Tryz.underlying82, rfl⟩, by kernel_rfl⟩
instance : TScal Tryz.prog 83 := ⟨⟨_, Tryz.underlying83, rfl⟩, by kernel_rfl⟩
instance : TScal Tryz.prog 84 := ⟨⟨_, Tryz.underlying84, rfl⟩, by kernel_rfl⟩
instance : TScal Tryz.prog 85 := ⟨⟨_, Tryz.underlying85, rfl⟩, by kernel_rfl⟩
instance : TScal Tryz.prog 86 := ⟨⟨_, Tryz.underlying86, rfl⟩, by kernel_rfl⟩
instance : TScal Tryz.prog 87 := ⟨⟨_, Tryz.underlying87, rfl⟩, by kernel_rfl⟩
instance : TScal Tryz.prog 88 := ⟨⟨_, Tryz.underlying88, rfl⟩, by kernel_rfl⟩
instance : TScal Tryz.prog 89 := ⟨⟨_, Tryz.underlying89, rfl⟩, by kernel_rfl⟩
instance : TScal Tryz.prog 90 := ⟨⟨_, Tryz.underlying90, rfl⟩, by kernel_rfl⟩
instance : TScal Tryz.prog 91 := ⟨⟨_, Tryz.underlying91, rfl⟩, by kernel_rfl⟩
instance : TScal Tryz.prog 92 := ⟨⟨_, Tryz.underlying92, rfl⟩, by kernel_rfl⟩
instance : TScal Tryz.prog 93 := ⟨⟨_, Tryz.underlying93, rfl⟩, by kernel_rfl⟩
instance : TScal Tryz.prog 94 := ⟨⟨_, Tryz.underlying94, rfl⟩, by kernel_rfl⟩
instance : TScal Tryz.prog 95 := ⟨⟨_, Tryz.underlying95, rfl⟩, by kernel_rfl⟩
instance : TScal Tryz.prog 96 := ⟨⟨_, Tryz.underlying96, rfl⟩, by kernel_rfl⟩
instance : TScal Tryz.prog 97 := ⟨⟨_, Tryz.underlying97, rfl⟩, by kernel_rfl⟩
instance : TScal Tryz.prog 99 := ⟨⟨_, Tryz.underlying99, rfl⟩, by kernel_rfl⟩
instance : TScal Tryz.prog 100 := ⟨⟨_, Tryz.underlying100, rfl⟩, by kernel_rfl⟩
instance : TScal Tryz.prog 101 := ⟨⟨_, Tryz.underlying101, rfl⟩, by kernel_rfl⟩
instance : TScal Tryz.prog 102 := ⟨⟨_, Tryz.underlying102, rfl⟩, by kernel_rfl⟩
instance : TScal Tryz.prog 103 := ⟨⟨_, Tryz.underlying103, rfl⟩, by kernel_rfl⟩
instance : TScal Tryz.prog 104 := ⟨⟨_, Tryz.underlying104, rfl⟩, by kernel_rfl⟩
instance : TScal Tryz.prog 106 := ⟨⟨_, Tryz.underlying106, rfl⟩, by kernel_rfl⟩
instance : TScal Tryz.prog 107 := ⟨⟨_, Tryz.underlying107, rfl⟩, by kernel_rfl⟩
instance : TScal Tryz.prog 108 := ⟨⟨_, Tryz.underlying108, rfl⟩, by kernel_rfl⟩
instance : TScal Tryz.prog 109 := ⟨⟨_, Tryz.underlying109, rfl⟩, by kernel_rfl⟩
instance : TScal Tryz.prog 110 := ⟨⟨_, Tryz.underlying110, rfl⟩, by kernel_rfl⟩
instance : TScal Tryz.prog 111 := ⟨⟨_, Tryz.underlying111, rfl⟩, by kernel_rfl⟩
instance : TInt Tryz.prog 111 .u64 := ⟨Tryz.underlying111⟩
instance : TZero Tryz.prog 111 (.int .u64 0) := ⟨by kernel_rfl⟩
instance : TStr Tryz.prog 112 3 := ⟨⟨_, Tryz.underlying112⟩, by kernel_rfl⟩
instance : TFldT Tryz.prog 112 0 0 47 := ⟨⟨_, _, Tryz.underlying112, rfl, rfl, rfl⟩⟩
instance : TFld Tryz.prog 112 0 0 := ⟨⟨_, _, Tryz.underlying112, rfl, rfl, _, (by kernel_rfl : (Tryz.prog.info? 47).map (·.size) = some (0 + 1))⟩⟩
instance : TFldT Tryz.prog 112 1 1 3 := ⟨⟨_, _, Tryz.underlying112, rfl, rfl, rfl⟩⟩
instance : TFld Tryz.prog 112 1 1 := ⟨⟨_, _, Tryz.underlying112, rfl, rfl, _, (by kernel_rfl : (Tryz.prog.info? 3).map (·.size) = some (0 + 1))⟩⟩
instance : TFldT Tryz.prog 112 2 2 111 := ⟨⟨_, _, Tryz.underlying112, rfl, rfl, rfl⟩⟩
instance : TFld Tryz.prog 112 2 2 := ⟨⟨_, _, Tryz.underlying112, rfl, rfl, _, (by kernel_rfl : (Tryz.prog.info? 111).map (·.size) = some (0 + 1))⟩⟩
instance : TFlat Tryz.prog 112 [.slice none 0 0, .int .i64 0, .int .u64 0] := ⟨by kernel_rfl, _, Tryz.underlying112, by kernel_rfl⟩
instance : TZero Tryz.prog 112 (.agg #[.slice none 0 0, .int .i64 0, .int .u64 0]) := ⟨by kernel_rfl⟩
instance : TStr Tryz.prog 113 3 := ⟨⟨_, Tryz.underlying113⟩, by kernel_rfl⟩
instance : TFldT Tryz.prog 113 0 0 47 := ⟨⟨_, _, Tryz.underlying113, rfl, rfl, rfl⟩⟩
instance : TFld Tryz.prog 113 0 0 := ⟨⟨_, _, Tryz.underlying113, rfl, rfl, _, (by kernel_rfl : (Tryz.prog.info? 47).map (·.size) = some (0 + 1))⟩⟩
instance : TFldT Tryz.prog 113 1 1 3 := ⟨⟨_, _, Tryz.underlying113, rfl, rfl, rfl⟩⟩
instance : TFld Tryz.prog 113 1 1 := ⟨⟨_, _, Tryz.underlying113, rfl, rfl, _, (by kernel_rfl : (Tryz.prog.info? 3).map (·.size) = some (0 + 1))⟩⟩
instance : TFldT Tryz.prog 113 2 2 111 := ⟨⟨_, _, Tryz.underlying113, rfl, rfl, rfl⟩⟩
instance : TFld Tryz.prog 113 2 2 := ⟨⟨_, _, Tryz.underlying113, rfl, rfl, _, (by kernel_rfl : (Tryz.prog.info? 111).map (·.size) = some (0 + 1))⟩⟩
instance : TFlat Tryz.prog 113 [.slice none 0 0, .int .i64 0, .int .u64 0] := ⟨by kernel_rfl, _, Tryz.underlying113, by kernel_rfl⟩
instance : TZero Tryz.prog 113 (.agg #[.slice none 0 0, .int .i64 0, .int .u64 0]) := ⟨by kernel_rfl⟩
instance : TScal Tryz.prog 114 := ⟨⟨_, Tryz.underlying114, rfl⟩, by kernel_rfl⟩
instance : TScal Tryz.prog 115 := ⟨⟨_, Tryz.underlying115, rfl⟩, by kernel_rfl⟩
instance : TScal Tryz.prog 116 := ⟨⟨_, Tryz.underlying116, rfl⟩, by kernel_rfl⟩
instance : TScal Tryz.prog 117 := ⟨⟨_, Tryz.underlying117, rfl⟩, by kernel_rfl⟩
instance : TStr Tryz.prog 118 2 := ⟨⟨_, Tryz.underlying118⟩, by kernel_rfl⟩
instance : TFldT Tryz.prog 118 0 0 117 := ⟨⟨_, _, Tryz.underlying118, rfl, rfl, rfl⟩⟩
instance : TFld Tryz.prog 118 0 0 := ⟨⟨_, _, Tryz.underlying118, rfl, rfl, _, (by kernel_rfl : (Tryz.prog.info? 117).map (·.size) = some (0 + 1))⟩⟩
instance : TFldT Tryz.prog 118 1 1 47 := ⟨⟨_, _, Tryz.underlying118, rfl, rfl, rfl⟩⟩
instance : TFld Tryz.prog 118 1 1 := ⟨⟨_, _, Tryz.underlying118, rfl, rfl, _, (by kernel_rfl : (Tryz.prog.info? 47).map (·.size) = some (0 + 1))⟩⟩
instance : TFlat Tryz.prog 118 [.pointer none, .slice none 0 0] := ⟨by kernel_rfl, _, Tryz.underlying118, by kernel_rfl⟩
instance : TZero Tryz.prog 118 (.agg #[.pointer none, .slice none 0 0]) := ⟨by kernel_rfl⟩
instance : TStr Tryz.prog 119 2 := ⟨⟨_, Tryz.underlying119⟩, by kernel_rfl⟩
instance : TFldT Tryz.prog 119 0 0 117 := ⟨⟨_, _, Tryz.underlying119, rfl, rfl, rfl⟩⟩
instance : TFld Tryz.prog 119 0 0 := ⟨⟨_, _, Tryz.underlying119, rfl, rfl, _, (by kernel_rfl : (Tryz.prog.info? 117).map (·.size) = some (0 + 1))⟩⟩
instance : TFldT Tryz.prog 119 1 1 47 := ⟨⟨_, _, Tryz.underlying119, rfl, rfl, rfl⟩⟩
instance : TFld Tryz.prog 119 1 1 := ⟨⟨_, _, Tryz.underlying119, rfl, rfl, _, (by kernel_rfl : (Tryz.prog.info? 47).map (·.size) = some (0 + 1))⟩⟩
instance : TFlat Tryz.prog 119 [.pointer none, .slice none 0 0] := ⟨by kernel_rfl, _, Tryz.underlying119, by kernel_rfl⟩
instance : TZero Tryz.prog 119 (.agg #[.pointer none, .slice none 0 0]) := ⟨by kernel_rfl⟩
instance : TScal Tryz.prog 120 := ⟨⟨_, Tryz.underlying120, rfl⟩, by kernel_rfl⟩
instance : TScal Tryz.prog 121 := ⟨⟨_, Tryz.underlying121, rfl⟩, by kernel_rfl⟩
instance : TScal Tryz.prog 122 := ⟨⟨_, Tryz.underlying122, rfl⟩, by kernel_rfl⟩
instance : TScal Tryz.prog 124 := ⟨⟨_, Tryz.underlying124, rfl⟩, by kernel_rfl⟩
instance : TScal Tryz.prog 125 := ⟨⟨_, Tryz.underlying125, rfl⟩, by kernel_rfl⟩
instance : TScal Tryz.prog 126 := ⟨⟨_, Tryz.underlying126, rfl⟩, by kernel_rfl⟩
instance : TScal Tryz.prog 127 := ⟨⟨_, Tryz.underlying127, rfl⟩, by kernel_rfl⟩
instance : TScal Tryz.prog 128 := ⟨⟨_, Tryz.underlying128, rfl⟩, by kernel_rfl⟩
instance : TScal Tryz.prog 130 := ⟨⟨_, Tryz.underlying130, rfl⟩, by kernel_rfl⟩
instance : TScal Tryz.prog 131 := ⟨⟨_, Tryz.underlying131, rfl⟩, by kernel_rfl⟩
instance : TScal Tryz.prog 132 := ⟨⟨_, Tryz.underlying132, rfl⟩, by kernel_rfl⟩
instance : TScal Tryz.prog 133 := ⟨⟨_, Tryz.underlying133, rfl⟩, by kernel_rfl⟩
instance : TScal Tryz.prog 134 := ⟨⟨_, Tryz.underlying134, rfl⟩, by kernel_rfl⟩
instance : TScal Tryz.prog 135 := ⟨⟨_, Tryz.underlying135, rfl⟩, by kernel_rfl⟩
instance : TScal Tryz.prog 136 := ⟨⟨_, Tryz.underlying136, rfl⟩, by kernel_rfl⟩
instance : TScal Tryz.prog 137 := ⟨⟨_, Tryz.underlying137, rfl⟩, by kernel_rfl⟩
instance : TScal Tryz.prog 138 := ⟨⟨_, Tryz.underlying138, rfl⟩, by kernel_rfl⟩
instance : TScal Tryz.prog 139 := ⟨⟨_, Tryz.underlying139, rfl⟩, by kernel_rfl⟩
instance : TScal Tryz.prog 140 := ⟨⟨_, Tryz.underlying140, rfl⟩, by kernel_rfl⟩
instance : TScal Tryz.prog 141 := ⟨⟨_, Tryz.underlying141, rfl⟩, by kernel_rfl⟩
instance : TScal Tryz.prog 142 := ⟨⟨_, Tryz.underlying142, rfl⟩, by kernel_rfl⟩
instance : TScal Tryz.prog 143 := ⟨⟨_, Tryz.underlying143, rfl⟩, by kernel_rfl⟩
instance : TScal Tryz.prog 144 := ⟨⟨_, Tryz.underlying144, rfl⟩, by kernel_rfl⟩
instance : TScal Tryz.prog 145 := ⟨⟨_, Tryz.underlying145, rfl⟩, by kernel_rfl⟩
instance : TScal Tryz.prog 146 := ⟨⟨_, Tryz.underlying146, rfl⟩, by kernel_rfl⟩
instance : TScal Tryz.prog 147 := ⟨⟨_, Tryz.underlying147, rfl⟩, by kernel_rfl⟩
instance : TScal Tryz.prog 148 := ⟨⟨_, Tryz.underlying148, rfl⟩, by kernel_rfl⟩
instance : TScal Tryz.prog 149 := ⟨⟨_, Tryz.underlying149, rfl⟩, by kernel_rfl⟩
instance : TInt Tryz.prog 149 .u64 := ⟨Tryz.underlying149⟩
instance : TZero Tryz.prog 149 (.int .u64 0) := ⟨by kernel_rfl⟩
instance : TArr Tryz.prog 150 24 5 := ⟨Tryz.underlying150⟩
instance : TZero Tryz.prog 150 (.agg #[.int .u8 0, .int .u8 0, .int .u8 0, .int .u8 0, .int .u8 0, .int .u8 0, .int .u8 0, .int .u8 0, .int .u8 0, .int .u8 0, .int .u8 0, .int .u8 0, .int .u8 0, .int .u8 0, .int .u8 0, .int .u8 0, .int .u8 0, .int .u8 0, .int .u8 0, .int .u8 0, .int .u8 0, .int .u8 0, .int .u8 0, .int .u8 0]) := ⟨by kernel_rfl⟩
instance : TScal Tryz.prog 151 := ⟨⟨_, Tryz.underlying151, rfl⟩, by kernel_rfl⟩
instance : TScal Tryz.prog 152 := ⟨⟨_, Tryz.underlying152, rfl⟩, by kernel_rfl⟩
instance : TScal Tryz.prog 154 := ⟨⟨_, Tryz.underlying154, rfl⟩, by kernel_rfl⟩
instance : TScal Tryz.prog 156 := ⟨⟨_, Tryz.underlying156, rfl⟩, by kernel_rfl⟩
instance : TScal Tryz.prog 157 := ⟨⟨_, Tryz.underlying157, rfl⟩, by kernel_rfl⟩
instance : TScal Tryz.prog 159 := ⟨⟨_, Tryz.underlying159, rfl⟩, by kernel_rfl⟩
instance : TScal Tryz.prog 160 := ⟨⟨_, Tryz.underlying160, rfl⟩, by kernel_rfl⟩
instance : TScal Tryz.prog 161 := ⟨⟨_, Tryz.underlying161, rfl⟩, by kernel_rfl⟩
instance : TScal Tryz.prog 162 := ⟨⟨_, Tryz.underlying162, rfl⟩, by kernel_rfl⟩
instance : TScal Tryz.prog 163 := ⟨⟨_, Tryz.underlying163, rfl⟩, by kernel_rfl⟩
instance : TScal Tryz.prog 164 := ⟨⟨_, Tryz.underlying164, rfl⟩, by kernel_rfl⟩
instance : TArr Tryz.prog 165 20 111 := ⟨Tryz.underlying165⟩
instance : TZero Tryz.prog 165 (.agg #[.int .u64 0, .int .u64 0, .int .u64 0, .int .u64 0, .int .u64 0, .int .u64 0, .int .u64 0, .int .u64 0, .int .u64 0, .int .u64 0, .int .u64 0, .int .u64 0, .int .u64 0, .int .u64 0, .int .u64 0, .int .u64 0, .int .u64 0, .int .u64 0, .int .u64 0, .int .u64 0]) := ⟨by kernel_rfl⟩
instance : TScal Tryz.prog 166 := ⟨⟨_, Tryz.underlying166, rfl⟩, by kernel_rfl⟩
instance : TInt Tryz.prog 166 .u32 := ⟨Tryz.underlying166⟩
instance : TZero Tryz.prog 166 (.int .u32 0) := ⟨by kernel_rfl⟩
instance : TArr Tryz.prog 167 65 5 := ⟨Tryz.underlying167⟩
instance : TZero Tryz.prog 167 (.agg #[.int .u8 0, .int .u8 0, .int .u8 0, .int .u8 0, .int .u8 0, .int .u8 0, .int .u8 0, .int .u8 0, .int .u8 0, .int .u8 0, .int .u8 0, .int .u8 0, .int .u8 0, .int .u8 0, .int .u8 0, .int .u8 0, .int .u8 0, .int .u8 0, .int .u8 0, .int .u8 0, .int .u8 0, .int .u8 0, .int .u8 0, .int .u8 0, .int .u8 0, .int .u8 0, .int .u8 0, .int .u8 0, .int .u8 0, .int .u8 0, .int .u8 0, .int .u8 0, .int .u8 0, .int .u8 0, .int .u8 0, .int .u8 0, .int .u8 0, .int .u8 0, .int .u8 0, .int .u8 0, .int .u8 0, .int .u8 0, .int .u8 0, .int .u8 0, .int .u8 0, .int .u8 0, .int .u8 0, .int .u8 0, .int .u8 0, .int .u8 0, .int .u8 0, .int .u8 0, .int .u8 0, .int .u8 0, .int .u8 0, .int .u8 0, .int .u8 0, .int .u8 0, .int .u8 0, .int .u8 0, .int .u8 0, .int .u8 0, .int .u8 0, .int .u8 0, .int .u8 0]) := ⟨by kernel_rfl⟩
instance : TScal Tryz.prog 168 := ⟨⟨_, Tryz.underlying168, rfl⟩, by kernel_rfl⟩
instance : TScal Tryz.prog 169 := ⟨⟨_, Tryz.underlying169, rfl⟩, by kernel_rfl⟩
instance : TScal Tryz.prog 170 := ⟨⟨_, Tryz.underlying170, rfl⟩, by kernel_rfl⟩
instance : TArr Tryz.prog 171 32 5 := ⟨Tryz.underlying171⟩
instance : TZero Tryz.prog 171 (.agg #[.int .u8 0, .int .u8 0, .int .u8 0, .int .u8 0, .int .u8 0, .int .u8 0, .int .u8 0, .int .u8 0, .int .u8 0, .int .u8 0, .int .u8 0, .int .u8 0, .int .u8 0, .int .u8 0, .int .u8 0, .int .u8 0, .int .u8 0, .int .u8 0, .int .u8 0, .int .u8 0, .int .u8 0, .int .u8 0, .int .u8 0, .int .u8 0, .int .u8 0, .int .u8 0, .int .u8 0, .int .u8 0, .int .u8 0, .int .u8 0, .int .u8 0, .int .u8 0]) := ⟨by kernel_rfl⟩
instance : TArr Tryz.prog 172 64 5 := ⟨Tryz.underlying172⟩
instance : TZero Tryz.prog 172 (.agg #[.int .u8 0, .int .u8 0, .int .u8 0, .int .u8 0, .int .u8 0, .int .u8 0, .int .u8 0, .int .u8 0, .int .u8 0, .int .u8 0, .int .u8 0, .int .u8 0, .int .u8 0, .int .u8 0, .int .u8 0, .int .u8 0, .int .u8 0, .int .u8 0, .int .u8 0, .int .u8 0, .int .u8 0, .int .u8 0, .int .u8 0, .int .u8 0, .int .u8 0, .int .u8 0, .int .u8 0, .int .u8 0, .int .u8 0, .int .u8 0, .int .u8 0, .int .u8 0, .int .u8 0, .int .u8 0, .int .u8 0, .int .u8 0, .int .u8 0, .int .u8 0, .int .u8 0, .int .u8 0, .int .u8 0, .int .u8 0, .int .u8 0, .int .u8 0, .int .u8 0, .int .u8 0, .int .u8 0, .int .u8 0, .int .u8 0, .int .u8 0, .int .u8 0, .int .u8 0, .int .u8 0, .int .u8 0, .int .u8 0, .int .u8 0, .int .u8 0, .int .u8 0, .int .u8 0, .int .u8 0, .int .u8 0, .int .u8 0, .int .u8 0, .int .u8 0]) := ⟨by kernel_rfl⟩
instance : TStr Tryz.prog 173 4 := ⟨⟨_, Tryz.underlying173⟩, by kernel_rfl⟩
instance : TFldT Tryz.prog 173 0 0 17 := ⟨⟨_, _, Tryz.underlying173, rfl, rfl, rfl⟩⟩
instance : TFld Tryz.prog 173 0 0 := ⟨⟨_, _, Tryz.underlying173, rfl, rfl, _, (by kernel_rfl : (Tryz.prog.info? 17).map (·.size) = some (0 + 1))⟩⟩
instance : TFldT Tryz.prog 173 1 1 17 := ⟨⟨_, _, Tryz.underlying173, rfl, rfl, rfl⟩⟩
instance : TFld Tryz.prog 173 1 1 := ⟨⟨_, _, Tryz.underlying173, rfl, rfl, _, (by kernel_rfl : (Tryz.prog.info? 17).map (·.size) = some (0 + 1))⟩⟩
instance : TFldT Tryz.prog 173 2 2 17 := ⟨⟨_, _, Tryz.underlying173, rfl, rfl, rfl⟩⟩
instance : TFld Tryz.prog 173 2 2 := ⟨⟨_, _, Tryz.underlying173, rfl, rfl, _, (by kernel_rfl : (Tryz.prog.info? 17).map (·.size) = some (0 + 1))⟩⟩
instance : TFldT Tryz.prog 173 3 3 9 := ⟨⟨_, _, Tryz.underlying173, rfl, rfl, rfl⟩⟩
instance : TFld Tryz.prog 173 3 3 := ⟨⟨_, _, Tryz.underlying173, rfl, rfl, _, (by kernel_rfl : (Tryz.prog.info? 9).map (·.size) = some (0 + 1))⟩⟩
instance : TFlat Tryz.prog 173 [.pointer none, .pointer none, .pointer none, .string ⟨#[]⟩] := ⟨by kernel_rfl, _, Tryz.underlying173, by kernel_rfl⟩
instance : TZero Tryz.prog 173 (.agg #[.pointer none, .pointer none, .pointer none, .string ⟨#[]⟩]) := ⟨by kernel_rfl⟩
instance : TStr Tryz.prog 174 4 := ⟨⟨_, Tryz.underlying174⟩, by kernel_rfl⟩
instance : TFldT Tryz.prog 174 0 0 17 := ⟨⟨_, _, Tryz.underlying174, rfl, rfl, rfl⟩⟩
instance : TFld Tryz.prog 174 0 0 := ⟨⟨_, _, Tryz.underlying174, rfl, rfl, _, (by kernel_rfl : (Tryz.prog.info? 17).map (·.size) = some (0 + 1))⟩⟩
instance : TFldT Tryz.prog 174 1 1 17 := ⟨⟨_, _, Tryz.underlying174, rfl, rfl, rfl⟩⟩
instance : TFld Tryz.prog 174 1 1 := ⟨⟨_, _, Tryz.underlying174, rfl, rfl, _, (by kernel_rfl : (Tryz.prog.info? 17).map (·.size) = some (0 + 1))⟩⟩
instance : TFldT Tryz.prog 174 2 2 17 := ⟨⟨_, _, Tryz.underlying174, rfl, rfl, rfl⟩⟩
instance : TFld Tryz.prog 174 2 2 := ⟨⟨_, _, Tryz.underlying174, rfl, rfl, _, (by kernel_rfl : (Tryz.prog.info? 17).map (·.size) = some (0 + 1))⟩⟩
instance : TFldT Tryz.prog 174 3 3 9 := ⟨⟨_, _, Tryz.underlying174, rfl, rfl, rfl⟩⟩
instance : TFld Tryz.prog 174 3 3 := ⟨⟨_, _, Tryz.underlying174, rfl, rfl, _, (by kernel_rfl : (Tryz.prog.info? 9).map (·.size) = some (0 + 1))⟩⟩
instance : TFlat Tryz.prog 174 [.pointer none, .pointer none, .pointer none, .string ⟨#[]⟩] := ⟨by kernel_rfl, _, Tryz.underlying174, by kernel_rfl⟩
instance : TZero Tryz.prog 174 (.agg #[.pointer none, .pointer none, .pointer none, .string ⟨#[]⟩]) := ⟨by kernel_rfl⟩
instance : TArr Tryz.prog 175 0 16 := ⟨Tryz.underlying175⟩
instance : TZero Tryz.prog 175 (.agg #[]) := ⟨by kernel_rfl⟩
instance : TScal Tryz.prog 178 := ⟨⟨_, Tryz.underlying178, rfl⟩, by kernel_rfl⟩
instance : TScal Tryz.prog 179 := ⟨⟨_, Tryz.underlying179, rfl⟩, by kernel_rfl⟩
instance : TInt Tryz.prog 179 .u8 := ⟨Tryz.underlying179⟩
instance : TZero Tryz.prog 179 (.int .u8 0) := ⟨by kernel_rfl⟩
instance : TScal Tryz.prog 180 := ⟨⟨_, Tryz.underlying180, rfl⟩, by kernel_rfl⟩
instance : TInt Tryz.prog 180 .u8 := ⟨Tryz.underlying180⟩
instance : TZero Tryz.prog 180 (.int .u8 0) := ⟨by kernel_rfl⟩
instance : TScal Tryz.prog 181 := ⟨⟨_, Tryz.underlying181, rfl⟩, by kernel_rfl⟩
instance : TScal Tryz.prog 182 := ⟨⟨_, Tryz.underlying182, rfl⟩, by kernel_rfl⟩
instance : TInt Tryz.prog 182 .i32 := ⟨Tryz.underlying182⟩
instance : TZero Tryz.prog 182 (.int .i32 0) := ⟨by kernel_rfl⟩
instance : TScal Tryz.prog 183 := ⟨⟨_, Tryz.underlying183, rfl⟩, by kernel_rfl⟩
instance : TInt Tryz.prog 183 .i32 := ⟨Tryz.underlying183⟩
instance : TZero Tryz.prog 183 (.int .i32 0) := ⟨by kernel_rfl⟩
instance : TStr Tryz.prog 184 11 := ⟨⟨_, Tryz.underlying184⟩, by kernel_rfl⟩
instance : TFldT Tryz.prog 184 0 0 12 := ⟨⟨_, _, Tryz.underlying184, rfl, rfl, rfl⟩⟩
instance : TFld Tryz.prog 184 0 0 := ⟨⟨_, _, Tryz.underlying184, rfl, rfl, _, (by kernel_rfl : (Tryz.prog.info? 12).map (·.size) = some (0 + 1))⟩⟩
instance : TFldT Tryz.prog 184 1 1 12 := ⟨⟨_, _, Tryz.underlying184, rfl, rfl, rfl⟩⟩
instance : TFld Tryz.prog 184 1 1 := ⟨⟨_, _, Tryz.underlying184, rfl, rfl, _, (by kernel_rfl : (Tryz.prog.info? 12).map (·.size) = some (0 + 1))⟩⟩
instance : TFldT Tryz.prog 184 2 2 166 := ⟨⟨_, _, Tryz.underlying184, rfl, rfl, rfl⟩⟩
instance : TFld Tryz.prog 184 2 2 := ⟨⟨_, _, Tryz.underlying184, rfl, rfl, _, (by kernel_rfl : (Tryz.prog.info? 166).map (·.size) = some (0 + 1))⟩⟩
instance : TFldT Tryz.prog 184 3 3 179 := ⟨⟨_, _, Tryz.underlying184, rfl, rfl, rfl⟩⟩
instance : TFld Tryz.prog 184 3 3 := ⟨⟨_, _, Tryz.underlying184, rfl, rfl, _, (by kernel_rfl : (Tryz.prog.info? 179).map (·.size) = some (0 + 1))⟩⟩
instance : TFldT Tryz.prog 184 4 4 5 := ⟨⟨_, _, Tryz.underlying184, rfl, rfl, rfl⟩⟩
instance : TFld Tryz.prog 184 4 4 := ⟨⟨_, _, Tryz.underlying184, rfl, rfl, _, (by kernel_rfl : (Tryz.prog.info? 5).map (·.size) = some (0 + 1))⟩⟩
instance : TFldT Tryz.prog 184 5 5 5 := ⟨⟨_, _, Tryz.underlying184, rfl, rfl, rfl⟩⟩
instance : TFld Tryz.prog 184 5 5 := ⟨⟨_, _, Tryz.underlying184, rfl, rfl, _, (by kernel_rfl : (Tryz.prog.info? 5).map (·.size) = some (0 + 1))⟩⟩
instance : TFldT Tryz.prog 184 6 6 180 := ⟨⟨_, _, Tryz.underlying184, rfl, rfl, rfl⟩⟩
instance : TFld Tryz.prog 184 6 6 := ⟨⟨_, _, Tryz.underlying184, rfl, rfl, _, (by kernel_rfl : (Tryz.prog.info? 180).map (·.size) = some (0 + 1))⟩⟩
instance : TFldT Tryz.prog 184 7 7 181 := ⟨⟨_, _, Tryz.underlying184, rfl, rfl, rfl⟩⟩
instance : TFld Tryz.prog 184 7 7 := ⟨⟨_, _, Tryz.underlying184, rfl, rfl, _, (by kernel_rfl : (Tryz.prog.info? 181).map (·.size) = some (0 + 1))⟩⟩
instance : TFldT Tryz.prog 184 8 8 142 := ⟨⟨_, _, Tryz.underlying184, rfl, rfl, rfl⟩⟩
instance : TFld Tryz.prog 184 8 8 := ⟨⟨_, _, Tryz.underlying184, rfl, rfl, _, (by kernel_rfl : (Tryz.prog.info? 142).map (·.size) = some (0 + 1))⟩⟩
instance : TFldT Tryz.prog 184 9 9 182 := ⟨⟨_, _, Tryz.underlying184, rfl, rfl, rfl⟩⟩
instance : TFld Tryz.prog 184 9 9 := ⟨⟨_, _, Tryz.underlying184, rfl, rfl, _, (by kernel_rfl : (Tryz.prog.info? 182).map (·.size) = some (0 + 1))⟩⟩
instance : TFldT Tryz.prog 184 10 10 183 := ⟨⟨_, _, Tryz.underlying184, rfl, rfl, rfl⟩⟩
instance : TFld Tryz.prog 184 10 10 := ⟨⟨_, _, Tryz.underlying184, rfl, rfl, _, (by kernel_rfl : (Tryz.prog.info? 183).map (·.size) = some (0 + 1))⟩⟩
instance : TFlat Tryz.prog 184 [.int .u64 0, .int .u64 0, .int .u32 0, .int .u8 0, .int .u8 0, .int .u8 0, .int .u8 0, .nilFunc, .pointer none, .int .i32 0, .int .i32 0] := ⟨by kernel_rfl, _, Tryz.underlying184, by kernel_rfl⟩
instance : TZero Tryz.prog 184 (.agg #[.int .u64 0, .int .u64 0, .int .u32 0, .int .u8 0, .int .u8 0, .int .u8 0, .int .u8 0, .nilFunc, .pointer none, .int .i32 0, .int .i32 0]) := ⟨by kernel_rfl⟩
instance : TStr Tryz.prog 185 11 := ⟨⟨_, Tryz.underlying185⟩, by kernel_rfl⟩
instance : TFldT Tryz.prog 185 0 0 12 := ⟨⟨_, _, Tryz.underlying185, rfl, rfl, rfl⟩⟩
instance : TFld Tryz.prog 185 0 0 := ⟨⟨_, _, Tryz.underlying185, rfl, rfl, _, (by kernel_rfl : (Tryz.prog.info? 12).map (·.size) = some (0 + 1))⟩⟩
instance : TFldT Tryz.prog 185 1 1 12 := ⟨⟨_, _, Tryz.underlying185, rfl, rfl, rfl⟩⟩
instance : TFld Tryz.prog 185 1 1 := ⟨⟨_, _, Tryz.underlying185, rfl, rfl, _, (by kernel_rfl : (Tryz.prog.info? 12).map (·.size) = some (0 + 1))⟩⟩
instance : TFldT Tryz.prog 185 2 2 166 := ⟨⟨_, _, Tryz.underlying185, rfl, rfl, rfl⟩⟩
instance : TFld Tryz.prog 185 2 2 := ⟨⟨_, _, Tryz.underlying185, rfl, rfl, _, (by kernel_rfl : (Tryz.prog.info? 166).map (·.size) = some (0 + 1))⟩⟩
instance : TFldT Tryz.prog 185 3 3 179 := ⟨⟨_, _, Tryz.underlying185, rfl, rfl, rfl⟩⟩
instance : TFld Tryz.prog 185 3 3 := ⟨⟨_, _, Tryz.underlying185, rfl, rfl, _, (by kernel_rfl : (Tryz.prog.info? 179).map (·.size) = some (0 + 1))⟩⟩
instance : TFldT Tryz.prog 185 4 4 5 := ⟨⟨_, _, Tryz.underlying185, rfl, rfl, rfl⟩⟩
instance : TFld Tryz.prog 185 4 4 := ⟨⟨_, _, Tryz.underlying185, rfl, rfl, _, (by kernel_rfl : (Tryz.prog.info? 5).map (·.size) = some (0 + 1))⟩⟩
instance : TFldT Tryz.prog 185 5 5 5 := ⟨⟨_, _, Tryz.underlying185, rfl, rfl, rfl⟩⟩
instance : TFld Tryz.prog 185 5 5 := ⟨⟨_, _, Tryz.underlying185, rfl, rfl, _, (by kernel_rfl : (Tryz.prog.info? 5).map (·.size) = some (0 + 1))⟩⟩
instance : TFldT Tryz.prog 185 6 6 180 := ⟨⟨_, _, Tryz.underlying185, rfl, rfl, rfl⟩⟩
instance : TFld Tryz.prog 185 6 6 := ⟨⟨_, _, Tryz.underlying185, rfl, rfl, _, (by kernel_rfl : (Tryz.prog.info? 180).map (·.size) = some (0 + 1))⟩⟩
instance : TFldT Tryz.prog 185 7 7 181 := ⟨⟨_, _, Tryz.underlying185, rfl, rfl, rfl⟩⟩
instance : TFld Tryz.prog 185 7 7 := ⟨⟨_, _, Tryz.underlying185, rfl, rfl, _, (by kernel_rfl : (Tryz.prog.info? 181).map (·.size) = some (0 + 1))⟩⟩
instance : TFldT Tryz.prog 185 8 8 142 := ⟨⟨_, _, Tryz.underlying185, rfl, rfl, rfl⟩⟩
instance : TFld Tryz.prog 185 8 8 := ⟨⟨_, _, Tryz.underlying185, rfl, rfl, _, (by kernel_rfl : (Tryz.prog.info? 142).map (·.size) = some (0 + 1))⟩⟩
instance : TFldT Tryz.prog 185 9 9 182 := ⟨⟨_, _, Tryz.underlying185, rfl, rfl, rfl⟩⟩
instance : TFld Tryz.prog 185 9 9 := ⟨⟨_, _, Tryz.underlying185, rfl, rfl, _, (by kernel_rfl : (Tryz.prog.info? 182).map (·.size) = some (0 + 1))⟩⟩
instance : TFldT Tryz.prog 185 10 10 183 := ⟨⟨_, _, Tryz.underlying185, rfl, rfl, rfl⟩⟩
instance : TFld Tryz.prog 185 10 10 := ⟨⟨_, _, Tryz.underlying185, rfl, rfl, _, (by kernel_rfl : (Tryz.prog.info? 183).map (·.size) = some (0 + 1))⟩⟩
instance : TFlat Tryz.prog 185 [.int .u64 0, .int .u64 0, .int .u32 0, .int .u8 0, .int .u8 0, .int .u8 0, .int .u8 0, .nilFunc, .pointer none, .int .i32 0, .int .i32 0] := ⟨by kernel_rfl, _, Tryz.underlying185, by kernel_rfl⟩
instance : TZero Tryz.prog 185 (.agg #[.int .u64 0, .int .u64 0, .int .u32 0, .int .u8 0, .int .u8 0, .int .u8 0, .int .u8 0, .nilFunc, .pointer none, .int .i32 0, .int .i32 0]) := ⟨by kernel_rfl⟩
instance : Callable Tryz.prog 3 := callable Tryz.func3 (by kernel_rfl) rfl   -- loop.example/g01012/laws.FnExactTabulateDeck
instance : Callable Tryz.prog 4 := callable Tryz.func4 (by kernel_rfl) rfl   -- loop.example/g01012/laws.FnPrinted
instance : Callable Tryz.prog 5 := callable Tryz.func5 (by kernel_rfl) rfl   -- loop.example/g01012/laws.szSetup
instance : Callable Tryz.prog 6 := callable Tryz.func6 (by kernel_rfl) rfl   -- loop.example/g01012/laws.szCardS
instance : Callable Tryz.prog 7 := callable Tryz.func7 (by kernel_rfl) rfl   -- loop.example/g01012/spec.TabulateDeck
instance : Callable Tryz.prog 8 := callable Tryz.func8 (by kernel_rfl) rfl   -- loop.example/g01012/laws.toSetup
instance : Callable Tryz.prog 9 := callable Tryz.func9 (by kernel_rfl) rfl   -- loop.example/g01012/laws.toCardS
instance : Callable Tryz.prog 10 := callable Tryz.func10 (by kernel_rfl) rfl   -- loop.example/g01012/impl.TabulateDeck
instance : Callable Tryz.prog 11 := callable Tryz.func11 (by kernel_rfl) rfl   -- loop.example/g01012/laws.eqStringS
instance : Callable Tryz.prog 12 := callable Tryz.func12 (by kernel_rfl) rfl   -- loop.example/g01012/laws.eqSetup
instance : Callable Tryz.prog 13 := callable Tryz.func13 (by kernel_rfl) rfl   -- loop.example/g01012/laws.eqCardS
instance : Callable Tryz.prog 14 := callable Tryz.func14 (by kernel_rfl) rfl   -- loop.example/g01012/laws.markSetup
instance : Callable Tryz.prog 15 := callable Tryz.func15 (by kernel_rfl) rfl   -- loop.example/g01012/laws.markCardS
instance : Callable Tryz.prog 16 := callable Tryz.func16 (by kernel_rfl) rfl   -- loop.example/g01012/laws.markStringS
instance : Callable Tryz.prog 17 := callable Tryz.func17 (by kernel_rfl) rfl   -- loop.example/g01012/laws.heldStringS
instance : Callable Tryz.prog 18 := callable Tryz.func18 (by kernel_rfl) rfl   -- loop.example/g01012/laws.a2Long
instance : Callable Tryz.prog 19 := callable Tryz.func19 (by kernel_rfl) rfl   -- loop.example/g01012/spec.A2Cards
instance : Callable Tryz.prog 20 := callable Tryz.func20 (by kernel_rfl) rfl   -- loop.example/g01012/spec.A2Setup
instance : Callable Tryz.prog 21 := callable Tryz.func21 (by kernel_rfl) rfl   -- loop.example/g01012/spec.GroupNames
instance : Callable Tryz.prog 22 := callable Tryz.func22 (by kernel_rfl) rfl   -- loop.example/g01012/impl.CyclesFor
instance : Callable Tryz.prog 23 := callable Tryz.func23 (by kernel_rfl) rfl   -- loop.example/g01012/spec.GrandSums
instance : Callable Tryz.prog 24 := callable Tryz.func24 (by kernel_rfl) rfl   -- loop.example/g01012/impl.SumLine
instance : Callable Tryz.prog 25 := callable Tryz.func25 (by kernel_rfl) rfl   -- loop.example/g01012/laws.szFieldS
instance : Callable Tryz.prog 26 := callable Tryz.func26 (by kernel_rfl) rfl   -- loop.example/g01012/laws.szCard
instance : Callable Tryz.prog 27 := callable Tryz.func27 (by kernel_rfl) rfl   -- loop.example/g01012/spec.l13Read
instance : Callable Tryz.prog 28 := callable Tryz.func28 (by kernel_rfl) rfl   -- (*loop.example/g01012/spec.l13R).end
instance : Callable Tryz.prog 29 := callable Tryz.func29 (by kernel_rfl) rfl   -- loop.example/g01012/spec.l13Line
instance : Callable Tryz.prog 30 := callable Tryz.func30 (by kernel_rfl) rfl   -- (*loop.example/g01012/spec.l13R).sums
instance : Callable Tryz.prog 31 := callable Tryz.func31 (by kernel_rfl) rfl   -- loop.example/g01012/laws.toField
instance : Callable Tryz.prog 32 := callable Tryz.func32 (by kernel_rfl) rfl   -- loop.example/g01012/laws.toFieldS
instance : Callable Tryz.prog 33 := callable Tryz.func33 (by kernel_rfl) rfl   -- loop.example/g01012/laws.toCard
instance : Callable Tryz.prog 34 := callable Tryz.func34 (by kernel_rfl) rfl   -- loop.example/g01012/impl.setupCode
instance : Callable Tryz.prog 35 := callable Tryz.func35 (by kernel_rfl) rfl   -- loop.example/g01012/impl.groups
instance : Callable Tryz.prog 36 := callable Tryz.func36 (by kernel_rfl) rfl   -- loop.example/g01012/impl.fieldText
instance : Callable Tryz.prog 37 := callable Tryz.func37 (by kernel_rfl) rfl   -- loop.example/g01012/impl.sumText
instance : Callable Tryz.prog 38 := callable Tryz.func38 (by kernel_rfl) rfl   -- loop.example/g01012/laws.eqField
instance : Callable Tryz.prog 39 := callable Tryz.func39 (by kernel_rfl) rfl   -- loop.example/g01012/laws.eqFieldS
instance : Callable Tryz.prog 40 := callable Tryz.func40 (by kernel_rfl) rfl   -- loop.example/g01012/laws.eqCard
instance : Callable Tryz.prog 41 := callable Tryz.func41 (by kernel_rfl) rfl   -- loop.example/g01012/laws.markFieldS
instance : Callable Tryz.prog 42 := callable Tryz.func42 (by kernel_rfl) rfl   -- loop.example/g01012/laws.markInt64S
instance : Callable Tryz.prog 43 := callable Tryz.func43 (by kernel_rfl) rfl   -- loop.example/g01012/laws.markText
instance : Callable Tryz.prog 44 := callable Tryz.func44 (by kernel_rfl) rfl   -- loop.example/g01012/spec.l13Deck
instance : Callable Tryz.prog 45 := callable Tryz.func45 (by kernel_rfl) rfl   -- loop.example/g01012/spec.l00From
instance : Callable Tryz.prog 46 := callable Tryz.func46 (by kernel_rfl) rfl   -- loop.example/g01012/spec.l13Setup
instance : Callable Tryz.prog 47 := callable Tryz.func47 (by kernel_rfl) rfl   -- loop.example/g01012/impl.size[loop.example/g01012/impl.Card]
instance : Callable Tryz.prog 48 := callable Tryz.func48 (by kernel_rfl) rfl   -- loop.example/g01012/impl.size[int64]
instance : Callable Tryz.prog 49 := callable Tryz.func49 (by kernel_rfl) rfl   -- loop.example/g01012/impl.groupsOf
instance : Callable Tryz.prog 50 := callable Tryz.func50 (by kernel_rfl) rfl   -- loop.example/g01012/impl.Decimal
instance : Callable Tryz.prog 51 := callable Tryz.func51 (by kernel_rfl) rfl   -- strings.Join
instance : Callable Tryz.prog 52 := callable Tryz.func52 (by kernel_rfl) rfl   -- loop.example/g01012/laws.szInt64S
instance : Callable Tryz.prog 53 := callable Tryz.func53 (by kernel_rfl) rfl   -- loop.example/g01012/spec.l02Deck
instance : Callable Tryz.prog 54 := callable Tryz.func54 (by kernel_rfl) rfl   -- loop.example/g01012/spec.l13Ok
instance : Callable Tryz.prog 55 := callable Tryz.func55 (by kernel_rfl) rfl   -- loop.example/g01012/spec.l07Width
instance : Callable Tryz.prog 56 := callable Tryz.func56 (by kernel_rfl) rfl   -- loop.example/g01012/spec.l07Keys
instance : Callable Tryz.prog 57 := callable Tryz.func57 (by kernel_rfl) rfl   -- loop.example/g01012/spec.l03Number
instance : Callable Tryz.prog 58 := callable Tryz.func58 (by kernel_rfl) rfl   -- loop.example/g01012/spec.l02Part
instance : Callable Tryz.prog 59 := callable Tryz.func59 (by kernel_rfl) rfl   -- loop.example/g01012/spec.l09Groups
instance : Callable Tryz.prog 60 := callable Tryz.func60 (by kernel_rfl) rfl   -- loop.example/g01012/spec.l01Dec
instance : Callable Tryz.prog 61 := callable Tryz.func61 (by kernel_rfl) rfl   -- loop.example/g01012/laws.toInt64S
instance : Callable Tryz.prog 62 := callable Tryz.func62 (by kernel_rfl) rfl   -- loop.example/g01012/impl.ValidDeck
instance : Callable Tryz.prog 63 := callable Tryz.func63 (by kernel_rfl) rfl   -- loop.example/g01012/impl.ValidSetup
instance : Callable Tryz.prog 64 := callable Tryz.func64 (by kernel_rfl) rfl   -- loop.example/g01012/impl.deckColumns
instance : Callable Tryz.prog 65 := callable Tryz.func65 (by kernel_rfl) rfl   -- loop.example/g01012/impl.sumsOf
instance : Callable Tryz.prog 66 := callable Tryz.func66 (by kernel_rfl) rfl   -- loop.example/g01012/impl.haveField
instance : Callable Tryz.prog 67 := callable Tryz.func67 (by kernel_rfl) rfl   -- loop.example/g01012/impl.textOf
instance : Callable Tryz.prog 68 := callable Tryz.func68 (by kernel_rfl) rfl   -- loop.example/g01012/laws.eqInt64S
instance : Callable Tryz.prog 69 := callable Tryz.func69 (by kernel_rfl) rfl   -- (*loop.example/g01012/spec.l00Src).pick
instance : Callable Tryz.prog 70 := callable Tryz.func70 (by kernel_rfl) rfl   -- loop.example/g01012/spec.l13Card
instance : Callable Tryz.prog 71 := callable Tryz.func71 (by kernel_rfl) rfl   -- (*loop.example/g01012/spec.l00Src).one
instance : Callable Tryz.prog 72 := callable Tryz.func72 (by kernel_rfl) rfl   -- loop.example/g01012/impl.compareFields
instance : Callable Tryz.prog 73 := callable Tryz.func73 (by kernel_rfl) rfl   -- strconv.FormatInt
instance : Callable Tryz.prog 77 := callable Tryz.func77 (by kernel_rfl) rfl   -- loop.example/g01012/spec.l02Ok
instance : Callable Tryz.prog 78 := callable Tryz.func78 (by kernel_rfl) rfl   -- loop.example/g01012/spec.l00In
instance : Callable Tryz.prog 79 := callable Tryz.func79 (by kernel_rfl) rfl   -- loop.example/g01012/spec.l02Field
instance : Callable Tryz.prog 80 := callable Tryz.func80 (by kernel_rfl) rfl   -- loop.example/g01012/spec.l03Key
instance : Callable Tryz.prog 81 := callable Tryz.func81 (by kernel_rfl) rfl   -- loop.example/g01012/spec.l03Digit
instance : Callable Tryz.prog 82 := callable Tryz.func82 (by kernel_rfl) rfl   -- loop.example/g01012/impl.ValidCard
instance : Callable Tryz.prog 83 := callable Tryz.func83 (by kernel_rfl) rfl   -- (loop.example/g01012/impl.Card).columns
instance : Callable Tryz.prog 84 := callable Tryz.func84 (by kernel_rfl) rfl   -- loop.example/g01012/impl.inside
instance : Callable Tryz.prog 85 := callable Tryz.func85 (by kernel_rfl) rfl   -- loop.example/g01012/impl.isField
instance : Callable Tryz.prog 86 := callable Tryz.func86 (by kernel_rfl) rfl   -- slices.ContainsFunc[[]loop.example/g01012/impl.Field,loop.example/g01012/impl.Field]
instance : Callable Tryz.prog 87 := callable Tryz.func87 (by kernel_rfl) rfl   -- loop.example/g01012/impl.ValidSetup$1
instance : Callable Tryz.prog 88 := callable Tryz.func88 (by kernel_rfl) rfl   -- loop.example/g01012/impl.isNumberField
instance : Callable Tryz.prog 89 := callable Tryz.func89 (by kernel_rfl) rfl   -- loop.example/g01012/impl.numberIn
instance : Callable Tryz.prog 90 := callable Tryz.func90 (by kernel_rfl) rfl   -- slices.ContainsFunc[[]loop.example/g01012/impl.Card,loop.example/g01012/impl.Card]
instance : Callable Tryz.prog 91 := callable Tryz.func91 (by kernel_rfl) rfl   -- loop.example/g01012/impl.haveField$1
instance : Callable Tryz.prog 92 := callable Tryz.func92 (by kernel_rfl) rfl   -- loop.example/g01012/impl.hasField
instance : Callable Tryz.prog 93 := callable Tryz.func93 (by kernel_rfl) rfl   -- loop.example/g01012/impl.rankOf
instance : Callable Tryz.prog 94 := callable Tryz.func94 (by kernel_rfl) rfl   -- (*loop.example/g01012/spec.l00Src).next
instance : Callable Tryz.prog 95 := callable Tryz.func95 (by kernel_rfl) rfl   -- loop.example/g01012/spec.l03Card
instance : Callable Tryz.prog 96 := callable Tryz.func96 (by kernel_rfl) rfl   -- loop.example/g01012/spec.l03Put
instance : Callable Tryz.prog 97 := callable Tryz.func97 (by kernel_rfl) rfl   -- loop.example/g01012/impl.compareHoles
instance : Callable Tryz.prog 101 := callable Tryz.func101 (by kernel_rfl) rfl   -- loop.example/g01012/spec.l03Text
instance : Callable Tryz.prog 102 := callable Tryz.func102 (by kernel_rfl) rfl   -- loop.example/g01012/spec.l02Bit
instance : Callable Tryz.prog 103 := callable Tryz.func103 (by kernel_rfl) rfl   -- slices.ContainsFunc[[]int64,int64]
instance : Callable Tryz.prog 104 := callable Tryz.func104 (by kernel_rfl) rfl   -- loop.example/g01012/impl.ValidCard$1
instance : Callable Tryz.prog 105 := callable Tryz.func105 (by kernel_rfl) rfl   -- slices.IndexFunc[[]loop.example/g01012/impl.Field,loop.example/g01012/impl.Field]
instance : Callable Tryz.prog 106 := callable Tryz.func106 (by kernel_rfl) rfl   -- loop.example/g01012/impl.copyInts
instance : Callable Tryz.prog 107 := callable Tryz.func107 (by kernel_rfl) rfl   -- loop.example/g01012/impl.numberIn$1
instance : Callable Tryz.prog 108 := callable Tryz.func108 (by kernel_rfl) rfl   -- loop.example/g01012/impl.bitOf
instance : Callable Tryz.prog 109 := callable Tryz.func109 (by kernel_rfl) rfl   -- loop.example/g01012/impl.digitOf
instance : Callable Tryz.prog 110 := callable Tryz.func110 (by kernel_rfl) rfl   -- slices.IndexFunc[[]loop.example/g01012/impl.Card,loop.example/g01012/impl.Card]
instance : Callable Tryz.prog 111 := callable Tryz.func111 (by kernel_rfl) rfl   -- loop.example/g01012/impl.hasCharacters
instance : Callable Tryz.prog 112 := callable Tryz.func112 (by kernel_rfl) rfl   -- loop.example/g01012/impl.codeOf
instance : Callable Tryz.prog 113 := callable Tryz.func113 (by kernel_rfl) rfl   -- loop.example/g01012/spec.l03Code
instance : Callable Tryz.prog 120 := callable Tryz.func120 (by kernel_rfl) rfl   -- loop.example/g01012/spec.l03Char
instance : Callable Tryz.prog 121 := callable Tryz.func121 (by kernel_rfl) rfl   -- slices.IndexFunc[[]int64,int64]
instance : Callable Tryz.prog 122 := callable Tryz.func122 (by kernel_rfl) rfl   -- loop.example/g01012/impl.hasCharacters$1
instance : Callable Tryz.prog 123 := callable Tryz.func123 (by kernel_rfl) rfl   -- loop.example/g01012/impl.CodeOf
instance : Callable Tryz.prog 124 := callable Tryz.func124 (by kernel_rfl) rfl   -- loop.example/g01012/spec.l01Digit
instance : Callable Tryz.prog 130 := callable Tryz.func130 (by kernel_rfl) rfl   -- loop.example/g01012/spec.l03Order
instance : Callable Tryz.prog 131 := callable Tryz.func131 (by kernel_rfl) rfl   -- loop.example/g01012/impl.isDigit
end Go.Proofs.YtjnnfmlgjdlihaaGreatDoor

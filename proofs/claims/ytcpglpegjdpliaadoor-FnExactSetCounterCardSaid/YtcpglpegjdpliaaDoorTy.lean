/- What is known of this program's types and functions. -/
import Derived.Test.YtcpglpegjdpliaaDoorL12
import Derived.Test.YtcpglpegjdpliaaDoorChecked
namespace Go.Proofs.YtcpglpegjdpliaaDoor
open Go Go.Gw
theorem mixed : Tryd.prog.follows .mixedOrders = true := by kernel_rfl
instance : TScal Tryd.prog 1 := ⟨⟨_, Tryd.underlying1, rfl⟩, by kernel_rfl⟩
instance : TScal Tryd.prog 2 := ⟨⟨_, Tryd.underlying2, rfl⟩, by kernel_rfl⟩
instance : TInt Tryd.prog 2 .i64 := ⟨Tryd.underlying2⟩
instance : TZero Tryd.prog 2 (.int .i64 0) := ⟨by kernel_rfl⟩
instance : TScal Tryd.prog 3 := ⟨⟨_, Tryd.underlying3, rfl⟩, by kernel_rfl⟩
instance : TInt Tryd.prog 3 .i64 := ⟨Tryd.underlying3⟩
instance : TZero Tryd.prog 3 (.int .i64 0) := ⟨by kernel_rfl⟩
instance : TScal Tryd.prog 4 := ⟨⟨_, Tryd.underlying4, rfl⟩, by kernel_rfl⟩
instance : TBool Tryd.prog 4 := ⟨Tryd.underlying4⟩
instance : TZero Tryd.prog 4 (.bool false) := ⟨by kernel_rfl⟩
instance : TScal Tryd.prog 5 := ⟨⟨_, Tryd.underlying5, rfl⟩, by kernel_rfl⟩
instance : TInt Tryd.prog 5 .u8 := ⟨Tryd.underlying5⟩
instance : TZero Tryd.prog 5 (.int .u8 0) := ⟨by kernel_rfl⟩
instance : TScal Tryd.prog 6 := ⟨⟨_, Tryd.underlying6, rfl⟩, by kernel_rfl⟩
instance : TInt Tryd.prog 6 .u8 := ⟨Tryd.underlying6⟩
instance : TZero Tryd.prog 6 (.int .u8 0) := ⟨by kernel_rfl⟩
instance : TStr Tryd.prog 7 4 := ⟨⟨_, Tryd.underlying7⟩, by kernel_rfl⟩
instance : TFldT Tryd.prog 7 0 0 2 := ⟨⟨_, _, Tryd.underlying7, rfl, rfl, rfl⟩⟩
instance : TFld Tryd.prog 7 0 0 := ⟨⟨_, _, Tryd.underlying7, rfl, rfl, _, (by kernel_rfl : (Tryd.prog.info? 2).map (·.size) = some (0 + 1))⟩⟩
instance : TFldT Tryd.prog 7 1 1 3 := ⟨⟨_, _, Tryd.underlying7, rfl, rfl, rfl⟩⟩
instance : TFld Tryd.prog 7 1 1 := ⟨⟨_, _, Tryd.underlying7, rfl, rfl, _, (by kernel_rfl : (Tryd.prog.info? 3).map (·.size) = some (0 + 1))⟩⟩
instance : TFldT Tryd.prog 7 2 2 4 := ⟨⟨_, _, Tryd.underlying7, rfl, rfl, rfl⟩⟩
instance : TFld Tryd.prog 7 2 2 := ⟨⟨_, _, Tryd.underlying7, rfl, rfl, _, (by kernel_rfl : (Tryd.prog.info? 4).map (·.size) = some (0 + 1))⟩⟩
instance : TFldT Tryd.prog 7 3 3 6 := ⟨⟨_, _, Tryd.underlying7, rfl, rfl, rfl⟩⟩
instance : TFld Tryd.prog 7 3 3 := ⟨⟨_, _, Tryd.underlying7, rfl, rfl, _, (by kernel_rfl : (Tryd.prog.info? 6).map (·.size) = some (0 + 1))⟩⟩
instance : TFlat Tryd.prog 7 [.int .i64 0, .int .i64 0, .bool false, .int .u8 0] := ⟨by kernel_rfl, _, Tryd.underlying7, by kernel_rfl⟩
instance : TZero Tryd.prog 7 (.agg #[.int .i64 0, .int .i64 0, .bool false, .int .u8 0]) := ⟨by kernel_rfl⟩
instance : TStr Tryd.prog 8 4 := ⟨⟨_, Tryd.underlying8⟩, by kernel_rfl⟩
instance : TFldT Tryd.prog 8 0 0 2 := ⟨⟨_, _, Tryd.underlying8, rfl, rfl, rfl⟩⟩
instance : TFld Tryd.prog 8 0 0 := ⟨⟨_, _, Tryd.underlying8, rfl, rfl, _, (by kernel_rfl : (Tryd.prog.info? 2).map (·.size) = some (0 + 1))⟩⟩
instance : TFldT Tryd.prog 8 1 1 3 := ⟨⟨_, _, Tryd.underlying8, rfl, rfl, rfl⟩⟩
instance : TFld Tryd.prog 8 1 1 := ⟨⟨_, _, Tryd.underlying8, rfl, rfl, _, (by kernel_rfl : (Tryd.prog.info? 3).map (·.size) = some (0 + 1))⟩⟩
instance : TFldT Tryd.prog 8 2 2 4 := ⟨⟨_, _, Tryd.underlying8, rfl, rfl, rfl⟩⟩
instance : TFld Tryd.prog 8 2 2 := ⟨⟨_, _, Tryd.underlying8, rfl, rfl, _, (by kernel_rfl : (Tryd.prog.info? 4).map (·.size) = some (0 + 1))⟩⟩
instance : TFldT Tryd.prog 8 3 3 6 := ⟨⟨_, _, Tryd.underlying8, rfl, rfl, rfl⟩⟩
instance : TFld Tryd.prog 8 3 3 := ⟨⟨_, _, Tryd.underlying8, rfl, rfl, _, (by kernel_rfl : (Tryd.prog.info? 6).map (·.size) = some (0 + 1))⟩⟩
instance : TFlat Tryd.prog 8 [.int .i64 0, .int .i64 0, .bool false, .int .u8 0] := ⟨by kernel_rfl, _, Tryd.underlying8, by kernel_rfl⟩
instance : TZero Tryd.prog 8 (.agg #[.int .i64 0, .int .i64 0, .bool false, .int .u8 0]) := ⟨by kernel_rfl⟩
instance : TScal Tryd.prog 9 := ⟨⟨_, Tryd.underlying9, rfl⟩, by kernel_rfl⟩
instance : TStg Tryd.prog 9 := ⟨Tryd.underlying9⟩
instance : TZero Tryd.prog 9 (.string ⟨#[]⟩) := ⟨by kernel_rfl⟩
instance : TScal Tryd.prog 10 := ⟨⟨_, Tryd.underlying10, rfl⟩, by kernel_rfl⟩
instance : TStg Tryd.prog 10 := ⟨Tryd.underlying10⟩
instance : TZero Tryd.prog 10 (.string ⟨#[]⟩) := ⟨by kernel_rfl⟩
instance : TScal Tryd.prog 11 := ⟨⟨_, Tryd.underlying11, rfl⟩, by kernel_rfl⟩
instance : TStg Tryd.prog 11 := ⟨Tryd.underlying11⟩
instance : TZero Tryd.prog 11 (.string ⟨#[]⟩) := ⟨by kernel_rfl⟩
instance : TScal Tryd.prog 12 := ⟨⟨_, Tryd.underlying12, rfl⟩, by kernel_rfl⟩
instance : TInt Tryd.prog 12 .u64 := ⟨Tryd.underlying12⟩
instance : TZero Tryd.prog 12 (.int .u64 0) := ⟨by kernel_rfl⟩
instance : TStr Tryd.prog 13 2 := ⟨⟨_, Tryd.underlying13⟩, by kernel_rfl⟩
instance : TFldT Tryd.prog 13 0 0 9 := ⟨⟨_, _, Tryd.underlying13, rfl, rfl, rfl⟩⟩
instance : TFld Tryd.prog 13 0 0 := ⟨⟨_, _, Tryd.underlying13, rfl, rfl, _, (by kernel_rfl : (Tryd.prog.info? 9).map (·.size) = some (0 + 1))⟩⟩
instance : TFldT Tryd.prog 13 1 1 12 := ⟨⟨_, _, Tryd.underlying13, rfl, rfl, rfl⟩⟩
instance : TFld Tryd.prog 13 1 1 := ⟨⟨_, _, Tryd.underlying13, rfl, rfl, _, (by kernel_rfl : (Tryd.prog.info? 12).map (·.size) = some (0 + 1))⟩⟩
instance : TFlat Tryd.prog 13 [.string ⟨#[]⟩, .int .u64 0] := ⟨by kernel_rfl, _, Tryd.underlying13, by kernel_rfl⟩
instance : TZero Tryd.prog 13 (.agg #[.string ⟨#[]⟩, .int .u64 0]) := ⟨by kernel_rfl⟩
instance : TStr Tryd.prog 14 2 := ⟨⟨_, Tryd.underlying14⟩, by kernel_rfl⟩
instance : TFldT Tryd.prog 14 0 0 9 := ⟨⟨_, _, Tryd.underlying14, rfl, rfl, rfl⟩⟩
instance : TFld Tryd.prog 14 0 0 := ⟨⟨_, _, Tryd.underlying14, rfl, rfl, _, (by kernel_rfl : (Tryd.prog.info? 9).map (·.size) = some (0 + 1))⟩⟩
instance : TFldT Tryd.prog 14 1 1 12 := ⟨⟨_, _, Tryd.underlying14, rfl, rfl, rfl⟩⟩
instance : TFld Tryd.prog 14 1 1 := ⟨⟨_, _, Tryd.underlying14, rfl, rfl, _, (by kernel_rfl : (Tryd.prog.info? 12).map (·.size) = some (0 + 1))⟩⟩
instance : TFlat Tryd.prog 14 [.string ⟨#[]⟩, .int .u64 0] := ⟨by kernel_rfl, _, Tryd.underlying14, by kernel_rfl⟩
instance : TZero Tryd.prog 14 (.agg #[.string ⟨#[]⟩, .int .u64 0]) := ⟨by kernel_rfl⟩
instance : TScal Tryd.prog 15 := ⟨⟨_, Tryd.underlying15, rfl⟩, by kernel_rfl⟩
instance : TScal Tryd.prog 16 := ⟨⟨_, Tryd.underlying16, rfl⟩, by kernel_rfl⟩
instance : TScal Tryd.prog 17 := ⟨⟨_, Tryd.underlying17, rfl⟩, by kernel_rfl⟩
instance : TStr Tryd.prog 18 1 := ⟨⟨_, Tryd.underlying18⟩, by kernel_rfl⟩
instance : TFldT Tryd.prog 18 0 0 17 := ⟨⟨_, _, Tryd.underlying18, rfl, rfl, rfl⟩⟩
instance : TFld Tryd.prog 18 0 0 := ⟨⟨_, _, Tryd.underlying18, rfl, rfl, _, (by kernel_rfl : (Tryd.prog.info? 17).map (·.size) = some (0 + 1))⟩⟩
instance : TFlat Tryd.prog 18 [.pointer none] := ⟨by kernel_rfl, _, Tryd.underlying18, by kernel_rfl⟩
instance : TZero Tryd.prog 18 (.agg #[.pointer none]) := ⟨by kernel_rfl⟩
instance : TStr Tryd.prog 19 1 := ⟨⟨_, Tryd.underlying19⟩, by kernel_rfl⟩
instance : TFldT Tryd.prog 19 0 0 17 := ⟨⟨_, _, Tryd.underlying19, rfl, rfl, rfl⟩⟩
instance : TFld Tryd.prog 19 0 0 := ⟨⟨_, _, Tryd.underlying19, rfl, rfl, _, (by kernel_rfl : (Tryd.prog.info? 17).map (·.size) = some (0 + 1))⟩⟩
instance : TFlat Tryd.prog 19 [.pointer none] := ⟨by kernel_rfl, _, Tryd.underlying19, by kernel_rfl⟩
instance : TZero Tryd.prog 19 (.agg #[.pointer none]) := ⟨by kernel_rfl⟩
instance : TScal Tryd.prog 20 := ⟨⟨_, Tryd.underlying20, rfl⟩, by kernel_rfl⟩
instance : TScal Tryd.prog 21 := ⟨⟨_, Tryd.underlying21, rfl⟩, by kernel_rfl⟩
instance : TInt Tryd.prog 21 .i32 := ⟨Tryd.underlying21⟩
instance : TZero Tryd.prog 21 (.int .i32 0) := ⟨by kernel_rfl⟩
instance : TScal Tryd.prog 22 := ⟨⟨_, Tryd.underlying22, rfl⟩, by kernel_rfl⟩
instance : TZero Tryd.prog 22 (.slice none 0 0) := ⟨by kernel_rfl⟩
instance : TSvE Tryd.prog 22 := ⟨trivial⟩
instance : TSli Tryd.prog 22 2 1 8 := ⟨Tryd.underlying22, by kernel_rfl, by kernel_rfl, by kernel_rfl, zlen_of (z := .int .i64 0) (by kernel_rfl) rfl⟩
instance : TStr Tryd.prog 23 1 := ⟨⟨_, Tryd.underlying23⟩, by kernel_rfl⟩
instance : TFldT Tryd.prog 23 0 0 22 := ⟨⟨_, _, Tryd.underlying23, rfl, rfl, rfl⟩⟩
instance : TFld Tryd.prog 23 0 0 := ⟨⟨_, _, Tryd.underlying23, rfl, rfl, _, (by kernel_rfl : (Tryd.prog.info? 22).map (·.size) = some (0 + 1))⟩⟩
instance : TFlat Tryd.prog 23 [.slice none 0 0] := ⟨by kernel_rfl, _, Tryd.underlying23, by kernel_rfl⟩
instance : TZero Tryd.prog 23 (.agg #[.slice none 0 0]) := ⟨by kernel_rfl⟩
instance : TSvE Tryd.prog 23 := ⟨trivial⟩
instance : TStr Tryd.prog 24 1 := ⟨⟨_, Tryd.underlying24⟩, by kernel_rfl⟩
instance : TFldT Tryd.prog 24 0 0 22 := ⟨⟨_, _, Tryd.underlying24, rfl, rfl, rfl⟩⟩
instance : TFld Tryd.prog 24 0 0 := ⟨⟨_, _, Tryd.underlying24, rfl, rfl, _, (by kernel_rfl : (Tryd.prog.info? 22).map (·.size) = some (0 + 1))⟩⟩
instance : TFlat Tryd.prog 24 [.slice none 0 0] := ⟨by kernel_rfl, _, Tryd.underlying24, by kernel_rfl⟩
instance : TZero Tryd.prog 24 (.agg #[.slice none 0 0]) := ⟨by kernel_rfl⟩
instance : TSvE Tryd.prog 24 := ⟨trivial⟩
instance : TScal Tryd.prog 26 := ⟨⟨_, Tryd.underlying26, rfl⟩, by kernel_rfl⟩
instance : TScal Tryd.prog 27 := ⟨⟨_, Tryd.underlying27, rfl⟩, by kernel_rfl⟩
instance : TScal Tryd.prog 28 := ⟨⟨_, Tryd.underlying28, rfl⟩, by kernel_rfl⟩
instance : TScal Tryd.prog 29 := ⟨⟨_, Tryd.underlying29, rfl⟩, by kernel_rfl⟩
instance : TScal Tryd.prog 30 := ⟨⟨_, Tryd.underlying30, rfl⟩, by kernel_rfl⟩
instance : TScal Tryd.prog 31 := ⟨⟨_, Tryd.underlying31, rfl⟩, by kernel_rfl⟩
instance : TScal Tryd.prog 32 := ⟨⟨_, Tryd.underlying32, rfl⟩, by kernel_rfl⟩
instance : TScal Tryd.prog 33 := ⟨⟨_, Tryd.underlying33, rfl⟩, by kernel_rfl⟩
instance : TScal Tryd.prog 34 := ⟨⟨_, Tryd.underlying34, rfl⟩, by kernel_rfl⟩
instance : TScal Tryd.prog 35 := ⟨⟨_, Tryd.underlying35, rfl⟩, by kernel_rfl⟩
instance : TScal Tryd.prog 36 := ⟨⟨_, Tryd.underlying36, rfl⟩, by kernel_rfl⟩
instance : TScal Tryd.prog 37 := ⟨⟨_, Tryd.underlying37, rfl⟩, by kernel_rfl⟩
instance : TArr Tryd.prog 38 24 5 := ⟨Tryd.underlying38⟩
instance : TZero Tryd.prog 38 (.agg #[.int .u8 0, .int .u8 0, .int .u8 0, .int .u8 0, .int .u8 0, .int .u8 0, .int .u8 0, .int .u8 0, .int .u8 0, .int .u8 0, .int .u8 0, .int .u8 0, .int .u8 0, .int .u8 0, .int .u8 0, .int .u8 0, .int .u8 0, .int .u8 0, .int .u8 0, .int .u8 0, .int .u8 0, .int .u8 0, .int .u8 0, .int .u8 0]) := ⟨by kernel_rfl⟩
instance : TScal Tryd.prog 39 := ⟨⟨_, Tryd.underlying39, rfl⟩, by kernel_rfl⟩
instance : TInt Tryd.prog 39 .u64 := ⟨Tryd.underlying39⟩
instance : TZero Tryd.prog 39 (.int .u64 0) := ⟨by kernel_rfl⟩
instance : TScal Tryd.prog 40 := ⟨⟨_, Tryd.underlying40, rfl⟩, by kernel_rfl⟩
instance : TScal Tryd.prog 41 := ⟨⟨_, Tryd.underlying41, rfl⟩, by kernel_rfl⟩
instance : TScal Tryd.prog 42 := ⟨⟨_, Tryd.underlying42, rfl⟩, by kernel_rfl⟩
instance : TZero Tryd.prog 42 (.slice none 0 0) := ⟨by kernel_rfl⟩
instance : TSvE Tryd.prog 42 := ⟨trivial⟩
instance : TSli Tryd.prog 42 5 1 1 := ⟨Tryd.underlying42, by kernel_rfl, by kernel_rfl, by kernel_rfl, zlen_of (z := .int .u8 0) (by kernel_rfl) rfl⟩
instance : TScal Tryd.prog 44 := ⟨⟨_, Tryd.underlying44, rfl⟩, by kernel_rfl⟩
instance : TScal Tryd.prog 45 := ⟨⟨_, Tryd.underlying45, rfl⟩, by kernel_rfl⟩
instance : TScal Tryd.prog 46 := ⟨⟨_, Tryd.underlying46, rfl⟩, by kernel_rfl⟩
instance : TArr Tryd.prog 47 20 39 := ⟨Tryd.underlying47⟩
instance : TZero Tryd.prog 47 (.agg #[.int .u64 0, .int .u64 0, .int .u64 0, .int .u64 0, .int .u64 0, .int .u64 0, .int .u64 0, .int .u64 0, .int .u64 0, .int .u64 0, .int .u64 0, .int .u64 0, .int .u64 0, .int .u64 0, .int .u64 0, .int .u64 0, .int .u64 0, .int .u64 0, .int .u64 0, .int .u64 0]) := ⟨by kernel_rfl⟩
instance : TScal Tryd.prog 48 := ⟨⟨_, Tryd.underlying48, rfl⟩, by kernel_rfl⟩
instance : TInt Tryd.prog 48 .u32 := ⟨Tryd.underlying48⟩
instance : TZero Tryd.prog 48 (.int .u32 0) := ⟨by kernel_rfl⟩
instance : TArr Tryd.prog 49 65 5 := ⟨Tryd.underlying49⟩
instance : TZero Tryd.prog 49 (.agg #[.int .u8 0, .int .u8 0, .int .u8 0, .int .u8 0, .int .u8 0, .int .u8 0, .int .u8 0, .int .u8 0, .int .u8 0, .int .u8 0, .int .u8 0, .int .u8 0, .int .u8 0, .int .u8 0, .int .u8 0, .int .u8 0, .int .u8 0, .int .u8 0, .int .u8 0, .int .u8 0, .int .u8 0, .int .u8 0, .int .u8 0, .int .u8 0, .int .u8 0, .int .u8 0, .int .u8 0, .int .u8 0, .int .u8 0, .int .u8 0, .int .u8 0, .int .u8 0, .int .u8 0, .int .u8 0, .int .u8 0, .int .u8 0, .int .u8 0, .int .u8 0, .int .u8 0, .int .u8 0, .int .u8 0, .int .u8 0, .int .u8 0, .int .u8 0, .int .u8 0, .int .u8 0, .int .u8 0, .int .u8 0, .int .u8 0, .int .u8 0, .int .u8 0, .int .u8 0, .int .u8 0, .int .u8 0, .int .u8 0, .int .u8 0, .int .u8 0, .int .u8 0, .int .u8 0, .int .u8 0, .int .u8 0, .int .u8 0, .int .u8 0, .int .u8 0, .int .u8 0]) := ⟨by kernel_rfl⟩
instance : TScal Tryd.prog 50 := ⟨⟨_, Tryd.underlying50, rfl⟩, by kernel_rfl⟩
instance : TScal Tryd.prog 51 := ⟨⟨_, Tryd.underlying51, rfl⟩, by kernel_rfl⟩
instance : TInt Tryd.prog 51 .u64 := ⟨Tryd.underlying51⟩
instance : TZero Tryd.prog 51 (.int .u64 0) := ⟨by kernel_rfl⟩
instance : TScal Tryd.prog 52 := ⟨⟨_, Tryd.underlying52, rfl⟩, by kernel_rfl⟩
instance : TScal Tryd.prog 53 := ⟨⟨_, Tryd.underlying53, rfl⟩, by kernel_rfl⟩
instance : TArr Tryd.prog 54 32 5 := ⟨Tryd.underlying54⟩
instance : TZero Tryd.prog 54 (.agg #[.int .u8 0, .int .u8 0, .int .u8 0, .int .u8 0, .int .u8 0, .int .u8 0, .int .u8 0, .int .u8 0, .int .u8 0, .int .u8 0, .int .u8 0, .int .u8 0, .int .u8 0, .int .u8 0, .int .u8 0, .int .u8 0, .int .u8 0, .int .u8 0, .int .u8 0, .int .u8 0, .int .u8 0, .int .u8 0, .int .u8 0, .int .u8 0, .int .u8 0, .int .u8 0, .int .u8 0, .int .u8 0, .int .u8 0, .int .u8 0, .int .u8 0, .int .u8 0]) := ⟨by kernel_rfl⟩
instance : TArr Tryd.prog 55 64 5 := ⟨Tryd.underlying55⟩
instance : TZero Tryd.prog 55 (.agg #[.int .u8 0, .int .u8 0, .int .u8 0, .int .u8 0, .int .u8 0, .int .u8 0, .int .u8 0, .int .u8 0, .int .u8 0, .int .u8 0, .int .u8 0, .int .u8 0, .int .u8 0, .int .u8 0, .int .u8 0, .int .u8 0, .int .u8 0, .int .u8 0, .int .u8 0, .int .u8 0, .int .u8 0, .int .u8 0, .int .u8 0, .int .u8 0, .int .u8 0, .int .u8 0, .int .u8 0, .int .u8 0, .int .u8 0, .int .u8 0, .int .u8 0, .int .u8 0, .int .u8 0, .int .u8 0, .int .u8 0, .int .u8 0, .int .u8 0, .int .u8 0, .int .u8 0, .int .u8 0, .int .u8 0, .int .u8 0, .int .u8 0, .int .u8 0, .int .u8 0, .int .u8 0, .int .u8 0, .int .u8 0, .int .u8 0, .int .u8 0, .int .u8 0, .int .u8 0, .int .u8 0, .int .u8 0, .int .u8 0, .int .u8 0, .int .u8 0, .int .u8 0, .int .u8 0, .int .u8 0, .int .u8 0, .int .u8 0, .int .u8 0, .int .u8 0]) := ⟨by kernel_rfl⟩
instance : TScal Tryd.prog 56 := ⟨⟨_, Tryd.underlying56, rfl⟩, by kernel_rfl⟩
instance : TStr Tryd.prog 57 4 := ⟨⟨_, Tryd.underlying57⟩, by kernel_rfl⟩
instance : TFldT Tryd.prog 57 0 0 17 := ⟨⟨_, _, Tryd.underlying57, rfl, rfl, rfl⟩⟩
instance : TFld Tryd.prog 57 0 0 := ⟨⟨_, _, Tryd.underlying57, rfl, rfl, _, (by kernel_rfl : (Tryd.prog.info? 17).map (·.size) = some (0 + 1))⟩⟩
instance : TFldT Tryd.prog 57 1 1 17 := ⟨⟨_, _, Tryd.underlying57, rfl, rfl, rfl⟩⟩
instance : TFld Tryd.prog 57 1 1 := ⟨⟨_, _, Tryd.underlying57, rfl, rfl, _, (by kernel_rfl : (Tryd.prog.info? 17).map (·.size) = some (0 + 1))⟩⟩
instance : TFldT Tryd.prog 57 2 2 17 := ⟨⟨_, _, Tryd.underlying57, rfl, rfl, rfl⟩⟩
instance : TFld Tryd.prog 57 2 2 := ⟨⟨_, _, Tryd.underlying57, rfl, rfl, _, (by kernel_rfl : (Tryd.prog.info? 17).map (·.size) = some (0 + 1))⟩⟩
instance : TFldT Tryd.prog 57 3 3 9 := ⟨⟨_, _, Tryd.underlying57, rfl, rfl, rfl⟩⟩
instance : TFld Tryd.prog 57 3 3 := ⟨⟨_, _, Tryd.underlying57, rfl, rfl, _, (by kernel_rfl : (Tryd.prog.info? 9).map (·.size) = some (0 + 1))⟩⟩
instance : TFlat Tryd.prog 57 [.pointer none, .pointer none, .pointer none, .string ⟨#[]⟩] := ⟨by kernel_rfl, _, Tryd.underlying57, by kernel_rfl⟩
instance : TZero Tryd.prog 57 (.agg #[.pointer none, .pointer none, .pointer none, .string ⟨#[]⟩]) := ⟨by kernel_rfl⟩
instance : TStr Tryd.prog 58 4 := ⟨⟨_, Tryd.underlying58⟩, by kernel_rfl⟩
instance : TFldT Tryd.prog 58 0 0 17 := ⟨⟨_, _, Tryd.underlying58, rfl, rfl, rfl⟩⟩
instance : TFld Tryd.prog 58 0 0 := ⟨⟨_, _, Tryd.underlying58, rfl, rfl, _, (by kernel_rfl : (Tryd.prog.info? 17).map (·.size) = some (0 + 1))⟩⟩
instance : TFldT Tryd.prog 58 1 1 17 := ⟨⟨_, _, Tryd.underlying58, rfl, rfl, rfl⟩⟩
instance : TFld Tryd.prog 58 1 1 := ⟨⟨_, _, Tryd.underlying58, rfl, rfl, _, (by kernel_rfl : (Tryd.prog.info? 17).map (·.size) = some (0 + 1))⟩⟩
instance : TFldT Tryd.prog 58 2 2 17 := ⟨⟨_, _, Tryd.underlying58, rfl, rfl, rfl⟩⟩
instance : TFld Tryd.prog 58 2 2 := ⟨⟨_, _, Tryd.underlying58, rfl, rfl, _, (by kernel_rfl : (Tryd.prog.info? 17).map (·.size) = some (0 + 1))⟩⟩
instance : TFldT Tryd.prog 58 3 3 9 := ⟨⟨_, _, Tryd.underlying58, rfl, rfl, rfl⟩⟩
instance : TFld Tryd.prog 58 3 3 := ⟨⟨_, _, Tryd.underlying58, rfl, rfl, _, (by kernel_rfl : (Tryd.prog.info? 9).map (·.size) = some (0 + 1))⟩⟩
instance : TFlat Tryd.prog 58 [.pointer none, .pointer none, .pointer none, .string ⟨#[]⟩] := ⟨by kernel_rfl, _, Tryd.underlying58, by kernel_rfl⟩
instance : TZero Tryd.prog 58 (.agg #[.pointer none, .pointer none, .pointer none, .string ⟨#[]⟩]) := ⟨by kernel_rfl⟩
instance : TArr Tryd.prog 59 0 16 := ⟨Tryd.underlying59⟩
instance : TZero Tryd.prog 59 (.agg #[]) := ⟨by kernel_rfl⟩
instance : TScal Tryd.prog 62 := ⟨⟨_, Tryd.underlying62, rfl⟩, by kernel_rfl⟩
instance : TScal Tryd.prog 63 := ⟨⟨_, Tryd.underlying63, rfl⟩, by kernel_rfl⟩
instance : TInt Tryd.prog 63 .u8 := ⟨Tryd.underlying63⟩
instance : TZero Tryd.prog 63 (.int .u8 0) := ⟨by kernel_rfl⟩
instance : TScal Tryd.prog 64 := ⟨⟨_, Tryd.underlying64, rfl⟩, by kernel_rfl⟩
instance : TInt Tryd.prog 64 .u8 := ⟨Tryd.underlying64⟩
instance : TZero Tryd.prog 64 (.int .u8 0) := ⟨by kernel_rfl⟩
instance : TScal Tryd.prog 65 := ⟨⟨_, Tryd.underlying65, rfl⟩, by kernel_rfl⟩
instance : TScal Tryd.prog 66 := ⟨⟨_, Tryd.underlying66, rfl⟩, by kernel_rfl⟩
instance : TScal Tryd.prog 67 := ⟨⟨_, Tryd.underlying67, rfl⟩, by kernel_rfl⟩
instance : TInt Tryd.prog 67 .i32 := ⟨Tryd.underlying67⟩
instance : TZero Tryd.prog 67 (.int .i32 0) := ⟨by kernel_rfl⟩
instance : TScal Tryd.prog 68 := ⟨⟨_, Tryd.underlying68, rfl⟩, by kernel_rfl⟩
instance : TInt Tryd.prog 68 .i32 := ⟨Tryd.underlying68⟩
instance : TZero Tryd.prog 68 (.int .i32 0) := ⟨by kernel_rfl⟩
instance : TStr Tryd.prog 69 11 := ⟨⟨_, Tryd.underlying69⟩, by kernel_rfl⟩
instance : TFldT Tryd.prog 69 0 0 12 := ⟨⟨_, _, Tryd.underlying69, rfl, rfl, rfl⟩⟩
instance : TFld Tryd.prog 69 0 0 := ⟨⟨_, _, Tryd.underlying69, rfl, rfl, _, (by kernel_rfl : (Tryd.prog.info? 12).map (·.size) = some (0 + 1))⟩⟩
instance : TFldT Tryd.prog 69 1 1 12 := ⟨⟨_, _, Tryd.underlying69, rfl, rfl, rfl⟩⟩
instance : TFld Tryd.prog 69 1 1 := ⟨⟨_, _, Tryd.underlying69, rfl, rfl, _, (by kernel_rfl : (Tryd.prog.info? 12).map (·.size) = some (0 + 1))⟩⟩
instance : TFldT Tryd.prog 69 2 2 48 := ⟨⟨_, _, Tryd.underlying69, rfl, rfl, rfl⟩⟩
instance : TFld Tryd.prog 69 2 2 := ⟨⟨_, _, Tryd.underlying69, rfl, rfl, _, (by kernel_rfl : (Tryd.prog.info? 48).map (·.size) = some (0 + 1))⟩⟩
instance : TFldT Tryd.prog 69 3 3 63 := ⟨⟨_, _, Tryd.underlying69, rfl, rfl, rfl⟩⟩
instance : TFld Tryd.prog 69 3 3 := ⟨⟨_, _, Tryd.underlying69, rfl, rfl, _, (by kernel_rfl : (Tryd.prog.info? 63).map (·.size) = some (0 + 1))⟩⟩
instance : TFldT Tryd.prog 69 4 4 5 := ⟨⟨_, _, Tryd.underlying69, rfl, rfl, rfl⟩⟩
instance : TFld Tryd.prog 69 4 4 := ⟨⟨_, _, Tryd.underlying69, rfl, rfl, _, (by kernel_rfl : (Tryd.prog.info? 5).map (·.size) = some (0 + 1))⟩⟩
instance : TFldT Tryd.prog 69 5 5 5 := ⟨⟨_, _, Tryd.underlying69, rfl, rfl, rfl⟩⟩
instance : TFld Tryd.prog 69 5 5 := ⟨⟨_, _, Tryd.underlying69, rfl, rfl, _, (by kernel_rfl : (Tryd.prog.info? 5).map (·.size) = some (0 + 1))⟩⟩
instance : TFldT Tryd.prog 69 6 6 64 := ⟨⟨_, _, Tryd.underlying69, rfl, rfl, rfl⟩⟩
instance : TFld Tryd.prog 69 6 6 := ⟨⟨_, _, Tryd.underlying69, rfl, rfl, _, (by kernel_rfl : (Tryd.prog.info? 64).map (·.size) = some (0 + 1))⟩⟩
instance : TFldT Tryd.prog 69 7 7 65 := ⟨⟨_, _, Tryd.underlying69, rfl, rfl, rfl⟩⟩
instance : TFld Tryd.prog 69 7 7 := ⟨⟨_, _, Tryd.underlying69, rfl, rfl, _, (by kernel_rfl : (Tryd.prog.info? 65).map (·.size) = some (0 + 1))⟩⟩
instance : TFldT Tryd.prog 69 8 8 66 := ⟨⟨_, _, Tryd.underlying69, rfl, rfl, rfl⟩⟩
instance : TFld Tryd.prog 69 8 8 := ⟨⟨_, _, Tryd.underlying69, rfl, rfl, _, (by kernel_rfl : (Tryd.prog.info? 66).map (·.size) = some (0 + 1))⟩⟩
instance : TFldT Tryd.prog 69 9 9 67 := ⟨⟨_, _, Tryd.underlying69, rfl, rfl, rfl⟩⟩
instance : TFld Tryd.prog 69 9 9 := ⟨⟨_, _, Tryd.underlying69, rfl, rfl, _, (by kernel_rfl : (Tryd.prog.info? 67).map (·.size) = some (0 + 1))⟩⟩
instance : TFldT Tryd.prog 69 10 10 68 := ⟨⟨_, _, Tryd.underlying69, rfl, rfl, rfl⟩⟩
instance : TFld Tryd.prog 69 10 10 := ⟨⟨_, _, Tryd.underlying69, rfl, rfl, _, (by kernel_rfl : (Tryd.prog.info? 68).map (·.size) = some (0 + 1))⟩⟩
instance : TFlat Tryd.prog 69 [.int .u64 0, .int .u64 0, .int .u32 0, .int .u8 0, .int .u8 0, .int .u8 0, .int .u8 0, .nilFunc, .pointer none, .int .i32 0, .int .i32 0] := ⟨by kernel_rfl, _, Tryd.underlying69, by kernel_rfl⟩
instance : TZero Tryd.prog 69 (.agg #[.int .u64 0, .int .u64 0, .int .u32 0, .int .u8 0, .int .u8 0, .int .u8 0, .int .u8 0, .nilFunc, .pointer none, .int .i32 0, .int .i32 0]) := ⟨by kernel_rfl⟩
instance : TStr Tryd.prog 70 11 := ⟨⟨_, Tryd.underlying70⟩, by kernel_rfl⟩
instance : TFldT Tryd.prog 70 0 0 12 := ⟨⟨_, _, Tryd.underlying70, rfl, rfl, rfl⟩⟩
instance : TFld Tryd.prog 70 0 0 := ⟨⟨_, _, Tryd.underlying70, rfl, rfl, _, (by kernel_rfl : (Tryd.prog.info? 12).map (·.size) = some (0 + 1))⟩⟩
instance : TFldT Tryd.prog 70 1 1 12 := ⟨⟨_, _, Tryd.underlying70, rfl, rfl, rfl⟩⟩
instance : TFld Tryd.prog 70 1 1 := ⟨⟨_, _, Tryd.underlying70, rfl, rfl, _, (by kernel_rfl : (Tryd.prog.info? 12).map (·.size) = some (0 + 1))⟩⟩
instance : TFldT Tryd.prog 70 2 2 48 := ⟨⟨_, _, Tryd.underlying70, rfl, rfl, rfl⟩⟩
instance : TFld Tryd.prog 70 2 2 := ⟨⟨_, _, Tryd.underlying70, rfl, rfl, _, (by kernel_rfl : (Tryd.prog.info? 48).map (·.size) = some (0 + 1))⟩⟩
instance : TFldT Tryd.prog 70 3 3 63 := ⟨⟨_, _, Tryd.underlying70, rfl, rfl, rfl⟩⟩
instance : TFld Tryd.prog 70 3 3 := ⟨⟨_, _, Tryd.underlying70, rfl, rfl, _, (by kernel_rfl : (Tryd.prog.info? 63).map (·.size) = some (0 + 1))⟩⟩
instance : TFldT Tryd.prog 70 4 4 5 := ⟨⟨_, _, Tryd.underlying70, rfl, rfl, rfl⟩⟩
instance : TFld Tryd.prog 70 4 4 := ⟨⟨_, _, Tryd.underlying70, rfl, rfl, _, (by kernel_rfl : (Tryd.prog.info? 5).map (·.size) = some (0 + 1))⟩⟩
instance : TFldT Tryd.prog 70 5 5 5 := ⟨⟨_, _, Tryd.underlying70, rfl, rfl, rfl⟩⟩
instance : TFld Tryd.prog 70 5 5 := ⟨⟨_, _, Tryd.underlying70, rfl, rfl, _, (by kernel_rfl : (Tryd.prog.info? 5).map (·.size) = some (0 + 1))⟩⟩
instance : TFldT Tryd.prog 70 6 6 64 := ⟨⟨_, _, Tryd.underlying70, rfl, rfl, rfl⟩⟩
instance : TFld Tryd.prog 70 6 6 := ⟨⟨_, _, Tryd.underlying70, rfl, rfl, _, (by kernel_rfl : (Tryd.prog.info? 64).map (·.size) = some (0 + 1))⟩⟩
instance : TFldT Tryd.prog 70 7 7 65 := ⟨⟨_, _, Tryd.underlying70, rfl, rfl, rfl⟩⟩
instance : TFld Tryd.prog 70 7 7 := ⟨⟨_, _, Tryd.underlying70, rfl, rfl, _, (by kernel_rfl : (Tryd.prog.info? 65).map (·.size) = some (0 + 1))⟩⟩
instance : TFldT Tryd.prog 70 8 8 66 := ⟨⟨_, _, Tryd.underlying70, rfl, rfl, rfl⟩⟩
instance : TFld Tryd.prog 70 8 8 := ⟨⟨_, _, Tryd.underlying70, rfl, rfl, _, (by kernel_rfl : (Tryd.prog.info? 66).map (·.size) = some (0 + 1))⟩⟩
instance : TFldT Tryd.prog 70 9 9 67 := ⟨⟨_, _, Tryd.underlying70, rfl, rfl, rfl⟩⟩
instance : TFld Tryd.prog 70 9 9 := ⟨⟨_, _, Tryd.underlying70, rfl, rfl, _, (by kernel_rfl : (Tryd.prog.info? 67).map (·.size) = some (0 + 1))⟩⟩
instance : TFldT Tryd.prog 70 10 10 68 := ⟨⟨_, _, Tryd.underlying70, rfl, rfl, rfl⟩⟩
instance : TFld Tryd.prog 70 10 10 := ⟨⟨_, _, Tryd.underlying70, rfl, rfl, _, (by kernel_rfl : (Tryd.prog.info? 68).map (·.size) = some (0 + 1))⟩⟩
instance : TFlat Tryd.prog 70 [.int .u64 0, .int .u64 0, .int .u32 0, .int .u8 0, .int .u8 0, .int .u8 0, .int .u8 0, .nilFunc, .pointer none, .int .i32 0, .int .i32 0] := ⟨by kernel_rfl, _, Tryd.underlying70, by kernel_rfl⟩
instance : TZero Tryd.prog 70 (.agg #[.int .u64 0, .int .u64 0, .int .u32 0, .int .u8 0, .int .u8 0, .int .u8 0, .int .u8 0, .nilFunc, .pointer none, .int .i32 0, .int .i32 0]) := ⟨by kernel_rfl⟩
instance : Callable Tryd.prog 3 := callable Tryd.func3 (by kernel_rfl) rfl   -- loop.example/g01012/laws.FnExactSetCounter
instance : Callable Tryd.prog 4 := callable Tryd.func4 (by kernel_rfl) rfl   -- loop.example/g01012/spec.SetCounter
instance : Callable Tryd.prog 5 := callable Tryd.func5 (by kernel_rfl) rfl   -- loop.example/g01012/impl.SetCounter
instance : Callable Tryd.prog 6 := callable Tryd.func6 (by kernel_rfl) rfl   -- loop.example/g01012/laws.eqCounter
instance : Callable Tryd.prog 7 := callable Tryd.func7 (by kernel_rfl) rfl   -- loop.example/g01012/laws.markCounter
instance : Callable Tryd.prog 8 := callable Tryd.func8 (by kernel_rfl) rfl   -- loop.example/g01012/laws.heldCounter
instance : Callable Tryd.prog 9 := callable Tryd.func9 (by kernel_rfl) rfl   -- loop.example/g01012/spec.l00In
instance : Callable Tryd.prog 10 := callable Tryd.func10 (by kernel_rfl) rfl   -- loop.example/g01012/spec.l11Power
instance : Callable Tryd.prog 11 := callable Tryd.func11 (by kernel_rfl) rfl   -- loop.example/g01012/spec.l11Set
instance : Callable Tryd.prog 12 := callable Tryd.func12 (by kernel_rfl) rfl   -- loop.example/g01012/impl.inside
instance : Callable Tryd.prog 13 := callable Tryd.func13 (by kernel_rfl) rfl   -- loop.example/g01012/impl.digitsOf
instance : Callable Tryd.prog 14 := callable Tryd.func14 (by kernel_rfl) rfl   -- loop.example/g01012/impl.wheelsShow
instance : Callable Tryd.prog 15 := callable Tryd.func15 (by kernel_rfl) rfl   -- loop.example/g01012/laws.eqInt64S
instance : Callable Tryd.prog 16 := callable Tryd.func16 (by kernel_rfl) rfl   -- loop.example/g01012/laws.markInt64S
instance : Callable Tryd.prog 17 := callable Tryd.func17 (by kernel_rfl) rfl   -- loop.example/g01012/laws.heldInt64S
instance : Callable Tryd.prog 18 := callable Tryd.func18 (by kernel_rfl) rfl   -- loop.example/g01012/impl.Decimal
instance : Callable Tryd.prog 19 := callable Tryd.func19 (by kernel_rfl) rfl   -- strconv.FormatInt
end Go.Proofs.YtcpglpegjdpliaaDoor

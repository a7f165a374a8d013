/- What is known of this program's types and functions. -/
import Derived.Test.YthigkbkaeopipaaL12
import Derived.Test.YthigkbkaeopipaaChecked
namespace Go.Proofs.Ythigkbkaeopipaa
open Go Go.Gw
theorem mixed : Try.prog.follows .mixedOrders = true := by kernel_rfl
instance : TScal Try.prog 1 := ⟨⟨_, Try.underlying1, rfl⟩, by kernel_rfl⟩
instance : TScal Try.prog 2 := ⟨⟨_, Try.underlying2, rfl⟩, by kernel_rfl⟩
instance : TInt Try.prog 2 .i64 := ⟨Try.underlying2⟩
instance : TZero Try.prog 2 (.int .i64 0) := ⟨by kernel_rfl⟩
instance : TScal Try.prog 3 := ⟨⟨_, Try.underlying3, rfl⟩, by kernel_rfl⟩
instance : TInt Try.prog 3 .i64 := ⟨Try.underlying3⟩
instance : TZero Try.prog 3 (.int .i64 0) := ⟨by kernel_rfl⟩
instance : TScal Try.prog 4 := ⟨⟨_, Try.underlying4, rfl⟩, by kernel_rfl⟩
instance : TBool Try.prog 4 := ⟨Try.underlying4⟩
instance : TZero Try.prog 4 (.bool false) := ⟨by kernel_rfl⟩
instance : TScal Try.prog 5 := ⟨⟨_, Try.underlying5, rfl⟩, by kernel_rfl⟩
instance : TInt Try.prog 5 .u8 := ⟨Try.underlying5⟩
instance : TZero Try.prog 5 (.int .u8 0) := ⟨by kernel_rfl⟩
instance : TScal Try.prog 6 := ⟨⟨_, Try.underlying6, rfl⟩, by kernel_rfl⟩
instance : TInt Try.prog 6 .u8 := ⟨Try.underlying6⟩
instance : TZero Try.prog 6 (.int .u8 0) := ⟨by kernel_rfl⟩
instance : TStr Try.prog 7 4 := ⟨⟨_, Try.underlying7⟩, by kernel_rfl⟩
instance : TFldT Try.prog 7 0 0 2 := ⟨⟨_, _, Try.underlying7, rfl, rfl, rfl⟩⟩
instance : TFld Try.prog 7 0 0 := ⟨⟨_, _, Try.underlying7, rfl, rfl, _, (by kernel_rfl : (Try.prog.info? 2).map (·.size) = some (0 + 1))⟩⟩
instance : TFldT Try.prog 7 1 1 3 := ⟨⟨_, _, Try.underlying7, rfl, rfl, rfl⟩⟩
instance : TFld Try.prog 7 1 1 := ⟨⟨_, _, Try.underlying7, rfl, rfl, _, (by kernel_rfl : (Try.prog.info? 3).map (·.size) = some (0 + 1))⟩⟩
instance : TFldT Try.prog 7 2 2 4 := ⟨⟨_, _, Try.underlying7, rfl, rfl, rfl⟩⟩
instance : TFld Try.prog 7 2 2 := ⟨⟨_, _, Try.underlying7, rfl, rfl, _, (by kernel_rfl : (Try.prog.info? 4).map (·.size) = some (0 + 1))⟩⟩
instance : TFldT Try.prog 7 3 3 6 := ⟨⟨_, _, Try.underlying7, rfl, rfl, rfl⟩⟩
instance : TFld Try.prog 7 3 3 := ⟨⟨_, _, Try.underlying7, rfl, rfl, _, (by kernel_rfl : (Try.prog.info? 6).map (·.size) = some (0 + 1))⟩⟩
instance : TFlat Try.prog 7 [.int .i64 0, .int .i64 0, .bool false, .int .u8 0] := ⟨by kernel_rfl, _, Try.underlying7, by kernel_rfl⟩
instance : TZero Try.prog 7 (.agg #[.int .i64 0, .int .i64 0, .bool false, .int .u8 0]) := ⟨by kernel_rfl⟩
instance : TStr Try.prog 8 4 := ⟨⟨_, Try.underlying8⟩, by kernel_rfl⟩
instance : TFldT Try.prog 8 0 0 2 := ⟨⟨_, _, Try.underlying8, rfl, rfl, rfl⟩⟩
instance : TFld Try.prog 8 0 0 := ⟨⟨_, _, Try.underlying8, rfl, rfl, _, (by kernel_rfl : (Try.prog.info? 2).map (·.size) = some (0 + 1))⟩⟩
instance : TFldT Try.prog 8 1 1 3 := ⟨⟨_, _, Try.underlying8, rfl, rfl, rfl⟩⟩
instance : TFld Try.prog 8 1 1 := ⟨⟨_, _, Try.underlying8, rfl, rfl, _, (by kernel_rfl : (Try.prog.info? 3).map (·.size) = some (0 + 1))⟩⟩
instance : TFldT Try.prog 8 2 2 4 := ⟨⟨_, _, Try.underlying8, rfl, rfl, rfl⟩⟩
instance : TFld Try.prog 8 2 2 := ⟨⟨_, _, Try.underlying8, rfl, rfl, _, (by kernel_rfl : (Try.prog.info? 4).map (·.size) = some (0 + 1))⟩⟩
instance : TFldT Try.prog 8 3 3 6 := ⟨⟨_, _, Try.underlying8, rfl, rfl, rfl⟩⟩
instance : TFld Try.prog 8 3 3 := ⟨⟨_, _, Try.underlying8, rfl, rfl, _, (by kernel_rfl : (Try.prog.info? 6).map (·.size) = some (0 + 1))⟩⟩
instance : TFlat Try.prog 8 [.int .i64 0, .int .i64 0, .bool false, .int .u8 0] := ⟨by kernel_rfl, _, Try.underlying8, by kernel_rfl⟩
instance : TZero Try.prog 8 (.agg #[.int .i64 0, .int .i64 0, .bool false, .int .u8 0]) := ⟨by kernel_rfl⟩
instance : TScal Try.prog 9 := ⟨⟨_, Try.underlying9, rfl⟩, by kernel_rfl⟩
instance : TStg Try.prog 9 := ⟨Try.underlying9⟩
instance : TZero Try.prog 9 (.string ⟨#[]⟩) := ⟨by kernel_rfl⟩
instance : TScal Try.prog 10 := ⟨⟨_, Try.underlying10, rfl⟩, by kernel_rfl⟩
instance : TStg Try.prog 10 := ⟨Try.underlying10⟩
instance : TZero Try.prog 10 (.string ⟨#[]⟩) := ⟨by kernel_rfl⟩
instance : TScal Try.prog 11 := ⟨⟨_, Try.underlying11, rfl⟩, by kernel_rfl⟩
instance : TStg Try.prog 11 := ⟨Try.underlying11⟩
instance : TZero Try.prog 11 (.string ⟨#[]⟩) := ⟨by kernel_rfl⟩
instance : TScal Try.prog 12 := ⟨⟨_, Try.underlying12, rfl⟩, by kernel_rfl⟩
instance : TInt Try.prog 12 .u64 := ⟨Try.underlying12⟩
instance : TZero Try.prog 12 (.int .u64 0) := ⟨by kernel_rfl⟩
instance : TStr Try.prog 13 2 := ⟨⟨_, Try.underlying13⟩, by kernel_rfl⟩
instance : TFldT Try.prog 13 0 0 9 := ⟨⟨_, _, Try.underlying13, rfl, rfl, rfl⟩⟩
instance : TFld Try.prog 13 0 0 := ⟨⟨_, _, Try.underlying13, rfl, rfl, _, (by kernel_rfl : (Try.prog.info? 9).map (·.size) = some (0 + 1))⟩⟩
instance : TFldT Try.prog 13 1 1 12 := ⟨⟨_, _, Try.underlying13, rfl, rfl, rfl⟩⟩
instance : TFld Try.prog 13 1 1 := ⟨⟨_, _, Try.underlying13, rfl, rfl, _, (by kernel_rfl : (Try.prog.info? 12).map (·.size) = some (0 + 1))⟩⟩
instance : TFlat Try.prog 13 [.string ⟨#[]⟩, .int .u64 0] := ⟨by kernel_rfl, _, Try.underlying13, by kernel_rfl⟩
instance : TZero Try.prog 13 (.agg #[.string ⟨#[]⟩, .int .u64 0]) := ⟨by kernel_rfl⟩
instance : TStr Try.prog 14 2 := ⟨⟨_, Try.underlying14⟩, by kernel_rfl⟩
instance : TFldT Try.prog 14 0 0 9 := ⟨⟨_, _, Try.underlying14, rfl, rfl, rfl⟩⟩
instance : TFld Try.prog 14 0 0 := ⟨⟨_, _, Try.underlying14, rfl, rfl, _, (by kernel_rfl : (Try.prog.info? 9).map (·.size) = some (0 + 1))⟩⟩
instance : TFldT Try.prog 14 1 1 12 := ⟨⟨_, _, Try.underlying14, rfl, rfl, rfl⟩⟩
instance : TFld Try.prog 14 1 1 := ⟨⟨_, _, Try.underlying14, rfl, rfl, _, (by kernel_rfl : (Try.prog.info? 12).map (·.size) = some (0 + 1))⟩⟩
instance : TFlat Try.prog 14 [.string ⟨#[]⟩, .int .u64 0] := ⟨by kernel_rfl, _, Try.underlying14, by kernel_rfl⟩
instance : TZero Try.prog 14 (.agg #[.string ⟨#[]⟩, .int .u64 0]) := ⟨by kernel_rfl⟩
instance : TScal Try.prog 15 := ⟨⟨_, Try.underlying15, rfl⟩, by kernel_rfl⟩
instance : TScal Try.prog 16 := ⟨⟨_, Try.underlying16, rfl⟩, by kernel_rfl⟩
instance : TScal Try.prog 17 := ⟨⟨_, Try.underlying17, rfl⟩, by kernel_rfl⟩
instance : TStr Try.prog 18 1 := ⟨⟨_, Try.underlying18⟩, by kernel_rfl⟩
instance : TFldT Try.prog 18 0 0 17 := ⟨⟨_, _, Try.underlying18, rfl, rfl, rfl⟩⟩
instance : TFld Try.prog 18 0 0 := ⟨⟨_, _, Try.underlying18, rfl, rfl, _, (by kernel_rfl : (Try.prog.info? 17).map (·.size) = some (0 + 1))⟩⟩
instance : TFlat Try.prog 18 [.pointer none] := ⟨by kernel_rfl, _, Try.underlying18, by kernel_rfl⟩
instance : TZero Try.prog 18 (.agg #[.pointer none]) := ⟨by kernel_rfl⟩
instance : TStr Try.prog 19 1 := ⟨⟨_, Try.underlying19⟩, by kernel_rfl⟩
instance : TFldT Try.prog 19 0 0 17 := ⟨⟨_, _, Try.underlying19, rfl, rfl, rfl⟩⟩
instance : TFld Try.prog 19 0 0 := ⟨⟨_, _, Try.underlying19, rfl, rfl, _, (by kernel_rfl : (Try.prog.info? 17).map (·.size) = some (0 + 1))⟩⟩
instance : TFlat Try.prog 19 [.pointer none] := ⟨by kernel_rfl, _, Try.underlying19, by kernel_rfl⟩
instance : TZero Try.prog 19 (.agg #[.pointer none]) := ⟨by kernel_rfl⟩
instance : TScal Try.prog 20 := ⟨⟨_, Try.underlying20, rfl⟩, by kernel_rfl⟩
instance : TScal Try.prog 21 := ⟨⟨_, Try.underlying21, rfl⟩, by kernel_rfl⟩
instance : TInt Try.prog 21 .i32 := ⟨Try.underlying21⟩
instance : TZero Try.prog 21 (.int .i32 0) := ⟨by kernel_rfl⟩
instance : TScal Try.prog 22 := ⟨⟨_, Try.underlying22, rfl⟩, by kernel_rfl⟩
instance : TZero Try.prog 22 (.slice none 0 0) := ⟨by kernel_rfl⟩
instance : TSvE Try.prog 22 := ⟨trivial⟩
instance : TSli Try.prog 22 5 1 1 := ⟨Try.underlying22, by kernel_rfl, by kernel_rfl, by kernel_rfl, zlen_of (z := .int .u8 0) (by kernel_rfl) rfl⟩
instance : TScal Try.prog 23 := ⟨⟨_, Try.underlying23, rfl⟩, by kernel_rfl⟩
instance : TScal Try.prog 24 := ⟨⟨_, Try.underlying24, rfl⟩, by kernel_rfl⟩
instance : TZero Try.prog 24 (.slice none 0 0) := ⟨by kernel_rfl⟩
instance : TSvE Try.prog 24 := ⟨trivial⟩
instance : TSli Try.prog 24 45 1 24 := ⟨Try.underlying24, by kernel_rfl, by kernel_rfl, by kernel_rfl, zlen_of (z := .agg #[.slice none 0 0]) (by kernel_rfl) rfl⟩
instance : TScal Try.prog 25 := ⟨⟨_, Try.underlying25, rfl⟩, by kernel_rfl⟩
instance : TStr Try.prog 26 2 := ⟨⟨_, Try.underlying26⟩, by kernel_rfl⟩
instance : TFldT Try.prog 26 0 0 2 := ⟨⟨_, _, Try.underlying26, rfl, rfl, rfl⟩⟩
instance : TFld Try.prog 26 0 0 := ⟨⟨_, _, Try.underlying26, rfl, rfl, _, (by kernel_rfl : (Try.prog.info? 2).map (·.size) = some (0 + 1))⟩⟩
instance : TFldT Try.prog 26 1 1 2 := ⟨⟨_, _, Try.underlying26, rfl, rfl, rfl⟩⟩
instance : TFld Try.prog 26 1 1 := ⟨⟨_, _, Try.underlying26, rfl, rfl, _, (by kernel_rfl : (Try.prog.info? 2).map (·.size) = some (0 + 1))⟩⟩
instance : TFlat Try.prog 26 [.int .i64 0, .int .i64 0] := ⟨by kernel_rfl, _, Try.underlying26, by kernel_rfl⟩
instance : TZero Try.prog 26 (.agg #[.int .i64 0, .int .i64 0]) := ⟨by kernel_rfl⟩
instance : TPair Try.prog 27 := ⟨by kernel_rfl, by kernel_rfl, _, _, Try.underlying27, by decide, by decide, rfl, rfl, Try.underlying2, Try.underlying2⟩
instance : TStr Try.prog 27 2 := ⟨⟨_, Try.underlying27⟩, by kernel_rfl⟩
instance : TFldT Try.prog 27 0 0 2 := ⟨⟨_, _, Try.underlying27, rfl, rfl, rfl⟩⟩
instance : TFld Try.prog 27 0 0 := ⟨⟨_, _, Try.underlying27, rfl, rfl, _, (by kernel_rfl : (Try.prog.info? 2).map (·.size) = some (0 + 1))⟩⟩
instance : TFldT Try.prog 27 1 1 2 := ⟨⟨_, _, Try.underlying27, rfl, rfl, rfl⟩⟩
instance : TFld Try.prog 27 1 1 := ⟨⟨_, _, Try.underlying27, rfl, rfl, _, (by kernel_rfl : (Try.prog.info? 2).map (·.size) = some (0 + 1))⟩⟩
instance : TFlat Try.prog 27 [.int .i64 0, .int .i64 0] := ⟨by kernel_rfl, _, Try.underlying27, by kernel_rfl⟩
instance : TZero Try.prog 27 (.agg #[.int .i64 0, .int .i64 0]) := ⟨by kernel_rfl⟩
instance : TScal Try.prog 28 := ⟨⟨_, Try.underlying28, rfl⟩, by kernel_rfl⟩
instance : TZero Try.prog 28 (.slice none 0 0) := ⟨by kernel_rfl⟩
instance : TSvE Try.prog 28 := ⟨trivial⟩
instance : TSli Try.prog 28 27 2 16 := ⟨Try.underlying28, by kernel_rfl, by kernel_rfl, by kernel_rfl, zlen_of (z := .agg #[.int .i64 0, .int .i64 0]) (by kernel_rfl) rfl⟩
instance : TStr Try.prog 29 4 := ⟨⟨_, Try.underlying29⟩, by kernel_rfl⟩
instance : TFldT Try.prog 29 0 0 27 := ⟨⟨_, _, Try.underlying29, rfl, rfl, rfl⟩⟩
instance : TFld Try.prog 29 0 0 := ⟨⟨_, _, Try.underlying29, rfl, rfl, _, (by kernel_rfl : (Try.prog.info? 27).map (·.size) = some (1 + 1))⟩⟩
instance : TFldT Try.prog 29 1 2 28 := ⟨⟨_, _, Try.underlying29, rfl, rfl, rfl⟩⟩
instance : TFld Try.prog 29 1 2 := ⟨⟨_, _, Try.underlying29, rfl, rfl, _, (by kernel_rfl : (Try.prog.info? 28).map (·.size) = some (0 + 1))⟩⟩
instance : TFldT Try.prog 29 2 3 4 := ⟨⟨_, _, Try.underlying29, rfl, rfl, rfl⟩⟩
instance : TFld Try.prog 29 2 3 := ⟨⟨_, _, Try.underlying29, rfl, rfl, _, (by kernel_rfl : (Try.prog.info? 4).map (·.size) = some (0 + 1))⟩⟩
instance : TZero Try.prog 29 (.agg #[.int .i64 0, .int .i64 0, .slice none 0 0, .bool false]) := ⟨by kernel_rfl⟩
instance : TStr Try.prog 30 4 := ⟨⟨_, Try.underlying30⟩, by kernel_rfl⟩
instance : TFldT Try.prog 30 0 0 27 := ⟨⟨_, _, Try.underlying30, rfl, rfl, rfl⟩⟩
instance : TFld Try.prog 30 0 0 := ⟨⟨_, _, Try.underlying30, rfl, rfl, _, (by kernel_rfl : (Try.prog.info? 27).map (·.size) = some (1 + 1))⟩⟩
instance : TFldT Try.prog 30 1 2 28 := ⟨⟨_, _, Try.underlying30, rfl, rfl, rfl⟩⟩
instance : TFld Try.prog 30 1 2 := ⟨⟨_, _, Try.underlying30, rfl, rfl, _, (by kernel_rfl : (Try.prog.info? 28).map (·.size) = some (0 + 1))⟩⟩
instance : TFldT Try.prog 30 2 3 4 := ⟨⟨_, _, Try.underlying30, rfl, rfl, rfl⟩⟩
instance : TFld Try.prog 30 2 3 := ⟨⟨_, _, Try.underlying30, rfl, rfl, _, (by kernel_rfl : (Try.prog.info? 4).map (·.size) = some (0 + 1))⟩⟩
instance : TZero Try.prog 30 (.agg #[.int .i64 0, .int .i64 0, .slice none 0 0, .bool false]) := ⟨by kernel_rfl⟩
instance : TScal Try.prog 31 := ⟨⟨_, Try.underlying31, rfl⟩, by kernel_rfl⟩
instance : TScal Try.prog 32 := ⟨⟨_, Try.underlying32, rfl⟩, by kernel_rfl⟩
instance : TZero Try.prog 32 (.slice none 0 0) := ⟨by kernel_rfl⟩
instance : TSvE Try.prog 32 := ⟨trivial⟩
instance : TSli Try.prog 32 38 1 24 := ⟨Try.underlying32, by kernel_rfl, by kernel_rfl, by kernel_rfl, zlen_of (z := .slice none 0 0) (by kernel_rfl) rfl⟩
instance : TScal Try.prog 34 := ⟨⟨_, Try.underlying34, rfl⟩, by kernel_rfl⟩
instance : TScal Try.prog 35 := ⟨⟨_, Try.underlying35, rfl⟩, by kernel_rfl⟩
instance : TZero Try.prog 35 (.slice none 0 0) := ⟨by kernel_rfl⟩
instance : TSvE Try.prog 35 := ⟨trivial⟩
instance : TSli Try.prog 35 9 1 16 := ⟨Try.underlying35, by kernel_rfl, by kernel_rfl, by kernel_rfl, zlen_of (z := .string ⟨#[]⟩) (by kernel_rfl) rfl⟩
instance : TScal Try.prog 37 := ⟨⟨_, Try.underlying37, rfl⟩, by kernel_rfl⟩
instance : TScal Try.prog 38 := ⟨⟨_, Try.underlying38, rfl⟩, by kernel_rfl⟩
instance : TZero Try.prog 38 (.slice none 0 0) := ⟨by kernel_rfl⟩
instance : TSvE Try.prog 38 := ⟨trivial⟩
instance : TSli Try.prog 38 2 1 8 := ⟨Try.underlying38, by kernel_rfl, by kernel_rfl, by kernel_rfl, zlen_of (z := .int .i64 0) (by kernel_rfl) rfl⟩
instance : TScal Try.prog 40 := ⟨⟨_, Try.underlying40, rfl⟩, by kernel_rfl⟩
instance : TScal Try.prog 42 := ⟨⟨_, Try.underlying42, rfl⟩, by kernel_rfl⟩
instance : TScal Try.prog 43 := ⟨⟨_, Try.underlying43, rfl⟩, by kernel_rfl⟩
instance : TStr Try.prog 44 1 := ⟨⟨_, Try.underlying44⟩, by kernel_rfl⟩
instance : TFldT Try.prog 44 0 0 38 := ⟨⟨_, _, Try.underlying44, rfl, rfl, rfl⟩⟩
instance : TFld Try.prog 44 0 0 := ⟨⟨_, _, Try.underlying44, rfl, rfl, _, (by kernel_rfl : (Try.prog.info? 38).map (·.size) = some (0 + 1))⟩⟩
instance : TFlat Try.prog 44 [.slice none 0 0] := ⟨by kernel_rfl, _, Try.underlying44, by kernel_rfl⟩
instance : TZero Try.prog 44 (.agg #[.slice none 0 0]) := ⟨by kernel_rfl⟩
instance : TSvE Try.prog 44 := ⟨trivial⟩
instance : TStr Try.prog 45 1 := ⟨⟨_, Try.underlying45⟩, by kernel_rfl⟩
instance : TFldT Try.prog 45 0 0 38 := ⟨⟨_, _, Try.underlying45, rfl, rfl, rfl⟩⟩
instance : TFld Try.prog 45 0 0 := ⟨⟨_, _, Try.underlying45, rfl, rfl, _, (by kernel_rfl : (Try.prog.info? 38).map (·.size) = some (0 + 1))⟩⟩
instance : TFlat Try.prog 45 [.slice none 0 0] := ⟨by kernel_rfl, _, Try.underlying45, by kernel_rfl⟩
instance : TZero Try.prog 45 (.agg #[.slice none 0 0]) := ⟨by kernel_rfl⟩
instance : TSvE Try.prog 45 := ⟨trivial⟩
instance : TScal Try.prog 46 := ⟨⟨_, Try.underlying46, rfl⟩, by kernel_rfl⟩
instance : TScal Try.prog 48 := ⟨⟨_, Try.underlying48, rfl⟩, by kernel_rfl⟩
instance : TScal Try.prog 50 := ⟨⟨_, Try.underlying50, rfl⟩, by kernel_rfl⟩
instance : TStr Try.prog 51 1 := ⟨⟨_, Try.underlying51⟩, by kernel_rfl⟩
instance : TFldT Try.prog 51 0 0 38 := ⟨⟨_, _, Try.underlying51, rfl, rfl, rfl⟩⟩
instance : TFld Try.prog 51 0 0 := ⟨⟨_, _, Try.underlying51, rfl, rfl, _, (by kernel_rfl : (Try.prog.info? 38).map (·.size) = some (0 + 1))⟩⟩
instance : TFlat Try.prog 51 [.slice none 0 0] := ⟨by kernel_rfl, _, Try.underlying51, by kernel_rfl⟩
instance : TZero Try.prog 51 (.agg #[.slice none 0 0]) := ⟨by kernel_rfl⟩
instance : TSvE Try.prog 51 := ⟨trivial⟩
instance : TStr Try.prog 52 1 := ⟨⟨_, Try.underlying52⟩, by kernel_rfl⟩
instance : TFldT Try.prog 52 0 0 38 := ⟨⟨_, _, Try.underlying52, rfl, rfl, rfl⟩⟩
instance : TFld Try.prog 52 0 0 := ⟨⟨_, _, Try.underlying52, rfl, rfl, _, (by kernel_rfl : (Try.prog.info? 38).map (·.size) = some (0 + 1))⟩⟩
instance : TFlat Try.prog 52 [.slice none 0 0] := ⟨by kernel_rfl, _, Try.underlying52, by kernel_rfl⟩
instance : TZero Try.prog 52 (.agg #[.slice none 0 0]) := ⟨by kernel_rfl⟩
instance : TSvE Try.prog 52 := ⟨trivial⟩
instance : TScal Try.prog 54 := ⟨⟨_, Try.underlying54, rfl⟩, by kernel_rfl⟩
instance : TScal Try.prog 56 := ⟨⟨_, Try.underlying56, rfl⟩, by kernel_rfl⟩
instance : TScal Try.prog 58 := ⟨⟨_, Try.underlying58, rfl⟩, by kernel_rfl⟩
instance : TScal Try.prog 59 := ⟨⟨_, Try.underlying59, rfl⟩, by kernel_rfl⟩
instance : TScal Try.prog 60 := ⟨⟨_, Try.underlying60, rfl⟩, by kernel_rfl⟩
instance : TScal Try.prog 61 := ⟨⟨_, Try.underlying61, rfl⟩, by kernel_rfl⟩
instance : TZero Try.prog 61 (.slice none 0 0) := ⟨by kernel_rfl⟩
instance : TSvE Try.prog 61 := ⟨trivial⟩
instance : TSli Try.prog 61 76 2 16 := ⟨Try.underlying61, by kernel_rfl, by kernel_rfl, by kernel_rfl, zlen_of (z := .agg #[.int .i64 0, .int .i64 0]) (by kernel_rfl) rfl⟩
instance : TStr Try.prog 62 4 := ⟨⟨_, Try.underlying62⟩, by kernel_rfl⟩
instance : TFldT Try.prog 62 0 0 2 := ⟨⟨_, _, Try.underlying62, rfl, rfl, rfl⟩⟩
instance : TFld Try.prog 62 0 0 := ⟨⟨_, _, Try.underlying62, rfl, rfl, _, (by kernel_rfl : (Try.prog.info? 2).map (·.size) = some (0 + 1))⟩⟩
instance : TFldT Try.prog 62 1 1 2 := ⟨⟨_, _, Try.underlying62, rfl, rfl, rfl⟩⟩
instance : TFld Try.prog 62 1 1 := ⟨⟨_, _, Try.underlying62, rfl, rfl, _, (by kernel_rfl : (Try.prog.info? 2).map (·.size) = some (0 + 1))⟩⟩
instance : TFldT Try.prog 62 2 2 2 := ⟨⟨_, _, Try.underlying62, rfl, rfl, rfl⟩⟩
instance : TFld Try.prog 62 2 2 := ⟨⟨_, _, Try.underlying62, rfl, rfl, _, (by kernel_rfl : (Try.prog.info? 2).map (·.size) = some (0 + 1))⟩⟩
instance : TFldT Try.prog 62 3 3 61 := ⟨⟨_, _, Try.underlying62, rfl, rfl, rfl⟩⟩
instance : TFld Try.prog 62 3 3 := ⟨⟨_, _, Try.underlying62, rfl, rfl, _, (by kernel_rfl : (Try.prog.info? 61).map (·.size) = some (0 + 1))⟩⟩
instance : TFlat Try.prog 62 [.int .i64 0, .int .i64 0, .int .i64 0, .slice none 0 0] := ⟨by kernel_rfl, _, Try.underlying62, by kernel_rfl⟩
instance : TZero Try.prog 62 (.agg #[.int .i64 0, .int .i64 0, .int .i64 0, .slice none 0 0]) := ⟨by kernel_rfl⟩
instance : TStr Try.prog 63 4 := ⟨⟨_, Try.underlying63⟩, by kernel_rfl⟩
instance : TFldT Try.prog 63 0 0 2 := ⟨⟨_, _, Try.underlying63, rfl, rfl, rfl⟩⟩
instance : TFld Try.prog 63 0 0 := ⟨⟨_, _, Try.underlying63, rfl, rfl, _, (by kernel_rfl : (Try.prog.info? 2).map (·.size) = some (0 + 1))⟩⟩
instance : TFldT Try.prog 63 1 1 2 := ⟨⟨_, _, Try.underlying63, rfl, rfl, rfl⟩⟩
instance : TFld Try.prog 63 1 1 := ⟨⟨_, _, Try.underlying63, rfl, rfl, _, (by kernel_rfl : (Try.prog.info? 2).map (·.size) = some (0 + 1))⟩⟩
instance : TFldT Try.prog 63 2 2 2 := ⟨⟨_, _, Try.underlying63, rfl, rfl, rfl⟩⟩
instance : TFld Try.prog 63 2 2 := ⟨⟨_, _, Try.underlying63, rfl, rfl, _, (by kernel_rfl : (Try.prog.info? 2).map (·.size) = some (0 + 1))⟩⟩
instance : TFldT Try.prog 63 3 3 61 := ⟨⟨_, _, Try.underlying63, rfl, rfl, rfl⟩⟩
instance : TFld Try.prog 63 3 3 := ⟨⟨_, _, Try.underlying63, rfl, rfl, _, (by kernel_rfl : (Try.prog.info? 61).map (·.size) = some (0 + 1))⟩⟩
instance : TFlat Try.prog 63 [.int .i64 0, .int .i64 0, .int .i64 0, .slice none 0 0] := ⟨by kernel_rfl, _, Try.underlying63, by kernel_rfl⟩
instance : TZero Try.prog 63 (.agg #[.int .i64 0, .int .i64 0, .int .i64 0, .slice none 0 0]) := ⟨by kernel_rfl⟩
instance : TScal Try.prog 64 := ⟨⟨_, Try.underlying64, rfl⟩, by kernel_rfl⟩
instance : TScal Try.prog 65 := ⟨⟨_, Try.underlying65, rfl⟩, by kernel_rfl⟩
instance : TScal Try.prog 66 := ⟨⟨_, Try.underlying66, rfl⟩, by kernel_rfl⟩
instance : TScal Try.prog 68 := ⟨⟨_, Try.underlying68, rfl⟩, by kernel_rfl⟩
instance : TScal Try.prog 69 := ⟨⟨_, Try.underlying69, rfl⟩, by kernel_rfl⟩
instance : TScal Try.prog 70 := ⟨⟨_, Try.underlying70, rfl⟩, by kernel_rfl⟩
instance : TScal Try.prog 71 := ⟨⟨_, Try.underlying71, rfl⟩, by kernel_rfl⟩
instance : TScal Try.prog 73 := ⟨⟨_, Try.underlying73, rfl⟩, by kernel_rfl⟩
instance : TScal Try.prog 74 := ⟨⟨_, Try.underlying74, rfl⟩, by kernel_rfl⟩
instance : TStr Try.prog 75 2 := ⟨⟨_, Try.underlying75⟩, by kernel_rfl⟩
instance : TFldT Try.prog 75 0 0 2 := ⟨⟨_, _, Try.underlying75, rfl, rfl, rfl⟩⟩
instance : TFld Try.prog 75 0 0 := ⟨⟨_, _, Try.underlying75, rfl, rfl, _, (by kernel_rfl : (Try.prog.info? 2).map (·.size) = some (0 + 1))⟩⟩
instance : TFldT Try.prog 75 1 1 2 := ⟨⟨_, _, Try.underlying75, rfl, rfl, rfl⟩⟩
instance : TFld Try.prog 75 1 1 := ⟨⟨_, _, Try.underlying75, rfl, rfl, _, (by kernel_rfl : (Try.prog.info? 2).map (·.size) = some (0 + 1))⟩⟩
instance : TFlat Try.prog 75 [.int .i64 0, .int .i64 0] := ⟨by kernel_rfl, _, Try.underlying75, by kernel_rfl⟩
instance : TZero Try.prog 75 (.agg #[.int .i64 0, .int .i64 0]) := ⟨by kernel_rfl⟩
instance : TPair Try.prog 76 := ⟨by kernel_rfl, by kernel_rfl, _, _, Try.underlying76, by decide, by decide, rfl, rfl, Try.underlying2, Try.underlying2⟩
instance : TStr Try.prog 76 2 := ⟨⟨_, Try.underlying76⟩, by kernel_rfl⟩
instance : TFldT Try.prog 76 0 0 2 := ⟨⟨_, _, Try.underlying76, rfl, rfl, rfl⟩⟩
instance : TFld Try.prog 76 0 0 := ⟨⟨_, _, Try.underlying76, rfl, rfl, _, (by kernel_rfl : (Try.prog.info? 2).map (·.size) = some (0 + 1))⟩⟩
instance : TFldT Try.prog 76 1 1 2 := ⟨⟨_, _, Try.underlying76, rfl, rfl, rfl⟩⟩
instance : TFld Try.prog 76 1 1 := ⟨⟨_, _, Try.underlying76, rfl, rfl, _, (by kernel_rfl : (Try.prog.info? 2).map (·.size) = some (0 + 1))⟩⟩
instance : TFlat Try.prog 76 [.int .i64 0, .int .i64 0] := ⟨by kernel_rfl, _, Try.underlying76, by kernel_rfl⟩
instance : TZero Try.prog 76 (.agg #[.int .i64 0, .int .i64 0]) := ⟨by kernel_rfl⟩
instance : TScal Try.prog 77 := ⟨⟨_, Try.underlying77, rfl⟩, by kernel_rfl⟩
instance : TScal Try.prog 78 := ⟨⟨_, Try.underlying78, rfl⟩, by kernel_rfl⟩
instance : TScal Try.prog 79 := ⟨⟨_, Try.underlying79, rfl⟩, by kernel_rfl⟩
instance : TZero Try.prog 79 (.slice none 0 0) := ⟨by kernel_rfl⟩
instance : TSvE Try.prog 79 := ⟨trivial⟩
instance : TSli Try.prog 79 191 2 16 := ⟨Try.underlying79, by kernel_rfl, by kernel_rfl, by kernel_rfl, zlen_of (z := .agg #[.int .i64 0, .int .i64 0]) (by kernel_rfl) rfl⟩
instance : TStr Try.prog 80 4 := ⟨⟨_, Try.underlying80⟩, by kernel_rfl⟩
instance : TFldT Try.prog 80 0 0 2 := ⟨⟨_, _, Try.underlying80, rfl, rfl, rfl⟩⟩
instance : TFld Try.prog 80 0 0 := ⟨⟨_, _, Try.underlying80, rfl, rfl, _, (by kernel_rfl : (Try.prog.info? 2).map (·.size) = some (0 + 1))⟩⟩
instance : TFldT Try.prog 80 1 1 2 := ⟨⟨_, _, Try.underlying80, rfl, rfl, rfl⟩⟩
instance : TFld Try.prog 80 1 1 := ⟨⟨_, _, Try.underlying80, rfl, rfl, _, (by kernel_rfl : (Try.prog.info? 2).map (·.size) = some (0 + 1))⟩⟩
instance : TFldT Try.prog 80 2 2 2 := ⟨⟨_, _, Try.underlying80, rfl, rfl, rfl⟩⟩
instance : TFld Try.prog 80 2 2 := ⟨⟨_, _, Try.underlying80, rfl, rfl, _, (by kernel_rfl : (Try.prog.info? 2).map (·.size) = some (0 + 1))⟩⟩
instance : TFldT Try.prog 80 3 3 79 := ⟨⟨_, _, Try.underlying80, rfl, rfl, rfl⟩⟩
instance : TFld Try.prog 80 3 3 := ⟨⟨_, _, Try.underlying80, rfl, rfl, _, (by kernel_rfl : (Try.prog.info? 79).map (·.size) = some (0 + 1))⟩⟩
instance : TFlat Try.prog 80 [.int .i64 0, .int .i64 0, .int .i64 0, .slice none 0 0] := ⟨by kernel_rfl, _, Try.underlying80, by kernel_rfl⟩
instance : TZero Try.prog 80 (.agg #[.int .i64 0, .int .i64 0, .int .i64 0, .slice none 0 0]) := ⟨by kernel_rfl⟩
instance : TStr Try.prog 81 4 := ⟨⟨_, Try.underlying81⟩, by kernel_rfl⟩
instance : TFldT Try.prog 81 0 0 2 := ⟨⟨_, _, Try.underlying81, rfl, rfl, rfl⟩⟩
instance : TFld Try.prog 81 0 0 := ⟨⟨_, _, Try.underlying81, rfl, rfl, _, (by kernel_rfl : (Try.prog.info? 2).map (·.size) = some (0 + 1))⟩⟩
instance : TFldT Try.prog 81 1 1 2 := ⟨⟨_, _, Try.underlying81, rfl, rfl, rfl⟩⟩
instance : TFld Try.prog 81 1 1 := ⟨⟨_, _, Try.underlying81, rfl, rfl, _, (by kernel_rfl : (Try.prog.info? 2).map (·.size) = some (0 + 1))⟩⟩
instance : TFldT Try.prog 81 2 2 2 := ⟨⟨_, _, Try.underlying81, rfl, rfl, rfl⟩⟩
instance : TFld Try.prog 81 2 2 := ⟨⟨_, _, Try.underlying81, rfl, rfl, _, (by kernel_rfl : (Try.prog.info? 2).map (·.size) = some (0 + 1))⟩⟩
instance : TFldT Try.prog 81 3 3 79 := ⟨⟨_, _, Try.underlying81, rfl, rfl, rfl⟩⟩
instance : TFld Try.prog 81 3 3 := ⟨⟨_, _, Try.underlying81, rfl, rfl, _, (by kernel_rfl : (Try.prog.info? 79).map (·.size) = some (0 + 1))⟩⟩
instance : TFlat Try.prog 81 [.int .i64 0, .int .i64 0, .int .i64 0, .slice none 0 0] := ⟨by kernel_rfl, _, Try.underlying81, by kernel_rfl⟩
instance : TZero Try.prog 81 (.agg #[.int .i64 0, .int .i64 0, .int .i64 0, .slice none 0 0]) := ⟨by kernel_rfl⟩
instance : TScal Try.prog 82 := ⟨⟨_, Try.underlying82, rfl⟩, by kernel_rfl⟩
instance : TScal Try.prog 83 := ⟨⟨_, Try.underlying83, rfl⟩, by kernel_rfl⟩
instance : TScal Try.prog 84 := ⟨⟨_, Try.underlying84, rfl⟩, by kernel_rfl⟩
instance : TScal Try.prog 85 := ⟨⟨_, Try.underlying85, rfl⟩, by kernel_rfl⟩
instance : TScal Try.prog 86 := ⟨⟨_, Try.underlying86, rfl⟩, by kernel_rfl⟩
instance : TScal Try.prog 87 := ⟨⟨_, Try.underlying87, rfl⟩, by kernel_rfl⟩
instance : TZero Try.prog 87 (.slice none 0 0) := ⟨by kernel_rfl⟩
instance : TSvE Try.prog 87 := ⟨trivial⟩
instance : TSli Try.prog 87 163 2 16 := ⟨Try.underlying87, by kernel_rfl, by kernel_rfl, by kernel_rfl, zlen_of (z := .agg #[.int .i64 0, .int .i64 0]) (by kernel_rfl) rfl⟩
instance : TScal Try.prog 88 := ⟨⟨_, Try.underlying88, rfl⟩, by kernel_rfl⟩
instance : TScal Try.prog 89 := ⟨⟨_, Try.underlying89, rfl⟩, by kernel_rfl⟩
instance : TZero Try.prog 89 (.slice none 0 0) := ⟨by kernel_rfl⟩
instance : TSvE Try.prog 89 := ⟨trivial⟩
instance : TSli Try.prog 89 161 2 16 := ⟨Try.underlying89, by kernel_rfl, by kernel_rfl, by kernel_rfl, zlen_of (z := .agg #[.int .i64 0, .int .i64 0]) (by kernel_rfl) rfl⟩
instance : TScal Try.prog 91 := ⟨⟨_, Try.underlying91, rfl⟩, by kernel_rfl⟩
instance : TScal Try.prog 92 := ⟨⟨_, Try.underlying92, rfl⟩, by kernel_rfl⟩
instance : TScal Try.prog 93 := ⟨⟨_, Try.underlying93, rfl⟩, by kernel_rfl⟩
instance : TScal Try.prog 94 := ⟨⟨_, Try.underlying94, rfl⟩, by kernel_rfl⟩
instance : TScal Try.prog 95 := ⟨⟨_, Try.underlying95, rfl⟩, by kernel_rfl⟩
instance : TScal Try.prog 96 := ⟨⟨_, Try.underlying96, rfl⟩, by kernel_rfl⟩
instance : TScal Try.prog 97 := ⟨⟨_, Try.underlying97, rfl⟩, by kernel_rfl⟩
instance : TScal Try.prog 98 := ⟨⟨_, Try.underlying98, rfl⟩, by kernel_rfl⟩
instance : TScal Try.prog 99 := ⟨⟨_, Try.underlying99, rfl⟩, by kernel_rfl⟩
instance : TScal Try.prog 100 := ⟨⟨_, Try.underlying100, rfl⟩, by kernel_rfl⟩
instance : TScal Try.prog 101 := ⟨⟨_, Try.underlying101, rfl⟩, by kernel_rfl⟩
instance : TZero Try.prog 101 (.slice none 0 0) := ⟨by kernel_rfl⟩
instance : TSvE Try.prog 101 := ⟨trivial⟩
instance : TSli Try.prog 101 24 1 24 := ⟨Try.underlying101, by kernel_rfl, by kernel_rfl, by kernel_rfl, zlen_of (z := .slice none 0 0) (by kernel_rfl) rfl⟩
instance : TScal Try.prog 102 := ⟨⟨_, Try.underlying102, rfl⟩, by kernel_rfl⟩
instance : TScal Try.prog 104 := ⟨⟨_, Try.underlying104, rfl⟩, by kernel_rfl⟩
instance : TScal Try.prog 105 := ⟨⟨_, Try.underlying105, rfl⟩, by kernel_rfl⟩
instance : TScal Try.prog 106 := ⟨⟨_, Try.underlying106, rfl⟩, by kernel_rfl⟩
instance : TScal Try.prog 107 := ⟨⟨_, Try.underlying107, rfl⟩, by kernel_rfl⟩
instance : TScal Try.prog 108 := ⟨⟨_, Try.underlying108, rfl⟩, by kernel_rfl⟩
instance : TScal Try.prog 109 := ⟨⟨_, Try.underlying109, rfl⟩, by kernel_rfl⟩
instance : TScal Try.prog 111 := ⟨⟨_, Try.underlying111, rfl⟩, by kernel_rfl⟩
instance : TScal Try.prog 112 := ⟨⟨_, Try.underlying112, rfl⟩, by kernel_rfl⟩
instance : TScal Try.prog 113 := ⟨⟨_, Try.underlying113, rfl⟩, by kernel_rfl⟩
instance : TScal Try.prog 114 := ⟨⟨_, Try.underlying114, rfl⟩, by kernel_rfl⟩
instance : TScal Try.prog 115 := ⟨⟨_, Try.underlying115, rfl⟩, by kernel_rfl⟩
instance : TScal Try.prog 116 := ⟨⟨_, Try.underlying116, rfl⟩, by kernel_rfl⟩
instance : TScal Try.prog 117 := ⟨⟨_, Try.underlying117, rfl⟩, by kernel_rfl⟩
instance : TScal Try.prog 119 := ⟨⟨_, Try.underlying119, rfl⟩, by kernel_rfl⟩
instance : TScal Try.prog 120 := ⟨⟨_, Try.underlying120, rfl⟩, by kernel_rfl⟩
instance : TScal Try.prog 121 := ⟨⟨_, Try.underlying121, rfl⟩, by kernel_rfl⟩
instance : TScal Try.prog 122 := ⟨⟨_, Try.underlying122, rfl⟩, by kernel_rfl⟩
instance : TScal Try.prog 123 := ⟨⟨_, Try.underlying123, rfl⟩, by kernel_rfl⟩
instance : TScal Try.prog 124 := ⟨⟨_, Try.underlying124, rfl⟩, by kernel_rfl⟩
instance : TScal Try.prog 125 := ⟨⟨_, Try.underlying125, rfl⟩, by kernel_rfl⟩
instance : TScal Try.prog 126 := ⟨⟨_, Try.underlying126, rfl⟩, by kernel_rfl⟩
instance : TScal Try.prog 127 := ⟨⟨_, Try.underlying127, rfl⟩, by kernel_rfl⟩
instance : TScal Try.prog 128 := ⟨⟨_, Try.underlying128, rfl⟩, by kernel_rfl⟩
instance : TScal Try.prog 129 := ⟨⟨_, Try.underlying129, rfl⟩, by kernel_rfl⟩
instance : TScal Try.prog 130 := ⟨⟨_, Try.underlying130, rfl⟩, by kernel_rfl⟩
instance : TScal Try.prog 131 := ⟨⟨_, Try.underlying131, rfl⟩, by kernel_rfl⟩
instance : TScal Try.prog 132 := ⟨⟨_, Try.underlying132, rfl⟩, by kernel_rfl⟩
instance : TScal Try.prog 133 := ⟨⟨_, Try.underlying133, rfl⟩, by kernel_rfl⟩
instance : TScal Try.prog 134 := ⟨⟨_, Try.underlying134, rfl⟩, by kernel_rfl⟩
instance : TInt Try.prog 134 .u64 := ⟨Try.underlying134⟩
instance : TZero Try.prog 134 (.int .u64 0) := ⟨by kernel_rfl⟩
instance : TScal Try.prog 135 := ⟨⟨_, Try.underlying135, rfl⟩, by kernel_rfl⟩
instance : TScal Try.prog 136 := ⟨⟨_, Try.underlying136, rfl⟩, by kernel_rfl⟩
instance : TScal Try.prog 137 := ⟨⟨_, Try.underlying137, rfl⟩, by kernel_rfl⟩
instance : TScal Try.prog 138 := ⟨⟨_, Try.underlying138, rfl⟩, by kernel_rfl⟩
instance : TScal Try.prog 139 := ⟨⟨_, Try.underlying139, rfl⟩, by kernel_rfl⟩
instance : TScal Try.prog 140 := ⟨⟨_, Try.underlying140, rfl⟩, by kernel_rfl⟩
instance : TScal Try.prog 141 := ⟨⟨_, Try.underlying141, rfl⟩, by kernel_rfl⟩
instance : TScal Try.prog 142 := ⟨⟨_, Try.underlying142, rfl⟩, by kernel_rfl⟩
instance : TScal Try.prog 143 := ⟨⟨_, Try.underlying143, rfl⟩, by kernel_rfl⟩
instance : TScal Try.prog 144 := ⟨⟨_, Try.underlying144, rfl⟩, by kernel_rfl⟩
instance : TScal Try.prog 145 := ⟨⟨_, Try.underlying145, rfl⟩, by kernel_rfl⟩
instance : TScal Try.prog 146 := ⟨⟨_, Try.underlying146, rfl⟩, by kernel_rfl⟩
instance : TScal Try.prog 147 := ⟨⟨_, Try.underlying147, rfl⟩, by kernel_rfl⟩
instance : TScal Try.prog 148 := ⟨⟨_, Try.underlying148, rfl⟩, by kernel_rfl⟩
instance : TScal Try.prog 149 := ⟨⟨_, Try.underlying149, rfl⟩, by kernel_rfl⟩
instance : TScal Try.prog 150 := ⟨⟨_, Try.underlying150, rfl⟩, by kernel_rfl⟩
instance : TScal Try.prog 151 := ⟨⟨_, Try.underlying151, rfl⟩, by kernel_rfl⟩
instance : TScal Try.prog 152 := ⟨⟨_, Try.underlying152, rfl⟩, by kernel_rfl⟩
instance : TScal Try.prog 153 := ⟨⟨_, Try.underlying153, rfl⟩, by kernel_rfl⟩
instance : TScal Try.prog 154 := ⟨⟨_, Try.underlying154, rfl⟩, by kernel_rfl⟩
instance : TScal Try.prog 155 := ⟨⟨_, Try.underlying155, rfl⟩, by kernel_rfl⟩
instance : TScal Try.prog 156 := ⟨⟨_, Try.underlying156, rfl⟩, by kernel_rfl⟩
instance : TScal Try.prog 157 := ⟨⟨_, Try.underlying157, rfl⟩, by kernel_rfl⟩
instance : TScal Try.prog 158 := ⟨⟨_, Try.underlying158, rfl⟩, by kernel_rfl⟩
instance : TScal Try.prog 160 := ⟨⟨_, Try.underlying160, rfl⟩, by kernel_rfl⟩
instance : TPair Try.prog 161 := ⟨by kernel_rfl, by kernel_rfl, _, _, Try.underlying161, by decide, by decide, rfl, rfl, Try.underlying2, Try.underlying2⟩
instance : TStr Try.prog 161 2 := ⟨⟨_, Try.underlying161⟩, by kernel_rfl⟩
instance : TFldT Try.prog 161 0 0 2 := ⟨⟨_, _, Try.underlying161, rfl, rfl, rfl⟩⟩
instance : TFld Try.prog 161 0 0 := ⟨⟨_, _, Try.underlying161, rfl, rfl, _, (by kernel_rfl : (Try.prog.info? 2).map (·.size) = some (0 + 1))⟩⟩
instance : TFldT Try.prog 161 1 1 2 := ⟨⟨_, _, Try.underlying161, rfl, rfl, rfl⟩⟩
instance : TFld Try.prog 161 1 1 := ⟨⟨_, _, Try.underlying161, rfl, rfl, _, (by kernel_rfl : (Try.prog.info? 2).map (·.size) = some (0 + 1))⟩⟩
instance : TFlat Try.prog 161 [.int .i64 0, .int .i64 0] := ⟨by kernel_rfl, _, Try.underlying161, by kernel_rfl⟩
instance : TZero Try.prog 161 (.agg #[.int .i64 0, .int .i64 0]) := ⟨by kernel_rfl⟩
instance : TScal Try.prog 162 := ⟨⟨_, Try.underlying162, rfl⟩, by kernel_rfl⟩
instance : TPair Try.prog 163 := ⟨by kernel_rfl, by kernel_rfl, _, _, Try.underlying163, by decide, by decide, rfl, rfl, Try.underlying2, Try.underlying2⟩
instance : TStr Try.prog 163 2 := ⟨⟨_, Try.underlying163⟩, by kernel_rfl⟩
instance : TFldT Try.prog 163 0 0 2 := ⟨⟨_, _, Try.underlying163, rfl, rfl, rfl⟩⟩
instance : TFld Try.prog 163 0 0 := ⟨⟨_, _, Try.underlying163, rfl, rfl, _, (by kernel_rfl : (Try.prog.info? 2).map (·.size) = some (0 + 1))⟩⟩
instance : TFldT Try.prog 163 1 1 2 := ⟨⟨_, _, Try.underlying163, rfl, rfl, rfl⟩⟩
instance : TFld Try.prog 163 1 1 := ⟨⟨_, _, Try.underlying163, rfl, rfl, _, (by kernel_rfl : (Try.prog.info? 2).map (·.size) = some (0 + 1))⟩⟩
instance : TFlat Try.prog 163 [.int .i64 0, .int .i64 0] := ⟨by kernel_rfl, _, Try.underlying163, by kernel_rfl⟩
instance : TZero Try.prog 163 (.agg #[.int .i64 0, .int .i64 0]) := ⟨by kernel_rfl⟩
instance : TScal Try.prog 164 := ⟨⟨_, Try.underlying164, rfl⟩, by kernel_rfl⟩
instance : TScal Try.prog 165 := ⟨⟨_, Try.underlying165, rfl⟩, by kernel_rfl⟩
instance : TScal Try.prog 166 := ⟨⟨_, Try.underlying166, rfl⟩, by kernel_rfl⟩
instance : TScal Try.prog 167 := ⟨⟨_, Try.underlying167, rfl⟩, by kernel_rfl⟩
instance : TScal Try.prog 168 := ⟨⟨_, Try.underlying168, rfl⟩, by kernel_rfl⟩
instance : TInt Try.prog 168 .u64 := ⟨Try.underlying168⟩
instance : TZero Try.prog 168 (.int .u64 0) := ⟨by kernel_rfl⟩
instance : TStr Try.prog 169 3 := ⟨⟨_, Try.underlying169⟩, by kernel_rfl⟩
instance : TFldT Try.prog 169 0 0 22 := ⟨⟨_, _, Try.underlying169, rfl, rfl, rfl⟩⟩
instance : TFld Try.prog 169 0 0 := ⟨⟨_, _, Try.underlying169, rfl, rfl, _, (by kernel_rfl : (Try.prog.info? 22).map (·.size) = some (0 + 1))⟩⟩
instance : TFldT Try.prog 169 1 1 3 := ⟨⟨_, _, Try.underlying169, rfl, rfl, rfl⟩⟩
instance : TFld Try.prog 169 1 1 := ⟨⟨_, _, Try.underlying169, rfl, rfl, _, (by kernel_rfl : (Try.prog.info? 3).map (·.size) = some (0 + 1))⟩⟩
instance : TFldT Try.prog 169 2 2 168 := ⟨⟨_, _, Try.underlying169, rfl, rfl, rfl⟩⟩
instance : TFld Try.prog 169 2 2 := ⟨⟨_, _, Try.underlying169, rfl, rfl, _, (by kernel_rfl : (Try.prog.info? 168).map (·.size) = some (0 + 1))⟩⟩
instance : TFlat Try.prog 169 [.slice none 0 0, .int .i64 0, .int .u64 0] := ⟨by kernel_rfl, _, Try.underlying169, by kernel_rfl⟩
instance : TZero Try.prog 169 (.agg #[.slice none 0 0, .int .i64 0, .int .u64 0]) := ⟨by kernel_rfl⟩
instance : TStr Try.prog 170 3 := ⟨⟨_, Try.underlying170⟩, by kernel_rfl⟩
instance : TFldT Try.prog 170 0 0 22 := ⟨⟨_, _, Try.underlying170, rfl, rfl, rfl⟩⟩
instance : TFld Try.prog 170 0 0 := ⟨⟨_, _, Try.underlying170, rfl, rfl, _, (by kernel_rfl : (Try.prog.info? 22).map (·.size) = some (0 + 1))⟩⟩
instance : TFldT Try.prog 170 1 1 3 := ⟨⟨_, _, Try.underlying170, rfl, rfl, rfl⟩⟩
instance : TFld Try.prog 170 1 1 := ⟨⟨_, _, Try.underlying170, rfl, rfl, _, (by kernel_rfl : (Try.prog.info? 3).map (·.size) = some (0 + 1))⟩⟩
instance : TFldT Try.prog 170 2 2 168 := ⟨⟨_, _, Try.underlying170, rfl, rfl, rfl⟩⟩
instance : TFld Try.prog 170 2 2 := ⟨⟨_, _, Try.underlying170, rfl, rfl, _, (by kernel_rfl : (Try.prog.info? 168).map (·.size) = some (0 + 1))⟩⟩
instance : TFlat Try.prog 170 [.slice none 0 0, .int .i64 0, .int .u64 0] := ⟨by kernel_rfl, _, Try.underlying170, by kernel_rfl⟩
instance : TZero Try.prog 170 (.agg #[.slice none 0 0, .int .i64 0, .int .u64 0]) := ⟨by kernel_rfl⟩
instance : TScal Try.prog 171 := ⟨⟨_, Try.underlying171, rfl⟩, by kernel_rfl⟩
instance : TScal Try.prog 172 := ⟨⟨_, Try.underlying172, rfl⟩, by kernel_rfl⟩
instance : TScal Try.prog 173 := ⟨⟨_, Try.underlying173, rfl⟩, by kernel_rfl⟩
instance : TScal Try.prog 174 := ⟨⟨_, Try.underlying174, rfl⟩, by kernel_rfl⟩
instance : TScal Try.prog 175 := ⟨⟨_, Try.underlying175, rfl⟩, by kernel_rfl⟩
instance : TScal Try.prog 176 := ⟨⟨_, Try.underlying176, rfl⟩, by kernel_rfl⟩
instance : TScal Try.prog 177 := ⟨⟨_, Try.underlying177, rfl⟩, by kernel_rfl⟩
instance : TScal Try.prog 178 := ⟨⟨_, Try.underlying178, rfl⟩, by kernel_rfl⟩
instance : TScal Try.prog 179 := ⟨⟨_, Try.underlying179, rfl⟩, by kernel_rfl⟩
instance : TScal Try.prog 180 := ⟨⟨_, Try.underlying180, rfl⟩, by kernel_rfl⟩
instance : TScal Try.prog 181 := ⟨⟨_, Try.underlying181, rfl⟩, by kernel_rfl⟩
instance : TScal Try.prog 182 := ⟨⟨_, Try.underlying182, rfl⟩, by kernel_rfl⟩
instance : TScal Try.prog 183 := ⟨⟨_, Try.underlying183, rfl⟩, by kernel_rfl⟩
instance : TScal Try.prog 184 := ⟨⟨_, Try.underlying184, rfl⟩, by kernel_rfl⟩
instance : TInt Try.prog 184 .u32 := ⟨Try.underlying184⟩
instance : TZero Try.prog 184 (.int .u32 0) := ⟨by kernel_rfl⟩
instance : TScal Try.prog 185 := ⟨⟨_, Try.underlying185, rfl⟩, by kernel_rfl⟩
instance : TScal Try.prog 186 := ⟨⟨_, Try.underlying186, rfl⟩, by kernel_rfl⟩
instance : TScal Try.prog 187 := ⟨⟨_, Try.underlying187, rfl⟩, by kernel_rfl⟩
instance : TScal Try.prog 188 := ⟨⟨_, Try.underlying188, rfl⟩, by kernel_rfl⟩
instance : TScal Try.prog 189 := ⟨⟨_, Try.underlying189, rfl⟩, by kernel_rfl⟩
instance : TScal Try.prog 190 := ⟨⟨_, Try.underlying190, rfl⟩, by kernel_rfl⟩
instance : TPair Try.prog 191 := ⟨by kernel_rfl, by kernel_rfl, _, _, Try.underlying191, by decide, by decide, rfl, rfl, Try.underlying2, Try.underlying2⟩
instance : TStr Try.prog 191 2 := ⟨⟨_, Try.underlying191⟩, by kernel_rfl⟩
instance : TFldT Try.prog 191 0 0 2 := ⟨⟨_, _, Try.underlying191, rfl, rfl, rfl⟩⟩
instance : TFld Try.prog 191 0 0 := ⟨⟨_, _, Try.underlying191, rfl, rfl, _, (by kernel_rfl : (Try.prog.info? 2).map (·.size) = some (0 + 1))⟩⟩
instance : TFldT Try.prog 191 1 1 2 := ⟨⟨_, _, Try.underlying191, rfl, rfl, rfl⟩⟩
instance : TFld Try.prog 191 1 1 := ⟨⟨_, _, Try.underlying191, rfl, rfl, _, (by kernel_rfl : (Try.prog.info? 2).map (·.size) = some (0 + 1))⟩⟩
instance : TFlat Try.prog 191 [.int .i64 0, .int .i64 0] := ⟨by kernel_rfl, _, Try.underlying191, by kernel_rfl⟩
instance : TZero Try.prog 191 (.agg #[.int .i64 0, .int .i64 0]) := ⟨by kernel_rfl⟩
instance : TScal Try.prog 192 := ⟨⟨_, Try.underlying192, rfl⟩, by kernel_rfl⟩
instance : TScal Try.prog 193 := ⟨⟨_, Try.underlying193, rfl⟩, by kernel_rfl⟩
instance : TScal Try.prog 194 := ⟨⟨_, Try.underlying194, rfl⟩, by kernel_rfl⟩
instance : TScal Try.prog 195 := ⟨⟨_, Try.underlying195, rfl⟩, by kernel_rfl⟩
instance : TScal Try.prog 196 := ⟨⟨_, Try.underlying196, rfl⟩, by kernel_rfl⟩
instance : TScal Try.prog 197 := ⟨⟨_, Try.underlying197, rfl⟩, by kernel_rfl⟩
instance : TScal Try.prog 198 := ⟨⟨_, Try.underlying198, rfl⟩, by kernel_rfl⟩
instance : TScal Try.prog 199 := ⟨⟨_, Try.underlying199, rfl⟩, by kernel_rfl⟩
instance : TScal Try.prog 200 := ⟨⟨_, Try.underlying200, rfl⟩, by kernel_rfl⟩
instance : TScal Try.prog 201 := ⟨⟨_, Try.underlying201, rfl⟩, by kernel_rfl⟩
instance : TScal Try.prog 202 := ⟨⟨_, Try.underlying202, rfl⟩, by kernel_rfl⟩
instance : TScal Try.prog 203 := ⟨⟨_, Try.underlying203, rfl⟩, by kernel_rfl⟩
instance : TScal Try.prog 204 := ⟨⟨_, Try.underlying204, rfl⟩, by kernel_rfl⟩
instance : TScal Try.prog 205 := ⟨⟨_, Try.underlying205, rfl⟩, by kernel_rfl⟩
instance : TInt Try.prog 205 .i64 := ⟨Try.underlying205⟩
instance : TZero Try.prog 205 (.int .i64 0) := ⟨by kernel_rfl⟩
instance : TScal Try.prog 207 := ⟨⟨_, Try.underlying207, rfl⟩, by kernel_rfl⟩
instance : TScal Try.prog 208 := ⟨⟨_, Try.underlying208, rfl⟩, by kernel_rfl⟩
instance : TScal Try.prog 209 := ⟨⟨_, Try.underlying209, rfl⟩, by kernel_rfl⟩
instance : TScal Try.prog 211 := ⟨⟨_, Try.underlying211, rfl⟩, by kernel_rfl⟩
instance : TScal Try.prog 212 := ⟨⟨_, Try.underlying212, rfl⟩, by kernel_rfl⟩
instance : TScal Try.prog 213 := ⟨⟨_, Try.underlying213, rfl⟩, by kernel_rfl⟩
instance : TScal Try.prog 214 := ⟨⟨_, Try.underlying214, rfl⟩, by kernel_rfl⟩
instance : TScal Try.prog 215 := ⟨⟨_, Try.underlying215, rfl⟩, by kernel_rfl⟩
instance : TScal Try.prog 216 := ⟨⟨_, Try.underlying216, rfl⟩, by kernel_rfl⟩
instance : TInt Try.prog 216 .u64 := ⟨Try.underlying216⟩
instance : TZero Try.prog 216 (.int .u64 0) := ⟨by kernel_rfl⟩
instance : TScal Try.prog 217 := ⟨⟨_, Try.underlying217, rfl⟩, by kernel_rfl⟩
instance : TScal Try.prog 218 := ⟨⟨_, Try.underlying218, rfl⟩, by kernel_rfl⟩
instance : TScal Try.prog 219 := ⟨⟨_, Try.underlying219, rfl⟩, by kernel_rfl⟩
instance : TScal Try.prog 220 := ⟨⟨_, Try.underlying220, rfl⟩, by kernel_rfl⟩
instance : TScal Try.prog 221 := ⟨⟨_, Try.underlying221, rfl⟩, by kernel_rfl⟩
instance : TScal Try.prog 222 := ⟨⟨_, Try.underlying222, rfl⟩, by kernel_rfl⟩
instance : TScal Try.prog 223 := ⟨⟨_, Try.underlying223, rfl⟩, by kernel_rfl⟩
instance : TScal Try.prog 224 := ⟨⟨_, Try.underlying224, rfl⟩, by kernel_rfl⟩
instance : TScal Try.prog 226 := ⟨⟨_, Try.underlying226, rfl⟩, by kernel_rfl⟩
instance : TScal Try.prog 227 := ⟨⟨_, Try.underlying227, rfl⟩, by kernel_rfl⟩
instance : TStr Try.prog 228 4 := ⟨⟨_, Try.underlying228⟩, by kernel_rfl⟩
instance : TFldT Try.prog 228 0 0 17 := ⟨⟨_, _, Try.underlying228, rfl, rfl, rfl⟩⟩
instance : TFld Try.prog 228 0 0 := ⟨⟨_, _, Try.underlying228, rfl, rfl, _, (by kernel_rfl : (Try.prog.info? 17).map (·.size) = some (0 + 1))⟩⟩
instance : TFldT Try.prog 228 1 1 17 := ⟨⟨_, _, Try.underlying228, rfl, rfl, rfl⟩⟩
instance : TFld Try.prog 228 1 1 := ⟨⟨_, _, Try.underlying228, rfl, rfl, _, (by kernel_rfl : (Try.prog.info? 17).map (·.size) = some (0 + 1))⟩⟩
instance : TFldT Try.prog 228 2 2 17 := ⟨⟨_, _, Try.underlying228, rfl, rfl, rfl⟩⟩
instance : TFld Try.prog 228 2 2 := ⟨⟨_, _, Try.underlying228, rfl, rfl, _, (by kernel_rfl : (Try.prog.info? 17).map (·.size) = some (0 + 1))⟩⟩
instance : TFldT Try.prog 228 3 3 9 := ⟨⟨_, _, Try.underlying228, rfl, rfl, rfl⟩⟩
instance : TFld Try.prog 228 3 3 := ⟨⟨_, _, Try.underlying228, rfl, rfl, _, (by kernel_rfl : (Try.prog.info? 9).map (·.size) = some (0 + 1))⟩⟩
instance : TFlat Try.prog 228 [.pointer none, .pointer none, .pointer none, .string ⟨#[]⟩] := ⟨by kernel_rfl, _, Try.underlying228, by kernel_rfl⟩
instance : TZero Try.prog 228 (.agg #[.pointer none, .pointer none, .pointer none, .string ⟨#[]⟩]) := ⟨by kernel_rfl⟩
instance : TStr Try.prog 229 4 := ⟨⟨_, Try.underlying229⟩, by kernel_rfl⟩
instance : TFldT Try.prog 229 0 0 17 := ⟨⟨_, _, Try.underlying229, rfl, rfl, rfl⟩⟩
instance : TFld Try.prog 229 0 0 := ⟨⟨_, _, Try.underlying229, rfl, rfl, _, (by kernel_rfl : (Try.prog.info? 17).map (·.size) = some (0 + 1))⟩⟩
instance : TFldT Try.prog 229 1 1 17 := ⟨⟨_, _, Try.underlying229, rfl, rfl, rfl⟩⟩
instance : TFld Try.prog 229 1 1 := ⟨⟨_, _, Try.underlying229, rfl, rfl, _, (by kernel_rfl : (Try.prog.info? 17).map (·.size) = some (0 + 1))⟩⟩
instance : TFldT Try.prog 229 2 2 17 := ⟨⟨_, _, Try.underlying229, rfl, rfl, rfl⟩⟩
instance : TFld Try.prog 229 2 2 := ⟨⟨_, _, Try.underlying229, rfl, rfl, _, (by kernel_rfl : (Try.prog.info? 17).map (·.size) = some (0 + 1))⟩⟩
instance : TFldT Try.prog 229 3 3 9 := ⟨⟨_, _, Try.underlying229, rfl, rfl, rfl⟩⟩
instance : TFld Try.prog 229 3 3 := ⟨⟨_, _, Try.underlying229, rfl, rfl, _, (by kernel_rfl : (Try.prog.info? 9).map (·.size) = some (0 + 1))⟩⟩
instance : TFlat Try.prog 229 [.pointer none, .pointer none, .pointer none, .string ⟨#[]⟩] := ⟨by kernel_rfl, _, Try.underlying229, by kernel_rfl⟩
instance : TZero Try.prog 229 (.agg #[.pointer none, .pointer none, .pointer none, .string ⟨#[]⟩]) := ⟨by kernel_rfl⟩
instance : TArr Try.prog 230 0 16 := ⟨Try.underlying230⟩
instance : TZero Try.prog 230 (.agg #[]) := ⟨by kernel_rfl⟩
instance : TScal Try.prog 233 := ⟨⟨_, Try.underlying233, rfl⟩, by kernel_rfl⟩
instance : TScal Try.prog 234 := ⟨⟨_, Try.underlying234, rfl⟩, by kernel_rfl⟩
instance : TInt Try.prog 234 .u8 := ⟨Try.underlying234⟩
instance : TZero Try.prog 234 (.int .u8 0) := ⟨by kernel_rfl⟩
instance : TScal Try.prog 235 := ⟨⟨_, Try.underlying235, rfl⟩, by kernel_rfl⟩
instance : TInt Try.prog 235 .u8 := ⟨Try.underlying235⟩
instance : TZero Try.prog 235 (.int .u8 0) := ⟨by kernel_rfl⟩
instance : TScal Try.prog 236 := ⟨⟨_, Try.underlying236, rfl⟩, by kernel_rfl⟩
instance : TScal Try.prog 237 := ⟨⟨_, Try.underlying237, rfl⟩, by kernel_rfl⟩
instance : TScal Try.prog 238 := ⟨⟨_, Try.underlying238, rfl⟩, by kernel_rfl⟩
instance : TInt Try.prog 238 .i32 := ⟨Try.underlying238⟩
instance : TZero Try.prog 238 (.int .i32 0) := ⟨by kernel_rfl⟩
instance : TScal Try.prog 239 := ⟨⟨_, Try.underlying239, rfl⟩, by kernel_rfl⟩
instance : TInt Try.prog 239 .i32 := ⟨Try.underlying239⟩
instance : TZero Try.prog 239 (.int .i32 0) := ⟨by kernel_rfl⟩
instance : TStr Try.prog 240 11 := ⟨⟨_, Try.underlying240⟩, by kernel_rfl⟩
instance : TFldT Try.prog 240 0 0 12 := ⟨⟨_, _, Try.underlying240, rfl, rfl, rfl⟩⟩
instance : TFld Try.prog 240 0 0 := ⟨⟨_, _, Try.underlying240, rfl, rfl, _, (by kernel_rfl : (Try.prog.info? 12).map (·.size) = some (0 + 1))⟩⟩
instance : TFldT Try.prog 240 1 1 12 := ⟨⟨_, _, Try.underlying240, rfl, rfl, rfl⟩⟩
instance : TFld Try.prog 240 1 1 := ⟨⟨_, _, Try.underlying240, rfl, rfl, _, (by kernel_rfl : (Try.prog.info? 12).map (·.size) = some (0 + 1))⟩⟩
instance : TFldT Try.prog 240 2 2 184 := ⟨⟨_, _, Try.underlying240, rfl, rfl, rfl⟩⟩
instance : TFld Try.prog 240 2 2 := ⟨⟨_, _, Try.underlying240, rfl, rfl, _, (by kernel_rfl : (Try.prog.info? 184).map (·.size) = some (0 + 1))⟩⟩
instance : TFldT Try.prog 240 3 3 234 := ⟨⟨_, _, Try.underlying240, rfl, rfl, rfl⟩⟩
instance : TFld Try.prog 240 3 3 := ⟨⟨_, _, Try.underlying240, rfl, rfl, _, (by kernel_rfl : (Try.prog.info? 234).map (·.size) = some (0 + 1))⟩⟩
instance : TFldT Try.prog 240 4 4 5 := ⟨⟨_, _, Try.underlying240, rfl, rfl, rfl⟩⟩
instance : TFld Try.prog 240 4 4 := ⟨⟨_, _, Try.underlying240, rfl, rfl, _, (by kernel_rfl : (Try.prog.info? 5).map (·.size) = some (0 + 1))⟩⟩
instance : TFldT Try.prog 240 5 5 5 := ⟨⟨_, _, Try.underlying240, rfl, rfl, rfl⟩⟩
instance : TFld Try.prog 240 5 5 := ⟨⟨_, _, Try.underlying240, rfl, rfl, _, (by kernel_rfl : (Try.prog.info? 5).map (·.size) = some (0 + 1))⟩⟩
instance : TFldT Try.prog 240 6 6 235 := ⟨⟨_, _, Try.underlying240, rfl, rfl, rfl⟩⟩
instance : TFld Try.prog 240 6 6 := ⟨⟨_, _, Try.underlying240, rfl, rfl, _, (by kernel_rfl : (Try.prog.info? 235).map (·.size) = some (0 + 1))⟩⟩
instance : TFldT Try.prog 240 7 7 236 := ⟨⟨_, _, Try.underlying240, rfl, rfl, rfl⟩⟩
instance : TFld Try.prog 240 7 7 := ⟨⟨_, _, Try.underlying240, rfl, rfl, _, (by kernel_rfl : (Try.prog.info? 236).map (·.size) = some (0 + 1))⟩⟩
instance : TFldT Try.prog 240 8 8 237 := ⟨⟨_, _, Try.underlying240, rfl, rfl, rfl⟩⟩
instance : TFld Try.prog 240 8 8 := ⟨⟨_, _, Try.underlying240, rfl, rfl, _, (by kernel_rfl : (Try.prog.info? 237).map (·.size) = some (0 + 1))⟩⟩
instance : TFldT Try.prog 240 9 9 238 := ⟨⟨_, _, Try.underlying240, rfl, rfl, rfl⟩⟩
instance : TFld Try.prog 240 9 9 := ⟨⟨_, _, Try.underlying240, rfl, rfl, _, (by kernel_rfl : (Try.prog.info? 238).map (·.size) = some (0 + 1))⟩⟩
instance : TFldT Try.prog 240 10 10 239 := ⟨⟨_, _, Try.underlying240, rfl, rfl, rfl⟩⟩
instance : TFld Try.prog 240 10 10 := ⟨⟨_, _, Try.underlying240, rfl, rfl, _, (by kernel_rfl : (Try.prog.info? 239).map (·.size) = some (0 + 1))⟩⟩
instance : TFlat Try.prog 240 [.int .u64 0, .int .u64 0, .int .u32 0, .int .u8 0, .int .u8 0, .int .u8 0, .int .u8 0, .nilFunc, .pointer none, .int .i32 0, .int .i32 0] := ⟨by kernel_rfl, _, Try.underlying240, by kernel_rfl⟩
instance : TZero Try.prog 240 (.agg #[.int .u64 0, .int .u64 0, .int .u32 0, .int .u8 0, .int .u8 0, .int .u8 0, .int .u8 0, .nilFunc, .pointer none, .int .i32 0, .int .i32 0]) := ⟨by kernel_rfl⟩
instance : TStr Try.prog 241 11 := ⟨⟨_, Try.underlying241⟩, by kernel_rfl⟩
instance : TFldT Try.prog 241 0 0 12 := ⟨⟨_, _, Try.underlying241, rfl, rfl, rfl⟩⟩
instance : TFld Try.prog 241 0 0 := ⟨⟨_, _, Try.underlying241, rfl, rfl, _, (by kernel_rfl : (Try.prog.info? 12).map (·.size) = some (0 + 1))⟩⟩
instance : TFldT Try.prog 241 1 1 12 := ⟨⟨_, _, Try.underlying241, rfl, rfl, rfl⟩⟩
instance : TFld Try.prog 241 1 1 := ⟨⟨_, _, Try.underlying241, rfl, rfl, _, (by kernel_rfl : (Try.prog.info? 12).map (·.size) = some (0 + 1))⟩⟩
instance : TFldT Try.prog 241 2 2 184 := ⟨⟨_, _, Try.underlying241, rfl, rfl, rfl⟩⟩
instance : TFld Try.prog 241 2 2 := ⟨⟨_, _, Try.underlying241, rfl, rfl, _, (by kernel_rfl : (Try.prog.info? 184).map (·.size) = some (0 + 1))⟩⟩
instance : TFldT Try.prog 241 3 3 234 := ⟨⟨_, _, Try.underlying241, rfl, rfl, rfl⟩⟩
instance : TFld Try.prog 241 3 3 := ⟨⟨_, _, Try.underlying241, rfl, rfl, _, (by kernel_rfl : (Try.prog.info? 234).map (·.size) = some (0 + 1))⟩⟩
instance : TFldT Try.prog 241 4 4 5 := ⟨⟨_, _, Try.underlying241, rfl, rfl, rfl⟩⟩
instance : TFld Try.prog 241 4 4 := ⟨⟨_, _, Try.underlying241, rfl, rfl, _, (by kernel_rfl : (Try.prog.info? 5).map (·.size) = some (0 + 1))⟩⟩
instance : TFldT Try.prog 241 5 5 5 := ⟨⟨_, _, Try.underlying241, rfl, rfl, rfl⟩⟩
instance : TFld Try.prog 241 5 5 := ⟨⟨_, _, Try.underlying241, rfl, rfl, _, (by kernel_rfl : (Try.prog.info? 5).map (·.size) = some (0 + 1))⟩⟩
instance : TFldT Try.prog 241 6 6 235 := ⟨⟨_, _, Try.underlying241, rfl, rfl, rfl⟩⟩
instance : TFld Try.prog 241 6 6 := ⟨⟨_, _, Try.underlying241, rfl, rfl, _, (by kernel_rfl : (Try.prog.info? 235).map (·.size) = some (0 + 1))⟩⟩
instance : TFldT Try.prog 241 7 7 236 := ⟨⟨_, _, Try.underlying241, rfl, rfl, rfl⟩⟩
instance : TFld Try.prog 241 7 7 := ⟨⟨_, _, Try.underlying241, rfl, rfl, _, (by kernel_rfl : (Try.prog.info? 236).map (·.size) = some (0 + 1))⟩⟩
instance : TFldT Try.prog 241 8 8 237 := ⟨⟨_, _, Try.underlying241, rfl, rfl, rfl⟩⟩
instance : TFld Try.prog 241 8 8 := ⟨⟨_, _, Try.underlying241, rfl, rfl, _, (by kernel_rfl : (Try.prog.info? 237).map (·.size) = some (0 + 1))⟩⟩
instance : TFldT Try.prog 241 9 9 238 := ⟨⟨_, _, Try.underlying241, rfl, rfl, rfl⟩⟩
instance : TFld Try.prog 241 9 9 := ⟨⟨_, _, Try.underlying241, rfl, rfl, _, (by kernel_rfl : (Try.prog.info? 238).map (·.size) = some (0 + 1))⟩⟩
instance : TFldT Try.prog 241 10 10 239 := ⟨⟨_, _, Try.underlying241, rfl, rfl, rfl⟩⟩
instance : TFld Try.prog 241 10 10 := ⟨⟨_, _, Try.underlying241, rfl, rfl, _, (by kernel_rfl : (Try.prog.info? 239).map (·.size) = some (0 + 1))⟩⟩
instance : TFlat Try.prog 241 [.int .u64 0, .int .u64 0, .int .u32 0, .int .u8 0, .int .u8 0, .int .u8 0, .int .u8 0, .nilFunc, .pointer none, .int .i32 0, .int .i32 0] := ⟨by kernel_rfl, _, Try.underlying241, by kernel_rfl⟩
instance : TZero Try.prog 241 (.agg #[.int .u64 0, .int .u64 0, .int .u32 0, .int .u8 0, .int .u8 0, .int .u8 0, .int .u8 0, .nilFunc, .pointer none, .int .i32 0, .int .i32 0]) := ⟨by kernel_rfl⟩
instance : Callable Try.prog 3 := callable Try.func3 (by kernel_rfl) rfl   -- loop.example/g01012/laws.FnSums
instance : Callable Try.prog 4 := callable Try.func4 (by kernel_rfl) rfl   -- loop.example/g01012/laws.FnBalances
instance : Callable Try.prog 5 := callable Try.func5 (by kernel_rfl) rfl   -- loop.example/g01012/laws.FnCuts
instance : Callable Try.prog 6 := callable Try.func6 (by kernel_rfl) rfl   -- loop.example/g01012/laws.FnBoards
instance : Callable Try.prog 7 := callable Try.func7 (by kernel_rfl) rfl   -- loop.example/g01012/laws.FnWires
instance : Callable Try.prog 8 := callable Try.func8 (by kernel_rfl) rfl   -- loop.example/g01012/laws.FnExactFewestCuts
instance : Callable Try.prog 9 := callable Try.func9 (by kernel_rfl) rfl   -- loop.example/g01012/laws.FnExactBackCopies
instance : Callable Try.prog 10 := callable Try.func10 (by kernel_rfl) rfl   -- loop.example/g01012/laws.a2Long
instance : Callable Try.prog 11 := callable Try.func11 (by kernel_rfl) rfl   -- loop.example/g01012/spec.A2Cards
instance : Callable Try.prog 12 := callable Try.func12 (by kernel_rfl) rfl   -- loop.example/g01012/spec.A2Setup
instance : Callable Try.prog 13 := callable Try.func13 (by kernel_rfl) rfl   -- loop.example/g01012/impl.GroupSums
instance : Callable Try.prog 14 := callable Try.func14 (by kernel_rfl) rfl   -- loop.example/g01012/impl.GroupNames
instance : Callable Try.prog 15 := callable Try.func15 (by kernel_rfl) rfl   -- loop.example/g01012/impl.GrandSums
instance : Callable Try.prog 16 := callable Try.func16 (by kernel_rfl) rfl   -- loop.example/g01012/impl.BreaksIn
instance : Callable Try.prog 17 := callable Try.func17 (by kernel_rfl) rfl   -- loop.example/g01012/spec.NumberIn
instance : Callable Try.prog 18 := callable Try.func18 (by kernel_rfl) rfl   -- loop.example/g01012/laws.f6big
instance : Callable Try.prog 19 := callable Try.func19 (by kernel_rfl) rfl   -- loop.example/g01012/spec.DrawBalanceAfter
instance : Callable Try.prog 20 := callable Try.func20 (by kernel_rfl) rfl   -- loop.example/g01012/impl.BalanceAfter
instance : Callable Try.prog 21 := callable Try.func21 (by kernel_rfl) rfl   -- loop.example/g01012/spec.BalanceAfter
instance : Callable Try.prog 22 := callable Try.func22 (by kernel_rfl) rfl   -- loop.example/g01012/spec.DrawSplitCounter
instance : Callable Try.prog 23 := callable Try.func23 (by kernel_rfl) rfl   -- loop.example/g01012/impl.SplitCounter
instance : Callable Try.prog 24 := callable Try.func24 (by kernel_rfl) rfl   -- loop.example/g01012/spec.SplitCounter
instance : Callable Try.prog 25 := callable Try.func25 (by kernel_rfl) rfl   -- loop.example/g01012/spec.DrawJoinCounters
instance : Callable Try.prog 26 := callable Try.func26 (by kernel_rfl) rfl   -- loop.example/g01012/impl.JoinCounters
instance : Callable Try.prog 27 := callable Try.func27 (by kernel_rfl) rfl   -- loop.example/g01012/spec.JoinCounters
instance : Callable Try.prog 28 := callable Try.func28 (by kernel_rfl) rfl   -- loop.example/g01012/spec.SameCounter
instance : Callable Try.prog 29 := callable Try.func29 (by kernel_rfl) rfl   -- loop.example/g01012/spec.A2Board
instance : Callable Try.prog 30 := callable Try.func30 (by kernel_rfl) rfl   -- loop.example/g01012/impl.FewestCuts
instance : Callable Try.prog 31 := callable Try.func31 (by kernel_rfl) rfl   -- loop.example/g01012/impl.SneakPairs
instance : Callable Try.prog 32 := callable Try.func32 (by kernel_rfl) rfl   -- loop.example/g01012/spec.RemoveWire
instance : Callable Try.prog 33 := callable Try.func33 (by kernel_rfl) rfl   -- loop.example/g01012/spec.SneakPairs
instance : Callable Try.prog 34 := callable Try.func34 (by kernel_rfl) rfl   -- loop.example/g01012/laws.a2At
instance : Callable Try.prog 35 := callable Try.func35 (by kernel_rfl) rfl   -- loop.example/g01012/impl.JoinedHubs
instance : Callable Try.prog 36 := callable Try.func36 (by kernel_rfl) rfl   -- loop.example/g01012/laws.a2Same
instance : Callable Try.prog 37 := callable Try.func37 (by kernel_rfl) rfl   -- loop.example/g01012/impl.RouteCard
instance : Callable Try.prog 38 := callable Try.func38 (by kernel_rfl) rfl   -- loop.example/g01012/impl.OpenEntries
instance : Callable Try.prog 39 := callable Try.func39 (by kernel_rfl) rfl   -- loop.example/g01012/impl.SourcesOf
instance : Callable Try.prog 40 := callable Try.func40 (by kernel_rfl) rfl   -- loop.example/g01012/impl.AddWire
instance : Callable Try.prog 41 := callable Try.func41 (by kernel_rfl) rfl   -- loop.example/g01012/spec.ValidBoard
instance : Callable Try.prog 42 := callable Try.func42 (by kernel_rfl) rfl   -- loop.example/g01012/impl.RemoveWire
instance : Callable Try.prog 43 := callable Try.func43 (by kernel_rfl) rfl   -- loop.example/g01012/spec.SameBoard
instance : Callable Try.prog 44 := callable Try.func44 (by kernel_rfl) rfl   -- loop.example/g01012/impl.SameBoard
instance : Callable Try.prog 45 := callable Try.func45 (by kernel_rfl) rfl   -- loop.example/g01012/impl.NetsOf
instance : Callable Try.prog 46 := callable Try.func46 (by kernel_rfl) rfl   -- loop.example/g01012/impl.SpareWires
instance : Callable Try.prog 47 := callable Try.func47 (by kernel_rfl) rfl   -- loop.example/g01012/spec.NetsOf
instance : Callable Try.prog 48 := callable Try.func48 (by kernel_rfl) rfl   -- loop.example/g01012/laws.szBoard
instance : Callable Try.prog 49 := callable Try.func49 (by kernel_rfl) rfl   -- loop.example/g01012/spec.FewestCuts
instance : Callable Try.prog 50 := callable Try.func50 (by kernel_rfl) rfl   -- loop.example/g01012/laws.toBoard
instance : Callable Try.prog 51 := callable Try.func51 (by kernel_rfl) rfl   -- loop.example/g01012/laws.eqInt64S
instance : Callable Try.prog 52 := callable Try.func52 (by kernel_rfl) rfl   -- loop.example/g01012/laws.eqBoard
instance : Callable Try.prog 53 := callable Try.func53 (by kernel_rfl) rfl   -- loop.example/g01012/laws.markBoard
instance : Callable Try.prog 54 := callable Try.func54 (by kernel_rfl) rfl   -- loop.example/g01012/laws.markInt64S
instance : Callable Try.prog 55 := callable Try.func55 (by kernel_rfl) rfl   -- loop.example/g01012/laws.heldInt64S
instance : Callable Try.prog 56 := callable Try.func56 (by kernel_rfl) rfl   -- loop.example/g01012/laws.szCopyS
instance : Callable Try.prog 57 := callable Try.func57 (by kernel_rfl) rfl   -- loop.example/g01012/spec.BackCopies
instance : Callable Try.prog 58 := callable Try.func58 (by kernel_rfl) rfl   -- loop.example/g01012/laws.toCopyS
instance : Callable Try.prog 59 := callable Try.func59 (by kernel_rfl) rfl   -- loop.example/g01012/impl.BackCopies
instance : Callable Try.prog 60 := callable Try.func60 (by kernel_rfl) rfl   -- loop.example/g01012/laws.eqCopyS
instance : Callable Try.prog 61 := callable Try.func61 (by kernel_rfl) rfl   -- loop.example/g01012/laws.markCopyS
instance : Callable Try.prog 62 := callable Try.func62 (by kernel_rfl) rfl   -- loop.example/g01012/laws.heldCopyS
instance : Callable Try.prog 63 := callable Try.func63 (by kernel_rfl) rfl   -- loop.example/g01012/spec.l13Deck
instance : Callable Try.prog 64 := callable Try.func64 (by kernel_rfl) rfl   -- loop.example/g01012/spec.l00From
instance : Callable Try.prog 65 := callable Try.func65 (by kernel_rfl) rfl   -- loop.example/g01012/spec.l13Setup
instance : Callable Try.prog 66 := callable Try.func66 (by kernel_rfl) rfl   -- loop.example/g01012/impl.setupCode
instance : Callable Try.prog 67 := callable Try.func67 (by kernel_rfl) rfl   -- loop.example/g01012/impl.groups
instance : Callable Try.prog 68 := callable Try.func68 (by kernel_rfl) rfl   -- loop.example/g01012/impl.sumsOf
instance : Callable Try.prog 69 := callable Try.func69 (by kernel_rfl) rfl   -- loop.example/g01012/impl.fieldText
instance : Callable Try.prog 70 := callable Try.func70 (by kernel_rfl) rfl   -- loop.example/g01012/impl.size[int64]
instance : Callable Try.prog 71 := callable Try.func71 (by kernel_rfl) rfl   -- loop.example/g01012/impl.groupsOf
instance : Callable Try.prog 72 := callable Try.func72 (by kernel_rfl) rfl   -- loop.example/g01012/spec.l02Code
instance : Callable Try.prog 73 := callable Try.func73 (by kernel_rfl) rfl   -- loop.example/g01012/spec.l03Number
instance : Callable Try.prog 74 := callable Try.func74 (by kernel_rfl) rfl   -- loop.example/g01012/spec.l02Part
instance : Callable Try.prog 75 := callable Try.func75 (by kernel_rfl) rfl   -- (*loop.example/g01012/spec.l00Src).pick
instance : Callable Try.prog 76 := callable Try.func76 (by kernel_rfl) rfl   -- (*loop.example/g01012/spec.l00Src).one
instance : Callable Try.prog 77 := callable Try.func77 (by kernel_rfl) rfl   -- (*loop.example/g01012/spec.l00Src).among
instance : Callable Try.prog 78 := callable Try.func78 (by kernel_rfl) rfl   -- loop.example/g01012/spec.l11Power
instance : Callable Try.prog 79 := callable Try.func79 (by kernel_rfl) rfl   -- loop.example/g01012/spec.l00Max
instance : Callable Try.prog 80 := callable Try.func80 (by kernel_rfl) rfl   -- loop.example/g01012/spec.l00Min
instance : Callable Try.prog 81 := callable Try.func81 (by kernel_rfl) rfl   -- loop.example/g01012/impl.inside
instance : Callable Try.prog 82 := callable Try.func82 (by kernel_rfl) rfl   -- loop.example/g01012/impl.nines
instance : Callable Try.prog 83 := callable Try.func83 (by kernel_rfl) rfl   -- loop.example/g01012/impl.wheelsShow
instance : Callable Try.prog 84 := callable Try.func84 (by kernel_rfl) rfl   -- loop.example/g01012/impl.added
instance : Callable Try.prog 85 := callable Try.func85 (by kernel_rfl) rfl   -- loop.example/g01012/impl.shown
instance : Callable Try.prog 86 := callable Try.func86 (by kernel_rfl) rfl   -- loop.example/g01012/spec.l00In
instance : Callable Try.prog 87 := callable Try.func87 (by kernel_rfl) rfl   -- loop.example/g01012/spec.l11Set
instance : Callable Try.prog 88 := callable Try.func88 (by kernel_rfl) rfl   -- loop.example/g01012/spec.l11Nines
instance : Callable Try.prog 89 := callable Try.func89 (by kernel_rfl) rfl   -- loop.example/g01012/spec.l11Add
instance : Callable Try.prog 90 := callable Try.func90 (by kernel_rfl) rfl   -- loop.example/g01012/spec.l11Value
instance : Callable Try.prog 91 := callable Try.func91 (by kernel_rfl) rfl   -- loop.example/g01012/spec.l11Bent
instance : Callable Try.prog 92 := callable Try.func92 (by kernel_rfl) rfl   -- loop.example/g01012/impl.ValidCounter
instance : Callable Try.prog 93 := callable Try.func93 (by kernel_rfl) rfl   -- loop.example/g01012/impl.copyInts
instance : Callable Try.prog 94 := callable Try.func94 (by kernel_rfl) rfl   -- loop.example/g01012/spec.l11Ok
instance : Callable Try.prog 95 := callable Try.func95 (by kernel_rfl) rfl   -- loop.example/g01012/spec.l00Own
instance : Callable Try.prog 96 := callable Try.func96 (by kernel_rfl) rfl   -- loop.example/g01012/spec.l00Same
instance : Callable Try.prog 97 := callable Try.func97 (by kernel_rfl) rfl   -- loop.example/g01012/spec.l12Draw
instance : Callable Try.prog 98 := callable Try.func98 (by kernel_rfl) rfl   -- loop.example/g01012/impl.ValidBoard
instance : Callable Try.prog 99 := callable Try.func99 (by kernel_rfl) rfl   -- loop.example/g01012/impl.firstHubs
instance : Callable Try.prog 100 := callable Try.func100 (by kernel_rfl) rfl   -- loop.example/g01012/impl.columnsWhere
instance : Callable Try.prog 101 := callable Try.func101 (by kernel_rfl) rfl   -- loop.example/g01012/impl.size[loop.example/g01012/impl.Wire]
instance : Callable Try.prog 102 := callable Try.func102 (by kernel_rfl) rfl   -- loop.example/g01012/impl.FewestCuts$1
instance : Callable Try.prog 103 := callable Try.func103 (by kernel_rfl) rfl   -- loop.example/g01012/impl.FewestCuts$1$1
instance : Callable Try.prog 105 := callable Try.func105 (by kernel_rfl) rfl   -- slices.Contains[[]int64,int64]
instance : Callable Try.prog 106 := callable Try.func106 (by kernel_rfl) rfl   -- loop.example/g01012/impl.sneakPairs
instance : Callable Try.prog 107 := callable Try.func107 (by kernel_rfl) rfl   -- slices.Compare[[]int64,int64]
instance : Callable Try.prog 108 := callable Try.func108 (by kernel_rfl) rfl   -- loop.example/g01012/spec.l12Ok
instance : Callable Try.prog 109 := callable Try.func109 (by kernel_rfl) rfl   -- loop.example/g01012/spec.l12Pairs
instance : Callable Try.prog 110 := callable Try.func110 (by kernel_rfl) rfl   -- (loop.example/g01012/impl.Board).hubs
instance : Callable Try.prog 111 := callable Try.func111 (by kernel_rfl) rfl   -- loop.example/g01012/impl.hubsWith
instance : Callable Try.prog 112 := callable Try.func112 (by kernel_rfl) rfl   -- loop.example/g01012/impl.ValidCard
instance : Callable Try.prog 113 := callable Try.func113 (by kernel_rfl) rfl   -- (loop.example/g01012/impl.Card).columns
instance : Callable Try.prog 114 := callable Try.func114 (by kernel_rfl) rfl   -- loop.example/g01012/impl.blank
instance : Callable Try.prog 115 := callable Try.func115 (by kernel_rfl) rfl   -- loop.example/g01012/impl.sourcesOf
instance : Callable Try.prog 116 := callable Try.func116 (by kernel_rfl) rfl   -- loop.example/g01012/impl.OpenEntries$1
instance : Callable Try.prog 117 := callable Try.func117 (by kernel_rfl) rfl   -- loop.example/g01012/impl.isWire
instance : Callable Try.prog 118 := callable Try.func118 (by kernel_rfl) rfl   -- (loop.example/g01012/impl.Board).withWires
instance : Callable Try.prog 119 := callable Try.func119 (by kernel_rfl) rfl   -- slices.Delete[[]loop.example/g01012/impl.Wire,loop.example/g01012/impl.Wire]
instance : Callable Try.prog 120 := callable Try.func120 (by kernel_rfl) rfl   -- slices.Equal[[]loop.example/g01012/impl.Wire,loop.example/g01012/impl.Wire]
instance : Callable Try.prog 121 := callable Try.func121 (by kernel_rfl) rfl   -- loop.example/g01012/impl.SpareWires$1
instance : Callable Try.prog 122 := callable Try.func122 (by kernel_rfl) rfl   -- loop.example/g01012/spec.l12Roots
instance : Callable Try.prog 123 := callable Try.func123 (by kernel_rfl) rfl   -- loop.example/g01012/spec.l12Hubs
instance : Callable Try.prog 124 := callable Try.func124 (by kernel_rfl) rfl   -- loop.example/g01012/spec.l12With
instance : Callable Try.prog 125 := callable Try.func125 (by kernel_rfl) rfl   -- loop.example/g01012/laws.szWireS
instance : Callable Try.prog 126 := callable Try.func126 (by kernel_rfl) rfl   -- loop.example/g01012/spec.l12Sneaky
instance : Callable Try.prog 127 := callable Try.func127 (by kernel_rfl) rfl   -- loop.example/g01012/spec.l12Cut
instance : Callable Try.prog 128 := callable Try.func128 (by kernel_rfl) rfl   -- loop.example/g01012/laws.toWireS
instance : Callable Try.prog 129 := callable Try.func129 (by kernel_rfl) rfl   -- loop.example/g01012/laws.eqWireS
instance : Callable Try.prog 130 := callable Try.func130 (by kernel_rfl) rfl   -- loop.example/g01012/laws.markWireS
instance : Callable Try.prog 131 := callable Try.func131 (by kernel_rfl) rfl   -- loop.example/g01012/spec.l10Plain
instance : Callable Try.prog 132 := callable Try.func132 (by kernel_rfl) rfl   -- loop.example/g01012/spec.l10Put
instance : Callable Try.prog 133 := callable Try.func133 (by kernel_rfl) rfl   -- loop.example/g01012/laws.toCopy
instance : Callable Try.prog 134 := callable Try.func134 (by kernel_rfl) rfl   -- loop.example/g01012/impl.isPlain
instance : Callable Try.prog 135 := callable Try.func135 (by kernel_rfl) rfl   -- slices.SortFunc[[]loop.example/g01012/impl.Copy,loop.example/g01012/impl.Copy]
instance : Callable Try.prog 136 := callable Try.func136 (by kernel_rfl) rfl   -- loop.example/g01012/impl.BackCopies$1
instance : Callable Try.prog 137 := callable Try.func137 (by kernel_rfl) rfl   -- loop.example/g01012/laws.eqCopy
instance : Callable Try.prog 138 := callable Try.func138 (by kernel_rfl) rfl   -- loop.example/g01012/spec.l13Card
instance : Callable Try.prog 139 := callable Try.func139 (by kernel_rfl) rfl   -- loop.example/g01012/impl.ValidDeck
instance : Callable Try.prog 140 := callable Try.func140 (by kernel_rfl) rfl   -- loop.example/g01012/impl.ValidSetup
instance : Callable Try.prog 141 := callable Try.func141 (by kernel_rfl) rfl   -- loop.example/g01012/impl.deckColumns
instance : Callable Try.prog 142 := callable Try.func142 (by kernel_rfl) rfl   -- loop.example/g01012/impl.haveField
instance : Callable Try.prog 143 := callable Try.func143 (by kernel_rfl) rfl   -- loop.example/g01012/impl.size[loop.example/g01012/impl.Card]
instance : Callable Try.prog 144 := callable Try.func144 (by kernel_rfl) rfl   -- loop.example/g01012/impl.numberIn
instance : Callable Try.prog 145 := callable Try.func145 (by kernel_rfl) rfl   -- loop.example/g01012/impl.textOf
instance : Callable Try.prog 146 := callable Try.func146 (by kernel_rfl) rfl   -- loop.example/g01012/impl.compareFields
instance : Callable Try.prog 147 := callable Try.func147 (by kernel_rfl) rfl   -- loop.example/g01012/spec.l02Ok
instance : Callable Try.prog 148 := callable Try.func148 (by kernel_rfl) rfl   -- loop.example/g01012/spec.l02Field
instance : Callable Try.prog 149 := callable Try.func149 (by kernel_rfl) rfl   -- loop.example/g01012/spec.l03Digit
instance : Callable Try.prog 150 := callable Try.func150 (by kernel_rfl) rfl   -- (*loop.example/g01012/spec.l00Src).next
instance : Callable Try.prog 151 := callable Try.func151 (by kernel_rfl) rfl   -- loop.example/g01012/spec.l11Draw
instance : Callable Try.prog 152 := callable Try.func152 (by kernel_rfl) rfl   -- slices.ContainsFunc[[]int64,int64]
instance : Callable Try.prog 153 := callable Try.func153 (by kernel_rfl) rfl   -- loop.example/g01012/impl.ValidCounter$1
instance : Callable Try.prog 154 := callable Try.func154 (by kernel_rfl) rfl   -- slices.ContainsFunc[[]loop.example/g01012/impl.Wire,loop.example/g01012/impl.Wire]
instance : Callable Try.prog 155 := callable Try.func155 (by kernel_rfl) rfl   -- loop.example/g01012/impl.ValidBoard$1
instance : Callable Try.prog 157 := callable Try.func157 (by kernel_rfl) rfl   -- math/bits.OnesCount64
instance : Callable Try.prog 158 := callable Try.func158 (by kernel_rfl) rfl   -- slices.Index[[]int64,int64]
instance : Callable Try.prog 160 := callable Try.func160 (by kernel_rfl) rfl   -- loop.example/g01012/spec.l12Wire
instance : Callable Try.prog 161 := callable Try.func161 (by kernel_rfl) rfl   -- loop.example/g01012/impl.hubsWith$1
instance : Callable Try.prog 162 := callable Try.func162 (by kernel_rfl) rfl   -- loop.example/g01012/impl.ValidCard$1
instance : Callable Try.prog 163 := callable Try.func163 (by kernel_rfl) rfl   -- loop.example/g01012/impl.sourcesOf$1
instance : Callable Try.prog 164 := callable Try.func164 (by kernel_rfl) rfl   -- loop.example/g01012/spec.l00Has
instance : Callable Try.prog 165 := callable Try.func165 (by kernel_rfl) rfl   -- loop.example/g01012/spec.l12Join
instance : Callable Try.prog 166 := callable Try.func166 (by kernel_rfl) rfl   -- loop.example/g01012/laws.toWire
instance : Callable Try.prog 167 := callable Try.func167 (by kernel_rfl) rfl   -- loop.example/g01012/laws.eqWire
instance : Callable Try.prog 168 := callable Try.func168 (by kernel_rfl) rfl   -- slices.pdqsortCmpFunc[loop.example/g01012/impl.Copy]
instance : Callable Try.prog 170 := callable Try.func170 (by kernel_rfl) rfl   -- loop.example/g01012/spec.l03Card
instance : Callable Try.prog 171 := callable Try.func171 (by kernel_rfl) rfl   -- loop.example/g01012/spec.l03Put
instance : Callable Try.prog 172 := callable Try.func172 (by kernel_rfl) rfl   -- loop.example/g01012/impl.isField
instance : Callable Try.prog 173 := callable Try.func173 (by kernel_rfl) rfl   -- slices.ContainsFunc[[]loop.example/g01012/impl.Field,loop.example/g01012/impl.Field]
instance : Callable Try.prog 174 := callable Try.func174 (by kernel_rfl) rfl   -- loop.example/g01012/impl.ValidSetup$1
instance : Callable Try.prog 175 := callable Try.func175 (by kernel_rfl) rfl   -- loop.example/g01012/impl.isNumberField
instance : Callable Try.prog 176 := callable Try.func176 (by kernel_rfl) rfl   -- slices.ContainsFunc[[]loop.example/g01012/impl.Card,loop.example/g01012/impl.Card]
instance : Callable Try.prog 177 := callable Try.func177 (by kernel_rfl) rfl   -- loop.example/g01012/impl.haveField$1
instance : Callable Try.prog 178 := callable Try.func178 (by kernel_rfl) rfl   -- loop.example/g01012/impl.hasField
instance : Callable Try.prog 179 := callable Try.func179 (by kernel_rfl) rfl   -- loop.example/g01012/impl.numberIn$1
instance : Callable Try.prog 180 := callable Try.func180 (by kernel_rfl) rfl   -- loop.example/g01012/impl.bitOf
instance : Callable Try.prog 181 := callable Try.func181 (by kernel_rfl) rfl   -- loop.example/g01012/impl.digitOf
instance : Callable Try.prog 182 := callable Try.func182 (by kernel_rfl) rfl   -- loop.example/g01012/impl.rankOf
instance : Callable Try.prog 183 := callable Try.func183 (by kernel_rfl) rfl   -- loop.example/g01012/impl.compareHoles
instance : Callable Try.prog 184 := callable Try.func184 (by kernel_rfl) rfl   -- loop.example/g01012/spec.l02Bit
instance : Callable Try.prog 185 := callable Try.func185 (by kernel_rfl) rfl   -- slices.IndexFunc[[]int64,int64]
instance : Callable Try.prog 186 := callable Try.func186 (by kernel_rfl) rfl   -- slices.IndexFunc[[]loop.example/g01012/impl.Wire,loop.example/g01012/impl.Wire]
instance : Callable Try.prog 188 := callable Try.func188 (by kernel_rfl) rfl   -- slices.insertionSortCmpFunc[loop.example/g01012/impl.Copy]
instance : Callable Try.prog 189 := callable Try.func189 (by kernel_rfl) rfl   -- slices.heapSortCmpFunc[loop.example/g01012/impl.Copy]
instance : Callable Try.prog 190 := callable Try.func190 (by kernel_rfl) rfl   -- slices.breakPatternsCmpFunc[loop.example/g01012/impl.Copy]
instance : Callable Try.prog 191 := callable Try.func191 (by kernel_rfl) rfl   -- slices.choosePivotCmpFunc[loop.example/g01012/impl.Copy]
instance : Callable Try.prog 192 := callable Try.func192 (by kernel_rfl) rfl   -- slices.reverseRangeCmpFunc[loop.example/g01012/impl.Copy]
instance : Callable Try.prog 193 := callable Try.func193 (by kernel_rfl) rfl   -- slices.partialInsertionSortCmpFunc[loop.example/g01012/impl.Copy]
instance : Callable Try.prog 194 := callable Try.func194 (by kernel_rfl) rfl   -- slices.partitionEqualCmpFunc[loop.example/g01012/impl.Copy]
instance : Callable Try.prog 195 := callable Try.func195 (by kernel_rfl) rfl   -- slices.partitionCmpFunc[loop.example/g01012/impl.Copy]
instance : Callable Try.prog 198 := callable Try.func198 (by kernel_rfl) rfl   -- loop.example/g01012/spec.l03Code
instance : Callable Try.prog 199 := callable Try.func199 (by kernel_rfl) rfl   -- slices.IndexFunc[[]loop.example/g01012/impl.Field,loop.example/g01012/impl.Field]
instance : Callable Try.prog 200 := callable Try.func200 (by kernel_rfl) rfl   -- slices.IndexFunc[[]loop.example/g01012/impl.Card,loop.example/g01012/impl.Card]
instance : Callable Try.prog 201 := callable Try.func201 (by kernel_rfl) rfl   -- loop.example/g01012/impl.hasCharacters
instance : Callable Try.prog 202 := callable Try.func202 (by kernel_rfl) rfl   -- loop.example/g01012/impl.codeOf
instance : Callable Try.prog 203 := callable Try.func203 (by kernel_rfl) rfl   -- slices.siftDownCmpFunc[loop.example/g01012/impl.Copy]
instance : Callable Try.prog 204 := callable Try.func204 (by kernel_rfl) rfl   -- slices.nextPowerOfTwo
instance : Callable Try.prog 206 := callable Try.func206 (by kernel_rfl) rfl   -- slices.medianAdjacentCmpFunc[loop.example/g01012/impl.Copy]
instance : Callable Try.prog 207 := callable Try.func207 (by kernel_rfl) rfl   -- slices.medianCmpFunc[loop.example/g01012/impl.Copy]
instance : Callable Try.prog 208 := callable Try.func208 (by kernel_rfl) rfl   -- loop.example/g01012/spec.l01Digit
instance : Callable Try.prog 209 := callable Try.func209 (by kernel_rfl) rfl   -- loop.example/g01012/impl.hasCharacters$1
instance : Callable Try.prog 210 := callable Try.func210 (by kernel_rfl) rfl   -- loop.example/g01012/impl.CodeOf
instance : Callable Try.prog 211 := callable Try.func211 (by kernel_rfl) rfl   -- slices.order2CmpFunc[loop.example/g01012/impl.Copy]
instance : Callable Try.prog 212 := callable Try.func212 (by kernel_rfl) rfl   -- loop.example/g01012/impl.isDigit
end Go.Proofs.Ythigkbkaeopipaa

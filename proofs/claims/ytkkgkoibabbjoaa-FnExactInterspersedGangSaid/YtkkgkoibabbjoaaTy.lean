/- What is known of this program's types and functions. -/
import Derived.Test.YtkkgkoibabbjoaaL12
import Derived.Test.YtkkgkoibabbjoaaChecked
namespace Go.Proofs.Ytkkgkoibabbjoaa
open Go Go.Gw
theorem mixed : Try.prog.follows .mixedOrders = true := by kernel_rfl
instance : TScal Try.prog 1 := ⟨⟨_, Try.underlying1, rfl⟩, by kernel_rfl⟩
instance : TScal Try.prog 2 := ⟨⟨_, Try.underlying2, rfl⟩, by kernel_rfl⟩
instance : TInt Try.prog 2 .i64 := ⟨Try.underlying2⟩
instance : TZero Try.prog 2 (.int .i64 0) := ⟨by kernel_rfl⟩
instance : TScal Try.prog 3 := ⟨⟨_, Try.underlying3, rfl⟩, by kernel_rfl⟩
instance : TInt Try.prog 3 .i64 := ⟨Try.underlying3⟩
instance : TZero Try.prog 3 (.int .i64 0) := ⟨by kernel_rfl⟩
instance : TScal Try.prog 4 := ⟨⟨_, Try.underlying4, rfl⟩, by kernel_rfl⟩
instance : TBool Try.prog 4 := ⟨Try.underlying4⟩
instance : TZero Try.prog 4 (.bool false) := ⟨by kernel_rfl⟩
instance : TScal Try.prog 5 := ⟨⟨_, Try.underlying5, rfl⟩, by kernel_rfl⟩
instance : TInt Try.prog 5 .u8 := ⟨Try.underlying5⟩
instance : TZero Try.prog 5 (.int .u8 0) := ⟨by kernel_rfl⟩
instance : TScal Try.prog 6 := ⟨⟨_, Try.underlying6, rfl⟩, by kernel_rfl⟩
instance : TInt Try.prog 6 .u8 := ⟨Try.underlying6⟩
instance : TZero Try.prog 6 (.int .u8 0) := ⟨by kernel_rfl⟩
instance : TStr Try.prog 7 4 := ⟨⟨_, Try.underlying7⟩, by kernel_rfl⟩
instance : TFldT Try.prog 7 0 0 2 := ⟨⟨_, _, Try.underlying7, rfl, rfl, rfl⟩⟩
instance : TFld Try.prog 7 0 0 := ⟨⟨_, _, Try.underlying7, rfl, rfl, _, (by kernel_rfl : (Try.prog.info? 2).map (·.size) = some (0 + 1))⟩⟩
instance : TFldT Try.prog 7 1 1 3 := ⟨⟨_, _, Try.underlying7, rfl, rfl, rfl⟩⟩
instance : TFld Try.prog 7 1 1 := ⟨⟨_, _, Try.underlying7, rfl, rfl, _, (by kernel_rfl : (Try.prog.info? 3).map (·.size) = some (0 + 1))⟩⟩
instance : TFldT Try.prog 7 2 2 4 := ⟨⟨_, _, Try.underlying7, rfl, rfl, rfl⟩⟩
instance : TFld Try.prog 7 2 2 := ⟨⟨_, _, Try.underlying7, rfl, rfl, _, (by kernel_rfl : (Try.prog.info? 4).map (·.size) = some (0 + 1))⟩⟩
instance : TFldT Try.prog 7 3 3 6 := ⟨⟨_, _, Try.underlying7, rfl, rfl, rfl⟩⟩
instance : TFld Try.prog 7 3 3 := ⟨⟨_, _, Try.underlying7, rfl, rfl, _, (by kernel_rfl : (Try.prog.info? 6).map (·.size) = some (0 + 1))⟩⟩
instance : TFlat Try.prog 7 [.int .i64 0, .int .i64 0, .bool false, .int .u8 0] := ⟨by kernel_rfl, _, Try.underlying7, by kernel_rfl⟩
instance : TZero Try.prog 7 (.agg #[.int .i64 0, .int .i64 0, .bool false, .int .u8 0]) := ⟨by kernel_rfl⟩
instance : TStr Try.prog 8 4 := ⟨⟨_, Try.underlying8⟩, by kernel_rfl⟩
instance : TFldT Try.prog 8 0 0 2 := ⟨⟨_, _, Try.underlying8, rfl, rfl, rfl⟩⟩
instance : TFld Try.prog 8 0 0 := ⟨⟨_, _, Try.underlying8, rfl, rfl, _, (by kernel_rfl : (Try.prog.info? 2).map (·.size) = some (0 + 1))⟩⟩
instance : TFldT Try.prog 8 1 1 3 := ⟨⟨_, _, Try.underlying8, rfl, rfl, rfl⟩⟩
instance : TFld Try.prog 8 1 1 := ⟨⟨_, _, Try.underlying8, rfl, rfl, _, (by kernel_rfl : (Try.prog.info? 3).map (·.size) = some (0 + 1))⟩⟩
instance : TFldT Try.prog 8 2 2 4 := ⟨⟨_, _, Try.underlying8, rfl, rfl, rfl⟩⟩
instance : TFld Try.prog 8 2 2 := ⟨⟨_, _, Try.underlying8, rfl, rfl, _, (by kernel_rfl : (Try.prog.info? 4).map (·.size) = some (0 + 1))⟩⟩
instance : TFldT Try.prog 8 3 3 6 := ⟨⟨_, _, Try.underlying8, rfl, rfl, rfl⟩⟩
instance : TFld Try.prog 8 3 3 := ⟨⟨_, _, Try.underlying8, rfl, rfl, _, (by kernel_rfl : (Try.prog.info? 6).map (·.size) = some (0 + 1))⟩⟩
instance : TFlat Try.prog 8 [.int .i64 0, .int .i64 0, .bool false, .int .u8 0] := ⟨by kernel_rfl, _, Try.underlying8, by kernel_rfl⟩
instance : TZero Try.prog 8 (.agg #[.int .i64 0, .int .i64 0, .bool false, .int .u8 0]) := ⟨by kernel_rfl⟩
instance : TScal Try.prog 9 := ⟨⟨_, Try.underlying9, rfl⟩, by kernel_rfl⟩
instance : TStg Try.prog 9 := ⟨Try.underlying9⟩
instance : TZero Try.prog 9 (.string ⟨#[]⟩) := ⟨by kernel_rfl⟩
instance : TScal Try.prog 10 := ⟨⟨_, Try.underlying10, rfl⟩, by kernel_rfl⟩
instance : TStg Try.prog 10 := ⟨Try.underlying10⟩
instance : TZero Try.prog 10 (.string ⟨#[]⟩) := ⟨by kernel_rfl⟩
instance : TScal Try.prog 11 := ⟨⟨_, Try.underlying11, rfl⟩, by kernel_rfl⟩
instance : TStg Try.prog 11 := ⟨Try.underlying11⟩
instance : TZero Try.prog 11 (.string ⟨#[]⟩) := ⟨by kernel_rfl⟩
instance : TScal Try.prog 12 := ⟨⟨_, Try.underlying12, rfl⟩, by kernel_rfl⟩
instance : TInt Try.prog 12 .u64 := ⟨Try.underlying12⟩
instance : TZero Try.prog 12 (.int .u64 0) := ⟨by kernel_rfl⟩
instance : TStr Try.prog 13 2 := ⟨⟨_, Try.underlying13⟩, by kernel_rfl⟩
instance : TFldT Try.prog 13 0 0 9 := ⟨⟨_, _, Try.underlying13, rfl, rfl, rfl⟩⟩
instance : TFld Try.prog 13 0 0 := ⟨⟨_, _, Try.underlying13, rfl, rfl, _, (by kernel_rfl : (Try.prog.info? 9).map (·.size) = some (0 + 1))⟩⟩
instance : TFldT Try.prog 13 1 1 12 := ⟨⟨_, _, Try.underlying13, rfl, rfl, rfl⟩⟩
instance : TFld Try.prog 13 1 1 := ⟨⟨_, _, Try.underlying13, rfl, rfl, _, (by kernel_rfl : (Try.prog.info? 12).map (·.size) = some (0 + 1))⟩⟩
instance : TFlat Try.prog 13 [.string ⟨#[]⟩, .int .u64 0] := ⟨by kernel_rfl, _, Try.underlying13, by kernel_rfl⟩
instance : TZero Try.prog 13 (.agg #[.string ⟨#[]⟩, .int .u64 0]) := ⟨by kernel_rfl⟩
instance : TStr Try.prog 14 2 := ⟨⟨_, Try.underlying14⟩, by kernel_rfl⟩
instance : TFldT Try.prog 14 0 0 9 := ⟨⟨_, _, Try.underlying14, rfl, rfl, rfl⟩⟩
instance : TFld Try.prog 14 0 0 := ⟨⟨_, _, Try.underlying14, rfl, rfl, _, (by kernel_rfl : (Try.prog.info? 9).map (·.size) = some (0 + 1))⟩⟩
instance : TFldT Try.prog 14 1 1 12 := ⟨⟨_, _, Try.underlying14, rfl, rfl, rfl⟩⟩
instance : TFld Try.prog 14 1 1 := ⟨⟨_, _, Try.underlying14, rfl, rfl, _, (by kernel_rfl : (Try.prog.info? 12).map (·.size) = some (0 + 1))⟩⟩
instance : TFlat Try.prog 14 [.string ⟨#[]⟩, .int .u64 0] := ⟨by kernel_rfl, _, Try.underlying14, by kernel_rfl⟩
instance : TZero Try.prog 14 (.agg #[.string ⟨#[]⟩, .int .u64 0]) := ⟨by kernel_rfl⟩
instance : TScal Try.prog 15 := ⟨⟨_, Try.underlying15, rfl⟩, by kernel_rfl⟩
instance : TScal Try.prog 16 := ⟨⟨_, Try.underlying16, rfl⟩, by kernel_rfl⟩
instance : TScal Try.prog 17 := ⟨⟨_, Try.underlying17, rfl⟩, by kernel_rfl⟩
instance : TStr Try.prog 18 1 := ⟨⟨_, Try.underlying18⟩, by kernel_rfl⟩
instance : TFldT Try.prog 18 0 0 17 := ⟨⟨_, _, Try.underlying18, rfl, rfl, rfl⟩⟩
instance : TFld Try.prog 18 0 0 := ⟨⟨_, _, Try.underlying18, rfl, rfl, _, (by kernel_rfl : (Try.prog.info? 17).map (·.size) = some (0 + 1))⟩⟩
instance : TFlat Try.prog 18 [.pointer none] := ⟨by kernel_rfl, _, Try.underlying18, by kernel_rfl⟩
instance : TZero Try.prog 18 (.agg #[.pointer none]) := ⟨by kernel_rfl⟩
instance : TStr Try.prog 19 1 := ⟨⟨_, Try.underlying19⟩, by kernel_rfl⟩
instance : TFldT Try.prog 19 0 0 17 := ⟨⟨_, _, Try.underlying19, rfl, rfl, rfl⟩⟩
instance : TFld Try.prog 19 0 0 := ⟨⟨_, _, Try.underlying19, rfl, rfl, _, (by kernel_rfl : (Try.prog.info? 17).map (·.size) = some (0 + 1))⟩⟩
instance : TFlat Try.prog 19 [.pointer none] := ⟨by kernel_rfl, _, Try.underlying19, by kernel_rfl⟩
instance : TZero Try.prog 19 (.agg #[.pointer none]) := ⟨by kernel_rfl⟩
instance : TScal Try.prog 20 := ⟨⟨_, Try.underlying20, rfl⟩, by kernel_rfl⟩
instance : TScal Try.prog 21 := ⟨⟨_, Try.underlying21, rfl⟩, by kernel_rfl⟩
instance : TInt Try.prog 21 .i32 := ⟨Try.underlying21⟩
instance : TZero Try.prog 21 (.int .i32 0) := ⟨by kernel_rfl⟩
instance : TScal Try.prog 22 := ⟨⟨_, Try.underlying22, rfl⟩, by kernel_rfl⟩
instance : TZero Try.prog 22 (.slice none 0 0) := ⟨by kernel_rfl⟩
instance : TSvE Try.prog 22 := ⟨trivial⟩
instance : TSli Try.prog 22 39 1 24 := ⟨Try.underlying22, by kernel_rfl, by kernel_rfl, by kernel_rfl, zlen_of (z := .agg #[.slice none 0 0]) (by kernel_rfl) rfl⟩
instance : TScal Try.prog 23 := ⟨⟨_, Try.underlying23, rfl⟩, by kernel_rfl⟩
instance : TZero Try.prog 23 (.slice none 0 0) := ⟨by kernel_rfl⟩
instance : TSvE Try.prog 23 := ⟨trivial⟩
instance : TSli Try.prog 23 60 2 16 := ⟨Try.underlying23, by kernel_rfl, by kernel_rfl, by kernel_rfl, zlen_of (z := .agg #[.int .i64 0, .int .i64 0]) (by kernel_rfl) rfl⟩
instance : TScal Try.prog 24 := ⟨⟨_, Try.underlying24, rfl⟩, by kernel_rfl⟩
instance : TScal Try.prog 25 := ⟨⟨_, Try.underlying25, rfl⟩, by kernel_rfl⟩
instance : TScal Try.prog 26 := ⟨⟨_, Try.underlying26, rfl⟩, by kernel_rfl⟩
instance : TZero Try.prog 26 (.slice none 0 0) := ⟨by kernel_rfl⟩
instance : TSvE Try.prog 26 := ⟨trivial⟩
instance : TSli Try.prog 26 42 1 24 := ⟨Try.underlying26, by kernel_rfl, by kernel_rfl, by kernel_rfl, zlen_of (z := .agg #[.slice none 0 0]) (by kernel_rfl) rfl⟩
instance : TScal Try.prog 28 := ⟨⟨_, Try.underlying28, rfl⟩, by kernel_rfl⟩
instance : TScal Try.prog 29 := ⟨⟨_, Try.underlying29, rfl⟩, by kernel_rfl⟩
instance : TScal Try.prog 30 := ⟨⟨_, Try.underlying30, rfl⟩, by kernel_rfl⟩
instance : TZero Try.prog 30 (.slice none 0 0) := ⟨by kernel_rfl⟩
instance : TSvE Try.prog 30 := ⟨trivial⟩
instance : TSli Try.prog 30 58 2 16 := ⟨Try.underlying30, by kernel_rfl, by kernel_rfl, by kernel_rfl, zlen_of (z := .agg #[.int .i64 0, .int .i64 0]) (by kernel_rfl) rfl⟩
instance : TScal Try.prog 31 := ⟨⟨_, Try.underlying31, rfl⟩, by kernel_rfl⟩
instance : TScal Try.prog 32 := ⟨⟨_, Try.underlying32, rfl⟩, by kernel_rfl⟩
instance : TScal Try.prog 33 := ⟨⟨_, Try.underlying33, rfl⟩, by kernel_rfl⟩
instance : TScal Try.prog 34 := ⟨⟨_, Try.underlying34, rfl⟩, by kernel_rfl⟩
instance : TScal Try.prog 35 := ⟨⟨_, Try.underlying35, rfl⟩, by kernel_rfl⟩
instance : TScal Try.prog 36 := ⟨⟨_, Try.underlying36, rfl⟩, by kernel_rfl⟩
instance : TScal Try.prog 37 := ⟨⟨_, Try.underlying37, rfl⟩, by kernel_rfl⟩
instance : TZero Try.prog 37 (.slice none 0 0) := ⟨by kernel_rfl⟩
instance : TSvE Try.prog 37 := ⟨trivial⟩
instance : TSli Try.prog 37 2 1 8 := ⟨Try.underlying37, by kernel_rfl, by kernel_rfl, by kernel_rfl, zlen_of (z := .int .i64 0) (by kernel_rfl) rfl⟩
instance : TStr Try.prog 38 1 := ⟨⟨_, Try.underlying38⟩, by kernel_rfl⟩
instance : TFldT Try.prog 38 0 0 37 := ⟨⟨_, _, Try.underlying38, rfl, rfl, rfl⟩⟩
instance : TFld Try.prog 38 0 0 := ⟨⟨_, _, Try.underlying38, rfl, rfl, _, (by kernel_rfl : (Try.prog.info? 37).map (·.size) = some (0 + 1))⟩⟩
instance : TFlat Try.prog 38 [.slice none 0 0] := ⟨by kernel_rfl, _, Try.underlying38, by kernel_rfl⟩
instance : TZero Try.prog 38 (.agg #[.slice none 0 0]) := ⟨by kernel_rfl⟩
instance : TSvE Try.prog 38 := ⟨trivial⟩
instance : TStr Try.prog 39 1 := ⟨⟨_, Try.underlying39⟩, by kernel_rfl⟩
instance : TFldT Try.prog 39 0 0 37 := ⟨⟨_, _, Try.underlying39, rfl, rfl, rfl⟩⟩
instance : TFld Try.prog 39 0 0 := ⟨⟨_, _, Try.underlying39, rfl, rfl, _, (by kernel_rfl : (Try.prog.info? 37).map (·.size) = some (0 + 1))⟩⟩
instance : TFlat Try.prog 39 [.slice none 0 0] := ⟨by kernel_rfl, _, Try.underlying39, by kernel_rfl⟩
instance : TZero Try.prog 39 (.agg #[.slice none 0 0]) := ⟨by kernel_rfl⟩
instance : TSvE Try.prog 39 := ⟨trivial⟩
instance : TScal Try.prog 40 := ⟨⟨_, Try.underlying40, rfl⟩, by kernel_rfl⟩
instance : TScal Try.prog 41 := ⟨⟨_, Try.underlying41, rfl⟩, by kernel_rfl⟩
instance : TStr Try.prog 42 1 := ⟨⟨_, Try.underlying42⟩, by kernel_rfl⟩
instance : TFldT Try.prog 42 0 0 37 := ⟨⟨_, _, Try.underlying42, rfl, rfl, rfl⟩⟩
instance : TFld Try.prog 42 0 0 := ⟨⟨_, _, Try.underlying42, rfl, rfl, _, (by kernel_rfl : (Try.prog.info? 37).map (·.size) = some (0 + 1))⟩⟩
instance : TFlat Try.prog 42 [.slice none 0 0] := ⟨by kernel_rfl, _, Try.underlying42, by kernel_rfl⟩
instance : TZero Try.prog 42 (.agg #[.slice none 0 0]) := ⟨by kernel_rfl⟩
instance : TSvE Try.prog 42 := ⟨trivial⟩
instance : TScal Try.prog 43 := ⟨⟨_, Try.underlying43, rfl⟩, by kernel_rfl⟩
instance : TScal Try.prog 44 := ⟨⟨_, Try.underlying44, rfl⟩, by kernel_rfl⟩
instance : TScal Try.prog 45 := ⟨⟨_, Try.underlying45, rfl⟩, by kernel_rfl⟩
instance : TScal Try.prog 46 := ⟨⟨_, Try.underlying46, rfl⟩, by kernel_rfl⟩
instance : TScal Try.prog 47 := ⟨⟨_, Try.underlying47, rfl⟩, by kernel_rfl⟩
instance : TScal Try.prog 48 := ⟨⟨_, Try.underlying48, rfl⟩, by kernel_rfl⟩
instance : TScal Try.prog 50 := ⟨⟨_, Try.underlying50, rfl⟩, by kernel_rfl⟩
instance : TScal Try.prog 51 := ⟨⟨_, Try.underlying51, rfl⟩, by kernel_rfl⟩
instance : TScal Try.prog 52 := ⟨⟨_, Try.underlying52, rfl⟩, by kernel_rfl⟩
instance : TScal Try.prog 53 := ⟨⟨_, Try.underlying53, rfl⟩, by kernel_rfl⟩
instance : TScal Try.prog 54 := ⟨⟨_, Try.underlying54, rfl⟩, by kernel_rfl⟩
instance : TScal Try.prog 55 := ⟨⟨_, Try.underlying55, rfl⟩, by kernel_rfl⟩
instance : TScal Try.prog 56 := ⟨⟨_, Try.underlying56, rfl⟩, by kernel_rfl⟩
instance : TStr Try.prog 57 2 := ⟨⟨_, Try.underlying57⟩, by kernel_rfl⟩
instance : TFldT Try.prog 57 0 0 2 := ⟨⟨_, _, Try.underlying57, rfl, rfl, rfl⟩⟩
instance : TFld Try.prog 57 0 0 := ⟨⟨_, _, Try.underlying57, rfl, rfl, _, (by kernel_rfl : (Try.prog.info? 2).map (·.size) = some (0 + 1))⟩⟩
instance : TFldT Try.prog 57 1 1 2 := ⟨⟨_, _, Try.underlying57, rfl, rfl, rfl⟩⟩
instance : TFld Try.prog 57 1 1 := ⟨⟨_, _, Try.underlying57, rfl, rfl, _, (by kernel_rfl : (Try.prog.info? 2).map (·.size) = some (0 + 1))⟩⟩
instance : TFlat Try.prog 57 [.int .i64 0, .int .i64 0] := ⟨by kernel_rfl, _, Try.underlying57, by kernel_rfl⟩
instance : TZero Try.prog 57 (.agg #[.int .i64 0, .int .i64 0]) := ⟨by kernel_rfl⟩
instance : TPair Try.prog 58 := ⟨by kernel_rfl, by kernel_rfl, _, _, Try.underlying58, by decide, by decide, rfl, rfl, Try.underlying2, Try.underlying2⟩
instance : TStr Try.prog 58 2 := ⟨⟨_, Try.underlying58⟩, by kernel_rfl⟩
instance : TFldT Try.prog 58 0 0 2 := ⟨⟨_, _, Try.underlying58, rfl, rfl, rfl⟩⟩
instance : TFld Try.prog 58 0 0 := ⟨⟨_, _, Try.underlying58, rfl, rfl, _, (by kernel_rfl : (Try.prog.info? 2).map (·.size) = some (0 + 1))⟩⟩
instance : TFldT Try.prog 58 1 1 2 := ⟨⟨_, _, Try.underlying58, rfl, rfl, rfl⟩⟩
instance : TFld Try.prog 58 1 1 := ⟨⟨_, _, Try.underlying58, rfl, rfl, _, (by kernel_rfl : (Try.prog.info? 2).map (·.size) = some (0 + 1))⟩⟩
instance : TFlat Try.prog 58 [.int .i64 0, .int .i64 0] := ⟨by kernel_rfl, _, Try.underlying58, by kernel_rfl⟩
instance : TZero Try.prog 58 (.agg #[.int .i64 0, .int .i64 0]) := ⟨by kernel_rfl⟩
instance : TScal Try.prog 59 := ⟨⟨_, Try.underlying59, rfl⟩, by kernel_rfl⟩
instance : TPair Try.prog 60 := ⟨by kernel_rfl, by kernel_rfl, _, _, Try.underlying60, by decide, by decide, rfl, rfl, Try.underlying2, Try.underlying2⟩
instance : TStr Try.prog 60 2 := ⟨⟨_, Try.underlying60⟩, by kernel_rfl⟩
instance : TFldT Try.prog 60 0 0 2 := ⟨⟨_, _, Try.underlying60, rfl, rfl, rfl⟩⟩
instance : TFld Try.prog 60 0 0 := ⟨⟨_, _, Try.underlying60, rfl, rfl, _, (by kernel_rfl : (Try.prog.info? 2).map (·.size) = some (0 + 1))⟩⟩
instance : TFldT Try.prog 60 1 1 2 := ⟨⟨_, _, Try.underlying60, rfl, rfl, rfl⟩⟩
instance : TFld Try.prog 60 1 1 := ⟨⟨_, _, Try.underlying60, rfl, rfl, _, (by kernel_rfl : (Try.prog.info? 2).map (·.size) = some (0 + 1))⟩⟩
instance : TFlat Try.prog 60 [.int .i64 0, .int .i64 0] := ⟨by kernel_rfl, _, Try.underlying60, by kernel_rfl⟩
instance : TZero Try.prog 60 (.agg #[.int .i64 0, .int .i64 0]) := ⟨by kernel_rfl⟩
instance : TScal Try.prog 61 := ⟨⟨_, Try.underlying61, rfl⟩, by kernel_rfl⟩
instance : TScal Try.prog 62 := ⟨⟨_, Try.underlying62, rfl⟩, by kernel_rfl⟩
instance : TScal Try.prog 63 := ⟨⟨_, Try.underlying63, rfl⟩, by kernel_rfl⟩
instance : TScal Try.prog 64 := ⟨⟨_, Try.underlying64, rfl⟩, by kernel_rfl⟩
instance : TScal Try.prog 65 := ⟨⟨_, Try.underlying65, rfl⟩, by kernel_rfl⟩
instance : TScal Try.prog 66 := ⟨⟨_, Try.underlying66, rfl⟩, by kernel_rfl⟩
instance : TScal Try.prog 67 := ⟨⟨_, Try.underlying67, rfl⟩, by kernel_rfl⟩
instance : TScal Try.prog 68 := ⟨⟨_, Try.underlying68, rfl⟩, by kernel_rfl⟩
instance : TScal Try.prog 69 := ⟨⟨_, Try.underlying69, rfl⟩, by kernel_rfl⟩
instance : TScal Try.prog 70 := ⟨⟨_, Try.underlying70, rfl⟩, by kernel_rfl⟩
instance : TScal Try.prog 71 := ⟨⟨_, Try.underlying71, rfl⟩, by kernel_rfl⟩
instance : TScal Try.prog 72 := ⟨⟨_, Try.underlying72, rfl⟩, by kernel_rfl⟩
instance : TScal Try.prog 73 := ⟨⟨_, Try.underlying73, rfl⟩, by kernel_rfl⟩
instance : TScal Try.prog 74 := ⟨⟨_, Try.underlying74, rfl⟩, by kernel_rfl⟩
instance : TScal Try.prog 76 := ⟨⟨_, Try.underlying76, rfl⟩, by kernel_rfl⟩
instance : TScal Try.prog 77 := ⟨⟨_, Try.underlying77, rfl⟩, by kernel_rfl⟩
instance : TScal Try.prog 78 := ⟨⟨_, Try.underlying78, rfl⟩, by kernel_rfl⟩
instance : TScal Try.prog 79 := ⟨⟨_, Try.underlying79, rfl⟩, by kernel_rfl⟩
instance : TScal Try.prog 80 := ⟨⟨_, Try.underlying80, rfl⟩, by kernel_rfl⟩
instance : TScal Try.prog 81 := ⟨⟨_, Try.underlying81, rfl⟩, by kernel_rfl⟩
instance : TScal Try.prog 82 := ⟨⟨_, Try.underlying82, rfl⟩, by kernel_rfl⟩
instance : TScal Try.prog 83 := ⟨⟨_, Try.underlying83, rfl⟩, by kernel_rfl⟩
instance : TScal Try.prog 84 := ⟨⟨_, Try.underlying84, rfl⟩, by kernel_rfl⟩
instance : TScal Try.prog 85 := ⟨⟨_, Try.underlying85, rfl⟩, by kernel_rfl⟩
instance : TScal Try.prog 86 := ⟨⟨_, Try.underlying86, rfl⟩, by kernel_rfl⟩
instance : TScal Try.prog 87 := ⟨⟨_, Try.underlying87, rfl⟩, by kernel_rfl⟩
instance : TScal Try.prog 88 := ⟨⟨_, Try.underlying88, rfl⟩, by kernel_rfl⟩
instance : TInt Try.prog 88 .u64 := ⟨Try.underlying88⟩
instance : TZero Try.prog 88 (.int .u64 0) := ⟨by kernel_rfl⟩
instance : TScal Try.prog 89 := ⟨⟨_, Try.underlying89, rfl⟩, by kernel_rfl⟩
instance : TScal Try.prog 90 := ⟨⟨_, Try.underlying90, rfl⟩, by kernel_rfl⟩
instance : TScal Try.prog 91 := ⟨⟨_, Try.underlying91, rfl⟩, by kernel_rfl⟩
instance : TScal Try.prog 92 := ⟨⟨_, Try.underlying92, rfl⟩, by kernel_rfl⟩
instance : TInt Try.prog 92 .i64 := ⟨Try.underlying92⟩
instance : TZero Try.prog 92 (.int .i64 0) := ⟨by kernel_rfl⟩
instance : TScal Try.prog 94 := ⟨⟨_, Try.underlying94, rfl⟩, by kernel_rfl⟩
instance : TScal Try.prog 95 := ⟨⟨_, Try.underlying95, rfl⟩, by kernel_rfl⟩
instance : TScal Try.prog 96 := ⟨⟨_, Try.underlying96, rfl⟩, by kernel_rfl⟩
instance : TScal Try.prog 98 := ⟨⟨_, Try.underlying98, rfl⟩, by kernel_rfl⟩
instance : TScal Try.prog 99 := ⟨⟨_, Try.underlying99, rfl⟩, by kernel_rfl⟩
instance : TScal Try.prog 100 := ⟨⟨_, Try.underlying100, rfl⟩, by kernel_rfl⟩
instance : TInt Try.prog 100 .u32 := ⟨Try.underlying100⟩
instance : TZero Try.prog 100 (.int .u32 0) := ⟨by kernel_rfl⟩
instance : TScal Try.prog 101 := ⟨⟨_, Try.underlying101, rfl⟩, by kernel_rfl⟩
instance : TScal Try.prog 102 := ⟨⟨_, Try.underlying102, rfl⟩, by kernel_rfl⟩
instance : TInt Try.prog 102 .u64 := ⟨Try.underlying102⟩
instance : TZero Try.prog 102 (.int .u64 0) := ⟨by kernel_rfl⟩
instance : TScal Try.prog 103 := ⟨⟨_, Try.underlying103, rfl⟩, by kernel_rfl⟩
instance : TInt Try.prog 103 .u64 := ⟨Try.underlying103⟩
instance : TZero Try.prog 103 (.int .u64 0) := ⟨by kernel_rfl⟩
instance : TScal Try.prog 104 := ⟨⟨_, Try.underlying104, rfl⟩, by kernel_rfl⟩
instance : TScal Try.prog 105 := ⟨⟨_, Try.underlying105, rfl⟩, by kernel_rfl⟩
instance : TScal Try.prog 106 := ⟨⟨_, Try.underlying106, rfl⟩, by kernel_rfl⟩
instance : TScal Try.prog 107 := ⟨⟨_, Try.underlying107, rfl⟩, by kernel_rfl⟩
instance : TScal Try.prog 108 := ⟨⟨_, Try.underlying108, rfl⟩, by kernel_rfl⟩
instance : TScal Try.prog 109 := ⟨⟨_, Try.underlying109, rfl⟩, by kernel_rfl⟩
instance : TScal Try.prog 111 := ⟨⟨_, Try.underlying111, rfl⟩, by kernel_rfl⟩
instance : TScal Try.prog 112 := ⟨⟨_, Try.underlying112, rfl⟩, by kernel_rfl⟩
instance : TStr Try.prog 113 4 := ⟨⟨_, Try.underlying113⟩, by kernel_rfl⟩
instance : TFldT Try.prog 113 0 0 17 := ⟨⟨_, _, Try.underlying113, rfl, rfl, rfl⟩⟩
instance : TFld Try.prog 113 0 0 := ⟨⟨_, _, Try.underlying113, rfl, rfl, _, (by kernel_rfl : (Try.prog.info? 17).map (·.size) = some (0 + 1))⟩⟩
instance : TFldT Try.prog 113 1 1 17 := ⟨⟨_, _, Try.underlying113, rfl, rfl, rfl⟩⟩
instance : TFld Try.prog 113 1 1 := ⟨⟨_, _, Try.underlying113, rfl, rfl, _, (by kernel_rfl : (Try.prog.info? 17).map (·.size) = some (0 + 1))⟩⟩
instance : TFldT Try.prog 113 2 2 17 := ⟨⟨_, _, Try.underlying113, rfl, rfl, rfl⟩⟩
instance : TFld Try.prog 113 2 2 := ⟨⟨_, _, Try.underlying113, rfl, rfl, _, (by kernel_rfl : (Try.prog.info? 17).map (·.size) = some (0 + 1))⟩⟩
instance : TFldT Try.prog 113 3 3 9 := ⟨⟨_, _, Try.underlying113, rfl, rfl, rfl⟩⟩
instance : TFld Try.prog 113 3 3 := ⟨⟨_, _, Try.underlying113, rfl, rfl, _, (by kernel_rfl : (Try.prog.info? 9).map (·.size) = some (0 + 1))⟩⟩
instance : TFlat Try.prog 113 [.pointer none, .pointer none, .pointer none, .string ⟨#[]⟩] := ⟨by kernel_rfl, _, Try.underlying113, by kernel_rfl⟩
instance : TZero Try.prog 113 (.agg #[.pointer none, .pointer none, .pointer none, .string ⟨#[]⟩]) := ⟨by kernel_rfl⟩
instance : TStr Try.prog 114 4 := ⟨⟨_, Try.underlying114⟩, by kernel_rfl⟩
instance : TFldT Try.prog 114 0 0 17 := ⟨⟨_, _, Try.underlying114, rfl, rfl, rfl⟩⟩
instance : TFld Try.prog 114 0 0 := ⟨⟨_, _, Try.underlying114, rfl, rfl, _, (by kernel_rfl : (Try.prog.info? 17).map (·.size) = some (0 + 1))⟩⟩
instance : TFldT Try.prog 114 1 1 17 := ⟨⟨_, _, Try.underlying114, rfl, rfl, rfl⟩⟩
instance : TFld Try.prog 114 1 1 := ⟨⟨_, _, Try.underlying114, rfl, rfl, _, (by kernel_rfl : (Try.prog.info? 17).map (·.size) = some (0 + 1))⟩⟩
instance : TFldT Try.prog 114 2 2 17 := ⟨⟨_, _, Try.underlying114, rfl, rfl, rfl⟩⟩
instance : TFld Try.prog 114 2 2 := ⟨⟨_, _, Try.underlying114, rfl, rfl, _, (by kernel_rfl : (Try.prog.info? 17).map (·.size) = some (0 + 1))⟩⟩
instance : TFldT Try.prog 114 3 3 9 := ⟨⟨_, _, Try.underlying114, rfl, rfl, rfl⟩⟩
instance : TFld Try.prog 114 3 3 := ⟨⟨_, _, Try.underlying114, rfl, rfl, _, (by kernel_rfl : (Try.prog.info? 9).map (·.size) = some (0 + 1))⟩⟩
instance : TFlat Try.prog 114 [.pointer none, .pointer none, .pointer none, .string ⟨#[]⟩] := ⟨by kernel_rfl, _, Try.underlying114, by kernel_rfl⟩
instance : TZero Try.prog 114 (.agg #[.pointer none, .pointer none, .pointer none, .string ⟨#[]⟩]) := ⟨by kernel_rfl⟩
instance : TArr Try.prog 115 0 16 := ⟨Try.underlying115⟩
instance : TZero Try.prog 115 (.agg #[]) := ⟨by kernel_rfl⟩
instance : TScal Try.prog 118 := ⟨⟨_, Try.underlying118, rfl⟩, by kernel_rfl⟩
instance : TScal Try.prog 119 := ⟨⟨_, Try.underlying119, rfl⟩, by kernel_rfl⟩
instance : TInt Try.prog 119 .u8 := ⟨Try.underlying119⟩
instance : TZero Try.prog 119 (.int .u8 0) := ⟨by kernel_rfl⟩
instance : TScal Try.prog 120 := ⟨⟨_, Try.underlying120, rfl⟩, by kernel_rfl⟩
instance : TInt Try.prog 120 .u8 := ⟨Try.underlying120⟩
instance : TZero Try.prog 120 (.int .u8 0) := ⟨by kernel_rfl⟩
instance : TScal Try.prog 121 := ⟨⟨_, Try.underlying121, rfl⟩, by kernel_rfl⟩
instance : TScal Try.prog 122 := ⟨⟨_, Try.underlying122, rfl⟩, by kernel_rfl⟩
instance : TScal Try.prog 123 := ⟨⟨_, Try.underlying123, rfl⟩, by kernel_rfl⟩
instance : TInt Try.prog 123 .i32 := ⟨Try.underlying123⟩
instance : TZero Try.prog 123 (.int .i32 0) := ⟨by kernel_rfl⟩
instance : TScal Try.prog 124 := ⟨⟨_, Try.underlying124, rfl⟩, by kernel_rfl⟩
instance : TInt Try.prog 124 .i32 := ⟨Try.underlying124⟩
instance : TZero Try.prog 124 (.int .i32 0) := ⟨by kernel_rfl⟩
instance : TStr Try.prog 125 11 := ⟨⟨_, Try.underlying125⟩, by kernel_rfl⟩
instance : TFldT Try.prog 125 0 0 12 := ⟨⟨_, _, Try.underlying125, rfl, rfl, rfl⟩⟩
instance : TFld Try.prog 125 0 0 := ⟨⟨_, _, Try.underlying125, rfl, rfl, _, (by kernel_rfl : (Try.prog.info? 12).map (·.size) = some (0 + 1))⟩⟩
instance : TFldT Try.prog 125 1 1 12 := ⟨⟨_, _, Try.underlying125, rfl, rfl, rfl⟩⟩
instance : TFld Try.prog 125 1 1 := ⟨⟨_, _, Try.underlying125, rfl, rfl, _, (by kernel_rfl : (Try.prog.info? 12).map (·.size) = some (0 + 1))⟩⟩
instance : TFldT Try.prog 125 2 2 100 := ⟨⟨_, _, Try.underlying125, rfl, rfl, rfl⟩⟩
instance : TFld Try.prog 125 2 2 := ⟨⟨_, _, Try.underlying125, rfl, rfl, _, (by kernel_rfl : (Try.prog.info? 100).map (·.size) = some (0 + 1))⟩⟩
instance : TFldT Try.prog 125 3 3 119 := ⟨⟨_, _, Try.underlying125, rfl, rfl, rfl⟩⟩
instance : TFld Try.prog 125 3 3 := ⟨⟨_, _, Try.underlying125, rfl, rfl, _, (by kernel_rfl : (Try.prog.info? 119).map (·.size) = some (0 + 1))⟩⟩
instance : TFldT Try.prog 125 4 4 5 := ⟨⟨_, _, Try.underlying125, rfl, rfl, rfl⟩⟩
instance : TFld Try.prog 125 4 4 := ⟨⟨_, _, Try.underlying125, rfl, rfl, _, (by kernel_rfl : (Try.prog.info? 5).map (·.size) = some (0 + 1))⟩⟩
instance : TFldT Try.prog 125 5 5 5 := ⟨⟨_, _, Try.underlying125, rfl, rfl, rfl⟩⟩
instance : TFld Try.prog 125 5 5 := ⟨⟨_, _, Try.underlying125, rfl, rfl, _, (by kernel_rfl : (Try.prog.info? 5).map (·.size) = some (0 + 1))⟩⟩
instance : TFldT Try.prog 125 6 6 120 := ⟨⟨_, _, Try.underlying125, rfl, rfl, rfl⟩⟩
instance : TFld Try.prog 125 6 6 := ⟨⟨_, _, Try.underlying125, rfl, rfl, _, (by kernel_rfl : (Try.prog.info? 120).map (·.size) = some (0 + 1))⟩⟩
instance : TFldT Try.prog 125 7 7 121 := ⟨⟨_, _, Try.underlying125, rfl, rfl, rfl⟩⟩
instance : TFld Try.prog 125 7 7 := ⟨⟨_, _, Try.underlying125, rfl, rfl, _, (by kernel_rfl : (Try.prog.info? 121).map (·.size) = some (0 + 1))⟩⟩
instance : TFldT Try.prog 125 8 8 122 := ⟨⟨_, _, Try.underlying125, rfl, rfl, rfl⟩⟩
instance : TFld Try.prog 125 8 8 := ⟨⟨_, _, Try.underlying125, rfl, rfl, _, (by kernel_rfl : (Try.prog.info? 122).map (·.size) = some (0 + 1))⟩⟩
instance : TFldT Try.prog 125 9 9 123 := ⟨⟨_, _, Try.underlying125, rfl, rfl, rfl⟩⟩
instance : TFld Try.prog 125 9 9 := ⟨⟨_, _, Try.underlying125, rfl, rfl, _, (by kernel_rfl : (Try.prog.info? 123).map (·.size) = some (0 + 1))⟩⟩
instance : TFldT Try.prog 125 10 10 124 := ⟨⟨_, _, Try.underlying125, rfl, rfl, rfl⟩⟩
instance : TFld Try.prog 125 10 10 := ⟨⟨_, _, Try.underlying125, rfl, rfl, _, (by kernel_rfl : (Try.prog.info? 124).map (·.size) = some (0 + 1))⟩⟩
instance : TFlat Try.prog 125 [.int .u64 0, .int .u64 0, .int .u32 0, .int .u8 0, .int .u8 0, .int .u8 0, .int .u8 0, .nilFunc, .pointer none, .int .i32 0, .int .i32 0] := ⟨by kernel_rfl, _, Try.underlying125, by kernel_rfl⟩
instance : TZero Try.prog 125 (.agg #[.int .u64 0, .int .u64 0, .int .u32 0, .int .u8 0, .int .u8 0, .int .u8 0, .int .u8 0, .nilFunc, .pointer none, .int .i32 0, .int .i32 0]) := ⟨by kernel_rfl⟩
instance : TStr Try.prog 126 11 := ⟨⟨_, Try.underlying126⟩, by kernel_rfl⟩
instance : TFldT Try.prog 126 0 0 12 := ⟨⟨_, _, Try.underlying126, rfl, rfl, rfl⟩⟩
instance : TFld Try.prog 126 0 0 := ⟨⟨_, _, Try.underlying126, rfl, rfl, _, (by kernel_rfl : (Try.prog.info? 12).map (·.size) = some (0 + 1))⟩⟩
instance : TFldT Try.prog 126 1 1 12 := ⟨⟨_, _, Try.underlying126, rfl, rfl, rfl⟩⟩
instance : TFld Try.prog 126 1 1 := ⟨⟨_, _, Try.underlying126, rfl, rfl, _, (by kernel_rfl : (Try.prog.info? 12).map (·.size) = some (0 + 1))⟩⟩
instance : TFldT Try.prog 126 2 2 100 := ⟨⟨_, _, Try.underlying126, rfl, rfl, rfl⟩⟩
instance : TFld Try.prog 126 2 2 := ⟨⟨_, _, Try.underlying126, rfl, rfl, _, (by kernel_rfl : (Try.prog.info? 100).map (·.size) = some (0 + 1))⟩⟩
instance : TFldT Try.prog 126 3 3 119 := ⟨⟨_, _, Try.underlying126, rfl, rfl, rfl⟩⟩
instance : TFld Try.prog 126 3 3 := ⟨⟨_, _, Try.underlying126, rfl, rfl, _, (by kernel_rfl : (Try.prog.info? 119).map (·.size) = some (0 + 1))⟩⟩
instance : TFldT Try.prog 126 4 4 5 := ⟨⟨_, _, Try.underlying126, rfl, rfl, rfl⟩⟩
instance : TFld Try.prog 126 4 4 := ⟨⟨_, _, Try.underlying126, rfl, rfl, _, (by kernel_rfl : (Try.prog.info? 5).map (·.size) = some (0 + 1))⟩⟩
instance : TFldT Try.prog 126 5 5 5 := ⟨⟨_, _, Try.underlying126, rfl, rfl, rfl⟩⟩
instance : TFld Try.prog 126 5 5 := ⟨⟨_, _, Try.underlying126, rfl, rfl, _, (by kernel_rfl : (Try.prog.info? 5).map (·.size) = some (0 + 1))⟩⟩
instance : TFldT Try.prog 126 6 6 120 := ⟨⟨_, _, Try.underlying126, rfl, rfl, rfl⟩⟩
instance : TFld Try.prog 126 6 6 := ⟨⟨_, _, Try.underlying126, rfl, rfl, _, (by kernel_rfl : (Try.prog.info? 120).map (·.size) = some (0 + 1))⟩⟩
instance : TFldT Try.prog 126 7 7 121 := ⟨⟨_, _, Try.underlying126, rfl, rfl, rfl⟩⟩
instance : TFld Try.prog 126 7 7 := ⟨⟨_, _, Try.underlying126, rfl, rfl, _, (by kernel_rfl : (Try.prog.info? 121).map (·.size) = some (0 + 1))⟩⟩
instance : TFldT Try.prog 126 8 8 122 := ⟨⟨_, _, Try.underlying126, rfl, rfl, rfl⟩⟩
instance : TFld Try.prog 126 8 8 := ⟨⟨_, _, Try.underlying126, rfl, rfl, _, (by kernel_rfl : (Try.prog.info? 122).map (·.size) = some (0 + 1))⟩⟩
instance : TFldT Try.prog 126 9 9 123 := ⟨⟨_, _, Try.underlying126, rfl, rfl, rfl⟩⟩
instance : TFld Try.prog 126 9 9 := ⟨⟨_, _, Try.underlying126, rfl, rfl, _, (by kernel_rfl : (Try.prog.info? 123).map (·.size) = some (0 + 1))⟩⟩
instance : TFldT Try.prog 126 10 10 124 := ⟨⟨_, _, Try.underlying126, rfl, rfl, rfl⟩⟩
instance : TFld Try.prog 126 10 10 := ⟨⟨_, _, Try.underlying126, rfl, rfl, _, (by kernel_rfl : (Try.prog.info? 124).map (·.size) = some (0 + 1))⟩⟩
instance : TFlat Try.prog 126 [.int .u64 0, .int .u64 0, .int .u32 0, .int .u8 0, .int .u8 0, .int .u8 0, .int .u8 0, .nilFunc, .pointer none, .int .i32 0, .int .i32 0] := ⟨by kernel_rfl, _, Try.underlying126, by kernel_rfl⟩
instance : TZero Try.prog 126 (.agg #[.int .u64 0, .int .u64 0, .int .u32 0, .int .u8 0, .int .u8 0, .int .u8 0, .int .u8 0, .nilFunc, .pointer none, .int .i32 0, .int .i32 0]) := ⟨by kernel_rfl⟩
instance : Callable Try.prog 3 := callable Try.func3 (by kernel_rfl) rfl   -- loop.example/g01012/laws.FnExactReproduceDeck
instance : Callable Try.prog 4 := callable Try.func4 (by kernel_rfl) rfl   -- loop.example/g01012/laws.FnExactGangPunch
instance : Callable Try.prog 5 := callable Try.func5 (by kernel_rfl) rfl   -- loop.example/g01012/laws.FnExactInterspersedGang
instance : Callable Try.prog 6 := callable Try.func6 (by kernel_rfl) rfl   -- loop.example/g01012/laws.FnExactBackCopies
instance : Callable Try.prog 7 := callable Try.func7 (by kernel_rfl) rfl   -- loop.example/g01012/laws.szCardS
instance : Callable Try.prog 8 := callable Try.func8 (by kernel_rfl) rfl   -- loop.example/g01012/laws.szCopyS
instance : Callable Try.prog 9 := callable Try.func9 (by kernel_rfl) rfl   -- loop.example/g01012/spec.ReproduceDeck
instance : Callable Try.prog 10 := callable Try.func10 (by kernel_rfl) rfl   -- loop.example/g01012/laws.toCardS
instance : Callable Try.prog 11 := callable Try.func11 (by kernel_rfl) rfl   -- loop.example/g01012/laws.toCopyS
instance : Callable Try.prog 12 := callable Try.func12 (by kernel_rfl) rfl   -- loop.example/g01012/impl.ReproduceDeck
instance : Callable Try.prog 13 := callable Try.func13 (by kernel_rfl) rfl   -- loop.example/g01012/laws.eqCardS
instance : Callable Try.prog 14 := callable Try.func14 (by kernel_rfl) rfl   -- loop.example/g01012/laws.eqCopyS
instance : Callable Try.prog 15 := callable Try.func15 (by kernel_rfl) rfl   -- loop.example/g01012/laws.markCardS
instance : Callable Try.prog 16 := callable Try.func16 (by kernel_rfl) rfl   -- loop.example/g01012/laws.markCopyS
instance : Callable Try.prog 17 := callable Try.func17 (by kernel_rfl) rfl   -- loop.example/g01012/laws.heldCardS
instance : Callable Try.prog 18 := callable Try.func18 (by kernel_rfl) rfl   -- loop.example/g01012/laws.szCard
instance : Callable Try.prog 19 := callable Try.func19 (by kernel_rfl) rfl   -- loop.example/g01012/spec.GangPunch
instance : Callable Try.prog 20 := callable Try.func20 (by kernel_rfl) rfl   -- loop.example/g01012/laws.toCard
instance : Callable Try.prog 21 := callable Try.func21 (by kernel_rfl) rfl   -- loop.example/g01012/impl.GangPunch
instance : Callable Try.prog 22 := callable Try.func22 (by kernel_rfl) rfl   -- loop.example/g01012/laws.eqCard
instance : Callable Try.prog 23 := callable Try.func23 (by kernel_rfl) rfl   -- loop.example/g01012/laws.markCard
instance : Callable Try.prog 24 := callable Try.func24 (by kernel_rfl) rfl   -- loop.example/g01012/spec.InterspersedGang
instance : Callable Try.prog 25 := callable Try.func25 (by kernel_rfl) rfl   -- loop.example/g01012/impl.InterspersedGang
instance : Callable Try.prog 26 := callable Try.func26 (by kernel_rfl) rfl   -- loop.example/g01012/spec.BackCopies
instance : Callable Try.prog 27 := callable Try.func27 (by kernel_rfl) rfl   -- loop.example/g01012/impl.BackCopies
instance : Callable Try.prog 28 := callable Try.func28 (by kernel_rfl) rfl   -- loop.example/g01012/laws.heldCopyS
instance : Callable Try.prog 29 := callable Try.func29 (by kernel_rfl) rfl   -- loop.example/g01012/spec.l02Deck
instance : Callable Try.prog 30 := callable Try.func30 (by kernel_rfl) rfl   -- loop.example/g01012/spec.ValidCopies
instance : Callable Try.prog 31 := callable Try.func31 (by kernel_rfl) rfl   -- loop.example/g01012/spec.l07WidthOf
instance : Callable Try.prog 32 := callable Try.func32 (by kernel_rfl) rfl   -- loop.example/g01012/spec.l10Copy
instance : Callable Try.prog 33 := callable Try.func33 (by kernel_rfl) rfl   -- loop.example/g01012/laws.toCopy
instance : Callable Try.prog 34 := callable Try.func34 (by kernel_rfl) rfl   -- loop.example/g01012/impl.ValidDeck
instance : Callable Try.prog 35 := callable Try.func35 (by kernel_rfl) rfl   -- loop.example/g01012/impl.ValidCopies
instance : Callable Try.prog 36 := callable Try.func36 (by kernel_rfl) rfl   -- loop.example/g01012/impl.deckColumns
instance : Callable Try.prog 37 := callable Try.func37 (by kernel_rfl) rfl   -- loop.example/g01012/impl.copied
instance : Callable Try.prog 38 := callable Try.func38 (by kernel_rfl) rfl   -- loop.example/g01012/impl.blank
instance : Callable Try.prog 39 := callable Try.func39 (by kernel_rfl) rfl   -- loop.example/g01012/laws.eqCopy
instance : Callable Try.prog 40 := callable Try.func40 (by kernel_rfl) rfl   -- loop.example/g01012/laws.markInt64S
instance : Callable Try.prog 41 := callable Try.func41 (by kernel_rfl) rfl   -- loop.example/g01012/laws.heldInt64S
instance : Callable Try.prog 42 := callable Try.func42 (by kernel_rfl) rfl   -- loop.example/g01012/laws.szInt64S
instance : Callable Try.prog 43 := callable Try.func43 (by kernel_rfl) rfl   -- loop.example/g01012/spec.l02Ok
instance : Callable Try.prog 44 := callable Try.func44 (by kernel_rfl) rfl   -- loop.example/g01012/spec.l02Copy
instance : Callable Try.prog 45 := callable Try.func45 (by kernel_rfl) rfl   -- loop.example/g01012/laws.toInt64S
instance : Callable Try.prog 46 := callable Try.func46 (by kernel_rfl) rfl   -- loop.example/g01012/impl.ValidCard
instance : Callable Try.prog 47 := callable Try.func47 (by kernel_rfl) rfl   -- (loop.example/g01012/impl.Card).columns
instance : Callable Try.prog 48 := callable Try.func48 (by kernel_rfl) rfl   -- loop.example/g01012/laws.eqInt64S
instance : Callable Try.prog 49 := callable Try.func49 (by kernel_rfl) rfl   -- loop.example/g01012/spec.l00In
instance : Callable Try.prog 50 := callable Try.func50 (by kernel_rfl) rfl   -- loop.example/g01012/impl.inside
instance : Callable Try.prog 51 := callable Try.func51 (by kernel_rfl) rfl   -- loop.example/g01012/impl.bitOf
instance : Callable Try.prog 52 := callable Try.func52 (by kernel_rfl) rfl   -- loop.example/g01012/impl.newCard
instance : Callable Try.prog 53 := callable Try.func53 (by kernel_rfl) rfl   -- loop.example/g01012/spec.l10Plain
instance : Callable Try.prog 54 := callable Try.func54 (by kernel_rfl) rfl   -- loop.example/g01012/spec.l10Put
instance : Callable Try.prog 55 := callable Try.func55 (by kernel_rfl) rfl   -- loop.example/g01012/impl.isPlain
instance : Callable Try.prog 56 := callable Try.func56 (by kernel_rfl) rfl   -- slices.SortFunc[[]loop.example/g01012/impl.Copy,loop.example/g01012/impl.Copy]
instance : Callable Try.prog 57 := callable Try.func57 (by kernel_rfl) rfl   -- loop.example/g01012/impl.BackCopies$1
instance : Callable Try.prog 58 := callable Try.func58 (by kernel_rfl) rfl   -- loop.example/g01012/spec.l10Ok
instance : Callable Try.prog 59 := callable Try.func59 (by kernel_rfl) rfl   -- slices.ContainsFunc[[]loop.example/g01012/impl.Copy,loop.example/g01012/impl.Copy]
instance : Callable Try.prog 60 := callable Try.func60 (by kernel_rfl) rfl   -- loop.example/g01012/impl.ValidCopies$1
instance : Callable Try.prog 61 := callable Try.func61 (by kernel_rfl) rfl   -- loop.example/g01012/spec.l02Own
instance : Callable Try.prog 62 := callable Try.func62 (by kernel_rfl) rfl   -- slices.ContainsFunc[[]int64,int64]
instance : Callable Try.prog 63 := callable Try.func63 (by kernel_rfl) rfl   -- loop.example/g01012/impl.ValidCard$1
instance : Callable Try.prog 64 := callable Try.func64 (by kernel_rfl) rfl   -- loop.example/g01012/impl.size[int64]
instance : Callable Try.prog 65 := callable Try.func65 (by kernel_rfl) rfl   -- loop.example/g01012/impl.copyInts
instance : Callable Try.prog 66 := callable Try.func66 (by kernel_rfl) rfl   -- slices.pdqsortCmpFunc[loop.example/g01012/impl.Copy]
instance : Callable Try.prog 68 := callable Try.func68 (by kernel_rfl) rfl   -- slices.IndexFunc[[]loop.example/g01012/impl.Copy,loop.example/g01012/impl.Copy]
instance : Callable Try.prog 69 := callable Try.func69 (by kernel_rfl) rfl   -- loop.example/g01012/spec.l00Own
instance : Callable Try.prog 70 := callable Try.func70 (by kernel_rfl) rfl   -- slices.IndexFunc[[]int64,int64]
instance : Callable Try.prog 71 := callable Try.func71 (by kernel_rfl) rfl   -- slices.insertionSortCmpFunc[loop.example/g01012/impl.Copy]
instance : Callable Try.prog 72 := callable Try.func72 (by kernel_rfl) rfl   -- slices.heapSortCmpFunc[loop.example/g01012/impl.Copy]
instance : Callable Try.prog 73 := callable Try.func73 (by kernel_rfl) rfl   -- slices.breakPatternsCmpFunc[loop.example/g01012/impl.Copy]
instance : Callable Try.prog 74 := callable Try.func74 (by kernel_rfl) rfl   -- slices.choosePivotCmpFunc[loop.example/g01012/impl.Copy]
instance : Callable Try.prog 75 := callable Try.func75 (by kernel_rfl) rfl   -- slices.reverseRangeCmpFunc[loop.example/g01012/impl.Copy]
instance : Callable Try.prog 76 := callable Try.func76 (by kernel_rfl) rfl   -- slices.partialInsertionSortCmpFunc[loop.example/g01012/impl.Copy]
instance : Callable Try.prog 77 := callable Try.func77 (by kernel_rfl) rfl   -- slices.partitionEqualCmpFunc[loop.example/g01012/impl.Copy]
instance : Callable Try.prog 78 := callable Try.func78 (by kernel_rfl) rfl   -- slices.partitionCmpFunc[loop.example/g01012/impl.Copy]
instance : Callable Try.prog 81 := callable Try.func81 (by kernel_rfl) rfl   -- slices.siftDownCmpFunc[loop.example/g01012/impl.Copy]
instance : Callable Try.prog 82 := callable Try.func82 (by kernel_rfl) rfl   -- slices.nextPowerOfTwo
instance : Callable Try.prog 84 := callable Try.func84 (by kernel_rfl) rfl   -- slices.medianAdjacentCmpFunc[loop.example/g01012/impl.Copy]
instance : Callable Try.prog 85 := callable Try.func85 (by kernel_rfl) rfl   -- slices.medianCmpFunc[loop.example/g01012/impl.Copy]
instance : Callable Try.prog 86 := callable Try.func86 (by kernel_rfl) rfl   -- slices.order2CmpFunc[loop.example/g01012/impl.Copy]
end Go.Proofs.Ytkkgkoibabbjoaa

/- What is known of this program's types and functions. -/
import Derived.Test.YtflcfpcggopbaaaL12
import Derived.Test.YtflcfpcggopbaaaChecked
namespace Go.Proofs.Ytflcfpcggopbaaa
open Go Go.Gw
theorem mixed : Try.prog.follows .mixedOrders = true := by kernel_rfl
instance : TScal Try.prog 1 := ⟨⟨_, Try.underlying1, rfl⟩, by kernel_rfl⟩
instance : TScal Try.prog 2 := ⟨⟨_, Try.underlying2, rfl⟩, by kernel_rfl⟩
instance : TInt Try.prog 2 .i64 := ⟨Try.underlying2⟩
instance : TZero Try.prog 2 (.int .i64 0) := ⟨by kernel_rfl⟩
instance : TScal Try.prog 3 := ⟨⟨_, Try.underlying3, rfl⟩, by kernel_rfl⟩
instance : TInt Try.prog 3 .i64 := ⟨Try.underlying3⟩
instance : TZero Try.prog 3 (.int .i64 0) := ⟨by kernel_rfl⟩
instance : TScal Try.prog 4 := ⟨⟨_, Try.underlying4, rfl⟩, by kernel_rfl⟩
instance : TBool Try.prog 4 := ⟨Try.underlying4⟩
instance : TZero Try.prog 4 (.bool false) := ⟨by kernel_rfl⟩
instance : TScal Try.prog 5 := ⟨⟨_, Try.underlying5, rfl⟩, by kernel_rfl⟩
instance : TInt Try.prog 5 .u8 := ⟨Try.underlying5⟩
instance : TZero Try.prog 5 (.int .u8 0) := ⟨by kernel_rfl⟩
instance : TScal Try.prog 6 := ⟨⟨_, Try.underlying6, rfl⟩, by kernel_rfl⟩
instance : TInt Try.prog 6 .u8 := ⟨Try.underlying6⟩
instance : TZero Try.prog 6 (.int .u8 0) := ⟨by kernel_rfl⟩
instance : TStr Try.prog 7 4 := ⟨⟨_, Try.underlying7⟩, by kernel_rfl⟩
instance : TFldT Try.prog 7 0 0 2 := ⟨⟨_, _, Try.underlying7, rfl, rfl, rfl⟩⟩
instance : TFld Try.prog 7 0 0 := ⟨⟨_, _, Try.underlying7, rfl, rfl, _, (by kernel_rfl : (Try.prog.info? 2).map (·.size) = some (0 + 1))⟩⟩
instance : TFldT Try.prog 7 1 1 3 := ⟨⟨_, _, Try.underlying7, rfl, rfl, rfl⟩⟩
instance : TFld Try.prog 7 1 1 := ⟨⟨_, _, Try.underlying7, rfl, rfl, _, (by kernel_rfl : (Try.prog.info? 3).map (·.size) = some (0 + 1))⟩⟩
instance : TFldT Try.prog 7 2 2 4 := ⟨⟨_, _, Try.underlying7, rfl, rfl, rfl⟩⟩
instance : TFld Try.prog 7 2 2 := ⟨⟨_, _, Try.underlying7, rfl, rfl, _, (by kernel_rfl : (Try.prog.info? 4).map (·.size) = some (0 + 1))⟩⟩
instance : TFldT Try.prog 7 3 3 6 := ⟨⟨_, _, Try.underlying7, rfl, rfl, rfl⟩⟩
instance : TFld Try.prog 7 3 3 := ⟨⟨_, _, Try.underlying7, rfl, rfl, _, (by kernel_rfl : (Try.prog.info? 6).map (·.size) = some (0 + 1))⟩⟩
instance : TFlat Try.prog 7 [.int .i64 0, .int .i64 0, .bool false, .int .u8 0] := ⟨by kernel_rfl, _, Try.underlying7, by kernel_rfl⟩
instance : TZero Try.prog 7 (.agg #[.int .i64 0, .int .i64 0, .bool false, .int .u8 0]) := ⟨by kernel_rfl⟩
instance : TStr Try.prog 8 4 := ⟨⟨_, Try.underlying8⟩, by kernel_rfl⟩
instance : TFldT Try.prog 8 0 0 2 := ⟨⟨_, _, Try.underlying8, rfl, rfl, rfl⟩⟩
instance : TFld Try.prog 8 0 0 := ⟨⟨_, _, Try.underlying8, rfl, rfl, _, (by kernel_rfl : (Try.prog.info? 2).map (·.size) = some (0 + 1))⟩⟩
instance : TFldT Try.prog 8 1 1 3 := ⟨⟨_, _, Try.underlying8, rfl, rfl, rfl⟩⟩
instance : TFld Try.prog 8 1 1 := ⟨⟨_, _, Try.underlying8, rfl, rfl, _, (by kernel_rfl : (Try.prog.info? 3).map (·.size) = some (0 + 1))⟩⟩
instance : TFldT Try.prog 8 2 2 4 := ⟨⟨_, _, Try.underlying8, rfl, rfl, rfl⟩⟩
instance : TFld Try.prog 8 2 2 := ⟨⟨_, _, Try.underlying8, rfl, rfl, _, (by kernel_rfl : (Try.prog.info? 4).map (·.size) = some (0 + 1))⟩⟩
instance : TFldT Try.prog 8 3 3 6 := ⟨⟨_, _, Try.underlying8, rfl, rfl, rfl⟩⟩
instance : TFld Try.prog 8 3 3 := ⟨⟨_, _, Try.underlying8, rfl, rfl, _, (by kernel_rfl : (Try.prog.info? 6).map (·.size) = some (0 + 1))⟩⟩
instance : TFlat Try.prog 8 [.int .i64 0, .int .i64 0, .bool false, .int .u8 0] := ⟨by kernel_rfl, _, Try.underlying8, by kernel_rfl⟩
instance : TZero Try.prog 8 (.agg #[.int .i64 0, .int .i64 0, .bool false, .int .u8 0]) := ⟨by kernel_rfl⟩
instance : TScal Try.prog 9 := ⟨⟨_, Try.underlying9, rfl⟩, by kernel_rfl⟩
instance : TStg Try.prog 9 := ⟨Try.underlying9⟩
instance : TZero Try.prog 9 (.string ⟨#[]⟩) := ⟨by kernel_rfl⟩
instance : TScal Try.prog 10 := ⟨⟨_, Try.underlying10, rfl⟩, by kernel_rfl⟩
instance : TStg Try.prog 10 := ⟨Try.underlying10⟩
instance : TZero Try.prog 10 (.string ⟨#[]⟩) := ⟨by kernel_rfl⟩
instance : TScal Try.prog 11 := ⟨⟨_, Try.underlying11, rfl⟩, by kernel_rfl⟩
instance : TStg Try.prog 11 := ⟨Try.underlying11⟩
instance : TZero Try.prog 11 (.string ⟨#[]⟩) := ⟨by kernel_rfl⟩
instance : TScal Try.prog 12 := ⟨⟨_, Try.underlying12, rfl⟩, by kernel_rfl⟩
instance : TInt Try.prog 12 .u64 := ⟨Try.underlying12⟩
instance : TZero Try.prog 12 (.int .u64 0) := ⟨by kernel_rfl⟩
instance : TStr Try.prog 13 2 := ⟨⟨_, Try.underlying13⟩, by kernel_rfl⟩
instance : TFldT Try.prog 13 0 0 9 := ⟨⟨_, _, Try.underlying13, rfl, rfl, rfl⟩⟩
instance : TFld Try.prog 13 0 0 := ⟨⟨_, _, Try.underlying13, rfl, rfl, _, (by kernel_rfl : (Try.prog.info? 9).map (·.size) = some (0 + 1))⟩⟩
instance : TFldT Try.prog 13 1 1 12 := ⟨⟨_, _, Try.underlying13, rfl, rfl, rfl⟩⟩
instance : TFld Try.prog 13 1 1 := ⟨⟨_, _, Try.underlying13, rfl, rfl, _, (by kernel_rfl : (Try.prog.info? 12).map (·.size) = some (0 + 1))⟩⟩
instance : TFlat Try.prog 13 [.string ⟨#[]⟩, .int .u64 0] := ⟨by kernel_rfl, _, Try.underlying13, by kernel_rfl⟩
instance : TZero Try.prog 13 (.agg #[.string ⟨#[]⟩, .int .u64 0]) := ⟨by kernel_rfl⟩
instance : TStr Try.prog 14 2 := ⟨⟨_, Try.underlying14⟩, by kernel_rfl⟩
instance : TFldT Try.prog 14 0 0 9 := ⟨⟨_, _, Try.underlying14, rfl, rfl, rfl⟩⟩
instance : TFld Try.prog 14 0 0 := ⟨⟨_, _, Try.underlying14, rfl, rfl, _, (by kernel_rfl : (Try.prog.info? 9).map (·.size) = some (0 + 1))⟩⟩
instance : TFldT Try.prog 14 1 1 12 := ⟨⟨_, _, Try.underlying14, rfl, rfl, rfl⟩⟩
instance : TFld Try.prog 14 1 1 := ⟨⟨_, _, Try.underlying14, rfl, rfl, _, (by kernel_rfl : (Try.prog.info? 12).map (·.size) = some (0 + 1))⟩⟩
instance : TFlat Try.prog 14 [.string ⟨#[]⟩, .int .u64 0] := ⟨by kernel_rfl, _, Try.underlying14, by kernel_rfl⟩
instance : TZero Try.prog 14 (.agg #[.string ⟨#[]⟩, .int .u64 0]) := ⟨by kernel_rfl⟩
instance : TScal Try.prog 15 := ⟨⟨_, Try.underlying15, rfl⟩, by kernel_rfl⟩
instance : TScal Try.prog 16 := ⟨⟨_, Try.underlying16, rfl⟩, by kernel_rfl⟩
instance : TScal Try.prog 17 := ⟨⟨_, Try.underlying17, rfl⟩, by kernel_rfl⟩
instance : TStr Try.prog 18 1 := ⟨⟨_, Try.underlying18⟩, by kernel_rfl⟩
instance : TFldT Try.prog 18 0 0 17 := ⟨⟨_, _, Try.underlying18, rfl, rfl, rfl⟩⟩
instance : TFld Try.prog 18 0 0 := ⟨⟨_, _, Try.underlying18, rfl, rfl, _, (by kernel_rfl : (Try.prog.info? 17).map (·.size) = some (0 + 1))⟩⟩
instance : TFlat Try.prog 18 [.pointer none] := ⟨by kernel_rfl, _, Try.underlying18, by kernel_rfl⟩
instance : TZero Try.prog 18 (.agg #[.pointer none]) := ⟨by kernel_rfl⟩
instance : TStr Try.prog 19 1 := ⟨⟨_, Try.underlying19⟩, by kernel_rfl⟩
instance : TFldT Try.prog 19 0 0 17 := ⟨⟨_, _, Try.underlying19, rfl, rfl, rfl⟩⟩
instance : TFld Try.prog 19 0 0 := ⟨⟨_, _, Try.underlying19, rfl, rfl, _, (by kernel_rfl : (Try.prog.info? 17).map (·.size) = some (0 + 1))⟩⟩
instance : TFlat Try.prog 19 [.pointer none] := ⟨by kernel_rfl, _, Try.underlying19, by kernel_rfl⟩
instance : TZero Try.prog 19 (.agg #[.pointer none]) := ⟨by kernel_rfl⟩
instance : TScal Try.prog 20 := ⟨⟨_, Try.underlying20, rfl⟩, by kernel_rfl⟩
instance : TScal Try.prog 21 := ⟨⟨_, Try.underlying21, rfl⟩, by kernel_rfl⟩
instance : TInt Try.prog 21 .i32 := ⟨Try.underlying21⟩
instance : TZero Try.prog 21 (.int .i32 0) := ⟨by kernel_rfl⟩
instance : TStr Try.prog 22 2 := ⟨⟨_, Try.underlying22⟩, by kernel_rfl⟩
instance : TFldT Try.prog 22 0 0 2 := ⟨⟨_, _, Try.underlying22, rfl, rfl, rfl⟩⟩
instance : TFld Try.prog 22 0 0 := ⟨⟨_, _, Try.underlying22, rfl, rfl, _, (by kernel_rfl : (Try.prog.info? 2).map (·.size) = some (0 + 1))⟩⟩
instance : TFldT Try.prog 22 1 1 2 := ⟨⟨_, _, Try.underlying22, rfl, rfl, rfl⟩⟩
instance : TFld Try.prog 22 1 1 := ⟨⟨_, _, Try.underlying22, rfl, rfl, _, (by kernel_rfl : (Try.prog.info? 2).map (·.size) = some (0 + 1))⟩⟩
instance : TFlat Try.prog 22 [.int .i64 0, .int .i64 0] := ⟨by kernel_rfl, _, Try.underlying22, by kernel_rfl⟩
instance : TZero Try.prog 22 (.agg #[.int .i64 0, .int .i64 0]) := ⟨by kernel_rfl⟩
instance : TPair Try.prog 23 := ⟨by kernel_rfl, by kernel_rfl, _, _, Try.underlying23, by decide, by decide, rfl, rfl, Try.underlying2, Try.underlying2⟩
instance : TStr Try.prog 23 2 := ⟨⟨_, Try.underlying23⟩, by kernel_rfl⟩
instance : TFldT Try.prog 23 0 0 2 := ⟨⟨_, _, Try.underlying23, rfl, rfl, rfl⟩⟩
instance : TFld Try.prog 23 0 0 := ⟨⟨_, _, Try.underlying23, rfl, rfl, _, (by kernel_rfl : (Try.prog.info? 2).map (·.size) = some (0 + 1))⟩⟩
instance : TFldT Try.prog 23 1 1 2 := ⟨⟨_, _, Try.underlying23, rfl, rfl, rfl⟩⟩
instance : TFld Try.prog 23 1 1 := ⟨⟨_, _, Try.underlying23, rfl, rfl, _, (by kernel_rfl : (Try.prog.info? 2).map (·.size) = some (0 + 1))⟩⟩
instance : TFlat Try.prog 23 [.int .i64 0, .int .i64 0] := ⟨by kernel_rfl, _, Try.underlying23, by kernel_rfl⟩
instance : TZero Try.prog 23 (.agg #[.int .i64 0, .int .i64 0]) := ⟨by kernel_rfl⟩
instance : TScal Try.prog 24 := ⟨⟨_, Try.underlying24, rfl⟩, by kernel_rfl⟩
instance : TZero Try.prog 24 (.slice none 0 0) := ⟨by kernel_rfl⟩
instance : TSvE Try.prog 24 := ⟨trivial⟩
instance : TSli Try.prog 24 23 2 16 := ⟨Try.underlying24, by kernel_rfl, by kernel_rfl, by kernel_rfl, zlen_of (z := .agg #[.int .i64 0, .int .i64 0]) (by kernel_rfl) rfl⟩
instance : TStr Try.prog 25 4 := ⟨⟨_, Try.underlying25⟩, by kernel_rfl⟩
instance : TFldT Try.prog 25 0 0 23 := ⟨⟨_, _, Try.underlying25, rfl, rfl, rfl⟩⟩
instance : TFld Try.prog 25 0 0 := ⟨⟨_, _, Try.underlying25, rfl, rfl, _, (by kernel_rfl : (Try.prog.info? 23).map (·.size) = some (1 + 1))⟩⟩
instance : TFldT Try.prog 25 1 2 24 := ⟨⟨_, _, Try.underlying25, rfl, rfl, rfl⟩⟩
instance : TFld Try.prog 25 1 2 := ⟨⟨_, _, Try.underlying25, rfl, rfl, _, (by kernel_rfl : (Try.prog.info? 24).map (·.size) = some (0 + 1))⟩⟩
instance : TFldT Try.prog 25 2 3 4 := ⟨⟨_, _, Try.underlying25, rfl, rfl, rfl⟩⟩
instance : TFld Try.prog 25 2 3 := ⟨⟨_, _, Try.underlying25, rfl, rfl, _, (by kernel_rfl : (Try.prog.info? 4).map (·.size) = some (0 + 1))⟩⟩
instance : TZero Try.prog 25 (.agg #[.int .i64 0, .int .i64 0, .slice none 0 0, .bool false]) := ⟨by kernel_rfl⟩
instance : TStr Try.prog 26 4 := ⟨⟨_, Try.underlying26⟩, by kernel_rfl⟩
instance : TFldT Try.prog 26 0 0 23 := ⟨⟨_, _, Try.underlying26, rfl, rfl, rfl⟩⟩
instance : TFld Try.prog 26 0 0 := ⟨⟨_, _, Try.underlying26, rfl, rfl, _, (by kernel_rfl : (Try.prog.info? 23).map (·.size) = some (1 + 1))⟩⟩
instance : TFldT Try.prog 26 1 2 24 := ⟨⟨_, _, Try.underlying26, rfl, rfl, rfl⟩⟩
instance : TFld Try.prog 26 1 2 := ⟨⟨_, _, Try.underlying26, rfl, rfl, _, (by kernel_rfl : (Try.prog.info? 24).map (·.size) = some (0 + 1))⟩⟩
instance : TFldT Try.prog 26 2 3 4 := ⟨⟨_, _, Try.underlying26, rfl, rfl, rfl⟩⟩
instance : TFld Try.prog 26 2 3 := ⟨⟨_, _, Try.underlying26, rfl, rfl, _, (by kernel_rfl : (Try.prog.info? 4).map (·.size) = some (0 + 1))⟩⟩
instance : TZero Try.prog 26 (.agg #[.int .i64 0, .int .i64 0, .slice none 0 0, .bool false]) := ⟨by kernel_rfl⟩
instance : TScal Try.prog 27 := ⟨⟨_, Try.underlying27, rfl⟩, by kernel_rfl⟩
instance : TScal Try.prog 28 := ⟨⟨_, Try.underlying28, rfl⟩, by kernel_rfl⟩
instance : TPair Try.prog 29 := ⟨by kernel_rfl, by kernel_rfl, _, _, Try.underlying29, by decide, by decide, rfl, rfl, Try.underlying2, Try.underlying2⟩
instance : TStr Try.prog 29 2 := ⟨⟨_, Try.underlying29⟩, by kernel_rfl⟩
instance : TFldT Try.prog 29 0 0 2 := ⟨⟨_, _, Try.underlying29, rfl, rfl, rfl⟩⟩
instance : TFld Try.prog 29 0 0 := ⟨⟨_, _, Try.underlying29, rfl, rfl, _, (by kernel_rfl : (Try.prog.info? 2).map (·.size) = some (0 + 1))⟩⟩
instance : TFldT Try.prog 29 1 1 2 := ⟨⟨_, _, Try.underlying29, rfl, rfl, rfl⟩⟩
instance : TFld Try.prog 29 1 1 := ⟨⟨_, _, Try.underlying29, rfl, rfl, _, (by kernel_rfl : (Try.prog.info? 2).map (·.size) = some (0 + 1))⟩⟩
instance : TFlat Try.prog 29 [.int .i64 0, .int .i64 0] := ⟨by kernel_rfl, _, Try.underlying29, by kernel_rfl⟩
instance : TZero Try.prog 29 (.agg #[.int .i64 0, .int .i64 0]) := ⟨by kernel_rfl⟩
instance : TScal Try.prog 30 := ⟨⟨_, Try.underlying30, rfl⟩, by kernel_rfl⟩
instance : TZero Try.prog 30 (.slice none 0 0) := ⟨by kernel_rfl⟩
instance : TSvE Try.prog 30 := ⟨trivial⟩
instance : TSli Try.prog 30 29 2 16 := ⟨Try.underlying30, by kernel_rfl, by kernel_rfl, by kernel_rfl, zlen_of (z := .agg #[.int .i64 0, .int .i64 0]) (by kernel_rfl) rfl⟩
instance : TStr Try.prog 31 4 := ⟨⟨_, Try.underlying31⟩, by kernel_rfl⟩
instance : TFldT Try.prog 31 0 0 29 := ⟨⟨_, _, Try.underlying31, rfl, rfl, rfl⟩⟩
instance : TFld Try.prog 31 0 0 := ⟨⟨_, _, Try.underlying31, rfl, rfl, _, (by kernel_rfl : (Try.prog.info? 29).map (·.size) = some (1 + 1))⟩⟩
instance : TFldT Try.prog 31 1 2 30 := ⟨⟨_, _, Try.underlying31, rfl, rfl, rfl⟩⟩
instance : TFld Try.prog 31 1 2 := ⟨⟨_, _, Try.underlying31, rfl, rfl, _, (by kernel_rfl : (Try.prog.info? 30).map (·.size) = some (0 + 1))⟩⟩
instance : TFldT Try.prog 31 2 3 4 := ⟨⟨_, _, Try.underlying31, rfl, rfl, rfl⟩⟩
instance : TFld Try.prog 31 2 3 := ⟨⟨_, _, Try.underlying31, rfl, rfl, _, (by kernel_rfl : (Try.prog.info? 4).map (·.size) = some (0 + 1))⟩⟩
instance : TZero Try.prog 31 (.agg #[.int .i64 0, .int .i64 0, .slice none 0 0, .bool false]) := ⟨by kernel_rfl⟩
instance : TStr Try.prog 32 4 := ⟨⟨_, Try.underlying32⟩, by kernel_rfl⟩
instance : TFldT Try.prog 32 0 0 29 := ⟨⟨_, _, Try.underlying32, rfl, rfl, rfl⟩⟩
instance : TFld Try.prog 32 0 0 := ⟨⟨_, _, Try.underlying32, rfl, rfl, _, (by kernel_rfl : (Try.prog.info? 29).map (·.size) = some (1 + 1))⟩⟩
instance : TFldT Try.prog 32 1 2 30 := ⟨⟨_, _, Try.underlying32, rfl, rfl, rfl⟩⟩
instance : TFld Try.prog 32 1 2 := ⟨⟨_, _, Try.underlying32, rfl, rfl, _, (by kernel_rfl : (Try.prog.info? 30).map (·.size) = some (0 + 1))⟩⟩
instance : TFldT Try.prog 32 2 3 4 := ⟨⟨_, _, Try.underlying32, rfl, rfl, rfl⟩⟩
instance : TFld Try.prog 32 2 3 := ⟨⟨_, _, Try.underlying32, rfl, rfl, _, (by kernel_rfl : (Try.prog.info? 4).map (·.size) = some (0 + 1))⟩⟩
instance : TZero Try.prog 32 (.agg #[.int .i64 0, .int .i64 0, .slice none 0 0, .bool false]) := ⟨by kernel_rfl⟩
instance : TScal Try.prog 33 := ⟨⟨_, Try.underlying33, rfl⟩, by kernel_rfl⟩
instance : TScal Try.prog 34 := ⟨⟨_, Try.underlying34, rfl⟩, by kernel_rfl⟩
instance : TScal Try.prog 35 := ⟨⟨_, Try.underlying35, rfl⟩, by kernel_rfl⟩
instance : TScal Try.prog 36 := ⟨⟨_, Try.underlying36, rfl⟩, by kernel_rfl⟩
instance : TZero Try.prog 36 (.slice none 0 0) := ⟨by kernel_rfl⟩
instance : TSvE Try.prog 36 := ⟨trivial⟩
instance : TSli Try.prog 36 2 1 8 := ⟨Try.underlying36, by kernel_rfl, by kernel_rfl, by kernel_rfl, zlen_of (z := .int .i64 0) (by kernel_rfl) rfl⟩
instance : TStr Try.prog 37 1 := ⟨⟨_, Try.underlying37⟩, by kernel_rfl⟩
instance : TFldT Try.prog 37 0 0 36 := ⟨⟨_, _, Try.underlying37, rfl, rfl, rfl⟩⟩
instance : TFld Try.prog 37 0 0 := ⟨⟨_, _, Try.underlying37, rfl, rfl, _, (by kernel_rfl : (Try.prog.info? 36).map (·.size) = some (0 + 1))⟩⟩
instance : TFlat Try.prog 37 [.slice none 0 0] := ⟨by kernel_rfl, _, Try.underlying37, by kernel_rfl⟩
instance : TZero Try.prog 37 (.agg #[.slice none 0 0]) := ⟨by kernel_rfl⟩
instance : TSvE Try.prog 37 := ⟨trivial⟩
instance : TStr Try.prog 38 1 := ⟨⟨_, Try.underlying38⟩, by kernel_rfl⟩
instance : TFldT Try.prog 38 0 0 36 := ⟨⟨_, _, Try.underlying38, rfl, rfl, rfl⟩⟩
instance : TFld Try.prog 38 0 0 := ⟨⟨_, _, Try.underlying38, rfl, rfl, _, (by kernel_rfl : (Try.prog.info? 36).map (·.size) = some (0 + 1))⟩⟩
instance : TFlat Try.prog 38 [.slice none 0 0] := ⟨by kernel_rfl, _, Try.underlying38, by kernel_rfl⟩
instance : TZero Try.prog 38 (.agg #[.slice none 0 0]) := ⟨by kernel_rfl⟩
instance : TSvE Try.prog 38 := ⟨trivial⟩
instance : TScal Try.prog 39 := ⟨⟨_, Try.underlying39, rfl⟩, by kernel_rfl⟩
instance : TScal Try.prog 40 := ⟨⟨_, Try.underlying40, rfl⟩, by kernel_rfl⟩
instance : TScal Try.prog 42 := ⟨⟨_, Try.underlying42, rfl⟩, by kernel_rfl⟩
instance : TStr Try.prog 43 1 := ⟨⟨_, Try.underlying43⟩, by kernel_rfl⟩
instance : TFldT Try.prog 43 0 0 36 := ⟨⟨_, _, Try.underlying43, rfl, rfl, rfl⟩⟩
instance : TFld Try.prog 43 0 0 := ⟨⟨_, _, Try.underlying43, rfl, rfl, _, (by kernel_rfl : (Try.prog.info? 36).map (·.size) = some (0 + 1))⟩⟩
instance : TFlat Try.prog 43 [.slice none 0 0] := ⟨by kernel_rfl, _, Try.underlying43, by kernel_rfl⟩
instance : TZero Try.prog 43 (.agg #[.slice none 0 0]) := ⟨by kernel_rfl⟩
instance : TSvE Try.prog 43 := ⟨trivial⟩
instance : TScal Try.prog 44 := ⟨⟨_, Try.underlying44, rfl⟩, by kernel_rfl⟩
instance : TScal Try.prog 45 := ⟨⟨_, Try.underlying45, rfl⟩, by kernel_rfl⟩
instance : TScal Try.prog 46 := ⟨⟨_, Try.underlying46, rfl⟩, by kernel_rfl⟩
instance : TScal Try.prog 47 := ⟨⟨_, Try.underlying47, rfl⟩, by kernel_rfl⟩
instance : TScal Try.prog 48 := ⟨⟨_, Try.underlying48, rfl⟩, by kernel_rfl⟩
instance : TScal Try.prog 49 := ⟨⟨_, Try.underlying49, rfl⟩, by kernel_rfl⟩
instance : TZero Try.prog 49 (.slice none 0 0) := ⟨by kernel_rfl⟩
instance : TSvE Try.prog 49 := ⟨trivial⟩
instance : TSli Try.prog 49 38 1 24 := ⟨Try.underlying49, by kernel_rfl, by kernel_rfl, by kernel_rfl, zlen_of (z := .agg #[.slice none 0 0]) (by kernel_rfl) rfl⟩
instance : TScal Try.prog 50 := ⟨⟨_, Try.underlying50, rfl⟩, by kernel_rfl⟩
instance : TScal Try.prog 51 := ⟨⟨_, Try.underlying51, rfl⟩, by kernel_rfl⟩
instance : TScal Try.prog 52 := ⟨⟨_, Try.underlying52, rfl⟩, by kernel_rfl⟩
instance : TZero Try.prog 52 (.slice none 0 0) := ⟨by kernel_rfl⟩
instance : TSvE Try.prog 52 := ⟨trivial⟩
instance : TSli Try.prog 52 43 1 24 := ⟨Try.underlying52, by kernel_rfl, by kernel_rfl, by kernel_rfl, zlen_of (z := .agg #[.slice none 0 0]) (by kernel_rfl) rfl⟩
instance : TScal Try.prog 53 := ⟨⟨_, Try.underlying53, rfl⟩, by kernel_rfl⟩
instance : TScal Try.prog 54 := ⟨⟨_, Try.underlying54, rfl⟩, by kernel_rfl⟩
instance : TScal Try.prog 55 := ⟨⟨_, Try.underlying55, rfl⟩, by kernel_rfl⟩
instance : TScal Try.prog 57 := ⟨⟨_, Try.underlying57, rfl⟩, by kernel_rfl⟩
instance : TScal Try.prog 58 := ⟨⟨_, Try.underlying58, rfl⟩, by kernel_rfl⟩
instance : TScal Try.prog 59 := ⟨⟨_, Try.underlying59, rfl⟩, by kernel_rfl⟩
instance : TScal Try.prog 60 := ⟨⟨_, Try.underlying60, rfl⟩, by kernel_rfl⟩
instance : TScal Try.prog 61 := ⟨⟨_, Try.underlying61, rfl⟩, by kernel_rfl⟩
instance : TScal Try.prog 62 := ⟨⟨_, Try.underlying62, rfl⟩, by kernel_rfl⟩
instance : TScal Try.prog 63 := ⟨⟨_, Try.underlying63, rfl⟩, by kernel_rfl⟩
instance : TScal Try.prog 64 := ⟨⟨_, Try.underlying64, rfl⟩, by kernel_rfl⟩
instance : TScal Try.prog 65 := ⟨⟨_, Try.underlying65, rfl⟩, by kernel_rfl⟩
instance : TScal Try.prog 66 := ⟨⟨_, Try.underlying66, rfl⟩, by kernel_rfl⟩
instance : TScal Try.prog 67 := ⟨⟨_, Try.underlying67, rfl⟩, by kernel_rfl⟩
instance : TScal Try.prog 68 := ⟨⟨_, Try.underlying68, rfl⟩, by kernel_rfl⟩
instance : TScal Try.prog 69 := ⟨⟨_, Try.underlying69, rfl⟩, by kernel_rfl⟩
instance : TScal Try.prog 70 := ⟨⟨_, Try.underlying70, rfl⟩, by kernel_rfl⟩
instance : TScal Try.prog 71 := ⟨⟨_, Try.underlying71, rfl⟩, by kernel_rfl⟩
instance : TScal Try.prog 72 := ⟨⟨_, Try.underlying72, rfl⟩, by kernel_rfl⟩
instance : TScal Try.prog 74 := ⟨⟨_, Try.underlying74, rfl⟩, by kernel_rfl⟩
instance : TScal Try.prog 75 := ⟨⟨_, Try.underlying75, rfl⟩, by kernel_rfl⟩
instance : TScal Try.prog 76 := ⟨⟨_, Try.underlying76, rfl⟩, by kernel_rfl⟩
instance : TScal Try.prog 77 := ⟨⟨_, Try.underlying77, rfl⟩, by kernel_rfl⟩
instance : TScal Try.prog 78 := ⟨⟨_, Try.underlying78, rfl⟩, by kernel_rfl⟩
instance : TScal Try.prog 79 := ⟨⟨_, Try.underlying79, rfl⟩, by kernel_rfl⟩
instance : TScal Try.prog 80 := ⟨⟨_, Try.underlying80, rfl⟩, by kernel_rfl⟩
instance : TScal Try.prog 81 := ⟨⟨_, Try.underlying81, rfl⟩, by kernel_rfl⟩
instance : TScal Try.prog 82 := ⟨⟨_, Try.underlying82, rfl⟩, by kernel_rfl⟩
instance : TScal Try.prog 84 := ⟨⟨_, Try.underlying84, rfl⟩, by kernel_rfl⟩
instance : TScal Try.prog 85 := ⟨⟨_, Try.underlying85, rfl⟩, by kernel_rfl⟩
instance : TZero Try.prog 85 (.slice none 0 0) := ⟨by kernel_rfl⟩
instance : TSvE Try.prog 85 := ⟨trivial⟩
instance : TSli Try.prog 85 9 1 16 := ⟨Try.underlying85, by kernel_rfl, by kernel_rfl, by kernel_rfl, zlen_of (z := .string ⟨#[]⟩) (by kernel_rfl) rfl⟩
instance : TScal Try.prog 86 := ⟨⟨_, Try.underlying86, rfl⟩, by kernel_rfl⟩
instance : TZero Try.prog 86 (.slice none 0 0) := ⟨by kernel_rfl⟩
instance : TSvE Try.prog 86 := ⟨trivial⟩
instance : TSli Try.prog 86 36 1 24 := ⟨Try.underlying86, by kernel_rfl, by kernel_rfl, by kernel_rfl, zlen_of (z := .slice none 0 0) (by kernel_rfl) rfl⟩
instance : TStr Try.prog 87 3 := ⟨⟨_, Try.underlying87⟩, by kernel_rfl⟩
instance : TFldT Try.prog 87 0 0 85 := ⟨⟨_, _, Try.underlying87, rfl, rfl, rfl⟩⟩
instance : TFld Try.prog 87 0 0 := ⟨⟨_, _, Try.underlying87, rfl, rfl, _, (by kernel_rfl : (Try.prog.info? 85).map (·.size) = some (0 + 1))⟩⟩
instance : TFldT Try.prog 87 1 1 86 := ⟨⟨_, _, Try.underlying87, rfl, rfl, rfl⟩⟩
instance : TFld Try.prog 87 1 1 := ⟨⟨_, _, Try.underlying87, rfl, rfl, _, (by kernel_rfl : (Try.prog.info? 86).map (·.size) = some (0 + 1))⟩⟩
instance : TFldT Try.prog 87 2 2 36 := ⟨⟨_, _, Try.underlying87, rfl, rfl, rfl⟩⟩
instance : TFld Try.prog 87 2 2 := ⟨⟨_, _, Try.underlying87, rfl, rfl, _, (by kernel_rfl : (Try.prog.info? 36).map (·.size) = some (0 + 1))⟩⟩
instance : TFlat Try.prog 87 [.slice none 0 0, .slice none 0 0, .slice none 0 0] := ⟨by kernel_rfl, _, Try.underlying87, by kernel_rfl⟩
instance : TZero Try.prog 87 (.agg #[.slice none 0 0, .slice none 0 0, .slice none 0 0]) := ⟨by kernel_rfl⟩
instance : TStr Try.prog 88 3 := ⟨⟨_, Try.underlying88⟩, by kernel_rfl⟩
instance : TFldT Try.prog 88 0 0 85 := ⟨⟨_, _, Try.underlying88, rfl, rfl, rfl⟩⟩
instance : TFld Try.prog 88 0 0 := ⟨⟨_, _, Try.underlying88, rfl, rfl, _, (by kernel_rfl : (Try.prog.info? 85).map (·.size) = some (0 + 1))⟩⟩
instance : TFldT Try.prog 88 1 1 86 := ⟨⟨_, _, Try.underlying88, rfl, rfl, rfl⟩⟩
instance : TFld Try.prog 88 1 1 := ⟨⟨_, _, Try.underlying88, rfl, rfl, _, (by kernel_rfl : (Try.prog.info? 86).map (·.size) = some (0 + 1))⟩⟩
instance : TFldT Try.prog 88 2 2 36 := ⟨⟨_, _, Try.underlying88, rfl, rfl, rfl⟩⟩
instance : TFld Try.prog 88 2 2 := ⟨⟨_, _, Try.underlying88, rfl, rfl, _, (by kernel_rfl : (Try.prog.info? 36).map (·.size) = some (0 + 1))⟩⟩
instance : TFlat Try.prog 88 [.slice none 0 0, .slice none 0 0, .slice none 0 0] := ⟨by kernel_rfl, _, Try.underlying88, by kernel_rfl⟩
instance : TZero Try.prog 88 (.agg #[.slice none 0 0, .slice none 0 0, .slice none 0 0]) := ⟨by kernel_rfl⟩
instance : TScal Try.prog 89 := ⟨⟨_, Try.underlying89, rfl⟩, by kernel_rfl⟩
instance : TScal Try.prog 90 := ⟨⟨_, Try.underlying90, rfl⟩, by kernel_rfl⟩
instance : TScal Try.prog 91 := ⟨⟨_, Try.underlying91, rfl⟩, by kernel_rfl⟩
instance : TScal Try.prog 92 := ⟨⟨_, Try.underlying92, rfl⟩, by kernel_rfl⟩
instance : TScal Try.prog 93 := ⟨⟨_, Try.underlying93, rfl⟩, by kernel_rfl⟩
instance : TScal Try.prog 94 := ⟨⟨_, Try.underlying94, rfl⟩, by kernel_rfl⟩
instance : TScal Try.prog 96 := ⟨⟨_, Try.underlying96, rfl⟩, by kernel_rfl⟩
instance : TScal Try.prog 97 := ⟨⟨_, Try.underlying97, rfl⟩, by kernel_rfl⟩
instance : TScal Try.prog 98 := ⟨⟨_, Try.underlying98, rfl⟩, by kernel_rfl⟩
instance : TScal Try.prog 99 := ⟨⟨_, Try.underlying99, rfl⟩, by kernel_rfl⟩
instance : TScal Try.prog 100 := ⟨⟨_, Try.underlying100, rfl⟩, by kernel_rfl⟩
instance : TScal Try.prog 101 := ⟨⟨_, Try.underlying101, rfl⟩, by kernel_rfl⟩
instance : TScal Try.prog 102 := ⟨⟨_, Try.underlying102, rfl⟩, by kernel_rfl⟩
instance : TScal Try.prog 103 := ⟨⟨_, Try.underlying103, rfl⟩, by kernel_rfl⟩
instance : TZero Try.prog 103 (.slice none 0 0) := ⟨by kernel_rfl⟩
instance : TSvE Try.prog 103 := ⟨trivial⟩
instance : TSli Try.prog 103 30 1 24 := ⟨Try.underlying103, by kernel_rfl, by kernel_rfl, by kernel_rfl, zlen_of (z := .slice none 0 0) (by kernel_rfl) rfl⟩
instance : TScal Try.prog 104 := ⟨⟨_, Try.underlying104, rfl⟩, by kernel_rfl⟩
instance : TScal Try.prog 105 := ⟨⟨_, Try.underlying105, rfl⟩, by kernel_rfl⟩
instance : TScal Try.prog 106 := ⟨⟨_, Try.underlying106, rfl⟩, by kernel_rfl⟩
instance : TScal Try.prog 108 := ⟨⟨_, Try.underlying108, rfl⟩, by kernel_rfl⟩
instance : TScal Try.prog 109 := ⟨⟨_, Try.underlying109, rfl⟩, by kernel_rfl⟩
instance : TScal Try.prog 110 := ⟨⟨_, Try.underlying110, rfl⟩, by kernel_rfl⟩
instance : TScal Try.prog 111 := ⟨⟨_, Try.underlying111, rfl⟩, by kernel_rfl⟩
instance : TScal Try.prog 112 := ⟨⟨_, Try.underlying112, rfl⟩, by kernel_rfl⟩
instance : TScal Try.prog 114 := ⟨⟨_, Try.underlying114, rfl⟩, by kernel_rfl⟩
instance : TScal Try.prog 115 := ⟨⟨_, Try.underlying115, rfl⟩, by kernel_rfl⟩
instance : TScal Try.prog 116 := ⟨⟨_, Try.underlying116, rfl⟩, by kernel_rfl⟩
instance : TScal Try.prog 117 := ⟨⟨_, Try.underlying117, rfl⟩, by kernel_rfl⟩
instance : TScal Try.prog 118 := ⟨⟨_, Try.underlying118, rfl⟩, by kernel_rfl⟩
instance : TInt Try.prog 118 .u64 := ⟨Try.underlying118⟩
instance : TZero Try.prog 118 (.int .u64 0) := ⟨by kernel_rfl⟩
instance : TScal Try.prog 119 := ⟨⟨_, Try.underlying119, rfl⟩, by kernel_rfl⟩
instance : TScal Try.prog 120 := ⟨⟨_, Try.underlying120, rfl⟩, by kernel_rfl⟩
instance : TScal Try.prog 121 := ⟨⟨_, Try.underlying121, rfl⟩, by kernel_rfl⟩
instance : TScal Try.prog 122 := ⟨⟨_, Try.underlying122, rfl⟩, by kernel_rfl⟩
instance : TZero Try.prog 122 (.slice none 0 0) := ⟨by kernel_rfl⟩
instance : TSvE Try.prog 122 := ⟨trivial⟩
instance : TSli Try.prog 122 5 1 1 := ⟨Try.underlying122, by kernel_rfl, by kernel_rfl, by kernel_rfl, zlen_of (z := .int .u8 0) (by kernel_rfl) rfl⟩
instance : TScal Try.prog 124 := ⟨⟨_, Try.underlying124, rfl⟩, by kernel_rfl⟩
instance : TScal Try.prog 125 := ⟨⟨_, Try.underlying125, rfl⟩, by kernel_rfl⟩
instance : TScal Try.prog 126 := ⟨⟨_, Try.underlying126, rfl⟩, by kernel_rfl⟩
instance : TScal Try.prog 127 := ⟨⟨_, Try.underlying127, rfl⟩, by kernel_rfl⟩
instance : TScal Try.prog 128 := ⟨⟨_, Try.underlying128, rfl⟩, by kernel_rfl⟩
instance : TStr Try.prog 129 4 := ⟨⟨_, Try.underlying129⟩, by kernel_rfl⟩
instance : TFldT Try.prog 129 0 0 17 := ⟨⟨_, _, Try.underlying129, rfl, rfl, rfl⟩⟩
instance : TFld Try.prog 129 0 0 := ⟨⟨_, _, Try.underlying129, rfl, rfl, _, (by kernel_rfl : (Try.prog.info? 17).map (·.size) = some (0 + 1))⟩⟩
instance : TFldT Try.prog 129 1 1 17 := ⟨⟨_, _, Try.underlying129, rfl, rfl, rfl⟩⟩
instance : TFld Try.prog 129 1 1 := ⟨⟨_, _, Try.underlying129, rfl, rfl, _, (by kernel_rfl : (Try.prog.info? 17).map (·.size) = some (0 + 1))⟩⟩
instance : TFldT Try.prog 129 2 2 17 := ⟨⟨_, _, Try.underlying129, rfl, rfl, rfl⟩⟩
instance : TFld Try.prog 129 2 2 := ⟨⟨_, _, Try.underlying129, rfl, rfl, _, (by kernel_rfl : (Try.prog.info? 17).map (·.size) = some (0 + 1))⟩⟩
instance : TFldT Try.prog 129 3 3 9 := ⟨⟨_, _, Try.underlying129, rfl, rfl, rfl⟩⟩
instance : TFld Try.prog 129 3 3 := ⟨⟨_, _, Try.underlying129, rfl, rfl, _, (by kernel_rfl : (Try.prog.info? 9).map (·.size) = some (0 + 1))⟩⟩
instance : TFlat Try.prog 129 [.pointer none, .pointer none, .pointer none, .string ⟨#[]⟩] := ⟨by kernel_rfl, _, Try.underlying129, by kernel_rfl⟩
instance : TZero Try.prog 129 (.agg #[.pointer none, .pointer none, .pointer none, .string ⟨#[]⟩]) := ⟨by kernel_rfl⟩
instance : TStr Try.prog 130 4 := ⟨⟨_, Try.underlying130⟩, by kernel_rfl⟩
instance : TFldT Try.prog 130 0 0 17 := ⟨⟨_, _, Try.underlying130, rfl, rfl, rfl⟩⟩
instance : TFld Try.prog 130 0 0 := ⟨⟨_, _, Try.underlying130, rfl, rfl, _, (by kernel_rfl : (Try.prog.info? 17).map (·.size) = some (0 + 1))⟩⟩
instance : TFldT Try.prog 130 1 1 17 := ⟨⟨_, _, Try.underlying130, rfl, rfl, rfl⟩⟩
instance : TFld Try.prog 130 1 1 := ⟨⟨_, _, Try.underlying130, rfl, rfl, _, (by kernel_rfl : (Try.prog.info? 17).map (·.size) = some (0 + 1))⟩⟩
instance : TFldT Try.prog 130 2 2 17 := ⟨⟨_, _, Try.underlying130, rfl, rfl, rfl⟩⟩
instance : TFld Try.prog 130 2 2 := ⟨⟨_, _, Try.underlying130, rfl, rfl, _, (by kernel_rfl : (Try.prog.info? 17).map (·.size) = some (0 + 1))⟩⟩
instance : TFldT Try.prog 130 3 3 9 := ⟨⟨_, _, Try.underlying130, rfl, rfl, rfl⟩⟩
instance : TFld Try.prog 130 3 3 := ⟨⟨_, _, Try.underlying130, rfl, rfl, _, (by kernel_rfl : (Try.prog.info? 9).map (·.size) = some (0 + 1))⟩⟩
instance : TFlat Try.prog 130 [.pointer none, .pointer none, .pointer none, .string ⟨#[]⟩] := ⟨by kernel_rfl, _, Try.underlying130, by kernel_rfl⟩
instance : TZero Try.prog 130 (.agg #[.pointer none, .pointer none, .pointer none, .string ⟨#[]⟩]) := ⟨by kernel_rfl⟩
instance : TArr Try.prog 131 0 16 := ⟨Try.underlying131⟩
instance : TZero Try.prog 131 (.agg #[]) := ⟨by kernel_rfl⟩
instance : TScal Try.prog 134 := ⟨⟨_, Try.underlying134, rfl⟩, by kernel_rfl⟩
instance : TScal Try.prog 135 := ⟨⟨_, Try.underlying135, rfl⟩, by kernel_rfl⟩
instance : TInt Try.prog 135 .u32 := ⟨Try.underlying135⟩
instance : TZero Try.prog 135 (.int .u32 0) := ⟨by kernel_rfl⟩
instance : TScal Try.prog 136 := ⟨⟨_, Try.underlying136, rfl⟩, by kernel_rfl⟩
instance : TInt Try.prog 136 .u8 := ⟨Try.underlying136⟩
instance : TZero Try.prog 136 (.int .u8 0) := ⟨by kernel_rfl⟩
instance : TScal Try.prog 137 := ⟨⟨_, Try.underlying137, rfl⟩, by kernel_rfl⟩
instance : TInt Try.prog 137 .u8 := ⟨Try.underlying137⟩
instance : TZero Try.prog 137 (.int .u8 0) := ⟨by kernel_rfl⟩
instance : TScal Try.prog 138 := ⟨⟨_, Try.underlying138, rfl⟩, by kernel_rfl⟩
instance : TScal Try.prog 139 := ⟨⟨_, Try.underlying139, rfl⟩, by kernel_rfl⟩
instance : TScal Try.prog 140 := ⟨⟨_, Try.underlying140, rfl⟩, by kernel_rfl⟩
instance : TInt Try.prog 140 .i32 := ⟨Try.underlying140⟩
instance : TZero Try.prog 140 (.int .i32 0) := ⟨by kernel_rfl⟩
instance : TScal Try.prog 141 := ⟨⟨_, Try.underlying141, rfl⟩, by kernel_rfl⟩
instance : TInt Try.prog 141 .i32 := ⟨Try.underlying141⟩
instance : TZero Try.prog 141 (.int .i32 0) := ⟨by kernel_rfl⟩
instance : TStr Try.prog 142 11 := ⟨⟨_, Try.underlying142⟩, by kernel_rfl⟩
instance : TFldT Try.prog 142 0 0 12 := ⟨⟨_, _, Try.underlying142, rfl, rfl, rfl⟩⟩
instance : TFld Try.prog 142 0 0 := ⟨⟨_, _, Try.underlying142, rfl, rfl, _, (by kernel_rfl : (Try.prog.info? 12).map (·.size) = some (0 + 1))⟩⟩
instance : TFldT Try.prog 142 1 1 12 := ⟨⟨_, _, Try.underlying142, rfl, rfl, rfl⟩⟩
instance : TFld Try.prog 142 1 1 := ⟨⟨_, _, Try.underlying142, rfl, rfl, _, (by kernel_rfl : (Try.prog.info? 12).map (·.size) = some (0 + 1))⟩⟩
instance : TFldT Try.prog 142 2 2 135 := ⟨⟨_, _, Try.underlying142, rfl, rfl, rfl⟩⟩
instance : TFld Try.prog 142 2 2 := ⟨⟨_, _, Try.underlying142, rfl, rfl, _, (by kernel_rfl : (Try.prog.info? 135).map (·.size) = some (0 + 1))⟩⟩
instance : TFldT Try.prog 142 3 3 136 := ⟨⟨_, _, Try.underlying142, rfl, rfl, rfl⟩⟩
instance : TFld Try.prog 142 3 3 := ⟨⟨_, _, Try.underlying142, rfl, rfl, _, (by kernel_rfl : (Try.prog.info? 136).map (·.size) = some (0 + 1))⟩⟩
instance : TFldT Try.prog 142 4 4 5 := ⟨⟨_, _, Try.underlying142, rfl, rfl, rfl⟩⟩
instance : TFld Try.prog 142 4 4 := ⟨⟨_, _, Try.underlying142, rfl, rfl, _, (by kernel_rfl : (Try.prog.info? 5).map (·.size) = some (0 + 1))⟩⟩
instance : TFldT Try.prog 142 5 5 5 := ⟨⟨_, _, Try.underlying142, rfl, rfl, rfl⟩⟩
instance : TFld Try.prog 142 5 5 := ⟨⟨_, _, Try.underlying142, rfl, rfl, _, (by kernel_rfl : (Try.prog.info? 5).map (·.size) = some (0 + 1))⟩⟩
instance : TFldT Try.prog 142 6 6 137 := ⟨⟨_, _, Try.underlying142, rfl, rfl, rfl⟩⟩
instance : TFld Try.prog 142 6 6 := ⟨⟨_, _, Try.underlying142, rfl, rfl, _, (by kernel_rfl : (Try.prog.info? 137).map (·.size) = some (0 + 1))⟩⟩
instance : TFldT Try.prog 142 7 7 138 := ⟨⟨_, _, Try.underlying142, rfl, rfl, rfl⟩⟩
instance : TFld Try.prog 142 7 7 := ⟨⟨_, _, Try.underlying142, rfl, rfl, _, (by kernel_rfl : (Try.prog.info? 138).map (·.size) = some (0 + 1))⟩⟩
instance : TFldT Try.prog 142 8 8 139 := ⟨⟨_, _, Try.underlying142, rfl, rfl, rfl⟩⟩
instance : TFld Try.prog 142 8 8 := ⟨⟨_, _, Try.underlying142, rfl, rfl, _, (by kernel_rfl : (Try.prog.info? 139).map (·.size) = some (0 + 1))⟩⟩
instance : TFldT Try.prog 142 9 9 140 := ⟨⟨_, _, Try.underlying142, rfl, rfl, rfl⟩⟩
instance : TFld Try.prog 142 9 9 := ⟨⟨_, _, Try.underlying142, rfl, rfl, _, (by kernel_rfl : (Try.prog.info? 140).map (·.size) = some (0 + 1))⟩⟩
instance : TFldT Try.prog 142 10 10 141 := ⟨⟨_, _, Try.underlying142, rfl, rfl, rfl⟩⟩
instance : TFld Try.prog 142 10 10 := ⟨⟨_, _, Try.underlying142, rfl, rfl, _, (by kernel_rfl : (Try.prog.info? 141).map (·.size) = some (0 + 1))⟩⟩
instance : TFlat Try.prog 142 [.int .u64 0, .int .u64 0, .int .u32 0, .int .u8 0, .int .u8 0, .int .u8 0, .int .u8 0, .nilFunc, .pointer none, .int .i32 0, .int .i32 0] := ⟨by kernel_rfl, _, Try.underlying142, by kernel_rfl⟩
instance : TZero Try.prog 142 (.agg #[.int .u64 0, .int .u64 0, .int .u32 0, .int .u8 0, .int .u8 0, .int .u8 0, .int .u8 0, .nilFunc, .pointer none, .int .i32 0, .int .i32 0]) := ⟨by kernel_rfl⟩
instance : TStr Try.prog 143 11 := ⟨⟨_, Try.underlying143⟩, by kernel_rfl⟩
instance : TFldT Try.prog 143 0 0 12 := ⟨⟨_, _, Try.underlying143, rfl, rfl, rfl⟩⟩
instance : TFld Try.prog 143 0 0 := ⟨⟨_, _, Try.underlying143, rfl, rfl, _, (by kernel_rfl : (Try.prog.info? 12).map (·.size) = some (0 + 1))⟩⟩
instance : TFldT Try.prog 143 1 1 12 := ⟨⟨_, _, Try.underlying143, rfl, rfl, rfl⟩⟩
instance : TFld Try.prog 143 1 1 := ⟨⟨_, _, Try.underlying143, rfl, rfl, _, (by kernel_rfl : (Try.prog.info? 12).map (·.size) = some (0 + 1))⟩⟩
instance : TFldT Try.prog 143 2 2 135 := ⟨⟨_, _, Try.underlying143, rfl, rfl, rfl⟩⟩
instance : TFld Try.prog 143 2 2 := ⟨⟨_, _, Try.underlying143, rfl, rfl, _, (by kernel_rfl : (Try.prog.info? 135).map (·.size) = some (0 + 1))⟩⟩
instance : TFldT Try.prog 143 3 3 136 := ⟨⟨_, _, Try.underlying143, rfl, rfl, rfl⟩⟩
instance : TFld Try.prog 143 3 3 := ⟨⟨_, _, Try.underlying143, rfl, rfl, _, (by kernel_rfl : (Try.prog.info? 136).map (·.size) = some (0 + 1))⟩⟩
instance : TFldT Try.prog 143 4 4 5 := ⟨⟨_, _, Try.underlying143, rfl, rfl, rfl⟩⟩
instance : TFld Try.prog 143 4 4 := ⟨⟨_, _, Try.underlying143, rfl, rfl, _, (by kernel_rfl : (Try.prog.info? 5).map (·.size) = some (0 + 1))⟩⟩
instance : TFldT Try.prog 143 5 5 5 := ⟨⟨_, _, Try.underlying143, rfl, rfl, rfl⟩⟩
instance : TFld Try.prog 143 5 5 := ⟨⟨_, _, Try.underlying143, rfl, rfl, _, (by kernel_rfl : (Try.prog.info? 5).map (·.size) = some (0 + 1))⟩⟩
instance : TFldT Try.prog 143 6 6 137 := ⟨⟨_, _, Try.underlying143, rfl, rfl, rfl⟩⟩
instance : TFld Try.prog 143 6 6 := ⟨⟨_, _, Try.underlying143, rfl, rfl, _, (by kernel_rfl : (Try.prog.info? 137).map (·.size) = some (0 + 1))⟩⟩
instance : TFldT Try.prog 143 7 7 138 := ⟨⟨_, _, Try.underlying143, rfl, rfl, rfl⟩⟩
instance : TFld Try.prog 143 7 7 := ⟨⟨_, _, Try.underlying143, rfl, rfl, _, (by kernel_rfl : (Try.prog.info? 138).map (·.size) = some (0 + 1))⟩⟩
instance : TFldT Try.prog 143 8 8 139 := ⟨⟨_, _, Try.underlying143, rfl, rfl, rfl⟩⟩
instance : TFld Try.prog 143 8 8 := ⟨⟨_, _, Try.underlying143, rfl, rfl, _, (by kernel_rfl : (Try.prog.info? 139).map (·.size) = some (0 + 1))⟩⟩
instance : TFldT Try.prog 143 9 9 140 := ⟨⟨_, _, Try.underlying143, rfl, rfl, rfl⟩⟩
instance : TFld Try.prog 143 9 9 := ⟨⟨_, _, Try.underlying143, rfl, rfl, _, (by kernel_rfl : (Try.prog.info? 140).map (·.size) = some (0 + 1))⟩⟩
instance : TFldT Try.prog 143 10 10 141 := ⟨⟨_, _, Try.underlying143, rfl, rfl, rfl⟩⟩
instance : TFld Try.prog 143 10 10 := ⟨⟨_, _, Try.underlying143, rfl, rfl, _, (by kernel_rfl : (Try.prog.info? 141).map (·.size) = some (0 + 1))⟩⟩
instance : TFlat Try.prog 143 [.int .u64 0, .int .u64 0, .int .u32 0, .int .u8 0, .int .u8 0, .int .u8 0, .int .u8 0, .nilFunc, .pointer none, .int .i32 0, .int .i32 0] := ⟨by kernel_rfl, _, Try.underlying143, by kernel_rfl⟩
instance : TZero Try.prog 143 (.agg #[.int .u64 0, .int .u64 0, .int .u32 0, .int .u8 0, .int .u8 0, .int .u8 0, .int .u8 0, .nilFunc, .pointer none, .int .i32 0, .int .i32 0]) := ⟨by kernel_rfl⟩
instance : TScal Try.prog 144 := ⟨⟨_, Try.underlying144, rfl⟩, by kernel_rfl⟩
instance : Callable Try.prog 3 := callable Try.func3 (by kernel_rfl) rfl   -- loop.example/g01012/laws.FnExactValidSetup
instance : Callable Try.prog 4 := callable Try.func4 (by kernel_rfl) rfl   -- loop.example/g01012/laws.FnExactCrossFoot
instance : Callable Try.prog 5 := callable Try.func5 (by kernel_rfl) rfl   -- loop.example/g01012/laws.FnExactCyclesFor
instance : Callable Try.prog 6 := callable Try.func6 (by kernel_rfl) rfl   -- loop.example/g01012/laws.FnExactBreaksIn
instance : Callable Try.prog 7 := callable Try.func7 (by kernel_rfl) rfl   -- loop.example/g01012/laws.FnExactGrandSums
instance : Callable Try.prog 8 := callable Try.func8 (by kernel_rfl) rfl   -- loop.example/g01012/laws.szSetup
instance : Callable Try.prog 9 := callable Try.func9 (by kernel_rfl) rfl   -- loop.example/g01012/spec.ValidSetup
instance : Callable Try.prog 10 := callable Try.func10 (by kernel_rfl) rfl   -- loop.example/g01012/laws.toSetup
instance : Callable Try.prog 11 := callable Try.func11 (by kernel_rfl) rfl   -- loop.example/g01012/impl.ValidSetup
instance : Callable Try.prog 12 := callable Try.func12 (by kernel_rfl) rfl   -- loop.example/g01012/laws.eqSetup
instance : Callable Try.prog 13 := callable Try.func13 (by kernel_rfl) rfl   -- loop.example/g01012/laws.szCard
instance : Callable Try.prog 14 := callable Try.func14 (by kernel_rfl) rfl   -- loop.example/g01012/laws.szFieldS
instance : Callable Try.prog 15 := callable Try.func15 (by kernel_rfl) rfl   -- loop.example/g01012/spec.CrossFoot
instance : Callable Try.prog 16 := callable Try.func16 (by kernel_rfl) rfl   -- loop.example/g01012/laws.toCard
instance : Callable Try.prog 17 := callable Try.func17 (by kernel_rfl) rfl   -- loop.example/g01012/laws.toFieldS
instance : Callable Try.prog 18 := callable Try.func18 (by kernel_rfl) rfl   -- loop.example/g01012/impl.CrossFoot
instance : Callable Try.prog 19 := callable Try.func19 (by kernel_rfl) rfl   -- loop.example/g01012/laws.eqCard
instance : Callable Try.prog 20 := callable Try.func20 (by kernel_rfl) rfl   -- loop.example/g01012/laws.eqFieldS
instance : Callable Try.prog 21 := callable Try.func21 (by kernel_rfl) rfl   -- loop.example/g01012/laws.szCardS
instance : Callable Try.prog 22 := callable Try.func22 (by kernel_rfl) rfl   -- loop.example/g01012/spec.CyclesFor
instance : Callable Try.prog 23 := callable Try.func23 (by kernel_rfl) rfl   -- loop.example/g01012/laws.toCardS
instance : Callable Try.prog 24 := callable Try.func24 (by kernel_rfl) rfl   -- loop.example/g01012/impl.CyclesFor
instance : Callable Try.prog 25 := callable Try.func25 (by kernel_rfl) rfl   -- loop.example/g01012/laws.eqCardS
instance : Callable Try.prog 26 := callable Try.func26 (by kernel_rfl) rfl   -- loop.example/g01012/spec.BreaksIn
instance : Callable Try.prog 27 := callable Try.func27 (by kernel_rfl) rfl   -- loop.example/g01012/impl.BreaksIn
instance : Callable Try.prog 28 := callable Try.func28 (by kernel_rfl) rfl   -- loop.example/g01012/spec.GrandSums
instance : Callable Try.prog 29 := callable Try.func29 (by kernel_rfl) rfl   -- loop.example/g01012/impl.GrandSums
instance : Callable Try.prog 30 := callable Try.func30 (by kernel_rfl) rfl   -- loop.example/g01012/laws.eqInt64S
instance : Callable Try.prog 31 := callable Try.func31 (by kernel_rfl) rfl   -- loop.example/g01012/laws.markSetup
instance : Callable Try.prog 32 := callable Try.func32 (by kernel_rfl) rfl   -- loop.example/g01012/laws.markCardS
instance : Callable Try.prog 33 := callable Try.func33 (by kernel_rfl) rfl   -- loop.example/g01012/laws.markInt64S
instance : Callable Try.prog 34 := callable Try.func34 (by kernel_rfl) rfl   -- loop.example/g01012/laws.heldInt64S
instance : Callable Try.prog 35 := callable Try.func35 (by kernel_rfl) rfl   -- loop.example/g01012/spec.l00In
instance : Callable Try.prog 36 := callable Try.func36 (by kernel_rfl) rfl   -- loop.example/g01012/spec.l13Ok
instance : Callable Try.prog 37 := callable Try.func37 (by kernel_rfl) rfl   -- loop.example/g01012/laws.toField
instance : Callable Try.prog 38 := callable Try.func38 (by kernel_rfl) rfl   -- loop.example/g01012/impl.inside
instance : Callable Try.prog 39 := callable Try.func39 (by kernel_rfl) rfl   -- loop.example/g01012/impl.isField
instance : Callable Try.prog 40 := callable Try.func40 (by kernel_rfl) rfl   -- slices.ContainsFunc[[]loop.example/g01012/impl.Field,loop.example/g01012/impl.Field]
instance : Callable Try.prog 41 := callable Try.func41 (by kernel_rfl) rfl   -- loop.example/g01012/impl.ValidSetup$1
instance : Callable Try.prog 42 := callable Try.func42 (by kernel_rfl) rfl   -- loop.example/g01012/impl.isNumberField
instance : Callable Try.prog 43 := callable Try.func43 (by kernel_rfl) rfl   -- loop.example/g01012/laws.eqField
instance : Callable Try.prog 44 := callable Try.func44 (by kernel_rfl) rfl   -- loop.example/g01012/laws.szInt64S
instance : Callable Try.prog 45 := callable Try.func45 (by kernel_rfl) rfl   -- loop.example/g01012/spec.l02Ok
instance : Callable Try.prog 46 := callable Try.func46 (by kernel_rfl) rfl   -- loop.example/g01012/spec.l14Fields
instance : Callable Try.prog 47 := callable Try.func47 (by kernel_rfl) rfl   -- loop.example/g01012/spec.l03Number
instance : Callable Try.prog 48 := callable Try.func48 (by kernel_rfl) rfl   -- loop.example/g01012/spec.l02Part
instance : Callable Try.prog 49 := callable Try.func49 (by kernel_rfl) rfl   -- loop.example/g01012/laws.toInt64S
instance : Callable Try.prog 50 := callable Try.func50 (by kernel_rfl) rfl   -- loop.example/g01012/impl.ValidCard
instance : Callable Try.prog 51 := callable Try.func51 (by kernel_rfl) rfl   -- loop.example/g01012/impl.calcCode
instance : Callable Try.prog 52 := callable Try.func52 (by kernel_rfl) rfl   -- (loop.example/g01012/impl.Card).columns
instance : Callable Try.prog 53 := callable Try.func53 (by kernel_rfl) rfl   -- slices.Concat[[]loop.example/g01012/impl.Field,loop.example/g01012/impl.Field]
instance : Callable Try.prog 54 := callable Try.func54 (by kernel_rfl) rfl   -- loop.example/g01012/impl.numberIn
instance : Callable Try.prog 55 := callable Try.func55 (by kernel_rfl) rfl   -- loop.example/g01012/spec.l13Read
instance : Callable Try.prog 56 := callable Try.func56 (by kernel_rfl) rfl   -- loop.example/g01012/impl.setupCode
instance : Callable Try.prog 57 := callable Try.func57 (by kernel_rfl) rfl   -- loop.example/g01012/impl.size[loop.example/g01012/impl.Card]
instance : Callable Try.prog 58 := callable Try.func58 (by kernel_rfl) rfl   -- loop.example/g01012/impl.size[int64]
instance : Callable Try.prog 59 := callable Try.func59 (by kernel_rfl) rfl   -- loop.example/g01012/impl.groupsOf
instance : Callable Try.prog 60 := callable Try.func60 (by kernel_rfl) rfl   -- loop.example/g01012/spec.l00Max
instance : Callable Try.prog 61 := callable Try.func61 (by kernel_rfl) rfl   -- (*loop.example/g01012/spec.l13R).sums
instance : Callable Try.prog 62 := callable Try.func62 (by kernel_rfl) rfl   -- loop.example/g01012/impl.sumsOf
instance : Callable Try.prog 63 := callable Try.func63 (by kernel_rfl) rfl   -- loop.example/g01012/laws.markFieldS
instance : Callable Try.prog 64 := callable Try.func64 (by kernel_rfl) rfl   -- loop.example/g01012/spec.l02Field
instance : Callable Try.prog 65 := callable Try.func65 (by kernel_rfl) rfl   -- slices.IndexFunc[[]loop.example/g01012/impl.Field,loop.example/g01012/impl.Field]
instance : Callable Try.prog 66 := callable Try.func66 (by kernel_rfl) rfl   -- loop.example/g01012/spec.l03Digit
instance : Callable Try.prog 67 := callable Try.func67 (by kernel_rfl) rfl   -- slices.ContainsFunc[[]int64,int64]
instance : Callable Try.prog 68 := callable Try.func68 (by kernel_rfl) rfl   -- loop.example/g01012/impl.ValidCard$1
instance : Callable Try.prog 69 := callable Try.func69 (by kernel_rfl) rfl   -- loop.example/g01012/impl.isCalc
instance : Callable Try.prog 70 := callable Try.func70 (by kernel_rfl) rfl   -- loop.example/g01012/impl.calcCode$1
instance : Callable Try.prog 71 := callable Try.func71 (by kernel_rfl) rfl   -- slices.Grow[[]loop.example/g01012/impl.Field,loop.example/g01012/impl.Field]
instance : Callable Try.prog 72 := callable Try.func72 (by kernel_rfl) rfl   -- loop.example/g01012/impl.copyInts
instance : Callable Try.prog 73 := callable Try.func73 (by kernel_rfl) rfl   -- loop.example/g01012/impl.numberIn$1
instance : Callable Try.prog 74 := callable Try.func74 (by kernel_rfl) rfl   -- loop.example/g01012/impl.bitOf
instance : Callable Try.prog 75 := callable Try.func75 (by kernel_rfl) rfl   -- loop.example/g01012/impl.digitOf
instance : Callable Try.prog 76 := callable Try.func76 (by kernel_rfl) rfl   -- loop.example/g01012/spec.l02Deck
instance : Callable Try.prog 77 := callable Try.func77 (by kernel_rfl) rfl   -- loop.example/g01012/spec.l07Width
instance : Callable Try.prog 78 := callable Try.func78 (by kernel_rfl) rfl   -- loop.example/g01012/spec.l07Keys
instance : Callable Try.prog 79 := callable Try.func79 (by kernel_rfl) rfl   -- loop.example/g01012/spec.l09Groups
instance : Callable Try.prog 80 := callable Try.func80 (by kernel_rfl) rfl   -- loop.example/g01012/impl.ValidDeck
instance : Callable Try.prog 81 := callable Try.func81 (by kernel_rfl) rfl   -- loop.example/g01012/impl.deckColumns
instance : Callable Try.prog 82 := callable Try.func82 (by kernel_rfl) rfl   -- loop.example/g01012/impl.haveField
instance : Callable Try.prog 83 := callable Try.func83 (by kernel_rfl) rfl   -- loop.example/g01012/impl.compareFields
instance : Callable Try.prog 84 := callable Try.func84 (by kernel_rfl) rfl   -- loop.example/g01012/spec.l02Bit
instance : Callable Try.prog 85 := callable Try.func85 (by kernel_rfl) rfl   -- slices.IndexFunc[[]int64,int64]
instance : Callable Try.prog 86 := callable Try.func86 (by kernel_rfl) rfl   -- loop.example/g01012/spec.l03Key
instance : Callable Try.prog 87 := callable Try.func87 (by kernel_rfl) rfl   -- slices.ContainsFunc[[]loop.example/g01012/impl.Card,loop.example/g01012/impl.Card]
instance : Callable Try.prog 88 := callable Try.func88 (by kernel_rfl) rfl   -- loop.example/g01012/impl.haveField$1
instance : Callable Try.prog 89 := callable Try.func89 (by kernel_rfl) rfl   -- loop.example/g01012/impl.hasField
instance : Callable Try.prog 90 := callable Try.func90 (by kernel_rfl) rfl   -- loop.example/g01012/impl.compareHoles
instance : Callable Try.prog 91 := callable Try.func91 (by kernel_rfl) rfl   -- loop.example/g01012/spec.l03Text
instance : Callable Try.prog 92 := callable Try.func92 (by kernel_rfl) rfl   -- slices.IndexFunc[[]loop.example/g01012/impl.Card,loop.example/g01012/impl.Card]
instance : Callable Try.prog 93 := callable Try.func93 (by kernel_rfl) rfl   -- loop.example/g01012/impl.hasCharacters
instance : Callable Try.prog 94 := callable Try.func94 (by kernel_rfl) rfl   -- loop.example/g01012/impl.rankOf
instance : Callable Try.prog 95 := callable Try.func95 (by kernel_rfl) rfl   -- loop.example/g01012/spec.l03Char
instance : Callable Try.prog 96 := callable Try.func96 (by kernel_rfl) rfl   -- loop.example/g01012/impl.hasCharacters$1
instance : Callable Try.prog 97 := callable Try.func97 (by kernel_rfl) rfl   -- loop.example/g01012/impl.codeOf
instance : Callable Try.prog 98 := callable Try.func98 (by kernel_rfl) rfl   -- loop.example/g01012/spec.l03Order
instance : Callable Try.prog 99 := callable Try.func99 (by kernel_rfl) rfl   -- loop.example/g01012/spec.l03Code
instance : Callable Try.prog 100 := callable Try.func100 (by kernel_rfl) rfl   -- loop.example/g01012/impl.CodeOf
instance : Callable Try.prog 101 := callable Try.func101 (by kernel_rfl) rfl   -- loop.example/g01012/spec.l01Digit
instance : Callable Try.prog 102 := callable Try.func102 (by kernel_rfl) rfl   -- loop.example/g01012/impl.isDigit
end Go.Proofs.Ytflcfpcggopbaaa

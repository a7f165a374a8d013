/- How the laws' arguments read, type by type. -/
import Derived.Test.YtgkljfncpgbngaaDoorL7
import Derived.Test.YtgkljfncpgbngaaDoorTy
namespace Go.Proofs.YtgkljfncpgbngaaDoor
open Go Go.Gw Go.ChangeShapes Go.WideShapes
set_option linter.unusedVariables false
set_option maxRecDepth 100000
section
variable {w : World} {r : Reach} {b0 : Nat} {v : Value}
/-- a slice of numbers -/
structure OSl where
  v : Value
  xs : List Int
structure OSl.ok (w : World) (x : OSl) : Prop where
  sl : SL w 0 w.heap.size x.v x.xs
  in64 : ∀ n ∈ x.xs, In64 n
theorem rd_ints {cs : List Value} (h : Rd Tryd.prog w 36 cs) : ∃ v xs, cs = [v] ∧ SL w 0 w.heap.size v (xs : List Int) ∧ ∀ x ∈ xs, In64 x :=
  SL.of_rd Tryd.underlying36 (by kernel_rfl) (dec_int Tryd.underlying2) h
theorem open_Sl_int64 (hv : Value.okWide Tryd.prog w r b0 36 v) (h : Rd Tryd.prog w 36 v.cells.toList) : ∃ x : { x : OSl // x.ok w }, v = x.1.v := by
  obtain ⟨a, l, c, rfl⟩ := okWide_slice Tryd.underlying36 hv
  obtain ⟨u, xs, hu, hs, hq⟩ := rd_ints h
  simp only [Value.cells, List.cons.injEq, and_true] at hu
  subst hu
  exact ⟨⟨⟨_, xs⟩, hs, hq⟩, rfl⟩
/-- a slice of pairs of numbers -/
structure OPs where
  v : Value
  xs : List (Int × Int)
structure OPs.ok (w : World) (x : OPs) : Prop where
  sl : SL w 0 w.heap.size x.v x.xs
  in64 : ∀ p ∈ x.xs, In64 p.1 ∧ In64 p.2
end
end Go.Proofs.YtgkljfncpgbngaaDoor

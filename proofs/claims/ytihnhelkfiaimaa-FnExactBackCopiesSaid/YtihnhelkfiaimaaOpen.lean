/- How the laws' arguments read, type by type. -/
import Derived.Test.YtihnhelkfiaimaaL7
import Derived.Test.YtihnhelkfiaimaaTy
namespace Go.Proofs.Ytihnhelkfiaimaa
open Go Go.Gw Go.ChangeShapes Go.WideShapes
set_option linter.unusedVariables false
set_option maxRecDepth 100000
section
variable {w : World} {r : Reach} {b0 : Nat} {v : Value}
/-- a slice of pairs of numbers -/
structure OPs where
  v : Value
  xs : List (Int × Int)
structure OPs.ok (w : World) (x : OPs) : Prop where
  sl : SL w 0 w.heap.size x.v x.xs
  in64 : ∀ p ∈ x.xs, In64 p.1 ∧ In64 p.2
theorem rd_Copys {cs : List Value} (h : Rd Try.prog w 22 cs) : ∃ v xs, cs = [v] ∧ SL w 0 w.heap.size v (xs : List (Int × Int)) ∧ ∀ x ∈ xs, In64 x.1 ∧ In64 x.2 :=
  SL.of_rd Try.underlying22 (by kernel_rfl) (dec_pair Try.underlying37 (by kernel_rfl) rfl rfl rfl rfl (by kernel_rfl) (by kernel_rfl) Try.underlying2 Try.underlying2) h
theorem open_Sl_laws_Copy (hv : Value.okWide Try.prog w r b0 22 v) (h : Rd Try.prog w 22 v.cells.toList) : ∃ x : { x : OPs // x.ok w }, v = x.1.v := by
  obtain ⟨a, l, c, rfl⟩ := okWide_slice Try.underlying22 hv
  obtain ⟨u, xs, hu, hs, hq⟩ := rd_Copys h
  simp only [Value.cells, List.cons.injEq, and_true] at hu
  subst hu
  exact ⟨⟨⟨_, xs⟩, hs, hq⟩, rfl⟩
theorem open_laws_Copy (hv : Value.okWide Try.prog w r b0 37 v) (h : Rd Try.prog w 37 v.cells.toList) : ∃ x : { p : Int × Int // In64 p.1 ∧ In64 p.2 }, v = .agg #[.int .i64 x.1.1, .int .i64 x.1.2] := by
  obtain ⟨cs, rfl⟩ := okWide_agg0 Try.underlying37 hv
  obtain ⟨x, hx, hq⟩ := dec_pair Try.underlying37 (by kernel_rfl) rfl rfl rfl rfl (by kernel_rfl) (by kernel_rfl) Try.underlying2 Try.underlying2 _ h
  refine ⟨⟨x, hq⟩, ?_⟩
  have : cs = #[.int .i64 x.1, .int .i64 x.2] := Array.ext' hx
  rw [this]
end
end Go.Proofs.Ytihnhelkfiaimaa

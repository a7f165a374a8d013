/- How bytes among the laws' arguments read. -/
import Derived.Test.YtgkljfncpgbngaaDoorOpen
namespace Go.Proofs.YtgkljfncpgbngaaDoor
open Go Go.Gw Go.ChangeShapes Go.WideShapes
set_option linter.unusedVariables false
set_option maxRecDepth 100000
section
variable {w : World} {r : Reach} {b0 : Nat} {v : Value}
/-- a slice of bytes -/
structure OBy where
  v : Value
  xs : List UInt8
structure OBy.ok (w : World) (x : OBy) : Prop where
  sl : SL w 0 w.heap.size x.v x.xs
theorem rd_bytes {cs : List Value} (h : Rd Tryd.prog w 22 cs) : ∃ v xs, cs = [v] ∧ SL w 0 w.heap.size v (xs : List UInt8) ∧ ∀ x ∈ xs, True :=
  SL.of_rd Tryd.underlying22 (by kernel_rfl) (dec_u8 Tryd.underlying5) h
theorem open_Sl_uint8 (hv : Value.okWide Tryd.prog w r b0 22 v) (h : Rd Tryd.prog w 22 v.cells.toList) : ∃ x : { x : OBy // x.ok w }, v = x.1.v := by
  obtain ⟨a, l, c, rfl⟩ := okWide_slice Tryd.underlying22 hv
  obtain ⟨u, xs, hu, hs, hq⟩ := rd_bytes h
  simp only [Value.cells, List.cons.injEq, and_true] at hu
  subst hu
  exact ⟨⟨⟨_, xs⟩, ⟨hs⟩⟩, rfl⟩
end
end Go.Proofs.YtgkljfncpgbngaaDoor

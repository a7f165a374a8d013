/- How the laws' arguments read, type by type. -/
import Derived.Test.YtmmpnlhanljhiaaL7
import Derived.Test.YtmmpnlhanljhiaaTy
namespace Go.Proofs.Ytmmpnlhanljhiaa
open Go Go.Gw Go.ChangeShapes Go.WideShapes
set_option linter.unusedVariables false
set_option maxRecDepth 100000
section
variable {w : World} {r : Reach} {b0 : Nat} {v : Value}
/-- a slice of numbers -/
structure OSl where
  v : Value
  xs : List Int
structure OSl.ok (w : World) (x : OSl) : Prop where
  sl : SL w 0 w.heap.size x.v x.xs
  in64 : ∀ n ∈ x.xs, In64 n
theorem rd_ints {cs : List Value} (h : Rd Try.prog w 22 cs) : ∃ v xs, cs = [v] ∧ SL w 0 w.heap.size v (xs : List Int) ∧ ∀ x ∈ xs, In64 x :=
  SL.of_rd Try.underlying22 (by kernel_rfl) (dec_int Try.underlying2) h
theorem open_Sl_int64 (hv : Value.okWide Try.prog w r b0 22 v) (h : Rd Try.prog w 22 v.cells.toList) : ∃ x : { x : OSl // x.ok w }, v = x.1.v := by
  obtain ⟨a, l, c, rfl⟩ := okWide_slice Try.underlying22 hv
  obtain ⟨u, xs, hu, hs, hq⟩ := rd_ints h
  simp only [Value.cells, List.cons.injEq, and_true] at hu
  subst hu
  exact ⟨⟨⟨_, xs⟩, hs, hq⟩, rfl⟩
theorem open_laws_Counter (hv : Value.okWide Try.prog w r b0 30 v) (h : Rd Try.prog w 30 v.cells.toList) : ∃ x : { x : OSl // x.ok w }, v = .agg #[x.1.v] := by
  obtain ⟨cs, rfl⟩ := okWide_agg0 Try.underlying30 hv
  obtain ⟨hl, hf⟩ := h.struct Try.underlying30
  have hc : Try.prog.cellsOf 30 = 1 := by kernel_rfl
  have h0 := h.fieldAt (i := 0) (ft := 22) (n := 1) Try.underlying30 rfl rfl rfl (by kernel_rfl)
  rw [hc] at hl
  simp only [Value.cells] at hl h0
  match cs, hl with
  | ⟨[c]⟩, _ =>
    obtain ⟨u, xs, hu, hs, hq⟩ := rd_ints h0
    simp at hu
    subst hu
    exact ⟨⟨⟨_, xs⟩, hs, hq⟩, rfl⟩
/-- a slice of pairs of numbers -/
structure OPs where
  v : Value
  xs : List (Int × Int)
structure OPs.ok (w : World) (x : OPs) : Prop where
  sl : SL w 0 w.heap.size x.v x.xs
  in64 : ∀ p ∈ x.xs, In64 p.1 ∧ In64 p.2
end
end Go.Proofs.Ytmmpnlhanljhiaa

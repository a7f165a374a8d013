/- A card of the law, opened. -/
import Derived.Test.YtoknchhgjodpaaaRteC
namespace Go.Proofs.Ytoknchhgjodpaaa
open Go Go.Gw Go.ChangeShapes Go.WideShapes
set_option linter.unusedVariables false
set_option linter.unusedSimpArgs false
set_option maxRecDepth 100000
section
variable {w : World} {r : Reach} {b0 : Nat} {v : Value}
theorem open_laws_Card (hv : Value.okWide Try.prog w r b0 56 v) (h : Rd Try.prog w 56 v.cells.toList) : ∃ x : { x : OSl // x.ok w }, v = .agg #[x.1.v] := by
  obtain ⟨cs, rfl⟩ := okWide_agg0 Try.underlying56 hv
  obtain ⟨hl, hf⟩ := h.struct Try.underlying56
  have hc : Try.prog.cellsOf 56 = 1 := by kernel_rfl
  have h0 := h.fieldAt (i := 0) (ft := 44) (n := 1) Try.underlying56 rfl rfl rfl (by kernel_rfl)
  rw [hc] at hl
  simp only [Value.cells] at hl h0
  match cs, hl with
  | ⟨[c]⟩, _ =>
    obtain ⟨u, xs, hu, hs, hq⟩ := rd_ints h0
    simp at hu
    subst hu
    exact ⟨⟨⟨_, xs⟩, hs, hq⟩, rfl⟩
end
end Go.Proofs.Ytoknchhgjodpaaa

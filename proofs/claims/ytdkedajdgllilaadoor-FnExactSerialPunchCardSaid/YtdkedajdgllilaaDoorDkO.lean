/- Decks of the law, opened. -/
import Derived.Test.YtdkedajdgllilaaDoorOpen
import Derived.Test.YtdkedajdgllilaaDoorDkA
namespace Go.Proofs.YtdkedajdgllilaaDoor
open Go Go.Gw Go.ChangeShapes Go.WideShapes
set_option linter.unusedVariables false
set_option linter.unusedSimpArgs false
set_option maxRecDepth 100000
section
variable {w : World} {r : Reach} {b0 : Nat} {v : Value}
theorem dec_card {ecs : List Value} (h : Rd Tryd.prog w 77 ecs) : ∃ s : SV, ecs = Enc.enc s ∧ ∃ xs, SL w 0 w.heap.size s.v xs ∧ ∀ n ∈ xs, In64 n := by
  obtain ⟨hl, hf⟩ := h.struct Tryd.underlying77
  have hc : Tryd.prog.cellsOf 77 = 1 := by kernel_rfl
  have h0 := h.fieldAt (i := 0) (ft := 55) (n := 1) Tryd.underlying77 rfl rfl rfl (by kernel_rfl)
  rw [hc] at hl
  match ecs, hl with
  | [c], _ =>
    obtain ⟨u, xs, hu, hs, hq⟩ := rd_ints h0
    simp at hu
    subst hu
    have e := svOf_v hs
    refine ⟨svOf c, ?_, xs, ?_, hq⟩
    · show [c] = [(svOf c).v]; rw [e]
    · rw [e]; exact hs
theorem open_laws_Card (hv : Value.okWide Tryd.prog w r b0 77 v) (h : Rd Tryd.prog w 77 v.cells.toList) : ∃ x : { x : OSl // x.ok w }, v = .agg #[x.1.v] := by
  obtain ⟨cs, rfl⟩ := okWide_agg0 Tryd.underlying77 hv
  obtain ⟨s, hs, xs, h1, h2⟩ := dec_card h
  refine ⟨⟨⟨s.v, xs⟩, h1, h2⟩, ?_⟩
  have : cs = #[s.v] := Array.ext' hs
  rw [this]
/-- a deck -/
structure ODk where
  v : Value
  svs : List SV
  xss : List (List Int)
structure ODk.ok (w : World) (x : ODk) : Prop where
  sll : SLL w 0 w.heap.size x.svs x.v x.xss
  in64 : ∀ i, i < x.xss.length → ∀ n ∈ x.xss.getD i [], In64 n
theorem rd_Cards {cs : List Value} (h : Rd Tryd.prog w 22 cs) : ∃ v, cs = [v] ∧ ∃ svs xss, SLL w 0 w.heap.size svs v xss ∧ ∀ i, i < xss.length → ∀ n ∈ xss.getD i [], In64 n := by
  obtain ⟨v, svs, hv, hs, hq⟩ := SL.of_rd (α := SV) Tryd.underlying22 (by kernel_rfl) (fun ecs h => dec_card h) h
  refine ⟨v, hv, svs, ?_⟩
  obtain ⟨xss, hl, hp⟩ := choose_list (p := fun i (xs : List Int) => SL w 0 w.heap.size (svD svs i) xs ∧ ∀ n ∈ xs, In64 n) svs.length (fun i hi => by
    have := hq (svs.getD i sv0) (by rw [List.getD_eq_getElem?_getD, List.getElem?_eq_getElem hi]; exact List.getElem_mem hi)
    exact this)
  have hg : ∀ i, i < xss.length → SL w 0 w.heap.size (svD svs i) (xss.getD i []) ∧ ∀ n ∈ xss.getD i [], In64 n := fun i hi => hp i _ (by rw [List.getD_eq_getElem?_getD, List.getElem?_eq_getElem hi]; rfl)
  exact ⟨xss, ⟨hs, hl.symm, fun i hi => (hg i hi).1⟩, fun i hi => (hg i hi).2⟩
theorem open_Sl_laws_Card (hv : Value.okWide Tryd.prog w r b0 22 v) (h : Rd Tryd.prog w 22 v.cells.toList) : ∃ x : { x : ODk // x.ok w }, v = x.1.v := by
  obtain ⟨a, l, c, rfl⟩ := okWide_slice Tryd.underlying22 hv
  obtain ⟨u, hu, svs, xss, hs, hq⟩ := rd_Cards h
  simp only [Value.cells, List.cons.injEq, and_true] at hu
  subst hu
  exact ⟨⟨⟨_, svs, xss⟩, hs, hq⟩, rfl⟩
end
end Go.Proofs.YtdkedajdgllilaaDoor

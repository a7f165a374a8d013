/- How the laws' arguments read, type by type. -/
import Derived.Test.YthigkbkaeopipaaL7
import Derived.Test.YthigkbkaeopipaaTy
namespace Go.Proofs.Ythigkbkaeopipaa
open Go Go.Gw Go.ChangeShapes Go.WideShapes
set_option linter.unusedVariables false
set_option maxRecDepth 100000
section
variable {w : World} {r : Reach} {b0 : Nat} {v : Value}
/-- a slice of numbers -/
structure OSl where
  v : Value
  xs : List Int
structure OSl.ok (w : World) (x : OSl) : Prop where
  sl : SL w 0 w.heap.size x.v x.xs
  in64 : ∀ n ∈ x.xs, In64 n
theorem rd_ints {cs : List Value} (h : Rd Try.prog w 38 cs) : ∃ v xs, cs = [v] ∧ SL w 0 w.heap.size v (xs : List Int) ∧ ∀ x ∈ xs, In64 x :=
  SL.of_rd Try.underlying38 (by kernel_rfl) (dec_int Try.underlying2) h
theorem open_Sl_int64 (hv : Value.okWide Try.prog w r b0 38 v) (h : Rd Try.prog w 38 v.cells.toList) : ∃ x : { x : OSl // x.ok w }, v = x.1.v := by
  obtain ⟨a, l, c, rfl⟩ := okWide_slice Try.underlying38 hv
  obtain ⟨u, xs, hu, hs, hq⟩ := rd_ints h
  simp only [Value.cells, List.cons.injEq, and_true] at hu
  subst hu
  exact ⟨⟨⟨_, xs⟩, hs, hq⟩, rfl⟩
/-- a slice of pairs of numbers -/
structure OPs where
  v : Value
  xs : List (Int × Int)
structure OPs.ok (w : World) (x : OPs) : Prop where
  sl : SL w 0 w.heap.size x.v x.xs
  in64 : ∀ p ∈ x.xs, In64 p.1 ∧ In64 p.2
theorem rd_Wires {cs : List Value} (h : Rd Try.prog w 79 cs) : ∃ v xs, cs = [v] ∧ SL w 0 w.heap.size v (xs : List (Int × Int)) ∧ ∀ x ∈ xs, In64 x.1 ∧ In64 x.2 :=
  SL.of_rd Try.underlying79 (by kernel_rfl) (dec_pair Try.underlying191 (by kernel_rfl) rfl rfl rfl rfl (by kernel_rfl) (by kernel_rfl) Try.underlying2 Try.underlying2) h
theorem open_Sl_laws_Wire (hv : Value.okWide Try.prog w r b0 79 v) (h : Rd Try.prog w 79 v.cells.toList) : ∃ x : { x : OPs // x.ok w }, v = x.1.v := by
  obtain ⟨a, l, c, rfl⟩ := okWide_slice Try.underlying79 hv
  obtain ⟨u, xs, hu, hs, hq⟩ := rd_Wires h
  simp only [Value.cells, List.cons.injEq, and_true] at hu
  subst hu
  exact ⟨⟨⟨_, xs⟩, hs, hq⟩, rfl⟩
theorem open_laws_Wire (hv : Value.okWide Try.prog w r b0 191 v) (h : Rd Try.prog w 191 v.cells.toList) : ∃ x : { p : Int × Int // In64 p.1 ∧ In64 p.2 }, v = .agg #[.int .i64 x.1.1, .int .i64 x.1.2] := by
  obtain ⟨cs, rfl⟩ := okWide_agg0 Try.underlying191 hv
  obtain ⟨x, hx, hq⟩ := dec_pair Try.underlying191 (by kernel_rfl) rfl rfl rfl rfl (by kernel_rfl) (by kernel_rfl) Try.underlying2 Try.underlying2 _ h
  refine ⟨⟨x, hq⟩, ?_⟩
  have : cs = #[.int .i64 x.1, .int .i64 x.2] := Array.ext' hx
  rw [this]
theorem rd_Copys {cs : List Value} (h : Rd Try.prog w 87 cs) : ∃ v xs, cs = [v] ∧ SL w 0 w.heap.size v (xs : List (Int × Int)) ∧ ∀ x ∈ xs, In64 x.1 ∧ In64 x.2 :=
  SL.of_rd Try.underlying87 (by kernel_rfl) (dec_pair Try.underlying163 (by kernel_rfl) rfl rfl rfl rfl (by kernel_rfl) (by kernel_rfl) Try.underlying2 Try.underlying2) h
theorem open_Sl_laws_Copy (hv : Value.okWide Try.prog w r b0 87 v) (h : Rd Try.prog w 87 v.cells.toList) : ∃ x : { x : OPs // x.ok w }, v = x.1.v := by
  obtain ⟨a, l, c, rfl⟩ := okWide_slice Try.underlying87 hv
  obtain ⟨u, xs, hu, hs, hq⟩ := rd_Copys h
  simp only [Value.cells, List.cons.injEq, and_true] at hu
  subst hu
  exact ⟨⟨⟨_, xs⟩, hs, hq⟩, rfl⟩
theorem open_laws_Copy (hv : Value.okWide Try.prog w r b0 163 v) (h : Rd Try.prog w 163 v.cells.toList) : ∃ x : { p : Int × Int // In64 p.1 ∧ In64 p.2 }, v = .agg #[.int .i64 x.1.1, .int .i64 x.1.2] := by
  obtain ⟨cs, rfl⟩ := okWide_agg0 Try.underlying163 hv
  obtain ⟨x, hx, hq⟩ := dec_pair Try.underlying163 (by kernel_rfl) rfl rfl rfl rfl (by kernel_rfl) (by kernel_rfl) Try.underlying2 Try.underlying2 _ h
  refine ⟨⟨x, hq⟩, ?_⟩
  have : cs = #[.int .i64 x.1, .int .i64 x.2] := Array.ext' hx
  rw [this]
/-- a board -/
structure OBd where
  e : Int
  n : Int
  j : Int
  v : Value
  xs : List (Int × Int)
structure OBd.ok (w : World) (x : OBd) : Prop where
  sl : SL w 0 w.heap.size x.v x.xs
  in64 : ∀ p ∈ x.xs, In64 p.1 ∧ In64 p.2
  e : In64 x.e
  n : In64 x.n
  j : In64 x.j
theorem open_laws_Board (hv : Value.okWide Try.prog w r b0 81 v) (h : Rd Try.prog w 81 v.cells.toList) : ∃ x : { x : OBd // x.ok w }, v = .agg #[.int .i64 x.1.e, .int .i64 x.1.n, .int .i64 x.1.j, x.1.v] := by
  obtain ⟨cs, rfl⟩ := okWide_agg0 Try.underlying81 hv
  obtain ⟨hl, hf⟩ := h.struct Try.underlying81
  have hc : Try.prog.cellsOf 81 = 4 := by kernel_rfl
  have h0 := h.fieldAt (i := 0) (ft := 2) (n := 1) Try.underlying81 rfl rfl rfl (by kernel_rfl)
  have h1 := h.fieldAt (i := 1) (ft := 2) (n := 1) Try.underlying81 rfl rfl rfl (by kernel_rfl)
  have h2 := h.fieldAt (i := 2) (ft := 2) (n := 1) Try.underlying81 rfl rfl rfl (by kernel_rfl)
  have h3 := h.fieldAt (i := 3) (ft := 79) (n := 1) Try.underlying81 rfl rfl rfl (by kernel_rfl)
  rw [hc] at hl
  simp only [Value.cells] at hl h0 h1 h2 h3
  match cs, hl with
  | ⟨[a, b, c, d]⟩, _ =>
    obtain ⟨x0, e0, q0⟩ := h0.int Try.underlying2
    obtain ⟨x1, e1, q1⟩ := h1.int Try.underlying2
    obtain ⟨x2, e2, q2⟩ := h2.int Try.underlying2
    obtain ⟨u, xs, hu, hs, hq⟩ := rd_Wires h3
    simp at e0 e1 e2 hu
    subst e0; subst e1; subst e2; subst hu
    exact ⟨⟨⟨x0, x1, x2, _, xs⟩, hs, hq, wf64 q0, wf64 q1, wf64 q2⟩, rfl⟩
end
end Go.Proofs.Ythigkbkaeopipaa

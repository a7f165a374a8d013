/- Rules of my own: slices of pairs of numbers. -/
import Derived.Test.YticnemjjjceiaaaDoorL10
import Derived.Laws.StructEq
namespace Go.Gw
open Go
set_option linter.unusedVariables false
set_option linter.unusedSimpArgs false
section
variable {P : Program} {N : Nat} {Q : Post} {σ : Fm} {w w' : World} {ops : Array Oper} {rest : List Oper} {T ty : TypeId} {x y : Operand} {v u : Value} {lo hi : Nat} {pos : String} {af : Array Edge} {d e B : Nat}
theorem y_load_pair [TStr P T 2] {n : Nat} {xs : List (Int × Int)} (hx : ev σ x = some (ptr (sb v) (so v + n * 2))) (h : SL w lo hi v xs := by repeat (first | assumption | exact Go.Gw.Own.sl (by assumption) | exact Go.Gw.Box.at (by assumption) | exact Go.Gw.SLL.el (by first | assumption | exact Go.Gw.OwnD.sll (by assumption)) _ (by omega) | exact Go.Gw.SLL.at (by first | assumption | exact Go.Gw.OwnD.sll (by assumption)) (by omega) | exact Go.Gw.OwnD.sll (by assumption) | (apply Go.Gw.SL.chg; case hx => assumption) | (apply Go.Gw.Own.chg; case hx => assumption) | (apply Go.Gw.Box.chg; case hx => assumption) | (apply Go.Gw.At.chg; case hx => assumption) | exact .inl (Nat.zero_le _) | exact .inr (Nat.zero_le _) | (show _ ∨ _; omega))) (hn : n < xs.length := by first | omega | (simp only [List.length_set]; omega) | (simp only [List.length_set, List.length_append, List.length_cons, List.length_nil]; omega)) : YE P σ (.load T x) ty w (.agg #[.int .i64 (xs.getD n (0, 0)).1, .int .i64 (xs.getD n (0, 0)).2]) :=
  y_load_els (d := (0, 0)) hx h rfl hn rfl
theorem y_load_paire [TStr P T 2] {n : Nat} {xs : List (Int × Int)} {a b : Int} (hx : ev σ x = some (ptr (sb v) (so v + n * 2))) (hg : xs.getD n (0, 0) = (a, b)) (h : SL w lo hi v xs := by repeat (first | assumption | exact Go.Gw.Own.sl (by assumption) | exact Go.Gw.Box.at (by assumption) | exact Go.Gw.SLL.el (by first | assumption | exact Go.Gw.OwnD.sll (by assumption)) _ (by omega) | exact Go.Gw.SLL.at (by first | assumption | exact Go.Gw.OwnD.sll (by assumption)) (by omega) | exact Go.Gw.OwnD.sll (by assumption) | (apply Go.Gw.SL.chg; case hx => assumption) | (apply Go.Gw.Own.chg; case hx => assumption) | (apply Go.Gw.Box.chg; case hx => assumption) | (apply Go.Gw.At.chg; case hx => assumption) | exact .inl (Nat.zero_le _) | exact .inr (Nat.zero_le _) | (show _ ∨ _; omega))) (hn : n < xs.length := by first | omega | (simp only [List.length_set]; omega) | (simp only [List.length_set, List.length_append, List.length_cons, List.length_nil]; omega)) : YE P σ (.load T x) ty w (.agg #[.int .i64 a, .int .i64 b]) := by
  have := y_load_pair (P := P) (T := T) (ty := ty) hx h hn; rwa [hg] at this
theorem y_load_p0 [TScal P T] {n : Nat} {xs : List (Int × Int)} (hx : ev σ x = some (ptr (sb v) (so v + n * 2 + 0))) (h : SL w lo hi v xs := by repeat (first | assumption | exact Go.Gw.Own.sl (by assumption) | exact Go.Gw.Box.at (by assumption) | exact Go.Gw.SLL.el (by first | assumption | exact Go.Gw.OwnD.sll (by assumption)) _ (by omega) | exact Go.Gw.SLL.at (by first | assumption | exact Go.Gw.OwnD.sll (by assumption)) (by omega) | exact Go.Gw.OwnD.sll (by assumption) | (apply Go.Gw.SL.chg; case hx => assumption) | (apply Go.Gw.Own.chg; case hx => assumption) | (apply Go.Gw.Box.chg; case hx => assumption) | (apply Go.Gw.At.chg; case hx => assumption) | exact .inl (Nat.zero_le _) | exact .inr (Nat.zero_le _) | (show _ ∨ _; omega))) (hn : n < xs.length := by first | omega | (simp only [List.length_set]; omega) | (simp only [List.length_set, List.length_append, List.length_cons, List.length_nil]; omega)) : YE P σ (.load T x) ty w (.int .i64 (xs.getD n (0, 0)).1) := y_load_elf hx h rfl hn rfl
theorem y_load_p1 [TScal P T] {n : Nat} {xs : List (Int × Int)} (hx : ev σ x = some (ptr (sb v) (so v + n * 2 + 1))) (h : SL w lo hi v xs := by repeat (first | assumption | exact Go.Gw.Own.sl (by assumption) | exact Go.Gw.Box.at (by assumption) | exact Go.Gw.SLL.el (by first | assumption | exact Go.Gw.OwnD.sll (by assumption)) _ (by omega) | exact Go.Gw.SLL.at (by first | assumption | exact Go.Gw.OwnD.sll (by assumption)) (by omega) | exact Go.Gw.OwnD.sll (by assumption) | (apply Go.Gw.SL.chg; case hx => assumption) | (apply Go.Gw.Own.chg; case hx => assumption) | (apply Go.Gw.Box.chg; case hx => assumption) | (apply Go.Gw.At.chg; case hx => assumption) | exact .inl (Nat.zero_le _) | exact .inr (Nat.zero_le _) | (show _ ∨ _; omega))) (hn : n < xs.length := by first | omega | (simp only [List.length_set]; omega) | (simp only [List.length_set, List.length_append, List.length_cons, List.length_nil]; omega)) : YE P σ (.load T x) ty w (.int .i64 (xs.getD n (0, 0)).2) := y_load_elf hx h rfl hn rfl
theorem w_store_p0 [hT : TScal P T] {n : Nat} {xs : List (Int × Int)} {a : Int} (hx : ev σ x = some (ptr (sb v) (so v + n * 2 + 0))) (hy : ev σ y = some (.int .i64 a)) (h : SL w lo hi v xs := by repeat (first | assumption | exact Go.Gw.Own.sl (by assumption) | exact Go.Gw.Box.at (by assumption) | exact Go.Gw.SLL.el (by first | assumption | exact Go.Gw.OwnD.sll (by assumption)) _ (by omega) | exact Go.Gw.SLL.at (by first | assumption | exact Go.Gw.OwnD.sll (by assumption)) (by omega) | exact Go.Gw.OwnD.sll (by assumption) | (apply Go.Gw.SL.chg; case hx => assumption) | (apply Go.Gw.Own.chg; case hx => assumption) | (apply Go.Gw.Box.chg; case hx => assumption) | (apply Go.Gw.At.chg; case hx => assumption) | exact .inl (Nat.zero_le _) | exact .inr (Nat.zero_le _) | (show _ ∨ _; omega))) (hn : n < xs.length := by first | omega | (simp only [List.length_set]; omega) | (simp only [List.length_set, List.length_append, List.length_cons, List.length_nil]; omega))
    (next : ∀ w', SL w' lo hi v (xs.set n (a, (xs.getD n (0, 0)).2)) → Chg (sb v) (sb v + 1) w w' → w'.heap.size = w.heap.size → W P N ops Q rest σ w') : W P N ops Q (⟨none, .store T x y, ty, pos, af, none⟩ :: rest) σ w :=
  w_store_slf (d := (0, 0)) (x' := (a, (xs.getD n (0, 0)).2)) hx hy rfl h rfl hn (by decide) rfl next
theorem w_store_p1 [hT : TScal P T] {n : Nat} {xs : List (Int × Int)} {a : Int} (hx : ev σ x = some (ptr (sb v) (so v + n * 2 + 1))) (hy : ev σ y = some (.int .i64 a)) (h : SL w lo hi v xs := by repeat (first | assumption | exact Go.Gw.Own.sl (by assumption) | exact Go.Gw.Box.at (by assumption) | exact Go.Gw.SLL.el (by first | assumption | exact Go.Gw.OwnD.sll (by assumption)) _ (by omega) | exact Go.Gw.SLL.at (by first | assumption | exact Go.Gw.OwnD.sll (by assumption)) (by omega) | exact Go.Gw.OwnD.sll (by assumption) | (apply Go.Gw.SL.chg; case hx => assumption) | (apply Go.Gw.Own.chg; case hx => assumption) | (apply Go.Gw.Box.chg; case hx => assumption) | (apply Go.Gw.At.chg; case hx => assumption) | exact .inl (Nat.zero_le _) | exact .inr (Nat.zero_le _) | (show _ ∨ _; omega))) (hn : n < xs.length := by first | omega | (simp only [List.length_set]; omega) | (simp only [List.length_set, List.length_append, List.length_cons, List.length_nil]; omega))
    (next : ∀ w', SL w' lo hi v (xs.set n ((xs.getD n (0, 0)).1, a)) → Chg (sb v) (sb v + 1) w w' → w'.heap.size = w.heap.size → W P N ops Q rest σ w') : W P N ops Q (⟨none, .store T x y, ty, pos, af, none⟩ :: rest) σ w :=
  w_store_slf (d := (0, 0)) (x' := ((xs.getD n (0, 0)).1, a)) hx hy rfl h rfl hn (by decide) rfl next
/-- a pair, into a slice of the call's own -/
theorem w_store_ownp [hT : TStr P T 2] {n : Nat} {xs : List (Int × Int)} {a b : Int} (hx : ev σ x = some (ptr (sb v) (so v + n * 2))) (hy : ev σ y = some (.agg #[.int .i64 a, .int .i64 b])) (h : Own w e B v xs := by repeat (first | assumption | exact Go.Gw.Own.sl (by assumption) | exact Go.Gw.Box.at (by assumption) | exact Go.Gw.SLL.el (by first | assumption | exact Go.Gw.OwnD.sll (by assumption)) _ (by omega) | exact Go.Gw.SLL.at (by first | assumption | exact Go.Gw.OwnD.sll (by assumption)) (by omega) | exact Go.Gw.OwnD.sll (by assumption) | (apply Go.Gw.SL.chg; case hx => assumption) | (apply Go.Gw.Own.chg; case hx => assumption) | (apply Go.Gw.Box.chg; case hx => assumption) | (apply Go.Gw.At.chg; case hx => assumption) | exact .inl (Nat.zero_le _) | exact .inr (Nat.zero_le _) | (show _ ∨ _; omega))) (hn : n < xs.length := by first | omega | (simp only [List.length_set]; omega) | (simp only [List.length_set, List.length_append, List.length_cons, List.length_nil]; omega))
    (next : ∀ w', Own w' e B v (xs.set n (a, b)) → Chg (bL v) (bH v) w w' → w'.heap.size = w.heap.size → W P N ops Q rest σ w') : W P N ops Q (⟨none, .store T x y, ty, pos, af, none⟩ :: rest) σ w := by
  refine ⟨fun ac ha => ?_⟩
  refine wpList_plain rfl fun K hK => ?_
  unfold Oper.wp
  have h1 := own_set (u := .int .i64 a) (k := 0) (x' := (a, xs[n].2)) h hn rfl (by decide)
  have hn' : n < (xs.set n (a, xs[n].2)).length := by simpa using hn
  have h2 := own_set (u := .int .i64 b) (k := 1) (x' := (a, b)) h1.1 hn' (by simp; rfl) (by decide)
  have c0 := (h.sl.el n xs[n] (by simp [hn])).go 0 (.int .i64 xs[n].1) rfl
  have c1 := (h1.1.sl.el n (a, xs[n].2) (by simp [hn])).go 1 (.int .i64 xs[n].2) rfl
  have f0 := h.sl.free (n * 2 + 0) (by show n * 2 + 0 < xs.length * 2; omega)
  have f1 := h1.1.sl.free (n * 2 + 1) (by show n * 2 + 1 < (xs.set n (a, xs[n].2)).length * 2; simp; omega)
  rw [← Nat.add_assoc] at f0 f1
  change w.cell? ⟨sb v, so v + n * 2 + 0, none⟩ = some _ at c0
  change (w.setCell ⟨sb v, so v + n * 2 + 0, none⟩ (.int .i64 a)).cell? ⟨sb v, so v + n * 2 + 1, none⟩ = some _ at c1
  change (w.setCell ⟨sb v, so v + n * 2 + 0, none⟩ (.int .i64 a)).frozen? ⟨sb v, so v + n * 2 + 1, none⟩ = false at f1
  have : (execOp ac.eval ⟨none, .store T x y, ty, pos, af, none⟩).run P w = .ok .skip ((w.setCell ⟨sb v, so v + n * 2 + 0, none⟩ (.int .i64 a)).setCell ⟨sb v, so v + n * 2 + 1, none⟩ (.int .i64 b)) := by
    simp only [Nat.add_zero] at c0 c1 f0 f1
    have o1 : ∀ m, (Value.int .i64 m).oneCell' = true := fun _ => rfl
    simp [execOp, ha.eval hx, ha.eval hy, Instr.storeAt, Instr.sureAddr, storeVar, run_size w hT.size, Value.cells, storeCells, run_store, add_lit, c0, f0, c1, f1, o1]
  rw [this]
  have hs : (xs.set n (a, xs[n].2)).set n (a, b) = xs.set n (a, b) := by simp
  have h2' := h2.1
  rw [hs] at h2'
  exact hK _ _ ((next _ h2' (h1.2.trans h2.2) (by simp)).go _ (ha.put_none _))
/-- a struct of two numbers -/
class TPair (P : Program) (T : TypeId) : Prop where
  held : P.stoodInHeld T = false
  plain : P.eqGuardType P.depth T = false
  und : ∃ f0 f1 : Field, P.underlying T = some (.struct #[f0, f1]) ∧ f0.name ≠ "_" ∧ f1.name ≠ "_" ∧ f0.offset = 0 ∧ f1.offset = 1 ∧ P.underlying f0.type = some (.int .i64) ∧ P.underlying f1.type = some (.int .i64)
theorem run_equalIn_pair [h : TPair P T] (w : World) (dd : Nat) (a b c e : Int) : (Op.equalIn (dd + 2) T (.agg #[.int .i64 a, .int .i64 b]) (.agg #[.int .i64 c, .int .i64 e])).run P w = .ok (decide ((a, b) = (c, e))) w := by
  obtain ⟨f0, f1, hu, n0, n1, o0, o1, t0, t1⟩ := h.und
  have hf : P.fieldsOf T = #[f0, f1] := by simp [Program.fieldsOf, hu]
  rw [run_equalIn_struct w (dd + 1) T _ _ (by rw [hf]; exact hu) h.held, hf]
  have g0 : (isAgg f0.type).run P w = .ok false w := by simp [isAgg, run_underlying t0]
  have g1 : (isAgg f1.type).run P w = .ok false w := by simp [isAgg, run_underlying t1]
  have e0 := run_equalIn_int (P := P) w dd f0.type .i64 .i64 a c t0
  have e1 := run_equalIn_int (P := P) w dd f1.type .i64 .i64 b e t1
  by_cases h0 : a = c
  · by_cases h1 : b = e
    · subst h0; subst h1
      simp [Op.eqFields, n0, n1, o0, o1, Go.part, g0, g1, e0, e1]
    · subst h0
      simp [Op.eqFields, n0, n1, o0, o1, Go.part, g0, g1, e0, e1, h1]
  · simp [Op.eqFields, n0, n1, o0, o1, Go.part, g0, g1, e0, e1, h0]
theorem y_peq {t t' : TypeId} {a b c e : Int} [h : TPair P t] (hx : ev σ x = some (.agg #[.int .i64 a, .int .i64 b])) (hy : ev σ y = some (.agg #[.int .i64 c, .int .i64 e])) : YE P σ (.binOp .eql t x y t') ty w (.bool (decide ((a, b) = (c, e)))) := ⟨fun w' _ ρ hρ => by
  have := run_equalIn_pair (P := P) (T := t) w' 9998 a b c e
  simp [execOp, hρ _ _ hx, hρ _ _ hy, run_eqGuard_agg w' _ t _ _ _ _ h.plain, run_eql_struct, this]⟩
theorem y_pne {t t' : TypeId} {a b c e : Int} [h : TPair P t] (hx : ev σ x = some (.agg #[.int .i64 a, .int .i64 b])) (hy : ev σ y = some (.agg #[.int .i64 c, .int .i64 e])) : YE P σ (.binOp .neq t x y t') ty w (.bool (decide (¬ (a, b) = (c, e)))) := ⟨fun w' _ ρ hρ => by
  have := run_equalIn_pair (P := P) (T := t) w' 9998 a b c e
  have e2 : (decide (¬ (a, b) = (c, e))) = !decide ((a, b) = (c, e)) := by by_cases hh : (a, b) = (c, e) <;> simp [hh]
  rw [e2]
  simp only [execOp, hρ _ _ hx, hρ _ _ hy, run_eqGuard_agg w' _ t _ _ _ _ h.plain, run_neq_struct, this, Sem.run_bind, Sem.run_pure, Result.andThen_ok]⟩
end
end Go.Gw

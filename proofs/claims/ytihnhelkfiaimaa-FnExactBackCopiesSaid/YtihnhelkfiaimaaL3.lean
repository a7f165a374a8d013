/- Rules of my own: types; integers; memory that is read; boxes. -/
import Derived.Test.YtihnhelkfiaimaaL2
namespace Go.Gw
open Go
set_option linter.unusedVariables false
set_option linter.unusedSimpArgs false

/-! ### What is known of types -/
def notAgg : TypeDesc → Bool
  | .struct _ => false
  | .array _ _ => false
  | _ => true
class TScal (P : Program) (T : TypeId) : Prop where
  und : ∃ d, P.underlying T = some d ∧ notAgg d = true
  size : (P.info? T).map (·.size) = some 1
class TStr (P : Program) (T : TypeId) (n : outParam Nat) : Prop where
  und : ∃ fs, P.underlying T = some (.struct fs)
  size : (P.info? T).map (·.size) = some n
class TSli (P : Program) (T : TypeId) (E sz bytes : outParam Nat) : Prop where
  und : P.underlying T = some (.slice E)
  size : (P.info? E).map (·.size) = some sz
  bytes : (P.info? E).map (·.bytes) = some bytes
  zero : ((P.info? E).bind (·.zero)).isSome = true
  zlen : ∀ z, (P.info? E).bind (·.zero) = some z → z.cells.size = sz
class TZero (P : Program) (T : TypeId) (z : outParam Value) : Prop where
  zero : (P.info? T).bind (·.zero) = some z
class TFld (P : Program) (T : TypeId) (k : Nat) (off : outParam Nat) : Prop where
  und : ∃ fs f, P.underlying T = some (.struct fs) ∧ fs[k]? = some f ∧ f.offset = off ∧ ∃ n, (P.info? f.type).map (·.size) = some (n + 1)

theorem zlen_of {P : Program} {E : TypeId} {z : Value} {n : Nat} (h : (P.info? E).bind (·.zero) = some z) (hn : z.cells.size = n) : ∀ u, (P.info? E).bind (·.zero) = some u → u.cells.size = n := fun u hu => by
  rw [h] at hu; cases hu; exact hn
section
variable {P : Program} (w : World)
theorem isAgg_scal (T : TypeId) [h : TScal P T] : (isAgg T).run P w = .ok false w := by
  obtain ⟨d, hd, hn⟩ := h.und
  cases d <;> simp_all [isAgg, run_underlying hd, notAgg]
theorem isAgg_str (T : TypeId) {n : Nat} [h : TStr P T n] : (isAgg T).run P w = .ok true w := by
  obtain ⟨fs, hd⟩ := h.und
  simp [isAgg, run_underlying hd]
theorem run_size {T : TypeId} {n : Nat} (h : (P.info? T).map (·.size) = some n) : (sizeOf T).run P w = .ok n w := by
  cases hi : P.info? T with
  | none => simp [hi] at h
  | some i => simp [hi] at h; simp [sizeOf, typeInfo, hi, h]
theorem run_zero {T : TypeId} {z : Value} [h : TZero P T z] : (zeroValue T).run P w = .ok z w := by
  have := h.zero
  cases hi : P.info? T with
  | none => simp [hi] at this
  | some i => simp [hi] at this; simp [zeroValue, typeInfo, hi, this]
end

/-! ### Integers -/
section
variable {P : Program} {N : Nat} {σ : Fm} {w : World} {ty t t' : TypeId} {x y z : Operand} {k : IntKind} {a b : Int} {v u : Value}
theorem y_move (hx : ev σ x = some v) : YE P σ (.move x) ty w v := ⟨fun w' _ ρ hρ => by simp [execOp, hρ _ _ hx]⟩
theorem y_assign (hx : ev σ x = some v) : YE P σ (.assign x) ty w v := ⟨fun w' _ ρ hρ => by simp [execOp, hρ _ _ hx]⟩
theorem y_pick_t (hx : ev σ x = some (.bool true)) (hy : ev σ y = some v) : YE P σ (.pick x y z) ty w v := ⟨fun w' _ ρ hρ => by simp [execOp, hρ _ _ hx, hρ _ _ hy, asBool]⟩
theorem y_pick_f (hx : ev σ x = some (.bool false)) (hy : ev σ z = some v) : YE P σ (.pick x y z) ty w v := ⟨fun w' _ ρ hρ => by simp [execOp, hρ _ _ hx, hρ _ _ hy, asBool]⟩
theorem y_extract {vs : List Value} {i : Nat} (hx : ev σ x = some (.tuple vs.toArray)) (hi : vs[i]? = some v) : YE P σ (.extract x i) ty w v := ⟨fun w' _ ρ hρ => by simp [execOp, hρ _ _ hx, Instr.extract, hi]⟩
theorem y_add_wrap (hx : ev σ x = some (.int k a)) (hy : ev σ y = some (.int k b)) : YE P σ (.binOp .add t x y t') ty w (.int k (k.wrap (a + b))) := ⟨fun w' _ ρ hρ => by simp [execOp, hρ _ _ hx, hρ _ _ hy, eqGuard, binOp, Op.intArith]⟩
theorem y_sub_wrap (hx : ev σ x = some (.int k a)) (hy : ev σ y = some (.int k b)) : YE P σ (.binOp .sub t x y t') ty w (.int k (k.wrap (a - b))) := ⟨fun w' _ ρ hρ => by simp [execOp, hρ _ _ hx, hρ _ _ hy, eqGuard, binOp, Op.intArith]⟩
theorem y_mul_wrap (hx : ev σ x = some (.int k a)) (hy : ev σ y = some (.int k b)) : YE P σ (.binOp .mul t x y t') ty w (.int k (k.wrap (a * b))) := ⟨fun w' _ ρ hρ => by simp [execOp, hρ _ _ hx, hρ _ _ hy, eqGuard, binOp, Op.intArith]⟩
theorem y_quo_wrap (hx : ev σ x = some (.int k a)) (hy : ev σ y = some (.int k b)) (hb : b ≠ 0) : YE P σ (.binOp .quo t x y t') ty w (.int k (k.wrap (a.tdiv b))) := ⟨fun w' _ ρ hρ => by simp [execOp, hρ _ _ hx, hρ _ _ hy, eqGuard, binOp, Op.intDiv, hb]⟩
theorem y_rem_wrap (hx : ev σ x = some (.int k a)) (hy : ev σ y = some (.int k b)) (hb : b ≠ 0) : YE P σ (.binOp .rem t x y t') ty w (.int k (a.tmod b)) := ⟨fun w' _ ρ hρ => by simp [execOp, hρ _ _ hx, hρ _ _ hy, eqGuard, binOp, Op.intDiv, hb]⟩
theorem y_neg_wrap (hx : ev σ x = some (.int k a)) : YE P σ (.unOp .neg t x) ty w (.int k (k.wrap (0 - a))) := ⟨fun w' _ ρ hρ => by simp [execOp, hρ _ _ hx, Op.unary, Op.intArith]⟩
theorem y_conv_wrap {k' : IntKind} {s d : TypeId} (hx : ev σ x = some (.int k a)) (hs : ∃ e, P.underlying s = some e) (hd : P.underlying d = some (.int k')) : YE P σ (.convert s d x) ty w (.int k' (k'.wrap a)) := ⟨fun w' _ ρ hρ => by
  obtain ⟨e, he⟩ := hs
  simp [execOp, hρ _ _ hx, convert, run_underlying he, run_underlying hd, Conv.intToInt]⟩
abbrev In64 (a : Int) : Prop := -9223372036854775808 ≤ a ∧ a ≤ 9223372036854775807
theorem wrap_in {a : Int} (h : In64 a) : IntKind.i64.wrap a = a := IntWalk.i64_in a h
theorem y_add (hx : ev σ x = some (.int .i64 a)) (hy : ev σ y = some (.int .i64 b)) (h : In64 (a + b) := by exact ⟨by omega, by omega⟩) : YE P σ (.binOp .add t x y t') ty w (.int .i64 (a + b)) := by have := y_add_wrap (P := P) (w := w) (ty := ty) (t := t) (t' := t') hx hy; rwa [wrap_in h] at this
theorem y_sub (hx : ev σ x = some (.int .i64 a)) (hy : ev σ y = some (.int .i64 b)) (h : In64 (a - b) := by exact ⟨by omega, by omega⟩) : YE P σ (.binOp .sub t x y t') ty w (.int .i64 (a - b)) := by have := y_sub_wrap (P := P) (w := w) (ty := ty) (t := t) (t' := t') hx hy; rwa [wrap_in h] at this
theorem y_mul (hx : ev σ x = some (.int .i64 a)) (hy : ev σ y = some (.int .i64 b)) (h : In64 (a * b) := by exact ⟨by omega, by omega⟩) : YE P σ (.binOp .mul t x y t') ty w (.int .i64 (a * b)) := by have := y_mul_wrap (P := P) (w := w) (ty := ty) (t := t) (t' := t') hx hy; rwa [wrap_in h] at this
theorem y_neg (hx : ev σ x = some (.int .i64 a)) (h : In64 (-a) := by exact ⟨by omega, by omega⟩) : YE P σ (.unOp .neg t x) ty w (.int .i64 (-a)) := by
  have := y_neg_wrap (P := P) (w := w) (ty := ty) (t := t) hx
  rwa [Int.zero_sub, wrap_in h] at this
/-- a numerator that is not negative, a positive divisor -/
theorem y_quo (hx : ev σ x = some (.int .i64 a)) (hy : ev σ y = some (.int .i64 b)) (ha : 0 ≤ a := by omega) (hb : 0 < b := by omega) (hm : a ≤ 9223372036854775807 := by omega) : YE P σ (.binOp .quo t x y t') ty w (.int .i64 (a / b)) := by
  have := y_quo_wrap (P := P) (w := w) (ty := ty) (t := t) (t' := t') hx hy (by omega)
  rw [Int.tdiv_eq_ediv_of_nonneg ha] at this
  have h1 : 0 ≤ a / b := Int.ediv_nonneg ha (by omega)
  have h2 : a / b ≤ a := Int.ediv_le_self b ha
  rwa [wrap_in ⟨by omega, by omega⟩] at this
theorem y_rem (hx : ev σ x = some (.int .i64 a)) (hy : ev σ y = some (.int .i64 b)) (ha : 0 ≤ a := by omega) (hb : b ≠ 0 := by omega) : YE P σ (.binOp .rem t x y t') ty w (.int .i64 (a % b)) := by
  have := y_rem_wrap (P := P) (w := w) (ty := ty) (t := t) (t' := t') hx hy hb
  rwa [Int.tmod_eq_emod_of_nonneg ha] at this
theorem y_lt (hx : ev σ x = some (.int k a)) (hy : ev σ y = some (.int k b)) : YE P σ (.binOp .lss t x y t') ty w (.bool (decide (a < b))) := ⟨fun w' _ ρ hρ => by simp [execOp, hρ _ _ hx, hρ _ _ hy, eqGuard, binOp, Op.intCmp]⟩
theorem y_le (hx : ev σ x = some (.int k a)) (hy : ev σ y = some (.int k b)) : YE P σ (.binOp .leq t x y t') ty w (.bool (decide (a ≤ b))) := ⟨fun w' _ ρ hρ => by simp [execOp, hρ _ _ hx, hρ _ _ hy, eqGuard, binOp, Op.intCmp]⟩
theorem y_gt (hx : ev σ x = some (.int k a)) (hy : ev σ y = some (.int k b)) : YE P σ (.binOp .gtr t x y t') ty w (.bool (decide (b < a))) := ⟨fun w' _ ρ hρ => by simp [execOp, hρ _ _ hx, hρ _ _ hy, eqGuard, binOp, Op.intCmp]⟩
theorem y_ge (hx : ev σ x = some (.int k a)) (hy : ev σ y = some (.int k b)) : YE P σ (.binOp .geq t x y t') ty w (.bool (decide (b ≤ a))) := ⟨fun w' _ ρ hρ => by simp [execOp, hρ _ _ hx, hρ _ _ hy, eqGuard, binOp, Op.intCmp]⟩
theorem y_eq (hx : ev σ x = some (.int k a)) (hy : ev σ y = some (.int k b)) : YE P σ (.binOp .eql t x y t') ty w (.bool (decide (a = b))) := ⟨fun w' _ ρ hρ => by
  have e : (a == b) = decide (a = b) := by by_cases h : a = b <;> simp [h]
  simp [execOp, hρ _ _ hx, hρ _ _ hy, eqGuard, binOp, Op.intCmp, e]⟩
theorem y_ne (hx : ev σ x = some (.int k a)) (hy : ev σ y = some (.int k b)) : YE P σ (.binOp .neq t x y t') ty w (.bool (decide (¬ a = b))) := ⟨fun w' _ ρ hρ => by
  have e : (a != b) = decide (¬ a = b) := by by_cases h : a = b <;> simp [h]
  simp [execOp, hρ _ _ hx, hρ _ _ hy, eqGuard, binOp, Op.intCmp, e]⟩
class TBool (P : Program) (T : TypeId) : Prop where
  und : P.underlying T = some .bool
theorem run_equal_bool [h : TBool P t] {w : World} (p q : Bool) : (Op.equal t (.bool p) (.bool q)).run P w = .ok (p == q) w := by
  have e : ∀ d, (Op.equalIn (d + 1) t (.bool p) (.bool q)).run P w = .ok (p == q) w := fun d => by simp [Op.equalIn, run_underlying h.und]
  exact e 9999
theorem y_eqb [TBool P t] {p q : Bool} (hx : ev σ x = some (.bool p)) (hy : ev σ y = some (.bool q)) : YE P σ (.binOp .eql t x y t') ty w (.bool (decide (p = q))) := ⟨fun w' _ ρ hρ => by
  have e : (p == q) = decide (p = q) := by cases p <;> cases q <;> rfl
  simp [execOp, hρ _ _ hx, hρ _ _ hy, eqGuard, binOp, run_equal_bool, e]⟩
theorem y_neb [TBool P t] {p q : Bool} (hx : ev σ x = some (.bool p)) (hy : ev σ y = some (.bool q)) : YE P σ (.binOp .neq t x y t') ty w (.bool (decide (¬ p = q))) := ⟨fun w' _ ρ hρ => by
  have e : (!(p == q)) = decide (¬ p = q) := by cases p <;> cases q <;> rfl
  simp only [execOp, hρ _ _ hx, hρ _ _ hy, eqGuard, binOp, run_equal_bool, Sem.run_bind, Sem.run_pure, Result.andThen_ok, e]
  rfl⟩
theorem y_not {b : Bool} (hx : ev σ x = some (.bool b)) : YE P σ (.unOp .not t x) ty w (.bool (!b)) := ⟨fun w' _ ρ hρ => by simp [execOp, hρ _ _ hx, Op.unary]⟩
theorem y_not_dec {p : Prop} {dp : Decidable p} (hx : ev σ x = some (.bool (decide p))) : YE P σ (.unOp .not t x) ty w (.bool (decide (¬ p))) := ⟨fun w' _ ρ hρ => by simp [execOp, hρ _ _ hx, Op.unary]⟩
theorem y_max {t1 t2 : TypeId} (hx : ev σ x = some (.int k a)) (hy : ev σ y = some (.int k b)) : YE P σ (.call { callee := .builtin .max, args := #[x, y], argTypes := #[t1, t2] }) ty w (.int k (max a b)) := ⟨fun w' _ ρ hρ => by
  have e : (if b > a then b else a) = max a b := by split <;> omega
  simp [execOp, resolve, hρ _ _ hx, hρ _ _ hy, invoke, builtin, Builtin.max_, Builtin.max2, e]⟩
theorem y_min {t1 t2 : TypeId} (hx : ev σ x = some (.int k a)) (hy : ev σ y = some (.int k b)) : YE P σ (.call { callee := .builtin .min, args := #[x, y], argTypes := #[t1, t2] }) ty w (.int k (min a b)) := ⟨fun w' _ ρ hρ => by
  have e : (if b < a then b else a) = min a b := by split <;> omega
  simp [execOp, resolve, hρ _ _ hx, hρ _ _ hy, invoke, builtin, Builtin.min_, Builtin.min2, e]⟩
theorem y_nil {ad : Addr} (hx : ev σ x = some (.pointer (some ad))) : YE P σ (.nilCheck x) ty w (.pointer (some ad)) := ⟨fun w' _ ρ hρ => by simp [execOp, hρ _ _ hx]⟩
theorem y_func {f : FuncId} {xs : List Operand} {vs : List Value} (hx : evs σ xs = some vs) : YE P σ (.makeFunc (.func f) #[] xs.toArray) ty w (.func (.func f) #[] vs.toArray) := ⟨fun w' _ ρ hρ => by
  have : ∀ (xs : List Operand) (vs : List Value), evs σ xs = some vs → xs.map ρ = vs := by
    intro xs
    induction xs with
    | nil => intro vs h; simp [evs] at h; simp [h]
    | cons x r ih =>
      intro vs h
      simp only [evs] at h
      split at h
      · rename_i v' vs' h1 h2
        simp only [Option.some.injEq] at h
        subst h
        simp [hρ _ _ h1, ih _ h2]
      · cases h
  simp [execOp, Instr.makeFunc, this _ _ hx]⟩
end

/-! ### Cells -/
abbrev ptr (b o : Nat) : Value := .pointer (some ⟨b, o, none⟩)
theorem add_lit (b o n : Nat) : (⟨b, o, none⟩ : Addr).add n = ⟨b, o + n, none⟩ := by unfold Addr.add; split <;> simp_all
/-- from place o of block b on lie the cells cs -/
structure At (w : World) (b o : Nat) (cs : List Value) : Prop where
  go : ∀ i v, cs[i]? = some v → w.cell? ⟨b, o + i, none⟩ = some v
theorem At.chg {lo hi : Nat} {w w' : World} {b o : Nat} {cs : List Value} (h : At w b o cs) (hx : Chg lo hi w w') (ho : b < lo ∨ hi ≤ b) : At w' b o cs := ⟨fun i v hv => hx.cell (h.go i v hv) ho⟩
theorem At.ext {w w' : World} {b o : Nat} {cs : List Value} (h : At w b o cs) (hx : Ext w w') : At w' b o cs := h.chg hx (.inr (Nat.zero_le _))
/-- block b is a variable of the call's own, with these cells -/
structure Box (w : World) (b : Nat) (cs : List Value) : Prop where
  go : ∃ e, w.heap[b]? = some (.cells cs.toArray e (0, 0))
theorem Box.lt {w : World} {b : Nat} {cs : List Value} (h : Box w b cs) : b < w.heap.size := by obtain ⟨e, h⟩ := h.go; exact (Array.getElem?_eq_some_iff.1 h).1
theorem Box.chg {lo hi : Nat} {w w' : World} {b : Nat} {cs : List Value} (h : Box w b cs) (hx : Chg lo hi w w') (ho : b < lo ∨ hi ≤ b) : Box w' b cs := by
  have := h.lt
  obtain ⟨e, h⟩ := h.go
  exact ⟨e, by rw [hx.block b this ho]; exact h⟩
theorem Box.ext {w w' : World} {b : Nat} {cs : List Value} (h : Box w b cs) (hx : Ext w w') : Box w' b cs := h.chg hx (.inr (Nat.zero_le _))
theorem Box.at {w : World} {b : Nat} {cs : List Value} (h : Box w b cs) : At w b 0 cs := by
  obtain ⟨e, h⟩ := h.go
  refine ⟨fun i v hv => ?_⟩
  simp only [World.cell?, h, Nat.zero_add]
  simpa using hv
theorem Box.free {w : World} {b : Nat} {cs : List Value} (h : Box w b cs) (o : Nat) : w.frozen? ⟨b, o, none⟩ = false := by
  obtain ⟨e, h⟩ := h.go
  simp [World.frozen?, h]

section
variable {P : Program} {N : Nat} {σ : Fm} {w : World} {T ty : TypeId} {x y : Operand} {v u : Value} {b o : Nat} {cs : List Value}
theorem run_loadCellsFrom {a : Addr} : ∀ (cs : List Value) (i : Nat) (acc : Array Value), (∀ j v, cs[j]? = some v → w.cell? (a.add (i + j)) = some v) →
    (loadCellsFrom a i cs.length acc).run P w = .ok (acc ++ cs.toArray) w
  | [], i, acc, _ => by simp [loadCellsFrom]
  | c :: r, i, acc, h => by
    have h0 := h 0 c (by simp)
    simp only [Nat.add_zero] at h0
    simp only [List.length_cons, loadCellsFrom, Sem.run_bind, run_load, h0, Result.andThen_ok]
    rw [run_loadCellsFrom r (i + 1) (acc.push c) (fun j v hv => by have := h (j + 1) v (by simpa using hv); rwa [show i + 1 + j = i + (j + 1) by omega])]
    simp
theorem run_loadCells {a : Addr} (h : ∀ j v, cs[j]? = some v → w.cell? (a.add j) = some v) : (loadCells a cs.length).run P w = .ok cs.toArray w := by
  have := run_loadCellsFrom (P := P) (w := w) (a := a) cs 0 #[] (by simpa using h)
  simpa [loadCells] using this
theorem run_load_scal [TScal P T] (h : At w b o [v]) : (loadVar T ⟨b, o, none⟩).run P w = .ok v w := by
  have h0 := h.go 0 v (by simp)
  simp only [Nat.add_zero] at h0
  simp [loadVar, isAgg_scal, h0]
theorem run_load_str {n : Nat} [hT : TStr P T n] (h : At w b o cs) (hn : cs.length = n) : (loadVar T ⟨b, o, none⟩).run P w = .ok (.agg cs.toArray) w := by
  subst hn
  have e : (loadCells ⟨b, o, none⟩ cs.length).run P w = .ok cs.toArray w := run_loadCells fun j v hv => by rw [add_lit]; exact h.go j v hv
  simp [loadVar, isAgg_str, run_size w hT.size, e]
theorem At.one (h : At w b 0 cs) (hk : cs[o]? = some v) : At w b o [v] := ⟨fun i u hu => by
  cases i with
  | zero => simp at hu; subst hu; have := h.go o v hk; simpa using this
  | succ i => simp at hu⟩
theorem At.part {k n : Nat} (h : At w b o cs) : At w b (o + k) ((cs.drop k).take n) := ⟨fun i u hu => by
  rw [List.getElem?_take] at hu
  split at hu
  · rw [List.getElem?_drop] at hu
    have := h.go _ _ hu
    rwa [← Nat.add_assoc] at this
  · cases hu⟩
theorem At.cell (h : At w b o cs) {k : Nat} (hk : cs[k]? = some v) : At w b (o + k) [v] := ⟨fun i u hu => by
  cases i with
  | zero => simp at hu; subst hu; have := h.go k v hk; simpa using this
  | succ i => simp at hu⟩

theorem y_load [TScal P T] (hx : ev σ x = some (ptr b o)) (h : At w b o [v] := by repeat (first | assumption | exact Go.Gw.Own.sl (by assumption) | exact Go.Gw.Box.at (by assumption) | exact Go.Gw.SLL.el (by first | assumption | exact Go.Gw.OwnD.sll (by assumption)) _ (by omega) | exact Go.Gw.SLL.at (by first | assumption | exact Go.Gw.OwnD.sll (by assumption)) (by omega) | exact Go.Gw.OwnD.sll (by assumption) | (apply Go.Gw.SL.chg; case hx => assumption) | (apply Go.Gw.Own.chg; case hx => assumption) | (apply Go.Gw.Box.chg; case hx => assumption) | (apply Go.Gw.At.chg; case hx => assumption) | exact .inl (Nat.zero_le _) | exact .inr (Nat.zero_le _) | (show _ ∨ _; omega))) : YE P σ (.load T x) ty w v := ⟨fun w' hw ρ hρ => by
  simp [execOp, hρ _ _ hx, Instr.loadAt, Instr.sureAddr, run_load_scal (h.ext hw)]⟩
theorem y_loads {n : Nat} [TStr P T n] (hx : ev σ x = some (ptr b o)) (h : At w b o cs := by repeat (first | assumption | exact Go.Gw.Own.sl (by assumption) | exact Go.Gw.Box.at (by assumption) | exact Go.Gw.SLL.el (by first | assumption | exact Go.Gw.OwnD.sll (by assumption)) _ (by omega) | exact Go.Gw.SLL.at (by first | assumption | exact Go.Gw.OwnD.sll (by assumption)) (by omega) | exact Go.Gw.OwnD.sll (by assumption) | (apply Go.Gw.SL.chg; case hx => assumption) | (apply Go.Gw.Own.chg; case hx => assumption) | (apply Go.Gw.Box.chg; case hx => assumption) | (apply Go.Gw.At.chg; case hx => assumption) | exact .inl (Nat.zero_le _) | exact .inr (Nat.zero_le _) | (show _ ∨ _; omega))) (hn : cs.length = n := by rfl) : YE P σ (.load T x) ty w (.agg cs.toArray) := ⟨fun w' hw ρ hρ => by
  simp [execOp, hρ _ _ hx, Instr.loadAt, Instr.sureAddr, run_load_str (h.ext hw) hn]⟩
theorem y_loadk [TScal P T] {k : Nat} (hx : ev σ x = some (ptr b (o + k))) (h : At w b o cs := by repeat (first | assumption | exact Go.Gw.Own.sl (by assumption) | exact Go.Gw.Box.at (by assumption) | exact Go.Gw.SLL.el (by first | assumption | exact Go.Gw.OwnD.sll (by assumption)) _ (by omega) | exact Go.Gw.SLL.at (by first | assumption | exact Go.Gw.OwnD.sll (by assumption)) (by omega) | exact Go.Gw.OwnD.sll (by assumption) | (apply Go.Gw.SL.chg; case hx => assumption) | (apply Go.Gw.Own.chg; case hx => assumption) | (apply Go.Gw.Box.chg; case hx => assumption) | (apply Go.Gw.At.chg; case hx => assumption) | exact .inl (Nat.zero_le _) | exact .inr (Nat.zero_le _) | (show _ ∨ _; omega))) (hk : cs[k]? = some v := by rfl) : YE P σ (.load T x) ty w v := y_load hx (h.cell hk)
/-- a field of one cell in a variable of the call's own -/
theorem y_load_box [TScal P T] (hx : ev σ x = some (ptr b o)) (h : Box w b cs := by repeat (first | assumption | exact Go.Gw.Own.sl (by assumption) | exact Go.Gw.Box.at (by assumption) | exact Go.Gw.SLL.el (by first | assumption | exact Go.Gw.OwnD.sll (by assumption)) _ (by omega) | exact Go.Gw.SLL.at (by first | assumption | exact Go.Gw.OwnD.sll (by assumption)) (by omega) | exact Go.Gw.OwnD.sll (by assumption) | (apply Go.Gw.SL.chg; case hx => assumption) | (apply Go.Gw.Own.chg; case hx => assumption) | (apply Go.Gw.Box.chg; case hx => assumption) | (apply Go.Gw.At.chg; case hx => assumption) | exact .inl (Nat.zero_le _) | exact .inr (Nat.zero_le _) | (show _ ∨ _; omega))) (hk : cs[o]? = some v := by rfl) : YE P σ (.load T x) ty w v := y_load hx (h.at.one hk)
/-- a whole struct -/
theorem y_load_boxs {n : Nat} [TStr P T n] (hx : ev σ x = some (ptr b 0)) (h : Box w b cs := by repeat (first | assumption | exact Go.Gw.Own.sl (by assumption) | exact Go.Gw.Box.at (by assumption) | exact Go.Gw.SLL.el (by first | assumption | exact Go.Gw.OwnD.sll (by assumption)) _ (by omega) | exact Go.Gw.SLL.at (by first | assumption | exact Go.Gw.OwnD.sll (by assumption)) (by omega) | exact Go.Gw.OwnD.sll (by assumption) | (apply Go.Gw.SL.chg; case hx => assumption) | (apply Go.Gw.Own.chg; case hx => assumption) | (apply Go.Gw.Box.chg; case hx => assumption) | (apply Go.Gw.At.chg; case hx => assumption) | exact .inl (Nat.zero_le _) | exact .inr (Nat.zero_le _) | (show _ ∨ _; omega))) (hn : cs.length = n := by rfl) : YE P σ (.load T x) ty w (.agg cs.toArray) := y_loads hx h.at hn
/-- a struct that is a field -/
theorem y_load_boxp {n : Nat} {ds : List Value} [TStr P T n] (hx : ev σ x = some (ptr b o)) (h : Box w b cs := by repeat (first | assumption | exact Go.Gw.Own.sl (by assumption) | exact Go.Gw.Box.at (by assumption) | exact Go.Gw.SLL.el (by first | assumption | exact Go.Gw.OwnD.sll (by assumption)) _ (by omega) | exact Go.Gw.SLL.at (by first | assumption | exact Go.Gw.OwnD.sll (by assumption)) (by omega) | exact Go.Gw.OwnD.sll (by assumption) | (apply Go.Gw.SL.chg; case hx => assumption) | (apply Go.Gw.Own.chg; case hx => assumption) | (apply Go.Gw.Box.chg; case hx => assumption) | (apply Go.Gw.At.chg; case hx => assumption) | exact .inl (Nat.zero_le _) | exact .inr (Nat.zero_le _) | (show _ ∨ _; omega))) (hd : (cs.drop o).take n = ds := by rfl) (hn : ds.length = n := by rfl) : YE P σ (.load T x) ty w (.agg ds.toArray) := y_loads hx (by have := h.at.part (k := o) (n := n); rw [Nat.zero_add, hd] at this; exact this) hn
theorem y_field {S k off : Nat} [hT : TFld P S k off] (hx : ev σ x = some (ptr b o)) : YE P σ (.fieldAddr S x k) ty w (ptr b (o + off)) := ⟨fun w' hw ρ hρ => by
  obtain ⟨fs, f, h1, h2, h3, n, h4⟩ := hT.und
  simp [execOp, hρ _ _ hx, Instr.fieldAt, run_underlying h1, h2, Instr.sureAddr, fieldPlace, run_size _ h4, add_lit, h3]⟩

/-! a struct that is a value -/
theorem y_fieldv [TScal P T] {S k off : Nat} (hx : ev σ x = some (.agg cs.toArray)) (hT : ∃ fs f, P.underlying S = some (.struct fs) ∧ fs[k]? = some f ∧ f.offset = off ∧ f.type = T) (hv : cs[off]? = some v) : YE P σ (.field S x k) ty w v := ⟨fun w' hw ρ hρ => by
  obtain ⟨fs, f, h1, h2, h3, h4⟩ := hT
  subst h3
  subst h4
  simp [execOp, hρ _ _ hx, Instr.field, run_underlying h1, h2, asAgg, Go.part, isAgg_scal, hv]⟩
class TFldT (P : Program) (S : TypeId) (k : Nat) (off T : outParam Nat) : Prop where
  und : ∃ fs f, P.underlying S = some (.struct fs) ∧ fs[k]? = some f ∧ f.offset = off ∧ f.type = T
theorem y_fld {S k off T : Nat} [hT : TFldT P S k off T] [TScal P T] (hx : ev σ x = some (.agg cs.toArray)) (hv : cs[off]? = some v := by rfl) : YE P σ (.field S x k) ty w v := y_fieldv (T := T) hx hT.und hv
theorem y_flds {S k off T n : Nat} {ds : List Value} [hT : TFldT P S k off T] [hs : TStr P T n] (hx : ev σ x = some (.agg cs.toArray)) (hd : (cs.drop off).take n = ds := by rfl) : YE P σ (.field S x k) ty w (.agg ds.toArray) := ⟨fun w' hw ρ hρ => by
  subst hd
  obtain ⟨fs, f, h1, h2, h3, h4⟩ := hT.und
  subst h4
  have e : cs.toArray.extract f.offset (f.offset + n) = ((cs.drop off).take n).toArray := by
    subst h3
    apply Array.ext'
    simp [List.take_drop, List.extract_eq_take_drop]
  simp [execOp, hρ _ _ hx, Instr.field, run_underlying h1, h2, asAgg, Go.part, isAgg_str, run_size w' hs.size, e, h3]⟩
end
end Go.Gw

/- Rules of my own: structs and slices that are built; append, make; elements that are stored; parts of slices.  Rules of my own: append, make; elements that are stored; parts of slices. -/
import Derived.Test.YticnemjjjceiaaaDoorL4
namespace Go.Gw
open Go
set_option linter.unusedVariables false
set_option linter.unusedSimpArgs false

/-! ### A struct of fields of one cell each -/
class TFlat (P : Program) (T : TypeId) (zs : outParam (List Value)) : Prop where
  zero : (P.info? T).bind (·.zero) = some (.agg zs.toArray)
  und : ∃ fs, P.underlying T = some (.struct fs) ∧ fs.mapM (fun f => (P.info? f.type).map fun i => (f.offset, i.size)) = some ((List.range zs.length).map fun i => (i, 1)).toArray
def putAll (zs : List Value) : List (Nat × Value) → List Value
  | [] => zs
  | (i, v) :: r => putAll (zs.set i v) r
theorem putAll_len : ∀ (ps : List (Nat × Value)) (zs : List Value), (putAll zs ps).length = zs.length
  | [], zs => rfl
  | (i, v) :: r, zs => by simp [putAll, putAll_len r]
def evp (σ : Fm) : List (Nat × Operand) → Option (List (Nat × Value))
  | [] => some []
  | (i, x) :: r => match ev σ x, evp σ r with
    | some v, some vs => some ((i, v) :: vs)
    | _, _ => none
theorem evp_spec {σ : Fm} {ρ : Operand → Value} (hρ : ∀ x v, ev σ x = some v → ρ x = v) : ∀ {xs : List (Nat × Operand)} {vs : List (Nat × Value)}, evp σ xs = some vs → xs.map (fun p => (p.1, ρ p.2)) = vs
  | [], vs, h => by simp [evp] at h; simp [h]
  | (i, x) :: r, vs, h => by
    simp only [evp] at h
    split at h
    · rename_i v' vs' h1 h2
      simp only [Option.some.injEq] at h
      subst h
      simp [hρ _ _ h1, evp_spec hρ h2]
    · cases h
def Below' (n : Nat) : List (Nat × Value) → Prop
  | [] => True
  | (i, v) :: r => (Nat.blt i n = true ∧ v.oneCell' = true) ∧ Below' n r

theorem fill_one {n : Nat} {place : Nat → Option (Nat × Nat)} (hp : ∀ i, i < n → place i = some (i, 1)) : ∀ (ps : List (Nat × Value)) (zs : List Value), zs.length = n → Below' n ps →
    Instr.fill place zs.toArray ps = some (putAll zs ps).toArray
  | [], zs, _, _ => rfl
  | (i, v) :: r, zs, hz, ⟨⟨h1, h2⟩, h3⟩ => by
    have hi : i < n := by simpa [Nat.blt_eq] using h1
    have hc := cells_one h2
    simp only [Instr.fill, hp i hi, hc]
    rw [if_neg (by simp; omega)]
    have := fill_one hp r (zs.set i v) (by simp [hz]) h3
    simpa [putAll] using this

section
variable {P : Program} {N : Nat} {Q : Post} {σ : Fm} {w : World} {ops : Array Oper} {rest : List Oper} {ty T : TypeId} {pos : String} {af : Array Edge} {d : Nat} {v u : Value} {x y : Operand} {e s b : Nat}

theorem y_build {zs : List Value} [hT : TFlat P T zs] {parts : List (Nat × Operand)} {ps : List (Nat × Value)} {cs : List Value} (hx : evp σ parts = some ps) (h : Below' zs.length ps := by repeat (first | exact trivial | refine ⟨⟨rfl, by first | rfl | exact Go.Gw.SL.one (by assumption) | exact Go.Gw.Own.one (by assumption)⟩, ?_⟩)) (hc : putAll zs ps = cs := by dsimp only [putAll, List.set]) : YE P σ (.build T parts.toArray) ty w (.agg cs.toArray) := ⟨fun w' hw ρ hρ => by
  subst hc
  obtain ⟨fs, hu, hm⟩ := hT.und
  have hz : (zeroValue T).run P w' = .ok (.agg zs.toArray) w' := run_zero w' (z := .agg zs.toArray) (h := ⟨hT.zero⟩)
  have hpl : (fs.mapM fun f => do pure (f.offset, ← sizeOf f.type) : Sem (Array (Nat × Nat))).run P w' = .ok ((List.range zs.length).map fun i => (i, 1)).toArray w' := by
    have e1 : fs = fs.toList.toArray := by simp
    rw [e1, List.mapM_toArray] at hm ⊢
    simp only [Sem.run_map]
    cases hq : fs.toList.mapM (fun f => (P.info? f.type).map fun i => (f.offset, i.size)) with
    | none => simp [hq] at hm
    | some pl =>
      simp [hq] at hm
      have := run_places (P := P) w' fs.toList pl hq
      have e2 : (fs.toList.mapM fun f => do pure (f.offset, ← sizeOf f.type) : Sem (List (Nat × Nat))) = fs.toList.mapM fun f => Prod.mk f.offset <$> sizeOf f.type := by simp
      rw [e2, this]
      simp [hm]
  have hf := fill_one (n := zs.length) (place := fun i => (((List.range zs.length).map fun i => (i, 1)).toArray)[i]?) (fun i hi => by simp [hi]) ps zs rfl h
  have hparts : parts.toArray.map (fun (i, x) => (i, ρ x)) = ps.toArray := by rw [List.map_toArray, ← evp_spec hρ hx]
  simp only [execOp, Instr.build, hparts, Sem.run_bind, hz, Result.andThen_ok, Value.cells, run_underlying hu, hpl]
  rw [show (fun x => (((List.range zs.length).map fun i => (i, 1)).toArray)[x]?) = (fun i => (((List.range zs.length).map fun i => (i, 1)).toArray)[i]?) from rfl, hf]
  simp⟩
end

/-! ### A slice that is built -/
section
variable {P : Program} {N : Nat} {Q : Post} {σ : Fm} {w : World} {ops : Array Oper} {rest : List Oper} {ty T : TypeId} {pos : String} {af : Array Edge} {d : Nat} {v u : Value} {x y : Operand} {e s b : Nat}
variable {α : Type} [E : Enc α]

theorem own_new (w : World) (e : TypeId) (xs : List α) (hm : xs.length ≤ maxLen) (B : Nat) (hB : B ≤ w.heap.size) : Own (w.alloc (.cells (xs.flatMap Enc.enc).toArray e)) e B (.slice (some ⟨w.heap.size, 0, none⟩) xs.length xs.length) xs :=
  ⟨flat_len xs, .inr ⟨w.heap.size, xs.length, _, rfl, hB, heap_alloc_new w _, Nat.le_refl _, hm, by simp only [List.size_toArray, flat_len], by show (xs.flatMap Enc.enc).take _ = _; rw [← flat_len xs, List.take_length]⟩⟩

theorem fill_row {sz : Nat} (hsz : 0 < sz) : ∀ (vs : List Value) (k : Nat) (cs : List Value), (∀ v ∈ vs, v.cells.size = sz) → cs.length = (k + vs.length) * sz →
    Instr.fill (fun i => some (i * sz, sz)) cs.toArray (vs.zipIdx k |>.map fun p => (p.2, p.1)) = some (cs.take (k * sz) ++ vs.flatMap fun v => v.cells.toList).toArray := by
  intro vs
  induction vs with
  | nil => intro k cs _ hl; simp [Instr.fill]; rw [List.take_of_length_le (by simp at hl; omega)]
  | cons v r ih =>
    intro k cs hv hl
    have h1 : v.cells.size = sz := hv v (by simp)
    have hfold : ∀ (l : List Value) (j : Nat) (cs : List Value), k * sz + j + l.length ≤ cs.length →
        (l.zipIdx j).foldl (fun (cs : Array Value) p => cs.setIfInBounds (k * sz + p.2) p.1) cs.toArray = (cs.take (k * sz + j) ++ l ++ cs.drop (k * sz + j + l.length)).toArray := by
      intro l
      induction l with
      | nil => intro j cs _; simp
      | cons c l ihl =>
        intro j cs hle
        simp only [List.zipIdx_cons, List.foldl_cons]
        rw [List.setIfInBounds_toArray]
        rw [ihl (j + 1) (cs.set (k * sz + j) c) (by simp at hle ⊢; omega)]
        congr 1
        simp only [List.length_cons] at hle ⊢
        rw [show k * sz + (j + 1) = (k * sz + j) + 1 by omega, List.take_set]
        rw [List.drop_set_of_lt (by omega)]
        rw [show k * sz + j + 1 + l.length = k * sz + j + (l.length + 1) by omega]
        congr 1
        rw [List.append_cons]
        congr 1
        apply List.ext_getElem?
        intro i
        simp only [List.getElem?_set, List.getElem?_append, List.length_take, List.getElem?_take]
        by_cases hi : i < k * sz + j
        · simp [hi, show min (k * sz + j) cs.length = k * sz + j by omega, show ¬ k * sz + j = i by omega, show i < k * sz + j + 1 by omega]
        · by_cases hi2 : i = k * sz + j
          · subst hi2; simp [show min (k * sz + j) cs.length = k * sz + j by omega, show k * sz + j < cs.length by omega]; omega
          · simp [hi, show min (k * sz + j) cs.length = k * sz + j by omega, show ¬ k * sz + j = i by omega, show ¬ i < k * sz + j + 1 by omega]
            omega
    simp only [List.zipIdx_cons, List.map_cons, Instr.fill]
    have hle : k * sz + sz ≤ cs.length := by rw [hl, List.length_cons, ← Nat.succ_mul]; exact Nat.mul_le_mul_right _ (by omega)
    rw [if_neg (by simp [h1]; omega)]
    have hf := hfold v.cells.toList 0 cs (by simp [h1]; omega)
    have e1 : Array.foldl (fun (cs : Array Value) (p : Value × Nat) => cs.setIfInBounds (k * sz + p.2) p.1) cs.toArray v.cells.zipIdx = (cs.take (k * sz) ++ v.cells.toList ++ cs.drop (k * sz + sz)).toArray := by
      rw [← Array.foldl_toList, Array.toList_zipIdx, hf]
      simp [h1]
    have e2 : Array.foldl (fun cs x => match x with | (c, j) => cs.setIfInBounds (k * sz + j) c) cs.toArray v.cells.zipIdx = (cs.take (k * sz) ++ v.cells.toList ++ cs.drop (k * sz + sz)).toArray := e1
    rw [e2]
    have h3 := ih (k + 1) (cs.take (k * sz) ++ v.cells.toList ++ cs.drop (k * sz + sz)) (fun u hu => hv u (by simp [hu])) (by
      simp only [List.length_append, List.length_take, List.length_drop, Array.length_toList, h1, hl, List.length_cons]
      have : k * sz ≤ (k + (r.length + 1)) * sz := Nat.mul_le_mul_right _ (by omega)
      have : (k + (r.length + 1)) * sz = (k + 1 + r.length) * sz := by congr 1; omega
      have : (k + 1 + r.length) * sz = k * sz + sz + r.length * sz := by rw [Nat.add_mul, Nat.add_mul, Nat.one_mul]
      omega)
    rw [h3]
    congr 2
    rw [List.flatMap_cons, ← List.append_assoc]
    congr 1
    have hk : (cs.take (k * sz) ++ v.cells.toList).length = (k + 1) * sz := by
      simp only [List.length_append, List.length_take, Array.length_toList, h1]
      rw [Nat.min_eq_left (by omega), Nat.add_mul, Nat.one_mul]
    rw [← hk, List.take_left]

theorem run_zero' (w : World) [hT : TSli P T e s b] : ∃ z, (zeroValue e).run P w = .ok z w ∧ z.cells.size = s := by
  have h := hT.zero
  cases hz : (P.info? e).bind (·.zero) with
  | none => simp [hz] at h
  | some z => exact ⟨z, run_zero w (h := ⟨hz⟩), hT.zlen z hz⟩
theorem run_lit [hT : TSli P T e s b] (hs0 : 0 < s) (vs : List Value) (hv : ∀ v ∈ vs, v.cells.size = s) (hsm : vs.length * s ≤ 16777216) :
    (Instr.buildSlice T vs.length (vs.zipIdx.map fun p => (p.2, p.1)).toArray).run P w = .ok (.slice (some ⟨w.heap.size, 0, none⟩) vs.length vs.length) (w.alloc (.cells (vs.flatMap fun v => v.cells.toList).toArray e)) := by
  obtain ⟨z, hz, hzs⟩ := run_zero' (P := P) (T := T) w
  have hfill : ∀ (zs : Array Value), zs.size = vs.length * s → Instr.fill (fun i => some (i * s, s)) zs (vs.zipIdx.map fun p => (p.2, p.1)) = some (vs.flatMap fun v => v.cells.toList).toArray := by
    intro zs hzl
    have := fill_row hs0 vs 0 zs.toList hv (by simpa using hzl)
    simpa using this
  have hno : ¬ vs.length * s > 2 ^ 24 := by omega
  simp only [Instr.buildSlice, run_underlying hT.und, run_size w hT.size, Sem.run_bind, Result.andThen_ok, Sem.run_ite, if_neg hno, Sem.run_pure]
  by_cases h0 : vs.length * s = 0
  · rw [if_pos h0]
    try simp only [Result.andThen_ok]
    rw [hfill _ (by simp [h0])]
    simp [newRow, h0]
  · rw [if_neg h0, hz]
    simp only [Result.andThen_ok]
    rw [hfill _ (by simp)]
    simp [newRow]
def decs : List Value → Option (List α)
  | [] => some []
  | v :: r => match E.dec v, decs r with
    | some x, some xs => some (x :: xs)
    | _, _ => none
theorem decs_ok : ∀ {vs : List Value} {xs : List α}, decs vs = some xs → vs.length = xs.length ∧ (vs.flatMap fun v => v.cells.toList) = xs.flatMap Enc.enc ∧ ∀ v ∈ vs, v.cells.size = Enc.sz α
  | [], xs, h => by simp [decs] at h; subst h; simp
  | v :: r, xs, h => by
    unfold decs at h
    split at h
    · rename_i x xs' h1 h2
      simp only [Option.some.injEq] at h
      subst h
      obtain ⟨g1, g2, g3⟩ := decs_ok h2
      have := E.dec_ok v x h1
      refine ⟨by simp [g1], by simp only [List.flatMap_cons, this, g2], fun u hu => ?_⟩
      rcases List.mem_cons.1 hu with rfl | hu
      · rw [← Array.length_toList, this, Enc.len]
      · exact g3 u hu
    · cases h
def num : Nat → List Value → List (Nat × Value)
  | _, [] => []
  | k, v :: r => (k, v) :: num (k + 1) r
theorem num_eq : ∀ (vs : List Value) (k : Nat), num k vs = (vs.zipIdx k).map fun p => (p.2, p.1)
  | [], k => rfl
  | v :: r, k => by simp [num, num_eq r]
/-- what a literal lays -/
def Lit' (w : World) (e : TypeId) (xs : List α) (v : Value) (w' : World) : Prop := Own w' e w.heap.size v xs ∧ Ext w w' ∧ bL v = w.heap.size ∧ bH v = w.heap.size + 1 ∧ w'.heap.size = w.heap.size + 1
theorem w_lit' [hT : TSli P T e s b] {n : Nat} {parts : List (Nat × Operand)} {vs : List Value} {xs : List α} (hs : s = Enc.sz α) (hp : evp σ parts = some (num 0 vs)) (hl : vs.length = xs.length) (hf : (vs.flatMap fun v => v.cells.toList) = xs.flatMap Enc.enc) (hv : ∀ v ∈ vs, v.cells.size = Enc.sz α)
    (hn : vs.length = n) (hsm : n ≤ 1000) (hss : s ≤ 1000) (hd : Nat.blt d N = true)
    (k : ∀ v w', Own w' e w.heap.size v xs → Ext w w' → bL v = w.heap.size → bH v = w.heap.size + 1 → w'.heap.size = w.heap.size + 1 → W P N ops Q rest ((d, v) :: σ) w') : W P N ops Q (⟨some d, .buildSlice T n parts.toArray, ty, pos, af, none⟩ :: rest) σ w := by
  subst hn
  subst hs
  refine ⟨fun a ha => ?_⟩
  refine wpList_plain rfl fun K hK => ?_
  unfold Oper.wp
  have hparts : parts.toArray.map (fun (i, x) => (i, a.eval x)) = (vs.zipIdx.map fun p => (p.2, p.1)).toArray := by
    rw [List.map_toArray, ← num_eq vs 0, ← evp_spec (fun x v hx => ha.eval hx) hp]
  have hb : vs.length * Enc.sz α ≤ 1000 * 1000 := Nat.mul_le_mul hsm hss
  have : (execOp a.eval ⟨some d, .buildSlice T vs.length parts.toArray, ty, pos, af, none⟩).run P w = .ok (.value (.slice (some ⟨w.heap.size, 0, none⟩) vs.length vs.length)) (w.alloc (.cells (xs.flatMap Enc.enc).toArray e)) := by
    simp only [execOp, hparts, Sem.run_bind, run_lit (P := P) (T := T) (w := w) E.pos vs hv (by omega), Result.andThen_ok, Sem.run_pure, hf]
  rw [this, hl]
  have h0 := own_new w e xs (by unfold maxLen; omega) w.heap.size (Nat.le_refl _)
  exact hK _ _ ((k _ _ h0 (Chg.alloc w _) rfl rfl (by simp)).go _ (ha.put hd _))
/-- a literal -/
theorem w_lit [hT : TSli P T e s b] {n : Nat} {parts : List (Nat × Operand)} {ps : List (Nat × Value)} {xs : List α} (hs : s = Enc.sz α) (hp : evp σ parts = some ps) (hi : num 0 (ps.map (·.2)) = ps) (hx : decs (ps.map (·.2)) = some xs)
    (hn : ps.length = n) (hsm : Nat.ble n 1000 = true) (hss : Nat.ble s 1000 = true) (hd : Nat.blt d N = true)
    (k : ∀ v w', Own w' e w.heap.size v xs → Ext w w' → bL v = w.heap.size → bH v = w.heap.size + 1 → w'.heap.size = w.heap.size + 1 → W P N ops Q rest ((d, v) :: σ) w') : W P N ops Q (⟨some d, .buildSlice T n parts.toArray, ty, pos, af, none⟩ :: rest) σ w :=
  let ⟨h1, h2, h3⟩ := decs_ok hx
  w_lit' hs (by rw [hi]; exact hp) h1 h2 h3 (by simpa using hn) (Nat.le_of_ble_eq_true hsm) (Nat.le_of_ble_eq_true hss) hd k
end
end Go.Gw

namespace Go.Gw
open Go
set_option linter.unusedVariables false
set_option linter.unusedSimpArgs false

section
variable {P : Program} {N : Nat} {Q : Post} {σ : Fm} {w : World} {ops : Array Oper} {rest : List Oper} {ty T : TypeId} {pos : String} {af : Array Edge} {d : Nat} {v u : Value} {x y : Operand} {e s b : Nat}
variable {α : Type} {E : Enc α}

theorem info_of [hT : TSli P T e s b] : ∃ i z, P.info? e = some i ∧ i.zero = some z ∧ i.size = s ∧ i.bytes = b ∧ z.cells.size = s := by
  have h1 := hT.size
  have h2 := hT.bytes
  have h3 := hT.zero
  have h4 := hT.zlen
  cases hi : P.info? e with
  | none => simp [hi] at h1
  | some i =>
    simp only [hi, Option.map_some, Option.some.injEq, Option.bind_some] at h1 h2 h3 h4
    cases hz : i.zero with
    | none => simp [hz] at h3
    | some z => exact ⟨i, z, rfl, hz, h1, h2, h4 z hz⟩

theorem sl_cells {lo hi : Nat} {ys : List α} (h : SL w lo hi u ys) (h0 : 0 < ys.length) : ∀ j c, (ys.flatMap Enc.enc)[j]? = some c → w.cell? ((⟨sb u, so u, none⟩ : Addr).add j) = some c := by
  intro j c hj
  have hj' : j < ys.length * Enc.sz α := by rw [← flat_len]; exact (List.getElem?_eq_some_iff.1 hj).1
  have hs := E.pos
  have hd : j / Enc.sz α < ys.length := (Nat.div_lt_iff_lt_mul hs).2 hj'
  have hel := h.el (j / Enc.sz α) ys[j / Enc.sz α] (by simp [hd])
  have hm : j % Enc.sz α < (Enc.enc ys[j / Enc.sz α]).length := by rw [Enc.len]; exact Nat.mod_lt _ hs
  have hg := flat_get (E := E) ys (j / Enc.sz α) ys[j / Enc.sz α] (j % Enc.sz α) (Enc.enc ys[j / Enc.sz α])[j % Enc.sz α] (by simp [hd]) (by simp [hm])
  have e1 : j / Enc.sz α * Enc.sz α + j % Enc.sz α = j := by rw [Nat.mul_comm]; exact Nat.div_add_mod j _
  rw [e1, hj] at hg
  have hc := hel.go (j % Enc.sz α) c (by rw [hg]; simp [hm])
  rw [add_lit]
  rwa [Nat.add_assoc, e1] at hc
theorem enc_all (ys : List α) : ∀ c ∈ ys.flatMap Enc.enc, c.oneCell' = true := by
  intro c hc
  obtain ⟨y, _, hy⟩ := List.mem_flatMap.1 hc
  exact Enc.one y c hy

theorem run_append {lo hi B : Nat} {xs ys : List α} {t2 : TypeId} [hT : TSli P T e s b] (hs : s = Enc.sz α) (h : Own w e B v xs) (h2 : SL w lo hi u ys) (hb : (xs.length + ys.length) * b ≤ 140737488355328) (hm : xs.length + ys.length ≤ 140737488355328) (hB : B ≤ w.heap.size) :
    ∃ v' w', (Builtin.append_ #[T, T] t2 #[v, u]).run P w = .ok v' w' ∧ Own w' e B v' (xs ++ ys) ∧ Chg (bL v) (bH v) w w' ∧ ((bL v' = bL v ∧ bH v' = bH v) ∨ (w.heap.size ≤ bL v' ∧ bH v' = bL v' + 1 ∧ bL v' < w'.heap.size)) := by
  subst hs
  obtain ⟨i, z, hi, hz, his, hib, hzs⟩ := info_of (P := P) (T := T)
  obtain ⟨a, c, hu, hle, hcm, ha⟩ := h2.form
  rcases Nat.eq_zero_or_pos ys.length with h0 | h0
  · have : ys = [] := List.eq_nil_of_length_eq_zero h0
    subst this
    refine ⟨v, w, ?_, by simpa using h, Chg.refl _ _ _, .inl ⟨rfl, rfl⟩⟩
    rw [hu]
    obtain ⟨a', c', hv, hle', _⟩ := h.sl.form
    rw [hv]
    have hf : (Builtin.firstCells i.size 0 (.slice a 0 c)).run P w = .ok #[] w := by
      cases a <;> simp [Builtin.firstCells, loadCells, loadCellsFrom]
    have hlen : xs.length + 0 ≤ c' := by omega
    simp only [List.length_nil, Builtin.append_, run_underlying hT.und, sizeOf, typeInfo, hi, Builtin.lenOf]
    cases a' <;> simp [run_underlying hT.und, hi, hle', hf, storeCells]
  · have ha := ha h0
    subst ha
    have h63 : xs.length + ys.length ≤ maxLen := by unfold maxLen; omega
    have hbytes : (xs.length + ys.length) * b ≤ 140737488355328 := hb
    obtain ⟨v', w', hr, hown, hgr, _⟩ := run_append_own (P := P) w B T t2 e i z (Enc.sz α) b hT.und hi hz his hib hzs E.pos v xs.length (xs.flatMap Enc.enc) h.go ⟨sb u, so u, none⟩ ys.length c (ys.flatMap Enc.enc) (flat_len ys) (sl_cells h2 h0) (enc_all ys) h63 hbytes hB
    refine ⟨v', w', by rw [hu]; exact hr, ⟨by rw [List.flatMap_append, List.length_append]; exact hown⟩, chg_of_grown (P := True) hgr, ?_⟩
    have hown2 : Own w' e B v' (xs ++ ys) := ⟨by rw [List.flatMap_append, List.length_append]; exact hown⟩
    rcases h.go.2 with ⟨rfl, hn⟩ | ⟨g, cap, cur, rfl, hbg, hg, hnc, hcm', hcs, htk⟩
    · right
      have h' : w.ownsRow w.heap.size e (Enc.sz α) (.slice none 0 0) xs.length (xs.flatMap Enc.enc) := ⟨h.go.1, .inl ⟨rfl, hn⟩⟩
      obtain ⟨v2, w2, hr2, hown2', _, hnil⟩ := run_append_own (P := P) w w.heap.size T t2 e i z (Enc.sz α) b hT.und hi hz his hib hzs E.pos (.slice none 0 0) xs.length (xs.flatMap Enc.enc) h' ⟨sb u, so u, none⟩ ys.length c (ys.flatMap Enc.enc) (flat_len ys) (sl_cells h2 h0) (enc_all ys) h63 hbytes (Nat.le_refl _)
      rw [hr] at hr2
      cases hr2
      rcases hown2'.2 with ⟨_, hz0⟩ | ⟨g, cap, cur, rfl, hbg, hg, _⟩
      · omega
      · exact ⟨hbg, rfl, (Array.getElem?_eq_some_iff.1 hg).1⟩
    · by_cases hroom : xs.length + ys.length ≤ cap
      · left
        have hfit : xs.length * i.size + (ys.flatMap Enc.enc).length ≤ cur.size := by rw [flat_len, hcs, his, ← Nat.add_mul]; exact Nat.mul_le_mul_right _ hroom
        have hr2 := run_append_room (P := P) w T t2 e i hT.und hi g xs.length cap cur hg ⟨sb u, so u, none⟩ ys.length c (ys.flatMap Enc.enc) (by rw [his]; exact flat_len ys) (sl_cells h2 h0) (enc_all ys) hroom hfit
        rw [hr] at hr2
        cases hr2
        exact ⟨rfl, rfl⟩
      · right
        have hr2 := run_append_grow (P := P) w T t2 e i z hT.und hi hz ⟨g, 0, none⟩ xs.length cap (xs.flatMap Enc.enc) (by rw [his]; exact flat_len xs) (World.ownsRow.cells h.go rfl) ⟨sb u, so u, none⟩ ys.length c (ys.flatMap Enc.enc) (by rw [his]; exact flat_len ys) (sl_cells h2 h0) (by omega) (by omega) (by rw [hib]; exact growslice_fits (by omega) hbytes)
        rw [hr] at hr2
        cases hr2
        exact ⟨Nat.le_refl _, rfl, by simp [bL, sb]⟩

theorem w_append {lo hi B : Nat} {xs ys : List α} [hT : TSli P T e s b] (hx : ev σ x = some v) (hy : ev σ y = some u) (h : Own w e B v xs := by repeat (first | assumption | exact Go.Gw.Own.sl (by assumption) | exact Go.Gw.Box.at (by assumption) | exact Go.Gw.SLL.el (by first | assumption | exact Go.Gw.OwnD.sll (by assumption)) _ (by omega) | exact Go.Gw.SLL.at (by first | assumption | exact Go.Gw.OwnD.sll (by assumption)) (by omega) | exact Go.Gw.OwnD.sll (by assumption) | (apply Go.Gw.SL.chg; case hx => assumption) | (apply Go.Gw.Own.chg; case hx => assumption) | (apply Go.Gw.Box.chg; case hx => assumption) | (apply Go.Gw.At.chg; case hx => assumption) | exact .inl (Nat.zero_le _) | exact .inr (Nat.zero_le _) | (show _ ∨ _; omega))) (h2 : SL w lo hi u ys := by repeat (first | assumption | exact Go.Gw.Own.sl (by assumption) | exact Go.Gw.Box.at (by assumption) | exact Go.Gw.SLL.el (by first | assumption | exact Go.Gw.OwnD.sll (by assumption)) _ (by omega) | exact Go.Gw.SLL.at (by first | assumption | exact Go.Gw.OwnD.sll (by assumption)) (by omega) | exact Go.Gw.OwnD.sll (by assumption) | (apply Go.Gw.SL.chg; case hx => assumption) | (apply Go.Gw.Own.chg; case hx => assumption) | (apply Go.Gw.Box.chg; case hx => assumption) | (apply Go.Gw.At.chg; case hx => assumption) | exact .inl (Nat.zero_le _) | exact .inr (Nat.zero_le _) | (show _ ∨ _; omega))) (hs : s = Enc.sz α := by rfl) (hb : (xs.length + ys.length) * b ≤ 140737488355328 := by first | omega | (simp only [List.length_cons, List.length_nil]; omega) | (simp only [List.length_append, List.length_cons, List.length_nil]; omega)) (hm : xs.length + ys.length ≤ 140737488355328 := by first | omega | (simp only [List.length_cons, List.length_nil]; omega) | (simp only [List.length_append, List.length_cons, List.length_nil]; omega)) (hB : B ≤ w.heap.size := by omega) (hd : Nat.blt d N = true := by rfl)
    (k : ∀ v' w', Own w' e B v' (xs ++ ys) → Chg (bL v) (bH v) w w' → ((bL v' = bL v ∧ bH v' = bH v) ∨ (w.heap.size ≤ bL v' ∧ bH v' = bL v' + 1 ∧ bL v' < w'.heap.size)) → W P N ops Q rest ((d, v') :: σ) w') :
    W P N ops Q (⟨some d, .call { callee := .builtin .append, args := #[x, y], argTypes := #[T, T] }, ty, pos, af, none⟩ :: rest) σ w := by
  refine ⟨fun a ha => ?_⟩
  refine wpList_plain rfl fun K hK => ?_
  unfold Oper.wp
  obtain ⟨v', w', hr, h3, h4, h5⟩ := run_append (P := P) (T := T) (t2 := ty) hs h h2 hb hm hB
  have : (execOp a.eval ⟨some d, .call { callee := .builtin .append, args := #[x, y], argTypes := #[T, T] }, ty, pos, af, none⟩).run P w = .ok (.value v') w' := by
    simp only [execOp, resolve, Sem.run_bind, Sem.run_pure, Result.andThen_ok, invoke, builtin, List.map_toArray, List.map_cons, List.map_nil, ha.eval hx, ha.eval hy, hr]
  rw [this]
  exact hK _ _ ((k v' w' h3 h4 h5).go _ (ha.put hd _))

/-! ### make -/
theorem made_flat {α : Type} [E : Enc α] {z : Array Value} {x0 : α} (hz : z.toList = Enc.enc x0) (n : Nat) : (madeCells z (n * Enc.sz α)).toList = (List.replicate n x0).flatMap Enc.enc := by
  have hs := E.pos
  have hzs : z.size = Enc.sz α := by rw [← Array.length_toList, hz, Enc.len]
  apply List.ext_getElem?
  intro i
  by_cases hi : i < n * Enc.sz α
  · have hd : i / Enc.sz α < n := (Nat.div_lt_iff_lt_mul hs).2 hi
    have hm : i % Enc.sz α < (Enc.enc x0).length := by rw [Enc.len]; exact Nat.mod_lt _ hs
    have hg := flat_get (E := E) (List.replicate n x0) (i / Enc.sz α) x0 (i % Enc.sz α) (Enc.enc x0)[i % Enc.sz α] (by simp [hd]) (by simp [hm])
    have e1 : i / Enc.sz α * Enc.sz α + i % Enc.sz α = i := by rw [Nat.mul_comm]; exact Nat.div_add_mod i _
    rw [e1] at hg
    rw [hg]
    have hlt : i % z.size < z.size := by rw [hzs]; exact Nat.mod_lt _ hs
    have e2 : z[i % z.size]! = (Enc.enc x0)[i % Enc.sz α] := by
      rw [getElem!_pos z _ hlt]
      have : z[i % z.size] = z.toList[i % z.size]'(by simpa using hlt) := by simp
      rw [this]
      simp only [hz, hzs]
    simp [madeCells, Array.getElem?_range, hi, e2]
  · have h1 : (madeCells z (n * Enc.sz α)).toList.length ≤ i := by simp [size_madeCells]; omega
    have h2 : ((List.replicate n x0).flatMap Enc.enc).length ≤ i := by rw [flat_len, List.length_replicate]; omega
    rw [List.getElem?_eq_none h1, List.getElem?_eq_none h2]

theorem w_make {α : Type} [E : Enc α] {z : Value} {x0 : α} {n : Int} [hT : TSli P T e s b] [hz : TZero P e z] (hx : ev σ x = some (.int .i64 n)) (hy : ev σ y = some (.int .i64 n)) (hs : s = Enc.sz α := by rfl) (hdec : E.dec z = some x0 := by rfl) (h0 : 0 ≤ n := by omega) (hb : n.toNat * b ≤ 140737488355328 := by omega) (hm : n ≤ 140737488355328 := by omega) (hd : Nat.blt d N = true := by rfl)
    (k : ∀ v w', Own w' e w.heap.size v (List.replicate n.toNat x0) → Ext w w' → bL v = w.heap.size → bH v = w.heap.size + 1 → w'.heap.size = w.heap.size + 1 → W P N ops Q rest ((d, v) :: σ) w') :
    W P N ops Q (⟨some d, .makeSlice T x y, ty, pos, af, none⟩ :: rest) σ w := by
  subst hs
  refine ⟨fun a ha => ?_⟩
  refine wpList_plain rfl fun K hK => ?_
  unfold Oper.wp
  obtain ⟨i, z', hi, hz', his, hib, hzs⟩ := info_of (P := P) (T := T)
  obtain rfl : z' = z := by have := hz.zero; rw [hi] at this; simp only [Option.bind_some] at this; rw [hz'] at this; exact Option.some.inj this
  have hbi : (i.bytes : Int) * n ≤ 281474976710656 := by
    have h1 : ((n.toNat * b : Nat) : Int) ≤ 140737488355328 := by omega
    rw [Int.natCast_mul, Int.toNat_of_nonneg h0] at h1
    rw [hib, Int.mul_comm]
    omega
  have hr := run_make (P := P) w T e i z' hT.und hi hz' .i64 .i64 n n h0 (Int.le_refl _) hbi (by omega)
  have hfl := made_flat (E.dec_ok _ _ hdec) n.toNat
  have : (execOp a.eval ⟨some d, .makeSlice T x y, ty, pos, af, none⟩).run P w = .ok (.value (.slice (some ⟨w.heap.size, 0, none⟩) (List.replicate n.toNat x0).length (List.replicate n.toNat x0).length)) (w.alloc (.cells ((List.replicate n.toNat x0).flatMap Enc.enc).toArray e)) := by
    rw [his] at hr
    simp only [execOp, ha.eval hx, ha.eval hy, Sem.run_bind, hr, Result.andThen_ok, Sem.run_pure, List.length_replicate]
    rw [← hfl]
  rw [this]
  exact hK _ _ ((k _ _ (own_new w e _ (by rw [List.length_replicate]; unfold maxLen; omega) _ (Nat.le_refl _)) (Chg.alloc w _) rfl rfl (by simp)).go _ (ha.put hd _))

/-! ### A store into an element -/
theorem own_set {B n : Nat} {xs : List α} (h : Own w e B v xs) (hn : n < xs.length) {k : Nat} {x' : α} (hk : (Enc.enc xs[n]).set k u = Enc.enc x') (hks : k < Enc.sz α) :
    Own (w.setCell ⟨sb v, so v + n * Enc.sz α + k, none⟩ u) e B v (xs.set n x') ∧ Chg (bL v) (bH v) w (w.setCell ⟨sb v, so v + n * Enc.sz α + k, none⟩ u) := by
  rcases h.go with ⟨hlen, ⟨rfl, hz⟩ | ⟨g, cap, cur, rfl, hb, hg, hnc, hcm, hcs, htk⟩⟩
  · omega
  · simp only [sb, so, Nat.zero_add, bL, bH]
    have e1 := setCell_eq_setRow w g (n * Enc.sz α + k) cur e (0, 0) u hg
    rw [e1]
    have hfl : ((xs.set n x').flatMap Enc.enc) = (xs.flatMap Enc.enc).set (n * Enc.sz α + k) u := by
      clear htk hg hcs hnc e1 hlen h
      induction xs generalizing n with
      | nil => simp at hn
      | cons y r ih =>
        cases n with
        | zero =>
          simp only [List.set_cons_zero, List.flatMap_cons, Nat.zero_mul, Nat.zero_add]
          rw [List.set_append_left _ _ (by rw [Enc.len]; exact hks)]
          simp only [List.getElem_cons_zero] at hk
          rw [hk]
        | succ m =>
          simp only [List.set_cons_succ, List.flatMap_cons]
          rw [show (m + 1) * Enc.sz α + k = (Enc.enc y).length + (m * Enc.sz α + k) by rw [Enc.len, Nat.add_mul, Nat.one_mul]; omega]
          rw [List.set_append_right _ _ (by omega), Nat.add_sub_cancel_left]
          congr 1
          exact ih (by simpa using hn) (by simpa using hk)
    refine ⟨⟨by rw [flat_len], .inr ⟨g, cap, _, by simp, hb, setRow_heap w g cur _ e _ hg, by simpa using hnc, hcm, by simpa using hcs, ?_⟩⟩, ⟨rfl, rfl, rfl, by simp, fun j hj ho => setRow_other w g j _ (by omega)⟩⟩
    simp only [Array.toList_setIfInBounds, List.length_set]
    rw [hfl, List.take_set, htk]
theorem sl_set {lo hi n : Nat} {xs : List α} (h : SL w lo hi v xs) (hn : n < xs.length) {k : Nat} {x' : α} (hk : (Enc.enc xs[n]).set k u = Enc.enc x') (hks : k < Enc.sz α) :
    SL (w.setCell ⟨sb v, so v + n * Enc.sz α + k, none⟩ u) lo hi v (xs.set n x') ∧ Chg (sb v) (sb v + 1) w (w.setCell ⟨sb v, so v + n * Enc.sz α + k, none⟩ u) := by
  have h0 : 0 < xs.length := by omega
  have hin := h.inn h0
  have hch : Chg (sb v) (sb v + 1) w (w.setCell ⟨sb v, so v + n * Enc.sz α + k, none⟩ u) := ⟨rfl, rfl, rfl, by simp, fun j hj ho => RowKit.Below.heap_setCell _ _ _ _ (by simp only; omega)⟩
  refine ⟨⟨by simpa using h.form, ?_, by simpa using h.inn, by simpa using h.top, ?_⟩, hch⟩
  · intro i x hix
    refine ⟨fun j c hc => ?_⟩
    have hilt : i < xs.length := by have := (List.getElem?_eq_some_iff.1 hix).1; simpa using this
    have hjlt : j < Enc.sz α := by have := (List.getElem?_eq_some_iff.1 hc).1; rwa [Enc.len] at this
    have hold : w.cell? ⟨sb v, so v + i * Enc.sz α + j, none⟩ = some ((Enc.enc xs[i])[j]'(by rw [Enc.len]; exact hjlt)) := (h.el i xs[i] (by simp [hilt])).go j _ (by simp)
    by_cases hij : i = n ∧ j = k
    · obtain ⟨rfl, rfl⟩ := hij
      have hx : x = x' := by rw [List.getElem?_set] at hix; simp [hilt] at hix; exact hix.symm
      subst hx
      rw [World.cell?_setCell_same _ _ _ hold]
      rw [← hk, List.getElem?_set] at hc
      simp [Enc.len, hks] at hc
      rw [hc]
    · have hne : (⟨sb v, so v + n * Enc.sz α + k, none⟩ : Addr) ≠ ⟨sb v, so v + i * Enc.sz α + j, none⟩ := by
        intro he
        simp only [Addr.mk.injEq, true_and, and_true] at he
        apply hij
        have e2 : n * Enc.sz α + k = i * Enc.sz α + j := by omega
        have hdiv : n = i := by
          have h1 : (n * Enc.sz α + k) / Enc.sz α = n := by rw [Nat.mul_comm, Nat.mul_add_div (by omega), Nat.div_eq_of_lt hks]; rfl
          have h2 : (i * Enc.sz α + j) / Enc.sz α = i := by rw [Nat.mul_comm, Nat.mul_add_div (by omega), Nat.div_eq_of_lt hjlt]; rfl
          rw [← h1, e2, h2]
        subst hdiv
        exact ⟨rfl, by omega⟩
      rw [World.cell?_setCell_other _ _ _ _ hne, hold]
      by_cases hin' : i = n
      · subst hin'
        have hx : x = x' := by rw [List.getElem?_set] at hix; simp [hilt] at hix; exact hix.symm
        subst hx
        rw [← hk, List.getElem?_set] at hc
        have : k ≠ j := fun e => hij ⟨rfl, e.symm⟩
        simp only [this, if_false] at hc
        rw [← hc]; simp [Enc.len, hjlt]
      · have hx : xs[i] = x := by rw [List.getElem?_set] at hix; simp [Ne.symm hin', hilt] at hix; exact hix
        subst hx
        rw [← hc]; simp [Enc.len, hjlt]
  · intro i hi
    rw [World.frozen?_setCell]
    exact h.free i (by simpa using hi)

theorem run_store1 [hT : TScal P T] {bb o : Nat} {c : Value} (hu : u.oneCell' = true) (hc : w.cell? ⟨bb, o, none⟩ = some c) (hf : w.frozen? ⟨bb, o, none⟩ = false) : (Instr.storeAt T (ptr bb o) u).run P w = .ok () (w.setCell ⟨bb, o, none⟩ u) := by
  simp [Instr.storeAt, Instr.sureAddr, storeVar, run_size w hT.size, cells_one hu, storeCells, run_store, hu, add_lit, hc, hf]

/-- an element of one cell, of a slice of the call's own -/
theorem w_store_own [hT : TScal P T] {B n s' : Nat} {xs : List α} {x' : α} (hx : ev σ x = some (ptr (sb v) (so v + n * s'))) (hy : ev σ y = some u) (h : Own w e B v xs := by repeat (first | assumption | exact Go.Gw.Own.sl (by assumption) | exact Go.Gw.Box.at (by assumption) | exact Go.Gw.SLL.el (by first | assumption | exact Go.Gw.OwnD.sll (by assumption)) _ (by omega) | exact Go.Gw.SLL.at (by first | assumption | exact Go.Gw.OwnD.sll (by assumption)) (by omega) | exact Go.Gw.OwnD.sll (by assumption) | (apply Go.Gw.SL.chg; case hx => assumption) | (apply Go.Gw.Own.chg; case hx => assumption) | (apply Go.Gw.Box.chg; case hx => assumption) | (apply Go.Gw.At.chg; case hx => assumption) | exact .inl (Nat.zero_le _) | exact .inr (Nat.zero_le _) | (show _ ∨ _; omega))) (hs : s' = Enc.sz α := by rfl) (hn : n < xs.length := by first | omega | (simp only [List.length_set]; omega) | (simp only [List.length_set, List.length_append, List.length_cons, List.length_nil]; omega)) (he : Enc.enc x' = [u] := by rfl)
    (next : ∀ w', Own w' e B v (xs.set n x') → Chg (bL v) (bH v) w w' → w'.heap.size = w.heap.size → W P N ops Q rest σ w') : W P N ops Q (⟨none, .store T x y, ty, pos, af, none⟩ :: rest) σ w := by
  subst hs
  have hu : u.oneCell' = true := Enc.one x' u (by rw [he]; simp)
  have hs1 : Enc.sz α = 1 := by rw [← Enc.len x', he]; rfl
  obtain ⟨c0, hc0⟩ : ∃ c0, Enc.enc xs[n] = [c0] := by have := Enc.len xs[n]; rw [hs1] at this; exact List.length_eq_one_iff.1 this
  refine ⟨fun a ha => ?_⟩
  refine wpList_plain rfl fun K hK => ?_
  unfold Oper.wp
  have hcell := (h.sl.el n xs[n] (by simp [hn])).go 0 c0 (by rw [hc0]; rfl)
  have hf := h.sl.free (n * Enc.sz α + 0) (by rw [hs1]; omega)
  rw [← Nat.add_assoc] at hf
  have hr := run_store1 (P := P) (T := T) hu hcell hf
  obtain ⟨h1, h2⟩ := own_set (u := u) (k := 0) (x' := x') h hn (by rw [hc0, he]; rfl) (by omega)
  have : (execOp a.eval ⟨none, .store T x y, ty, pos, af, none⟩).run P w = .ok .skip (w.setCell ⟨sb v, so v + n * Enc.sz α + 0, none⟩ u) := by
    simp only [execOp, ha.eval hx, ha.eval hy, Sem.run_bind]
    rw [show so v + n * Enc.sz α = so v + n * Enc.sz α + 0 from rfl, hr]
    simp
  rw [this]
  exact hK _ _ ((next _ h1 h2 (by simp)).go _ (ha.put_none _))
/-- an element of one cell, of any slice that may be written -/
theorem w_store_sl [hT : TScal P T] {lo hi n s' : Nat} {xs : List α} {x' : α} (hx : ev σ x = some (ptr (sb v) (so v + n * s'))) (hy : ev σ y = some u) (h : SL w lo hi v xs := by repeat (first | assumption | exact Go.Gw.Own.sl (by assumption) | exact Go.Gw.Box.at (by assumption) | exact Go.Gw.SLL.el (by first | assumption | exact Go.Gw.OwnD.sll (by assumption)) _ (by omega) | exact Go.Gw.SLL.at (by first | assumption | exact Go.Gw.OwnD.sll (by assumption)) (by omega) | exact Go.Gw.OwnD.sll (by assumption) | (apply Go.Gw.SL.chg; case hx => assumption) | (apply Go.Gw.Own.chg; case hx => assumption) | (apply Go.Gw.Box.chg; case hx => assumption) | (apply Go.Gw.At.chg; case hx => assumption) | exact .inl (Nat.zero_le _) | exact .inr (Nat.zero_le _) | (show _ ∨ _; omega))) (hs : s' = Enc.sz α := by rfl) (hn : n < xs.length := by first | omega | (simp only [List.length_set]; omega) | (simp only [List.length_set, List.length_append, List.length_cons, List.length_nil]; omega)) (he : Enc.enc x' = [u] := by rfl)
    (next : ∀ w', SL w' lo hi v (xs.set n x') → Chg (sb v) (sb v + 1) w w' → w'.heap.size = w.heap.size → W P N ops Q rest σ w') : W P N ops Q (⟨none, .store T x y, ty, pos, af, none⟩ :: rest) σ w := by
  subst hs
  have hu : u.oneCell' = true := Enc.one x' u (by rw [he]; simp)
  have hs1 : Enc.sz α = 1 := by rw [← Enc.len x', he]; rfl
  obtain ⟨c0, hc0⟩ : ∃ c0, Enc.enc xs[n] = [c0] := by have := Enc.len xs[n]; rw [hs1] at this; exact List.length_eq_one_iff.1 this
  refine ⟨fun a ha => ?_⟩
  refine wpList_plain rfl fun K hK => ?_
  unfold Oper.wp
  have hcell := (h.el n xs[n] (by simp [hn])).go 0 c0 (by rw [hc0]; rfl)
  have hf := h.free (n * Enc.sz α + 0) (by rw [hs1]; omega)
  rw [← Nat.add_assoc] at hf
  have hr := run_store1 (P := P) (T := T) hu hcell hf
  obtain ⟨h1, h2⟩ := sl_set (u := u) (k := 0) (x' := x') h hn (by rw [hc0, he]; rfl) (by omega)
  have : (execOp a.eval ⟨none, .store T x y, ty, pos, af, none⟩).run P w = .ok .skip (w.setCell ⟨sb v, so v + n * Enc.sz α + 0, none⟩ u) := by
    simp only [execOp, ha.eval hx, ha.eval hy, Sem.run_bind]
    rw [show so v + n * Enc.sz α = so v + n * Enc.sz α + 0 from rfl, hr]
    simp
  rw [this]
  exact hK _ _ ((next _ h1 h2 (by simp)).go _ (ha.put_none _))
/-- a field of one cell of an element -/
theorem w_store_slf [hT : TScal P T] {lo hi n k s' : Nat} {xs : List α} {x' d : α} (hx : ev σ x = some (ptr (sb v) (so v + n * s' + k))) (hy : ev σ y = some u) (hu : u.oneCell' = true := by first | rfl | exact Go.Gw.SL.one (by assumption) | exact Go.Gw.Own.one (by assumption)) (h : SL w lo hi v xs := by repeat (first | assumption | exact Go.Gw.Own.sl (by assumption) | exact Go.Gw.Box.at (by assumption) | exact Go.Gw.SLL.el (by first | assumption | exact Go.Gw.OwnD.sll (by assumption)) _ (by omega) | exact Go.Gw.SLL.at (by first | assumption | exact Go.Gw.OwnD.sll (by assumption)) (by omega) | exact Go.Gw.OwnD.sll (by assumption) | (apply Go.Gw.SL.chg; case hx => assumption) | (apply Go.Gw.Own.chg; case hx => assumption) | (apply Go.Gw.Box.chg; case hx => assumption) | (apply Go.Gw.At.chg; case hx => assumption) | exact .inl (Nat.zero_le _) | exact .inr (Nat.zero_le _) | (show _ ∨ _; omega))) (hs : s' = Enc.sz α := by rfl) (hn : n < xs.length := by first | omega | (simp only [List.length_set]; omega) | (simp only [List.length_set, List.length_append, List.length_cons, List.length_nil]; omega)) (hk : k < Enc.sz α := by decide) (he : (Enc.enc (xs.getD n d)).set k u = Enc.enc x' := by rfl)
    (next : ∀ w', SL w' lo hi v (xs.set n x') → Chg (sb v) (sb v + 1) w w' → w'.heap.size = w.heap.size → W P N ops Q rest σ w') : W P N ops Q (⟨none, .store T x y, ty, pos, af, none⟩ :: rest) σ w := by
  subst hs
  have hg : xs.getD n d = xs[n] := by rw [List.getD_eq_getElem?_getD, List.getElem?_eq_getElem hn]; rfl
  rw [hg] at he
  refine ⟨fun a ha => ?_⟩
  refine wpList_plain rfl fun K hK => ?_
  unfold Oper.wp
  have hcell := (h.el n xs[n] (by simp [hn])).go k ((Enc.enc xs[n])[k]'(by rw [Enc.len]; exact hk)) (by simp)
  have hf := h.free (n * Enc.sz α + k) (by
    have : n * Enc.sz α + Enc.sz α ≤ xs.length * Enc.sz α := by rw [← Nat.succ_mul]; exact Nat.mul_le_mul_right _ hn
    omega)
  rw [← Nat.add_assoc] at hf
  have hr := run_store1 (P := P) (T := T) hu hcell hf
  obtain ⟨h1, h2⟩ := sl_set (u := u) (k := k) (x' := x') h hn he hk
  have : (execOp a.eval ⟨none, .store T x y, ty, pos, af, none⟩).run P w = .ok .skip (w.setCell ⟨sb v, so v + n * Enc.sz α + k, none⟩ u) := by
    simp only [execOp, ha.eval hx, ha.eval hy, Sem.run_bind, hr]
    simp
  rw [this]
  exact hK _ _ ((next _ h1 h2 (by simp)).go _ (ha.put_none _))

/-! ### A part of a slice -/
theorem y_slice {lo hi : Nat} {xs : List α} {l h : Int} {ol oh : Option Operand} [hT : TSli P T e s b] (hx : ev σ x = some v) (hl : (ol = none ∧ l = 0) ∨ ∃ y k, ol = some y ∧ ev σ y = some (.int k l)) (hh : (oh = none ∧ h = xs.length) ∨ ∃ y k, oh = some y ∧ ev σ y = some (.int k h))
    (H : SL w lo hi v xs) (hs : s = Enc.sz α) (hb : 0 ≤ l ∧ l ≤ h ∧ h ≤ xs.length) : ∃ u, YE P σ (.slice T x ol oh none) ty w u ∧ SL w lo hi u ((xs.take h.toNat).drop l.toNat) := by
  subst hs
  obtain ⟨a, c, hv, hle, hcm, ha⟩ := H.form
  let u : Value := .slice (if c = l.toNat then a else a.map (·.add (l.toNat * Enc.sz α))) (h.toNat - l.toNat) (c - l.toNat)
  refine ⟨u, ⟨fun w' hw ρ hρ => ?_⟩, ?_⟩
  · have e1 : ρ x = .slice a xs.length c := by rw [hρ _ _ hx, hv]
    have hlb : ∀ (k : IntKind), (Instr.sliceBound (.int k l) h.toNat .sliceB).run P w' = .ok l.toNat w' := fun k => by
      have h1 : 0 ≤ l ∧ l ≤ (h.toNat : Int) := by omega
      simp only [Instr.sliceBound, asIntOf, Sem.run_bind, Sem.run_pure, Result.andThen_ok, if_pos h1]
    have hhb : ∀ (k : IntKind), (Instr.sliceBound (.int k h) c .sliceAcap).run P w' = .ok h.toNat w' := fun k => by
      have h1 : 0 ≤ h ∧ h ≤ (c : Int) := by omega
      simp only [Instr.sliceBound, asIntOf, Sem.run_bind, Sem.run_pure, Result.andThen_ok, if_pos h1]
    have hbounds : (Instr.sliceBounds true xs.length c (ol.map ρ) (oh.map ρ) none).run P w' = .ok (l.toNat, h.toNat, c) w' := by
      rcases hh with ⟨rfl, rfl⟩ | ⟨y, k, rfl, hy⟩ <;> rcases hl with ⟨rfl, rfl⟩ | ⟨y', k', rfl, hy'⟩
      · simp [Instr.sliceBounds]
      · have := hlb k'
        simp only [Int.toNat_natCast] at this
        simp [Instr.sliceBounds, hρ _ _ hy', this]
      · simp [Instr.sliceBounds, hρ _ _ hy, hhb k]
      · simp [Instr.sliceBounds, hρ _ _ hy, hρ _ _ hy', hhb k, hlb k']
    have hsl : (Instr.sliceAt T (.slice a xs.length c) (ol.map ρ) (oh.map ρ) none).run P w' = .ok u w' := by
      simp only [Instr.sliceAt, Sem.run_bind, run_underlying hT.und, Result.andThen_ok, Instr.slice, hbounds, run_size w' hT.size, Sem.run_pure]
      rfl
    simp only [execOp, e1, Option.map_none, Sem.run_bind, hsl, Result.andThen_ok, Sem.run_pure]
  · have hlen : ((xs.take h.toNat).drop l.toNat).length = h.toNat - l.toNat := by simp; omega
    rcases Nat.eq_zero_or_pos (h.toNat - l.toNat) with h0 | h0
    · have hnil : (xs.take h.toNat).drop l.toNat = [] := List.eq_nil_of_length_eq_zero (by omega)
      rw [hnil]
      exact ⟨⟨_, c - l.toNat, by simp only [u, h0]; rfl, by simp, by omega, fun hh => by simp at hh⟩, fun i x hi => by simp at hi, fun hh => by simp at hh, H.top, fun i hi => by simp at hi⟩
    · have ha := ha (by omega)
      subst ha
      have hne : ¬ c = l.toNat := by omega
      have hu : u = .slice (some ⟨sb v, so v + l.toNat * Enc.sz α, none⟩) (h.toNat - l.toNat) (c - l.toNat) := by
        simp only [u, if_neg hne, Option.map_some, add_lit]
      rw [hu]
      refine ⟨⟨some ⟨sb v, so v + l.toNat * Enc.sz α, none⟩, c - l.toNat, by rw [hlen], by rw [hlen]; omega, by omega, fun _ => rfl⟩, fun i x hi => ?_, fun _ => H.inn (by omega), H.top, fun i hi => ?_⟩
      · rw [List.getElem?_drop, List.getElem?_take] at hi
        split at hi
        · have := H.el _ x hi
          show At w (sb v) (so v + l.toNat * Enc.sz α + i * Enc.sz α) _
          rwa [Nat.add_mul, ← Nat.add_assoc] at this
        · cases hi
      · show w.frozen? ⟨sb v, so v + l.toNat * Enc.sz α + i, none⟩ = false
        rw [hlen] at hi
        have h3 : l.toNat * Enc.sz α + i < xs.length * Enc.sz α := by
          have : l.toNat * Enc.sz α + (h.toNat - l.toNat) * Enc.sz α = h.toNat * Enc.sz α := by rw [← Nat.add_mul]; congr 1; omega
          have : h.toNat * Enc.sz α ≤ xs.length * Enc.sz α := Nat.mul_le_mul_right _ (by omega)
          omega
        have := H.free _ h3
        rwa [← Nat.add_assoc] at this
end
end Go.Gw

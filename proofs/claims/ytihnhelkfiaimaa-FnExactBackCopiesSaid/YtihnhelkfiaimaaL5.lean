/- Rules of my own: structs and slices that are built; append, make; elements that are stored; parts of slices. -/
import Derived.Test.YtihnhelkfiaimaaL4
namespace Go.Gw
open Go
set_option linter.unusedVariables false
set_option linter.unusedSimpArgs false

/-! ### A struct of fields of one cell each -/
class TFlat (P : Program) (T : TypeId) (zs : outParam (List Value)) : Prop where
  zero : (P.info? T).bind (·.zero) = some (.agg zs.toArray)
  und : ∃ fs, P.underlying T = some (.struct fs) ∧ fs.mapM (fun f => (P.info? f.type).map fun i => (f.offset, i.size)) = some ((List.range zs.length).map fun i => (i, 1)).toArray
def putAll (zs : List Value) : List (Nat × Value) → List Value
  | [] => zs
  | (i, v) :: r => putAll (zs.set i v) r
theorem putAll_len : ∀ (ps : List (Nat × Value)) (zs : List Value), (putAll zs ps).length = zs.length
  | [], zs => rfl
  | (i, v) :: r, zs => by simp [putAll, putAll_len r]
def evp (σ : Fm) : List (Nat × Operand) → Option (List (Nat × Value))
  | [] => some []
  | (i, x) :: r => match ev σ x, evp σ r with
    | some v, some vs => some ((i, v) :: vs)
    | _, _ => none
theorem evp_spec {σ : Fm} {ρ : Operand → Value} (hρ : ∀ x v, ev σ x = some v → ρ x = v) : ∀ {xs : List (Nat × Operand)} {vs : List (Nat × Value)}, evp σ xs = some vs → xs.map (fun p => (p.1, ρ p.2)) = vs
  | [], vs, h => by simp [evp] at h; simp [h]
  | (i, x) :: r, vs, h => by
    simp only [evp] at h
    split at h
    · rename_i v' vs' h1 h2
      simp only [Option.some.injEq] at h
      subst h
      simp [hρ _ _ h1, evp_spec hρ h2]
    · cases h
def Below' (n : Nat) : List (Nat × Value) → Prop
  | [] => True
  | (i, v) :: r => (Nat.blt i n = true ∧ v.oneCell' = true) ∧ Below' n r

theorem fill_one {n : Nat} {place : Nat → Option (Nat × Nat)} (hp : ∀ i, i < n → place i = some (i, 1)) : ∀ (ps : List (Nat × Value)) (zs : List Value), zs.length = n → Below' n ps →
    Instr.fill place zs.toArray ps = some (putAll zs ps).toArray
  | [], zs, _, _ => rfl
  | (i, v) :: r, zs, hz, ⟨⟨h1, h2⟩, h3⟩ => by
    have hi : i < n := by simpa [Nat.blt_eq] using h1
    have hc := cells_one h2
    simp only [Instr.fill, hp i hi, hc]
    rw [if_neg (by simp; omega)]
    have := fill_one hp r (zs.set i v) (by simp [hz]) h3
    simpa [putAll] using this

section
variable {P : Program} {N : Nat} {Q : Post} {σ : Fm} {w : World} {ops : Array Oper} {rest : List Oper} {ty T : TypeId} {pos : String} {af : Array Edge} {d : Nat} {v u : Value} {x y : Operand} {e s b : Nat}

theorem y_build {zs : List Value} [hT : TFlat P T zs] {parts : List (Nat × Operand)} {ps : List (Nat × Value)} {cs : List Value} (hx : evp σ parts = some ps) (h : Below' zs.length ps := by repeat (first | exact trivial | refine ⟨⟨rfl, by first | rfl | exact Go.Gw.SL.one (by assumption) | exact Go.Gw.Own.one (by assumption)⟩, ?_⟩)) (hc : putAll zs ps = cs := by dsimp only [putAll, List.set]) : YE P σ (.build T parts.toArray) ty w (.agg cs.toArray) := ⟨fun w' hw ρ hρ => by
  subst hc
  obtain ⟨fs, hu, hm⟩ := hT.und
  have hz : (zeroValue T).run P w' = .ok (.agg zs.toArray) w' := run_zero w' (z := .agg zs.toArray) (h := ⟨hT.zero⟩)
  have hpl : (fs.mapM fun f => do pure (f.offset, ← sizeOf f.type) : Sem (Array (Nat × Nat))).run P w' = .ok ((List.range zs.length).map fun i => (i, 1)).toArray w' := by
    have e1 : fs = fs.toList.toArray := by simp
    rw [e1, List.mapM_toArray] at hm ⊢
    simp only [Sem.run_map]
    cases hq : fs.toList.mapM (fun f => (P.info? f.type).map fun i => (f.offset, i.size)) with
    | none => simp [hq] at hm
    | some pl =>
      simp [hq] at hm
      have := run_places (P := P) w' fs.toList pl hq
      have e2 : (fs.toList.mapM fun f => do pure (f.offset, ← sizeOf f.type) : Sem (List (Nat × Nat))) = fs.toList.mapM fun f => Prod.mk f.offset <$> sizeOf f.type := by simp
      rw [e2, this]
      simp [hm]
  have hf := fill_one (n := zs.length) (place := fun i => (((List.range zs.length).map fun i => (i, 1)).toArray)[i]?) (fun i hi => by simp [hi]) ps zs rfl h
  have hparts : parts.toArray.map (fun (i, x) => (i, ρ x)) = ps.toArray := by rw [List.map_toArray, ← evp_spec hρ hx]
  simp only [execOp, Instr.build, hparts, Sem.run_bind, hz, Result.andThen_ok, Value.cells, run_underlying hu, hpl]
  rw [show (fun x => (((List.range zs.length).map fun i => (i, 1)).toArray)[x]?) = (fun i => (((List.range zs.length).map fun i => (i, 1)).toArray)[i]?) from rfl, hf]
  simp⟩
end

/-! ### A slice that is built -/
section
variable {P : Program} {N : Nat} {Q : Post} {σ : Fm} {w : World} {ops : Array Oper} {rest : List Oper} {ty T : TypeId} {pos : String} {af : Array Edge} {d : Nat} {v u : Value} {x y : Operand} {e s b : Nat}
variable {α : Type} [E : Enc α]

theorem own_new (w : World) (e : TypeId) (xs : List α) (hm : xs.length ≤ maxLen) (B : Nat) (hB : B ≤ w.heap.size) : Own (w.alloc (.cells (xs.flatMap Enc.enc).toArray e)) e B (.slice (some ⟨w.heap.size, 0, none⟩) xs.length xs.length) xs :=
  ⟨flat_len xs, .inr ⟨w.heap.size, xs.length, _, rfl, hB, heap_alloc_new w _, Nat.le_refl _, hm, by simp only [List.size_toArray, flat_len], by show (xs.flatMap Enc.enc).take _ = _; rw [← flat_len xs, List.take_length]⟩⟩

theorem fill_row {sz : Nat} (hsz : 0 < sz) : ∀ (vs : List Value) (k : Nat) (cs : List Value), (∀ v ∈ vs, v.cells.size = sz) → cs.length = (k + vs.length) * sz →
    Instr.fill (fun i => some (i * sz, sz)) cs.toArray (vs.zipIdx k |>.map fun p => (p.2, p.1)) = some (cs.take (k * sz) ++ vs.flatMap fun v => v.cells.toList).toArray := by
  intro vs
  induction vs with
  | nil => intro k cs _ hl; simp [Instr.fill]; rw [List.take_of_length_le (by simp at hl; omega)]
  | cons v r ih =>
    intro k cs hv hl
    have h1 : v.cells.size = sz := hv v (by simp)
    have hfold : ∀ (l : List Value) (j : Nat) (cs : List Value), k * sz + j + l.length ≤ cs.length →
        (l.zipIdx j).foldl (fun (cs : Array Value) p => cs.setIfInBounds (k * sz + p.2) p.1) cs.toArray = (cs.take (k * sz + j) ++ l ++ cs.drop (k * sz + j + l.length)).toArray := by
      intro l
      induction l with
      | nil => intro j cs _; simp
      | cons c l ihl =>
        intro j cs hle
        simp only [List.zipIdx_cons, List.foldl_cons]
        rw [List.setIfInBounds_toArray]
        rw [ihl (j + 1) (cs.set (k * sz + j) c) (by simp at hle ⊢; omega)]
        congr 1
        simp only [List.length_cons] at hle ⊢
        rw [show k * sz + (j + 1) = (k * sz + j) + 1 by omega, List.take_set]
        rw [List.drop_set_of_lt (by omega)]
        rw [show k * sz + j + 1 + l.length = k * sz + j + (l.length + 1) by omega]
        congr 1
        rw [List.append_cons]
        congr 1
        apply List.ext_getElem?
        intro i
        simp only [List.getElem?_set, List.getElem?_append, List.length_take, List.getElem?_take]
        by_cases hi : i < k * sz + j
        · simp [hi, show min (k * sz + j) cs.length = k * sz + j by omega, show ¬ k * sz + j = i by omega, show i < k * sz + j + 1 by omega]
        · by_cases hi2 : i = k * sz + j
          · subst hi2; simp [show min (k * sz + j) cs.length = k * sz + j by omega, show k * sz + j < cs.length by omega]; omega
          · simp [hi, show min (k * sz + j) cs.length = k * sz + j by omega, show ¬ k * sz + j = i by omega, show ¬ i < k * sz + j + 1 by omega]
            omega
    simp only [List.zipIdx_cons, List.map_cons, Instr.fill]
    have hle : k * sz + sz ≤ cs.length := by rw [hl, List.length_cons, ← Nat.succ_mul]; exact Nat.mul_le_mul_right _ (by omega)
    rw [if_neg (by simp [h1]; omega)]
    have hf := hfold v.cells.toList 0 cs (by simp [h1]; omega)
    have e1 : Array.foldl (fun (cs : Array Value) (p : Value × Nat) => cs.setIfInBounds (k * sz + p.2) p.1) cs.toArray v.cells.zipIdx = (cs.take (k * sz) ++ v.cells.toList ++ cs.drop (k * sz + sz)).toArray := by
      rw [← Array.foldl_toList, Array.toList_zipIdx, hf]
      simp [h1]
    have e2 : Array.foldl (fun cs x => match x with | (c, j) => cs.setIfInBounds (k * sz + j) c) cs.toArray v.cells.zipIdx = (cs.take (k * sz) ++ v.cells.toList ++ cs.drop (k * sz + sz)).toArray := e1
    rw [e2]
    have h3 := ih (k + 1) (cs.take (k * sz) ++ v.cells.toList ++ cs.drop (k * sz + sz)) (fun u hu => hv u (by simp [hu])) (by
      simp only [List.length_append, List.length_take, List.length_drop, Array.length_toList, h1, hl, List.length_cons]
      have : k * sz ≤ (k + (r.length + 1)) * sz := Nat.mul_le_mul_right _ (by omega)
      have : (k + (r.length + 1)) * sz = (k + 1 + r.length) * sz := by congr 1; omega
      have : (k + 1 + r.length) * sz = k * sz + sz + r.length * sz := by rw [Nat.add_mul, Nat.add_mul, Nat.one_mul]
      omega)
    rw [h3]
    congr 2
    rw [List.flatMap_cons, ← List.append_assoc]
    congr 1
    have hk : (cs.take (k * sz) ++ v.cells.toList).length = (k + 1) * sz := by
      simp only [List.length_append, List.length_take, Array.length_toList, h1]
      rw [Nat.min_eq_left (by omega), Nat.add_mul, Nat.one_mul]
    rw [← hk, List.take_left]

theorem run_zero' (w : World) [hT : TSli P T e s b] : ∃ z, (zeroValue e).run P w = .ok z w ∧ z.cells.size = s := by
  have h := hT.zero
  cases hz : (P.info? e).bind (·.zero) with
  | none => simp [hz] at h
  | some z => exact ⟨z, run_zero w (h := ⟨hz⟩), hT.zlen z hz⟩
theorem run_lit [hT : TSli P T e s b] (hs0 : 0 < s) (vs : List Value) (hv : ∀ v ∈ vs, v.cells.size = s) (hsm : vs.length * s ≤ 16777216) :
    (Instr.buildSlice T vs.length (vs.zipIdx.map fun p => (p.2, p.1)).toArray).run P w = .ok (.slice (some ⟨w.heap.size, 0, none⟩) vs.length vs.length) (w.alloc (.cells (vs.flatMap fun v => v.cells.toList).toArray e)) := by
  obtain ⟨z, hz, hzs⟩ := run_zero' (P := P) (T := T) w
  have hfill : ∀ (zs : Array Value), zs.size = vs.length * s → Instr.fill (fun i => some (i * s, s)) zs (vs.zipIdx.map fun p => (p.2, p.1)) = some (vs.flatMap fun v => v.cells.toList).toArray := by
    intro zs hzl
    have := fill_row hs0 vs 0 zs.toList hv (by simpa using hzl)
    simpa using this
  have hno : ¬ vs.length * s > 2 ^ 24 := by omega
  simp only [Instr.buildSlice, run_underlying hT.und, run_size w hT.size, Sem.run_bind, Result.andThen_ok, Sem.run_ite, if_neg hno, Sem.run_pure]
  by_cases h0 : vs.length * s = 0
  · rw [if_pos h0]
    try simp only [Result.andThen_ok]
    rw [hfill _ (by simp [h0])]
    simp [newRow, h0]
  · rw [if_neg h0, hz]
    simp only [Result.andThen_ok]
    rw [hfill _ (by simp)]
    simp [newRow]
def decs : List Value → Option (List α)
  | [] => some []
  | v :: r => match E.dec v, decs r with
    | some x, some xs => some (x :: xs)
    | _, _ => none
theorem decs_ok : ∀ {vs : List Value} {xs : List α}, decs vs = some xs → vs.length = xs.length ∧ (vs.flatMap fun v => v.cells.toList) = xs.flatMap Enc.enc ∧ ∀ v ∈ vs, v.cells.size = Enc.sz α
  | [], xs, h => by simp [decs] at h; subst h; simp
  | v :: r, xs, h => by
    unfold decs at h
    split at h
    · rename_i x xs' h1 h2
      simp only [Option.some.injEq] at h
      subst h
      obtain ⟨g1, g2, g3⟩ := decs_ok h2
      have := E.dec_ok v x h1
      refine ⟨by simp [g1], by simp only [List.flatMap_cons, this, g2], fun u hu => ?_⟩
      rcases List.mem_cons.1 hu with rfl | hu
      · rw [← Array.length_toList, this, Enc.len]
      · exact g3 u hu
    · cases h
def num : Nat → List Value → List (Nat × Value)
  | _, [] => []
  | k, v :: r => (k, v) :: num (k + 1) r
theorem num_eq : ∀ (vs : List Value) (k : Nat), num k vs = (vs.zipIdx k).map fun p => (p.2, p.1)
  | [], k => rfl
  | v :: r, k => by simp [num, num_eq r]
/-- what a literal lays -/
def Lit' (w : World) (e : TypeId) (xs : List α) (v : Value) (w' : World) : Prop := Own w' e w.heap.size v xs ∧ Ext w w' ∧ bL v = w.heap.size ∧ bH v = w.heap.size + 1 ∧ w'.heap.size = w.heap.size + 1
theorem w_lit' [hT : TSli P T e s b] {n : Nat} {parts : List (Nat × Operand)} {vs : List Value} {xs : List α} (hs : s = Enc.sz α) (hp : evp σ parts = some (num 0 vs)) (hl : vs.length = xs.length) (hf : (vs.flatMap fun v => v.cells.toList) = xs.flatMap Enc.enc) (hv : ∀ v ∈ vs, v.cells.size = Enc.sz α)
    (hn : vs.length = n) (hsm : n ≤ 1000) (hss : s ≤ 1000) (hd : Nat.blt d N = true)
    (k : ∀ v w', Own w' e w.heap.size v xs → Ext w w' → bL v = w.heap.size → bH v = w.heap.size + 1 → w'.heap.size = w.heap.size + 1 → W P N ops Q rest ((d, v) :: σ) w') : W P N ops Q (⟨some d, .buildSlice T n parts.toArray, ty, pos, af, none⟩ :: rest) σ w := by
  subst hn
  subst hs
  refine ⟨fun a ha => ?_⟩
  refine wpList_plain rfl fun K hK => ?_
  unfold Oper.wp
  have hparts : parts.toArray.map (fun (i, x) => (i, a.eval x)) = (vs.zipIdx.map fun p => (p.2, p.1)).toArray := by
    rw [List.map_toArray, ← num_eq vs 0, ← evp_spec (fun x v hx => ha.eval hx) hp]
  have hb : vs.length * Enc.sz α ≤ 1000 * 1000 := Nat.mul_le_mul hsm hss
  have : (execOp a.eval ⟨some d, .buildSlice T vs.length parts.toArray, ty, pos, af, none⟩).run P w = .ok (.value (.slice (some ⟨w.heap.size, 0, none⟩) vs.length vs.length)) (w.alloc (.cells (xs.flatMap Enc.enc).toArray e)) := by
    simp only [execOp, hparts, Sem.run_bind, run_lit (P := P) (T := T) (w := w) E.pos vs hv (by omega), Result.andThen_ok, Sem.run_pure, hf]
  rw [this, hl]
  have h0 := own_new w e xs (by unfold maxLen; omega) w.heap.size (Nat.le_refl _)
  exact hK _ _ ((k _ _ h0 (Chg.alloc w _) rfl rfl (by simp)).go _ (ha.put hd _))
/-- a literal -/
theorem w_lit [hT : TSli P T e s b] {n : Nat} {parts : List (Nat × Operand)} {ps : List (Nat × Value)} {xs : List α} (hs : s = Enc.sz α) (hp : evp σ parts = some ps) (hi : num 0 (ps.map (·.2)) = ps) (hx : decs (ps.map (·.2)) = some xs)
    (hn : ps.length = n) (hsm : Nat.ble n 1000 = true) (hss : Nat.ble s 1000 = true) (hd : Nat.blt d N = true)
    (k : ∀ v w', Own w' e w.heap.size v xs → Ext w w' → bL v = w.heap.size → bH v = w.heap.size + 1 → w'.heap.size = w.heap.size + 1 → W P N ops Q rest ((d, v) :: σ) w') : W P N ops Q (⟨some d, .buildSlice T n parts.toArray, ty, pos, af, none⟩ :: rest) σ w :=
  let ⟨h1, h2, h3⟩ := decs_ok hx
  w_lit' hs (by rw [hi]; exact hp) h1 h2 h3 (by simpa using hn) (Nat.le_of_ble_eq_true hsm) (Nat.le_of_ble_eq_true hss) hd k
end
end Go.Gw

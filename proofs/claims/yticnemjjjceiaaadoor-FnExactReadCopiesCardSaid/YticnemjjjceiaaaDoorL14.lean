/- Rules of my own: slices of slices of numbers (decks of cards): read; of the call's own. -/
import Derived.Test.YticnemjjjceiaaaDoorL13
namespace Go.Gw
open Go
set_option linter.unusedVariables false
set_option linter.unusedSimpArgs false

/-- a slice that is no slice reads as nil -/
def svOf : Value → SV
  | .slice a n c => ⟨a, n, c⟩
  | _ => ⟨none, 0, 0⟩
abbrev sv0 : SV := ⟨none, 0, 0⟩
abbrev svD (svs : List SV) (i : Nat) : Value := (svs.getD i sv0).v
theorem svOf_v {α : Type} {E : Enc α} {w : World} {lo hi : Nat} {v : Value} {xs : List α} (h : SL w lo hi v xs) : (svOf v).v = v := by
  obtain ⟨a, c, hv, _⟩ := h.form
  rw [hv]; rfl
theorem nil_sl {α : Type} {E : Enc α} (w : World) (lo hi : Nat) (ht : hi ≤ w.heap.size) : SL w lo hi (.slice none 0 0) ([] : List α) :=
  ⟨⟨none, 0, rfl, Nat.le_refl _, Nat.zero_le _, fun h => by simp at h⟩, fun i x hi => by simp at hi, fun h => by simp at h, ht, fun i hi => by simp at hi⟩

/-- v is a slice of slices; they read as xss; all lie in blocks from lo up to hi -/
structure SLL (w : World) (lo hi : Nat) (svs : List SV) (v : Value) (xss : List (List Int)) : Prop where
  out : SL w lo hi v svs
  len : svs.length = xss.length
  el : ∀ i, i < xss.length → SL w lo hi (svD svs i) (xss.getD i [])
theorem SLL.chg {w w' : World} {lo hi l k : Nat} {svs : List SV} {v : Value} {xss : List (List Int)} (h : SLL w lo hi svs v xss) (hx : Chg l k w w') (ho : k ≤ lo ∨ hi ≤ l) : SLL w' lo hi svs v xss :=
  ⟨h.out.chg hx ho, h.len, fun i hi => (h.el i hi).chg hx ho⟩
theorem SLL.ext {w w' : World} {lo hi : Nat} {svs : List SV} {v : Value} {xss : List (List Int)} (h : SLL w lo hi svs v xss) (hx : Ext w w') : SLL w' lo hi svs v xss := h.chg hx (.inl (Nat.zero_le _))
theorem SLL.top {w : World} {lo hi : Nat} {svs : List SV} {v : Value} {xss : List (List Int)} (h : SLL w lo hi svs v xss) : hi ≤ w.heap.size := h.out.top
theorem SLL.at {w : World} {lo hi : Nat} {svs : List SV} {v : Value} {xss : List (List Int)} (h : SLL w lo hi svs v xss) {i : Nat} (hi : i < xss.length) : At w (sb v) (so v + i * 1) [svD svs i] := by
  have hl := h.len
  have := h.out.el i (svs.getD i sv0) (by rw [List.getD_eq_getElem?_getD, List.getElem?_eq_getElem (by omega)]; rfl)
  exact this
theorem SLL.small {w : World} {lo hi : Nat} {svs : List SV} {v : Value} {xss : List (List Int)} (h : SLL w lo hi svs v xss) : (xss.length : Int) ≤ 9223372036854775807 := by
  have := h.out.small; rw [h.len] at this; exact this

/-- two slices lie apart -/
abbrev Apart (u v : Value) : Prop := bH u ≤ bL v ∨ bH v ≤ bL u
/-- a place in a deck of the call's own -/
structure Plc (lo hi : Nat) (v : Value) (u : Value) : Prop where
  rng : (bH u = 0 ∧ bL u = 0) ∨ (lo ≤ bL u ∧ bH u = bL u + 1 ∧ bH u ≤ hi)
  out : Apart u v
/-- v is a slice of slices, all of the call's own, no two in one block, in blocks from lo up to hi -/
structure OwnD (w : World) (e : TypeId) (lo hi : Nat) (svs : List SV) (v : Value) (xss : List (List Int)) : Prop where
  own : Own w e lo v svs
  oh : bH v ≤ hi
  len : svs.length = xss.length
  el : ∀ i, i < xss.length → SL w (bL (svD svs i)) (bH (svD svs i)) (svD svs i) (xss.getD i [])
  plc : ∀ i, i < xss.length → Plc lo hi v (svD svs i)
  pw : ∀ i j, i < j → j < xss.length → Apart (svD svs i) (svD svs j)
  top : hi ≤ w.heap.size
section
variable {w w' : World} {e : TypeId} {lo hi : Nat} {svs : List SV} {v u : Value} {xss : List (List Int)}
theorem OwnD.lt (h : OwnD w e lo hi svs v xss) : ((bH v = 0 ∧ bL v = 0) ∨ (lo ≤ bL v ∧ bL v < hi ∧ bH v = bL v + 1)) ∧ hi ≤ w.heap.size ∧ svs.length = xss.length := by
  have h1 := h.own.lt
  have h2 := h.oh
  have h3 := h.top
  refine ⟨?_, h3, h.len⟩
  omega
theorem OwnD.chg {l k : Nat} (h : OwnD w e lo hi svs v xss) (hx : Chg l k w w') (ho : k ≤ lo ∨ hi ≤ l) : OwnD w' e lo hi svs v xss := by
  refine ⟨h.own.chg hx ?_, h.oh, h.len, fun i hi' => (h.el i hi').chg hx ?_, h.plc, h.pw, Nat.le_trans h.top hx.size⟩
  · have := h.lt.1; omega
  · have := (h.plc i hi').rng; omega
theorem OwnD.ext (h : OwnD w e lo hi svs v xss) (hx : Ext w w') : OwnD w' e lo hi svs v xss := h.chg hx (.inl (Nat.zero_le _))
theorem OwnD.wide {hi' : Nat} (h : OwnD w e lo hi svs v xss) (h1 : hi ≤ hi') (h2 : hi' ≤ w.heap.size) : OwnD w e lo hi' svs v xss :=
  ⟨h.own, Nat.le_trans h.oh h1, h.len, h.el, fun i hi => ⟨by have := (h.plc i hi).rng; omega, (h.plc i hi).out⟩, h.pw, h2⟩
theorem OwnD.low {lo' : Nat} (h : OwnD w e lo hi svs v xss) (h1 : lo' ≤ lo) : OwnD w e lo' hi svs v xss :=
  ⟨h.own.base h1, h.oh, h.len, h.el, fun i hi => ⟨by have := (h.plc i hi).rng; omega, (h.plc i hi).out⟩, h.pw, h.top⟩
theorem sl_into {α : Type} {E : Enc α} {w : World} {l h lo hi : Nat} {v : Value} {xs : List α} (s : SL w l h v xs) (hr : (h = 0 ∧ l = 0) ∨ (lo ≤ l ∧ h ≤ hi)) (ht : hi ≤ w.heap.size) : SL w lo hi v xs :=
  ⟨s.form, s.el, fun h0 => by have := s.inn h0; omega, ht, s.free⟩
theorem OwnD.sll (h : OwnD w e lo hi svs v xss) : SLL w lo hi svs v xss :=
  ⟨sl_into h.own.sl (by have := h.lt.1; omega) h.top, h.len, fun i hi => sl_into (h.el i hi) (by have := (h.plc i hi).rng; omega) h.top⟩
theorem OwnD.nil (w : World) (e : TypeId) (lo hi : Nat) (ht : hi ≤ w.heap.size) : OwnD w e lo hi [] (.slice none 0 0) [] :=
  ⟨Own.nil w e lo, Nat.zero_le _, rfl, fun i h => by simp at h, fun i h => by simp at h, fun i j _ h => by simp at h, ht⟩
/-- an empty slice, of a block of its own -/
theorem OwnD.of_empty (h : Own w e lo v ([] : List SV)) : OwnD w e lo w.heap.size [] v [] :=
  ⟨h, by have := h.lt; omega, rfl, fun i h => by simp at h, fun i h => by simp at h, fun i j _ h => by simp at h, Nat.le_refl _⟩
theorem svD_append_lt {svs : List SV} {s : SV} {i : Nat} (h : i < svs.length) : svD (svs ++ [s]) i = svD svs i := by
  simp [svD, List.getD_eq_getElem?_getD, List.getElem?_append_left h]
theorem svD_append_eq {svs : List SV} {s : SV} {i : Nat} (h : i = svs.length) : svD (svs ++ [s]) i = s.v := by
  subst h; simp [svD, List.getD_eq_getElem?_getD]
theorem getD_append_lt {α : Type} {xs : List α} {x d : α} {i : Nat} (h : i < xs.length) : (xs ++ [x]).getD i d = xs.getD i d := by
  simp [List.getD_eq_getElem?_getD, List.getElem?_append_left h]
theorem getD_append_eq {α : Type} {xs : List α} {x d : α} {i : Nat} (h : i = xs.length) : (xs ++ [x]).getD i d = x := by
  subst h; simp [List.getD_eq_getElem?_getD]
/-- one slice more, at the end: the outer one has grown from w to w' -/
theorem OwnD.push {v' : Value} {ys : List Int} {s : SV} {ti : Nat} (h : OwnD w e lo hi svs v xss) (h2 : Own w' e lo v' (svs ++ [s])) (hx : Chg (bL v) (bH v) w w') (hr : (bL v' = bL v ∧ bH v' = bH v) ∨ (w.heap.size ≤ bL v' ∧ bH v' = bL v' + 1 ∧ bL v' < w'.heap.size))
    (hs : SL w (bL s.v) (bH s.v) s.v ys) (hp : (bH s.v = 0 ∧ bL s.v = 0) ∨ (hi ≤ bL s.v ∧ lo ≤ bL s.v ∧ bH s.v = bL s.v + 1 ∧ bH s.v ≤ w.heap.size)) : OwnD w' e lo w'.heap.size (svs ++ [s]) v' (xss ++ [ys]) := by
  have hl := h.len
  have hlt := h.lt
  have hz := hx.size
  have hsv : Apart s.v v' ∧ Apart s.v v := by
    constructor <;> rcases hp with hp | hp <;> omega
  refine ⟨h2, ?_, by simp [hl], ?_, ?_, ?_, Nat.le_refl _⟩
  · have := h2.lt; omega
  · intro i hi'
    by_cases hi : i < xss.length
    · rw [svD_append_lt (by omega), getD_append_lt hi]
      have hp := h.plc i hi
      exact (h.el i hi).chg hx (by have := hp.out; rcases this with h | h <;> omega)
    · have e : i = xss.length := by simp at hi'; omega
      rw [svD_append_eq (by omega), getD_append_eq e]
      exact hs.chg hx (by have := hsv.2; rcases this with h | h <;> omega)
  · intro i hi'
    by_cases hi : i < xss.length
    · rw [svD_append_lt (by omega)]
      have hp := h.plc i hi
      refine ⟨by have := hp.rng; omega, ?_⟩
      have h3 := hp.out
      have h4 := hp.rng
      rcases hr with hr | hr
      · rw [Apart, hr.1, hr.2]; exact h3
      · show _ ∨ _; omega
    · have e : i = xss.length := by simp at hi'; omega
      rw [svD_append_eq (by omega)]
      exact ⟨by omega, hsv.1⟩
  · intro i j hij hj
    by_cases hi : j < xss.length
    · rw [svD_append_lt (by omega), svD_append_lt (by omega)]
      exact h.pw i j hij hi
    · have e : j = xss.length := by simp at hj; omega
      rw [svD_append_lt (by omega), svD_append_eq (by omega)]
      have := (h.plc i (by omega)).rng
      show _ ∨ _
      omega
/-- one of the slices has other elements -/
theorem OwnD.upd {i : Nat} {ys : List Int} {l k : Nat} (h : OwnD w e lo hi svs v xss) (hi' : i < xss.length) (hx : Chg l k w w') (hl : l = bL (svD svs i)) (hk : k = bH (svD svs i)) (hs : SL w' (bL (svD svs i)) (bH (svD svs i)) (svD svs i) ys) : OwnD w' e lo hi svs v (xss.set i ys) := by
  subst hl; subst hk
  refine ⟨h.own.chg hx ?_, h.oh, by simp [h.len], ?_, ?_, ?_, Nat.le_trans h.top hx.size⟩
  · rcases (h.plc i hi').out with h1 | h1
    · exact .inl h1
    · exact .inr h1
  · intro j hj
    simp only [List.length_set] at hj
    by_cases e : j = i
    · subst e
      have e2 : (xss.set j ys).getD j [] = ys := by simp [List.getD_eq_getElem?_getD, hj]
      rw [e2]; exact hs
    · have e2 : (xss.set i ys).getD j [] = xss.getD j [] := by simp [List.getD_eq_getElem?_getD, List.getElem?_set, Ne.symm e]
      rw [e2]
      refine (h.el j hj).chg hx ?_
      rcases Nat.lt_or_ge j i with hji | hji
      · rcases h.pw j i hji hi' with h1 | h1
        · exact .inr h1
        · exact .inl h1
      · rcases h.pw i j (by omega) hj with h1 | h1
        · exact .inl h1
        · exact .inr h1
  · intro j hj; exact h.plc j (by simpa using hj)
  · intro a b hab hb; exact h.pw a b hab (by simpa using hb)
/-- one of the slices is another one -/
theorem OwnD.put {i : Nat} {ys : List Int} {s : SV} (h : OwnD w e lo hi svs v xss) (hi' : i < xss.length) (h2 : Own w' e lo v (svs.set i s)) (hx : Chg (bL v) (bH v) w w')
    (hs : SL w (bL s.v) (bH s.v) s.v ys) (hp : (bH s.v = 0 ∧ bL s.v = 0) ∨ (hi ≤ bL s.v ∧ lo ≤ bL s.v ∧ bH s.v = bL s.v + 1 ∧ bH s.v ≤ w.heap.size)) : OwnD w' e lo w'.heap.size (svs.set i s) v (xss.set i ys) := by
  have hl := h.len
  have hlt := h.lt
  have hz := hx.size
  have hsv : Apart s.v v := by rcases hp with hp | hp <;> (show _ ∨ _; omega)
  have eS : ∀ j, j ≠ i → svD (svs.set i s) j = svD svs j := fun j hj => by simp [svD, List.getD_eq_getElem?_getD, List.getElem?_set, Ne.symm hj]
  have eI : svD (svs.set i s) i = s.v := by simp [svD, List.getD_eq_getElem?_getD, show i < svs.length by omega]
  refine ⟨h2, by have := h2.lt; omega, by simp [hl], ?_, ?_, ?_, Nat.le_refl _⟩
  · intro j hj
    simp only [List.length_set] at hj
    by_cases e : j = i
    · subst e
      have e2 : (xss.set j ys).getD j [] = ys := by simp [List.getD_eq_getElem?_getD, hj]
      rw [e2, eI]
      exact hs.chg hx (by rcases hsv with h | h <;> omega)
    · have e2 : (xss.set i ys).getD j [] = xss.getD j [] := by simp [List.getD_eq_getElem?_getD, List.getElem?_set, Ne.symm e]
      rw [e2, eS j e]
      exact (h.el j hj).chg hx (by rcases (h.plc j hj).out with h | h <;> omega)
  · intro j hj
    simp only [List.length_set] at hj
    by_cases e : j = i
    · subst e; rw [eI]; exact ⟨by omega, hsv⟩
    · rw [eS j e]; exact ⟨by have := (h.plc j hj).rng; omega, (h.plc j hj).out⟩
  · intro a b hab hb
    simp only [List.length_set] at hb
    by_cases ea : a = i
    · subst ea
      rw [eI, eS b (by omega)]
      have := (h.plc b hb).rng
      show _ ∨ _; omega
    · rw [eS a ea]
      by_cases eb : b = i
      · subst eb
        rw [eI]
        have := (h.plc a (by omega)).rng
        show _ ∨ _; omega
      · rw [eS b eb]; exact h.pw a b hab hb
end

section
variable {P : Program} {N : Nat} {Q : Post} {σ : Fm} {w w' : World} {ops : Array Oper} {rest : List Oper} {T ty : TypeId} {x y : Operand} {v u t : Value} {lo hi l k e s b d : Nat} {pos : String} {af : Array Edge} {svs : List SV} {xss : List (List Int)} {ys : List Int}
/-- a slice of numbers that is an element -/
theorem y_load_sv [TScal P T] {n : Nat} (hx : ev σ x = some (ptr (sb v) (so v + n * 1))) (h : SLL w lo hi svs v xss := by first | assumption | exact Go.Gw.OwnD.sll (by assumption)) (hn : n < xss.length := by first | omega | (simp only [List.length_set]; omega) | (simp only [List.length_set, List.length_append, List.length_cons, List.length_nil]; omega)) : YE P σ (.load T x) ty w (svD svs n) := by
  have hl := h.len
  exact y_load_el (d := sv0) hx h.out (by omega) rfl
/-- a card that is an element -/
theorem y_load_cd [TStr P T 1] {n : Nat} (hx : ev σ x = some (ptr (sb v) (so v + n * 1))) (h : SLL w lo hi svs v xss := by first | assumption | exact Go.Gw.OwnD.sll (by assumption)) (hn : n < xss.length := by first | omega | (simp only [List.length_set]; omega) | (simp only [List.length_set, List.length_append, List.length_cons, List.length_nil]; omega)) : YE P σ (.load T x) ty w (.agg #[svD svs n]) := by
  have hl := h.len
  exact y_load_els (d := sv0) hx h.out rfl (by omega) rfl
theorem y_lend {e s b : Nat} [hT : TSli P T e s b] (hx : ev σ x = some v) (h : SLL w lo hi svs v xss := by first | assumption | exact Go.Gw.OwnD.sll (by assumption)) : YE P σ (.call { callee := .builtin .len, args := #[x], argTypes := #[T] }) ty w (.int .i64 xss.length) := by
  have := y_len (P := P) (T := T) (ty := ty) hx h.out
  rwa [h.len] at this
theorem y_indexd {e s b : Nat} {k : IntKind} {i : Int} [hT : TSli P T e s b] (hx : ev σ x = some v) (hy : ev σ y = some (.int k i)) (h : SLL w lo hi svs v xss := by first | assumption | exact Go.Gw.OwnD.sll (by assumption)) (hi : 0 ≤ i ∧ i < xss.length := by first | omega | (simp only [List.length_set]; omega) | (simp only [List.length_set, List.length_append, List.length_cons, List.length_nil]; omega)) : YE P σ (.indexAddr T x y) ty w (ptr (sb v) (so v + i.toNat * s)) := by
  have hl := h.len
  exact y_index hx hy h.out (by omega)
/-- an empty literal -/
theorem w_lit_d0 [hT : TSli P T e s b] [TSvE P e] (hs1 : s = 1) (hd : Nat.blt d N = true := by rfl)
    (k : ∀ v w', OwnD w' e w.heap.size w'.heap.size [] v [] → Ext w w' → bL v = w.heap.size → bH v = w.heap.size + 1 → w'.heap.size = w.heap.size + 1 → W P N ops Q rest ((d, v) :: σ) w') : W P N ops Q (⟨some d, .buildSlice T 0 #[], ty, pos, af, none⟩ :: rest) σ w :=
  w_lit' (n := 0) (parts := []) (vs := []) (xs := ([] : List SV)) hs1 rfl rfl rfl (fun v hv => by simp at hv) rfl (by omega) (by omega) hd (fun v w' h hx h1 h2 h3 => k v w' (OwnD.of_empty h) hx h1 h2 h3)
theorem w_lit_s0 [hT : TSli P T e s b] [TStg P e] (hs1 : s = 1) (hd : Nat.blt d N = true := by rfl)
    (k : ∀ v w', Own w' e w.heap.size v ([] : List (List UInt8)) → Ext w w' → bL v = w.heap.size → bH v = w.heap.size + 1 → w'.heap.size = w.heap.size + 1 → W P N ops Q rest ((d, v) :: σ) w') : W P N ops Q (⟨some d, .buildSlice T 0 #[], ty, pos, af, none⟩ :: rest) σ w :=
  w_lit' (n := 0) (parts := []) (vs := []) (xs := ([] : List (List UInt8))) hs1 rfl rfl rfl (fun v hv => by simp at hv) rfl (by omega) (by omega) hd k
theorem OwnD.made {n : Nat} (h : Own w e lo v (List.replicate n sv0)) : OwnD w e lo w.heap.size (List.replicate n sv0) v (List.replicate n []) := by
  have e1 : ∀ i, svD (List.replicate n sv0) i = .slice none 0 0 := fun i => by
    simp only [svD, List.getD_eq_getElem?_getD, List.getElem?_replicate]; split <;> rfl
  refine ⟨h, by have := h.lt; omega, by simp, fun i hi => ?_, fun i hi => ?_, fun i j _ _ => ?_, Nat.le_refl _⟩
  · rw [e1]
    have e2 : (List.replicate n ([] : List Int)).getD i [] = [] := by simp only [List.getD_eq_getElem?_getD, List.getElem?_replicate]; split <;> rfl
    rw [e2]
    exact nil_sl w _ _ (Nat.zero_le _)
  · rw [e1]; exact ⟨.inl ⟨rfl, rfl⟩, .inl (Nat.zero_le _)⟩
  · rw [e1]; exact .inl (Nat.zero_le _)
theorem w_make_d {z : Value} {n : Int} [hT : TSli P T e s b] [hz : TZero P e z] (hx : ev σ x = some (.int .i64 n)) (hy : ev σ y = some (.int .i64 n)) (hs : s = 1 := by rfl) (hdec : decSV z = some sv0 := by rfl) (h0 : 0 ≤ n := by omega) (hb : n.toNat * b ≤ 140737488355328 := by omega) (hm : n ≤ 140737488355328 := by omega) (hd : Nat.blt d N = true := by rfl)
    (k : ∀ v w', OwnD w' e w.heap.size w'.heap.size (List.replicate n.toNat sv0) v (List.replicate n.toNat []) → Ext w w' → bL v = w.heap.size → bH v = w.heap.size + 1 → w'.heap.size = w.heap.size + 1 → W P N ops Q rest ((d, v) :: σ) w') :
    W P N ops Q (⟨some d, .makeSlice T x y, ty, pos, af, none⟩ :: rest) σ w :=
  w_make (α := SV) hx hy hs hdec h0 hb hm hd (k := fun v w' h hx h1 h2 h3 => k v w' (OwnD.made h) hx h1 h2 h3)
/-- a literal of one slice -/
theorem w_lit_sv [hT : TSli P T e s b] (hs1 : s = 1) {h : Nat} (hx : ev σ x = some u) (hu : SL w l h u ys := by repeat (first | assumption | exact Go.Gw.Own.sl (by assumption) | exact Go.Gw.Box.at (by assumption) | exact Go.Gw.SLL.el (by first | assumption | exact Go.Gw.OwnD.sll (by assumption)) _ (by omega) | exact Go.Gw.SLL.at (by first | assumption | exact Go.Gw.OwnD.sll (by assumption)) (by omega) | exact Go.Gw.OwnD.sll (by assumption) | (apply Go.Gw.SL.chg; case hx => assumption) | (apply Go.Gw.Own.chg; case hx => assumption) | (apply Go.Gw.Box.chg; case hx => assumption) | (apply Go.Gw.At.chg; case hx => assumption) | exact .inl (Nat.zero_le _) | exact .inr (Nat.zero_le _) | (show _ ∨ _; omega))) (hd : Nat.blt d N = true := by rfl)
    (k : ∀ v w', Own w' e w.heap.size v [svOf u] → Ext w w' → bL v = w.heap.size → bH v = w.heap.size + 1 → w'.heap.size = w.heap.size + 1 → W P N ops Q rest ((d, v) :: σ) w') : W P N ops Q (⟨some d, .buildSlice T 1 #[(0, x)], ty, pos, af, none⟩ :: rest) σ w :=
  w_lit' (n := 1) (parts := [(0, x)]) (vs := [u]) (xs := [svOf u]) hs1 (by simp [evp, hx, num]) rfl (by
    have h1 := cells_one hu.one
    simp only [List.flatMap_cons, List.flatMap_nil, List.append_nil, h1]
    show [u] = [(svOf u).v]; rw [svOf_v hu]) (fun v hv => by simp at hv; subst hv; rw [cells_one hu.one]; rfl) rfl (by omega) (by omega) hd k
theorem w_lit_cd [hT : TSli P T e s b] (hs1 : s = 1) {h : Nat} (hx : ev σ x = some (.agg #[u])) (hu : SL w l h u ys := by repeat (first | assumption | exact Go.Gw.Own.sl (by assumption) | exact Go.Gw.Box.at (by assumption) | exact Go.Gw.SLL.el (by first | assumption | exact Go.Gw.OwnD.sll (by assumption)) _ (by omega) | exact Go.Gw.SLL.at (by first | assumption | exact Go.Gw.OwnD.sll (by assumption)) (by omega) | exact Go.Gw.OwnD.sll (by assumption) | (apply Go.Gw.SL.chg; case hx => assumption) | (apply Go.Gw.Own.chg; case hx => assumption) | (apply Go.Gw.Box.chg; case hx => assumption) | (apply Go.Gw.At.chg; case hx => assumption) | exact .inl (Nat.zero_le _) | exact .inr (Nat.zero_le _) | (show _ ∨ _; omega))) (hd : Nat.blt d N = true := by rfl)
    (k : ∀ v w', Own w' e w.heap.size v [svOf u] → Ext w w' → bL v = w.heap.size → bH v = w.heap.size + 1 → w'.heap.size = w.heap.size + 1 → W P N ops Q rest ((d, v) :: σ) w') : W P N ops Q (⟨some d, .buildSlice T 1 #[(0, x)], ty, pos, af, none⟩ :: rest) σ w :=
  w_lit' (n := 1) (parts := [(0, x)]) (vs := [.agg #[u]]) (xs := [svOf u]) hs1 (by simp [evp, hx, num]) rfl (by
    simp only [List.flatMap_cons, List.flatMap_nil, List.append_nil]
    show [u] = [(svOf u).v]; rw [svOf_v hu]) (fun v hv => by simp at hv; subst hv; rfl) rfl (by omega) (by omega) hd k
/-- one slice more -/
theorem w_append_d {lt ht : Nat} [hT : TSli P T e s b] (hx : ev σ x = some v) (hy : ev σ y = some t) (h : OwnD w e lo hi svs v xss := by assumption) (h2 : SL w lt ht t [svOf u] := by repeat (first | assumption | exact Go.Gw.Own.sl (by assumption) | exact Go.Gw.Box.at (by assumption) | exact Go.Gw.SLL.el (by first | assumption | exact Go.Gw.OwnD.sll (by assumption)) _ (by omega) | exact Go.Gw.SLL.at (by first | assumption | exact Go.Gw.OwnD.sll (by assumption)) (by omega) | exact Go.Gw.OwnD.sll (by assumption) | (apply Go.Gw.SL.chg; case hx => assumption) | (apply Go.Gw.Own.chg; case hx => assumption) | (apply Go.Gw.Box.chg; case hx => assumption) | (apply Go.Gw.At.chg; case hx => assumption) | exact .inl (Nat.zero_le _) | exact .inr (Nat.zero_le _) | (show _ ∨ _; omega))) (h3 : SL w (bL u) (bH u) u ys := by first | assumption | exact Go.Gw.Own.sl (by assumption)) (hs : s = 1 := by rfl)
    (hp : (bH u = 0 ∧ bL u = 0) ∨ (hi ≤ bL u ∧ lo ≤ bL u ∧ bH u = bL u + 1 ∧ bH u ≤ w.heap.size) := by omega) (hb : (xss.length + 1) * b ≤ 140737488355328 := by first | omega | (simp only [List.length_append, List.length_cons, List.length_nil]; omega)) (hb1 : Nat.ble 1 b = true := by rfl) (hB : lo ≤ w.heap.size := by omega) (hd : Nat.blt d N = true := by rfl)
    (k : ∀ v' w', OwnD w' e lo w'.heap.size (svs ++ [svOf u]) v' (xss ++ [ys]) → Chg (bL v) (bH v) w w' → ((bL v' = bL v ∧ bH v' = bH v) ∨ (w.heap.size ≤ bL v' ∧ bH v' = bL v' + 1 ∧ bL v' < w'.heap.size)) → W P N ops Q rest ((d, v') :: σ) w') :
    W P N ops Q (⟨some d, .call { callee := .builtin .append, args := #[x, y], argTypes := #[T, T] }, ty, pos, af, none⟩ :: rest) σ w := by
  have hl := h.len
  have hb1 : 1 ≤ b := Nat.le_of_ble_eq_true hb1
  have e1 : (svs.length + [svOf u].length) = xss.length + 1 := by simp [hl]
  have hle : xss.length + 1 ≤ (xss.length + 1) * b := Nat.le_mul_of_pos_right _ hb1
  refine w_append hx hy h.own h2 hs (by rw [e1]; exact hb) (by rw [e1]; omega) hB hd (fun v' w' ho hch hr => ?_)
  have hu := svOf_v h3
  exact k v' w' (h.push (ti := 0) ho hch hr (by rw [hu]; exact h3) (by rw [hu]; exact hp)) hch hr
/-- a card is put into a deck -/
theorem w_store_cd [hT : TStr P T 1] {n : Nat} (hx : ev σ x = some (ptr (sb v) (so v + n * 1))) (hy : ev σ y = some (.agg #[u])) (h : OwnD w e lo hi svs v xss := by assumption) (h3 : SL w (bL u) (bH u) u ys := by first | assumption | exact Go.Gw.Own.sl (by assumption)) (hn : n < xss.length := by first | omega | (simp only [List.length_set]; omega) | (simp only [List.length_set, List.length_append, List.length_cons, List.length_nil]; omega))
    (hp : (bH u = 0 ∧ bL u = 0) ∨ (hi ≤ bL u ∧ lo ≤ bL u ∧ bH u = bL u + 1 ∧ bH u ≤ w.heap.size) := by omega)
    (next : ∀ w', OwnD w' e lo w'.heap.size (svs.set n (svOf u)) v (xss.set n ys) → Chg (bL v) (bH v) w w' → w'.heap.size = w.heap.size → W P N ops Q rest σ w') : W P N ops Q (⟨none, .store T x y, ty, pos, af, none⟩ :: rest) σ w := by
  have hl := h.len
  have hu := svOf_v h3
  have hn' : n < svs.length := by omega
  refine ⟨fun ac ha => ?_⟩
  refine wpList_plain rfl fun K hK => ?_
  unfold Oper.wp
  have h1 := own_set (u := u) (k := 0) (x' := svOf u) h.own hn' (by show [u] = [(svOf u).v]; rw [hu]) (by decide)
  have c0 := (h.own.sl.el n svs[n] (by simp [hn'])).go 0 (svs[n]).v rfl
  have f0 := h.own.sl.free (n * 1 + 0) (by show n * 1 + 0 < svs.length * 1; omega)
  rw [← Nat.add_assoc] at f0
  change w.cell? ⟨sb v, so v + n * 1 + 0, none⟩ = some _ at c0
  have o1 := h3.one
  have : (execOp ac.eval ⟨none, .store T x y, ty, pos, af, none⟩).run P w = .ok .skip (w.setCell ⟨sb v, so v + n * 1 + 0, none⟩ u) := by
    simp only [Nat.add_zero, Nat.mul_one] at c0 f0
    simp [execOp, ha.eval hx, ha.eval hy, Instr.storeAt, Instr.sureAddr, storeVar, run_size w hT.size, Value.cells, storeCells, run_store, add_lit, c0, f0, o1]
  rw [this]
  exact hK _ _ ((next _ (h.put hn h1.1 h1.2 (by rw [hu]; exact h3) (by rw [hu]; exact hp)) h1.2 (by simp)).go _ (ha.put_none _))
end
end Go.Gw

/- Rules of my own: slices: read, indexed, made, appended to, stored into. -/
import Derived.Test.YtihnhelkfiaimaaL3
namespace Go.Gw
open Go
set_option linter.unusedVariables false
set_option linter.unusedSimpArgs false

/-! ### Elements -/
class Enc (α : Type) where
  sz : Nat
  enc : α → List Value
  len : ∀ x, (enc x).length = sz
  one : ∀ x, ∀ v ∈ enc x, v.oneCell' = true
  pos : 0 < sz
  dec : Value → Option α
  dec_ok : ∀ v x, dec v = some x → v.cells.toList = enc x
def decInt : Value → Option Int
  | .int .i64 n => some n
  | _ => none
/-- a string by its bytes -/
abbrev str (l : List UInt8) : Value := .string ⟨l.toArray⟩
def decStr : Value → Option (List UInt8)
  | .string s => some s.data.toList
  | _ => none
def decPair : Value → Option (Int × Int)
  | .agg ⟨[.int .i64 a, .int .i64 b]⟩ => some (a, b)
  | _ => none
instance : Enc Int := ⟨1, fun n => [.int .i64 n], fun _ => rfl, fun _ v hv => by simp at hv; subst hv; rfl, Nat.one_pos, decInt, fun v x h => by
  unfold decInt at h; split at h
  · cases h; rfl
  · cases h⟩
instance : Enc UInt8 := ⟨1, fun b => [.int .u8 b.toNat], fun _ => rfl, fun _ v hv => by simp at hv; subst hv; rfl, Nat.one_pos, fun _ => none, fun v x h => by cases h⟩
instance : Enc (List UInt8) := ⟨1, fun s => [str s], fun _ => rfl, fun _ v hv => by simp at hv; subst hv; rfl, Nat.one_pos, decStr, fun v x h => by
  unfold decStr at h; split at h
  · cases h; rfl
  · cases h⟩
/-- a slice that is an element -/
structure SV where
  a : Option Addr
  n : Nat
  c : Nat
def SV.v (s : SV) : Value := .slice s.a s.n s.c
/-- elements that are slices, or structs of one slice -/
class TSvE (P : Program) (e : TypeId) : Prop where
  yes : True
def decSV : Value → Option SV
  | .slice a n c => some ⟨a, n, c⟩
  | .agg ⟨[.slice a n c]⟩ => some ⟨a, n, c⟩
  | _ => none
instance : Enc SV := ⟨1, fun s => [s.v], fun _ => rfl, fun _ v hv => by simp at hv; subst hv; rfl, Nat.one_pos, decSV, fun v x h => by
  unfold decSV at h; split at h
  · cases h; rfl
  · cases h; rfl
  · cases h⟩
instance : Enc (Int × Int) := ⟨2, fun p => [.int .i64 p.1, .int .i64 p.2], fun _ => rfl, fun _ v hv => by simp at hv; rcases hv with rfl | rfl <;> rfl, by decide, decPair, fun v x h => by
  unfold decPair at h; split at h
  · cases h; rfl
  · cases h⟩

def sb : Value → Nat
  | .slice (some a) _ _ => a.block
  | _ => 0
def so : Value → Nat
  | .slice (some a) _ _ => a.off
  | _ => 0

/-- v is a slice; its elements read as xs; they lie in a block from lo up to hi, and may be written. -/
structure SL {α : Type} [Enc α] (w : World) (lo hi : Nat) (v : Value) (xs : List α) : Prop where
  form : ∃ a cap, v = .slice a xs.length cap ∧ xs.length ≤ cap ∧ cap ≤ maxLen ∧ (0 < xs.length → a = some ⟨sb v, so v, none⟩)
  el : ∀ i x, xs[i]? = some x → At w (sb v) (so v + i * Enc.sz α) (Enc.enc x)
  inn : 0 < xs.length → lo ≤ sb v ∧ sb v < hi
  top : hi ≤ w.heap.size
  free : ∀ i, i < xs.length * Enc.sz α → w.frozen? ⟨sb v, so v + i, none⟩ = false

section
variable {α : Type} {E : Enc α} {w w' : World} {lo hi : Nat} {v : Value} {xs : List α}
theorem SL.len_le (h : SL w lo hi v xs) : xs.length ≤ maxLen := by obtain ⟨a, c, _, h1, h2, _⟩ := h.form; omega
theorem SL.small (h : SL w lo hi v xs) : (xs.length : Int) ≤ 9223372036854775807 := by have := h.len_le; unfold maxLen at this; omega
theorem SL.chg {l k : Nat} (h : SL w lo hi v xs) (hx : Chg l k w w') (ho : k ≤ lo ∨ hi ≤ l) : SL w' lo hi v xs := by
  refine ⟨h.form, fun i x hi => ?_, h.inn, Nat.le_trans h.top hx.size, fun i hi => ?_⟩
  · have hl := (List.getElem?_eq_some_iff.1 hi).1
    have := h.inn (by omega)
    exact (h.el i x hi).chg hx (by omega)
  · have h0 : 0 < xs.length := by rcases Nat.eq_zero_or_pos xs.length with e | e; (rw [e] at hi; omega); exact e
    have := h.inn h0
    have := h.top
    rw [hx.frozen (by show sb v < _; omega) (by show sb v < l ∨ k ≤ sb v; omega)]
    exact h.free i hi
theorem SL.ext (h : SL w lo hi v xs) (hx : Ext w w') : SL w' lo hi v xs := h.chg hx (.inl (Nat.zero_le _))
theorem SL.wide {lo' hi' : Nat} (h : SL w lo hi v xs) (h1 : lo' ≤ lo) (h2 : hi ≤ hi') (h3 : hi' ≤ w.heap.size) : SL w lo' hi' v xs :=
  ⟨h.form, h.el, fun h0 => by have := h.inn h0; omega, h3, h.free⟩
theorem SL.block (h : SL w lo hi v xs) (h0 : 0 < xs.length) : lo ≤ sb v ∧ sb v < hi := h.inn h0
end

section
variable {P : Program} {N : Nat} {σ : Fm} {w w' : World} {T ty : TypeId} {x y : Operand} {v u : Value} {α : Type} {E : Enc α} {lo hi : Nat} {xs : List α}
theorem y_len {e s b : Nat} [hT : TSli P T e s b] (hx : ev σ x = some v) (h : SL w lo hi v xs := by repeat (first | assumption | exact Go.Gw.Own.sl (by assumption) | exact Go.Gw.Box.at (by assumption) | exact Go.Gw.SLL.el (by first | assumption | exact Go.Gw.OwnD.sll (by assumption)) _ (by omega) | exact Go.Gw.SLL.at (by first | assumption | exact Go.Gw.OwnD.sll (by assumption)) (by omega) | exact Go.Gw.OwnD.sll (by assumption) | (apply Go.Gw.SL.chg; case hx => assumption) | (apply Go.Gw.Own.chg; case hx => assumption) | (apply Go.Gw.Box.chg; case hx => assumption) | (apply Go.Gw.At.chg; case hx => assumption) | exact .inl (Nat.zero_le _) | exact .inr (Nat.zero_le _) | (show _ ∨ _; omega))) : YE P σ (.call { callee := .builtin .len, args := #[x], argTypes := #[T] }) ty w (.int .i64 xs.length) := ⟨fun w' hw ρ hρ => by
  obtain ⟨a, c, hv, _⟩ := h.form
  simp only [execOp, resolve, Sem.run_bind, Sem.run_pure, Result.andThen_ok, invoke, builtin, List.map_toArray, List.map_cons, List.map_nil, hρ _ _ hx]
  rw [hv]
  simp [Builtin.len_, run_underlying hT.und, goInt]⟩
theorem y_index {e s b : Nat} {k : IntKind} {i : Int} [hT : TSli P T e s b] (hx : ev σ x = some v) (hy : ev σ y = some (.int k i)) (h : SL w lo hi v xs := by repeat (first | assumption | exact Go.Gw.Own.sl (by assumption) | exact Go.Gw.Box.at (by assumption) | exact Go.Gw.SLL.el (by first | assumption | exact Go.Gw.OwnD.sll (by assumption)) _ (by omega) | exact Go.Gw.SLL.at (by first | assumption | exact Go.Gw.OwnD.sll (by assumption)) (by omega) | exact Go.Gw.OwnD.sll (by assumption) | (apply Go.Gw.SL.chg; case hx => assumption) | (apply Go.Gw.Own.chg; case hx => assumption) | (apply Go.Gw.Box.chg; case hx => assumption) | (apply Go.Gw.At.chg; case hx => assumption) | exact .inl (Nat.zero_le _) | exact .inr (Nat.zero_le _) | (show _ ∨ _; omega))) (hi : 0 ≤ i ∧ i < xs.length := by first | omega | (simp only [List.length_set]; omega) | (simp only [List.length_set, List.length_append, List.length_cons, List.length_nil]; omega)) : YE P σ (.indexAddr T x y) ty w (ptr (sb v) (so v + i.toNat * s)) := ⟨fun w' hw ρ hρ => by
  obtain ⟨a, c, hv, _, _, ha⟩ := h.form
  have ha := ha (by omega)
  subst ha
  have h2 : 0 ≤ i ∧ i < (xs.length : Int) := hi
  simp only [execOp, Sem.run_bind, Sem.run_pure, hρ _ _ hx, hρ _ _ hy]
  rw [hv]
  simp [Instr.indexAt, asIntOf, run_underlying hT.und, h2, run_size _ hT.size, add_lit, sb, so]⟩
/-- an element of one cell -/
theorem y_load_el [TScal P T] {n : Nat} {d : α} (hx : ev σ x = some (ptr (sb v) (so v + n * Enc.sz α))) (h : SL w lo hi v xs) (hn : n < xs.length) (hu : Enc.enc (xs.getD n d) = [u]) : YE P σ (.load T x) ty w u := by
  have hel := h.el n (xs.getD n d) (by rw [List.getD_eq_getElem?_getD, List.getElem?_eq_getElem hn]; rfl)
  rw [hu] at hel
  exact y_load hx hel
/-- a field of one cell of an element -/
theorem y_load_elf [TScal P T] {n k s : Nat} {d : α} (hx : ev σ x = some (ptr (sb v) (so v + n * s + k))) (h : SL w lo hi v xs := by repeat (first | assumption | exact Go.Gw.Own.sl (by assumption) | exact Go.Gw.Box.at (by assumption) | exact Go.Gw.SLL.el (by first | assumption | exact Go.Gw.OwnD.sll (by assumption)) _ (by omega) | exact Go.Gw.SLL.at (by first | assumption | exact Go.Gw.OwnD.sll (by assumption)) (by omega) | exact Go.Gw.OwnD.sll (by assumption) | (apply Go.Gw.SL.chg; case hx => assumption) | (apply Go.Gw.Own.chg; case hx => assumption) | (apply Go.Gw.Box.chg; case hx => assumption) | (apply Go.Gw.At.chg; case hx => assumption) | exact .inl (Nat.zero_le _) | exact .inr (Nat.zero_le _) | (show _ ∨ _; omega))) (hs : s = Enc.sz α := by rfl) (hn : n < xs.length := by first | omega | (simp only [List.length_set]; omega) | (simp only [List.length_set, List.length_append, List.length_cons, List.length_nil]; omega)) (hu : (Enc.enc (xs.getD n d))[k]? = some u := by rfl) : YE P σ (.load T x) ty w u := by
  have hel := h.el n (xs.getD n d) (by rw [List.getD_eq_getElem?_getD, List.getElem?_eq_getElem hn]; rfl)
  subst hs
  exact y_load hx (hel.cell hu)
/-- an element that is a struct -/
theorem y_load_els {n m s : Nat} {d : α} [TStr P T m] (hx : ev σ x = some (ptr (sb v) (so v + n * s))) (h : SL w lo hi v xs := by repeat (first | assumption | exact Go.Gw.Own.sl (by assumption) | exact Go.Gw.Box.at (by assumption) | exact Go.Gw.SLL.el (by first | assumption | exact Go.Gw.OwnD.sll (by assumption)) _ (by omega) | exact Go.Gw.SLL.at (by first | assumption | exact Go.Gw.OwnD.sll (by assumption)) (by omega) | exact Go.Gw.OwnD.sll (by assumption) | (apply Go.Gw.SL.chg; case hx => assumption) | (apply Go.Gw.Own.chg; case hx => assumption) | (apply Go.Gw.Box.chg; case hx => assumption) | (apply Go.Gw.At.chg; case hx => assumption) | exact .inl (Nat.zero_le _) | exact .inr (Nat.zero_le _) | (show _ ∨ _; omega))) (hs : s = Enc.sz α := by rfl) (hn : n < xs.length := by first | omega | (simp only [List.length_set]; omega) | (simp only [List.length_set, List.length_append, List.length_cons, List.length_nil]; omega)) (hm : Enc.sz α = m := by rfl) : YE P σ (.load T x) ty w (.agg (Enc.enc (xs.getD n d)).toArray) := by
  have hel := h.el n (xs.getD n d) (by rw [List.getD_eq_getElem?_getD, List.getElem?_eq_getElem hn]; rfl)
  subst hs
  exact y_loads hx hel (by rw [Enc.len, hm])
end

/-! ### The same for the kinds of elements at hand -/
section
variable {P : Program} {N : Nat} {σ : Fm} {w w' : World} {T ty : TypeId} {x y : Operand} {v u : Value} {lo hi : Nat}
theorem y_load_int [TScal P T] {n : Nat} {xs : List Int} (hx : ev σ x = some (ptr (sb v) (so v + n * 1))) (h : SL w lo hi v xs := by repeat (first | assumption | exact Go.Gw.Own.sl (by assumption) | exact Go.Gw.Box.at (by assumption) | exact Go.Gw.SLL.el (by first | assumption | exact Go.Gw.OwnD.sll (by assumption)) _ (by omega) | exact Go.Gw.SLL.at (by first | assumption | exact Go.Gw.OwnD.sll (by assumption)) (by omega) | exact Go.Gw.OwnD.sll (by assumption) | (apply Go.Gw.SL.chg; case hx => assumption) | (apply Go.Gw.Own.chg; case hx => assumption) | (apply Go.Gw.Box.chg; case hx => assumption) | (apply Go.Gw.At.chg; case hx => assumption) | exact .inl (Nat.zero_le _) | exact .inr (Nat.zero_le _) | (show _ ∨ _; omega))) (hn : n < xs.length := by first | omega | (simp only [List.length_set]; omega) | (simp only [List.length_set, List.length_append, List.length_cons, List.length_nil]; omega)) : YE P σ (.load T x) ty w (.int .i64 (xs.getD n 0)) := y_load_el hx h hn rfl
theorem y_load_inte [TScal P T] {n : Nat} {xs : List Int} {a : Int} (hx : ev σ x = some (ptr (sb v) (so v + n * 1))) (hg : xs.getD n 0 = a) (h : SL w lo hi v xs := by repeat (first | assumption | exact Go.Gw.Own.sl (by assumption) | exact Go.Gw.Box.at (by assumption) | exact Go.Gw.SLL.el (by first | assumption | exact Go.Gw.OwnD.sll (by assumption)) _ (by omega) | exact Go.Gw.SLL.at (by first | assumption | exact Go.Gw.OwnD.sll (by assumption)) (by omega) | exact Go.Gw.OwnD.sll (by assumption) | (apply Go.Gw.SL.chg; case hx => assumption) | (apply Go.Gw.Own.chg; case hx => assumption) | (apply Go.Gw.Box.chg; case hx => assumption) | (apply Go.Gw.At.chg; case hx => assumption) | exact .inl (Nat.zero_le _) | exact .inr (Nat.zero_le _) | (show _ ∨ _; omega))) (hn : n < xs.length := by first | omega | (simp only [List.length_set]; omega) | (simp only [List.length_set, List.length_append, List.length_cons, List.length_nil]; omega)) : YE P σ (.load T x) ty w (.int .i64 a) := by subst hg; exact y_load_el hx h hn rfl
theorem y_load_u8 [TScal P T] {n : Nat} {xs : List UInt8} (hx : ev σ x = some (ptr (sb v) (so v + n * 1))) (h : SL w lo hi v xs := by repeat (first | assumption | exact Go.Gw.Own.sl (by assumption) | exact Go.Gw.Box.at (by assumption) | exact Go.Gw.SLL.el (by first | assumption | exact Go.Gw.OwnD.sll (by assumption)) _ (by omega) | exact Go.Gw.SLL.at (by first | assumption | exact Go.Gw.OwnD.sll (by assumption)) (by omega) | exact Go.Gw.OwnD.sll (by assumption) | (apply Go.Gw.SL.chg; case hx => assumption) | (apply Go.Gw.Own.chg; case hx => assumption) | (apply Go.Gw.Box.chg; case hx => assumption) | (apply Go.Gw.At.chg; case hx => assumption) | exact .inl (Nat.zero_le _) | exact .inr (Nat.zero_le _) | (show _ ∨ _; omega))) (hn : n < xs.length := by first | omega | (simp only [List.length_set]; omega) | (simp only [List.length_set, List.length_append, List.length_cons, List.length_nil]; omega)) : YE P σ (.load T x) ty w (.int .u8 (xs.getD n 0).toNat) := y_load_el hx h hn rfl
theorem y_load_str [TScal P T] {n : Nat} {xs : List (List UInt8)} (hx : ev σ x = some (ptr (sb v) (so v + n * 1))) (h : SL w lo hi v xs := by repeat (first | assumption | exact Go.Gw.Own.sl (by assumption) | exact Go.Gw.Box.at (by assumption) | exact Go.Gw.SLL.el (by first | assumption | exact Go.Gw.OwnD.sll (by assumption)) _ (by omega) | exact Go.Gw.SLL.at (by first | assumption | exact Go.Gw.OwnD.sll (by assumption)) (by omega) | exact Go.Gw.OwnD.sll (by assumption) | (apply Go.Gw.SL.chg; case hx => assumption) | (apply Go.Gw.Own.chg; case hx => assumption) | (apply Go.Gw.Box.chg; case hx => assumption) | (apply Go.Gw.At.chg; case hx => assumption) | exact .inl (Nat.zero_le _) | exact .inr (Nat.zero_le _) | (show _ ∨ _; omega))) (hn : n < xs.length := by first | omega | (simp only [List.length_set]; omega) | (simp only [List.length_set, List.length_append, List.length_cons, List.length_nil]; omega)) : YE P σ (.load T x) ty w (str (xs.getD n [])) := y_load_el hx h hn rfl
end

/-! ### Slices of the call's own -/
def bL : Value → Nat := sb
def bH : Value → Nat
  | .slice (some a) _ _ => a.block + 1
  | _ => 0
/-- v is a slice that has a block of its own, from B on (or nil): its elements are xs -/
structure Own {α : Type} [Enc α] (w : World) (e : TypeId) (B : Nat) (v : Value) (xs : List α) : Prop where
  go : w.ownsRow B e (Enc.sz α) v xs.length (xs.flatMap Enc.enc)

section
variable {α : Type} {E : Enc α} {w w' : World} {e : TypeId} {B : Nat} {v : Value} {xs : List α}
theorem flat_len (xs : List α) : (xs.flatMap Enc.enc).length = xs.length * Enc.sz α := by
  induction xs with
  | nil => simp
  | cons x r ih => simp only [List.flatMap_cons, List.length_append, ih, Enc.len, List.length_cons, Nat.add_mul, Nat.one_mul]; omega
theorem flat_get (xs : List α) : ∀ (i : Nat) (x : α) (j : Nat) (u : Value), xs[i]? = some x → (Enc.enc x)[j]? = some u → (xs.flatMap Enc.enc)[i * Enc.sz α + j]? = some u := by
  induction xs with
  | nil => intro i x j u hx; simp at hx
  | cons y r ih =>
    intro i x j u hx hu
    simp only [List.flatMap_cons]
    cases i with
    | zero =>
      simp at hx
      subst hx
      have hj : j < (Enc.enc y).length := (List.getElem?_eq_some_iff.1 hu).1
      rw [Nat.zero_mul, Nat.zero_add, List.getElem?_append_left hj]
      exact hu
    | succ i =>
      have e : (i + 1) * Enc.sz α + j = (Enc.enc y).length + (i * Enc.sz α + j) := by rw [Enc.len, Nat.add_mul, Nat.one_mul]; omega
      rw [e, List.getElem?_append_right (by omega), Nat.add_sub_cancel_left]
      exact ih i x j u (by simpa using hx) hu
theorem Own.lt (h : Own w e B v xs) : (bH v = 0 ∧ bL v = 0) ∨ (B ≤ bL v ∧ bL v < w.heap.size ∧ bH v = bL v + 1) := by
  rcases h.go.2 with ⟨rfl, _⟩ | ⟨g, cap, cur, rfl, hb, hg, _⟩
  · exact .inl ⟨rfl, rfl⟩
  · exact .inr ⟨hb, (Array.getElem?_eq_some_iff.1 hg).1, rfl⟩
theorem Own.sl (h : Own w e B v xs) : SL w (bL v) (bH v) v xs := by
  rcases h.go with ⟨hlen, ⟨rfl, hn⟩ | ⟨g, cap, cur, rfl, hb, hg, hnc, hcm, hcs, htk⟩⟩
  · have : xs = [] := List.eq_nil_of_length_eq_zero hn
    subst this
    exact ⟨⟨none, 0, rfl, Nat.le_refl _, Nat.zero_le _, fun h => by simp at h⟩, fun i x hi => by simp at hi, fun h => by simp at h, Nat.zero_le _, fun i hi => by simp at hi⟩
  · refine ⟨⟨_, cap, rfl, hnc, hcm, fun _ => rfl⟩, fun i x hx => ⟨fun j u hu => ?_⟩, fun _ => ⟨Nat.le_refl _, Nat.lt_succ_self _⟩, (Array.getElem?_eq_some_iff.1 hg).1, fun i hi => ?_⟩
    · show w.cell? ⟨g, 0 + i * Enc.sz α + j, none⟩ = some u
      have hf := flat_get xs i x j u hx hu
      rw [← htk, List.getElem?_take] at hf
      simp only [World.cell?, hg, Nat.zero_add]
      split at hf
      · simpa using hf
      · cases hf
    · show w.frozen? ⟨g, 0 + i, none⟩ = false
      simp [World.frozen?, hg]
theorem Own.chg {l k : Nat} (h : Own w e B v xs) (hx : Chg l k w w') (ho : k ≤ bL v ∨ bH v ≤ l) : Own w' e B v xs := by
  rcases h.go with ⟨hlen, hn | ⟨g, cap, cur, rfl, hb, hg, rest⟩⟩
  · exact ⟨hlen, .inl hn⟩
  · refine ⟨hlen, .inr ⟨g, cap, cur, rfl, hb, ?_, rest⟩⟩
    rw [hx.block g (Array.getElem?_eq_some_iff.1 hg).1 (by simp only [bL, bH, sb] at ho; omega)]
    exact hg
theorem Own.ext (h : Own w e B v xs) (hx : Ext w w') : Own w' e B v xs := h.chg hx (.inl (Nat.zero_le _))
theorem Own.base {B' : Nat} (h : Own w e B v xs) (hb : B' ≤ B) : Own w e B' v xs := by
  rcases h.go with ⟨hlen, hn | ⟨g, cap, cur, rfl, hb', rest⟩⟩
  · exact ⟨hlen, .inl hn⟩
  · exact ⟨hlen, .inr ⟨g, cap, cur, rfl, by omega, rest⟩⟩
/-- what is its own lies between the worlds -/
theorem Own.fresh (h : Own w e B v xs) : SL w B w.heap.size v xs := by
  have hs := h.sl
  refine ⟨hs.form, hs.el, fun h0 => ?_, Nat.le_refl _, hs.free⟩
  rcases h.go.2 with ⟨rfl, hz⟩ | ⟨g, cap, cur, rfl, hb, hg, _⟩
  · omega
  · exact ⟨hb, (Array.getElem?_eq_some_iff.1 hg).1⟩
/-- a better bound, where the block is known to lie higher -/
theorem Own.rebase {B' : Nat} (h : Own w e B v xs) (hb : bH v = 0 ∨ B' ≤ bL v) : Own w e B' v xs := by
  rcases h.go with ⟨hlen, hn | ⟨g, cap, cur, rfl, hb', rest⟩⟩
  · exact ⟨hlen, .inl hn⟩
  · exact ⟨hlen, .inr ⟨g, cap, cur, rfl, by simp only [bL, bH, sb] at hb; omega, rest⟩⟩
theorem Own.nil (w : World) (e : TypeId) (B : Nat) : Own (α := α) w e B (.slice none 0 0) [] := ⟨by simpa using World.ownsRow_nil w B e (Enc.sz α)⟩
/-- Chg of the block alone -/
theorem chg_of_grown {P : Prop} (h : w.grownBy w' v.ownBlock) : Chg (bL v) (bH v) w w' :=
  ⟨h.os, h.tape, h.output, h.size, fun k hk ho => h.block k hk (by
    cases v with
    | slice a n c =>
      cases a with
      | none => simp [Value.ownBlock]
      | some ad => simp only [Value.ownBlock, bL, bH, sb] at ho ⊢; intro e; simp at e; omega
    | _ => simp [Value.ownBlock])⟩
end

/-! ### Values of one cell -/
def AllOne : List Value → Prop
  | [] => True
  | v :: r => v.oneCell' = true ∧ AllOne r
theorem AllOne.all : ∀ {vs : List Value}, AllOne vs → ∀ u ∈ vs, u.oneCell' = true
  | [], _, u, hu => by simp at hu
  | v :: r, ⟨h1, h2⟩, u, hu => by
    rcases List.mem_cons.1 hu with rfl | h
    · exact h1
    · exact h2.all u h
theorem SL.one {α : Type} {E : Enc α} {w : World} {lo hi : Nat} {v : Value} {xs : List α} (h : SL w lo hi v xs) : v.oneCell' = true := by
  obtain ⟨a, c, hv, _⟩ := h.form
  rw [hv]; rfl
theorem Own.one {α : Type} {E : Enc α} {w : World} {e : TypeId} {B : Nat} {v : Value} {xs : List α} (h : Own w e B v xs) : v.oneCell' = true := h.sl.one
theorem cells_one {u : Value} (h : u.oneCell' = true) : u.cells = #[u] := by cases u <;> first | rfl | simp [Value.oneCell'] at h

section
variable {P : Program} {N : Nat} {Q : Post} {σ : Fm} {w : World} {ops : Array Oper} {rest : List Oper} {ty T : TypeId} {pos : String} {af : Array Edge} {d : Nat} {v u : Value} {x y : Operand} {e s b : Nat}
variable {α : Type} [E : Enc α]

/-! ### New variables -/
theorem box_new (w : World) (cs : Array Value) (e : TypeId) : Box (w.alloc (.cells cs e)) w.heap.size cs.toList := ⟨e, by rw [heap_alloc_new]⟩
theorem w_alloc {z : Value} {cs : List Value} [hz : TZero P T z] (hc : z.cells = cs.toArray := by rfl) (hd : Nat.blt d N = true := by rfl)
    (k : ∀ b w', Box w' b cs → Ext w w' → w.heap.size ≤ b → w'.heap.size = b + 1 → W P N ops Q rest ((d, ptr b 0) :: σ) w') : W P N ops Q (⟨some d, .alloc T, ty, pos, af, none⟩ :: rest) σ w := by
  refine ⟨fun a ha => ?_⟩
  refine wpList_plain rfl fun K hK => ?_
  unfold Oper.wp
  have : (execOp a.eval ⟨some d, .alloc T, ty, pos, af, none⟩).run P w = .ok (.value (ptr w.heap.size 0)) (w.alloc (.cells z.cells T)) := by
    simp [execOp, Instr.alloc, run_zero w (z := z), newVar, newRow]
  rw [this, hc]
  exact hK _ _ ((k w.heap.size _ (box_new w cs.toArray _) (Chg.alloc w _) (Nat.le_refl _) (by simp)).go _ (ha.put hd _))
theorem w_box {cs : List Value} (hx : ev σ x = some v) (hc : v.cells = cs.toArray := by rfl) (hd : Nat.blt d N = true := by rfl)
    (k : ∀ b w', Box w' b cs → Ext w w' → w.heap.size ≤ b → w'.heap.size = b + 1 → W P N ops Q rest ((d, ptr b 0) :: σ) w') : W P N ops Q (⟨some d, .box T x, ty, pos, af, none⟩ :: rest) σ w := by
  refine ⟨fun a ha => ?_⟩
  refine wpList_plain rfl fun K hK => ?_
  unfold Oper.wp
  have : (execOp a.eval ⟨some d, .box T x, ty, pos, af, none⟩).run P w = .ok (.value (ptr w.heap.size 0)) (w.alloc (.cells v.cells T)) := by
    simp [execOp, Instr.box, ha.eval hx, newVar, newRow]
  rw [this, hc]
  exact hK _ _ ((k w.heap.size _ (box_new w cs.toArray _) (Chg.alloc w _) (Nat.le_refl _) (by simp)).go _ (ha.put hd _))

/-- of one cell -/
theorem w_box1 (hx : ev σ x = some v) (hu : v.oneCell' = true := by first | rfl | exact Go.Gw.SL.one (by assumption) | exact Go.Gw.Own.one (by assumption)) (hd : Nat.blt d N = true := by rfl)
    (k : ∀ b w', Box w' b [v] → Ext w w' → w.heap.size ≤ b → w'.heap.size = b + 1 → W P N ops Q rest ((d, ptr b 0) :: σ) w') : W P N ops Q (⟨some d, .box T x, ty, pos, af, none⟩ :: rest) σ w :=
  w_box hx (cells_one hu) hd k

/-! ### Stores into variables of the call's own -/

theorem setCell_box {cs : List Value} {b k : Nat} (h : Box w b cs) (hk : k < cs.length) (u : Value) : Box (w.setCell ⟨b, k, none⟩ u) b (cs.set k u) ∧ Chg b (b + 1) w (w.setCell ⟨b, k, none⟩ u) := by
  obtain ⟨e, hb⟩ := h.go
  have e1 := setCell_eq_setRow w b k cs.toArray e (0, 0) u hb
  rw [e1]
  refine ⟨⟨e, ?_⟩, ⟨rfl, rfl, rfl, by simp, fun j hj ho => setRow_other w b j _ (by omega)⟩⟩
  rw [setRow_heap w b _ _ e (0, 0) hb]
  simp
theorem w_store_box [hT : TScal P T] {b k : Nat} {cs cs' : List Value} (hx : ev σ x = some (ptr b k)) (hy : ev σ y = some u) (hu : u.oneCell' = true := by first | rfl | exact Go.Gw.SL.one (by assumption) | exact Go.Gw.Own.one (by assumption)) (h : Box w b cs := by repeat (first | assumption | exact Go.Gw.Own.sl (by assumption) | exact Go.Gw.Box.at (by assumption) | exact Go.Gw.SLL.el (by first | assumption | exact Go.Gw.OwnD.sll (by assumption)) _ (by omega) | exact Go.Gw.SLL.at (by first | assumption | exact Go.Gw.OwnD.sll (by assumption)) (by omega) | exact Go.Gw.OwnD.sll (by assumption) | (apply Go.Gw.SL.chg; case hx => assumption) | (apply Go.Gw.Own.chg; case hx => assumption) | (apply Go.Gw.Box.chg; case hx => assumption) | (apply Go.Gw.At.chg; case hx => assumption) | exact .inl (Nat.zero_le _) | exact .inr (Nat.zero_le _) | (show _ ∨ _; omega))) (hk : Nat.blt k cs.length = true := by rfl) (hset : cs.set k u = cs' := by dsimp only [Nat.reduceAdd, List.set])
    (next : ∀ w', Box w' b cs' → Chg b (b + 1) w w' → w'.heap.size = w.heap.size → W P N ops Q rest σ w') : W P N ops Q (⟨none, .store T x y, ty, pos, af, none⟩ :: rest) σ w := by
  subst hset
  have hk : k < cs.length := by simpa [Nat.blt_eq] using hk
  refine ⟨fun a ha => ?_⟩
  refine wpList_plain rfl fun K hK => ?_
  unfold Oper.wp
  have hc : w.cell? ⟨b, k, none⟩ = some cs[k] := by have := h.at.go k cs[k] (by simp [hk]); simpa using this
  have hcells : u.cells = #[u] := by cases u <;> first | rfl | simp [Value.oneCell'] at hu
  have : (execOp a.eval ⟨none, .store T x y, ty, pos, af, none⟩).run P w = .ok .skip (w.setCell ⟨b, k, none⟩ u) := by
    simp [execOp, ha.eval hx, ha.eval hy, Instr.storeAt, Instr.sureAddr, storeVar, run_size w hT.size, hcells, storeCells, run_store, hu, add_lit, hc, h.free]
  rw [this]
  obtain ⟨h1, h2⟩ := setCell_box h hk u
  exact hK _ _ ((next _ h1 h2 (by simp)).go _ (ha.put_none _))
theorem w_store_boxs {n : Nat} [hT : TStr P T n] {b : Nat} {cs vs : List Value} (hx : ev σ x = some (ptr b 0)) (hy : ev σ y = some (.agg vs.toArray)) (hu : AllOne vs := by repeat (first | exact trivial | refine ⟨by first | rfl | exact Go.Gw.SL.one (by assumption) | exact Go.Gw.Own.one (by assumption), ?_⟩)) (h : Box w b cs := by repeat (first | assumption | exact Go.Gw.Own.sl (by assumption) | exact Go.Gw.Box.at (by assumption) | exact Go.Gw.SLL.el (by first | assumption | exact Go.Gw.OwnD.sll (by assumption)) _ (by omega) | exact Go.Gw.SLL.at (by first | assumption | exact Go.Gw.OwnD.sll (by assumption)) (by omega) | exact Go.Gw.OwnD.sll (by assumption) | (apply Go.Gw.SL.chg; case hx => assumption) | (apply Go.Gw.Own.chg; case hx => assumption) | (apply Go.Gw.Box.chg; case hx => assumption) | (apply Go.Gw.At.chg; case hx => assumption) | exact .inl (Nat.zero_le _) | exact .inr (Nat.zero_le _) | (show _ ∨ _; omega))) (hn : vs.length = n := by rfl) (hl : cs.length = vs.length := by rfl)
    (next : ∀ w', Box w' b vs → Chg b (b + 1) w w' → w'.heap.size = w.heap.size → W P N ops Q rest σ w') : W P N ops Q (⟨none, .store T x y, ty, pos, af, none⟩ :: rest) σ w := by
  subst hn
  refine ⟨fun a ha => ?_⟩
  refine wpList_plain rfl fun K hK => ?_
  unfold Oper.wp
  obtain ⟨e, hb⟩ := h.go
  have hst := run_storeVar_row (P := P) w b e T cs.toArray vs.toArray hb (by simpa using hT.size) (by simpa using hl) (by simpa using hu.all)
  have : (execOp a.eval ⟨none, .store T x y, ty, pos, af, none⟩).run P w = .ok .skip (w.setRow b vs.toArray) := by
    simp [execOp, ha.eval hx, ha.eval hy, Instr.storeAt, Instr.sureAddr, hst]
  rw [this]
  exact hK _ _ ((next _ ⟨e, setRow_heap w b _ _ e (0, 0) hb⟩ ⟨rfl, rfl, rfl, by simp, fun j hj ho => setRow_other w b j _ (by omega)⟩ (by simp)).go _ (ha.put_none _))
end
end Go.Gw

/- Rules of my own: slices of slices whose parts are taken and gathered. -/
import Derived.Test.YtihnhelkfiaimaaL17
namespace Go.Gw
open Go
set_option linter.unusedVariables false
set_option linter.unusedSimpArgs false
section
variable {P : Program} {N : Nat} {Q : Post} {σ : Fm} {w w' : World} {ops : Array Oper} {rest : List Oper} {T ty : TypeId} {x y z : Operand} {v u t : Value} {lo hi l k e s b d : Nat} {pos : String} {af : Array Edge} {svs gs : List SV} {xss : List (List Int)} {k1 k2 : IntKind}
theorem drop_take_getD {α : Type} {xs : List α} {a b i : Nat} {d : α} (h : i < ((xs.take b).drop a).length) : ((xs.take b).drop a).getD i d = xs.getD (a + i) d := by
  simp only [List.length_drop, List.length_take] at h
  rw [List.getD_eq_getElem?_getD, List.getElem?_drop, List.getElem?_take_of_lt (by omega), List.getD_eq_getElem?_getD]
theorem SLL.part {a c : Nat} (H : SLL w lo hi svs v xss) (hu : SL w lo hi u ((svs.take c).drop a)) : SLL w lo hi ((svs.take c).drop a) u ((xss.take c).drop a) := by
  have hl := H.len
  refine ⟨hu, by simp only [List.length_drop, List.length_take, hl], fun i hi => ?_⟩
  have h2 : i < ((svs.take c).drop a).length := by simp only [List.length_drop, List.length_take] at hi ⊢; omega
  rw [svD, drop_take_getD h2, drop_take_getD hi]
  exact H.el _ (by simp only [List.length_drop, List.length_take] at hi; omega)
theorem w_sliced {l h : Int} [hT : TSli P T e s b] (hx : ev σ x = some v) (hl : ev σ y = some (.int k1 l)) (hh : ev σ z = some (.int k2 h)) (hd : Nat.blt d N = true) (kk : ∀ u, SLL w lo hi ((svs.take h.toNat).drop l.toNat) u ((xss.take h.toNat).drop l.toNat) → W P N ops Q rest ((d, u) :: σ) w)
    (H : SLL w lo hi svs v xss := by first | assumption | exact Go.Gw.OwnD.sll (by assumption)) (hs : s = 1 := by rfl) (hb : 0 ≤ l ∧ l ≤ h ∧ h ≤ xss.length := by omega) :
    W P N ops Q (⟨some d, .slice T x (some y) (some z) none, ty, pos, af, none⟩ :: rest) σ w := by
  have hln := H.len
  obtain ⟨u, hy, hu⟩ := y_slice (P := P) (ty := ty) (T := T) hx (.inr ⟨y, _, rfl, hl⟩) (.inr ⟨z, _, rfl, hh⟩) H.out hs (by omega)
  exact w_pure hy hd (kk u (H.part hu))
theorem q_part_dec {op : Op} {Cl : World → Prop} {Q : Act → Prop} {o : Option Tmp} {j t : Nat} {b' : Bool} {p : Prop} {dp : Decidable p} (hj : (ops[j]?).bind (·.dst) = some t) (ht : look σ t = some (.bool (decide p)))
    (k1 : p → WQ P N ops Cl Q (⟨o, op, ty, pos, af, some (j, b')⟩ :: rest) ((t, .bool true) :: σ)) (k2 : ¬ p → WQ P N ops Cl Q (⟨o, op, ty, pos, af, some (j, b')⟩ :: rest) ((t, .bool false) :: σ)) : WQ P N ops Cl Q (⟨o, op, ty, pos, af, some (j, b')⟩ :: rest) σ :=
  q_part hj ht (fun h => k1 (of_decide_eq_true h)) (fun h => k2 (of_decide_eq_false h))
theorem q_slice {α : Type} {E : Enc α} {xs : List α} {l h : Int} {ol oh : Option Operand} {Q : Act → Prop} [hT : TSli P T e s b] (hx : ev σ x = some v) (hl : (ol = none ∧ l = 0) ∨ ∃ y k, ol = some y ∧ ev σ y = some (.int k l)) (hh : (oh = none ∧ h = xs.length) ∨ ∃ y k, oh = some y ∧ ev σ y = some (.int k h))
    (hd : Nat.blt d N = true) (k : ∀ u, SL w lo hi u ((xs.take h.toNat).drop l.toNat) → WQ P N ops (Ext w) Q rest ((d, u) :: σ)) (H : SL w lo hi v xs := by repeat (first | assumption | exact Go.Gw.Own.sl (by assumption) | exact Go.Gw.Box.at (by assumption) | exact Go.Gw.SLL.el (by first | assumption | exact Go.Gw.OwnD.sll (by assumption)) _ (by omega) | exact Go.Gw.SLL.at (by first | assumption | exact Go.Gw.OwnD.sll (by assumption)) (by omega) | exact Go.Gw.OwnD.sll (by assumption) | (apply Go.Gw.SL.chg; case hx => assumption) | (apply Go.Gw.Own.chg; case hx => assumption) | (apply Go.Gw.Box.chg; case hx => assumption) | (apply Go.Gw.At.chg; case hx => assumption) | exact .inl (Nat.zero_le _) | exact .inr (Nat.zero_le _) | (show _ ∨ _; omega))) (hs : s = Enc.sz α := by rfl) (hb : 0 ≤ l ∧ l ≤ h ∧ h ≤ xs.length := by omega) :
    WQ P N ops (Ext w) Q (⟨some d, .slice T x ol oh none, ty, pos, af, none⟩ :: rest) σ := by
  obtain ⟨u, hy, hu⟩ := y_slice (P := P) (ty := ty) (T := T) hx hl hh H hs hb
  exact q_pure hy hd (k u hu)
/-- an element that is a slice -/
theorem y_load_svo [TScal P T] {n : Nat} (hx : ev σ x = some (ptr (sb v) (so v + n * 1))) (h : SL w lo hi v gs := by repeat (first | assumption | exact Go.Gw.Own.sl (by assumption) | exact Go.Gw.Box.at (by assumption) | exact Go.Gw.SLL.el (by first | assumption | exact Go.Gw.OwnD.sll (by assumption)) _ (by omega) | exact Go.Gw.SLL.at (by first | assumption | exact Go.Gw.OwnD.sll (by assumption)) (by omega) | exact Go.Gw.OwnD.sll (by assumption) | (apply Go.Gw.SL.chg; case hx => assumption) | (apply Go.Gw.Own.chg; case hx => assumption) | (apply Go.Gw.Box.chg; case hx => assumption) | (apply Go.Gw.At.chg; case hx => assumption) | exact .inl (Nat.zero_le _) | exact .inr (Nat.zero_le _) | (show _ ∨ _; omega))) (hn : n < gs.length := by first | omega | (simp only [List.length_set]; omega) | (simp only [List.length_set, List.length_append, List.length_cons, List.length_nil]; omega)) : YE P σ (.load T x) ty w (svD gs n) := y_load_el hx h hn rfl
theorem w_lit_svl [hT : TSli P T e s b] (hs1 : s = 1) {h : Nat} (hx : ev σ x = some u) (hu : SLL w l h svs u xss := by first | assumption | exact Go.Gw.OwnD.sll (by assumption)) (hd : Nat.blt d N = true := by rfl)
    (k : ∀ v w', Own w' e w.heap.size v [svOf u] → Ext w w' → bL v = w.heap.size → bH v = w.heap.size + 1 → w'.heap.size = w.heap.size + 1 → W P N ops Q rest ((d, v) :: σ) w') : W P N ops Q (⟨some d, .buildSlice T 1 #[(0, x)], ty, pos, af, none⟩ :: rest) σ w :=
  w_lit' (n := 1) (parts := [(0, x)]) (vs := [u]) (xs := [svOf u]) hs1 (by simp [evp, hx, num]) rfl (by
    have h1 := cells_one hu.out.one
    simp only [List.flatMap_cons, List.flatMap_nil, List.append_nil, h1]
    show [u] = [(svOf u).v]; rw [svOf_v hu.out]) (fun v hv => by simp at hv; subst hv; rw [cells_one hu.out.one]; rfl) rfl (by omega) (by omega) hd k
end
end Go.Gw

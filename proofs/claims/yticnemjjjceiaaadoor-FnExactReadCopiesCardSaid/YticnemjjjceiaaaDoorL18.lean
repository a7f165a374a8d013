/- Rules of my own: elements taken out of a slice in place: three bounds, a prefix of one's own, append where there is room, clear.  Rules of my own: bytes taken from bytes. Rules of my own: slices of slices whose parts are taken and gathered. -/
import Derived.Test.YticnemjjjceiaaaDoorL15
import Derived.Test.YticnemjjjceiaaaDoorL13
namespace Go.Gw
open Go
set_option linter.unusedVariables false
set_option linter.unusedSimpArgs false
/-- the room of a slice -/
def cp : Value → Nat
  | .slice _ _ c => c
  | _ => 0
section
variable {P : Program} {N : Nat} {Q : Post} {T e ty : TypeId} {s b d : Nat} {σ : Fm} {x y z m : Operand} {v u : Value} {w : World} {k k2 k3 : IntKind} {ops : Array Oper} {rest : List Oper} {pos : String} {af : Array Edge}
variable {α : Type} [E : Enc α]
theorem y_slice3 {lo hi : Nat} {xs : List α} {l h n : Int} [hT : TSli P T e s b] (hx : ev σ x = some v) (hl : ev σ y = some (.int k l)) (hh : ev σ z = some (.int k2 h)) (hm : ev σ m = some (.int k3 n))
    (H : SL w lo hi v xs := by repeat (first | assumption | exact Go.Gw.Own.sl (by assumption) | exact Go.Gw.Box.at (by assumption) | exact Go.Gw.SLL.el (by first | assumption | exact Go.Gw.OwnD.sll (by assumption)) _ (by omega) | exact Go.Gw.SLL.at (by first | assumption | exact Go.Gw.OwnD.sll (by assumption)) (by omega) | exact Go.Gw.OwnD.sll (by assumption) | (apply Go.Gw.SL.chg; case hx => assumption) | (apply Go.Gw.Own.chg; case hx => assumption) | (apply Go.Gw.Box.chg; case hx => assumption) | (apply Go.Gw.At.chg; case hx => assumption) | exact .inl (Nat.zero_le _) | exact .inr (Nat.zero_le _) | (show _ ∨ _; omega))) (hn : 0 ≤ l ∧ l ≤ h ∧ h ≤ n ∧ n ≤ xs.length := by omega) : ∃ u, YE P σ (.slice T x (some y) (some z) (some m)) ty w u := by
  obtain ⟨a, c, hv, hle, hcm, ha⟩ := H.form
  refine ⟨.slice (if n.toNat = l.toNat then a else a.map (·.add (l.toNat * s))) (h.toNat - l.toNat) (n.toNat - l.toNat), ⟨fun w' hw ρ hρ => ?_⟩⟩
  have e1 : ρ x = .slice a xs.length c := by rw [hρ _ _ hx, hv]
  have h1 : (Instr.sliceBound (.int k3 n) c .slice3Acap).run P w' = .ok n.toNat w' := by
    have h1 : 0 ≤ n ∧ n ≤ (c : Int) := by omega
    simp only [Instr.sliceBound, asIntOf, Sem.run_bind, Sem.run_pure, Result.andThen_ok, if_pos h1]
  have h2 : (Instr.sliceBound (.int k2 h) n.toNat .slice3B).run P w' = .ok h.toNat w' := by
    have h1 : 0 ≤ h ∧ h ≤ (n.toNat : Int) := by omega
    simp only [Instr.sliceBound, asIntOf, Sem.run_bind, Sem.run_pure, Result.andThen_ok, if_pos h1]
  have h3 : (Instr.sliceBound (.int k l) h.toNat .slice3C).run P w' = .ok l.toNat w' := by
    have h1 : 0 ≤ l ∧ l ≤ (h.toNat : Int) := by omega
    simp only [Instr.sliceBound, asIntOf, Sem.run_bind, Sem.run_pure, Result.andThen_ok, if_pos h1]
  have hsl : (Instr.sliceAt T (.slice a xs.length c) (some (ρ y)) (some (ρ z)) (some (ρ m))).run P w' = .ok (.slice (if n.toNat = l.toNat then a else a.map (·.add (l.toNat * s))) (h.toNat - l.toNat) (n.toNat - l.toNat)) w' := by
    simp [Instr.sliceAt, Instr.slice, Instr.sliceBounds, run_underlying hT.und, run_size w' hT.size, hρ _ _ hl, hρ _ _ hh, hρ _ _ hm, h1, h2, h3]
  simp only [execOp, e1, Option.map_some, Sem.run_bind, hsl, Result.andThen_ok, Sem.run_pure]
theorem y_slicep {B : Nat} {xs : List α} {h : Int} [hT : TSli P T e s b] (hx : ev σ x = some v) (hh : ev σ y = some (.int k h)) (H : Own w e B v xs := by repeat (first | assumption | exact Go.Gw.Own.sl (by assumption) | exact Go.Gw.Box.at (by assumption) | exact Go.Gw.SLL.el (by first | assumption | exact Go.Gw.OwnD.sll (by assumption)) _ (by omega) | exact Go.Gw.SLL.at (by first | assumption | exact Go.Gw.OwnD.sll (by assumption)) (by omega) | exact Go.Gw.OwnD.sll (by assumption) | (apply Go.Gw.SL.chg; case hx => assumption) | (apply Go.Gw.Own.chg; case hx => assumption) | (apply Go.Gw.Box.chg; case hx => assumption) | (apply Go.Gw.At.chg; case hx => assumption) | exact .inl (Nat.zero_le _) | exact .inr (Nat.zero_le _) | (show _ ∨ _; omega))) (hb : 0 ≤ h ∧ h ≤ xs.length := by omega) :
    ∃ u, YE P σ (.slice T x none (some y) none) ty w u ∧ Own w e B u (xs.take h.toNat) ∧ bL u = bL v ∧ bH u = bH v ∧ cp u = cp v := by
  have hlen : (xs.take h.toNat).length = h.toNat := by simp; omega
  have hy : ∀ {a : Option Addr} {c : Nat}, v = .slice a xs.length c → xs.length ≤ c → YE P σ (.slice T x none (some y) none) ty w (.slice (if c = 0 then a else a.map (·.add (0 * s))) h.toNat c) := fun {a c} hv hc => ⟨fun w' hw ρ hρ => by
    have e1 : ρ x = .slice a xs.length c := by rw [hρ _ _ hx, hv]
    have h2 : (Instr.sliceBound (.int k h) c .sliceAcap).run P w' = .ok h.toNat w' := by
      have h1 : 0 ≤ h ∧ h ≤ (c : Int) := by omega
      simp only [Instr.sliceBound, asIntOf, Sem.run_bind, Sem.run_pure, Result.andThen_ok, if_pos h1]
    have hsl : (Instr.sliceAt T (.slice a xs.length c) none (some (ρ y)) none).run P w' = .ok (.slice (if c = 0 then a else a.map (·.add (0 * s))) h.toNat c) w' := by
      simp [Instr.sliceAt, Instr.slice, Instr.sliceBounds, run_underlying hT.und, run_size w' hT.size, hρ _ _ hh, h2]
    simp only [execOp, e1, Option.map_some, Option.map_none, Sem.run_bind, hsl, Result.andThen_ok, Sem.run_pure]⟩
  rcases H.go with ⟨hl, ⟨rfl, hn⟩ | ⟨g, cap, cur, rfl, hb', hg, hnc, hcm, hcs, htk⟩⟩
  · have hx0 : xs = [] := List.eq_nil_of_length_eq_zero hn
    subst hx0
    have h0 : h.toNat = 0 := by simp at hb; omega
    refine ⟨_, hy rfl (Nat.le_refl _), ?_, rfl, rfl, rfl⟩
    rw [h0]
    exact Own.nil w e B
  · refine ⟨_, hy rfl hnc, ⟨?_⟩, ?_, ?_, rfl⟩
    · have ea : (if cap = 0 then (some ⟨g, 0, none⟩ : Option Addr) else (some (⟨g, 0, none⟩ : Addr)).map (·.add (0 * s))) = some ⟨g, 0, none⟩ := by
        split
        · rfl
        · rw [Nat.zero_mul, Option.map_some, Addr.add_lit]
      rw [ea, hlen]
      refine ⟨by rw [flat_len, hlen], .inr ⟨g, cap, cur, rfl, hb', hg, by omega, hcm, hcs, ?_⟩⟩
      have e2 : cur.toList.take (h.toNat * Enc.sz α) = (cur.toList.take (xs.length * Enc.sz α)).take (h.toNat * Enc.sz α) := by
        rw [List.take_take, Nat.min_eq_left (Nat.mul_le_mul_right _ (by omega))]
      rw [e2, htk]
      conv => lhs; rw [← List.take_append_drop h.toNat xs, List.flatMap_append]
      rw [List.take_left' (by rw [flat_len, hlen])]
    · split <;> simp [bL, sb, Addr.add_lit]
    · split <;> simp [bH, Addr.add_lit]
theorem chg_setRow (w : World) (g : Nat) (cs : Array Value) : Chg g (g + 1) w (w.setRow g cs) :=
  ⟨rfl, rfl, rfl, by simp, fun k hk ho => setRow_other w g k cs (by omega)⟩
theorem run_append_keep {lo hi B : Nat} {xs ys : List α} {t2 : TypeId} [hT : TSli P T e s b] (hs : s = Enc.sz α) (h : Own w e B v xs) (h2 : SL w lo hi u ys) (hc : xs.length + ys.length ≤ cp v) :
    ∃ v' w', (Builtin.append_ #[T, T] t2 #[v, u]).run P w = .ok v' w' ∧ Own w' e B v' (xs ++ ys) ∧ Chg (bL v) (bH v) w w' ∧ bL v' = bL v ∧ bH v' = bH v ∧ cp v' = cp v := by
  subst hs
  obtain ⟨i, z, hi, hz, his, hib, hzs⟩ := info_of (P := P) (T := T)
  obtain ⟨a, c, hu, hle, hcm, ha⟩ := h2.form
  rcases Nat.eq_zero_or_pos ys.length with h0 | h0
  · have : ys = [] := List.eq_nil_of_length_eq_zero h0
    subst this
    refine ⟨v, w, ?_, by simpa using h, Chg.refl _ _ _, rfl, rfl, rfl⟩
    rw [hu]
    obtain ⟨a', c', hv, hle', _⟩ := h.sl.form
    rw [hv]
    have hf : (Builtin.firstCells i.size 0 (.slice a 0 c)).run P w = .ok #[] w := by
      cases a <;> simp [Builtin.firstCells, loadCells, loadCellsFrom]
    have hlen : xs.length + 0 ≤ c' := by omega
    simp only [List.length_nil, Builtin.append_, run_underlying hT.und, sizeOf, typeInfo, hi, Builtin.lenOf]
    cases a' <;> simp [run_underlying hT.und, hi, hle', hf, storeCells]
  · have ha := ha h0
    subst ha
    rcases h.go with ⟨hl, ⟨rfl, hn⟩ | ⟨g, cap, cur, rfl, hbg, hg, hnc, hcm', hcs, htk⟩⟩
    · exact absurd hc (by simp only [cp]; omega)
    · have hroom : xs.length + ys.length ≤ cap := hc
      have hfit : xs.length * i.size + (ys.flatMap Enc.enc).length ≤ cur.size := by rw [flat_len, hcs, his, ← Nat.add_mul]; exact Nat.mul_le_mul_right _ hroom
      have hr2 := run_append_room (P := P) w T t2 e i hT.und hi g xs.length cap cur hg ⟨sb u, so u, none⟩ ys.length c (ys.flatMap Enc.enc) (by rw [his]; exact flat_len ys) (sl_cells h2 h0) (enc_all ys) hroom hfit
      have hlt := (Array.getElem?_eq_some_iff.1 hg).1
      refine ⟨.slice (some ⟨g, 0, none⟩) (xs.length + ys.length) cap, _, by rw [hu]; exact hr2, ⟨?_⟩, chg_setRow w g _, rfl, rfl, rfl⟩
      · refine ⟨flat_len _, .inr ⟨g, cap, _, by rw [List.length_append], hbg, setRow_heap w g cur _ e (0, 0) hg, by rw [List.length_append]; exact hc, hcm', ?_, ?_⟩⟩
        · simp only [List.size_toArray, List.length_append, List.length_take, List.length_drop, Array.length_toList]
          omega
        · rw [his, List.length_append, List.flatMap_append, htk]
          rw [List.take_left' (by rw [List.length_append, flat_len, flat_len, Nat.add_mul])]
theorem w_append_keep {lo hi B : Nat} {xs ys : List α} [hT : TSli P T e s b] (hx : ev σ x = some v) (hy : ev σ y = some u) (h : Own w e B v xs := by repeat (first | assumption | exact Go.Gw.Own.sl (by assumption) | exact Go.Gw.Box.at (by assumption) | exact Go.Gw.SLL.el (by first | assumption | exact Go.Gw.OwnD.sll (by assumption)) _ (by omega) | exact Go.Gw.SLL.at (by first | assumption | exact Go.Gw.OwnD.sll (by assumption)) (by omega) | exact Go.Gw.OwnD.sll (by assumption) | (apply Go.Gw.SL.chg; case hx => assumption) | (apply Go.Gw.Own.chg; case hx => assumption) | (apply Go.Gw.Box.chg; case hx => assumption) | (apply Go.Gw.At.chg; case hx => assumption) | exact .inl (Nat.zero_le _) | exact .inr (Nat.zero_le _) | (show _ ∨ _; omega))) (h2 : SL w lo hi u ys := by repeat (first | assumption | exact Go.Gw.Own.sl (by assumption) | exact Go.Gw.Box.at (by assumption) | exact Go.Gw.SLL.el (by first | assumption | exact Go.Gw.OwnD.sll (by assumption)) _ (by omega) | exact Go.Gw.SLL.at (by first | assumption | exact Go.Gw.OwnD.sll (by assumption)) (by omega) | exact Go.Gw.OwnD.sll (by assumption) | (apply Go.Gw.SL.chg; case hx => assumption) | (apply Go.Gw.Own.chg; case hx => assumption) | (apply Go.Gw.Box.chg; case hx => assumption) | (apply Go.Gw.At.chg; case hx => assumption) | exact .inl (Nat.zero_le _) | exact .inr (Nat.zero_le _) | (show _ ∨ _; omega))) (hc : xs.length + ys.length ≤ cp v) (hs : s = Enc.sz α := by rfl) (hd : Nat.blt d N = true := by rfl)
    (k : ∀ v' w', Own w' e B v' (xs ++ ys) → Chg (bL v) (bH v) w w' → (bL v' = bL v ∧ bH v' = bH v ∧ cp v' = cp v) → W P N ops Q rest ((d, v') :: σ) w') :
    W P N ops Q (⟨some d, .call { callee := .builtin .append, args := #[x, y], argTypes := #[T, T] }, ty, pos, af, none⟩ :: rest) σ w := by
  refine ⟨fun a ha => ?_⟩
  refine wpList_plain rfl fun K hK => ?_
  unfold Oper.wp
  obtain ⟨v', w', hr, h3, h4, h5⟩ := run_append_keep (P := P) (T := T) (t2 := ty) hs h h2 hc
  have : (execOp a.eval ⟨some d, .call { callee := .builtin .append, args := #[x, y], argTypes := #[T, T] }, ty, pos, af, none⟩).run P w = .ok (.value v') w' := by
    simp only [execOp, resolve, Sem.run_bind, Sem.run_pure, Result.andThen_ok, invoke, builtin, List.map_toArray, List.map_cons, List.map_nil, ha.eval hx, ha.eval hy, hr]
  rw [this]
  exact hK _ _ ((k v' w' h3 h4 h5).go _ (ha.put hd _))
/-- u is the part of v from its l-th element on, n elements long, within v's room -/
structure Past (sz : Nat) (v u : Value) (l n : Nat) : Prop where
  go : ∃ a c, u = .slice a n c ∧ (0 < n → a = some ⟨bL v, l * sz, none⟩)
  room : l + n ≤ cp v
theorem y_slicet {B : Nat} {xs : List α} {l h : Int} [hT : TSli P T e s b] (hx : ev σ x = some v) (hl : ev σ y = some (.int k l)) (hh : ev σ z = some (.int k2 h)) (H : Own w e B v xs := by repeat (first | assumption | exact Go.Gw.Own.sl (by assumption) | exact Go.Gw.Box.at (by assumption) | exact Go.Gw.SLL.el (by first | assumption | exact Go.Gw.OwnD.sll (by assumption)) _ (by omega) | exact Go.Gw.SLL.at (by first | assumption | exact Go.Gw.OwnD.sll (by assumption)) (by omega) | exact Go.Gw.OwnD.sll (by assumption) | (apply Go.Gw.SL.chg; case hx => assumption) | (apply Go.Gw.Own.chg; case hx => assumption) | (apply Go.Gw.Box.chg; case hx => assumption) | (apply Go.Gw.At.chg; case hx => assumption) | exact .inl (Nat.zero_le _) | exact .inr (Nat.zero_le _) | (show _ ∨ _; omega))) (hn : 0 ≤ l ∧ l ≤ h ∧ h ≤ cp v) :
    ∃ u, YE P σ (.slice T x (some y) (some z) none) ty w u ∧ Past s v u l.toNat (h.toNat - l.toNat) := by
  obtain ⟨a, c, hv, hle, hcm, ha⟩ := H.sl.form
  have hc : cp v = c := by rw [hv]; rfl
  refine ⟨.slice (if c = l.toNat then a else a.map (·.add (l.toNat * s))) (h.toNat - l.toNat) (c - l.toNat), ⟨fun w' hw ρ hρ => ?_⟩, ⟨⟨_, _, rfl, fun h0 => ?_⟩, by omega⟩⟩
  · have e1 : ρ x = .slice a xs.length c := by rw [hρ _ _ hx, hv]
    have h2 : (Instr.sliceBound (.int k2 h) c .sliceAcap).run P w' = .ok h.toNat w' := by
      have h1 : 0 ≤ h ∧ h ≤ (c : Int) := by omega
      simp only [Instr.sliceBound, asIntOf, Sem.run_bind, Sem.run_pure, Result.andThen_ok, if_pos h1]
    have h3 : (Instr.sliceBound (.int k l) h.toNat .sliceB).run P w' = .ok l.toNat w' := by
      have h1 : 0 ≤ l ∧ l ≤ (h.toNat : Int) := by omega
      simp only [Instr.sliceBound, asIntOf, Sem.run_bind, Sem.run_pure, Result.andThen_ok, if_pos h1]
    have hsl : (Instr.sliceAt T (.slice a xs.length c) (some (ρ y)) (some (ρ z)) none).run P w' = .ok (.slice (if c = l.toNat then a else a.map (·.add (l.toNat * s))) (h.toNat - l.toNat) (c - l.toNat)) w' := by
      simp [Instr.sliceAt, Instr.slice, Instr.sliceBounds, run_underlying hT.und, run_size w' hT.size, hρ _ _ hl, hρ _ _ hh, h2, h3]
    simp only [execOp, e1, Option.map_some, Option.map_none, Sem.run_bind, hsl, Result.andThen_ok, Sem.run_pure]
  · rcases H.go.2 with ⟨rfl, hz⟩ | ⟨g, cap, cur, rfl, _⟩
    · simp only [cp] at hn; omega
    · cases hv
      rw [if_neg (by omega), Option.map_some, Addr.add_lit, Nat.zero_add]; rfl
theorem w_clear {B n : Nat} {xs : List α} {zv : Value} {x0 : α} [hT : TSli P T e s b] [hz : TZero P e zv] (hx : ev σ x = some u) (hp : Past s v u xs.length n) (h : Own w e B v xs := by repeat (first | assumption | exact Go.Gw.Own.sl (by assumption) | exact Go.Gw.Box.at (by assumption) | exact Go.Gw.SLL.el (by first | assumption | exact Go.Gw.OwnD.sll (by assumption)) _ (by omega) | exact Go.Gw.SLL.at (by first | assumption | exact Go.Gw.OwnD.sll (by assumption)) (by omega) | exact Go.Gw.OwnD.sll (by assumption) | (apply Go.Gw.SL.chg; case hx => assumption) | (apply Go.Gw.Own.chg; case hx => assumption) | (apply Go.Gw.Box.chg; case hx => assumption) | (apply Go.Gw.At.chg; case hx => assumption) | exact .inl (Nat.zero_le _) | exact .inr (Nat.zero_le _) | (show _ ∨ _; omega))) (hs : s = Enc.sz α := by rfl) (hdec : E.dec zv = some x0 := by rfl)
    (k : ∀ w', Own w' e B v xs → Chg (bL v) (bH v) w w' → W P N ops Q rest σ w') :
    W P N ops Q (⟨none, .call { callee := .builtin .clear, args := #[x], argTypes := #[T] }, ty, pos, af, none⟩ :: rest) σ w := by
  subst hs
  refine ⟨fun a ha => ?_⟩
  refine wpList_plain rfl fun K hK => ?_
  unfold Oper.wp
  have hfl := made_flat (E.dec_ok _ _ hdec) n
  have hsz : zv.cells.size = Enc.sz α := by rw [← Array.length_toList, E.dec_ok _ _ hdec, Enc.len]
  have hzc : (Builtin.zeroCells zv.cells n).toList = (List.replicate n x0).flatMap Enc.enc := by
    rw [← hfl, ← hsz]; rfl
  obtain ⟨⟨a', c, hu, haa⟩, hroom⟩ := hp
  have hr : ∃ w', (Builtin.clear_ #[T] ty #[u]).run P w = .ok (.tuple #[]) w' ∧ Own w' e B v xs ∧ Chg (bL v) (bH v) w w' := by
    rcases Nat.eq_zero_or_pos n with h0 | h0
    · refine ⟨w, ?_, h, Chg.refl _ _ _⟩
      rw [hu, h0]
      cases a' <;> simp [Builtin.clear_, run_underlying hT.und]
    · have ha' := haa h0
      subst ha'
      rcases h.go with ⟨hl, ⟨rfl, hn⟩ | ⟨g, cap, cur, rfl, hbg, hg, hnc, hcm', hcs, htk⟩⟩
      · simp only [cp] at hroom; omega
      · have hroom' : xs.length + n ≤ cap := hroom
        have hm : xs.length * Enc.sz α + n * Enc.sz α ≤ cur.size := by rw [hcs, ← Nat.add_mul]; exact Nat.mul_le_mul_right _ hroom'
        have hst := run_storeCells_at P g (xs.length * Enc.sz α) e ((List.replicate n x0).flatMap Enc.enc) 0 cur w hg (by rw [flat_len, List.length_replicate]; exact hm) (enc_all _)
        rw [Nat.add_zero] at hst
        refine ⟨w.setRow g (cur.toList.take (xs.length * Enc.sz α) ++ (List.replicate n x0).flatMap Enc.enc ++ cur.toList.drop (xs.length * Enc.sz α + ((List.replicate n x0).flatMap Enc.enc).length)).toArray, ?_, ⟨?_⟩, chg_setRow w g _⟩
        · rw [hu]
          obtain ⟨m, rfl⟩ : ∃ m, n = m + 1 := ⟨n - 1, by omega⟩
          simp only [bL, sb]
          simp only [Builtin.clear_, Sem.run_bind, List.getElem?_toArray, List.getElem?_cons_zero, run_underlying hT.und, Result.andThen_ok, run_zero w (h := hz), hzc, hst, Sem.run_pure]
        · refine ⟨hl, .inr ⟨g, cap, _, rfl, hbg, setRow_heap w g cur _ e (0, 0) hg, hnc, hcm', ?_, ?_⟩⟩
          · simp only [List.size_toArray, List.length_append, List.length_take, List.length_drop, Array.length_toList, flat_len, List.length_replicate]
            omega
          · rw [List.append_assoc, List.take_left' (by rw [List.length_take]; have e : cur.toList.length = cur.size := Array.length_toList; omega), htk]
  obtain ⟨w', hr, h3, h4⟩ := hr
  have : (execOp a.eval ⟨none, .call { callee := .builtin .clear, args := #[x], argTypes := #[T] }, ty, pos, af, none⟩).run P w = .ok (.value (.tuple #[])) w' := by
    simp only [execOp, resolve, Sem.run_bind, Sem.run_pure, Result.andThen_ok, invoke, builtin, List.map_toArray, List.map_cons, List.map_nil, ha.eval hx, hr]
  rw [this]
  exact hK _ _ ((k w' h3 h4).go _ (ha.put_none _))
theorem w_slice3 {lo hi : Nat} {xs : List α} {l h n : Int} [hT : TSli P T e s b] (hx : ev σ x = some v) (hl : ev σ y = some (.int k l)) (hh : ev σ z = some (.int k2 h)) (hm : ev σ m = some (.int k3 n)) (hd : Nat.blt d N = true) (kk : ∀ u, W P N ops Q rest ((d, u) :: σ) w)
    (H : SL w lo hi v xs := by repeat (first | assumption | exact Go.Gw.Own.sl (by assumption) | exact Go.Gw.Box.at (by assumption) | exact Go.Gw.SLL.el (by first | assumption | exact Go.Gw.OwnD.sll (by assumption)) _ (by omega) | exact Go.Gw.SLL.at (by first | assumption | exact Go.Gw.OwnD.sll (by assumption)) (by omega) | exact Go.Gw.OwnD.sll (by assumption) | (apply Go.Gw.SL.chg; case hx => assumption) | (apply Go.Gw.Own.chg; case hx => assumption) | (apply Go.Gw.Box.chg; case hx => assumption) | (apply Go.Gw.At.chg; case hx => assumption) | exact .inl (Nat.zero_le _) | exact .inr (Nat.zero_le _) | (show _ ∨ _; omega))) (hn : 0 ≤ l ∧ l ≤ h ∧ h ≤ n ∧ n ≤ xs.length := by omega) : W P N ops Q (⟨some d, .slice T x (some y) (some z) (some m), ty, pos, af, none⟩ :: rest) σ w := by
  obtain ⟨u, hy⟩ := y_slice3 (P := P) (ty := ty) (T := T) hx hl hh hm H hn
  exact w_pure hy hd (kk u)
theorem w_slicet {B : Nat} {xs : List α} {l h : Int} [hT : TSli P T e s b] (hx : ev σ x = some v) (hl : ev σ y = some (.int k l)) (hh : ev σ z = some (.int k2 h)) (hd : Nat.blt d N = true) (kk : ∀ u, Past s v u l.toNat (h.toNat - l.toNat) → W P N ops Q rest ((d, u) :: σ) w)
    (H : Own w e B v xs := by repeat (first | assumption | exact Go.Gw.Own.sl (by assumption) | exact Go.Gw.Box.at (by assumption) | exact Go.Gw.SLL.el (by first | assumption | exact Go.Gw.OwnD.sll (by assumption)) _ (by omega) | exact Go.Gw.SLL.at (by first | assumption | exact Go.Gw.OwnD.sll (by assumption)) (by omega) | exact Go.Gw.OwnD.sll (by assumption) | (apply Go.Gw.SL.chg; case hx => assumption) | (apply Go.Gw.Own.chg; case hx => assumption) | (apply Go.Gw.Box.chg; case hx => assumption) | (apply Go.Gw.At.chg; case hx => assumption) | exact .inl (Nat.zero_le _) | exact .inr (Nat.zero_le _) | (show _ ∨ _; omega))) (hn : 0 ≤ l ∧ l ≤ h ∧ h ≤ cp v := by omega) : W P N ops Q (⟨some d, .slice T x (some y) (some z) none, ty, pos, af, none⟩ :: rest) σ w := by
  obtain ⟨u, hy, hp⟩ := y_slicet (P := P) (ty := ty) (T := T) hx hl hh H hn
  exact w_pure hy hd (kk u hp)
theorem h_slicep {B : Nat} {xs : List α} {h : Int} {i fuel n : Nat} {q : List (Nat × Oper)} {ls : List Bool} [hT : TSli P T e s b] (hi' : ops[i]? = some ⟨some d, .slice T x none (some y) none, ty, pos, af, none⟩) (hx : ev σ x = some v) (hh : ev σ y = some (.int k h))
    (hd : Nat.blt d N = true) (kk : ∀ u, Own w e B u (xs.take h.toNat) → bL u = bL v ∧ bH u = bH v ∧ cp u = cp v → WH P N ops Q fuel q.length q (ls.set i true) ((d, u) :: σ) w) (H : Own w e B v xs := by repeat (first | assumption | exact Go.Gw.Own.sl (by assumption) | exact Go.Gw.Box.at (by assumption) | exact Go.Gw.SLL.el (by first | assumption | exact Go.Gw.OwnD.sll (by assumption)) _ (by omega) | exact Go.Gw.SLL.at (by first | assumption | exact Go.Gw.OwnD.sll (by assumption)) (by omega) | exact Go.Gw.OwnD.sll (by assumption) | (apply Go.Gw.SL.chg; case hx => assumption) | (apply Go.Gw.Own.chg; case hx => assumption) | (apply Go.Gw.Box.chg; case hx => assumption) | (apply Go.Gw.At.chg; case hx => assumption) | exact .inl (Nat.zero_le _) | exact .inr (Nat.zero_le _) | (show _ ∨ _; omega))) (hb : 0 ≤ h ∧ h ≤ xs.length := by omega)
    (hm : mayTake ops (spoil ops) ls.toArray i = true := by decide +kernel) (hQ : ∀ c a u w, Q (.panic c) (a.put (some d) u) w → Q (.panic c) a w := by exact fun _ _ _ _ h => h) :
    WH P N ops Q (fuel + 1) n ((i, ⟨some d, .slice T x none (some y) none, ty, pos, af, none⟩) :: q) ls σ w := by
  obtain ⟨u, hy, hu, h3⟩ := y_slicep (P := P) (ty := ty) (T := T) hx hh H hb
  exact h_pure hi' hy hd (kk u hu h3) hm (fun c a w => hQ c a u w)
theorem Own.cp_le {B : Nat} {xs : List α} (h : Own w e B v xs) : xs.length ≤ cp v := by
  obtain ⟨a, c, hv, hle, _⟩ := h.sl.form
  rw [hv]; exact hle
end
end Go.Gw

namespace Go.Gw
open Go
set_option linter.unusedVariables false
set_option linter.unusedSimpArgs false
section
variable {P : Program} {N : Nat} {σ : Fm} {w : World} {ty t t' : TypeId} {x y : Operand} {a b : Int}
theorem wrap_u8 {a : Int} (h : 0 ≤ a ∧ a < 256) : IntKind.u8.wrap a = a := by
  simp only [IntKind.wrap, show IntKind.u8.signed = false from rfl, show IntKind.u8.bits = 8 from rfl, Bool.false_eq_true, false_and, Bool.false_and, if_false]
  omega
theorem y_sub8 (hx : ev σ x = some (.int .u8 a)) (hy : ev σ y = some (.int .u8 b)) (h : 0 ≤ a - b ∧ a - b < 256 := by omega) : YE P σ (.binOp .sub t x y t') ty w (.int .u8 (a - b)) := by
  have := y_sub_wrap (P := P) (w := w) (ty := ty) (t := t) (t' := t') hx hy
  rwa [wrap_u8 h] at this
end
end Go.Gw

namespace Go.Gw
open Go
set_option linter.unusedVariables false
set_option linter.unusedSimpArgs false
section
variable {P : Program} {N : Nat} {Q : Post} {σ : Fm} {w w' : World} {ops : Array Oper} {rest : List Oper} {T ty : TypeId} {x y z : Operand} {v u t : Value} {lo hi l k e s b d : Nat} {pos : String} {af : Array Edge} {svs gs : List SV} {xss : List (List Int)} {k1 k2 : IntKind}
theorem drop_take_getD {α : Type} {xs : List α} {a b i : Nat} {d : α} (h : i < ((xs.take b).drop a).length) : ((xs.take b).drop a).getD i d = xs.getD (a + i) d := by
  simp only [List.length_drop, List.length_take] at h
  rw [List.getD_eq_getElem?_getD, List.getElem?_drop, List.getElem?_take_of_lt (by omega), List.getD_eq_getElem?_getD]
theorem SLL.part {a c : Nat} (H : SLL w lo hi svs v xss) (hu : SL w lo hi u ((svs.take c).drop a)) : SLL w lo hi ((svs.take c).drop a) u ((xss.take c).drop a) := by
  have hl := H.len
  refine ⟨hu, by simp only [List.length_drop, List.length_take, hl], fun i hi => ?_⟩
  have h2 : i < ((svs.take c).drop a).length := by simp only [List.length_drop, List.length_take] at hi ⊢; omega
  rw [svD, drop_take_getD h2, drop_take_getD hi]
  exact H.el _ (by simp only [List.length_drop, List.length_take] at hi; omega)
theorem w_sliced {l h : Int} [hT : TSli P T e s b] (hx : ev σ x = some v) (hl : ev σ y = some (.int k1 l)) (hh : ev σ z = some (.int k2 h)) (hd : Nat.blt d N = true) (kk : ∀ u, SLL w lo hi ((svs.take h.toNat).drop l.toNat) u ((xss.take h.toNat).drop l.toNat) → W P N ops Q rest ((d, u) :: σ) w)
    (H : SLL w lo hi svs v xss := by first | assumption | exact Go.Gw.OwnD.sll (by assumption)) (hs : s = 1 := by rfl) (hb : 0 ≤ l ∧ l ≤ h ∧ h ≤ xss.length := by omega) :
    W P N ops Q (⟨some d, .slice T x (some y) (some z) none, ty, pos, af, none⟩ :: rest) σ w := by
  have hln := H.len
  obtain ⟨u, hy, hu⟩ := y_slice (P := P) (ty := ty) (T := T) hx (.inr ⟨y, _, rfl, hl⟩) (.inr ⟨z, _, rfl, hh⟩) H.out hs (by omega)
  exact w_pure hy hd (kk u (H.part hu))
theorem q_part_dec {op : Op} {Cl : World → Prop} {Q : Act → Prop} {o : Option Tmp} {j t : Nat} {b' : Bool} {p : Prop} {dp : Decidable p} (hj : (ops[j]?).bind (·.dst) = some t) (ht : look σ t = some (.bool (decide p)))
    (k1 : p → WQ P N ops Cl Q (⟨o, op, ty, pos, af, some (j, b')⟩ :: rest) ((t, .bool true) :: σ)) (k2 : ¬ p → WQ P N ops Cl Q (⟨o, op, ty, pos, af, some (j, b')⟩ :: rest) ((t, .bool false) :: σ)) : WQ P N ops Cl Q (⟨o, op, ty, pos, af, some (j, b')⟩ :: rest) σ :=
  q_part hj ht (fun h => k1 (of_decide_eq_true h)) (fun h => k2 (of_decide_eq_false h))
theorem q_slice {α : Type} {E : Enc α} {xs : List α} {l h : Int} {ol oh : Option Operand} {Q : Act → Prop} [hT : TSli P T e s b] (hx : ev σ x = some v) (hl : (ol = none ∧ l = 0) ∨ ∃ y k, ol = some y ∧ ev σ y = some (.int k l)) (hh : (oh = none ∧ h = xs.length) ∨ ∃ y k, oh = some y ∧ ev σ y = some (.int k h))
    (hd : Nat.blt d N = true) (k : ∀ u, SL w lo hi u ((xs.take h.toNat).drop l.toNat) → WQ P N ops (Ext w) Q rest ((d, u) :: σ)) (H : SL w lo hi v xs := by repeat (first | assumption | exact Go.Gw.Own.sl (by assumption) | exact Go.Gw.Box.at (by assumption) | exact Go.Gw.SLL.el (by first | assumption | exact Go.Gw.OwnD.sll (by assumption)) _ (by omega) | exact Go.Gw.SLL.at (by first | assumption | exact Go.Gw.OwnD.sll (by assumption)) (by omega) | exact Go.Gw.OwnD.sll (by assumption) | (apply Go.Gw.SL.chg; case hx => assumption) | (apply Go.Gw.Own.chg; case hx => assumption) | (apply Go.Gw.Box.chg; case hx => assumption) | (apply Go.Gw.At.chg; case hx => assumption) | exact .inl (Nat.zero_le _) | exact .inr (Nat.zero_le _) | (show _ ∨ _; omega))) (hs : s = Enc.sz α := by rfl) (hb : 0 ≤ l ∧ l ≤ h ∧ h ≤ xs.length := by omega) :
    WQ P N ops (Ext w) Q (⟨some d, .slice T x ol oh none, ty, pos, af, none⟩ :: rest) σ := by
  obtain ⟨u, hy, hu⟩ := y_slice (P := P) (ty := ty) (T := T) hx hl hh H hs hb
  exact q_pure hy hd (k u hu)
/-- an element that is a slice -/
theorem y_load_svo [TScal P T] {n : Nat} (hx : ev σ x = some (ptr (sb v) (so v + n * 1))) (h : SL w lo hi v gs := by repeat (first | assumption | exact Go.Gw.Own.sl (by assumption) | exact Go.Gw.Box.at (by assumption) | exact Go.Gw.SLL.el (by first | assumption | exact Go.Gw.OwnD.sll (by assumption)) _ (by omega) | exact Go.Gw.SLL.at (by first | assumption | exact Go.Gw.OwnD.sll (by assumption)) (by omega) | exact Go.Gw.OwnD.sll (by assumption) | (apply Go.Gw.SL.chg; case hx => assumption) | (apply Go.Gw.Own.chg; case hx => assumption) | (apply Go.Gw.Box.chg; case hx => assumption) | (apply Go.Gw.At.chg; case hx => assumption) | exact .inl (Nat.zero_le _) | exact .inr (Nat.zero_le _) | (show _ ∨ _; omega))) (hn : n < gs.length := by first | omega | (simp only [List.length_set]; omega) | (simp only [List.length_set, List.length_append, List.length_cons, List.length_nil]; omega)) : YE P σ (.load T x) ty w (svD gs n) := y_load_el hx h hn rfl
theorem w_lit_svl [hT : TSli P T e s b] (hs1 : s = 1) {h : Nat} (hx : ev σ x = some u) (hu : SLL w l h svs u xss := by first | assumption | exact Go.Gw.OwnD.sll (by assumption)) (hd : Nat.blt d N = true := by rfl)
    (k : ∀ v w', Own w' e w.heap.size v [svOf u] → Ext w w' → bL v = w.heap.size → bH v = w.heap.size + 1 → w'.heap.size = w.heap.size + 1 → W P N ops Q rest ((d, v) :: σ) w') : W P N ops Q (⟨some d, .buildSlice T 1 #[(0, x)], ty, pos, af, none⟩ :: rest) σ w :=
  w_lit' (n := 1) (parts := [(0, x)]) (vs := [u]) (xs := [svOf u]) hs1 (by simp [evp, hx, num]) rfl (by
    have h1 := cells_one hu.out.one
    simp only [List.flatMap_cons, List.flatMap_nil, List.append_nil, h1]
    show [u] = [(svOf u).v]; rw [svOf_v hu.out]) (fun v hv => by simp at hv; subst hv; rw [cells_one hu.out.one]; rfl) rfl (by omega) (by omega) hd k
end
end Go.Gw

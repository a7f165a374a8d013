/- Division that cuts towards 0; bits. -/
import Derived.Test.YticnemjjjceiaaaDoorL14
namespace Go.Gw
open Go
set_option linter.unusedVariables false
set_option linter.unusedSimpArgs false
section
variable {P : Program} {N : Nat} {σ : Fm} {w : World} {ty t t' : TypeId} {x y : Operand} {a b : Int}
theorem tdiv_in {a b : Int} (h : In64 a) (h2 : 1 < b) : In64 (a.tdiv b) := by
  have h1 := Int.natAbs_tdiv_le_natAbs a b
  rcases Int.lt_or_le a 0 with ha | ha
  · have : a.tdiv b ≤ 0 := by
      have := Int.tdiv_nonneg (a := -a) (b := b) (by omega) (by omega)
      rw [Int.neg_tdiv] at this; omega
    unfold In64 at *; omega
  · have := Int.tdiv_nonneg (a := a) (b := b) ha (by omega)
    unfold In64 at *; omega
theorem y_quot (hx : ev σ x = some (.int .i64 a)) (hy : ev σ y = some (.int .i64 b)) (hb : b ≠ 0 := by omega) (h : In64 (a.tdiv b) := by first | assumption | exact tdiv_in (by assumption) (by omega) | exact tdiv_in ⟨by omega, by omega⟩ (by omega)) : YE P σ (.binOp .quo t x y t') ty w (.int .i64 (a.tdiv b)) := by
  have := y_quo_wrap (P := P) (w := w) (ty := ty) (t := t) (t' := t') hx hy hb
  rwa [wrap_in h] at this
theorem y_remt (hx : ev σ x = some (.int .i64 a)) (hy : ev σ y = some (.int .i64 b)) (hb : b ≠ 0 := by omega) : YE P σ (.binOp .rem t x y t') ty w (.int .i64 (a.tmod b)) := y_rem_wrap (P := P) (w := w) (ty := ty) (t := t) (t' := t') hx hy hb
/-- two numbers' common bits (both at least 0) -/
def andI (a b : Int) : Int := ((a.toNat &&& b.toNat : Nat) : Int)
theorem andI_le {a b : Int} (hb : 0 ≤ b) : 0 ≤ andI a b ∧ andI a b ≤ b := by
  have := Nat.and_le_right (n := a.toNat) (m := b.toNat)
  unfold andI; omega
theorem y_and (hx : ev σ x = some (.int .i64 a)) (hy : ev σ y = some (.int .i64 b)) (ha : 0 ≤ a ∧ a ≤ 9223372036854775807 := by exact ⟨by omega, by omega⟩) (hb : 0 ≤ b ∧ b ≤ 9223372036854775807 := by exact ⟨by omega, by omega⟩) : YE P σ (.binOp .and t x y t') ty w (.int .i64 (andI a b)) := by
  have hw : IntKind.i64.wrap ((BitVec.ofInt 64 a &&& BitVec.ofInt 64 b).toNat : Int) = andI a b := by
    rw [BitVec.toNat_and, bits_of ha.1 ha.2, bits_of hb.1 hb.2]
    have := andI_le (a := a) hb.1
    exact wrap_in ⟨by unfold andI at this; omega, by unfold andI at this; omega⟩
  exact ⟨fun w' _ ρ hρ => by
    simp [execOp, hρ _ _ hx, hρ _ _ hy, eqGuard, binOp, Op.intBits]
    first
      | exact ⟨hw, by assumption⟩
      | exact hw
      | (intro; exact hw)
      | skip⟩
end
section
variable {P : Program} {N : Nat} {Q : Post} {σ : Fm} {w : World} {ops : Array Oper} {rest : List Oper} {T ty : TypeId} {x y : Operand} {u v : Value} {b o : Nat} {cs : List Value} {pos : String} {af : Array Edge}
/-- a struct that is a part of what is read -/
theorem y_loadsk {n k : Nat} {ds : List Value} [TStr P T n] (hx : ev σ x = some (ptr b (o + k))) (h : At w b o cs := by repeat (first | assumption | exact Go.Gw.Own.sl (by assumption) | exact Go.Gw.Box.at (by assumption) | exact Go.Gw.SLL.el (by first | assumption | exact Go.Gw.OwnD.sll (by assumption)) _ (by omega) | exact Go.Gw.SLL.at (by first | assumption | exact Go.Gw.OwnD.sll (by assumption)) (by omega) | exact Go.Gw.OwnD.sll (by assumption) | (apply Go.Gw.SL.chg; case hx => assumption) | (apply Go.Gw.Own.chg; case hx => assumption) | (apply Go.Gw.Box.chg; case hx => assumption) | (apply Go.Gw.At.chg; case hx => assumption) | exact .inl (Nat.zero_le _) | exact .inr (Nat.zero_le _) | (show _ ∨ _; omega))) (hd : (cs.drop k).take n = ds := by rfl) (hn : ds.length = n := by rfl) : YE P σ (.load T x) ty w (.agg ds.toArray) := y_loads hx (by have := h.part (k := k) (n := n); rw [hd] at this; exact this) hn
/-- a struct of two cells is stored as a part of a variable -/
theorem w_store_box2 [hT : TStr P T 2] {k : Nat} {cs' : List Value} (hx : ev σ x = some (ptr b k)) (hy : ev σ y = some (.agg #[u, v])) (hu : u.oneCell' = true := by first | rfl | exact Go.Gw.SL.one (by assumption) | exact Go.Gw.Own.one (by assumption)) (hv : v.oneCell' = true := by first | rfl | exact Go.Gw.SL.one (by assumption) | exact Go.Gw.Own.one (by assumption)) (h : Box w b cs := by repeat (first | assumption | exact Go.Gw.Own.sl (by assumption) | exact Go.Gw.Box.at (by assumption) | exact Go.Gw.SLL.el (by first | assumption | exact Go.Gw.OwnD.sll (by assumption)) _ (by omega) | exact Go.Gw.SLL.at (by first | assumption | exact Go.Gw.OwnD.sll (by assumption)) (by omega) | exact Go.Gw.OwnD.sll (by assumption) | (apply Go.Gw.SL.chg; case hx => assumption) | (apply Go.Gw.Own.chg; case hx => assumption) | (apply Go.Gw.Box.chg; case hx => assumption) | (apply Go.Gw.At.chg; case hx => assumption) | exact .inl (Nat.zero_le _) | exact .inr (Nat.zero_le _) | (show _ ∨ _; omega))) (hk : Nat.blt (k + 1) cs.length = true := by rfl) (hset : (cs.set k u).set (k + 1) v = cs' := by dsimp only [Nat.reduceAdd, List.set])
    (next : ∀ w', Box w' b cs' → Chg b (b + 1) w w' → w'.heap.size = w.heap.size → W P N ops Q rest σ w') : W P N ops Q (⟨none, .store T x y, ty, pos, af, none⟩ :: rest) σ w := by
  subst hset
  have hk1 : k + 1 < cs.length := by simpa [Nat.blt_eq] using hk
  have hk0 : k < cs.length := by omega
  refine ⟨fun a ha => ?_⟩
  refine wpList_plain rfl fun K hK => ?_
  unfold Oper.wp
  obtain ⟨h1, h2⟩ := setCell_box h hk0 u
  obtain ⟨h3, h4⟩ := setCell_box h1 (k := k + 1) (by simpa using hk1) v
  have hc : w.cell? ⟨b, k, none⟩ = some cs[k] := by have := h.at.go k cs[k] (by simp [hk0]); simpa using this
  have hc2 : (w.setCell ⟨b, k, none⟩ u).cell? ⟨b, k + 1, none⟩ = some ((cs.set k u)[k + 1]'(by simpa using hk1)) := by have := h1.at.go (k + 1) _ (List.getElem?_eq_getElem (by simpa using hk1)); simpa using this
  have f0 := h.free k
  have f1 := h1.free (k + 1)
  have : (execOp a.eval ⟨none, .store T x y, ty, pos, af, none⟩).run P w = .ok .skip ((w.setCell ⟨b, k, none⟩ u).setCell ⟨b, k + 1, none⟩ v) := by
    simp [execOp, ha.eval hx, ha.eval hy, Instr.storeAt, Instr.sureAddr, storeVar, run_size w hT.size, Value.cells, storeCells, run_store, add_lit, hc, hc2, hu, hv, f0, f1]
  rw [this]
  exact hK _ _ ((next _ h3 (h2.trans h4) (by simp)).go _ (ha.put_none _))
end
section
variable {P : Program} {N : Nat} {σ : Fm} {w : World} {ty t t' : TypeId} {x y : Operand} {a b : Int} {k k' : IntKind}
theorem y_shl (hx : ev σ x = some (.int .i64 a)) (hy : ev σ y = some (.int k b)) (hb : 0 ≤ b ∧ b ≤ 63 := by omega) (h : In64 (a * 2 ^ b.toNat)) : YE P σ (.binOp .shl t x y t') ty w (.int .i64 (a * 2 ^ b.toNat)) := ⟨fun w' _ ρ hρ => by
  have e : min b.toNat IntKind.i64.bits = b.toNat := by
    have : IntKind.i64.bits = 64 := by decide
    omega
  have hn : ¬ b < 0 := by omega
  simp [execOp, hρ _ _ hx, hρ _ _ hy, eqGuard, binOp, Op.shift, hn, e, wrap_in h]⟩
theorem and_not2x : ∀ x y : Fin 64, (BitVec.ofNat 64 (64 * x.val + y.val) &&& ~~~ (2#64)).toNat = (64 * x.val + y.val) - ((64 * x.val + y.val) &&& 2) := by decide +kernel
theorem and_not2 (a : Nat) (h : a < 4096) : (BitVec.ofNat 64 a &&& ~~~ (2#64)).toNat = a - (a &&& 2) := by
  have := and_not2x ⟨a / 64, by omega⟩ ⟨a % 64, by omega⟩
  rwa [show 64 * (⟨a / 64, by omega⟩ : Fin 64).val + (⟨a % 64, by omega⟩ : Fin 64).val = a by show 64 * (a / 64) + a % 64 = a; omega] at this
theorem y_andNot2 (hx : ev σ x = some (.int .i64 a)) (hy : ev σ y = some (.int .i64 2)) (ha : 0 ≤ a ∧ a ≤ 4095 := by omega) : YE P σ (.binOp .andNot t x y t') ty w (.int .i64 (a - andI a 2)) := by
  have h2 := and_not2 a.toNat (by omega)
  have hle := Nat.and_le_left (n := a.toNat) (m := 2)
  have e0 : BitVec.ofInt 64 a = BitVec.ofNat 64 a.toNat := by apply BitVec.eq_of_toNat_eq; rw [bits_of ha.1 (by omega)]; simp; omega
  have hw : IntKind.i64.wrap ((BitVec.ofInt 64 a &&& ~~~ BitVec.ofInt 64 2).toNat : Int) = a - andI a 2 := by
    have e2 : BitVec.ofInt 64 2 = 2#64 := by decide
    rw [e0, e2, h2]
    have e3 : ((a.toNat - (a.toNat &&& 2) : Nat) : Int) = a - andI a 2 := by unfold andI; simp only [show (2 : Int).toNat = 2 from rfl]; omega
    rw [e3]
    have : 0 ≤ andI a 2 ∧ andI a 2 ≤ a := by unfold andI; simp only [show (2 : Int).toNat = 2 from rfl]; omega
    exact wrap_in ⟨by omega, by omega⟩
  exact ⟨fun w' _ ρ hρ => by
    simp [execOp, hρ _ _ hx, hρ _ _ hy, eqGuard, binOp, Op.intBits]
    first
      | exact ⟨hw, by assumption⟩
      | exact hw
      | (intro; exact hw)
      | skip⟩
theorem y_convu {s' d' : TypeId} [hs : TInt P s' k] [hd : TInt P d' .u64] (hx : ev σ x = some (.int k a)) (h : 0 ≤ a ∧ a ≤ 9223372036854775807 := by omega) : YE P σ (.convert s' d' x) ty w (.int .u64 a) := by
  have := y_conv_wrap (P := P) (w := w) (ty := ty) hx ⟨_, hs.und⟩ hd.und
  have e : IntKind.u64.wrap a = a := by
    simp only [IntKind.wrap, show IntKind.u64.signed = false from rfl, show IntKind.u64.bits = 64 from rfl, Bool.false_eq_true, false_and, Bool.false_and, if_false]
    omega
  rwa [e] at this
end
end Go.Gw

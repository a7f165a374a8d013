/- Rules of my own: a number stored into a slice that is an element of a deck of one's own.  Rules of my own: numbers without a sign, of 64 bits. Rules of my own: shifts and masks of numbers without a sign. -/
import Derived.Test.YtgkljfncpgbngaaDoorL19
namespace Go.Gw
open Go
set_option linter.unusedVariables false
set_option linter.unusedSimpArgs false
section
variable {P : Program} {N : Nat} {Q : Post} {σ : Fm} {w : World} {ops : Array Oper} {rest : List Oper} {T ty : TypeId} {x y : Operand} {v : Value} {lo hi e : Nat} {pos : String} {af : Array Edge} {svs : List SV} {xss : List (List Int)} {a : Int}
theorem bL_sb {α : Type} {E : Enc α} {lo hi : Nat} {xs : List α} (h : SL w lo hi v xs) (h0 : 0 < xs.length) : bL v = sb v ∧ bH v = sb v + 1 := by
  obtain ⟨a, c, hv, _, _, h3⟩ := h.form
  have := h3 h0
  subst this
  rw [hv]
  exact ⟨rfl, rfl⟩
theorem w_store_eld [hT : TScal P T] {i n : Nat} (hx : ev σ x = some (ptr (sb (svD svs i)) (so (svD svs i) + n * 1))) (hy : ev σ y = some (.int .i64 a)) (h : OwnD w e lo hi svs v xss := by assumption) (hi' : i < xss.length := by omega) (hn : n < (xss.getD i []).length := by omega)
    (next : ∀ w', OwnD w' e lo hi svs v (xss.set i ((xss.getD i []).set n a)) → Chg lo hi w w' → w'.heap.size = w.heap.size → W P N ops Q rest σ w') : W P N ops Q (⟨none, .store T x y, ty, pos, af, none⟩ :: rest) σ w := by
  have hel := h.el i hi'
  have hb := bL_sb hel (by omega)
  have hr := (h.plc i hi').rng
  refine w_store_sl (α := Int) (x' := a) hx hy hel rfl hn rfl (fun w' hs hc hz => next w' ?_ (hc.wide (by omega) (by omega)) hz)
  refine h.upd hi' hc hb.1.symm hb.2.symm hs
end
end Go.Gw

namespace Go.Gw
open Go
set_option linter.unusedVariables false
set_option linter.unusedSimpArgs false
section
variable {P : Program} {N : Nat} {σ : Fm} {w : World} {ty t t' : TypeId} {x y : Operand} {a b : Int} {k : IntKind}
theorem wrap_u64 (a : Int) : 0 ≤ IntKind.u64.wrap a ∧ IntKind.u64.wrap a < 18446744073709551616 := by
  simp only [IntKind.wrap, show IntKind.u64.signed = false from rfl, show IntKind.u64.bits = 64 from rfl, Bool.false_eq_true, false_and, Bool.false_and, if_false]
  omega
theorem wrap_in64 {a : Int} (h : 0 ≤ a ∧ a < 18446744073709551616) : IntKind.u64.wrap a = a := by
  simp only [IntKind.wrap, show IntKind.u64.signed = false from rfl, show IntKind.u64.bits = 64 from rfl, Bool.false_eq_true, false_and, Bool.false_and, if_false]
  omega
theorem y_shr40 (hx : ev σ x = some (.int .u64 a)) (hy : ev σ y = some (.int .u64 40)) : YE P σ (.binOp .shr t x y t') ty w (.int .u64 (a / 1099511627776)) := ⟨fun w' _ ρ hρ => by
  have e : min (40 : Int).toNat IntKind.u64.bits = 40 := by decide
  have hf : a.fdiv (2 ^ 40) = a / 1099511627776 := by rw [Int.fdiv_eq_ediv_of_nonneg _ (by decide)]; rfl
  have hn : ¬ (40 : Int) < 0 := by decide
  simp only [execOp, hρ _ _ hx, hρ _ _ hy, eqGuard, binOp, Op.shift, hn, e, if_false, hf]
  rfl⟩
theorem y_and255 (hx : ev σ x = some (.int .u64 a)) (hy : ev σ y = some (.int .u64 255)) (ha : 0 ≤ a ∧ a ≤ 9223372036854775807 := by omega) : YE P σ (.binOp .and t x y t') ty w (.int .u64 (andI a 255)) := by
  have hw : IntKind.u64.wrap ((BitVec.ofInt 64 a &&& BitVec.ofInt 64 255).toNat : Int) = andI a 255 := by
    rw [BitVec.toNat_and, bits_of ha.1 ha.2, bits_of (by decide) (by decide)]
    have := andI_le (a := a) (b := 255) (by decide)
    exact wrap_in64 ⟨by unfold andI at this; omega, by unfold andI at this; omega⟩
  exact ⟨fun w' _ ρ hρ => by
    simp [execOp, hρ _ _ hx, hρ _ _ hy, eqGuard, binOp, Op.intBits]
    first
      | exact ⟨hw, by assumption⟩
      | exact hw
      | (intro; exact hw)
      | skip⟩
end
end Go.Gw

namespace Go.Gw
open Go
set_option linter.unusedVariables false
set_option linter.unusedSimpArgs false
section
variable {P : Program} {N : Nat} {σ : Fm} {w : World} {ty t t' : TypeId} {x y : Operand} {a b : Int} {k : IntKind}
theorem y_shru (hx : ev σ x = some (.int .u64 a)) (hy : ev σ y = some (.int .u64 b)) (n : Nat) (hb : b = n := by rfl) (hn : n ≤ 64 := by decide) : YE P σ (.binOp .shr t x y t') ty w (.int .u64 (a / 2 ^ n)) := ⟨fun w' _ ρ hρ => by
  subst hb
  have e : min (n : Int).toNat IntKind.u64.bits = n := by
    have : IntKind.u64.bits = 64 := by decide
    omega
  have hf : a.fdiv (2 ^ n) = a / 2 ^ n := by rw [Int.fdiv_eq_ediv_of_nonneg _ (Int.pow_nonneg (by decide))]
  have hn0 : ¬ (n : Int) < 0 := by omega
  simp only [execOp, hρ _ _ hx, hρ _ _ hy, eqGuard, binOp, Op.shift, hn0, e, if_false, hf]
  rfl⟩
theorem y_shri (hx : ev σ x = some (.int .i64 a)) (hy : ev σ y = some (.int k b)) (n : Nat) (hb : b = n := by rfl) (hn : n ≤ 64 := by omega) : YE P σ (.binOp .shr t x y t') ty w (.int .i64 (a / 2 ^ n)) := ⟨fun w' _ ρ hρ => by
  subst hb
  have e : min (n : Int).toNat IntKind.i64.bits = n := by
    have : IntKind.i64.bits = 64 := by decide
    omega
  have hf : a.fdiv (2 ^ n) = a / 2 ^ n := by rw [Int.fdiv_eq_ediv_of_nonneg _ (Int.pow_nonneg (by decide))]
  have hn0 : ¬ (n : Int) < 0 := by omega
  simp only [execOp, hρ _ _ hx, hρ _ _ hy, eqGuard, binOp, Op.shift, hn0, e, if_false, hf]
  rfl⟩
theorem y_andu (hx : ev σ x = some (.int .u64 a)) (hy : ev σ y = some (.int .u64 b)) (ha : 0 ≤ a ∧ a ≤ 9223372036854775807 := by omega) (hb : 0 ≤ b ∧ b ≤ 9223372036854775807 := by decide) : YE P σ (.binOp .and t x y t') ty w (.int .u64 (andI a b)) := by
  have hw : IntKind.u64.wrap ((BitVec.ofInt 64 a &&& BitVec.ofInt 64 b).toNat : Int) = andI a b := by
    rw [BitVec.toNat_and, bits_of ha.1 ha.2, bits_of hb.1 hb.2]
    have := andI_le (a := a) (b := b) hb.1
    exact wrap_in64 ⟨by unfold andI at this; omega, by unfold andI at this; omega⟩
  exact ⟨fun w' _ ρ hρ => by
    simp [execOp, hρ _ _ hx, hρ _ _ hy, eqGuard, binOp, Op.intBits]
    first
      | exact ⟨hw, by assumption⟩
      | exact hw
      | (intro; exact hw)
      | skip⟩
end
end Go.Gw

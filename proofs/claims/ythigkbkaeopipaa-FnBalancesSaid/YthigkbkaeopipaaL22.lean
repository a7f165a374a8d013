/- Rules of my own: shifts and masks of numbers without a sign. -/
import Derived.Test.YthigkbkaeopipaaL21
namespace Go.Gw
open Go
set_option linter.unusedVariables false
set_option linter.unusedSimpArgs false
section
variable {P : Program} {N : Nat} {σ : Fm} {w : World} {ty t t' : TypeId} {x y : Operand} {a b : Int} {k : IntKind}
theorem y_shru (hx : ev σ x = some (.int .u64 a)) (hy : ev σ y = some (.int .u64 b)) (n : Nat) (hb : b = n := by rfl) (hn : n ≤ 64 := by decide) : YE P σ (.binOp .shr t x y t') ty w (.int .u64 (a / 2 ^ n)) := ⟨fun w' _ ρ hρ => by
  subst hb
  have e : min (n : Int).toNat IntKind.u64.bits = n := by
    have : IntKind.u64.bits = 64 := by decide
    omega
  have hf : a.fdiv (2 ^ n) = a / 2 ^ n := by rw [Int.fdiv_eq_ediv_of_nonneg _ (Int.pow_nonneg (by decide))]
  have hn0 : ¬ (n : Int) < 0 := by omega
  simp only [execOp, hρ _ _ hx, hρ _ _ hy, eqGuard, binOp, Op.shift, hn0, e, if_false, hf]
  rfl⟩
theorem y_shri (hx : ev σ x = some (.int .i64 a)) (hy : ev σ y = some (.int k b)) (n : Nat) (hb : b = n := by rfl) (hn : n ≤ 64 := by omega) : YE P σ (.binOp .shr t x y t') ty w (.int .i64 (a / 2 ^ n)) := ⟨fun w' _ ρ hρ => by
  subst hb
  have e : min (n : Int).toNat IntKind.i64.bits = n := by
    have : IntKind.i64.bits = 64 := by decide
    omega
  have hf : a.fdiv (2 ^ n) = a / 2 ^ n := by rw [Int.fdiv_eq_ediv_of_nonneg _ (Int.pow_nonneg (by decide))]
  have hn0 : ¬ (n : Int) < 0 := by omega
  simp only [execOp, hρ _ _ hx, hρ _ _ hy, eqGuard, binOp, Op.shift, hn0, e, if_false, hf]
  rfl⟩
theorem y_andu (hx : ev σ x = some (.int .u64 a)) (hy : ev σ y = some (.int .u64 b)) (ha : 0 ≤ a ∧ a ≤ 9223372036854775807 := by omega) (hb : 0 ≤ b ∧ b ≤ 9223372036854775807 := by decide) : YE P σ (.binOp .and t x y t') ty w (.int .u64 (andI a b)) := by
  have hw : IntKind.u64.wrap ((BitVec.ofInt 64 a &&& BitVec.ofInt 64 b).toNat : Int) = andI a b := by
    rw [BitVec.toNat_and, bits_of ha.1 ha.2, bits_of hb.1 hb.2]
    have := andI_le (a := a) (b := b) hb.1
    exact wrap_in64 ⟨by unfold andI at this; omega, by unfold andI at this; omega⟩
  exact ⟨fun w' _ ρ hρ => by
    simp [execOp, hρ _ _ hx, hρ _ _ hy, eqGuard, binOp, Op.intBits]
    first
      | exact ⟨hw, by assumption⟩
      | exact hw
      | (intro; exact hw)
      | skip⟩
end
end Go.Gw

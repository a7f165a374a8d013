/- Rules of my own: numbers without a sign, of 64 bits. -/
import Derived.Test.YtgkljfncpgbngaaDoorL20
namespace Go.Gw
open Go
set_option linter.unusedVariables false
set_option linter.unusedSimpArgs false
section
variable {P : Program} {N : Nat} {σ : Fm} {w : World} {ty t t' : TypeId} {x y : Operand} {a b : Int} {k : IntKind}
theorem wrap_u64 (a : Int) : 0 ≤ IntKind.u64.wrap a ∧ IntKind.u64.wrap a < 18446744073709551616 := by
  simp only [IntKind.wrap, show IntKind.u64.signed = false from rfl, show IntKind.u64.bits = 64 from rfl, Bool.false_eq_true, false_and, Bool.false_and, if_false]
  omega
theorem wrap_in64 {a : Int} (h : 0 ≤ a ∧ a < 18446744073709551616) : IntKind.u64.wrap a = a := by
  simp only [IntKind.wrap, show IntKind.u64.signed = false from rfl, show IntKind.u64.bits = 64 from rfl, Bool.false_eq_true, false_and, Bool.false_and, if_false]
  omega
theorem y_shr40 (hx : ev σ x = some (.int .u64 a)) (hy : ev σ y = some (.int .u64 40)) : YE P σ (.binOp .shr t x y t') ty w (.int .u64 (a / 1099511627776)) := ⟨fun w' _ ρ hρ => by
  have e : min (40 : Int).toNat IntKind.u64.bits = 40 := by decide
  have hf : a.fdiv (2 ^ 40) = a / 1099511627776 := by rw [Int.fdiv_eq_ediv_of_nonneg _ (by decide)]; rfl
  have hn : ¬ (40 : Int) < 0 := by decide
  simp only [execOp, hρ _ _ hx, hρ _ _ hy, eqGuard, binOp, Op.shift, hn, e, if_false, hf]
  rfl⟩
theorem y_and255 (hx : ev σ x = some (.int .u64 a)) (hy : ev σ y = some (.int .u64 255)) (ha : 0 ≤ a ∧ a ≤ 9223372036854775807 := by omega) : YE P σ (.binOp .and t x y t') ty w (.int .u64 (andI a 255)) := by
  have hw : IntKind.u64.wrap ((BitVec.ofInt 64 a &&& BitVec.ofInt 64 255).toNat : Int) = andI a 255 := by
    rw [BitVec.toNat_and, bits_of ha.1 ha.2, bits_of (by decide) (by decide)]
    have := andI_le (a := a) (b := 255) (by decide)
    exact wrap_in64 ⟨by unfold andI at this; omega, by unfold andI at this; omega⟩
  exact ⟨fun w' _ ρ hρ => by
    simp [execOp, hρ _ _ hx, hρ _ _ hy, eqGuard, binOp, Op.intBits]
    first
      | exact ⟨hw, by assumption⟩
      | exact hw
      | (intro; exact hw)
      | skip⟩
end
end Go.Gw

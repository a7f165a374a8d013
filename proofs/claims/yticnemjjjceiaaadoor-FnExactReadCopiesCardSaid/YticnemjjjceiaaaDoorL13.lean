/- Numbers whose bits are taken together. -/
import Derived.Test.YticnemjjjceiaaaDoorL12
namespace Go.Gw
open Go
set_option linter.unusedVariables false
set_option linter.unusedSimpArgs false
/-- two numbers' bits taken together (both at least 0) -/
def orI (a b : Int) : Int := ((a.toNat ||| b.toNat : Nat) : Int)
theorem orI_lt {a b : Int} {k : Nat} (ha : a < 2 ^ k) (hb : b < 2 ^ k) : 0 ≤ orI a b ∧ orI a b < 2 ^ k := by
  have h : ∀ x : Int, x < 2 ^ k → x.toNat < 2 ^ k := fun x hx => by
    have : (0 : Nat) < 2 ^ k := Nat.pow_pos (by decide)
    have e : ((2 ^ k : Nat) : Int) = 2 ^ k := by push_cast; rfl
    omega
  have h1 := Nat.or_lt_two_pow (h a ha) (h b hb)
  have e : ((2 ^ k : Nat) : Int) = 2 ^ k := by push_cast; rfl
  unfold orI
  omega
theorem orI_12 {a b : Int} (ha : a ≤ 4095) (hb : b ≤ 4095) : 0 ≤ orI a b ∧ orI a b ≤ 4095 := by
  have := orI_lt (a := a) (b := b) (k := 12) (by omega) (by omega)
  omega
section
variable {P : Program} {N : Nat} {σ : Fm} {w : World} {ty t t' : TypeId} {x y : Operand} {a b : Int}
theorem bits_of {a : Int} (h0 : 0 ≤ a) (h : a ≤ 9223372036854775807) : (BitVec.ofInt 64 a).toNat = a.toNat := by
  rw [BitVec.toNat_ofInt]
  omega
theorem y_or (hx : ev σ x = some (.int .i64 a)) (hy : ev σ y = some (.int .i64 b)) (ha : 0 ≤ a ∧ a ≤ 9223372036854775807 := by exact ⟨by omega, by omega⟩) (hb : 0 ≤ b ∧ b ≤ 9223372036854775807 := by exact ⟨by omega, by omega⟩) : YE P σ (.binOp .or t x y t') ty w (.int .i64 (orI a b)) := by
  have hw : IntKind.i64.wrap ((BitVec.ofInt 64 a ||| BitVec.ofInt 64 b).toNat : Int) = orI a b := by
    rw [BitVec.toNat_or, bits_of ha.1 ha.2, bits_of hb.1 hb.2]
    have := orI_lt (a := a) (b := b) (k := 63) (by omega) (by omega)
    exact wrap_in ⟨by unfold orI at this; omega, by unfold orI at this; omega⟩
  exact ⟨fun w' _ ρ hρ => by
    simp [execOp, hρ _ _ hx, hρ _ _ hy, eqGuard, binOp, Op.intBits]
    first
      | exact ⟨hw, by assumption⟩
      | exact hw
      | (intro; exact hw)
      | skip⟩
end
end Go.Gw

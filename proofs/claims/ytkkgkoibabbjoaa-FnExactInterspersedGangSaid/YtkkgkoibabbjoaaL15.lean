/- Division that cuts towards 0; bits. -/
import Derived.Test.YtkkgkoibabbjoaaL14
namespace Go.Gw
open Go
set_option linter.unusedVariables false
set_option linter.unusedSimpArgs false
section
variable {P : Program} {N : Nat} {σ : Fm} {w : World} {ty t t' : TypeId} {x y : Operand} {a b : Int}
theorem tdiv_in {a b : Int} (h : In64 a) (h2 : 1 < b) : In64 (a.tdiv b) := by
  have h1 := Int.natAbs_tdiv_le_natAbs a b
  rcases Int.lt_or_le a 0 with ha | ha
  · have : a.tdiv b ≤ 0 := by
      have := Int.tdiv_nonneg (a := -a) (b := b) (by omega) (by omega)
      rw [Int.neg_tdiv] at this; omega
    unfold In64 at *; omega
  · have := Int.tdiv_nonneg (a := a) (b := b) ha (by omega)
    unfold In64 at *; omega
theorem y_quot (hx : ev σ x = some (.int .i64 a)) (hy : ev σ y = some (.int .i64 b)) (hb : b ≠ 0 := by omega) (h : In64 (a.tdiv b) := by first | assumption | exact tdiv_in (by assumption) (by omega) | exact tdiv_in ⟨by omega, by omega⟩ (by omega)) : YE P σ (.binOp .quo t x y t') ty w (.int .i64 (a.tdiv b)) := by
  have := y_quo_wrap (P := P) (w := w) (ty := ty) (t := t) (t' := t') hx hy hb
  rwa [wrap_in h] at this
theorem y_remt (hx : ev σ x = some (.int .i64 a)) (hy : ev σ y = some (.int .i64 b)) (hb : b ≠ 0 := by omega) : YE P σ (.binOp .rem t x y t') ty w (.int .i64 (a.tmod b)) := y_rem_wrap (P := P) (w := w) (ty := ty) (t := t) (t' := t') hx hy hb
/-- two numbers' common bits (both at least 0) -/
def andI (a b : Int) : Int := ((a.toNat &&& b.toNat : Nat) : Int)
theorem andI_le {a b : Int} (hb : 0 ≤ b) : 0 ≤ andI a b ∧ andI a b ≤ b := by
  have := Nat.and_le_right (n := a.toNat) (m := b.toNat)
  unfold andI; omega
theorem y_and (hx : ev σ x = some (.int .i64 a)) (hy : ev σ y = some (.int .i64 b)) (ha : 0 ≤ a ∧ a ≤ 9223372036854775807 := by exact ⟨by omega, by omega⟩) (hb : 0 ≤ b ∧ b ≤ 9223372036854775807 := by exact ⟨by omega, by omega⟩) : YE P σ (.binOp .and t x y t') ty w (.int .i64 (andI a b)) := by
  have hw : IntKind.i64.wrap ((BitVec.ofInt 64 a &&& BitVec.ofInt 64 b).toNat : Int) = andI a b := by
    rw [BitVec.toNat_and, bits_of ha.1 ha.2, bits_of hb.1 hb.2]
    have := andI_le (a := a) hb.1
    exact wrap_in ⟨by unfold andI at this; omega, by unfold andI at this; omega⟩
  exact ⟨fun w' _ ρ hρ => by
    simp [execOp, hρ _ _ hx, hρ _ _ hy, eqGuard, binOp, Op.intBits]
    first
      | exact ⟨hw, by assumption⟩
      | exact hw
      | (intro; exact hw)
      | skip⟩
end
end Go.Gw

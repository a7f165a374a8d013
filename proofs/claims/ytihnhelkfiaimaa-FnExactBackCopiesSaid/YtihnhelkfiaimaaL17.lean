/- Rules of my own: bytes taken from bytes. -/
import Derived.Test.YtihnhelkfiaimaaL16
import Derived.Test.YtihnhelkfiaimaaL13
namespace Go.Gw
open Go
set_option linter.unusedVariables false
set_option linter.unusedSimpArgs false
section
variable {P : Program} {N : Nat} {σ : Fm} {w : World} {ty t t' : TypeId} {x y : Operand} {a b : Int}
theorem wrap_u8 {a : Int} (h : 0 ≤ a ∧ a < 256) : IntKind.u8.wrap a = a := by
  simp only [IntKind.wrap, show IntKind.u8.signed = false from rfl, show IntKind.u8.bits = 8 from rfl, Bool.false_eq_true, false_and, Bool.false_and, if_false]
  omega
theorem y_sub8 (hx : ev σ x = some (.int .u8 a)) (hy : ev σ y = some (.int .u8 b)) (h : 0 ≤ a - b ∧ a - b < 256 := by omega) : YE P σ (.binOp .sub t x y t') ty w (.int .u8 (a - b)) := by
  have := y_sub_wrap (P := P) (w := w) (ty := ty) (t := t) (t' := t') hx hy
  rwa [wrap_u8 h] at this
end
end Go.Gw

/- Contracts: a test on the elements of a slice of pairs. -/
import Derived.Test.YtihnhelkfiaimaaLawB
namespace Go.Proofs.Ytihnhelkfiaimaa
open Go Go.Gw
set_option linter.unusedVariables false
set_option linter.unusedSimpArgs false
section
variable {w : World} {lo hi : Nat} {v : Value} {xs : List (Int × Int)}
def idxQ (p : Int × Int → Bool) : List (Int × Int) → Int → Int
  | [], _ => -1
  | x :: r, i => if p x then i else idxQ p r (i + 1)
theorem idxQ_any (p : Int × Int → Bool) : ∀ (xs : List (Int × Int)) (i : Int), 0 ≤ i → (decide (0 ≤ idxQ p xs i) = xs.any p)
  | [], i, h => by simp [idxQ]
  | x :: r, i, h => by
    cases hp : p x
    · simp [idxQ, hp, idxQ_any p r (i + 1) (by omega)]
    · simp [idxQ, hp, h]
theorem idxQ_drop (p : Int × Int → Bool) (xs : List (Int × Int)) (i : Nat) (h : i < xs.length) : idxQ p (xs.drop i) i = if p (xs.getD i (0, 0)) then (i : Int) else idxQ p (xs.drop (i + 1)) (i + 1) := by
  rw [List.drop_eq_getElem_cons h, idxQ, List.getD_eq_getElem?_getD, List.getElem?_eq_getElem h]; rfl
end
end Go.Proofs.Ytihnhelkfiaimaa

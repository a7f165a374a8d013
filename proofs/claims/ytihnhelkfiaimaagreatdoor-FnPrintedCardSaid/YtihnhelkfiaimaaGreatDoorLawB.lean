/- The laws' helpers: slices of pairs of numbers, boards. -/
import Derived.Test.YtihnhelkfiaimaaGreatDoorLawA
namespace Go.Proofs.YtihnhelkfiaimaaGreatDoor
open Go Go.Gw
set_option linter.unusedVariables false
set_option linter.unusedSimpArgs false
theorem listP_ext {xs ys : List (Int × Int)} (hl : xs.length = ys.length) (h : ∀ j : Nat, j < xs.length → xs.getD j (0, 0) = ys.getD j (0, 0)) : xs = ys := by
  apply List.ext_getElem hl
  intro i h1 h2
  have := h i h1
  rw [List.getD_eq_getElem?_getD, List.getD_eq_getElem?_getD, List.getElem?_eq_getElem h1, List.getElem?_eq_getElem h2] at this
  exact this
def marksP (k : Int) (n : Nat) : List (Int × Int) := (List.range n).map fun i => (k + 2 * (i : Nat), k + 2 * (i : Nat) + 1)
theorem marksP_len (k : Int) (n : Nat) : (marksP k n).length = n := by simp [marksP]
theorem marksP_get (k : Int) (n i : Nat) (h : i < n) : (marksP k n)[i]? = some (k + 2 * i, k + 2 * i + 1) := by simp [marksP, h]
theorem marksP_getD (k : Int) (n i : Nat) (h : i < n) : (marksP k n).getD i (0, 0) = (k + 2 * i, k + 2 * i + 1) := by simp [List.getD_eq_getElem?_getD, marksP_get k n i h]
section
variable {w : World} {lo hi lo' hi' : Nat} {v v' : Value} {xs ys : List (Int × Int)}
variable {e n j e' n' j' : Int}
end
end Go.Proofs.YtihnhelkfiaimaaGreatDoor

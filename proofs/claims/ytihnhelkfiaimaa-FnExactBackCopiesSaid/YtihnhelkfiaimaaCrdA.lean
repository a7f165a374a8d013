/- Contracts: cards. -/
import Derived.Test.YtihnhelkfiaimaaCntC
import Derived.Test.YtihnhelkfiaimaaLawA
import Derived.Test.YtihnhelkfiaimaaL15
namespace Go.Proofs.Ytihnhelkfiaimaa
open Go Go.Gw
set_option linter.unusedVariables false
set_option linter.unusedSimpArgs false
section
variable {w : World} {lo hi lo' hi' : Nat} {v v' v2 : Value} {xs ys : List Int} {ws us : List (Int × Int)} {b b' b2 b3 : Nat} {e n j : Int}
/-- a card that is valid -/
def okK (xs : List Int) : Bool := decide (1 ≤ xs.length ∧ xs.length ≤ 20) && !xs.any fun d => !decide (0 ≤ d ∧ d ≤ 4095)
theorem okK_len {xs : List Int} (h : okK xs = true) : 1 ≤ xs.length ∧ xs.length ≤ 20 := by simp [okK] at h; exact h.1
theorem okK_dig {xs : List Int} (h : okK xs = true) : ∀ d ∈ xs, 0 ≤ d ∧ d ≤ 4095 := by simp [okK] at h; exact h.2
theorem okK_getD {xs : List Int} (h : okK xs = true) (i : Nat) (hi : i < xs.length) : 0 ≤ xs.getD i 0 ∧ xs.getD i 0 ≤ 4095 := by
  rw [List.getD_eq_getElem?_getD, List.getElem?_eq_getElem hi]
  exact okK_dig h _ (List.getElem_mem hi)

end
end Go.Proofs.Ytihnhelkfiaimaa

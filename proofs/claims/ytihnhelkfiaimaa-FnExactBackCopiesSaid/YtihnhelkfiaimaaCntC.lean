/- Contracts: equality of counters, whether a counter is valid. -/
import Derived.Test.YtihnhelkfiaimaaCntB
namespace Go.Proofs.Ytihnhelkfiaimaa
open Go Go.Gw
set_option linter.unusedVariables false
set_option linter.unusedSimpArgs false

section
variable {w : World} {lo hi lo' hi' : Nat} {v v' : Value} {xs ys : List Int} {b : Nat}

/-- a counter that is valid -/
def okC (xs : List Int) : Bool := decide (1 ≤ xs.length ∧ xs.length ≤ 12) && !xs.any fun d => !decide (0 ≤ d ∧ d ≤ 9)
theorem okC_len {xs : List Int} (h : okC xs = true) : 1 ≤ xs.length ∧ xs.length ≤ 12 := by simp [okC] at h; exact h.1
theorem okC_dig {xs : List Int} (h : okC xs = true) : ∀ d ∈ xs, 0 ≤ d ∧ d ≤ 9 := by simp [okC] at h; exact h.2
theorem okC_getD {xs : List Int} (h : okC xs = true) (i : Nat) (hi : i < xs.length) : 0 ≤ xs.getD i 0 ∧ xs.getD i 0 ≤ 9 := by
  rw [List.getD_eq_getElem?_getD, List.getElem?_eq_getElem hi]
  exact okC_dig h _ (List.getElem_mem hi)

end
end Go.Proofs.Ytihnhelkfiaimaa

/- Contracts: the number that a counter shows; its text. -/
import Derived.Test.YtcpglpegjdpliaaDoorCnt
namespace Go.Proofs.YtcpglpegjdpliaaDoor
open Go Go.Gw
set_option linter.unusedVariables false
set_option linter.unusedSimpArgs false

/-- the number of digits, the lowest first -/
def valD : List Int → Int
  | [] => 0
  | d :: r => d + 10 * valD r
theorem valD_drop {xs : List Int} {i : Nat} (h : i < xs.length) : valD (xs.drop i) = xs.getD i 0 + 10 * valD (xs.drop (i + 1)) := by
  rw [List.drop_eq_getElem_cons h, valD, List.getD_eq_getElem?_getD, List.getElem?_eq_getElem h]; rfl
theorem valD_bd : ∀ {xs : List Int}, (∀ d ∈ xs, 0 ≤ d ∧ d ≤ 9) → 0 ≤ valD xs ∧ valD xs < 10 ^ xs.length
  | [], _ => by simp [valD]
  | d :: r, h => by
    have h1 := valD_bd (xs := r) (fun d hd => h d (by simp [hd]))
    have h2 := h d (by simp)
    rw [valD, List.length_cons, Int.pow_succ]
    omega
theorem valD_drop_bd {xs : List Int} (h : okC xs = true) (i : Nat) : 0 ≤ valD (xs.drop i) ∧ valD (xs.drop i) < 1000000000000 := by
  have h1 := valD_bd (xs := xs.drop i) (fun d hd => okC_dig h d (List.mem_of_mem_drop hd))
  have h2 := okC_len h
  have h3 : (10 : Int) ^ (xs.drop i).length ≤ 10 ^ 12 := pow10_le (by simp; omega)
  have h4 : (10 : Int) ^ 12 = 1000000000000 := by decide
  omega
section
variable {w : World} {v : Value} {xs : List Int} {lo hi b : Nat}
end
end Go.Proofs.YtcpglpegjdpliaaDoor

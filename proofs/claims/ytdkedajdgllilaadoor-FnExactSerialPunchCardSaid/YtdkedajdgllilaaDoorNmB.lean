/- Contracts: the number in a field. -/
import Derived.Test.YtdkedajdgllilaaDoorNmA
namespace Go.Proofs.YtdkedajdgllilaaDoor
open Go Go.Gw
set_option linter.unusedVariables false
set_option linter.unusedSimpArgs false
/-- the columns of a field -/
abbrev prt (xs : List Int) (f t : Int) : List Int := (xs.take t.toNat).drop f.toNat
theorem prt_len {xs : List Int} {f t : Int} (h : 0 ≤ f ∧ f < t ∧ t ≤ xs.length) : ((prt xs f t).length : Int) = t - f := by
  simp only [prt, List.length_drop, List.length_take]; omega
theorem prt_get {xs : List Int} {f t : Int} (h : 0 ≤ f ∧ f < t ∧ t ≤ xs.length) {i : Nat} (hi : i < (prt xs f t).length) : (prt xs f t).getD i 0 = xs.getD (f.toNat + i) 0 := by
  have := prt_len h
  rw [List.getD_eq_getElem?_getD, List.getElem?_drop, List.getElem?_take_of_lt (by omega), List.getD_eq_getElem?_getD]
theorem prt_ok {xs : List Int} {f t : Int} (h : 0 ≤ f ∧ f < t ∧ t ≤ xs.length) (hk : okK xs = true) : ∀ i, i < (prt xs f t).length → 0 ≤ (prt xs f t).getD i 0 ∧ (prt xs f t).getD i 0 ≤ 4095 := fun i hi => by
  have := prt_len h
  rw [prt_get h hi]; exact okK_getD hk _ (by omega)
theorem numR_no {L n : Int} {b : Bool} (h : b = false ∨ L - andI L 2 = 0 ∨ (¬ andI L 2 = 0 ∧ n = 0)) : numR (some (n, b)) L = (0, false) := by
  simp only [numR, if_pos h]
theorem numR_neg {L n : Int} {b : Bool} (h : b = true) (h1 : ¬ L - andI L 2 = 0) (h2 : ¬ andI L 2 = 0) (h3 : ¬ n = 0) : numR (some (n, b)) L = (-n, true) := by
  subst h
  simp only [numR]
  rw [if_neg, if_pos h2]
  rintro (h | h | h)
  · cases h
  · exact h1 h
  · exact h3 h.2
theorem numR_pos {L n : Int} {b : Bool} (h : b = true) (h1 : ¬ L - andI L 2 = 0) (h2 : andI L 2 = 0) : numR (some (n, b)) L = (n, true) := by
  subst h
  simp only [numR]
  rw [if_neg, if_neg (fun h => h h2)]
  rintro (h | h | h)
  · cases h
  · exact h1 h
  · exact h.1 h2
theorem numE_1 {L n : Int} {b : Bool} (h : andI L 2 = 0) (h0 : L = 0) (hb : b = false) : numE L n b = numZ n false := by rw [numE, if_pos h, if_pos ⟨h0, hb⟩]; rfl
theorem numE_2 {L n : Int} {b : Bool} (h : andI L 2 = 0) (h0 : ¬ (L = 0 ∧ b = false)) (h1 : digFrom L 0 < 0) : numE L n b = (0, false) := by rw [numE, if_pos h, if_neg h0, if_pos h1]
theorem numE_3 {L n : Int} {b : Bool} (h : andI L 2 = 0) (h0 : ¬ (L = 0 ∧ b = false)) (h1 : ¬ digFrom L 0 < 0) : numE L n b = numZ (10 * n + digFrom L 0) false := by rw [numE, if_pos h, if_neg h0, if_neg h1]; rfl
theorem numE_4 {L n : Int} {b : Bool} (h : ¬ andI L 2 = 0) (h1 : digFrom (L - 2) 0 < 0) : numE L n b = (0, false) := by rw [numE, if_neg h, if_pos h1]
theorem numE_5 {L n : Int} {b : Bool} (h : ¬ andI L 2 = 0) (h1 : ¬ digFrom (L - 2) 0 < 0) : numE L n b = numZ (10 * n + digFrom (L - 2) 0) true := by
  rw [numE, if_neg h, if_neg h1, numZ, if_pos rfl]
  by_cases h0 : 10 * n + digFrom (L - 2) 0 = 0
  · rw [if_pos h0, h0]; rfl
  · rw [if_neg h0, decide_eq_true h0]
section
variable {w : World} {lo hi : Nat} {v : Value} {xs : List Int} {b o : Nat}
theorem bitOfM_c : Pur Tryd.prog 150 [.int .i64 11] (.int .i64 2) := bitOf_c 11
end
end Go.Proofs.YtdkedajdgllilaaDoor

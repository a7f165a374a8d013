/- Contracts: decks that are valid; how many columns they have; copies of cards. -/
import Derived.Test.YtihnhelkfiaimaaCrdA
import Derived.Test.YtihnhelkfiaimaaDkA
namespace Go.Proofs.Ytihnhelkfiaimaa
open Go Go.Gw
set_option linter.unusedVariables false
set_option linter.unusedSimpArgs false
/-- a card of a deck -/
def okAt (xss : List (List Int)) (i : Nat) : Prop := okK (xss.getD i []) = true ∧ (xss.getD i []).length = (xss.getD 0 []).length
instance (xss : List (List Int)) (i : Nat) : Decidable (okAt xss i) := by unfold okAt; infer_instance
def okD (xss : List (List Int)) : Bool := decide (∀ i, i < xss.length → okAt xss i) && decide (xss.length ≤ 40)
theorem okD_at {xss : List (List Int)} (h : okD xss = true) (i : Nat) (hi : i < xss.length) : okAt xss i := by
  simp only [okD, Bool.and_eq_true, decide_eq_true_eq] at h; exact h.1 i hi
theorem okD_len {xss : List (List Int)} (h : okD xss = true) : xss.length ≤ 40 := by
  simp only [okD, Bool.and_eq_true, decide_eq_true_eq] at h; exact h.2
theorem okD_no {xss : List (List Int)} (i : Nat) (hi : i < xss.length) (h : ¬ okAt xss i) : okD xss = false := by
  cases hk : okD xss
  · rfl
  · exact absurd (okD_at hk i hi) h
theorem okD_yes {xss : List (List Int)} (h : ∀ i, i < xss.length → okAt xss i) : okD xss = decide ((xss.length : Int) ≤ 40) := by
  have e : decide ((xss.length : Int) ≤ 40) = decide (xss.length ≤ 40) := by congr 1; simp; omega
  rw [okD, decide_eq_true h, Bool.true_and, e]
/-- how many columns the cards of a deck have -/
def widD (xss : List (List Int)) : Int := if xss.length = 0 then 20 else (xss.getD 0 []).length
theorem widD_bd {xss : List (List Int)} (h : okD xss = true) : 1 ≤ widD xss ∧ widD xss ≤ 20 := by
  unfold widD; split
  · omega
  · have := okK_len (okD_at h 0 (by omega)).1; omega
theorem widD_at {xss : List (List Int)} (h : okD xss = true) (i : Nat) (hi : i < xss.length) : ((xss.getD i []).length : Int) = widD xss := by
  unfold widD; rw [if_neg (by omega), (okD_at h i hi).2]
section
variable {w : World} {lo hi lo' hi' e : Nat} {v v' : Value} {xs ys : List Int} {xss yss : List (List Int)} {svs sus : List SV} {b o : Nat}
end
end Go.Proofs.Ytihnhelkfiaimaa

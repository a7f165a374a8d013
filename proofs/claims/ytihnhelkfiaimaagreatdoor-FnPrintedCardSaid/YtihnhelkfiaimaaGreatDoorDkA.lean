/- Contracts of the laws' helpers on decks: slices of slices of numbers. -/
import Derived.Test.YtihnhelkfiaimaaGreatDoorLawA
import Derived.Test.YtihnhelkfiaimaaGreatDoorL14
namespace Go.Proofs.YtihnhelkfiaimaaGreatDoor
open Go Go.Gw
set_option linter.unusedVariables false
set_option linter.unusedSimpArgs false

/-- how many numbers stand in the first i slices -/
def tot (xss : List (List Int)) (i : Nat) : Nat := ((xss.take i).map List.length).sum
def totD (xss : List (List Int)) : Nat := tot xss xss.length
theorem tot_zero (xss : List (List Int)) : tot xss 0 = 0 := rfl
theorem tot_succ {xss : List (List Int)} {i : Nat} (h : i < xss.length) : tot xss (i + 1) = tot xss i + (xss.getD i []).length := by
  unfold tot
  rw [List.take_add_one, List.getD_eq_getElem?_getD, List.getElem?_eq_getElem h]
  rw [List.map_append, List.sum_append]
  simp
theorem tot_mono (xss : List (List Int)) (i : Nat) : ∀ j, tot xss i ≤ tot xss (i + j)
  | 0 => Nat.le_refl _
  | j + 1 => by
    have h1 := tot_mono xss i j
    by_cases h : i + j < xss.length
    · have := tot_succ h
      rw [← Nat.add_assoc]; omega
    · have : tot xss (i + (j + 1)) = tot xss (i + j) := by unfold tot; rw [List.take_of_length_le (by omega), List.take_of_length_le (by omega)]
      omega
theorem tot_le {xss : List (List Int)} {i : Nat} (h : i ≤ xss.length) : tot xss i ≤ totD xss := by
  have := tot_mono xss i (xss.length - i)
  rwa [show i + (xss.length - i) = xss.length by omega] at this
theorem tot_el {xss : List (List Int)} {i : Nat} (h : i < xss.length) : tot xss i + (xss.getD i []).length ≤ totD xss := by
  rw [← tot_succ h]; exact tot_le h
theorem tot_all (xss : List (List Int)) : tot xss xss.length = totD xss := rfl
theorem tot_cons (x : List Int) (r : List (List Int)) (i : Nat) : tot (x :: r) (i + 1) = x.length + tot r i := by simp [tot]
def marksD (k : Int) : List (List Int) → List (List Int)
  | [] => []
  | x :: r => marks k x.length :: marksD (k + x.length) r
theorem marksD_len (k : Int) (xss : List (List Int)) : (marksD k xss).length = xss.length := by
  induction xss generalizing k with
  | nil => rfl
  | cons x r ih => simp [marksD, ih]
theorem marksD_get (k : Int) (xss : List (List Int)) (i : Nat) (h : i < xss.length) : (marksD k xss)[i]? = some (marks (k + tot xss i) (xss.getD i []).length) := by
  induction xss generalizing k i with
  | nil => simp at h
  | cons x r ih =>
    cases i with
    | zero => simp [marksD, tot_zero]
    | succ i =>
      have := ih (k + x.length) i (by simpa using h)
      simp only [marksD, List.getElem?_cons_succ, this, tot_cons]
      simp [Int.add_assoc]
theorem marksD_getD (k : Int) (xss : List (List Int)) (i : Nat) (h : i < xss.length) : (marksD k xss).getD i [] = marks (k + tot xss i) (xss.getD i []).length := by
  rw [List.getD_eq_getElem?_getD, marksD_get k xss i h]; rfl
theorem mix_getD {α : Type} {f xs : List α} {i : Nat} {d : α} (hl : f.length = xs.length) (hi : i < xs.length) : (f.take i ++ xs.drop i).getD i d = xs.getD i d := by
  have h1 : (f.take i).length = i := by rw [List.length_take]; omega
  rw [List.getD_eq_getElem?_getD, List.getElem?_append_right (by omega), h1, Nat.sub_self, List.getElem?_drop, Nat.add_zero, List.getD_eq_getElem?_getD]
theorem mix_len {α : Type} {f xs : List α} {i : Nat} (hl : f.length = xs.length) : (f.take i ++ xs.drop i).length = xs.length := by simp; omega
theorem mix_all {α : Type} {f xs : List α} {i : Nat} (hl : f.length = xs.length) (hi : i = xs.length) : f.take i ++ xs.drop i = f := by
  rw [List.take_of_length_le (by omega), List.drop_eq_nil_of_le (by omega), List.append_nil]
theorem listD_ext {α : Type} {d : α} {xs ys : List α} (hl : xs.length = ys.length) (h : ∀ j : Nat, j < xs.length → xs.getD j d = ys.getD j d) : xs = ys := by
  apply List.ext_getElem hl
  intro i h1 h2
  have := h i h1
  rw [List.getD_eq_getElem?_getD, List.getD_eq_getElem?_getD, List.getElem?_eq_getElem h1, List.getElem?_eq_getElem h2] at this
  exact this
section
variable {w : World} {lo hi lo' hi' e : Nat} {v v' : Value} {xs ys : List Int} {xss yss : List (List Int)} {svs sus : List SV}
end
end Go.Proofs.YtihnhelkfiaimaaGreatDoor

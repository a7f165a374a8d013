/- Contracts of the laws' helpers on slices of numbers: sizes, copies, equality, marks. -/
import Derived.Test.YticnemjjjceiaaaDoorNum
namespace Go.Proofs.YticnemjjjceiaaaDoor
open Go Go.Gw
set_option linter.unusedVariables false
set_option linter.unusedSimpArgs false

theorem upd_step {α : Type} {f xs : List α} {i : Nat} (hl : f.length = xs.length) (hi : i < xs.length) {y : α} (hy : f[i]? = some y) :
    (f.take i ++ xs.drop i).set i y = f.take (i + 1) ++ xs.drop (i + 1) := by
  have h1 : (f.take i).length = i := by rw [List.length_take]; omega
  rw [List.set_append_right _ _ (by omega), h1, Nat.sub_self]
  rw [List.drop_eq_getElem_cons hi, List.set_cons_zero, List.take_add_one, hy]
  simp
def marks (k : Int) (n : Nat) : List Int := (List.range n).map fun i => k + (i : Nat)
theorem marks_len (k : Int) (n : Nat) : (marks k n).length = n := by simp [marks]
theorem marks_get (k : Int) (n i : Nat) (h : i < n) : (marks k n)[i]? = some (k + i) := by simp [marks, h]
theorem marks_getD (k : Int) (n i : Nat) (h : i < n) : (marks k n).getD i 0 = k + i := by simp [List.getD_eq_getElem?_getD, marks_get k n i h]

theorem list_ext {xs ys : List Int} (hl : xs.length = ys.length) (h : ∀ j : Nat, j < xs.length → xs.getD j 0 = ys.getD j 0) : xs = ys := by
  apply List.ext_getElem hl
  intro i h1 h2
  have := h i h1
  rw [List.getD_eq_getElem?_getD, List.getD_eq_getElem?_getD, List.getElem?_eq_getElem h1, List.getElem?_eq_getElem h2] at this
  exact this
section
variable {w : World} {lo hi lo' hi' : Nat} {v v' : Value} {xs ys : List Int}

end
end Go.Proofs.YticnemjjjceiaaaDoor

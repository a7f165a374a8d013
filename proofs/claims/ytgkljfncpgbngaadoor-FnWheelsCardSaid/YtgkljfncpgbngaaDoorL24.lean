/- Rules of my own: in a region that draws its order, one of two may come up, wherever they stand. -/
import Derived.Test.YtgkljfncpgbngaaDoorL23
namespace Go.Gw
open Go
set_option linter.unusedVariables false
set_option linter.unusedSimpArgs false
section
variable {P : Program} {N : Nat} {Q : Post} {σ : Fm} {w : World} {ops : Array Oper} {lo hi : Nat}
theorem b_twoQ {wb : World} {i j fuel n : Nat} {o o' : Oper} {q : List (Nat × Oper)} {ls : List Bool} (hi' : ops[i]? = some o) (hj : ops[j]? = some o')
    (k : W P N ops (Exit.then (HB P N ops Q wb fuel i (dropN [i] q) ls) Q) [o] σ w) (k' : W P N ops (Exit.then (HB P N ops Q wb fuel j (dropN [j] q) ls) Q) [o'] σ w)
    (hr : onlyB ops ls [i, j] = true := by decide +kernel) : WB P N ops Q wb (fuel + 1) n q ls σ w :=
  ⟨fun a ha => ⟨fun h0 => absurd h0 (onlyB_ne hr), fun i' hii => by
    rcases (by simpa using onlyB_mem hr hii : i' = i ∨ i' = j) with rfl | rfl
    · rw [set_arr]; exact wpOp_of_list hi' (k.go a ha)
    · rw [set_arr]; exact wpOp_of_list hj (k'.go a ha)⟩⟩
theorem i_twoQ {i j fuel n : Nat} {o o' : Oper} {q : List (Nat × Oper)} {ls : List Bool} (hi' : ops[i]? = some o) (hj : ops[j]? = some o')
    (k : W P N ops (Exit.then (HI P N ops Q lo hi fuel i (dropN [i] q) ls w) Q) [o] σ w) (k' : W P N ops (Exit.then (HI P N ops Q lo hi fuel j (dropN [j] q) ls w) Q) [o'] σ w)
    (hr : onlyB ops ls [i, j] = true := by decide +kernel) : WI P N ops Q lo hi (fuel + 1) n q ls σ w :=
  ⟨fun a ha => ⟨fun h0 => absurd h0 (onlyB_ne hr), fun i' hii => by
    rcases (by simpa using onlyB_mem hr hii : i' = i ∨ i' = j) with rfl | rfl
    · rw [set_arr]; exact wpOp_of_list hi' (k.go a ha)
    · rw [set_arr]; exact wpOp_of_list hj (k'.go a ha)⟩⟩
theorem h_twoQ {i j fuel n : Nat} {o o' : Oper} {q : List (Nat × Oper)} {ls : List Bool} (hi' : ops[i]? = some o) (hj : ops[j]? = some o')
    (k : W P N ops (Exit.then (HK P N ops Q fuel i (dropN [i] q) ls w) Q) [o] σ w) (k' : W P N ops (Exit.then (HK P N ops Q fuel j (dropN [j] q) ls w) Q) [o'] σ w)
    (hr : onlyB ops ls [i, j] = true := by decide +kernel) : WH P N ops Q (fuel + 1) n q ls σ w :=
  ⟨fun a ha => ⟨fun h0 => absurd h0 (onlyB_ne hr), fun i' hii => by
    rcases (by simpa using onlyB_mem hr hii : i' = i ∨ i' = j) with rfl | rfl
    · rw [set_arr]; exact wpOp_of_list hi' (k.go a ha)
    · rw [set_arr]; exact wpOp_of_list hj (k'.go a ha)⟩⟩
end
end Go.Gw

/- Contracts: cards that are copied into, decks that are reproduced. -/
import Derived.Test.YtdkedajdgllilaaDoorCpyA
namespace Go.Proofs.YtdkedajdgllilaaDoor
open Go Go.Gw
set_option linter.unusedVariables false
set_option linter.unusedSimpArgs false
theorem map_take_succ {α β : Type} {d : α} (g : α → β) {xs : List α} {i : Nat} (h : i < xs.length) : (xs.take (i + 1)).map g = (xs.take i).map g ++ [g (xs.getD i d)] := by
  rw [List.take_add_one, List.getD_eq_getElem?_getD, List.getElem?_eq_getElem h, List.map_append]; rfl
theorem map_take_len {α β : Type} (g : α → β) {xs : List α} {i : Nat} (h : i ≤ xs.length) : ((xs.take i).map g).length = i := by simp; omega
/-- a card's columns are in range -/
def Rng (xs : List Int) : Prop := ∀ i, i < xs.length → 0 ≤ xs.getD i 0 ∧ xs.getD i 0 ≤ 4095
theorem rng_of {xs : List Int} (h : okK xs = true) : Rng xs := okK_getD h
theorem rng_zero (k : Nat) : Rng (List.replicate k 0) := fun i hi => by
  simp only [List.length_replicate] at hi
  simp [List.getD_eq_getElem?_getD, List.getElem?_replicate, hi]
section
variable {w : World} {lo hi lo' hi' l2 h2 e b b' o o' : Nat} {v v' v2 d : Value} {xs ys : List Int} {ps : List (Int × Int)} {xss : List (List Int)} {svs : List SV} {f t : Int}
end
end Go.Proofs.YtdkedajdgllilaaDoor

/- The plain law of the fewest cuts: wires that are removed one by one, from behind. -/
import Derived.Test.YthigkbkaeopipaaBoaP
namespace Go.Proofs.Ythigkbkaeopipaa
open Go Go.Gw
set_option linter.unusedVariables false
set_option linter.unusedSimpArgs false
theorem subs_sub : ∀ (l : List Int) (c : List Int) , c.Sublist l → c ∈ subs c.length l := by
  intro l c h
  induction h with
  | slnil => simp [subs]
  | @cons c l x _ ih =>
    cases c with
    | nil => simp [subs_zero]
    | cons y r => rw [List.length_cons] at ih ⊢; rw [subs, List.mem_append]; exact .inr ih
  | @cons_cons c l x _ ih => rw [List.length_cons, subs, List.mem_append, List.mem_map]; exact .inl ⟨_, ih, rfl⟩
theorem sub_subs : ∀ (l : List Int) (n : Nat), ∀ c ∈ subs n l, c.Sublist l
  | l, 0, c, h => by rw [subs_zero] at h; simp at h; subst h; exact List.nil_sublist _
  | [], n + 1, c, h => by simp [subs] at h
  | x :: l, n + 1, c, h => by
    rw [subs, List.mem_append, List.mem_map] at h
    rcases h with ⟨d, hd, rfl⟩ | h
    · exact (sub_subs l n d hd).cons_cons x
    · exact (sub_subs l (n + 1) c h).cons x
theorem keepW_all {ws : List (Int × Int)} {c : List Int} : ∀ i, i ≤ ws.length → (∀ d ∈ c, (i : Int) ≤ d) → keepW ws c i = ws.take i
  | 0, _, _ => by simp [keepW]
  | i + 1, hi, hc => by
    rw [keepW, if_neg (fun h => by have := hc _ h; omega), keepW_all (ws := ws) (c := c) i (by omega) (fun d hd => by have := hc d hd; omega), List.take_add_one, List.getElem?_eq_getElem (by omega), List.getD_eq_getElem?_getD, List.getElem?_eq_getElem (by omega)]
    rfl
theorem keepW_more {ws : List (Int × Int)} {c : List Int} {k : Nat} (hc : ∀ d ∈ c, (k : Int) < d) : ∀ m, k + 1 + m ≤ ws.length → k < (keepW ws c (k + 1 + m)).length ∧ remW (keepW ws c (k + 1 + m)) k = keepW ws ((k : Int) :: c) (k + 1 + m)
  | 0, hm => by
    have e1 : keepW ws c (k + 1) = ws.take (k + 1) := keepW_all _ (by omega) (fun d hd => by have := hc d hd; omega)
    have e2 : keepW ws c k = ws.take k := keepW_all _ (by omega) (fun d hd => by have := hc d hd; omega)
    have e3 : ∀ i, i ≤ k → keepW ws ((k : Int) :: c) i = keepW ws c i := by
      intro i
      induction i with
      | zero => intro _; rfl
      | succ i ih =>
        intro hi
        rw [keepW, keepW, ih (by omega)]
        have : ((i : Int) ∈ (k : Int) :: c) ↔ (i : Int) ∈ c := by rw [List.mem_cons]; exact ⟨fun h => by rcases h with h | h; omega; exact h, .inr⟩
        simp only [this]
    rw [Nat.add_zero, e1]
    refine ⟨by rw [List.length_take]; omega, ?_⟩
    rw [keepW, if_pos List.mem_cons_self, e3 k (Nat.le_refl _), e2, remW, List.take_take, Nat.min_eq_left (by omega), List.drop_eq_nil_of_le (by rw [List.length_take]; omega), List.append_nil]
  | m + 1, hm => by
    have ih := keepW_more (ws := ws) hc m (by omega)
    rw [show k + 1 + (m + 1) = k + 1 + m + 1 by omega, keepW, keepW]
    have hiff : (((k + 1 + m : Nat) : Int) ∈ (k : Int) :: c) ↔ ((k + 1 + m : Nat) : Int) ∈ c := by rw [List.mem_cons]; exact ⟨fun h => by rcases h with h | h; omega; exact h, .inr⟩
    by_cases g : ((k + 1 + m : Nat) : Int) ∈ c
    · rw [if_pos g, if_pos (hiff.2 g)]; exact ih
    · rw [if_neg g, if_neg (fun h => g (hiff.1 h)), ← ih.2]
      have ih1 := ih.1
      refine ⟨by rw [List.length_append]; omega, ?_⟩
      rw [remW, List.take_append_of_le_length (by omega), List.drop_append_of_le_length (by omega), remW, List.append_assoc]
/-- the cuts from the i-th on, but one -/
def dropC (cuts : List Int) (skip : Int) (i : Nat) : Nat → List Int
  | 0 => []
  | m + 1 => if (i : Int) = skip then dropC cuts skip (i + 1) m else cuts.getD i 0 :: dropC cuts skip (i + 1) m
theorem dropC_sub (cuts : List Int) (skip : Int) : ∀ (m i : Nat), i + m = cuts.length → (dropC cuts skip i m).Sublist (cuts.drop i)
  | 0, i, h => by simp [dropC]
  | m + 1, i, h => by
    have ih := dropC_sub cuts skip m (i + 1) (by omega)
    rw [List.drop_eq_getElem_cons (by omega), dropC]
    split
    · exact ih.cons _
    · rw [List.getD_eq_getElem?_getD, List.getElem?_eq_getElem (by omega)]; exact ih.cons_cons _
theorem dropC_len (cuts : List Int) (skip : Int) : ∀ (m i : Nat), i + m = cuts.length → (dropC cuts skip i m).length = if (i : Int) ≤ skip ∧ skip < cuts.length then m - 1 else m
  | 0, i, h => by rw [dropC, if_neg (by omega)]; rfl
  | m + 1, i, h => by
    have ih := dropC_len cuts skip m (i + 1) (by omega)
    rw [dropC]
    split
    · rw [ih, if_neg (by omega), if_pos (by omega)]; omega
    · rw [List.length_cons, ih]
      split
      · rw [if_pos (by omega)]; omega
      · rw [if_neg (by omega)]
theorem dropC_all (cuts : List Int) {skip : Int} (hs : skip < 0) : ∀ (m i : Nat), i + m = cuts.length → dropC cuts skip i m = cuts.drop i
  | 0, i, h => by rw [dropC, List.drop_eq_nil_of_le (by omega)]
  | m + 1, i, h => by rw [dropC, if_neg (by omega), dropC_all cuts hs m (i + 1) (by omega), List.drop_eq_getElem_cons (show i < cuts.length by omega), List.getD_eq_getElem?_getD, List.getElem?_eq_getElem (by omega)]; rfl
end Go.Proofs.Ythigkbkaeopipaa

/- Contracts: the characters of columns, and their ranks. -/
import Derived.Test.YtihnhelkfiaimaaGreatDoorNmA
import Derived.Test.YtihnhelkfiaimaaGreatDoorL18
namespace Go.Proofs.YtihnhelkfiaimaaGreatDoor
open Go Go.Gw
set_option linter.unusedVariables false
set_option linter.unusedSimpArgs false
/-- the characters in the order of their ranks -/
def chL : List UInt8 := [32, 38, 65, 66, 67, 68, 69, 70, 71, 72, 73, 45, 74, 75, 76, 77, 78, 79, 80, 81, 82, 47, 83, 84, 85, 86, 87, 88, 89, 90, 48, 49, 50, 51, 52, 53, 54, 55, 56, 57]
/-- the holes of a character -/
def codI (c : Int) : Int :=
  if c = 32 then 0 else if c = 38 then bitI 12 else if c = 45 then bitI 11 else if 48 ≤ c ∧ c ≤ 57 then bitI (c - 48)
  else if 65 ≤ c ∧ c ≤ 73 then orI (bitI 12) (bitI (c - 65 + 1)) else if 74 ≤ c ∧ c ≤ 82 then orI (bitI 11) (bitI (c - 74 + 1))
  else if c = 47 then orI (bitI 0) (bitI 1) else if 83 ≤ c ∧ c ≤ 90 then orI (bitI 0) (bitI (c - 83 + 2)) else 0
def isChr (c : Int) : Bool := decide (c = 32 ∨ c = 38 ∨ c = 45 ∨ c = 47 ∨ (48 ≤ c ∧ c ≤ 57) ∨ (65 ≤ c ∧ c ≤ 90))
def chr (i : Int) : Int := ((chL.getD i.toNat 0).toNat : Int)
theorem chr_all : ∀ i : Fin 40, isChr (chr (i.val : Int)) = true ∧ ∀ j : Fin 40, chL.getD i.val 0 = chL.getD j.val 0 → i = j := by decide +kernel
theorem chr_ok {i : Int} (h : 0 ≤ i ∧ i < 40) : isChr (chr i) = true := by
  have := (chr_all ⟨i.toNat, by omega⟩).1
  simpa [show ((i.toNat : Nat) : Int) = i by omega] using this
theorem chr_inj {i j : Int} (hi : 0 ≤ i ∧ i < 40) (hj : 0 ≤ j ∧ j < 40) (h : chL.getD i.toNat 0 = chL.getD j.toNat 0) : i = j := by
  have := (chr_all ⟨i.toNat, by omega⟩).2 ⟨j.toNat, by omega⟩ h
  have := congrArg Fin.val this
  dsimp only at this
  omega
theorem chr_bd (i : Int) : 0 ≤ chr i ∧ chr i < 256 := by
  unfold chr
  have := (chL.getD i.toNat 0).toNat_lt
  omega
/-- the first rank from i on whose character has the holes m -/
def rnkF (m i : Int) : Int := if h : i < 40 then (if codI (chr i) = m then i else rnkF m (i + 1)) else -1
termination_by (40 - i).toNat
decreasing_by omega
theorem rnkF_hit {m i : Int} (h : i < 40) (e : codI (chr i) = m) : rnkF m i = i := by rw [rnkF, dif_pos h, if_pos e]
theorem rnkF_on {m i : Int} (h : i < 40) (e : ¬ codI (chr i) = m) : rnkF m i = rnkF m (i + 1) := by rw [rnkF, dif_pos h, if_neg e]
theorem rnkF_end {m i : Int} (h : ¬ i < 40) : rnkF m i = -1 := by rw [rnkF, dif_neg h]
theorem rnkF_bd (m : Int) : ∀ (k : Nat) (i : Int), 0 ≤ i → (40 - i).toNat ≤ k → -1 ≤ rnkF m i ∧ rnkF m i < 40 ∧ (0 ≤ rnkF m i → codI (chr (rnkF m i)) = m)
  | 0, i, h, hk => by rw [rnkF_end (by omega)]; omega
  | k + 1, i, h, hk => by
    by_cases h9 : i < 40
    · by_cases e : codI (chr i) = m
      · rw [rnkF_hit h9 e]; exact ⟨by omega, h9, fun _ => e⟩
      · rw [rnkF_on h9 e]; exact rnkF_bd m k (i + 1) (by omega) (by omega)
    · rw [rnkF_end h9]; omega
def rnk (m : Int) : Int := rnkF m 0
theorem rnk_bd (m : Int) : -1 ≤ rnk m ∧ rnk m < 40 := by have := rnkF_bd m 40 0 (by omega) (by omega); exact ⟨this.1, this.2.1⟩
theorem rnk_cod {m : Int} (h : 0 ≤ rnk m) : codI (chr (rnk m)) = m := (rnkF_bd m 40 0 (by omega) (by omega)).2.2 h
theorem rnk_inj {m n : Int} (h : 0 ≤ rnk m) (e : rnk m = rnk n) : m = n := by
  rw [← rnk_cod h, e, rnk_cod (by omega)]
/-- all columns have characters -/
def okT (xs : List Int) : Bool := !xs.any fun m => decide (rnk m < 0)
theorem okT_at {xs : List Int} (h : okT xs = true) (i : Nat) (hi : i < xs.length) : 0 ≤ rnk (xs.getD i 0) := by
  simp only [okT, Bool.not_eq_true', List.any_eq_false, decide_eq_true_eq] at h
  have := h (xs.getD i 0) (by rw [List.getD_eq_getElem?_getD, List.getElem?_eq_getElem hi]; exact List.getElem_mem hi)
  omega
theorem okT_no {xs : List Int} (i : Nat) (hi : i < xs.length) (h : rnk (xs.getD i 0) < 0) : okT xs = false := by
  cases hk : okT xs
  · rfl
  · have := okT_at hk i hi; omega
theorem okT_yes {xs : List Int} (h : ∀ i, i < xs.length → 0 ≤ rnk (xs.getD i 0)) : okT xs = true := by
  simp only [okT, Bool.not_eq_true', List.any_eq_false, decide_eq_true_eq]
  intro m hm
  obtain ⟨j, hj, rfl⟩ := List.mem_iff_getElem.1 hm
  have := h j hj
  rw [List.getD_eq_getElem?_getD, List.getElem?_eq_getElem hj] at this
  simp only [Option.getD_some] at this
  omega
/-- the characters of columns -/
def textL (xs : List Int) : List UInt8 := xs.map fun m => chL.getD (rnk m).toNat 0
theorem textL_len (xs : List Int) : (textL xs).length = xs.length := by simp [textL]
theorem textL_get {xs : List Int} {i : Nat} (h : i < xs.length) : (textL xs)[i]? = some (chL.getD (rnk (xs.getD i 0)).toNat 0) := by
  simp [textL, List.getD_eq_getElem?_getD, h]
theorem textL_inj : ∀ {xs ys : List Int}, okT xs = true → okT ys = true → textL xs = textL ys → xs = ys := by
  intro xs ys hx hy h
  have hl : xs.length = ys.length := by have := congrArg List.length h; simpa [textL_len] using this
  refine list_ext hl fun j hj => ?_
  have h1 := textL_get (xs := xs) hj
  have h2 := textL_get (xs := ys) (i := j) (by omega)
  rw [h, h2] at h1
  have a1 := okT_at hx j hj
  have a2 := okT_at hy j (by omega)
  have b1 := rnk_bd (xs.getD j 0)
  have b2 := rnk_bd (ys.getD j 0)
  exact rnk_inj a1 (chr_inj (by omega) (by omega) (Option.some.inj h1).symm)
/-- columns compared by their ranks, from i on -/
def cmpF (xs ys : List Int) (i : Nat) : Int :=
  if h : i < xs.length then (if rnk (xs.getD i 0) < rnk (ys.getD i 0) then -1 else if rnk (ys.getD i 0) < rnk (xs.getD i 0) then 1 else cmpF xs ys (i + 1)) else 0
termination_by xs.length - i
theorem cmpF_lt {xs ys : List Int} {i : Nat} (h : i < xs.length) (e : rnk (xs.getD i 0) < rnk (ys.getD i 0)) : cmpF xs ys i = -1 := by rw [cmpF, dif_pos h, if_pos e]
theorem cmpF_gt {xs ys : List Int} {i : Nat} (h : i < xs.length) (e : rnk (ys.getD i 0) < rnk (xs.getD i 0)) : cmpF xs ys i = 1 := by rw [cmpF, dif_pos h, if_neg (by omega), if_pos e]
theorem cmpF_on {xs ys : List Int} {i : Nat} (h : i < xs.length) (e : rnk (xs.getD i 0) = rnk (ys.getD i 0)) : cmpF xs ys i = cmpF xs ys (i + 1) := by rw [cmpF, dif_pos h, if_neg (by omega), if_neg (by omega)]
theorem cmpF_end {xs ys : List Int} {i : Nat} (h : ¬ i < xs.length) : cmpF xs ys i = 0 := by rw [cmpF, dif_neg h]
theorem cmpF_zero {xs ys : List Int} : ∀ (k i : Nat), xs.length - i ≤ k → (cmpF xs ys i = 0 ↔ ∀ j, i ≤ j → j < xs.length → rnk (xs.getD j 0) = rnk (ys.getD j 0))
  | 0, i, hk => by rw [cmpF_end (by omega)]; exact ⟨fun _ j h1 h2 => by omega, fun _ => rfl⟩
  | k + 1, i, hk => by
    by_cases h : i < xs.length
    · rcases Int.lt_trichotomy (rnk (xs.getD i 0)) (rnk (ys.getD i 0)) with e | e | e
      · rw [cmpF_lt h e]; exact ⟨fun h => by omega, fun hh => by have := hh i (Nat.le_refl _) h; omega⟩
      · rw [cmpF_on h e, cmpF_zero k (i + 1) (by omega)]
        refine ⟨fun hh j h1 h2 => ?_, fun hh j h1 h2 => hh j (by omega) h2⟩
        by_cases ej : j = i
        · subst ej; exact e
        · exact hh j (by omega) h2
      · rw [cmpF_gt h e]; exact ⟨fun h => by omega, fun hh => by have := hh i (Nat.le_refl _) h; omega⟩
    · rw [cmpF_end h]; exact ⟨fun _ j h1 h2 => by omega, fun _ => rfl⟩
theorem cmp_eq {xs ys : List Int} (hl : xs.length = ys.length) (hx : okT xs = true) : cmpF xs ys 0 = 0 ↔ xs = ys := by
  rw [cmpF_zero xs.length 0 (by omega)]
  refine ⟨fun h => list_ext hl fun j hj => rnk_inj (okT_at hx j hj) (h j (Nat.zero_le _) hj), fun h j _ _ => by rw [h]⟩
/-- the reference's number of the holes of a character -/
def codS (c : Int) : Int :=
  if c = 32 then 0 else if c = 38 then 1 else if c = 45 then 2 else if c = 47 then orI 4 (bitI 1) else if 48 ≤ c ∧ c ≤ 57 then bitI (c - 48)
  else if 65 ≤ c ∧ c ≤ 73 then orI 1 (bitI (c - 65 + 1)) else if 74 ≤ c ∧ c ≤ 82 then orI 2 (bitI (c - 74 + 1))
  else if 83 ≤ c ∧ c ≤ 90 then orI 4 (bitI (c - 83 + 2)) else -1
theorem cod_all : ∀ i : Fin 40, codS (chr (i.val : Int)) = codI (chr (i.val : Int)) := by decide +kernel
theorem cod_eq {i : Int} (h : 0 ≤ i ∧ i < 40) : codS (chr i) = codI (chr i) := by
  have := cod_all ⟨i.toNat, by omega⟩
  simpa [show ((i.toNat : Nat) : Int) = i by omega] using this
theorem bitI_bd (r : Int) : 0 ≤ bitI r ∧ bitI r ≤ 2048 := by
  unfold bitI
  split
  · omega
  · split
    · omega
    · split
      · rename_i h
        have h1 : (2 : Int) ^ r.toNat ≤ 2 ^ 9 := by
          have : r.toNat ≤ 9 := by omega
          exact_mod_cast Nat.pow_le_pow_right (by decide) this
        have h2 : (0 : Int) < 2 ^ r.toNat := Int.pow_pos (by decide)
        have e : (2 : Int) ^ 9 = 512 := by decide
        omega
      · omega
end Go.Proofs.YtihnhelkfiaimaaGreatDoor

/- Contracts: the number in a field's columns. -/
import Derived.Test.YtihnhelkfiaimaaGreatDoorDigA
import Derived.Test.YtihnhelkfiaimaaGreatDoorCrdA
namespace Go.Proofs.YtihnhelkfiaimaaGreatDoor
open Go Go.Gw
set_option linter.unusedVariables false
set_option linter.unusedSimpArgs false
theorem digFrom_bd (m : Int) : ∀ (k : Nat) (d : Int), 0 ≤ d → (10 - d).toNat ≤ k → -1 ≤ digFrom m d ∧ digFrom m d ≤ 9
  | 0, d, h, hk => by rw [digFrom_end (by omega)]; omega
  | k + 1, d, h, hk => by
    by_cases h9 : d ≤ 9
    · by_cases e : bitI d = m
      · rw [digFrom_hit h9 e]; omega
      · rw [digFrom_on h9 e]; exact digFrom_bd m k (d + 1) (by omega) (by omega)
    · rw [digFrom_end h9]; omega
theorem dig_bd (m : Int) : -1 ≤ digFrom m 0 ∧ digFrom m 0 ≤ 9 := digFrom_bd m 10 0 (by omega) (by omega)
theorem bitI_pos {d : Int} (h : 0 ≤ d ∧ d ≤ 9) : 0 < bitI d := by
  unfold bitI
  rw [if_neg (by omega), if_neg (by omega), if_pos h]
  have : (0 : Int) < 2 ^ d.toNat := Int.pow_pos (by decide)
  omega
theorem digFrom_zero : ∀ (k : Nat) (d : Int), 0 ≤ d → (10 - d).toNat ≤ k → digFrom 0 d = -1
  | 0, d, h, hk => digFrom_end (by omega)
  | k + 1, d, h, hk => by
    by_cases h9 : d ≤ 9
    · have := bitI_pos ⟨h, h9⟩
      rw [digFrom_on h9 (by omega)]; exact digFrom_zero k (d + 1) (by omega) (by omega)
    · exact digFrom_end h9
theorem dig_zero : digFrom 0 0 = -1 := digFrom_zero 10 0 (by omega) (by omega)
theorem and2 (a : Int) : andI a 2 = 0 ∨ andI a 2 = 2 := by
  have h : (a.toNat &&& 2) = 0 ∨ (a.toNat &&& 2) = 2 := by
    have e : a.toNat &&& 2 = 2 * ((a.toNat / 2) % 2) := by
      apply Nat.eq_of_testBit_eq
      intro i
      have h2 : (2 : Nat).testBit i = decide (i = 1) := by
        rw [show (2 : Nat) = 2 ^ 1 from rfl, Nat.testBit_two_pow]; congr 1; exact propext ⟨fun h => h.symm, fun h => h.symm⟩
      rw [Nat.testBit_and, h2]
      cases i with
      | zero => simp [Nat.testBit_zero]
      | succ i =>
        cases i with
        | zero => simp [Nat.testBit_succ, Nat.testBit_zero]
        | succ i =>
          have : (2 * (a.toNat / 2 % 2)).testBit (i + 1 + 1) = false := by
            rw [Nat.testBit_succ, Nat.testBit_succ]
            rw [show 2 * (a.toNat / 2 % 2) / 2 = a.toNat / 2 % 2 by omega, show a.toNat / 2 % 2 / 2 = 0 by omega]
            exact Nat.zero_testBit i
          rw [this]; simp
    omega
  rcases h with h | h
  · left; show ((a.toNat &&& (2 : Int).toNat : Nat) : Int) = 0; rw [show (2 : Int).toNat = 2 from rfl, h]; rfl
  · right; show ((a.toNat &&& (2 : Int).toNat : Nat) : Int) = 2; rw [show (2 : Int).toNat = 2 from rfl, h]; rfl
/-- the last column's step -/
def numE (L n : Int) (b : Bool) : Int × Bool :=
  if andI L 2 = 0 then (if L = 0 ∧ b = false then (n, true) else if digFrom L 0 < 0 then (0, false) else (10 * n + digFrom L 0, true))
  else if digFrom (L - 2) 0 < 0 then (0, false) else if 10 * n + digFrom (L - 2) 0 = 0 then (0, false) else (-(10 * n + digFrom (L - 2) 0), true)
/-- the number in columns, from n on; whether digits have come -/
def numS : List Int → Int → Bool → Int × Bool
  | [], n, _ => (n, true)
  | [L], n, b => numE L n b
  | m :: x :: r, n, b => if m = 0 ∧ b = false then numS (x :: r) n b else if digFrom m 0 < 0 then (0, false) else numS (x :: r) (10 * n + digFrom m 0) true
def numL (xs : List Int) : Int × Bool := numS xs 0 false
theorem numS_last {xs : List Int} {i : Nat} (h : i + 1 = xs.length) (n : Int) (b : Bool) : numS (xs.drop i) n b = numE (xs.getD i 0) n b := by
  rw [List.drop_eq_getElem_cons (by omega), List.drop_eq_nil_of_le (by omega), numS, List.getD_eq_getElem?_getD, List.getElem?_eq_getElem (by omega)]; rfl
theorem numS_step {xs : List Int} {i : Nat} (h : i + 1 < xs.length) (n : Int) (b : Bool) : numS (xs.drop i) n b = if xs.getD i 0 = 0 ∧ b = false then numS (xs.drop (i + 1)) n b else if digFrom (xs.getD i 0) 0 < 0 then (0, false) else numS (xs.drop (i + 1)) (10 * n + digFrom (xs.getD i 0) 0) true := by
  rw [List.drop_eq_getElem_cons (show i < xs.length by omega), List.drop_eq_getElem_cons (show i + 1 < xs.length by omega), numS, List.getD_eq_getElem?_getD, List.getElem?_eq_getElem (show i < xs.length by omega)]; rfl
/-- what the reference answers at its end -/
def numZ (n : Int) (m : Bool) : Int × Bool := if m = true then (-n, decide (¬ n = 0)) else (n, true)
theorem numE_bd (L n : Int) (b : Bool) (B : Int) (h0 : 0 ≤ n) (h1 : n < B) : -(10 * B) < (numE L n b).1 ∧ (numE L n b).1 < 10 * B := by
  have h3 := dig_bd L
  have h4 := dig_bd (L - 2)
  unfold numE
  split
  · split
    · dsimp only; omega
    · split <;> dsimp only <;> omega
  · split
    · dsimp only; omega
    · split <;> dsimp only <;> omega
theorem numS_bd : ∀ (xs : List Int) (n : Int) (b : Bool) (B : Int), 0 ≤ n → n < B → -(B * 10 ^ xs.length) < (numS xs n b).1 ∧ (numS xs n b).1 < B * 10 ^ xs.length
  | [], n, b, B, h0, h1 => by simp only [numS, List.length_nil, Int.pow_zero]; omega
  | [L], n, b, B, h0, h1 => by
    have := numE_bd L n b B h0 h1
    simp only [numS, List.length_cons, List.length_nil, Nat.zero_add, Int.pow_succ, Int.pow_zero]; omega
  | m :: x :: r, n, b, B, h0, h1 => by
    have h3 := dig_bd m
    have e : B * 10 ^ (m :: x :: r).length = (10 * B) * 10 ^ (x :: r).length := by
      rw [show (m :: x :: r).length = (x :: r).length + 1 from rfl, Int.pow_succ, Int.mul_comm (10 ^ _) 10, ← Int.mul_assoc, Int.mul_comm B 10]
    rw [e]
    unfold numS
    split
    · exact numS_bd (x :: r) n b (10 * B) h0 (by omega)
    · split
      · have h5 := pow10_pos (x :: r).length
        have := Int.mul_pos (show 0 < 10 * B by omega) h5
        dsimp only; omega
      · exact numS_bd (x :: r) _ _ (10 * B) (by omega) (by omega)
theorem numL_bd {xs : List Int} (h : xs.length ≤ 12) : -999999999999 ≤ (numL xs).1 ∧ (numL xs).1 ≤ 999999999999 := by
  have h1 := numS_bd xs 0 false 1 (by omega) (by omega)
  have h2 := pow10_12 h
  unfold numL; omega
theorem numL_in {xs : List Int} (h : xs.length ≤ 12) : In64 (numL xs).1 := by
  have := numL_bd h
  exact ⟨by omega, by omega⟩
/-- the same, the last column's minus taken off ahead -/
def numF : List Int → Int → Bool → Option (Int × Bool)
  | [], n, b => some (n, b)
  | m :: r, n, b => if m = 0 ∧ b = false then numF r n b else if digFrom m 0 < 0 then none else numF r (10 * n + digFrom m 0) true
theorem numF_drop {xs : List Int} {i : Nat} (h : i < xs.length) (n : Int) (b : Bool) : numF (xs.drop i) n b = if xs.getD i 0 = 0 ∧ b = false then numF (xs.drop (i + 1)) n b else if digFrom (xs.getD i 0) 0 < 0 then none else numF (xs.drop (i + 1)) (10 * n + digFrom (xs.getD i 0) 0) true := by
  rw [List.drop_eq_getElem_cons h, numF, List.getD_eq_getElem?_getD, List.getElem?_eq_getElem h]; rfl
/-- what the program answers behind its loop -/
def numR (g : Option (Int × Bool)) (L : Int) : Int × Bool :=
  match g with
  | none => (0, false)
  | some (n, b) => if b = false ∨ L - andI L 2 = 0 ∨ (¬ andI L 2 = 0 ∧ n = 0) then (0, false) else if ¬ andI L 2 = 0 then (-n, true) else (n, true)
theorem numR_end (L n : Int) (b : Bool) (h : b = true ∨ L ≠ 0) : numR (numF [L - andI L 2] n b) L = numE L n b := by
  have h3 := dig_zero
  unfold numE numF
  rcases and2 L with e | e <;> rw [e]
  · rw [if_pos rfl, Int.sub_zero]
    by_cases hz : L = 0 ∧ b = false
    · exfalso; rcases h with h | h
      · rw [h] at hz; exact absurd hz.2 (by decide)
      · exact h hz.1
    · rw [if_neg hz, if_neg hz]
      by_cases hd : digFrom L 0 < 0
      · rw [if_pos hd, if_pos hd]; rfl
      · rw [if_neg hd, if_neg hd]
        have hL : L ≠ 0 := fun hh => hd (by rw [hh, dig_zero]; omega)
        simp [numF, numR, e, hL]
  · rw [if_neg (show ¬ (2 : Int) = 0 by decide)]
    by_cases hz : L - 2 = 0 ∧ b = false
    · rw [if_pos hz, hz.1, dig_zero, if_pos (by omega)]
      simp [numF, numR, hz.2]
    · rw [if_neg hz]
      by_cases hd : digFrom (L - 2) 0 < 0
      · rw [if_pos hd, if_pos hd]; rfl
      · rw [if_neg hd, if_neg hd]
        have hL : L - 2 ≠ 0 := fun hh => hd (by rw [hh, dig_zero]; omega)
        by_cases hn : 10 * n + digFrom (L - 2) 0 = 0
        · simp [numF, numR, e, hn]
        · simp [numF, numR, e, hn, hL]
theorem numR_all : ∀ (xs : List Int) (L n : Int) (b : Bool), (b = true ∨ ∃ m ∈ xs ++ [L], m ≠ 0) → numR (numF (xs ++ [L - andI L 2]) n b) L = numS (xs ++ [L]) n b
  | [], L, n, b, h => numR_end L n b (by
    rcases h with h | ⟨m, hm, h⟩
    · exact .inl h
    · simp at hm; subst hm; exact .inr h)
  | m :: r, L, n, b, h => by
    have e : numS (m :: r ++ [L]) n b = if m = 0 ∧ b = false then numS (r ++ [L]) n b else if digFrom m 0 < 0 then (0, false) else numS (r ++ [L]) (10 * n + digFrom m 0) true := by
      cases r <;> rfl
    rw [e, List.cons_append, numF]
    by_cases hz : m = 0 ∧ b = false
    · rw [if_pos hz, if_pos hz]
      refine numR_all r L n b ?_
      rcases h with h | ⟨k, hk, h⟩
      · exact .inl h
      · refine .inr ⟨k, ?_, h⟩
        rw [List.cons_append, List.mem_cons] at hk
        rcases hk with rfl | hk
        · exact absurd hz.1 h
        · exact hk
    · rw [if_neg hz, if_neg hz]
      by_cases hd : digFrom m 0 < 0
      · rw [if_pos hd, if_pos hd]; rfl
      · rw [if_neg hd, if_neg hd]; exact numR_all r L _ true (.inl rfl)
theorem numS_zero : ∀ (xs : List Int), (∀ m ∈ xs, m = 0) → numS xs 0 false = (0, true)
  | [], h => rfl
  | [L], h => by have := h L (by simp); subst this; rfl
  | m :: x :: r, h => by
    have := h m (by simp)
    subst this
    rw [numS, if_pos ⟨rfl, rfl⟩]
    exact numS_zero (x :: r) (fun m hm => h m (by simp [hm]))
theorem set_last {xs : List Int} (h : 0 < xs.length) (y : Int) : xs.set (xs.length - 1) y = xs.take (xs.length - 1) ++ [y] := by
  rw [List.set_eq_take_append_cons_drop, if_pos (by omega), List.drop_eq_nil_of_le (by omega)]
theorem take_last {xs : List Int} (h : 0 < xs.length) : xs = xs.take (xs.length - 1) ++ [xs.getD (xs.length - 1) 0] := by
  conv => lhs; rw [← List.take_append_drop (xs.length - 1) xs]
  rw [List.drop_eq_getElem_cons (by omega), List.drop_eq_nil_of_le (by omega), List.getD_eq_getElem?_getD, List.getElem?_eq_getElem (by omega)]; rfl
/-- the program's way is the reference's -/
theorem numL_of {xs : List Int} (h : 0 < xs.length) (hz : ∃ m ∈ xs, m ≠ 0) : numR (numF (xs.set (xs.length - 1) (xs.getD (xs.length - 1) 0 - andI (xs.getD (xs.length - 1) 0) 2)) 0 false) (xs.getD (xs.length - 1) 0) = numL xs := by
  rw [set_last h]
  have e := take_last h
  unfold numL
  conv => rhs; rw [e]
  refine numR_all _ _ _ _ (.inr ?_)
  rw [← e]; exact hz
end Go.Proofs.YtihnhelkfiaimaaGreatDoor

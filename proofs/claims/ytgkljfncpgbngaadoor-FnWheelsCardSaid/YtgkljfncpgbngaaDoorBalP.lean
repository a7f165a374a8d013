/- The plain law of balances: counters that are added to with a carry from the end add as numbers do. -/
import Derived.Test.YtgkljfncpgbngaaDoorCntK
namespace Go.Proofs.YtgkljfncpgbngaaDoor
open Go Go.Gw
set_option linter.unusedVariables false
set_option linter.unusedSimpArgs false
theorem valD_snoc : ∀ (xs : List Int) (d : Int), valD (xs ++ [d]) = valD xs + d * 10 ^ xs.length
  | [], d => by simp [valD]
  | x :: r, d => by
    rw [List.cons_append, valD, valD_snoc r d, valD, List.length_cons, Int.pow_succ]
    grind
theorem valD_take {xs : List Int} {i : Nat} (h : i < xs.length) : valD (xs.take (i + 1)) = valD (xs.take i) + xs.getD i 0 * 10 ^ i := by
  rw [List.take_add_one, List.getElem?_eq_getElem h, Option.toList_some, valD_snoc, List.length_take, Nat.min_eq_left (by omega), List.getD_eq_getElem?_getD, List.getElem?_eq_getElem h]; rfl
theorem add_alg {L c P V x n a r b q s s1 s2 : Int} (ih : L + c * P = V + r) (h1 : r + P * a = n) (h2 : a = 10 * b + q) (hs : s = x + q + c) (hs2 : s = 10 * s1 + s2) : L + s2 * P + s1 * (P * 10) = V + x * P + (n - P * 10 * b) := by
  grind
theorem addS_val {xs : List Int} {n : Int} (hn : 0 ≤ n) : ∀ i, i ≤ xs.length → valD (addS xs n i).1 + (addS xs n i).2.2 * 10 ^ i = valD (xs.take i) + n % 10 ^ i
  | 0, _ => by simp [addS, valD, Int.emod_one]
  | i + 1, h => by
    have ih := addS_val (xs := xs) hn i (by omega)
    have hl := addS_len xs n i
    rw [addS, valD_snoc, hl, valD_take (show i < xs.length by omega), Int.pow_succ]
    have e1 := Int.emod_add_mul_ediv n (10 ^ i)
    have e2 := Int.emod_add_mul_ediv n (10 ^ i * 10)
    have e3 : n / (10 ^ i * 10) = n / 10 ^ i / 10 := by rw [← Int.pow_succ, dpow]
    rw [e3] at e2
    have := add_alg (x := xs.getD i 0) (c := (addS xs n i).2.2) (s := xs.getD i 0 + n / 10 ^ i % 10 + (addS xs n i).2.2) (s1 := (xs.getD i 0 + n / 10 ^ i % 10 + (addS xs n i).2.2) / 10) (s2 := (xs.getD i 0 + n / 10 ^ i % 10 + (addS xs n i).2.2) % 10) (b := n / 10 ^ i / 10) (q := n / 10 ^ i % 10) ih e1 (by omega) rfl (by omega)
    show valD (addS xs n i).1 + (xs.getD i 0 + n / 10 ^ i % 10 + (addS xs n i).2.2) % 10 * 10 ^ i + (xs.getD i 0 + n / 10 ^ i % 10 + (addS xs n i).2.2) / 10 * (10 ^ i * 10) = _
    rw [this]
    omega
theorem addS_all {ds : List Int} (hd : Digs ds) {m : Int} (h0 : 0 ≤ m) (h1 : m < 10 ^ ds.length) : valD (addS ds m ds.length).1 + (addS ds m ds.length).2.2 * 10 ^ ds.length = valD ds + m ∧ 0 ≤ valD (addS ds m ds.length).1 ∧ valD (addS ds m ds.length).1 < 10 ^ ds.length := by
  have h := addS_val (xs := ds) h0 ds.length (Nat.le_refl _)
  rw [List.take_length, Int.emod_eq_of_lt h0 h1] at h
  have g := valD_bd (xs := (addS ds m ds.length).1) (addS_bd hd m ds.length).2.2.2.2
  rw [addS_len] at g
  exact ⟨h, g⟩
theorem balStep_val {k : Int} {ds : List Int} {n : Int} (hd : Digs ds) (hl : ds.length = k.toNat) (hn : -(10 ^ k.toNat - 1) ≤ n ∧ n ≤ 10 ^ k.toNat - 1) :
    valD (balStep k ds n) = valD ds + n + (10 ^ k.toNat - 1) ∨ valD (balStep k ds n) = valD ds + n ∨ valD (balStep k ds n) = valD ds + n - (10 ^ k.toNat - 1) := by
  have hv := valD_bd (xs := ds) hd
  have hP := pow10_pos k.toNat
  rw [hl] at hv
  have key : ∀ m : Int, 0 ≤ m → m < 10 ^ k.toNat → (if (addS ds m ds.length).2.2 = 1 then valD (addS (addS ds m ds.length).1 1 (addS ds m ds.length).1.length).1 = valD ds + m - (10 ^ k.toNat - 1) else valD (addS ds m ds.length).1 = valD ds + m) := by
    intro m h0 h1
    have a1 := addS_all hd h0 (by rw [hl]; exact h1)
    have a2 := addS_bd hd m ds.length
    have a3 := addS_len ds m ds.length
    split
    · rename_i hc
      rw [hc, Int.one_mul] at a1
      have e0 : (10 : Int) ^ ds.length = 10 ^ k.toNat := by rw [hl]
      have hd2 := a2.2.2.2.2
      generalize (addS ds m ds.length).1 = es at *
      have e1 : (10 : Int) ^ es.length = 10 ^ k.toNat := by rw [a3, hl]
      have b1 := addS_all (ds := es) hd2 (m := 1) (by omega) (by omega)
      have b2 := addS_bd hd2 1 es.length
      rcases (show (addS es 1 es.length).2.2 = 0 ∨ (addS es 1 es.length).2.2 = 1 by omega) with g | g
      · rw [g, Int.zero_mul] at b1; omega
      · rw [g, Int.one_mul] at b1; omega
    · rename_i hc
      have : (addS ds m ds.length).2.2 = 0 := by omega
      rw [this, Int.zero_mul] at a1
      omega
  by_cases hneg : n < 0
  · have := key (n + (10 ^ k.toNat - 1)) (by omega) (by omega)
    split at this
    · rename_i hc; rw [st_pp hneg hc]; omega
    · rename_i hc; rw [st_pn hneg hc]; omega
  · have := key n (by omega) (by omega)
    split at this
    · rename_i hc; rw [st_np hneg hc]; omega
    · rename_i hc; rw [st_nn hneg hc]; omega
/-- what a balance shows -/
def decB (k : Int) (ds : List Int) : Int := if ds.getD (k - 1).toNat 0 = 9 then valD ds - (10 ^ k.toNat - 1) else valD ds
theorem top_val {k : Int} {ds : List Int} (hk : 2 ≤ k) (hd : Digs ds) (hl : ds.length = k.toNat) : ∃ t : Int, valD ds = t + ds.getD (k - 1).toNat 0 * 10 ^ (k - 1).toNat ∧ 0 ≤ t ∧ t < 10 ^ (k - 1).toNat := by
  refine ⟨valD (ds.take (k - 1).toNat), ?_, ?_⟩
  · rw [← valD_take (by omega), show (k - 1).toNat + 1 = ds.length by omega, List.take_length]
  · have := valD_bd (xs := ds.take (k - 1).toNat) (fun d h => hd d (List.mem_of_mem_take h))
    rwa [List.length_take, Nat.min_eq_left (by omega)] at this
theorem decB_bd {k : Int} {ds : List Int} (hk : 2 ≤ k) (hd : Digs ds) (hl : ds.length = k.toNat) (ht : topOk k ds) : -(10 ^ (k - 1).toNat - 1) ≤ decB k ds ∧ decB k ds ≤ 10 ^ (k - 1).toNat - 1 := by
  obtain ⟨t, h1, h2, h3⟩ := top_val hk hd hl
  have e : (10 : Int) ^ k.toNat = 10 ^ (k - 1).toNat * 10 := by rw [← Int.pow_succ]; congr 1; omega
  unfold decB
  rcases ht with g | g
  · rw [g] at h1 ⊢
    rw [if_neg (by decide)]; omega
  · rw [g] at h1 ⊢
    rw [if_pos rfl]; omega
def sumI (xs : List Int) : Nat → Int
  | 0 => 0
  | i + 1 => sumI xs i + xs.getD i 0
theorem valD_digs0 : ∀ k : Nat, valD (digs k 0) = 0
  | 0 => rfl
  | k + 1 => by rw [digs, valD]; simp [valD_digs0 k]
theorem digs0_get : ∀ (k i : Nat), (digs k 0).getD i 0 = 0
  | 0, i => by simp [digs]
  | k + 1, 0 => by simp [digs]
  | k + 1, i + 1 => by rw [digs, List.getD_cons_succ]; exact digs0_get k i
theorem bal_sum {k : Int} {xs : List Int} (hk : 2 ≤ k) (hn : numOk k xs) (ht : ∀ i, i < xs.length → topOk k (balD k xs (i + 1))) : ∀ i, i ≤ xs.length → decB k (balD k xs i) = sumI xs i
  | 0, _ => by
    unfold decB
    rw [balD, digs0_get, if_neg (by decide), valD_digs0]; rfl
  | i + 1, h => by
    have ih := bal_sum hk hn ht i (by omega)
    have o1 := balD_ok k xs i
    have o2 := balD_ok k xs (i + 1)
    have t1 : topOk k (balD k xs i) := by
      cases i with
      | zero => exact .inl (digs0_get _ _)
      | succ i => exact ht i (by omega)
    have d1 := decB_bd hk o1.1 o1.2 t1
    have d2 := decB_bd hk o2.1 o2.2 (ht i (by omega))
    have hx := hn (xs.getD i 0) (getD_mem (by omega))
    have e : (10 : Int) ^ k.toNat = 10 ^ (k - 1).toNat * 10 := by rw [← Int.pow_succ]; congr 1; omega
    have hP := pow10_pos (k - 1).toNat
    have hs := balStep_val (n := xs.getD i 0) o1.1 o1.2 (by omega)
    have c1 : decB k (balD k xs i) = valD (balD k xs i) ∨ decB k (balD k xs i) = valD (balD k xs i) - (10 ^ k.toNat - 1) := by
      rw [decB]; split <;> omega
    have c2 : decB k (balD k xs (i + 1)) = valD (balD k xs (i + 1)) ∨ decB k (balD k xs (i + 1)) = valD (balD k xs (i + 1)) - (10 ^ k.toNat - 1) := by
      rw [decB]; split <;> omega
    rw [sumI, ← ih]
    rw [show balStep k (balD k xs i) (xs.getD i 0) = balD k xs (i + 1) from rfl] at hs
    omega
theorem sumI_bd {k : Int} {xs : List Int} (hn : numOk k xs) (hk : sizeOk k xs) : ∀ i, i ≤ xs.length → -(1000000000000 * (i : Int)) ≤ sumI xs i ∧ sumI xs i ≤ 1000000000000 * (i : Int)
  | 0, _ => by simp [sumI]
  | i + 1, h => by
    have ih := sumI_bd hn hk i (by omega)
    have hx := hn (xs.getD i 0) (getD_mem (by omega))
    have := pow10_12 (k := (k - 1).toNat) (by have := hk.2.1; omega)
    rw [sumI]; omega
theorem balR_law {k : Int} {xs : List Int} (h : (balR k xs).2.2 = 0) : sizeOk k xs ∧ numOk k xs ∧ (balR k xs).1 = sumI xs xs.length ∧ ((balR k xs).2.1 = true ∨ 0 ≤ (balR k xs).1) := by
  by_cases h1 : sizeOk k xs
  · by_cases h2 : numOk k xs
    · by_cases h3 : ∀ i, i < xs.length → topOk k (balD k xs (i + 1))
      · have hs := bal_sum h1.1 h2 h3 xs.length (Nat.le_refl _)
        refine ⟨h1, h2, ?_⟩
        unfold balR
        rw [if_neg (by simpa using h1), if_neg (by simpa using h2), if_neg (by simpa using h3)]
        unfold decB at hs
        split
        · rename_i g; rw [if_pos g] at hs; exact ⟨hs, .inl rfl⟩
        · rename_i g; rw [if_neg g] at hs
          have o := balD_ok k xs xs.length
          exact ⟨hs, .inr (valD_bd o.1).1⟩
      · unfold balR at h
        rw [if_neg (by simpa using h1), if_neg (by simpa using h2), if_pos h3] at h
        cases h
    · unfold balR at h
      rw [if_neg (by simpa using h1), if_pos h2] at h
      cases h
  · unfold balR at h
    rw [if_pos h1] at h
    cases h
end Go.Proofs.YtgkljfncpgbngaaDoor

/- Contracts: adding to counters, taking from them. -/
import Derived.Test.YtcpglpegjdpliaaDoorCntH
namespace Go.Proofs.YtcpglpegjdpliaaDoor
open Go Go.Gw
set_option linter.unusedVariables false
set_option linter.unusedSimpArgs false
/-- i wheels of a counter after a number has been added: the digits, the carries, the last one's carry -/
def addS (xs : List Int) (n : Int) : Nat → List Int × Int × Int
  | 0 => ([], 0, 0)
  | i + 1 => ((addS xs n i).1 ++ [(xs.getD i 0 + n / 10 ^ i % 10 + (addS xs n i).2.2) % 10], (addS xs n i).2.1 + (xs.getD i 0 + n / 10 ^ i % 10 + (addS xs n i).2.2) / 10, (xs.getD i 0 + n / 10 ^ i % 10 + (addS xs n i).2.2) / 10)
theorem addS_len (xs : List Int) (n : Int) : ∀ i, (addS xs n i).1.length = i
  | 0 => rfl
  | i + 1 => by rw [addS, List.length_append, addS_len xs n i]; rfl
def Digs (xs : List Int) : Prop := ∀ d ∈ xs, 0 ≤ d ∧ d ≤ 9
theorem Digs.getD {xs : List Int} (h : Digs xs) (i : Nat) : 0 ≤ xs.getD i 0 ∧ xs.getD i 0 ≤ 9 := by
  by_cases hi : i < xs.length
  · rw [List.getD_eq_getElem?_getD, List.getElem?_eq_getElem hi]; exact h _ (List.getElem_mem hi)
  · rw [List.getD_eq_getElem?_getD, List.getElem?_eq_none (by omega)]; simp
theorem addS_bd {xs : List Int} (h : Digs xs) (n : Int) : ∀ i, 0 ≤ (addS xs n i).2.2 ∧ (addS xs n i).2.2 ≤ 1 ∧ 0 ≤ (addS xs n i).2.1 ∧ (addS xs n i).2.1 ≤ i ∧ Digs (addS xs n i).1
  | 0 => ⟨by simp [addS], by simp [addS], by simp [addS], by simp [addS], fun d hd => by simp [addS] at hd⟩
  | i + 1 => by
    obtain ⟨h1, h2, h3, h4, h5⟩ := addS_bd h n i
    have h6 := h.getD i
    simp only [addS]
    refine ⟨by omega, by omega, by omega, by omega, fun d hd => ?_⟩
    rcases List.mem_append.1 hd with hd | hd
    · exact h5 d hd
    · simp only [List.mem_singleton] at hd
      omega
theorem digs_getD : ∀ (k : Nat) (n : Int) (i : Nat), i < k → (digs k n).getD i 0 = n / 10 ^ i % 10
  | 0, n, i, h => by omega
  | k + 1, n, 0, h => by simp [digs]
  | k + 1, n, i + 1, h => by
    rw [digs, List.getD_cons_succ, digs_getD k (n / 10) i (by omega), Int.ediv_ediv_of_nonneg (by omega), Int.pow_succ, Int.mul_comm]
theorem getD_app {a b : List Int} {i : Nat} (h : a.length = i) : (a ++ b.drop i).getD i 0 = b.getD i 0 := by
  rw [List.getD_eq_getElem?_getD, List.getD_eq_getElem?_getD, List.getElem?_append_right (by omega), h, Nat.sub_self, List.getElem?_drop, Nat.add_zero]
theorem set_app {a b : List Int} {i : Nat} {y : Int} (h : a.length = i) (hi : i < b.length) : (a ++ b.drop i).set i y = (a ++ [y]) ++ b.drop (i + 1) := by
  rw [List.set_append_right _ _ (by omega), h, Nat.sub_self, List.drop_eq_getElem_cons hi, List.set_cons_zero, List.append_assoc]; rfl
theorem dpow (n : Int) (i : Nat) : n / 10 ^ i / 10 = n / 10 ^ (i + 1) := by
  rw [Int.ediv_ediv_of_nonneg (Int.le_of_lt (pow10_pos _)), Int.pow_succ]
section
variable {w : World} {v v' : Value} {xs ys : List Int} {lo hi lo' hi' b b' : Nat}

/-! ### what the laws' functions answer -/
def codeN (xs : List Int) (n : Int) : Int := if okC xs = true then (if 0 ≤ n ∧ n ≤ 10 ^ xs.length - 1 then 0 else 2) else 1
theorem codeN_ok {xs : List Int} {n : Int} (h : codeN xs n = 0) : okC xs = true ∧ 0 ≤ n ∧ n ≤ 10 ^ xs.length - 1 ∧ n ≤ 999999999999 := by
  by_cases hk : okC xs = true
  · by_cases hn : 0 ≤ n ∧ n ≤ 10 ^ xs.length - 1
    · have h1 := pow10_12 (k := xs.length) (okC_len hk).2
      exact ⟨hk, hn.1, hn.2, by omega⟩
    · simp [codeN, hk, hn] at h
  · simp [codeN, hk] at h
def resAdd (xs : List Int) (n : Int) : List Int := if codeN xs n = 0 then (addS xs n xs.length).1 else []
def topAdd (xs : List Int) (n : Int) : Bool := decide (codeN xs n = 0 ∧ (addS xs n xs.length).2.2 = 1)
def carAdd (xs : List Int) (n : Int) : Int := if codeN xs n = 0 then (addS xs n xs.length).2.1 else 0
theorem resAdd_len (xs : List Int) (n : Int) : (resAdd xs n).length ≤ 12 := by
  unfold resAdd; split
  · rename_i h; rw [addS_len]; exact (okC_len (codeN_ok h).1).2
  · simp
end
end Go.Proofs.YtcpglpegjdpliaaDoor

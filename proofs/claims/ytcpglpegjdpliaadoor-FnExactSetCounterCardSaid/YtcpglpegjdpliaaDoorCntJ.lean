/- Contracts: taking from counters, complements, splitting. -/
import Derived.Test.YtcpglpegjdpliaaDoorCntI
namespace Go.Proofs.YtcpglpegjdpliaaDoor
open Go Go.Gw
set_option linter.unusedVariables false
set_option linter.unusedSimpArgs false
/-- the digits after a number has been taken away, by its complement -/
def takeP (xs : List Int) (n : Int) : List Int × Int × Int := addS xs (10 ^ xs.length - 1 - n) xs.length
def takeD (xs : List Int) (n : Int) : List Int := if (takeP xs n).2.2 = 1 then (addS (takeP xs n).1 1 (takeP xs n).1.length).1 else (takeP xs n).1
def resTake (xs : List Int) (n : Int) : List Int := if codeN xs n = 0 then takeD xs n else []
def topTake (xs : List Int) (n : Int) : Bool := decide (codeN xs n = 0 ∧ (takeP xs n).2.2 = 1)
theorem takeP_len (xs : List Int) (n : Int) : (takeP xs n).1.length = xs.length := addS_len _ _ _
theorem takeD_len (xs : List Int) (n : Int) : (takeD xs n).length = xs.length := by
  unfold takeD; split
  · rw [addS_len, takeP_len]
  · rw [takeP_len]
theorem resTake_len (xs : List Int) (n : Int) : (resTake xs n).length ≤ 12 := by
  unfold resTake; split
  · rename_i h; rw [takeD_len]; exact (okC_len (codeN_ok h).1).2
  · simp
section
variable {w : World} {v v' : Value} {xs ys : List Int} {lo hi lo' hi' b b' : Nat}

/-! ### complements -/
def comp (xs : List Int) : List Int := (List.range xs.length).map fun j => 9 - xs.getD j 0
theorem comp_len (xs : List Int) : (comp xs).length = xs.length := by simp [comp]
theorem comp_map (xs : List Int) : comp xs = xs.map fun d => 9 - d := by
  apply List.ext_getElem (by simp [comp])
  intro i h1 h2
  have hi : i < xs.length := by simpa [comp] using h1
  simp [comp, List.getD_eq_getElem?_getD, hi]
theorem digs_comp : ∀ (xs : List Int), Digs xs → digs xs.length (10 ^ xs.length - 1 - valD xs) = xs.map fun d => 9 - d
  | [], _ => rfl
  | d :: r, h => by
    have h1 := h d (by simp)
    have h2 := valD_bd (xs := r) (fun x hx => h x (by simp [hx]))
    have ih := digs_comp r (fun x hx => h x (by simp [hx]))
    rw [List.length_cons, digs, valD, Int.pow_succ]
    rw [show (10 ^ r.length * 10 - 1 - (d + 10 * valD r)) % 10 = 9 - d by omega, show (10 ^ r.length * 10 - 1 - (d + 10 * valD r)) / 10 = 10 ^ r.length - 1 - valD r by omega, ih]
    rfl
def resComp (xs : List Int) : List Int := if okC xs = true then comp xs else []
def codeOk (xs : List Int) : Int := if okC xs = true then 0 else 1
theorem resComp_len (xs : List Int) : (resComp xs).length ≤ 12 := by
  unfold resComp; split
  · rename_i h; rw [comp_len]; exact (okC_len h).2
  · simp

/-! ### splitting -/
def splitC (xs : List Int) (k : Int) : Int := if okC xs = true then (if 1 ≤ k ∧ k ≤ xs.length - 1 then 0 else 2) else 1
def resLow (xs : List Int) (k : Int) : List Int := if splitC xs k = 0 then xs.take k.toNat else []
def resHigh (xs : List Int) (k : Int) : List Int := if splitC xs k = 0 then xs.drop k.toNat else []
theorem splitC_ok {xs : List Int} {k : Int} (h : splitC xs k = 0) : okC xs = true ∧ 1 ≤ k ∧ k ≤ xs.length - 1 := by
  by_cases hk : okC xs = true
  · by_cases hn : 1 ≤ k ∧ k ≤ xs.length - 1
    · exact ⟨hk, hn⟩
    · simp only [splitC, hk, if_true, if_neg hn] at h; omega
  · simp [splitC, hk] at h
theorem resSplit_len (xs : List Int) (k : Int) : (resLow xs k).length ≤ 12 ∧ (resHigh xs k).length ≤ 12 := by
  unfold resLow resHigh; split
  · rename_i h; have := okC_len (splitC_ok h).1; simp; omega
  · simp
end
end Go.Proofs.YtcpglpegjdpliaaDoor

/- Contracts: numbers punched into fields; serial numbers: plain laws. -/
import Derived.Test.YtdkedajdgllilaaDoorNmB
import Derived.Test.YtdkedajdgllilaaDoorDkB
import Derived.Test.YtdkedajdgllilaaDoorTieA
import Derived.Test.YtdkedajdgllilaaDoorL20
namespace Go.Proofs.YtdkedajdgllilaaDoor
open Go Go.Gw
set_option linter.unusedVariables false
set_option linter.unusedSimpArgs false
/-- the columns of a number that is not negative -/
def pun (x : Int) : Nat → List Int
  | 0 => []
  | k + 1 => pun (x / 10) k ++ [bitI (x % 10)]
theorem pun_len : ∀ (k : Nat) (x : Int), (pun x k).length = k
  | 0, x => rfl
  | k + 1, x => by rw [pun, List.length_append, pun_len k]; rfl
/-- what is left of a number behind k digits -/
def sft (x : Int) : Nat → Int
  | 0 => x
  | k + 1 => sft (x / 10) k
theorem sft_zero : ∀ (k : Nat) (x : Int), 0 ≤ x → (sft x k = 0 ↔ x < 10 ^ k)
  | 0, x, h => by rw [sft, Int.pow_zero]; omega
  | k + 1, x, h => by
    have := sft_zero k (x / 10) (by omega)
    rw [sft, this, Int.pow_succ]; omega
/-- a field of a card, its columns put in -/
def putF (xs : List Int) (f t : Int) (p : List Int) : List Int := xs.take f.toNat ++ p ++ xs.drop t.toNat
theorem putF_len {xs : List Int} {f t : Int} {p : List Int} (h : 0 ≤ f ∧ f < t ∧ t ≤ xs.length) (hp : (p.length : Int) = t - f) : (putF xs f t p).length = xs.length := by
  simp only [putF, List.length_append, List.length_take, List.length_drop]; omega
/-- no column of the field has a hole -/
def blkB (xs : List Int) (f t : Int) : Bool := !(prt xs f t).any fun m => decide (¬ m = 0)
theorem blkB_at {xs : List Int} {f t : Int} (h : blkB xs f t = true) {k : Nat} (hk : k < (prt xs f t).length) : (prt xs f t).getD k 0 = 0 := by
  simp only [blkB, Bool.not_eq_true', List.any_eq_false, decide_eq_true_eq, Decidable.not_not] at h
  rw [List.getD_eq_getElem?_getD, List.getElem?_eq_getElem hk]
  exact h _ (List.getElem_mem hk)
theorem blkB_no {xs : List Int} {f t : Int} {k : Nat} (hk : k < (prt xs f t).length) (h : ¬ (prt xs f t).getD k 0 = 0) : blkB xs f t = false := by
  cases hb : blkB xs f t
  · rfl
  · exact absurd (blkB_at hb hk) h
theorem blkB_yes {xs : List Int} {f t : Int} (h : ∀ k, k < (prt xs f t).length → (prt xs f t).getD k 0 = 0) : blkB xs f t = true := by
  simp only [blkB, Bool.not_eq_true', List.any_eq_false, decide_eq_true_eq, Decidable.not_not]
  intro m hm
  obtain ⟨j, hj, rfl⟩ := List.mem_iff_getElem.1 hm
  have := h j hj
  rwa [List.getD_eq_getElem?_getD, List.getElem?_eq_getElem hj] at this
/-- the code from card i on -/
def serF (xss : List (List Int)) (f t first : Int) (i : Nat) : Int :=
  if h : i < xss.length then (if first + i < 10 ^ (t - f).toNat then (if blkB (xss.getD i []) f t = true then serF xss f t first (i + 1) else 9) else 5) else 0
termination_by xss.length - i
section
variable {xss : List (List Int)} {f t first : Int} {i : Nat}
theorem serF_end (h : ¬ i < xss.length) : serF xss f t first i = 0 := by rw [serF, dif_neg h]
theorem serF_5 (h : i < xss.length) (h1 : ¬ first + i < 10 ^ (t - f).toNat) : serF xss f t first i = 5 := by rw [serF, dif_pos h, if_neg h1]
theorem serF_9 (h : i < xss.length) (h1 : first + i < 10 ^ (t - f).toNat) (h2 : blkB (xss.getD i []) f t = false) : serF xss f t first i = 9 := by rw [serF, dif_pos h, if_pos h1, if_neg (by rw [h2]; decide)]
theorem serF_on (h : i < xss.length) (h1 : first + i < 10 ^ (t - f).toNat) (h2 : blkB (xss.getD i []) f t = true) : serF xss f t first i = serF xss f t first (i + 1) := by
  conv => lhs; rw [serF, dif_pos h, if_pos h1, if_pos h2]
end
def serAt (xss : List (List Int)) (f t first : Int) (i : Nat) : List Int := putF (xss.getD i []) f t (pun (first + i) (t - f).toNat)
def serL (xss : List (List Int)) (f t first : Int) : List (List Int) := (List.range xss.length).map (serAt xss f t first)
theorem serL_len (xss : List (List Int)) (f t first : Int) : (serL xss f t first).length = xss.length := by simp [serL]
theorem serL_get {xss : List (List Int)} {f t first : Int} {i : Nat} (h : i < xss.length) : (serL xss f t first)[i]? = some (serAt xss f t first i) := by simp [serL, h]
def cSer (xss : List (List Int)) (f t first : Int) : Int :=
  if okD xss = true then (if (0 ≤ f ∧ f < t ∧ t ≤ widD xss) ∧ t - f ≤ 12 ∧ 0 ≤ first ∧ first ≤ 999999999999 then serF xss f t first 0 else 2) else 1
def resSer (xss : List (List Int)) (f t first : Int) : List (List Int) := if cSer xss f t first = 0 then serL xss f t first else []
end Go.Proofs.YtdkedajdgllilaaDoor

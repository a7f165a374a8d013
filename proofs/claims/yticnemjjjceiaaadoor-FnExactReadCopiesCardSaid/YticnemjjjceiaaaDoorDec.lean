/- Numbers in decimal: the reference's. -/
import Derived.Test.YticnemjjjceiaaaDoorLawA
import Derived.Test.YticnemjjjceiaaaDoorL15
import Derived.Lib.ItoaNum
namespace Go.Proofs.YticnemjjjceiaaaDoor
open Go Go.Gw
set_option linter.unusedVariables false
set_option linter.unusedSimpArgs false
/-- the decimal digits of a number, none for 0 -/
def dec0 (u : Nat) : List UInt8 := if u = 0 then [] else Lib.decDigits u
theorem dec0_step {u : Nat} (h : u ≠ 0) : dec0 u = dec0 (u / 10) ++ [UInt8.ofNat (48 + u % 10)] := by
  unfold dec0
  rw [if_neg h, Lib.decDigits]
  by_cases h1 : u < 10
  · rw [dif_pos h1, if_pos (by omega), show u % 10 = u by omega]; rfl
  · rw [dif_neg h1, if_neg (by omega)]
theorem nDigits_pow : ∀ (k u : Nat), u < 10 ^ (k + 1) → Lib.nDigits u ≤ k + 1
  | 0, u, h => by rw [Lib.nDigits_small (by simpa using h)]; omega
  | k + 1, u, h => by
    by_cases h1 : u < 10
    · rw [Lib.nDigits_small h1]; omega
    · rw [Lib.nDigits_big h1]
      have := nDigits_pow k (u / 10) (by rw [Nat.pow_succ] at h; omega)
      omega
theorem nDigits_pos (u : Nat) : 1 ≤ Lib.nDigits u := by
  by_cases h : u < 10
  · rw [Lib.nDigits_small h]; omega
  · rw [Lib.nDigits_big h]; omega
theorem pow_nDigits : ∀ (k u : Nat), 10 ^ k ≤ u → k + 1 ≤ Lib.nDigits u
  | 0, u, h => nDigits_pos u
  | k + 1, u, h => by
    have h0 : 10 ^ 1 ≤ 10 ^ (k + 1) := Nat.pow_le_pow_right (by omega) (by omega)
    rw [Lib.nDigits_big (by omega)]
    have := pow_nDigits k (u / 10) (by rw [Nat.pow_succ] at h; omega)
    omega
theorem dec0_len (u : Nat) (h : u < 10 ^ 19) : (dec0 u).length ≤ 19 := by
  unfold dec0; split
  · simp
  · rw [Lib.decDigits_length]; exact nDigits_pow 18 u h
theorem itoa_len {n : Int} (h : In64 n) : (Lib.itoa n).length ≤ 20 := by
  unfold Lib.itoa In64 at *
  have e : (10 : Nat) ^ 19 = 10000000000000000000 := by decide
  split
  · rw [List.length_cons, Lib.decDigits_length]
    have := nDigits_pow 18 n.natAbs (by omega)
    omega
  · rw [Lib.decDigits_length]
    have := nDigits_pow 18 n.toNat (by omega)
    omega
theorem itoa_dec0 (n : Int) : Lib.itoa n = if n = 0 then [48] else if n < 0 then 45 :: dec0 n.natAbs else dec0 n.natAbs := by
  unfold Lib.itoa dec0
  by_cases h0 : n = 0
  · subst h0; simp [Lib.decDigits]
  · rw [if_neg h0, if_neg (show ¬ n.natAbs = 0 by omega)]
    split
    · rfl
    · rw [show n.toNat = n.natAbs by omega]
end Go.Proofs.YticnemjjjceiaaaDoor

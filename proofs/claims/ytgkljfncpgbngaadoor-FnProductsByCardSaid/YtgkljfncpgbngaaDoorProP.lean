/- Plain laws of products: components add up, a half is adjusted by a half at most. -/
import Derived.Test.YtgkljfncpgbngaaDoorNum
namespace Go.Proofs.YtgkljfncpgbngaaDoor
open Go Go.Gw
set_option linter.unusedVariables false
set_option linter.unusedSimpArgs false
theorem parts_alg {n d r l p m x y z u : Int} (h1 : n = 10 * m + x) (h2 : x * d = 10 * z + y) (hu : u = r + y * p + 10 * (l + z * p) + m * d * (p * 10)) : u = r + 10 * l + n * d * p := by
  subst hu; subst h1
  grind
theorem parts_sum (d : Int) : ∀ (k : Nat) (n r l p : Int), n.toNat ≤ k → 0 ≤ n → (partsF n d r l p).1 + 10 * (partsF n d r l p).2 = r + 10 * l + n * d * p
  | 0, n, r, l, p, hk, h0 => by
    rw [partsF_end (by omega), show n = 0 by omega]; simp
  | k + 1, n, r, l, p, hk, h0 => by
    by_cases h : 0 < n
    · rw [partsF_step h, parts_sum d k (n / 10) _ _ _ (by omega) (by omega)]
      exact parts_alg (m := n / 10) (x := n % 10) (y := n % 10 * d % 10) (z := n % 10 * d / 10) (by omega) (by omega) rfl
    · rw [partsF_end h, show n = 0 by omega]; simp
theorem parts_all {n d : Int} (h : 0 ≤ n) : (partsF n d 0 0 1).1 + 10 * (partsF n d 0 0 1).2 = n * d := by
  rw [parts_sum d n.toNat n 0 0 1 (Nat.le_refl _) h]; simp
/-- what HalfAdjust answers -/
def halfV (n : Int) (P : Int) : Int := if n < 0 then -((2 * max n (-n) + P) / (2 * P)) else (2 * max n (-n) + P) / (2 * P)
theorem half_bd {n P : Int} (hP : 0 < P) : -(2 * max n (-n) + P) ≤ 2 * (halfV n P * P) ∧ 2 * (halfV n P * P) ≤ 2 * max n (-n) + P ∧ 2 * (halfV n P * P - n) ≤ P ∧ -(2 * (halfV n P * P - n)) ≤ P := by
  have h1 := Int.emod_add_mul_ediv (2 * max n (-n) + P) (2 * P)
  have h2 := Int.emod_nonneg (2 * max n (-n) + P) (show 2 * P ≠ 0 by omega)
  have h3 := Int.emod_lt_of_pos (2 * max n (-n) + P) (show 0 < 2 * P by omega)
  unfold halfV
  generalize hq : (2 * max n (-n) + P) / (2 * P) = q at *
  have e : 2 * P * q = 2 * (q * P) := by rw [Int.mul_assoc, Int.mul_comm P q]
  rw [e] at h1
  have hq0 : 0 ≤ q * P := by
    refine Int.mul_nonneg ?_ (by omega)
    rw [← hq]
    exact Int.ediv_nonneg (by omega) (by omega)
  split
  · rw [Int.neg_mul]; omega
  · omega
theorem mulB {a b A B : Int} (ha : 0 ≤ a ∧ a ≤ A) (hb : 0 ≤ b ∧ b ≤ B) : 0 ≤ a * b ∧ a * b ≤ A * B :=
  ⟨Int.mul_nonneg ha.1 hb.1, Int.mul_le_mul ha.2 hb.2 hb.1 (by omega)⟩
theorem quot_law {d e : Int} (he : ¬ e = 0) : d.tdiv e * e + d.tmod e = d ∧ max (d.tmod e) (-(d.tmod e)) < max e (-e) := by
  refine ⟨by rw [Int.mul_comm]; exact Int.mul_tdiv_add_tmod d e, ?_⟩
  have h := Int.natAbs_tmod d e
  have h2 : d.natAbs % e.natAbs < e.natAbs := Nat.mod_lt _ (by omega)
  omega
end Go.Proofs.YtgkljfncpgbngaaDoor

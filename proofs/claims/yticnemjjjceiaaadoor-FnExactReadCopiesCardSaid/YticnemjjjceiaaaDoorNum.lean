/- Contracts of small functions on numbers. -/
import Derived.Test.YticnemjjjceiaaaDoorTy
namespace Go.Proofs.YticnemjjjceiaaaDoor
open Go Go.Gw
set_option linter.unusedVariables false
set_option linter.unusedSimpArgs false

theorem pow10_le {k m : Nat} (h : k ≤ m) : (10 : Int) ^ k ≤ 10 ^ m := by
  have : (10 : Nat) ^ k ≤ 10 ^ m := Nat.pow_le_pow_right (by omega) h
  exact_mod_cast this
theorem pow10_pos (k : Nat) : (0 : Int) < 10 ^ k := by
  have : (0 : Nat) < 10 ^ k := Nat.pow_pos (by omega)
  exact_mod_cast this
theorem pow10_18 {k : Nat} (h : k ≤ 18) : (10 : Int) ^ k ≤ 1000000000000000000 := pow10_le h
theorem pow10_12 {k : Nat} (h : k ≤ 12) : (10 : Int) ^ k ≤ 1000000000000 := pow10_le h
theorem pow10_succ (n : Int) (h : 0 ≤ n) : (10 : Int) ^ (n + 1).toNat = 10 ^ n.toNat * 10 := by
  rw [show (n + 1).toNat = n.toNat + 1 by omega, Int.pow_succ]

theorem inside_c (n lo hi : Int) : Pur Tryd.prog 26 [.int .i64 n, .int .i64 lo, .int .i64 hi] (.bool (decide (lo ≤ n ∧ n ≤ hi))) := by
  refine ⟨fun w => ?_⟩
  refine ret_enter Tryd.func26 rfl Tryd.ntmps26 rfl ?_
  focus
    refine c_seq ?_
    refine c_region ?_
    refine w_pure (y_assign rfl) rfl ?_
    refine w_nil ?_
    refine x_next ?_
    refine c_seq ?_
    refine c_region ?_
    refine w_pure (y_move rfl) rfl ?_
    refine w_pure (y_move rfl) rfl ?_
    refine w_pure (y_ge rfl rfl) rfl ?_
    refine w_pure (y_move rfl) rfl ?_
    (refine w_part_dec rfl rfl (fun hc => ?_) (fun hc => ?_) <;> try (exfalso; omega))
    refine w_yes rfl rfl ?_
    refine w_pure (y_move rfl) rfl ?_
    refine w_yes rfl rfl ?_
    refine w_pure (y_move rfl) rfl ?_
    refine w_yes rfl rfl ?_
    refine w_pure (y_le rfl rfl) rfl ?_
    refine w_pure (y_pick_t rfl rfl) rfl ?_
    refine w_pure (y_assign rfl) rfl ?_
    refine w_nil ?_
    refine x_next ?_
    refine c_ret ?_
    rotate_left
    refine w_no rfl rfl rfl rfl ?_
    refine w_no rfl rfl rfl rfl ?_
    refine w_no rfl rfl rfl rfl ?_
    refine w_pure (y_pick_f rfl rfl) rfl ?_
    refine w_pure (y_assign rfl) rfl ?_
    refine w_nil ?_
    refine x_next ?_
    refine c_ret ?_
    rotate_left
  all_goals refine x_retv [_] rfl ⟨rfl, trivial⟩ ⟨?_, rfl⟩
  all_goals simp [ofResults, hc]
theorem l00In_c (n lo hi : Int) : Pur Tryd.prog 20 [.int .i64 n, .int .i64 lo, .int .i64 hi] (.bool (decide (lo ≤ n ∧ n ≤ hi))) := by
  refine ⟨fun w => ?_⟩
  refine ret_enter Tryd.func20 rfl Tryd.ntmps20 rfl ?_
  focus
    refine c_seq ?_
    refine c_region ?_
    refine w_pure (y_assign rfl) rfl ?_
    refine w_nil ?_
    refine x_next ?_
    refine c_seq ?_
    refine c_region ?_
    refine w_pure (y_move rfl) rfl ?_
    refine w_pure (y_move rfl) rfl ?_
    refine w_pure (y_ge rfl rfl) rfl ?_
    refine w_pure (y_move rfl) rfl ?_
    (refine w_part_dec rfl rfl (fun hc => ?_) (fun hc => ?_) <;> try (exfalso; omega))
    refine w_yes rfl rfl ?_
    refine w_pure (y_move rfl) rfl ?_
    refine w_yes rfl rfl ?_
    refine w_pure (y_move rfl) rfl ?_
    refine w_yes rfl rfl ?_
    refine w_pure (y_le rfl rfl) rfl ?_
    refine w_pure (y_pick_t rfl rfl) rfl ?_
    refine w_pure (y_assign rfl) rfl ?_
    refine w_nil ?_
    refine x_next ?_
    refine c_ret ?_
    rotate_left
    refine w_no rfl rfl rfl rfl ?_
    refine w_no rfl rfl rfl rfl ?_
    refine w_no rfl rfl rfl rfl ?_
    refine w_pure (y_pick_f rfl rfl) rfl ?_
    refine w_pure (y_assign rfl) rfl ?_
    refine w_nil ?_
    refine x_next ?_
    refine c_ret ?_
    rotate_left
  all_goals refine x_retv [_] rfl ⟨rfl, trivial⟩ ⟨?_, rfl⟩
  all_goals simp [ofResults, hc]

/-! ### components of a product -/
def partsF (n d r l p : Int) : Int × Int := if 0 < n then partsF (n / 10) d (r + n % 10 * d % 10 * p) (l + n % 10 * d / 10 * p) (p * 10) else (r, l)
  termination_by n.toNat
  decreasing_by omega
theorem partsF_step {n d r l p : Int} (h : 0 < n) : partsF n d r l p = partsF (n / 10) d (r + n % 10 * d % 10 * p) (l + n % 10 * d / 10 * p) (p * 10) := by
  conv => lhs; rw [partsF, if_pos h]
theorem partsF_end {n d r l p : Int} (h : ¬ 0 < n) : partsF n d r l p = (r, l) := by rw [partsF, if_neg h]
theorem parts_bd {n d p M : Int} (hd0 : 0 ≤ d) (hd : d ≤ 9) (hn : 0 < n) (hp : 0 < p) (hM : n * p ≤ M) :
    p ≤ M ∧ 0 ≤ n % 10 * d ∧ n % 10 * d ≤ 81 ∧ 0 ≤ n % 10 * d % 10 * p ∧ n % 10 * d % 10 * p ≤ 9 * p ∧ 0 ≤ n % 10 * d / 10 * p ∧ n % 10 * d / 10 * p ≤ 9 * p ∧ n / 10 * (p * 10) ≤ M := by
  have h1 : p ≤ n * p := by
    have := Int.mul_le_mul_of_nonneg_right (show 1 ≤ n by omega) (show 0 ≤ p by omega)
    omega
  have h2 : 0 ≤ n % 10 * d := Int.mul_nonneg (by omega) hd0
  have h3 : n % 10 * d ≤ 81 := by
    have a := Int.mul_le_mul_of_nonneg_right (show n % 10 ≤ 9 by omega) hd0
    omega
  have h4 : n / 10 * (p * 10) ≤ n * p := by
    have : n / 10 * (p * 10) = (n / 10 * 10) * p := by rw [Int.mul_comm p 10, Int.mul_assoc]
    rw [this]
    exact Int.mul_le_mul_of_nonneg_right (by omega) (by omega)
  refine ⟨by omega, h2, h3, Int.mul_nonneg (by omega) (by omega), Int.mul_le_mul_of_nonneg_right (by omega) (by omega), Int.mul_nonneg (by omega) (by omega), Int.mul_le_mul_of_nonneg_right (by omega) (by omega), by omega⟩

end Go.Proofs.YticnemjjjceiaaaDoor

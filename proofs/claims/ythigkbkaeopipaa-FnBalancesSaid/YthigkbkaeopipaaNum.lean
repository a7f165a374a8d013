/- Contracts of small functions on numbers. -/
import Derived.Test.YthigkbkaeopipaaTy
namespace Go.Proofs.Ythigkbkaeopipaa
open Go Go.Gw
set_option linter.unusedVariables false
set_option linter.unusedSimpArgs false

theorem pow10_le {k m : Nat} (h : k ≤ m) : (10 : Int) ^ k ≤ 10 ^ m := by
  have : (10 : Nat) ^ k ≤ 10 ^ m := Nat.pow_le_pow_right (by omega) h
  exact_mod_cast this
theorem pow10_pos (k : Nat) : (0 : Int) < 10 ^ k := by
  have : (0 : Nat) < 10 ^ k := Nat.pow_pos (by omega)
  exact_mod_cast this
theorem pow10_18 {k : Nat} (h : k ≤ 18) : (10 : Int) ^ k ≤ 1000000000000000000 := pow10_le h
theorem pow10_12 {k : Nat} (h : k ≤ 12) : (10 : Int) ^ k ≤ 1000000000000 := pow10_le h
theorem pow10_succ (n : Int) (h : 0 ≤ n) : (10 : Int) ^ (n + 1).toNat = 10 ^ n.toNat * 10 := by
  rw [show (n + 1).toNat = n.toNat + 1 by omega, Int.pow_succ]

theorem inside_c (n lo hi : Int) : Pur Try.prog 81 [.int .i64 n, .int .i64 lo, .int .i64 hi] (.bool (decide (lo ≤ n ∧ n ≤ hi))) := by
  refine ⟨fun w => ?_⟩
  refine ret_enter Try.func81 rfl Try.ntmps81 rfl ?_
  focus
    refine c_seq ?_
    refine c_region ?_
    refine w_pure (y_assign rfl) rfl ?_
    refine w_nil ?_
    refine x_next ?_
    refine c_seq ?_
    refine c_region ?_
    refine w_pure (y_move rfl) rfl ?_
    refine w_pure (y_move rfl) rfl ?_
    refine w_pure (y_ge rfl rfl) rfl ?_
    refine w_pure (y_move rfl) rfl ?_
    (refine w_part_dec rfl rfl (fun hc => ?_) (fun hc => ?_) <;> try (exfalso; omega))
    refine w_yes rfl rfl ?_
    refine w_pure (y_move rfl) rfl ?_
    refine w_yes rfl rfl ?_
    refine w_pure (y_move rfl) rfl ?_
    refine w_yes rfl rfl ?_
    refine w_pure (y_le rfl rfl) rfl ?_
    refine w_pure (y_pick_t rfl rfl) rfl ?_
    refine w_pure (y_assign rfl) rfl ?_
    refine w_nil ?_
    refine x_next ?_
    refine c_ret ?_
    rotate_left
    refine w_no rfl rfl rfl rfl ?_
    refine w_no rfl rfl rfl rfl ?_
    refine w_no rfl rfl rfl rfl ?_
    refine w_pure (y_pick_f rfl rfl) rfl ?_
    refine w_pure (y_assign rfl) rfl ?_
    refine w_nil ?_
    refine x_next ?_
    refine c_ret ?_
    rotate_left
  all_goals refine x_retv [_] rfl ⟨rfl, trivial⟩ ⟨?_, rfl⟩
  all_goals simp [ofResults, hc]
theorem l00In_c (n lo hi : Int) : Pur Try.prog 86 [.int .i64 n, .int .i64 lo, .int .i64 hi] (.bool (decide (lo ≤ n ∧ n ≤ hi))) := by
  refine ⟨fun w => ?_⟩
  refine ret_enter Try.func86 rfl Try.ntmps86 rfl ?_
  focus
    refine c_seq ?_
    refine c_region ?_
    refine w_pure (y_assign rfl) rfl ?_
    refine w_nil ?_
    refine x_next ?_
    refine c_seq ?_
    refine c_region ?_
    refine w_pure (y_move rfl) rfl ?_
    refine w_pure (y_move rfl) rfl ?_
    refine w_pure (y_ge rfl rfl) rfl ?_
    refine w_pure (y_move rfl) rfl ?_
    (refine w_part_dec rfl rfl (fun hc => ?_) (fun hc => ?_) <;> try (exfalso; omega))
    refine w_yes rfl rfl ?_
    refine w_pure (y_move rfl) rfl ?_
    refine w_yes rfl rfl ?_
    refine w_pure (y_move rfl) rfl ?_
    refine w_yes rfl rfl ?_
    refine w_pure (y_le rfl rfl) rfl ?_
    refine w_pure (y_pick_t rfl rfl) rfl ?_
    refine w_pure (y_assign rfl) rfl ?_
    refine w_nil ?_
    refine x_next ?_
    refine c_ret ?_
    rotate_left
    refine w_no rfl rfl rfl rfl ?_
    refine w_no rfl rfl rfl rfl ?_
    refine w_no rfl rfl rfl rfl ?_
    refine w_pure (y_pick_f rfl rfl) rfl ?_
    refine w_pure (y_assign rfl) rfl ?_
    refine w_nil ?_
    refine x_next ?_
    refine c_ret ?_
    rotate_left
  all_goals refine x_retv [_] rfl ⟨rfl, trivial⟩ ⟨?_, rfl⟩
  all_goals simp [ofResults, hc]
theorem l00Max_c (a b : Int) : Pur Try.prog 79 [.int .i64 a, .int .i64 b] (.int .i64 (max a b)) := by
  refine ⟨fun w => ?_⟩
  refine ret_enter Try.func79 rfl Try.ntmps79 rfl ?_
  focus
    refine c_seq ?_
    refine c_region ?_
    refine w_pure (y_assign rfl) rfl ?_
    refine w_nil ?_
    refine x_next ?_
    refine c_seq ?_
    refine c_seq ?_
    refine c_region ?_
    refine w_pure (y_move rfl) rfl ?_
    refine w_pure (y_move rfl) rfl ?_
    refine w_pure (y_gt rfl rfl) rfl ?_
    refine w_nil ?_
    refine x_next ?_
    (refine c_dec rfl (fun hc => ?_) (fun hc => ?_) <;> try (exfalso; omega))
    refine c_seq ?_
    refine c_region ?_
    refine w_pure (y_move rfl) rfl ?_
    refine w_pure (y_assign rfl) rfl ?_
    refine w_nil ?_
    refine x_next ?_
    refine c_ret ?_
    refine x_then_ret ?_
    rotate_left
    refine c_skip ?_
    refine x_next ?_
    refine c_seq ?_
    refine c_region ?_
    refine w_pure (y_move rfl) rfl ?_
    refine w_pure (y_assign rfl) rfl ?_
    refine w_nil ?_
    refine x_next ?_
    refine c_ret ?_
    rotate_left
  all_goals refine x_retv [_] rfl ⟨rfl, trivial⟩ ⟨?_, rfl⟩
  all_goals simp only [ofResults]; congr 1; omega
theorem l11Power_c (n : Int) (h0 : 0 ≤ n) (h1 : n ≤ 18) : Pur Try.prog 78 [.int .i64 n] (.int .i64 (10 ^ n.toNat)) := by
  refine ⟨fun w0 => ?_⟩
  refine ret_enter Try.func78 rfl Try.ntmps78 rfl ?_
  focus
    refine c_seq ?_
    refine c_region ?_
    refine w_pure (y_assign rfl) rfl ?_
    refine w_nil ?_
    refine x_next ?_
    refine c_seq ?_
    refine c_region ?_
    refine w_pure (y_assign rfl) rfl ?_
    refine w_nil ?_
    refine x_next ?_
    refine c_seq ?_
    refine c_block ?_
    rotate_left
  refine c_loop (ι := Int × Int) (fun x => [(0, .int .i64 x.1), (3, .int .i64 x.2)]) (fun x w => w = w0 ∧ 0 ≤ x.1 ∧ x.1 ≤ n ∧ x.2 = 10 ^ (n - x.1).toNat) (fun x => x.1.toNat) (n, 1) ⟨rfl, rfl, trivial⟩ ⟨rfl, h0, by omega, by simp⟩ ?_
  rintro ⟨m, p⟩ w ⟨rfl, hm0, hmn, hp⟩
  dsimp only at *
  have hp0 : 0 < p := by rw [hp]; exact pow10_pos _
  have hp1 : p ≤ 1000000000000000000 := by rw [hp]; exact pow10_18 (by omega)
  have hp2 : 0 < m → p * 10 ≤ 1000000000000000000 := fun hm => by
    have : p * 10 = 10 ^ (n - m + 1).toNat := by rw [pow10_succ _ (by omega), hp]
    rw [this]; exact pow10_18 (by omega)
  focus
    refine c_seq ?_
    refine c_seq ?_
    refine c_region ?_
    refine w_pure (y_move rfl) rfl ?_
    refine w_pure (y_gt rfl rfl) rfl ?_
    refine w_nil ?_
    refine x_next ?_
    (refine c_dec rfl (fun hc => ?_) (fun hc => ?_) <;> try (exfalso; omega))
    refine c_skip ?_
    refine x_next ?_
    refine c_seq ?_
    refine c_block ?_
    refine c_region ?_
    refine w_pure (y_move rfl) rfl ?_
    refine w_pure (y_mul rfl rfl) rfl ?_
    refine w_pure (y_assign rfl) rfl ?_
    refine w_nil ?_
    refine x_block_norm ?_
    refine x_next ?_
    refine c_region ?_
    refine w_pure (y_move rfl) rfl ?_
    refine w_pure (y_sub rfl rfl) rfl ?_
    refine w_pure (y_assign rfl) rfl ?_
    refine w_nil ?_
    rotate_left
    refine c_exit ?_
    refine x_then_exit ?_
    refine x_then_exit ?_
    refine x_block_hit ?_
    refine x_next ?_
    refine c_seq ?_
    refine c_region ?_
    refine w_pure (y_move rfl) rfl ?_
    refine w_pure (y_assign rfl) rfl ?_
    refine w_nil ?_
    refine x_next ?_
    refine c_ret ?_
    rotate_left
  · have := hp2 hc
    refine x_again (m - 1, p * 10) ⟨rfl, rfl, trivial⟩ ⟨rfl, by dsimp only; omega, by dsimp only; omega, ?_⟩ (by dsimp only; omega)
    dsimp only
    rw [show n - (m - 1) = n - m + 1 by omega, pow10_succ _ (by omega), hp]
  · obtain rfl : m = 0 := by omega
    refine x_retv [_] rfl ⟨rfl, trivial⟩ ⟨?_, rfl⟩
    rw [hp]; simp [ofResults]

/-! ### components of a product -/
def partsF (n d r l p : Int) : Int × Int := if 0 < n then partsF (n / 10) d (r + n % 10 * d % 10 * p) (l + n % 10 * d / 10 * p) (p * 10) else (r, l)
  termination_by n.toNat
  decreasing_by omega
theorem partsF_step {n d r l p : Int} (h : 0 < n) : partsF n d r l p = partsF (n / 10) d (r + n % 10 * d % 10 * p) (l + n % 10 * d / 10 * p) (p * 10) := by
  conv => lhs; rw [partsF, if_pos h]
theorem partsF_end {n d r l p : Int} (h : ¬ 0 < n) : partsF n d r l p = (r, l) := by rw [partsF, if_neg h]
theorem parts_bd {n d p M : Int} (hd0 : 0 ≤ d) (hd : d ≤ 9) (hn : 0 < n) (hp : 0 < p) (hM : n * p ≤ M) :
    p ≤ M ∧ 0 ≤ n % 10 * d ∧ n % 10 * d ≤ 81 ∧ 0 ≤ n % 10 * d % 10 * p ∧ n % 10 * d % 10 * p ≤ 9 * p ∧ 0 ≤ n % 10 * d / 10 * p ∧ n % 10 * d / 10 * p ≤ 9 * p ∧ n / 10 * (p * 10) ≤ M := by
  have h1 : p ≤ n * p := by
    have := Int.mul_le_mul_of_nonneg_right (show 1 ≤ n by omega) (show 0 ≤ p by omega)
    omega
  have h2 : 0 ≤ n % 10 * d := Int.mul_nonneg (by omega) hd0
  have h3 : n % 10 * d ≤ 81 := by
    have a := Int.mul_le_mul_of_nonneg_right (show n % 10 ≤ 9 by omega) hd0
    omega
  have h4 : n / 10 * (p * 10) ≤ n * p := by
    have : n / 10 * (p * 10) = (n / 10 * 10) * p := by rw [Int.mul_comm p 10, Int.mul_assoc]
    rw [this]
    exact Int.mul_le_mul_of_nonneg_right (by omega) (by omega)
  refine ⟨by omega, h2, h3, Int.mul_nonneg (by omega) (by omega), Int.mul_le_mul_of_nonneg_right (by omega) (by omega), Int.mul_nonneg (by omega) (by omega), Int.mul_le_mul_of_nonneg_right (by omega) (by omega), by omega⟩

end Go.Proofs.Ythigkbkaeopipaa

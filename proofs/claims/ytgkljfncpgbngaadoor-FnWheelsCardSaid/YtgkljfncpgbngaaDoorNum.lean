/- Contracts of small functions on numbers. -/
import Derived.Test.YtgkljfncpgbngaaDoorTy
namespace Go.Proofs.YtgkljfncpgbngaaDoor
open Go Go.Gw
set_option linter.unusedVariables false
set_option linter.unusedSimpArgs false

theorem pow10_le {k m : Nat} (h : k ≤ m) : (10 : Int) ^ k ≤ 10 ^ m := by
  have : (10 : Nat) ^ k ≤ 10 ^ m := Nat.pow_le_pow_right (by omega) h
  exact_mod_cast this
theorem pow10_pos (k : Nat) : (0 : Int) < 10 ^ k := by
  have : (0 : Nat) < 10 ^ k := Nat.pow_pos (by omega)
  exact_mod_cast this
theorem pow10_18 {k : Nat} (h : k ≤ 18) : (10 : Int) ^ k ≤ 1000000000000000000 := pow10_le h
theorem pow10_12 {k : Nat} (h : k ≤ 12) : (10 : Int) ^ k ≤ 1000000000000 := pow10_le h
theorem pow10_succ (n : Int) (h : 0 ≤ n) : (10 : Int) ^ (n + 1).toNat = 10 ^ n.toNat * 10 := by
  rw [show (n + 1).toNat = n.toNat + 1 by omega, Int.pow_succ]

theorem inside_c (n lo hi : Int) : Pur Tryd.prog 62 [.int .i64 n, .int .i64 lo, .int .i64 hi] (.bool (decide (lo ≤ n ∧ n ≤ hi))) := by
  refine ⟨fun w => ?_⟩
  refine ret_enter Tryd.func62 rfl Tryd.ntmps62 rfl ?_
  focus
    refine c_seq ?_
    refine c_region ?_
    refine w_pure (y_assign rfl) rfl ?_
    refine w_nil ?_
    refine x_next ?_
    refine c_seq ?_
    refine c_region ?_
    refine w_pure (y_move rfl) rfl ?_
    refine w_pure (y_move rfl) rfl ?_
    refine w_pure (y_ge rfl rfl) rfl ?_
    refine w_pure (y_move rfl) rfl ?_
    (refine w_part_dec rfl rfl (fun hc => ?_) (fun hc => ?_) <;> try (exfalso; omega))
    refine w_yes rfl rfl ?_
    refine w_pure (y_move rfl) rfl ?_
    refine w_yes rfl rfl ?_
    refine w_pure (y_move rfl) rfl ?_
    refine w_yes rfl rfl ?_
    refine w_pure (y_le rfl rfl) rfl ?_
    refine w_pure (y_pick_t rfl rfl) rfl ?_
    refine w_pure (y_assign rfl) rfl ?_
    refine w_nil ?_
    refine x_next ?_
    refine c_ret ?_
    rotate_left
    refine w_no rfl rfl rfl rfl ?_
    refine w_no rfl rfl rfl rfl ?_
    refine w_no rfl rfl rfl rfl ?_
    refine w_pure (y_pick_f rfl rfl) rfl ?_
    refine w_pure (y_assign rfl) rfl ?_
    refine w_nil ?_
    refine x_next ?_
    refine c_ret ?_
    rotate_left
  all_goals refine x_retv [_] rfl ⟨rfl, trivial⟩ ⟨?_, rfl⟩
  all_goals simp [ofResults, hc]
theorem l00In_c (n lo hi : Int) : Pur Tryd.prog 63 [.int .i64 n, .int .i64 lo, .int .i64 hi] (.bool (decide (lo ≤ n ∧ n ≤ hi))) := by
  refine ⟨fun w => ?_⟩
  refine ret_enter Tryd.func63 rfl Tryd.ntmps63 rfl ?_
  focus
    refine c_seq ?_
    refine c_region ?_
    refine w_pure (y_assign rfl) rfl ?_
    refine w_nil ?_
    refine x_next ?_
    refine c_seq ?_
    refine c_region ?_
    refine w_pure (y_move rfl) rfl ?_
    refine w_pure (y_move rfl) rfl ?_
    refine w_pure (y_ge rfl rfl) rfl ?_
    refine w_pure (y_move rfl) rfl ?_
    (refine w_part_dec rfl rfl (fun hc => ?_) (fun hc => ?_) <;> try (exfalso; omega))
    refine w_yes rfl rfl ?_
    refine w_pure (y_move rfl) rfl ?_
    refine w_yes rfl rfl ?_
    refine w_pure (y_move rfl) rfl ?_
    refine w_yes rfl rfl ?_
    refine w_pure (y_le rfl rfl) rfl ?_
    refine w_pure (y_pick_t rfl rfl) rfl ?_
    refine w_pure (y_assign rfl) rfl ?_
    refine w_nil ?_
    refine x_next ?_
    refine c_ret ?_
    rotate_left
    refine w_no rfl rfl rfl rfl ?_
    refine w_no rfl rfl rfl rfl ?_
    refine w_no rfl rfl rfl rfl ?_
    refine w_pure (y_pick_f rfl rfl) rfl ?_
    refine w_pure (y_assign rfl) rfl ?_
    refine w_nil ?_
    refine x_next ?_
    refine c_ret ?_
    rotate_left
  all_goals refine x_retv [_] rfl ⟨rfl, trivial⟩ ⟨?_, rfl⟩
  all_goals simp [ofResults, hc]
theorem isCalc_c (n : Int) : Pur Tryd.prog 77 [.int .i64 n] (.bool (decide (1 ≤ n ∧ n ≤ 4))) := by
  refine ⟨fun w => ?_⟩
  refine ret_enter Tryd.func77 rfl Tryd.ntmps77 rfl ?_
  focus
    refine c_seq ?_
    refine c_region ?_
    refine w_pure (y_assign rfl) rfl ?_
    refine w_nil ?_
    refine x_next ?_
    refine c_seq ?_
    refine c_region ?_
    refine w_pure (y_move rfl) rfl ?_
    refine w_pur rfl rfl rfl (inside_c _ _ _) rfl ?_
    refine w_pure (y_assign rfl) rfl ?_
    refine w_nil ?_
    refine x_next ?_
    refine c_ret ?_
    rotate_left
  all_goals exact x_retv [_] rfl ⟨rfl, trivial⟩ ⟨rfl, rfl⟩
theorem l14Kind_c (n : Int) : Pur Tryd.prog 75 [.int .i64 n] (.bool (decide (1 ≤ n ∧ n ≤ 4))) := by
  refine ⟨fun w => ?_⟩
  refine ret_enter Tryd.func75 rfl Tryd.ntmps75 rfl ?_
  focus
    refine c_seq ?_
    refine c_region ?_
    refine w_pure (y_assign rfl) rfl ?_
    refine w_nil ?_
    refine x_next ?_
    refine c_seq ?_
    refine c_region ?_
    refine w_pure (y_move rfl) rfl ?_
    refine w_pur rfl rfl rfl (l00In_c _ _ _) rfl ?_
    refine w_pure (y_assign rfl) rfl ?_
    refine w_nil ?_
    refine x_next ?_
    refine c_ret ?_
    rotate_left
  all_goals exact x_retv [_] rfl ⟨rfl, trivial⟩ ⟨rfl, rfl⟩
theorem isNumber_c (n : Int) : Pur Tryd.prog 66 [.int .i64 n] (.bool (decide (-999999999999 ≤ n ∧ n ≤ 999999999999))) := by
  refine ⟨fun w => ?_⟩
  refine ret_enter Tryd.func66 rfl Tryd.ntmps66 rfl ?_
  focus
    refine c_seq ?_
    refine c_region ?_
    refine w_pure (y_assign rfl) rfl ?_
    refine w_nil ?_
    refine x_next ?_
    refine c_seq ?_
    refine c_region ?_
    refine w_pure (y_move rfl) rfl ?_
    refine w_pur rfl rfl rfl (inside_c _ _ _) rfl ?_
    refine w_pure (y_assign rfl) rfl ?_
    refine w_nil ?_
    refine x_next ?_
    refine c_ret ?_
    rotate_left
  all_goals exact x_retv [_] rfl ⟨rfl, trivial⟩ ⟨rfl, rfl⟩
theorem l14Number_c (n : Int) : Pur Tryd.prog 69 [.int .i64 n] (.bool (decide (-999999999999 ≤ n ∧ n ≤ 999999999999))) := by
  refine ⟨fun w => ?_⟩
  refine ret_enter Tryd.func69 rfl Tryd.ntmps69 rfl ?_
  focus
    refine c_seq ?_
    refine c_region ?_
    refine w_pure (y_assign rfl) rfl ?_
    refine w_nil ?_
    refine x_next ?_
    refine c_seq ?_
    refine c_region ?_
    refine w_pure (y_move rfl) rfl ?_
    refine w_pur rfl rfl rfl (l00In_c _ _ _) rfl ?_
    refine w_pure (y_assign rfl) rfl ?_
    refine w_nil ?_
    refine x_next ?_
    refine c_ret ?_
    rotate_left
  all_goals exact x_retv [_] rfl ⟨rfl, trivial⟩ ⟨rfl, rfl⟩
theorem absOf_c (n : Int) (h : -9223372036854775807 ≤ n ∧ n ≤ 9223372036854775807) : Pur Tryd.prog 72 [.int .i64 n] (.int .i64 (max n (-n))) := by
  refine ⟨fun w => ?_⟩
  refine ret_enter Tryd.func72 rfl Tryd.ntmps72 rfl ?_
  focus
    refine c_seq ?_
    refine c_region ?_
    refine w_pure (y_assign rfl) rfl ?_
    refine w_nil ?_
    refine x_next ?_
    refine c_seq ?_
    refine c_region ?_
    refine w_pure (y_move rfl) rfl ?_
    refine w_pure (y_move rfl) rfl ?_
    refine w_pure (y_neg rfl) rfl ?_
    refine w_pure (y_max rfl rfl) rfl ?_
    refine w_pure (y_assign rfl) rfl ?_
    refine w_nil ?_
    refine x_next ?_
    refine c_ret ?_
    rotate_left
  all_goals exact x_retv [_] rfl ⟨rfl, trivial⟩ ⟨rfl, rfl⟩
theorem l00Max_c (a b : Int) : Pur Tryd.prog 101 [.int .i64 a, .int .i64 b] (.int .i64 (max a b)) := by
  refine ⟨fun w => ?_⟩
  refine ret_enter Tryd.func101 rfl Tryd.ntmps101 rfl ?_
  focus
    refine c_seq ?_
    refine c_region ?_
    refine w_pure (y_assign rfl) rfl ?_
    refine w_nil ?_
    refine x_next ?_
    refine c_seq ?_
    refine c_seq ?_
    refine c_region ?_
    refine w_pure (y_move rfl) rfl ?_
    refine w_pure (y_move rfl) rfl ?_
    refine w_pure (y_gt rfl rfl) rfl ?_
    refine w_nil ?_
    refine x_next ?_
    (refine c_dec rfl (fun hc => ?_) (fun hc => ?_) <;> try (exfalso; omega))
    refine c_seq ?_
    refine c_region ?_
    refine w_pure (y_move rfl) rfl ?_
    refine w_pure (y_assign rfl) rfl ?_
    refine w_nil ?_
    refine x_next ?_
    refine c_ret ?_
    refine x_then_ret ?_
    rotate_left
    refine c_skip ?_
    refine x_next ?_
    refine c_seq ?_
    refine c_region ?_
    refine w_pure (y_move rfl) rfl ?_
    refine w_pure (y_assign rfl) rfl ?_
    refine w_nil ?_
    refine x_next ?_
    refine c_ret ?_
    rotate_left
  all_goals refine x_retv [_] rfl ⟨rfl, trivial⟩ ⟨?_, rfl⟩
  all_goals simp only [ofResults]; congr 1; omega
theorem l14Size_c (n : Int) (h : -9223372036854775807 ≤ n ∧ n ≤ 9223372036854775807) : Pur Tryd.prog 59 [.int .i64 n] (.int .i64 (max n (-n))) := by
  refine ⟨fun w => ?_⟩
  refine ret_enter Tryd.func59 rfl Tryd.ntmps59 rfl ?_
  focus
    refine c_seq ?_
    refine c_region ?_
    refine w_pure (y_assign rfl) rfl ?_
    refine w_nil ?_
    refine x_next ?_
    refine c_seq ?_
    refine c_region ?_
    refine w_pure (y_move rfl) rfl ?_
    refine w_pure (y_move rfl) rfl ?_
    refine w_pure (y_neg rfl) rfl ?_
    refine w_pur rfl rfl rfl (l00Max_c _ _) rfl ?_
    refine w_pure (y_assign rfl) rfl ?_
    refine w_nil ?_
    refine x_next ?_
    refine c_ret ?_
    rotate_left
  all_goals exact x_retv [_] rfl ⟨rfl, trivial⟩ ⟨rfl, rfl⟩
theorem l11Power_c (n : Int) (h0 : 0 ≤ n) (h1 : n ≤ 18) : Pur Tryd.prog 73 [.int .i64 n] (.int .i64 (10 ^ n.toNat)) := by
  refine ⟨fun w0 => ?_⟩
  refine ret_enter Tryd.func73 rfl Tryd.ntmps73 rfl ?_
  focus
    refine c_seq ?_
    refine c_region ?_
    refine w_pure (y_assign rfl) rfl ?_
    refine w_nil ?_
    refine x_next ?_
    refine c_seq ?_
    refine c_region ?_
    refine w_pure (y_assign rfl) rfl ?_
    refine w_nil ?_
    refine x_next ?_
    refine c_seq ?_
    refine c_block ?_
    rotate_left
  refine c_loop (ι := Int × Int) (fun x => [(0, .int .i64 x.1), (3, .int .i64 x.2)]) (fun x w => w = w0 ∧ 0 ≤ x.1 ∧ x.1 ≤ n ∧ x.2 = 10 ^ (n - x.1).toNat) (fun x => x.1.toNat) (n, 1) ⟨rfl, rfl, trivial⟩ ⟨rfl, h0, by omega, by simp⟩ ?_
  rintro ⟨m, p⟩ w ⟨rfl, hm0, hmn, hp⟩
  dsimp only at *
  have hp0 : 0 < p := by rw [hp]; exact pow10_pos _
  have hp1 : p ≤ 1000000000000000000 := by rw [hp]; exact pow10_18 (by omega)
  have hp2 : 0 < m → p * 10 ≤ 1000000000000000000 := fun hm => by
    have : p * 10 = 10 ^ (n - m + 1).toNat := by rw [pow10_succ _ (by omega), hp]
    rw [this]; exact pow10_18 (by omega)
  focus
    refine c_seq ?_
    refine c_seq ?_
    refine c_region ?_
    refine w_pure (y_move rfl) rfl ?_
    refine w_pure (y_gt rfl rfl) rfl ?_
    refine w_nil ?_
    refine x_next ?_
    (refine c_dec rfl (fun hc => ?_) (fun hc => ?_) <;> try (exfalso; omega))
    refine c_skip ?_
    refine x_next ?_
    refine c_seq ?_
    refine c_block ?_
    refine c_region ?_
    refine w_pure (y_move rfl) rfl ?_
    refine w_pure (y_mul rfl rfl) rfl ?_
    refine w_pure (y_assign rfl) rfl ?_
    refine w_nil ?_
    refine x_block_norm ?_
    refine x_next ?_
    refine c_region ?_
    refine w_pure (y_move rfl) rfl ?_
    refine w_pure (y_sub rfl rfl) rfl ?_
    refine w_pure (y_assign rfl) rfl ?_
    refine w_nil ?_
    rotate_left
    refine c_exit ?_
    refine x_then_exit ?_
    refine x_then_exit ?_
    refine x_block_hit ?_
    refine x_next ?_
    refine c_seq ?_
    refine c_region ?_
    refine w_pure (y_move rfl) rfl ?_
    refine w_pure (y_assign rfl) rfl ?_
    refine w_nil ?_
    refine x_next ?_
    refine c_ret ?_
    rotate_left
  · have := hp2 hc
    refine x_again (m - 1, p * 10) ⟨rfl, rfl, trivial⟩ ⟨rfl, by dsimp only; omega, by dsimp only; omega, ?_⟩ (by dsimp only; omega)
    dsimp only
    rw [show n - (m - 1) = n - m + 1 by omega, pow10_succ _ (by omega), hp]
  · obtain rfl : m = 0 := by omega
    refine x_retv [_] rfl ⟨rfl, trivial⟩ ⟨?_, rfl⟩
    rw [hp]; simp [ofResults]

/-! ### components of a product -/
def partsF (n d r l p : Int) : Int × Int := if 0 < n then partsF (n / 10) d (r + n % 10 * d % 10 * p) (l + n % 10 * d / 10 * p) (p * 10) else (r, l)
  termination_by n.toNat
  decreasing_by omega
theorem partsF_step {n d r l p : Int} (h : 0 < n) : partsF n d r l p = partsF (n / 10) d (r + n % 10 * d % 10 * p) (l + n % 10 * d / 10 * p) (p * 10) := by
  conv => lhs; rw [partsF, if_pos h]
theorem partsF_end {n d r l p : Int} (h : ¬ 0 < n) : partsF n d r l p = (r, l) := by rw [partsF, if_neg h]
theorem parts_bd {n d p M : Int} (hd0 : 0 ≤ d) (hd : d ≤ 9) (hn : 0 < n) (hp : 0 < p) (hM : n * p ≤ M) :
    p ≤ M ∧ 0 ≤ n % 10 * d ∧ n % 10 * d ≤ 81 ∧ 0 ≤ n % 10 * d % 10 * p ∧ n % 10 * d % 10 * p ≤ 9 * p ∧ 0 ≤ n % 10 * d / 10 * p ∧ n % 10 * d / 10 * p ≤ 9 * p ∧ n / 10 * (p * 10) ≤ M := by
  have h1 : p ≤ n * p := by
    have := Int.mul_le_mul_of_nonneg_right (show 1 ≤ n by omega) (show 0 ≤ p by omega)
    omega
  have h2 : 0 ≤ n % 10 * d := Int.mul_nonneg (by omega) hd0
  have h3 : n % 10 * d ≤ 81 := by
    have a := Int.mul_le_mul_of_nonneg_right (show n % 10 ≤ 9 by omega) hd0
    omega
  have h4 : n / 10 * (p * 10) ≤ n * p := by
    have : n / 10 * (p * 10) = (n / 10 * 10) * p := by rw [Int.mul_comm p 10, Int.mul_assoc]
    rw [this]
    exact Int.mul_le_mul_of_nonneg_right (by omega) (by omega)
  refine ⟨by omega, h2, h3, Int.mul_nonneg (by omega) (by omega), Int.mul_le_mul_of_nonneg_right (by omega) (by omega), Int.mul_nonneg (by omega) (by omega), Int.mul_le_mul_of_nonneg_right (by omega) (by omega), by omega⟩

theorem l14Parts_c (n d : Int) (h0 : 0 ≤ n) (h1 : n ≤ 999999) (hd0 : 0 ≤ d) (hd : d ≤ 9) : Pur Tryd.prog 64 [.int .i64 n, .int .i64 d] (.tuple #[.int .i64 (partsF n d 0 0 1).1, .int .i64 (partsF n d 0 0 1).2]) := by
  refine ⟨fun w0 => ?_⟩
  refine ret_enter Tryd.func64 rfl Tryd.ntmps64 rfl ?_
  focus
    refine c_seq ?_
    refine c_region ?_
    refine w_pure (y_assign rfl) rfl ?_
    refine w_pure (y_assign rfl) rfl ?_
    refine w_nil ?_
    refine x_next ?_
    refine c_seq ?_
    refine c_region ?_
    refine w_pure (y_assign rfl) rfl ?_
    refine w_nil ?_
    refine x_next ?_
    refine c_seq ?_
    refine c_region ?_
    refine w_pure (y_assign rfl) rfl ?_
    refine w_nil ?_
    refine x_next ?_
    refine c_seq ?_
    refine c_region ?_
    refine w_pure (y_assign rfl) rfl ?_
    refine w_nil ?_
    refine x_next ?_
    refine c_seq ?_
    refine c_block ?_
    rotate_left
  refine c_loop (ι := Int × Int × Int × Int) (fun x => [(0, .int .i64 x.1), (1, .int .i64 d), (6, .int .i64 x.2.1), (7, .int .i64 x.2.2.1), (8, .int .i64 x.2.2.2)])
    (fun x w => w = w0 ∧ 0 ≤ x.1 ∧ x.1 ≤ n ∧ 0 ≤ x.2.1 ∧ x.2.1 ≤ x.2.2.2 - 1 ∧ 0 ≤ x.2.2.1 ∧ x.2.2.1 ≤ x.2.2.2 - 1 ∧ 0 < x.2.2.2 ∧ x.1 * x.2.2.2 ≤ 999999 ∧ partsF x.1 d x.2.1 x.2.2.1 x.2.2.2 = partsF n d 0 0 1)
    (fun x => x.1.toNat) (n, 0, 0, 1) ⟨rfl, rfl, rfl, rfl, rfl, trivial⟩ ⟨rfl, h0, by simp, by simp, by simp, by simp, by simp, by simp, by simpa using h1, rfl⟩ ?_
  rintro ⟨m, r, l, p⟩ w ⟨rfl, hm, hmn, hr0, hr, hl0, hl, hp, hmp, hF⟩
  dsimp only at *
  by_cases hm0 : 0 < m
  · obtain ⟨g1, g2, g3, g4, g5, g6, g7, g8⟩ := parts_bd hd0 hd hm0 hp hmp
    rw [partsF_step hm0] at hF
    focus
      refine c_seq ?_
      refine c_seq ?_
      refine c_region ?_
      refine w_pure (y_move rfl) rfl ?_
      refine w_pure (y_gt rfl rfl) rfl ?_
      refine w_nil ?_
      refine x_next ?_
      (refine c_dec rfl (fun hc => ?_) (fun hc => ?_) <;> try (exfalso; omega))
      refine c_skip ?_
      refine x_next ?_
      refine c_seq ?_
      refine c_block ?_
      refine c_seq ?_
      refine c_region ?_
      refine w_pure (y_move rfl) rfl ?_
      refine w_pure (y_rem rfl rfl) rfl ?_
      refine w_pure (y_move rfl) rfl ?_
      refine w_pure (y_mul rfl rfl) rfl ?_
      refine w_pure (y_assign rfl) rfl ?_
      refine w_nil ?_
      refine x_next ?_
      refine c_seq ?_
      refine c_region ?_
      refine w_pure (y_move rfl) rfl ?_
      refine w_pure (y_move rfl) rfl ?_
      refine w_pure (y_rem rfl rfl) rfl ?_
      refine w_pure (y_move rfl) rfl ?_
      refine w_pure (y_mul rfl rfl) rfl ?_
      refine w_pure (y_add rfl rfl) rfl ?_
      refine w_pure (y_assign rfl) rfl ?_
      refine w_nil ?_
      refine x_next ?_
      refine c_seq ?_
      refine c_region ?_
      refine w_pure (y_move rfl) rfl ?_
      refine w_pure (y_move rfl) rfl ?_
      refine w_pure (y_quo rfl rfl) rfl ?_
      refine w_pure (y_move rfl) rfl ?_
      refine w_pure (y_mul rfl rfl) rfl ?_
      refine w_pure (y_add rfl rfl) rfl ?_
      refine w_pure (y_assign rfl) rfl ?_
      refine w_nil ?_
      refine x_next ?_
      refine c_region ?_
      refine w_pure (y_move rfl) rfl ?_
      refine w_pure (y_mul rfl rfl) rfl ?_
      refine w_pure (y_assign rfl) rfl ?_
      refine w_nil ?_
      refine x_block_norm ?_
      refine x_next ?_
      refine c_region ?_
      refine w_pure (y_move rfl) rfl ?_
      refine w_pure (y_quo rfl rfl) rfl ?_
      refine w_pure (y_assign rfl) rfl ?_
      refine w_nil ?_
      rotate_left
    refine x_again (m / 10, r + m % 10 * d % 10 * p, l + m % 10 * d / 10 * p, p * 10) ⟨rfl, rfl, rfl, rfl, rfl, trivial⟩ ⟨rfl, ?_, ?_, ?_, ?_, ?_, ?_, ?_, g8, hF⟩ ?_
    all_goals dsimp only; omega
  · rw [partsF_end hm0] at hF
    focus
      refine c_seq ?_
      refine c_seq ?_
      refine c_region ?_
      refine w_pure (y_move rfl) rfl ?_
      refine w_pure (y_gt rfl rfl) rfl ?_
      refine w_nil ?_
      refine x_next ?_
      (refine c_dec rfl (fun hc => ?_) (fun hc => ?_) <;> try (exfalso; omega))
      refine c_exit ?_
      refine x_then_exit ?_
      refine x_then_exit ?_
      refine x_block_hit ?_
      refine x_next ?_
      refine c_seq ?_
      refine c_region ?_
      refine w_pure (y_move rfl) rfl ?_
      refine w_pure (y_move rfl) rfl ?_
      refine w_pure (y_assign rfl) rfl ?_
      refine w_pure (y_assign rfl) rfl ?_
      refine w_nil ?_
      refine x_next ?_
      refine c_ret ?_
      rotate_left
    refine x_retv [_, _] rfl ⟨rfl, rfl, trivial⟩ ⟨?_, rfl⟩
    rw [← hF]; rfl
theorem iComponentsOf_yes (n d : Int) (h0 : 0 ≤ n) (h1 : n ≤ 999999) (hd0 : 0 ≤ d) (hd : d ≤ 9) : Pur Tryd.prog 10 [.int .i64 n, .int .i64 d] (.tuple #[.int .i64 (partsF n d 0 0 1).1, .int .i64 (partsF n d 0 0 1).2, .int .i64 0]) := by
  refine ⟨fun w0 => ?_⟩
  refine ret_enter Tryd.func10 rfl Tryd.ntmps10 rfl ?_
  focus
    refine c_seq ?_
    refine c_region ?_
    refine w_pure (y_assign rfl) rfl ?_
    refine w_pure (y_assign rfl) rfl ?_
    refine w_pure (y_assign rfl) rfl ?_
    refine w_nil ?_
    refine x_next ?_
    refine c_seq ?_
    refine c_seq ?_
    refine c_region ?_
    refine w_pure (y_move rfl) rfl ?_
    refine w_pur rfl rfl rfl (inside_c _ _ _) rfl ?_
    refine w_pure (y_not_dec rfl) rfl ?_
    refine w_pure (y_move rfl) rfl ?_
    (refine w_part_dec rfl rfl (fun hc => ?_) (fun hc => ?_) <;> try (exfalso; omega))
    refine w_yes rfl rfl ?_
    refine w_pure (y_move rfl) rfl ?_
    refine w_yes rfl rfl ?_
    refine w_pur rfl rfl rfl (inside_c _ _ _) rfl ?_
    refine w_yes rfl rfl ?_
    refine w_pure (y_not_dec rfl) rfl ?_
    refine w_pure (y_pick_f rfl rfl) rfl ?_
    refine w_nil ?_
    refine x_next ?_
    (refine c_dec rfl (fun hc => ?_) (fun hc => ?_) <;> try (exfalso; omega))
    refine c_skip ?_
    refine x_next ?_
    refine c_seq ?_
    refine c_region ?_
    refine w_pure (y_assign rfl) rfl ?_
    refine w_pure (y_assign rfl) rfl ?_
    refine w_nil ?_
    refine x_next ?_
    refine c_seq ?_
    refine c_seq ?_
    refine c_region ?_
    refine w_pure (y_assign rfl) rfl ?_
    refine w_nil ?_
    refine x_next ?_
    refine c_block ?_
    rotate_left
  refine c_loop (ι := Int × Int × Int × Int) (fun x => [(0, .int .i64 x.1), (1, .int .i64 d), (7, .int .i64 x.2.1), (8, .int .i64 x.2.2.1), (9, .int .i64 x.2.2.2)])
    (fun x w => w = w0 ∧ 0 ≤ x.1 ∧ x.1 ≤ n ∧ 0 ≤ x.2.1 ∧ x.2.1 ≤ x.2.2.2 - 1 ∧ 0 ≤ x.2.2.1 ∧ x.2.2.1 ≤ x.2.2.2 - 1 ∧ 0 < x.2.2.2 ∧ x.1 * x.2.2.2 ≤ 999999 ∧ partsF x.1 d x.2.1 x.2.2.1 x.2.2.2 = partsF n d 0 0 1)
    (fun x => x.1.toNat) (n, 0, 0, 1) ⟨rfl, rfl, rfl, rfl, rfl, trivial⟩ ⟨rfl, h0, by simp, by simp, by simp, by simp, by simp, by simp, by simpa using h1, rfl⟩ ?_
  rintro ⟨m, r, l, p⟩ w ⟨rfl, hm, hmn, hr0, hr, hl0, hl, hp, hmp, hF⟩
  dsimp only at *
  by_cases hm0 : 0 < m
  · obtain ⟨g1, g2, g3, g4, g5, g6, g7, g8⟩ := parts_bd hd0 hd hm0 hp hmp
    rw [partsF_step hm0] at hF
    focus
      refine c_seq ?_
      refine c_seq ?_
      refine c_region ?_
      refine w_pure (y_move rfl) rfl ?_
      refine w_pure (y_gt rfl rfl) rfl ?_
      refine w_nil ?_
      refine x_next ?_
      (refine c_dec rfl (fun hc => ?_) (fun hc => ?_) <;> try (exfalso; omega))
      refine c_skip ?_
      refine x_next ?_
      refine c_seq ?_
      refine c_block ?_
      refine c_seq ?_
      refine c_region ?_
      refine w_pure (y_move rfl) rfl ?_
      refine w_pure (y_rem rfl rfl) rfl ?_
      refine w_pure (y_move rfl) rfl ?_
      refine w_pure (y_mul rfl rfl) rfl ?_
      refine w_pure (y_assign rfl) rfl ?_
      refine w_nil ?_
      refine x_next ?_
      refine c_seq ?_
      refine c_region ?_
      refine w_pure (y_move rfl) rfl ?_
      refine w_pure (y_move rfl) rfl ?_
      refine w_pure (y_rem rfl rfl) rfl ?_
      refine w_pure (y_move rfl) rfl ?_
      refine w_pure (y_mul rfl rfl) rfl ?_
      refine w_pure (y_add rfl rfl) rfl ?_
      refine w_pure (y_assign rfl) rfl ?_
      refine w_nil ?_
      refine x_next ?_
      refine c_seq ?_
      refine c_region ?_
      refine w_pure (y_move rfl) rfl ?_
      refine w_pure (y_move rfl) rfl ?_
      refine w_pure (y_quo rfl rfl) rfl ?_
      refine w_pure (y_move rfl) rfl ?_
      refine w_pure (y_mul rfl rfl) rfl ?_
      refine w_pure (y_add rfl rfl) rfl ?_
      refine w_pure (y_assign rfl) rfl ?_
      refine w_nil ?_
      refine x_next ?_
      refine c_region ?_
      refine w_pure (y_move rfl) rfl ?_
      refine w_pure (y_quo rfl rfl) rfl ?_
      refine w_pure (y_assign rfl) rfl ?_
      refine w_nil ?_
      refine x_block_norm ?_
      refine x_next ?_
      refine c_region ?_
      refine w_pure (y_move rfl) rfl ?_
      refine w_pure (y_mul rfl rfl) rfl ?_
      refine w_pure (y_assign rfl) rfl ?_
      refine w_nil ?_
      rotate_left
    refine x_again (m / 10, r + m % 10 * d % 10 * p, l + m % 10 * d / 10 * p, p * 10) ⟨rfl, rfl, rfl, rfl, rfl, trivial⟩ ⟨rfl, ?_, ?_, ?_, ?_, ?_, ?_, ?_, g8, hF⟩ ?_
    all_goals dsimp only; omega
  · rw [partsF_end hm0] at hF
    focus
      refine c_seq ?_
      refine c_seq ?_
      refine c_region ?_
      refine w_pure (y_move rfl) rfl ?_
      refine w_pure (y_gt rfl rfl) rfl ?_
      refine w_nil ?_
      refine x_next ?_
      (refine c_dec rfl (fun hc => ?_) (fun hc => ?_) <;> try (exfalso; omega))
      refine c_exit ?_
      refine x_then_exit ?_
      refine x_then_exit ?_
      refine x_block_hit ?_
      refine x_next ?_
      refine c_seq ?_
      refine c_region ?_
      refine w_pure (y_move rfl) rfl ?_
      refine w_pure (y_move rfl) rfl ?_
      refine w_pure (y_assign rfl) rfl ?_
      refine w_pure (y_assign rfl) rfl ?_
      refine w_pure (y_assign rfl) rfl ?_
      refine w_nil ?_
      refine x_next ?_
      refine c_ret ?_
      rotate_left
    refine x_retv [_, _, _] rfl ⟨rfl, rfl, rfl, trivial⟩ ⟨?_, rfl⟩
    rw [← hF]; rfl
theorem iComponentsOf_no (n d : Int) (h : ¬ (0 ≤ n ∧ n ≤ 999999 ∧ 0 ≤ d ∧ d ≤ 9)) : Pur Tryd.prog 10 [.int .i64 n, .int .i64 d] (.tuple #[.int .i64 0, .int .i64 0, .int .i64 2]) := by
  refine ⟨fun w0 => ?_⟩
  refine ret_enter Tryd.func10 rfl Tryd.ntmps10 rfl ?_
  focus
    refine c_seq ?_
    refine c_region ?_
    refine w_pure (y_assign rfl) rfl ?_
    refine w_pure (y_assign rfl) rfl ?_
    refine w_pure (y_assign rfl) rfl ?_
    refine w_nil ?_
    refine x_next ?_
    refine c_seq ?_
    refine c_seq ?_
    refine c_region ?_
    refine w_pure (y_move rfl) rfl ?_
    refine w_pur rfl rfl rfl (inside_c _ _ _) rfl ?_
    refine w_pure (y_not_dec rfl) rfl ?_
    refine w_pure (y_move rfl) rfl ?_
    (refine w_part_dec rfl rfl (fun hc => ?_) (fun hc => ?_) <;> try (exfalso; omega))
    refine w_no rfl rfl rfl rfl ?_
    refine w_no rfl rfl rfl rfl ?_
    refine w_no rfl rfl rfl rfl ?_
    refine w_pure (y_pick_t rfl rfl) rfl ?_
    refine w_nil ?_
    refine x_next ?_
    refine c_true rfl ?_
    refine c_seq ?_
    refine c_region ?_
    refine w_pure (y_assign rfl) rfl ?_
    refine w_pure (y_assign rfl) rfl ?_
    refine w_pure (y_assign rfl) rfl ?_
    refine w_nil ?_
    refine x_next ?_
    refine c_ret ?_
    refine x_then_ret ?_
    rotate_left
    refine w_yes rfl rfl ?_
    refine w_pure (y_move rfl) rfl ?_
    refine w_yes rfl rfl ?_
    refine w_pur rfl rfl rfl (inside_c _ _ _) rfl ?_
    refine w_yes rfl rfl ?_
    refine w_pure (y_not_dec rfl) rfl ?_
    refine w_pure (y_pick_f rfl rfl) rfl ?_
    refine w_nil ?_
    refine x_next ?_
    (refine c_dec rfl (fun hc => ?_) (fun hc => ?_) <;> try (exfalso; omega))
    refine c_seq ?_
    refine c_region ?_
    refine w_pure (y_assign rfl) rfl ?_
    refine w_pure (y_assign rfl) rfl ?_
    refine w_pure (y_assign rfl) rfl ?_
    refine w_nil ?_
    refine x_next ?_
    refine c_ret ?_
    refine x_then_ret ?_
    rotate_left
  all_goals exact x_retv [_, _, _] rfl ⟨rfl, rfl, rfl, trivial⟩ ⟨rfl, rfl⟩
theorem sComponentsOf_yes (n d : Int) (h0 : 0 ≤ n) (h1 : n ≤ 999999) (hd0 : 0 ≤ d) (hd : d ≤ 9) : Pur Tryd.prog 11 [.int .i64 n, .int .i64 d] (.tuple #[.int .i64 (partsF n d 0 0 1).1, .int .i64 (partsF n d 0 0 1).2, .int .i64 0]) := by
  refine ⟨fun w0 => ?_⟩
  refine ret_enter Tryd.func11 rfl Tryd.ntmps11 rfl ?_
  focus
    refine c_seq ?_
    refine c_region ?_
    refine w_pure (y_assign rfl) rfl ?_
    refine w_pure (y_assign rfl) rfl ?_
    refine w_pure (y_assign rfl) rfl ?_
    refine w_nil ?_
    refine x_next ?_
    refine c_seq ?_
    refine c_seq ?_
    refine c_region ?_
    refine w_pure (y_move rfl) rfl ?_
    refine w_pur rfl rfl rfl (l00In_c _ _ _) rfl ?_
    refine w_pure (y_not_dec rfl) rfl ?_
    refine w_pure (y_move rfl) rfl ?_
    (refine w_part_dec rfl rfl (fun hc => ?_) (fun hc => ?_) <;> try (exfalso; omega))
    refine w_yes rfl rfl ?_
    refine w_pure (y_move rfl) rfl ?_
    refine w_yes rfl rfl ?_
    refine w_pur rfl rfl rfl (l00In_c _ _ _) rfl ?_
    refine w_yes rfl rfl ?_
    refine w_pure (y_not_dec rfl) rfl ?_
    refine w_pure (y_pick_f rfl rfl) rfl ?_
    refine w_nil ?_
    refine x_next ?_
    (refine c_dec rfl (fun hc => ?_) (fun hc => ?_) <;> try (exfalso; omega))
    refine c_skip ?_
    refine x_next ?_
    refine c_seq ?_
    refine c_region ?_
    refine w_pure (y_move rfl) rfl ?_
    refine w_pure (y_move rfl) rfl ?_
    refine w_pur rfl rfl rfl (l14Parts_c _ _ h0 h1 hd0 hd) rfl ?_
    refine w_pure (y_move rfl) rfl ?_
    refine w_pure (y_extract rfl rfl) rfl ?_
    refine w_pure (y_extract rfl rfl) rfl ?_
    refine w_pure (y_assign rfl) rfl ?_
    refine w_pure (y_assign rfl) rfl ?_
    refine w_nil ?_
    refine x_next ?_
    refine c_seq ?_
    refine c_region ?_
    refine w_pure (y_move rfl) rfl ?_
    refine w_pure (y_move rfl) rfl ?_
    refine w_pure (y_assign rfl) rfl ?_
    refine w_pure (y_assign rfl) rfl ?_
    refine w_pure (y_assign rfl) rfl ?_
    refine w_nil ?_
    refine x_next ?_
    refine c_ret ?_
    rotate_left
  exact x_retv [_, _, _] rfl ⟨rfl, rfl, rfl, trivial⟩ ⟨rfl, rfl⟩
theorem sComponentsOf_no (n d : Int) (h : ¬ (0 ≤ n ∧ n ≤ 999999 ∧ 0 ≤ d ∧ d ≤ 9)) : Pur Tryd.prog 11 [.int .i64 n, .int .i64 d] (.tuple #[.int .i64 0, .int .i64 0, .int .i64 2]) := by
  refine ⟨fun w0 => ?_⟩
  refine ret_enter Tryd.func11 rfl Tryd.ntmps11 rfl ?_
  focus
    refine c_seq ?_
    refine c_region ?_
    refine w_pure (y_assign rfl) rfl ?_
    refine w_pure (y_assign rfl) rfl ?_
    refine w_pure (y_assign rfl) rfl ?_
    refine w_nil ?_
    refine x_next ?_
    refine c_seq ?_
    refine c_seq ?_
    refine c_region ?_
    refine w_pure (y_move rfl) rfl ?_
    refine w_pur rfl rfl rfl (l00In_c _ _ _) rfl ?_
    refine w_pure (y_not_dec rfl) rfl ?_
    refine w_pure (y_move rfl) rfl ?_
    (refine w_part_dec rfl rfl (fun hc => ?_) (fun hc => ?_) <;> try (exfalso; omega))
    refine w_no rfl rfl rfl rfl ?_
    refine w_no rfl rfl rfl rfl ?_
    refine w_no rfl rfl rfl rfl ?_
    refine w_pure (y_pick_t rfl rfl) rfl ?_
    refine w_nil ?_
    refine x_next ?_
    refine c_true rfl ?_
    refine c_seq ?_
    refine c_region ?_
    refine w_pure (y_assign rfl) rfl ?_
    refine w_pure (y_assign rfl) rfl ?_
    refine w_pure (y_assign rfl) rfl ?_
    refine w_nil ?_
    refine x_next ?_
    refine c_ret ?_
    refine x_then_ret ?_
    rotate_left
    refine w_yes rfl rfl ?_
    refine w_pure (y_move rfl) rfl ?_
    refine w_yes rfl rfl ?_
    refine w_pur rfl rfl rfl (l00In_c _ _ _) rfl ?_
    refine w_yes rfl rfl ?_
    refine w_pure (y_not_dec rfl) rfl ?_
    refine w_pure (y_pick_f rfl rfl) rfl ?_
    refine w_nil ?_
    refine x_next ?_
    (refine c_dec rfl (fun hc => ?_) (fun hc => ?_) <;> try (exfalso; omega))
    refine c_seq ?_
    refine c_region ?_
    refine w_pure (y_assign rfl) rfl ?_
    refine w_pure (y_assign rfl) rfl ?_
    refine w_pure (y_assign rfl) rfl ?_
    refine w_nil ?_
    refine x_next ?_
    refine c_ret ?_
    refine x_then_ret ?_
    rotate_left
  all_goals exact x_retv [_, _, _] rfl ⟨rfl, rfl, rfl, trivial⟩ ⟨rfl, rfl⟩
theorem iHalfAdjust_yes (n p : Int) (h : -999999999999 ≤ n ∧ n ≤ 999999999999 ∧ 0 ≤ p ∧ p ≤ 12) :
    Pur Tryd.prog 19 [.int .i64 n, .int .i64 p] (.tuple #[.int .i64 (if n < 0 then -((2 * max n (-n) + 10 ^ p.toNat) / (2 * 10 ^ p.toNat)) else (2 * max n (-n) + 10 ^ p.toNat) / (2 * 10 ^ p.toNat)), .int .i64 0]) := by
  refine ⟨fun w0 => ?_⟩
  refine ret_enter Tryd.func19 rfl Tryd.ntmps19 rfl ?_
  focus
    refine c_seq ?_
    refine c_region ?_
    refine w_pure (y_assign rfl) rfl ?_
    refine w_pure (y_assign rfl) rfl ?_
    refine w_nil ?_
    refine x_next ?_
    refine c_seq ?_
    refine c_seq ?_
    refine c_region ?_
    refine w_pure (y_move rfl) rfl ?_
    refine w_pur rfl rfl rfl (isNumber_c _) rfl ?_
    refine w_pure (y_not_dec rfl) rfl ?_
    refine w_pure (y_move rfl) rfl ?_
    (refine w_part_dec rfl rfl (fun hc => ?_) (fun hc => ?_) <;> try (exfalso; omega))
    refine w_yes rfl rfl ?_
    refine w_pure (y_move rfl) rfl ?_
    refine w_yes rfl rfl ?_
    refine w_pur rfl rfl rfl (inside_c _ _ _) rfl ?_
    refine w_yes rfl rfl ?_
    refine w_pure (y_not_dec rfl) rfl ?_
    refine w_pure (y_pick_f rfl rfl) rfl ?_
    refine w_nil ?_
    refine x_next ?_
    (refine c_dec rfl (fun hc => ?_) (fun hc => ?_) <;> try (exfalso; omega))
    refine c_skip ?_
    refine x_next ?_
    refine c_seq ?_
    refine c_region ?_
    refine w_pure (y_assign rfl) rfl ?_
    refine w_nil ?_
    refine x_next ?_
    refine c_seq ?_
    refine c_seq ?_
    refine c_region ?_
    refine w_pure (y_move rfl) rfl ?_
    refine w_pure (y_move rfl) rfl ?_
    refine w_nil ?_
    refine x_next ?_
    refine c_block ?_
    rotate_left
  refine c_loop (ι := Int × Int) (fun x => [(0, .int .i64 n), (6, .int .i64 x.2), (16, .int .i64 p), (17, .int .i64 x.1)])
    (fun x w => w = w0 ∧ 0 ≤ x.1 ∧ x.1 ≤ p ∧ x.2 = 10 ^ x.1.toNat) (fun x => (p - x.1).toNat) (0, 1) ⟨rfl, rfl, rfl, rfl, trivial⟩ ⟨rfl, by simp, by omega, by simp⟩ ?_
  rintro ⟨i, s⟩ w ⟨rfl, hi0, hi, hs⟩
  dsimp only at *
  have hs0 : 0 < s := by rw [hs]; exact pow10_pos _
  have hs1 : s ≤ 1000000000000 := by rw [hs]; exact pow10_12 (by omega)
  have hq0 : 0 ≤ (2 * max n (-n) + s) / (2 * s) := Int.ediv_nonneg (by omega) (by omega)
  have hq1 : (2 * max n (-n) + s) / (2 * s) ≤ 2 * max n (-n) + s := Int.ediv_le_self _ (by omega)
  focus
    refine c_seq ?_
    refine c_region ?_
    refine w_pure (y_lt rfl rfl) rfl ?_
    refine w_nil ?_
    refine x_next ?_
    refine c_seq ?_
    (refine c_dec rfl (fun hc => ?_) (fun hc => ?_) <;> try (exfalso; omega))
    refine c_skip ?_
    refine x_next ?_
    refine c_seq ?_
    refine c_block ?_
    refine c_region ?_
    refine w_pure (y_move rfl) rfl ?_
    refine w_pure (y_mul rfl rfl) rfl ?_
    refine w_pure (y_assign rfl) rfl ?_
    refine w_nil ?_
    refine x_block_norm ?_
    refine x_next ?_
    refine c_region ?_
    refine w_pure (y_add rfl rfl) rfl ?_
    refine w_pure (y_move rfl) rfl ?_
    refine w_nil ?_
    rotate_left
    refine c_exit ?_
    refine x_then_exit ?_
    refine x_then_exit ?_
    refine x_block_hit ?_
    refine x_next ?_
    refine c_seq ?_
    refine c_region ?_
    refine w_pure (y_move rfl) rfl ?_
    refine w_pur rfl rfl rfl (absOf_c _ ⟨by omega, by omega⟩) rfl ?_
    refine w_pure (y_mul rfl rfl) rfl ?_
    refine w_pure (y_move rfl) rfl ?_
    refine w_pure (y_add rfl rfl) rfl ?_
    refine w_pure (y_move rfl) rfl ?_
    refine w_pure (y_mul rfl rfl) rfl ?_
    refine w_pure (y_quo rfl rfl) rfl ?_
    refine w_pure (y_assign rfl) rfl ?_
    refine w_nil ?_
    refine x_next ?_
    refine c_seq ?_
    refine c_seq ?_
    refine c_region ?_
    refine w_pure (y_move rfl) rfl ?_
    refine w_pure (y_lt rfl rfl) rfl ?_
    refine w_nil ?_
    refine x_next ?_
    (refine c_dec rfl (fun hc => ?_) (fun hc => ?_) <;> try (exfalso; omega))
    refine c_region ?_
    refine w_pure (y_move rfl) rfl ?_
    refine w_pure (y_neg rfl) rfl ?_
    refine w_pure (y_assign rfl) rfl ?_
    refine w_nil ?_
    refine x_next ?_
    refine c_seq ?_
    refine c_region ?_
    refine w_pure (y_move rfl) rfl ?_
    refine w_pure (y_assign rfl) rfl ?_
    refine w_pure (y_assign rfl) rfl ?_
    refine w_nil ?_
    refine x_next ?_
    refine c_ret ?_
    rotate_left
    refine c_skip ?_
    refine x_next ?_
    refine c_seq ?_
    refine c_region ?_
    refine w_pure (y_move rfl) rfl ?_
    refine w_pure (y_assign rfl) rfl ?_
    refine w_pure (y_assign rfl) rfl ?_
    refine w_nil ?_
    refine x_next ?_
    refine c_ret ?_
    rotate_left
  · refine x_again (i + 1, s * 10) ⟨rfl, rfl, rfl, rfl, trivial⟩ ⟨rfl, ?_, ?_, ?_⟩ ?_
    · dsimp only; omega
    · dsimp only; omega
    · dsimp only; rw [pow10_succ _ hi0, hs]
    · dsimp only; omega
  · rw [if_pos hc, ← (show i = p by omega), ← hs]
    exact x_retv [_, _] rfl ⟨rfl, rfl, trivial⟩ ⟨rfl, rfl⟩
  · rw [if_neg hc, ← (show i = p by omega), ← hs]
    exact x_retv [_, _] rfl ⟨rfl, rfl, trivial⟩ ⟨rfl, rfl⟩
theorem iHalfAdjust_no (n p : Int) (h : ¬ (-999999999999 ≤ n ∧ n ≤ 999999999999 ∧ 0 ≤ p ∧ p ≤ 12)) : Pur Tryd.prog 19 [.int .i64 n, .int .i64 p] (.tuple #[.int .i64 0, .int .i64 2]) := by
  refine ⟨fun w0 => ?_⟩
  refine ret_enter Tryd.func19 rfl Tryd.ntmps19 rfl ?_
  focus
    refine c_seq ?_
    refine c_region ?_
    refine w_pure (y_assign rfl) rfl ?_
    refine w_pure (y_assign rfl) rfl ?_
    refine w_nil ?_
    refine x_next ?_
    refine c_seq ?_
    refine c_seq ?_
    refine c_region ?_
    refine w_pure (y_move rfl) rfl ?_
    refine w_pur rfl rfl rfl (isNumber_c _) rfl ?_
    refine w_pure (y_not_dec rfl) rfl ?_
    refine w_pure (y_move rfl) rfl ?_
    (refine w_part_dec rfl rfl (fun hc => ?_) (fun hc => ?_) <;> try (exfalso; omega))
    refine w_no rfl rfl rfl rfl ?_
    refine w_no rfl rfl rfl rfl ?_
    refine w_no rfl rfl rfl rfl ?_
    refine w_pure (y_pick_t rfl rfl) rfl ?_
    refine w_nil ?_
    refine x_next ?_
    refine c_true rfl ?_
    refine c_seq ?_
    refine c_region ?_
    refine w_pure (y_assign rfl) rfl ?_
    refine w_pure (y_assign rfl) rfl ?_
    refine w_nil ?_
    refine x_next ?_
    refine c_ret ?_
    refine x_then_ret ?_
    rotate_left
    refine w_yes rfl rfl ?_
    refine w_pure (y_move rfl) rfl ?_
    refine w_yes rfl rfl ?_
    refine w_pur rfl rfl rfl (inside_c _ _ _) rfl ?_
    refine w_yes rfl rfl ?_
    refine w_pure (y_not_dec rfl) rfl ?_
    refine w_pure (y_pick_f rfl rfl) rfl ?_
    refine w_nil ?_
    refine x_next ?_
    (refine c_dec rfl (fun hc => ?_) (fun hc => ?_) <;> try (exfalso; omega))
    refine c_seq ?_
    refine c_region ?_
    refine w_pure (y_assign rfl) rfl ?_
    refine w_pure (y_assign rfl) rfl ?_
    refine w_nil ?_
    refine x_next ?_
    refine c_ret ?_
    refine x_then_ret ?_
    rotate_left
  all_goals exact x_retv [_, _] rfl ⟨rfl, rfl, trivial⟩ ⟨rfl, rfl⟩
theorem half_eq (a : Int) (p : Int) (hp : 0 < p) : (2 * a + 10 ^ p.toNat) / (2 * 10 ^ p.toNat) = (a + 10 ^ p.toNat / 2) / 10 ^ p.toNat := by
  obtain ⟨k, hk⟩ : ∃ k : Nat, p.toNat = k + 1 := ⟨p.toNat - 1, by omega⟩
  rw [hk, Int.pow_succ]
  have h0 := pow10_pos k
  generalize (10 : Int) ^ k = q at *
  rw [show q * 10 / 2 = 5 * q by omega]
  rw [show 2 * a + q * 10 = 2 * (a + 5 * q) by omega, Int.mul_ediv_mul_of_pos _ _ (by omega)]
theorem sHalfAdjust_yes (n p : Int) (h : -999999999999 ≤ n ∧ n ≤ 999999999999 ∧ 0 ≤ p ∧ p ≤ 12) :
    Pur Tryd.prog 20 [.int .i64 n, .int .i64 p] (.tuple #[.int .i64 (if n < 0 then -((2 * max n (-n) + 10 ^ p.toNat) / (2 * 10 ^ p.toNat)) else (2 * max n (-n) + 10 ^ p.toNat) / (2 * 10 ^ p.toNat)), .int .i64 0]) := by
  refine ⟨fun w0 => ?_⟩
  have hs0 : (0 : Int) < 10 ^ p.toNat := pow10_pos _
  have hs1 : (10 : Int) ^ p.toNat ≤ 1000000000000 := pow10_12 (by omega)
  have hq0 : 0 ≤ (max n (-n) + 10 ^ p.toNat / 2) / 10 ^ p.toNat := Int.ediv_nonneg (by omega) (by omega)
  have hq1 : (max n (-n) + 10 ^ p.toNat / 2) / 10 ^ p.toNat ≤ max n (-n) + 10 ^ p.toNat / 2 := Int.ediv_le_self _ (by omega)
  by_cases hp : p = 0
  · subst hp
    refine ret_enter Tryd.func20 rfl Tryd.ntmps20 rfl ?_
    focus
      refine c_seq ?_
      refine c_region ?_
      refine w_pure (y_assign rfl) rfl ?_
      refine w_pure (y_assign rfl) rfl ?_
      refine w_nil ?_
      refine x_next ?_
      refine c_seq ?_
      refine c_seq ?_
      refine c_region ?_
      refine w_pure (y_move rfl) rfl ?_
      refine w_pur rfl rfl rfl (l14Number_c _) rfl ?_
      refine w_pure (y_not_dec rfl) rfl ?_
      refine w_pure (y_move rfl) rfl ?_
      (refine w_part_dec rfl rfl (fun hc => ?_) (fun hc => ?_) <;> try (exfalso; omega))
      refine w_yes rfl rfl ?_
      refine w_pure (y_move rfl) rfl ?_
      refine w_yes rfl rfl ?_
      refine w_pur rfl rfl rfl (l00In_c _ _ _) rfl ?_
      refine w_yes rfl rfl ?_
      refine w_pure (y_not_dec rfl) rfl ?_
      refine w_pure (y_pick_f rfl rfl) rfl ?_
      refine w_nil ?_
      refine x_next ?_
      refine c_false rfl ?_
      refine c_skip ?_
      refine x_next ?_
      refine c_seq ?_
      refine c_seq ?_
      refine c_region ?_
      refine w_pure (y_move rfl) rfl ?_
      refine w_pure (y_eq rfl rfl) rfl ?_
      refine w_nil ?_
      refine x_next ?_
      refine c_true rfl ?_
      refine c_seq ?_
      refine c_region ?_
      refine w_pure (y_move rfl) rfl ?_
      refine w_pure (y_assign rfl) rfl ?_
      refine w_pure (y_assign rfl) rfl ?_
      refine w_nil ?_
      refine x_next ?_
      refine c_ret ?_
      refine x_then_ret ?_
      rotate_left
    refine x_retv [_, _] rfl ⟨rfl, rfl, trivial⟩ ⟨?_, rfl⟩
    have : (if n < 0 then -((2 * max n (-n) + 10 ^ (0 : Int).toNat) / (2 * 10 ^ (0 : Int).toNat)) else (2 * max n (-n) + 10 ^ (0 : Int).toNat) / (2 * 10 ^ (0 : Int).toNat)) = n := by
      simp only [Int.toNat_zero, Int.pow_zero]; split <;> omega
    rw [this]; rfl
  · rw [half_eq _ p (by omega)]
    refine ret_enter Tryd.func20 rfl Tryd.ntmps20 rfl ?_
    focus
      refine c_seq ?_
      refine c_region ?_
      refine w_pure (y_assign rfl) rfl ?_
      refine w_pure (y_assign rfl) rfl ?_
      refine w_nil ?_
      refine x_next ?_
      refine c_seq ?_
      refine c_seq ?_
      refine c_region ?_
      refine w_pure (y_move rfl) rfl ?_
      refine w_pur rfl rfl rfl (l14Number_c _) rfl ?_
      refine w_pure (y_not_dec rfl) rfl ?_
      refine w_pure (y_move rfl) rfl ?_
      (refine w_part_dec rfl rfl (fun hc => ?_) (fun hc => ?_) <;> try (exfalso; omega))
      refine w_yes rfl rfl ?_
      refine w_pure (y_move rfl) rfl ?_
      refine w_yes rfl rfl ?_
      refine w_pur rfl rfl rfl (l00In_c _ _ _) rfl ?_
      refine w_yes rfl rfl ?_
      refine w_pure (y_not_dec rfl) rfl ?_
      refine w_pure (y_pick_f rfl rfl) rfl ?_
      refine w_nil ?_
      refine x_next ?_
      (refine c_dec rfl (fun hc => ?_) (fun hc => ?_) <;> try (exfalso; omega))
      refine c_skip ?_
      refine x_next ?_
      refine c_seq ?_
      refine c_seq ?_
      refine c_region ?_
      refine w_pure (y_move rfl) rfl ?_
      refine w_pure (y_eq rfl rfl) rfl ?_
      refine w_nil ?_
      refine x_next ?_
      (refine c_dec rfl (fun hc => ?_) (fun hc => ?_) <;> try (exfalso; omega))
      refine c_skip ?_
      refine x_next ?_
      refine c_seq ?_
      refine c_region ?_
      refine w_pure (y_move rfl) rfl ?_
      refine w_pur rfl rfl rfl (l11Power_c _ (by omega) (by omega)) rfl ?_
      refine w_pure (y_assign rfl) rfl ?_
      refine w_nil ?_
      refine x_next ?_
      refine c_seq ?_
      refine c_region ?_
      refine w_pure (y_move rfl) rfl ?_
      refine w_pur rfl rfl rfl (l14Size_c _ ⟨by omega, by omega⟩) rfl ?_
      refine w_pure (y_move rfl) rfl ?_
      refine w_pure (y_quo rfl rfl) rfl ?_
      refine w_pure (y_add rfl rfl) rfl ?_
      refine w_pure (y_move rfl) rfl ?_
      refine w_pure (y_quo rfl rfl) rfl ?_
      refine w_pure (y_assign rfl) rfl ?_
      refine w_nil ?_
      refine x_next ?_
      refine c_seq ?_
      refine c_seq ?_
      refine c_region ?_
      refine w_pure (y_move rfl) rfl ?_
      refine w_pure (y_lt rfl rfl) rfl ?_
      refine w_nil ?_
      refine x_next ?_
      (refine c_dec rfl (fun hc => ?_) (fun hc => ?_) <;> try (exfalso; omega))
      refine c_region ?_
      refine w_pure (y_move rfl) rfl ?_
      refine w_pure (y_neg rfl) rfl ?_
      refine w_pure (y_assign rfl) rfl ?_
      refine w_nil ?_
      refine x_next ?_
      refine c_seq ?_
      refine c_region ?_
      refine w_pure (y_move rfl) rfl ?_
      refine w_pure (y_assign rfl) rfl ?_
      refine w_pure (y_assign rfl) rfl ?_
      refine w_nil ?_
      refine x_next ?_
      refine c_ret ?_
      rotate_left
      refine c_skip ?_
      refine x_next ?_
      refine c_seq ?_
      refine c_region ?_
      refine w_pure (y_move rfl) rfl ?_
      refine w_pure (y_assign rfl) rfl ?_
      refine w_pure (y_assign rfl) rfl ?_
      refine w_nil ?_
      refine x_next ?_
      refine c_ret ?_
      rotate_left
    · refine x_retv [_, _] rfl ⟨rfl, rfl, trivial⟩ ⟨?_, rfl⟩
      rw [if_pos hc]; rfl
    · refine x_retv [_, _] rfl ⟨rfl, rfl, trivial⟩ ⟨?_, rfl⟩
      rw [if_neg hc]; rfl
theorem sHalfAdjust_no (n p : Int) (h : ¬ (-999999999999 ≤ n ∧ n ≤ 999999999999 ∧ 0 ≤ p ∧ p ≤ 12)) : Pur Tryd.prog 20 [.int .i64 n, .int .i64 p] (.tuple #[.int .i64 0, .int .i64 2]) := by
  refine ⟨fun w0 => ?_⟩
  refine ret_enter Tryd.func20 rfl Tryd.ntmps20 rfl ?_
  focus
    refine c_seq ?_
    refine c_region ?_
    refine w_pure (y_assign rfl) rfl ?_
    refine w_pure (y_assign rfl) rfl ?_
    refine w_nil ?_
    refine x_next ?_
    refine c_seq ?_
    refine c_seq ?_
    refine c_region ?_
    refine w_pure (y_move rfl) rfl ?_
    refine w_pur rfl rfl rfl (l14Number_c _) rfl ?_
    refine w_pure (y_not_dec rfl) rfl ?_
    refine w_pure (y_move rfl) rfl ?_
    (refine w_part_dec rfl rfl (fun hc => ?_) (fun hc => ?_) <;> try (exfalso; omega))
    refine w_no rfl rfl rfl rfl ?_
    refine w_no rfl rfl rfl rfl ?_
    refine w_no rfl rfl rfl rfl ?_
    refine w_pure (y_pick_t rfl rfl) rfl ?_
    refine w_nil ?_
    refine x_next ?_
    refine c_true rfl ?_
    refine c_seq ?_
    refine c_region ?_
    refine w_pure (y_assign rfl) rfl ?_
    refine w_pure (y_assign rfl) rfl ?_
    refine w_nil ?_
    refine x_next ?_
    refine c_ret ?_
    refine x_then_ret ?_
    rotate_left
    refine w_yes rfl rfl ?_
    refine w_pure (y_move rfl) rfl ?_
    refine w_yes rfl rfl ?_
    refine w_pur rfl rfl rfl (l00In_c _ _ _) rfl ?_
    refine w_yes rfl rfl ?_
    refine w_pure (y_not_dec rfl) rfl ?_
    refine w_pure (y_pick_f rfl rfl) rfl ?_
    refine w_nil ?_
    refine x_next ?_
    (refine c_dec rfl (fun hc => ?_) (fun hc => ?_) <;> try (exfalso; omega))
    refine c_seq ?_
    refine c_region ?_
    refine w_pure (y_assign rfl) rfl ?_
    refine w_pure (y_assign rfl) rfl ?_
    refine w_nil ?_
    refine x_next ?_
    refine c_ret ?_
    refine x_then_ret ?_
    rotate_left
  all_goals exact x_retv [_, _] rfl ⟨rfl, rfl, trivial⟩ ⟨rfl, rfl⟩
end Go.Proofs.YtgkljfncpgbngaaDoor

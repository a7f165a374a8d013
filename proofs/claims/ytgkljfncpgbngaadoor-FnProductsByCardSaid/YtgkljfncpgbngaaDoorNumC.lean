/- Contracts: products and quotients. -/
import Derived.Test.YtgkljfncpgbngaaDoorNumB
namespace Go.Proofs.YtgkljfncpgbngaaDoor
open Go Go.Gw
set_option linter.unusedVariables false
set_option linter.unusedSimpArgs false
theorem parts_val (n d r l p : Int) (hn : 0 ≤ n) : (partsF n d r l p).1 + 10 * (partsF n d r l p).2 = r + 10 * l + n * d * p := by
  by_cases h : 0 < n
  · rw [partsF_step h]
    have ih := parts_val (n / 10) d (r + n % 10 * d % 10 * p) (l + n % 10 * d / 10 * p) (p * 10) (by omega)
    rw [ih]
    have e1 : n = 10 * (n / 10) + n % 10 := by omega
    have e2 : n % 10 * d = 10 * (n % 10 * d / 10) + n % 10 * d % 10 := by omega
    have e3 : n * d * p = 10 * (n / 10) * d * p + n % 10 * d * p := by
      conv => lhs; rw [e1]
      rw [Int.add_mul, Int.add_mul]
    have e4 : n % 10 * d * p = 10 * (n % 10 * d / 10 * p) + n % 10 * d % 10 * p := by
      conv => lhs; rw [e2]
      rw [Int.add_mul, Int.mul_assoc]
    have e5 : n / 10 * d * (p * 10) = 10 * (n / 10) * d * p := by
      rw [Int.mul_comm p 10, ← Int.mul_assoc, Int.mul_comm (n / 10 * d) 10, ← Int.mul_assoc]
    omega
  · rw [partsF_end h]
    obtain rfl : n = 0 := by omega
    simp
  termination_by n.toNat
  decreasing_by omega
theorem parts_nn (n d r l p : Int) (hd : 0 ≤ d) (hr : 0 ≤ r) (hl : 0 ≤ l) (hp : 0 ≤ p) : 0 ≤ (partsF n d r l p).1 ∧ 0 ≤ (partsF n d r l p).2 := by
  by_cases h : 0 < n
  · rw [partsF_step h]
    have h1 : 0 ≤ n % 10 * d := Int.mul_nonneg (by omega) hd
    have h2 : 0 ≤ n % 10 * d % 10 * p := Int.mul_nonneg (by omega) hp
    have h3 : 0 ≤ n % 10 * d / 10 * p := Int.mul_nonneg (by omega) hp
    exact parts_nn (n / 10) d _ _ (p * 10) hd (by omega) (by omega) (by omega)
  · rw [partsF_end h]; exact ⟨hr, hl⟩
  termination_by n.toNat
  decreasing_by omega
/-- the components of a product with a digit -/
theorem parts_bdd {n d : Int} (hn : 0 ≤ n ∧ n ≤ 999999) (hd : 0 ≤ d ∧ d ≤ 9) : (partsF n d 0 0 1).1 + 10 * (partsF n d 0 0 1).2 = n * d ∧ 0 ≤ (partsF n d 0 0 1).1 ∧ (partsF n d 0 0 1).1 ≤ 8999991 ∧ 0 ≤ (partsF n d 0 0 1).2 ∧ (partsF n d 0 0 1).2 ≤ 8999991 := by
  have h1 := parts_val n d 0 0 1 hn.1
  have h2 := parts_nn n d 0 0 1 hd.1 (by omega) (by omega) (by omega)
  have h3 : n * d ≤ 999999 * 9 := Int.mul_le_mul hn.2 hd.2 hd.1 (by omega)
  rw [Int.mul_one] at h1
  omega
theorem nz_end (m : Int) (hm : 0 ≤ m) {i : Nat} (h0 : m / 10 ^ i = 0) : ∀ (j : Nat), i + j ≤ (dlist m).length → nzTo (dlist m) (i + j) = nzTo (dlist m) i
  | 0, _ => rfl
  | j + 1, h => by
    have ih := nz_end m hm h0 j (by omega)
    have e : (dlist m).getD (i + j) 0 = 0 := by
      rw [dlist_get _ _ (by omega), show absI m = m by unfold absI; omega, Int.pow_add, ← Int.ediv_ediv_of_nonneg (Int.le_of_lt (pow10_pos _)), h0]
      simp
    rw [← Nat.add_assoc, nzTo, if_pos e, ih]
def cyc (b : Int) : Int := 1 + nzTo (dlist b) (dlist b).length
theorem dlist_abs (b : Int) : dlist (absI b) = dlist b := by
  unfold dlist; rw [show absI (absI b) = absI b by unfold absI; omega]
theorem abs_mul (a b : Int) : (¬ decide (a < 0) = decide (b < 0) → -(absI a * absI b) = a * b) ∧ (decide (a < 0) = decide (b < 0) → absI a * absI b = a * b) := by
  unfold absI
  constructor
  · intro h
    by_cases ha : a < 0 <;> by_cases hb : b < 0 <;> simp only [ha, hb, decide_true, decide_false, not_true, reduceCtorEq, not_false_eq_true] at h
    · rw [show max a (-a) = -a by omega, show max b (-b) = b by omega, Int.neg_mul, Int.neg_neg]
    · rw [show max a (-a) = a by omega, show max b (-b) = -b by omega, Int.mul_neg, Int.neg_neg]
  · intro h
    by_cases ha : a < 0 <;> by_cases hb : b < 0 <;> simp only [ha, hb, decide_true, decide_false, reduceCtorEq] at h
    · rw [show max a (-a) = -a by omega, show max b (-b) = -b by omega, Int.neg_mul_neg]
    · rw [show max a (-a) = a by omega, show max b (-b) = b by omega]
theorem quo_sign (a b : Int) : (¬ decide (a < 0) = decide (b < 0) → -(absI a / absI b) = a.tdiv b) ∧ (decide (a < 0) = decide (b < 0) → absI a / absI b = a.tdiv b) := by
  unfold absI
  constructor
  · intro h
    by_cases ha : a < 0 <;> by_cases hb : b < 0 <;> simp only [ha, hb, decide_true, decide_false, not_true, reduceCtorEq, not_false_eq_true] at h
    · rw [show max a (-a) = -a by omega, show max b (-b) = b by omega, ← Int.tdiv_eq_ediv_of_nonneg (by omega), Int.neg_tdiv, Int.neg_neg]
    · rw [show max a (-a) = a by omega, show max b (-b) = -b by omega, ← Int.tdiv_eq_ediv_of_nonneg (by omega), Int.tdiv_neg, Int.neg_neg]
  · intro h
    by_cases ha : a < 0 <;> by_cases hb : b < 0 <;> simp only [ha, hb, decide_true, decide_false, reduceCtorEq] at h
    · rw [show max a (-a) = -a by omega, show max b (-b) = -b by omega, ← Int.tdiv_eq_ediv_of_nonneg (by omega), Int.neg_tdiv, Int.tdiv_neg, Int.neg_neg]
    · rw [show max a (-a) = a by omega, show max b (-b) = b by omega, Int.tdiv_eq_ediv_of_nonneg (by omega)]
theorem rem_sign (a b : Int) : (a < 0 → -(absI a % absI b) = a.tmod b) ∧ (¬ a < 0 → absI a % absI b = a.tmod b) := by
  have hb : ∀ c : Int, 0 ≤ c → c % (max b (-b)) = c.tmod b := fun c hc => by
    by_cases hb : b < 0
    · rw [show max b (-b) = -b by omega, ← Int.tmod_eq_emod_of_nonneg hc, Int.tmod_neg]
    · rw [show max b (-b) = b by omega, Int.tmod_eq_emod_of_nonneg hc]
  unfold absI
  constructor
  · intro h
    rw [show max a (-a) = -a by omega, hb _ (by omega), Int.neg_tmod, Int.neg_neg]
  · intro h
    rw [show max a (-a) = a by omega, hb _ (by omega)]
theorem abs_tdiv (a b : Int) : absI (a.tdiv b) = absI a / absI b := by
  have h := quo_sign a b
  have hn : 0 ≤ absI a / absI b := Int.ediv_nonneg (by unfold absI; omega) (by unfold absI; omega)
  by_cases hs : decide (a < 0) = decide (b < 0)
  · rw [← h.2 hs]; unfold absI at *; omega
  · rw [← h.1 hs]; unfold absI at *; omega
def cQuo (a b : Int) : Int := if (-999999999999 ≤ a ∧ a ≤ 999999999999) ∧ -999999 ≤ b ∧ b ≤ 999999 then (if b = 0 then 6 else 0) else 2
def turnQ (q : Int) : Int := sumTo (dlist q) (dlist q).length + (dlist q).length
def orZ (c x : Int) : Int := if c = 0 then x else 0
def cPrd (a b : Int) : Int := if (-999999 ≤ a ∧ a ≤ 999999) ∧ -999999 ≤ b ∧ b ≤ 999999 then 0 else 2
theorem tdiv_bd {a b : Int} (h : -999999999999 ≤ a ∧ a ≤ 999999999999) (hb : b ≠ 0) : -999999999999 ≤ a.tdiv b ∧ a.tdiv b ≤ 999999999999 := by
  have h1 := abs_tdiv a b
  have h2 : absI a / absI b ≤ absI a := Int.ediv_le_self _ (by unfold absI; omega)
  unfold absI at *; omega
/-- where a long division stands: the rest of the dividend while i digits are to come -/
theorem long_step {A B : Int} (hA : 0 ≤ A) (hB : 0 < B) (j : Nat) :
    (A / B % 10 ^ (j + 1) * B + A % B) / (B * 10 ^ j) = A / B / 10 ^ j % 10 ∧ A / B % 10 ^ (j + 1) * B + A % B - A / B / 10 ^ j % 10 * B * 10 ^ j = A / B % 10 ^ j * B + A % B ∧ 10 * (A / B / 10 ^ (j + 1)) + A / B / 10 ^ j % 10 = A / B / 10 ^ j := by
  have hp := pow10_pos j
  have hQ : 0 ≤ A / B := Int.ediv_nonneg hA (by omega)
  have h1 := emod10 (m := A / B) j
  have hr0 := Int.emod_nonneg A (show B ≠ 0 by omega)
  have hr1 := Int.emod_lt_of_pos A hB
  have hm0 := Int.emod_nonneg (A / B) (show (10 : Int) ^ j ≠ 0 by omega)
  have hm1 := Int.emod_lt_of_pos (A / B) hp
  have e1 : A / B % 10 ^ (j + 1) * B + A % B = (A / B % 10 ^ j * B + A % B) + A / B / 10 ^ j % 10 * (B * 10 ^ j) := by
    rw [h1, Int.add_mul, Int.mul_comm (10 ^ j) (A / B / 10 ^ j % 10), Int.mul_assoc (A / B / 10 ^ j % 10) (10 ^ j) B, Int.mul_comm (10 ^ j) B]
    omega
  have hlt : A / B % 10 ^ j * B + A % B < B * 10 ^ j := by
    have : (A / B % 10 ^ j + 1) * B ≤ 10 ^ j * B := Int.mul_le_mul_of_nonneg_right (by omega) (by omega)
    rw [Int.add_mul, Int.one_mul, Int.mul_comm (10 ^ j) B] at this
    omega
  have hge : 0 ≤ A / B % 10 ^ j * B + A % B := by
    have := Int.mul_nonneg hm0 (show 0 ≤ B by omega)
    omega
  have hbp : 0 < B * 10 ^ j := Int.mul_pos hB hp
  refine ⟨?_, ?_, ?_⟩
  · rw [e1, Int.add_mul_ediv_right _ _ (by omega), Int.ediv_eq_zero_of_lt hge hlt]; omega
  · rw [e1, Int.mul_assoc]; omega
  · rw [← ediv10]; omega
/-- the power that belongs to i digits that are to come -/
def pw : Nat → Int
  | 0 => 0
  | i + 1 => 10 ^ i
theorem pw_div : ∀ i : Nat, (10 : Int) ^ i / 10 = pw i
  | 0 => by decide
  | i + 1 => by rw [pw, Int.pow_succ]; omega
section
variable {w : World} {lo hi B : Nat} {v : Value} {xs : List Int}
theorem cPrd_2 {a b : Int} (h : ¬ ((-999999 ≤ a ∧ a ≤ 999999) ∧ -999999 ≤ b ∧ b ≤ 999999)) : cPrd a b = 2 := by rw [cPrd, if_neg h]
theorem cPrd_0 {a b : Int} (h : (-999999 ≤ a ∧ a ≤ 999999) ∧ -999999 ≤ b ∧ b ≤ 999999) : cPrd a b = 0 := by rw [cPrd, if_pos h]
theorem prod_in {a b : Int} (h : (-999999 ≤ a ∧ a ≤ 999999) ∧ -999999 ≤ b ∧ b ≤ 999999) : -999998000001 ≤ a * b ∧ a * b ≤ 999998000001 := by
  have h1 := abs_mul a b
  have h2 : absI a * absI b ≤ 999999 * 999999 := Int.mul_le_mul (by unfold absI; omega) (by unfold absI; omega) (by unfold absI; omega) (by omega)
  have h3 : 0 ≤ absI a * absI b := Int.mul_nonneg (by unfold absI; omega) (by unfold absI; omega)
  by_cases hs : decide (a < 0) = decide (b < 0)
  · rw [← h1.2 hs]; omega
  · rw [← h1.1 hs]; omega
theorem iProductBy_c (a b : Int) (hT : Tab B w := by assumption) : Val Tryd.prog 7 [.int .i64 a, .int .i64 b] w (.tuple #[.int .i64 (orZ (cPrd a b) (a * b)), .int .i64 (orZ (cPrd a b) (cyc b)), .int .i64 (cPrd a b)]) := by
  refine ⟨fun w1 hx1 => ?_⟩
  replace hT := hT.ext hx1
  have E : Since 0 0 w1 w1 := Since.refl 0 0 w1
  by_cases hk : (-999999 ≤ a ∧ a ≤ 999999) ∧ -999999 ≤ b ∧ b ≤ 999999
  · have hp := prod_in hk
    have hb := dlist_bd (n := b) (by omega)
    refine ret_enter Tryd.func7 rfl Tryd.ntmps7 rfl ?_
    focus
      have ht_hT := hT.top
      refine c_seq ?_
      refine c_region ?_
      refine w_pure (y_assign rfl) rfl ?_
      refine w_pure (y_assign rfl) rfl ?_
      refine w_pure (y_assign rfl) rfl ?_
      refine w_nil ?_
      refine x_next ?_
      refine c_seq ?_
      refine c_seq ?_
      refine c_region ?_
      refine w_pure (y_move rfl) rfl ?_
      refine w_pur rfl rfl rfl (isFactor_c _) rfl ?_
      refine w_pure (y_not_dec rfl) rfl ?_
      refine w_pure (y_move rfl) rfl ?_
      (refine w_part_dec rfl rfl (fun hc14 => ?_) (fun hc14 => ?_) <;> try (first | exact absurd rfl hc14 | contradiction | exact Bool.noConfusion (show false = true from hc14.symm.trans (by assumption)) | exact Bool.noConfusion (show true = false from hc14.symm.trans (by assumption)) | (exfalso; omega) | (exfalso; simp only [*, Bool.not_true, Bool.not_false, reduceCtorEq] at hc14; done)))
      refine w_yes rfl rfl ?_
      refine w_pure (y_move rfl) rfl ?_
      refine w_yes rfl rfl ?_
      refine w_pur rfl rfl rfl (isFactor_c _) rfl ?_
      refine w_yes rfl rfl ?_
      refine w_pure (y_not_dec rfl) rfl ?_
      refine w_pure (y_pick_f rfl rfl) rfl ?_
      refine w_nil ?_
      refine x_next ?_
      (refine c_dec rfl (fun hc17 => ?_) (fun hc17 => ?_) <;> try (first | exact absurd rfl hc17 | contradiction | exact Bool.noConfusion (show false = true from hc17.symm.trans (by assumption)) | exact Bool.noConfusion (show true = false from hc17.symm.trans (by assumption)) | (exfalso; omega) | (exfalso; simp only [*, Bool.not_true, Bool.not_false, reduceCtorEq] at hc17; done)))
      refine c_skip ?_
      refine x_next ?_
      refine c_seq ?_
      refine c_region ?_
      refine w_pure (y_assign rfl) rfl ?_
      refine w_nil ?_
      refine x_next ?_
      refine c_seq ?_
      refine c_seq ?_
      refine c_region ?_
      refine w_pure (y_move rfl) rfl ?_
      (refine w_call rfl rfl rfl (digitList_c _) rfl ?_; rintro v19 w19 ⟨hp1_19, hx19⟩)
      have hl_hp1_19 := hp1_19.lt
      have hz_hx19 := hx19.size
      replace hT := hT.ext hx19
      replace E := E.trans hx19
      refine w_pure (y_len rfl) rfl ?_
      refine w_pure (y_move rfl) rfl ?_
      refine w_nil ?_
      refine x_next ?_
      refine c_block ?_
      rotate_left
    refine c_loopC 0 0 (ι := Int) (fun x => [(0, .int .i64 a), (1, .int .i64 b), (7, .int .i64 (1 + nzTo (dlist b) x.toNat)), (19, v19), (20, .int .i64 (dlist b).length), (21, .int .i64 x)]) (fun x w' => Own w' 2 w1.heap.size v19 (dlist b) ∧ 0 ≤ x ∧ x ≤ (dlist b).length) (fun x => ((dlist b).length - x).toNat) 0
      (by repeat (first | exact trivial | refine ⟨rfl, ?_⟩)) ⟨Own.base (by assumption) (by omega), by omega, by omega⟩ ?_
    clear hp1_19
    rintro i w2 hx2 E2 ⟨h2, hi0, hi1⟩
    have hs := nzTo_bd (dlist b) i.toNat
    have e1 : (i + 1).toNat = i.toNat + 1 := by omega
    focus
      have hl_h2 := h2.lt
      have hz_hx2 := hx2.size
      replace hT := hT.ext hx2
      replace E := E.trans hx2
      refine c_seq ?_
      refine c_region ?_
      refine w_pure (y_lt rfl rfl) rfl ?_
      refine w_nil ?_
      refine x_next ?_
      refine c_seq ?_
      (refine c_dec rfl (fun hc22 => ?_) (fun hc22 => ?_) <;> try (first | exact absurd rfl hc22 | contradiction | exact Bool.noConfusion (show false = true from hc22.symm.trans (by assumption)) | exact Bool.noConfusion (show true = false from hc22.symm.trans (by assumption)) | (exfalso; omega) | (exfalso; simp only [*, Bool.not_true, Bool.not_false, reduceCtorEq] at hc22; done)))
      refine c_skip ?_
      refine x_next ?_
      refine c_seq ?_
      refine c_block ?_
      refine c_seq ?_
      refine c_region ?_
      refine w_pure (y_index rfl rfl) rfl ?_
      refine w_pure (y_load_int rfl) rfl ?_
      refine w_pure (y_assign rfl) rfl ?_
      refine w_nil ?_
      refine x_next ?_
      refine c_seq ?_
      refine c_region ?_
      refine w_pure (y_move rfl) rfl ?_
      refine w_pure (y_ne rfl rfl) rfl ?_
      refine w_nil ?_
      refine x_next ?_
      (refine c_dec rfl (fun hc26 => ?_) (fun hc26 => ?_) <;> try (first | exact absurd rfl hc26 | contradiction | exact Bool.noConfusion (show false = true from hc26.symm.trans (by assumption)) | exact Bool.noConfusion (show true = false from hc26.symm.trans (by assumption)) | (exfalso; omega) | (exfalso; simp only [*, Bool.not_true, Bool.not_false, reduceCtorEq] at hc26; done)))
      refine c_region ?_
      refine w_pure (y_move rfl) rfl ?_
      refine w_pure (y_add rfl rfl) rfl ?_
      refine w_pure (y_assign rfl) rfl ?_
      refine w_nil ?_
      refine x_block_norm ?_
      refine x_next ?_
      refine c_region ?_
      refine w_pure (y_add rfl rfl) rfl ?_
      refine w_pure (y_move rfl) rfl ?_
      refine w_nil ?_
      rotate_left
      refine c_skip ?_
      refine x_block_norm ?_
      refine x_next ?_
      refine c_region ?_
      refine w_pure (y_add rfl rfl) rfl ?_
      refine w_pure (y_move rfl) rfl ?_
      refine w_nil ?_
      rotate_left
      refine c_exit ?_
      refine x_then_exit ?_
      refine x_then_exit ?_
      refine x_block_hit ?_
      refine x_next ?_
      refine c_seq ?_
      refine c_region ?_
      refine w_pure (y_move rfl) rfl ?_
      refine w_pure (y_move rfl) rfl ?_
      refine w_pure (y_mul rfl rfl) rfl ?_
      refine w_pure (y_move rfl) rfl ?_
      refine w_pure (y_assign rfl) rfl ?_
      refine w_pure (y_assign rfl) rfl ?_
      refine w_pure (y_assign rfl) rfl ?_
      refine w_nil ?_
      refine x_next ?_
      refine c_ret ?_
      rotate_left
    · exact x_again (i + 1) ⟨rfl, rfl, by rw [e1, nzTo, if_neg hc26, ← Int.add_assoc]; rfl, rfl, rfl, rfl, trivial⟩ ⟨E2.go, by assumption, by omega, by omega⟩ (by omega)
    · exact x_again (i + 1) ⟨rfl, rfl, by rw [e1, nzTo, if_pos (Decidable.not_not.1 hc26)]; rfl, rfl, rfl, rfl, trivial⟩ ⟨E2.go, by assumption, by omega, by omega⟩ (by omega)
    · refine x_retv [_, _, _] rfl ⟨rfl, rfl, rfl, trivial⟩ ⟨?_, E.go⟩
      rw [cPrd_0 hk, show i.toNat = (dlist b).length by omega]; rfl
  · refine ret_enter Tryd.func7 rfl Tryd.ntmps7 rfl ?_
    focus
      have ht_hT := hT.top
      refine c_seq ?_
      refine c_region ?_
      refine w_pure (y_assign rfl) rfl ?_
      refine w_pure (y_assign rfl) rfl ?_
      refine w_pure (y_assign rfl) rfl ?_
      refine w_nil ?_
      refine x_next ?_
      refine c_seq ?_
      refine c_seq ?_
      refine c_region ?_
      refine w_pure (y_move rfl) rfl ?_
      refine w_pur rfl rfl rfl (isFactor_c _) rfl ?_
      refine w_pure (y_not_dec rfl) rfl ?_
      refine w_pure (y_move rfl) rfl ?_
      (refine w_part_dec rfl rfl (fun hc14 => ?_) (fun hc14 => ?_) <;> try (first | exact absurd rfl hc14 | contradiction | exact Bool.noConfusion (show false = true from hc14.symm.trans (by assumption)) | exact Bool.noConfusion (show true = false from hc14.symm.trans (by assumption)) | (exfalso; omega) | (exfalso; simp only [*, Bool.not_true, Bool.not_false, reduceCtorEq] at hc14; done)))
      refine w_no rfl rfl rfl rfl ?_
      refine w_no rfl rfl rfl rfl ?_
      refine w_no rfl rfl rfl rfl ?_
      refine w_pure (y_pick_t rfl rfl) rfl ?_
      refine w_nil ?_
      refine x_next ?_
      refine c_true rfl ?_
      refine c_seq ?_
      refine c_region ?_
      refine w_pure (y_assign rfl) rfl ?_
      refine w_pure (y_assign rfl) rfl ?_
      refine w_pure (y_assign rfl) rfl ?_
      refine w_nil ?_
      refine x_next ?_
      refine c_ret ?_
      refine x_then_ret ?_
      rotate_left
      refine w_yes rfl rfl ?_
      refine w_pure (y_move rfl) rfl ?_
      refine w_yes rfl rfl ?_
      refine w_pur rfl rfl rfl (isFactor_c _) rfl ?_
      refine w_yes rfl rfl ?_
      refine w_pure (y_not_dec rfl) rfl ?_
      refine w_pure (y_pick_f rfl rfl) rfl ?_
      refine w_nil ?_
      refine x_next ?_
      (refine c_dec rfl (fun hc17 => ?_) (fun hc17 => ?_) <;> try (first | exact absurd rfl hc17 | contradiction | exact Bool.noConfusion (show false = true from hc17.symm.trans (by assumption)) | exact Bool.noConfusion (show true = false from hc17.symm.trans (by assumption)) | (exfalso; omega) | (exfalso; simp only [*, Bool.not_true, Bool.not_false, reduceCtorEq] at hc17; done)))
      refine c_seq ?_
      refine c_region ?_
      refine w_pure (y_assign rfl) rfl ?_
      refine w_pure (y_assign rfl) rfl ?_
      refine w_pure (y_assign rfl) rfl ?_
      refine w_nil ?_
      refine x_next ?_
      refine c_ret ?_
      refine x_then_ret ?_
      rotate_left
    all_goals exact x_retv [_, _, _] rfl ⟨rfl, rfl, rfl, trivial⟩ ⟨by rw [cPrd_2 hk]; rfl, E.go⟩
theorem l14Times_c (a b : Int) (ha : 0 ≤ a ∧ a ≤ 999999 := by omega) (hb : 0 ≤ b ∧ b ≤ 999999 := by omega) : Pur Tryd.prog 58 [.int .i64 a, .int .i64 b] (.tuple #[.int .i64 (a * b), .int .i64 (cyc b)]) := by
  refine ⟨fun w1 => ?_⟩
  have hd := dlist_dig b (by omega)
  have hl := dlist_bd (n := b) (by omega)
  have hab : absI b = b := by unfold absI; omega
  refine ret_enter Tryd.func58 rfl Tryd.ntmps58 rfl ?_
  focus
    refine c_seq ?_
    refine c_region ?_
    refine w_pure (y_assign rfl) rfl ?_
    refine w_pure (y_assign rfl) rfl ?_
    refine w_nil ?_
    refine x_next ?_
    refine c_seq ?_
    refine c_region ?_
    refine w_pure (y_assign rfl) rfl ?_
    refine w_nil ?_
    refine x_next ?_
    refine c_seq ?_
    refine c_region ?_
    refine w_pure (y_assign rfl) rfl ?_
    refine w_nil ?_
    refine x_next ?_
    refine c_seq ?_
    refine c_region ?_
    refine w_pure (y_assign rfl) rfl ?_
    refine w_nil ?_
    refine x_next ?_
    refine c_seq ?_
    refine c_block ?_
    rotate_left
  refine c_loop (ι := Int × Int × Nat) (fun x => [(0, .int .i64 a), (1, .int .i64 (b / 10 ^ x.2.2)), (6, .int .i64 x.1), (7, .int .i64 x.2.1), (8, .int .i64 (1 + nzTo (dlist b) x.2.2))]) (fun x w' => w' = w1 ∧ x.2.2 ≤ (dlist b).length ∧ x.1 = a * (b % 10 ^ x.2.2) ∧ x.2.1 = 10 ^ x.2.2) (fun x => (b / 10 ^ x.2.2).toNat) (0, 1, 0)
    ⟨rfl, by show _ = some (Value.int .i64 (b / 10 ^ 0)); rw [Int.pow_zero, Int.ediv_one]; rfl, rfl, rfl, rfl, trivial⟩ ⟨rfl, by dsimp only; omega, by dsimp only; rw [Int.pow_zero, Int.emod_one, Int.mul_zero], by dsimp only; rw [Int.pow_zero]⟩ ?_
  rintro ⟨s, p, i⟩ w2 ⟨rfl, hi, hs, hp⟩
  dsimp only at *
  have hp0 := pow10_pos i
  have hbn : 0 ≤ b / 10 ^ i ∧ b / 10 ^ i ≤ 999999 := ⟨Int.ediv_nonneg hb.1 (Int.le_of_lt hp0), Int.le_trans (Int.ediv_le_self _ hb.1) hb.2⟩
  have hpb : 0 < b / 10 ^ i → p ≤ 999999 := fun hh => by
    rw [hp]
    rcases Int.lt_or_le b (10 ^ i) with h1 | h1
    · rw [Int.ediv_eq_zero_of_lt hb.1 h1] at hh; omega
    · omega
  have hpt := parts_bdd (n := a) (d := b / 10 ^ i % 10) ha (by omega)
  have hrp : 0 < b / 10 ^ i → 0 ≤ (partsF a (b / 10 ^ i % 10) 0 0 1).1 * p ∧ (partsF a (b / 10 ^ i % 10) 0 0 1).1 * p ≤ 8999991 * 999999 := fun hh => ⟨Int.mul_nonneg (by omega) (by omega), Int.mul_le_mul (by omega) (hpb hh) (by omega) (by omega)⟩
  have hlp : 0 < b / 10 ^ i → 0 ≤ (partsF a (b / 10 ^ i % 10) 0 0 1).2 * p ∧ (partsF a (b / 10 ^ i % 10) 0 0 1).2 * p ≤ 8999991 * 999999 := fun hh => ⟨Int.mul_nonneg (by omega) (by omega), Int.mul_le_mul (by omega) (hpb hh) (by omega) (by omega)⟩
  have hsb : 0 ≤ s ∧ s ≤ 999999 * 999999 := by
    have h1 := Int.emod_nonneg b (show (10 : Int) ^ i ≠ 0 by omega)
    have h2 : b % 10 ^ i ≤ b := by
      have h3 := Int.emod_add_mul_ediv b (10 ^ i)
      have h4 := Int.mul_nonneg (Int.le_of_lt hp0) hbn.1
      omega
    rw [hs]
    exact ⟨Int.mul_nonneg ha.1 h1, Int.mul_le_mul (by omega) (by omega) h1 (by omega)⟩
  have hnz := nzTo_bd (dlist b) i
  have hpp : 0 ≤ p := by rw [hp]; omega
  have hilt : 0 < b / 10 ^ i → i < (dlist b).length := fun hh => by
    rcases Nat.eq_zero_or_pos i with h0 | h0
    · omega
    · have := (digs_go (m := b) hb.1 h0).1 hh
      rw [dlist_len, hab]; omega
  have hgi : 0 < b / 10 ^ i → (dlist b).getD i 0 = b / 10 ^ i % 10 := fun hh => by have := dlist_get b i (hilt hh); rwa [hab] at this
  have hsn : s + ((partsF a (b / 10 ^ i % 10) 0 0 1).1 * p + (partsF a (b / 10 ^ i % 10) 0 0 1).2 * p * 10) = a * (b % 10 ^ (i + 1)) := by
    rw [emod10, Int.mul_add, ← hs, hp]
    have e1 : a * (10 ^ i * (b / 10 ^ i % 10)) = ((partsF a (b / 10 ^ i % 10) 0 0 1).1 + 10 * (partsF a (b / 10 ^ i % 10) 0 0 1).2) * 10 ^ i := by rw [hpt.1, Int.mul_comm (10 ^ i) (b / 10 ^ i % 10), Int.mul_assoc]
    rw [e1, Int.add_mul, Int.mul_comm 10 _, Int.mul_assoc _ 10, Int.mul_assoc _ (10 ^ i), Int.mul_comm 10 (10 ^ i)]
  have hdec : 0 < b / 10 ^ i → (b / 10 ^ (i + 1)).toNat < (b / 10 ^ i).toNat := fun hh => by rw [← ediv10]; omega
  have hfr : some (Value.int .i64 (b / 10 ^ i / 10)) = some (Value.int .i64 (b / 10 ^ (i + 1))) := by rw [ediv10]
  focus
    refine c_seq ?_
    refine c_seq ?_
    refine c_region ?_
    refine w_pure (y_move rfl) rfl ?_
    refine w_pure (y_gt rfl rfl) rfl ?_
    refine w_nil ?_
    refine x_next ?_
    (refine c_dec rfl (fun hc12 => ?_) (fun hc12 => ?_) <;> try (first | exact absurd rfl hc12 | contradiction | exact Bool.noConfusion (show false = true from hc12.symm.trans (by assumption)) | exact Bool.noConfusion (show true = false from hc12.symm.trans (by assumption)) | (exfalso; omega) | (exfalso; simp only [*, Bool.not_true, Bool.not_false, reduceCtorEq] at hc12; done)))
    refine c_skip ?_
    refine x_next ?_
    refine c_seq ?_
    refine c_block ?_
    refine c_seq ?_
    refine c_region ?_
    refine w_pure (y_move rfl) rfl ?_
    refine w_pure (y_move rfl) rfl ?_
    refine w_pure (y_rem rfl rfl) rfl ?_
    refine w_pur rfl rfl rfl (l14Parts_c a _ (by omega) (by omega) (by omega) (by omega)) rfl ?_
    refine w_pure (y_move rfl) rfl ?_
    refine w_pure (y_extract rfl rfl) rfl ?_
    refine w_pure (y_extract rfl rfl) rfl ?_
    refine w_pure (y_assign rfl) rfl ?_
    refine w_pure (y_assign rfl) rfl ?_
    refine w_nil ?_
    refine x_next ?_
    refine c_seq ?_
    refine c_region ?_
    refine w_pure (y_move rfl) rfl ?_
    refine w_pure (y_move rfl) rfl ?_
    refine w_pure (y_move rfl) rfl ?_
    refine w_pure (y_mul rfl rfl) rfl ?_
    refine w_pure (y_move rfl) rfl ?_
    refine w_pure (y_move rfl) rfl ?_
    refine w_pure (y_mul rfl rfl) rfl ?_
    refine w_pure (y_mul rfl rfl) rfl ?_
    refine w_pure (y_add rfl rfl) rfl ?_
    refine w_pure (y_add rfl rfl) rfl ?_
    refine w_pure (y_assign rfl) rfl ?_
    refine w_nil ?_
    refine x_next ?_
    refine c_seq ?_
    refine c_region ?_
    refine w_pure (y_move rfl) rfl ?_
    refine w_pure (y_mul rfl rfl) rfl ?_
    refine w_pure (y_assign rfl) rfl ?_
    refine w_nil ?_
    refine x_next ?_
    refine c_seq ?_
    refine c_region ?_
    refine w_pure (y_move rfl) rfl ?_
    refine w_pure (y_rem rfl rfl) rfl ?_
    refine w_pure (y_gt rfl rfl) rfl ?_
    refine w_nil ?_
    refine x_next ?_
    (refine c_dec rfl (fun hc36 => ?_) (fun hc36 => ?_) <;> try (first | exact absurd rfl hc36 | contradiction | exact Bool.noConfusion (show false = true from hc36.symm.trans (by assumption)) | exact Bool.noConfusion (show true = false from hc36.symm.trans (by assumption)) | (exfalso; omega) | (exfalso; simp only [*, Bool.not_true, Bool.not_false, reduceCtorEq] at hc36; done)))
    refine c_region ?_
    refine w_pure (y_move rfl) rfl ?_
    refine w_pure (y_add rfl rfl) rfl ?_
    refine w_pure (y_assign rfl) rfl ?_
    refine w_nil ?_
    refine x_block_norm ?_
    refine x_next ?_
    refine c_region ?_
    refine w_pure (y_move rfl) rfl ?_
    refine w_pure (y_quo rfl rfl) rfl ?_
    refine w_pure (y_assign rfl) rfl ?_
    refine w_nil ?_
    rotate_left
    refine c_skip ?_
    refine x_block_norm ?_
    refine x_next ?_
    refine c_region ?_
    refine w_pure (y_move rfl) rfl ?_
    refine w_pure (y_quo rfl rfl) rfl ?_
    refine w_pure (y_assign rfl) rfl ?_
    refine w_nil ?_
    rotate_left
    refine c_exit ?_
    refine x_then_exit ?_
    refine x_then_exit ?_
    refine x_block_hit ?_
    refine x_next ?_
    refine c_seq ?_
    refine c_region ?_
    refine w_pure (y_move rfl) rfl ?_
    refine w_pure (y_move rfl) rfl ?_
    refine w_pure (y_assign rfl) rfl ?_
    refine w_pure (y_assign rfl) rfl ?_
    refine w_nil ?_
    refine x_next ?_
    refine c_ret ?_
    rotate_left
  · refine x_again (_, _, i + 1) ⟨rfl, hfr, rfl, rfl, ?_, trivial⟩ ⟨rfl, ?_, hsn, by dsimp only; rw [Int.pow_succ, hp]⟩ (hdec hc12)
    · show some (Value.int .i64 (1 + nzTo (dlist b) i + 1)) = some (Value.int .i64 (1 + nzTo (dlist b) (i + 1)))
      rw [nzTo, if_neg (by rw [hgi hc12]; omega), Int.add_assoc]
    · have := hilt hc12; dsimp only; omega
  · refine x_again (_, _, i + 1) ⟨rfl, hfr, rfl, rfl, ?_, trivial⟩ ⟨rfl, ?_, hsn, by dsimp only; rw [Int.pow_succ, hp]⟩ (hdec hc12)
    · show some (Value.int .i64 (1 + nzTo (dlist b) i)) = some (Value.int .i64 (1 + nzTo (dlist b) (i + 1)))
      rw [nzTo, if_pos (by rw [hgi hc12]; omega)]
    · have := hilt hc12; dsimp only; omega
  · have h0 : b / 10 ^ i = 0 := by omega
    have h3 := Int.emod_add_mul_ediv b (10 ^ i)
    rw [h0, Int.mul_zero, Int.add_zero] at h3
    have h4 := nz_end b hb.1 h0 ((dlist b).length - i) (by omega)
    rw [show i + ((dlist b).length - i) = (dlist b).length by omega] at h4
    refine x_retv [_, _] rfl ⟨rfl, rfl, trivial⟩ ⟨?_, rfl⟩
    rw [hs, h3, ← h4]; rfl
theorem sProductBy_c (a b : Int) : Pur Tryd.prog 8 [.int .i64 a, .int .i64 b] (.tuple #[.int .i64 (orZ (cPrd a b) (a * b)), .int .i64 (orZ (cPrd a b) (cyc b)), .int .i64 (cPrd a b)]) := by
  refine ⟨fun w1 => ?_⟩
  by_cases hk : (-999999 ≤ a ∧ a ≤ 999999) ∧ -999999 ≤ b ∧ b ≤ 999999
  · have hp := prod_in hk
    have hm := abs_mul a b
    have haa := absI_bd (n := a) hk.1
    have hbb := absI_bd (n := b) hk.2
    have hmb : 0 ≤ absI a * absI b ∧ absI a * absI b ≤ 999999 * 999999 := ⟨Int.mul_nonneg haa.1 hbb.1, Int.mul_le_mul haa.2 hbb.2 hbb.1 (by omega)⟩
    have hmb2 : 0 ≤ max a (-a) * max b (-b) ∧ max a (-a) * max b (-b) ≤ 999999 * 999999 := hmb
    have hcy : cyc (absI b) = cyc b := by unfold cyc; rw [dlist_abs]
    refine ret_enter Tryd.func8 rfl Tryd.ntmps8 rfl ?_
    focus
      refine c_seq ?_
      refine c_region ?_
      refine w_pure (y_assign rfl) rfl ?_
      refine w_pure (y_assign rfl) rfl ?_
      refine w_pure (y_assign rfl) rfl ?_
      refine w_nil ?_
      refine x_next ?_
      refine c_seq ?_
      refine c_seq ?_
      refine c_region ?_
      refine w_pure (y_move rfl) rfl ?_
      refine w_pur rfl rfl rfl (l14Factor_c _) rfl ?_
      refine w_pure (y_not_dec rfl) rfl ?_
      refine w_pure (y_move rfl) rfl ?_
      (refine w_part_dec rfl rfl (fun hc13 => ?_) (fun hc13 => ?_) <;> try (first | exact absurd rfl hc13 | contradiction | exact Bool.noConfusion (show false = true from hc13.symm.trans (by assumption)) | exact Bool.noConfusion (show true = false from hc13.symm.trans (by assumption)) | (exfalso; omega) | (exfalso; simp only [*, Bool.not_true, Bool.not_false, reduceCtorEq] at hc13; done)))
      refine w_yes rfl rfl ?_
      refine w_pure (y_move rfl) rfl ?_
      refine w_yes rfl rfl ?_
      refine w_pur rfl rfl rfl (l14Factor_c _) rfl ?_
      refine w_yes rfl rfl ?_
      refine w_pure (y_not_dec rfl) rfl ?_
      refine w_pure (y_pick_f rfl rfl) rfl ?_
      refine w_nil ?_
      refine x_next ?_
      (refine c_dec rfl (fun hc16 => ?_) (fun hc16 => ?_) <;> try (first | exact absurd rfl hc16 | contradiction | exact Bool.noConfusion (show false = true from hc16.symm.trans (by assumption)) | exact Bool.noConfusion (show true = false from hc16.symm.trans (by assumption)) | (exfalso; omega) | (exfalso; simp only [*, Bool.not_true, Bool.not_false, reduceCtorEq] at hc16; done)))
      refine c_skip ?_
      refine x_next ?_
      refine c_seq ?_
      refine c_region ?_
      refine w_pure (y_move rfl) rfl ?_
      refine w_pur rfl rfl rfl (l14Size_c _ ⟨by omega, by omega⟩) rfl ?_
      refine w_pure (y_move rfl) rfl ?_
      refine w_pur rfl rfl rfl (l14Size_c _ ⟨by omega, by omega⟩) rfl ?_
      refine w_pur rfl rfl rfl (l14Times_c _ _) rfl ?_
      refine w_pure (y_move rfl) rfl ?_
      refine w_pure (y_extract rfl rfl) rfl ?_
      refine w_pure (y_extract rfl rfl) rfl ?_
      refine w_pure (y_assign rfl) rfl ?_
      refine w_pure (y_assign rfl) rfl ?_
      refine w_nil ?_
      refine x_next ?_
      refine c_seq ?_
      refine c_seq ?_
      refine c_region ?_
      refine w_pure (y_move rfl) rfl ?_
      refine w_pure (y_lt rfl rfl) rfl ?_
      refine w_pure (y_move rfl) rfl ?_
      refine w_pure (y_lt rfl rfl) rfl ?_
      refine w_pure (y_neb rfl rfl) rfl ?_
      refine w_nil ?_
      refine x_next ?_
      (refine c_dec rfl (fun hc29 => ?_) (fun hc29 => ?_) <;> try (first | exact absurd rfl hc29 | contradiction | exact Bool.noConfusion (show false = true from hc29.symm.trans (by assumption)) | exact Bool.noConfusion (show true = false from hc29.symm.trans (by assumption)) | (exfalso; omega) | (exfalso; simp only [*, Bool.not_true, Bool.not_false, reduceCtorEq] at hc29; done)))
      refine c_region ?_
      refine w_pure (y_move rfl) rfl ?_
      refine w_pure (y_neg rfl) rfl ?_
      refine w_pure (y_assign rfl) rfl ?_
      refine w_nil ?_
      refine x_next ?_
      refine c_seq ?_
      refine c_region ?_
      refine w_pure (y_move rfl) rfl ?_
      refine w_pure (y_move rfl) rfl ?_
      refine w_pure (y_assign rfl) rfl ?_
      refine w_pure (y_assign rfl) rfl ?_
      refine w_pure (y_assign rfl) rfl ?_
      refine w_nil ?_
      refine x_next ?_
      refine c_ret ?_
      rotate_left
      refine c_skip ?_
      refine x_next ?_
      refine c_seq ?_
      refine c_region ?_
      refine w_pure (y_move rfl) rfl ?_
      refine w_pure (y_move rfl) rfl ?_
      refine w_pure (y_assign rfl) rfl ?_
      refine w_pure (y_assign rfl) rfl ?_
      refine w_pure (y_assign rfl) rfl ?_
      refine w_nil ?_
      refine x_next ?_
      refine c_ret ?_
      rotate_left
    · refine x_retv [_, _, _] rfl ⟨rfl, rfl, rfl, trivial⟩ ⟨?_, rfl⟩
      have h1 : -(max a (-a) * max b (-b)) = a * b := hm.1 hc29
      have h2 : cyc (max b (-b)) = cyc b := hcy
      rw [cPrd_0 hk, h1, h2]; rfl
    · refine x_retv [_, _, _] rfl ⟨rfl, rfl, rfl, trivial⟩ ⟨?_, rfl⟩
      have h1 : max a (-a) * max b (-b) = a * b := hm.2 (Decidable.not_not.1 hc29)
      have h2 : cyc (max b (-b)) = cyc b := hcy
      rw [cPrd_0 hk, h1, h2]; rfl
  · refine ret_enter Tryd.func8 rfl Tryd.ntmps8 rfl ?_
    focus
      refine c_seq ?_
      refine c_region ?_
      refine w_pure (y_assign rfl) rfl ?_
      refine w_pure (y_assign rfl) rfl ?_
      refine w_pure (y_assign rfl) rfl ?_
      refine w_nil ?_
      refine x_next ?_
      refine c_seq ?_
      refine c_seq ?_
      refine c_region ?_
      refine w_pure (y_move rfl) rfl ?_
      refine w_pur rfl rfl rfl (l14Factor_c _) rfl ?_
      refine w_pure (y_not_dec rfl) rfl ?_
      refine w_pure (y_move rfl) rfl ?_
      (refine w_part_dec rfl rfl (fun hc13 => ?_) (fun hc13 => ?_) <;> try (first | exact absurd rfl hc13 | contradiction | exact Bool.noConfusion (show false = true from hc13.symm.trans (by assumption)) | exact Bool.noConfusion (show true = false from hc13.symm.trans (by assumption)) | (exfalso; omega) | (exfalso; simp only [*, Bool.not_true, Bool.not_false, reduceCtorEq] at hc13; done)))
      refine w_no rfl rfl rfl rfl ?_
      refine w_no rfl rfl rfl rfl ?_
      refine w_no rfl rfl rfl rfl ?_
      refine w_pure (y_pick_t rfl rfl) rfl ?_
      refine w_nil ?_
      refine x_next ?_
      refine c_true rfl ?_
      refine c_seq ?_
      refine c_region ?_
      refine w_pure (y_assign rfl) rfl ?_
      refine w_pure (y_assign rfl) rfl ?_
      refine w_pure (y_assign rfl) rfl ?_
      refine w_nil ?_
      refine x_next ?_
      refine c_ret ?_
      refine x_then_ret ?_
      rotate_left
      refine w_yes rfl rfl ?_
      refine w_pure (y_move rfl) rfl ?_
      refine w_yes rfl rfl ?_
      refine w_pur rfl rfl rfl (l14Factor_c _) rfl ?_
      refine w_yes rfl rfl ?_
      refine w_pure (y_not_dec rfl) rfl ?_
      refine w_pure (y_pick_f rfl rfl) rfl ?_
      refine w_nil ?_
      refine x_next ?_
      (refine c_dec rfl (fun hc16 => ?_) (fun hc16 => ?_) <;> try (first | exact absurd rfl hc16 | contradiction | exact Bool.noConfusion (show false = true from hc16.symm.trans (by assumption)) | exact Bool.noConfusion (show true = false from hc16.symm.trans (by assumption)) | (exfalso; omega) | (exfalso; simp only [*, Bool.not_true, Bool.not_false, reduceCtorEq] at hc16; done)))
      refine c_seq ?_
      refine c_region ?_
      refine w_pure (y_assign rfl) rfl ?_
      refine w_pure (y_assign rfl) rfl ?_
      refine w_pure (y_assign rfl) rfl ?_
      refine w_nil ?_
      refine x_next ?_
      refine c_ret ?_
      refine x_then_ret ?_
      rotate_left
    all_goals exact x_retv [_, _, _] rfl ⟨rfl, rfl, rfl, trivial⟩ ⟨by rw [cPrd_2 hk]; rfl, rfl⟩
end
end Go.Proofs.YtgkljfncpgbngaaDoor

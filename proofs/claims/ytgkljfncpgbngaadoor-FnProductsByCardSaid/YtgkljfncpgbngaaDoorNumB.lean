/- Contracts: digits of numbers; products, turns. -/
import Derived.Test.YtgkljfncpgbngaaDoorTieA
import Derived.Test.YtgkljfncpgbngaaDoorCntI
namespace Go.Proofs.YtgkljfncpgbngaaDoor
open Go Go.Gw
set_option linter.unusedVariables false
set_option linter.unusedSimpArgs false
/-- the absolute value -/
def absI (n : Int) : Int := max n (-n)
theorem absI_bd {n M : Int} (h : -M ≤ n ∧ n ≤ M) : 0 ≤ absI n ∧ absI n ≤ M := by unfold absI; omega
/-- the digits of the absolute value of a number, the lowest first -/
def dlist (n : Int) : List Int := digs (nDig (absI n)).toNat (absI n)
theorem dlist_len (n : Int) : (dlist n).length = (nDig (absI n)).toNat := digs_len _ _
theorem dlist_get (n : Int) (i : Nat) (h : i < (dlist n).length) : (dlist n).getD i 0 = absI n / 10 ^ i % 10 := by
  rw [dlist_len] at h; exact digs_getD _ _ _ h
/-- the sum of the first i numbers -/
def sumTo (xs : List Int) : Nat → Int
  | 0 => 0
  | i + 1 => sumTo xs i + xs.getD i 0
theorem sumTo_bd {xs : List Int} (h : ∀ i, i < xs.length → 0 ≤ xs.getD i 0 ∧ xs.getD i 0 ≤ 9) : ∀ i, i ≤ xs.length → 0 ≤ sumTo xs i ∧ sumTo xs i ≤ 9 * i
  | 0, _ => by simp [sumTo]
  | i + 1, hi => by
    have h1 := sumTo_bd h i (by omega)
    have h2 := h i (by omega)
    simp only [sumTo]; push_cast; omega
/-- how many of the first i numbers are not 0 -/
def nzTo (xs : List Int) : Nat → Int
  | 0 => 0
  | i + 1 => if xs.getD i 0 = 0 then nzTo xs i else nzTo xs i + 1
theorem nzTo_bd (xs : List Int) : ∀ i, 0 ≤ nzTo xs i ∧ nzTo xs i ≤ i
  | 0 => by simp [nzTo]
  | i + 1 => by
    have h1 := nzTo_bd xs i
    simp only [nzTo]; split <;> (push_cast; omega)
theorem dlist_dig (n : Int) (h : -999999999999 ≤ n ∧ n ≤ 999999999999) : ∀ i, i < (dlist n).length → 0 ≤ (dlist n).getD i 0 ∧ (dlist n).getD i 0 ≤ 9 := fun i hi => by
  rw [dlist_get n i hi]; omega
theorem dlist_bd {n : Int} (h : -999999999999 ≤ n ∧ n ≤ 999999999999) : 1 ≤ (dlist n).length ∧ (dlist n).length ≤ 12 := by
  have hb := absI_bd (M := 999999999999) h
  have h1 := nDig_bd (n := absI n) ⟨hb.1, by omega⟩
  have h2 := (nDig_le (n := absI n) (k := 12) hb.1 (by omega)).2 (by have : (10 : Int) ^ (12 : Int).toNat = 1000000000000 := by decide
                                                                     omega)
  rw [dlist_len]; omega
/-- below the number of digits the number goes on -/
theorem digs_go {m : Int} (hm : 0 ≤ m) {i : Nat} (hi : 1 ≤ i) : (0 < m / 10 ^ i ↔ (i : Int) < nDig m) := by
  have h1 := nDig_le (n := m) (k := i) hm (by omega)
  rw [Int.toNat_natCast] at h1
  have hp := pow10_pos i
  constructor
  · intro h
    have : 10 ^ i ≤ m := by
      rcases Int.lt_or_le m (10 ^ i) with h2 | h2
      · rw [Int.ediv_eq_zero_of_lt hm h2] at h; omega
      · exact h2
    omega
  · intro h
    have : 10 ^ i ≤ m := by omega
    have := Int.ediv_le_ediv hp this
    rw [Int.ediv_self (by omega)] at this
    omega
theorem ediv10 (m : Int) (i : Nat) : m / 10 ^ i / 10 = m / 10 ^ (i + 1) := by
  rw [Int.ediv_ediv_of_nonneg (Int.le_of_lt (pow10_pos _)), Int.pow_succ]
theorem emod10 {m : Int} (i : Nat) : m % 10 ^ (i + 1) = m % 10 ^ i + 10 ^ i * (m / 10 ^ i % 10) := by
  have hp := pow10_pos i
  have h1 := Int.emod_add_mul_ediv m (10 ^ i)
  have h2 := Int.emod_add_mul_ediv (m / 10 ^ i) 10
  have h3 := Int.emod_nonneg m (show (10 : Int) ^ i ≠ 0 by omega)
  have h4 := Int.emod_lt_of_pos m hp
  have h5 : 0 ≤ m / 10 ^ i % 10 ∧ m / 10 ^ i % 10 ≤ 9 := by omega
  have e : (10 : Int) ^ (i + 1) = 10 ^ i * 10 := Int.pow_succ _ _
  have e2 : m = m % 10 ^ i + 10 ^ i * (m / 10 ^ i % 10) + (m / 10 ^ i / 10) * 10 ^ (i + 1) := by
    rw [e]
    conv => lhs; rw [← h1, ← h2]
    rw [Int.mul_add, ← Int.mul_assoc, Int.mul_comm (10 ^ i * 10) (m / 10 ^ i / 10)]
    omega
  have hlt : m % 10 ^ i + 10 ^ i * (m / 10 ^ i % 10) < 10 ^ (i + 1) := by
    rw [e]
    have := Int.mul_le_mul_of_nonneg_left h5.2 (Int.le_of_lt hp)
    omega
  have hge : 0 ≤ m % 10 ^ i + 10 ^ i * (m / 10 ^ i % 10) := by
    have := Int.mul_nonneg (Int.le_of_lt hp) h5.1
    omega
  conv => lhs; rw [e2]
  rw [Int.add_mul_emod_self_right, Int.emod_eq_of_lt hge hlt]
section
variable {w : World} {lo hi B : Nat} {v : Value} {xs : List Int}
theorem isFactor_c (n : Int) : Pur Tryd.prog 55 [.int .i64 n] (.bool (decide (-999999 ≤ n ∧ n ≤ 999999))) := by
  refine ⟨fun w0 => ?_⟩
  refine ret_enter Tryd.func55 rfl Tryd.ntmps55 rfl ?_
  focus
    refine c_seq ?_
    refine c_region ?_
    refine w_pure (y_assign rfl) rfl ?_
    refine w_nil ?_
    refine x_next ?_
    refine c_seq ?_
    refine c_region ?_
    refine w_pure (y_move rfl) rfl ?_
    refine w_pur rfl rfl rfl (inside_c _ _ _) rfl ?_
    refine w_pure (y_assign rfl) rfl ?_
    refine w_nil ?_
    refine x_next ?_
    refine c_ret ?_
    rotate_left
  exact x_retv [_] rfl ⟨rfl, trivial⟩ ⟨rfl, rfl⟩
theorem l14Factor_c (n : Int) : Pur Tryd.prog 57 [.int .i64 n] (.bool (decide (-999999 ≤ n ∧ n ≤ 999999))) := by
  refine ⟨fun w0 => ?_⟩
  refine ret_enter Tryd.func57 rfl Tryd.ntmps57 rfl ?_
  focus
    refine c_seq ?_
    refine c_region ?_
    refine w_pure (y_assign rfl) rfl ?_
    refine w_nil ?_
    refine x_next ?_
    refine c_seq ?_
    refine c_region ?_
    refine w_pure (y_move rfl) rfl ?_
    refine w_pur rfl rfl rfl (l00In_c _ _ _) rfl ?_
    refine w_pure (y_assign rfl) rfl ?_
    refine w_nil ?_
    refine x_next ?_
    refine c_ret ?_
    rotate_left
  exact x_retv [_] rfl ⟨rfl, trivial⟩ ⟨rfl, rfl⟩
theorem digitList_c (n : Int) (hn : -999999999999 ≤ n ∧ n ≤ 999999999999 := by omega) (hT : Tab B w := by assumption) : Ret Tryd.prog 56 [.int .i64 n] w fun u w' => Own w' 2 w.heap.size u (dlist n) ∧ Ext w w' := by
  have hb := absI_bd (M := 999999999999) hn
  have h1 := nDig_bd (n := absI n) ⟨hb.1, by omega⟩
  have E : Since 0 0 w w := Since.refl 0 0 w
  refine ret_enter Tryd.func56 rfl Tryd.ntmps56 rfl ?_
  focus
    have ht_hT := hT.top
    refine c_seq ?_
    refine c_region ?_
    refine w_pure (y_assign rfl) rfl ?_
    refine w_nil ?_
    refine x_next ?_
    refine c_seq ?_
    refine c_region ?_
    refine w_pure (y_move rfl) rfl ?_
    refine w_pur rfl rfl rfl (absOf_c _ ⟨by omega, by omega⟩) rfl ?_
    refine w_val rfl rfl rfl (digitsOf_c _) rfl (fun w5 hx5 hz5 => ?_)
    have hz_hx5 := hx5.size
    replace hT := hT.ext hx5
    replace E := E.trans hx5
    refine w_pure (y_move rfl) rfl ?_
    refine w_pur rfl rfl rfl (absOf_c _ ⟨by omega, by omega⟩) rfl ?_
    (refine w_call rfl rfl rfl (wheelsShow_c (nDig (absI n)) (absI n) _ ⟨by omega, by omega⟩ (by omega) (by omega)) rfl ?_; rintro _ w8 ⟨d8, ⟨rfl, ⟨hp1_8, hx8⟩⟩⟩)
    have hl_hp1_8 := hp1_8.lt
    have hz_hx8 := hx8.size
    replace hT := hT.ext hx8
    replace E := E.trans hx8
    refine w_pure (y_fld rfl) rfl ?_
    refine w_pure (y_assign rfl) rfl ?_
    refine w_nil ?_
    refine x_next ?_
    refine c_ret ?_
    rotate_left
  exact x_retv [_] rfl ⟨rfl, trivial⟩ ⟨Own.base (by assumption) (by omega), E.go⟩
theorem digitSum_c (n : Int) (hn : -999999999999 ≤ n ∧ n ≤ 999999999999 := by omega) (hT : Tab B w := by assumption) : Val Tryd.prog 67 [.int .i64 n] w (.int .i64 (sumTo (dlist n) (dlist n).length)) := by
  refine ⟨fun w1 hx1 => ?_⟩
  replace hT := hT.ext hx1
  have hd := dlist_dig n hn
  have hb := dlist_bd hn
  have E : Since 0 0 w1 w1 := Since.refl 0 0 w1
  refine ret_enter Tryd.func67 rfl Tryd.ntmps67 rfl ?_
  focus
    have ht_hT := hT.top
    refine c_seq ?_
    refine c_region ?_
    refine w_pure (y_assign rfl) rfl ?_
    refine w_nil ?_
    refine x_next ?_
    refine c_seq ?_
    refine c_region ?_
    refine w_pure (y_assign rfl) rfl ?_
    refine w_nil ?_
    refine x_next ?_
    refine c_seq ?_
    refine c_seq ?_
    refine c_region ?_
    refine w_pure (y_move rfl) rfl ?_
    (refine w_call rfl rfl rfl (digitList_c _) rfl ?_; rintro v7 w7 ⟨hp1_7, hx7⟩)
    have hl_hp1_7 := hp1_7.lt
    have hz_hx7 := hx7.size
    replace hT := hT.ext hx7
    replace E := E.trans hx7
    refine w_pure (y_len rfl) rfl ?_
    refine w_pure (y_move rfl) rfl ?_
    refine w_nil ?_
    refine x_next ?_
    refine c_block ?_
    rotate_left
  refine c_loopC 0 0 (ι := Int) (fun x => [(3, .int .i64 (sumTo (dlist n) x.toNat)), (7, v7), (8, .int .i64 (dlist n).length), (9, .int .i64 x)]) (fun x w' => Own w' 2 w1.heap.size v7 (dlist n) ∧ 0 ≤ x ∧ x ≤ (dlist n).length) (fun x => ((dlist n).length - x).toNat) 0
    (by repeat (first | exact trivial | refine ⟨rfl, ?_⟩)) ⟨by assumption, by omega, by omega⟩ ?_
  clear hp1_7
  rintro i w2 hx2 E2 ⟨h2, hi0, hi1⟩
  have hs := sumTo_bd hd i.toNat (by omega)
  have hdi : i < (dlist n).length → 0 ≤ (dlist n).getD i.toNat 0 ∧ (dlist n).getD i.toNat 0 ≤ 9 := fun hh => hd _ (by omega)
  have e1 : (i + 1).toNat = i.toNat + 1 := by omega
  focus
    have hl_h2 := h2.lt
    have hz_hx2 := hx2.size
    replace hT := hT.ext hx2
    replace E := E.trans hx2
    refine c_seq ?_
    refine c_region ?_
    refine w_pure (y_lt rfl rfl) rfl ?_
    refine w_nil ?_
    refine x_next ?_
    refine c_seq ?_
    (refine c_dec rfl (fun hc10 => ?_) (fun hc10 => ?_) <;> try (first | exact absurd rfl hc10 | contradiction | exact Bool.noConfusion (show false = true from hc10.symm.trans (by assumption)) | exact Bool.noConfusion (show true = false from hc10.symm.trans (by assumption)) | (exfalso; omega) | (exfalso; simp only [*, Bool.not_true, Bool.not_false, reduceCtorEq] at hc10; done)))
    refine c_skip ?_
    refine x_next ?_
    refine c_seq ?_
    refine c_block ?_
    refine c_seq ?_
    refine c_region ?_
    refine w_pure (y_index rfl rfl) rfl ?_
    refine w_pure (y_load_int rfl) rfl ?_
    refine w_pure (y_assign rfl) rfl ?_
    refine w_nil ?_
    refine x_next ?_
    refine c_region ?_
    refine w_pure (y_move rfl) rfl ?_
    refine w_pure (y_move rfl) rfl ?_
    refine w_pure (y_add rfl rfl) rfl ?_
    refine w_pure (y_assign rfl) rfl ?_
    refine w_nil ?_
    refine x_block_norm ?_
    refine x_next ?_
    refine c_region ?_
    refine w_pure (y_add rfl rfl) rfl ?_
    refine w_pure (y_move rfl) rfl ?_
    refine w_nil ?_
    rotate_left
    refine c_exit ?_
    refine x_then_exit ?_
    refine x_then_exit ?_
    refine x_block_hit ?_
    refine x_next ?_
    refine c_seq ?_
    refine c_region ?_
    refine w_pure (y_move rfl) rfl ?_
    refine w_pure (y_assign rfl) rfl ?_
    refine w_nil ?_
    refine x_next ?_
    refine c_ret ?_
    rotate_left
  · exact x_again (i + 1) ⟨by rw [e1]; rfl, rfl, rfl, rfl, trivial⟩ ⟨E2.go, by assumption, by omega, by omega⟩ (by omega)
  · refine x_retv [_] rfl ⟨rfl, trivial⟩ ⟨?_, E.go⟩
    rw [show i.toNat = (dlist n).length by omega]; rfl
def cFac (b : Int) : Int := if -999999 ≤ b ∧ b ≤ 999999 then 0 else 2
def turnV (b : Int) : Int := if -999999 ≤ b ∧ b ≤ 999999 then sumTo (dlist b) (dlist b).length + (dlist b).length - 1 else 0
theorem iTurnsFor_c (b : Int) (hT : Tab B w := by assumption) : Val Tryd.prog 16 [.int .i64 b] w (.tuple #[.int .i64 (turnV b), .int .i64 (cFac b)]) := by
  refine ⟨fun w1 hx1 => ?_⟩
  replace hT := hT.ext hx1
  have E : Since 0 0 w1 w1 := Since.refl 0 0 w1
  by_cases hk : -999999 ≤ b ∧ b ≤ 999999
  · have hd := dlist_dig b (by omega)
    have hb := dlist_bd (n := b) (by omega)
    have hs := sumTo_bd hd (dlist b).length (Nat.le_refl _)
    refine ret_enter Tryd.func16 rfl Tryd.ntmps16 rfl ?_
    focus
      have ht_hT := hT.top
      refine c_seq ?_
      refine c_region ?_
      refine w_pure (y_assign rfl) rfl ?_
      refine w_pure (y_assign rfl) rfl ?_
      refine w_nil ?_
      refine x_next ?_
      refine c_seq ?_
      refine c_seq ?_
      refine c_region ?_
      refine w_pure (y_move rfl) rfl ?_
      refine w_pur rfl rfl rfl (isFactor_c _) rfl ?_
      refine w_pure (y_not_dec rfl) rfl ?_
      refine w_nil ?_
      refine x_next ?_
      (refine c_dec rfl (fun hc6 => ?_) (fun hc6 => ?_) <;> try (first | exact absurd rfl hc6 | contradiction | exact Bool.noConfusion (show false = true from hc6.symm.trans (by assumption)) | exact Bool.noConfusion (show true = false from hc6.symm.trans (by assumption)) | (exfalso; omega) | (exfalso; simp only [*, Bool.not_true, Bool.not_false, reduceCtorEq] at hc6; done)))
      refine c_skip ?_
      refine x_next ?_
      refine c_seq ?_
      refine c_region ?_
      refine w_pure (y_move rfl) rfl ?_
      refine w_val rfl rfl rfl (digitSum_c _) rfl (fun w8 hx8 hz8 => ?_)
      have hz_hx8 := hx8.size
      replace hT := hT.ext hx8
      replace E := E.trans hx8
      refine w_pure (y_move rfl) rfl ?_
      (refine w_call rfl rfl rfl (digitList_c _) rfl ?_; rintro v10 w10 ⟨hp1_10, hx10⟩)
      have hl_hp1_10 := hp1_10.lt
      have hz_hx10 := hx10.size
      replace hT := hT.ext hx10
      replace E := E.trans hx10
      refine w_val rfl rfl rfl (size_c) rfl (fun w11 hx11 hz11 => ?_)
      have hz_hx11 := hx11.size
      replace hp1_10 := hp1_10.ext hx11
      replace hT := hT.ext hx11
      replace E := E.trans hx11
      refine w_pure (y_add rfl rfl) rfl ?_
      refine w_pure (y_sub rfl rfl) rfl ?_
      refine w_pure (y_assign rfl) rfl ?_
      refine w_pure (y_assign rfl) rfl ?_
      refine w_nil ?_
      refine x_next ?_
      refine c_ret ?_
      rotate_left
    exact x_retv [_, _] rfl ⟨rfl, rfl, trivial⟩ ⟨by rw [turnV, if_pos hk, cFac, if_pos hk]; rfl, E.go⟩
  · refine ret_enter Tryd.func16 rfl Tryd.ntmps16 rfl ?_
    focus
      have ht_hT := hT.top
      refine c_seq ?_
      refine c_region ?_
      refine w_pure (y_assign rfl) rfl ?_
      refine w_pure (y_assign rfl) rfl ?_
      refine w_nil ?_
      refine x_next ?_
      refine c_seq ?_
      refine c_seq ?_
      refine c_region ?_
      refine w_pure (y_move rfl) rfl ?_
      refine w_pur rfl rfl rfl (isFactor_c _) rfl ?_
      refine w_pure (y_not_dec rfl) rfl ?_
      refine w_nil ?_
      refine x_next ?_
      (refine c_dec rfl (fun hc6 => ?_) (fun hc6 => ?_) <;> try (first | exact absurd rfl hc6 | contradiction | exact Bool.noConfusion (show false = true from hc6.symm.trans (by assumption)) | exact Bool.noConfusion (show true = false from hc6.symm.trans (by assumption)) | (exfalso; omega) | (exfalso; simp only [*, Bool.not_true, Bool.not_false, reduceCtorEq] at hc6; done)))
      refine c_seq ?_
      refine c_region ?_
      refine w_pure (y_assign rfl) rfl ?_
      refine w_pure (y_assign rfl) rfl ?_
      refine w_nil ?_
      refine x_next ?_
      refine c_ret ?_
      refine x_then_ret ?_
      rotate_left
    exact x_retv [_, _] rfl ⟨rfl, rfl, trivial⟩ ⟨by rw [turnV, if_neg hk, cFac, if_neg hk]; rfl, E.go⟩
theorem sTurnsFor_c (b : Int) : Pur Tryd.prog 17 [.int .i64 b] (.tuple #[.int .i64 (turnV b), .int .i64 (cFac b)]) := by
  refine ⟨fun w1 => ?_⟩
  by_cases hk : -999999 ≤ b ∧ b ≤ 999999
  · have hd := dlist_dig b (by omega)
    have hb := dlist_bd (n := b) (by omega)
    have ha := absI_bd (n := b) (M := 999999) hk
    have hl := dlist_len b
    have hg0 := dlist_get b 0 (by omega)
    have hnd := nDig_bd (n := absI b) ⟨by omega, by omega⟩
    rw [Int.pow_zero, Int.ediv_one] at hg0
    refine ret_enter Tryd.func17 rfl Tryd.ntmps17 rfl ?_
    focus
      refine c_seq ?_
      refine c_region ?_
      refine w_pure (y_assign rfl) rfl ?_
      refine w_pure (y_assign rfl) rfl ?_
      refine w_nil ?_
      refine x_next ?_
      refine c_seq ?_
      refine c_seq ?_
      refine c_region ?_
      refine w_pure (y_move rfl) rfl ?_
      refine w_pur rfl rfl rfl (l14Factor_c _) rfl ?_
      refine w_pure (y_not_dec rfl) rfl ?_
      refine w_nil ?_
      refine x_next ?_
      (refine c_dec rfl (fun hc8 => ?_) (fun hc8 => ?_) <;> try (first | exact absurd rfl hc8 | contradiction | exact Bool.noConfusion (show false = true from hc8.symm.trans (by assumption)) | exact Bool.noConfusion (show true = false from hc8.symm.trans (by assumption)) | (exfalso; omega) | (exfalso; simp only [*, Bool.not_true, Bool.not_false, reduceCtorEq] at hc8; done)))
      refine c_skip ?_
      refine x_next ?_
      refine c_seq ?_
      refine c_region ?_
      refine w_pure (y_move rfl) rfl ?_
      refine w_pur rfl rfl rfl (l14Size_c _ (by omega)) rfl ?_
      refine w_pure (y_assign rfl) rfl ?_
      refine w_nil ?_
      refine x_next ?_
      refine c_seq ?_
      refine c_region ?_
      refine w_pure (y_move rfl) rfl ?_
      refine w_pure (y_rem rfl rfl) rfl ?_
      refine w_pure (y_assign rfl) rfl ?_
      refine w_nil ?_
      refine x_next ?_
      refine c_seq ?_
      refine c_seq ?_
      refine c_region ?_
      refine w_pure (y_move rfl) rfl ?_
      refine w_pure (y_quo rfl rfl) rfl ?_
      refine w_pure (y_assign rfl) rfl ?_
      refine w_nil ?_
      refine x_next ?_
      refine c_block ?_
      rotate_left
    refine c_loop (ι := Int × Int × Nat) (fun x => [(4, .int .i64 x.1), (5, .int .i64 x.2.1)]) (fun x w' => w' = w1 ∧ 1 ≤ x.2.2 ∧ x.2.2 ≤ (dlist b).length ∧ x.1 = absI b / 10 ^ x.2.2 ∧ x.2.1 = sumTo (dlist b) x.2.2 + x.2.2 - 1) (fun x => (dlist b).length - x.2.2) (_, _, 1)
      (by repeat (first | exact trivial | refine ⟨rfl, ?_⟩)) ⟨rfl, by dsimp only; omega, by dsimp only; omega, by dsimp only; rw [Int.pow_one]; rfl, by dsimp only; rw [sumTo, sumTo, hg0]; unfold absI; omega⟩ ?_
    rintro ⟨n, s, i⟩ w2 ⟨rfl, hi1, hi2, hn, hs⟩
    dsimp only at *
    have hgo := digs_go (m := absI b) ha.1 hi1
    have hs1 := sumTo_bd hd i hi2
    have hn0 : 0 ≤ n ∧ n ≤ 999999 := by
      rw [hn]
      exact ⟨Int.ediv_nonneg ha.1 (Int.le_of_lt (pow10_pos _)), Int.le_trans (Int.ediv_le_self _ ha.1) ha.2⟩
    rw [← hn] at hgo
    have hgi := dlist_get b i
    rw [← hn] at hgi
    have hnx : n / 10 = absI b / 10 ^ (i + 1) := by rw [hn, ediv10]
    focus
      refine c_seq ?_
      refine c_seq ?_
      refine c_region ?_
      refine w_pure (y_move rfl) rfl ?_
      refine w_pure (y_gt rfl rfl) rfl ?_
      refine w_nil ?_
      refine x_next ?_
      (refine c_dec rfl (fun hc16 => ?_) (fun hc16 => ?_) <;> try (first | exact absurd rfl hc16 | contradiction | exact Bool.noConfusion (show false = true from hc16.symm.trans (by assumption)) | exact Bool.noConfusion (show true = false from hc16.symm.trans (by assumption)) | (exfalso; omega) | (exfalso; simp only [*, Bool.not_true, Bool.not_false, reduceCtorEq] at hc16; done)))
      refine c_skip ?_
      refine x_next ?_
      refine c_seq ?_
      refine c_block ?_
      refine c_region ?_
      refine w_pure (y_move rfl) rfl ?_
      refine w_pure (y_move rfl) rfl ?_
      refine w_pure (y_rem rfl rfl) rfl ?_
      refine w_pure (y_add rfl rfl) rfl ?_
      refine w_pure (y_add rfl rfl) rfl ?_
      refine w_pure (y_assign rfl) rfl ?_
      refine w_nil ?_
      refine x_block_norm ?_
      refine x_next ?_
      refine c_region ?_
      refine w_pure (y_move rfl) rfl ?_
      refine w_pure (y_quo rfl rfl) rfl ?_
      refine w_pure (y_assign rfl) rfl ?_
      refine w_nil ?_
      rotate_left
      refine c_exit ?_
      refine x_then_exit ?_
      refine x_then_exit ?_
      refine x_block_hit ?_
      refine x_next ?_
      refine c_seq ?_
      refine c_region ?_
      refine w_pure (y_move rfl) rfl ?_
      refine w_pure (y_assign rfl) rfl ?_
      refine w_pure (y_assign rfl) rfl ?_
      refine w_nil ?_
      refine x_next ?_
      refine c_ret ?_
      rotate_left
    · refine x_again (_, _, i + 1) (by repeat (first | exact trivial | refine ⟨rfl, ?_⟩)) ⟨rfl, by dsimp only; omega, by dsimp only; omega, by dsimp only; exact hnx, ?_⟩ (by dsimp only; omega)
      dsimp only
      rw [sumTo, hgi (by omega)]
      push_cast; omega
    · refine x_retv [_, _] rfl ⟨rfl, rfl, trivial⟩ ⟨?_, rfl⟩
      rw [turnV, if_pos hk, cFac, if_pos hk, hs, show i = (dlist b).length by omega]; rfl
  · refine ret_enter Tryd.func17 rfl Tryd.ntmps17 rfl ?_
    focus
      refine c_seq ?_
      refine c_region ?_
      refine w_pure (y_assign rfl) rfl ?_
      refine w_pure (y_assign rfl) rfl ?_
      refine w_nil ?_
      refine x_next ?_
      refine c_seq ?_
      refine c_seq ?_
      refine c_region ?_
      refine w_pure (y_move rfl) rfl ?_
      refine w_pur rfl rfl rfl (l14Factor_c _) rfl ?_
      refine w_pure (y_not_dec rfl) rfl ?_
      refine w_nil ?_
      refine x_next ?_
      (refine c_dec rfl (fun hc8 => ?_) (fun hc8 => ?_) <;> try (first | exact absurd rfl hc8 | contradiction | exact Bool.noConfusion (show false = true from hc8.symm.trans (by assumption)) | exact Bool.noConfusion (show true = false from hc8.symm.trans (by assumption)) | (exfalso; omega) | (exfalso; simp only [*, Bool.not_true, Bool.not_false, reduceCtorEq] at hc8; done)))
      refine c_seq ?_
      refine c_region ?_
      refine w_pure (y_assign rfl) rfl ?_
      refine w_pure (y_assign rfl) rfl ?_
      refine w_nil ?_
      refine x_next ?_
      refine c_ret ?_
      refine x_then_ret ?_
      rotate_left
    exact x_retv [_, _] rfl ⟨rfl, rfl, trivial⟩ ⟨by rw [turnV, if_neg hk, cFac, if_neg hk]; rfl, rfl⟩
end
end Go.Proofs.YtgkljfncpgbngaaDoor

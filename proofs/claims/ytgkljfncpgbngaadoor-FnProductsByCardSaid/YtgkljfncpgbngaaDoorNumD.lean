/- Contracts: quotients. -/
import Derived.Test.YtgkljfncpgbngaaDoorNumC
namespace Go.Proofs.YtgkljfncpgbngaaDoor
open Go Go.Gw
set_option linter.unusedVariables false
set_option linter.unusedSimpArgs false
theorem cQuo_2 {a b : Int} (h : ¬ ((-999999999999 ≤ a ∧ a ≤ 999999999999) ∧ -999999 ≤ b ∧ b ≤ 999999)) : cQuo a b = 2 := by rw [cQuo, if_neg h]
theorem cQuo_6 {a b : Int} (h : (-999999999999 ≤ a ∧ a ≤ 999999999999) ∧ -999999 ≤ b ∧ b ≤ 999999) (h2 : b = 0) : cQuo a b = 6 := by rw [cQuo, if_pos h, if_pos h2]
theorem cQuo_0 {a b : Int} (h : (-999999999999 ≤ a ∧ a ≤ 999999999999) ∧ -999999 ≤ b ∧ b ≤ 999999) (h2 : ¬ b = 0) : cQuo a b = 0 := by rw [cQuo, if_pos h, if_neg h2]
theorem turnQ_bd {q : Int} (h : -999999999999 ≤ q ∧ q ≤ 999999999999) : 1 ≤ turnQ q ∧ turnQ q ≤ 120 := by
  have h1 := dlist_bd h
  have h2 := sumTo_bd (dlist_dig q h) (dlist q).length (Nat.le_refl _)
  unfold turnQ; omega
theorem turnQ_abs (q : Int) : turnQ (absI q) = turnQ q := by unfold turnQ; rw [dlist_abs]
theorem pow_11 {i : Nat} (h : i ≤ 11) : (10 : Int) ^ i ≤ 100000000000 := by
  have := pow10_le (k := i) (m := 11) (by omega)
  have e : (10 : Int) ^ 11 = 100000000000 := by decide
  omega
section
variable {w : World} {lo hi B : Nat} {v : Value} {xs : List Int}
theorem iQuotientBy_c (a b : Int) (hT : Tab B w := by assumption) : Val Tryd.prog 13 [.int .i64 a, .int .i64 b] w (.tuple #[.int .i64 (orZ (cQuo a b) (a.tdiv b)), .int .i64 (orZ (cQuo a b) (a.tmod b)), .int .i64 (orZ (cQuo a b) (turnQ (a.tdiv b))), .int .i64 (cQuo a b)]) := by
  refine ⟨fun w1 hx1 => ?_⟩
  replace hT := hT.ext hx1
  have E : Since 0 0 w1 w1 := Since.refl 0 0 w1
  by_cases hk : (-999999999999 ≤ a ∧ a ≤ 999999999999) ∧ -999999 ≤ b ∧ b ≤ 999999
  · by_cases hk2 : b = 0
    · refine ret_enter Tryd.func13 rfl Tryd.ntmps13 rfl ?_
      focus
        have ht_hT := hT.top
        refine c_seq ?_
        refine c_region ?_
        refine w_pure (y_assign rfl) rfl ?_
        refine w_pure (y_assign rfl) rfl ?_
        refine w_pure (y_assign rfl) rfl ?_
        refine w_pure (y_assign rfl) rfl ?_
        refine w_nil ?_
        refine x_next ?_
        refine c_seq ?_
        refine c_block ?_
        refine c_seq ?_
        refine c_region ?_
        refine w_pure (y_move rfl) rfl ?_
        refine w_pur rfl rfl rfl (isNumber_c _) rfl ?_
        refine w_pure (y_not_dec rfl) rfl ?_
        refine w_pure (y_move rfl) rfl ?_
        (refine w_part_dec rfl rfl (fun hc14 => ?_) (fun hc14 => ?_) <;> try (first | exact absurd rfl hc14 | contradiction | exact Bool.noConfusion (show false = true from hc14.symm.trans (by assumption)) | exact Bool.noConfusion (show true = false from hc14.symm.trans (by assumption)) | (exfalso; omega) | (exfalso; simp only [*, Bool.not_true, Bool.not_false, reduceCtorEq] at hc14; done)))
        refine w_yes rfl rfl ?_
        refine w_pure (y_move rfl) rfl ?_
        refine w_yes rfl rfl ?_
        refine w_pur rfl rfl rfl (isFactor_c _) rfl ?_
        refine w_yes rfl rfl ?_
        refine w_pure (y_not_dec rfl) rfl ?_
        refine w_pure (y_pick_f rfl rfl) rfl ?_
        refine w_pure (y_assign rfl) rfl ?_
        refine w_nil ?_
        refine x_next ?_
        (refine c_dec rfl (fun hc9 => ?_) (fun hc9 => ?_) <;> try (first | exact absurd rfl hc9 | contradiction | exact Bool.noConfusion (show false = true from hc9.symm.trans (by assumption)) | exact Bool.noConfusion (show true = false from hc9.symm.trans (by assumption)) | (exfalso; omega) | (exfalso; simp only [*, Bool.not_true, Bool.not_false, reduceCtorEq] at hc9; done)))
        refine c_seq ?_
        refine c_region ?_
        refine w_pure (y_move rfl) rfl ?_
        refine w_pure (y_eq rfl rfl) rfl ?_
        refine w_pure (y_assign rfl) rfl ?_
        refine w_nil ?_
        refine x_next ?_
        (refine c_dec rfl (fun hc18 => ?_) (fun hc18 => ?_) <;> try (first | exact absurd rfl hc18 | contradiction | exact Bool.noConfusion (show false = true from hc18.symm.trans (by assumption)) | exact Bool.noConfusion (show true = false from hc18.symm.trans (by assumption)) | (exfalso; omega) | (exfalso; simp only [*, Bool.not_true, Bool.not_false, reduceCtorEq] at hc18; done)))
        refine c_seq ?_
        refine c_region ?_
        refine w_pure (y_assign rfl) rfl ?_
        refine w_pure (y_assign rfl) rfl ?_
        refine w_pure (y_assign rfl) rfl ?_
        refine w_pure (y_assign rfl) rfl ?_
        refine w_nil ?_
        refine x_next ?_
        refine c_ret ?_
        refine x_block_ret ?_
        refine x_then_ret ?_
        rotate_left
      exact x_retv [_, _, _, _] rfl ⟨rfl, rfl, rfl, rfl, trivial⟩ ⟨by rw [cQuo_6 hk hk2]; rfl, E.go⟩
    · have hq := tdiv_bd hk.1 hk2
      have hin : In64 (a.tdiv b) := ⟨by omega, by omega⟩
      have hd := dlist_bd hq
      have hs := sumTo_bd (dlist_dig _ hq) (dlist (a.tdiv b)).length (Nat.le_refl _)
      refine ret_enter Tryd.func13 rfl Tryd.ntmps13 rfl ?_
      focus
        have ht_hT := hT.top
        refine c_seq ?_
        refine c_region ?_
        refine w_pure (y_assign rfl) rfl ?_
        refine w_pure (y_assign rfl) rfl ?_
        refine w_pure (y_assign rfl) rfl ?_
        refine w_pure (y_assign rfl) rfl ?_
        refine w_nil ?_
        refine x_next ?_
        refine c_seq ?_
        refine c_block ?_
        refine c_seq ?_
        refine c_region ?_
        refine w_pure (y_move rfl) rfl ?_
        refine w_pur rfl rfl rfl (isNumber_c _) rfl ?_
        refine w_pure (y_not_dec rfl) rfl ?_
        refine w_pure (y_move rfl) rfl ?_
        (refine w_part_dec rfl rfl (fun hc14 => ?_) (fun hc14 => ?_) <;> try (first | exact absurd rfl hc14 | contradiction | exact Bool.noConfusion (show false = true from hc14.symm.trans (by assumption)) | exact Bool.noConfusion (show true = false from hc14.symm.trans (by assumption)) | (exfalso; omega) | (exfalso; simp only [*, Bool.not_true, Bool.not_false, reduceCtorEq] at hc14; done)))
        refine w_yes rfl rfl ?_
        refine w_pure (y_move rfl) rfl ?_
        refine w_yes rfl rfl ?_
        refine w_pur rfl rfl rfl (isFactor_c _) rfl ?_
        refine w_yes rfl rfl ?_
        refine w_pure (y_not_dec rfl) rfl ?_
        refine w_pure (y_pick_f rfl rfl) rfl ?_
        refine w_pure (y_assign rfl) rfl ?_
        refine w_nil ?_
        refine x_next ?_
        (refine c_dec rfl (fun hc9 => ?_) (fun hc9 => ?_) <;> try (first | exact absurd rfl hc9 | contradiction | exact Bool.noConfusion (show false = true from hc9.symm.trans (by assumption)) | exact Bool.noConfusion (show true = false from hc9.symm.trans (by assumption)) | (exfalso; omega) | (exfalso; simp only [*, Bool.not_true, Bool.not_false, reduceCtorEq] at hc9; done)))
        refine c_seq ?_
        refine c_region ?_
        refine w_pure (y_move rfl) rfl ?_
        refine w_pure (y_eq rfl rfl) rfl ?_
        refine w_pure (y_assign rfl) rfl ?_
        refine w_nil ?_
        refine x_next ?_
        (refine c_dec rfl (fun hc18 => ?_) (fun hc18 => ?_) <;> try (first | exact absurd rfl hc18 | contradiction | exact Bool.noConfusion (show false = true from hc18.symm.trans (by assumption)) | exact Bool.noConfusion (show true = false from hc18.symm.trans (by assumption)) | (exfalso; omega) | (exfalso; simp only [*, Bool.not_true, Bool.not_false, reduceCtorEq] at hc18; done)))
        refine c_skip ?_
        refine x_block_norm ?_
        refine x_next ?_
        refine c_seq ?_
        refine c_region ?_
        refine w_pure (y_move rfl) rfl ?_
        refine w_pure (y_move rfl) rfl ?_
        refine w_pure (y_quot rfl rfl) rfl ?_
        refine w_pure (y_assign rfl) rfl ?_
        refine w_nil ?_
        refine x_next ?_
        refine c_seq ?_
        refine c_region_held mixed (fun wr6 hxr6 hzr6 => ?_)
        have hz_hxr6 := hxr6.size
        replace hT := hT.ext hxr6
        replace E := E.trans hxr6
        refine h_pure rfl (y_move rfl) rfl ?_
        refine h_pure rfl (y_move rfl) rfl ?_
        refine h_pure rfl (y_move rfl) rfl ?_
        refine h_pure rfl (y_remt rfl rfl) rfl ?_
        refine h_pure rfl (y_move rfl) rfl ?_
        refine h_turn ?_
        refine h_pure rfl (y_move rfl) rfl ?_
        refine h_turn ?_
        refine h_turn ?_
        refine h_turn ?_
        refine h_turn ?_
        refine h_turn ?_
        refine h_turn ?_
        refine h_turn ?_
        refine h_one rfl ?_
        refine w_val rfl rfl rfl (digitSum_c _) rfl (fun w29 hx29 hz29 => ?_)
        have hz_hx29 := hx29.size
        replace hT := hT.ext hx29
        replace E := E.trans hx29
        refine w_nil ?_
        refine x_held ?_
        refine h_one rfl ?_
        (refine w_call rfl rfl rfl (digitList_c _) rfl ?_; rintro v31 w31 ⟨hp1_31, hx31⟩)
        have hl_hp1_31 := hp1_31.lt
        have hz_hx31 := hx31.size
        replace hT := hT.ext hx31
        replace E := E.trans hx31
        refine w_nil ?_
        refine x_held ?_
        refine h_one rfl ?_
        refine w_val rfl rfl rfl (size_c) rfl (fun w32 hx32 hz32 => ?_)
        have hz_hx32 := hx32.size
        replace hp1_31 := hp1_31.ext hx32
        replace hT := hT.ext hx32
        replace E := E.trans hx32
        refine w_nil ?_
        refine x_held ?_
        refine h_pure rfl (y_add rfl rfl) rfl ?_
        refine h_pure rfl (y_assign rfl) rfl ?_
        refine h_pure rfl (y_assign rfl) rfl ?_
        refine h_pure rfl (y_assign rfl) rfl ?_
        refine h_pure rfl (y_assign rfl) rfl ?_
        refine h_nil ?_
        refine x_next ?_
        refine c_ret ?_
        rotate_left
      exact x_retv [_, _, _, _] rfl ⟨rfl, rfl, rfl, rfl, trivial⟩ ⟨by rw [cQuo_0 hk hk2]; rfl, E.go⟩
  · refine ret_enter Tryd.func13 rfl Tryd.ntmps13 rfl ?_
    focus
      have ht_hT := hT.top
      refine c_seq ?_
      refine c_region ?_
      refine w_pure (y_assign rfl) rfl ?_
      refine w_pure (y_assign rfl) rfl ?_
      refine w_pure (y_assign rfl) rfl ?_
      refine w_pure (y_assign rfl) rfl ?_
      refine w_nil ?_
      refine x_next ?_
      refine c_seq ?_
      refine c_block ?_
      refine c_seq ?_
      refine c_region ?_
      refine w_pure (y_move rfl) rfl ?_
      refine w_pur rfl rfl rfl (isNumber_c _) rfl ?_
      refine w_pure (y_not_dec rfl) rfl ?_
      refine w_pure (y_move rfl) rfl ?_
      (refine w_part_dec rfl rfl (fun hc14 => ?_) (fun hc14 => ?_) <;> try (first | exact absurd rfl hc14 | contradiction | exact Bool.noConfusion (show false = true from hc14.symm.trans (by assumption)) | exact Bool.noConfusion (show true = false from hc14.symm.trans (by assumption)) | (exfalso; omega) | (exfalso; simp only [*, Bool.not_true, Bool.not_false, reduceCtorEq] at hc14; done)))
      refine w_no rfl rfl rfl rfl ?_
      refine w_no rfl rfl rfl rfl ?_
      refine w_no rfl rfl rfl rfl ?_
      refine w_pure (y_pick_t rfl rfl) rfl ?_
      refine w_pure (y_assign rfl) rfl ?_
      refine w_nil ?_
      refine x_next ?_
      refine c_true rfl ?_
      refine c_seq ?_
      refine c_region ?_
      refine w_pure (y_assign rfl) rfl ?_
      refine w_pure (y_assign rfl) rfl ?_
      refine w_pure (y_assign rfl) rfl ?_
      refine w_pure (y_assign rfl) rfl ?_
      refine w_nil ?_
      refine x_next ?_
      refine c_ret ?_
      refine x_block_ret ?_
      refine x_then_ret ?_
      rotate_left
      refine w_yes rfl rfl ?_
      refine w_pure (y_move rfl) rfl ?_
      refine w_yes rfl rfl ?_
      refine w_pur rfl rfl rfl (isFactor_c _) rfl ?_
      refine w_yes rfl rfl ?_
      refine w_pure (y_not_dec rfl) rfl ?_
      refine w_pure (y_pick_f rfl rfl) rfl ?_
      refine w_pure (y_assign rfl) rfl ?_
      refine w_nil ?_
      refine x_next ?_
      (refine c_dec rfl (fun hc9 => ?_) (fun hc9 => ?_) <;> try (first | exact absurd rfl hc9 | contradiction | exact Bool.noConfusion (show false = true from hc9.symm.trans (by assumption)) | exact Bool.noConfusion (show true = false from hc9.symm.trans (by assumption)) | (exfalso; omega) | (exfalso; simp only [*, Bool.not_true, Bool.not_false, reduceCtorEq] at hc9; done)))
      refine c_seq ?_
      refine c_region ?_
      refine w_pure (y_assign rfl) rfl ?_
      refine w_pure (y_assign rfl) rfl ?_
      refine w_pure (y_assign rfl) rfl ?_
      refine w_pure (y_assign rfl) rfl ?_
      refine w_nil ?_
      refine x_next ?_
      refine c_ret ?_
      refine x_block_ret ?_
      refine x_then_ret ?_
      rotate_left
    all_goals exact x_retv [_, _, _, _] rfl ⟨rfl, rfl, rfl, rfl, trivial⟩ ⟨by rw [cQuo_2 hk]; rfl, E.go⟩
set_option maxHeartbeats 4000000 in
theorem l14Divide_c (a b : Int) (ha : 0 ≤ a ∧ a ≤ 999999999999 := by omega) (hb : 1 ≤ b ∧ b ≤ 999999 := by omega) : Pur Tryd.prog 70 [.int .i64 a, .int .i64 b] (.tuple #[.int .i64 (a / b), .int .i64 (a % b), .int .i64 (turnQ (a / b))]) := by
  refine ⟨fun w1 => ?_⟩
  have hq : 0 ≤ a / b ∧ a / b ≤ 999999999999 := ⟨Int.ediv_nonneg ha.1 (by omega), Int.le_trans (Int.ediv_le_self _ ha.1) ha.2⟩
  have hab : absI (a / b) = a / b := by unfold absI; omega
  have hL := dlist_bd (n := a / b) (by omega)
  have hln := dlist_len (a / b)
  rw [hab] at hln
  refine ret_enter Tryd.func70 rfl Tryd.ntmps70 rfl ?_
  focus
    refine c_seq ?_
    refine c_region ?_
    refine w_pure (y_assign rfl) rfl ?_
    refine w_pure (y_assign rfl) rfl ?_
    refine w_pure (y_assign rfl) rfl ?_
    refine w_nil ?_
    refine x_next ?_
    refine c_seq ?_
    refine c_region ?_
    refine w_pure (y_assign rfl) rfl ?_
    refine w_nil ?_
    refine x_next ?_
    refine c_seq ?_
    refine c_block ?_
    rotate_left
  refine c_loop (ι := Nat) (fun i => [(0, .int .i64 a), (1, .int .i64 b), (7, .int .i64 (10 ^ i))]) (fun i w' => w' = w1 ∧ i + 1 ≤ (dlist (a / b)).length) (fun i => (dlist (a / b)).length - i) 0
    ⟨rfl, rfl, by rw [Int.pow_zero]; rfl, trivial⟩ ⟨rfl, by omega⟩ ?_
  rintro i w2 ⟨rfl, hi⟩
  have hp := pow10_pos i
  have hp2 := pow_11 (i := i) (by omega)
  have hgo := nDig_le (n := a / b) (k := (i + 1 : Nat)) hq.1 (by omega)
  rw [Int.toNat_natCast, Int.pow_succ, Int.mul_comm] at hgo
  focus
    refine c_seq ?_
    refine c_seq ?_
    refine c_region ?_
    refine w_pure (y_move rfl) rfl ?_
    refine w_pure (y_move rfl) rfl ?_
    refine w_pure (y_quo rfl rfl) rfl ?_
    refine w_pure (y_move rfl) rfl ?_
    refine w_pure (y_mul rfl rfl) rfl ?_
    refine w_pure (y_ge rfl rfl) rfl ?_
    refine w_nil ?_
    refine x_next ?_
    (refine c_dec rfl (fun hc16 => ?_) (fun hc16 => ?_) <;> try (first | exact absurd rfl hc16 | contradiction | exact Bool.noConfusion (show false = true from hc16.symm.trans (by assumption)) | exact Bool.noConfusion (show true = false from hc16.symm.trans (by assumption)) | (exfalso; omega) | (exfalso; simp only [*, Bool.not_true, Bool.not_false, reduceCtorEq] at hc16; done)))
    refine c_skip ?_
    refine x_next ?_
    refine c_block ?_
    refine c_region ?_
    refine w_pure (y_move rfl) rfl ?_
    refine w_pure (y_mul rfl rfl) rfl ?_
    refine w_pure (y_assign rfl) rfl ?_
    refine w_nil ?_
    refine x_block_norm ?_
    rotate_left
    refine c_exit ?_
    refine x_then_exit ?_
    refine x_then_exit ?_
    refine x_block_hit ?_
    refine x_next ?_
    refine c_seq ?_
    refine c_region ?_
    refine w_pure (y_assign rfl) rfl ?_
    refine w_nil ?_
    refine x_next ?_
    refine c_seq ?_
    refine c_region ?_
    refine w_pure (y_assign rfl) rfl ?_
    refine w_nil ?_
    refine x_next ?_
    refine c_seq ?_
    refine c_block ?_
    rotate_left
  · refine x_again (i + 1) ⟨rfl, rfl, by rw [Int.pow_succ]; rfl, trivial⟩ ⟨rfl, by omega⟩ (by omega)
  have hiL : i + 1 = (dlist (a / b)).length := by omega
  have hQL : a / b < 10 ^ (dlist (a / b)).length := by
    have := (nDig_le (n := a / b) (k := ((dlist (a / b)).length : Nat)) hq.1 (by omega)).1 (by omega)
    rwa [Int.toNat_natCast] at this
  have hdiv := Int.emod_add_mul_ediv a b
  have hrem : 0 ≤ a % b ∧ a % b < b := ⟨Int.emod_nonneg _ (by omega), Int.emod_lt_of_pos _ (by omega)⟩
  refine c_loop (ι := Int × Int × Int × Int × Nat) (fun x => [(0, .int .i64 x.1), (1, .int .i64 b), (7, .int .i64 x.2.1), (8, .int .i64 x.2.2.1), (9, .int .i64 x.2.2.2.1)])
    (fun x w' => w' = w2 ∧ x.2.2.2.2 ≤ (dlist (a / b)).length ∧ x.1 = a / b % 10 ^ x.2.2.2.2 * b + a % b ∧ x.2.1 = pw x.2.2.2.2 ∧ x.2.2.1 = a / b / 10 ^ x.2.2.2.2 ∧ x.2.2.2.1 = sumTo (dlist (a / b)) (dlist (a / b)).length - sumTo (dlist (a / b)) x.2.2.2.2 + ((dlist (a / b)).length - x.2.2.2.2)) (fun x => x.2.2.2.2) (a, 10 ^ i, 0, 0, (dlist (a / b)).length)
    (by repeat (first | exact trivial | refine ⟨rfl, ?_⟩)) ⟨rfl, by dsimp only; omega, by dsimp only; rw [Int.emod_eq_of_lt hq.1 hQL, Int.mul_comm]; omega, by dsimp only; rw [← hiL]; rfl, by dsimp only; rw [Int.ediv_eq_zero_of_lt hq.1 hQL], by dsimp only; omega⟩ ?_
  rintro ⟨A, P, Q, c, r⟩ w3 ⟨rfl, hr, hA, hP, hQ, hc⟩
  dsimp only at *
  have hsr := sumTo_bd (dlist_dig (a / b) (by omega)) r hr
  have hsL := sumTo_bd (dlist_dig (a / b) (by omega)) (dlist (a / b)).length (Nat.le_refl _)
  rcases r with _ | j
  · have hP0 : P = 0 := hP
    have hm1 : a / b % 10 ^ 0 = 0 := by rw [Int.pow_zero, Int.emod_one]
    rw [hm1, Int.zero_mul, Int.zero_add] at hA
    rw [Int.pow_zero, Int.ediv_one] at hQ
    have hc2 : c = turnQ (a / b) := by rw [hc]; unfold turnQ; rw [sumTo]; omega
    subst hP0 hA hQ hc2
    focus
      refine c_seq ?_
      refine c_seq ?_
      refine c_region ?_
      refine w_pure (y_move rfl) rfl ?_
      refine w_pure (y_gt rfl rfl) rfl ?_
      refine w_nil ?_
      refine x_next ?_
      refine c_false rfl ?_
      refine c_exit ?_
      refine x_then_exit ?_
      refine x_then_exit ?_
      refine x_block_hit ?_
      refine x_next ?_
      refine c_seq ?_
      refine c_region ?_
      refine w_pure (y_move rfl) rfl ?_
      refine w_pure (y_move rfl) rfl ?_
      refine w_pure (y_move rfl) rfl ?_
      refine w_pure (y_assign rfl) rfl ?_
      refine w_pure (y_assign rfl) rfl ?_
      refine w_pure (y_assign rfl) rfl ?_
      refine w_nil ?_
      refine x_next ?_
      refine c_ret ?_
      rotate_left
    exact x_retv [_, _, _] rfl ⟨rfl, rfl, rfl, trivial⟩ ⟨rfl, rfl⟩
  · have hPj : P = 10 ^ j := hP
    have hls := long_step (A := a) (B := b) ha.1 (by omega) j
    have hpj := pow10_pos j
    have hpj2 := pow_11 (i := j) (by omega)
    have hdj : 0 ≤ a / b / 10 ^ j % 10 ∧ a / b / 10 ^ j % 10 ≤ 9 := by omega
    rw [← hA] at hls
    have hgj := dlist_get (a / b) j (by omega)
    rw [hab] at hgj
    generalize hdd : a / b / 10 ^ j % 10 = dd at *
    have hA0 : 0 ≤ A ∧ A ≤ 999999999999 := by
      have h1 := Int.emod_nonneg (a / b) (show (10 : Int) ^ (j + 1) ≠ 0 by have := pow10_pos (j + 1); omega)
      have h2 : a / b % 10 ^ (j + 1) ≤ a / b := by
        have h3 := Int.emod_add_mul_ediv (a / b) (10 ^ (j + 1))
        have h4 := Int.mul_nonneg (Int.le_of_lt (pow10_pos (j + 1))) (Int.ediv_nonneg hq.1 (Int.le_of_lt (pow10_pos (j + 1))))
        omega
      have h5 : a / b % 10 ^ (j + 1) * b ≤ a / b * b := Int.mul_le_mul_of_nonneg_right h2 (by omega)
      have h6 := Int.mul_nonneg h1 (show 0 ≤ b by omega)
      rw [Int.mul_comm (a / b) b] at h5
      omega
    have hQ0 : 0 ≤ Q ∧ Q ≤ 999999999999 := by
      rw [hQ]; exact ⟨Int.ediv_nonneg hq.1 (Int.le_of_lt (pow10_pos _)), Int.le_trans (Int.ediv_le_self _ hq.1) hq.2⟩
    have hbp : 0 < b * P ∧ b * P ≤ 999999 * 100000000000 := ⟨by rw [hPj]; exact Int.mul_pos (by omega) hpj, by rw [hPj]; exact Int.mul_le_mul hb.2 hpj2 (by omega) (by omega)⟩
    have hdb : 0 ≤ dd * b ∧ dd * b ≤ 9 * 999999 := ⟨Int.mul_nonneg hdj.1 (by omega), Int.mul_le_mul hdj.2 hb.2 (by omega) (by omega)⟩
    have hdbp : 0 ≤ dd * b * P ∧ dd * b * P ≤ 9 * 999999 * 100000000000 := ⟨Int.mul_nonneg hdb.1 (by omega), Int.mul_le_mul hdb.2 (by omega) (by omega) (by omega)⟩
    have hpw : P / 10 = pw j := by rw [hPj]; exact pw_div j
    have hP1 : 0 < P := by omega
    have hsj := sumTo_bd (dlist_dig (a / b) (by omega)) j (by omega)
    rw [show sumTo (dlist (a / b)) (j + 1) = sumTo (dlist (a / b)) j + dd by rw [sumTo, hgj]] at hc
    have hq1 : A / (b * P) = dd := by rw [hPj]; exact hls.1
    rw [← hq1] at hdj hdb hdbp
    focus
      refine c_seq ?_
      refine c_seq ?_
      refine c_region ?_
      refine w_pure (y_move rfl) rfl ?_
      refine w_pure (y_gt rfl rfl) rfl ?_
      refine w_nil ?_
      refine x_next ?_
      (refine c_dec rfl (fun hc20 => ?_) (fun hc20 => ?_) <;> try (first | exact absurd rfl hc20 | contradiction | exact Bool.noConfusion (show false = true from hc20.symm.trans (by assumption)) | exact Bool.noConfusion (show true = false from hc20.symm.trans (by assumption)) | (exfalso; omega) | (exfalso; simp only [*, Bool.not_true, Bool.not_false, reduceCtorEq] at hc20; done)))
      refine c_skip ?_
      refine x_next ?_
      refine c_seq ?_
      refine c_block ?_
      refine c_seq ?_
      refine c_region ?_
      refine w_pure (y_move rfl) rfl ?_
      refine w_pure (y_move rfl) rfl ?_
      refine w_pure (y_move rfl) rfl ?_
      refine w_pure (y_mul rfl rfl) rfl ?_
      refine w_pure (y_quo rfl rfl) rfl ?_
      refine w_pure (y_assign rfl) rfl ?_
      refine w_nil ?_
      refine x_next ?_
      refine c_seq ?_
      refine c_region ?_
      refine w_pure (y_move rfl) rfl ?_
      refine w_pure (y_move rfl) rfl ?_
      refine w_pure (y_move rfl) rfl ?_
      refine w_pure (y_mul rfl rfl) rfl ?_
      refine w_pure (y_move rfl) rfl ?_
      refine w_pure (y_mul rfl rfl) rfl ?_
      refine w_pure (y_sub rfl rfl) rfl ?_
      refine w_pure (y_assign rfl) rfl ?_
      refine w_nil ?_
      refine x_next ?_
      refine c_seq ?_
      refine c_region ?_
      refine w_pure (y_move rfl) rfl ?_
      refine w_pure (y_mul rfl rfl) rfl ?_
      refine w_pure (y_move rfl) rfl ?_
      refine w_pure (y_add rfl rfl) rfl ?_
      refine w_pure (y_assign rfl) rfl ?_
      refine w_nil ?_
      refine x_next ?_
      refine c_region ?_
      refine w_pure (y_move rfl) rfl ?_
      refine w_pure (y_move rfl) rfl ?_
      refine w_pure (y_add rfl rfl) rfl ?_
      refine w_pure (y_add rfl rfl) rfl ?_
      refine w_pure (y_assign rfl) rfl ?_
      refine w_nil ?_
      refine x_block_norm ?_
      refine x_next ?_
      refine c_region ?_
      refine w_pure (y_move rfl) rfl ?_
      refine w_pure (y_quo rfl rfl) rfl ?_
      refine w_pure (y_assign rfl) rfl ?_
      refine w_nil ?_
      rotate_left
    refine x_again (_, _, _, _, j) (by repeat (first | exact trivial | refine ⟨rfl, ?_⟩)) ⟨rfl, by dsimp only; omega, ?_, hpw, ?_, ?_⟩ (by dsimp only; omega)
    · dsimp only; rw [hq1, hPj]; exact hls.2.1
    · dsimp only; rw [hq1, hQ]; exact hls.2.2
    · dsimp only; rw [hq1]; push_cast at *; omega
theorem sQuotientBy_c (a b : Int) : Pur Tryd.prog 14 [.int .i64 a, .int .i64 b] (.tuple #[.int .i64 (orZ (cQuo a b) (a.tdiv b)), .int .i64 (orZ (cQuo a b) (a.tmod b)), .int .i64 (orZ (cQuo a b) (turnQ (a.tdiv b))), .int .i64 (cQuo a b)]) := by
  refine ⟨fun w1 => ?_⟩
  by_cases hk : (-999999999999 ≤ a ∧ a ≤ 999999999999) ∧ -999999 ≤ b ∧ b ≤ 999999
  · by_cases hk2 : b = 0
    · refine ret_enter Tryd.func14 rfl Tryd.ntmps14 rfl ?_
      focus
        refine c_seq ?_
        refine c_region ?_
        refine w_pure (y_assign rfl) rfl ?_
        refine w_pure (y_assign rfl) rfl ?_
        refine w_pure (y_assign rfl) rfl ?_
        refine w_pure (y_assign rfl) rfl ?_
        refine w_nil ?_
        refine x_next ?_
        refine c_seq ?_
        refine c_seq ?_
        refine c_region ?_
        refine w_pure (y_move rfl) rfl ?_
        refine w_pur rfl rfl rfl (l14Number_c _) rfl ?_
        refine w_pure (y_not_dec rfl) rfl ?_
        refine w_pure (y_move rfl) rfl ?_
        (refine w_part_dec rfl rfl (fun hc15 => ?_) (fun hc15 => ?_) <;> try (first | exact absurd rfl hc15 | contradiction | exact Bool.noConfusion (show false = true from hc15.symm.trans (by assumption)) | exact Bool.noConfusion (show true = false from hc15.symm.trans (by assumption)) | (exfalso; omega) | (exfalso; simp only [*, Bool.not_true, Bool.not_false, reduceCtorEq] at hc15; done)))
        refine w_yes rfl rfl ?_
        refine w_pure (y_move rfl) rfl ?_
        refine w_yes rfl rfl ?_
        refine w_pur rfl rfl rfl (l14Factor_c _) rfl ?_
        refine w_yes rfl rfl ?_
        refine w_pure (y_not_dec rfl) rfl ?_
        refine w_pure (y_pick_f rfl rfl) rfl ?_
        refine w_nil ?_
        refine x_next ?_
        (refine c_dec rfl (fun hc18 => ?_) (fun hc18 => ?_) <;> try (first | exact absurd rfl hc18 | contradiction | exact Bool.noConfusion (show false = true from hc18.symm.trans (by assumption)) | exact Bool.noConfusion (show true = false from hc18.symm.trans (by assumption)) | (exfalso; omega) | (exfalso; simp only [*, Bool.not_true, Bool.not_false, reduceCtorEq] at hc18; done)))
        refine c_skip ?_
        refine x_next ?_
        refine c_seq ?_
        refine c_seq ?_
        refine c_region ?_
        refine w_pure (y_move rfl) rfl ?_
        refine w_pure (y_eq rfl rfl) rfl ?_
        refine w_nil ?_
        refine x_next ?_
        (refine c_dec rfl (fun hc20 => ?_) (fun hc20 => ?_) <;> try (first | exact absurd rfl hc20 | contradiction | exact Bool.noConfusion (show false = true from hc20.symm.trans (by assumption)) | exact Bool.noConfusion (show true = false from hc20.symm.trans (by assumption)) | (exfalso; omega) | (exfalso; simp only [*, Bool.not_true, Bool.not_false, reduceCtorEq] at hc20; done)))
        refine c_seq ?_
        refine c_region ?_
        refine w_pure (y_assign rfl) rfl ?_
        refine w_pure (y_assign rfl) rfl ?_
        refine w_pure (y_assign rfl) rfl ?_
        refine w_pure (y_assign rfl) rfl ?_
        refine w_nil ?_
        refine x_next ?_
        refine c_ret ?_
        refine x_then_ret ?_
        rotate_left
      exact x_retv [_, _, _, _] rfl ⟨rfl, rfl, rfl, rfl, trivial⟩ ⟨by rw [cQuo_6 hk hk2]; rfl, rfl⟩
    · have hqs := quo_sign a b
      have hrs := rem_sign a b
      have hat : turnQ (max a (-a) / max b (-b)) = turnQ (a.tdiv b) := by rw [← turnQ_abs (a.tdiv b), abs_tdiv]; rfl
      have hqb : 0 ≤ max a (-a) / max b (-b) ∧ max a (-a) / max b (-b) ≤ 999999999999 := ⟨Int.ediv_nonneg (by omega) (by omega), Int.le_trans (Int.ediv_le_self _ (by omega)) (by omega)⟩
      have hrb : 0 ≤ max a (-a) % max b (-b) ∧ max a (-a) % max b (-b) < max b (-b) := ⟨Int.emod_nonneg _ (by omega), Int.emod_lt_of_pos _ (by omega)⟩
      refine ret_enter Tryd.func14 rfl Tryd.ntmps14 rfl ?_
      focus
        refine c_seq ?_
        refine c_region ?_
        refine w_pure (y_assign rfl) rfl ?_
        refine w_pure (y_assign rfl) rfl ?_
        refine w_pure (y_assign rfl) rfl ?_
        refine w_pure (y_assign rfl) rfl ?_
        refine w_nil ?_
        refine x_next ?_
        refine c_seq ?_
        refine c_seq ?_
        refine c_region ?_
        refine w_pure (y_move rfl) rfl ?_
        refine w_pur rfl rfl rfl (l14Number_c _) rfl ?_
        refine w_pure (y_not_dec rfl) rfl ?_
        refine w_pure (y_move rfl) rfl ?_
        (refine w_part_dec rfl rfl (fun hc15 => ?_) (fun hc15 => ?_) <;> try (first | exact absurd rfl hc15 | contradiction | exact Bool.noConfusion (show false = true from hc15.symm.trans (by assumption)) | exact Bool.noConfusion (show true = false from hc15.symm.trans (by assumption)) | (exfalso; omega) | (exfalso; simp only [*, Bool.not_true, Bool.not_false, reduceCtorEq] at hc15; done)))
        refine w_yes rfl rfl ?_
        refine w_pure (y_move rfl) rfl ?_
        refine w_yes rfl rfl ?_
        refine w_pur rfl rfl rfl (l14Factor_c _) rfl ?_
        refine w_yes rfl rfl ?_
        refine w_pure (y_not_dec rfl) rfl ?_
        refine w_pure (y_pick_f rfl rfl) rfl ?_
        refine w_nil ?_
        refine x_next ?_
        (refine c_dec rfl (fun hc18 => ?_) (fun hc18 => ?_) <;> try (first | exact absurd rfl hc18 | contradiction | exact Bool.noConfusion (show false = true from hc18.symm.trans (by assumption)) | exact Bool.noConfusion (show true = false from hc18.symm.trans (by assumption)) | (exfalso; omega) | (exfalso; simp only [*, Bool.not_true, Bool.not_false, reduceCtorEq] at hc18; done)))
        refine c_skip ?_
        refine x_next ?_
        refine c_seq ?_
        refine c_seq ?_
        refine c_region ?_
        refine w_pure (y_move rfl) rfl ?_
        refine w_pure (y_eq rfl rfl) rfl ?_
        refine w_nil ?_
        refine x_next ?_
        (refine c_dec rfl (fun hc20 => ?_) (fun hc20 => ?_) <;> try (first | exact absurd rfl hc20 | contradiction | exact Bool.noConfusion (show false = true from hc20.symm.trans (by assumption)) | exact Bool.noConfusion (show true = false from hc20.symm.trans (by assumption)) | (exfalso; omega) | (exfalso; simp only [*, Bool.not_true, Bool.not_false, reduceCtorEq] at hc20; done)))
        refine c_skip ?_
        refine x_next ?_
        refine c_seq ?_
        refine c_region ?_
        refine w_pure (y_move rfl) rfl ?_
        refine w_pur rfl rfl rfl (l14Size_c _ ⟨by omega, by omega⟩) rfl ?_
        refine w_pure (y_move rfl) rfl ?_
        refine w_pur rfl rfl rfl (l14Size_c _ ⟨by omega, by omega⟩) rfl ?_
        refine w_pur rfl rfl rfl (l14Divide_c _ _) rfl ?_
        refine w_pure (y_move rfl) rfl ?_
        refine w_pure (y_extract rfl rfl) rfl ?_
        refine w_pure (y_extract rfl rfl) rfl ?_
        refine w_pure (y_extract rfl rfl) rfl ?_
        refine w_pure (y_assign rfl) rfl ?_
        refine w_pure (y_assign rfl) rfl ?_
        refine w_pure (y_assign rfl) rfl ?_
        refine w_nil ?_
        refine x_next ?_
        refine c_seq ?_
        refine c_seq ?_
        refine c_region ?_
        refine w_pure (y_move rfl) rfl ?_
        refine w_pure (y_lt rfl rfl) rfl ?_
        refine w_pure (y_move rfl) rfl ?_
        refine w_pure (y_lt rfl rfl) rfl ?_
        refine w_pure (y_neb rfl rfl) rfl ?_
        refine w_nil ?_
        refine x_next ?_
        (refine c_dec rfl (fun hc34 => ?_) (fun hc34 => ?_) <;> try (first | exact absurd rfl hc34 | contradiction | exact Bool.noConfusion (show false = true from hc34.symm.trans (by assumption)) | exact Bool.noConfusion (show true = false from hc34.symm.trans (by assumption)) | (exfalso; omega) | (exfalso; simp only [*, Bool.not_true, Bool.not_false, reduceCtorEq] at hc34; done)))
        refine c_region ?_
        refine w_pure (y_move rfl) rfl ?_
        refine w_pure (y_neg rfl) rfl ?_
        refine w_pure (y_assign rfl) rfl ?_
        refine w_nil ?_
        refine x_next ?_
        refine c_seq ?_
        refine c_seq ?_
        refine c_region ?_
        refine w_pure (y_move rfl) rfl ?_
        refine w_pure (y_lt rfl rfl) rfl ?_
        refine w_nil ?_
        refine x_next ?_
        (refine c_dec rfl (fun hc38 => ?_) (fun hc38 => ?_) <;> try (first | exact absurd rfl hc38 | contradiction | exact Bool.noConfusion (show false = true from hc38.symm.trans (by assumption)) | exact Bool.noConfusion (show true = false from hc38.symm.trans (by assumption)) | (exfalso; omega) | (exfalso; simp only [*, Bool.not_true, Bool.not_false, reduceCtorEq] at hc38; done)))
        refine c_region ?_
        refine w_pure (y_move rfl) rfl ?_
        refine w_pure (y_neg rfl) rfl ?_
        refine w_pure (y_assign rfl) rfl ?_
        refine w_nil ?_
        refine x_next ?_
        refine c_seq ?_
        refine c_region ?_
        refine w_pure (y_move rfl) rfl ?_
        refine w_pure (y_move rfl) rfl ?_
        refine w_pure (y_move rfl) rfl ?_
        refine w_pure (y_assign rfl) rfl ?_
        refine w_pure (y_assign rfl) rfl ?_
        refine w_pure (y_assign rfl) rfl ?_
        refine w_pure (y_assign rfl) rfl ?_
        refine w_nil ?_
        refine x_next ?_
        refine c_ret ?_
        rotate_left
        refine c_skip ?_
        refine x_next ?_
        refine c_seq ?_
        refine c_region ?_
        refine w_pure (y_move rfl) rfl ?_
        refine w_pure (y_move rfl) rfl ?_
        refine w_pure (y_move rfl) rfl ?_
        refine w_pure (y_assign rfl) rfl ?_
        refine w_pure (y_assign rfl) rfl ?_
        refine w_pure (y_assign rfl) rfl ?_
        refine w_pure (y_assign rfl) rfl ?_
        refine w_nil ?_
        refine x_next ?_
        refine c_ret ?_
        rotate_left
        refine c_skip ?_
        refine x_next ?_
        refine c_seq ?_
        refine c_seq ?_
        refine c_region ?_
        refine w_pure (y_move rfl) rfl ?_
        refine w_pure (y_lt rfl rfl) rfl ?_
        refine w_nil ?_
        refine x_next ?_
        (refine c_dec rfl (fun hc38 => ?_) (fun hc38 => ?_) <;> try (first | exact absurd rfl hc38 | contradiction | exact Bool.noConfusion (show false = true from hc38.symm.trans (by assumption)) | exact Bool.noConfusion (show true = false from hc38.symm.trans (by assumption)) | (exfalso; omega) | (exfalso; simp only [*, Bool.not_true, Bool.not_false, reduceCtorEq] at hc38; done)))
        refine c_region ?_
        refine w_pure (y_move rfl) rfl ?_
        refine w_pure (y_neg rfl) rfl ?_
        refine w_pure (y_assign rfl) rfl ?_
        refine w_nil ?_
        refine x_next ?_
        refine c_seq ?_
        refine c_region ?_
        refine w_pure (y_move rfl) rfl ?_
        refine w_pure (y_move rfl) rfl ?_
        refine w_pure (y_move rfl) rfl ?_
        refine w_pure (y_assign rfl) rfl ?_
        refine w_pure (y_assign rfl) rfl ?_
        refine w_pure (y_assign rfl) rfl ?_
        refine w_pure (y_assign rfl) rfl ?_
        refine w_nil ?_
        refine x_next ?_
        refine c_ret ?_
        rotate_left
        refine c_skip ?_
        refine x_next ?_
        refine c_seq ?_
        refine c_region ?_
        refine w_pure (y_move rfl) rfl ?_
        refine w_pure (y_move rfl) rfl ?_
        refine w_pure (y_move rfl) rfl ?_
        refine w_pure (y_assign rfl) rfl ?_
        refine w_pure (y_assign rfl) rfl ?_
        refine w_pure (y_assign rfl) rfl ?_
        refine w_pure (y_assign rfl) rfl ?_
        refine w_nil ?_
        refine x_next ?_
        refine c_ret ?_
        rotate_left
      · refine x_retv [_, _, _, _] rfl ⟨rfl, rfl, rfl, rfl, trivial⟩ ⟨?_, rfl⟩
        have h1 : -(max a (-a) / max b (-b)) = a.tdiv b := hqs.1 hc34
        have h2 : -(max a (-a) % max b (-b)) = a.tmod b := hrs.1 hc38
        rw [cQuo_0 hk hk2, h1, h2, hat]; rfl
      · refine x_retv [_, _, _, _] rfl ⟨rfl, rfl, rfl, rfl, trivial⟩ ⟨?_, rfl⟩
        have h1 : -(max a (-a) / max b (-b)) = a.tdiv b := hqs.1 hc34
        have h2 : max a (-a) % max b (-b) = a.tmod b := hrs.2 hc38
        rw [cQuo_0 hk hk2, h1, h2, hat]; rfl
      · refine x_retv [_, _, _, _] rfl ⟨rfl, rfl, rfl, rfl, trivial⟩ ⟨?_, rfl⟩
        have h1 : max a (-a) / max b (-b) = a.tdiv b := hqs.2 (Decidable.not_not.1 hc34)
        have h2 : -(max a (-a) % max b (-b)) = a.tmod b := hrs.1 hc38
        rw [cQuo_0 hk hk2, h1, h2]; rfl
      · refine x_retv [_, _, _, _] rfl ⟨rfl, rfl, rfl, rfl, trivial⟩ ⟨?_, rfl⟩
        have h1 : max a (-a) / max b (-b) = a.tdiv b := hqs.2 (Decidable.not_not.1 hc34)
        have h2 : max a (-a) % max b (-b) = a.tmod b := hrs.2 hc38
        rw [cQuo_0 hk hk2, h1, h2]; rfl
  · refine ret_enter Tryd.func14 rfl Tryd.ntmps14 rfl ?_
    focus
      refine c_seq ?_
      refine c_region ?_
      refine w_pure (y_assign rfl) rfl ?_
      refine w_pure (y_assign rfl) rfl ?_
      refine w_pure (y_assign rfl) rfl ?_
      refine w_pure (y_assign rfl) rfl ?_
      refine w_nil ?_
      refine x_next ?_
      refine c_seq ?_
      refine c_seq ?_
      refine c_region ?_
      refine w_pure (y_move rfl) rfl ?_
      refine w_pur rfl rfl rfl (l14Number_c _) rfl ?_
      refine w_pure (y_not_dec rfl) rfl ?_
      refine w_pure (y_move rfl) rfl ?_
      (refine w_part_dec rfl rfl (fun hc15 => ?_) (fun hc15 => ?_) <;> try (first | exact absurd rfl hc15 | contradiction | exact Bool.noConfusion (show false = true from hc15.symm.trans (by assumption)) | exact Bool.noConfusion (show true = false from hc15.symm.trans (by assumption)) | (exfalso; omega) | (exfalso; simp only [*, Bool.not_true, Bool.not_false, reduceCtorEq] at hc15; done)))
      refine w_no rfl rfl rfl rfl ?_
      refine w_no rfl rfl rfl rfl ?_
      refine w_no rfl rfl rfl rfl ?_
      refine w_pure (y_pick_t rfl rfl) rfl ?_
      refine w_nil ?_
      refine x_next ?_
      refine c_true rfl ?_
      refine c_seq ?_
      refine c_region ?_
      refine w_pure (y_assign rfl) rfl ?_
      refine w_pure (y_assign rfl) rfl ?_
      refine w_pure (y_assign rfl) rfl ?_
      refine w_pure (y_assign rfl) rfl ?_
      refine w_nil ?_
      refine x_next ?_
      refine c_ret ?_
      refine x_then_ret ?_
      rotate_left
      refine w_yes rfl rfl ?_
      refine w_pure (y_move rfl) rfl ?_
      refine w_yes rfl rfl ?_
      refine w_pur rfl rfl rfl (l14Factor_c _) rfl ?_
      refine w_yes rfl rfl ?_
      refine w_pure (y_not_dec rfl) rfl ?_
      refine w_pure (y_pick_f rfl rfl) rfl ?_
      refine w_nil ?_
      refine x_next ?_
      (refine c_dec rfl (fun hc18 => ?_) (fun hc18 => ?_) <;> try (first | exact absurd rfl hc18 | contradiction | exact Bool.noConfusion (show false = true from hc18.symm.trans (by assumption)) | exact Bool.noConfusion (show true = false from hc18.symm.trans (by assumption)) | (exfalso; omega) | (exfalso; simp only [*, Bool.not_true, Bool.not_false, reduceCtorEq] at hc18; done)))
      refine c_seq ?_
      refine c_region ?_
      refine w_pure (y_assign rfl) rfl ?_
      refine w_pure (y_assign rfl) rfl ?_
      refine w_pure (y_assign rfl) rfl ?_
      refine w_pure (y_assign rfl) rfl ?_
      refine w_nil ?_
      refine x_next ?_
      refine c_ret ?_
      refine x_then_ret ?_
      rotate_left
    all_goals exact x_retv [_, _, _, _] rfl ⟨rfl, rfl, rfl, rfl, trivial⟩ ⟨by rw [cQuo_2 hk]; rfl, rfl⟩
end
end Go.Proofs.YtgkljfncpgbngaaDoor

/- Contracts: the punches of a column; the digit of a column. -/
import Derived.Test.YtihnhelkfiaimaaGreatDoorLawB
import Derived.Test.YtihnhelkfiaimaaGreatDoorL15
namespace Go.Proofs.YtihnhelkfiaimaaGreatDoor
open Go Go.Gw
set_option linter.unusedVariables false
set_option linter.unusedSimpArgs false
/-- the punch of a row -/
def bitI (r : Int) : Int := if r = 12 then 1 else if r = 11 then 2 else if 0 ≤ r ∧ r ≤ 9 then 4 * 2 ^ r.toNat else 0
theorem shl_bd {r : Int} (h : 0 ≤ r ∧ r ≤ 9) : In64 (4 * 2 ^ r.toNat) := by
  have h1 : (2 : Int) ^ r.toNat ≤ 2 ^ 9 := by
    have : r.toNat ≤ 9 := by omega
    exact_mod_cast Nat.pow_le_pow_right (by decide) this
  have h2 : (0 : Int) < 2 ^ r.toNat := Int.pow_pos (by decide)
  have e : (2 : Int) ^ 9 = 512 := by decide
  exact ⟨by omega, by omega⟩
/-- the first digit from d on whose punch is m -/
def digFrom (m d : Int) : Int := if h : d ≤ 9 then (if bitI d = m then d else digFrom m (d + 1)) else -1
termination_by (10 - d).toNat
decreasing_by omega
theorem digFrom_hit {m d : Int} (h : d ≤ 9) (e : bitI d = m) : digFrom m d = d := by rw [digFrom, dif_pos h, if_pos e]
theorem digFrom_on {m d : Int} (h : d ≤ 9) (e : ¬ bitI d = m) : digFrom m d = digFrom m (d + 1) := by rw [digFrom, dif_pos h, if_neg e]
theorem digFrom_end {m d : Int} (h : ¬ d ≤ 9) : digFrom m d = -1 := by rw [digFrom, dif_neg h]
section
variable {w : World}
theorem bitOf_c (r : Int) : Pur Tryz.prog 111 [.int .i64 r] (.int .i64 (bitI r)) := by
  refine ⟨fun w => ?_⟩
  have hs := @shl_bd r
  refine ret_enter Tryz.func111 rfl Tryz.ntmps111 rfl ?_
  focus
    refine c_seq ?_
    refine c_region ?_
    refine w_pure (y_assign rfl) rfl ?_
    refine w_nil ?_
    refine x_next ?_
    refine c_seq ?_
    refine c_block ?_
    refine c_seq ?_
    refine c_region ?_
    refine w_pure (y_move rfl) rfl ?_
    refine w_pure (y_eq rfl rfl) rfl ?_
    refine w_pure (y_assign rfl) rfl ?_
    refine w_nil ?_
    refine x_next ?_
    (refine c_dec rfl (fun hc3 => ?_) (fun hc3 => ?_) <;> try (first | exact absurd rfl hc3 | contradiction | exact Bool.noConfusion (show false = true from hc3.symm.trans (by assumption)) | exact Bool.noConfusion (show true = false from hc3.symm.trans (by assumption)) | (exfalso; omega) | (exfalso; simp only [*, Bool.not_true, Bool.not_false, reduceCtorEq] at hc3; done)))
    refine c_seq ?_
    refine c_region ?_
    refine w_pure (y_assign rfl) rfl ?_
    refine w_nil ?_
    refine x_next ?_
    refine c_ret ?_
    refine x_block_ret ?_
    refine x_then_ret ?_
    rotate_left
    refine c_seq ?_
    refine c_region ?_
    refine w_pure (y_move rfl) rfl ?_
    refine w_pure (y_eq rfl rfl) rfl ?_
    refine w_pure (y_assign rfl) rfl ?_
    refine w_nil ?_
    refine x_next ?_
    (refine c_dec rfl (fun hc6 => ?_) (fun hc6 => ?_) <;> try (first | exact absurd rfl hc6 | contradiction | exact Bool.noConfusion (show false = true from hc6.symm.trans (by assumption)) | exact Bool.noConfusion (show true = false from hc6.symm.trans (by assumption)) | (exfalso; omega) | (exfalso; simp only [*, Bool.not_true, Bool.not_false, reduceCtorEq] at hc6; done)))
    refine c_seq ?_
    refine c_region ?_
    refine w_pure (y_assign rfl) rfl ?_
    refine w_nil ?_
    refine x_next ?_
    refine c_ret ?_
    refine x_block_ret ?_
    refine x_then_ret ?_
    rotate_left
    refine c_seq ?_
    refine c_region ?_
    refine w_pure (y_move rfl) rfl ?_
    refine w_pur rfl rfl rfl (inside_c _ _ _) rfl ?_
    refine w_pure (y_assign rfl) rfl ?_
    refine w_nil ?_
    refine x_next ?_
    (refine c_dec rfl (fun hc9 => ?_) (fun hc9 => ?_) <;> try (first | exact absurd rfl hc9 | contradiction | exact Bool.noConfusion (show false = true from hc9.symm.trans (by assumption)) | exact Bool.noConfusion (show true = false from hc9.symm.trans (by assumption)) | (exfalso; omega) | (exfalso; simp only [*, Bool.not_true, Bool.not_false, reduceCtorEq] at hc9; done)))
    refine c_seq ?_
    refine c_region ?_
    refine w_pure (y_move rfl) rfl ?_
    refine w_pure (y_shl rfl rfl (by omega) (hs (by assumption))) rfl ?_
    refine w_pure (y_assign rfl) rfl ?_
    refine w_nil ?_
    refine x_next ?_
    refine c_ret ?_
    refine x_block_ret ?_
    refine x_then_ret ?_
    rotate_left
    refine c_skip ?_
    refine x_block_norm ?_
    refine x_next ?_
    refine c_seq ?_
    refine c_region ?_
    refine w_pure (y_assign rfl) rfl ?_
    refine w_nil ?_
    refine x_next ?_
    refine c_ret ?_
    rotate_left
  all_goals exact x_retv [_] rfl ⟨rfl, trivial⟩ (by simp [bitI, ofResults, *] <;> omega)
theorem l02Bit_c (r : Int) : Pur Tryz.prog 164 [.int .i64 r] (.int .i64 (bitI r)) := by
  refine ⟨fun w => ?_⟩
  have hs := @shl_bd r
  refine ret_enter Tryz.func164 rfl Tryz.ntmps164 rfl ?_
  focus
    refine c_seq ?_
    refine c_region ?_
    refine w_pure (y_assign rfl) rfl ?_
    refine w_nil ?_
    refine x_next ?_
    refine c_seq ?_
    refine c_block ?_
    refine c_seq ?_
    refine c_region ?_
    refine w_pure (y_move rfl) rfl ?_
    refine w_pure (y_eq rfl rfl) rfl ?_
    refine w_pure (y_assign rfl) rfl ?_
    refine w_nil ?_
    refine x_next ?_
    (refine c_dec rfl (fun hc3 => ?_) (fun hc3 => ?_) <;> try (first | exact absurd rfl hc3 | contradiction | exact Bool.noConfusion (show false = true from hc3.symm.trans (by assumption)) | exact Bool.noConfusion (show true = false from hc3.symm.trans (by assumption)) | (exfalso; omega) | (exfalso; simp only [*, Bool.not_true, Bool.not_false, reduceCtorEq] at hc3; done)))
    refine c_seq ?_
    refine c_region ?_
    refine w_pure (y_assign rfl) rfl ?_
    refine w_nil ?_
    refine x_next ?_
    refine c_ret ?_
    refine x_block_ret ?_
    refine x_then_ret ?_
    rotate_left
    refine c_seq ?_
    refine c_region ?_
    refine w_pure (y_move rfl) rfl ?_
    refine w_pure (y_eq rfl rfl) rfl ?_
    refine w_pure (y_assign rfl) rfl ?_
    refine w_nil ?_
    refine x_next ?_
    (refine c_dec rfl (fun hc6 => ?_) (fun hc6 => ?_) <;> try (first | exact absurd rfl hc6 | contradiction | exact Bool.noConfusion (show false = true from hc6.symm.trans (by assumption)) | exact Bool.noConfusion (show true = false from hc6.symm.trans (by assumption)) | (exfalso; omega) | (exfalso; simp only [*, Bool.not_true, Bool.not_false, reduceCtorEq] at hc6; done)))
    refine c_seq ?_
    refine c_region ?_
    refine w_pure (y_assign rfl) rfl ?_
    refine w_nil ?_
    refine x_next ?_
    refine c_ret ?_
    refine x_block_ret ?_
    refine x_then_ret ?_
    rotate_left
    refine c_seq ?_
    refine c_region ?_
    refine w_pure (y_move rfl) rfl ?_
    refine w_pur rfl rfl rfl (l00In_c _ _ _) rfl ?_
    refine w_pure (y_assign rfl) rfl ?_
    refine w_nil ?_
    refine x_next ?_
    (refine c_dec rfl (fun hc9 => ?_) (fun hc9 => ?_) <;> try (first | exact absurd rfl hc9 | contradiction | exact Bool.noConfusion (show false = true from hc9.symm.trans (by assumption)) | exact Bool.noConfusion (show true = false from hc9.symm.trans (by assumption)) | (exfalso; omega) | (exfalso; simp only [*, Bool.not_true, Bool.not_false, reduceCtorEq] at hc9; done)))
    refine c_seq ?_
    refine c_region ?_
    refine w_pure (y_move rfl) rfl ?_
    refine w_pure (y_convu rfl (by omega)) rfl ?_
    refine w_pure (y_shl rfl rfl (by omega) (hs (by assumption))) rfl ?_
    refine w_pure (y_assign rfl) rfl ?_
    refine w_nil ?_
    refine x_next ?_
    refine c_ret ?_
    refine x_block_ret ?_
    refine x_then_ret ?_
    rotate_left
    refine c_skip ?_
    refine x_block_norm ?_
    refine x_next ?_
    refine c_seq ?_
    refine c_region ?_
    refine w_pure (y_assign rfl) rfl ?_
    refine w_nil ?_
    refine x_next ?_
    refine c_ret ?_
    rotate_left
  all_goals exact x_retv [_] rfl ⟨rfl, trivial⟩ (by simp [bitI, ofResults, *] <;> omega)
theorem digitOf_c (m : Int) : Val Tryz.prog 166 [.int .i64 m] w (.int .i64 (digFrom m 0)) := by
  refine ⟨fun w1 hx1 => ?_⟩
  have E : Since 0 0 w1 w1 := Since.refl 0 0 w1
  refine ret_enter Tryz.func166 rfl Tryz.ntmps166 rfl ?_
  focus
    refine c_seq ?_
    refine c_region ?_
    refine w_pure (y_assign rfl) rfl ?_
    refine w_nil ?_
    refine x_next ?_
    refine c_seq ?_
    refine c_seq ?_
    refine c_region ?_
    refine w_pure (y_move rfl) rfl ?_
    refine w_nil ?_
    refine x_next ?_
    refine c_block ?_
    rotate_left
  refine c_loopC 0 0 (ι := Int) (fun d => [(0, .int .i64 m), (4, .int .i64 d)]) (fun d w' => 0 ≤ d ∧ d ≤ 10 ∧ digFrom m 0 = digFrom m d) (fun d => (10 - d).toNat) 0
    (by repeat (first | exact trivial | refine ⟨rfl, ?_⟩)) ⟨by omega, by omega, rfl⟩ ?_
  rintro d w2 hx2 E2 ⟨hd0, hd1, hd⟩
  focus
    have hz_hx2 := hx2.size
    replace E := E.trans hx2
    refine c_seq ?_
    refine c_region ?_
    refine w_pure (y_lt rfl rfl) rfl ?_
    refine w_nil ?_
    refine x_next ?_
    refine c_seq ?_
    (refine c_dec rfl (fun hc5 => ?_) (fun hc5 => ?_) <;> try (first | exact absurd rfl hc5 | contradiction | exact Bool.noConfusion (show false = true from hc5.symm.trans (by assumption)) | exact Bool.noConfusion (show true = false from hc5.symm.trans (by assumption)) | (exfalso; omega) | (exfalso; simp only [*, Bool.not_true, Bool.not_false, reduceCtorEq] at hc5; done)))
    refine c_skip ?_
    refine x_next ?_
    refine c_seq ?_
    refine c_block ?_
    refine c_seq ?_
    refine c_region ?_
    refine w_pure (y_move rfl) rfl ?_
    refine w_pure (y_assign rfl) rfl ?_
    refine w_nil ?_
    refine x_next ?_
    refine c_seq ?_
    refine c_region ?_
    refine w_pure (y_move rfl) rfl ?_
    refine w_pur rfl rfl rfl (bitOf_c _) rfl ?_
    refine w_pure (y_move rfl) rfl ?_
    refine w_pure (y_eq rfl rfl) rfl ?_
    refine w_nil ?_
    refine x_next ?_
    (refine c_dec rfl (fun hc10 => ?_) (fun hc10 => ?_) <;> try (first | exact absurd rfl hc10 | contradiction | exact Bool.noConfusion (show false = true from hc10.symm.trans (by assumption)) | exact Bool.noConfusion (show true = false from hc10.symm.trans (by assumption)) | (exfalso; omega) | (exfalso; simp only [*, Bool.not_true, Bool.not_false, reduceCtorEq] at hc10; done)))
    refine c_seq ?_
    refine c_region ?_
    refine w_pure (y_move rfl) rfl ?_
    refine w_pure (y_assign rfl) rfl ?_
    refine w_nil ?_
    refine x_next ?_
    refine c_ret ?_
    refine x_block_ret ?_
    refine x_then_ret ?_
    refine x_then_ret ?_
    refine x_block_ret ?_
    refine x_then_ret ?_
    rotate_left
    refine c_skip ?_
    refine x_block_norm ?_
    refine x_next ?_
    refine c_region ?_
    refine w_pure (y_add rfl rfl) rfl ?_
    refine w_pure (y_move rfl) rfl ?_
    refine w_nil ?_
    rotate_left
    refine c_exit ?_
    refine x_then_exit ?_
    refine x_then_exit ?_
    refine x_block_hit ?_
    refine x_next ?_
    refine c_seq ?_
    refine c_region ?_
    refine w_pure (y_assign rfl) rfl ?_
    refine w_nil ?_
    refine x_next ?_
    refine c_ret ?_
    rotate_left
  · exact x_retv [_] rfl ⟨rfl, trivial⟩ ⟨by rw [hd, digFrom_hit (by omega) hc10]; rfl, E.go⟩
  · exact x_again (d + 1) ⟨rfl, rfl, trivial⟩ ⟨E2.go, by omega, by omega, by rw [hd, digFrom_on (by omega) hc10]⟩ (by omega)
  · exact x_retv [_] rfl ⟨rfl, trivial⟩ ⟨by rw [hd, digFrom_end (by omega)]; rfl, E.go⟩
theorem l03Digit_c (m : Int) : Val Tryz.prog 175 [.int .i64 m] w (.int .i64 (digFrom m 0)) := by
  refine ⟨fun w1 hx1 => ?_⟩
  have E : Since 0 0 w1 w1 := Since.refl 0 0 w1
  refine ret_enter Tryz.func175 rfl Tryz.ntmps175 rfl ?_
  focus
    refine c_seq ?_
    refine c_region ?_
    refine w_pure (y_assign rfl) rfl ?_
    refine w_nil ?_
    refine x_next ?_
    refine c_seq ?_
    refine c_seq ?_
    refine c_region ?_
    refine w_pure (y_assign rfl) rfl ?_
    refine w_nil ?_
    refine x_next ?_
    refine c_block ?_
    rotate_left
  refine c_loopC 0 0 (ι := Int) (fun d => [(0, .int .i64 m), (3, .int .i64 d)]) (fun d w' => 0 ≤ d ∧ d ≤ 10 ∧ digFrom m 0 = digFrom m d) (fun d => (10 - d).toNat) 0
    (by repeat (first | exact trivial | refine ⟨rfl, ?_⟩)) ⟨by omega, by omega, rfl⟩ ?_
  rintro d w2 hx2 E2 ⟨hd0, hd1, hd⟩
  focus
    have hz_hx2 := hx2.size
    replace E := E.trans hx2
    refine c_seq ?_
    refine c_seq ?_
    refine c_region ?_
    refine w_pure (y_move rfl) rfl ?_
    refine w_pure (y_le rfl rfl) rfl ?_
    refine w_nil ?_
    refine x_next ?_
    (refine c_dec rfl (fun hc5 => ?_) (fun hc5 => ?_) <;> try (first | exact absurd rfl hc5 | contradiction | exact Bool.noConfusion (show false = true from hc5.symm.trans (by assumption)) | exact Bool.noConfusion (show true = false from hc5.symm.trans (by assumption)) | (exfalso; omega) | (exfalso; simp only [*, Bool.not_true, Bool.not_false, reduceCtorEq] at hc5; done)))
    refine c_skip ?_
    refine x_next ?_
    refine c_seq ?_
    refine c_block ?_
    refine c_seq ?_
    refine c_region ?_
    refine w_pure (y_move rfl) rfl ?_
    refine w_pure (y_move rfl) rfl ?_
    refine w_pur rfl rfl rfl (l02Bit_c _) rfl ?_
    refine w_pure (y_eq rfl rfl) rfl ?_
    refine w_nil ?_
    refine x_next ?_
    (refine c_dec rfl (fun hc11 => ?_) (fun hc11 => ?_) <;> try (first | exact absurd rfl hc11 | contradiction | exact Bool.noConfusion (show false = true from hc11.symm.trans (by assumption)) | exact Bool.noConfusion (show true = false from hc11.symm.trans (by assumption)) | (exfalso; omega) | (exfalso; simp only [*, Bool.not_true, Bool.not_false, reduceCtorEq] at hc11; done)))
    refine c_seq ?_
    refine c_region ?_
    refine w_pure (y_move rfl) rfl ?_
    refine w_pure (y_assign rfl) rfl ?_
    refine w_nil ?_
    refine x_next ?_
    refine c_ret ?_
    refine x_block_ret ?_
    refine x_then_ret ?_
    refine x_then_ret ?_
    refine x_block_ret ?_
    refine x_then_ret ?_
    rotate_left
    refine c_skip ?_
    refine x_block_norm ?_
    refine x_next ?_
    refine c_region ?_
    refine w_pure (y_move rfl) rfl ?_
    refine w_pure (y_add rfl rfl) rfl ?_
    refine w_pure (y_assign rfl) rfl ?_
    refine w_nil ?_
    rotate_left
    refine c_exit ?_
    refine x_then_exit ?_
    refine x_then_exit ?_
    refine x_block_hit ?_
    refine x_next ?_
    refine c_seq ?_
    refine c_region ?_
    refine w_pure (y_assign rfl) rfl ?_
    refine w_nil ?_
    refine x_next ?_
    refine c_ret ?_
    rotate_left
  · exact x_retv [_] rfl ⟨rfl, trivial⟩ ⟨by rw [hd, digFrom_hit (by omega) hc11.symm]; rfl, E.go⟩
  · exact x_again (d + 1) ⟨rfl, rfl, trivial⟩ ⟨E2.go, by omega, by omega, by rw [hd, digFrom_on (by omega) (fun g => hc11 g.symm)]⟩ (by omega)
  · exact x_retv [_] rfl ⟨rfl, trivial⟩ ⟨by rw [hd, digFrom_end (by omega)]; rfl, E.go⟩
end
end Go.Proofs.YtihnhelkfiaimaaGreatDoor

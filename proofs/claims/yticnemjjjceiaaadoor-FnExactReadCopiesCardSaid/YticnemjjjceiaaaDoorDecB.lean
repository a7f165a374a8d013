/- Contracts: numbers in decimal, the reference's. -/
import Derived.Test.YticnemjjjceiaaaDoorDec
namespace Go.Proofs.YticnemjjjceiaaaDoor
open Go Go.Gw
set_option linter.unusedVariables false
set_option linter.unusedSimpArgs false
section
variable {w : World} {lo hi : Nat} {v : Value} {xs : List Int}
theorem l01Dec_c (n : Int) (hn : In64 n := by first | assumption | exact ⟨by omega, by omega⟩) : Val Tryd.prog 19 [.int .i64 n] w (str (Lib.itoa n)) := by
  refine ⟨fun w1 hx1 => ?_⟩
  have E : Since 0 0 w1 w1 := Since.refl 0 0 w1
  refine ret_enter Tryd.func19 rfl Tryd.ntmps19 rfl ?_
  focus
    refine c_seq ?_
    refine c_region ?_
    refine w_pure (y_assign rfl) rfl ?_
    refine w_nil ?_
    refine x_next ?_
    refine c_seq ?_
    refine c_region ?_
    refine w_lit (α := UInt8) rfl rfl rfl rfl rfl rfl rfl rfl (fun v6 w6 ho6 hx6 hl6 hh6 hs6 => ?_)
    have hl_ho6 := ho6.lt
    have hz_hx6 := hx6.size
    replace E := E.trans hx6
    refine w_pure (y_assign rfl) rfl ?_
    refine w_nil ?_
    refine x_next ?_
    refine c_seq ?_
    refine c_seq ?_
    refine c_region ?_
    refine w_pure (y_move rfl) rfl ?_
    refine w_pure (y_assign rfl) rfl ?_
    refine w_nil ?_
    refine x_next ?_
    refine c_block ?_
    rotate_left
  refine c_loopC (bL v6) (bH v6) (ι := Int × Value × List UInt8) (fun x => [(0, .int .i64 n), (3, x.2.1), (4, .int .i64 x.1)]) (fun x w' => Own w' 5 w1.heap.size x.2.1 x.2.2 ∧ ((bL x.2.1 = bL v6 ∧ bH x.2.1 = bH v6) ∨ w6.heap.size ≤ bL x.2.1) ∧ In64 x.1 ∧ dec0 x.1.natAbs ++ x.2.2 = dec0 n.natAbs) (fun x => x.1.natAbs) (n, v6, [])
    (by repeat (first | exact trivial | refine ⟨rfl, ?_⟩)) ⟨Own.base (by assumption) (by omega), .inl ⟨rfl, rfl⟩, hn, by dsimp only; rw [List.append_nil]⟩ ?_
  clear ho6
  rintro ⟨k, u, l⟩ w2 hx2 E2 ⟨h2, h4, hk, hd⟩
  dsimp only at *
  have hdl := dec0_len n.natAbs (by have e : (10 : Nat) ^ 19 = 10000000000000000000 := by decide
                                    omega)
  have hll : l.length ≤ 19 := by rw [← hd, List.length_append] at hdl; omega
  have hm : (k.tmod 10).natAbs = k.natAbs % 10 := by rw [Int.natAbs_tmod]; rfl
  have hdv : (k.tdiv 10).natAbs = k.natAbs / 10 := by rw [Int.natAbs_tdiv]; rfl
  have hmb : -9 ≤ k.tmod 10 ∧ k.tmod 10 ≤ 9 := by omega
  have hkd : In64 (k.tdiv 10) := tdiv_in hk (by omega)
  have hst : k ≠ 0 → dec0 (k.tdiv 10).natAbs ++ ([UInt8.ofNat (48 + k.natAbs % 10)] ++ l) = dec0 n.natAbs := fun h => by
    rw [hdv, ← hd, dec0_step (u := k.natAbs) (by omega), List.append_assoc]
  focus
    have hl_h2 := h2.lt
    have hz_hx2 := hx2.size
    replace E := E.next hx2 (by omega)
    refine c_seq ?_
    refine c_seq ?_
    refine c_region ?_
    refine w_pure (y_move rfl) rfl ?_
    refine w_pure (y_ne rfl rfl) rfl ?_
    refine w_nil ?_
    refine x_next ?_
    (refine c_dec rfl (fun hc9 => ?_) (fun hc9 => ?_) <;> try (first | exact absurd rfl hc9 | contradiction | exact Bool.noConfusion (show false = true from hc9.symm.trans (by assumption)) | exact Bool.noConfusion (show true = false from hc9.symm.trans (by assumption)) | (exfalso; omega) | (exfalso; simp only [*, Bool.not_true, Bool.not_false, reduceCtorEq] at hc9; done)))
    refine c_skip ?_
    refine x_next ?_
    refine c_seq ?_
    refine c_block ?_
    refine c_seq ?_
    refine c_region ?_
    refine w_pure (y_move rfl) rfl ?_
    refine w_pure (y_remt rfl rfl) rfl ?_
    refine w_pure (y_assign rfl) rfl ?_
    refine w_nil ?_
    refine x_next ?_
    refine c_seq ?_
    refine c_seq ?_
    refine c_region ?_
    refine w_pure (y_move rfl) rfl ?_
    refine w_pure (y_lt rfl rfl) rfl ?_
    refine w_nil ?_
    refine x_next ?_
    (refine c_dec rfl (fun hc15 => ?_) (fun hc15 => ?_) <;> try (first | exact absurd rfl hc15 | contradiction | exact Bool.noConfusion (show false = true from hc15.symm.trans (by assumption)) | exact Bool.noConfusion (show true = false from hc15.symm.trans (by assumption)) | (exfalso; omega) | (exfalso; simp only [*, Bool.not_true, Bool.not_false, reduceCtorEq] at hc15; done)))
    refine c_region ?_
    refine w_pure (y_move rfl) rfl ?_
    refine w_pure (y_neg rfl) rfl ?_
    refine w_pure (y_assign rfl) rfl ?_
    refine w_nil ?_
    refine x_next ?_
    refine c_region ?_
    refine w_pure (y_move rfl) rfl ?_
    refine w_pure (y_add rfl rfl) rfl ?_
    refine w_pure (y_conv8 rfl) rfl ?_
    refine w_litb1 rfl rfl rfl (fun v21 w21 ho21 hx21 hl21 hh21 hs21 => ?_)
    have hl_ho21 := ho21.lt
    have hz_hx21 := hx21.size
    replace E2 := E2.next hx21 (by omega)
    replace h2 := h2.ext hx21
    replace E := E.trans hx21
    refine w_pure (y_move rfl) rfl ?_
    refine w_append rfl rfl (k := fun v23 w23 ho23 hx23 hr23 => ?_)
    have hl_ho23 := ho23.lt
    have hz_hx23 := hx23.size
    replace E2 := E2.next hx23 (by omega)
    replace h2 := h2.chg hx23 (by omega)
    replace E := E.next hx23 (by omega)
    refine w_pure (y_assign rfl) rfl ?_
    refine w_nil ?_
    refine x_block_norm ?_
    refine x_next ?_
    refine c_region ?_
    refine w_pure (y_move rfl) rfl ?_
    refine w_pure (y_quot rfl rfl) rfl ?_
    refine w_pure (y_assign rfl) rfl ?_
    refine w_nil ?_
    rotate_left
    refine c_skip ?_
    refine x_next ?_
    refine c_region ?_
    refine w_pure (y_move rfl) rfl ?_
    refine w_pure (y_add rfl rfl) rfl ?_
    refine w_pure (y_conv8 rfl) rfl ?_
    refine w_litb1 rfl rfl rfl (fun v21 w21 ho21 hx21 hl21 hh21 hs21 => ?_)
    have hl_ho21 := ho21.lt
    have hz_hx21 := hx21.size
    replace E2 := E2.next hx21 (by omega)
    replace h2 := h2.ext hx21
    replace E := E.trans hx21
    refine w_pure (y_move rfl) rfl ?_
    refine w_append rfl rfl (k := fun v23 w23 ho23 hx23 hr23 => ?_)
    have hl_ho23 := ho23.lt
    have hz_hx23 := hx23.size
    replace E2 := E2.next hx23 (by omega)
    replace h2 := h2.chg hx23 (by omega)
    replace E := E.next hx23 (by omega)
    refine w_pure (y_assign rfl) rfl ?_
    refine w_nil ?_
    refine x_block_norm ?_
    refine x_next ?_
    refine c_region ?_
    refine w_pure (y_move rfl) rfl ?_
    refine w_pure (y_quot rfl rfl) rfl ?_
    refine w_pure (y_assign rfl) rfl ?_
    refine w_nil ?_
    rotate_left
    refine c_exit ?_
    refine x_then_exit ?_
    refine x_then_exit ?_
    refine x_block_hit ?_
    refine x_next ?_
    refine c_seq ?_
    refine c_seq ?_
    refine c_region ?_
    refine w_pure (y_move rfl) rfl ?_
    refine w_pure (y_len rfl) rfl ?_
    refine w_pure (y_eq rfl rfl) rfl ?_
    refine w_nil ?_
    refine x_next ?_
    (refine c_dec rfl (fun hc26 => ?_) (fun hc26 => ?_) <;> try (first | exact absurd rfl hc26 | contradiction | exact Bool.noConfusion (show false = true from hc26.symm.trans (by assumption)) | exact Bool.noConfusion (show true = false from hc26.symm.trans (by assumption)) | (exfalso; omega) | (exfalso; simp only [*, Bool.not_true, Bool.not_false, reduceCtorEq] at hc26; done)))
    refine c_seq ?_
    refine c_region ?_
    refine w_pure (y_assign rfl) rfl ?_
    refine w_nil ?_
    refine x_next ?_
    refine c_ret ?_
    refine x_then_ret ?_
    rotate_left
    refine c_skip ?_
    refine x_next ?_
    refine c_seq ?_
    refine c_seq ?_
    refine c_region ?_
    refine w_pure (y_move rfl) rfl ?_
    refine w_pure (y_lt rfl rfl) rfl ?_
    refine w_nil ?_
    refine x_next ?_
    (refine c_dec rfl (fun hc28 => ?_) (fun hc28 => ?_) <;> try (first | exact absurd rfl hc28 | contradiction | exact Bool.noConfusion (show false = true from hc28.symm.trans (by assumption)) | exact Bool.noConfusion (show true = false from hc28.symm.trans (by assumption)) | (exfalso; omega) | (exfalso; simp only [*, Bool.not_true, Bool.not_false, reduceCtorEq] at hc28; done)))
    refine c_seq ?_
    refine c_region ?_
    refine w_pure (y_move rfl) rfl ?_
    refine w_pure (y_str8 rfl) rfl ?_
    refine w_pure (y_scat (p := [45]) (q := l) rfl rfl (by simp; omega)) rfl ?_
    refine w_pure (y_assign rfl) rfl ?_
    refine w_nil ?_
    refine x_next ?_
    refine c_ret ?_
    refine x_then_ret ?_
    rotate_left
    refine c_skip ?_
    refine x_next ?_
    refine c_seq ?_
    refine c_region ?_
    refine w_pure (y_move rfl) rfl ?_
    refine w_pure (y_str8 rfl) rfl ?_
    refine w_pure (y_assign rfl) rfl ?_
    refine w_nil ?_
    refine x_next ?_
    refine c_ret ?_
    rotate_left
  · have eb : (48 + -(k.tmod 10)).toNat = 48 + k.natAbs % 10 := by omega
    refine x_again (k.tdiv 10, v23, [UInt8.ofNat (48 + k.natAbs % 10)] ++ l) (by repeat (first | exact trivial | refine ⟨rfl, ?_⟩)) ⟨E2.go, ?_, by dsimp only; omega, hkd, hst hc9⟩ (by dsimp only; omega)
    dsimp only; rw [← eb]; exact Own.base (by assumption) (by omega)
  · have eb : (48 + k.tmod 10).toNat = 48 + k.natAbs % 10 := by omega
    refine x_again (k.tdiv 10, v23, [UInt8.ofNat (48 + k.natAbs % 10)] ++ l) (by repeat (first | exact trivial | refine ⟨rfl, ?_⟩)) ⟨E2.go, ?_, by dsimp only; omega, hkd, hst hc9⟩ (by dsimp only; omega)
    dsimp only; rw [← eb]; exact Own.base (by assumption) (by omega)
  all_goals
    have hk0 : k = 0 := Decidable.not_not.1 hc9
    rw [hk0] at hd
    have hl : l = dec0 n.natAbs := by rw [← hd]; rfl
    have hz : n ≠ 0 → 1 ≤ l.length := fun h => by
      rw [hl, dec0, if_neg (by omega), Lib.decDigits_length]; exact nDigits_pos _
  · refine x_retv [_] rfl ⟨rfl, trivial⟩ ⟨?_, E.go⟩
    have h0 : n = 0 := Decidable.byContradiction fun h => by have := hz h; omega
    rw [itoa_dec0, if_pos h0]; rfl
  · refine x_retv [_] rfl ⟨rfl, trivial⟩ ⟨?_, E.go⟩
    rw [itoa_dec0, if_neg (by omega), if_pos hc28, ← hl]; rfl
  · have h0 : n ≠ 0 := fun h => by rw [h] at hl; rw [hl] at hc26; exact hc26 rfl
    refine x_retv [_] rfl ⟨rfl, trivial⟩ ⟨?_, E.go⟩
    rw [itoa_dec0, if_neg h0, if_neg hc28, ← hl]; rfl
end
end Go.Proofs.YticnemjjjceiaaaDoor

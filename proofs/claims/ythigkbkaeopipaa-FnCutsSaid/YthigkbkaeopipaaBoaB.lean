/- Contracts: the laws' own small functions on bytes and lists; a board drawn from bytes. -/
import Derived.Test.YthigkbkaeopipaaBoaA
import Derived.Test.YthigkbkaeopipaaOpB
namespace Go.Proofs.Ythigkbkaeopipaa
open Go Go.Gw
set_option linter.unusedVariables false
set_option linter.unusedSimpArgs false
def a2at (p : List UInt8) (k n : Int) : Int := if (p.length : Int) ≤ k ∨ n < 1 then 0 else ((p.getD k.toNat 0).toNat : Int) % n
theorem a2at_bd (p : List UInt8) (k : Int) {n : Int} (h : 1 ≤ n) : 0 ≤ a2at p k n ∧ a2at p k n < n := by
  unfold a2at; split
  · omega
  · exact ⟨Int.emod_nonneg _ (by omega), Int.emod_lt_of_pos _ (by omega)⟩
section
variable {w : World} {lo hi lo' hi' : Nat} {v v' : Value} {p q : List UInt8} {xs ys : List Int}
theorem a2At_c (k n : Int) (h : SL w lo hi v p := by repeat (first | assumption | exact Go.Gw.Own.sl (by assumption) | exact Go.Gw.Box.at (by assumption) | exact Go.Gw.SLL.el (by first | assumption | exact Go.Gw.OwnD.sll (by assumption)) _ (by omega) | exact Go.Gw.SLL.at (by first | assumption | exact Go.Gw.OwnD.sll (by assumption)) (by omega) | exact Go.Gw.OwnD.sll (by assumption) | (apply Go.Gw.SL.chg; case hx => assumption) | (apply Go.Gw.Own.chg; case hx => assumption) | (apply Go.Gw.Box.chg; case hx => assumption) | (apply Go.Gw.At.chg; case hx => assumption) | exact .inl (Nat.zero_le _) | exact .inr (Nat.zero_le _) | (show _ ∨ _; omega))) (hk : 0 ≤ k := by omega) : Val Try.prog 34 [v, .int .i64 k, .int .i64 n] w (.int .i64 (a2at p k n)) := by
  refine ⟨fun w1 hx1 => ?_⟩
  have hsm := h.small
  have hby := (p.getD k.toNat 0).toNat_lt
  have E : Since 0 0 w1 w1 := Since.refl 0 0 w1
  by_cases hc : (p.length : Int) ≤ k ∨ n < 1
  · have e : a2at p k n = 0 := if_pos hc
    refine ret_enter Try.func34 rfl Try.ntmps34 rfl ?_
    focus
      have ht_h := h.top
      have hz_hx1 := hx1.size
      replace h := h.ext hx1
      refine c_seq ?_
      refine c_region ?_
      refine w_pure (y_assign rfl) rfl ?_
      refine w_nil ?_
      refine x_next ?_
      refine c_seq ?_
      refine c_seq ?_
      refine c_region ?_
      refine w_pure (y_move rfl) rfl ?_
      refine w_pure (y_move rfl) rfl ?_
      refine w_pure (y_len rfl) rfl ?_
      refine w_pure (y_ge rfl rfl) rfl ?_
      refine w_pure (y_move rfl) rfl ?_
      (refine w_part_dec rfl rfl (fun hc12 => ?_) (fun hc12 => ?_) <;> try (first | exact absurd rfl hc12 | contradiction | exact Bool.noConfusion (show false = true from hc12.symm.trans (by assumption)) | exact Bool.noConfusion (show true = false from hc12.symm.trans (by assumption)) | (exfalso; omega) | (exfalso; simp only [*, Bool.not_true, Bool.not_false, reduceCtorEq] at hc12; done)))
      refine w_no rfl rfl rfl rfl ?_
      refine w_no rfl rfl rfl rfl ?_
      refine w_pure (y_pick_t rfl rfl) rfl ?_
      refine w_nil ?_
      refine x_next ?_
      refine c_true rfl ?_
      refine c_seq ?_
      refine c_region ?_
      refine w_pure (y_assign rfl) rfl ?_
      refine w_nil ?_
      refine x_next ?_
      refine c_ret ?_
      refine x_then_ret ?_
      rotate_left
      refine w_yes rfl rfl ?_
      refine w_pure (y_move rfl) rfl ?_
      refine w_yes rfl rfl ?_
      refine w_pure (y_lt rfl rfl) rfl ?_
      refine w_pure (y_pick_f rfl rfl) rfl ?_
      refine w_nil ?_
      refine x_next ?_
      (refine c_dec rfl (fun hc14 => ?_) (fun hc14 => ?_) <;> try (first | exact absurd rfl hc14 | contradiction | exact Bool.noConfusion (show false = true from hc14.symm.trans (by assumption)) | exact Bool.noConfusion (show true = false from hc14.symm.trans (by assumption)) | (exfalso; omega) | (exfalso; simp only [*, Bool.not_true, Bool.not_false, reduceCtorEq] at hc14; done)))
      refine c_seq ?_
      refine c_region ?_
      refine w_pure (y_assign rfl) rfl ?_
      refine w_nil ?_
      refine x_next ?_
      refine c_ret ?_
      refine x_then_ret ?_
      rotate_left
    all_goals first
      | exact x_retv [_] rfl ⟨rfl, trivial⟩ ⟨by rw [e]; rfl, E.go⟩
      | (exfalso; omega)
  · have e : a2at p k n = ((p.getD k.toNat 0).toNat : Int) % n := if_neg hc
    refine ret_enter Try.func34 rfl Try.ntmps34 rfl ?_
    focus
      have ht_h := h.top
      have hz_hx1 := hx1.size
      replace h := h.ext hx1
      refine c_seq ?_
      refine c_region ?_
      refine w_pure (y_assign rfl) rfl ?_
      refine w_nil ?_
      refine x_next ?_
      refine c_seq ?_
      refine c_seq ?_
      refine c_region ?_
      refine w_pure (y_move rfl) rfl ?_
      refine w_pure (y_move rfl) rfl ?_
      refine w_pure (y_len rfl) rfl ?_
      refine w_pure (y_ge rfl rfl) rfl ?_
      refine w_pure (y_move rfl) rfl ?_
      (refine w_part_dec rfl rfl (fun hc12 => ?_) (fun hc12 => ?_) <;> try (first | exact absurd rfl hc12 | contradiction | exact Bool.noConfusion (show false = true from hc12.symm.trans (by assumption)) | exact Bool.noConfusion (show true = false from hc12.symm.trans (by assumption)) | (exfalso; omega) | (exfalso; simp only [*, Bool.not_true, Bool.not_false, reduceCtorEq] at hc12; done)))
      refine w_yes rfl rfl ?_
      refine w_pure (y_move rfl) rfl ?_
      refine w_yes rfl rfl ?_
      refine w_pure (y_lt rfl rfl) rfl ?_
      refine w_pure (y_pick_f rfl rfl) rfl ?_
      refine w_nil ?_
      refine x_next ?_
      (refine c_dec rfl (fun hc14 => ?_) (fun hc14 => ?_) <;> try (first | exact absurd rfl hc14 | contradiction | exact Bool.noConfusion (show false = true from hc14.symm.trans (by assumption)) | exact Bool.noConfusion (show true = false from hc14.symm.trans (by assumption)) | (exfalso; omega) | (exfalso; simp only [*, Bool.not_true, Bool.not_false, reduceCtorEq] at hc14; done)))
      refine c_skip ?_
      refine x_next ?_
      refine c_seq ?_
      refine c_region ?_
      refine w_pure (y_move rfl) rfl ?_
      refine w_pure (y_move rfl) rfl ?_
      refine w_pure (y_index rfl rfl) rfl ?_
      refine w_pure (y_load_u8 rfl) rfl ?_
      refine w_pure (y_conv64 rfl) rfl ?_
      refine w_pure (y_move rfl) rfl ?_
      refine w_pure (y_rem rfl rfl) rfl ?_
      refine w_pure (y_assign rfl) rfl ?_
      refine w_nil ?_
      refine x_next ?_
      refine c_ret ?_
      rotate_left
    all_goals first
      | exact x_retv [_] rfl ⟨rfl, trivial⟩ ⟨by rw [e]; rfl, E.go⟩
      | (exfalso; omega)
theorem a2Long_c (h : SL w lo hi v p := by repeat (first | assumption | exact Go.Gw.Own.sl (by assumption) | exact Go.Gw.Box.at (by assumption) | exact Go.Gw.SLL.el (by first | assumption | exact Go.Gw.OwnD.sll (by assumption)) _ (by omega) | exact Go.Gw.SLL.at (by first | assumption | exact Go.Gw.OwnD.sll (by assumption)) (by omega) | exact Go.Gw.OwnD.sll (by assumption) | (apply Go.Gw.SL.chg; case hx => assumption) | (apply Go.Gw.Own.chg; case hx => assumption) | (apply Go.Gw.Box.chg; case hx => assumption) | (apply Go.Gw.At.chg; case hx => assumption) | exact .inl (Nat.zero_le _) | exact .inr (Nat.zero_le _) | (show _ ∨ _; omega))) (h' : SL w lo' hi' v' q := by repeat (first | assumption | exact Go.Gw.Own.sl (by assumption) | exact Go.Gw.Box.at (by assumption) | exact Go.Gw.SLL.el (by first | assumption | exact Go.Gw.OwnD.sll (by assumption)) _ (by omega) | exact Go.Gw.SLL.at (by first | assumption | exact Go.Gw.OwnD.sll (by assumption)) (by omega) | exact Go.Gw.OwnD.sll (by assumption) | (apply Go.Gw.SL.chg; case hx => assumption) | (apply Go.Gw.Own.chg; case hx => assumption) | (apply Go.Gw.Box.chg; case hx => assumption) | (apply Go.Gw.At.chg; case hx => assumption) | exact .inl (Nat.zero_le _) | exact .inr (Nat.zero_le _) | (show _ ∨ _; omega))) : Ret Try.prog 10 [v, v'] w fun u w' => ∃ z, u = .bool z ∧ Ext w w' := by
  have E : Since 0 0 w w := Since.refl 0 0 w
  refine ret_enter Try.func10 rfl Try.ntmps10 rfl ?_
  focus
    have ht_h := h.top
    have ht_h' := h'.top
    refine c_seq ?_
    refine c_region ?_
    refine w_pure (y_assign rfl) rfl ?_
    refine w_nil ?_
    refine x_next ?_
    refine c_seq ?_
    refine c_region ?_
    refine w_pure (y_move rfl) rfl ?_
    refine w_pure (y_len rfl) rfl ?_
    refine w_pure (y_gt rfl rfl) rfl ?_
    refine w_pure (y_move rfl) rfl ?_
    (refine w_part_dec rfl rfl (fun hc9 => ?_) (fun hc9 => ?_) <;> try (first | exact absurd rfl hc9 | contradiction | exact Bool.noConfusion (show false = true from hc9.symm.trans (by assumption)) | exact Bool.noConfusion (show true = false from hc9.symm.trans (by assumption)) | (exfalso; omega) | (exfalso; simp only [*, Bool.not_true, Bool.not_false, reduceCtorEq] at hc9; done)))
    refine w_no rfl rfl rfl rfl ?_
    refine w_no rfl rfl rfl rfl ?_
    refine w_no rfl rfl rfl rfl ?_
    refine w_pure (y_pick_t rfl rfl) rfl ?_
    refine w_pure (y_assign rfl) rfl ?_
    refine w_nil ?_
    refine x_next ?_
    refine c_ret ?_
    rotate_left
    refine w_yes rfl rfl ?_
    refine w_pure (y_move rfl) rfl ?_
    refine w_yes rfl rfl ?_
    refine w_pure (y_len rfl) rfl ?_
    refine w_yes rfl rfl ?_
    refine w_pure (y_gt rfl rfl) rfl ?_
    refine w_pure (y_pick_f rfl rfl) rfl ?_
    refine w_pure (y_assign rfl) rfl ?_
    refine w_nil ?_
    refine x_next ?_
    refine c_ret ?_
    rotate_left
  all_goals exact x_retv [_] rfl ⟨rfl, trivial⟩ ⟨_, rfl, E.go⟩
theorem a2Same_c (h : SL w lo hi v xs := by repeat (first | assumption | exact Go.Gw.Own.sl (by assumption) | exact Go.Gw.Box.at (by assumption) | exact Go.Gw.SLL.el (by first | assumption | exact Go.Gw.OwnD.sll (by assumption)) _ (by omega) | exact Go.Gw.SLL.at (by first | assumption | exact Go.Gw.OwnD.sll (by assumption)) (by omega) | exact Go.Gw.OwnD.sll (by assumption) | (apply Go.Gw.SL.chg; case hx => assumption) | (apply Go.Gw.Own.chg; case hx => assumption) | (apply Go.Gw.Box.chg; case hx => assumption) | (apply Go.Gw.At.chg; case hx => assumption) | exact .inl (Nat.zero_le _) | exact .inr (Nat.zero_le _) | (show _ ∨ _; omega))) (h' : SL w lo' hi' v' ys := by repeat (first | assumption | exact Go.Gw.Own.sl (by assumption) | exact Go.Gw.Box.at (by assumption) | exact Go.Gw.SLL.el (by first | assumption | exact Go.Gw.OwnD.sll (by assumption)) _ (by omega) | exact Go.Gw.SLL.at (by first | assumption | exact Go.Gw.OwnD.sll (by assumption)) (by omega) | exact Go.Gw.OwnD.sll (by assumption) | (apply Go.Gw.SL.chg; case hx => assumption) | (apply Go.Gw.Own.chg; case hx => assumption) | (apply Go.Gw.Box.chg; case hx => assumption) | (apply Go.Gw.At.chg; case hx => assumption) | exact .inl (Nat.zero_le _) | exact .inr (Nat.zero_le _) | (show _ ∨ _; omega))) : Val Try.prog 36 [v, v'] w (.bool (decide (xs = ys))) := by
  refine ⟨fun w1 hx1 => ?_⟩
  have hsm := h.small
  have hsm' := h'.small
  by_cases hl : xs.length = ys.length
  · refine ret_enter Try.func36 rfl Try.ntmps36 rfl ?_
    focus
      have ht_h := h.top
      have ht_h' := h'.top
      have hz_hx1 := hx1.size
      replace h := h.ext hx1
      replace h' := h'.ext hx1
      refine c_seq ?_
      refine c_region ?_
      refine w_pure (y_assign rfl) rfl ?_
      refine w_nil ?_
      refine x_next ?_
      refine c_seq ?_
      refine c_seq ?_
      refine c_region ?_
      refine w_pure (y_move rfl) rfl ?_
      refine w_pure (y_len rfl) rfl ?_
      refine w_pure (y_move rfl) rfl ?_
      refine w_pure (y_len rfl) rfl ?_
      refine w_pure (y_ne rfl rfl) rfl ?_
      refine w_nil ?_
      refine x_next ?_
      (refine c_dec rfl (fun hc10 => ?_) (fun hc10 => ?_) <;> try (first | exact absurd rfl hc10 | contradiction | exact Bool.noConfusion (show false = true from hc10.symm.trans (by assumption)) | exact Bool.noConfusion (show true = false from hc10.symm.trans (by assumption)) | (exfalso; omega) | (exfalso; simp only [*, Bool.not_true, Bool.not_false, reduceCtorEq] at hc10; done)))
      refine c_skip ?_
      refine x_next ?_
      refine c_seq ?_
      refine c_seq ?_
      refine c_region ?_
      refine w_pure (y_assign rfl) rfl ?_
      refine w_nil ?_
      refine x_next ?_
      refine c_block ?_
      rotate_left
    refine c_loop (ι := Int) (fun x => [(0, v), (1, v'), (5, .int .i64 x)]) (fun x w' => Ext w1 w' ∧ 0 ≤ x ∧ x ≤ xs.length ∧ ∀ j : Nat, j < x.toNat → xs.getD j 0 = ys.getD j 0) (fun x => (xs.length - x).toNat) 0
      ⟨rfl, rfl, rfl, trivial⟩ ⟨Chg.refl _ _ _, by omega, by omega, fun j hj => by simp at hj⟩ ?_
    rintro i w2 ⟨hx2, hi0, hi1, hall⟩
    focus
      have hz_hx2 := hx2.size
      replace h := h.ext hx2
      replace h' := h'.ext hx2
      refine c_seq ?_
      refine c_seq ?_
      refine c_region ?_
      refine w_pure (y_move rfl) rfl ?_
      refine w_pure (y_move rfl) rfl ?_
      refine w_pure (y_len rfl) rfl ?_
      refine w_pure (y_lt rfl rfl) rfl ?_
      refine w_nil ?_
      refine x_next ?_
      (refine c_dec rfl (fun hc14 => ?_) (fun hc14 => ?_) <;> try (first | exact absurd rfl hc14 | contradiction | exact Bool.noConfusion (show false = true from hc14.symm.trans (by assumption)) | exact Bool.noConfusion (show true = false from hc14.symm.trans (by assumption)) | (exfalso; omega) | (exfalso; simp only [*, Bool.not_true, Bool.not_false, reduceCtorEq] at hc14; done)))
      refine c_skip ?_
      refine x_next ?_
      refine c_seq ?_
      refine c_block ?_
      refine c_seq ?_
      refine c_region_calm mixed (by decide +kernel) (by kernel_rfl) ?_
      refine q_pure (y_move rfl) rfl ?_
      refine q_pure (y_move rfl) rfl ?_
      refine q_pure (y_index rfl rfl) rfl ?_
      refine q_pure (y_load_int rfl) rfl ?_
      refine q_pure (y_move rfl) rfl ?_
      refine q_pure (y_move rfl) rfl ?_
      refine q_pure (y_index rfl rfl) rfl ?_
      refine q_pure (y_load_int rfl) rfl ?_
      refine q_pure (y_ne rfl rfl) rfl ?_
      refine q_nil (fun ws26 hxs26 hzs26 => ?_)
      have hz_hxs26 := hxs26.size
      replace h := h.ext hxs26
      replace h' := h'.ext hxs26
      refine x_next ?_
      (refine c_dec rfl (fun hc25 => ?_) (fun hc25 => ?_) <;> try (first | exact absurd rfl hc25 | contradiction | exact Bool.noConfusion (show false = true from hc25.symm.trans (by assumption)) | exact Bool.noConfusion (show true = false from hc25.symm.trans (by assumption)) | (exfalso; omega) | (exfalso; simp only [*, Bool.not_true, Bool.not_false, reduceCtorEq] at hc25; done)))
      refine c_seq ?_
      refine c_region ?_
      refine w_pure (y_assign rfl) rfl ?_
      refine w_nil ?_
      refine x_next ?_
      refine c_ret ?_
      refine x_block_ret ?_
      refine x_then_ret ?_
      refine x_then_ret ?_
      refine x_block_ret ?_
      refine x_then_ret ?_
      rotate_left
      refine c_skip ?_
      refine x_block_norm ?_
      refine x_next ?_
      refine c_region ?_
      refine w_pure (y_move rfl) rfl ?_
      refine w_pure (y_add rfl rfl) rfl ?_
      refine w_pure (y_assign rfl) rfl ?_
      refine w_nil ?_
      rotate_left
      refine c_exit ?_
      refine x_then_exit ?_
      refine x_then_exit ?_
      refine x_block_hit ?_
      refine x_next ?_
      refine c_seq ?_
      refine c_region ?_
      refine w_pure (y_assign rfl) rfl ?_
      refine w_nil ?_
      refine x_next ?_
      refine c_ret ?_
      rotate_left
    · refine x_retv [_] rfl ⟨rfl, trivial⟩ ⟨?_, by (repeat (first | exact Chg.refl _ _ _ | assumption | refine Chg.next ?_ (by assumption) (by omega)))⟩
      have : ¬ xs = ys := fun e => hc25 (by rw [e])
      simp [ofResults, this]
    · refine x_again (i + 1) ⟨rfl, rfl, rfl, trivial⟩ ⟨by (repeat (first | exact Chg.refl _ _ _ | assumption | refine Chg.next ?_ (by assumption) (by omega))), by omega, by omega, fun j hj => ?_⟩ (by omega)
      by_cases e : j = i.toNat
      · subst e; exact Decidable.not_not.1 hc25
      · exact hall j (by omega)
    · refine x_retv [_] rfl ⟨rfl, trivial⟩ ⟨?_, by (repeat (first | exact Chg.refl _ _ _ | assumption | refine Chg.next ?_ (by assumption) (by omega)))⟩
      have : xs = ys := list_ext hl fun j hj => hall j (by omega)
      simp [ofResults, this]
  · refine ret_enter Try.func36 rfl Try.ntmps36 rfl ?_
    focus
      have ht_h := h.top
      have ht_h' := h'.top
      have hz_hx1 := hx1.size
      replace h := h.ext hx1
      replace h' := h'.ext hx1
      refine c_seq ?_
      refine c_region ?_
      refine w_pure (y_assign rfl) rfl ?_
      refine w_nil ?_
      refine x_next ?_
      refine c_seq ?_
      refine c_seq ?_
      refine c_region ?_
      refine w_pure (y_move rfl) rfl ?_
      refine w_pure (y_len rfl) rfl ?_
      refine w_pure (y_move rfl) rfl ?_
      refine w_pure (y_len rfl) rfl ?_
      refine w_pure (y_ne rfl rfl) rfl ?_
      refine w_nil ?_
      refine x_next ?_
      (refine c_dec rfl (fun hc10 => ?_) (fun hc10 => ?_) <;> try (first | exact absurd rfl hc10 | contradiction | exact Bool.noConfusion (show false = true from hc10.symm.trans (by assumption)) | exact Bool.noConfusion (show true = false from hc10.symm.trans (by assumption)) | (exfalso; omega) | (exfalso; simp only [*, Bool.not_true, Bool.not_false, reduceCtorEq] at hc10; done)))
      refine c_seq ?_
      refine c_region ?_
      refine w_pure (y_assign rfl) rfl ?_
      refine w_nil ?_
      refine x_next ?_
      refine c_ret ?_
      refine x_then_ret ?_
      rotate_left
    refine x_retv [_] rfl ⟨rfl, trivial⟩ ⟨?_, by (repeat (first | exact Chg.refl _ _ _ | assumption | refine Chg.next ?_ (by assumption) (by omega)))⟩
    have : ¬ xs = ys := fun e => hl (by rw [e])
    simp [ofResults, this]
theorem A2Board_c (h : SL w lo hi v p := by repeat (first | assumption | exact Go.Gw.Own.sl (by assumption) | exact Go.Gw.Box.at (by assumption) | exact Go.Gw.SLL.el (by first | assumption | exact Go.Gw.OwnD.sll (by assumption)) _ (by omega) | exact Go.Gw.SLL.at (by first | assumption | exact Go.Gw.OwnD.sll (by assumption)) (by omega) | exact Go.Gw.OwnD.sll (by assumption) | (apply Go.Gw.SL.chg; case hx => assumption) | (apply Go.Gw.Own.chg; case hx => assumption) | (apply Go.Gw.Box.chg; case hx => assumption) | (apply Go.Gw.At.chg; case hx => assumption) | exact .inl (Nat.zero_le _) | exact .inr (Nat.zero_le _) | (show _ ∨ _; omega))) : Ret Try.prog 29 [v] w fun u w' => ∃ d, ∃ e n j : Int, ∃ ws, u = .agg #[.int .i64 e, .int .i64 n, .int .i64 j, d] ∧ Own w' 76 w.heap.size d ws ∧ okB e n j ws = true ∧ (1 ≤ e ∧ e ≤ 4 ∧ 1 ≤ n ∧ n ≤ 4 ∧ 0 ≤ j ∧ j ≤ 2) ∧ ws.length ≤ 8 ∧ Ext w w' := by
  have E : Since 0 0 w w := Since.refl 0 0 w
  have htop := h.top
  refine ret_enter Try.func29 rfl Try.ntmps29 rfl ?_
  focus
    have ht_h := h.top
    refine c_seq ?_
    refine c_region ?_
    refine w_alloc (k := fun b2 w2 hb2 hx2 hl2 hs2 => ?_)
    have hz_hx2 := hx2.size
    replace h := h.ext hx2
    replace E := E.trans hx2
    refine w_nil ?_
    refine x_next ?_
    refine c_seq ?_
    refine c_region ?_
    refine w_pure (y_move rfl) rfl ?_
    (refine w_call rfl rfl rfl (srcFrom_c) rfl ?_; rintro _ w4 ⟨c4, ⟨rfl, ⟨hp1_4, ⟨hp2_4, hx4⟩⟩⟩⟩)
    have hz_hx4 := hx4.size
    replace hb2 := hb2.ext hx4
    replace h := h.ext hx4
    replace E := E.trans hx4
    (refine w_call rfl rfl rfl (l12Draw_c) rfl ?_; rintro _ w5 ⟨d5, ⟨e5, ⟨n5, ⟨j5, ⟨ws5, ⟨rfl, ⟨hp1_5, ⟨hp2_5, ⟨⟨hp3_5, ⟨hp4_5, ⟨hp5_5, ⟨hp6_5, ⟨hp7_5, hp8_5⟩⟩⟩⟩⟩, ⟨hp9_5, ⟨hp10_5, hx5⟩⟩⟩⟩⟩⟩⟩⟩⟩⟩⟩)
    have hl_hp1_5 := hp1_5.lt
    have hz_hx5 := hx5.size
    replace hb2 := hb2.chg hx5 (by omega)
    replace h := h.chg hx5 (by omega)
    replace E := E.next hx5 (by omega)
    refine w_store_boxs rfl rfl (next := fun ws11 hbs11 hxs11 hss11 => ?_)
    (replace hb2 := hbs11; clear hbs11)
    have hz_hxs11 := hxs11.size
    replace hp1_5 := hp1_5.chg hxs11 (by omega)
    replace hp10_5 := hp10_5.chg hxs11 (by omega)
    replace h := h.chg hxs11 (by omega)
    replace E := E.next hxs11 (by omega)
    refine w_nil ?_
    refine x_next ?_
    refine c_ret ?_
    rotate_left
  exact x_retv [_] rfl ⟨⟨_, rfl, run_load_str (Box.at (by assumption)) (by rfl)⟩, trivial⟩ ⟨d5, e5, n5, j5, ws5, rfl, Own.base (by assumption) (by omega), hp2_5, by omega, hp9_5, E.go⟩
end
end Go.Proofs.Ythigkbkaeopipaa

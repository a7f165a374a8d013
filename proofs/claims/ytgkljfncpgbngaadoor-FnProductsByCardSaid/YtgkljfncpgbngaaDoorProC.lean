/- Contracts: what the law on products draws. -/
import Derived.Test.YtgkljfncpgbngaaDoorProB
import Derived.Test.YtgkljfncpgbngaaDoorNumE
import Derived.Test.YtgkljfncpgbngaaDoorNam
namespace Go.Proofs.YtgkljfncpgbngaaDoor
open Go Go.Gw
set_option linter.unusedVariables false
set_option linter.unusedSimpArgs false
section
variable {w : World} {lo hi : Nat} {v : Value} {p : List UInt8}
theorem DrawProductBy_c (h : SL w lo hi v p := by repeat (first | assumption | exact Go.Gw.Own.sl (by assumption) | exact Go.Gw.Box.at (by assumption) | exact Go.Gw.SLL.el (by first | assumption | exact Go.Gw.OwnD.sll (by assumption)) _ (by omega) | exact Go.Gw.SLL.at (by first | assumption | exact Go.Gw.OwnD.sll (by assumption)) (by omega) | exact Go.Gw.OwnD.sll (by assumption) | (apply Go.Gw.SL.chg; case hx => assumption) | (apply Go.Gw.Own.chg; case hx => assumption) | (apply Go.Gw.Box.chg; case hx => assumption) | (apply Go.Gw.At.chg; case hx => assumption) | exact .inl (Nat.zero_le _) | exact .inr (Nat.zero_le _) | (show _ ∨ _; omega))) : Ret Tryd.prog 6 [v] w fun u w' => ∃ a e, u = .tuple #[.int .i64 a, .int .i64 e] ∧ (-9223372036854775808 ≤ a ∧ a ≤ 1000000000000) ∧ (-9223372036854775808 ≤ e ∧ e ≤ 1000000) ∧ Ext w w' := by
  have htop := h.top
  have E : Since 0 0 w w := Since.refl 0 0 w
  refine ret_enter Tryd.func6 rfl Tryd.ntmps6 rfl ?_
  focus
    have ht_h := h.top
    refine c_seq ?_
    refine c_region ?_
    refine w_pure (y_assign rfl) rfl ?_
    refine w_pure (y_assign rfl) rfl ?_
    refine w_nil ?_
    refine x_next ?_
    refine c_seq ?_
    refine c_region ?_
    refine w_pure (y_move rfl) rfl ?_
    (refine w_call rfl rfl rfl (srcFromP_z) rfl ?_; rintro _ w7 ⟨c7, ⟨rfl, ⟨hp1_7, ⟨hp2_7, ⟨hp3_7, hx7⟩⟩⟩⟩⟩)
    have hz_hx7 := hx7.size
    replace h := h.ext hx7
    replace E := E.trans hx7
    refine w_pure (y_assign rfl) rfl ?_
    refine w_nil ?_
    refine x_next ?_
    refine c_seq ?_
    refine c_region ?_
    refine w_pure (y_move rfl) rfl ?_
    (refine w_call rfl rfl rfl (l14DrawFactor_c) rfl ?_; rintro _ w9 ⟨n9, ⟨rfl, ⟨⟨hp1_9, hp2_9⟩, ⟨hp3_9, hx9⟩⟩⟩⟩)
    have hz_hx9 := hx9.size
    replace h := h.chg hx9 (by omega)
    replace E := E.next hx9 (by omega)
    refine w_pure (y_assign rfl) rfl ?_
    refine w_nil ?_
    refine x_next ?_
    refine c_seq ?_
    refine c_region ?_
    refine w_pure (y_move rfl) rfl ?_
    refine w_pure (y_move rfl) rfl ?_
    (refine w_call rfl rfl rfl (l14DrawFactor_c) rfl ?_; rintro _ w12 ⟨n12, ⟨rfl, ⟨⟨hp1_12, hp2_12⟩, ⟨hp3_12, hx12⟩⟩⟩⟩)
    have hz_hx12 := hx12.size
    replace h := h.chg hx12 (by omega)
    replace E := E.next hx12 (by omega)
    refine w_pure (y_assign rfl) rfl ?_
    refine w_pure (y_assign rfl) rfl ?_
    refine w_nil ?_
    refine x_next ?_
    refine c_ret ?_
    rotate_left
  all_goals exact x_retv [_, _] rfl ⟨rfl, rfl, trivial⟩ ⟨_, _, rfl, by omega, by omega, E.go⟩
theorem DrawQuotientBy_c (h : SL w lo hi v p := by repeat (first | assumption | exact Go.Gw.Own.sl (by assumption) | exact Go.Gw.Box.at (by assumption) | exact Go.Gw.SLL.el (by first | assumption | exact Go.Gw.OwnD.sll (by assumption)) _ (by omega) | exact Go.Gw.SLL.at (by first | assumption | exact Go.Gw.OwnD.sll (by assumption)) (by omega) | exact Go.Gw.OwnD.sll (by assumption) | (apply Go.Gw.SL.chg; case hx => assumption) | (apply Go.Gw.Own.chg; case hx => assumption) | (apply Go.Gw.Box.chg; case hx => assumption) | (apply Go.Gw.At.chg; case hx => assumption) | exact .inl (Nat.zero_le _) | exact .inr (Nat.zero_le _) | (show _ ∨ _; omega))) : Ret Tryd.prog 12 [v] w fun u w' => ∃ a e, u = .tuple #[.int .i64 a, .int .i64 e] ∧ (-9223372036854775808 ≤ a ∧ a ≤ 1000000000000) ∧ (-9223372036854775808 ≤ e ∧ e ≤ 1000000) ∧ Ext w w' := by
  have htop := h.top
  have E : Since 0 0 w w := Since.refl 0 0 w
  refine ret_enter Tryd.func12 rfl Tryd.ntmps12 rfl ?_
  focus
    have ht_h := h.top
    refine c_seq ?_
    refine c_region ?_
    refine w_pure (y_assign rfl) rfl ?_
    refine w_pure (y_assign rfl) rfl ?_
    refine w_nil ?_
    refine x_next ?_
    refine c_seq ?_
    refine c_region ?_
    refine w_pure (y_move rfl) rfl ?_
    (refine w_call rfl rfl rfl (srcFromP_z) rfl ?_; rintro _ w7 ⟨c7, ⟨rfl, ⟨hp1_7, ⟨hp2_7, ⟨hp3_7, hx7⟩⟩⟩⟩⟩)
    have hz_hx7 := hx7.size
    replace h := h.ext hx7
    replace E := E.trans hx7
    refine w_pure (y_assign rfl) rfl ?_
    refine w_nil ?_
    refine x_next ?_
    refine c_seq ?_
    refine c_region ?_
    refine w_pure (y_move rfl) rfl ?_
    (refine w_call rfl rfl rfl (l14DrawNumber_c) rfl ?_; rintro _ w9 ⟨n9, ⟨rfl, ⟨⟨hp1_9, hp2_9⟩, ⟨hp3_9, hx9⟩⟩⟩⟩)
    have hz_hx9 := hx9.size
    replace h := h.chg hx9 (by omega)
    replace E := E.next hx9 (by omega)
    refine w_pure (y_assign rfl) rfl ?_
    refine w_nil ?_
    refine x_next ?_
    refine c_seq ?_
    refine c_region ?_
    refine w_pure (y_move rfl) rfl ?_
    refine w_pure (y_move rfl) rfl ?_
    (refine w_call rfl rfl rfl (l14DrawFactor_c) rfl ?_; rintro _ w12 ⟨n12, ⟨rfl, ⟨⟨hp1_12, hp2_12⟩, ⟨hp3_12, hx12⟩⟩⟩⟩)
    have hz_hx12 := hx12.size
    replace h := h.chg hx12 (by omega)
    replace E := E.next hx12 (by omega)
    refine w_pure (y_assign rfl) rfl ?_
    refine w_pure (y_assign rfl) rfl ?_
    refine w_nil ?_
    refine x_next ?_
    refine c_ret ?_
    rotate_left
  all_goals exact x_retv [_, _] rfl ⟨rfl, rfl, trivial⟩ ⟨_, _, rfl, by omega, by omega, E.go⟩
theorem DrawTurnsFor_c (h : SL w lo hi v p := by repeat (first | assumption | exact Go.Gw.Own.sl (by assumption) | exact Go.Gw.Box.at (by assumption) | exact Go.Gw.SLL.el (by first | assumption | exact Go.Gw.OwnD.sll (by assumption)) _ (by omega) | exact Go.Gw.SLL.at (by first | assumption | exact Go.Gw.OwnD.sll (by assumption)) (by omega) | exact Go.Gw.OwnD.sll (by assumption) | (apply Go.Gw.SL.chg; case hx => assumption) | (apply Go.Gw.Own.chg; case hx => assumption) | (apply Go.Gw.Box.chg; case hx => assumption) | (apply Go.Gw.At.chg; case hx => assumption) | exact .inl (Nat.zero_le _) | exact .inr (Nat.zero_le _) | (show _ ∨ _; omega))) : Ret Tryd.prog 15 [v] w fun u w' => ∃ a, u = .int .i64 a ∧ (-9223372036854775808 ≤ a ∧ a ≤ 1000000) ∧ Ext w w' := by
  have htop := h.top
  have E : Since 0 0 w w := Since.refl 0 0 w
  refine ret_enter Tryd.func15 rfl Tryd.ntmps15 rfl ?_
  focus
    have ht_h := h.top
    refine c_seq ?_
    refine c_region ?_
    refine w_pure (y_assign rfl) rfl ?_
    refine w_nil ?_
    refine x_next ?_
    refine c_seq ?_
    refine c_region ?_
    refine w_pure (y_move rfl) rfl ?_
    (refine w_call rfl rfl rfl (srcFromP_z) rfl ?_; rintro _ w4 ⟨c4, ⟨rfl, ⟨hp1_4, ⟨hp2_4, ⟨hp3_4, hx4⟩⟩⟩⟩⟩)
    have hz_hx4 := hx4.size
    replace h := h.ext hx4
    replace E := E.trans hx4
    (refine w_call rfl rfl rfl (l14DrawFactor_c) rfl ?_; rintro _ w5 ⟨n5, ⟨rfl, ⟨⟨hp1_5, hp2_5⟩, ⟨hp3_5, hx5⟩⟩⟩⟩)
    have hz_hx5 := hx5.size
    replace h := h.chg hx5 (by omega)
    replace E := E.next hx5 (by omega)
    refine w_pure (y_assign rfl) rfl ?_
    refine w_nil ?_
    refine x_next ?_
    refine c_ret ?_
    rotate_left
  exact x_retv [_] rfl ⟨rfl, trivial⟩ ⟨_, rfl, by omega, E.go⟩
theorem DrawComponentsOf_c (h : SL w lo hi v p := by repeat (first | assumption | exact Go.Gw.Own.sl (by assumption) | exact Go.Gw.Box.at (by assumption) | exact Go.Gw.SLL.el (by first | assumption | exact Go.Gw.OwnD.sll (by assumption)) _ (by omega) | exact Go.Gw.SLL.at (by first | assumption | exact Go.Gw.OwnD.sll (by assumption)) (by omega) | exact Go.Gw.OwnD.sll (by assumption) | (apply Go.Gw.SL.chg; case hx => assumption) | (apply Go.Gw.Own.chg; case hx => assumption) | (apply Go.Gw.Box.chg; case hx => assumption) | (apply Go.Gw.At.chg; case hx => assumption) | exact .inl (Nat.zero_le _) | exact .inr (Nat.zero_le _) | (show _ ∨ _; omega))) : Ret Tryd.prog 9 [v] w fun u w' => ∃ a e, u = .tuple #[.int .i64 a, .int .i64 e] ∧ (-9223372036854775808 ≤ a ∧ a ≤ 1000000000000) ∧ (-1 ≤ e ∧ e ≤ 13) ∧ Ext w w' := by
  have htop := h.top
  have E : Since 0 0 w w := Since.refl 0 0 w
  refine ret_enter Tryd.func9 rfl Tryd.ntmps9 rfl ?_
  focus
    have ht_h := h.top
    refine c_seq ?_
    refine c_region ?_
    refine w_pure (y_assign rfl) rfl ?_
    refine w_pure (y_assign rfl) rfl ?_
    refine w_nil ?_
    refine x_next ?_
    refine c_seq ?_
    refine c_region ?_
    refine w_pure (y_move rfl) rfl ?_
    (refine w_call rfl rfl rfl (srcFromP_z) rfl ?_; rintro _ w7 ⟨c7, ⟨rfl, ⟨hp1_7, ⟨hp2_7, ⟨hp3_7, hx7⟩⟩⟩⟩⟩)
    have hz_hx7 := hx7.size
    replace h := h.ext hx7
    replace E := E.trans hx7
    refine w_pure (y_assign rfl) rfl ?_
    refine w_nil ?_
    refine x_next ?_
    refine c_seq ?_
    refine c_region ?_
    refine w_pure (y_move rfl) rfl ?_
    (refine w_call rfl rfl rfl (l14DrawFactor_c) rfl ?_; rintro _ w9 ⟨n9, ⟨rfl, ⟨⟨hp1_9, hp2_9⟩, ⟨hp3_9, hx9⟩⟩⟩⟩)
    have hz_hx9 := hx9.size
    replace h := h.chg hx9 (by omega)
    replace E := E.next hx9 (by omega)
    refine w_pure (y_assign rfl) rfl ?_
    refine w_nil ?_
    refine x_next ?_
    refine c_seq ?_
    refine c_seq ?_
    refine c_region ?_
    refine w_pure (y_move rfl) rfl ?_
    refine w_pur rfl rfl rfl (l14Factor_c _) rfl ?_
    refine w_pure (y_move rfl) rfl ?_
    (refine w_part_dec rfl rfl (fun hc13 => ?_) (fun hc13 => ?_) <;> try (first | exact absurd rfl hc13 | contradiction | exact Bool.noConfusion (show false = true from hc13.symm.trans (by assumption)) | exact Bool.noConfusion (show true = false from hc13.symm.trans (by assumption)) | (exfalso; omega) | (exfalso; simp only [*, Bool.not_true, Bool.not_false, reduceCtorEq] at hc13; done)))
    refine w_yes rfl rfl ?_
    refine w_pure (y_move rfl) rfl ?_
    refine w_yes rfl rfl ?_
    (refine w_call rfl rfl rfl (srcOne_c _) rfl ?_; rintro _ w14 ⟨q14, ⟨rfl, ⟨hp1_14, hx14⟩⟩⟩)
    have hz_hx14 := hx14.size
    replace h := h.chg hx14 (by omega)
    replace E := E.next hx14 (by omega)
    refine w_yes rfl rfl ?_
    refine w_pure (y_not rfl) rfl ?_
    refine w_pure (y_pick_t rfl rfl) rfl ?_
    refine w_nil ?_
    refine x_next ?_
    (refine c_not rfl (fun hc16 => ?_) (fun hc16 => ?_) <;> try (first | exact absurd rfl hc16 | contradiction | exact Bool.noConfusion (show false = true from hc16.symm.trans (by assumption)) | exact Bool.noConfusion (show true = false from hc16.symm.trans (by assumption)) | (exfalso; omega) | (exfalso; simp only [*, Bool.not_true, Bool.not_false, reduceCtorEq] at hc16; done)))
    refine c_region ?_
    refine w_pure (y_move rfl) rfl ?_
    refine w_pur rfl rfl rfl (l14Size_c _ (by omega)) rfl ?_
    refine w_pure (y_assign rfl) rfl ?_
    refine w_nil ?_
    refine x_next ?_
    refine c_seq ?_
    refine c_region ?_
    refine w_pure (y_move rfl) rfl ?_
    refine w_pure (y_move rfl) rfl ?_
    (refine w_call rfl rfl rfl (srcPick_z _) rfl ?_; rintro _ w21 ⟨x21, ⟨rfl, ⟨⟨hp1_21, hp2_21⟩, ⟨hp3_21, hx21⟩⟩⟩⟩)
    have hz_hx21 := hx21.size
    replace h := h.chg hx21 (by omega)
    replace E := E.next hx21 (by omega)
    refine w_pure (y_sub rfl rfl) rfl ?_
    refine w_pure (y_assign rfl) rfl ?_
    refine w_pure (y_assign rfl) rfl ?_
    refine w_nil ?_
    refine x_next ?_
    refine c_ret ?_
    rotate_left
    refine c_skip ?_
    refine x_next ?_
    refine c_seq ?_
    refine c_region ?_
    refine w_pure (y_move rfl) rfl ?_
    refine w_pure (y_move rfl) rfl ?_
    (refine w_call rfl rfl rfl (srcPick_z _) rfl ?_; rintro _ w21 ⟨x21, ⟨rfl, ⟨⟨hp1_21, hp2_21⟩, ⟨hp3_21, hx21⟩⟩⟩⟩)
    have hz_hx21 := hx21.size
    replace h := h.chg hx21 (by omega)
    replace E := E.next hx21 (by omega)
    refine w_pure (y_sub rfl rfl) rfl ?_
    refine w_pure (y_assign rfl) rfl ?_
    refine w_pure (y_assign rfl) rfl ?_
    refine w_nil ?_
    refine x_next ?_
    refine c_ret ?_
    rotate_left
    refine w_no rfl rfl rfl rfl ?_
    refine w_no rfl rfl rfl rfl ?_
    refine w_no rfl rfl rfl rfl ?_
    refine w_pure (y_pick_f rfl rfl) rfl ?_
    refine w_nil ?_
    refine x_next ?_
    refine c_false rfl ?_
    refine c_skip ?_
    refine x_next ?_
    refine c_seq ?_
    refine c_region ?_
    refine w_pure (y_move rfl) rfl ?_
    refine w_pure (y_move rfl) rfl ?_
    (refine w_call rfl rfl rfl (srcPick_z _) rfl ?_; rintro _ w21 ⟨x21, ⟨rfl, ⟨⟨hp1_21, hp2_21⟩, ⟨hp3_21, hx21⟩⟩⟩⟩)
    have hz_hx21 := hx21.size
    replace h := h.chg hx21 (by omega)
    replace E := E.next hx21 (by omega)
    refine w_pure (y_sub rfl rfl) rfl ?_
    refine w_pure (y_assign rfl) rfl ?_
    refine w_pure (y_assign rfl) rfl ?_
    refine w_nil ?_
    refine x_next ?_
    refine c_ret ?_
    rotate_left
  all_goals try simp only [List.mem_cons, List.not_mem_nil, or_false] at hp1_15
  all_goals exact x_retv [_, _] rfl ⟨rfl, rfl, trivial⟩ ⟨_, _, rfl, by omega, by omega, E.go⟩
theorem DrawHalfAdjust_c (h : SL w lo hi v p := by repeat (first | assumption | exact Go.Gw.Own.sl (by assumption) | exact Go.Gw.Box.at (by assumption) | exact Go.Gw.SLL.el (by first | assumption | exact Go.Gw.OwnD.sll (by assumption)) _ (by omega) | exact Go.Gw.SLL.at (by first | assumption | exact Go.Gw.OwnD.sll (by assumption)) (by omega) | exact Go.Gw.OwnD.sll (by assumption) | (apply Go.Gw.SL.chg; case hx => assumption) | (apply Go.Gw.Own.chg; case hx => assumption) | (apply Go.Gw.Box.chg; case hx => assumption) | (apply Go.Gw.At.chg; case hx => assumption) | exact .inl (Nat.zero_le _) | exact .inr (Nat.zero_le _) | (show _ ∨ _; omega))) : Ret Tryd.prog 18 [v] w fun u w' => ∃ a e, u = .tuple #[.int .i64 a, .int .i64 e] ∧ (-9223372036854775808 ≤ a ∧ a ≤ 1000000000000) ∧ (-1 ≤ e ∧ e ≤ 13) ∧ Ext w w' := by
  have htop := h.top
  have E : Since 0 0 w w := Since.refl 0 0 w
  refine ret_enter Tryd.func18 rfl Tryd.ntmps18 rfl ?_
  focus
    have ht_h := h.top
    refine c_seq ?_
    refine c_region ?_
    refine w_pure (y_assign rfl) rfl ?_
    refine w_pure (y_assign rfl) rfl ?_
    refine w_nil ?_
    refine x_next ?_
    refine c_seq ?_
    refine c_region ?_
    refine w_pure (y_move rfl) rfl ?_
    (refine w_call rfl rfl rfl (srcFromP_z) rfl ?_; rintro _ w7 ⟨c7, ⟨rfl, ⟨hp1_7, ⟨hp2_7, ⟨hp3_7, hx7⟩⟩⟩⟩⟩)
    have hz_hx7 := hx7.size
    replace h := h.ext hx7
    replace E := E.trans hx7
    refine w_pure (y_assign rfl) rfl ?_
    refine w_nil ?_
    refine x_next ?_
    refine c_seq ?_
    refine c_region ?_
    refine w_pure (y_move rfl) rfl ?_
    (refine w_call rfl rfl rfl (l14DrawNumber_c) rfl ?_; rintro _ w9 ⟨n9, ⟨rfl, ⟨⟨hp1_9, hp2_9⟩, ⟨hp3_9, hx9⟩⟩⟩⟩)
    have hz_hx9 := hx9.size
    replace h := h.chg hx9 (by omega)
    replace E := E.next hx9 (by omega)
    refine w_pure (y_assign rfl) rfl ?_
    refine w_nil ?_
    refine x_next ?_
    refine c_seq ?_
    refine c_seq ?_
    refine c_region ?_
    refine w_pure (y_move rfl) rfl ?_
    (refine w_call rfl rfl rfl (srcOne_c _) rfl ?_; rintro _ w11 ⟨q11, ⟨rfl, ⟨hp1_11, hx11⟩⟩⟩)
    have hz_hx11 := hx11.size
    replace h := h.chg hx11 (by omega)
    replace E := E.next hx11 (by omega)
    refine w_nil ?_
    refine x_next ?_
    (refine c_if rfl (fun hc11 => ?_) (fun hc11 => ?_) <;> try (first | exact absurd rfl hc11 | contradiction | exact Bool.noConfusion (show false = true from hc11.symm.trans (by assumption)) | exact Bool.noConfusion (show true = false from hc11.symm.trans (by assumption)) | (exfalso; omega) | (exfalso; simp only [*, Bool.not_true, Bool.not_false, reduceCtorEq] at hc11; done)))
    refine c_seq ?_
    refine c_region ?_
    refine w_pure (y_move rfl) rfl ?_
    refine w_pure (y_move rfl) rfl ?_
    refine w_lit (α := Int) rfl rfl rfl rfl rfl rfl rfl rfl (fun v14 w14 ho14 hx14 hl14 hh14 hs14 => ?_)
    have hl_ho14 := ho14.lt
    have hz_hx14 := hx14.size
    replace hp1_11 := hp1_11.ext hx14
    replace h := h.ext hx14
    replace E := E.trans hx14
    (refine w_call rfl rfl rfl (srcAmongP_z) rfl ?_; rintro _ w15 ⟨x15, ⟨rfl, ⟨hp1_15, ⟨hp2_15, hx15⟩⟩⟩⟩)
    have hz_hx15 := hx15.size
    replace ho14 := ho14.chg hx15 (by omega)
    replace h := h.chg hx15 (by omega)
    replace E := E.next hx15 (by omega)
    refine w_pure (y_assign rfl) rfl ?_
    refine w_pure (y_assign rfl) rfl ?_
    refine w_nil ?_
    refine x_next ?_
    refine c_ret ?_
    refine x_then_ret ?_
    rotate_left
    refine c_skip ?_
    refine x_next ?_
    refine c_seq ?_
    refine c_region ?_
    refine w_pure (y_move rfl) rfl ?_
    refine w_pure (y_move rfl) rfl ?_
    (refine w_call rfl rfl rfl (srcPick_z _) rfl ?_; rintro _ w18 ⟨x18, ⟨rfl, ⟨⟨hp1_18, hp2_18⟩, ⟨hp3_18, hx18⟩⟩⟩⟩)
    have hz_hx18 := hx18.size
    replace h := h.chg hx18 (by omega)
    replace E := E.next hx18 (by omega)
    refine w_pure (y_assign rfl) rfl ?_
    refine w_pure (y_assign rfl) rfl ?_
    refine w_nil ?_
    refine x_next ?_
    refine c_ret ?_
    rotate_left
  all_goals try simp only [List.mem_cons, List.not_mem_nil, or_false] at hp1_15
  all_goals exact x_retv [_, _] rfl ⟨rfl, rfl, trivial⟩ ⟨_, _, rfl, by omega, by omega, E.go⟩
theorem DrawCalculate_c (h : SL w lo hi v p := by repeat (first | assumption | exact Go.Gw.Own.sl (by assumption) | exact Go.Gw.Box.at (by assumption) | exact Go.Gw.SLL.el (by first | assumption | exact Go.Gw.OwnD.sll (by assumption)) _ (by omega) | exact Go.Gw.SLL.at (by first | assumption | exact Go.Gw.OwnD.sll (by assumption)) (by omega) | exact Go.Gw.OwnD.sll (by assumption) | (apply Go.Gw.SL.chg; case hx => assumption) | (apply Go.Gw.Own.chg; case hx => assumption) | (apply Go.Gw.Box.chg; case hx => assumption) | (apply Go.Gw.At.chg; case hx => assumption) | exact .inl (Nat.zero_le _) | exact .inr (Nat.zero_le _) | (show _ ∨ _; omega))) : Ret Tryd.prog 21 [v] w fun u w' => ∃ k a e, u = .tuple #[.int .i64 k, .int .i64 a, .int .i64 e] ∧ (-1 ≤ k ∧ k ≤ 5) ∧ (-9223372036854775808 ≤ a ∧ a ≤ 1000000000000) ∧ (-9223372036854775808 ≤ e ∧ e ≤ 1000000) ∧ Ext w w' := by
  have htop := h.top
  have E : Since 0 0 w w := Since.refl 0 0 w
  refine ret_enter Tryd.func21 rfl Tryd.ntmps21 rfl ?_
  focus
    have ht_h := h.top
    refine c_seq ?_
    refine c_region ?_
    refine w_pure (y_assign rfl) rfl ?_
    refine w_pure (y_assign rfl) rfl ?_
    refine w_pure (y_assign rfl) rfl ?_
    refine w_nil ?_
    refine x_next ?_
    refine c_seq ?_
    refine c_region ?_
    refine w_pure (y_move rfl) rfl ?_
    (refine w_call rfl rfl rfl (srcFromP_z) rfl ?_; rintro _ w9 ⟨c9, ⟨rfl, ⟨hp1_9, ⟨hp2_9, ⟨hp3_9, hx9⟩⟩⟩⟩⟩)
    have hz_hx9 := hx9.size
    replace h := h.ext hx9
    replace E := E.trans hx9
    refine w_pure (y_assign rfl) rfl ?_
    refine w_nil ?_
    refine x_next ?_
    refine c_seq ?_
    refine c_region ?_
    refine w_pure (y_move rfl) rfl ?_
    (refine w_call rfl rfl rfl (l14DrawKind_c) rfl ?_; rintro _ w11 ⟨n11, ⟨rfl, ⟨⟨hp1_11, hp2_11⟩, ⟨hp3_11, hx11⟩⟩⟩⟩)
    have hz_hx11 := hx11.size
    replace h := h.chg hx11 (by omega)
    replace E := E.next hx11 (by omega)
    refine w_pure (y_assign rfl) rfl ?_
    refine w_nil ?_
    refine x_next ?_
    refine c_seq ?_
    refine c_region ?_
    refine w_pure (y_move rfl) rfl ?_
    (refine w_call rfl rfl rfl (l14DrawNumber_c) rfl ?_; rintro _ w13 ⟨n13, ⟨rfl, ⟨⟨hp1_13, hp2_13⟩, ⟨hp3_13, hx13⟩⟩⟩⟩)
    have hz_hx13 := hx13.size
    replace h := h.chg hx13 (by omega)
    replace E := E.next hx13 (by omega)
    refine w_pure (y_assign rfl) rfl ?_
    refine w_nil ?_
    refine x_next ?_
    refine c_seq ?_
    refine c_seq ?_
    refine c_region ?_
    refine w_pure (y_move rfl) rfl ?_
    (refine w_call rfl rfl rfl (srcOne_c _) rfl ?_; rintro _ w15 ⟨q15, ⟨rfl, ⟨hp1_15, hx15⟩⟩⟩)
    have hz_hx15 := hx15.size
    replace h := h.chg hx15 (by omega)
    replace E := E.next hx15 (by omega)
    refine w_nil ?_
    refine x_next ?_
    (refine c_if rfl (fun hc15 => ?_) (fun hc15 => ?_) <;> try (first | exact absurd rfl hc15 | contradiction | exact Bool.noConfusion (show false = true from hc15.symm.trans (by assumption)) | exact Bool.noConfusion (show true = false from hc15.symm.trans (by assumption)) | (exfalso; omega) | (exfalso; simp only [*, Bool.not_true, Bool.not_false, reduceCtorEq] at hc15; done)))
    refine c_region ?_
    refine w_pure (y_move rfl) rfl ?_
    (refine w_call rfl rfl rfl (l14DrawFactor_c) rfl ?_; rintro _ w17 ⟨n17, ⟨rfl, ⟨⟨hp1_17, hp2_17⟩, ⟨hp3_17, hx17⟩⟩⟩⟩)
    have hz_hx17 := hx17.size
    replace h := h.chg hx17 (by omega)
    replace E := E.next hx17 (by omega)
    refine w_pure (y_assign rfl) rfl ?_
    refine w_nil ?_
    refine x_next ?_
    refine c_seq ?_
    refine c_region ?_
    refine w_pure (y_move rfl) rfl ?_
    refine w_pure (y_move rfl) rfl ?_
    refine w_pure (y_move rfl) rfl ?_
    (refine w_call rfl rfl rfl (l14DrawFactor_c) rfl ?_; rintro _ w21 ⟨n21, ⟨rfl, ⟨⟨hp1_21, hp2_21⟩, ⟨hp3_21, hx21⟩⟩⟩⟩)
    have hz_hx21 := hx21.size
    replace h := h.chg hx21 (by omega)
    replace E := E.next hx21 (by omega)
    refine w_pure (y_assign rfl) rfl ?_
    refine w_pure (y_assign rfl) rfl ?_
    refine w_pure (y_assign rfl) rfl ?_
    refine w_nil ?_
    refine x_next ?_
    refine c_ret ?_
    rotate_left
    refine c_skip ?_
    refine x_next ?_
    refine c_seq ?_
    refine c_region ?_
    refine w_pure (y_move rfl) rfl ?_
    refine w_pure (y_move rfl) rfl ?_
    refine w_pure (y_move rfl) rfl ?_
    (refine w_call rfl rfl rfl (l14DrawFactor_c) rfl ?_; rintro _ w21 ⟨n21, ⟨rfl, ⟨⟨hp1_21, hp2_21⟩, ⟨hp3_21, hx21⟩⟩⟩⟩)
    have hz_hx21 := hx21.size
    replace h := h.chg hx21 (by omega)
    replace E := E.next hx21 (by omega)
    refine w_pure (y_assign rfl) rfl ?_
    refine w_pure (y_assign rfl) rfl ?_
    refine w_pure (y_assign rfl) rfl ?_
    refine w_nil ?_
    refine x_next ?_
    refine c_ret ?_
    rotate_left
  all_goals exact x_retv [_, _, _] rfl ⟨rfl, rfl, rfl, trivial⟩ ⟨_, _, _, rfl, by omega, by omega, by omega, E.go⟩
theorem DrawCalcName_c (h : SL w lo hi v p := by repeat (first | assumption | exact Go.Gw.Own.sl (by assumption) | exact Go.Gw.Box.at (by assumption) | exact Go.Gw.SLL.el (by first | assumption | exact Go.Gw.OwnD.sll (by assumption)) _ (by omega) | exact Go.Gw.SLL.at (by first | assumption | exact Go.Gw.OwnD.sll (by assumption)) (by omega) | exact Go.Gw.OwnD.sll (by assumption) | (apply Go.Gw.SL.chg; case hx => assumption) | (apply Go.Gw.Own.chg; case hx => assumption) | (apply Go.Gw.Box.chg; case hx => assumption) | (apply Go.Gw.At.chg; case hx => assumption) | exact .inl (Nat.zero_le _) | exact .inr (Nat.zero_le _) | (show _ ∨ _; omega))) : Ret Tryd.prog 24 [v] w fun u w' => ∃ a, u = .int .i64 a ∧ (-1 ≤ a ∧ a ≤ 6) ∧ Ext w w' := by
  have htop := h.top
  have E : Since 0 0 w w := Since.refl 0 0 w
  refine ret_enter Tryd.func24 rfl Tryd.ntmps24 rfl ?_
  focus
    have ht_h := h.top
    refine c_seq ?_
    refine c_region ?_
    refine w_pure (y_assign rfl) rfl ?_
    refine w_nil ?_
    refine x_next ?_
    refine c_seq ?_
    refine c_region ?_
    refine w_pure (y_move rfl) rfl ?_
    (refine w_call rfl rfl rfl (srcFromP_z) rfl ?_; rintro _ w5 ⟨c5, ⟨rfl, ⟨hp1_5, ⟨hp2_5, ⟨hp3_5, hx5⟩⟩⟩⟩⟩)
    have hz_hx5 := hx5.size
    replace h := h.ext hx5
    replace E := E.trans hx5
    refine w_pure (y_assign rfl) rfl ?_
    refine w_nil ?_
    refine x_next ?_
    refine c_seq ?_
    refine c_region ?_
    refine w_pure (y_move rfl) rfl ?_
    (refine w_call rfl rfl rfl (srcPick_z _) rfl ?_; rintro _ w7 ⟨x7, ⟨rfl, ⟨⟨hp1_7, hp2_7⟩, ⟨hp3_7, hx7⟩⟩⟩⟩)
    have hz_hx7 := hx7.size
    replace h := h.chg hx7 (by omega)
    replace E := E.next hx7 (by omega)
    refine w_pure (y_sub rfl rfl) rfl ?_
    refine w_pure (y_assign rfl) rfl ?_
    refine w_nil ?_
    refine x_next ?_
    refine c_ret ?_
    rotate_left
  exact x_retv [_] rfl ⟨rfl, trivial⟩ ⟨_, rfl, by omega, E.go⟩
end
end Go.Proofs.YtgkljfncpgbngaaDoor

/- The walk of the law on sums of groups. -/
import Derived.Test.YthigkbkaeopipaaSmpC
namespace Go.Proofs.Ythigkbkaeopipaa
open Go Go.Gw
set_option linter.unusedVariables false
set_option linter.unusedSimpArgs false
section
variable {w : World} {lo hi lo' hi' : Nat} {v v' : Value} {p q : List UInt8}
theorem a2Long_c (h : SL w lo hi v p := by repeat (first | assumption | exact Go.Gw.Own.sl (by assumption) | exact Go.Gw.Box.at (by assumption) | exact Go.Gw.SLL.el (by first | assumption | exact Go.Gw.OwnD.sll (by assumption)) _ (by omega) | exact Go.Gw.SLL.at (by first | assumption | exact Go.Gw.OwnD.sll (by assumption)) (by omega) | exact Go.Gw.OwnD.sll (by assumption) | (apply Go.Gw.SL.chg; case hx => assumption) | (apply Go.Gw.Own.chg; case hx => assumption) | (apply Go.Gw.Box.chg; case hx => assumption) | (apply Go.Gw.At.chg; case hx => assumption) | exact .inl (Nat.zero_le _) | exact .inr (Nat.zero_le _) | (show _ ∨ _; omega))) (h' : SL w lo' hi' v' q := by repeat (first | assumption | exact Go.Gw.Own.sl (by assumption) | exact Go.Gw.Box.at (by assumption) | exact Go.Gw.SLL.el (by first | assumption | exact Go.Gw.OwnD.sll (by assumption)) _ (by omega) | exact Go.Gw.SLL.at (by first | assumption | exact Go.Gw.OwnD.sll (by assumption)) (by omega) | exact Go.Gw.OwnD.sll (by assumption) | (apply Go.Gw.SL.chg; case hx => assumption) | (apply Go.Gw.Own.chg; case hx => assumption) | (apply Go.Gw.Box.chg; case hx => assumption) | (apply Go.Gw.At.chg; case hx => assumption) | exact .inl (Nat.zero_le _) | exact .inr (Nat.zero_le _) | (show _ ∨ _; omega))) : Ret Try.prog 10 [v, v'] w fun u w' => ∃ z, u = .bool z ∧ Ext w w' := by
  have E : Since 0 0 w w := Since.refl 0 0 w
  refine ret_enter Try.func10 rfl Try.ntmps10 rfl ?_
  focus
    have ht_h := h.top
    have ht_h' := h'.top
    refine c_seq ?_
    refine c_region ?_
    refine w_pure (y_assign rfl) rfl ?_
    refine w_nil ?_
    refine x_next ?_
    refine c_seq ?_
    refine c_region ?_
    refine w_pure (y_move rfl) rfl ?_
    refine w_pure (y_len rfl) rfl ?_
    refine w_pure (y_gt rfl rfl) rfl ?_
    refine w_pure (y_move rfl) rfl ?_
    (refine w_part_dec rfl rfl (fun hc9 => ?_) (fun hc9 => ?_) <;> try (first | exact absurd rfl hc9 | contradiction | exact Bool.noConfusion (show false = true from hc9.symm.trans (by assumption)) | exact Bool.noConfusion (show true = false from hc9.symm.trans (by assumption)) | (exfalso; omega) | (exfalso; simp only [*, Bool.not_true, Bool.not_false, reduceCtorEq] at hc9; done)))
    refine w_no rfl rfl rfl rfl ?_
    refine w_no rfl rfl rfl rfl ?_
    refine w_no rfl rfl rfl rfl ?_
    refine w_pure (y_pick_t rfl rfl) rfl ?_
    refine w_pure (y_assign rfl) rfl ?_
    refine w_nil ?_
    refine x_next ?_
    refine c_ret ?_
    rotate_left
    refine w_yes rfl rfl ?_
    refine w_pure (y_move rfl) rfl ?_
    refine w_yes rfl rfl ?_
    refine w_pure (y_len rfl) rfl ?_
    refine w_yes rfl rfl ?_
    refine w_pure (y_gt rfl rfl) rfl ?_
    refine w_pure (y_pick_f rfl rfl) rfl ?_
    refine w_pure (y_assign rfl) rfl ?_
    refine w_nil ?_
    refine x_next ?_
    refine c_ret ?_
    rotate_left
  all_goals exact x_retv [_] rfl ⟨rfl, trivial⟩ ⟨_, rfl, E.go⟩
set_option maxHeartbeats 4000000 in
theorem lFnSums (w0 : World) (x0 x1 : { x : OBy // x.ok w0 }) : Ret Try.prog 3 [x0.1.v, x1.1.v] w0 fun u w' => u = .bool true ∧ Ext w0 w' := by
  obtain ⟨⟨v0, p0⟩, ⟨h0⟩⟩ := x0
  obtain ⟨⟨v1, p1⟩, ⟨h1⟩⟩ := x1
  show Ret _ _ [v0, v1] w0 _
  dsimp only at h0 h1
  have E : Since 0 0 w0 w0 := Since.refl 0 0 w0
  refine ret_enter Try.func3 rfl Try.ntmps3 rfl ?_
  focus
    have ht_h0 := h0.top
    have ht_h1 := h1.top
    refine c_seq ?_
    refine c_region ?_
    refine w_pure (y_assign rfl) rfl ?_
    refine w_nil ?_
    refine x_next ?_
    refine c_seq ?_
    refine c_seq ?_
    refine c_region ?_
    refine w_pure (y_move rfl) rfl ?_
    refine w_pure (y_move rfl) rfl ?_
    (refine w_call rfl rfl rfl (a2Long_c) rfl ?_; rintro _ w25 ⟨z25, ⟨rfl, hx25⟩⟩)
    have hz_hx25 := hx25.size
    replace h0 := h0.ext hx25
    replace h1 := h1.ext hx25
    replace E := E.trans hx25
    refine w_nil ?_
    refine x_next ?_
    (refine c_if rfl (fun hc25 => ?_) (fun hc25 => ?_) <;> try (first | exact absurd rfl hc25 | contradiction | exact Bool.noConfusion (show false = true from hc25.symm.trans (by assumption)) | exact Bool.noConfusion (show true = false from hc25.symm.trans (by assumption)) | (exfalso; omega) | (exfalso; simp only [*, Bool.not_true, Bool.not_false, reduceCtorEq] at hc25; done)))
    refine c_seq ?_
    refine c_region ?_
    refine w_pure (y_assign rfl) rfl ?_
    refine w_nil ?_
    refine x_next ?_
    refine c_ret ?_
    refine x_then_ret ?_
    rotate_left
    refine c_skip ?_
    refine x_next ?_
    refine c_seq ?_
    refine c_region ?_
    refine w_pure (y_move rfl) rfl ?_
    (refine w_call rfl rfl rfl (A2Cards_c) rfl ?_; rintro v27 w27 ⟨sus27, ⟨xss27, ⟨hp1_27, ⟨hp2_27, hx27⟩⟩⟩⟩)
    have hl_hp1_27 := hp1_27.lt
    have hz_hx27 := hx27.size
    replace h0 := h0.ext hx27
    replace h1 := h1.ext hx27
    replace E := E.trans hx27
    refine w_pure (y_assign rfl) rfl ?_
    refine w_nil ?_
    refine x_next ?_
    refine c_seq ?_
    refine c_region ?_
    refine w_pure (y_move rfl) rfl ?_
    (refine w_call rfl rfl rfl (A2Setup_c) rfl ?_; rintro _ w29 ⟨d29, ⟨q29, ⟨ps29, ⟨rfl, ⟨hp1_29, ⟨hp2_29, hx29⟩⟩⟩⟩⟩⟩)
    have hl_hp1_29 := hp1_29.lt
    have hz_hx29 := hx29.size
    replace hp1_27 := hp1_27.ext hx29
    replace h0 := h0.ext hx29
    replace h1 := h1.ext hx29
    replace E := E.trans hx29
    refine w_alloc (k := fun b6 w6 hb6 hx6 hl6 hs6 => ?_)
    have hz_hx6 := hx6.size
    replace hp1_29 := hp1_29.ext hx6
    replace hp1_27 := hp1_27.ext hx6
    replace h0 := h0.ext hx6
    replace h1 := h1.ext hx6
    replace E := E.trans hx6
    refine w_store_boxs rfl rfl (next := fun ws37 hbs37 hxs37 hss37 => ?_)
    (replace hb6 := hbs37; clear hbs37)
    have hz_hxs37 := hxs37.size
    replace hp1_29 := hp1_29.chg hxs37 (by omega)
    replace hp1_27 := hp1_27.chg hxs37 (by omega)
    replace h0 := h0.chg hxs37 (by omega)
    replace h1 := h1.chg hxs37 (by omega)
    replace E := E.next hxs37 (by omega)
    refine w_nil ?_
    refine x_next ?_
    refine c_seq ?_
    refine c_region ?_
    refine w_pure (y_load_boxs rfl) rfl ?_
    refine w_pure (y_move rfl) rfl ?_
    (refine w_call rfl rfl rfl (iGroupSums_z) rfl ?_; rintro _ w33 ⟨d33, ⟨sus33, ⟨rfl, ⟨hp1_33, hx33⟩⟩⟩⟩)
    have hl_hp1_33 := hp1_33.lt
    have hz_hx33 := hx33.size
    replace hb6 := hb6.ext hx33
    replace hp1_29 := hp1_29.ext hx33
    replace hp1_27 := hp1_27.ext hx33
    replace h0 := h0.ext hx33
    replace h1 := h1.ext hx33
    replace E := E.trans hx33
    refine w_pure (y_move rfl) rfl ?_
    refine w_pure (y_extract rfl rfl) rfl ?_
    refine w_pure (y_extract rfl rfl) rfl ?_
    refine w_pure (y_assign rfl) rfl ?_
    refine w_pure (y_assign rfl) rfl ?_
    refine w_nil ?_
    refine x_next ?_
    refine c_seq ?_
    refine c_region ?_
    refine w_pure (y_load_boxs rfl) rfl ?_
    refine w_pure (y_move rfl) rfl ?_
    (refine w_call rfl rfl rfl (iGroupNames_z) rfl ?_; rintro _ w39 ⟨d39, ⟨rfl, ⟨hp1_39, hx39⟩⟩⟩)
    have hl_hp1_39 := hp1_39.lt
    have hz_hx39 := hx39.size
    replace hp1_33 := hp1_33.ext hx39
    replace hb6 := hb6.ext hx39
    replace hp1_29 := hp1_29.ext hx39
    replace hp1_27 := hp1_27.ext hx39
    replace h0 := h0.ext hx39
    replace h1 := h1.ext hx39
    replace E := E.trans hx39
    refine w_pure (y_move rfl) rfl ?_
    refine w_pure (y_extract rfl rfl) rfl ?_
    refine w_pure (y_extract rfl rfl) rfl ?_
    refine w_pure (y_assign rfl) rfl ?_
    refine w_pure (y_assign rfl) rfl ?_
    refine w_nil ?_
    refine x_next ?_
    refine c_seq ?_
    refine c_region ?_
    refine w_pure (y_load_boxs rfl) rfl ?_
    refine w_pure (y_move rfl) rfl ?_
    (refine w_call rfl rfl rfl (iGrandSums_z) rfl ?_; rintro _ w45 ⟨d45, ⟨rfl, ⟨hp1_45, hx45⟩⟩⟩)
    have hl_hp1_45 := hp1_45.lt
    have hz_hx45 := hx45.size
    replace hp1_39 := hp1_39.ext hx45
    replace hp1_33 := hp1_33.ext hx45
    replace hb6 := hb6.ext hx45
    replace hp1_29 := hp1_29.ext hx45
    replace hp1_27 := hp1_27.ext hx45
    replace h0 := h0.ext hx45
    replace h1 := h1.ext hx45
    replace E := E.trans hx45
    refine w_pure (y_move rfl) rfl ?_
    refine w_pure (y_extract rfl rfl) rfl ?_
    refine w_pure (y_extract rfl rfl) rfl ?_
    refine w_pure (y_assign rfl) rfl ?_
    refine w_pure (y_assign rfl) rfl ?_
    refine w_nil ?_
    refine x_next ?_
    refine c_seq ?_
    refine c_region ?_
    refine w_pure (y_load_boxs rfl) rfl ?_
    refine w_pure (y_move rfl) rfl ?_
    refine w_val rfl rfl rfl (iBreaksIn_z) rfl (fun w51 hx51 hz51 => ?_)
    have hz_hx51 := hx51.size
    replace hp1_45 := hp1_45.ext hx51
    replace hp1_39 := hp1_39.ext hx51
    replace hp1_33 := hp1_33.ext hx51
    replace hb6 := hb6.ext hx51
    replace hp1_29 := hp1_29.ext hx51
    replace hp1_27 := hp1_27.ext hx51
    replace h0 := h0.ext hx51
    replace h1 := h1.ext hx51
    replace E := E.trans hx51
    refine w_pure (y_move rfl) rfl ?_
    refine w_pure (y_extract rfl rfl) rfl ?_
    refine w_pure (y_extract rfl rfl) rfl ?_
    refine w_pure (y_assign rfl) rfl ?_
    refine w_pure (y_assign rfl) rfl ?_
    refine w_nil ?_
    refine x_next ?_
    refine c_seq ?_
    refine c_seq ?_
    refine c_region ?_
    refine w_pure (y_move rfl) rfl ?_
    refine w_pure (y_ne rfl rfl) rfl ?_
    refine w_pure (y_move rfl) rfl ?_
    refine w_yes rfl rfl ?_
    refine w_pure (y_move rfl) rfl ?_
    refine w_yes rfl rfl ?_
    refine w_pure (y_ne rfl rfl) rfl ?_
    refine w_pure (y_pick_f rfl rfl) rfl ?_
    refine w_pure (y_move rfl) rfl ?_
    refine w_yes rfl rfl ?_
    refine w_pure (y_move rfl) rfl ?_
    refine w_yes rfl rfl ?_
    refine w_pure (y_ne rfl rfl) rfl ?_
    refine w_pure (y_pick_f rfl rfl) rfl ?_
    refine w_pure (y_move rfl) rfl ?_
    refine w_yes rfl rfl ?_
    refine w_pure (y_move rfl) rfl ?_
    refine w_yes rfl rfl ?_
    refine w_pure (y_ne rfl rfl) rfl ?_
    refine w_pure (y_pick_f rfl rfl) rfl ?_
    refine w_pure (y_move rfl) rfl ?_
    refine w_yes rfl rfl ?_
    refine w_pure (y_move rfl) rfl ?_
    refine w_yes rfl rfl ?_
    refine w_pure (y_len rfl) rfl ?_
    refine w_yes rfl rfl ?_
    refine w_pure (y_move rfl) rfl ?_
    refine w_yes rfl rfl ?_
    refine w_pure (y_lend rfl) rfl ?_
    refine w_yes rfl rfl ?_
    refine w_pure (y_ne rfl rfl) rfl ?_
    refine w_pure (y_pick_f rfl rfl) rfl ?_
    refine w_pure (y_move rfl) rfl ?_
    (refine w_part_dec rfl rfl (fun hc76 => ?_) (fun hc76 => ?_) <;> try (first | exact absurd rfl hc76 | contradiction | exact Bool.noConfusion (show false = true from hc76.symm.trans (by assumption)) | exact Bool.noConfusion (show true = false from hc76.symm.trans (by assumption)) | (exfalso; omega) | (exfalso; simp only [*, Bool.not_true, Bool.not_false, reduceCtorEq] at hc76; done)))
    refine w_no rfl rfl rfl rfl ?_
    refine w_no rfl rfl rfl rfl ?_
    refine w_no rfl rfl rfl rfl ?_
    refine w_no rfl rfl rfl rfl ?_
    refine w_no rfl rfl rfl rfl ?_
    refine w_no rfl rfl rfl rfl ?_
    refine w_pure (y_pick_t rfl rfl) rfl ?_
    refine w_pure (y_move rfl) rfl ?_
    refine w_no rfl rfl rfl rfl ?_
    refine w_no rfl rfl rfl rfl ?_
    refine w_no rfl rfl rfl rfl ?_
    refine w_no rfl rfl rfl rfl ?_
    refine w_no rfl rfl rfl rfl ?_
    refine w_no rfl rfl rfl rfl ?_
    refine w_pure (y_pick_t rfl rfl) rfl ?_
    refine w_nil ?_
    refine x_next ?_
    refine c_true rfl ?_
    refine c_seq ?_
    refine c_region ?_
    refine w_pure (y_assign rfl) rfl ?_
    refine w_nil ?_
    refine x_next ?_
    refine c_ret ?_
    refine x_then_ret ?_
    rotate_left
    refine w_yes rfl rfl ?_
    refine w_pure (y_move rfl) rfl ?_
    refine w_yes rfl rfl ?_
    refine w_pure (y_len rfl) rfl ?_
    refine w_yes rfl rfl ?_
    refine w_pure (y_field rfl) rfl ?_
    refine w_yes rfl rfl ?_
    refine w_pure (y_load_box rfl) rfl ?_
    refine w_yes rfl rfl ?_
    refine w_pure (y_len rfl) rfl ?_
    refine w_yes rfl rfl ?_
    refine w_pure (y_ne rfl rfl) rfl ?_
    refine w_pure (y_pick_f rfl rfl) rfl ?_
    refine w_pure (y_move rfl) rfl ?_
    (refine w_part_dec rfl rfl (fun hc84 => ?_) (fun hc84 => ?_) <;> try (first | exact absurd rfl hc84 | contradiction | exact Bool.noConfusion (show false = true from hc84.symm.trans (by assumption)) | exact Bool.noConfusion (show true = false from hc84.symm.trans (by assumption)) | (exfalso; omega) | (exfalso; simp only [*, Bool.not_true, Bool.not_false, reduceCtorEq] at hc84; done)))
    refine w_no rfl rfl rfl rfl ?_
    refine w_no rfl rfl rfl rfl ?_
    refine w_no rfl rfl rfl rfl ?_
    refine w_no rfl rfl rfl rfl ?_
    refine w_no rfl rfl rfl rfl ?_
    refine w_no rfl rfl rfl rfl ?_
    refine w_pure (y_pick_t rfl rfl) rfl ?_
    refine w_nil ?_
    refine x_next ?_
    refine c_true rfl ?_
    refine c_seq ?_
    refine c_region ?_
    refine w_pure (y_assign rfl) rfl ?_
    refine w_nil ?_
    refine x_next ?_
    refine c_ret ?_
    refine x_then_ret ?_
    rotate_left
    refine w_yes rfl rfl ?_
    refine w_pure (y_move rfl) rfl ?_
    refine w_yes rfl rfl ?_
    refine w_pure (y_move rfl) rfl ?_
    refine w_yes rfl rfl ?_
    refine w_pure (y_lend rfl) rfl ?_
    refine w_yes rfl rfl ?_
    rotate_left
  · exact x_retv [_] rfl ⟨rfl, trivial⟩ ⟨rfl, E.go⟩
  all_goals have n1 := namG_len xss27 0 1
  all_goals have n2 := sumG_len xss27 ps29 0 1
  all_goals have n3 := sumL_len xss27 ps29
  all_goals have n4 := hdL_len xss27 0 1
  all_goals have gl := hp2_27.len
  all_goals have sl := hp2_29.len
  · exfalso; omega
  · exfalso; omega
  focus
    refine w_pure (y_sub rfl rfl) rfl ?_
    refine w_yes rfl rfl ?_
    refine w_pure (y_max rfl rfl) rfl ?_
    refine w_yes rfl rfl ?_
    refine w_pure (y_ne rfl rfl) rfl ?_
    refine w_pure (y_pick_f rfl rfl) rfl ?_
    refine w_nil ?_
    refine x_next ?_
    (refine c_dec rfl (fun hc90 => ?_) (fun hc90 => ?_) <;> try (first | exact absurd rfl hc90 | contradiction | exact Bool.noConfusion (show false = true from hc90.symm.trans (by assumption)) | exact Bool.noConfusion (show true = false from hc90.symm.trans (by assumption)) | (exfalso; omega) | (exfalso; simp only [*, Bool.not_true, Bool.not_false, reduceCtorEq] at hc90; done)))
    refine c_skip ?_
    refine x_next ?_
    refine c_seq ?_
    refine c_seq ?_
    refine c_region ?_
    refine w_pure (y_assign rfl) rfl ?_
    refine w_nil ?_
    refine x_next ?_
    refine c_block ?_
    rotate_left
  have hct := cTab_ok (good_tab hp2_27 hp2_29)
  have hT := TabOK.of hct.1 hct.2.1
  have sD := hp1_27.sll
  have sS := hp1_29.sl
  have sG := hp1_33.sll
  have sN := hp1_39.sl
  have sA := hp1_45.sl
  clear hp1_27 hp1_29 hp1_33 hp1_39 hp1_45 hc76 hc84
  try clear hl_hp1_27
  try clear hl_hp1_29
  try clear hl_hp1_33
  try clear hl_hp1_39
  try clear hl_hp1_45
  refine c_loopC 0 0 (ι := Int) (fun x => [(5, v27), (6, ptr b6 0), (7, d33), (9, d39), (11, d45), (15, .int .i64 x)]) (fun x w' => 0 ≤ x ∧ x ≤ ps29.length) (fun x => (ps29.length - x).toNat) 0 (by repeat (first | exact trivial | refine ⟨rfl, ?_⟩)) ⟨by omega, by omega⟩ ?_
  rintro k wL hxL EL ⟨hk0, hk1⟩
  have hzL := hxL.size
  by_cases hlk : k < ps29.length
  · have hsm := fun i (hi : i ≤ xss27.length) => hT.sum64 (k := k.toNat) (by omega) hi
    have hnm := fun i (hi : i < xss27.length) => hT.nm (k := k.toNat) (by omega) hi
    have hstp := fun m (hm : m < (hdL xss27 0 1).length) => sum_step (ps := ps29) (k := k.toNat) hm (by omega)
    have hgk : (sumL xss27 ps29).getD k.toNat 0 = sumC xss27 (ps29.getD k.toNat (0, 0)) xss27.length := by
      rw [List.getD_eq_getElem?_getD, sumL_get (by omega)]; rfl
    have hpk := hp2_29.at_ k.toNat (by omega)
    have hpb : (0 ≤ (ps29.getD k.toNat (0, 0)).1 ∧ (ps29.getD k.toNat (0, 0)).1 < (ps29.getD k.toNat (0, 0)).2 ∧ (ps29.getD k.toNat (0, 0)).2 ≤ 5) ∧ (ps29.getD k.toNat (0, 0)).2 - (ps29.getD k.toNat (0, 0)).1 ≤ 12 := by rcases hpk with e | e <;> rw [e] <;> decide
    have hno : ∀ i, i < xss27.length → (numL (prt (xss27.getD i []) (ps29.getD k.toNat (0, 0)).1 (ps29.getD k.toNat (0, 0)).2)).2 = true := fun i hi => by
      rcases hpk with e | e <;> rw [e]
      · exact (hp2_27.at_ i hi).n1
      · exact (hp2_27.at_ i hi).n2
    have z0 : (0 : Int) = sumC xss27 (ps29.getD k.toNat (0, 0)) (bnd xss27 0 1 (Int.toNat 0)).toNat := by rw [show Int.toNat 0 = 0 from rfl, bnd_zero]; rfl
    focus
      have ht_sD := sD.top
      have ht_sS := sS.top
      have ht_sG := sG.top
      have ht_sN := sN.top
      have ht_sA := sA.top
      have hz_hxL := hxL.size
      replace hb6 := hb6.ext hxL
      replace h0 := h0.ext hxL
      replace h1 := h1.ext hxL
      replace E := E.trans hxL
      replace sD := sD.ext hxL
      replace sS := sS.ext hxL
      replace sG := sG.ext hxL
      replace sN := sN.ext hxL
      replace sA := sA.ext hxL
      refine c_seq ?_
      refine c_seq ?_
      refine c_region ?_
      refine w_pure (y_move rfl) rfl ?_
      refine w_pure (y_field rfl) rfl ?_
      refine w_pure (y_load_box rfl) rfl ?_
      refine w_pure (y_len rfl) rfl ?_
      refine w_pure (y_lt rfl rfl) rfl ?_
      refine w_nil ?_
      refine x_next ?_
      (refine c_dec rfl (fun hc95 => ?_) (fun hc95 => ?_) <;> try (first | exact absurd rfl hc95 | contradiction | exact Bool.noConfusion (show false = true from hc95.symm.trans (by assumption)) | exact Bool.noConfusion (show true = false from hc95.symm.trans (by assumption)) | (exfalso; omega) | (exfalso; simp only [*, Bool.not_true, Bool.not_false, reduceCtorEq] at hc95; done)))
      refine c_skip ?_
      refine x_next ?_
      refine c_seq ?_
      refine c_block ?_
      refine c_seq ?_
      refine c_region ?_
      refine w_pure (y_assign rfl) rfl ?_
      refine w_nil ?_
      refine x_next ?_
      refine c_seq ?_
      refine c_region ?_
      refine w_pure (y_assign rfl) rfl ?_
      refine w_nil ?_
      refine x_next ?_
      refine c_seq ?_
      refine c_seq ?_
      refine c_region ?_
      refine w_pure (y_assign rfl) rfl ?_
      refine w_nil ?_
      refine x_next ?_
      refine c_block ?_
      rotate_left
    refine c_loopC 0 0 (ι := Int) (fun x => [(5, v27), (6, ptr b6 0), (7, d33), (9, d39), (11, d45), (15, .int .i64 k), (16, .int .i64 (sumC xss27 (ps29.getD k.toNat (0, 0)) (bnd xss27 0 1 x.toNat).toNat)), (17, .int .i64 0), (18, .int .i64 x)]) (fun x w' => 0 ≤ x ∧ x ≤ (hdL xss27 0 1).length) (fun x => ((hdL xss27 0 1).length - x).toNat) 0
      ⟨rfl, rfl, rfl, rfl, rfl, rfl, congrArg (fun q => some (Value.int .i64 q)) z0, rfl, rfl, trivial⟩ ⟨by omega, by omega⟩ ?_
    clear z0
    rintro g wM hxM EM ⟨hg0, hg1⟩
    have hzM := hxM.size
    have q1 := bnd_le (xss := xss27) (g := 0) (h := 1) g.toNat
    have q2 := bnd_le (xss := xss27) (g := 0) (h := 1) (g.toNat + 1)
    have q3 := hsm (bnd xss27 0 1 g.toNat).toNat (by omega)
    have q4 := hsm (bnd xss27 0 1 (g.toNat + 1)).toNat (by omega)
    by_cases hlg : g < (hdL xss27 0 1).length
    · have q5 := hstp g.toNat (by omega)
      have q5a := q5.1
      have q5b := q5.2
      clear q5
      focus
        have hz_hxM := hxM.size
        replace EL := EL.trans hxM
        replace hb6 := hb6.ext hxM
        replace h0 := h0.ext hxM
        replace h1 := h1.ext hxM
        replace E := E.trans hxM
        replace sD := sD.ext hxM
        replace sS := sS.ext hxM
        replace sG := sG.ext hxM
        replace sN := sN.ext hxM
        replace sA := sA.ext hxM
        refine c_seq ?_
        refine c_seq ?_
        refine c_region ?_
        refine w_pure (y_move rfl) rfl ?_
        refine w_pure (y_move rfl) rfl ?_
        refine w_pure (y_lend rfl) rfl ?_
        refine w_pure (y_lt rfl rfl) rfl ?_
        refine w_nil ?_
        refine x_next ?_
        (refine c_dec rfl (fun hc101 => ?_) (fun hc101 => ?_) <;> try (first | exact absurd rfl hc101 | contradiction | exact Bool.noConfusion (show false = true from hc101.symm.trans (by assumption)) | exact Bool.noConfusion (show true = false from hc101.symm.trans (by assumption)) | (exfalso; omega) | (exfalso; simp only [*, Bool.not_true, Bool.not_false, reduceCtorEq] at hc101; done)))
        refine c_skip ?_
        refine x_next ?_
        refine c_seq ?_
        refine c_block ?_
        refine c_seq ?_
        refine c_seq ?_
        refine c_region_calm mixed (by decide +kernel) (by kernel_rfl) ?_
        refine q_pure (y_move rfl) rfl ?_
        refine q_pure (y_move rfl) rfl ?_
        refine q_pure (y_indexd rfl rfl) rfl ?_
        refine q_pure (y_load rfl) rfl ?_
        refine q_pure (y_len rfl) rfl ?_
        refine q_pure (y_field rfl) rfl ?_
        refine q_pure (y_load_box rfl) rfl ?_
        refine q_pure (y_len rfl) rfl ?_
        refine q_pure (y_ne rfl rfl) rfl ?_
        refine q_nil (fun ws27 hxs27 hzs27 => ?_)
        have hz_hxs27 := hxs27.size
        replace EM := EM.trans hxs27
        replace EL := EL.trans hxs27
        replace hb6 := hb6.ext hxs27
        replace h0 := h0.ext hxs27
        replace h1 := h1.ext hxs27
        replace E := E.trans hxs27
        replace sD := sD.ext hxs27
        replace sS := sS.ext hxs27
        replace sG := sG.ext hxs27
        replace sN := sN.ext hxs27
        replace sA := sA.ext hxs27
        refine x_next ?_
        (refine c_dec rfl (fun hc112 => ?_) (fun hc112 => ?_) <;> try (first | exact absurd rfl hc112 | contradiction | exact Bool.noConfusion (show false = true from hc112.symm.trans (by assumption)) | exact Bool.noConfusion (show true = false from hc112.symm.trans (by assumption)) | (exfalso; omega) | (exfalso; simp only [*, Bool.not_true, Bool.not_false, reduceCtorEq] at hc112; done)))
        refine c_skip ?_
        refine x_next ?_
        refine c_region ?_
        refine w_pure (y_move rfl) rfl ?_
        refine w_pure (y_move rfl) rfl ?_
        refine w_pure (y_move rfl) rfl ?_
        refine w_pure (y_indexd rfl rfl) rfl ?_
        refine w_pure (y_load rfl) rfl ?_
        refine w_pure (y_move rfl) rfl ?_
        refine w_pure (y_index rfl rfl) rfl ?_
        refine w_pure (y_load_int rfl) rfl ?_
        refine w_pure (y_add rfl rfl) rfl ?_
        refine w_pure (y_assign rfl) rfl ?_
        refine w_nil ?_
        refine x_block_norm ?_
        refine x_next ?_
        refine c_region ?_
        refine w_pure (y_move rfl) rfl ?_
        refine w_pure (y_add rfl rfl) rfl ?_
        refine w_pure (y_assign rfl) rfl ?_
        refine w_nil ?_
        rotate_left
      have z1 : sumC xss27 (ps29.getD k.toNat (0, 0)) (bnd xss27 0 1 g.toNat).toNat + ((sumG xss27 ps29 0 1).getD g.toNat []).getD k.toNat 0 = sumC xss27 (ps29.getD k.toNat (0, 0)) (bnd xss27 0 1 (g + 1).toNat).toNat := by
        rw [show (g + 1).toNat = g.toNat + 1 by omega]; rw [q5b]; omega
      exact x_again (g + 1) ⟨rfl, rfl, rfl, rfl, rfl, rfl, congrArg (fun q => some (Value.int .i64 q)) z1, rfl, rfl, trivial⟩ ⟨EM.go, by omega, by omega⟩ (by omega)
    · have eg : (bnd xss27 0 1 g.toNat).toNat = xss27.length := by rw [show g.toNat = (hdL xss27 0 1).length by omega, bnd_end]; rfl
      rw [eg]
      clear q1 q2 q3 q4
      focus
        have hz_hxM := hxM.size
        replace EL := EL.trans hxM
        replace hb6 := hb6.ext hxM
        replace h0 := h0.ext hxM
        replace h1 := h1.ext hxM
        replace E := E.trans hxM
        replace sD := sD.ext hxM
        replace sS := sS.ext hxM
        replace sG := sG.ext hxM
        replace sN := sN.ext hxM
        replace sA := sA.ext hxM
        refine c_seq ?_
        refine c_seq ?_
        refine c_region ?_
        refine w_pure (y_move rfl) rfl ?_
        refine w_pure (y_move rfl) rfl ?_
        refine w_pure (y_lend rfl) rfl ?_
        refine w_pure (y_lt rfl rfl) rfl ?_
        refine w_nil ?_
        refine x_next ?_
        (refine c_dec rfl (fun hc101 => ?_) (fun hc101 => ?_) <;> try (first | exact absurd rfl hc101 | contradiction | exact Bool.noConfusion (show false = true from hc101.symm.trans (by assumption)) | exact Bool.noConfusion (show true = false from hc101.symm.trans (by assumption)) | (exfalso; omega) | (exfalso; simp only [*, Bool.not_true, Bool.not_false, reduceCtorEq] at hc101; done)))
        refine c_exit ?_
        refine x_then_exit ?_
        refine x_then_exit ?_
        refine x_block_hit ?_
        refine x_next ?_
        refine c_seq ?_
        refine c_seq ?_
        refine c_region ?_
        refine w_pure (y_assign rfl) rfl ?_
        refine w_nil ?_
        refine x_next ?_
        refine c_block ?_
        rotate_left
      refine c_loopC 0 0 (ι := Int) (fun x => [(5, v27), (6, ptr b6 0), (7, d33), (9, d39), (11, d45), (15, .int .i64 k), (16, .int .i64 (sumC xss27 (ps29.getD k.toNat (0, 0)) xss27.length)), (17, .int .i64 (sumC xss27 (ps29.getD k.toNat (0, 0)) x.toNat)), (19, .int .i64 x)]) (fun x w' => 0 ≤ x ∧ x ≤ xss27.length) (fun x => (xss27.length - x).toNat) 0
        (by repeat (first | exact trivial | refine ⟨rfl, ?_⟩)) ⟨by omega, by omega⟩ ?_
      rintro y wK hxK EK ⟨hy0, hy1⟩
      have hzK := hxK.size
      have q3 := hsm y.toNat (by omega)
      by_cases hly : y < xss27.length
      · have c1 := hp2_27.at_ y.toNat (by omega)
        have c2 := c1.ok
        have c3 := c1.len
        have c4 := hno y.toNat (by omega)
        have c5 := hnm y.toNat (by omega)
        unfold nmF at c5
        focus
          have hz_hxK := hxK.size
          replace EM := EM.trans hxK
          replace EL := EL.trans hxK
          replace hb6 := hb6.ext hxK
          replace h0 := h0.ext hxK
          replace h1 := h1.ext hxK
          replace E := E.trans hxK
          replace sD := sD.ext hxK
          replace sS := sS.ext hxK
          replace sG := sG.ext hxK
          replace sN := sN.ext hxK
          replace sA := sA.ext hxK
          refine c_seq ?_
          refine c_seq ?_
          refine c_region ?_
          refine w_pure (y_move rfl) rfl ?_
          refine w_pure (y_move rfl) rfl ?_
          refine w_pure (y_lend rfl) rfl ?_
          refine w_pure (y_lt rfl rfl) rfl ?_
          refine w_nil ?_
          refine x_next ?_
          (refine c_dec rfl (fun hc125 => ?_) (fun hc125 => ?_) <;> try (first | exact absurd rfl hc125 | contradiction | exact Bool.noConfusion (show false = true from hc125.symm.trans (by assumption)) | exact Bool.noConfusion (show true = false from hc125.symm.trans (by assumption)) | (exfalso; omega) | (exfalso; simp only [*, Bool.not_true, Bool.not_false, reduceCtorEq] at hc125; done)))
          refine c_skip ?_
          refine x_next ?_
          refine c_seq ?_
          refine c_block ?_
          refine c_seq ?_
          refine c_region_held mixed (fun wr25 hxr25 hzr25 => ?_)
          have hz_hxr25 := hxr25.size
          replace EK := EK.trans hxr25
          replace EM := EM.trans hxr25
          replace EL := EL.trans hxr25
          replace hb6 := hb6.ext hxr25
          replace h0 := h0.ext hxr25
          replace h1 := h1.ext hxr25
          replace E := E.trans hxr25
          replace sD := sD.ext hxr25
          replace sS := sS.ext hxr25
          replace sG := sG.ext hxr25
          replace sN := sN.ext hxr25
          replace sA := sA.ext hxr25
          refine h_pure rfl (y_move rfl) rfl ?_
          refine h_pure rfl (y_move rfl) rfl ?_
          refine h_pure rfl (y_indexd rfl rfl) rfl ?_
          refine h_pure rfl (y_loads rfl) rfl ?_
          refine h_pure rfl (y_field rfl) rfl ?_
          refine h_pure rfl (y_load_box rfl) rfl ?_
          refine h_pure rfl (y_move rfl) rfl ?_
          refine h_pure rfl (y_index rfl rfl) rfl ?_
          refine h_pure rfl (y_load_pair rfl) rfl ?_
          refine h_one rfl ?_
          refine w_val rfl rfl rfl (sNumberIn_z _ _) rfl (fun w138 hx138 hz138 => ?_)
          have hz_hx138 := hx138.size
          replace EK := EK.trans hx138
          replace EM := EM.trans hx138
          replace EL := EL.trans hx138
          replace hb6 := hb6.ext hx138
          replace h0 := h0.ext hx138
          replace h1 := h1.ext hx138
          replace E := E.trans hx138
          replace sD := sD.ext hx138
          replace sS := sS.ext hx138
          replace sG := sG.ext hx138
          replace sN := sN.ext hx138
          replace sA := sA.ext hx138
          refine w_nil ?_
          refine x_held ?_
          refine h_pure rfl (y_move rfl) rfl ?_
          refine h_pure rfl (y_extract rfl rfl) rfl ?_
          refine h_pure rfl (y_extract rfl rfl) rfl ?_
          refine h_pure rfl (y_assign rfl) rfl ?_
          refine h_pure rfl (y_assign rfl) rfl ?_
          refine h_nil ?_
          refine x_next ?_
          refine c_seq ?_
          refine c_seq ?_
          refine c_region ?_
          refine w_pure (y_move rfl) rfl ?_
          refine w_pure (y_ne rfl rfl) rfl ?_
          refine w_nil ?_
          refine x_next ?_
          refine c_false rfl ?_
          refine c_skip ?_
          refine x_next ?_
          refine c_region ?_
          refine w_pure (y_move rfl) rfl ?_
          refine w_pure (y_move rfl) rfl ?_
          refine w_pure (y_add rfl rfl) rfl ?_
          refine w_pure (y_assign rfl) rfl ?_
          refine w_nil ?_
          refine x_block_norm ?_
          refine x_next ?_
          refine c_region ?_
          refine w_pure (y_move rfl) rfl ?_
          refine w_pure (y_add rfl rfl) rfl ?_
          refine w_pure (y_assign rfl) rfl ?_
          refine w_nil ?_
          rotate_left
        have z2 : sumC xss27 (ps29.getD k.toNat (0, 0)) y.toNat + (numL (prt (xss27.getD y.toNat []) (ps29.getD k.toNat (0, 0)).1 (ps29.getD k.toNat (0, 0)).2)).1 = sumC xss27 (ps29.getD k.toNat (0, 0)) (y + 1).toNat := by
          rw [show (y + 1).toNat = y.toNat + 1 by omega]; rfl
        exact x_again (y + 1) ⟨rfl, rfl, rfl, rfl, rfl, rfl, rfl, congrArg (fun q => some (Value.int .i64 q)) z2, rfl, trivial⟩ ⟨EK.go, by omega, by omega⟩ (by omega)
      · have ey : sumC xss27 (ps29.getD k.toNat (0, 0)) y.toNat = sumC xss27 (ps29.getD k.toNat (0, 0)) xss27.length := by rw [show y.toNat = xss27.length by omega]
        focus
          have hz_hxK := hxK.size
          replace EM := EM.trans hxK
          replace EL := EL.trans hxK
          replace hb6 := hb6.ext hxK
          replace h0 := h0.ext hxK
          replace h1 := h1.ext hxK
          replace E := E.trans hxK
          replace sD := sD.ext hxK
          replace sS := sS.ext hxK
          replace sG := sG.ext hxK
          replace sN := sN.ext hxK
          replace sA := sA.ext hxK
          refine c_seq ?_
          refine c_seq ?_
          refine c_region ?_
          refine w_pure (y_move rfl) rfl ?_
          refine w_pure (y_move rfl) rfl ?_
          refine w_pure (y_lend rfl) rfl ?_
          refine w_pure (y_lt rfl rfl) rfl ?_
          refine w_nil ?_
          refine x_next ?_
          (refine c_dec rfl (fun hc125 => ?_) (fun hc125 => ?_) <;> try (first | exact absurd rfl hc125 | contradiction | exact Bool.noConfusion (show false = true from hc125.symm.trans (by assumption)) | exact Bool.noConfusion (show true = false from hc125.symm.trans (by assumption)) | (exfalso; omega) | (exfalso; simp only [*, Bool.not_true, Bool.not_false, reduceCtorEq] at hc125; done)))
          refine c_exit ?_
          refine x_then_exit ?_
          refine x_then_exit ?_
          refine x_block_hit ?_
          refine x_next ?_
          refine c_seq ?_
          refine c_region ?_
          refine w_pure (y_move rfl) rfl ?_
          refine w_pure (y_move rfl) rfl ?_
          refine w_pure (y_move rfl) rfl ?_
          refine w_pure (y_index rfl rfl) rfl ?_
          refine w_pure (y_load_int rfl) rfl ?_
          refine w_pure (y_ne rfl rfl) rfl ?_
          refine w_pure (y_move rfl) rfl ?_
          (refine w_part_dec rfl rfl (fun hc153 => ?_) (fun hc153 => ?_) <;> try (first | exact absurd rfl hc153 | contradiction | exact Bool.noConfusion (show false = true from hc153.symm.trans (by assumption)) | exact Bool.noConfusion (show true = false from hc153.symm.trans (by assumption)) | (exfalso; omega) | (exfalso; simp only [*, Bool.not_true, Bool.not_false, reduceCtorEq] at hc153; done)))
          refine w_yes rfl rfl ?_
          refine w_pure (y_move rfl) rfl ?_
          refine w_yes rfl rfl ?_
          refine w_pure (y_move rfl) rfl ?_
          refine w_yes rfl rfl ?_
          refine w_pure (y_ne rfl rfl) rfl ?_
          refine w_pure (y_pick_f rfl rfl) rfl ?_
          refine w_nil ?_
          refine x_next ?_
          (refine c_dec rfl (fun hc156 => ?_) (fun hc156 => ?_) <;> try (first | exact absurd rfl hc156 | contradiction | exact Bool.noConfusion (show false = true from hc156.symm.trans (by assumption)) | exact Bool.noConfusion (show true = false from hc156.symm.trans (by assumption)) | (exfalso; omega) | (exfalso; simp only [*, Bool.not_true, Bool.not_false, reduceCtorEq] at hc156; done)))
          refine c_skip ?_
          refine x_block_norm ?_
          refine x_next ?_
          refine c_region ?_
          refine w_pure (y_move rfl) rfl ?_
          refine w_pure (y_add rfl rfl) rfl ?_
          refine w_pure (y_assign rfl) rfl ?_
          refine w_nil ?_
          rotate_left
        exact x_again (k + 1) (by repeat (first | exact trivial | refine ⟨rfl, ?_⟩)) ⟨EL.go, by omega, by omega⟩ (by omega)
  · focus
      have ht_sD := sD.top
      have ht_sS := sS.top
      have ht_sG := sG.top
      have ht_sN := sN.top
      have ht_sA := sA.top
      have hz_hxL := hxL.size
      replace hb6 := hb6.ext hxL
      replace h0 := h0.ext hxL
      replace h1 := h1.ext hxL
      replace E := E.trans hxL
      replace sD := sD.ext hxL
      replace sS := sS.ext hxL
      replace sG := sG.ext hxL
      replace sN := sN.ext hxL
      replace sA := sA.ext hxL
      refine c_seq ?_
      refine c_seq ?_
      refine c_region ?_
      refine w_pure (y_move rfl) rfl ?_
      refine w_pure (y_field rfl) rfl ?_
      refine w_pure (y_load_box rfl) rfl ?_
      refine w_pure (y_len rfl) rfl ?_
      refine w_pure (y_lt rfl rfl) rfl ?_
      refine w_nil ?_
      refine x_next ?_
      (refine c_dec rfl (fun hc95 => ?_) (fun hc95 => ?_) <;> try (first | exact absurd rfl hc95 | contradiction | exact Bool.noConfusion (show false = true from hc95.symm.trans (by assumption)) | exact Bool.noConfusion (show true = false from hc95.symm.trans (by assumption)) | (exfalso; omega) | (exfalso; simp only [*, Bool.not_true, Bool.not_false, reduceCtorEq] at hc95; done)))
      refine c_exit ?_
      refine x_then_exit ?_
      refine x_then_exit ?_
      refine x_block_hit ?_
      refine x_next ?_
      refine c_seq ?_
      refine c_seq ?_
      refine c_region ?_
      refine w_pure (y_assign rfl) rfl ?_
      refine w_nil ?_
      refine x_next ?_
      refine c_block ?_
      rotate_left
    refine c_loopC 0 0 (ι := Int) (fun x => [(9, d39), (22, .int .i64 x)]) (fun x w' => 1 ≤ x ∧ x ≤ 100) (fun x => (100 - x).toNat) 1 (by repeat (first | exact trivial | refine ⟨rfl, ?_⟩)) ⟨by omega, by omega⟩ ?_
    rintro y wK hxK EK ⟨hy0, hy1⟩
    have hzK := hxK.size
    by_cases hly : y < (hdL xss27 0 1).length
    · have hnd := names_differ (m := (y - 1).toNat) hct.2.2.2 (by omega)
      rw [show (y - 1).toNat + 1 = y.toNat by omega] at hnd
      focus
        have hz_hxK := hxK.size
        replace EL := EL.trans hxK
        replace hb6 := hb6.ext hxK
        replace h0 := h0.ext hxK
        replace h1 := h1.ext hxK
        replace E := E.trans hxK
        replace sD := sD.ext hxK
        replace sS := sS.ext hxK
        replace sG := sG.ext hxK
        replace sN := sN.ext hxK
        replace sA := sA.ext hxK
        refine c_seq ?_
        refine c_seq ?_
        refine c_region ?_
        refine w_pure (y_move rfl) rfl ?_
        refine w_pure (y_move rfl) rfl ?_
        refine w_pure (y_len rfl) rfl ?_
        refine w_pure (y_lt rfl rfl) rfl ?_
        refine w_nil ?_
        refine x_next ?_
        (refine c_dec rfl (fun hc160 => ?_) (fun hc160 => ?_) <;> try (first | exact absurd rfl hc160 | contradiction | exact Bool.noConfusion (show false = true from hc160.symm.trans (by assumption)) | exact Bool.noConfusion (show true = false from hc160.symm.trans (by assumption)) | (exfalso; omega) | (exfalso; simp only [*, Bool.not_true, Bool.not_false, reduceCtorEq] at hc160; done)))
        refine c_skip ?_
        refine x_next ?_
        refine c_seq ?_
        refine c_block ?_
        refine c_seq ?_
        refine c_region_calm mixed (by decide +kernel) (by kernel_rfl) ?_
        refine q_pure (y_move rfl) rfl ?_
        refine q_pure (y_move rfl) rfl ?_
        refine q_pure (y_index rfl rfl) rfl ?_
        refine q_pure (y_load_str rfl) rfl ?_
        refine q_pure (y_move rfl) rfl ?_
        refine q_pure (y_move rfl) rfl ?_
        refine q_pure (y_sub rfl rfl) rfl ?_
        refine q_pure (y_index rfl rfl) rfl ?_
        refine q_pure (y_load_str rfl) rfl ?_
        refine q_pure (y_seq rfl rfl) rfl ?_
        refine q_nil (fun ws27 hxs27 hzs27 => ?_)
        have hz_hxs27 := hxs27.size
        replace EK := EK.trans hxs27
        replace EL := EL.trans hxs27
        replace hb6 := hb6.ext hxs27
        replace h0 := h0.ext hxs27
        replace h1 := h1.ext hxs27
        replace E := E.trans hxs27
        replace sD := sD.ext hxs27
        replace sS := sS.ext hxs27
        replace sG := sG.ext hxs27
        replace sN := sN.ext hxs27
        replace sA := sA.ext hxs27
        refine x_next ?_
        (refine c_dec rfl (fun hc172 => ?_) (fun hc172 => ?_) <;> try (first | exact absurd rfl hc172 | contradiction | exact Bool.noConfusion (show false = true from hc172.symm.trans (by assumption)) | exact Bool.noConfusion (show true = false from hc172.symm.trans (by assumption)) | (exfalso; omega) | (exfalso; simp only [*, Bool.not_true, Bool.not_false, reduceCtorEq] at hc172; done)))
        refine c_skip ?_
        refine x_block_norm ?_
        refine x_next ?_
        refine c_region ?_
        refine w_pure (y_move rfl) rfl ?_
        refine w_pure (y_add rfl rfl) rfl ?_
        refine w_pure (y_assign rfl) rfl ?_
        refine w_nil ?_
        rotate_left
      all_goals first
        | exact absurd hc172 hnd
        | exact x_again (y + 1) (by repeat (first | exact trivial | refine ⟨rfl, ?_⟩)) ⟨EK.go, by omega, by omega⟩ (by omega)
    · focus
        have hz_hxK := hxK.size
        replace EL := EL.trans hxK
        replace hb6 := hb6.ext hxK
        replace h0 := h0.ext hxK
        replace h1 := h1.ext hxK
        replace E := E.trans hxK
        replace sD := sD.ext hxK
        replace sS := sS.ext hxK
        replace sG := sG.ext hxK
        replace sN := sN.ext hxK
        replace sA := sA.ext hxK
        refine c_seq ?_
        refine c_seq ?_
        refine c_region ?_
        refine w_pure (y_move rfl) rfl ?_
        refine w_pure (y_move rfl) rfl ?_
        refine w_pure (y_len rfl) rfl ?_
        refine w_pure (y_lt rfl rfl) rfl ?_
        refine w_nil ?_
        refine x_next ?_
        (refine c_dec rfl (fun hc160 => ?_) (fun hc160 => ?_) <;> try (first | exact absurd rfl hc160 | contradiction | exact Bool.noConfusion (show false = true from hc160.symm.trans (by assumption)) | exact Bool.noConfusion (show true = false from hc160.symm.trans (by assumption)) | (exfalso; omega) | (exfalso; simp only [*, Bool.not_true, Bool.not_false, reduceCtorEq] at hc160; done)))
        refine c_exit ?_
        refine x_then_exit ?_
        refine x_then_exit ?_
        refine x_block_hit ?_
        refine x_next ?_
        refine c_seq ?_
        refine c_region ?_
        refine w_pure (y_assign rfl) rfl ?_
        refine w_nil ?_
        refine x_next ?_
        refine c_ret ?_
        rotate_left
      exact x_retv [_] rfl ⟨rfl, trivial⟩ ⟨rfl, E.go⟩
end
end Go.Proofs.Ythigkbkaeopipaa

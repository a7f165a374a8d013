/- The walk of the law on wires that are added and taken away. -/
import Derived.Test.YthigkbkaeopipaaBoaZ
namespace Go.Proofs.Ythigkbkaeopipaa
open Go Go.Gw
set_option linter.unusedVariables false
set_option linter.unusedSimpArgs false
section
set_option maxHeartbeats 4000000 in
theorem lFnWires (w0 : World) (x0 x1 : { x : OBy // x.ok w0 }) : Ret Try.prog 7 [x0.1.v, x1.1.v] w0 fun u w' => u = .bool true ∧ Ext w0 w' := by
  obtain ⟨⟨v0, p0⟩, ⟨h0⟩⟩ := x0
  obtain ⟨⟨v1, p1⟩, ⟨h1⟩⟩ := x1
  show Ret _ _ [v0, v1] w0 _
  dsimp only at h0 h1
  have E : Since 0 0 w0 w0 := Since.refl 0 0 w0
  refine ret_enter Try.func7 rfl Try.ntmps7 rfl ?_
  focus
    have ht_h0 := h0.top
    have ht_h1 := h1.top
    refine c_seq ?_
    refine c_region ?_
    refine w_pure (y_assign rfl) rfl ?_
    refine w_nil ?_
    refine x_next ?_
    refine c_seq ?_
    refine c_seq ?_
    refine c_region ?_
    refine w_pure (y_move rfl) rfl ?_
    refine w_pure (y_move rfl) rfl ?_
    (refine w_call rfl rfl rfl (a2Long_c) rfl ?_; rintro _ w25 ⟨z25, ⟨rfl, hx25⟩⟩)
    have hz_hx25 := hx25.size
    replace h0 := h0.ext hx25
    replace h1 := h1.ext hx25
    replace E := E.trans hx25
    refine w_nil ?_
    refine x_next ?_
    (refine c_if rfl (fun hc25 => ?_) (fun hc25 => ?_) <;> try (first | exact absurd rfl hc25 | contradiction | exact Bool.noConfusion (show false = true from hc25.symm.trans (by assumption)) | exact Bool.noConfusion (show true = false from hc25.symm.trans (by assumption)) | (exfalso; omega) | (exfalso; simp only [*, Bool.not_true, Bool.not_false, reduceCtorEq] at hc25; done)))
    refine c_seq ?_
    refine c_region ?_
    refine w_pure (y_assign rfl) rfl ?_
    refine w_nil ?_
    refine x_next ?_
    refine c_ret ?_
    refine x_then_ret ?_
    rotate_left
    refine c_skip ?_
    refine x_next ?_
    refine c_seq ?_
    refine c_region ?_
    refine w_pure (y_move rfl) rfl ?_
    (refine w_call rfl rfl rfl (A2Board_c) rfl ?_; rintro _ w27 ⟨d27, ⟨e27, ⟨n27, ⟨j27, ⟨ws27, ⟨rfl, ⟨hp1_27, ⟨hp2_27, ⟨⟨hp3_27, ⟨hp4_27, ⟨hp5_27, ⟨hp6_27, ⟨hp7_27, hp8_27⟩⟩⟩⟩⟩, ⟨hp9_27, hx27⟩⟩⟩⟩⟩⟩⟩⟩⟩⟩)
    have hl_hp1_27 := hp1_27.lt
    have hz_hx27 := hx27.size
    replace h0 := h0.ext hx27
    replace h1 := h1.ext hx27
    replace E := E.trans hx27
    refine w_alloc (k := fun b5 w5 hb5 hx5 hl5 hs5 => ?_)
    have hz_hx5 := hx5.size
    replace hp1_27 := hp1_27.ext hx5
    replace h0 := h0.ext hx5
    replace h1 := h1.ext hx5
    replace E := E.trans hx5
    refine w_store_boxs rfl rfl (next := fun ws30 hbs30 hxs30 hss30 => ?_)
    (replace hb5 := hbs30; clear hbs30)
    have hz_hxs30 := hxs30.size
    replace hp1_27 := hp1_27.chg hxs30 (by omega)
    replace h0 := h0.chg hxs30 (by omega)
    replace h1 := h1.chg hxs30 (by omega)
    replace E := E.next hxs30 (by omega)
    refine w_nil ?_
    refine x_next ?_
    refine c_seq ?_
    refine c_region ?_
    refine w_pure (y_field rfl) rfl ?_
    refine w_pure (y_load_box rfl) rfl ?_
    refine w_pure (y_field rfl) rfl ?_
    refine w_pure (y_load_box rfl) rfl ?_
    refine w_pure (y_add rfl rfl) rfl ?_
    refine w_pure (y_field rfl) rfl ?_
    refine w_pure (y_load_box rfl) rfl ?_
    refine w_pure (y_add rfl rfl) rfl ?_
    refine w_pure (y_assign rfl) rfl ?_
    refine w_nil ?_
    refine x_next ?_
    refine c_seq ?_
    refine c_region ?_
    refine w_pure (y_move rfl) rfl ?_
    refine w_pure (y_move rfl) rfl ?_
    refine w_pure (y_sub rfl rfl) rfl ?_
    refine w_val rfl rfl rfl (a2At_c _ _) rfl (fun w39 hx39 hz39 => ?_)
    have hz_hx39 := hx39.size
    replace hb5 := hb5.ext hx39
    replace hp1_27 := hp1_27.ext hx39
    replace h0 := h0.ext hx39
    replace h1 := h1.ext hx39
    replace E := E.trans hx39
    refine w_pure (y_assign rfl) rfl ?_
    refine w_nil ?_
    refine x_next ?_
    refine c_seq ?_
    refine c_region ?_
    refine w_pure (y_load_boxs rfl) rfl ?_
    refine w_pure (y_move rfl) rfl ?_
    refine w_pure (y_move rfl) rfl ?_
    rotate_left
  · exact x_retv [_] rfl ⟨rfl, trivial⟩ ⟨rfl, E.go⟩
  have hxb := a2at_bd p1 0 (n := e27 + n27 + j27 - 1) (by omega)
  generalize a2at p1 0 (e27 + n27 + j27 - 1) = x at *
  have hok2 := okB_snoc (x := x) (y := x + 1) hp2_27 (by omega) (by omega)
  have hrs : remW (ws27 ++ [(x, x + 1)]) ((ws27.length : Int)).toNat = ws27 := remW_snoc ws27 (x, x + 1)
  have hsl := resSpare_len e27 n27 j27 ws27
  focus
    refine w_pure (y_add rfl rfl) rfl ?_
    refine w_pure (y_build rfl) rfl ?_
    (refine w_call rfl rfl rfl (iAddWire_z _ _) rfl ?_; rintro _ w46 ⟨d46, ⟨rfl, ⟨hp1_46, hx46⟩⟩⟩)
    have hl_hp1_46 := hp1_46.lt
    have hz_hx46 := hx46.size
    replace hb5 := hb5.ext hx46
    replace hp1_27 := hp1_27.ext hx46
    replace h0 := h0.ext hx46
    replace h1 := h1.ext hx46
    replace E := E.trans hx46
    refine w_pure (y_move rfl) rfl ?_
    refine w_pure (y_extract rfl rfl) rfl ?_
    refine w_pure (y_extract rfl rfl) rfl ?_
    refine w_alloc (k := fun b8 w8 hb8 hx8 hl8 hs8 => ?_)
    have hz_hx8 := hx8.size
    replace hp1_46 := hp1_46.ext hx8
    replace hb5 := hb5.ext hx8
    replace hp1_27 := hp1_27.ext hx8
    replace h0 := h0.ext hx8
    replace h1 := h1.ext hx8
    replace E := E.trans hx8
    refine w_store_boxs rfl rfl (next := fun ws8 hbs8 hxs8 hss8 => ?_)
    (replace hb8 := hbs8; clear hbs8)
    have hz_hxs8 := hxs8.size
    replace hp1_46 := hp1_46.chg hxs8 (by omega)
    replace hb5 := hb5.chg hxs8 (by omega)
    replace hp1_27 := hp1_27.chg hxs8 (by omega)
    replace h0 := h0.chg hxs8 (by omega)
    replace h1 := h1.chg hxs8 (by omega)
    replace E := E.next hxs8 (by omega)
    refine w_pure (y_assign rfl) rfl ?_
    refine w_nil ?_
    refine x_next ?_
    refine c_seq ?_
    refine c_seq ?_
    refine c_region ?_
    refine w_pure (y_move rfl) rfl ?_
    refine w_pure (y_ne rfl rfl) rfl ?_
    refine w_pure (y_move rfl) rfl ?_
    refine w_yes rfl rfl ?_
    refine w_pure (y_load_boxs rfl) rfl ?_
    refine w_yes rfl rfl ?_
    refine w_val rfl rfl rfl (sValidBoard_c) rfl (fun w53 hx53 hz53 => ?_)
    have hz_hx53 := hx53.size
    replace hb8 := hb8.ext hx53
    replace hp1_46 := hp1_46.ext hx53
    replace hb5 := hb5.ext hx53
    replace hp1_27 := hp1_27.ext hx53
    replace h0 := h0.ext hx53
    replace h1 := h1.ext hx53
    replace E := E.trans hx53
    refine w_yes rfl rfl ?_
    refine w_pure (y_not rfl) rfl ?_
    refine w_pure (y_pick_f rfl rfl) rfl ?_
    refine w_pure (y_move rfl) rfl ?_
    (refine w_part rfl rfl (fun hc57 => ?_) (fun hc57 => ?_) <;> try (first | exact absurd rfl hc57 | contradiction | exact Bool.noConfusion (show false = true from hc57.symm.trans (by assumption)) | exact Bool.noConfusion (show true = false from hc57.symm.trans (by assumption)) | (exfalso; omega) | (exfalso; simp only [*, Bool.not_true, Bool.not_false, reduceCtorEq] at hc57; done)))
    refine w_yes rfl rfl ?_
    refine w_pure (y_field rfl) rfl ?_
    refine w_yes rfl rfl ?_
    refine w_pure (y_load_box rfl) rfl ?_
    refine w_yes rfl rfl ?_
    refine w_pure (y_len rfl) rfl ?_
    refine w_yes rfl rfl ?_
    refine w_pure (y_field rfl) rfl ?_
    refine w_yes rfl rfl ?_
    refine w_pure (y_load_box rfl) rfl ?_
    refine w_yes rfl rfl ?_
    refine w_pure (y_len rfl) rfl ?_
    refine w_yes rfl rfl ?_
    refine w_pure (y_add rfl rfl) rfl ?_
    refine w_yes rfl rfl ?_
    refine w_pure (y_ne rfl rfl) rfl ?_
    refine w_pure (y_pick_f rfl rfl) rfl ?_
    refine w_nil ?_
    refine x_next ?_
    (refine c_dec rfl (fun hc65 => ?_) (fun hc65 => ?_) <;> try (first | exact absurd rfl hc65 | contradiction | exact Bool.noConfusion (show false = true from hc65.symm.trans (by assumption)) | exact Bool.noConfusion (show true = false from hc65.symm.trans (by assumption)) | (exfalso; omega) | (exfalso; simp only [*, Bool.not_true, Bool.not_false, reduceCtorEq] at hc65; done)))
    refine c_seq ?_
    refine c_region ?_
    refine w_pure (y_assign rfl) rfl ?_
    refine w_nil ?_
    refine x_next ?_
    refine c_ret ?_
    refine x_then_ret ?_
    rotate_left
    refine c_skip ?_
    refine x_next ?_
    refine c_seq ?_
    refine c_region ?_
    refine w_pure (y_load_boxs rfl) rfl ?_
    refine w_pure (y_field rfl) rfl ?_
    refine w_pure (y_load_box rfl) rfl ?_
    refine w_pure (y_len rfl) rfl ?_
    (refine w_call rfl rfl rfl (iRemoveWire_z _) rfl ?_; rintro _ w71 ⟨d71, ⟨rfl, ⟨hp1_71, hx71⟩⟩⟩)
    have hl_hp1_71 := hp1_71.lt
    have hz_hx71 := hx71.size
    replace hb8 := hb8.ext hx71
    replace hp1_46 := hp1_46.ext hx71
    replace hb5 := hb5.ext hx71
    replace hp1_27 := hp1_27.ext hx71
    replace h0 := h0.ext hx71
    replace h1 := h1.ext hx71
    replace E := E.trans hx71
    refine w_pure (y_move rfl) rfl ?_
    refine w_pure (y_extract rfl rfl) rfl ?_
    refine w_pure (y_extract rfl rfl) rfl ?_
    refine w_alloc (k := fun b10 w10 hb10 hx10 hl10 hs10 => ?_)
    have hz_hx10 := hx10.size
    replace hp1_71 := hp1_71.ext hx10
    replace hb8 := hb8.ext hx10
    replace hp1_46 := hp1_46.ext hx10
    replace hb5 := hb5.ext hx10
    replace hp1_27 := hp1_27.ext hx10
    replace h0 := h0.ext hx10
    replace h1 := h1.ext hx10
    replace E := E.trans hx10
    refine w_store_boxs rfl rfl (next := fun ws68 hbs68 hxs68 hss68 => ?_)
    (replace hb10 := hbs68; clear hbs68)
    have hz_hxs68 := hxs68.size
    replace hp1_71 := hp1_71.chg hxs68 (by omega)
    replace hb8 := hb8.chg hxs68 (by omega)
    replace hp1_46 := hp1_46.chg hxs68 (by omega)
    replace hb5 := hb5.chg hxs68 (by omega)
    replace hp1_27 := hp1_27.chg hxs68 (by omega)
    replace h0 := h0.chg hxs68 (by omega)
    replace h1 := h1.chg hxs68 (by omega)
    replace E := E.next hxs68 (by omega)
    refine w_pure (y_assign rfl) rfl ?_
    refine w_nil ?_
    refine x_next ?_
    refine c_seq ?_
    refine c_seq ?_
    refine c_region ?_
    refine w_pure (y_move rfl) rfl ?_
    refine w_pure (y_ne rfl rfl) rfl ?_
    refine w_pure (y_move rfl) rfl ?_
    refine w_yes rfl rfl ?_
    refine w_pure (y_load_boxs rfl) rfl ?_
    refine w_yes rfl rfl ?_
    refine w_pure (y_load_boxs rfl) rfl ?_
    refine w_yes rfl rfl ?_
    refine w_val rfl rfl rfl (sSameBoard_c) rfl (fun w79 hx79 hz79 => ?_)
    have hz_hx79 := hx79.size
    replace hb10 := hb10.ext hx79
    replace hp1_71 := hp1_71.ext hx79
    replace hb8 := hb8.ext hx79
    replace hp1_46 := hp1_46.ext hx79
    replace hb5 := hb5.ext hx79
    replace hp1_27 := hp1_27.ext hx79
    replace h0 := h0.ext hx79
    replace h1 := h1.ext hx79
    replace E := E.trans hx79
    refine w_yes rfl rfl ?_
    refine w_pure (y_not_dec rfl) rfl ?_
    refine w_pure (y_pick_f rfl rfl) rfl ?_
    refine w_pure (y_move rfl) rfl ?_
    (refine w_part_dec rfl rfl (fun hc83 => ?_) (fun hc83 => ?_) <;> try (first | exact absurd rfl hc83 | contradiction | exact Bool.noConfusion (show false = true from hc83.symm.trans (by assumption)) | exact Bool.noConfusion (show true = false from hc83.symm.trans (by assumption)) | (exfalso; omega) | (exfalso; simp only [*, Bool.not_true, Bool.not_false, reduceCtorEq] at hc83; done)))
    refine w_no rfl rfl rfl rfl ?_
    refine w_no rfl rfl rfl rfl ?_
    refine w_no rfl rfl rfl rfl ?_
    refine w_no rfl rfl rfl rfl ?_
    refine w_pure (y_pick_t rfl rfl) rfl ?_
    refine w_nil ?_
    refine x_next ?_
    refine c_true rfl ?_
    refine c_seq ?_
    refine c_region ?_
    refine w_pure (y_assign rfl) rfl ?_
    refine w_nil ?_
    refine x_next ?_
    refine c_ret ?_
    refine x_then_ret ?_
    rotate_left
    refine w_yes rfl rfl ?_
    refine w_pure (y_load_boxs rfl) rfl ?_
    refine w_yes rfl rfl ?_
    refine w_pure (y_load_boxs rfl) rfl ?_
    refine w_yes rfl rfl ?_
    refine w_val rfl rfl rfl (iSameBoard_c) rfl (fun w85 hx85 hz85 => ?_)
    have hz_hx85 := hx85.size
    replace hb10 := hb10.ext hx85
    replace hp1_71 := hp1_71.ext hx85
    replace hb8 := hb8.ext hx85
    replace hp1_46 := hp1_46.ext hx85
    replace hb5 := hb5.ext hx85
    replace hp1_27 := hp1_27.ext hx85
    replace h0 := h0.ext hx85
    replace h1 := h1.ext hx85
    replace E := E.trans hx85
    refine w_yes rfl rfl ?_
    refine w_pure (y_not_dec rfl) rfl ?_
    refine w_pure (y_pick_f rfl rfl) rfl ?_
    refine w_nil ?_
    refine x_next ?_
    (refine c_dec rfl (fun hc87 => ?_) (fun hc87 => ?_) <;> try (first | exact absurd rfl hc87 | contradiction | exact Bool.noConfusion (show false = true from hc87.symm.trans (by assumption)) | exact Bool.noConfusion (show true = false from hc87.symm.trans (by assumption)) | (exfalso; omega) | (exfalso; simp only [*, Bool.not_true, Bool.not_false, reduceCtorEq] at hc87; done)))
    refine c_skip ?_
    refine x_next ?_
    refine c_seq ?_
    refine c_region ?_
    refine w_pure (y_load_boxs rfl) rfl ?_
    (refine w_call rfl rfl rfl (iNetsOf_z) rfl ?_; rintro _ w90 ⟨d90, ⟨sus90, ⟨rfl, ⟨hp1_90, hx90⟩⟩⟩⟩)
    have hl_hp1_90 := hp1_90.lt
    have hz_hx90 := hx90.size
    replace hb10 := hb10.ext hx90
    replace hp1_71 := hp1_71.ext hx90
    replace hb8 := hb8.ext hx90
    replace hp1_46 := hp1_46.ext hx90
    replace hb5 := hb5.ext hx90
    replace hp1_27 := hp1_27.ext hx90
    replace h0 := h0.ext hx90
    replace h1 := h1.ext hx90
    replace E := E.trans hx90
    refine w_pure (y_move rfl) rfl ?_
    refine w_pure (y_extract rfl rfl) rfl ?_
    refine w_pure (y_extract rfl rfl) rfl ?_
    refine w_pure (y_assign rfl) rfl ?_
    refine w_pure (y_assign rfl) rfl ?_
    refine w_nil ?_
    refine x_next ?_
    refine c_seq ?_
    refine c_region ?_
    refine w_pure (y_load_boxs rfl) rfl ?_
    (refine w_call rfl rfl rfl (iSpareWires_z) rfl ?_; rintro _ w95 ⟨d95, ⟨rfl, ⟨hp1_95, hx95⟩⟩⟩)
    have hl_hp1_95 := hp1_95.lt
    have hz_hx95 := hx95.size
    replace hp1_90 := hp1_90.ext hx95
    replace hb10 := hb10.ext hx95
    replace hp1_71 := hp1_71.ext hx95
    replace hb8 := hb8.ext hx95
    replace hp1_46 := hp1_46.ext hx95
    replace hb5 := hb5.ext hx95
    replace hp1_27 := hp1_27.ext hx95
    replace h0 := h0.ext hx95
    replace h1 := h1.ext hx95
    replace E := E.trans hx95
    refine w_pure (y_move rfl) rfl ?_
    refine w_pure (y_extract rfl rfl) rfl ?_
    refine w_pure (y_extract rfl rfl) rfl ?_
    refine w_pure (y_assign rfl) rfl ?_
    refine w_pure (y_assign rfl) rfl ?_
    refine w_nil ?_
    refine x_next ?_
    refine c_seq ?_
    refine c_seq ?_
    refine c_region ?_
    refine w_pure (y_move rfl) rfl ?_
    refine w_pure (y_ne rfl rfl) rfl ?_
    refine w_pure (y_move rfl) rfl ?_
    refine w_yes rfl rfl ?_
    refine w_pure (y_move rfl) rfl ?_
    refine w_yes rfl rfl ?_
    refine w_pure (y_ne rfl rfl) rfl ?_
    refine w_pure (y_pick_f rfl rfl) rfl ?_
    refine w_nil ?_
    refine x_next ?_
    refine c_false rfl ?_
    refine c_skip ?_
    refine x_next ?_
    refine c_seq ?_
    refine c_region ?_
    refine w_pure (y_load_boxs rfl) rfl ?_
    refine w_alloc (k := fun b16 w16 hb16 hx16 hl16 hs16 => ?_)
    have hz_hx16 := hx16.size
    replace hp1_95 := hp1_95.ext hx16
    replace hp1_90 := hp1_90.ext hx16
    replace hb10 := hb10.ext hx16
    replace hp1_71 := hp1_71.ext hx16
    replace hb8 := hb8.ext hx16
    replace hp1_46 := hp1_46.ext hx16
    replace hb5 := hb5.ext hx16
    replace hp1_27 := hp1_27.ext hx16
    replace h0 := h0.ext hx16
    replace h1 := h1.ext hx16
    replace E := E.trans hx16
    refine w_store_boxs rfl rfl (next := fun ws161 hbs161 hxs161 hss161 => ?_)
    (replace hb16 := hbs161; clear hbs161)
    have hz_hxs161 := hxs161.size
    replace hp1_95 := hp1_95.chg hxs161 (by omega)
    replace hp1_90 := hp1_90.chg hxs161 (by omega)
    replace hb10 := hb10.chg hxs161 (by omega)
    replace hp1_71 := hp1_71.chg hxs161 (by omega)
    replace hb8 := hb8.chg hxs161 (by omega)
    replace hp1_46 := hp1_46.chg hxs161 (by omega)
    replace hb5 := hb5.chg hxs161 (by omega)
    replace hp1_27 := hp1_27.chg hxs161 (by omega)
    replace h0 := h0.chg hxs161 (by omega)
    replace h1 := h1.chg hxs161 (by omega)
    replace E := E.next hxs161 (by omega)
    refine w_nil ?_
    refine x_next ?_
    refine c_seq ?_
    refine c_seq ?_
    refine c_region ?_
    refine w_pure (y_move rfl) rfl ?_
    refine w_pure (y_len rfl) rfl ?_
    refine w_pure (y_sub rfl rfl) rfl ?_
    refine w_pure (y_assign rfl) rfl ?_
    refine w_nil ?_
    refine x_next ?_
    refine c_block ?_
    rotate_left
  · simp at hc65
  · simp at hc83
    exact absurd (remW_snoc ws27 (x, x + 1)) hc83
  clear hc57 hc65 hc83 hc87 hok2 hrs
  have s95 := hp1_95.sl
  have s90 := hp1_90.sll
  have t95 : bH d95 ≤ b16 := by omega
  have t90 := s90.top
  clear hp1_95 hp1_90 hp1_71 hp1_46 hb8 hb10 hb5
  try clear hl_hp1_95
  try clear hl_hp1_90
  try clear hl_hp1_71
  try clear hl_hp1_46
  refine c_loopC b16 (b16 + 1) (ι := Int × Value × List (Int × Int)) (fun x => [(12, d90), (14, d95), (16, ptr b16 0), (17, .int .i64 x.1)])
    (fun x w' => Box w' b16 [.int .i64 e27, .int .i64 n27, .int .i64 j27, x.2.1] ∧ Own w' 76 w25.heap.size x.2.1 x.2.2 ∧ okB e27 n27 j27 x.2.2 = true ∧ SpI (e27 + n27 + j27).toNat ws27 x.2.2 (topS e27 n27 j27 ws27 (x.1 + 1).toNat) ∧ -1 ≤ x.1 ∧ x.1 < (resSpare e27 n27 j27 ws27).length) (fun x => (x.1 + 1).toNat) ((resSpare e27 n27 j27 ws27).length - 1, d27, ws27)
    (by repeat (first | exact trivial | refine ⟨rfl, ?_⟩)) ⟨by assumption, by assumption, by assumption, ?_, by dsimp only; omega, by dsimp only; omega⟩ ?_
  · dsimp only
    rw [topS, if_neg (by omega)]
    exact SpI.zero _ _
  clear hp1_27 hb16
  try clear hl_hp1_27
  rintro ⟨i, u, us⟩ wL hxL EL ⟨hb16, g1, g2, g3, g4, g5⟩
  dsimp only at *
  have hzL := hxL.size
  by_cases hlt : 0 ≤ i
  · have hsp := spare_get (i := i.toNat) hp2_27 (by omega)
    rw [show (i + 1).toNat = i.toNat + 1 by omega] at g3
    have hgl := g3.len
    have g6 := g3.step hsp.2.1 hsp.2.2.2
    focus
      have ht_s95 := s95.top
      have ht_s90 := s90.top
      have hl_g1 := g1.lt
      have ht_g3 := g3.top
      have ht_g6 := g6.top
      have hz_hxL := hxL.size
      replace h0 := h0.chg hxL (by omega)
      replace h1 := h1.chg hxL (by omega)
      replace E := E.next hxL (by omega)
      replace s95 := s95.chg hxL (by omega)
      replace s90 := s90.chg hxL (by omega)
      refine c_seq ?_
      refine c_seq ?_
      refine c_region ?_
      refine w_pure (y_move rfl) rfl ?_
      refine w_pure (y_ge rfl rfl) rfl ?_
      refine w_nil ?_
      refine x_next ?_
      (refine c_dec rfl (fun hc109 => ?_) (fun hc109 => ?_) <;> try (first | exact absurd rfl hc109 | contradiction | exact Bool.noConfusion (show false = true from hc109.symm.trans (by assumption)) | exact Bool.noConfusion (show true = false from hc109.symm.trans (by assumption)) | (exfalso; omega) | (exfalso; simp only [*, Bool.not_true, Bool.not_false, reduceCtorEq] at hc109; done)))
      refine c_skip ?_
      refine x_next ?_
      refine c_seq ?_
      refine c_block ?_
      refine c_seq ?_
      refine c_seq ?_
      refine c_region_calm mixed (by decide +kernel) (by kernel_rfl) ?_
      refine q_pure (y_move rfl) rfl ?_
      refine q_pure (y_move rfl) rfl ?_
      refine q_pure (y_index rfl rfl) rfl ?_
      refine q_pure (y_load_int rfl) rfl ?_
      refine q_pure (y_lt rfl rfl) rfl ?_
      refine q_pure (y_move rfl) rfl ?_
      (refine q_part_dec rfl rfl (fun hc118 => ?_) (fun hc118 => ?_) <;> try (first | exact absurd rfl hc118 | contradiction | exact Bool.noConfusion (show false = true from hc118.symm.trans (by assumption)) | exact Bool.noConfusion (show true = false from hc118.symm.trans (by assumption)) | (exfalso; omega) | (exfalso; simp only [*, Bool.not_true, Bool.not_false, reduceCtorEq] at hc118; done)))
      refine q_yes rfl rfl ?_
      refine q_pure (y_move rfl) rfl ?_
      refine q_yes rfl rfl ?_
      refine q_pure (y_move rfl) rfl ?_
      refine q_yes rfl rfl ?_
      refine q_pure (y_index rfl rfl) rfl ?_
      refine q_yes rfl rfl ?_
      refine q_pure (y_load_int rfl) rfl ?_
      refine q_yes rfl rfl ?_
      refine q_pure (y_field rfl) rfl ?_
      refine q_yes rfl rfl ?_
      refine q_pure (y_load_box rfl) rfl ?_
      refine q_yes rfl rfl ?_
      refine q_pure (y_len rfl) rfl ?_
      refine q_yes rfl rfl ?_
      refine q_pure (y_ge rfl rfl) rfl ?_
      refine q_pure (y_pick_f rfl rfl) rfl ?_
      refine q_nil (fun ws40 hxs40 hzs40 => ?_)
      have hz_hxs40 := hxs40.size
      replace EL := EL.next hxs40 (by omega)
      replace hb16 := hb16.ext hxs40
      replace g1 := g1.ext hxs40
      replace h0 := h0.ext hxs40
      replace h1 := h1.ext hxs40
      replace E := E.trans hxs40
      replace s95 := s95.ext hxs40
      replace s90 := s90.ext hxs40
      refine x_next ?_
      (refine c_dec rfl (fun hc126 => ?_) (fun hc126 => ?_) <;> try (first | exact absurd rfl hc126 | contradiction | exact Bool.noConfusion (show false = true from hc126.symm.trans (by assumption)) | exact Bool.noConfusion (show true = false from hc126.symm.trans (by assumption)) | (exfalso; omega) | (exfalso; simp only [*, Bool.not_true, Bool.not_false, reduceCtorEq] at hc126; done)))
      refine c_skip ?_
      refine x_next ?_
      refine c_seq ?_
      refine c_region_held mixed (fun wr22 hxr22 hzr22 => ?_)
      have hz_hxr22 := hxr22.size
      replace EL := EL.next hxr22 (by omega)
      replace hb16 := hb16.ext hxr22
      replace g1 := g1.ext hxr22
      replace h0 := h0.ext hxr22
      replace h1 := h1.ext hxr22
      replace E := E.trans hxr22
      replace s95 := s95.ext hxr22
      replace s90 := s90.ext hxr22
      refine h_pure rfl (y_load_boxs rfl) rfl ?_
      refine h_pure rfl (y_move rfl) rfl ?_
      refine h_pure rfl (y_move rfl) rfl ?_
      refine h_pure rfl (y_index rfl rfl) rfl ?_
      refine h_pure rfl (y_load_int rfl) rfl ?_
      refine h_maybe1 (p0 := ⟨9, 18, _⟩) (PA.mk_ok rfl rfl rfl) ?_
      refine m1_call (PA.mk_ok rfl rfl rfl) rfl rfl rfl rfl rfl (fun w133m hx133m => ?_)
      have hz_hx133m := hx133m.size
      replace EL := EL.next hx133m (by omega)
      replace hb16 := hb16.ext hx133m
      replace g1 := g1.ext hx133m
      replace h0 := h0.ext hx133m
      replace h1 := h1.ext hx133m
      replace E := E.trans hx133m
      replace s95 := s95.ext hx133m
      replace s90 := s90.ext hx133m
      (refine mc_ret (sRemoveWire_z _) ?_; rintro _ w133 ⟨d133, ⟨rfl, ⟨hp1_133, hx133⟩⟩⟩; refine ⟨hx133, ?_⟩)
      have hl_hp1_133 := hp1_133.lt
      have hz_hx133 := hx133.size
      replace EL := EL.next hx133 (by omega)
      replace hb16 := hb16.ext hx133
      replace g1 := g1.ext hx133
      replace h0 := h0.ext hx133
      replace h1 := h1.ext hx133
      replace E := E.trans hx133
      replace s95 := s95.ext hx133
      replace s90 := s90.ext hx133
      refine m1_pure rfl (y_move rfl) rfl ?_
      refine m1_pure rfl (y_extract rfl rfl) rfl ?_
      refine m1_any rfl (fun _ => y_extract rfl rfl) rfl ?_
      (refine m1_end (PA.mk_ok rfl rfl rfl) ?_; intro w18e hx18e hz18e b18 hb18 hlb18 hg18; simp only [Gaps, and_true] at hg18; have hu18 := hb18.lt)
      have hz_hx18e := hx18e.size
      replace hp1_133 := hp1_133.ext hx18e
      replace EL := EL.next hx18e (by omega)
      replace hb16 := hb16.ext hx18e
      replace g1 := g1.ext hx18e
      replace h0 := h0.ext hx18e
      replace h1 := h1.ext hx18e
      replace E := E.trans hx18e
      replace s95 := s95.ext hx18e
      replace s90 := s90.ext hx18e
      refine h_one rfl ?_
      refine w_store_boxs rfl rfl (next := fun ws60 hbs60 hxs60 hss60 => ?_)
      (replace hb18 := hbs60; clear hbs60)
      have hz_hxs60 := hxs60.size
      replace hp1_133 := hp1_133.chg hxs60 (by omega)
      replace EL := EL.next hxs60 (by omega)
      replace hb16 := hb16.chg hxs60 (by omega)
      replace g1 := g1.chg hxs60 (by omega)
      replace h0 := h0.chg hxs60 (by omega)
      replace h1 := h1.chg hxs60 (by omega)
      replace E := E.next hxs60 (by omega)
      replace s95 := s95.chg hxs60 (by omega)
      replace s90 := s90.chg hxs60 (by omega)
      refine w_nil ?_
      refine x_heldk ?_
      refine h_pure rfl (y_assign rfl) rfl ?_
      refine h_nil ?_
      refine x_next ?_
      refine c_seq ?_
      refine c_seq ?_
      refine c_region ?_
      refine w_pure (y_move rfl) rfl ?_
      refine w_pure (y_ne rfl rfl) rfl ?_
      refine w_nil ?_
      refine x_next ?_
      refine c_false rfl ?_
      refine c_skip ?_
      refine x_next ?_
      refine c_region ?_
      refine w_pure (y_load_boxs rfl) rfl ?_
      refine w_store_boxs rfl rfl (next := fun ws78 hbs78 hxs78 hss78 => ?_)
      (replace hb16 := hbs78; clear hbs78)
      have hz_hxs78 := hxs78.size
      replace hb18 := hb18.chg hxs78 (by omega)
      replace hp1_133 := hp1_133.chg hxs78 (by omega)
      replace EL := EL.trans hxs78
      replace h0 := h0.chg hxs78 (by omega)
      replace h1 := h1.chg hxs78 (by omega)
      replace E := E.next hxs78 (by omega)
      replace s95 := s95.chg hxs78 (by omega)
      replace s90 := s90.chg hxs78 (by omega)
      refine w_nil ?_
      refine x_block_norm ?_
      refine x_next ?_
      refine c_region ?_
      refine w_pure (y_move rfl) rfl ?_
      refine w_pure (y_sub rfl rfl) rfl ?_
      refine w_pure (y_assign rfl) rfl ?_
      refine w_nil ?_
      rotate_left
    refine x_again (i - 1, d133, remW us ((resSpare e27 n27 j27 ws27).getD i.toNat 0).toNat) (by repeat (first | exact trivial | refine ⟨rfl, ?_⟩)) ⟨EL.go, by assumption, Own.base (by assumption) (by omega), remW_okB g2 (by omega), ?_, by dsimp only; omega, by dsimp only; omega⟩ (by dsimp only; omega)
    dsimp only
    rw [show (i - 1 + 1).toNat = i.toNat by omega, ← hsp.2.2.1]
    exact g6
  · have hn := resNets_same hp2_27 g2 g3.rt
    have hnb := (resNets_bd e27 n27 j27 ws27).2
    focus
      have ht_s95 := s95.top
      have ht_s90 := s90.top
      have hl_g1 := g1.lt
      have ht_g3 := g3.top
      have hz_hxL := hxL.size
      replace h0 := h0.chg hxL (by omega)
      replace h1 := h1.chg hxL (by omega)
      replace E := E.next hxL (by omega)
      replace s95 := s95.chg hxL (by omega)
      replace s90 := s90.chg hxL (by omega)
      refine c_seq ?_
      refine c_seq ?_
      refine c_region ?_
      refine w_pure (y_move rfl) rfl ?_
      refine w_pure (y_ge rfl rfl) rfl ?_
      refine w_nil ?_
      refine x_next ?_
      (refine c_dec rfl (fun hc109 => ?_) (fun hc109 => ?_) <;> try (first | exact absurd rfl hc109 | contradiction | exact Bool.noConfusion (show false = true from hc109.symm.trans (by assumption)) | exact Bool.noConfusion (show true = false from hc109.symm.trans (by assumption)) | (exfalso; omega) | (exfalso; simp only [*, Bool.not_true, Bool.not_false, reduceCtorEq] at hc109; done)))
      refine c_exit ?_
      refine x_then_exit ?_
      refine x_then_exit ?_
      refine x_block_hit ?_
      refine x_next ?_
      refine c_seq ?_
      refine c_region ?_
      refine w_pure (y_load_boxs rfl) rfl ?_
      (refine w_call rfl rfl rfl (sNetsOf_z) rfl ?_; rintro _ w141 ⟨d141, ⟨sus141, ⟨rfl, ⟨hp1_141, hx141⟩⟩⟩⟩)
      have hl_hp1_141 := hp1_141.lt
      have hz_hx141 := hx141.size
      replace EL := EL.next hx141 (by omega)
      replace hb16 := hb16.ext hx141
      replace g1 := g1.ext hx141
      replace h0 := h0.ext hx141
      replace h1 := h1.ext hx141
      replace E := E.trans hx141
      replace s95 := s95.ext hx141
      replace s90 := s90.ext hx141
      refine w_pure (y_move rfl) rfl ?_
      refine w_pure (y_extract rfl rfl) rfl ?_
      refine w_pure (y_extract rfl rfl) rfl ?_
      refine w_pure (y_assign rfl) rfl ?_
      refine w_pure (y_assign rfl) rfl ?_
      refine w_nil ?_
      refine x_next ?_
      refine c_seq ?_
      refine c_seq ?_
      refine c_region ?_
      refine w_pure (y_move rfl) rfl ?_
      refine w_pure (y_ne rfl rfl) rfl ?_
      refine w_pure (y_move rfl) rfl ?_
      refine w_yes rfl rfl ?_
      refine w_pure (y_move rfl) rfl ?_
      refine w_yes rfl rfl ?_
      refine w_pure (y_lend rfl) rfl ?_
      refine w_yes rfl rfl ?_
      refine w_pure (y_move rfl) rfl ?_
      refine w_yes rfl rfl ?_
      refine w_pure (y_lend rfl) rfl ?_
      refine w_yes rfl rfl ?_
      refine w_pure (y_ne rfl rfl) rfl ?_
      refine w_pure (y_pick_f rfl rfl) rfl ?_
      refine w_nil ?_
      refine x_next ?_
      (refine c_dec rfl (fun hc152 => ?_) (fun hc152 => ?_) <;> try (first | exact absurd rfl hc152 | contradiction | exact Bool.noConfusion (show false = true from hc152.symm.trans (by assumption)) | exact Bool.noConfusion (show true = false from hc152.symm.trans (by assumption)) | (exfalso; omega) | (exfalso; simp only [*, Bool.not_true, Bool.not_false, reduceCtorEq] at hc152; done)))
      refine c_seq ?_
      refine c_region ?_
      refine w_pure (y_assign rfl) rfl ?_
      refine w_nil ?_
      refine x_next ?_
      refine c_ret ?_
      refine x_then_ret ?_
      rotate_left
      refine c_skip ?_
      refine x_next ?_
      refine c_seq ?_
      refine c_seq ?_
      refine c_region ?_
      refine w_pure (y_assign rfl) rfl ?_
      refine w_nil ?_
      refine x_next ?_
      refine c_block ?_
      rotate_left
    all_goals rw [hn] at hp1_141 hc152
    · exact absurd rfl hc152
    have s141 := hp1_141.sll
    clear hp1_141 g1
    try clear hl_hp1_141
    try clear hl_g1
    refine c_loopC 0 0 (ι := Int) (fun x => [(12, d90), (20, d141), (22, .int .i64 x)]) (fun x w' => 0 ≤ x ∧ x ≤ (resNets e27 n27 j27 ws27).length) (fun x => ((resNets e27 n27 j27 ws27).length - x).toNat) 0 (by repeat (first | exact trivial | refine ⟨rfl, ?_⟩)) ⟨by omega, by omega⟩ ?_
    rintro y wK hxK EK ⟨hy0, hy1⟩
    have hzK := hxK.size
    by_cases hly : y < (resNets e27 n27 j27 ws27).length
    · focus
        have ht_s141 := s141.top
        have hz_hxK := hxK.size
        replace EL := EL.next hxK (by omega)
        replace hb16 := hb16.ext hxK
        replace h0 := h0.ext hxK
        replace h1 := h1.ext hxK
        replace E := E.trans hxK
        replace s95 := s95.ext hxK
        replace s90 := s90.ext hxK
        replace s141 := s141.ext hxK
        refine c_seq ?_
        refine c_seq ?_
        refine c_region ?_
        refine w_pure (y_move rfl) rfl ?_
        refine w_pure (y_move rfl) rfl ?_
        refine w_pure (y_lend rfl) rfl ?_
        refine w_pure (y_lt rfl rfl) rfl ?_
        refine w_nil ?_
        refine x_next ?_
        (refine c_dec rfl (fun hc156 => ?_) (fun hc156 => ?_) <;> try (first | exact absurd rfl hc156 | contradiction | exact Bool.noConfusion (show false = true from hc156.symm.trans (by assumption)) | exact Bool.noConfusion (show true = false from hc156.symm.trans (by assumption)) | (exfalso; omega) | (exfalso; simp only [*, Bool.not_true, Bool.not_false, reduceCtorEq] at hc156; done)))
        refine c_skip ?_
        refine x_next ?_
        refine c_seq ?_
        refine c_block ?_
        refine c_seq ?_
        refine c_region_held mixed (fun wr32 hxr32 hzr32 => ?_)
        have hz_hxr32 := hxr32.size
        replace EK := EK.trans hxr32
        replace EL := EL.next hxr32 (by omega)
        replace hb16 := hb16.ext hxr32
        replace h0 := h0.ext hxr32
        replace h1 := h1.ext hxr32
        replace E := E.trans hxr32
        replace s95 := s95.ext hxr32
        replace s90 := s90.ext hxr32
        replace s141 := s141.ext hxr32
        refine h_pure rfl (y_move rfl) rfl ?_
        refine h_pure rfl (y_move rfl) rfl ?_
        refine h_pure rfl (y_indexd rfl rfl) rfl ?_
        refine h_pure rfl (y_load rfl) rfl ?_
        refine h_pure rfl (y_move rfl) rfl ?_
        refine h_pure rfl (y_move rfl) rfl ?_
        refine h_pure rfl (y_indexd rfl rfl) rfl ?_
        refine h_pure rfl (y_load rfl) rfl ?_
        refine h_one rfl ?_
        refine w_val rfl rfl rfl (a2Same_c) rfl (fun w167 hx167 hz167 => ?_)
        have hz_hx167 := hx167.size
        replace EK := EK.trans hx167
        replace EL := EL.next hx167 (by omega)
        replace hb16 := hb16.ext hx167
        replace h0 := h0.ext hx167
        replace h1 := h1.ext hx167
        replace E := E.trans hx167
        replace s95 := s95.ext hx167
        replace s90 := s90.ext hx167
        replace s141 := s141.ext hx167
        refine w_nil ?_
        refine x_held ?_
        refine h_pure rfl (y_not_dec rfl) rfl ?_
        refine h_nil ?_
        refine x_next ?_
        refine c_nsame rfl ?_
        refine c_skip ?_
        refine x_block_norm ?_
        refine x_next ?_
        refine c_region ?_
        refine w_pure (y_move rfl) rfl ?_
        refine w_pure (y_add rfl rfl) rfl ?_
        refine w_pure (y_assign rfl) rfl ?_
        refine w_nil ?_
        rotate_left
      exact x_again (y + 1) (by repeat (first | exact trivial | refine ⟨rfl, ?_⟩)) ⟨EK.go, by omega, by omega⟩ (by omega)
    · focus
        have ht_s141 := s141.top
        have hz_hxK := hxK.size
        replace EL := EL.next hxK (by omega)
        replace hb16 := hb16.ext hxK
        replace h0 := h0.ext hxK
        replace h1 := h1.ext hxK
        replace E := E.trans hxK
        replace s95 := s95.ext hxK
        replace s90 := s90.ext hxK
        replace s141 := s141.ext hxK
        refine c_seq ?_
        refine c_seq ?_
        refine c_region ?_
        refine w_pure (y_move rfl) rfl ?_
        refine w_pure (y_move rfl) rfl ?_
        refine w_pure (y_lend rfl) rfl ?_
        refine w_pure (y_lt rfl rfl) rfl ?_
        refine w_nil ?_
        refine x_next ?_
        (refine c_dec rfl (fun hc156 => ?_) (fun hc156 => ?_) <;> try (first | exact absurd rfl hc156 | contradiction | exact Bool.noConfusion (show false = true from hc156.symm.trans (by assumption)) | exact Bool.noConfusion (show true = false from hc156.symm.trans (by assumption)) | (exfalso; omega) | (exfalso; simp only [*, Bool.not_true, Bool.not_false, reduceCtorEq] at hc156; done)))
        refine c_exit ?_
        refine x_then_exit ?_
        refine x_then_exit ?_
        refine x_block_hit ?_
        refine x_next ?_
        refine c_seq ?_
        refine c_region ?_
        refine w_pure (y_assign rfl) rfl ?_
        refine w_nil ?_
        refine x_next ?_
        refine c_ret ?_
        rotate_left
      exact x_retv [_] rfl ⟨rfl, trivial⟩ ⟨rfl, E.go⟩
end
end Go.Proofs.Ythigkbkaeopipaa

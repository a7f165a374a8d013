/- The walks of the law on pairs of exits that are joined. -/
import Derived.Test.YtcpglpegjdpliaaBrdH
import Derived.Test.YtcpglpegjdpliaaOpen
namespace Go.Proofs.Ytcpglpegjdpliaa
open Go Go.Gw
set_option linter.unusedVariables false
set_option linter.unusedSimpArgs false
theorem lSneakPairs (w0 : World) (x0 : { x : OBd // x.ok w0 }) : Ret Try.prog 4 [.agg #[.int .i64 x0.1.e, .int .i64 x0.1.n, .int .i64 x0.1.j, x0.1.v]] w0 fun u w' => u = .bool true ∧ Ext w0 w' := by
  obtain ⟨⟨e0, n0, j0, v0, ws0⟩, hok0⟩ := x0
  have s0 : SL w0 0 w0.heap.size v0 ws0 := hok0.sl
  have r0 := hok0.in64
  have re0 : In64 e0 := hok0.e
  have rn0 : In64 n0 := hok0.n
  have rj0 : In64 j0 := hok0.j
  show Ret _ _ [.agg #[.int .i64 e0, .int .i64 n0, .int .i64 j0, v0]] w0 _
  clear hok0
  have E : Since 0 0 w0 w0 := Since.refl 0 0 w0
  have hb := resPair_bd e0 n0 j0 ws0
  refine ret_enter Try.func4 rfl Try.ntmps4 rfl ?_
  focus
    refine c_seq ?_
    refine c_region ?_
    refine w_box rfl (k := fun b1 w1 hb1 hx1 hl1 hs1 => ?_)
    have hz_hx1 := hx1.size
    replace s0 := s0.ext hx1
    replace E := E.trans hx1
    refine w_pure (y_assign rfl) rfl ?_
    refine w_nil ?_
    refine x_next ?_
    refine c_seq ?_
    refine c_region ?_
    refine w_pure (y_assign rfl) rfl ?_
    refine w_nil ?_
    refine x_next ?_
    refine c_seq ?_
    refine c_region ?_
    refine w_pure (y_load_boxs rfl) rfl ?_
    refine w_pure (y_move rfl) rfl ?_
    (refine w_call rfl rfl rfl (szBoard_z) rfl ?_; rintro _ w16 ⟨z16, ⟨rfl, ⟨hp1_16, hx16⟩⟩⟩)
    have hz_hx16 := hx16.size
    replace hb1 := hb1.ext hx16
    replace s0 := s0.ext hx16
    replace E := E.trans hx16
    refine w_pure (y_assign rfl) rfl ?_
    refine w_nil ?_
    refine x_next ?_
    refine c_seq ?_
    refine c_seq ?_
    refine c_region ?_
    refine w_pure (y_move rfl) rfl ?_
    refine w_pure (y_lt rfl rfl) rfl ?_
    refine w_nil ?_
    refine x_next ?_
    (refine c_dec rfl (fun hc18 => ?_) (fun hc18 => ?_) <;> try (first | exact absurd rfl hc18 | contradiction | exact Bool.noConfusion (show false = true from hc18.symm.trans (by assumption)) | exact Bool.noConfusion (show true = false from hc18.symm.trans (by assumption)) | (exfalso; omega) | (exfalso; simp only [*, Bool.not_true, Bool.not_false, reduceCtorEq] at hc18; done)))
    refine c_seq ?_
    refine c_region ?_
    refine w_pure (y_assign rfl) rfl ?_
    refine w_nil ?_
    refine x_next ?_
    refine c_ret ?_
    refine x_then_ret ?_
    exact x_retv [_] rfl ⟨rfl, trivial⟩ ⟨rfl, E.go⟩
    refine c_skip ?_
    refine x_next ?_
    refine c_seq ?_
    refine c_region ?_
    refine w_pure (y_load_boxs rfl) rfl ?_
    (refine w_call rfl rfl rfl (toBoard_c) rfl ?_; rintro _ w21 ⟨d21, ⟨rfl, ⟨hp1_21, hx21⟩⟩⟩)
    have hz_hx21 := hx21.size
    replace hb1 := hb1.ext hx21
    replace s0 := s0.ext hx21
    replace E := E.trans hx21
    replace hp1_21 := hp1_21.fresh
    (refine w_call rfl rfl rfl (sSneakPairs_c) rfl ?_; rintro _ w22 ⟨d22, ⟨sus22, ⟨rfl, ⟨hp1_22, hx22⟩⟩⟩⟩)
    have hz_hx22 := hx22.size
    replace hb1 := hb1.ext hx22
    replace s0 := s0.ext hx22
    replace E := E.trans hx22
    replace hp1_21 := hp1_21.ext hx22
    refine w_pure (y_move rfl) rfl ?_
    refine w_pure (y_extract rfl rfl) rfl ?_
    refine w_pure (y_extract rfl rfl) rfl ?_
    refine w_pure (y_assign rfl) rfl ?_
    refine w_pure (y_assign rfl) rfl ?_
    refine w_nil ?_
    refine x_next ?_
    refine c_seq ?_
    refine c_region ?_
    refine w_pure (y_load_boxs rfl) rfl ?_
    (refine w_call rfl rfl rfl (toBoard_c) rfl ?_; rintro _ w26 ⟨d26, ⟨rfl, ⟨hp1_26, hx26⟩⟩⟩)
    have hz_hx26 := hx26.size
    replace hp1_22 := hp1_22.ext hx26
    replace hb1 := hb1.ext hx26
    replace s0 := s0.ext hx26
    replace E := E.trans hx26
    replace hp1_21 := hp1_21.ext hx26
    replace hp1_26 := hp1_26.fresh
    refine w_alloc (k := fun b6 w6 hb6 hx6 hl6 hs6 => ?_)
    have hz_hx6 := hx6.size
    replace hp1_22 := hp1_22.ext hx6
    replace hb1 := hb1.ext hx6
    replace s0 := s0.ext hx6
    replace E := E.trans hx6
    replace hp1_21 := hp1_21.ext hx6
    replace hp1_26 := hp1_26.ext hx6
    refine w_store_boxs rfl rfl (next := fun ws55 hbs55 hxs55 hss55 => ?_)
    (replace hb6 := hbs55; clear hbs55)
    have hz_hxs55 := hxs55.size
    replace hp1_22 := hp1_22.chg hxs55 (by omega)
    replace hb1 := hb1.chg hxs55 (by omega)
    replace s0 := s0.chg hxs55 (by omega)
    replace E := E.next hxs55 (by omega)
    replace hp1_21 := hp1_21.chg hxs55 (by omega)
    replace hp1_26 := hp1_26.chg hxs55 (by omega)
    refine w_nil ?_
    refine x_next ?_
    refine c_seq ?_
    refine c_region ?_
    refine w_pure (y_load_boxs rfl) rfl ?_
    (refine w_call rfl rfl rfl (iSneakPairs_c) rfl ?_; rintro _ w29 ⟨d29, ⟨sus29, ⟨rfl, ⟨hp1_29, hx29⟩⟩⟩⟩)
    have hz_hx29 := hx29.size
    replace hb6 := hb6.ext hx29
    replace hp1_22 := hp1_22.ext hx29
    replace hb1 := hb1.ext hx29
    replace s0 := s0.ext hx29
    replace E := E.trans hx29
    replace hp1_21 := hp1_21.ext hx29
    replace hp1_26 := hp1_26.ext hx29
    refine w_pure (y_move rfl) rfl ?_
    refine w_pure (y_extract rfl rfl) rfl ?_
    refine w_pure (y_extract rfl rfl) rfl ?_
    refine w_pure (y_assign rfl) rfl ?_
    refine w_pure (y_assign rfl) rfl ?_
    refine w_nil ?_
    refine x_next ?_
    refine c_seq ?_
    refine c_seq ?_
    refine c_region ?_
    refine w_pure (y_move rfl) rfl ?_
    refine w_pure (y_move rfl) rfl ?_
    refine w_val rfl rfl rfl (eqInt64SS_c) rfl (fun w34 hx34 hz34 => ?_)
    have hz_hx34 := hx34.size
    replace hp1_29 := hp1_29.ext hx34
    replace hb6 := hb6.ext hx34
    replace hp1_22 := hp1_22.ext hx34
    replace hb1 := hb1.ext hx34
    replace s0 := s0.ext hx34
    replace E := E.trans hx34
    replace hp1_21 := hp1_21.ext hx34
    replace hp1_26 := hp1_26.ext hx34
    refine w_pure (y_not_dec rfl) rfl ?_
    refine w_pure (y_move rfl) rfl ?_
    (refine w_part_dec rfl rfl (fun hc37 => ?_) (fun hc37 => ?_) <;> try (first | exact absurd rfl hc37 | contradiction | exact Bool.noConfusion (show false = true from hc37.symm.trans (by assumption)) | exact Bool.noConfusion (show true = false from hc37.symm.trans (by assumption)) | (exfalso; omega) | (exfalso; simp only [*, Bool.not_true, Bool.not_false, reduceCtorEq] at hc37; done)))
    refine w_yes rfl rfl ?_
    refine w_pure (y_move rfl) rfl ?_
    refine w_yes rfl rfl ?_
    refine w_pure (y_move rfl) rfl ?_
    refine w_yes rfl rfl ?_
    refine w_pure (y_ne rfl rfl) rfl ?_
    refine w_pure (y_pick_f rfl rfl) rfl ?_
    refine w_nil ?_
    refine x_next ?_
    refine c_nsame rfl ?_
    refine c_skip ?_
    refine x_next ?_
    refine c_seq ?_
    refine c_seq ?_
    refine c_region_held mixed (fun wr10 hxr10 hzr10 => ?_)
    have hz_hxr10 := hxr10.size
    replace hp1_29 := hp1_29.ext hxr10
    replace hb6 := hb6.ext hxr10
    replace hp1_22 := hp1_22.ext hxr10
    replace hb1 := hb1.ext hxr10
    replace s0 := s0.ext hxr10
    replace E := E.trans hxr10
    replace hp1_21 := hp1_21.ext hxr10
    replace hp1_26 := hp1_26.ext hxr10
    refine h_pure rfl (y_load_boxs rfl) rfl ?_
    refine h_pure rfl (y_load_boxs rfl) rfl ?_
    refine h_one rfl ?_
    (refine w_call rfl rfl rfl (toBoard_c) rfl ?_; rintro _ w43 ⟨d43, ⟨rfl, ⟨hp1_43, hx43⟩⟩⟩)
    have hz_hx43 := hx43.size
    replace hp1_29 := hp1_29.ext hx43
    replace hb6 := hb6.ext hx43
    replace hp1_22 := hp1_22.ext hx43
    replace hb1 := hb1.ext hx43
    replace s0 := s0.ext hx43
    replace E := E.trans hx43
    replace hp1_21 := hp1_21.ext hx43
    replace hp1_26 := hp1_26.ext hx43
    replace hp1_43 := hp1_43.fresh
    refine w_nil ?_
    refine x_held ?_
    refine h_one rfl ?_
    refine w_val rfl rfl rfl (eqBoard_c) rfl (fun w44 hx44 hz44 => ?_)
    have hz_hx44 := hx44.size
    replace hp1_29 := hp1_29.ext hx44
    replace hb6 := hb6.ext hx44
    replace hp1_22 := hp1_22.ext hx44
    replace hb1 := hb1.ext hx44
    replace s0 := s0.ext hx44
    replace E := E.trans hx44
    replace hp1_21 := hp1_21.ext hx44
    replace hp1_26 := hp1_26.ext hx44
    replace hp1_43 := hp1_43.ext hx44
    refine w_nil ?_
    refine x_held ?_
    refine h_pure rfl (y_not_dec rfl) rfl ?_
    refine h_nil ?_
    refine x_next ?_
    refine c_nsame rfl ?_
    refine c_skip ?_
    refine x_next ?_
    refine c_seq ?_
    refine c_region ?_
    refine w_pure (y_assign rfl) rfl ?_
    refine w_nil ?_
    refine x_next ?_
    refine c_seq ?_
    refine c_region ?_
    refine w_pure (y_load_boxs rfl) rfl ?_
    refine w_pure (y_move rfl) rfl ?_
    (refine w_call rfl rfl rfl (markBoard_c) rfl ?_; rintro _ w48 ⟨rfl, ⟨hp1_48, hx48⟩⟩)
    have hz_hx48 := hx48.size
    replace hp1_29 := hp1_29.chg hx48 (by omega)
    replace hb6 := hb6.chg hx48 (by omega)
    replace hp1_22 := hp1_22.chg hx48 (by omega)
    replace hb1 := hb1.chg hx48 (by omega)
    replace s0 := s0.chg hx48 (by omega)
    replace E := E.next hx48 (by omega)
    replace hp1_21 := hp1_21.chg hx48 (by omega)
    replace hp1_43 := hp1_43.chg hx48 (by omega)
    refine w_pure (y_assign rfl) rfl ?_
    refine w_nil ?_
    refine x_next ?_
    refine c_seq ?_
    refine c_seq ?_
    refine c_region ?_
    refine w_pure (y_move rfl) rfl ?_
    refine w_pure (y_lt rfl rfl) rfl ?_
    refine w_pure (y_move rfl) rfl ?_
    refine w_yes rfl rfl ?_
    refine w_pure (y_move rfl) rfl ?_
    refine w_yes rfl rfl ?_
    refine w_pure (y_move rfl) rfl ?_
    refine w_yes rfl rfl ?_
    refine w_val rfl rfl rfl (eqInt64SS_c) rfl (fun w54 hx54 hz54 => ?_)
    have hz_hx54 := hx54.size
    replace hp1_48 := hp1_48.ext hx54
    replace hp1_29 := hp1_29.ext hx54
    replace hb6 := hb6.ext hx54
    replace hp1_22 := hp1_22.ext hx54
    replace hb1 := hb1.ext hx54
    replace s0 := s0.ext hx54
    replace E := E.trans hx54
    replace hp1_21 := hp1_21.ext hx54
    replace hp1_43 := hp1_43.ext hx54
    refine w_yes rfl rfl ?_
    refine w_pure (y_not_dec rfl) rfl ?_
    refine w_pure (y_pick_f rfl rfl) rfl ?_
    refine w_pure (y_move rfl) rfl ?_
    (refine w_part_dec rfl rfl (fun hc58 => ?_) (fun hc58 => ?_) <;> try (first | exact absurd rfl hc58 | contradiction | exact Bool.noConfusion (show false = true from hc58.symm.trans (by assumption)) | exact Bool.noConfusion (show true = false from hc58.symm.trans (by assumption)) | (exfalso; omega) | (exfalso; simp only [*, Bool.not_true, Bool.not_false, reduceCtorEq] at hc58; done)))
    refine w_yes rfl rfl ?_
    refine w_pure (y_move rfl) rfl ?_
    refine w_yes rfl rfl ?_
    refine w_pure (y_move rfl) rfl ?_
    refine w_yes rfl rfl ?_
    refine w_pure (y_ne rfl rfl) rfl ?_
    refine w_pure (y_pick_f rfl rfl) rfl ?_
    refine w_nil ?_
    refine x_next ?_
    refine c_nsame rfl ?_
    refine c_skip ?_
    refine x_next ?_
    refine c_seq ?_
    refine c_region ?_
    refine w_pure (y_assign rfl) rfl ?_
    refine w_nil ?_
    refine x_next ?_
    refine c_seq ?_
    refine c_region ?_
    refine w_pure (y_move rfl) rfl ?_
    refine w_pure (y_move rfl) rfl ?_
    (refine w_call rfl rfl rfl (markInt64SS_c) rfl ?_; rintro _ w64 ⟨rfl, ⟨hp1_64, hx64⟩⟩)
    have hz_hx64 := hx64.size
    replace hp1_48 := hp1_48.chg hx64 (by omega)
    replace hb6 := hb6.chg hx64 (by omega)
    replace hp1_22 := hp1_22.chg hx64 (by omega)
    replace hb1 := hb1.chg hx64 (by omega)
    replace s0 := s0.chg hx64 (by omega)
    replace E := E.next hx64 (by omega)
    replace hp1_21 := hp1_21.chg hx64 (by omega)
    replace hp1_43 := hp1_43.chg hx64 (by omega)
    refine w_pure (y_assign rfl) rfl ?_
    refine w_nil ?_
    refine x_next ?_
    refine c_seq ?_
    refine c_region ?_
    refine w_pure (y_assign rfl) rfl ?_
    refine w_nil ?_
    refine x_next ?_
    refine c_seq ?_
    refine c_region ?_
    refine w_pure (y_move rfl) rfl ?_
    refine w_pure (y_move rfl) rfl ?_
    refine w_val rfl rfl rfl (heldInt64SS_c) rfl (fun w67 hx67 hz67 => ?_)
    have hz_hx67 := hx67.size
    replace hp1_64 := hp1_64.ext hx67
    replace hp1_48 := hp1_48.ext hx67
    replace hb6 := hb6.ext hx67
    replace hp1_22 := hp1_22.ext hx67
    replace hb1 := hb1.ext hx67
    replace s0 := s0.ext hx67
    replace E := E.trans hx67
    replace hp1_21 := hp1_21.ext hx67
    replace hp1_43 := hp1_43.ext hx67
    refine w_pure (y_assign rfl) rfl ?_
    refine w_nil ?_
    refine x_next ?_
    refine c_seq ?_
    refine c_seq ?_
    refine c_region ?_
    refine w_pure (y_move rfl) rfl ?_
    refine w_pure (y_lt rfl rfl) rfl ?_
    refine w_nil ?_
    refine x_next ?_
    refine c_false rfl ?_
    refine c_skip ?_
    refine x_next ?_
    refine c_seq ?_
    refine c_seq ?_
    refine c_region ?_
    refine w_pure (y_move rfl) rfl ?_
    refine w_pure (y_move rfl) rfl ?_
    refine w_pure (y_ne rfl rfl) rfl ?_
    refine w_nil ?_
    refine x_next ?_
    refine c_nsame rfl ?_
    refine c_skip ?_
    refine x_next ?_
    refine c_seq ?_
    refine c_region ?_
    refine w_pure (y_load_boxs rfl) rfl ?_
    (refine w_call rfl rfl rfl (toBoard_c) rfl ?_; rintro _ w75 ⟨d75, ⟨rfl, ⟨hp1_75, hx75⟩⟩⟩)
    have hz_hx75 := hx75.size
    replace hp1_64 := hp1_64.ext hx75
    replace hp1_48 := hp1_48.ext hx75
    replace hb6 := hb6.ext hx75
    replace hp1_22 := hp1_22.ext hx75
    replace hb1 := hb1.ext hx75
    replace s0 := s0.ext hx75
    replace E := E.trans hx75
    replace hp1_21 := hp1_21.ext hx75
    replace hp1_43 := hp1_43.ext hx75
    replace hp1_75 := hp1_75.fresh
    (refine w_call rfl rfl rfl (iSneakPairs_c) rfl ?_; rintro _ w76 ⟨d76, ⟨sus76, ⟨rfl, ⟨hp1_76, hx76⟩⟩⟩⟩)
    have hz_hx76 := hx76.size
    replace hp1_64 := hp1_64.ext hx76
    replace hp1_48 := hp1_48.ext hx76
    replace hb6 := hb6.ext hx76
    replace hp1_22 := hp1_22.ext hx76
    replace hb1 := hb1.ext hx76
    replace s0 := s0.ext hx76
    replace E := E.trans hx76
    replace hp1_21 := hp1_21.ext hx76
    replace hp1_43 := hp1_43.ext hx76
    replace hp1_75 := hp1_75.ext hx76
    refine w_pure (y_move rfl) rfl ?_
    refine w_pure (y_extract rfl rfl) rfl ?_
    refine w_pure (y_extract rfl rfl) rfl ?_
    refine w_pure (y_assign rfl) rfl ?_
    refine w_pure (y_assign rfl) rfl ?_
    refine w_nil ?_
    refine x_next ?_
    refine c_seq ?_
    refine c_seq ?_
    refine c_region ?_
    refine w_pure (y_move rfl) rfl ?_
    refine w_pure (y_move rfl) rfl ?_
    refine w_val rfl rfl rfl (eqInt64SS_c) rfl (fun w81 hx81 hz81 => ?_)
    have hz_hx81 := hx81.size
    replace hp1_76 := hp1_76.ext hx81
    replace hp1_64 := hp1_64.ext hx81
    replace hp1_48 := hp1_48.ext hx81
    replace hb6 := hb6.ext hx81
    replace hp1_22 := hp1_22.ext hx81
    replace hb1 := hb1.ext hx81
    replace s0 := s0.ext hx81
    replace E := E.trans hx81
    replace hp1_21 := hp1_21.ext hx81
    replace hp1_43 := hp1_43.ext hx81
    replace hp1_75 := hp1_75.ext hx81
    refine w_pure (y_not_dec rfl) rfl ?_
    refine w_pure (y_move rfl) rfl ?_
    (refine w_part_dec rfl rfl (fun hc84 => ?_) (fun hc84 => ?_) <;> try (first | exact absurd rfl hc84 | contradiction | exact Bool.noConfusion (show false = true from hc84.symm.trans (by assumption)) | exact Bool.noConfusion (show true = false from hc84.symm.trans (by assumption)) | (exfalso; omega) | (exfalso; simp only [*, Bool.not_true, Bool.not_false, reduceCtorEq] at hc84; done)))
    refine w_yes rfl rfl ?_
    refine w_pure (y_move rfl) rfl ?_
    refine w_yes rfl rfl ?_
    refine w_pure (y_move rfl) rfl ?_
    refine w_yes rfl rfl ?_
    refine w_pure (y_ne rfl rfl) rfl ?_
    refine w_pure (y_pick_f rfl rfl) rfl ?_
    refine w_nil ?_
    refine x_next ?_
    refine c_nsame rfl ?_
    refine c_skip ?_
    refine x_next ?_
    refine c_seq ?_
    refine c_region ?_
    refine w_pure (y_assign rfl) rfl ?_
    refine w_nil ?_
    refine x_next ?_
    refine c_seq ?_
    refine c_region ?_
    refine w_pure (y_move rfl) rfl ?_
    refine w_pure (y_move rfl) rfl ?_
    refine w_val rfl rfl rfl (heldInt64SS_c) rfl (fun w90 hx90 hz90 => ?_)
    have hz_hx90 := hx90.size
    replace hp1_76 := hp1_76.ext hx90
    replace hp1_64 := hp1_64.ext hx90
    replace hp1_48 := hp1_48.ext hx90
    replace hb6 := hb6.ext hx90
    replace hp1_22 := hp1_22.ext hx90
    replace hb1 := hb1.ext hx90
    replace s0 := s0.ext hx90
    replace E := E.trans hx90
    replace hp1_21 := hp1_21.ext hx90
    replace hp1_43 := hp1_43.ext hx90
    replace hp1_75 := hp1_75.ext hx90
    refine w_pure (y_assign rfl) rfl ?_
    refine w_nil ?_
    refine x_next ?_
    refine c_seq ?_
    refine c_seq ?_
    refine c_region ?_
    refine w_pure (y_move rfl) rfl ?_
    refine w_pure (y_lt rfl rfl) rfl ?_
    refine w_nil ?_
    refine x_next ?_
    refine c_false rfl ?_
    refine c_skip ?_
    refine x_next ?_
    refine c_seq ?_
    refine c_seq ?_
    refine c_region ?_
    refine w_pure (y_move rfl) rfl ?_
    refine w_pure (y_move rfl) rfl ?_
    refine w_pure (y_ne rfl rfl) rfl ?_
    refine w_nil ?_
    refine x_next ?_
    refine c_nsame rfl ?_
    refine c_skip ?_
    refine x_next ?_
    refine c_seq ?_
    refine c_region ?_
    refine w_pure (y_assign rfl) rfl ?_
    refine w_nil ?_
    refine x_next ?_
    refine c_ret ?_
    exact x_retv [_] rfl ⟨rfl, trivial⟩ ⟨rfl, E.go⟩
end Go.Proofs.Ytcpglpegjdpliaa

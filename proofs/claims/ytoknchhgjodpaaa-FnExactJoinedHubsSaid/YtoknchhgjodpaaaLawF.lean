/- The walks of the laws on joined hubs and sources. -/
import Derived.Test.YtoknchhgjodpaaaBrdD
namespace Go.Proofs.Ytoknchhgjodpaaa
open Go Go.Gw
set_option linter.unusedVariables false
set_option linter.unusedSimpArgs false
theorem lJoinedHubs (w0 : World) (x0 : { x : OBd // x.ok w0 }) (a1 : Int) (i1 : In64 a1) : Ret Try.prog 10 [.agg #[.int .i64 x0.1.e, .int .i64 x0.1.n, .int .i64 x0.1.j, x0.1.v], .int .i64 a1] w0 fun u w' => u = .bool true ∧ Ext w0 w' := by
  obtain ⟨⟨e0, n0, j0, v0, ws0⟩, hok0⟩ := x0
  have s0 : SL w0 0 w0.heap.size v0 ws0 := hok0.sl
  have r0 := hok0.in64
  have re0 : In64 e0 := hok0.e
  have rn0 : In64 n0 := hok0.n
  have rj0 : In64 j0 := hok0.j
  show Ret _ _ [.agg #[.int .i64 e0, .int .i64 n0, .int .i64 j0, v0], .int .i64 a1] w0 _
  clear hok0
  have E : Since 0 0 w0 w0 := Since.refl 0 0 w0
  have hb := resHubs_len e0 n0 j0 ws0 a1
  refine ret_enter Try.func10 rfl Try.ntmps10 rfl ?_
  focus
    refine c_seq ?_
    refine c_region ?_
    refine w_box rfl (k := fun b2 w2 hb2 hx2 hl2 hs2 => ?_)
    have hz_hx2 := hx2.size
    replace s0 := s0.ext hx2
    replace E := E.trans hx2
    refine w_pure (y_assign rfl) rfl ?_
    refine w_nil ?_
    refine x_next ?_
    refine c_seq ?_
    refine c_region ?_
    refine w_pure (y_assign rfl) rfl ?_
    refine w_nil ?_
    refine x_next ?_
    refine c_seq ?_
    refine c_region ?_
    refine w_pure (y_load_boxs rfl) rfl ?_
    refine w_pure (y_move rfl) rfl ?_
    (refine w_call rfl rfl rfl (szBoard_z) rfl ?_; rintro _ w18 ⟨z18, ⟨rfl, ⟨hp1_18, hx18⟩⟩⟩)
    have hz_hx18 := hx18.size
    replace hb2 := hb2.ext hx18
    replace s0 := s0.ext hx18
    replace E := E.trans hx18
    refine w_pure (y_assign rfl) rfl ?_
    refine w_nil ?_
    refine x_next ?_
    refine c_seq ?_
    refine c_seq ?_
    refine c_region ?_
    refine w_pure (y_move rfl) rfl ?_
    refine w_pure (y_lt rfl rfl) rfl ?_
    refine w_nil ?_
    refine x_next ?_
    (refine c_dec rfl (fun hc20 => ?_) (fun hc20 => ?_) <;> try (first | exact absurd rfl hc20 | contradiction | exact Bool.noConfusion (show false = true from hc20.symm.trans (by assumption)) | exact Bool.noConfusion (show true = false from hc20.symm.trans (by assumption)) | (exfalso; omega) | (exfalso; simp only [*, Bool.not_true, Bool.not_false, reduceCtorEq] at hc20; done)))
    refine c_seq ?_
    refine c_region ?_
    refine w_pure (y_assign rfl) rfl ?_
    refine w_nil ?_
    refine x_next ?_
    refine c_ret ?_
    refine x_then_ret ?_
    exact x_retv [_] rfl ⟨rfl, trivial⟩ ⟨rfl, E.go⟩
    refine c_skip ?_
    refine x_next ?_
    refine c_seq ?_
    refine c_region ?_
    refine w_pure (y_load_boxs rfl) rfl ?_
    (refine w_call rfl rfl rfl (toBoard_c) rfl ?_; rintro _ w23 ⟨d23, ⟨rfl, ⟨hp1_23, hx23⟩⟩⟩)
    have hz_hx23 := hx23.size
    replace hb2 := hb2.ext hx23
    replace s0 := s0.ext hx23
    replace E := E.trans hx23
    replace hp1_23 := hp1_23.fresh
    refine w_pure (y_move rfl) rfl ?_
    (refine w_call rfl rfl rfl (sJoinedHubs_c _) rfl ?_; rintro _ w25 ⟨d25, ⟨rfl, ⟨hp1_25, hx25⟩⟩⟩)
    have hz_hx25 := hx25.size
    replace hb2 := hb2.ext hx25
    replace s0 := s0.ext hx25
    replace E := E.trans hx25
    replace hp1_23 := hp1_23.ext hx25
    replace hp1_25 := hp1_25.fresh
    refine w_pure (y_move rfl) rfl ?_
    refine w_pure (y_extract rfl rfl) rfl ?_
    refine w_pure (y_extract rfl rfl) rfl ?_
    refine w_pure (y_assign rfl) rfl ?_
    refine w_pure (y_assign rfl) rfl ?_
    refine w_nil ?_
    refine x_next ?_
    refine c_seq ?_
    refine c_region ?_
    refine w_pure (y_load_boxs rfl) rfl ?_
    (refine w_call rfl rfl rfl (toBoard_c) rfl ?_; rintro _ w29 ⟨d29, ⟨rfl, ⟨hp1_29, hx29⟩⟩⟩)
    have hz_hx29 := hx29.size
    replace hb2 := hb2.ext hx29
    replace s0 := s0.ext hx29
    replace E := E.trans hx29
    replace hp1_23 := hp1_23.ext hx29
    replace hp1_25 := hp1_25.ext hx29
    replace hp1_29 := hp1_29.fresh
    refine w_alloc (k := fun b8 w8 hb8 hx8 hl8 hs8 => ?_)
    have hz_hx8 := hx8.size
    replace hb2 := hb2.ext hx8
    replace s0 := s0.ext hx8
    replace E := E.trans hx8
    replace hp1_23 := hp1_23.ext hx8
    replace hp1_25 := hp1_25.ext hx8
    replace hp1_29 := hp1_29.ext hx8
    refine w_store_boxs rfl rfl (next := fun ws56 hbs56 hxs56 hss56 => ?_)
    (replace hb8 := hbs56; clear hbs56)
    have hz_hxs56 := hxs56.size
    replace hb2 := hb2.chg hxs56 (by omega)
    replace s0 := s0.chg hxs56 (by omega)
    replace E := E.next hxs56 (by omega)
    replace hp1_23 := hp1_23.chg hxs56 (by omega)
    replace hp1_25 := hp1_25.chg hxs56 (by omega)
    replace hp1_29 := hp1_29.chg hxs56 (by omega)
    refine w_nil ?_
    refine x_next ?_
    refine c_seq ?_
    refine c_region ?_
    refine w_pure (y_load_boxs rfl) rfl ?_
    refine w_pure (y_move rfl) rfl ?_
    (refine w_call rfl rfl rfl (iJoinedHubs_c _) rfl ?_; rintro _ w33 ⟨d33, ⟨rfl, ⟨hp1_33, hx33⟩⟩⟩)
    have hz_hx33 := hx33.size
    replace hb8 := hb8.ext hx33
    replace hb2 := hb2.ext hx33
    replace s0 := s0.ext hx33
    replace E := E.trans hx33
    replace hp1_23 := hp1_23.ext hx33
    replace hp1_25 := hp1_25.ext hx33
    replace hp1_29 := hp1_29.ext hx33
    replace hp1_33 := hp1_33.fresh
    refine w_pure (y_move rfl) rfl ?_
    refine w_pure (y_extract rfl rfl) rfl ?_
    refine w_pure (y_extract rfl rfl) rfl ?_
    refine w_pure (y_assign rfl) rfl ?_
    refine w_pure (y_assign rfl) rfl ?_
    refine w_nil ?_
    refine x_next ?_
    refine c_seq ?_
    refine c_seq ?_
    refine c_region ?_
    refine w_pure (y_move rfl) rfl ?_
    refine w_pure (y_move rfl) rfl ?_
    refine w_val rfl rfl rfl (eqInt64S_c) rfl (fun w38 hx38 hz38 => ?_)
    have hz_hx38 := hx38.size
    replace hb8 := hb8.ext hx38
    replace hb2 := hb2.ext hx38
    replace s0 := s0.ext hx38
    replace E := E.trans hx38
    replace hp1_23 := hp1_23.ext hx38
    replace hp1_25 := hp1_25.ext hx38
    replace hp1_29 := hp1_29.ext hx38
    replace hp1_33 := hp1_33.ext hx38
    refine w_pure (y_not_dec rfl) rfl ?_
    refine w_pure (y_move rfl) rfl ?_
    (refine w_part_dec rfl rfl (fun hc41 => ?_) (fun hc41 => ?_) <;> try (first | exact absurd rfl hc41 | contradiction | exact Bool.noConfusion (show false = true from hc41.symm.trans (by assumption)) | exact Bool.noConfusion (show true = false from hc41.symm.trans (by assumption)) | (exfalso; omega) | (exfalso; simp only [*, Bool.not_true, Bool.not_false, reduceCtorEq] at hc41; done)))
    refine w_yes rfl rfl ?_
    refine w_pure (y_move rfl) rfl ?_
    refine w_yes rfl rfl ?_
    refine w_pure (y_move rfl) rfl ?_
    refine w_yes rfl rfl ?_
    refine w_pure (y_ne rfl rfl) rfl ?_
    refine w_pure (y_pick_f rfl rfl) rfl ?_
    refine w_nil ?_
    refine x_next ?_
    refine c_nsame rfl ?_
    refine c_skip ?_
    refine x_next ?_
    refine c_seq ?_
    refine c_seq ?_
    refine c_region_held mixed (fun wr10 hxr10 hzr10 => ?_)
    have hz_hxr10 := hxr10.size
    replace hb8 := hb8.ext hxr10
    replace hb2 := hb2.ext hxr10
    replace s0 := s0.ext hxr10
    replace E := E.trans hxr10
    replace hp1_23 := hp1_23.ext hxr10
    replace hp1_25 := hp1_25.ext hxr10
    replace hp1_29 := hp1_29.ext hxr10
    replace hp1_33 := hp1_33.ext hxr10
    refine h_pure rfl (y_load_boxs rfl) rfl ?_
    refine h_pure rfl (y_load_boxs rfl) rfl ?_
    refine h_one rfl ?_
    (refine w_call rfl rfl rfl (toBoard_c) rfl ?_; rintro _ w47 ⟨d47, ⟨rfl, ⟨hp1_47, hx47⟩⟩⟩)
    have hz_hx47 := hx47.size
    replace hb8 := hb8.ext hx47
    replace hb2 := hb2.ext hx47
    replace s0 := s0.ext hx47
    replace E := E.trans hx47
    replace hp1_23 := hp1_23.ext hx47
    replace hp1_25 := hp1_25.ext hx47
    replace hp1_29 := hp1_29.ext hx47
    replace hp1_33 := hp1_33.ext hx47
    replace hp1_47 := hp1_47.fresh
    refine w_nil ?_
    refine x_held ?_
    refine h_one rfl ?_
    refine w_val rfl rfl rfl (eqBoard_c) rfl (fun w48 hx48 hz48 => ?_)
    have hz_hx48 := hx48.size
    replace hb8 := hb8.ext hx48
    replace hb2 := hb2.ext hx48
    replace s0 := s0.ext hx48
    replace E := E.trans hx48
    replace hp1_23 := hp1_23.ext hx48
    replace hp1_25 := hp1_25.ext hx48
    replace hp1_29 := hp1_29.ext hx48
    replace hp1_33 := hp1_33.ext hx48
    replace hp1_47 := hp1_47.ext hx48
    refine w_nil ?_
    refine x_held ?_
    refine h_pure rfl (y_not_dec rfl) rfl ?_
    refine h_nil ?_
    refine x_next ?_
    refine c_nsame rfl ?_
    refine c_skip ?_
    refine x_next ?_
    refine c_seq ?_
    refine c_region ?_
    refine w_pure (y_assign rfl) rfl ?_
    refine w_nil ?_
    refine x_next ?_
    refine c_seq ?_
    refine c_region ?_
    refine w_pure (y_load_boxs rfl) rfl ?_
    refine w_pure (y_move rfl) rfl ?_
    (refine w_call rfl rfl rfl (markBoard_c) rfl ?_; rintro _ w52 ⟨rfl, ⟨hp1_52, hx52⟩⟩)
    have hz_hx52 := hx52.size
    replace hb8 := hb8.chg hx52 (by omega)
    replace hb2 := hb2.chg hx52 (by omega)
    replace s0 := s0.chg hx52 (by omega)
    replace E := E.next hx52 (by omega)
    replace hp1_23 := hp1_23.chg hx52 (by omega)
    replace hp1_25 := hp1_25.chg hx52 (by omega)
    replace hp1_33 := hp1_33.chg hx52 (by omega)
    replace hp1_47 := hp1_47.chg hx52 (by omega)
    refine w_pure (y_assign rfl) rfl ?_
    refine w_nil ?_
    refine x_next ?_
    refine c_seq ?_
    refine c_seq ?_
    refine c_region ?_
    refine w_pure (y_move rfl) rfl ?_
    refine w_pure (y_lt rfl rfl) rfl ?_
    refine w_pure (y_move rfl) rfl ?_
    refine w_yes rfl rfl ?_
    refine w_pure (y_move rfl) rfl ?_
    refine w_yes rfl rfl ?_
    refine w_pure (y_move rfl) rfl ?_
    refine w_yes rfl rfl ?_
    refine w_val rfl rfl rfl (eqInt64S_c) rfl (fun w58 hx58 hz58 => ?_)
    have hz_hx58 := hx58.size
    replace hp1_52 := hp1_52.ext hx58
    replace hb8 := hb8.ext hx58
    replace hb2 := hb2.ext hx58
    replace s0 := s0.ext hx58
    replace E := E.trans hx58
    replace hp1_23 := hp1_23.ext hx58
    replace hp1_25 := hp1_25.ext hx58
    replace hp1_33 := hp1_33.ext hx58
    replace hp1_47 := hp1_47.ext hx58
    refine w_yes rfl rfl ?_
    refine w_pure (y_not_dec rfl) rfl ?_
    refine w_pure (y_pick_f rfl rfl) rfl ?_
    refine w_pure (y_move rfl) rfl ?_
    (refine w_part_dec rfl rfl (fun hc62 => ?_) (fun hc62 => ?_) <;> try (first | exact absurd rfl hc62 | contradiction | exact Bool.noConfusion (show false = true from hc62.symm.trans (by assumption)) | exact Bool.noConfusion (show true = false from hc62.symm.trans (by assumption)) | (exfalso; omega) | (exfalso; simp only [*, Bool.not_true, Bool.not_false, reduceCtorEq] at hc62; done)))
    refine w_yes rfl rfl ?_
    refine w_pure (y_move rfl) rfl ?_
    refine w_yes rfl rfl ?_
    refine w_pure (y_move rfl) rfl ?_
    refine w_yes rfl rfl ?_
    refine w_pure (y_ne rfl rfl) rfl ?_
    refine w_pure (y_pick_f rfl rfl) rfl ?_
    refine w_nil ?_
    refine x_next ?_
    refine c_nsame rfl ?_
    refine c_skip ?_
    refine x_next ?_
    refine c_seq ?_
    refine c_region ?_
    refine w_pure (y_assign rfl) rfl ?_
    refine w_nil ?_
    refine x_next ?_
    refine c_seq ?_
    refine c_region ?_
    refine w_pure (y_move rfl) rfl ?_
    refine w_pure (y_move rfl) rfl ?_
    (refine w_call rfl rfl rfl (markInt64S_c _) rfl ?_; rintro _ w68 ⟨rfl, ⟨hp1_68, hx68⟩⟩)
    have hz_hx68 := hx68.size
    replace hp1_52 := hp1_52.chg hx68 (by omega)
    replace hb8 := hb8.chg hx68 (by omega)
    replace hb2 := hb2.chg hx68 (by omega)
    replace s0 := s0.chg hx68 (by omega)
    replace E := E.next hx68 (by omega)
    replace hp1_23 := hp1_23.chg hx68 (by omega)
    replace hp1_25 := hp1_25.chg hx68 (by omega)
    replace hp1_47 := hp1_47.chg hx68 (by omega)
    refine w_pure (y_assign rfl) rfl ?_
    refine w_nil ?_
    refine x_next ?_
    refine c_seq ?_
    refine c_region ?_
    refine w_pure (y_assign rfl) rfl ?_
    refine w_nil ?_
    refine x_next ?_
    refine c_seq ?_
    refine c_region ?_
    refine w_pure (y_move rfl) rfl ?_
    refine w_pure (y_move rfl) rfl ?_
    refine w_val rfl rfl rfl (heldInt64S_c) rfl (fun w71 hx71 hz71 => ?_)
    have hz_hx71 := hx71.size
    replace hp1_68 := hp1_68.ext hx71
    replace hp1_52 := hp1_52.ext hx71
    replace hb8 := hb8.ext hx71
    replace hb2 := hb2.ext hx71
    replace s0 := s0.ext hx71
    replace E := E.trans hx71
    replace hp1_23 := hp1_23.ext hx71
    replace hp1_25 := hp1_25.ext hx71
    replace hp1_47 := hp1_47.ext hx71
    refine w_pure (y_assign rfl) rfl ?_
    refine w_nil ?_
    refine x_next ?_
    refine c_seq ?_
    refine c_seq ?_
    refine c_region ?_
    refine w_pure (y_move rfl) rfl ?_
    refine w_pure (y_lt rfl rfl) rfl ?_
    refine w_nil ?_
    refine x_next ?_
    refine c_false rfl ?_
    refine c_skip ?_
    refine x_next ?_
    refine c_seq ?_
    refine c_seq ?_
    refine c_region ?_
    refine w_pure (y_move rfl) rfl ?_
    refine w_pure (y_move rfl) rfl ?_
    refine w_pure (y_ne rfl rfl) rfl ?_
    refine w_nil ?_
    refine x_next ?_
    refine c_nsame rfl ?_
    refine c_skip ?_
    refine x_next ?_
    refine c_seq ?_
    refine c_region ?_
    refine w_pure (y_load_boxs rfl) rfl ?_
    (refine w_call rfl rfl rfl (toBoard_c) rfl ?_; rintro _ w79 ⟨d79, ⟨rfl, ⟨hp1_79, hx79⟩⟩⟩)
    have hz_hx79 := hx79.size
    replace hp1_68 := hp1_68.ext hx79
    replace hp1_52 := hp1_52.ext hx79
    replace hb8 := hb8.ext hx79
    replace hb2 := hb2.ext hx79
    replace s0 := s0.ext hx79
    replace E := E.trans hx79
    replace hp1_23 := hp1_23.ext hx79
    replace hp1_25 := hp1_25.ext hx79
    replace hp1_47 := hp1_47.ext hx79
    replace hp1_79 := hp1_79.fresh
    refine w_pure (y_move rfl) rfl ?_
    (refine w_call rfl rfl rfl (iJoinedHubs_c _) rfl ?_; rintro _ w81 ⟨d81, ⟨rfl, ⟨hp1_81, hx81⟩⟩⟩)
    have hz_hx81 := hx81.size
    replace hp1_68 := hp1_68.ext hx81
    replace hp1_52 := hp1_52.ext hx81
    replace hb8 := hb8.ext hx81
    replace hb2 := hb2.ext hx81
    replace s0 := s0.ext hx81
    replace E := E.trans hx81
    replace hp1_23 := hp1_23.ext hx81
    replace hp1_25 := hp1_25.ext hx81
    replace hp1_47 := hp1_47.ext hx81
    replace hp1_79 := hp1_79.ext hx81
    replace hp1_81 := hp1_81.fresh
    refine w_pure (y_move rfl) rfl ?_
    refine w_pure (y_extract rfl rfl) rfl ?_
    refine w_pure (y_extract rfl rfl) rfl ?_
    refine w_pure (y_assign rfl) rfl ?_
    refine w_pure (y_assign rfl) rfl ?_
    refine w_nil ?_
    refine x_next ?_
    refine c_seq ?_
    refine c_seq ?_
    refine c_region ?_
    refine w_pure (y_move rfl) rfl ?_
    refine w_pure (y_move rfl) rfl ?_
    refine w_val rfl rfl rfl (eqInt64S_c) rfl (fun w86 hx86 hz86 => ?_)
    have hz_hx86 := hx86.size
    replace hp1_68 := hp1_68.ext hx86
    replace hp1_52 := hp1_52.ext hx86
    replace hb8 := hb8.ext hx86
    replace hb2 := hb2.ext hx86
    replace s0 := s0.ext hx86
    replace E := E.trans hx86
    replace hp1_23 := hp1_23.ext hx86
    replace hp1_25 := hp1_25.ext hx86
    replace hp1_47 := hp1_47.ext hx86
    replace hp1_79 := hp1_79.ext hx86
    replace hp1_81 := hp1_81.ext hx86
    refine w_pure (y_not_dec rfl) rfl ?_
    refine w_pure (y_move rfl) rfl ?_
    (refine w_part_dec rfl rfl (fun hc89 => ?_) (fun hc89 => ?_) <;> try (first | exact absurd rfl hc89 | contradiction | exact Bool.noConfusion (show false = true from hc89.symm.trans (by assumption)) | exact Bool.noConfusion (show true = false from hc89.symm.trans (by assumption)) | (exfalso; omega) | (exfalso; simp only [*, Bool.not_true, Bool.not_false, reduceCtorEq] at hc89; done)))
    refine w_yes rfl rfl ?_
    refine w_pure (y_move rfl) rfl ?_
    refine w_yes rfl rfl ?_
    refine w_pure (y_move rfl) rfl ?_
    refine w_yes rfl rfl ?_
    refine w_pure (y_ne rfl rfl) rfl ?_
    refine w_pure (y_pick_f rfl rfl) rfl ?_
    refine w_nil ?_
    refine x_next ?_
    refine c_nsame rfl ?_
    refine c_skip ?_
    refine x_next ?_
    refine c_seq ?_
    refine c_region ?_
    refine w_pure (y_assign rfl) rfl ?_
    refine w_nil ?_
    refine x_next ?_
    refine c_seq ?_
    refine c_region ?_
    refine w_pure (y_move rfl) rfl ?_
    refine w_pure (y_move rfl) rfl ?_
    refine w_val rfl rfl rfl (heldInt64S_c) rfl (fun w95 hx95 hz95 => ?_)
    have hz_hx95 := hx95.size
    replace hp1_68 := hp1_68.ext hx95
    replace hp1_52 := hp1_52.ext hx95
    replace hb8 := hb8.ext hx95
    replace hb2 := hb2.ext hx95
    replace s0 := s0.ext hx95
    replace E := E.trans hx95
    replace hp1_23 := hp1_23.ext hx95
    replace hp1_25 := hp1_25.ext hx95
    replace hp1_47 := hp1_47.ext hx95
    replace hp1_79 := hp1_79.ext hx95
    replace hp1_81 := hp1_81.ext hx95
    refine w_pure (y_assign rfl) rfl ?_
    refine w_nil ?_
    refine x_next ?_
    refine c_seq ?_
    refine c_seq ?_
    refine c_region ?_
    refine w_pure (y_move rfl) rfl ?_
    refine w_pure (y_lt rfl rfl) rfl ?_
    refine w_nil ?_
    refine x_next ?_
    refine c_false rfl ?_
    refine c_skip ?_
    refine x_next ?_
    refine c_seq ?_
    refine c_seq ?_
    refine c_region ?_
    refine w_pure (y_move rfl) rfl ?_
    refine w_pure (y_move rfl) rfl ?_
    refine w_pure (y_ne rfl rfl) rfl ?_
    refine w_nil ?_
    refine x_next ?_
    refine c_nsame rfl ?_
    refine c_skip ?_
    refine x_next ?_
    refine c_seq ?_
    refine c_region ?_
    refine w_pure (y_assign rfl) rfl ?_
    refine w_nil ?_
    refine x_next ?_
    refine c_ret ?_
    exact x_retv [_] rfl ⟨rfl, trivial⟩ ⟨rfl, E.go⟩
theorem lSourcesOf (w0 : World) (x0 : { x : OBd // x.ok w0 }) (a1 : Int) (i1 : In64 a1) : Ret Try.prog 9 [.agg #[.int .i64 x0.1.e, .int .i64 x0.1.n, .int .i64 x0.1.j, x0.1.v], .int .i64 a1] w0 fun u w' => u = .bool true ∧ Ext w0 w' := by
  obtain ⟨⟨e0, n0, j0, v0, ws0⟩, hok0⟩ := x0
  have s0 : SL w0 0 w0.heap.size v0 ws0 := hok0.sl
  have r0 := hok0.in64
  have re0 : In64 e0 := hok0.e
  have rn0 : In64 n0 := hok0.n
  have rj0 : In64 j0 := hok0.j
  show Ret _ _ [.agg #[.int .i64 e0, .int .i64 n0, .int .i64 j0, v0], .int .i64 a1] w0 _
  clear hok0
  have E : Since 0 0 w0 w0 := Since.refl 0 0 w0
  have hb := resSrc_len e0 n0 j0 ws0 a1
  refine ret_enter Try.func9 rfl Try.ntmps9 rfl ?_
  focus
    refine c_seq ?_
    refine c_region ?_
    refine w_box rfl (k := fun b2 w2 hb2 hx2 hl2 hs2 => ?_)
    have hz_hx2 := hx2.size
    replace s0 := s0.ext hx2
    replace E := E.trans hx2
    refine w_pure (y_assign rfl) rfl ?_
    refine w_nil ?_
    refine x_next ?_
    refine c_seq ?_
    refine c_region ?_
    refine w_pure (y_assign rfl) rfl ?_
    refine w_nil ?_
    refine x_next ?_
    refine c_seq ?_
    refine c_region ?_
    refine w_pure (y_load_boxs rfl) rfl ?_
    refine w_pure (y_move rfl) rfl ?_
    (refine w_call rfl rfl rfl (szBoard_z) rfl ?_; rintro _ w18 ⟨z18, ⟨rfl, ⟨hp1_18, hx18⟩⟩⟩)
    have hz_hx18 := hx18.size
    replace hb2 := hb2.ext hx18
    replace s0 := s0.ext hx18
    replace E := E.trans hx18
    refine w_pure (y_assign rfl) rfl ?_
    refine w_nil ?_
    refine x_next ?_
    refine c_seq ?_
    refine c_seq ?_
    refine c_region ?_
    refine w_pure (y_move rfl) rfl ?_
    refine w_pure (y_lt rfl rfl) rfl ?_
    refine w_nil ?_
    refine x_next ?_
    (refine c_dec rfl (fun hc20 => ?_) (fun hc20 => ?_) <;> try (first | exact absurd rfl hc20 | contradiction | exact Bool.noConfusion (show false = true from hc20.symm.trans (by assumption)) | exact Bool.noConfusion (show true = false from hc20.symm.trans (by assumption)) | (exfalso; omega) | (exfalso; simp only [*, Bool.not_true, Bool.not_false, reduceCtorEq] at hc20; done)))
    refine c_seq ?_
    refine c_region ?_
    refine w_pure (y_assign rfl) rfl ?_
    refine w_nil ?_
    refine x_next ?_
    refine c_ret ?_
    refine x_then_ret ?_
    exact x_retv [_] rfl ⟨rfl, trivial⟩ ⟨rfl, E.go⟩
    refine c_skip ?_
    refine x_next ?_
    refine c_seq ?_
    refine c_region ?_
    refine w_pure (y_load_boxs rfl) rfl ?_
    (refine w_call rfl rfl rfl (toBoard_c) rfl ?_; rintro _ w23 ⟨d23, ⟨rfl, ⟨hp1_23, hx23⟩⟩⟩)
    have hz_hx23 := hx23.size
    replace hb2 := hb2.ext hx23
    replace s0 := s0.ext hx23
    replace E := E.trans hx23
    replace hp1_23 := hp1_23.fresh
    refine w_pure (y_move rfl) rfl ?_
    (refine w_call rfl rfl rfl (sSourcesOf_c _) rfl ?_; rintro _ w25 ⟨d25, ⟨rfl, ⟨hp1_25, hx25⟩⟩⟩)
    have hz_hx25 := hx25.size
    replace hb2 := hb2.ext hx25
    replace s0 := s0.ext hx25
    replace E := E.trans hx25
    replace hp1_23 := hp1_23.ext hx25
    replace hp1_25 := hp1_25.fresh
    refine w_pure (y_move rfl) rfl ?_
    refine w_pure (y_extract rfl rfl) rfl ?_
    refine w_pure (y_extract rfl rfl) rfl ?_
    refine w_pure (y_assign rfl) rfl ?_
    refine w_pure (y_assign rfl) rfl ?_
    refine w_nil ?_
    refine x_next ?_
    refine c_seq ?_
    refine c_region ?_
    refine w_pure (y_load_boxs rfl) rfl ?_
    (refine w_call rfl rfl rfl (toBoard_c) rfl ?_; rintro _ w29 ⟨d29, ⟨rfl, ⟨hp1_29, hx29⟩⟩⟩)
    have hz_hx29 := hx29.size
    replace hb2 := hb2.ext hx29
    replace s0 := s0.ext hx29
    replace E := E.trans hx29
    replace hp1_23 := hp1_23.ext hx29
    replace hp1_25 := hp1_25.ext hx29
    replace hp1_29 := hp1_29.fresh
    refine w_alloc (k := fun b8 w8 hb8 hx8 hl8 hs8 => ?_)
    have hz_hx8 := hx8.size
    replace hb2 := hb2.ext hx8
    replace s0 := s0.ext hx8
    replace E := E.trans hx8
    replace hp1_23 := hp1_23.ext hx8
    replace hp1_25 := hp1_25.ext hx8
    replace hp1_29 := hp1_29.ext hx8
    refine w_store_boxs rfl rfl (next := fun ws56 hbs56 hxs56 hss56 => ?_)
    (replace hb8 := hbs56; clear hbs56)
    have hz_hxs56 := hxs56.size
    replace hb2 := hb2.chg hxs56 (by omega)
    replace s0 := s0.chg hxs56 (by omega)
    replace E := E.next hxs56 (by omega)
    replace hp1_23 := hp1_23.chg hxs56 (by omega)
    replace hp1_25 := hp1_25.chg hxs56 (by omega)
    replace hp1_29 := hp1_29.chg hxs56 (by omega)
    refine w_nil ?_
    refine x_next ?_
    refine c_seq ?_
    refine c_region ?_
    refine w_pure (y_load_boxs rfl) rfl ?_
    refine w_pure (y_move rfl) rfl ?_
    (refine w_call rfl rfl rfl (iSourcesOf_c _) rfl ?_; rintro _ w33 ⟨d33, ⟨rfl, ⟨hp1_33, hx33⟩⟩⟩)
    have hz_hx33 := hx33.size
    replace hb8 := hb8.ext hx33
    replace hb2 := hb2.ext hx33
    replace s0 := s0.ext hx33
    replace E := E.trans hx33
    replace hp1_23 := hp1_23.ext hx33
    replace hp1_25 := hp1_25.ext hx33
    replace hp1_29 := hp1_29.ext hx33
    replace hp1_33 := hp1_33.fresh
    refine w_pure (y_move rfl) rfl ?_
    refine w_pure (y_extract rfl rfl) rfl ?_
    refine w_pure (y_extract rfl rfl) rfl ?_
    refine w_pure (y_assign rfl) rfl ?_
    refine w_pure (y_assign rfl) rfl ?_
    refine w_nil ?_
    refine x_next ?_
    refine c_seq ?_
    refine c_seq ?_
    refine c_region ?_
    refine w_pure (y_move rfl) rfl ?_
    refine w_pure (y_move rfl) rfl ?_
    refine w_val rfl rfl rfl (eqInt64S_c) rfl (fun w38 hx38 hz38 => ?_)
    have hz_hx38 := hx38.size
    replace hb8 := hb8.ext hx38
    replace hb2 := hb2.ext hx38
    replace s0 := s0.ext hx38
    replace E := E.trans hx38
    replace hp1_23 := hp1_23.ext hx38
    replace hp1_25 := hp1_25.ext hx38
    replace hp1_29 := hp1_29.ext hx38
    replace hp1_33 := hp1_33.ext hx38
    refine w_pure (y_not_dec rfl) rfl ?_
    refine w_pure (y_move rfl) rfl ?_
    (refine w_part_dec rfl rfl (fun hc41 => ?_) (fun hc41 => ?_) <;> try (first | exact absurd rfl hc41 | contradiction | exact Bool.noConfusion (show false = true from hc41.symm.trans (by assumption)) | exact Bool.noConfusion (show true = false from hc41.symm.trans (by assumption)) | (exfalso; omega) | (exfalso; simp only [*, Bool.not_true, Bool.not_false, reduceCtorEq] at hc41; done)))
    refine w_yes rfl rfl ?_
    refine w_pure (y_move rfl) rfl ?_
    refine w_yes rfl rfl ?_
    refine w_pure (y_move rfl) rfl ?_
    refine w_yes rfl rfl ?_
    refine w_pure (y_ne rfl rfl) rfl ?_
    refine w_pure (y_pick_f rfl rfl) rfl ?_
    refine w_nil ?_
    refine x_next ?_
    refine c_nsame rfl ?_
    refine c_skip ?_
    refine x_next ?_
    refine c_seq ?_
    refine c_seq ?_
    refine c_region_held mixed (fun wr10 hxr10 hzr10 => ?_)
    have hz_hxr10 := hxr10.size
    replace hb8 := hb8.ext hxr10
    replace hb2 := hb2.ext hxr10
    replace s0 := s0.ext hxr10
    replace E := E.trans hxr10
    replace hp1_23 := hp1_23.ext hxr10
    replace hp1_25 := hp1_25.ext hxr10
    replace hp1_29 := hp1_29.ext hxr10
    replace hp1_33 := hp1_33.ext hxr10
    refine h_pure rfl (y_load_boxs rfl) rfl ?_
    refine h_pure rfl (y_load_boxs rfl) rfl ?_
    refine h_one rfl ?_
    (refine w_call rfl rfl rfl (toBoard_c) rfl ?_; rintro _ w47 ⟨d47, ⟨rfl, ⟨hp1_47, hx47⟩⟩⟩)
    have hz_hx47 := hx47.size
    replace hb8 := hb8.ext hx47
    replace hb2 := hb2.ext hx47
    replace s0 := s0.ext hx47
    replace E := E.trans hx47
    replace hp1_23 := hp1_23.ext hx47
    replace hp1_25 := hp1_25.ext hx47
    replace hp1_29 := hp1_29.ext hx47
    replace hp1_33 := hp1_33.ext hx47
    replace hp1_47 := hp1_47.fresh
    refine w_nil ?_
    refine x_held ?_
    refine h_one rfl ?_
    refine w_val rfl rfl rfl (eqBoard_c) rfl (fun w48 hx48 hz48 => ?_)
    have hz_hx48 := hx48.size
    replace hb8 := hb8.ext hx48
    replace hb2 := hb2.ext hx48
    replace s0 := s0.ext hx48
    replace E := E.trans hx48
    replace hp1_23 := hp1_23.ext hx48
    replace hp1_25 := hp1_25.ext hx48
    replace hp1_29 := hp1_29.ext hx48
    replace hp1_33 := hp1_33.ext hx48
    replace hp1_47 := hp1_47.ext hx48
    refine w_nil ?_
    refine x_held ?_
    refine h_pure rfl (y_not_dec rfl) rfl ?_
    refine h_nil ?_
    refine x_next ?_
    refine c_nsame rfl ?_
    refine c_skip ?_
    refine x_next ?_
    refine c_seq ?_
    refine c_region ?_
    refine w_pure (y_assign rfl) rfl ?_
    refine w_nil ?_
    refine x_next ?_
    refine c_seq ?_
    refine c_region ?_
    refine w_pure (y_load_boxs rfl) rfl ?_
    refine w_pure (y_move rfl) rfl ?_
    (refine w_call rfl rfl rfl (markBoard_c) rfl ?_; rintro _ w52 ⟨rfl, ⟨hp1_52, hx52⟩⟩)
    have hz_hx52 := hx52.size
    replace hb8 := hb8.chg hx52 (by omega)
    replace hb2 := hb2.chg hx52 (by omega)
    replace s0 := s0.chg hx52 (by omega)
    replace E := E.next hx52 (by omega)
    replace hp1_23 := hp1_23.chg hx52 (by omega)
    replace hp1_25 := hp1_25.chg hx52 (by omega)
    replace hp1_33 := hp1_33.chg hx52 (by omega)
    replace hp1_47 := hp1_47.chg hx52 (by omega)
    refine w_pure (y_assign rfl) rfl ?_
    refine w_nil ?_
    refine x_next ?_
    refine c_seq ?_
    refine c_seq ?_
    refine c_region ?_
    refine w_pure (y_move rfl) rfl ?_
    refine w_pure (y_lt rfl rfl) rfl ?_
    refine w_pure (y_move rfl) rfl ?_
    refine w_yes rfl rfl ?_
    refine w_pure (y_move rfl) rfl ?_
    refine w_yes rfl rfl ?_
    refine w_pure (y_move rfl) rfl ?_
    refine w_yes rfl rfl ?_
    refine w_val rfl rfl rfl (eqInt64S_c) rfl (fun w58 hx58 hz58 => ?_)
    have hz_hx58 := hx58.size
    replace hp1_52 := hp1_52.ext hx58
    replace hb8 := hb8.ext hx58
    replace hb2 := hb2.ext hx58
    replace s0 := s0.ext hx58
    replace E := E.trans hx58
    replace hp1_23 := hp1_23.ext hx58
    replace hp1_25 := hp1_25.ext hx58
    replace hp1_33 := hp1_33.ext hx58
    replace hp1_47 := hp1_47.ext hx58
    refine w_yes rfl rfl ?_
    refine w_pure (y_not_dec rfl) rfl ?_
    refine w_pure (y_pick_f rfl rfl) rfl ?_
    refine w_pure (y_move rfl) rfl ?_
    (refine w_part_dec rfl rfl (fun hc62 => ?_) (fun hc62 => ?_) <;> try (first | exact absurd rfl hc62 | contradiction | exact Bool.noConfusion (show false = true from hc62.symm.trans (by assumption)) | exact Bool.noConfusion (show true = false from hc62.symm.trans (by assumption)) | (exfalso; omega) | (exfalso; simp only [*, Bool.not_true, Bool.not_false, reduceCtorEq] at hc62; done)))
    refine w_yes rfl rfl ?_
    refine w_pure (y_move rfl) rfl ?_
    refine w_yes rfl rfl ?_
    refine w_pure (y_move rfl) rfl ?_
    refine w_yes rfl rfl ?_
    refine w_pure (y_ne rfl rfl) rfl ?_
    refine w_pure (y_pick_f rfl rfl) rfl ?_
    refine w_nil ?_
    refine x_next ?_
    refine c_nsame rfl ?_
    refine c_skip ?_
    refine x_next ?_
    refine c_seq ?_
    refine c_region ?_
    refine w_pure (y_assign rfl) rfl ?_
    refine w_nil ?_
    refine x_next ?_
    refine c_seq ?_
    refine c_region ?_
    refine w_pure (y_move rfl) rfl ?_
    refine w_pure (y_move rfl) rfl ?_
    (refine w_call rfl rfl rfl (markInt64S_c _) rfl ?_; rintro _ w68 ⟨rfl, ⟨hp1_68, hx68⟩⟩)
    have hz_hx68 := hx68.size
    replace hp1_52 := hp1_52.chg hx68 (by omega)
    replace hb8 := hb8.chg hx68 (by omega)
    replace hb2 := hb2.chg hx68 (by omega)
    replace s0 := s0.chg hx68 (by omega)
    replace E := E.next hx68 (by omega)
    replace hp1_23 := hp1_23.chg hx68 (by omega)
    replace hp1_25 := hp1_25.chg hx68 (by omega)
    replace hp1_47 := hp1_47.chg hx68 (by omega)
    refine w_pure (y_assign rfl) rfl ?_
    refine w_nil ?_
    refine x_next ?_
    refine c_seq ?_
    refine c_region ?_
    refine w_pure (y_assign rfl) rfl ?_
    refine w_nil ?_
    refine x_next ?_
    refine c_seq ?_
    refine c_region ?_
    refine w_pure (y_move rfl) rfl ?_
    refine w_pure (y_move rfl) rfl ?_
    refine w_val rfl rfl rfl (heldInt64S_c) rfl (fun w71 hx71 hz71 => ?_)
    have hz_hx71 := hx71.size
    replace hp1_68 := hp1_68.ext hx71
    replace hp1_52 := hp1_52.ext hx71
    replace hb8 := hb8.ext hx71
    replace hb2 := hb2.ext hx71
    replace s0 := s0.ext hx71
    replace E := E.trans hx71
    replace hp1_23 := hp1_23.ext hx71
    replace hp1_25 := hp1_25.ext hx71
    replace hp1_47 := hp1_47.ext hx71
    refine w_pure (y_assign rfl) rfl ?_
    refine w_nil ?_
    refine x_next ?_
    refine c_seq ?_
    refine c_seq ?_
    refine c_region ?_
    refine w_pure (y_move rfl) rfl ?_
    refine w_pure (y_lt rfl rfl) rfl ?_
    refine w_nil ?_
    refine x_next ?_
    refine c_false rfl ?_
    refine c_skip ?_
    refine x_next ?_
    refine c_seq ?_
    refine c_seq ?_
    refine c_region ?_
    refine w_pure (y_move rfl) rfl ?_
    refine w_pure (y_move rfl) rfl ?_
    refine w_pure (y_ne rfl rfl) rfl ?_
    refine w_nil ?_
    refine x_next ?_
    refine c_nsame rfl ?_
    refine c_skip ?_
    refine x_next ?_
    refine c_seq ?_
    refine c_region ?_
    refine w_pure (y_load_boxs rfl) rfl ?_
    (refine w_call rfl rfl rfl (toBoard_c) rfl ?_; rintro _ w79 ⟨d79, ⟨rfl, ⟨hp1_79, hx79⟩⟩⟩)
    have hz_hx79 := hx79.size
    replace hp1_68 := hp1_68.ext hx79
    replace hp1_52 := hp1_52.ext hx79
    replace hb8 := hb8.ext hx79
    replace hb2 := hb2.ext hx79
    replace s0 := s0.ext hx79
    replace E := E.trans hx79
    replace hp1_23 := hp1_23.ext hx79
    replace hp1_25 := hp1_25.ext hx79
    replace hp1_47 := hp1_47.ext hx79
    replace hp1_79 := hp1_79.fresh
    refine w_pure (y_move rfl) rfl ?_
    (refine w_call rfl rfl rfl (iSourcesOf_c _) rfl ?_; rintro _ w81 ⟨d81, ⟨rfl, ⟨hp1_81, hx81⟩⟩⟩)
    have hz_hx81 := hx81.size
    replace hp1_68 := hp1_68.ext hx81
    replace hp1_52 := hp1_52.ext hx81
    replace hb8 := hb8.ext hx81
    replace hb2 := hb2.ext hx81
    replace s0 := s0.ext hx81
    replace E := E.trans hx81
    replace hp1_23 := hp1_23.ext hx81
    replace hp1_25 := hp1_25.ext hx81
    replace hp1_47 := hp1_47.ext hx81
    replace hp1_79 := hp1_79.ext hx81
    replace hp1_81 := hp1_81.fresh
    refine w_pure (y_move rfl) rfl ?_
    refine w_pure (y_extract rfl rfl) rfl ?_
    refine w_pure (y_extract rfl rfl) rfl ?_
    refine w_pure (y_assign rfl) rfl ?_
    refine w_pure (y_assign rfl) rfl ?_
    refine w_nil ?_
    refine x_next ?_
    refine c_seq ?_
    refine c_seq ?_
    refine c_region ?_
    refine w_pure (y_move rfl) rfl ?_
    refine w_pure (y_move rfl) rfl ?_
    refine w_val rfl rfl rfl (eqInt64S_c) rfl (fun w86 hx86 hz86 => ?_)
    have hz_hx86 := hx86.size
    replace hp1_68 := hp1_68.ext hx86
    replace hp1_52 := hp1_52.ext hx86
    replace hb8 := hb8.ext hx86
    replace hb2 := hb2.ext hx86
    replace s0 := s0.ext hx86
    replace E := E.trans hx86
    replace hp1_23 := hp1_23.ext hx86
    replace hp1_25 := hp1_25.ext hx86
    replace hp1_47 := hp1_47.ext hx86
    replace hp1_79 := hp1_79.ext hx86
    replace hp1_81 := hp1_81.ext hx86
    refine w_pure (y_not_dec rfl) rfl ?_
    refine w_pure (y_move rfl) rfl ?_
    (refine w_part_dec rfl rfl (fun hc89 => ?_) (fun hc89 => ?_) <;> try (first | exact absurd rfl hc89 | contradiction | exact Bool.noConfusion (show false = true from hc89.symm.trans (by assumption)) | exact Bool.noConfusion (show true = false from hc89.symm.trans (by assumption)) | (exfalso; omega) | (exfalso; simp only [*, Bool.not_true, Bool.not_false, reduceCtorEq] at hc89; done)))
    refine w_yes rfl rfl ?_
    refine w_pure (y_move rfl) rfl ?_
    refine w_yes rfl rfl ?_
    refine w_pure (y_move rfl) rfl ?_
    refine w_yes rfl rfl ?_
    refine w_pure (y_ne rfl rfl) rfl ?_
    refine w_pure (y_pick_f rfl rfl) rfl ?_
    refine w_nil ?_
    refine x_next ?_
    refine c_nsame rfl ?_
    refine c_skip ?_
    refine x_next ?_
    refine c_seq ?_
    refine c_region ?_
    refine w_pure (y_assign rfl) rfl ?_
    refine w_nil ?_
    refine x_next ?_
    refine c_seq ?_
    refine c_region ?_
    refine w_pure (y_move rfl) rfl ?_
    refine w_pure (y_move rfl) rfl ?_
    refine w_val rfl rfl rfl (heldInt64S_c) rfl (fun w95 hx95 hz95 => ?_)
    have hz_hx95 := hx95.size
    replace hp1_68 := hp1_68.ext hx95
    replace hp1_52 := hp1_52.ext hx95
    replace hb8 := hb8.ext hx95
    replace hb2 := hb2.ext hx95
    replace s0 := s0.ext hx95
    replace E := E.trans hx95
    replace hp1_23 := hp1_23.ext hx95
    replace hp1_25 := hp1_25.ext hx95
    replace hp1_47 := hp1_47.ext hx95
    replace hp1_79 := hp1_79.ext hx95
    replace hp1_81 := hp1_81.ext hx95
    refine w_pure (y_assign rfl) rfl ?_
    refine w_nil ?_
    refine x_next ?_
    refine c_seq ?_
    refine c_seq ?_
    refine c_region ?_
    refine w_pure (y_move rfl) rfl ?_
    refine w_pure (y_lt rfl rfl) rfl ?_
    refine w_nil ?_
    refine x_next ?_
    refine c_false rfl ?_
    refine c_skip ?_
    refine x_next ?_
    refine c_seq ?_
    refine c_seq ?_
    refine c_region ?_
    refine w_pure (y_move rfl) rfl ?_
    refine w_pure (y_move rfl) rfl ?_
    refine w_pure (y_ne rfl rfl) rfl ?_
    refine w_nil ?_
    refine x_next ?_
    refine c_nsame rfl ?_
    refine c_skip ?_
    refine x_next ?_
    refine c_seq ?_
    refine c_region ?_
    refine w_pure (y_assign rfl) rfl ?_
    refine w_nil ?_
    refine x_next ?_
    refine c_ret ?_
    exact x_retv [_] rfl ⟨rfl, trivial⟩ ⟨rfl, E.go⟩
end Go.Proofs.Ytoknchhgjodpaaa

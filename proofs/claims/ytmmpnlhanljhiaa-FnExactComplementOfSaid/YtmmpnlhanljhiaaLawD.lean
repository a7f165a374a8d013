/- The walks of the laws on taking, on complements, on splitting. -/
import Derived.Test.YtmmpnlhanljhiaaCntJ
import Derived.Test.YtmmpnlhanljhiaaOpen
namespace Go.Proofs.Ytmmpnlhanljhiaa
open Go Go.Gw
set_option linter.unusedVariables false
set_option linter.unusedSimpArgs false
theorem lTakeFromCounter (w0 : World) (x0 : { x : OSl // x.ok w0 }) (a1 : Int) (i1 : In64 a1) : Ret Try.prog 12 [.agg #[x0.1.v], .int .i64 a1] w0 fun u w' => u = .bool true ∧ Ext w0 w' := by
  obtain ⟨⟨v0, xs0⟩, hok0⟩ := x0
  have s0 : SL w0 0 w0.heap.size v0 xs0 := hok0.sl
  have r0 := hok0.in64
  show Ret _ _ [.agg #[v0], .int .i64 a1] w0 _
  clear hok0
  have E : Since 0 0 w0 w0 := Since.refl 0 0 w0
  have hb := resTake_len xs0 a1
  refine ret_enter Try.func12 rfl Try.ntmps12 rfl ?_
  focus
    refine c_seq ?_
    refine c_region ?_
    refine w_box rfl (k := fun b2 w2 hb2 hx2 hl2 hs2 => ?_)
    have hz_hx2 := hx2.size
    replace s0 := s0.ext hx2
    replace E := E.trans hx2
    refine w_pure (y_assign rfl) rfl ?_
    refine w_nil ?_
    refine x_next ?_
    refine c_seq ?_
    refine c_region ?_
    refine w_pure (y_assign rfl) rfl ?_
    refine w_nil ?_
    refine x_next ?_
    refine c_seq ?_
    refine c_region ?_
    refine w_pure (y_load_boxs rfl) rfl ?_
    refine w_pure (y_move rfl) rfl ?_
    (refine w_call rfl rfl rfl (szCounter_z) rfl ?_; rintro _ w21 ⟨z21, ⟨rfl, ⟨hp1_21, hx21⟩⟩⟩)
    have hz_hx21 := hx21.size
    replace hb2 := hb2.ext hx21
    replace s0 := s0.ext hx21
    replace E := E.trans hx21
    refine w_pure (y_assign rfl) rfl ?_
    refine w_nil ?_
    refine x_next ?_
    refine c_seq ?_
    refine c_seq ?_
    refine c_region ?_
    refine w_pure (y_move rfl) rfl ?_
    refine w_pure (y_lt rfl rfl) rfl ?_
    refine w_nil ?_
    refine x_next ?_
    (refine c_dec rfl (fun hc23 => ?_) (fun hc23 => ?_) <;> try (first | exact absurd rfl hc23 | contradiction | exact Bool.noConfusion (show false = true from hc23.symm.trans (by assumption)) | exact Bool.noConfusion (show true = false from hc23.symm.trans (by assumption)) | (exfalso; omega) | (exfalso; simp only [*, Bool.not_true, Bool.not_false, reduceCtorEq] at hc23; done)))
    refine c_seq ?_
    refine c_region ?_
    refine w_pure (y_assign rfl) rfl ?_
    refine w_nil ?_
    refine x_next ?_
    refine c_ret ?_
    refine x_then_ret ?_
    exact x_retv [_] rfl ⟨rfl, trivial⟩ ⟨rfl, E.go⟩
    refine c_skip ?_
    refine x_next ?_
    refine c_seq ?_
    refine c_region ?_
    refine w_pure (y_load_boxs rfl) rfl ?_
    (refine w_call rfl rfl rfl (toCounter_c _) rfl ?_; rintro _ w26 ⟨d26, ⟨rfl, ⟨hp1_26, hx26⟩⟩⟩)
    have hz_hx26 := hx26.size
    replace hb2 := hb2.ext hx26
    replace s0 := s0.ext hx26
    replace E := E.trans hx26
    replace hp1_26 := hp1_26.fresh
    refine w_pure (y_move rfl) rfl ?_
    (refine w_call rfl rfl rfl (sTakeFromCounter_c _) rfl ?_; rintro _ w28 ⟨d28, ⟨rfl, ⟨hp1_28, hx28⟩⟩⟩)
    have hz_hx28 := hx28.size
    replace hb2 := hb2.ext hx28
    replace s0 := s0.ext hx28
    replace E := E.trans hx28
    replace hp1_26 := hp1_26.ext hx28
    replace hp1_28 := hp1_28.fresh
    refine w_pure (y_move rfl) rfl ?_
    refine w_pure (y_extract rfl rfl) rfl ?_
    refine w_pure (y_extract rfl rfl) rfl ?_
    refine w_pure (y_extract rfl rfl) rfl ?_
    refine w_alloc (k := fun b6 w6 hb6 hx6 hl6 hs6 => ?_)
    have hz_hx6 := hx6.size
    replace hb2 := hb2.ext hx6
    replace s0 := s0.ext hx6
    replace E := E.trans hx6
    replace hp1_26 := hp1_26.ext hx6
    replace hp1_28 := hp1_28.ext hx6
    refine w_store_boxs rfl rfl (next := fun ws49 hbs49 hxs49 hss49 => ?_)
    (replace hb6 := hbs49; clear hbs49)
    have hz_hxs49 := hxs49.size
    replace hb2 := hb2.chg hxs49 (by omega)
    replace s0 := s0.chg hxs49 (by omega)
    replace E := E.next hxs49 (by omega)
    replace hp1_26 := hp1_26.chg hxs49 (by omega)
    replace hp1_28 := hp1_28.chg hxs49 (by omega)
    refine w_pure (y_assign rfl) rfl ?_
    refine w_pure (y_assign rfl) rfl ?_
    refine w_nil ?_
    refine x_next ?_
    refine c_seq ?_
    refine c_region ?_
    refine w_pure (y_load_boxs rfl) rfl ?_
    (refine w_call rfl rfl rfl (toCounter_c _) rfl ?_; rintro _ w33 ⟨d33, ⟨rfl, ⟨hp1_33, hx33⟩⟩⟩)
    have hz_hx33 := hx33.size
    replace hb6 := hb6.ext hx33
    replace hb2 := hb2.ext hx33
    replace s0 := s0.ext hx33
    replace E := E.trans hx33
    replace hp1_26 := hp1_26.ext hx33
    replace hp1_28 := hp1_28.ext hx33
    replace hp1_33 := hp1_33.fresh
    refine w_alloc (k := fun b9 w9 hb9 hx9 hl9 hs9 => ?_)
    have hz_hx9 := hx9.size
    replace hb6 := hb6.ext hx9
    replace hb2 := hb2.ext hx9
    replace s0 := s0.ext hx9
    replace E := E.trans hx9
    replace hp1_26 := hp1_26.ext hx9
    replace hp1_28 := hp1_28.ext hx9
    replace hp1_33 := hp1_33.ext hx9
    refine w_store_boxs rfl rfl (next := fun ws59 hbs59 hxs59 hss59 => ?_)
    (replace hb9 := hbs59; clear hbs59)
    have hz_hxs59 := hxs59.size
    replace hb6 := hb6.chg hxs59 (by omega)
    replace hb2 := hb2.chg hxs59 (by omega)
    replace s0 := s0.chg hxs59 (by omega)
    replace E := E.next hxs59 (by omega)
    replace hp1_26 := hp1_26.chg hxs59 (by omega)
    replace hp1_28 := hp1_28.chg hxs59 (by omega)
    replace hp1_33 := hp1_33.chg hxs59 (by omega)
    refine w_nil ?_
    refine x_next ?_
    refine c_seq ?_
    refine c_region ?_
    refine w_pure (y_load_boxs rfl) rfl ?_
    refine w_pure (y_move rfl) rfl ?_
    (refine w_call rfl rfl rfl (iTakeFromCounter_c _) rfl ?_; rintro _ w37 ⟨d37, ⟨rfl, ⟨hp1_37, hx37⟩⟩⟩)
    have hz_hx37 := hx37.size
    replace hb9 := hb9.ext hx37
    replace hb6 := hb6.ext hx37
    replace hb2 := hb2.ext hx37
    replace s0 := s0.ext hx37
    replace E := E.trans hx37
    replace hp1_26 := hp1_26.ext hx37
    replace hp1_28 := hp1_28.ext hx37
    replace hp1_33 := hp1_33.ext hx37
    replace hp1_37 := hp1_37.fresh
    refine w_pure (y_move rfl) rfl ?_
    refine w_pure (y_extract rfl rfl) rfl ?_
    refine w_pure (y_extract rfl rfl) rfl ?_
    refine w_pure (y_extract rfl rfl) rfl ?_
    refine w_alloc (k := fun b10 w10 hb10 hx10 hl10 hs10 => ?_)
    have hz_hx10 := hx10.size
    replace hb9 := hb9.ext hx10
    replace hb6 := hb6.ext hx10
    replace hb2 := hb2.ext hx10
    replace s0 := s0.ext hx10
    replace E := E.trans hx10
    replace hp1_26 := hp1_26.ext hx10
    replace hp1_28 := hp1_28.ext hx10
    replace hp1_33 := hp1_33.ext hx10
    replace hp1_37 := hp1_37.ext hx10
    refine w_store_boxs rfl rfl (next := fun ws72 hbs72 hxs72 hss72 => ?_)
    (replace hb10 := hbs72; clear hbs72)
    have hz_hxs72 := hxs72.size
    replace hb9 := hb9.chg hxs72 (by omega)
    replace hb6 := hb6.chg hxs72 (by omega)
    replace hb2 := hb2.chg hxs72 (by omega)
    replace s0 := s0.chg hxs72 (by omega)
    replace E := E.next hxs72 (by omega)
    replace hp1_26 := hp1_26.chg hxs72 (by omega)
    replace hp1_28 := hp1_28.chg hxs72 (by omega)
    replace hp1_33 := hp1_33.chg hxs72 (by omega)
    replace hp1_37 := hp1_37.chg hxs72 (by omega)
    refine w_pure (y_assign rfl) rfl ?_
    refine w_pure (y_assign rfl) rfl ?_
    refine w_nil ?_
    refine x_next ?_
    refine c_seq ?_
    refine c_seq ?_
    refine c_region ?_
    refine w_pure (y_load_boxs rfl) rfl ?_
    refine w_pure (y_load_boxs rfl) rfl ?_
    refine w_val rfl rfl rfl (eqCounter_c) rfl (fun w43 hx43 hz43 => ?_)
    have hz_hx43 := hx43.size
    replace hb10 := hb10.ext hx43
    replace hb9 := hb9.ext hx43
    replace hb6 := hb6.ext hx43
    replace hb2 := hb2.ext hx43
    replace s0 := s0.ext hx43
    replace E := E.trans hx43
    replace hp1_26 := hp1_26.ext hx43
    replace hp1_28 := hp1_28.ext hx43
    replace hp1_33 := hp1_33.ext hx43
    replace hp1_37 := hp1_37.ext hx43
    refine w_pure (y_not_dec rfl) rfl ?_
    refine w_pure (y_move rfl) rfl ?_
    (refine w_part_dec rfl rfl (fun hc46 => ?_) (fun hc46 => ?_) <;> try (first | exact absurd rfl hc46 | contradiction | exact Bool.noConfusion (show false = true from hc46.symm.trans (by assumption)) | exact Bool.noConfusion (show true = false from hc46.symm.trans (by assumption)) | (exfalso; omega) | (exfalso; simp only [*, Bool.not_true, Bool.not_false, reduceCtorEq] at hc46; done)))
    refine w_yes rfl rfl ?_
    refine w_pure (y_move rfl) rfl ?_
    refine w_yes rfl rfl ?_
    refine w_pure (y_move rfl) rfl ?_
    refine w_yes rfl rfl ?_
    refine w_pure (y_neb rfl rfl) rfl ?_
    refine w_pure (y_pick_f rfl rfl) rfl ?_
    refine w_pure (y_move rfl) rfl ?_
    (refine w_part_dec rfl rfl (fun hc51 => ?_) (fun hc51 => ?_) <;> try (first | exact absurd rfl hc51 | contradiction | exact Bool.noConfusion (show false = true from hc51.symm.trans (by assumption)) | exact Bool.noConfusion (show true = false from hc51.symm.trans (by assumption)) | (exfalso; omega) | (exfalso; simp only [*, Bool.not_true, Bool.not_false, reduceCtorEq] at hc51; done)))
    refine w_yes rfl rfl ?_
    refine w_pure (y_move rfl) rfl ?_
    refine w_yes rfl rfl ?_
    refine w_pure (y_move rfl) rfl ?_
    refine w_yes rfl rfl ?_
    refine w_pure (y_ne rfl rfl) rfl ?_
    refine w_pure (y_pick_f rfl rfl) rfl ?_
    refine w_nil ?_
    refine x_next ?_
    refine c_nsame rfl ?_
    refine c_skip ?_
    refine x_next ?_
    refine c_seq ?_
    refine c_seq ?_
    refine c_region_held mixed (fun wr10 hxr10 hzr10 => ?_)
    have hz_hxr10 := hxr10.size
    replace hb10 := hb10.ext hxr10
    replace hb9 := hb9.ext hxr10
    replace hb6 := hb6.ext hxr10
    replace hb2 := hb2.ext hxr10
    replace s0 := s0.ext hxr10
    replace E := E.trans hxr10
    replace hp1_26 := hp1_26.ext hxr10
    replace hp1_28 := hp1_28.ext hxr10
    replace hp1_33 := hp1_33.ext hxr10
    replace hp1_37 := hp1_37.ext hxr10
    refine h_pure rfl (y_load_boxs rfl) rfl ?_
    refine h_pure rfl (y_load_boxs rfl) rfl ?_
    refine h_one rfl ?_
    (refine w_call rfl rfl rfl (toCounter_c _) rfl ?_; rintro _ w57 ⟨d57, ⟨rfl, ⟨hp1_57, hx57⟩⟩⟩)
    have hz_hx57 := hx57.size
    replace hb10 := hb10.ext hx57
    replace hb9 := hb9.ext hx57
    replace hb6 := hb6.ext hx57
    replace hb2 := hb2.ext hx57
    replace s0 := s0.ext hx57
    replace E := E.trans hx57
    replace hp1_26 := hp1_26.ext hx57
    replace hp1_28 := hp1_28.ext hx57
    replace hp1_33 := hp1_33.ext hx57
    replace hp1_37 := hp1_37.ext hx57
    replace hp1_57 := hp1_57.fresh
    refine w_nil ?_
    refine x_held ?_
    refine h_one rfl ?_
    refine w_val rfl rfl rfl (eqCounter_c) rfl (fun w58 hx58 hz58 => ?_)
    have hz_hx58 := hx58.size
    replace hb10 := hb10.ext hx58
    replace hb9 := hb9.ext hx58
    replace hb6 := hb6.ext hx58
    replace hb2 := hb2.ext hx58
    replace s0 := s0.ext hx58
    replace E := E.trans hx58
    replace hp1_26 := hp1_26.ext hx58
    replace hp1_28 := hp1_28.ext hx58
    replace hp1_33 := hp1_33.ext hx58
    replace hp1_37 := hp1_37.ext hx58
    replace hp1_57 := hp1_57.ext hx58
    refine w_nil ?_
    refine x_held ?_
    refine h_pure rfl (y_not_dec rfl) rfl ?_
    refine h_nil ?_
    refine x_next ?_
    refine c_nsame rfl ?_
    refine c_skip ?_
    refine x_next ?_
    refine c_seq ?_
    refine c_region ?_
    refine w_pure (y_assign rfl) rfl ?_
    refine w_nil ?_
    refine x_next ?_
    refine c_seq ?_
    refine c_region ?_
    refine w_pure (y_load_boxs rfl) rfl ?_
    refine w_pure (y_move rfl) rfl ?_
    (refine w_call rfl rfl rfl (markCounter_c _) rfl ?_; rintro _ w62 ⟨rfl, ⟨hp1_62, hx62⟩⟩)
    have hz_hx62 := hx62.size
    replace hb10 := hb10.chg hx62 (by omega)
    replace hb9 := hb9.chg hx62 (by omega)
    replace hb6 := hb6.chg hx62 (by omega)
    replace hb2 := hb2.chg hx62 (by omega)
    replace s0 := s0.chg hx62 (by omega)
    replace E := E.next hx62 (by omega)
    replace hp1_26 := hp1_26.chg hx62 (by omega)
    replace hp1_28 := hp1_28.chg hx62 (by omega)
    replace hp1_37 := hp1_37.chg hx62 (by omega)
    replace hp1_57 := hp1_57.chg hx62 (by omega)
    refine w_pure (y_assign rfl) rfl ?_
    refine w_nil ?_
    refine x_next ?_
    refine c_seq ?_
    refine c_seq ?_
    refine c_region ?_
    refine w_pure (y_move rfl) rfl ?_
    refine w_pure (y_lt rfl rfl) rfl ?_
    refine w_pure (y_move rfl) rfl ?_
    refine w_yes rfl rfl ?_
    refine w_pure (y_load_boxs rfl) rfl ?_
    refine w_yes rfl rfl ?_
    refine w_pure (y_load_boxs rfl) rfl ?_
    refine w_yes rfl rfl ?_
    refine w_val rfl rfl rfl (eqCounter_c) rfl (fun w68 hx68 hz68 => ?_)
    have hz_hx68 := hx68.size
    replace hp1_62 := hp1_62.ext hx68
    replace hb10 := hb10.ext hx68
    replace hb9 := hb9.ext hx68
    replace hb6 := hb6.ext hx68
    replace hb2 := hb2.ext hx68
    replace s0 := s0.ext hx68
    replace E := E.trans hx68
    replace hp1_26 := hp1_26.ext hx68
    replace hp1_28 := hp1_28.ext hx68
    replace hp1_37 := hp1_37.ext hx68
    replace hp1_57 := hp1_57.ext hx68
    refine w_yes rfl rfl ?_
    refine w_pure (y_not_dec rfl) rfl ?_
    refine w_pure (y_pick_f rfl rfl) rfl ?_
    refine w_pure (y_move rfl) rfl ?_
    (refine w_part_dec rfl rfl (fun hc72 => ?_) (fun hc72 => ?_) <;> try (first | exact absurd rfl hc72 | contradiction | exact Bool.noConfusion (show false = true from hc72.symm.trans (by assumption)) | exact Bool.noConfusion (show true = false from hc72.symm.trans (by assumption)) | (exfalso; omega) | (exfalso; simp only [*, Bool.not_true, Bool.not_false, reduceCtorEq] at hc72; done)))
    refine w_yes rfl rfl ?_
    refine w_pure (y_move rfl) rfl ?_
    refine w_yes rfl rfl ?_
    refine w_pure (y_move rfl) rfl ?_
    refine w_yes rfl rfl ?_
    refine w_pure (y_neb rfl rfl) rfl ?_
    refine w_pure (y_pick_f rfl rfl) rfl ?_
    refine w_pure (y_move rfl) rfl ?_
    (refine w_part_dec rfl rfl (fun hc77 => ?_) (fun hc77 => ?_) <;> try (first | exact absurd rfl hc77 | contradiction | exact Bool.noConfusion (show false = true from hc77.symm.trans (by assumption)) | exact Bool.noConfusion (show true = false from hc77.symm.trans (by assumption)) | (exfalso; omega) | (exfalso; simp only [*, Bool.not_true, Bool.not_false, reduceCtorEq] at hc77; done)))
    refine w_yes rfl rfl ?_
    refine w_pure (y_move rfl) rfl ?_
    refine w_yes rfl rfl ?_
    refine w_pure (y_move rfl) rfl ?_
    refine w_yes rfl rfl ?_
    refine w_pure (y_ne rfl rfl) rfl ?_
    refine w_pure (y_pick_f rfl rfl) rfl ?_
    refine w_nil ?_
    refine x_next ?_
    refine c_nsame rfl ?_
    refine c_skip ?_
    refine x_next ?_
    refine c_seq ?_
    refine c_region ?_
    refine w_pure (y_assign rfl) rfl ?_
    refine w_nil ?_
    refine x_next ?_
    refine c_seq ?_
    refine c_region ?_
    refine w_pure (y_load_boxs rfl) rfl ?_
    refine w_pure (y_move rfl) rfl ?_
    (refine w_call rfl rfl rfl (markCounter_c _) rfl ?_; rintro _ w83 ⟨rfl, ⟨hp1_83, hx83⟩⟩)
    have hz_hx83 := hx83.size
    replace hp1_62 := hp1_62.chg hx83 (by omega)
    replace hb10 := hb10.chg hx83 (by omega)
    replace hb9 := hb9.chg hx83 (by omega)
    replace hb6 := hb6.chg hx83 (by omega)
    replace hb2 := hb2.chg hx83 (by omega)
    replace s0 := s0.chg hx83 (by omega)
    replace E := E.next hx83 (by omega)
    replace hp1_26 := hp1_26.chg hx83 (by omega)
    replace hp1_28 := hp1_28.chg hx83 (by omega)
    replace hp1_57 := hp1_57.chg hx83 (by omega)
    refine w_pure (y_assign rfl) rfl ?_
    refine w_nil ?_
    refine x_next ?_
    refine c_seq ?_
    refine c_region ?_
    refine w_pure (y_assign rfl) rfl ?_
    refine w_nil ?_
    refine x_next ?_
    refine c_seq ?_
    refine c_region ?_
    refine w_pure (y_load_boxs rfl) rfl ?_
    refine w_pure (y_move rfl) rfl ?_
    refine w_val rfl rfl rfl (heldCounter_c) rfl (fun w86 hx86 hz86 => ?_)
    have hz_hx86 := hx86.size
    replace hp1_83 := hp1_83.ext hx86
    replace hp1_62 := hp1_62.ext hx86
    replace hb10 := hb10.ext hx86
    replace hb9 := hb9.ext hx86
    replace hb6 := hb6.ext hx86
    replace hb2 := hb2.ext hx86
    replace s0 := s0.ext hx86
    replace E := E.trans hx86
    replace hp1_26 := hp1_26.ext hx86
    replace hp1_28 := hp1_28.ext hx86
    replace hp1_57 := hp1_57.ext hx86
    refine w_pure (y_assign rfl) rfl ?_
    refine w_nil ?_
    refine x_next ?_
    refine c_seq ?_
    refine c_seq ?_
    refine c_region ?_
    refine w_pure (y_move rfl) rfl ?_
    refine w_pure (y_lt rfl rfl) rfl ?_
    refine w_nil ?_
    refine x_next ?_
    refine c_false rfl ?_
    refine c_skip ?_
    refine x_next ?_
    refine c_seq ?_
    refine c_seq ?_
    refine c_region ?_
    refine w_pure (y_move rfl) rfl ?_
    refine w_pure (y_move rfl) rfl ?_
    refine w_pure (y_ne rfl rfl) rfl ?_
    refine w_nil ?_
    refine x_next ?_
    refine c_nsame rfl ?_
    refine c_skip ?_
    refine x_next ?_
    refine c_seq ?_
    refine c_region ?_
    refine w_pure (y_load_boxs rfl) rfl ?_
    (refine w_call rfl rfl rfl (toCounter_c _) rfl ?_; rintro _ w94 ⟨d94, ⟨rfl, ⟨hp1_94, hx94⟩⟩⟩)
    have hz_hx94 := hx94.size
    replace hp1_83 := hp1_83.ext hx94
    replace hp1_62 := hp1_62.ext hx94
    replace hb10 := hb10.ext hx94
    replace hb9 := hb9.ext hx94
    replace hb6 := hb6.ext hx94
    replace hb2 := hb2.ext hx94
    replace s0 := s0.ext hx94
    replace E := E.trans hx94
    replace hp1_26 := hp1_26.ext hx94
    replace hp1_28 := hp1_28.ext hx94
    replace hp1_57 := hp1_57.ext hx94
    replace hp1_94 := hp1_94.fresh
    refine w_pure (y_move rfl) rfl ?_
    (refine w_call rfl rfl rfl (iTakeFromCounter_c _) rfl ?_; rintro _ w96 ⟨d96, ⟨rfl, ⟨hp1_96, hx96⟩⟩⟩)
    have hz_hx96 := hx96.size
    replace hp1_83 := hp1_83.ext hx96
    replace hp1_62 := hp1_62.ext hx96
    replace hb10 := hb10.ext hx96
    replace hb9 := hb9.ext hx96
    replace hb6 := hb6.ext hx96
    replace hb2 := hb2.ext hx96
    replace s0 := s0.ext hx96
    replace E := E.trans hx96
    replace hp1_26 := hp1_26.ext hx96
    replace hp1_28 := hp1_28.ext hx96
    replace hp1_57 := hp1_57.ext hx96
    replace hp1_94 := hp1_94.ext hx96
    replace hp1_96 := hp1_96.fresh
    refine w_pure (y_move rfl) rfl ?_
    refine w_pure (y_extract rfl rfl) rfl ?_
    refine w_pure (y_extract rfl rfl) rfl ?_
    refine w_pure (y_extract rfl rfl) rfl ?_
    refine w_alloc (k := fun b16 w16 hb16 hx16 hl16 hs16 => ?_)
    have hz_hx16 := hx16.size
    replace hp1_83 := hp1_83.ext hx16
    replace hp1_62 := hp1_62.ext hx16
    replace hb10 := hb10.ext hx16
    replace hb9 := hb9.ext hx16
    replace hb6 := hb6.ext hx16
    replace hb2 := hb2.ext hx16
    replace s0 := s0.ext hx16
    replace E := E.trans hx16
    replace hp1_26 := hp1_26.ext hx16
    replace hp1_28 := hp1_28.ext hx16
    replace hp1_57 := hp1_57.ext hx16
    replace hp1_94 := hp1_94.ext hx16
    replace hp1_96 := hp1_96.ext hx16
    refine w_store_boxs rfl rfl (next := fun ws235 hbs235 hxs235 hss235 => ?_)
    (replace hb16 := hbs235; clear hbs235)
    have hz_hxs235 := hxs235.size
    replace hp1_83 := hp1_83.chg hxs235 (by omega)
    replace hp1_62 := hp1_62.chg hxs235 (by omega)
    replace hb10 := hb10.chg hxs235 (by omega)
    replace hb9 := hb9.chg hxs235 (by omega)
    replace hb6 := hb6.chg hxs235 (by omega)
    replace hb2 := hb2.chg hxs235 (by omega)
    replace s0 := s0.chg hxs235 (by omega)
    replace E := E.next hxs235 (by omega)
    replace hp1_26 := hp1_26.chg hxs235 (by omega)
    replace hp1_28 := hp1_28.chg hxs235 (by omega)
    replace hp1_57 := hp1_57.chg hxs235 (by omega)
    replace hp1_94 := hp1_94.chg hxs235 (by omega)
    replace hp1_96 := hp1_96.chg hxs235 (by omega)
    refine w_pure (y_assign rfl) rfl ?_
    refine w_pure (y_assign rfl) rfl ?_
    refine w_nil ?_
    refine x_next ?_
    refine c_seq ?_
    refine c_seq ?_
    refine c_region ?_
    refine w_pure (y_load_boxs rfl) rfl ?_
    refine w_pure (y_load_boxs rfl) rfl ?_
    refine w_val rfl rfl rfl (eqCounter_c) rfl (fun w102 hx102 hz102 => ?_)
    have hz_hx102 := hx102.size
    replace hb16 := hb16.ext hx102
    replace hp1_83 := hp1_83.ext hx102
    replace hp1_62 := hp1_62.ext hx102
    replace hb10 := hb10.ext hx102
    replace hb9 := hb9.ext hx102
    replace hb6 := hb6.ext hx102
    replace hb2 := hb2.ext hx102
    replace s0 := s0.ext hx102
    replace E := E.trans hx102
    replace hp1_26 := hp1_26.ext hx102
    replace hp1_28 := hp1_28.ext hx102
    replace hp1_57 := hp1_57.ext hx102
    replace hp1_94 := hp1_94.ext hx102
    replace hp1_96 := hp1_96.ext hx102
    refine w_pure (y_not_dec rfl) rfl ?_
    refine w_pure (y_move rfl) rfl ?_
    (refine w_part_dec rfl rfl (fun hc105 => ?_) (fun hc105 => ?_) <;> try (first | exact absurd rfl hc105 | contradiction | exact Bool.noConfusion (show false = true from hc105.symm.trans (by assumption)) | exact Bool.noConfusion (show true = false from hc105.symm.trans (by assumption)) | (exfalso; omega) | (exfalso; simp only [*, Bool.not_true, Bool.not_false, reduceCtorEq] at hc105; done)))
    refine w_yes rfl rfl ?_
    refine w_pure (y_move rfl) rfl ?_
    refine w_yes rfl rfl ?_
    refine w_pure (y_move rfl) rfl ?_
    refine w_yes rfl rfl ?_
    refine w_pure (y_neb rfl rfl) rfl ?_
    refine w_pure (y_pick_f rfl rfl) rfl ?_
    refine w_pure (y_move rfl) rfl ?_
    (refine w_part_dec rfl rfl (fun hc110 => ?_) (fun hc110 => ?_) <;> try (first | exact absurd rfl hc110 | contradiction | exact Bool.noConfusion (show false = true from hc110.symm.trans (by assumption)) | exact Bool.noConfusion (show true = false from hc110.symm.trans (by assumption)) | (exfalso; omega) | (exfalso; simp only [*, Bool.not_true, Bool.not_false, reduceCtorEq] at hc110; done)))
    refine w_yes rfl rfl ?_
    refine w_pure (y_move rfl) rfl ?_
    refine w_yes rfl rfl ?_
    refine w_pure (y_move rfl) rfl ?_
    refine w_yes rfl rfl ?_
    refine w_pure (y_ne rfl rfl) rfl ?_
    refine w_pure (y_pick_f rfl rfl) rfl ?_
    refine w_nil ?_
    refine x_next ?_
    refine c_nsame rfl ?_
    refine c_skip ?_
    refine x_next ?_
    refine c_seq ?_
    refine c_region ?_
    refine w_pure (y_assign rfl) rfl ?_
    refine w_nil ?_
    refine x_next ?_
    refine c_seq ?_
    refine c_region ?_
    refine w_pure (y_load_boxs rfl) rfl ?_
    refine w_pure (y_move rfl) rfl ?_
    refine w_val rfl rfl rfl (heldCounter_c) rfl (fun w116 hx116 hz116 => ?_)
    have hz_hx116 := hx116.size
    replace hb16 := hb16.ext hx116
    replace hp1_83 := hp1_83.ext hx116
    replace hp1_62 := hp1_62.ext hx116
    replace hb10 := hb10.ext hx116
    replace hb9 := hb9.ext hx116
    replace hb6 := hb6.ext hx116
    replace hb2 := hb2.ext hx116
    replace s0 := s0.ext hx116
    replace E := E.trans hx116
    replace hp1_26 := hp1_26.ext hx116
    replace hp1_28 := hp1_28.ext hx116
    replace hp1_57 := hp1_57.ext hx116
    replace hp1_94 := hp1_94.ext hx116
    replace hp1_96 := hp1_96.ext hx116
    refine w_pure (y_assign rfl) rfl ?_
    refine w_nil ?_
    refine x_next ?_
    refine c_seq ?_
    refine c_seq ?_
    refine c_region ?_
    refine w_pure (y_move rfl) rfl ?_
    refine w_pure (y_lt rfl rfl) rfl ?_
    refine w_nil ?_
    refine x_next ?_
    refine c_false rfl ?_
    refine c_skip ?_
    refine x_next ?_
    refine c_seq ?_
    refine c_seq ?_
    refine c_region ?_
    refine w_pure (y_move rfl) rfl ?_
    refine w_pure (y_move rfl) rfl ?_
    refine w_pure (y_ne rfl rfl) rfl ?_
    refine w_nil ?_
    refine x_next ?_
    refine c_nsame rfl ?_
    refine c_skip ?_
    refine x_next ?_
    refine c_seq ?_
    refine c_region ?_
    refine w_pure (y_assign rfl) rfl ?_
    refine w_nil ?_
    refine x_next ?_
    refine c_ret ?_
    exact x_retv [_] rfl ⟨rfl, trivial⟩ ⟨rfl, E.go⟩
theorem lComplementOf (w0 : World) (x0 : { x : OSl // x.ok w0 }) : Ret Try.prog 8 [.agg #[x0.1.v]] w0 fun u w' => u = .bool true ∧ Ext w0 w' := by
  obtain ⟨⟨v0, xs0⟩, hok0⟩ := x0
  have s0 : SL w0 0 w0.heap.size v0 xs0 := hok0.sl
  have r0 := hok0.in64
  show Ret _ _ [.agg #[v0]] w0 _
  clear hok0
  have E : Since 0 0 w0 w0 := Since.refl 0 0 w0
  have hb := resComp_len xs0
  refine ret_enter Try.func8 rfl Try.ntmps8 rfl ?_
  focus
    refine c_seq ?_
    refine c_region ?_
    refine w_box rfl (k := fun b1 w1 hb1 hx1 hl1 hs1 => ?_)
    have hz_hx1 := hx1.size
    replace s0 := s0.ext hx1
    replace E := E.trans hx1
    refine w_pure (y_assign rfl) rfl ?_
    refine w_nil ?_
    refine x_next ?_
    refine c_seq ?_
    refine c_region ?_
    refine w_pure (y_assign rfl) rfl ?_
    refine w_nil ?_
    refine x_next ?_
    refine c_seq ?_
    refine c_region ?_
    refine w_pure (y_load_boxs rfl) rfl ?_
    refine w_pure (y_move rfl) rfl ?_
    (refine w_call rfl rfl rfl (szCounter_z) rfl ?_; rintro _ w16 ⟨z16, ⟨rfl, ⟨hp1_16, hx16⟩⟩⟩)
    have hz_hx16 := hx16.size
    replace hb1 := hb1.ext hx16
    replace s0 := s0.ext hx16
    replace E := E.trans hx16
    refine w_pure (y_assign rfl) rfl ?_
    refine w_nil ?_
    refine x_next ?_
    refine c_seq ?_
    refine c_seq ?_
    refine c_region ?_
    refine w_pure (y_move rfl) rfl ?_
    refine w_pure (y_lt rfl rfl) rfl ?_
    refine w_nil ?_
    refine x_next ?_
    (refine c_dec rfl (fun hc18 => ?_) (fun hc18 => ?_) <;> try (first | exact absurd rfl hc18 | contradiction | exact Bool.noConfusion (show false = true from hc18.symm.trans (by assumption)) | exact Bool.noConfusion (show true = false from hc18.symm.trans (by assumption)) | (exfalso; omega) | (exfalso; simp only [*, Bool.not_true, Bool.not_false, reduceCtorEq] at hc18; done)))
    refine c_seq ?_
    refine c_region ?_
    refine w_pure (y_assign rfl) rfl ?_
    refine w_nil ?_
    refine x_next ?_
    refine c_ret ?_
    refine x_then_ret ?_
    exact x_retv [_] rfl ⟨rfl, trivial⟩ ⟨rfl, E.go⟩
    refine c_skip ?_
    refine x_next ?_
    refine c_seq ?_
    refine c_region ?_
    refine w_pure (y_load_boxs rfl) rfl ?_
    (refine w_call rfl rfl rfl (toCounter_c _) rfl ?_; rintro _ w21 ⟨d21, ⟨rfl, ⟨hp1_21, hx21⟩⟩⟩)
    have hz_hx21 := hx21.size
    replace hb1 := hb1.ext hx21
    replace s0 := s0.ext hx21
    replace E := E.trans hx21
    replace hp1_21 := hp1_21.fresh
    (refine w_call rfl rfl rfl (sComplementOf_c) rfl ?_; rintro _ w22 ⟨d22, ⟨rfl, ⟨hp1_22, hx22⟩⟩⟩)
    have hz_hx22 := hx22.size
    replace hb1 := hb1.ext hx22
    replace s0 := s0.ext hx22
    replace E := E.trans hx22
    replace hp1_21 := hp1_21.ext hx22
    replace hp1_22 := hp1_22.fresh
    refine w_pure (y_move rfl) rfl ?_
    refine w_pure (y_extract rfl rfl) rfl ?_
    refine w_pure (y_extract rfl rfl) rfl ?_
    refine w_alloc (k := fun b4 w4 hb4 hx4 hl4 hs4 => ?_)
    have hz_hx4 := hx4.size
    replace hb1 := hb1.ext hx4
    replace s0 := s0.ext hx4
    replace E := E.trans hx4
    replace hp1_21 := hp1_21.ext hx4
    replace hp1_22 := hp1_22.ext hx4
    refine w_store_boxs rfl rfl (next := fun ws47 hbs47 hxs47 hss47 => ?_)
    (replace hb4 := hbs47; clear hbs47)
    have hz_hxs47 := hxs47.size
    replace hb1 := hb1.chg hxs47 (by omega)
    replace s0 := s0.chg hxs47 (by omega)
    replace E := E.next hxs47 (by omega)
    replace hp1_21 := hp1_21.chg hxs47 (by omega)
    replace hp1_22 := hp1_22.chg hxs47 (by omega)
    refine w_pure (y_assign rfl) rfl ?_
    refine w_nil ?_
    refine x_next ?_
    refine c_seq ?_
    refine c_region ?_
    refine w_pure (y_load_boxs rfl) rfl ?_
    (refine w_call rfl rfl rfl (toCounter_c _) rfl ?_; rintro _ w26 ⟨d26, ⟨rfl, ⟨hp1_26, hx26⟩⟩⟩)
    have hz_hx26 := hx26.size
    replace hb4 := hb4.ext hx26
    replace hb1 := hb1.ext hx26
    replace s0 := s0.ext hx26
    replace E := E.trans hx26
    replace hp1_21 := hp1_21.ext hx26
    replace hp1_22 := hp1_22.ext hx26
    replace hp1_26 := hp1_26.fresh
    refine w_alloc (k := fun b6 w6 hb6 hx6 hl6 hs6 => ?_)
    have hz_hx6 := hx6.size
    replace hb4 := hb4.ext hx6
    replace hb1 := hb1.ext hx6
    replace s0 := s0.ext hx6
    replace E := E.trans hx6
    replace hp1_21 := hp1_21.ext hx6
    replace hp1_22 := hp1_22.ext hx6
    replace hp1_26 := hp1_26.ext hx6
    refine w_store_boxs rfl rfl (next := fun ws56 hbs56 hxs56 hss56 => ?_)
    (replace hb6 := hbs56; clear hbs56)
    have hz_hxs56 := hxs56.size
    replace hb4 := hb4.chg hxs56 (by omega)
    replace hb1 := hb1.chg hxs56 (by omega)
    replace s0 := s0.chg hxs56 (by omega)
    replace E := E.next hxs56 (by omega)
    replace hp1_21 := hp1_21.chg hxs56 (by omega)
    replace hp1_22 := hp1_22.chg hxs56 (by omega)
    replace hp1_26 := hp1_26.chg hxs56 (by omega)
    refine w_nil ?_
    refine x_next ?_
    refine c_seq ?_
    refine c_region ?_
    refine w_pure (y_load_boxs rfl) rfl ?_
    (refine w_call rfl rfl rfl (iComplementOf_c) rfl ?_; rintro _ w29 ⟨d29, ⟨rfl, ⟨hp1_29, hx29⟩⟩⟩)
    have hz_hx29 := hx29.size
    replace hb6 := hb6.ext hx29
    replace hb4 := hb4.ext hx29
    replace hb1 := hb1.ext hx29
    replace s0 := s0.ext hx29
    replace E := E.trans hx29
    replace hp1_21 := hp1_21.ext hx29
    replace hp1_22 := hp1_22.ext hx29
    replace hp1_26 := hp1_26.ext hx29
    replace hp1_29 := hp1_29.fresh
    refine w_pure (y_move rfl) rfl ?_
    refine w_pure (y_extract rfl rfl) rfl ?_
    refine w_pure (y_extract rfl rfl) rfl ?_
    refine w_alloc (k := fun b7 w7 hb7 hx7 hl7 hs7 => ?_)
    have hz_hx7 := hx7.size
    replace hb6 := hb6.ext hx7
    replace hb4 := hb4.ext hx7
    replace hb1 := hb1.ext hx7
    replace s0 := s0.ext hx7
    replace E := E.trans hx7
    replace hp1_21 := hp1_21.ext hx7
    replace hp1_22 := hp1_22.ext hx7
    replace hp1_26 := hp1_26.ext hx7
    replace hp1_29 := hp1_29.ext hx7
    refine w_store_boxs rfl rfl (next := fun ws67 hbs67 hxs67 hss67 => ?_)
    (replace hb7 := hbs67; clear hbs67)
    have hz_hxs67 := hxs67.size
    replace hb6 := hb6.chg hxs67 (by omega)
    replace hb4 := hb4.chg hxs67 (by omega)
    replace hb1 := hb1.chg hxs67 (by omega)
    replace s0 := s0.chg hxs67 (by omega)
    replace E := E.next hxs67 (by omega)
    replace hp1_21 := hp1_21.chg hxs67 (by omega)
    replace hp1_22 := hp1_22.chg hxs67 (by omega)
    replace hp1_26 := hp1_26.chg hxs67 (by omega)
    replace hp1_29 := hp1_29.chg hxs67 (by omega)
    refine w_pure (y_assign rfl) rfl ?_
    refine w_nil ?_
    refine x_next ?_
    refine c_seq ?_
    refine c_seq ?_
    refine c_region ?_
    refine w_pure (y_load_boxs rfl) rfl ?_
    refine w_pure (y_load_boxs rfl) rfl ?_
    refine w_val rfl rfl rfl (eqCounter_c) rfl (fun w34 hx34 hz34 => ?_)
    have hz_hx34 := hx34.size
    replace hb7 := hb7.ext hx34
    replace hb6 := hb6.ext hx34
    replace hb4 := hb4.ext hx34
    replace hb1 := hb1.ext hx34
    replace s0 := s0.ext hx34
    replace E := E.trans hx34
    replace hp1_21 := hp1_21.ext hx34
    replace hp1_22 := hp1_22.ext hx34
    replace hp1_26 := hp1_26.ext hx34
    replace hp1_29 := hp1_29.ext hx34
    refine w_pure (y_not_dec rfl) rfl ?_
    refine w_pure (y_move rfl) rfl ?_
    (refine w_part_dec rfl rfl (fun hc37 => ?_) (fun hc37 => ?_) <;> try (first | exact absurd rfl hc37 | contradiction | exact Bool.noConfusion (show false = true from hc37.symm.trans (by assumption)) | exact Bool.noConfusion (show true = false from hc37.symm.trans (by assumption)) | (exfalso; omega) | (exfalso; simp only [*, Bool.not_true, Bool.not_false, reduceCtorEq] at hc37; done)))
    refine w_yes rfl rfl ?_
    refine w_pure (y_move rfl) rfl ?_
    refine w_yes rfl rfl ?_
    refine w_pure (y_move rfl) rfl ?_
    refine w_yes rfl rfl ?_
    refine w_pure (y_ne rfl rfl) rfl ?_
    refine w_pure (y_pick_f rfl rfl) rfl ?_
    refine w_nil ?_
    refine x_next ?_
    refine c_nsame rfl ?_
    refine c_skip ?_
    refine x_next ?_
    refine c_seq ?_
    refine c_seq ?_
    refine c_region_held mixed (fun wr10 hxr10 hzr10 => ?_)
    have hz_hxr10 := hxr10.size
    replace hb7 := hb7.ext hxr10
    replace hb6 := hb6.ext hxr10
    replace hb4 := hb4.ext hxr10
    replace hb1 := hb1.ext hxr10
    replace s0 := s0.ext hxr10
    replace E := E.trans hxr10
    replace hp1_21 := hp1_21.ext hxr10
    replace hp1_22 := hp1_22.ext hxr10
    replace hp1_26 := hp1_26.ext hxr10
    replace hp1_29 := hp1_29.ext hxr10
    refine h_pure rfl (y_load_boxs rfl) rfl ?_
    refine h_pure rfl (y_load_boxs rfl) rfl ?_
    refine h_one rfl ?_
    (refine w_call rfl rfl rfl (toCounter_c _) rfl ?_; rintro _ w43 ⟨d43, ⟨rfl, ⟨hp1_43, hx43⟩⟩⟩)
    have hz_hx43 := hx43.size
    replace hb7 := hb7.ext hx43
    replace hb6 := hb6.ext hx43
    replace hb4 := hb4.ext hx43
    replace hb1 := hb1.ext hx43
    replace s0 := s0.ext hx43
    replace E := E.trans hx43
    replace hp1_21 := hp1_21.ext hx43
    replace hp1_22 := hp1_22.ext hx43
    replace hp1_26 := hp1_26.ext hx43
    replace hp1_29 := hp1_29.ext hx43
    replace hp1_43 := hp1_43.fresh
    refine w_nil ?_
    refine x_held ?_
    refine h_one rfl ?_
    refine w_val rfl rfl rfl (eqCounter_c) rfl (fun w44 hx44 hz44 => ?_)
    have hz_hx44 := hx44.size
    replace hb7 := hb7.ext hx44
    replace hb6 := hb6.ext hx44
    replace hb4 := hb4.ext hx44
    replace hb1 := hb1.ext hx44
    replace s0 := s0.ext hx44
    replace E := E.trans hx44
    replace hp1_21 := hp1_21.ext hx44
    replace hp1_22 := hp1_22.ext hx44
    replace hp1_26 := hp1_26.ext hx44
    replace hp1_29 := hp1_29.ext hx44
    replace hp1_43 := hp1_43.ext hx44
    refine w_nil ?_
    refine x_held ?_
    refine h_pure rfl (y_not_dec rfl) rfl ?_
    refine h_nil ?_
    refine x_next ?_
    refine c_nsame rfl ?_
    refine c_skip ?_
    refine x_next ?_
    refine c_seq ?_
    refine c_region ?_
    refine w_pure (y_assign rfl) rfl ?_
    refine w_nil ?_
    refine x_next ?_
    refine c_seq ?_
    refine c_region ?_
    refine w_pure (y_load_boxs rfl) rfl ?_
    refine w_pure (y_move rfl) rfl ?_
    (refine w_call rfl rfl rfl (markCounter_c _) rfl ?_; rintro _ w48 ⟨rfl, ⟨hp1_48, hx48⟩⟩)
    have hz_hx48 := hx48.size
    replace hb7 := hb7.chg hx48 (by omega)
    replace hb6 := hb6.chg hx48 (by omega)
    replace hb4 := hb4.chg hx48 (by omega)
    replace hb1 := hb1.chg hx48 (by omega)
    replace s0 := s0.chg hx48 (by omega)
    replace E := E.next hx48 (by omega)
    replace hp1_21 := hp1_21.chg hx48 (by omega)
    replace hp1_22 := hp1_22.chg hx48 (by omega)
    replace hp1_29 := hp1_29.chg hx48 (by omega)
    replace hp1_43 := hp1_43.chg hx48 (by omega)
    refine w_pure (y_assign rfl) rfl ?_
    refine w_nil ?_
    refine x_next ?_
    refine c_seq ?_
    refine c_seq ?_
    refine c_region ?_
    refine w_pure (y_move rfl) rfl ?_
    refine w_pure (y_lt rfl rfl) rfl ?_
    refine w_pure (y_move rfl) rfl ?_
    refine w_yes rfl rfl ?_
    refine w_pure (y_load_boxs rfl) rfl ?_
    refine w_yes rfl rfl ?_
    refine w_pure (y_load_boxs rfl) rfl ?_
    refine w_yes rfl rfl ?_
    refine w_val rfl rfl rfl (eqCounter_c) rfl (fun w54 hx54 hz54 => ?_)
    have hz_hx54 := hx54.size
    replace hp1_48 := hp1_48.ext hx54
    replace hb7 := hb7.ext hx54
    replace hb6 := hb6.ext hx54
    replace hb4 := hb4.ext hx54
    replace hb1 := hb1.ext hx54
    replace s0 := s0.ext hx54
    replace E := E.trans hx54
    replace hp1_21 := hp1_21.ext hx54
    replace hp1_22 := hp1_22.ext hx54
    replace hp1_29 := hp1_29.ext hx54
    replace hp1_43 := hp1_43.ext hx54
    refine w_yes rfl rfl ?_
    refine w_pure (y_not_dec rfl) rfl ?_
    refine w_pure (y_pick_f rfl rfl) rfl ?_
    refine w_pure (y_move rfl) rfl ?_
    (refine w_part_dec rfl rfl (fun hc58 => ?_) (fun hc58 => ?_) <;> try (first | exact absurd rfl hc58 | contradiction | exact Bool.noConfusion (show false = true from hc58.symm.trans (by assumption)) | exact Bool.noConfusion (show true = false from hc58.symm.trans (by assumption)) | (exfalso; omega) | (exfalso; simp only [*, Bool.not_true, Bool.not_false, reduceCtorEq] at hc58; done)))
    refine w_yes rfl rfl ?_
    refine w_pure (y_move rfl) rfl ?_
    refine w_yes rfl rfl ?_
    refine w_pure (y_move rfl) rfl ?_
    refine w_yes rfl rfl ?_
    refine w_pure (y_ne rfl rfl) rfl ?_
    refine w_pure (y_pick_f rfl rfl) rfl ?_
    refine w_nil ?_
    refine x_next ?_
    refine c_nsame rfl ?_
    refine c_skip ?_
    refine x_next ?_
    refine c_seq ?_
    refine c_region ?_
    refine w_pure (y_assign rfl) rfl ?_
    refine w_nil ?_
    refine x_next ?_
    refine c_seq ?_
    refine c_region ?_
    refine w_pure (y_load_boxs rfl) rfl ?_
    refine w_pure (y_move rfl) rfl ?_
    (refine w_call rfl rfl rfl (markCounter_c _) rfl ?_; rintro _ w64 ⟨rfl, ⟨hp1_64, hx64⟩⟩)
    have hz_hx64 := hx64.size
    replace hp1_48 := hp1_48.chg hx64 (by omega)
    replace hb7 := hb7.chg hx64 (by omega)
    replace hb6 := hb6.chg hx64 (by omega)
    replace hb4 := hb4.chg hx64 (by omega)
    replace hb1 := hb1.chg hx64 (by omega)
    replace s0 := s0.chg hx64 (by omega)
    replace E := E.next hx64 (by omega)
    replace hp1_21 := hp1_21.chg hx64 (by omega)
    replace hp1_22 := hp1_22.chg hx64 (by omega)
    replace hp1_43 := hp1_43.chg hx64 (by omega)
    refine w_pure (y_assign rfl) rfl ?_
    refine w_nil ?_
    refine x_next ?_
    refine c_seq ?_
    refine c_region ?_
    refine w_pure (y_assign rfl) rfl ?_
    refine w_nil ?_
    refine x_next ?_
    refine c_seq ?_
    refine c_region ?_
    refine w_pure (y_load_boxs rfl) rfl ?_
    refine w_pure (y_move rfl) rfl ?_
    refine w_val rfl rfl rfl (heldCounter_c) rfl (fun w67 hx67 hz67 => ?_)
    have hz_hx67 := hx67.size
    replace hp1_64 := hp1_64.ext hx67
    replace hp1_48 := hp1_48.ext hx67
    replace hb7 := hb7.ext hx67
    replace hb6 := hb6.ext hx67
    replace hb4 := hb4.ext hx67
    replace hb1 := hb1.ext hx67
    replace s0 := s0.ext hx67
    replace E := E.trans hx67
    replace hp1_21 := hp1_21.ext hx67
    replace hp1_22 := hp1_22.ext hx67
    replace hp1_43 := hp1_43.ext hx67
    refine w_pure (y_assign rfl) rfl ?_
    refine w_nil ?_
    refine x_next ?_
    refine c_seq ?_
    refine c_seq ?_
    refine c_region ?_
    refine w_pure (y_move rfl) rfl ?_
    refine w_pure (y_lt rfl rfl) rfl ?_
    refine w_nil ?_
    refine x_next ?_
    refine c_false rfl ?_
    refine c_skip ?_
    refine x_next ?_
    refine c_seq ?_
    refine c_seq ?_
    refine c_region ?_
    refine w_pure (y_move rfl) rfl ?_
    refine w_pure (y_move rfl) rfl ?_
    refine w_pure (y_ne rfl rfl) rfl ?_
    refine w_nil ?_
    refine x_next ?_
    refine c_nsame rfl ?_
    refine c_skip ?_
    refine x_next ?_
    refine c_seq ?_
    refine c_region ?_
    refine w_pure (y_load_boxs rfl) rfl ?_
    (refine w_call rfl rfl rfl (toCounter_c _) rfl ?_; rintro _ w75 ⟨d75, ⟨rfl, ⟨hp1_75, hx75⟩⟩⟩)
    have hz_hx75 := hx75.size
    replace hp1_64 := hp1_64.ext hx75
    replace hp1_48 := hp1_48.ext hx75
    replace hb7 := hb7.ext hx75
    replace hb6 := hb6.ext hx75
    replace hb4 := hb4.ext hx75
    replace hb1 := hb1.ext hx75
    replace s0 := s0.ext hx75
    replace E := E.trans hx75
    replace hp1_21 := hp1_21.ext hx75
    replace hp1_22 := hp1_22.ext hx75
    replace hp1_43 := hp1_43.ext hx75
    replace hp1_75 := hp1_75.fresh
    (refine w_call rfl rfl rfl (iComplementOf_c) rfl ?_; rintro _ w76 ⟨d76, ⟨rfl, ⟨hp1_76, hx76⟩⟩⟩)
    have hz_hx76 := hx76.size
    replace hp1_64 := hp1_64.ext hx76
    replace hp1_48 := hp1_48.ext hx76
    replace hb7 := hb7.ext hx76
    replace hb6 := hb6.ext hx76
    replace hb4 := hb4.ext hx76
    replace hb1 := hb1.ext hx76
    replace s0 := s0.ext hx76
    replace E := E.trans hx76
    replace hp1_21 := hp1_21.ext hx76
    replace hp1_22 := hp1_22.ext hx76
    replace hp1_43 := hp1_43.ext hx76
    replace hp1_75 := hp1_75.ext hx76
    replace hp1_76 := hp1_76.fresh
    refine w_pure (y_move rfl) rfl ?_
    refine w_pure (y_extract rfl rfl) rfl ?_
    refine w_pure (y_extract rfl rfl) rfl ?_
    refine w_alloc (k := fun b12 w12 hb12 hx12 hl12 hs12 => ?_)
    have hz_hx12 := hx12.size
    replace hp1_64 := hp1_64.ext hx12
    replace hp1_48 := hp1_48.ext hx12
    replace hb7 := hb7.ext hx12
    replace hb6 := hb6.ext hx12
    replace hb4 := hb4.ext hx12
    replace hb1 := hb1.ext hx12
    replace s0 := s0.ext hx12
    replace E := E.trans hx12
    replace hp1_21 := hp1_21.ext hx12
    replace hp1_22 := hp1_22.ext hx12
    replace hp1_43 := hp1_43.ext hx12
    replace hp1_75 := hp1_75.ext hx12
    replace hp1_76 := hp1_76.ext hx12
    refine w_store_boxs rfl rfl (next := fun ws209 hbs209 hxs209 hss209 => ?_)
    (replace hb12 := hbs209; clear hbs209)
    have hz_hxs209 := hxs209.size
    replace hp1_64 := hp1_64.chg hxs209 (by omega)
    replace hp1_48 := hp1_48.chg hxs209 (by omega)
    replace hb7 := hb7.chg hxs209 (by omega)
    replace hb6 := hb6.chg hxs209 (by omega)
    replace hb4 := hb4.chg hxs209 (by omega)
    replace hb1 := hb1.chg hxs209 (by omega)
    replace s0 := s0.chg hxs209 (by omega)
    replace E := E.next hxs209 (by omega)
    replace hp1_21 := hp1_21.chg hxs209 (by omega)
    replace hp1_22 := hp1_22.chg hxs209 (by omega)
    replace hp1_43 := hp1_43.chg hxs209 (by omega)
    replace hp1_75 := hp1_75.chg hxs209 (by omega)
    replace hp1_76 := hp1_76.chg hxs209 (by omega)
    refine w_pure (y_assign rfl) rfl ?_
    refine w_nil ?_
    refine x_next ?_
    refine c_seq ?_
    refine c_seq ?_
    refine c_region ?_
    refine w_pure (y_load_boxs rfl) rfl ?_
    refine w_pure (y_load_boxs rfl) rfl ?_
    refine w_val rfl rfl rfl (eqCounter_c) rfl (fun w81 hx81 hz81 => ?_)
    have hz_hx81 := hx81.size
    replace hb12 := hb12.ext hx81
    replace hp1_64 := hp1_64.ext hx81
    replace hp1_48 := hp1_48.ext hx81
    replace hb7 := hb7.ext hx81
    replace hb6 := hb6.ext hx81
    replace hb4 := hb4.ext hx81
    replace hb1 := hb1.ext hx81
    replace s0 := s0.ext hx81
    replace E := E.trans hx81
    replace hp1_21 := hp1_21.ext hx81
    replace hp1_22 := hp1_22.ext hx81
    replace hp1_43 := hp1_43.ext hx81
    replace hp1_75 := hp1_75.ext hx81
    replace hp1_76 := hp1_76.ext hx81
    refine w_pure (y_not_dec rfl) rfl ?_
    refine w_pure (y_move rfl) rfl ?_
    (refine w_part_dec rfl rfl (fun hc84 => ?_) (fun hc84 => ?_) <;> try (first | exact absurd rfl hc84 | contradiction | exact Bool.noConfusion (show false = true from hc84.symm.trans (by assumption)) | exact Bool.noConfusion (show true = false from hc84.symm.trans (by assumption)) | (exfalso; omega) | (exfalso; simp only [*, Bool.not_true, Bool.not_false, reduceCtorEq] at hc84; done)))
    refine w_yes rfl rfl ?_
    refine w_pure (y_move rfl) rfl ?_
    refine w_yes rfl rfl ?_
    refine w_pure (y_move rfl) rfl ?_
    refine w_yes rfl rfl ?_
    refine w_pure (y_ne rfl rfl) rfl ?_
    refine w_pure (y_pick_f rfl rfl) rfl ?_
    refine w_nil ?_
    refine x_next ?_
    refine c_nsame rfl ?_
    refine c_skip ?_
    refine x_next ?_
    refine c_seq ?_
    refine c_region ?_
    refine w_pure (y_assign rfl) rfl ?_
    refine w_nil ?_
    refine x_next ?_
    refine c_seq ?_
    refine c_region ?_
    refine w_pure (y_load_boxs rfl) rfl ?_
    refine w_pure (y_move rfl) rfl ?_
    refine w_val rfl rfl rfl (heldCounter_c) rfl (fun w90 hx90 hz90 => ?_)
    have hz_hx90 := hx90.size
    replace hb12 := hb12.ext hx90
    replace hp1_64 := hp1_64.ext hx90
    replace hp1_48 := hp1_48.ext hx90
    replace hb7 := hb7.ext hx90
    replace hb6 := hb6.ext hx90
    replace hb4 := hb4.ext hx90
    replace hb1 := hb1.ext hx90
    replace s0 := s0.ext hx90
    replace E := E.trans hx90
    replace hp1_21 := hp1_21.ext hx90
    replace hp1_22 := hp1_22.ext hx90
    replace hp1_43 := hp1_43.ext hx90
    replace hp1_75 := hp1_75.ext hx90
    replace hp1_76 := hp1_76.ext hx90
    refine w_pure (y_assign rfl) rfl ?_
    refine w_nil ?_
    refine x_next ?_
    refine c_seq ?_
    refine c_seq ?_
    refine c_region ?_
    refine w_pure (y_move rfl) rfl ?_
    refine w_pure (y_lt rfl rfl) rfl ?_
    refine w_nil ?_
    refine x_next ?_
    refine c_false rfl ?_
    refine c_skip ?_
    refine x_next ?_
    refine c_seq ?_
    refine c_seq ?_
    refine c_region ?_
    refine w_pure (y_move rfl) rfl ?_
    refine w_pure (y_move rfl) rfl ?_
    refine w_pure (y_ne rfl rfl) rfl ?_
    refine w_nil ?_
    refine x_next ?_
    refine c_nsame rfl ?_
    refine c_skip ?_
    refine x_next ?_
    refine c_seq ?_
    refine c_region ?_
    refine w_pure (y_assign rfl) rfl ?_
    refine w_nil ?_
    refine x_next ?_
    refine c_ret ?_
    exact x_retv [_] rfl ⟨rfl, trivial⟩ ⟨rfl, E.go⟩
theorem lSplitCounter (w0 : World) (x0 : { x : OSl // x.ok w0 }) (a1 : Int) (i1 : In64 a1) : Ret Try.prog 7 [.agg #[x0.1.v], .int .i64 a1] w0 fun u w' => u = .bool true ∧ Ext w0 w' := by
  obtain ⟨⟨v0, xs0⟩, hok0⟩ := x0
  have s0 : SL w0 0 w0.heap.size v0 xs0 := hok0.sl
  have r0 := hok0.in64
  show Ret _ _ [.agg #[v0], .int .i64 a1] w0 _
  clear hok0
  have E : Since 0 0 w0 w0 := Since.refl 0 0 w0
  obtain ⟨hb1, hb2⟩ := resSplit_len xs0 a1
  refine ret_enter Try.func7 rfl Try.ntmps7 rfl ?_
  focus
    refine c_seq ?_
    refine c_region ?_
    refine w_box rfl (k := fun b2x1_3 w2x1_3 hb2x1_3 hx2x1_3 hl2x1_3 hs2x1_3 => ?_)
    have hz_hx2x1_3 := hx2x1_3.size
    replace s0 := s0.ext hx2x1_3
    replace E := E.trans hx2x1_3
    refine w_pure (y_assign rfl) rfl ?_
    refine w_nil ?_
    refine x_next ?_
    refine c_seq ?_
    refine c_region ?_
    refine w_pure (y_assign rfl) rfl ?_
    refine w_nil ?_
    refine x_next ?_
    refine c_seq ?_
    refine c_region ?_
    refine w_pure (y_load_boxs rfl) rfl ?_
    refine w_pure (y_move rfl) rfl ?_
    (refine w_call rfl rfl rfl (szCounter_z) rfl ?_; rintro _ w21 ⟨z21, ⟨rfl, ⟨hp1_21, hx21⟩⟩⟩)
    have hz_hx21 := hx21.size
    replace hb2x1_3 := hb2x1_3.ext hx21
    replace s0 := s0.ext hx21
    replace E := E.trans hx21
    refine w_pure (y_assign rfl) rfl ?_
    refine w_nil ?_
    refine x_next ?_
    refine c_seq ?_
    refine c_seq ?_
    refine c_region ?_
    refine w_pure (y_move rfl) rfl ?_
    refine w_pure (y_lt rfl rfl) rfl ?_
    refine w_nil ?_
    refine x_next ?_
    (refine c_dec rfl (fun hc23 => ?_) (fun hc23 => ?_) <;> try (first | exact absurd rfl hc23 | contradiction | exact Bool.noConfusion (show false = true from hc23.symm.trans (by assumption)) | exact Bool.noConfusion (show true = false from hc23.symm.trans (by assumption)) | (exfalso; omega) | (exfalso; simp only [*, Bool.not_true, Bool.not_false, reduceCtorEq] at hc23; done)))
    refine c_seq ?_
    refine c_region ?_
    refine w_pure (y_assign rfl) rfl ?_
    refine w_nil ?_
    refine x_next ?_
    refine c_ret ?_
    refine x_then_ret ?_
    exact x_retv [_] rfl ⟨rfl, trivial⟩ ⟨rfl, E.go⟩
    refine c_skip ?_
    refine x_next ?_
    refine c_seq ?_
    refine c_region ?_
    refine w_pure (y_load_boxs rfl) rfl ?_
    (refine w_call rfl rfl rfl (toCounter_c _) rfl ?_; rintro _ w26 ⟨d26, ⟨rfl, ⟨hp1_26, hx26⟩⟩⟩)
    have hz_hx26 := hx26.size
    replace hb2x1_3 := hb2x1_3.ext hx26
    replace s0 := s0.ext hx26
    replace E := E.trans hx26
    replace hp1_26 := hp1_26.fresh
    refine w_pure (y_move rfl) rfl ?_
    (refine w_call rfl rfl rfl (sSplitCounter_c _) rfl ?_; rintro _ w28 ⟨d28, ⟨e28, ⟨m28, ⟨rfl, ⟨hp1_28, ⟨hp2_28, ⟨⟨hp3_28, hp4_28⟩, hx28⟩⟩⟩⟩⟩⟩⟩)
    have hz_hx28 := hx28.size
    replace hb2x1_3 := hb2x1_3.ext hx28
    replace s0 := s0.ext hx28
    replace E := E.trans hx28
    replace hp1_26 := hp1_26.ext hx28
    refine w_pure (y_move rfl) rfl ?_
    refine w_pure (y_extract rfl rfl) rfl ?_
    refine w_pure (y_extract rfl rfl) rfl ?_
    refine w_pure (y_extract rfl rfl) rfl ?_
    refine w_alloc (k := fun b6 w6 hb6 hx6 hl6 hs6 => ?_)
    have hz_hx6 := hx6.size
    replace hp1_28 := hp1_28.ext hx6
    replace hp2_28 := hp2_28.ext hx6
    replace hb2x1_3 := hb2x1_3.ext hx6
    replace s0 := s0.ext hx6
    replace E := E.trans hx6
    replace hp1_26 := hp1_26.ext hx6
    refine w_alloc (k := fun b7 w7 hb7 hx7 hl7 hs7 => ?_)
    have hz_hx7 := hx7.size
    replace hb6 := hb6.ext hx7
    replace hp1_28 := hp1_28.ext hx7
    replace hp2_28 := hp2_28.ext hx7
    replace hb2x1_3 := hb2x1_3.ext hx7
    replace s0 := s0.ext hx7
    replace E := E.trans hx7
    replace hp1_26 := hp1_26.ext hx7
    refine w_store_boxs rfl rfl (next := fun ws50 hbs50 hxs50 hss50 => ?_)
    (replace hb6 := hbs50; clear hbs50)
    have hz_hxs50 := hxs50.size
    replace hb7 := hb7.chg hxs50 (by omega)
    replace hp1_28 := hp1_28.chg hxs50 (by omega)
    replace hp2_28 := hp2_28.chg hxs50 (by omega)
    replace hb2x1_3 := hb2x1_3.chg hxs50 (by omega)
    replace s0 := s0.chg hxs50 (by omega)
    replace E := E.next hxs50 (by omega)
    replace hp1_26 := hp1_26.chg hxs50 (by omega)
    refine w_store_boxs rfl rfl (next := fun ws51 hbs51 hxs51 hss51 => ?_)
    (replace hb7 := hbs51; clear hbs51)
    have hz_hxs51 := hxs51.size
    replace hb6 := hb6.chg hxs51 (by omega)
    replace hp1_28 := hp1_28.chg hxs51 (by omega)
    replace hp2_28 := hp2_28.chg hxs51 (by omega)
    replace hb2x1_3 := hb2x1_3.chg hxs51 (by omega)
    replace s0 := s0.chg hxs51 (by omega)
    replace E := E.next hxs51 (by omega)
    replace hp1_26 := hp1_26.chg hxs51 (by omega)
    refine w_pure (y_assign rfl) rfl ?_
    refine w_nil ?_
    refine x_next ?_
    refine c_seq ?_
    refine c_region ?_
    refine w_pure (y_load_boxs rfl) rfl ?_
    (refine w_call rfl rfl rfl (toCounter_c _) rfl ?_; rintro _ w33 ⟨d33, ⟨rfl, ⟨hp1_33, hx33⟩⟩⟩)
    have hz_hx33 := hx33.size
    replace hb7 := hb7.ext hx33
    replace hb6 := hb6.ext hx33
    replace hp1_28 := hp1_28.ext hx33
    replace hp2_28 := hp2_28.ext hx33
    replace hb2x1_3 := hb2x1_3.ext hx33
    replace s0 := s0.ext hx33
    replace E := E.trans hx33
    replace hp1_26 := hp1_26.ext hx33
    replace hp1_33 := hp1_33.fresh
    refine w_alloc (k := fun b9 w9 hb9 hx9 hl9 hs9 => ?_)
    have hz_hx9 := hx9.size
    replace hb7 := hb7.ext hx9
    replace hb6 := hb6.ext hx9
    replace hp1_28 := hp1_28.ext hx9
    replace hp2_28 := hp2_28.ext hx9
    replace hb2x1_3 := hb2x1_3.ext hx9
    replace s0 := s0.ext hx9
    replace E := E.trans hx9
    replace hp1_26 := hp1_26.ext hx9
    replace hp1_33 := hp1_33.ext hx9
    refine w_store_boxs rfl rfl (next := fun ws60 hbs60 hxs60 hss60 => ?_)
    (replace hb9 := hbs60; clear hbs60)
    have hz_hxs60 := hxs60.size
    replace hb7 := hb7.chg hxs60 (by omega)
    replace hb6 := hb6.chg hxs60 (by omega)
    replace hp1_28 := hp1_28.chg hxs60 (by omega)
    replace hp2_28 := hp2_28.chg hxs60 (by omega)
    replace hb2x1_3 := hb2x1_3.chg hxs60 (by omega)
    replace s0 := s0.chg hxs60 (by omega)
    replace E := E.next hxs60 (by omega)
    replace hp1_26 := hp1_26.chg hxs60 (by omega)
    replace hp1_33 := hp1_33.chg hxs60 (by omega)
    refine w_nil ?_
    refine x_next ?_
    refine c_seq ?_
    refine c_region ?_
    refine w_pure (y_load_boxs rfl) rfl ?_
    refine w_pure (y_move rfl) rfl ?_
    (refine w_call rfl rfl rfl (iSplitCounter_c _) rfl ?_; rintro _ w37 ⟨d37, ⟨e37, ⟨m37, ⟨rfl, ⟨hp1_37, ⟨hp2_37, ⟨⟨hp3_37, hp4_37⟩, hx37⟩⟩⟩⟩⟩⟩⟩)
    have hz_hx37 := hx37.size
    replace hb9 := hb9.ext hx37
    replace hb7 := hb7.ext hx37
    replace hb6 := hb6.ext hx37
    replace hp1_28 := hp1_28.ext hx37
    replace hp2_28 := hp2_28.ext hx37
    replace hb2x1_3 := hb2x1_3.ext hx37
    replace s0 := s0.ext hx37
    replace E := E.trans hx37
    replace hp1_26 := hp1_26.ext hx37
    replace hp1_33 := hp1_33.ext hx37
    refine w_pure (y_move rfl) rfl ?_
    refine w_pure (y_extract rfl rfl) rfl ?_
    refine w_pure (y_extract rfl rfl) rfl ?_
    refine w_pure (y_extract rfl rfl) rfl ?_
    refine w_alloc (k := fun b10 w10 hb10 hx10 hl10 hs10 => ?_)
    have hz_hx10 := hx10.size
    replace hp1_37 := hp1_37.ext hx10
    replace hp2_37 := hp2_37.ext hx10
    replace hb9 := hb9.ext hx10
    replace hb7 := hb7.ext hx10
    replace hb6 := hb6.ext hx10
    replace hp1_28 := hp1_28.ext hx10
    replace hp2_28 := hp2_28.ext hx10
    replace hb2x1_3 := hb2x1_3.ext hx10
    replace s0 := s0.ext hx10
    replace E := E.trans hx10
    replace hp1_26 := hp1_26.ext hx10
    replace hp1_33 := hp1_33.ext hx10
    refine w_alloc (k := fun b11 w11 hb11 hx11 hl11 hs11 => ?_)
    have hz_hx11 := hx11.size
    replace hb10 := hb10.ext hx11
    replace hp1_37 := hp1_37.ext hx11
    replace hp2_37 := hp2_37.ext hx11
    replace hb9 := hb9.ext hx11
    replace hb7 := hb7.ext hx11
    replace hb6 := hb6.ext hx11
    replace hp1_28 := hp1_28.ext hx11
    replace hp2_28 := hp2_28.ext hx11
    replace hb2x1_3 := hb2x1_3.ext hx11
    replace s0 := s0.ext hx11
    replace E := E.trans hx11
    replace hp1_26 := hp1_26.ext hx11
    replace hp1_33 := hp1_33.ext hx11
    refine w_store_boxs rfl rfl (next := fun ws74 hbs74 hxs74 hss74 => ?_)
    (replace hb10 := hbs74; clear hbs74)
    have hz_hxs74 := hxs74.size
    replace hb11 := hb11.chg hxs74 (by omega)
    replace hp1_37 := hp1_37.chg hxs74 (by omega)
    replace hp2_37 := hp2_37.chg hxs74 (by omega)
    replace hb9 := hb9.chg hxs74 (by omega)
    replace hb7 := hb7.chg hxs74 (by omega)
    replace hb6 := hb6.chg hxs74 (by omega)
    replace hp1_28 := hp1_28.chg hxs74 (by omega)
    replace hp2_28 := hp2_28.chg hxs74 (by omega)
    replace hb2x1_3 := hb2x1_3.chg hxs74 (by omega)
    replace s0 := s0.chg hxs74 (by omega)
    replace E := E.next hxs74 (by omega)
    replace hp1_26 := hp1_26.chg hxs74 (by omega)
    replace hp1_33 := hp1_33.chg hxs74 (by omega)
    refine w_store_boxs rfl rfl (next := fun ws75 hbs75 hxs75 hss75 => ?_)
    (replace hb11 := hbs75; clear hbs75)
    have hz_hxs75 := hxs75.size
    replace hb10 := hb10.chg hxs75 (by omega)
    replace hp1_37 := hp1_37.chg hxs75 (by omega)
    replace hp2_37 := hp2_37.chg hxs75 (by omega)
    replace hb9 := hb9.chg hxs75 (by omega)
    replace hb7 := hb7.chg hxs75 (by omega)
    replace hb6 := hb6.chg hxs75 (by omega)
    replace hp1_28 := hp1_28.chg hxs75 (by omega)
    replace hp2_28 := hp2_28.chg hxs75 (by omega)
    replace hb2x1_3 := hb2x1_3.chg hxs75 (by omega)
    replace s0 := s0.chg hxs75 (by omega)
    replace E := E.next hxs75 (by omega)
    replace hp1_26 := hp1_26.chg hxs75 (by omega)
    replace hp1_33 := hp1_33.chg hxs75 (by omega)
    refine w_pure (y_assign rfl) rfl ?_
    refine w_nil ?_
    refine x_next ?_
    refine c_seq ?_
    refine c_seq ?_
    refine c_region ?_
    refine w_pure (y_load_boxs rfl) rfl ?_
    refine w_pure (y_load_boxs rfl) rfl ?_
    refine w_val rfl rfl rfl (eqCounter_c) rfl (fun w43 hx43 hz43 => ?_)
    have hz_hx43 := hx43.size
    replace hb11 := hb11.ext hx43
    replace hb10 := hb10.ext hx43
    replace hp1_37 := hp1_37.ext hx43
    replace hp2_37 := hp2_37.ext hx43
    replace hb9 := hb9.ext hx43
    replace hb7 := hb7.ext hx43
    replace hb6 := hb6.ext hx43
    replace hp1_28 := hp1_28.ext hx43
    replace hp2_28 := hp2_28.ext hx43
    replace hb2x1_3 := hb2x1_3.ext hx43
    replace s0 := s0.ext hx43
    replace E := E.trans hx43
    replace hp1_26 := hp1_26.ext hx43
    replace hp1_33 := hp1_33.ext hx43
    refine w_pure (y_not_dec rfl) rfl ?_
    refine w_pure (y_move rfl) rfl ?_
    (refine w_part_dec rfl rfl (fun hc46 => ?_) (fun hc46 => ?_) <;> try (first | exact absurd rfl hc46 | contradiction | exact Bool.noConfusion (show false = true from hc46.symm.trans (by assumption)) | exact Bool.noConfusion (show true = false from hc46.symm.trans (by assumption)) | (exfalso; omega) | (exfalso; simp only [*, Bool.not_true, Bool.not_false, reduceCtorEq] at hc46; done)))
    refine w_yes rfl rfl ?_
    refine w_pure (y_load_boxs rfl) rfl ?_
    refine w_yes rfl rfl ?_
    refine w_pure (y_load_boxs rfl) rfl ?_
    refine w_yes rfl rfl ?_
    refine w_val rfl rfl rfl (eqCounter_c) rfl (fun w48 hx48 hz48 => ?_)
    have hz_hx48 := hx48.size
    replace hb11 := hb11.ext hx48
    replace hb10 := hb10.ext hx48
    replace hp1_37 := hp1_37.ext hx48
    replace hp2_37 := hp2_37.ext hx48
    replace hb9 := hb9.ext hx48
    replace hb7 := hb7.ext hx48
    replace hb6 := hb6.ext hx48
    replace hp1_28 := hp1_28.ext hx48
    replace hp2_28 := hp2_28.ext hx48
    replace hb2x1_3 := hb2x1_3.ext hx48
    replace s0 := s0.ext hx48
    replace E := E.trans hx48
    replace hp1_26 := hp1_26.ext hx48
    replace hp1_33 := hp1_33.ext hx48
    refine w_yes rfl rfl ?_
    refine w_pure (y_not_dec rfl) rfl ?_
    refine w_pure (y_pick_f rfl rfl) rfl ?_
    refine w_pure (y_move rfl) rfl ?_
    (refine w_part_dec rfl rfl (fun hc52 => ?_) (fun hc52 => ?_) <;> try (first | exact absurd rfl hc52 | contradiction | exact Bool.noConfusion (show false = true from hc52.symm.trans (by assumption)) | exact Bool.noConfusion (show true = false from hc52.symm.trans (by assumption)) | (exfalso; omega) | (exfalso; simp only [*, Bool.not_true, Bool.not_false, reduceCtorEq] at hc52; done)))
    refine w_yes rfl rfl ?_
    refine w_pure (y_move rfl) rfl ?_
    refine w_yes rfl rfl ?_
    refine w_pure (y_move rfl) rfl ?_
    refine w_yes rfl rfl ?_
    refine w_pure (y_ne rfl rfl) rfl ?_
    refine w_pure (y_pick_f rfl rfl) rfl ?_
    refine w_nil ?_
    refine x_next ?_
    refine c_nsame rfl ?_
    refine c_skip ?_
    refine x_next ?_
    refine c_seq ?_
    refine c_seq ?_
    refine c_region_held mixed (fun wr10 hxr10 hzr10 => ?_)
    have hz_hxr10 := hxr10.size
    replace hb11 := hb11.ext hxr10
    replace hb10 := hb10.ext hxr10
    replace hp1_37 := hp1_37.ext hxr10
    replace hp2_37 := hp2_37.ext hxr10
    replace hb9 := hb9.ext hxr10
    replace hb7 := hb7.ext hxr10
    replace hb6 := hb6.ext hxr10
    replace hp1_28 := hp1_28.ext hxr10
    replace hp2_28 := hp2_28.ext hxr10
    replace hb2x1_3 := hb2x1_3.ext hxr10
    replace s0 := s0.ext hxr10
    replace E := E.trans hxr10
    replace hp1_26 := hp1_26.ext hxr10
    replace hp1_33 := hp1_33.ext hxr10
    refine h_pure rfl (y_load_boxs rfl) rfl ?_
    refine h_pure rfl (y_load_boxs rfl) rfl ?_
    refine h_one rfl ?_
    (refine w_call rfl rfl rfl (toCounter_c _) rfl ?_; rintro _ w58 ⟨d58, ⟨rfl, ⟨hp1_58, hx58⟩⟩⟩)
    have hz_hx58 := hx58.size
    replace hb11 := hb11.ext hx58
    replace hb10 := hb10.ext hx58
    replace hp1_37 := hp1_37.ext hx58
    replace hp2_37 := hp2_37.ext hx58
    replace hb9 := hb9.ext hx58
    replace hb7 := hb7.ext hx58
    replace hb6 := hb6.ext hx58
    replace hp1_28 := hp1_28.ext hx58
    replace hp2_28 := hp2_28.ext hx58
    replace hb2x1_3 := hb2x1_3.ext hx58
    replace s0 := s0.ext hx58
    replace E := E.trans hx58
    replace hp1_26 := hp1_26.ext hx58
    replace hp1_33 := hp1_33.ext hx58
    replace hp1_58 := hp1_58.fresh
    refine w_nil ?_
    refine x_held ?_
    refine h_one rfl ?_
    refine w_val rfl rfl rfl (eqCounter_c) rfl (fun w59 hx59 hz59 => ?_)
    have hz_hx59 := hx59.size
    replace hb11 := hb11.ext hx59
    replace hb10 := hb10.ext hx59
    replace hp1_37 := hp1_37.ext hx59
    replace hp2_37 := hp2_37.ext hx59
    replace hb9 := hb9.ext hx59
    replace hb7 := hb7.ext hx59
    replace hb6 := hb6.ext hx59
    replace hp1_28 := hp1_28.ext hx59
    replace hp2_28 := hp2_28.ext hx59
    replace hb2x1_3 := hb2x1_3.ext hx59
    replace s0 := s0.ext hx59
    replace E := E.trans hx59
    replace hp1_26 := hp1_26.ext hx59
    replace hp1_33 := hp1_33.ext hx59
    replace hp1_58 := hp1_58.ext hx59
    refine w_nil ?_
    refine x_held ?_
    refine h_pure rfl (y_not_dec rfl) rfl ?_
    refine h_nil ?_
    refine x_next ?_
    refine c_nsame rfl ?_
    refine c_skip ?_
    refine x_next ?_
    refine c_seq ?_
    refine c_region ?_
    refine w_pure (y_assign rfl) rfl ?_
    refine w_nil ?_
    refine x_next ?_
    refine c_seq ?_
    refine c_region ?_
    refine w_pure (y_load_boxs rfl) rfl ?_
    refine w_pure (y_move rfl) rfl ?_
    (refine w_call rfl rfl rfl (markCounter_c _) rfl ?_; rintro _ w63 ⟨rfl, ⟨hp1_63, hx63⟩⟩)
    have hz_hx63 := hx63.size
    replace hb11 := hb11.chg hx63 (by omega)
    replace hb10 := hb10.chg hx63 (by omega)
    replace hp1_37 := hp1_37.chg hx63 (by omega)
    replace hp2_37 := hp2_37.chg hx63 (by omega)
    replace hb9 := hb9.chg hx63 (by omega)
    replace hb7 := hb7.chg hx63 (by omega)
    replace hb6 := hb6.chg hx63 (by omega)
    replace hp1_28 := hp1_28.chg hx63 (by omega)
    replace hp2_28 := hp2_28.chg hx63 (by omega)
    replace hb2x1_3 := hb2x1_3.chg hx63 (by omega)
    replace s0 := s0.chg hx63 (by omega)
    replace E := E.next hx63 (by omega)
    replace hp1_26 := hp1_26.chg hx63 (by omega)
    replace hp1_58 := hp1_58.chg hx63 (by omega)
    refine w_pure (y_assign rfl) rfl ?_
    refine w_nil ?_
    refine x_next ?_
    refine c_seq ?_
    refine c_seq ?_
    refine c_region ?_
    refine w_pure (y_move rfl) rfl ?_
    refine w_pure (y_lt rfl rfl) rfl ?_
    refine w_pure (y_move rfl) rfl ?_
    refine w_yes rfl rfl ?_
    refine w_pure (y_load_boxs rfl) rfl ?_
    refine w_yes rfl rfl ?_
    refine w_pure (y_load_boxs rfl) rfl ?_
    refine w_yes rfl rfl ?_
    refine w_val rfl rfl rfl (eqCounter_c) rfl (fun w69 hx69 hz69 => ?_)
    have hz_hx69 := hx69.size
    replace hp1_63 := hp1_63.ext hx69
    replace hb11 := hb11.ext hx69
    replace hb10 := hb10.ext hx69
    replace hp1_37 := hp1_37.ext hx69
    replace hp2_37 := hp2_37.ext hx69
    replace hb9 := hb9.ext hx69
    replace hb7 := hb7.ext hx69
    replace hb6 := hb6.ext hx69
    replace hp1_28 := hp1_28.ext hx69
    replace hp2_28 := hp2_28.ext hx69
    replace hb2x1_3 := hb2x1_3.ext hx69
    replace s0 := s0.ext hx69
    replace E := E.trans hx69
    replace hp1_26 := hp1_26.ext hx69
    replace hp1_58 := hp1_58.ext hx69
    refine w_yes rfl rfl ?_
    refine w_pure (y_not_dec rfl) rfl ?_
    refine w_pure (y_pick_f rfl rfl) rfl ?_
    refine w_pure (y_move rfl) rfl ?_
    (refine w_part_dec rfl rfl (fun hc73 => ?_) (fun hc73 => ?_) <;> try (first | exact absurd rfl hc73 | contradiction | exact Bool.noConfusion (show false = true from hc73.symm.trans (by assumption)) | exact Bool.noConfusion (show true = false from hc73.symm.trans (by assumption)) | (exfalso; omega) | (exfalso; simp only [*, Bool.not_true, Bool.not_false, reduceCtorEq] at hc73; done)))
    refine w_yes rfl rfl ?_
    refine w_pure (y_load_boxs rfl) rfl ?_
    refine w_yes rfl rfl ?_
    refine w_pure (y_load_boxs rfl) rfl ?_
    refine w_yes rfl rfl ?_
    refine w_val rfl rfl rfl (eqCounter_c) rfl (fun w75 hx75 hz75 => ?_)
    have hz_hx75 := hx75.size
    replace hp1_63 := hp1_63.ext hx75
    replace hb11 := hb11.ext hx75
    replace hb10 := hb10.ext hx75
    replace hp1_37 := hp1_37.ext hx75
    replace hp2_37 := hp2_37.ext hx75
    replace hb9 := hb9.ext hx75
    replace hb7 := hb7.ext hx75
    replace hb6 := hb6.ext hx75
    replace hp1_28 := hp1_28.ext hx75
    replace hp2_28 := hp2_28.ext hx75
    replace hb2x1_3 := hb2x1_3.ext hx75
    replace s0 := s0.ext hx75
    replace E := E.trans hx75
    replace hp1_26 := hp1_26.ext hx75
    replace hp1_58 := hp1_58.ext hx75
    refine w_yes rfl rfl ?_
    refine w_pure (y_not_dec rfl) rfl ?_
    refine w_pure (y_pick_f rfl rfl) rfl ?_
    refine w_pure (y_move rfl) rfl ?_
    (refine w_part_dec rfl rfl (fun hc79 => ?_) (fun hc79 => ?_) <;> try (first | exact absurd rfl hc79 | contradiction | exact Bool.noConfusion (show false = true from hc79.symm.trans (by assumption)) | exact Bool.noConfusion (show true = false from hc79.symm.trans (by assumption)) | (exfalso; omega) | (exfalso; simp only [*, Bool.not_true, Bool.not_false, reduceCtorEq] at hc79; done)))
    refine w_yes rfl rfl ?_
    refine w_pure (y_move rfl) rfl ?_
    refine w_yes rfl rfl ?_
    refine w_pure (y_move rfl) rfl ?_
    refine w_yes rfl rfl ?_
    refine w_pure (y_ne rfl rfl) rfl ?_
    refine w_pure (y_pick_f rfl rfl) rfl ?_
    refine w_nil ?_
    refine x_next ?_
    refine c_nsame rfl ?_
    refine c_skip ?_
    refine x_next ?_
    refine c_seq ?_
    refine c_region ?_
    refine w_pure (y_assign rfl) rfl ?_
    refine w_nil ?_
    refine x_next ?_
    refine c_seq ?_
    refine c_region ?_
    refine w_pure (y_load_boxs rfl) rfl ?_
    refine w_pure (y_move rfl) rfl ?_
    (refine w_call rfl rfl rfl (markCounter_c _) rfl ?_; rintro _ w85 ⟨rfl, ⟨hp1_85, hx85⟩⟩)
    have hz_hx85 := hx85.size
    replace hp1_63 := hp1_63.chg hx85 (by omega)
    replace hb11 := hb11.chg hx85 (by omega)
    replace hb10 := hb10.chg hx85 (by omega)
    replace hp2_37 := hp2_37.chg hx85 (by omega)
    replace hb9 := hb9.chg hx85 (by omega)
    replace hb7 := hb7.chg hx85 (by omega)
    replace hb6 := hb6.chg hx85 (by omega)
    replace hp1_28 := hp1_28.chg hx85 (by omega)
    replace hp2_28 := hp2_28.chg hx85 (by omega)
    replace hb2x1_3 := hb2x1_3.chg hx85 (by omega)
    replace s0 := s0.chg hx85 (by omega)
    replace E := E.next hx85 (by omega)
    replace hp1_26 := hp1_26.chg hx85 (by omega)
    replace hp1_58 := hp1_58.chg hx85 (by omega)
    refine w_pure (y_assign rfl) rfl ?_
    refine w_nil ?_
    refine x_next ?_
    refine c_seq ?_
    refine c_region ?_
    refine w_pure (y_load_boxs rfl) rfl ?_
    refine w_pure (y_move rfl) rfl ?_
    (refine w_call rfl rfl rfl (markCounter_c _) rfl ?_; rintro _ w88 ⟨rfl, ⟨hp1_88, hx88⟩⟩)
    have hz_hx88 := hx88.size
    replace hp1_85 := hp1_85.chg hx88 (by omega)
    replace hp1_63 := hp1_63.chg hx88 (by omega)
    replace hb11 := hb11.chg hx88 (by omega)
    replace hb10 := hb10.chg hx88 (by omega)
    replace hb9 := hb9.chg hx88 (by omega)
    replace hb7 := hb7.chg hx88 (by omega)
    replace hb6 := hb6.chg hx88 (by omega)
    replace hp1_28 := hp1_28.chg hx88 (by omega)
    replace hp2_28 := hp2_28.chg hx88 (by omega)
    replace hb2x1_3 := hb2x1_3.chg hx88 (by omega)
    replace s0 := s0.chg hx88 (by omega)
    replace E := E.next hx88 (by omega)
    replace hp1_26 := hp1_26.chg hx88 (by omega)
    replace hp1_58 := hp1_58.chg hx88 (by omega)
    refine w_pure (y_assign rfl) rfl ?_
    refine w_nil ?_
    refine x_next ?_
    refine c_seq ?_
    refine c_region ?_
    refine w_pure (y_assign rfl) rfl ?_
    refine w_nil ?_
    refine x_next ?_
    refine c_seq ?_
    refine c_region ?_
    refine w_pure (y_load_boxs rfl) rfl ?_
    refine w_pure (y_move rfl) rfl ?_
    refine w_val rfl rfl rfl (heldCounter_c) rfl (fun w91 hx91 hz91 => ?_)
    have hz_hx91 := hx91.size
    replace hp1_88 := hp1_88.ext hx91
    replace hp1_85 := hp1_85.ext hx91
    replace hp1_63 := hp1_63.ext hx91
    replace hb11 := hb11.ext hx91
    replace hb10 := hb10.ext hx91
    replace hb9 := hb9.ext hx91
    replace hb7 := hb7.ext hx91
    replace hb6 := hb6.ext hx91
    replace hp1_28 := hp1_28.ext hx91
    replace hp2_28 := hp2_28.ext hx91
    replace hb2x1_3 := hb2x1_3.ext hx91
    replace s0 := s0.ext hx91
    replace E := E.trans hx91
    replace hp1_26 := hp1_26.ext hx91
    replace hp1_58 := hp1_58.ext hx91
    refine w_pure (y_assign rfl) rfl ?_
    refine w_nil ?_
    refine x_next ?_
    refine c_seq ?_
    refine c_seq ?_
    refine c_region ?_
    refine w_pure (y_move rfl) rfl ?_
    refine w_pure (y_lt rfl rfl) rfl ?_
    refine w_nil ?_
    refine x_next ?_
    refine c_false rfl ?_
    refine c_skip ?_
    refine x_next ?_
    refine c_seq ?_
    refine c_region ?_
    refine w_pure (y_load_boxs rfl) rfl ?_
    refine w_pure (y_move rfl) rfl ?_
    refine w_val rfl rfl rfl (heldCounter_c) rfl (fun w96 hx96 hz96 => ?_)
    have hz_hx96 := hx96.size
    replace hp1_88 := hp1_88.ext hx96
    replace hp1_85 := hp1_85.ext hx96
    replace hp1_63 := hp1_63.ext hx96
    replace hb11 := hb11.ext hx96
    replace hb10 := hb10.ext hx96
    replace hb9 := hb9.ext hx96
    replace hb7 := hb7.ext hx96
    replace hb6 := hb6.ext hx96
    replace hp1_28 := hp1_28.ext hx96
    replace hp2_28 := hp2_28.ext hx96
    replace hb2x1_3 := hb2x1_3.ext hx96
    replace s0 := s0.ext hx96
    replace E := E.trans hx96
    replace hp1_26 := hp1_26.ext hx96
    replace hp1_58 := hp1_58.ext hx96
    refine w_pure (y_assign rfl) rfl ?_
    refine w_nil ?_
    refine x_next ?_
    refine c_seq ?_
    refine c_seq ?_
    refine c_region ?_
    refine w_pure (y_move rfl) rfl ?_
    refine w_pure (y_lt rfl rfl) rfl ?_
    refine w_nil ?_
    refine x_next ?_
    refine c_false rfl ?_
    refine c_skip ?_
    refine x_next ?_
    refine c_seq ?_
    refine c_seq ?_
    refine c_region ?_
    refine w_pure (y_move rfl) rfl ?_
    refine w_pure (y_move rfl) rfl ?_
    refine w_pure (y_ne rfl rfl) rfl ?_
    refine w_nil ?_
    refine x_next ?_
    refine c_nsame rfl ?_
    refine c_skip ?_
    refine x_next ?_
    refine c_seq ?_
    refine c_region ?_
    refine w_pure (y_load_boxs rfl) rfl ?_
    (refine w_call rfl rfl rfl (toCounter_c _) rfl ?_; rintro _ w104 ⟨d104, ⟨rfl, ⟨hp1_104, hx104⟩⟩⟩)
    have hz_hx104 := hx104.size
    replace hp1_88 := hp1_88.ext hx104
    replace hp1_85 := hp1_85.ext hx104
    replace hp1_63 := hp1_63.ext hx104
    replace hb11 := hb11.ext hx104
    replace hb10 := hb10.ext hx104
    replace hb9 := hb9.ext hx104
    replace hb7 := hb7.ext hx104
    replace hb6 := hb6.ext hx104
    replace hp1_28 := hp1_28.ext hx104
    replace hp2_28 := hp2_28.ext hx104
    replace hb2x1_3 := hb2x1_3.ext hx104
    replace s0 := s0.ext hx104
    replace E := E.trans hx104
    replace hp1_26 := hp1_26.ext hx104
    replace hp1_58 := hp1_58.ext hx104
    replace hp1_104 := hp1_104.fresh
    refine w_pure (y_move rfl) rfl ?_
    (refine w_call rfl rfl rfl (iSplitCounter_c _) rfl ?_; rintro _ w106 ⟨d106, ⟨e106, ⟨m106, ⟨rfl, ⟨hp1_106, ⟨hp2_106, ⟨⟨hp3_106, hp4_106⟩, hx106⟩⟩⟩⟩⟩⟩⟩)
    have hz_hx106 := hx106.size
    replace hp1_88 := hp1_88.ext hx106
    replace hp1_85 := hp1_85.ext hx106
    replace hp1_63 := hp1_63.ext hx106
    replace hb11 := hb11.ext hx106
    replace hb10 := hb10.ext hx106
    replace hb9 := hb9.ext hx106
    replace hb7 := hb7.ext hx106
    replace hb6 := hb6.ext hx106
    replace hp1_28 := hp1_28.ext hx106
    replace hp2_28 := hp2_28.ext hx106
    replace hb2x1_3 := hb2x1_3.ext hx106
    replace s0 := s0.ext hx106
    replace E := E.trans hx106
    replace hp1_26 := hp1_26.ext hx106
    replace hp1_58 := hp1_58.ext hx106
    replace hp1_104 := hp1_104.ext hx106
    refine w_pure (y_move rfl) rfl ?_
    refine w_pure (y_extract rfl rfl) rfl ?_
    refine w_pure (y_extract rfl rfl) rfl ?_
    refine w_pure (y_extract rfl rfl) rfl ?_
    refine w_alloc (k := fun b16 w16 hb16 hx16 hl16 hs16 => ?_)
    have hz_hx16 := hx16.size
    replace hp1_106 := hp1_106.ext hx16
    replace hp2_106 := hp2_106.ext hx16
    replace hp1_88 := hp1_88.ext hx16
    replace hp1_85 := hp1_85.ext hx16
    replace hp1_63 := hp1_63.ext hx16
    replace hb11 := hb11.ext hx16
    replace hb10 := hb10.ext hx16
    replace hb9 := hb9.ext hx16
    replace hb7 := hb7.ext hx16
    replace hb6 := hb6.ext hx16
    replace hp1_28 := hp1_28.ext hx16
    replace hp2_28 := hp2_28.ext hx16
    replace hb2x1_3 := hb2x1_3.ext hx16
    replace s0 := s0.ext hx16
    replace E := E.trans hx16
    replace hp1_26 := hp1_26.ext hx16
    replace hp1_58 := hp1_58.ext hx16
    replace hp1_104 := hp1_104.ext hx16
    refine w_alloc (k := fun b17 w17 hb17 hx17 hl17 hs17 => ?_)
    have hz_hx17 := hx17.size
    replace hb16 := hb16.ext hx17
    replace hp1_106 := hp1_106.ext hx17
    replace hp2_106 := hp2_106.ext hx17
    replace hp1_88 := hp1_88.ext hx17
    replace hp1_85 := hp1_85.ext hx17
    replace hp1_63 := hp1_63.ext hx17
    replace hb11 := hb11.ext hx17
    replace hb10 := hb10.ext hx17
    replace hb9 := hb9.ext hx17
    replace hb7 := hb7.ext hx17
    replace hb6 := hb6.ext hx17
    replace hp1_28 := hp1_28.ext hx17
    replace hp2_28 := hp2_28.ext hx17
    replace hb2x1_3 := hb2x1_3.ext hx17
    replace s0 := s0.ext hx17
    replace E := E.trans hx17
    replace hp1_26 := hp1_26.ext hx17
    replace hp1_58 := hp1_58.ext hx17
    replace hp1_104 := hp1_104.ext hx17
    refine w_store_boxs rfl rfl (next := fun ws268 hbs268 hxs268 hss268 => ?_)
    (replace hb16 := hbs268; clear hbs268)
    have hz_hxs268 := hxs268.size
    replace hb17 := hb17.chg hxs268 (by omega)
    replace hp1_106 := hp1_106.chg hxs268 (by omega)
    replace hp2_106 := hp2_106.chg hxs268 (by omega)
    replace hp1_88 := hp1_88.chg hxs268 (by omega)
    replace hp1_85 := hp1_85.chg hxs268 (by omega)
    replace hp1_63 := hp1_63.chg hxs268 (by omega)
    replace hb11 := hb11.chg hxs268 (by omega)
    replace hb10 := hb10.chg hxs268 (by omega)
    replace hb9 := hb9.chg hxs268 (by omega)
    replace hb7 := hb7.chg hxs268 (by omega)
    replace hb6 := hb6.chg hxs268 (by omega)
    replace hp1_28 := hp1_28.chg hxs268 (by omega)
    replace hp2_28 := hp2_28.chg hxs268 (by omega)
    replace hb2x1_3 := hb2x1_3.chg hxs268 (by omega)
    replace s0 := s0.chg hxs268 (by omega)
    replace E := E.next hxs268 (by omega)
    replace hp1_26 := hp1_26.chg hxs268 (by omega)
    replace hp1_58 := hp1_58.chg hxs268 (by omega)
    replace hp1_104 := hp1_104.chg hxs268 (by omega)
    refine w_store_boxs rfl rfl (next := fun ws269 hbs269 hxs269 hss269 => ?_)
    (replace hb17 := hbs269; clear hbs269)
    have hz_hxs269 := hxs269.size
    replace hb16 := hb16.chg hxs269 (by omega)
    replace hp1_106 := hp1_106.chg hxs269 (by omega)
    replace hp2_106 := hp2_106.chg hxs269 (by omega)
    replace hp1_88 := hp1_88.chg hxs269 (by omega)
    replace hp1_85 := hp1_85.chg hxs269 (by omega)
    replace hp1_63 := hp1_63.chg hxs269 (by omega)
    replace hb11 := hb11.chg hxs269 (by omega)
    replace hb10 := hb10.chg hxs269 (by omega)
    replace hb9 := hb9.chg hxs269 (by omega)
    replace hb7 := hb7.chg hxs269 (by omega)
    replace hb6 := hb6.chg hxs269 (by omega)
    replace hp1_28 := hp1_28.chg hxs269 (by omega)
    replace hp2_28 := hp2_28.chg hxs269 (by omega)
    replace hb2x1_3 := hb2x1_3.chg hxs269 (by omega)
    replace s0 := s0.chg hxs269 (by omega)
    replace E := E.next hxs269 (by omega)
    replace hp1_26 := hp1_26.chg hxs269 (by omega)
    replace hp1_58 := hp1_58.chg hxs269 (by omega)
    replace hp1_104 := hp1_104.chg hxs269 (by omega)
    refine w_pure (y_assign rfl) rfl ?_
    refine w_nil ?_
    refine x_next ?_
    refine c_seq ?_
    refine c_seq ?_
    refine c_region ?_
    refine w_pure (y_load_boxs rfl) rfl ?_
    refine w_pure (y_load_boxs rfl) rfl ?_
    refine w_val rfl rfl rfl (eqCounter_c) rfl (fun w112 hx112 hz112 => ?_)
    have hz_hx112 := hx112.size
    replace hb17 := hb17.ext hx112
    replace hb16 := hb16.ext hx112
    replace hp1_106 := hp1_106.ext hx112
    replace hp2_106 := hp2_106.ext hx112
    replace hp1_88 := hp1_88.ext hx112
    replace hp1_85 := hp1_85.ext hx112
    replace hp1_63 := hp1_63.ext hx112
    replace hb11 := hb11.ext hx112
    replace hb10 := hb10.ext hx112
    replace hb9 := hb9.ext hx112
    replace hb7 := hb7.ext hx112
    replace hb6 := hb6.ext hx112
    replace hp1_28 := hp1_28.ext hx112
    replace hp2_28 := hp2_28.ext hx112
    replace hb2x1_3 := hb2x1_3.ext hx112
    replace s0 := s0.ext hx112
    replace E := E.trans hx112
    replace hp1_26 := hp1_26.ext hx112
    replace hp1_58 := hp1_58.ext hx112
    replace hp1_104 := hp1_104.ext hx112
    refine w_pure (y_not_dec rfl) rfl ?_
    refine w_pure (y_move rfl) rfl ?_
    (refine w_part_dec rfl rfl (fun hc115 => ?_) (fun hc115 => ?_) <;> try (first | exact absurd rfl hc115 | contradiction | exact Bool.noConfusion (show false = true from hc115.symm.trans (by assumption)) | exact Bool.noConfusion (show true = false from hc115.symm.trans (by assumption)) | (exfalso; omega) | (exfalso; simp only [*, Bool.not_true, Bool.not_false, reduceCtorEq] at hc115; done)))
    refine w_yes rfl rfl ?_
    refine w_pure (y_load_boxs rfl) rfl ?_
    refine w_yes rfl rfl ?_
    refine w_pure (y_load_boxs rfl) rfl ?_
    refine w_yes rfl rfl ?_
    refine w_val rfl rfl rfl (eqCounter_c) rfl (fun w117 hx117 hz117 => ?_)
    have hz_hx117 := hx117.size
    replace hb17 := hb17.ext hx117
    replace hb16 := hb16.ext hx117
    replace hp1_106 := hp1_106.ext hx117
    replace hp2_106 := hp2_106.ext hx117
    replace hp1_88 := hp1_88.ext hx117
    replace hp1_85 := hp1_85.ext hx117
    replace hp1_63 := hp1_63.ext hx117
    replace hb11 := hb11.ext hx117
    replace hb10 := hb10.ext hx117
    replace hb9 := hb9.ext hx117
    replace hb7 := hb7.ext hx117
    replace hb6 := hb6.ext hx117
    replace hp1_28 := hp1_28.ext hx117
    replace hp2_28 := hp2_28.ext hx117
    replace hb2x1_3 := hb2x1_3.ext hx117
    replace s0 := s0.ext hx117
    replace E := E.trans hx117
    replace hp1_26 := hp1_26.ext hx117
    replace hp1_58 := hp1_58.ext hx117
    replace hp1_104 := hp1_104.ext hx117
    refine w_yes rfl rfl ?_
    refine w_pure (y_not_dec rfl) rfl ?_
    refine w_pure (y_pick_f rfl rfl) rfl ?_
    refine w_pure (y_move rfl) rfl ?_
    (refine w_part_dec rfl rfl (fun hc121 => ?_) (fun hc121 => ?_) <;> try (first | exact absurd rfl hc121 | contradiction | exact Bool.noConfusion (show false = true from hc121.symm.trans (by assumption)) | exact Bool.noConfusion (show true = false from hc121.symm.trans (by assumption)) | (exfalso; omega) | (exfalso; simp only [*, Bool.not_true, Bool.not_false, reduceCtorEq] at hc121; done)))
    refine w_yes rfl rfl ?_
    refine w_pure (y_move rfl) rfl ?_
    refine w_yes rfl rfl ?_
    refine w_pure (y_move rfl) rfl ?_
    refine w_yes rfl rfl ?_
    refine w_pure (y_ne rfl rfl) rfl ?_
    refine w_pure (y_pick_f rfl rfl) rfl ?_
    refine w_nil ?_
    refine x_next ?_
    refine c_nsame rfl ?_
    refine c_skip ?_
    refine x_next ?_
    refine c_seq ?_
    refine c_region ?_
    refine w_pure (y_assign rfl) rfl ?_
    refine w_nil ?_
    refine x_next ?_
    refine c_seq ?_
    refine c_region ?_
    refine w_pure (y_load_boxs rfl) rfl ?_
    refine w_pure (y_move rfl) rfl ?_
    refine w_val rfl rfl rfl (heldCounter_c) rfl (fun w127 hx127 hz127 => ?_)
    have hz_hx127 := hx127.size
    replace hb17 := hb17.ext hx127
    replace hb16 := hb16.ext hx127
    replace hp1_106 := hp1_106.ext hx127
    replace hp2_106 := hp2_106.ext hx127
    replace hp1_88 := hp1_88.ext hx127
    replace hp1_85 := hp1_85.ext hx127
    replace hp1_63 := hp1_63.ext hx127
    replace hb11 := hb11.ext hx127
    replace hb10 := hb10.ext hx127
    replace hb9 := hb9.ext hx127
    replace hb7 := hb7.ext hx127
    replace hb6 := hb6.ext hx127
    replace hp1_28 := hp1_28.ext hx127
    replace hp2_28 := hp2_28.ext hx127
    replace hb2x1_3 := hb2x1_3.ext hx127
    replace s0 := s0.ext hx127
    replace E := E.trans hx127
    replace hp1_26 := hp1_26.ext hx127
    replace hp1_58 := hp1_58.ext hx127
    replace hp1_104 := hp1_104.ext hx127
    refine w_pure (y_assign rfl) rfl ?_
    refine w_nil ?_
    refine x_next ?_
    refine c_seq ?_
    refine c_seq ?_
    refine c_region ?_
    refine w_pure (y_move rfl) rfl ?_
    refine w_pure (y_lt rfl rfl) rfl ?_
    refine w_nil ?_
    refine x_next ?_
    refine c_false rfl ?_
    refine c_skip ?_
    refine x_next ?_
    refine c_seq ?_
    refine c_region ?_
    refine w_pure (y_load_boxs rfl) rfl ?_
    refine w_pure (y_move rfl) rfl ?_
    refine w_val rfl rfl rfl (heldCounter_c) rfl (fun w132 hx132 hz132 => ?_)
    have hz_hx132 := hx132.size
    replace hb17 := hb17.ext hx132
    replace hb16 := hb16.ext hx132
    replace hp1_106 := hp1_106.ext hx132
    replace hp2_106 := hp2_106.ext hx132
    replace hp1_88 := hp1_88.ext hx132
    replace hp1_85 := hp1_85.ext hx132
    replace hp1_63 := hp1_63.ext hx132
    replace hb11 := hb11.ext hx132
    replace hb10 := hb10.ext hx132
    replace hb9 := hb9.ext hx132
    replace hb7 := hb7.ext hx132
    replace hb6 := hb6.ext hx132
    replace hp1_28 := hp1_28.ext hx132
    replace hp2_28 := hp2_28.ext hx132
    replace hb2x1_3 := hb2x1_3.ext hx132
    replace s0 := s0.ext hx132
    replace E := E.trans hx132
    replace hp1_26 := hp1_26.ext hx132
    replace hp1_58 := hp1_58.ext hx132
    replace hp1_104 := hp1_104.ext hx132
    refine w_pure (y_assign rfl) rfl ?_
    refine w_nil ?_
    refine x_next ?_
    refine c_seq ?_
    refine c_seq ?_
    refine c_region ?_
    refine w_pure (y_move rfl) rfl ?_
    refine w_pure (y_lt rfl rfl) rfl ?_
    refine w_nil ?_
    refine x_next ?_
    refine c_false rfl ?_
    refine c_skip ?_
    refine x_next ?_
    refine c_seq ?_
    refine c_seq ?_
    refine c_region ?_
    refine w_pure (y_move rfl) rfl ?_
    refine w_pure (y_move rfl) rfl ?_
    refine w_pure (y_ne rfl rfl) rfl ?_
    refine w_nil ?_
    refine x_next ?_
    refine c_nsame rfl ?_
    refine c_skip ?_
    refine x_next ?_
    refine c_seq ?_
    refine c_region ?_
    refine w_pure (y_assign rfl) rfl ?_
    refine w_nil ?_
    refine x_next ?_
    refine c_ret ?_
    exact x_retv [_] rfl ⟨rfl, trivial⟩ ⟨rfl, E.go⟩
end Go.Proofs.Ytmmpnlhanljhiaa

/- The walks of the laws on adding. -/
import Derived.Test.YtmmpnlhanljhiaaCntI
import Derived.Test.YtmmpnlhanljhiaaOpen
namespace Go.Proofs.Ytmmpnlhanljhiaa
open Go Go.Gw
set_option linter.unusedVariables false
set_option linter.unusedSimpArgs false
theorem lAddToCounter (w0 : World) (x0 : { x : OSl // x.ok w0 }) (a1 : Int) (i1 : In64 a1) : Ret Try.prog 11 [.agg #[x0.1.v], .int .i64 a1] w0 fun u w' => u = .bool true ∧ Ext w0 w' := by
  obtain ⟨⟨v0, xs0⟩, hok0⟩ := x0
  have s0 : SL w0 0 w0.heap.size v0 xs0 := hok0.sl
  have r0 := hok0.in64
  show Ret _ _ [.agg #[v0], .int .i64 a1] w0 _
  clear hok0
  have E : Since 0 0 w0 w0 := Since.refl 0 0 w0
  have hb := resAdd_len xs0 a1
  refine ret_enter Try.func11 rfl Try.ntmps11 rfl ?_
  focus
    refine c_seq ?_
    refine c_region ?_
    refine w_box rfl (k := fun b2 w2 hb2 hx2 hl2 hs2 => ?_)
    have hz_hx2 := hx2.size
    replace s0 := s0.ext hx2
    replace E := E.trans hx2
    refine w_pure (y_assign rfl) rfl ?_
    refine w_nil ?_
    refine x_next ?_
    refine c_seq ?_
    refine c_region ?_
    refine w_pure (y_assign rfl) rfl ?_
    refine w_nil ?_
    refine x_next ?_
    refine c_seq ?_
    refine c_region ?_
    refine w_pure (y_load_boxs rfl) rfl ?_
    refine w_pure (y_move rfl) rfl ?_
    (refine w_call rfl rfl rfl (szCounter_z) rfl ?_; rintro _ w21 ⟨z21, ⟨rfl, ⟨hp1_21, hx21⟩⟩⟩)
    have hz_hx21 := hx21.size
    replace hb2 := hb2.ext hx21
    replace s0 := s0.ext hx21
    replace E := E.trans hx21
    refine w_pure (y_assign rfl) rfl ?_
    refine w_nil ?_
    refine x_next ?_
    refine c_seq ?_
    refine c_seq ?_
    refine c_region ?_
    refine w_pure (y_move rfl) rfl ?_
    refine w_pure (y_lt rfl rfl) rfl ?_
    refine w_nil ?_
    refine x_next ?_
    (refine c_dec rfl (fun hc23 => ?_) (fun hc23 => ?_) <;> try (first | exact absurd rfl hc23 | contradiction | exact Bool.noConfusion (show false = true from hc23.symm.trans (by assumption)) | exact Bool.noConfusion (show true = false from hc23.symm.trans (by assumption)) | (exfalso; omega) | (exfalso; simp only [*, Bool.not_true, Bool.not_false, reduceCtorEq] at hc23; done)))
    refine c_seq ?_
    refine c_region ?_
    refine w_pure (y_assign rfl) rfl ?_
    refine w_nil ?_
    refine x_next ?_
    refine c_ret ?_
    refine x_then_ret ?_
    exact x_retv [_] rfl ⟨rfl, trivial⟩ ⟨rfl, E.go⟩
    refine c_skip ?_
    refine x_next ?_
    refine c_seq ?_
    refine c_region ?_
    refine w_pure (y_load_boxs rfl) rfl ?_
    (refine w_call rfl rfl rfl (toCounter_c _) rfl ?_; rintro _ w26 ⟨d26, ⟨rfl, ⟨hp1_26, hx26⟩⟩⟩)
    have hz_hx26 := hx26.size
    replace hb2 := hb2.ext hx26
    replace s0 := s0.ext hx26
    replace E := E.trans hx26
    replace hp1_26 := hp1_26.fresh
    refine w_pure (y_move rfl) rfl ?_
    (refine w_call rfl rfl rfl (sAddToCounter_c _) rfl ?_; rintro _ w28 ⟨d28, ⟨rfl, ⟨hp1_28, hx28⟩⟩⟩)
    have hz_hx28 := hx28.size
    replace hb2 := hb2.ext hx28
    replace s0 := s0.ext hx28
    replace E := E.trans hx28
    replace hp1_26 := hp1_26.ext hx28
    replace hp1_28 := hp1_28.fresh
    refine w_pure (y_move rfl) rfl ?_
    refine w_pure (y_extract rfl rfl) rfl ?_
    refine w_pure (y_extract rfl rfl) rfl ?_
    refine w_pure (y_extract rfl rfl) rfl ?_
    refine w_alloc (k := fun b6 w6 hb6 hx6 hl6 hs6 => ?_)
    have hz_hx6 := hx6.size
    replace hb2 := hb2.ext hx6
    replace s0 := s0.ext hx6
    replace E := E.trans hx6
    replace hp1_26 := hp1_26.ext hx6
    replace hp1_28 := hp1_28.ext hx6
    refine w_store_boxs rfl rfl (next := fun ws49 hbs49 hxs49 hss49 => ?_)
    (replace hb6 := hbs49; clear hbs49)
    have hz_hxs49 := hxs49.size
    replace hb2 := hb2.chg hxs49 (by omega)
    replace s0 := s0.chg hxs49 (by omega)
    replace E := E.next hxs49 (by omega)
    replace hp1_26 := hp1_26.chg hxs49 (by omega)
    replace hp1_28 := hp1_28.chg hxs49 (by omega)
    refine w_pure (y_assign rfl) rfl ?_
    refine w_pure (y_assign rfl) rfl ?_
    refine w_nil ?_
    refine x_next ?_
    refine c_seq ?_
    refine c_region ?_
    refine w_pure (y_load_boxs rfl) rfl ?_
    (refine w_call rfl rfl rfl (toCounter_c _) rfl ?_; rintro _ w33 ⟨d33, ⟨rfl, ⟨hp1_33, hx33⟩⟩⟩)
    have hz_hx33 := hx33.size
    replace hb6 := hb6.ext hx33
    replace hb2 := hb2.ext hx33
    replace s0 := s0.ext hx33
    replace E := E.trans hx33
    replace hp1_26 := hp1_26.ext hx33
    replace hp1_28 := hp1_28.ext hx33
    replace hp1_33 := hp1_33.fresh
    refine w_alloc (k := fun b9 w9 hb9 hx9 hl9 hs9 => ?_)
    have hz_hx9 := hx9.size
    replace hb6 := hb6.ext hx9
    replace hb2 := hb2.ext hx9
    replace s0 := s0.ext hx9
    replace E := E.trans hx9
    replace hp1_26 := hp1_26.ext hx9
    replace hp1_28 := hp1_28.ext hx9
    replace hp1_33 := hp1_33.ext hx9
    refine w_store_boxs rfl rfl (next := fun ws59 hbs59 hxs59 hss59 => ?_)
    (replace hb9 := hbs59; clear hbs59)
    have hz_hxs59 := hxs59.size
    replace hb6 := hb6.chg hxs59 (by omega)
    replace hb2 := hb2.chg hxs59 (by omega)
    replace s0 := s0.chg hxs59 (by omega)
    replace E := E.next hxs59 (by omega)
    replace hp1_26 := hp1_26.chg hxs59 (by omega)
    replace hp1_28 := hp1_28.chg hxs59 (by omega)
    replace hp1_33 := hp1_33.chg hxs59 (by omega)
    refine w_nil ?_
    refine x_next ?_
    refine c_seq ?_
    refine c_region ?_
    refine w_pure (y_load_boxs rfl) rfl ?_
    refine w_pure (y_move rfl) rfl ?_
    (refine w_call rfl rfl rfl (iAddToCounter_c _) rfl ?_; rintro _ w37 ⟨d37, ⟨rfl, ⟨hp1_37, hx37⟩⟩⟩)
    have hz_hx37 := hx37.size
    replace hb9 := hb9.ext hx37
    replace hb6 := hb6.ext hx37
    replace hb2 := hb2.ext hx37
    replace s0 := s0.ext hx37
    replace E := E.trans hx37
    replace hp1_26 := hp1_26.ext hx37
    replace hp1_28 := hp1_28.ext hx37
    replace hp1_33 := hp1_33.ext hx37
    replace hp1_37 := hp1_37.fresh
    refine w_pure (y_move rfl) rfl ?_
    refine w_pure (y_extract rfl rfl) rfl ?_
    refine w_pure (y_extract rfl rfl) rfl ?_
    refine w_pure (y_extract rfl rfl) rfl ?_
    refine w_alloc (k := fun b10 w10 hb10 hx10 hl10 hs10 => ?_)
    have hz_hx10 := hx10.size
    replace hb9 := hb9.ext hx10
    replace hb6 := hb6.ext hx10
    replace hb2 := hb2.ext hx10
    replace s0 := s0.ext hx10
    replace E := E.trans hx10
    replace hp1_26 := hp1_26.ext hx10
    replace hp1_28 := hp1_28.ext hx10
    replace hp1_33 := hp1_33.ext hx10
    replace hp1_37 := hp1_37.ext hx10
    refine w_store_boxs rfl rfl (next := fun ws72 hbs72 hxs72 hss72 => ?_)
    (replace hb10 := hbs72; clear hbs72)
    have hz_hxs72 := hxs72.size
    replace hb9 := hb9.chg hxs72 (by omega)
    replace hb6 := hb6.chg hxs72 (by omega)
    replace hb2 := hb2.chg hxs72 (by omega)
    replace s0 := s0.chg hxs72 (by omega)
    replace E := E.next hxs72 (by omega)
    replace hp1_26 := hp1_26.chg hxs72 (by omega)
    replace hp1_28 := hp1_28.chg hxs72 (by omega)
    replace hp1_33 := hp1_33.chg hxs72 (by omega)
    replace hp1_37 := hp1_37.chg hxs72 (by omega)
    refine w_pure (y_assign rfl) rfl ?_
    refine w_pure (y_assign rfl) rfl ?_
    refine w_nil ?_
    refine x_next ?_
    refine c_seq ?_
    refine c_seq ?_
    refine c_region ?_
    refine w_pure (y_load_boxs rfl) rfl ?_
    refine w_pure (y_load_boxs rfl) rfl ?_
    refine w_val rfl rfl rfl (eqCounter_c) rfl (fun w43 hx43 hz43 => ?_)
    have hz_hx43 := hx43.size
    replace hb10 := hb10.ext hx43
    replace hb9 := hb9.ext hx43
    replace hb6 := hb6.ext hx43
    replace hb2 := hb2.ext hx43
    replace s0 := s0.ext hx43
    replace E := E.trans hx43
    replace hp1_26 := hp1_26.ext hx43
    replace hp1_28 := hp1_28.ext hx43
    replace hp1_33 := hp1_33.ext hx43
    replace hp1_37 := hp1_37.ext hx43
    refine w_pure (y_not_dec rfl) rfl ?_
    refine w_pure (y_move rfl) rfl ?_
    (refine w_part_dec rfl rfl (fun hc46 => ?_) (fun hc46 => ?_) <;> try (first | exact absurd rfl hc46 | contradiction | exact Bool.noConfusion (show false = true from hc46.symm.trans (by assumption)) | exact Bool.noConfusion (show true = false from hc46.symm.trans (by assumption)) | (exfalso; omega) | (exfalso; simp only [*, Bool.not_true, Bool.not_false, reduceCtorEq] at hc46; done)))
    refine w_yes rfl rfl ?_
    refine w_pure (y_move rfl) rfl ?_
    refine w_yes rfl rfl ?_
    refine w_pure (y_move rfl) rfl ?_
    refine w_yes rfl rfl ?_
    refine w_pure (y_neb rfl rfl) rfl ?_
    refine w_pure (y_pick_f rfl rfl) rfl ?_
    refine w_pure (y_move rfl) rfl ?_
    (refine w_part_dec rfl rfl (fun hc51 => ?_) (fun hc51 => ?_) <;> try (first | exact absurd rfl hc51 | contradiction | exact Bool.noConfusion (show false = true from hc51.symm.trans (by assumption)) | exact Bool.noConfusion (show true = false from hc51.symm.trans (by assumption)) | (exfalso; omega) | (exfalso; simp only [*, Bool.not_true, Bool.not_false, reduceCtorEq] at hc51; done)))
    refine w_yes rfl rfl ?_
    refine w_pure (y_move rfl) rfl ?_
    refine w_yes rfl rfl ?_
    refine w_pure (y_move rfl) rfl ?_
    refine w_yes rfl rfl ?_
    refine w_pure (y_ne rfl rfl) rfl ?_
    refine w_pure (y_pick_f rfl rfl) rfl ?_
    refine w_nil ?_
    refine x_next ?_
    refine c_nsame rfl ?_
    refine c_skip ?_
    refine x_next ?_
    refine c_seq ?_
    refine c_seq ?_
    refine c_region_held mixed (fun wr10 hxr10 hzr10 => ?_)
    have hz_hxr10 := hxr10.size
    replace hb10 := hb10.ext hxr10
    replace hb9 := hb9.ext hxr10
    replace hb6 := hb6.ext hxr10
    replace hb2 := hb2.ext hxr10
    replace s0 := s0.ext hxr10
    replace E := E.trans hxr10
    replace hp1_26 := hp1_26.ext hxr10
    replace hp1_28 := hp1_28.ext hxr10
    replace hp1_33 := hp1_33.ext hxr10
    replace hp1_37 := hp1_37.ext hxr10
    refine h_pure rfl (y_load_boxs rfl) rfl ?_
    refine h_pure rfl (y_load_boxs rfl) rfl ?_
    refine h_one rfl ?_
    (refine w_call rfl rfl rfl (toCounter_c _) rfl ?_; rintro _ w57 ⟨d57, ⟨rfl, ⟨hp1_57, hx57⟩⟩⟩)
    have hz_hx57 := hx57.size
    replace hb10 := hb10.ext hx57
    replace hb9 := hb9.ext hx57
    replace hb6 := hb6.ext hx57
    replace hb2 := hb2.ext hx57
    replace s0 := s0.ext hx57
    replace E := E.trans hx57
    replace hp1_26 := hp1_26.ext hx57
    replace hp1_28 := hp1_28.ext hx57
    replace hp1_33 := hp1_33.ext hx57
    replace hp1_37 := hp1_37.ext hx57
    replace hp1_57 := hp1_57.fresh
    refine w_nil ?_
    refine x_held ?_
    refine h_one rfl ?_
    refine w_val rfl rfl rfl (eqCounter_c) rfl (fun w58 hx58 hz58 => ?_)
    have hz_hx58 := hx58.size
    replace hb10 := hb10.ext hx58
    replace hb9 := hb9.ext hx58
    replace hb6 := hb6.ext hx58
    replace hb2 := hb2.ext hx58
    replace s0 := s0.ext hx58
    replace E := E.trans hx58
    replace hp1_26 := hp1_26.ext hx58
    replace hp1_28 := hp1_28.ext hx58
    replace hp1_33 := hp1_33.ext hx58
    replace hp1_37 := hp1_37.ext hx58
    replace hp1_57 := hp1_57.ext hx58
    refine w_nil ?_
    refine x_held ?_
    refine h_pure rfl (y_not_dec rfl) rfl ?_
    refine h_nil ?_
    refine x_next ?_
    refine c_nsame rfl ?_
    refine c_skip ?_
    refine x_next ?_
    refine c_seq ?_
    refine c_region ?_
    refine w_pure (y_assign rfl) rfl ?_
    refine w_nil ?_
    refine x_next ?_
    refine c_seq ?_
    refine c_region ?_
    refine w_pure (y_load_boxs rfl) rfl ?_
    refine w_pure (y_move rfl) rfl ?_
    (refine w_call rfl rfl rfl (markCounter_c _) rfl ?_; rintro _ w62 ⟨rfl, ⟨hp1_62, hx62⟩⟩)
    have hz_hx62 := hx62.size
    replace hb10 := hb10.chg hx62 (by omega)
    replace hb9 := hb9.chg hx62 (by omega)
    replace hb6 := hb6.chg hx62 (by omega)
    replace hb2 := hb2.chg hx62 (by omega)
    replace s0 := s0.chg hx62 (by omega)
    replace E := E.next hx62 (by omega)
    replace hp1_26 := hp1_26.chg hx62 (by omega)
    replace hp1_28 := hp1_28.chg hx62 (by omega)
    replace hp1_37 := hp1_37.chg hx62 (by omega)
    replace hp1_57 := hp1_57.chg hx62 (by omega)
    refine w_pure (y_assign rfl) rfl ?_
    refine w_nil ?_
    refine x_next ?_
    refine c_seq ?_
    refine c_seq ?_
    refine c_region ?_
    refine w_pure (y_move rfl) rfl ?_
    refine w_pure (y_lt rfl rfl) rfl ?_
    refine w_pure (y_move rfl) rfl ?_
    refine w_yes rfl rfl ?_
    refine w_pure (y_load_boxs rfl) rfl ?_
    refine w_yes rfl rfl ?_
    refine w_pure (y_load_boxs rfl) rfl ?_
    refine w_yes rfl rfl ?_
    refine w_val rfl rfl rfl (eqCounter_c) rfl (fun w68 hx68 hz68 => ?_)
    have hz_hx68 := hx68.size
    replace hp1_62 := hp1_62.ext hx68
    replace hb10 := hb10.ext hx68
    replace hb9 := hb9.ext hx68
    replace hb6 := hb6.ext hx68
    replace hb2 := hb2.ext hx68
    replace s0 := s0.ext hx68
    replace E := E.trans hx68
    replace hp1_26 := hp1_26.ext hx68
    replace hp1_28 := hp1_28.ext hx68
    replace hp1_37 := hp1_37.ext hx68
    replace hp1_57 := hp1_57.ext hx68
    refine w_yes rfl rfl ?_
    refine w_pure (y_not_dec rfl) rfl ?_
    refine w_pure (y_pick_f rfl rfl) rfl ?_
    refine w_pure (y_move rfl) rfl ?_
    (refine w_part_dec rfl rfl (fun hc72 => ?_) (fun hc72 => ?_) <;> try (first | exact absurd rfl hc72 | contradiction | exact Bool.noConfusion (show false = true from hc72.symm.trans (by assumption)) | exact Bool.noConfusion (show true = false from hc72.symm.trans (by assumption)) | (exfalso; omega) | (exfalso; simp only [*, Bool.not_true, Bool.not_false, reduceCtorEq] at hc72; done)))
    refine w_yes rfl rfl ?_
    refine w_pure (y_move rfl) rfl ?_
    refine w_yes rfl rfl ?_
    refine w_pure (y_move rfl) rfl ?_
    refine w_yes rfl rfl ?_
    refine w_pure (y_neb rfl rfl) rfl ?_
    refine w_pure (y_pick_f rfl rfl) rfl ?_
    refine w_pure (y_move rfl) rfl ?_
    (refine w_part_dec rfl rfl (fun hc77 => ?_) (fun hc77 => ?_) <;> try (first | exact absurd rfl hc77 | contradiction | exact Bool.noConfusion (show false = true from hc77.symm.trans (by assumption)) | exact Bool.noConfusion (show true = false from hc77.symm.trans (by assumption)) | (exfalso; omega) | (exfalso; simp only [*, Bool.not_true, Bool.not_false, reduceCtorEq] at hc77; done)))
    refine w_yes rfl rfl ?_
    refine w_pure (y_move rfl) rfl ?_
    refine w_yes rfl rfl ?_
    refine w_pure (y_move rfl) rfl ?_
    refine w_yes rfl rfl ?_
    refine w_pure (y_ne rfl rfl) rfl ?_
    refine w_pure (y_pick_f rfl rfl) rfl ?_
    refine w_nil ?_
    refine x_next ?_
    refine c_nsame rfl ?_
    refine c_skip ?_
    refine x_next ?_
    refine c_seq ?_
    refine c_region ?_
    refine w_pure (y_assign rfl) rfl ?_
    refine w_nil ?_
    refine x_next ?_
    refine c_seq ?_
    refine c_region ?_
    refine w_pure (y_load_boxs rfl) rfl ?_
    refine w_pure (y_move rfl) rfl ?_
    (refine w_call rfl rfl rfl (markCounter_c _) rfl ?_; rintro _ w83 ⟨rfl, ⟨hp1_83, hx83⟩⟩)
    have hz_hx83 := hx83.size
    replace hp1_62 := hp1_62.chg hx83 (by omega)
    replace hb10 := hb10.chg hx83 (by omega)
    replace hb9 := hb9.chg hx83 (by omega)
    replace hb6 := hb6.chg hx83 (by omega)
    replace hb2 := hb2.chg hx83 (by omega)
    replace s0 := s0.chg hx83 (by omega)
    replace E := E.next hx83 (by omega)
    replace hp1_26 := hp1_26.chg hx83 (by omega)
    replace hp1_28 := hp1_28.chg hx83 (by omega)
    replace hp1_57 := hp1_57.chg hx83 (by omega)
    refine w_pure (y_assign rfl) rfl ?_
    refine w_nil ?_
    refine x_next ?_
    refine c_seq ?_
    refine c_region ?_
    refine w_pure (y_assign rfl) rfl ?_
    refine w_nil ?_
    refine x_next ?_
    refine c_seq ?_
    refine c_region ?_
    refine w_pure (y_load_boxs rfl) rfl ?_
    refine w_pure (y_move rfl) rfl ?_
    refine w_val rfl rfl rfl (heldCounter_c) rfl (fun w86 hx86 hz86 => ?_)
    have hz_hx86 := hx86.size
    replace hp1_83 := hp1_83.ext hx86
    replace hp1_62 := hp1_62.ext hx86
    replace hb10 := hb10.ext hx86
    replace hb9 := hb9.ext hx86
    replace hb6 := hb6.ext hx86
    replace hb2 := hb2.ext hx86
    replace s0 := s0.ext hx86
    replace E := E.trans hx86
    replace hp1_26 := hp1_26.ext hx86
    replace hp1_28 := hp1_28.ext hx86
    replace hp1_57 := hp1_57.ext hx86
    refine w_pure (y_assign rfl) rfl ?_
    refine w_nil ?_
    refine x_next ?_
    refine c_seq ?_
    refine c_seq ?_
    refine c_region ?_
    refine w_pure (y_move rfl) rfl ?_
    refine w_pure (y_lt rfl rfl) rfl ?_
    refine w_nil ?_
    refine x_next ?_
    refine c_false rfl ?_
    refine c_skip ?_
    refine x_next ?_
    refine c_seq ?_
    refine c_seq ?_
    refine c_region ?_
    refine w_pure (y_move rfl) rfl ?_
    refine w_pure (y_move rfl) rfl ?_
    refine w_pure (y_ne rfl rfl) rfl ?_
    refine w_nil ?_
    refine x_next ?_
    refine c_nsame rfl ?_
    refine c_skip ?_
    refine x_next ?_
    refine c_seq ?_
    refine c_region ?_
    refine w_pure (y_load_boxs rfl) rfl ?_
    (refine w_call rfl rfl rfl (toCounter_c _) rfl ?_; rintro _ w94 ⟨d94, ⟨rfl, ⟨hp1_94, hx94⟩⟩⟩)
    have hz_hx94 := hx94.size
    replace hp1_83 := hp1_83.ext hx94
    replace hp1_62 := hp1_62.ext hx94
    replace hb10 := hb10.ext hx94
    replace hb9 := hb9.ext hx94
    replace hb6 := hb6.ext hx94
    replace hb2 := hb2.ext hx94
    replace s0 := s0.ext hx94
    replace E := E.trans hx94
    replace hp1_26 := hp1_26.ext hx94
    replace hp1_28 := hp1_28.ext hx94
    replace hp1_57 := hp1_57.ext hx94
    replace hp1_94 := hp1_94.fresh
    refine w_pure (y_move rfl) rfl ?_
    (refine w_call rfl rfl rfl (iAddToCounter_c _) rfl ?_; rintro _ w96 ⟨d96, ⟨rfl, ⟨hp1_96, hx96⟩⟩⟩)
    have hz_hx96 := hx96.size
    replace hp1_83 := hp1_83.ext hx96
    replace hp1_62 := hp1_62.ext hx96
    replace hb10 := hb10.ext hx96
    replace hb9 := hb9.ext hx96
    replace hb6 := hb6.ext hx96
    replace hb2 := hb2.ext hx96
    replace s0 := s0.ext hx96
    replace E := E.trans hx96
    replace hp1_26 := hp1_26.ext hx96
    replace hp1_28 := hp1_28.ext hx96
    replace hp1_57 := hp1_57.ext hx96
    replace hp1_94 := hp1_94.ext hx96
    replace hp1_96 := hp1_96.fresh
    refine w_pure (y_move rfl) rfl ?_
    refine w_pure (y_extract rfl rfl) rfl ?_
    refine w_pure (y_extract rfl rfl) rfl ?_
    refine w_pure (y_extract rfl rfl) rfl ?_
    refine w_alloc (k := fun b16 w16 hb16 hx16 hl16 hs16 => ?_)
    have hz_hx16 := hx16.size
    replace hp1_83 := hp1_83.ext hx16
    replace hp1_62 := hp1_62.ext hx16
    replace hb10 := hb10.ext hx16
    replace hb9 := hb9.ext hx16
    replace hb6 := hb6.ext hx16
    replace hb2 := hb2.ext hx16
    replace s0 := s0.ext hx16
    replace E := E.trans hx16
    replace hp1_26 := hp1_26.ext hx16
    replace hp1_28 := hp1_28.ext hx16
    replace hp1_57 := hp1_57.ext hx16
    replace hp1_94 := hp1_94.ext hx16
    replace hp1_96 := hp1_96.ext hx16
    refine w_store_boxs rfl rfl (next := fun ws235 hbs235 hxs235 hss235 => ?_)
    (replace hb16 := hbs235; clear hbs235)
    have hz_hxs235 := hxs235.size
    replace hp1_83 := hp1_83.chg hxs235 (by omega)
    replace hp1_62 := hp1_62.chg hxs235 (by omega)
    replace hb10 := hb10.chg hxs235 (by omega)
    replace hb9 := hb9.chg hxs235 (by omega)
    replace hb6 := hb6.chg hxs235 (by omega)
    replace hb2 := hb2.chg hxs235 (by omega)
    replace s0 := s0.chg hxs235 (by omega)
    replace E := E.next hxs235 (by omega)
    replace hp1_26 := hp1_26.chg hxs235 (by omega)
    replace hp1_28 := hp1_28.chg hxs235 (by omega)
    replace hp1_57 := hp1_57.chg hxs235 (by omega)
    replace hp1_94 := hp1_94.chg hxs235 (by omega)
    replace hp1_96 := hp1_96.chg hxs235 (by omega)
    refine w_pure (y_assign rfl) rfl ?_
    refine w_pure (y_assign rfl) rfl ?_
    refine w_nil ?_
    refine x_next ?_
    refine c_seq ?_
    refine c_seq ?_
    refine c_region ?_
    refine w_pure (y_load_boxs rfl) rfl ?_
    refine w_pure (y_load_boxs rfl) rfl ?_
    refine w_val rfl rfl rfl (eqCounter_c) rfl (fun w102 hx102 hz102 => ?_)
    have hz_hx102 := hx102.size
    replace hb16 := hb16.ext hx102
    replace hp1_83 := hp1_83.ext hx102
    replace hp1_62 := hp1_62.ext hx102
    replace hb10 := hb10.ext hx102
    replace hb9 := hb9.ext hx102
    replace hb6 := hb6.ext hx102
    replace hb2 := hb2.ext hx102
    replace s0 := s0.ext hx102
    replace E := E.trans hx102
    replace hp1_26 := hp1_26.ext hx102
    replace hp1_28 := hp1_28.ext hx102
    replace hp1_57 := hp1_57.ext hx102
    replace hp1_94 := hp1_94.ext hx102
    replace hp1_96 := hp1_96.ext hx102
    refine w_pure (y_not_dec rfl) rfl ?_
    refine w_pure (y_move rfl) rfl ?_
    (refine w_part_dec rfl rfl (fun hc105 => ?_) (fun hc105 => ?_) <;> try (first | exact absurd rfl hc105 | contradiction | exact Bool.noConfusion (show false = true from hc105.symm.trans (by assumption)) | exact Bool.noConfusion (show true = false from hc105.symm.trans (by assumption)) | (exfalso; omega) | (exfalso; simp only [*, Bool.not_true, Bool.not_false, reduceCtorEq] at hc105; done)))
    refine w_yes rfl rfl ?_
    refine w_pure (y_move rfl) rfl ?_
    refine w_yes rfl rfl ?_
    refine w_pure (y_move rfl) rfl ?_
    refine w_yes rfl rfl ?_
    refine w_pure (y_neb rfl rfl) rfl ?_
    refine w_pure (y_pick_f rfl rfl) rfl ?_
    refine w_pure (y_move rfl) rfl ?_
    (refine w_part_dec rfl rfl (fun hc110 => ?_) (fun hc110 => ?_) <;> try (first | exact absurd rfl hc110 | contradiction | exact Bool.noConfusion (show false = true from hc110.symm.trans (by assumption)) | exact Bool.noConfusion (show true = false from hc110.symm.trans (by assumption)) | (exfalso; omega) | (exfalso; simp only [*, Bool.not_true, Bool.not_false, reduceCtorEq] at hc110; done)))
    refine w_yes rfl rfl ?_
    refine w_pure (y_move rfl) rfl ?_
    refine w_yes rfl rfl ?_
    refine w_pure (y_move rfl) rfl ?_
    refine w_yes rfl rfl ?_
    refine w_pure (y_ne rfl rfl) rfl ?_
    refine w_pure (y_pick_f rfl rfl) rfl ?_
    refine w_nil ?_
    refine x_next ?_
    refine c_nsame rfl ?_
    refine c_skip ?_
    refine x_next ?_
    refine c_seq ?_
    refine c_region ?_
    refine w_pure (y_assign rfl) rfl ?_
    refine w_nil ?_
    refine x_next ?_
    refine c_seq ?_
    refine c_region ?_
    refine w_pure (y_load_boxs rfl) rfl ?_
    refine w_pure (y_move rfl) rfl ?_
    refine w_val rfl rfl rfl (heldCounter_c) rfl (fun w116 hx116 hz116 => ?_)
    have hz_hx116 := hx116.size
    replace hb16 := hb16.ext hx116
    replace hp1_83 := hp1_83.ext hx116
    replace hp1_62 := hp1_62.ext hx116
    replace hb10 := hb10.ext hx116
    replace hb9 := hb9.ext hx116
    replace hb6 := hb6.ext hx116
    replace hb2 := hb2.ext hx116
    replace s0 := s0.ext hx116
    replace E := E.trans hx116
    replace hp1_26 := hp1_26.ext hx116
    replace hp1_28 := hp1_28.ext hx116
    replace hp1_57 := hp1_57.ext hx116
    replace hp1_94 := hp1_94.ext hx116
    replace hp1_96 := hp1_96.ext hx116
    refine w_pure (y_assign rfl) rfl ?_
    refine w_nil ?_
    refine x_next ?_
    refine c_seq ?_
    refine c_seq ?_
    refine c_region ?_
    refine w_pure (y_move rfl) rfl ?_
    refine w_pure (y_lt rfl rfl) rfl ?_
    refine w_nil ?_
    refine x_next ?_
    refine c_false rfl ?_
    refine c_skip ?_
    refine x_next ?_
    refine c_seq ?_
    refine c_seq ?_
    refine c_region ?_
    refine w_pure (y_move rfl) rfl ?_
    refine w_pure (y_move rfl) rfl ?_
    refine w_pure (y_ne rfl rfl) rfl ?_
    refine w_nil ?_
    refine x_next ?_
    refine c_nsame rfl ?_
    refine c_skip ?_
    refine x_next ?_
    refine c_seq ?_
    refine c_region ?_
    refine w_pure (y_assign rfl) rfl ?_
    refine w_nil ?_
    refine x_next ?_
    refine c_ret ?_
    exact x_retv [_] rfl ⟨rfl, trivial⟩ ⟨rfl, E.go⟩
theorem lCarriesOf (w0 : World) (x0 : { x : OSl // x.ok w0 }) (a1 : Int) (i1 : In64 a1) : Ret Try.prog 9 [.agg #[x0.1.v], .int .i64 a1] w0 fun u w' => u = .bool true ∧ Ext w0 w' := by
  obtain ⟨⟨v0, xs0⟩, hok0⟩ := x0
  have s0 : SL w0 0 w0.heap.size v0 xs0 := hok0.sl
  have r0 := hok0.in64
  show Ret _ _ [.agg #[v0], .int .i64 a1] w0 _
  clear hok0
  have E : Since 0 0 w0 w0 := Since.refl 0 0 w0
  refine ret_enter Try.func9 rfl Try.ntmps9 rfl ?_
  focus
    refine c_seq ?_
    refine c_region ?_
    refine w_box rfl (k := fun b2 w2 hb2 hx2 hl2 hs2 => ?_)
    have hz_hx2 := hx2.size
    replace s0 := s0.ext hx2
    replace E := E.trans hx2
    refine w_pure (y_assign rfl) rfl ?_
    refine w_nil ?_
    refine x_next ?_
    refine c_seq ?_
    refine c_region ?_
    refine w_pure (y_assign rfl) rfl ?_
    refine w_nil ?_
    refine x_next ?_
    refine c_seq ?_
    refine c_region ?_
    refine w_pure (y_load_boxs rfl) rfl ?_
    refine w_pure (y_move rfl) rfl ?_
    (refine w_call rfl rfl rfl (szCounter_z) rfl ?_; rintro _ w13 ⟨z13, ⟨rfl, ⟨hp1_13, hx13⟩⟩⟩)
    have hz_hx13 := hx13.size
    replace hb2 := hb2.ext hx13
    replace s0 := s0.ext hx13
    replace E := E.trans hx13
    refine w_pure (y_assign rfl) rfl ?_
    refine w_nil ?_
    refine x_next ?_
    refine c_seq ?_
    refine c_seq ?_
    refine c_region ?_
    refine w_pure (y_move rfl) rfl ?_
    refine w_pure (y_lt rfl rfl) rfl ?_
    refine w_nil ?_
    refine x_next ?_
    (refine c_dec rfl (fun hc15 => ?_) (fun hc15 => ?_) <;> try (first | exact absurd rfl hc15 | contradiction | exact Bool.noConfusion (show false = true from hc15.symm.trans (by assumption)) | exact Bool.noConfusion (show true = false from hc15.symm.trans (by assumption)) | (exfalso; omega) | (exfalso; simp only [*, Bool.not_true, Bool.not_false, reduceCtorEq] at hc15; done)))
    refine c_seq ?_
    refine c_region ?_
    refine w_pure (y_assign rfl) rfl ?_
    refine w_nil ?_
    refine x_next ?_
    refine c_ret ?_
    refine x_then_ret ?_
    exact x_retv [_] rfl ⟨rfl, trivial⟩ ⟨rfl, E.go⟩
    refine c_skip ?_
    refine x_next ?_
    refine c_seq ?_
    refine c_region ?_
    refine w_pure (y_load_boxs rfl) rfl ?_
    (refine w_call rfl rfl rfl (toCounter_c _) rfl ?_; rintro _ w18 ⟨d18, ⟨rfl, ⟨hp1_18, hx18⟩⟩⟩)
    have hz_hx18 := hx18.size
    replace hb2 := hb2.ext hx18
    replace s0 := s0.ext hx18
    replace E := E.trans hx18
    replace hp1_18 := hp1_18.fresh
    refine w_pure (y_move rfl) rfl ?_
    refine w_val rfl rfl rfl (sCarriesOf_c _) rfl (fun w20 hx20 hz20 => ?_)
    have hz_hx20 := hx20.size
    replace hb2 := hb2.ext hx20
    replace s0 := s0.ext hx20
    replace E := E.trans hx20
    replace hp1_18 := hp1_18.ext hx20
    refine w_pure (y_move rfl) rfl ?_
    refine w_pure (y_extract rfl rfl) rfl ?_
    refine w_pure (y_extract rfl rfl) rfl ?_
    refine w_pure (y_assign rfl) rfl ?_
    refine w_pure (y_assign rfl) rfl ?_
    refine w_nil ?_
    refine x_next ?_
    refine c_seq ?_
    refine c_region ?_
    refine w_pure (y_load_boxs rfl) rfl ?_
    (refine w_call rfl rfl rfl (toCounter_c _) rfl ?_; rintro _ w24 ⟨d24, ⟨rfl, ⟨hp1_24, hx24⟩⟩⟩)
    have hz_hx24 := hx24.size
    replace hb2 := hb2.ext hx24
    replace s0 := s0.ext hx24
    replace E := E.trans hx24
    replace hp1_18 := hp1_18.ext hx24
    replace hp1_24 := hp1_24.fresh
    refine w_alloc (k := fun b8 w8 hb8 hx8 hl8 hs8 => ?_)
    have hz_hx8 := hx8.size
    replace hb2 := hb2.ext hx8
    replace s0 := s0.ext hx8
    replace E := E.trans hx8
    replace hp1_18 := hp1_18.ext hx8
    replace hp1_24 := hp1_24.ext hx8
    refine w_store_boxs rfl rfl (next := fun ws56 hbs56 hxs56 hss56 => ?_)
    (replace hb8 := hbs56; clear hbs56)
    have hz_hxs56 := hxs56.size
    replace hb2 := hb2.chg hxs56 (by omega)
    replace s0 := s0.chg hxs56 (by omega)
    replace E := E.next hxs56 (by omega)
    replace hp1_18 := hp1_18.chg hxs56 (by omega)
    replace hp1_24 := hp1_24.chg hxs56 (by omega)
    refine w_nil ?_
    refine x_next ?_
    refine c_seq ?_
    refine c_region ?_
    refine w_pure (y_load_boxs rfl) rfl ?_
    refine w_pure (y_move rfl) rfl ?_
    refine w_val rfl rfl rfl (iCarriesOf_c _) rfl (fun w28 hx28 hz28 => ?_)
    have hz_hx28 := hx28.size
    replace hb8 := hb8.ext hx28
    replace hb2 := hb2.ext hx28
    replace s0 := s0.ext hx28
    replace E := E.trans hx28
    replace hp1_18 := hp1_18.ext hx28
    replace hp1_24 := hp1_24.ext hx28
    refine w_pure (y_move rfl) rfl ?_
    refine w_pure (y_extract rfl rfl) rfl ?_
    refine w_pure (y_extract rfl rfl) rfl ?_
    refine w_pure (y_assign rfl) rfl ?_
    refine w_pure (y_assign rfl) rfl ?_
    refine w_nil ?_
    refine x_next ?_
    refine c_seq ?_
    refine c_seq ?_
    refine c_region ?_
    refine w_pure (y_move rfl) rfl ?_
    refine w_pure (y_move rfl) rfl ?_
    refine w_pure (y_ne rfl rfl) rfl ?_
    refine w_pure (y_move rfl) rfl ?_
    (refine w_part_dec rfl rfl (fun hc35 => ?_) (fun hc35 => ?_) <;> try (first | exact absurd rfl hc35 | contradiction | exact Bool.noConfusion (show false = true from hc35.symm.trans (by assumption)) | exact Bool.noConfusion (show true = false from hc35.symm.trans (by assumption)) | (exfalso; omega) | (exfalso; simp only [*, Bool.not_true, Bool.not_false, reduceCtorEq] at hc35; done)))
    refine w_yes rfl rfl ?_
    refine w_pure (y_move rfl) rfl ?_
    refine w_yes rfl rfl ?_
    refine w_pure (y_move rfl) rfl ?_
    refine w_yes rfl rfl ?_
    refine w_pure (y_ne rfl rfl) rfl ?_
    refine w_pure (y_pick_f rfl rfl) rfl ?_
    refine w_nil ?_
    refine x_next ?_
    refine c_nsame rfl ?_
    refine c_skip ?_
    refine x_next ?_
    refine c_seq ?_
    refine c_seq ?_
    refine c_region_held mixed (fun wr10 hxr10 hzr10 => ?_)
    have hz_hxr10 := hxr10.size
    replace hb8 := hb8.ext hxr10
    replace hb2 := hb2.ext hxr10
    replace s0 := s0.ext hxr10
    replace E := E.trans hxr10
    replace hp1_18 := hp1_18.ext hxr10
    replace hp1_24 := hp1_24.ext hxr10
    refine h_pure rfl (y_load_boxs rfl) rfl ?_
    refine h_pure rfl (y_load_boxs rfl) rfl ?_
    refine h_one rfl ?_
    (refine w_call rfl rfl rfl (toCounter_c _) rfl ?_; rintro _ w41 ⟨d41, ⟨rfl, ⟨hp1_41, hx41⟩⟩⟩)
    have hz_hx41 := hx41.size
    replace hb8 := hb8.ext hx41
    replace hb2 := hb2.ext hx41
    replace s0 := s0.ext hx41
    replace E := E.trans hx41
    replace hp1_18 := hp1_18.ext hx41
    replace hp1_24 := hp1_24.ext hx41
    replace hp1_41 := hp1_41.fresh
    refine w_nil ?_
    refine x_held ?_
    refine h_one rfl ?_
    refine w_val rfl rfl rfl (eqCounter_c) rfl (fun w42 hx42 hz42 => ?_)
    have hz_hx42 := hx42.size
    replace hb8 := hb8.ext hx42
    replace hb2 := hb2.ext hx42
    replace s0 := s0.ext hx42
    replace E := E.trans hx42
    replace hp1_18 := hp1_18.ext hx42
    replace hp1_24 := hp1_24.ext hx42
    replace hp1_41 := hp1_41.ext hx42
    refine w_nil ?_
    refine x_held ?_
    refine h_pure rfl (y_not_dec rfl) rfl ?_
    refine h_nil ?_
    refine x_next ?_
    refine c_nsame rfl ?_
    refine c_skip ?_
    refine x_next ?_
    refine c_seq ?_
    refine c_region ?_
    refine w_pure (y_assign rfl) rfl ?_
    refine w_nil ?_
    refine x_next ?_
    refine c_ret ?_
    exact x_retv [_] rfl ⟨rfl, trivial⟩ ⟨rfl, E.go⟩
end Go.Proofs.Ytmmpnlhanljhiaa

/- The walk of the law on serial numbers. -/
import Derived.Test.YtdkedajdgllilaaDoorSerC
import Derived.Test.YtdkedajdgllilaaDoorDkO
namespace Go.Proofs.YtdkedajdgllilaaDoor
open Go Go.Gw
set_option linter.unusedVariables false
set_option linter.unusedSimpArgs false
theorem lSerialPunch (w0 : World) (hT : Tab w0.heap.size w0) (x0 : { x : ODk // x.ok w0 }) (x1 : { p : Int × Int // In64 p.1 ∧ In64 p.2 }) (a2 : Int) (i2 : In64 a2) : Ret Tryd.prog 3 [x0.1.v, .agg #[.int .i64 x1.1.1, .int .i64 x1.1.2], .int .i64 a2] w0 fun u w' => u = .bool true ∧ Ext w0 w' := by
  obtain ⟨⟨v0, svs0, xss0⟩, hok0⟩ := x0
  have s0 : SLL w0 0 w0.heap.size svs0 v0 xss0 := hok0.sll
  have r0 := hok0.in64
  obtain ⟨⟨a1, b1⟩, i1, j1⟩ := x1
  simp only at i1 j1
  show Ret _ _ [v0, .agg #[.int .i64 a1, .int .i64 b1], .int .i64 a2] w0 _
  clear hok0
  have E : Since 0 0 w0 w0 := Since.refl 0 0 w0
  have hb := resSer_bd xss0 a1 b1 a2
  refine ret_enter Tryd.func3 rfl Tryd.ntmps3 rfl ?_
  focus
    refine c_seq ?_
    refine c_region ?_
    refine w_box rfl (k := fun b4 w4 hb4 hx4 hl4 hs4 => ?_)
    have hz_hx4 := hx4.size
    replace hT := hT.ext hx4
    replace s0 := s0.ext hx4
    replace E := E.trans hx4
    refine w_pure (y_assign rfl) rfl ?_
    refine w_nil ?_
    refine x_next ?_
    refine c_seq ?_
    refine c_region ?_
    refine w_pure (y_assign rfl) rfl ?_
    refine w_nil ?_
    refine x_next ?_
    refine c_seq ?_
    refine c_region ?_
    refine w_pure (y_move rfl) rfl ?_
    refine w_pure (y_move rfl) rfl ?_
    (refine w_call rfl rfl rfl (szCardS_z) rfl ?_; rintro _ w20 ⟨z20, ⟨rfl, ⟨hp1_20, hx20⟩⟩⟩)
    have hz_hx20 := hx20.size
    replace hb4 := hb4.ext hx20
    replace hT := hT.ext hx20
    replace s0 := s0.ext hx20
    replace E := E.trans hx20
    refine w_pure (y_assign rfl) rfl ?_
    refine w_nil ?_
    refine x_next ?_
    refine c_seq ?_
    refine c_seq ?_
    refine c_region ?_
    refine w_pure (y_move rfl) rfl ?_
    refine w_pure (y_lt rfl rfl) rfl ?_
    refine w_nil ?_
    refine x_next ?_
    (refine c_dec rfl (fun hc22 => ?_) (fun hc22 => ?_) <;> try (first | exact absurd rfl hc22 | contradiction | exact Bool.noConfusion (show false = true from hc22.symm.trans (by assumption)) | exact Bool.noConfusion (show true = false from hc22.symm.trans (by assumption)) | (exfalso; omega) | (exfalso; simp only [*, Bool.not_true, Bool.not_false, reduceCtorEq] at hc22; done)))
    refine c_seq ?_
    refine c_region ?_
    refine w_pure (y_assign rfl) rfl ?_
    refine w_nil ?_
    refine x_next ?_
    refine c_ret ?_
    refine x_then_ret ?_
    exact x_retv [_] rfl ⟨rfl, trivial⟩ ⟨rfl, E.go⟩
    refine c_skip ?_
    refine x_next ?_
    refine c_seq ?_
    refine c_region_held mixed (fun wr5 hxr5 hzr5 => ?_)
    have hz_hxr5 := hxr5.size
    replace hb4 := hb4.ext hxr5
    replace hT := hT.ext hxr5
    replace s0 := s0.ext hxr5
    replace E := E.trans hxr5
    refine h_pure rfl (y_move rfl) rfl ?_
    refine h_turn ?_
    refine h_pure rfl (y_load_boxs rfl) rfl ?_
    refine h_turn ?_
    refine h_pure rfl (y_move rfl) rfl ?_
    refine h_turn ?_
    refine h_turn ?_
    refine h_turn ?_
    refine h_turn ?_
    refine h_turn ?_
    refine h_turn ?_
    refine h_one rfl ?_
    (refine w_call rfl rfl rfl (toCardS_c) rfl ?_; rintro v25 w25 ⟨sus25, ⟨hp1_25, hx25⟩⟩)
    have hz_hx25 := hx25.size
    replace hb4 := hb4.ext hx25
    replace hT := hT.ext hx25
    replace s0 := s0.ext hx25
    replace E := E.trans hx25
    refine w_nil ?_
    refine x_held ?_
    refine h_one rfl ?_
    refine w_val rfl rfl rfl (toField_c _ _) rfl (fun w27 hx27 hz27 => ?_)
    have hz_hx27 := hx27.size
    replace hp1_25 := hp1_25.ext hx27
    replace hb4 := hb4.ext hx27
    replace hT := hT.ext hx27
    replace s0 := s0.ext hx27
    replace E := E.trans hx27
    refine w_nil ?_
    refine x_held ?_
    refine h_one rfl ?_
    (refine w_call rfl rfl rfl (sSerialPunch_c) rfl ?_; rintro _ w29 ⟨d29, ⟨sus29, ⟨rfl, ⟨hp1_29, hx29⟩⟩⟩⟩)
    have hz_hx29 := hx29.size
    replace hp1_25 := hp1_25.ext hx29
    replace hb4 := hb4.ext hx29
    replace hT := hT.ext hx29
    replace s0 := s0.ext hx29
    replace E := E.trans hx29
    refine w_nil ?_
    refine x_held ?_
    refine h_pure rfl (y_move rfl) rfl ?_
    refine h_pure rfl (y_extract rfl rfl) rfl ?_
    refine h_pure rfl (y_extract rfl rfl) rfl ?_
    refine h_pure rfl (y_assign rfl) rfl ?_
    refine h_pure rfl (y_assign rfl) rfl ?_
    refine h_nil ?_
    refine x_next ?_
    refine c_seq ?_
    refine c_region ?_
    refine w_pure (y_move rfl) rfl ?_
    (refine w_call rfl rfl rfl (toCardS_c) rfl ?_; rintro v33 w33 ⟨sus33, ⟨hp1_33, hx33⟩⟩)
    have hz_hx33 := hx33.size
    replace hp1_29 := hp1_29.ext hx33
    replace hp1_25 := hp1_25.ext hx33
    replace hb4 := hb4.ext hx33
    replace hT := hT.ext hx33
    replace s0 := s0.ext hx33
    replace E := E.trans hx33
    refine w_pure (y_assign rfl) rfl ?_
    refine w_nil ?_
    refine x_next ?_
    refine c_seq ?_
    refine c_region ?_
    refine w_pure (y_move rfl) rfl ?_
    refine w_pure (y_load_boxs rfl) rfl ?_
    refine w_val rfl rfl rfl (toField_c _ _) rfl (fun w37 hx37 hz37 => ?_)
    have hz_hx37 := hx37.size
    replace hp1_33 := hp1_33.ext hx37
    replace hp1_29 := hp1_29.ext hx37
    replace hp1_25 := hp1_25.ext hx37
    replace hb4 := hb4.ext hx37
    replace hT := hT.ext hx37
    replace s0 := s0.ext hx37
    replace E := E.trans hx37
    refine w_pure (y_move rfl) rfl ?_
    (refine w_call rfl rfl rfl (iSerialPunch_c) rfl ?_; rintro _ w39 ⟨d39, ⟨sus39, ⟨rfl, ⟨hp1_39, hx39⟩⟩⟩⟩)
    have hz_hx39 := hx39.size
    replace hp1_33 := hp1_33.ext hx39
    replace hp1_29 := hp1_29.ext hx39
    replace hp1_25 := hp1_25.ext hx39
    replace hb4 := hb4.ext hx39
    replace hT := hT.ext hx39
    replace s0 := s0.ext hx39
    replace E := E.trans hx39
    refine w_pure (y_move rfl) rfl ?_
    refine w_pure (y_extract rfl rfl) rfl ?_
    refine w_pure (y_extract rfl rfl) rfl ?_
    refine w_pure (y_assign rfl) rfl ?_
    refine w_pure (y_assign rfl) rfl ?_
    refine w_nil ?_
    refine x_next ?_
    refine c_seq ?_
    refine c_seq ?_
    refine c_region ?_
    refine w_pure (y_move rfl) rfl ?_
    refine w_pure (y_move rfl) rfl ?_
    refine w_val rfl rfl rfl (eqCardS_c) rfl (fun w44 hx44 hz44 => ?_)
    have hz_hx44 := hx44.size
    replace hp1_39 := hp1_39.ext hx44
    replace hp1_33 := hp1_33.ext hx44
    replace hp1_29 := hp1_29.ext hx44
    replace hp1_25 := hp1_25.ext hx44
    replace hb4 := hb4.ext hx44
    replace hT := hT.ext hx44
    replace s0 := s0.ext hx44
    replace E := E.trans hx44
    refine w_pure (y_not_dec rfl) rfl ?_
    refine w_pure (y_move rfl) rfl ?_
    (refine w_part_dec rfl rfl (fun hc47 => ?_) (fun hc47 => ?_) <;> try (first | exact absurd rfl hc47 | contradiction | exact Bool.noConfusion (show false = true from hc47.symm.trans (by assumption)) | exact Bool.noConfusion (show true = false from hc47.symm.trans (by assumption)) | (exfalso; omega) | (exfalso; simp only [*, Bool.not_true, Bool.not_false, reduceCtorEq] at hc47; done)))
    refine w_yes rfl rfl ?_
    refine w_pure (y_move rfl) rfl ?_
    refine w_yes rfl rfl ?_
    refine w_pure (y_move rfl) rfl ?_
    refine w_yes rfl rfl ?_
    refine w_pure (y_ne rfl rfl) rfl ?_
    refine w_pure (y_pick_f rfl rfl) rfl ?_
    refine w_nil ?_
    refine x_next ?_
    refine c_nsame rfl ?_
    refine c_skip ?_
    refine x_next ?_
    refine c_seq ?_
    refine c_seq ?_
    refine c_region ?_
    refine w_pure (y_move rfl) rfl ?_
    refine w_pure (y_move rfl) rfl ?_
    (refine w_call rfl rfl rfl (toCardS_c) rfl ?_; rintro v53 w53 ⟨sus53, ⟨hp1_53, hx53⟩⟩)
    have hz_hx53 := hx53.size
    replace hp1_39 := hp1_39.ext hx53
    replace hp1_33 := hp1_33.ext hx53
    replace hp1_29 := hp1_29.ext hx53
    replace hp1_25 := hp1_25.ext hx53
    replace hb4 := hb4.ext hx53
    replace hT := hT.ext hx53
    replace s0 := s0.ext hx53
    replace E := E.trans hx53
    refine w_val rfl rfl rfl (eqCardS_c) rfl (fun w54 hx54 hz54 => ?_)
    have hz_hx54 := hx54.size
    replace hp1_53 := hp1_53.ext hx54
    replace hp1_39 := hp1_39.ext hx54
    replace hp1_33 := hp1_33.ext hx54
    replace hp1_29 := hp1_29.ext hx54
    replace hp1_25 := hp1_25.ext hx54
    replace hb4 := hb4.ext hx54
    replace hT := hT.ext hx54
    replace s0 := s0.ext hx54
    replace E := E.trans hx54
    refine w_pure (y_not_dec rfl) rfl ?_
    refine w_nil ?_
    refine x_next ?_
    refine c_nsame rfl ?_
    refine c_skip ?_
    refine x_next ?_
    refine c_seq ?_
    refine c_region ?_
    refine w_pure (y_assign rfl) rfl ?_
    refine w_nil ?_
    refine x_next ?_
    refine c_seq ?_
    refine c_region ?_
    refine w_pure (y_move rfl) rfl ?_
    refine w_pure (y_move rfl) rfl ?_
    (refine w_call rfl rfl rfl (markCardS_c) rfl ?_; rintro _ w58 ⟨rfl, ⟨hp1_58, hx58⟩⟩)
    have hz_hx58 := hx58.size
    replace hp1_53 := hp1_53.chg hx58 (by omega)
    replace hp1_39 := hp1_39.chg hx58 (by omega)
    replace hp1_29 := hp1_29.chg hx58 (by omega)
    replace hp1_25 := hp1_25.chg hx58 (by omega)
    replace hb4 := hb4.chg hx58 (by omega)
    replace hT := hT.chg hx58 (by omega)
    replace s0 := s0.chg hx58 (by omega)
    replace E := E.next hx58 (by omega)
    refine w_pure (y_assign rfl) rfl ?_
    refine w_nil ?_
    refine x_next ?_
    refine c_seq ?_
    refine c_seq ?_
    refine c_region ?_
    refine w_pure (y_move rfl) rfl ?_
    refine w_pure (y_lt rfl rfl) rfl ?_
    refine w_pure (y_move rfl) rfl ?_
    refine w_yes rfl rfl ?_
    refine w_pure (y_move rfl) rfl ?_
    refine w_yes rfl rfl ?_
    refine w_pure (y_move rfl) rfl ?_
    refine w_yes rfl rfl ?_
    refine w_val rfl rfl rfl (eqCardS_c) rfl (fun w64 hx64 hz64 => ?_)
    have hz_hx64 := hx64.size
    replace hp1_58 := hp1_58.ext hx64
    replace hp1_53 := hp1_53.ext hx64
    replace hp1_39 := hp1_39.ext hx64
    replace hp1_29 := hp1_29.ext hx64
    replace hp1_25 := hp1_25.ext hx64
    replace hb4 := hb4.ext hx64
    replace hT := hT.ext hx64
    replace s0 := s0.ext hx64
    replace E := E.trans hx64
    refine w_yes rfl rfl ?_
    refine w_pure (y_not_dec rfl) rfl ?_
    refine w_pure (y_pick_f rfl rfl) rfl ?_
    refine w_pure (y_move rfl) rfl ?_
    (refine w_part_dec rfl rfl (fun hc68 => ?_) (fun hc68 => ?_) <;> try (first | exact absurd rfl hc68 | contradiction | exact Bool.noConfusion (show false = true from hc68.symm.trans (by assumption)) | exact Bool.noConfusion (show true = false from hc68.symm.trans (by assumption)) | (exfalso; omega) | (exfalso; simp only [*, Bool.not_true, Bool.not_false, reduceCtorEq] at hc68; done)))
    refine w_yes rfl rfl ?_
    refine w_pure (y_move rfl) rfl ?_
    refine w_yes rfl rfl ?_
    refine w_pure (y_move rfl) rfl ?_
    refine w_yes rfl rfl ?_
    refine w_pure (y_ne rfl rfl) rfl ?_
    refine w_pure (y_pick_f rfl rfl) rfl ?_
    refine w_nil ?_
    refine x_next ?_
    refine c_nsame rfl ?_
    refine c_skip ?_
    refine x_next ?_
    refine c_seq ?_
    refine c_region ?_
    refine w_pure (y_assign rfl) rfl ?_
    refine w_nil ?_
    refine x_next ?_
    refine c_seq ?_
    refine c_region ?_
    refine w_pure (y_move rfl) rfl ?_
    refine w_pure (y_move rfl) rfl ?_
    (refine w_call rfl rfl rfl (markCardS_c) rfl ?_; rintro _ w74 ⟨rfl, ⟨hp1_74, hx74⟩⟩)
    have hz_hx74 := hx74.size
    replace hp1_58 := hp1_58.chg hx74 (by omega)
    replace hp1_53 := hp1_53.chg hx74 (by omega)
    replace hp1_29 := hp1_29.chg hx74 (by omega)
    replace hp1_25 := hp1_25.chg hx74 (by omega)
    replace hb4 := hb4.chg hx74 (by omega)
    replace hT := hT.chg hx74 (by omega)
    replace s0 := s0.chg hx74 (by omega)
    replace E := E.next hx74 (by omega)
    refine w_pure (y_assign rfl) rfl ?_
    refine w_nil ?_
    refine x_next ?_
    refine c_seq ?_
    refine c_region ?_
    refine w_pure (y_assign rfl) rfl ?_
    refine w_nil ?_
    refine x_next ?_
    refine c_seq ?_
    refine c_region ?_
    refine w_pure (y_move rfl) rfl ?_
    refine w_pure (y_move rfl) rfl ?_
    refine w_val rfl rfl rfl (heldCardS_c) rfl (fun w77 hx77 hz77 => ?_)
    have hz_hx77 := hx77.size
    replace hp1_74 := hp1_74.ext hx77
    replace hp1_58 := hp1_58.ext hx77
    replace hp1_53 := hp1_53.ext hx77
    replace hp1_29 := hp1_29.ext hx77
    replace hp1_25 := hp1_25.ext hx77
    replace hb4 := hb4.ext hx77
    replace hT := hT.ext hx77
    replace s0 := s0.ext hx77
    replace E := E.trans hx77
    refine w_pure (y_assign rfl) rfl ?_
    refine w_nil ?_
    refine x_next ?_
    refine c_seq ?_
    refine c_seq ?_
    refine c_region ?_
    refine w_pure (y_move rfl) rfl ?_
    refine w_pure (y_lt rfl rfl) rfl ?_
    refine w_nil ?_
    refine x_next ?_
    refine c_false rfl ?_
    refine c_skip ?_
    refine x_next ?_
    refine c_seq ?_
    refine c_seq ?_
    refine c_region ?_
    refine w_pure (y_move rfl) rfl ?_
    refine w_pure (y_move rfl) rfl ?_
    refine w_pure (y_ne rfl rfl) rfl ?_
    refine w_nil ?_
    refine x_next ?_
    refine c_nsame rfl ?_
    refine c_skip ?_
    refine x_next ?_
    refine c_seq ?_
    refine c_region_held mixed (fun wr24 hxr24 hzr24 => ?_)
    have hz_hxr24 := hxr24.size
    replace hp1_74 := hp1_74.ext hxr24
    replace hp1_58 := hp1_58.ext hxr24
    replace hp1_53 := hp1_53.ext hxr24
    replace hp1_29 := hp1_29.ext hxr24
    replace hp1_25 := hp1_25.ext hxr24
    replace hb4 := hb4.ext hxr24
    replace hT := hT.ext hxr24
    replace s0 := s0.ext hxr24
    replace E := E.trans hxr24
    refine h_pure rfl (y_move rfl) rfl ?_
    refine h_turn ?_
    refine h_pure rfl (y_load_boxs rfl) rfl ?_
    refine h_turn ?_
    refine h_pure rfl (y_move rfl) rfl ?_
    refine h_turn ?_
    refine h_turn ?_
    refine h_turn ?_
    refine h_turn ?_
    refine h_turn ?_
    refine h_turn ?_
    refine h_one rfl ?_
    (refine w_call rfl rfl rfl (toCardS_c) rfl ?_; rintro v85 w85 ⟨sus85, ⟨hp1_85, hx85⟩⟩)
    have hz_hx85 := hx85.size
    replace hp1_74 := hp1_74.ext hx85
    replace hp1_58 := hp1_58.ext hx85
    replace hp1_53 := hp1_53.ext hx85
    replace hp1_29 := hp1_29.ext hx85
    replace hp1_25 := hp1_25.ext hx85
    replace hb4 := hb4.ext hx85
    replace hT := hT.ext hx85
    replace s0 := s0.ext hx85
    replace E := E.trans hx85
    refine w_nil ?_
    refine x_held ?_
    refine h_one rfl ?_
    refine w_val rfl rfl rfl (toField_c _ _) rfl (fun w87 hx87 hz87 => ?_)
    have hz_hx87 := hx87.size
    replace hp1_85 := hp1_85.ext hx87
    replace hp1_74 := hp1_74.ext hx87
    replace hp1_58 := hp1_58.ext hx87
    replace hp1_53 := hp1_53.ext hx87
    replace hp1_29 := hp1_29.ext hx87
    replace hp1_25 := hp1_25.ext hx87
    replace hb4 := hb4.ext hx87
    replace hT := hT.ext hx87
    replace s0 := s0.ext hx87
    replace E := E.trans hx87
    refine w_nil ?_
    refine x_held ?_
    refine h_one rfl ?_
    (refine w_call rfl rfl rfl (iSerialPunch_c) rfl ?_; rintro _ w89 ⟨d89, ⟨sus89, ⟨rfl, ⟨hp1_89, hx89⟩⟩⟩⟩)
    have hz_hx89 := hx89.size
    replace hp1_85 := hp1_85.ext hx89
    replace hp1_74 := hp1_74.ext hx89
    replace hp1_58 := hp1_58.ext hx89
    replace hp1_53 := hp1_53.ext hx89
    replace hp1_29 := hp1_29.ext hx89
    replace hp1_25 := hp1_25.ext hx89
    replace hb4 := hb4.ext hx89
    replace hT := hT.ext hx89
    replace s0 := s0.ext hx89
    replace E := E.trans hx89
    refine w_nil ?_
    refine x_held ?_
    refine h_pure rfl (y_move rfl) rfl ?_
    refine h_pure rfl (y_extract rfl rfl) rfl ?_
    refine h_pure rfl (y_extract rfl rfl) rfl ?_
    refine h_pure rfl (y_assign rfl) rfl ?_
    refine h_pure rfl (y_assign rfl) rfl ?_
    refine h_nil ?_
    refine x_next ?_
    refine c_seq ?_
    refine c_seq ?_
    refine c_region ?_
    refine w_pure (y_move rfl) rfl ?_
    refine w_pure (y_move rfl) rfl ?_
    refine w_val rfl rfl rfl (eqCardS_c) rfl (fun w94 hx94 hz94 => ?_)
    have hz_hx94 := hx94.size
    replace hp1_89 := hp1_89.ext hx94
    replace hp1_85 := hp1_85.ext hx94
    replace hp1_74 := hp1_74.ext hx94
    replace hp1_58 := hp1_58.ext hx94
    replace hp1_53 := hp1_53.ext hx94
    replace hp1_29 := hp1_29.ext hx94
    replace hp1_25 := hp1_25.ext hx94
    replace hb4 := hb4.ext hx94
    replace hT := hT.ext hx94
    replace s0 := s0.ext hx94
    replace E := E.trans hx94
    refine w_pure (y_not_dec rfl) rfl ?_
    refine w_pure (y_move rfl) rfl ?_
    (refine w_part_dec rfl rfl (fun hc97 => ?_) (fun hc97 => ?_) <;> try (first | exact absurd rfl hc97 | contradiction | exact Bool.noConfusion (show false = true from hc97.symm.trans (by assumption)) | exact Bool.noConfusion (show true = false from hc97.symm.trans (by assumption)) | (exfalso; omega) | (exfalso; simp only [*, Bool.not_true, Bool.not_false, reduceCtorEq] at hc97; done)))
    refine w_yes rfl rfl ?_
    refine w_pure (y_move rfl) rfl ?_
    refine w_yes rfl rfl ?_
    refine w_pure (y_move rfl) rfl ?_
    refine w_yes rfl rfl ?_
    refine w_pure (y_ne rfl rfl) rfl ?_
    refine w_pure (y_pick_f rfl rfl) rfl ?_
    refine w_nil ?_
    refine x_next ?_
    refine c_nsame rfl ?_
    refine c_skip ?_
    refine x_next ?_
    refine c_seq ?_
    refine c_region ?_
    refine w_pure (y_assign rfl) rfl ?_
    refine w_nil ?_
    refine x_next ?_
    refine c_seq ?_
    refine c_region ?_
    refine w_pure (y_move rfl) rfl ?_
    refine w_pure (y_move rfl) rfl ?_
    refine w_val rfl rfl rfl (heldCardS_c) rfl (fun w103 hx103 hz103 => ?_)
    have hz_hx103 := hx103.size
    replace hp1_89 := hp1_89.ext hx103
    replace hp1_85 := hp1_85.ext hx103
    replace hp1_74 := hp1_74.ext hx103
    replace hp1_58 := hp1_58.ext hx103
    replace hp1_53 := hp1_53.ext hx103
    replace hp1_29 := hp1_29.ext hx103
    replace hp1_25 := hp1_25.ext hx103
    replace hb4 := hb4.ext hx103
    replace hT := hT.ext hx103
    replace s0 := s0.ext hx103
    replace E := E.trans hx103
    refine w_pure (y_assign rfl) rfl ?_
    refine w_nil ?_
    refine x_next ?_
    refine c_seq ?_
    refine c_seq ?_
    refine c_region ?_
    refine w_pure (y_move rfl) rfl ?_
    refine w_pure (y_lt rfl rfl) rfl ?_
    refine w_nil ?_
    refine x_next ?_
    refine c_false rfl ?_
    refine c_skip ?_
    refine x_next ?_
    refine c_seq ?_
    refine c_seq ?_
    refine c_region ?_
    refine w_pure (y_move rfl) rfl ?_
    refine w_pure (y_move rfl) rfl ?_
    refine w_pure (y_ne rfl rfl) rfl ?_
    refine w_nil ?_
    refine x_next ?_
    refine c_nsame rfl ?_
    refine c_skip ?_
    refine x_next ?_
    refine c_seq ?_
    refine c_region ?_
    refine w_pure (y_assign rfl) rfl ?_
    refine w_nil ?_
    refine x_next ?_
    refine c_ret ?_
    exact x_retv [_] rfl ⟨rfl, trivial⟩ ⟨rfl, E.go⟩
end Go.Proofs.YtdkedajdgllilaaDoor

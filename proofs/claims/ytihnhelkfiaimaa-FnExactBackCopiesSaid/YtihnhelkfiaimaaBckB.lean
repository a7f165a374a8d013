/- The walk of the law on copies that are turned round. -/
import Derived.Test.YtihnhelkfiaimaaBckA
import Derived.Test.YtihnhelkfiaimaaLawB
import Derived.Test.YtihnhelkfiaimaaOpen
namespace Go.Proofs.Ytihnhelkfiaimaa
open Go Go.Gw
set_option linter.unusedVariables false
set_option linter.unusedSimpArgs false
theorem lBackCopies (w0 : World) (x0 : { x : OPs // x.ok w0 }) : Ret Try.prog 3 [x0.1.v] w0 fun u w' => u = .bool true ∧ Ext w0 w' := by
  obtain ⟨⟨v0, ws0⟩, hok0⟩ := x0
  have s0 : SL w0 0 w0.heap.size v0 ws0 := hok0.sl
  have r0 := hok0.in64
  show Ret _ _ [v0] w0 _
  clear hok0
  have E : Since 0 0 w0 w0 := Since.refl 0 0 w0
  have hb := resBck_len ws0
  refine ret_enter Try.func3 rfl Try.ntmps3 rfl ?_
  focus
    refine c_seq ?_
    refine c_region ?_
    refine w_pure (y_assign rfl) rfl ?_
    refine w_nil ?_
    refine x_next ?_
    refine c_seq ?_
    refine c_region ?_
    refine w_pure (y_assign rfl) rfl ?_
    refine w_nil ?_
    refine x_next ?_
    refine c_seq ?_
    refine c_region ?_
    refine w_pure (y_move rfl) rfl ?_
    refine w_pure (y_move rfl) rfl ?_
    (refine w_call rfl rfl rfl (szCopyS_z) rfl ?_; rintro _ w16 ⟨z16, ⟨rfl, ⟨hp1_16, hx16⟩⟩⟩)
    have hz_hx16 := hx16.size
    replace s0 := s0.ext hx16
    replace E := E.trans hx16
    refine w_pure (y_assign rfl) rfl ?_
    refine w_nil ?_
    refine x_next ?_
    refine c_seq ?_
    refine c_seq ?_
    refine c_region ?_
    refine w_pure (y_move rfl) rfl ?_
    refine w_pure (y_lt rfl rfl) rfl ?_
    refine w_nil ?_
    refine x_next ?_
    (refine c_dec rfl (fun hc18 => ?_) (fun hc18 => ?_) <;> try (first | exact absurd rfl hc18 | contradiction | exact Bool.noConfusion (show false = true from hc18.symm.trans (by assumption)) | exact Bool.noConfusion (show true = false from hc18.symm.trans (by assumption)) | (exfalso; omega) | (exfalso; simp only [*, Bool.not_true, Bool.not_false, reduceCtorEq] at hc18; done)))
    refine c_seq ?_
    refine c_region ?_
    refine w_pure (y_assign rfl) rfl ?_
    refine w_nil ?_
    refine x_next ?_
    refine c_ret ?_
    refine x_then_ret ?_
    exact x_retv [_] rfl ⟨rfl, trivial⟩ ⟨rfl, E.go⟩
    refine c_skip ?_
    refine x_next ?_
    refine c_seq ?_
    refine c_region ?_
    refine w_pure (y_move rfl) rfl ?_
    (refine w_call rfl rfl rfl (toCopyS_c _) rfl ?_; rintro v21 w21 ⟨hp1_21, hx21⟩)
    have hz_hx21 := hx21.size
    replace s0 := s0.ext hx21
    replace E := E.trans hx21
    replace hp1_21 := hp1_21.fresh
    (refine w_call rfl rfl rfl (sBackCopies_c) rfl ?_; rintro _ w22 ⟨d22, ⟨rfl, ⟨hp1_22, hx22⟩⟩⟩)
    have hz_hx22 := hx22.size
    replace s0 := s0.ext hx22
    replace E := E.trans hx22
    replace hp1_21 := hp1_21.ext hx22
    replace hp1_22 := hp1_22.fresh
    refine w_pure (y_move rfl) rfl ?_
    refine w_pure (y_extract rfl rfl) rfl ?_
    refine w_pure (y_extract rfl rfl) rfl ?_
    refine w_pure (y_assign rfl) rfl ?_
    refine w_pure (y_assign rfl) rfl ?_
    refine w_nil ?_
    refine x_next ?_
    refine c_seq ?_
    refine c_region ?_
    refine w_pure (y_move rfl) rfl ?_
    (refine w_call rfl rfl rfl (toCopyS_c _) rfl ?_; rintro v26 w26 ⟨hp1_26, hx26⟩)
    have hz_hx26 := hx26.size
    replace s0 := s0.ext hx26
    replace E := E.trans hx26
    replace hp1_21 := hp1_21.ext hx26
    replace hp1_22 := hp1_22.ext hx26
    replace hp1_26 := hp1_26.fresh
    refine w_pure (y_assign rfl) rfl ?_
    refine w_nil ?_
    refine x_next ?_
    refine c_seq ?_
    refine c_region ?_
    refine w_pure (y_move rfl) rfl ?_
    (refine w_call rfl rfl rfl (iBackCopies_c) rfl ?_; rintro _ w29 ⟨d29, ⟨rfl, ⟨hp1_29, hx29⟩⟩⟩)
    have hz_hx29 := hx29.size
    replace s0 := s0.ext hx29
    replace E := E.trans hx29
    replace hp1_21 := hp1_21.ext hx29
    replace hp1_22 := hp1_22.ext hx29
    replace hp1_26 := hp1_26.ext hx29
    replace hp1_29 := hp1_29.fresh
    refine w_pure (y_move rfl) rfl ?_
    refine w_pure (y_extract rfl rfl) rfl ?_
    refine w_pure (y_extract rfl rfl) rfl ?_
    refine w_pure (y_assign rfl) rfl ?_
    refine w_pure (y_assign rfl) rfl ?_
    refine w_nil ?_
    refine x_next ?_
    refine c_seq ?_
    refine c_seq ?_
    refine c_region ?_
    refine w_pure (y_move rfl) rfl ?_
    refine w_pure (y_move rfl) rfl ?_
    refine w_val rfl rfl rfl (eqCopyS_c) rfl (fun w34 hx34 hz34 => ?_)
    have hz_hx34 := hx34.size
    replace s0 := s0.ext hx34
    replace E := E.trans hx34
    replace hp1_21 := hp1_21.ext hx34
    replace hp1_22 := hp1_22.ext hx34
    replace hp1_26 := hp1_26.ext hx34
    replace hp1_29 := hp1_29.ext hx34
    refine w_pure (y_not_dec rfl) rfl ?_
    refine w_pure (y_move rfl) rfl ?_
    (refine w_part_dec rfl rfl (fun hc37 => ?_) (fun hc37 => ?_) <;> try (first | exact absurd rfl hc37 | contradiction | exact Bool.noConfusion (show false = true from hc37.symm.trans (by assumption)) | exact Bool.noConfusion (show true = false from hc37.symm.trans (by assumption)) | (exfalso; omega) | (exfalso; simp only [*, Bool.not_true, Bool.not_false, reduceCtorEq] at hc37; done)))
    refine w_yes rfl rfl ?_
    refine w_pure (y_move rfl) rfl ?_
    refine w_yes rfl rfl ?_
    refine w_pure (y_move rfl) rfl ?_
    refine w_yes rfl rfl ?_
    refine w_pure (y_ne rfl rfl) rfl ?_
    refine w_pure (y_pick_f rfl rfl) rfl ?_
    refine w_nil ?_
    refine x_next ?_
    refine c_nsame rfl ?_
    refine c_skip ?_
    refine x_next ?_
    refine c_seq ?_
    refine c_seq ?_
    refine c_region ?_
    refine w_pure (y_move rfl) rfl ?_
    refine w_pure (y_move rfl) rfl ?_
    (refine w_call rfl rfl rfl (toCopyS_c _) rfl ?_; rintro v43 w43 ⟨hp1_43, hx43⟩)
    have hz_hx43 := hx43.size
    replace s0 := s0.ext hx43
    replace E := E.trans hx43
    replace hp1_21 := hp1_21.ext hx43
    replace hp1_22 := hp1_22.ext hx43
    replace hp1_26 := hp1_26.ext hx43
    replace hp1_29 := hp1_29.ext hx43
    replace hp1_43 := hp1_43.fresh
    refine w_val rfl rfl rfl (eqCopyS_c) rfl (fun w44 hx44 hz44 => ?_)
    have hz_hx44 := hx44.size
    replace s0 := s0.ext hx44
    replace E := E.trans hx44
    replace hp1_21 := hp1_21.ext hx44
    replace hp1_22 := hp1_22.ext hx44
    replace hp1_26 := hp1_26.ext hx44
    replace hp1_29 := hp1_29.ext hx44
    replace hp1_43 := hp1_43.ext hx44
    refine w_pure (y_not_dec rfl) rfl ?_
    refine w_nil ?_
    refine x_next ?_
    refine c_nsame rfl ?_
    refine c_skip ?_
    refine x_next ?_
    refine c_seq ?_
    refine c_region ?_
    refine w_pure (y_assign rfl) rfl ?_
    refine w_nil ?_
    refine x_next ?_
    refine c_seq ?_
    refine c_region ?_
    refine w_pure (y_move rfl) rfl ?_
    refine w_pure (y_move rfl) rfl ?_
    (refine w_call rfl rfl rfl (markCopyS_c _) rfl ?_; rintro _ w48 ⟨rfl, ⟨hp1_48, hx48⟩⟩)
    have hz_hx48 := hx48.size
    replace s0 := s0.chg hx48 (by omega)
    replace E := E.next hx48 (by omega)
    replace hp1_21 := hp1_21.chg hx48 (by omega)
    replace hp1_22 := hp1_22.chg hx48 (by omega)
    replace hp1_29 := hp1_29.chg hx48 (by omega)
    replace hp1_43 := hp1_43.chg hx48 (by omega)
    refine w_pure (y_assign rfl) rfl ?_
    refine w_nil ?_
    refine x_next ?_
    refine c_seq ?_
    refine c_seq ?_
    refine c_region ?_
    refine w_pure (y_move rfl) rfl ?_
    refine w_pure (y_lt rfl rfl) rfl ?_
    refine w_pure (y_move rfl) rfl ?_
    refine w_yes rfl rfl ?_
    refine w_pure (y_move rfl) rfl ?_
    refine w_yes rfl rfl ?_
    refine w_pure (y_move rfl) rfl ?_
    refine w_yes rfl rfl ?_
    refine w_val rfl rfl rfl (eqCopyS_c) rfl (fun w54 hx54 hz54 => ?_)
    have hz_hx54 := hx54.size
    replace hp1_48 := hp1_48.ext hx54
    replace s0 := s0.ext hx54
    replace E := E.trans hx54
    replace hp1_21 := hp1_21.ext hx54
    replace hp1_22 := hp1_22.ext hx54
    replace hp1_29 := hp1_29.ext hx54
    replace hp1_43 := hp1_43.ext hx54
    refine w_yes rfl rfl ?_
    refine w_pure (y_not_dec rfl) rfl ?_
    refine w_pure (y_pick_f rfl rfl) rfl ?_
    refine w_pure (y_move rfl) rfl ?_
    (refine w_part_dec rfl rfl (fun hc58 => ?_) (fun hc58 => ?_) <;> try (first | exact absurd rfl hc58 | contradiction | exact Bool.noConfusion (show false = true from hc58.symm.trans (by assumption)) | exact Bool.noConfusion (show true = false from hc58.symm.trans (by assumption)) | (exfalso; omega) | (exfalso; simp only [*, Bool.not_true, Bool.not_false, reduceCtorEq] at hc58; done)))
    refine w_yes rfl rfl ?_
    refine w_pure (y_move rfl) rfl ?_
    refine w_yes rfl rfl ?_
    refine w_pure (y_move rfl) rfl ?_
    refine w_yes rfl rfl ?_
    refine w_pure (y_ne rfl rfl) rfl ?_
    refine w_pure (y_pick_f rfl rfl) rfl ?_
    refine w_nil ?_
    refine x_next ?_
    refine c_nsame rfl ?_
    refine c_skip ?_
    refine x_next ?_
    refine c_seq ?_
    refine c_region ?_
    refine w_pure (y_assign rfl) rfl ?_
    refine w_nil ?_
    refine x_next ?_
    refine c_seq ?_
    refine c_region ?_
    refine w_pure (y_move rfl) rfl ?_
    refine w_pure (y_move rfl) rfl ?_
    (refine w_call rfl rfl rfl (markCopyS_c _) rfl ?_; rintro _ w64 ⟨rfl, ⟨hp1_64, hx64⟩⟩)
    have hz_hx64 := hx64.size
    replace hp1_48 := hp1_48.chg hx64 (by omega)
    replace s0 := s0.chg hx64 (by omega)
    replace E := E.next hx64 (by omega)
    replace hp1_21 := hp1_21.chg hx64 (by omega)
    replace hp1_22 := hp1_22.chg hx64 (by omega)
    replace hp1_43 := hp1_43.chg hx64 (by omega)
    refine w_pure (y_assign rfl) rfl ?_
    refine w_nil ?_
    refine x_next ?_
    refine c_seq ?_
    refine c_region ?_
    refine w_pure (y_assign rfl) rfl ?_
    refine w_nil ?_
    refine x_next ?_
    refine c_seq ?_
    refine c_region ?_
    refine w_pure (y_move rfl) rfl ?_
    refine w_pure (y_move rfl) rfl ?_
    refine w_val rfl rfl rfl (heldCopyS_c) rfl (fun w67 hx67 hz67 => ?_)
    have hz_hx67 := hx67.size
    replace hp1_64 := hp1_64.ext hx67
    replace hp1_48 := hp1_48.ext hx67
    replace s0 := s0.ext hx67
    replace E := E.trans hx67
    replace hp1_21 := hp1_21.ext hx67
    replace hp1_22 := hp1_22.ext hx67
    replace hp1_43 := hp1_43.ext hx67
    refine w_pure (y_assign rfl) rfl ?_
    refine w_nil ?_
    refine x_next ?_
    refine c_seq ?_
    refine c_seq ?_
    refine c_region ?_
    refine w_pure (y_move rfl) rfl ?_
    refine w_pure (y_lt rfl rfl) rfl ?_
    refine w_nil ?_
    refine x_next ?_
    refine c_false rfl ?_
    refine c_skip ?_
    refine x_next ?_
    refine c_seq ?_
    refine c_seq ?_
    refine c_region ?_
    refine w_pure (y_move rfl) rfl ?_
    refine w_pure (y_move rfl) rfl ?_
    refine w_pure (y_ne rfl rfl) rfl ?_
    refine w_nil ?_
    refine x_next ?_
    refine c_nsame rfl ?_
    refine c_skip ?_
    refine x_next ?_
    refine c_seq ?_
    refine c_region ?_
    refine w_pure (y_move rfl) rfl ?_
    (refine w_call rfl rfl rfl (toCopyS_c _) rfl ?_; rintro v75 w75 ⟨hp1_75, hx75⟩)
    have hz_hx75 := hx75.size
    replace hp1_64 := hp1_64.ext hx75
    replace hp1_48 := hp1_48.ext hx75
    replace s0 := s0.ext hx75
    replace E := E.trans hx75
    replace hp1_21 := hp1_21.ext hx75
    replace hp1_22 := hp1_22.ext hx75
    replace hp1_43 := hp1_43.ext hx75
    replace hp1_75 := hp1_75.fresh
    (refine w_call rfl rfl rfl (iBackCopies_c) rfl ?_; rintro _ w76 ⟨d76, ⟨rfl, ⟨hp1_76, hx76⟩⟩⟩)
    have hz_hx76 := hx76.size
    replace hp1_64 := hp1_64.ext hx76
    replace hp1_48 := hp1_48.ext hx76
    replace s0 := s0.ext hx76
    replace E := E.trans hx76
    replace hp1_21 := hp1_21.ext hx76
    replace hp1_22 := hp1_22.ext hx76
    replace hp1_43 := hp1_43.ext hx76
    replace hp1_75 := hp1_75.ext hx76
    replace hp1_76 := hp1_76.fresh
    refine w_pure (y_move rfl) rfl ?_
    refine w_pure (y_extract rfl rfl) rfl ?_
    refine w_pure (y_extract rfl rfl) rfl ?_
    refine w_pure (y_assign rfl) rfl ?_
    refine w_pure (y_assign rfl) rfl ?_
    refine w_nil ?_
    refine x_next ?_
    refine c_seq ?_
    refine c_seq ?_
    refine c_region ?_
    refine w_pure (y_move rfl) rfl ?_
    refine w_pure (y_move rfl) rfl ?_
    refine w_val rfl rfl rfl (eqCopyS_c) rfl (fun w81 hx81 hz81 => ?_)
    have hz_hx81 := hx81.size
    replace hp1_64 := hp1_64.ext hx81
    replace hp1_48 := hp1_48.ext hx81
    replace s0 := s0.ext hx81
    replace E := E.trans hx81
    replace hp1_21 := hp1_21.ext hx81
    replace hp1_22 := hp1_22.ext hx81
    replace hp1_43 := hp1_43.ext hx81
    replace hp1_75 := hp1_75.ext hx81
    replace hp1_76 := hp1_76.ext hx81
    refine w_pure (y_not_dec rfl) rfl ?_
    refine w_pure (y_move rfl) rfl ?_
    (refine w_part_dec rfl rfl (fun hc84 => ?_) (fun hc84 => ?_) <;> try (first | exact absurd rfl hc84 | contradiction | exact Bool.noConfusion (show false = true from hc84.symm.trans (by assumption)) | exact Bool.noConfusion (show true = false from hc84.symm.trans (by assumption)) | (exfalso; omega) | (exfalso; simp only [*, Bool.not_true, Bool.not_false, reduceCtorEq] at hc84; done)))
    refine w_yes rfl rfl ?_
    refine w_pure (y_move rfl) rfl ?_
    refine w_yes rfl rfl ?_
    refine w_pure (y_move rfl) rfl ?_
    refine w_yes rfl rfl ?_
    refine w_pure (y_ne rfl rfl) rfl ?_
    refine w_pure (y_pick_f rfl rfl) rfl ?_
    refine w_nil ?_
    refine x_next ?_
    refine c_nsame rfl ?_
    refine c_skip ?_
    refine x_next ?_
    refine c_seq ?_
    refine c_region ?_
    refine w_pure (y_assign rfl) rfl ?_
    refine w_nil ?_
    refine x_next ?_
    refine c_seq ?_
    refine c_region ?_
    refine w_pure (y_move rfl) rfl ?_
    refine w_pure (y_move rfl) rfl ?_
    refine w_val rfl rfl rfl (heldCopyS_c) rfl (fun w90 hx90 hz90 => ?_)
    have hz_hx90 := hx90.size
    replace hp1_64 := hp1_64.ext hx90
    replace hp1_48 := hp1_48.ext hx90
    replace s0 := s0.ext hx90
    replace E := E.trans hx90
    replace hp1_21 := hp1_21.ext hx90
    replace hp1_22 := hp1_22.ext hx90
    replace hp1_43 := hp1_43.ext hx90
    replace hp1_75 := hp1_75.ext hx90
    replace hp1_76 := hp1_76.ext hx90
    refine w_pure (y_assign rfl) rfl ?_
    refine w_nil ?_
    refine x_next ?_
    refine c_seq ?_
    refine c_seq ?_
    refine c_region ?_
    refine w_pure (y_move rfl) rfl ?_
    refine w_pure (y_lt rfl rfl) rfl ?_
    refine w_nil ?_
    refine x_next ?_
    refine c_false rfl ?_
    refine c_skip ?_
    refine x_next ?_
    refine c_seq ?_
    refine c_seq ?_
    refine c_region ?_
    refine w_pure (y_move rfl) rfl ?_
    refine w_pure (y_move rfl) rfl ?_
    refine w_pure (y_ne rfl rfl) rfl ?_
    refine w_nil ?_
    refine x_next ?_
    refine c_nsame rfl ?_
    refine c_skip ?_
    refine x_next ?_
    refine c_seq ?_
    refine c_region ?_
    refine w_pure (y_assign rfl) rfl ?_
    refine w_nil ?_
    refine x_next ?_
    refine c_ret ?_
    exact x_retv [_] rfl ⟨rfl, trivial⟩ ⟨rfl, E.go⟩
end Go.Proofs.Ytihnhelkfiaimaa

/- The walks of the laws on decks that are punched by masters among them. -/
import Derived.Test.YtkkgkoibabbjoaaRepC
import Derived.Test.YtkkgkoibabbjoaaDkO
namespace Go.Proofs.Ytkkgkoibabbjoaa
open Go Go.Gw
set_option linter.unusedVariables false
set_option linter.unusedSimpArgs false
theorem lInterspersedGang (w0 : World) (x0 : { x : ODk // x.ok w0 }) (a1 : Int) (i1 : In64 a1) (x2 : { x : OPs // x.ok w0 }) : Ret Try.prog 5 [x0.1.v, .int .i64 a1, x2.1.v] w0 fun u w' => u = .bool true ∧ Ext w0 w' := by
  obtain ⟨⟨v0, svs0, xss0⟩, hok0⟩ := x0
  have s0 : SLL w0 0 w0.heap.size svs0 v0 xss0 := hok0.sll
  have r0 := hok0.in64
  obtain ⟨⟨v2, ws2⟩, hok2⟩ := x2
  have s2 : SL w0 0 w0.heap.size v2 ws2 := hok2.sl
  have r2 := hok2.in64
  show Ret _ _ [v0, .int .i64 a1, v2] w0 _
  clear hok0 hok2
  have E : Since 0 0 w0 w0 := Since.refl 0 0 w0
  have hb := resInt_bd xss0 ws2 a1
  refine ret_enter Try.func5 rfl Try.ntmps5 rfl ?_
  focus
    refine c_seq ?_
    refine c_region ?_
    refine w_pure (y_assign rfl) rfl ?_
    refine w_nil ?_
    refine x_next ?_
    refine c_seq ?_
    refine c_region ?_
    refine w_pure (y_assign rfl) rfl ?_
    refine w_nil ?_
    refine x_next ?_
    refine c_seq ?_
    refine c_region ?_
    refine w_pure (y_move rfl) rfl ?_
    refine w_pure (y_move rfl) rfl ?_
    (refine w_call rfl rfl rfl (szCardS_z) rfl ?_; rintro _ w21 ⟨z21, ⟨rfl, ⟨hp1_21, hx21⟩⟩⟩)
    have hz_hx21 := hx21.size
    replace s0 := s0.ext hx21
    replace s2 := s2.ext hx21
    replace E := E.trans hx21
    refine w_pure (y_assign rfl) rfl ?_
    refine w_nil ?_
    refine x_next ?_
    refine c_seq ?_
    refine c_seq ?_
    refine c_region ?_
    refine w_pure (y_move rfl) rfl ?_
    refine w_pure (y_lt rfl rfl) rfl ?_
    refine w_nil ?_
    refine x_next ?_
    (refine c_dec rfl (fun hc23 => ?_) (fun hc23 => ?_) <;> try (first | exact absurd rfl hc23 | contradiction | exact Bool.noConfusion (show false = true from hc23.symm.trans (by assumption)) | exact Bool.noConfusion (show true = false from hc23.symm.trans (by assumption)) | (exfalso; omega) | (exfalso; simp only [*, Bool.not_true, Bool.not_false, reduceCtorEq] at hc23; done)))
    refine c_seq ?_
    refine c_region ?_
    refine w_pure (y_assign rfl) rfl ?_
    refine w_nil ?_
    refine x_next ?_
    refine c_ret ?_
    refine x_then_ret ?_
    exact x_retv [_] rfl ⟨rfl, trivial⟩ ⟨rfl, E.go⟩
    refine c_skip ?_
    refine x_next ?_
    refine c_seq ?_
    refine c_region ?_
    refine w_pure (y_move rfl) rfl ?_
    refine w_pure (y_move rfl) rfl ?_
    (refine w_call rfl rfl rfl (szCopyS_z) rfl ?_; rintro _ w26 ⟨z26, ⟨rfl, ⟨hp1_26, hx26⟩⟩⟩)
    have hz_hx26 := hx26.size
    replace s0 := s0.ext hx26
    replace s2 := s2.ext hx26
    replace E := E.trans hx26
    refine w_pure (y_assign rfl) rfl ?_
    refine w_nil ?_
    refine x_next ?_
    refine c_seq ?_
    refine c_seq ?_
    refine c_region ?_
    refine w_pure (y_move rfl) rfl ?_
    refine w_pure (y_lt rfl rfl) rfl ?_
    refine w_nil ?_
    refine x_next ?_
    (refine c_dec rfl (fun hc28 => ?_) (fun hc28 => ?_) <;> try (first | exact absurd rfl hc28 | contradiction | exact Bool.noConfusion (show false = true from hc28.symm.trans (by assumption)) | exact Bool.noConfusion (show true = false from hc28.symm.trans (by assumption)) | (exfalso; omega) | (exfalso; simp only [*, Bool.not_true, Bool.not_false, reduceCtorEq] at hc28; done)))
    refine c_seq ?_
    refine c_region ?_
    refine w_pure (y_assign rfl) rfl ?_
    refine w_nil ?_
    refine x_next ?_
    refine c_ret ?_
    refine x_then_ret ?_
    exact x_retv [_] rfl ⟨rfl, trivial⟩ ⟨rfl, E.go⟩
    refine c_skip ?_
    refine x_next ?_
    refine c_seq ?_
    refine c_region ?_
    refine w_pure (y_move rfl) rfl ?_
    (refine w_call rfl rfl rfl (toCardS_c) rfl ?_; rintro v31 w31 ⟨sus31, ⟨hp1_31, hx31⟩⟩)
    have hz_hx31 := hx31.size
    replace s0 := s0.ext hx31
    replace s2 := s2.ext hx31
    replace E := E.trans hx31
    refine w_pure (y_move rfl) rfl ?_
    refine w_pure (y_move rfl) rfl ?_
    (refine w_call rfl rfl rfl (toCopyS_c _) rfl ?_; rintro v34 w34 ⟨hp1_34, hx34⟩)
    have hz_hx34 := hx34.size
    replace hp1_31 := hp1_31.ext hx34
    replace s0 := s0.ext hx34
    replace s2 := s2.ext hx34
    replace E := E.trans hx34
    replace hp1_34 := hp1_34.fresh
    (refine w_call rfl rfl rfl (sInterspersedGang_c _) rfl ?_; rintro _ w35 ⟨d35, ⟨sus35, ⟨rfl, ⟨hp1_35, hx35⟩⟩⟩⟩)
    have hz_hx35 := hx35.size
    replace hp1_31 := hp1_31.ext hx35
    replace s0 := s0.ext hx35
    replace s2 := s2.ext hx35
    replace E := E.trans hx35
    replace hp1_34 := hp1_34.ext hx35
    refine w_pure (y_move rfl) rfl ?_
    refine w_pure (y_extract rfl rfl) rfl ?_
    refine w_pure (y_extract rfl rfl) rfl ?_
    refine w_pure (y_assign rfl) rfl ?_
    refine w_pure (y_assign rfl) rfl ?_
    refine w_nil ?_
    refine x_next ?_
    refine c_seq ?_
    refine c_region ?_
    refine w_pure (y_move rfl) rfl ?_
    (refine w_call rfl rfl rfl (toCardS_c) rfl ?_; rintro v39 w39 ⟨sus39, ⟨hp1_39, hx39⟩⟩)
    have hz_hx39 := hx39.size
    replace hp1_35 := hp1_35.ext hx39
    replace hp1_31 := hp1_31.ext hx39
    replace s0 := s0.ext hx39
    replace s2 := s2.ext hx39
    replace E := E.trans hx39
    replace hp1_34 := hp1_34.ext hx39
    refine w_pure (y_assign rfl) rfl ?_
    refine w_nil ?_
    refine x_next ?_
    refine c_seq ?_
    refine c_region ?_
    refine w_pure (y_move rfl) rfl ?_
    (refine w_call rfl rfl rfl (toCopyS_c _) rfl ?_; rintro v41 w41 ⟨hp1_41, hx41⟩)
    have hz_hx41 := hx41.size
    replace hp1_39 := hp1_39.ext hx41
    replace hp1_35 := hp1_35.ext hx41
    replace hp1_31 := hp1_31.ext hx41
    replace s0 := s0.ext hx41
    replace s2 := s2.ext hx41
    replace E := E.trans hx41
    replace hp1_34 := hp1_34.ext hx41
    replace hp1_41 := hp1_41.fresh
    refine w_pure (y_assign rfl) rfl ?_
    refine w_nil ?_
    refine x_next ?_
    refine c_seq ?_
    refine c_region ?_
    refine w_pure (y_move rfl) rfl ?_
    refine w_pure (y_move rfl) rfl ?_
    refine w_pure (y_move rfl) rfl ?_
    (refine w_call rfl rfl rfl (iInterspersedGang_c _) rfl ?_; rintro _ w46 ⟨d46, ⟨sus46, ⟨rfl, ⟨hp1_46, hx46⟩⟩⟩⟩)
    have hz_hx46 := hx46.size
    replace hp1_39 := hp1_39.ext hx46
    replace hp1_35 := hp1_35.ext hx46
    replace hp1_31 := hp1_31.ext hx46
    replace s0 := s0.ext hx46
    replace s2 := s2.ext hx46
    replace E := E.trans hx46
    replace hp1_34 := hp1_34.ext hx46
    replace hp1_41 := hp1_41.ext hx46
    refine w_pure (y_move rfl) rfl ?_
    refine w_pure (y_extract rfl rfl) rfl ?_
    refine w_pure (y_extract rfl rfl) rfl ?_
    refine w_pure (y_assign rfl) rfl ?_
    refine w_pure (y_assign rfl) rfl ?_
    refine w_nil ?_
    refine x_next ?_
    refine c_seq ?_
    refine c_seq ?_
    refine c_region ?_
    refine w_pure (y_move rfl) rfl ?_
    refine w_pure (y_move rfl) rfl ?_
    refine w_val rfl rfl rfl (eqCardS_c) rfl (fun w51 hx51 hz51 => ?_)
    have hz_hx51 := hx51.size
    replace hp1_46 := hp1_46.ext hx51
    replace hp1_39 := hp1_39.ext hx51
    replace hp1_35 := hp1_35.ext hx51
    replace hp1_31 := hp1_31.ext hx51
    replace s0 := s0.ext hx51
    replace s2 := s2.ext hx51
    replace E := E.trans hx51
    replace hp1_34 := hp1_34.ext hx51
    replace hp1_41 := hp1_41.ext hx51
    refine w_pure (y_not_dec rfl) rfl ?_
    refine w_pure (y_move rfl) rfl ?_
    (refine w_part_dec rfl rfl (fun hc54 => ?_) (fun hc54 => ?_) <;> try (first | exact absurd rfl hc54 | contradiction | exact Bool.noConfusion (show false = true from hc54.symm.trans (by assumption)) | exact Bool.noConfusion (show true = false from hc54.symm.trans (by assumption)) | (exfalso; omega) | (exfalso; simp only [*, Bool.not_true, Bool.not_false, reduceCtorEq] at hc54; done)))
    refine w_yes rfl rfl ?_
    refine w_pure (y_move rfl) rfl ?_
    refine w_yes rfl rfl ?_
    refine w_pure (y_move rfl) rfl ?_
    refine w_yes rfl rfl ?_
    refine w_pure (y_ne rfl rfl) rfl ?_
    refine w_pure (y_pick_f rfl rfl) rfl ?_
    refine w_nil ?_
    refine x_next ?_
    refine c_nsame rfl ?_
    refine c_skip ?_
    refine x_next ?_
    refine c_seq ?_
    refine c_seq ?_
    refine c_region ?_
    refine w_pure (y_move rfl) rfl ?_
    refine w_pure (y_move rfl) rfl ?_
    (refine w_call rfl rfl rfl (toCardS_c) rfl ?_; rintro v60 w60 ⟨sus60, ⟨hp1_60, hx60⟩⟩)
    have hz_hx60 := hx60.size
    replace hp1_46 := hp1_46.ext hx60
    replace hp1_39 := hp1_39.ext hx60
    replace hp1_35 := hp1_35.ext hx60
    replace hp1_31 := hp1_31.ext hx60
    replace s0 := s0.ext hx60
    replace s2 := s2.ext hx60
    replace E := E.trans hx60
    replace hp1_34 := hp1_34.ext hx60
    replace hp1_41 := hp1_41.ext hx60
    refine w_val rfl rfl rfl (eqCardS_c) rfl (fun w61 hx61 hz61 => ?_)
    have hz_hx61 := hx61.size
    replace hp1_60 := hp1_60.ext hx61
    replace hp1_46 := hp1_46.ext hx61
    replace hp1_39 := hp1_39.ext hx61
    replace hp1_35 := hp1_35.ext hx61
    replace hp1_31 := hp1_31.ext hx61
    replace s0 := s0.ext hx61
    replace s2 := s2.ext hx61
    replace E := E.trans hx61
    replace hp1_34 := hp1_34.ext hx61
    replace hp1_41 := hp1_41.ext hx61
    refine w_pure (y_not_dec rfl) rfl ?_
    refine w_nil ?_
    refine x_next ?_
    refine c_nsame rfl ?_
    refine c_skip ?_
    refine x_next ?_
    refine c_seq ?_
    refine c_seq ?_
    refine c_region ?_
    refine w_pure (y_move rfl) rfl ?_
    refine w_pure (y_move rfl) rfl ?_
    (refine w_call rfl rfl rfl (toCopyS_c _) rfl ?_; rintro v65 w65 ⟨hp1_65, hx65⟩)
    have hz_hx65 := hx65.size
    replace hp1_60 := hp1_60.ext hx65
    replace hp1_46 := hp1_46.ext hx65
    replace hp1_39 := hp1_39.ext hx65
    replace hp1_35 := hp1_35.ext hx65
    replace hp1_31 := hp1_31.ext hx65
    replace s0 := s0.ext hx65
    replace s2 := s2.ext hx65
    replace E := E.trans hx65
    replace hp1_34 := hp1_34.ext hx65
    replace hp1_41 := hp1_41.ext hx65
    replace hp1_65 := hp1_65.fresh
    refine w_val rfl rfl rfl (eqCopyS_c) rfl (fun w66 hx66 hz66 => ?_)
    have hz_hx66 := hx66.size
    replace hp1_60 := hp1_60.ext hx66
    replace hp1_46 := hp1_46.ext hx66
    replace hp1_39 := hp1_39.ext hx66
    replace hp1_35 := hp1_35.ext hx66
    replace hp1_31 := hp1_31.ext hx66
    replace s0 := s0.ext hx66
    replace s2 := s2.ext hx66
    replace E := E.trans hx66
    replace hp1_34 := hp1_34.ext hx66
    replace hp1_41 := hp1_41.ext hx66
    replace hp1_65 := hp1_65.ext hx66
    refine w_pure (y_not_dec rfl) rfl ?_
    refine w_nil ?_
    refine x_next ?_
    refine c_nsame rfl ?_
    refine c_skip ?_
    refine x_next ?_
    refine c_seq ?_
    refine c_region ?_
    refine w_pure (y_assign rfl) rfl ?_
    refine w_nil ?_
    refine x_next ?_
    refine c_seq ?_
    refine c_region ?_
    refine w_pure (y_move rfl) rfl ?_
    refine w_pure (y_move rfl) rfl ?_
    (refine w_call rfl rfl rfl (markCardS_c) rfl ?_; rintro _ w70 ⟨rfl, ⟨hp1_70, hx70⟩⟩)
    have hz_hx70 := hx70.size
    replace hp1_60 := hp1_60.chg hx70 (by omega)
    replace hp1_46 := hp1_46.chg hx70 (by omega)
    replace hp1_35 := hp1_35.chg hx70 (by omega)
    replace hp1_31 := hp1_31.chg hx70 (by omega)
    replace s0 := s0.chg hx70 (by omega)
    replace s2 := s2.chg hx70 (by omega)
    replace E := E.next hx70 (by omega)
    replace hp1_34 := hp1_34.chg hx70 (by omega)
    replace hp1_41 := hp1_41.chg hx70 (by omega)
    replace hp1_65 := hp1_65.chg hx70 (by omega)
    refine w_pure (y_assign rfl) rfl ?_
    refine w_nil ?_
    refine x_next ?_
    refine c_seq ?_
    refine c_region ?_
    refine w_pure (y_move rfl) rfl ?_
    refine w_pure (y_move rfl) rfl ?_
    (refine w_call rfl rfl rfl (markCopyS_c _) rfl ?_; rintro _ w73 ⟨rfl, ⟨hp1_73, hx73⟩⟩)
    have hz_hx73 := hx73.size
    replace hp1_70 := hp1_70.chg hx73 (by omega)
    replace hp1_60 := hp1_60.chg hx73 (by omega)
    replace hp1_46 := hp1_46.chg hx73 (by omega)
    replace hp1_35 := hp1_35.chg hx73 (by omega)
    replace hp1_31 := hp1_31.chg hx73 (by omega)
    replace s0 := s0.chg hx73 (by omega)
    replace s2 := s2.chg hx73 (by omega)
    replace E := E.next hx73 (by omega)
    replace hp1_34 := hp1_34.chg hx73 (by omega)
    replace hp1_65 := hp1_65.chg hx73 (by omega)
    refine w_pure (y_assign rfl) rfl ?_
    refine w_nil ?_
    refine x_next ?_
    refine c_seq ?_
    refine c_seq ?_
    refine c_region ?_
    refine w_pure (y_move rfl) rfl ?_
    refine w_pure (y_lt rfl rfl) rfl ?_
    refine w_pure (y_move rfl) rfl ?_
    refine w_yes rfl rfl ?_
    refine w_pure (y_move rfl) rfl ?_
    refine w_yes rfl rfl ?_
    refine w_pure (y_move rfl) rfl ?_
    refine w_yes rfl rfl ?_
    refine w_val rfl rfl rfl (eqCardS_c) rfl (fun w79 hx79 hz79 => ?_)
    have hz_hx79 := hx79.size
    replace hp1_73 := hp1_73.ext hx79
    replace hp1_70 := hp1_70.ext hx79
    replace hp1_60 := hp1_60.ext hx79
    replace hp1_46 := hp1_46.ext hx79
    replace hp1_35 := hp1_35.ext hx79
    replace hp1_31 := hp1_31.ext hx79
    replace s0 := s0.ext hx79
    replace s2 := s2.ext hx79
    replace E := E.trans hx79
    replace hp1_34 := hp1_34.ext hx79
    replace hp1_65 := hp1_65.ext hx79
    refine w_yes rfl rfl ?_
    refine w_pure (y_not_dec rfl) rfl ?_
    refine w_pure (y_pick_f rfl rfl) rfl ?_
    refine w_pure (y_move rfl) rfl ?_
    (refine w_part_dec rfl rfl (fun hc83 => ?_) (fun hc83 => ?_) <;> try (first | exact absurd rfl hc83 | contradiction | exact Bool.noConfusion (show false = true from hc83.symm.trans (by assumption)) | exact Bool.noConfusion (show true = false from hc83.symm.trans (by assumption)) | (exfalso; omega) | (exfalso; simp only [*, Bool.not_true, Bool.not_false, reduceCtorEq] at hc83; done)))
    refine w_yes rfl rfl ?_
    refine w_pure (y_move rfl) rfl ?_
    refine w_yes rfl rfl ?_
    refine w_pure (y_move rfl) rfl ?_
    refine w_yes rfl rfl ?_
    refine w_pure (y_ne rfl rfl) rfl ?_
    refine w_pure (y_pick_f rfl rfl) rfl ?_
    refine w_nil ?_
    refine x_next ?_
    refine c_nsame rfl ?_
    refine c_skip ?_
    refine x_next ?_
    refine c_seq ?_
    refine c_region ?_
    refine w_pure (y_assign rfl) rfl ?_
    refine w_nil ?_
    refine x_next ?_
    refine c_seq ?_
    refine c_region ?_
    refine w_pure (y_move rfl) rfl ?_
    refine w_pure (y_move rfl) rfl ?_
    (refine w_call rfl rfl rfl (markCardS_c) rfl ?_; rintro _ w89 ⟨rfl, ⟨hp1_89, hx89⟩⟩)
    have hz_hx89 := hx89.size
    replace hp1_73 := hp1_73.chg hx89 (by omega)
    replace hp1_70 := hp1_70.chg hx89 (by omega)
    replace hp1_60 := hp1_60.chg hx89 (by omega)
    replace hp1_35 := hp1_35.chg hx89 (by omega)
    replace hp1_31 := hp1_31.chg hx89 (by omega)
    replace s0 := s0.chg hx89 (by omega)
    replace s2 := s2.chg hx89 (by omega)
    replace E := E.next hx89 (by omega)
    replace hp1_34 := hp1_34.chg hx89 (by omega)
    replace hp1_65 := hp1_65.chg hx89 (by omega)
    refine w_pure (y_assign rfl) rfl ?_
    refine w_nil ?_
    refine x_next ?_
    refine c_seq ?_
    refine c_region ?_
    refine w_pure (y_assign rfl) rfl ?_
    refine w_nil ?_
    refine x_next ?_
    refine c_seq ?_
    refine c_region ?_
    refine w_pure (y_move rfl) rfl ?_
    refine w_pure (y_move rfl) rfl ?_
    refine w_val rfl rfl rfl (heldCardS_c) rfl (fun w92 hx92 hz92 => ?_)
    have hz_hx92 := hx92.size
    replace hp1_89 := hp1_89.ext hx92
    replace hp1_73 := hp1_73.ext hx92
    replace hp1_70 := hp1_70.ext hx92
    replace hp1_60 := hp1_60.ext hx92
    replace hp1_35 := hp1_35.ext hx92
    replace hp1_31 := hp1_31.ext hx92
    replace s0 := s0.ext hx92
    replace s2 := s2.ext hx92
    replace E := E.trans hx92
    replace hp1_34 := hp1_34.ext hx92
    replace hp1_65 := hp1_65.ext hx92
    refine w_pure (y_assign rfl) rfl ?_
    refine w_nil ?_
    refine x_next ?_
    refine c_seq ?_
    refine c_seq ?_
    refine c_region ?_
    refine w_pure (y_move rfl) rfl ?_
    refine w_pure (y_lt rfl rfl) rfl ?_
    refine w_nil ?_
    refine x_next ?_
    refine c_false rfl ?_
    refine c_skip ?_
    refine x_next ?_
    refine c_seq ?_
    refine c_seq ?_
    refine c_region ?_
    refine w_pure (y_move rfl) rfl ?_
    refine w_pure (y_move rfl) rfl ?_
    refine w_pure (y_ne rfl rfl) rfl ?_
    refine w_nil ?_
    refine x_next ?_
    refine c_nsame rfl ?_
    refine c_skip ?_
    refine x_next ?_
    refine c_seq ?_
    refine c_region ?_
    refine w_pure (y_move rfl) rfl ?_
    (refine w_call rfl rfl rfl (toCardS_c) rfl ?_; rintro v100 w100 ⟨sus100, ⟨hp1_100, hx100⟩⟩)
    have hz_hx100 := hx100.size
    replace hp1_89 := hp1_89.ext hx100
    replace hp1_73 := hp1_73.ext hx100
    replace hp1_70 := hp1_70.ext hx100
    replace hp1_60 := hp1_60.ext hx100
    replace hp1_35 := hp1_35.ext hx100
    replace hp1_31 := hp1_31.ext hx100
    replace s0 := s0.ext hx100
    replace s2 := s2.ext hx100
    replace E := E.trans hx100
    replace hp1_34 := hp1_34.ext hx100
    replace hp1_65 := hp1_65.ext hx100
    refine w_pure (y_move rfl) rfl ?_
    refine w_pure (y_move rfl) rfl ?_
    (refine w_call rfl rfl rfl (toCopyS_c _) rfl ?_; rintro v103 w103 ⟨hp1_103, hx103⟩)
    have hz_hx103 := hx103.size
    replace hp1_100 := hp1_100.ext hx103
    replace hp1_89 := hp1_89.ext hx103
    replace hp1_73 := hp1_73.ext hx103
    replace hp1_70 := hp1_70.ext hx103
    replace hp1_60 := hp1_60.ext hx103
    replace hp1_35 := hp1_35.ext hx103
    replace hp1_31 := hp1_31.ext hx103
    replace s0 := s0.ext hx103
    replace s2 := s2.ext hx103
    replace E := E.trans hx103
    replace hp1_34 := hp1_34.ext hx103
    replace hp1_65 := hp1_65.ext hx103
    replace hp1_103 := hp1_103.fresh
    (refine w_call rfl rfl rfl (iInterspersedGang_c _) rfl ?_; rintro _ w104 ⟨d104, ⟨sus104, ⟨rfl, ⟨hp1_104, hx104⟩⟩⟩⟩)
    have hz_hx104 := hx104.size
    replace hp1_100 := hp1_100.ext hx104
    replace hp1_89 := hp1_89.ext hx104
    replace hp1_73 := hp1_73.ext hx104
    replace hp1_70 := hp1_70.ext hx104
    replace hp1_60 := hp1_60.ext hx104
    replace hp1_35 := hp1_35.ext hx104
    replace hp1_31 := hp1_31.ext hx104
    replace s0 := s0.ext hx104
    replace s2 := s2.ext hx104
    replace E := E.trans hx104
    replace hp1_34 := hp1_34.ext hx104
    replace hp1_65 := hp1_65.ext hx104
    replace hp1_103 := hp1_103.ext hx104
    refine w_pure (y_move rfl) rfl ?_
    refine w_pure (y_extract rfl rfl) rfl ?_
    refine w_pure (y_extract rfl rfl) rfl ?_
    refine w_pure (y_assign rfl) rfl ?_
    refine w_pure (y_assign rfl) rfl ?_
    refine w_nil ?_
    refine x_next ?_
    refine c_seq ?_
    refine c_seq ?_
    refine c_region ?_
    refine w_pure (y_move rfl) rfl ?_
    refine w_pure (y_move rfl) rfl ?_
    refine w_val rfl rfl rfl (eqCardS_c) rfl (fun w109 hx109 hz109 => ?_)
    have hz_hx109 := hx109.size
    replace hp1_104 := hp1_104.ext hx109
    replace hp1_100 := hp1_100.ext hx109
    replace hp1_89 := hp1_89.ext hx109
    replace hp1_73 := hp1_73.ext hx109
    replace hp1_70 := hp1_70.ext hx109
    replace hp1_60 := hp1_60.ext hx109
    replace hp1_35 := hp1_35.ext hx109
    replace hp1_31 := hp1_31.ext hx109
    replace s0 := s0.ext hx109
    replace s2 := s2.ext hx109
    replace E := E.trans hx109
    replace hp1_34 := hp1_34.ext hx109
    replace hp1_65 := hp1_65.ext hx109
    replace hp1_103 := hp1_103.ext hx109
    refine w_pure (y_not_dec rfl) rfl ?_
    refine w_pure (y_move rfl) rfl ?_
    (refine w_part_dec rfl rfl (fun hc112 => ?_) (fun hc112 => ?_) <;> try (first | exact absurd rfl hc112 | contradiction | exact Bool.noConfusion (show false = true from hc112.symm.trans (by assumption)) | exact Bool.noConfusion (show true = false from hc112.symm.trans (by assumption)) | (exfalso; omega) | (exfalso; simp only [*, Bool.not_true, Bool.not_false, reduceCtorEq] at hc112; done)))
    refine w_yes rfl rfl ?_
    refine w_pure (y_move rfl) rfl ?_
    refine w_yes rfl rfl ?_
    refine w_pure (y_move rfl) rfl ?_
    refine w_yes rfl rfl ?_
    refine w_pure (y_ne rfl rfl) rfl ?_
    refine w_pure (y_pick_f rfl rfl) rfl ?_
    refine w_nil ?_
    refine x_next ?_
    refine c_nsame rfl ?_
    refine c_skip ?_
    refine x_next ?_
    refine c_seq ?_
    refine c_region ?_
    refine w_pure (y_assign rfl) rfl ?_
    refine w_nil ?_
    refine x_next ?_
    refine c_seq ?_
    refine c_region ?_
    refine w_pure (y_move rfl) rfl ?_
    refine w_pure (y_move rfl) rfl ?_
    refine w_val rfl rfl rfl (heldCardS_c) rfl (fun w118 hx118 hz118 => ?_)
    have hz_hx118 := hx118.size
    replace hp1_104 := hp1_104.ext hx118
    replace hp1_100 := hp1_100.ext hx118
    replace hp1_89 := hp1_89.ext hx118
    replace hp1_73 := hp1_73.ext hx118
    replace hp1_70 := hp1_70.ext hx118
    replace hp1_60 := hp1_60.ext hx118
    replace hp1_35 := hp1_35.ext hx118
    replace hp1_31 := hp1_31.ext hx118
    replace s0 := s0.ext hx118
    replace s2 := s2.ext hx118
    replace E := E.trans hx118
    replace hp1_34 := hp1_34.ext hx118
    replace hp1_65 := hp1_65.ext hx118
    replace hp1_103 := hp1_103.ext hx118
    refine w_pure (y_assign rfl) rfl ?_
    refine w_nil ?_
    refine x_next ?_
    refine c_seq ?_
    refine c_seq ?_
    refine c_region ?_
    refine w_pure (y_move rfl) rfl ?_
    refine w_pure (y_lt rfl rfl) rfl ?_
    refine w_nil ?_
    refine x_next ?_
    refine c_false rfl ?_
    refine c_skip ?_
    refine x_next ?_
    refine c_seq ?_
    refine c_seq ?_
    refine c_region ?_
    refine w_pure (y_move rfl) rfl ?_
    refine w_pure (y_move rfl) rfl ?_
    refine w_pure (y_ne rfl rfl) rfl ?_
    refine w_nil ?_
    refine x_next ?_
    refine c_nsame rfl ?_
    refine c_skip ?_
    refine x_next ?_
    refine c_seq ?_
    refine c_region ?_
    refine w_pure (y_assign rfl) rfl ?_
    refine w_nil ?_
    refine x_next ?_
    refine c_ret ?_
    exact x_retv [_] rfl ⟨rfl, trivial⟩ ⟨rfl, E.go⟩
end Go.Proofs.Ytkkgkoibabbjoaa

/- The walk of the law on counters that are set. -/
import Derived.Test.YtcpglpegjdpliaaDoorSetC
import Derived.Test.YtcpglpegjdpliaaDoorOpen
namespace Go.Proofs.YtcpglpegjdpliaaDoor
open Go Go.Gw
set_option linter.unusedVariables false
set_option linter.unusedSimpArgs false
theorem lSetCounter (w0 : World) (hT : Tab w0.heap.size w0) (a0 : Int) (i0 : In64 a0) (a1 : Int) (i1 : In64 a1) : Ret Tryd.prog 3 [.int .i64 a0, .int .i64 a1] w0 fun u w' => u = .bool true ∧ Ext w0 w' := by
  show Ret _ _ [.int .i64 a0, .int .i64 a1] w0 _
  have E : Since 0 0 w0 w0 := Since.refl 0 0 w0
  have hb := resSet_len a0 a1
  refine ret_enter Tryd.func3 rfl Tryd.ntmps3 rfl ?_
  focus
    refine c_seq ?_
    refine c_region ?_
    refine w_pure (y_assign rfl) rfl ?_
    refine w_nil ?_
    refine x_next ?_
    refine c_seq ?_
    refine c_region ?_
    refine w_pure (y_move rfl) rfl ?_
    refine w_pure (y_move rfl) rfl ?_
    (refine w_call rfl rfl rfl (sSetCounter_c _ _) rfl ?_; rintro _ w16 ⟨d16, ⟨rfl, ⟨hp1_16, hx16⟩⟩⟩)
    have hz_hx16 := hx16.size
    replace hT := hT.ext hx16
    replace E := E.trans hx16
    replace hp1_16 := hp1_16.fresh
    refine w_pure (y_move rfl) rfl ?_
    refine w_pure (y_extract rfl rfl) rfl ?_
    refine w_pure (y_extract rfl rfl) rfl ?_
    refine w_alloc (k := fun b5 w5 hb5 hx5 hl5 hs5 => ?_)
    have hz_hx5 := hx5.size
    replace hT := hT.ext hx5
    replace E := E.trans hx5
    replace hp1_16 := hp1_16.ext hx5
    refine w_store_boxs rfl rfl (next := fun ws15 hbs15 hxs15 hss15 => ?_)
    (replace hb5 := hbs15; clear hbs15)
    have hz_hxs15 := hxs15.size
    replace hT := hT.chg hxs15 (by omega)
    replace E := E.next hxs15 (by omega)
    replace hp1_16 := hp1_16.chg hxs15 (by omega)
    refine w_pure (y_assign rfl) rfl ?_
    refine w_nil ?_
    refine x_next ?_
    refine c_seq ?_
    refine c_region ?_
    refine w_pure (y_move rfl) rfl ?_
    refine w_pure (y_move rfl) rfl ?_
    (refine w_call rfl rfl rfl (iSetCounter_c _ _) rfl ?_; rintro _ w22 ⟨d22, ⟨rfl, ⟨hp1_22, hx22⟩⟩⟩)
    have hz_hx22 := hx22.size
    replace hb5 := hb5.ext hx22
    replace hT := hT.ext hx22
    replace E := E.trans hx22
    replace hp1_16 := hp1_16.ext hx22
    replace hp1_22 := hp1_22.fresh
    refine w_pure (y_move rfl) rfl ?_
    refine w_pure (y_extract rfl rfl) rfl ?_
    refine w_pure (y_extract rfl rfl) rfl ?_
    refine w_alloc (k := fun b7 w7 hb7 hx7 hl7 hs7 => ?_)
    have hz_hx7 := hx7.size
    replace hb5 := hb5.ext hx7
    replace hT := hT.ext hx7
    replace E := E.trans hx7
    replace hp1_16 := hp1_16.ext hx7
    replace hp1_22 := hp1_22.ext hx7
    refine w_store_boxs rfl rfl (next := fun ws28 hbs28 hxs28 hss28 => ?_)
    (replace hb7 := hbs28; clear hbs28)
    have hz_hxs28 := hxs28.size
    replace hb5 := hb5.chg hxs28 (by omega)
    replace hT := hT.chg hxs28 (by omega)
    replace E := E.next hxs28 (by omega)
    replace hp1_16 := hp1_16.chg hxs28 (by omega)
    replace hp1_22 := hp1_22.chg hxs28 (by omega)
    refine w_pure (y_assign rfl) rfl ?_
    refine w_nil ?_
    refine x_next ?_
    refine c_seq ?_
    refine c_seq ?_
    refine c_region ?_
    refine w_pure (y_load_boxs rfl) rfl ?_
    refine w_pure (y_load_boxs rfl) rfl ?_
    refine w_val rfl rfl rfl (eqCounter_c) rfl (fun w27 hx27 hz27 => ?_)
    have hz_hx27 := hx27.size
    replace hb7 := hb7.ext hx27
    replace hb5 := hb5.ext hx27
    replace hT := hT.ext hx27
    replace E := E.trans hx27
    replace hp1_16 := hp1_16.ext hx27
    replace hp1_22 := hp1_22.ext hx27
    refine w_pure (y_not_dec rfl) rfl ?_
    refine w_pure (y_move rfl) rfl ?_
    (refine w_part_dec rfl rfl (fun hc30 => ?_) (fun hc30 => ?_) <;> try (first | exact absurd rfl hc30 | contradiction | exact Bool.noConfusion (show false = true from hc30.symm.trans (by assumption)) | exact Bool.noConfusion (show true = false from hc30.symm.trans (by assumption)) | (exfalso; omega) | (exfalso; simp only [*, Bool.not_true, Bool.not_false, reduceCtorEq] at hc30; done)))
    refine w_yes rfl rfl ?_
    refine w_pure (y_move rfl) rfl ?_
    refine w_yes rfl rfl ?_
    refine w_pure (y_move rfl) rfl ?_
    refine w_yes rfl rfl ?_
    refine w_pure (y_ne rfl rfl) rfl ?_
    refine w_pure (y_pick_f rfl rfl) rfl ?_
    refine w_nil ?_
    refine x_next ?_
    refine c_nsame rfl ?_
    refine c_skip ?_
    refine x_next ?_
    refine c_seq ?_
    refine c_region ?_
    refine w_pure (y_assign rfl) rfl ?_
    refine w_nil ?_
    refine x_next ?_
    refine c_seq ?_
    refine c_region ?_
    refine w_pure (y_load_boxs rfl) rfl ?_
    refine w_pure (y_move rfl) rfl ?_
    (refine w_call rfl rfl rfl (markCounter_c _) rfl ?_; rintro _ w36 ⟨rfl, ⟨hp1_36, hx36⟩⟩)
    have hz_hx36 := hx36.size
    replace hb7 := hb7.chg hx36 (by omega)
    replace hb5 := hb5.chg hx36 (by omega)
    replace hT := hT.chg hx36 (by omega)
    replace E := E.next hx36 (by omega)
    replace hp1_16 := hp1_16.chg hx36 (by omega)
    refine w_pure (y_assign rfl) rfl ?_
    refine w_nil ?_
    refine x_next ?_
    refine c_seq ?_
    refine c_region ?_
    refine w_pure (y_assign rfl) rfl ?_
    refine w_nil ?_
    refine x_next ?_
    refine c_seq ?_
    refine c_region ?_
    refine w_pure (y_load_boxs rfl) rfl ?_
    refine w_pure (y_move rfl) rfl ?_
    refine w_val rfl rfl rfl (heldCounter_c) rfl (fun w39 hx39 hz39 => ?_)
    have hz_hx39 := hx39.size
    replace hp1_36 := hp1_36.ext hx39
    replace hb7 := hb7.ext hx39
    replace hb5 := hb5.ext hx39
    replace hT := hT.ext hx39
    replace E := E.trans hx39
    replace hp1_16 := hp1_16.ext hx39
    refine w_pure (y_assign rfl) rfl ?_
    refine w_nil ?_
    refine x_next ?_
    refine c_seq ?_
    refine c_seq ?_
    refine c_region ?_
    refine w_pure (y_move rfl) rfl ?_
    refine w_pure (y_lt rfl rfl) rfl ?_
    refine w_nil ?_
    refine x_next ?_
    refine c_false rfl ?_
    refine c_skip ?_
    refine x_next ?_
    refine c_seq ?_
    refine c_seq ?_
    refine c_region ?_
    refine w_pure (y_move rfl) rfl ?_
    refine w_pure (y_move rfl) rfl ?_
    refine w_pure (y_ne rfl rfl) rfl ?_
    refine w_nil ?_
    refine x_next ?_
    refine c_nsame rfl ?_
    refine c_skip ?_
    refine x_next ?_
    refine c_seq ?_
    refine c_region ?_
    refine w_pure (y_move rfl) rfl ?_
    refine w_pure (y_move rfl) rfl ?_
    (refine w_call rfl rfl rfl (iSetCounter_c _ _) rfl ?_; rintro _ w48 ⟨d48, ⟨rfl, ⟨hp1_48, hx48⟩⟩⟩)
    have hz_hx48 := hx48.size
    replace hp1_36 := hp1_36.ext hx48
    replace hb7 := hb7.ext hx48
    replace hb5 := hb5.ext hx48
    replace hT := hT.ext hx48
    replace E := E.trans hx48
    replace hp1_16 := hp1_16.ext hx48
    replace hp1_48 := hp1_48.fresh
    refine w_pure (y_move rfl) rfl ?_
    refine w_pure (y_extract rfl rfl) rfl ?_
    refine w_pure (y_extract rfl rfl) rfl ?_
    refine w_alloc (k := fun b11 w11 hb11 hx11 hl11 hs11 => ?_)
    have hz_hx11 := hx11.size
    replace hp1_36 := hp1_36.ext hx11
    replace hb7 := hb7.ext hx11
    replace hb5 := hb5.ext hx11
    replace hT := hT.ext hx11
    replace E := E.trans hx11
    replace hp1_16 := hp1_16.ext hx11
    replace hp1_48 := hp1_48.ext hx11
    refine w_store_boxs rfl rfl (next := fun ws109 hbs109 hxs109 hss109 => ?_)
    (replace hb11 := hbs109; clear hbs109)
    have hz_hxs109 := hxs109.size
    replace hp1_36 := hp1_36.chg hxs109 (by omega)
    replace hb7 := hb7.chg hxs109 (by omega)
    replace hb5 := hb5.chg hxs109 (by omega)
    replace hT := hT.chg hxs109 (by omega)
    replace E := E.next hxs109 (by omega)
    replace hp1_16 := hp1_16.chg hxs109 (by omega)
    replace hp1_48 := hp1_48.chg hxs109 (by omega)
    refine w_pure (y_assign rfl) rfl ?_
    refine w_nil ?_
    refine x_next ?_
    refine c_seq ?_
    refine c_seq ?_
    refine c_region ?_
    refine w_pure (y_load_boxs rfl) rfl ?_
    refine w_pure (y_load_boxs rfl) rfl ?_
    refine w_val rfl rfl rfl (eqCounter_c) rfl (fun w53 hx53 hz53 => ?_)
    have hz_hx53 := hx53.size
    replace hb11 := hb11.ext hx53
    replace hp1_36 := hp1_36.ext hx53
    replace hb7 := hb7.ext hx53
    replace hb5 := hb5.ext hx53
    replace hT := hT.ext hx53
    replace E := E.trans hx53
    replace hp1_16 := hp1_16.ext hx53
    replace hp1_48 := hp1_48.ext hx53
    refine w_pure (y_not_dec rfl) rfl ?_
    refine w_pure (y_move rfl) rfl ?_
    (refine w_part_dec rfl rfl (fun hc56 => ?_) (fun hc56 => ?_) <;> try (first | exact absurd rfl hc56 | contradiction | exact Bool.noConfusion (show false = true from hc56.symm.trans (by assumption)) | exact Bool.noConfusion (show true = false from hc56.symm.trans (by assumption)) | (exfalso; omega) | (exfalso; simp only [*, Bool.not_true, Bool.not_false, reduceCtorEq] at hc56; done)))
    refine w_yes rfl rfl ?_
    refine w_pure (y_move rfl) rfl ?_
    refine w_yes rfl rfl ?_
    refine w_pure (y_move rfl) rfl ?_
    refine w_yes rfl rfl ?_
    refine w_pure (y_ne rfl rfl) rfl ?_
    refine w_pure (y_pick_f rfl rfl) rfl ?_
    refine w_nil ?_
    refine x_next ?_
    refine c_nsame rfl ?_
    refine c_skip ?_
    refine x_next ?_
    refine c_seq ?_
    refine c_region ?_
    refine w_pure (y_assign rfl) rfl ?_
    refine w_nil ?_
    refine x_next ?_
    refine c_seq ?_
    refine c_region ?_
    refine w_pure (y_load_boxs rfl) rfl ?_
    refine w_pure (y_move rfl) rfl ?_
    refine w_val rfl rfl rfl (heldCounter_c) rfl (fun w62 hx62 hz62 => ?_)
    have hz_hx62 := hx62.size
    replace hb11 := hb11.ext hx62
    replace hp1_36 := hp1_36.ext hx62
    replace hb7 := hb7.ext hx62
    replace hb5 := hb5.ext hx62
    replace hT := hT.ext hx62
    replace E := E.trans hx62
    replace hp1_16 := hp1_16.ext hx62
    replace hp1_48 := hp1_48.ext hx62
    refine w_pure (y_assign rfl) rfl ?_
    refine w_nil ?_
    refine x_next ?_
    refine c_seq ?_
    refine c_seq ?_
    refine c_region ?_
    refine w_pure (y_move rfl) rfl ?_
    refine w_pure (y_lt rfl rfl) rfl ?_
    refine w_nil ?_
    refine x_next ?_
    refine c_false rfl ?_
    refine c_skip ?_
    refine x_next ?_
    refine c_seq ?_
    refine c_seq ?_
    refine c_region ?_
    refine w_pure (y_move rfl) rfl ?_
    refine w_pure (y_move rfl) rfl ?_
    refine w_pure (y_ne rfl rfl) rfl ?_
    refine w_nil ?_
    refine x_next ?_
    refine c_nsame rfl ?_
    refine c_skip ?_
    refine x_next ?_
    refine c_seq ?_
    refine c_region ?_
    refine w_pure (y_assign rfl) rfl ?_
    refine w_nil ?_
    refine x_next ?_
    refine c_ret ?_
    exact x_retv [_] rfl ⟨rfl, trivial⟩ ⟨rfl, E.go⟩
end Go.Proofs.YtcpglpegjdpliaaDoor

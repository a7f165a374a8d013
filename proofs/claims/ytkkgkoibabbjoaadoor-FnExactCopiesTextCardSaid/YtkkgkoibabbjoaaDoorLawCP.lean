/- The walk of the law on the text of copies. -/
import Derived.Test.YtkkgkoibabbjoaaDoorCptA
import Derived.Test.YtkkgkoibabbjoaaDoorOpen
namespace Go.Proofs.YtkkgkoibabbjoaaDoor
open Go Go.Gw
set_option linter.unusedVariables false
set_option linter.unusedSimpArgs false
theorem lCopiesText (w0 : World) (hT : Tab w0.heap.size w0) (x0 : { x : OPs // x.ok w0 }) : Ret Tryd.prog 4 [x0.1.v] w0 fun u w' => u = .bool true ∧ Ext w0 w' := by
  obtain ⟨⟨v0, ws0⟩, hok0⟩ := x0
  have s0 : SL w0 0 w0.heap.size v0 ws0 := hok0.sl
  have r0 := hok0.in64
  show Ret _ _ [v0] w0 _
  clear hok0
  have E : Since 0 0 w0 w0 := Since.refl 0 0 w0
  refine ret_enter Tryd.func4 rfl Tryd.ntmps4 rfl ?_
  focus
    refine c_seq ?_
    refine c_region ?_
    refine w_pure (y_assign rfl) rfl ?_
    refine w_nil ?_
    refine x_next ?_
    refine c_seq ?_
    refine c_region ?_
    refine w_pure (y_assign rfl) rfl ?_
    refine w_nil ?_
    refine x_next ?_
    refine c_seq ?_
    refine c_region ?_
    refine w_pure (y_move rfl) rfl ?_
    refine w_pure (y_move rfl) rfl ?_
    (refine w_call rfl rfl rfl (szCopyS_z) rfl ?_; rintro _ w9 ⟨z9, ⟨rfl, ⟨hp1_9, hx9⟩⟩⟩)
    have hz_hx9 := hx9.size
    replace hT := hT.ext hx9
    replace s0 := s0.ext hx9
    replace E := E.trans hx9
    refine w_pure (y_assign rfl) rfl ?_
    refine w_nil ?_
    refine x_next ?_
    refine c_seq ?_
    refine c_seq ?_
    refine c_region ?_
    refine w_pure (y_move rfl) rfl ?_
    refine w_pure (y_lt rfl rfl) rfl ?_
    refine w_nil ?_
    refine x_next ?_
    (refine c_dec rfl (fun hc11 => ?_) (fun hc11 => ?_) <;> try (first | exact absurd rfl hc11 | contradiction | exact Bool.noConfusion (show false = true from hc11.symm.trans (by assumption)) | exact Bool.noConfusion (show true = false from hc11.symm.trans (by assumption)) | (exfalso; omega) | (exfalso; simp only [*, Bool.not_true, Bool.not_false, reduceCtorEq] at hc11; done)))
    refine c_seq ?_
    refine c_region ?_
    refine w_pure (y_assign rfl) rfl ?_
    refine w_nil ?_
    refine x_next ?_
    refine c_ret ?_
    refine x_then_ret ?_
    exact x_retv [_] rfl ⟨rfl, trivial⟩ ⟨rfl, E.go⟩
    refine c_skip ?_
    refine x_next ?_
    refine c_seq ?_
    refine c_region ?_
    refine w_pure (y_move rfl) rfl ?_
    (refine w_call rfl rfl rfl (toCopyS_c _) rfl ?_; rintro v13 w13 ⟨hp1_13, hx13⟩)
    have hz_hx13 := hx13.size
    replace hT := hT.ext hx13
    replace s0 := s0.ext hx13
    replace E := E.trans hx13
    replace hp1_13 := hp1_13.fresh
    refine w_val rfl rfl rfl (sCopiesText_c) rfl (fun w14 hx14 hz14 => ?_)
    have hz_hx14 := hx14.size
    replace hT := hT.ext hx14
    replace s0 := s0.ext hx14
    replace E := E.trans hx14
    replace hp1_13 := hp1_13.ext hx14
    refine w_pure (y_assign rfl) rfl ?_
    refine w_nil ?_
    refine x_next ?_
    refine c_seq ?_
    refine c_region ?_
    refine w_pure (y_move rfl) rfl ?_
    (refine w_call rfl rfl rfl (toCopyS_c _) rfl ?_; rintro v16 w16 ⟨hp1_16, hx16⟩)
    have hz_hx16 := hx16.size
    replace hT := hT.ext hx16
    replace s0 := s0.ext hx16
    replace E := E.trans hx16
    replace hp1_13 := hp1_13.ext hx16
    replace hp1_16 := hp1_16.fresh
    refine w_pure (y_assign rfl) rfl ?_
    refine w_nil ?_
    refine x_next ?_
    refine c_seq ?_
    refine c_region ?_
    refine w_pure (y_move rfl) rfl ?_
    refine w_val rfl rfl rfl (iCopiesText_c) rfl (fun w18 hx18 hz18 => ?_)
    have hz_hx18 := hx18.size
    replace hT := hT.ext hx18
    replace s0 := s0.ext hx18
    replace E := E.trans hx18
    replace hp1_13 := hp1_13.ext hx18
    replace hp1_16 := hp1_16.ext hx18
    refine w_pure (y_assign rfl) rfl ?_
    refine w_nil ?_
    refine x_next ?_
    refine c_seq ?_
    refine c_seq ?_
    refine c_region ?_
    refine w_pure (y_move rfl) rfl ?_
    refine w_pure (y_move rfl) rfl ?_
    refine w_pure (y_sne rfl rfl) rfl ?_
    refine w_nil ?_
    refine x_next ?_
    refine c_nsame rfl ?_
    refine c_skip ?_
    refine x_next ?_
    refine c_seq ?_
    refine c_seq ?_
    refine c_region ?_
    refine w_pure (y_move rfl) rfl ?_
    refine w_pure (y_move rfl) rfl ?_
    (refine w_call rfl rfl rfl (toCopyS_c _) rfl ?_; rintro v24 w24 ⟨hp1_24, hx24⟩)
    have hz_hx24 := hx24.size
    replace hT := hT.ext hx24
    replace s0 := s0.ext hx24
    replace E := E.trans hx24
    replace hp1_13 := hp1_13.ext hx24
    replace hp1_16 := hp1_16.ext hx24
    replace hp1_24 := hp1_24.fresh
    refine w_val rfl rfl rfl (eqCopyS_c) rfl (fun w25 hx25 hz25 => ?_)
    have hz_hx25 := hx25.size
    replace hT := hT.ext hx25
    replace s0 := s0.ext hx25
    replace E := E.trans hx25
    replace hp1_13 := hp1_13.ext hx25
    replace hp1_16 := hp1_16.ext hx25
    replace hp1_24 := hp1_24.ext hx25
    refine w_pure (y_not_dec rfl) rfl ?_
    refine w_nil ?_
    refine x_next ?_
    refine c_nsame rfl ?_
    refine c_skip ?_
    refine x_next ?_
    refine c_seq ?_
    refine c_region ?_
    refine w_pure (y_assign rfl) rfl ?_
    refine w_nil ?_
    refine x_next ?_
    refine c_ret ?_
    exact x_retv [_] rfl ⟨rfl, trivial⟩ ⟨rfl, E.go⟩
end Go.Proofs.YtkkgkoibabbjoaaDoor

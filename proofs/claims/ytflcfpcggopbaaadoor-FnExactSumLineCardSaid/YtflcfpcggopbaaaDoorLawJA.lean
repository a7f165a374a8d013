/- The walk of the law on lines of sums. -/
import Derived.Test.YtflcfpcggopbaaaDoorJoA
import Derived.Test.YtflcfpcggopbaaaDoorOpen
namespace Go.Proofs.YtflcfpcggopbaaaDoor
open Go Go.Gw
set_option linter.unusedVariables false
set_option linter.unusedSimpArgs false
theorem lSumLine (w0 : World) (hT : Tab w0.heap.size w0) (x0 : { x : OSl // x.ok w0 }) : Ret Tryd.prog 6 [x0.1.v] w0 fun u w' => u = .bool true ∧ Ext w0 w' := by
  obtain ⟨⟨v0, xs0⟩, hok0⟩ := x0
  have s0 : SL w0 0 w0.heap.size v0 xs0 := hok0.sl
  have r0 := hok0.in64
  show Ret _ _ [v0] w0 _
  clear hok0
  have E : Since 0 0 w0 w0 := Since.refl 0 0 w0
  refine ret_enter Tryd.func6 rfl Tryd.ntmps6 rfl ?_
  focus
    refine c_seq ?_
    refine c_region ?_
    refine w_pure (y_assign rfl) rfl ?_
    refine w_nil ?_
    refine x_next ?_
    refine c_seq ?_
    refine c_seq ?_
    refine c_region ?_
    refine w_pure (y_move rfl) rfl ?_
    refine w_pure (y_len rfl) rfl ?_
    refine w_pure (y_gt rfl rfl) rfl ?_
    refine w_nil ?_
    refine x_next ?_
    (refine c_dec rfl (fun hc8 => ?_) (fun hc8 => ?_) <;> try (first | exact absurd rfl hc8 | contradiction | exact Bool.noConfusion (show false = true from hc8.symm.trans (by assumption)) | exact Bool.noConfusion (show true = false from hc8.symm.trans (by assumption)) | (exfalso; omega) | (exfalso; simp only [*, Bool.not_true, Bool.not_false, reduceCtorEq] at hc8; done)))
    refine c_seq ?_
    refine c_region ?_
    refine w_pure (y_assign rfl) rfl ?_
    refine w_nil ?_
    refine x_next ?_
    refine c_ret ?_
    refine x_then_ret ?_
    exact x_retv [_] rfl ⟨rfl, trivial⟩ ⟨rfl, E.go⟩
    refine c_skip ?_
    refine x_next ?_
    refine c_seq ?_
    refine c_region ?_
    refine w_pure (y_move rfl) rfl ?_
    (refine w_call rfl rfl rfl (toInt64S_c _) rfl ?_; rintro v10 w10 ⟨hp1_10, hx10⟩)
    have hz_hx10 := hx10.size
    replace hT := hT.ext hx10
    replace s0 := s0.ext hx10
    replace E := E.trans hx10
    replace hp1_10 := hp1_10.fresh
    refine w_val rfl rfl rfl (lSumLine_c) rfl (fun w11 hx11 hz11 => ?_)
    have hz_hx11 := hx11.size
    replace hT := hT.ext hx11
    replace s0 := s0.ext hx11
    replace E := E.trans hx11
    replace hp1_10 := hp1_10.ext hx11
    refine w_pure (y_assign rfl) rfl ?_
    refine w_nil ?_
    refine x_next ?_
    refine c_seq ?_
    refine c_region ?_
    refine w_pure (y_move rfl) rfl ?_
    (refine w_call rfl rfl rfl (toInt64S_c _) rfl ?_; rintro v13 w13 ⟨hp1_13, hx13⟩)
    have hz_hx13 := hx13.size
    replace hT := hT.ext hx13
    replace s0 := s0.ext hx13
    replace E := E.trans hx13
    replace hp1_10 := hp1_10.ext hx13
    replace hp1_13 := hp1_13.fresh
    refine w_pure (y_assign rfl) rfl ?_
    refine w_nil ?_
    refine x_next ?_
    refine c_seq ?_
    refine c_region ?_
    refine w_pure (y_move rfl) rfl ?_
    refine w_val rfl rfl rfl (iSumLine_c) rfl (fun w15 hx15 hz15 => ?_)
    have hz_hx15 := hx15.size
    replace hT := hT.ext hx15
    replace s0 := s0.ext hx15
    replace E := E.trans hx15
    replace hp1_10 := hp1_10.ext hx15
    replace hp1_13 := hp1_13.ext hx15
    refine w_pure (y_assign rfl) rfl ?_
    refine w_nil ?_
    refine x_next ?_
    refine c_seq ?_
    refine c_seq ?_
    refine c_region ?_
    refine w_pure (y_move rfl) rfl ?_
    refine w_pure (y_move rfl) rfl ?_
    refine w_pure (y_sne rfl rfl) rfl ?_
    refine w_nil ?_
    refine x_next ?_
    refine c_nsame rfl ?_
    refine c_skip ?_
    refine x_next ?_
    refine c_seq ?_
    refine c_seq ?_
    refine c_region ?_
    refine w_pure (y_move rfl) rfl ?_
    refine w_pure (y_move rfl) rfl ?_
    (refine w_call rfl rfl rfl (toInt64S_c _) rfl ?_; rintro v21 w21 ⟨hp1_21, hx21⟩)
    have hz_hx21 := hx21.size
    replace hT := hT.ext hx21
    replace s0 := s0.ext hx21
    replace E := E.trans hx21
    replace hp1_10 := hp1_10.ext hx21
    replace hp1_13 := hp1_13.ext hx21
    replace hp1_21 := hp1_21.fresh
    refine w_val rfl rfl rfl (eqInt64S_c) rfl (fun w22 hx22 hz22 => ?_)
    have hz_hx22 := hx22.size
    replace hT := hT.ext hx22
    replace s0 := s0.ext hx22
    replace E := E.trans hx22
    replace hp1_10 := hp1_10.ext hx22
    replace hp1_13 := hp1_13.ext hx22
    replace hp1_21 := hp1_21.ext hx22
    refine w_pure (y_not_dec rfl) rfl ?_
    refine w_nil ?_
    refine x_next ?_
    refine c_nsame rfl ?_
    refine c_skip ?_
    refine x_next ?_
    refine c_seq ?_
    refine c_region ?_
    refine w_pure (y_assign rfl) rfl ?_
    refine w_nil ?_
    refine x_next ?_
    refine c_ret ?_
    exact x_retv [_] rfl ⟨rfl, trivial⟩ ⟨rfl, E.go⟩
end Go.Proofs.YtflcfpcggopbaaaDoor

/- The walk of the law on balances. -/
import Derived.Test.YtmmpnlhanljhiaaCntK
import Derived.Test.YtmmpnlhanljhiaaOpen
namespace Go.Proofs.Ytmmpnlhanljhiaa
open Go Go.Gw
set_option linter.unusedVariables false
set_option linter.unusedSimpArgs false
theorem lBalanceAfter (w0 : World) (a0 : Int) (i0 : In64 a0) (x1 : { x : OSl // x.ok w0 }) : Ret Try.prog 10 [.int .i64 a0, x1.1.v] w0 fun u w' => u = .bool true ∧ Ext w0 w' := by
  obtain ⟨⟨v1, xs1⟩, hok1⟩ := x1
  have s1 : SL w0 0 w0.heap.size v1 xs1 := hok1.sl
  have r1 := hok1.in64
  show Ret _ _ [.int .i64 a0, v1] w0 _
  clear hok1
  have E : Since 0 0 w0 w0 := Since.refl 0 0 w0
  refine ret_enter Try.func10 rfl Try.ntmps10 rfl ?_
  focus
    refine c_seq ?_
    refine c_region ?_
    refine w_pure (y_assign rfl) rfl ?_
    refine w_nil ?_
    refine x_next ?_
    refine c_seq ?_
    refine c_seq ?_
    refine c_region ?_
    refine w_pure (y_move rfl) rfl ?_
    refine w_pure (y_len rfl) rfl ?_
    refine w_pure (y_gt rfl rfl) rfl ?_
    refine w_nil ?_
    refine x_next ?_
    (refine c_dec rfl (fun hc14 => ?_) (fun hc14 => ?_) <;> try (first | exact absurd rfl hc14 | contradiction | exact Bool.noConfusion (show false = true from hc14.symm.trans (by assumption)) | exact Bool.noConfusion (show true = false from hc14.symm.trans (by assumption)) | (exfalso; omega) | (exfalso; simp only [*, Bool.not_true, Bool.not_false, reduceCtorEq] at hc14; done)))
    refine c_seq ?_
    refine c_region ?_
    refine w_pure (y_assign rfl) rfl ?_
    refine w_nil ?_
    refine x_next ?_
    refine c_ret ?_
    refine x_then_ret ?_
    exact x_retv [_] rfl ⟨rfl, trivial⟩ ⟨rfl, E.go⟩
    refine c_skip ?_
    refine x_next ?_
    refine c_seq ?_
    refine c_region ?_
    refine w_pure (y_move rfl) rfl ?_
    refine w_pure (y_move rfl) rfl ?_
    (refine w_call rfl rfl rfl (toInt64S_c _) rfl ?_; rintro v18 w18 ⟨hp1_18, hx18⟩)
    have hz_hx18 := hx18.size
    replace s1 := s1.ext hx18
    replace E := E.trans hx18
    replace hp1_18 := hp1_18.fresh
    refine w_val rfl rfl rfl (sBalanceAfter_c _) rfl (fun w19 hx19 hz19 => ?_)
    have hz_hx19 := hx19.size
    replace s1 := s1.ext hx19
    replace E := E.trans hx19
    replace hp1_18 := hp1_18.ext hx19
    refine w_pure (y_move rfl) rfl ?_
    refine w_pure (y_extract rfl rfl) rfl ?_
    refine w_pure (y_extract rfl rfl) rfl ?_
    refine w_pure (y_extract rfl rfl) rfl ?_
    refine w_pure (y_assign rfl) rfl ?_
    refine w_pure (y_assign rfl) rfl ?_
    refine w_pure (y_assign rfl) rfl ?_
    refine w_nil ?_
    refine x_next ?_
    refine c_seq ?_
    refine c_region ?_
    refine w_pure (y_move rfl) rfl ?_
    (refine w_call rfl rfl rfl (toInt64S_c _) rfl ?_; rintro v24 w24 ⟨hp1_24, hx24⟩)
    have hz_hx24 := hx24.size
    replace s1 := s1.ext hx24
    replace E := E.trans hx24
    replace hp1_18 := hp1_18.ext hx24
    replace hp1_24 := hp1_24.fresh
    refine w_pure (y_assign rfl) rfl ?_
    refine w_nil ?_
    refine x_next ?_
    refine c_seq ?_
    refine c_region ?_
    refine w_pure (y_move rfl) rfl ?_
    refine w_pure (y_move rfl) rfl ?_
    refine w_val rfl rfl rfl (iBalanceAfter_c _) rfl (fun w28 hx28 hz28 => ?_)
    have hz_hx28 := hx28.size
    replace s1 := s1.ext hx28
    replace E := E.trans hx28
    replace hp1_18 := hp1_18.ext hx28
    replace hp1_24 := hp1_24.ext hx28
    refine w_pure (y_move rfl) rfl ?_
    refine w_pure (y_extract rfl rfl) rfl ?_
    refine w_pure (y_extract rfl rfl) rfl ?_
    refine w_pure (y_extract rfl rfl) rfl ?_
    refine w_pure (y_assign rfl) rfl ?_
    refine w_pure (y_assign rfl) rfl ?_
    refine w_pure (y_assign rfl) rfl ?_
    refine w_nil ?_
    refine x_next ?_
    refine c_seq ?_
    refine c_seq ?_
    refine c_region ?_
    refine w_pure (y_move rfl) rfl ?_
    refine w_pure (y_move rfl) rfl ?_
    refine w_pure (y_ne rfl rfl) rfl ?_
    refine w_pure (y_move rfl) rfl ?_
    (refine w_part_dec rfl rfl (fun hc36 => ?_) (fun hc36 => ?_) <;> try (first | exact absurd rfl hc36 | contradiction | exact Bool.noConfusion (show false = true from hc36.symm.trans (by assumption)) | exact Bool.noConfusion (show true = false from hc36.symm.trans (by assumption)) | (exfalso; omega) | (exfalso; simp only [*, Bool.not_true, Bool.not_false, reduceCtorEq] at hc36; done)))
    refine w_yes rfl rfl ?_
    refine w_pure (y_move rfl) rfl ?_
    refine w_yes rfl rfl ?_
    refine w_pure (y_move rfl) rfl ?_
    refine w_yes rfl rfl ?_
    refine w_pure (y_neb rfl rfl) rfl ?_
    refine w_pure (y_pick_f rfl rfl) rfl ?_
    refine w_pure (y_move rfl) rfl ?_
    (refine w_part_dec rfl rfl (fun hc41 => ?_) (fun hc41 => ?_) <;> try (first | exact absurd rfl hc41 | contradiction | exact Bool.noConfusion (show false = true from hc41.symm.trans (by assumption)) | exact Bool.noConfusion (show true = false from hc41.symm.trans (by assumption)) | (exfalso; omega) | (exfalso; simp only [*, Bool.not_true, Bool.not_false, reduceCtorEq] at hc41; done)))
    refine w_yes rfl rfl ?_
    refine w_pure (y_move rfl) rfl ?_
    refine w_yes rfl rfl ?_
    refine w_pure (y_move rfl) rfl ?_
    refine w_yes rfl rfl ?_
    refine w_pure (y_ne rfl rfl) rfl ?_
    refine w_pure (y_pick_f rfl rfl) rfl ?_
    refine w_nil ?_
    refine x_next ?_
    refine c_nsame rfl ?_
    refine c_skip ?_
    refine x_next ?_
    refine c_seq ?_
    refine c_seq ?_
    refine c_region ?_
    refine w_pure (y_move rfl) rfl ?_
    refine w_pure (y_move rfl) rfl ?_
    (refine w_call rfl rfl rfl (toInt64S_c _) rfl ?_; rintro v47 w47 ⟨hp1_47, hx47⟩)
    have hz_hx47 := hx47.size
    replace s1 := s1.ext hx47
    replace E := E.trans hx47
    replace hp1_18 := hp1_18.ext hx47
    replace hp1_24 := hp1_24.ext hx47
    replace hp1_47 := hp1_47.fresh
    refine w_val rfl rfl rfl (eqInt64S_c) rfl (fun w48 hx48 hz48 => ?_)
    have hz_hx48 := hx48.size
    replace s1 := s1.ext hx48
    replace E := E.trans hx48
    replace hp1_18 := hp1_18.ext hx48
    replace hp1_24 := hp1_24.ext hx48
    replace hp1_47 := hp1_47.ext hx48
    refine w_pure (y_not_dec rfl) rfl ?_
    refine w_nil ?_
    refine x_next ?_
    refine c_nsame rfl ?_
    refine c_skip ?_
    refine x_next ?_
    refine c_seq ?_
    refine c_region ?_
    refine w_pure (y_assign rfl) rfl ?_
    refine w_nil ?_
    refine x_next ?_
    refine c_ret ?_
    exact x_retv [_] rfl ⟨rfl, trivial⟩ ⟨rfl, E.go⟩
end Go.Proofs.Ytmmpnlhanljhiaa

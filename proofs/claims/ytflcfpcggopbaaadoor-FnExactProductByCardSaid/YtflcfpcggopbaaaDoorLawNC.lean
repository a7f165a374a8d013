/- The walks of the laws on products. -/
import Derived.Test.YtflcfpcggopbaaaDoorNumC
import Derived.Test.YtflcfpcggopbaaaDoorOpen
namespace Go.Proofs.YtflcfpcggopbaaaDoor
open Go Go.Gw
set_option linter.unusedVariables false
set_option linter.unusedSimpArgs false
theorem lProductBy (w0 : World) (hT : Tab w0.heap.size w0) (a0 : Int) (i0 : In64 a0) (a1 : Int) (i1 : In64 a1) : Ret Tryd.prog 4 [.int .i64 a0, .int .i64 a1] w0 fun u w' => u = .bool true ∧ Ext w0 w' := by
  show Ret _ _ [.int .i64 a0, .int .i64 a1] w0 _
  have E : Since 0 0 w0 w0 := Since.refl 0 0 w0
  refine ret_enter Tryd.func4 rfl Tryd.ntmps4 rfl ?_
  focus
    refine c_seq ?_
    refine c_region ?_
    refine w_pure (y_assign rfl) rfl ?_
    refine w_nil ?_
    refine x_next ?_
    refine c_seq ?_
    refine c_region ?_
    refine w_pure (y_move rfl) rfl ?_
    refine w_pure (y_move rfl) rfl ?_
    refine w_pur rfl rfl rfl (sProductBy_c _ _) rfl ?_
    refine w_pure (y_move rfl) rfl ?_
    refine w_pure (y_extract rfl rfl) rfl ?_
    refine w_pure (y_extract rfl rfl) rfl ?_
    refine w_pure (y_extract rfl rfl) rfl ?_
    refine w_pure (y_assign rfl) rfl ?_
    refine w_pure (y_assign rfl) rfl ?_
    refine w_pure (y_assign rfl) rfl ?_
    refine w_nil ?_
    refine x_next ?_
    refine c_seq ?_
    refine c_region ?_
    refine w_pure (y_move rfl) rfl ?_
    refine w_pure (y_move rfl) rfl ?_
    refine w_val rfl rfl rfl (iProductBy_c _ _) rfl (fun w21 hx21 hz21 => ?_)
    have hz_hx21 := hx21.size
    replace hT := hT.ext hx21
    replace E := E.trans hx21
    refine w_pure (y_move rfl) rfl ?_
    refine w_pure (y_extract rfl rfl) rfl ?_
    refine w_pure (y_extract rfl rfl) rfl ?_
    refine w_pure (y_extract rfl rfl) rfl ?_
    refine w_pure (y_assign rfl) rfl ?_
    refine w_pure (y_assign rfl) rfl ?_
    refine w_pure (y_assign rfl) rfl ?_
    refine w_nil ?_
    refine x_next ?_
    refine c_seq ?_
    refine c_seq ?_
    refine c_region ?_
    refine w_pure (y_move rfl) rfl ?_
    refine w_pure (y_move rfl) rfl ?_
    refine w_pure (y_ne rfl rfl) rfl ?_
    refine w_pure (y_move rfl) rfl ?_
    (refine w_part_dec rfl rfl (fun hc29 => ?_) (fun hc29 => ?_) <;> try (first | exact absurd rfl hc29 | contradiction | exact Bool.noConfusion (show false = true from hc29.symm.trans (by assumption)) | exact Bool.noConfusion (show true = false from hc29.symm.trans (by assumption)) | (exfalso; omega) | (exfalso; simp only [*, Bool.not_true, Bool.not_false, reduceCtorEq] at hc29; done)))
    refine w_yes rfl rfl ?_
    refine w_pure (y_move rfl) rfl ?_
    refine w_yes rfl rfl ?_
    refine w_pure (y_move rfl) rfl ?_
    refine w_yes rfl rfl ?_
    refine w_pure (y_ne rfl rfl) rfl ?_
    refine w_pure (y_pick_f rfl rfl) rfl ?_
    refine w_pure (y_move rfl) rfl ?_
    (refine w_part_dec rfl rfl (fun hc34 => ?_) (fun hc34 => ?_) <;> try (first | exact absurd rfl hc34 | contradiction | exact Bool.noConfusion (show false = true from hc34.symm.trans (by assumption)) | exact Bool.noConfusion (show true = false from hc34.symm.trans (by assumption)) | (exfalso; omega) | (exfalso; simp only [*, Bool.not_true, Bool.not_false, reduceCtorEq] at hc34; done)))
    refine w_yes rfl rfl ?_
    refine w_pure (y_move rfl) rfl ?_
    refine w_yes rfl rfl ?_
    refine w_pure (y_move rfl) rfl ?_
    refine w_yes rfl rfl ?_
    refine w_pure (y_ne rfl rfl) rfl ?_
    refine w_pure (y_pick_f rfl rfl) rfl ?_
    refine w_nil ?_
    refine x_next ?_
    refine c_nsame rfl ?_
    refine c_skip ?_
    refine x_next ?_
    refine c_seq ?_
    refine c_region ?_
    refine w_pure (y_assign rfl) rfl ?_
    refine w_nil ?_
    refine x_next ?_
    refine c_ret ?_
    exact x_retv [_] rfl ⟨rfl, trivial⟩ ⟨rfl, E.go⟩
end Go.Proofs.YtflcfpcggopbaaaDoor

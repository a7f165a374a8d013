/- The names of calculations. -/
import Derived.Test.YtgkljfncpgbngaaDoorNum
namespace Go.Proofs.YtgkljfncpgbngaaDoor
open Go Go.Gw
set_option linter.unusedVariables false
set_option linter.unusedSimpArgs false
def calcNames : List (List UInt8) := [[97, 100, 100], [116, 97, 107, 101], [116, 105, 109, 101, 115], [112, 97, 114, 116, 115]]
def calcName (k : Int) : List UInt8 := if 1 ≤ k ∧ k ≤ 4 then calcNames.getD (k - 1).toNat [] else []
theorem iCalcName_c (k : Int) : Pur Tryd.prog 25 [.int .i64 k] (str (calcName k)) := by
  refine ⟨fun w => ?_⟩
  by_cases h : 1 ≤ k ∧ k ≤ 4
  · have h4 : k = 1 ∨ k = 2 ∨ k = 3 ∨ k = 4 := by omega
    rcases h4 with rfl | rfl | rfl | rfl <;> (
      refine ret_enter Tryd.func25 rfl Tryd.ntmps25 rfl ?_
      focus
        refine c_seq ?_
        refine c_region ?_
        refine w_pure (y_assign rfl) rfl ?_
        refine w_nil ?_
        refine x_next ?_
        refine c_seq ?_
        refine c_seq ?_
        refine c_region ?_
        refine w_pure (y_move rfl) rfl ?_
        refine w_pur rfl rfl rfl (isCalc_c _) rfl ?_
        refine w_pure (y_not_dec rfl) rfl ?_
        refine w_nil ?_
        refine x_next ?_
        refine c_false rfl ?_
        refine c_skip ?_
        refine x_next ?_
        refine c_seq ?_
        refine c_region ?_
        refine w_pure (y_builda rfl) rfl ?_
        refine w_pure (y_move rfl) rfl ?_
        refine w_pure (y_at_arr rfl rfl) rfl ?_
        refine w_pure (y_assign rfl) rfl ?_
        refine w_nil ?_
        refine x_next ?_
        refine c_ret ?_
        rotate_left
      exact x_retv [_] rfl ⟨rfl, trivial⟩ ⟨rfl, rfl⟩)
  · refine ret_enter Tryd.func25 rfl Tryd.ntmps25 rfl ?_
    focus
      refine c_seq ?_
      refine c_region ?_
      refine w_pure (y_assign rfl) rfl ?_
      refine w_nil ?_
      refine x_next ?_
      refine c_seq ?_
      refine c_seq ?_
      refine c_region ?_
      refine w_pure (y_move rfl) rfl ?_
      refine w_pur rfl rfl rfl (isCalc_c _) rfl ?_
      refine w_pure (y_not_dec rfl) rfl ?_
      refine w_nil ?_
      refine x_next ?_
      (refine c_dec rfl (fun hc => ?_) (fun hc => ?_) <;> try (first | (exfalso; omega) | exact absurd rfl hc))
      refine c_seq ?_
      refine c_region ?_
      refine w_pure (y_assign rfl) rfl ?_
      refine w_nil ?_
      refine x_next ?_
      refine c_ret ?_
      refine x_then_ret ?_
      rotate_left
    exact x_retv [_] rfl ⟨rfl, trivial⟩ ⟨by simp [calcName, h, ofResults], rfl⟩
theorem sCalcName_c (k : Int) (w : World) : Val Tryd.prog 26 [.int .i64 k] w (str (calcName k)) := by
  refine ⟨fun w0 hw0 => ?_⟩
  have h4 : calcNames.length = 4 := rfl
  refine ret_enter Tryd.func26 rfl Tryd.ntmps26 rfl ?_
  focus
    refine c_seq ?_
    refine c_region ?_
    refine w_pure (y_assign rfl) rfl ?_
    refine w_nil ?_
    refine x_next ?_
    refine c_seq ?_
    refine c_region ?_
    refine w_lit (α := (List UInt8)) (xs := calcNames) rfl rfl rfl rfl rfl rfl rfl rfl (fun v1 w1 ho1 hx1 hl1 hh1 hs1 => ?_)
    refine w_pure (y_assign rfl) rfl ?_
    refine w_nil ?_
    refine x_next ?_
    refine c_seq ?_
    refine c_seq ?_
    refine c_region ?_
    refine w_pure (y_move rfl) rfl ?_
    refine w_pur rfl rfl rfl (l14Kind_c _) rfl ?_
    refine w_pure (y_not_dec rfl) rfl ?_
    refine w_nil ?_
    refine x_next ?_
    (refine c_dec rfl (fun hc => ?_) (fun hc => ?_) <;> try (first | (exfalso; omega) | exact absurd rfl hc))
    refine c_seq ?_
    refine c_region ?_
    refine w_pure (y_assign rfl) rfl ?_
    refine w_nil ?_
    refine x_next ?_
    refine c_ret ?_
    refine x_then_ret ?_
    rotate_left
    refine c_skip ?_
    refine x_next ?_
    refine c_seq ?_
    refine c_region ?_
    refine w_pure (y_move rfl) rfl ?_
    refine w_pure (y_move rfl) rfl ?_
    refine w_pure (y_sub rfl rfl) rfl ?_
    refine w_pure (y_index rfl rfl) rfl ?_
    refine w_pure (y_load_str rfl) rfl ?_
    refine w_pure (y_assign rfl) rfl ?_
    refine w_nil ?_
    refine x_next ?_
    refine c_ret ?_
    rotate_left
  · exact x_retv [_] rfl ⟨rfl, trivial⟩ ⟨by rw [calcName, if_neg hc]; rfl, by (repeat (first | exact Chg.refl _ _ _ | assumption | refine Chg.next ?_ (by assumption) (by omega)))⟩
  · exact x_retv [_] rfl ⟨rfl, trivial⟩ ⟨by rw [calcName, if_pos (by omega)]; rfl, by (repeat (first | exact Chg.refl _ _ _ | assumption | refine Chg.next ?_ (by assumption) (by omega)))⟩
end Go.Proofs.YtgkljfncpgbngaaDoor

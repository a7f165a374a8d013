/- The laws' helpers: the sizes of slices of numbers and of what bears one. -/
import Derived.Test.YtmmpnlhanljhiaaCntB
namespace Go.Proofs.Ytmmpnlhanljhiaa
open Go Go.Gw
set_option linter.unusedVariables false
set_option linter.unusedSimpArgs false
section
variable {w : World} {lo hi lo' hi' : Nat} {v v' : Value} {xs ys : List Int}
theorem szInt64S_z {left : Int} (h : SL w lo hi v xs := by repeat (first | assumption | exact Go.Gw.Own.sl (by assumption) | exact Go.Gw.Box.at (by assumption) | (apply Go.Gw.SL.chg; case hx => assumption) | (apply Go.Gw.Own.chg; case hx => assumption) | (apply Go.Gw.Box.chg; case hx => assumption) | (apply Go.Gw.At.chg; case hx => assumption) | exact .inl (Nat.zero_le _) | exact .inr (Nat.zero_le _) | (show _ ∨ _; omega))) (hl : 0 ≤ left ∧ left ≤ 1048576 := by omega) : Ret Try.prog 50 [v, .int .i64 left] w fun u w' => ∃ z, u = .int .i64 z ∧ (z < 0 ∨ (0 ≤ z ∧ z ≤ 1048576 ∧ z = left - xs.length)) ∧ Ext w w' := by
  refine ((szInt64S_c (left := left) h hl).ret).mono ?_
  rintro u w' ⟨rfl, hx⟩
  refine ⟨_, rfl, ?_, hx⟩
  split <;> omega
theorem szCounter_z {left : Int} (h : SL w lo hi v xs := by repeat (first | assumption | exact Go.Gw.Own.sl (by assumption) | exact Go.Gw.Box.at (by assumption) | (apply Go.Gw.SL.chg; case hx => assumption) | (apply Go.Gw.Own.chg; case hx => assumption) | (apply Go.Gw.Box.chg; case hx => assumption) | (apply Go.Gw.At.chg; case hx => assumption) | exact .inl (Nat.zero_le _) | exact .inr (Nat.zero_le _) | (show _ ∨ _; omega))) (hl : 0 ≤ left ∧ left ≤ 1048576 := by omega) : Ret Try.prog 19 [.agg #[v], .int .i64 left] w fun u w' => ∃ z, u = .int .i64 z ∧ (z < 0 ∨ (0 ≤ z ∧ z ≤ 1048576 ∧ z = left - xs.length)) ∧ Ext w w' := by
  have E : Since 0 0 w w := Since.refl 0 0 w
  refine ret_enter Try.func19 rfl Try.ntmps19 rfl ?_
  focus
    have ht_h := h.top
    refine c_seq ?_
    refine c_region ?_
    refine w_box rfl (k := fun b2 w2 hb2 hx2 hl2 hs2 => ?_)
    have hz_hx2 := hx2.size
    replace h := h.ext hx2
    replace E := E.trans hx2
    refine w_pure (y_assign rfl) rfl ?_
    refine w_nil ?_
    refine x_next ?_
    refine c_seq ?_
    refine c_region ?_
    refine w_pure (y_field rfl) rfl ?_
    refine w_pure (y_load_box rfl) rfl ?_
    refine w_pure (y_move rfl) rfl ?_
    (refine w_call rfl rfl rfl (szInt64S_z) rfl ?_; rintro _ w8 ⟨z8, ⟨rfl, ⟨hp1_8, hx8⟩⟩⟩)
    have hz_hx8 := hx8.size
    replace hb2 := hb2.ext hx8
    replace h := h.ext hx8
    replace E := E.trans hx8
    refine w_pure (y_assign rfl) rfl ?_
    refine w_nil ?_
    refine x_next ?_
    refine c_seq ?_
    refine c_seq ?_
    refine c_region ?_
    refine w_pure (y_move rfl) rfl ?_
    refine w_pure (y_lt rfl rfl) rfl ?_
    refine w_nil ?_
    refine x_next ?_
    (refine c_dec rfl (fun hc10 => ?_) (fun hc10 => ?_) <;> try (first | exact absurd rfl hc10 | contradiction | exact Bool.noConfusion (show false = true from hc10.symm.trans (by assumption)) | exact Bool.noConfusion (show true = false from hc10.symm.trans (by assumption)) | (exfalso; omega) | (exfalso; simp only [*, Bool.not_true, Bool.not_false, reduceCtorEq] at hc10; done)))
    refine c_seq ?_
    refine c_region ?_
    refine w_pure (y_assign rfl) rfl ?_
    refine w_nil ?_
    refine x_next ?_
    refine c_ret ?_
    refine x_then_ret ?_
    rotate_left
    refine c_skip ?_
    refine x_next ?_
    refine c_seq ?_
    refine c_region ?_
    refine w_pure (y_move rfl) rfl ?_
    refine w_pure (y_assign rfl) rfl ?_
    refine w_nil ?_
    refine x_next ?_
    refine c_ret ?_
    rotate_left
  all_goals exact x_retv [_] rfl ⟨rfl, trivial⟩ ⟨_, rfl, by omega, E.go⟩
end
end Go.Proofs.Ytmmpnlhanljhiaa

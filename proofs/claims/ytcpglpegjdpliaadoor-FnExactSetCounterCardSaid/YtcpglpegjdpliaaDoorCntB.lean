/- Contracts: counters, the laws' helpers on them, whether a counter is valid. -/
import Derived.Test.YtcpglpegjdpliaaDoorCntA
namespace Go.Proofs.YtcpglpegjdpliaaDoor
open Go Go.Gw
set_option linter.unusedVariables false
set_option linter.unusedSimpArgs false

section
variable {w : World} {lo hi lo' hi' : Nat} {v v' : Value} {xs ys : List Int}

theorem eqCounter_c (h : SL w lo hi v xs := by repeat (first | assumption | exact Go.Gw.Own.sl (by assumption) | exact Go.Gw.Box.at (by assumption) | exact Go.Gw.SLL.el (by first | assumption | exact Go.Gw.OwnD.sll (by assumption)) _ (by omega) | exact Go.Gw.SLL.at (by first | assumption | exact Go.Gw.OwnD.sll (by assumption)) (by omega) | exact Go.Gw.OwnD.sll (by assumption) | (apply Go.Gw.SL.chg; case hx => assumption) | (apply Go.Gw.Own.chg; case hx => assumption) | (apply Go.Gw.Box.chg; case hx => assumption) | (apply Go.Gw.At.chg; case hx => assumption) | exact .inl (Nat.zero_le _) | exact .inr (Nat.zero_le _) | (show _ ∨ _; omega))) (h' : SL w lo' hi' v' ys := by repeat (first | assumption | exact Go.Gw.Own.sl (by assumption) | exact Go.Gw.Box.at (by assumption) | exact Go.Gw.SLL.el (by first | assumption | exact Go.Gw.OwnD.sll (by assumption)) _ (by omega) | exact Go.Gw.SLL.at (by first | assumption | exact Go.Gw.OwnD.sll (by assumption)) (by omega) | exact Go.Gw.OwnD.sll (by assumption) | (apply Go.Gw.SL.chg; case hx => assumption) | (apply Go.Gw.Own.chg; case hx => assumption) | (apply Go.Gw.Box.chg; case hx => assumption) | (apply Go.Gw.At.chg; case hx => assumption) | exact .inl (Nat.zero_le _) | exact .inr (Nat.zero_le _) | (show _ ∨ _; omega))) : Val Tryd.prog 6 [.agg #[v], .agg #[v']] w (.bool (decide (xs = ys))) := by
  refine ⟨fun w1 hx1 => ?_⟩
  refine ret_enter Tryd.func6 rfl Tryd.ntmps6 rfl ?_
  focus
    refine c_seq ?_
    refine c_region ?_
    refine w_box rfl (k := fun bb wb hbb hxb hlb hsb => ?_)
    refine w_box rfl (k := fun bb wb hbb hxb hlb hsb => ?_)
    refine w_pure (y_assign rfl) rfl ?_
    refine w_nil ?_
    refine x_next ?_
    refine c_seq ?_
    refine c_seq ?_
    refine c_region ?_
    refine w_pure (y_field rfl) rfl ?_
    refine w_pure (y_load_box rfl) rfl ?_
    refine w_pure (y_field rfl) rfl ?_
    refine w_pure (y_load_box rfl) rfl ?_
    refine w_val rfl rfl rfl (eqInt64S_c) rfl (fun w4 hx4 hz4 => ?_)
    refine w_pure (y_not_dec rfl) rfl ?_
    refine w_nil ?_
    refine x_next ?_
    (refine c_dec rfl (fun hc => ?_) (fun hc => ?_) <;> try (exfalso; omega))
    refine c_seq ?_
    refine c_region ?_
    refine w_pure (y_assign rfl) rfl ?_
    refine w_nil ?_
    refine x_next ?_
    refine c_ret ?_
    refine x_then_ret ?_
    rotate_left
    refine c_skip ?_
    refine x_next ?_
    refine c_seq ?_
    refine c_region ?_
    refine w_pure (y_assign rfl) rfl ?_
    refine w_nil ?_
    refine x_next ?_
    refine c_ret ?_
    rotate_left
  · refine x_retv [_] rfl ⟨rfl, trivial⟩ ⟨by simp [ofResults, hc], by (repeat (first | exact Chg.refl _ _ _ | assumption | refine Chg.next ?_ (by assumption) (by omega)))⟩
  · refine x_retv [_] rfl ⟨rfl, trivial⟩ ⟨by simp [ofResults, Decidable.not_not.1 hc], by (repeat (first | exact Chg.refl _ _ _ | assumption | refine Chg.next ?_ (by assumption) (by omega)))⟩
theorem markCounter_c (w0 : World) {k : Int} (h : SL w0 lo hi v xs := by repeat (first | assumption | exact Go.Gw.Own.sl (by assumption) | exact Go.Gw.Box.at (by assumption) | exact Go.Gw.SLL.el (by first | assumption | exact Go.Gw.OwnD.sll (by assumption)) _ (by omega) | exact Go.Gw.SLL.at (by first | assumption | exact Go.Gw.OwnD.sll (by assumption)) (by omega) | exact Go.Gw.OwnD.sll (by assumption) | (apply Go.Gw.SL.chg; case hx => assumption) | (apply Go.Gw.Own.chg; case hx => assumption) | (apply Go.Gw.Box.chg; case hx => assumption) | (apply Go.Gw.At.chg; case hx => assumption) | exact .inl (Nat.zero_le _) | exact .inr (Nat.zero_le _) | (show _ ∨ _; omega))) (hk : 0 ≤ k := by omega) (hm : k + xs.length ≤ 9223372036854775807 := by omega) : Ret Tryd.prog 7 [.agg #[v], .int .i64 k] w0 fun u w' => u = .int .i64 (k + xs.length) ∧ SL w' lo hi v (marks k xs.length) ∧ Chg lo hi w0 w' := by
  refine ret_enter Tryd.func7 rfl Tryd.ntmps7 rfl ?_
  focus
    refine c_seq ?_
    refine c_region ?_
    refine w_box rfl (k := fun bb wb hbb hxb hlb hsb => ?_)
    refine w_pure (y_assign rfl) rfl ?_
    refine w_nil ?_
    refine x_next ?_
    refine c_seq ?_
    refine c_region ?_
    refine w_pure (y_field rfl) rfl ?_
    refine w_pure (y_load_box rfl) rfl ?_
    refine w_pure (y_move rfl) rfl ?_
    rotate_left
  refine w_call rfl rfl rfl (markInt64S_c (xs := xs) _) rfl ?_
  rintro u w1 ⟨rfl, hs, hx⟩
  focus
    refine w_pure (y_assign rfl) rfl ?_
    refine w_nil ?_
    refine x_next ?_
    refine c_seq ?_
    refine c_region ?_
    refine w_pure (y_move rfl) rfl ?_
    refine w_pure (y_assign rfl) rfl ?_
    refine w_nil ?_
    refine x_next ?_
    refine c_ret ?_
    rotate_left
  exact x_retv [_] rfl ⟨rfl, trivial⟩ ⟨rfl, hs, by (repeat (first | exact Chg.refl _ _ _ | assumption | refine Chg.next ?_ (by assumption) (by omega)))⟩
theorem heldCounter_c {k : Int} (h : SL w lo hi v (marks k xs.length) := by repeat (first | assumption | exact Go.Gw.Own.sl (by assumption) | exact Go.Gw.Box.at (by assumption) | exact Go.Gw.SLL.el (by first | assumption | exact Go.Gw.OwnD.sll (by assumption)) _ (by omega) | exact Go.Gw.SLL.at (by first | assumption | exact Go.Gw.OwnD.sll (by assumption)) (by omega) | exact Go.Gw.OwnD.sll (by assumption) | (apply Go.Gw.SL.chg; case hx => assumption) | (apply Go.Gw.Own.chg; case hx => assumption) | (apply Go.Gw.Box.chg; case hx => assumption) | (apply Go.Gw.At.chg; case hx => assumption) | exact .inl (Nat.zero_le _) | exact .inr (Nat.zero_le _) | (show _ ∨ _; omega))) (hk : 0 ≤ k := by omega) (hm : k + xs.length ≤ 9223372036854775807 := by omega) : Val Tryd.prog 8 [.agg #[v], .int .i64 k] w (.int .i64 (k + xs.length)) := by
  refine ⟨fun w1 hx1 => ?_⟩
  refine ret_enter Tryd.func8 rfl Tryd.ntmps8 rfl ?_
  focus
    refine c_seq ?_
    refine c_region ?_
    refine w_box rfl (k := fun bb wb hbb hxb hlb hsb => ?_)
    refine w_pure (y_assign rfl) rfl ?_
    refine w_nil ?_
    refine x_next ?_
    refine c_seq ?_
    refine c_region ?_
    refine w_pure (y_field rfl) rfl ?_
    refine w_pure (y_load_box rfl) rfl ?_
    refine w_pure (y_move rfl) rfl ?_
    refine w_val rfl rfl rfl (heldInt64S_c (xs := xs)) rfl (fun w4 hx4 hz4 => ?_)
    refine w_pure (y_assign rfl) rfl ?_
    refine w_nil ?_
    refine x_next ?_
    refine c_seq ?_
    refine c_seq ?_
    refine c_region ?_
    refine w_pure (y_move rfl) rfl ?_
    refine w_pure (y_lt rfl rfl) rfl ?_
    refine w_nil ?_
    refine x_next ?_
    (refine c_dec rfl (fun hc => ?_) (fun hc => ?_) <;> try (first | (exfalso; omega) | exact absurd rfl hc))
    refine c_skip ?_
    refine x_next ?_
    refine c_seq ?_
    refine c_region ?_
    refine w_pure (y_move rfl) rfl ?_
    refine w_pure (y_assign rfl) rfl ?_
    refine w_nil ?_
    refine x_next ?_
    refine c_ret ?_
    rotate_left
  exact x_retv [_] rfl ⟨rfl, trivial⟩ ⟨rfl, by (repeat (first | exact Chg.refl _ _ _ | assumption | refine Chg.next ?_ (by assumption) (by omega)))⟩
end
end Go.Proofs.YtcpglpegjdpliaaDoor

/- The laws' helpers: the sizes of slices of numbers and of what bears one. -/
import Derived.Test.YtdkedajdgllilaaDoorCntB
namespace Go.Proofs.YtdkedajdgllilaaDoor
open Go Go.Gw
set_option linter.unusedVariables false
set_option linter.unusedSimpArgs false
section
variable {w : World} {lo hi lo' hi' : Nat} {v v' : Value} {xs ys : List Int}
theorem szInt64S_z {left : Int} (h : SL w lo hi v xs := by repeat (first | assumption | exact Go.Gw.Own.sl (by assumption) | exact Go.Gw.Box.at (by assumption) | exact Go.Gw.SLL.el (by first | assumption | exact Go.Gw.OwnD.sll (by assumption)) _ (by omega) | exact Go.Gw.SLL.at (by first | assumption | exact Go.Gw.OwnD.sll (by assumption)) (by omega) | exact Go.Gw.OwnD.sll (by assumption) | (apply Go.Gw.SL.chg; case hx => assumption) | (apply Go.Gw.Own.chg; case hx => assumption) | (apply Go.Gw.Box.chg; case hx => assumption) | (apply Go.Gw.At.chg; case hx => assumption) | exact .inl (Nat.zero_le _) | exact .inr (Nat.zero_le _) | (show _ ∨ _; omega))) (hl : 0 ≤ left ∧ left ≤ 1048576 := by omega) : Ret Tryd.prog 140 [v, .int .i64 left] w fun u w' => ∃ z, u = .int .i64 z ∧ (z < 0 ∨ (0 ≤ z ∧ z ≤ 1048576 ∧ z = left - xs.length)) ∧ Ext w w' := by
  refine ((szInt64S_c (left := left) h hl).ret).mono ?_
  rintro u w' ⟨rfl, hx⟩
  refine ⟨_, rfl, ?_, hx⟩
  split <;> omega
theorem szCard_z {left : Int} (h : SL w lo hi v xs := by repeat (first | assumption | exact Go.Gw.Own.sl (by assumption) | exact Go.Gw.Box.at (by assumption) | exact Go.Gw.SLL.el (by first | assumption | exact Go.Gw.OwnD.sll (by assumption)) _ (by omega) | exact Go.Gw.SLL.at (by first | assumption | exact Go.Gw.OwnD.sll (by assumption)) (by omega) | exact Go.Gw.OwnD.sll (by assumption) | (apply Go.Gw.SL.chg; case hx => assumption) | (apply Go.Gw.Own.chg; case hx => assumption) | (apply Go.Gw.Box.chg; case hx => assumption) | (apply Go.Gw.At.chg; case hx => assumption) | exact .inl (Nat.zero_le _) | exact .inr (Nat.zero_le _) | (show _ ∨ _; omega))) (hl : 0 ≤ left ∧ left ≤ 1048576 := by omega) : Ret Tryd.prog 68 [.agg #[v], .int .i64 left] w fun u w' => ∃ z, u = .int .i64 z ∧ (z < 0 ∨ (0 ≤ z ∧ z ≤ 1048576 ∧ z = left - xs.length)) ∧ Ext w w' := by
  have E : Since 0 0 w w := Since.refl 0 0 w
  refine ret_enter Tryd.func68 rfl Tryd.ntmps68 rfl ?_
  focus
    have ht_h := h.top
    refine c_seq ?_
    refine c_region ?_
    refine w_box rfl (k := fun b2 w2 hb2 hx2 hl2 hs2 => ?_)
    have hz_hx2 := hx2.size
    replace h := h.ext hx2
    replace E := E.trans hx2
    refine w_pure (y_assign rfl) rfl ?_
    refine w_nil ?_
    refine x_next ?_
    refine c_seq ?_
    refine c_region ?_
    refine w_pure (y_field rfl) rfl ?_
    refine w_pure (y_load_box rfl) rfl ?_
    refine w_pure (y_move rfl) rfl ?_
    (refine w_call rfl rfl rfl (szInt64S_z) rfl ?_; rintro _ w8 ⟨z8, ⟨rfl, ⟨hp1_8, hx8⟩⟩⟩)
    have hz_hx8 := hx8.size
    replace hb2 := hb2.ext hx8
    replace h := h.ext hx8
    replace E := E.trans hx8
    refine w_pure (y_assign rfl) rfl ?_
    refine w_nil ?_
    refine x_next ?_
    refine c_seq ?_
    refine c_seq ?_
    refine c_region ?_
    refine w_pure (y_move rfl) rfl ?_
    refine w_pure (y_lt rfl rfl) rfl ?_
    refine w_nil ?_
    refine x_next ?_
    (refine c_dec rfl (fun hc10 => ?_) (fun hc10 => ?_) <;> try (first | exact absurd rfl hc10 | contradiction | exact Bool.noConfusion (show false = true from hc10.symm.trans (by assumption)) | exact Bool.noConfusion (show true = false from hc10.symm.trans (by assumption)) | (exfalso; omega) | (exfalso; simp only [*, Bool.not_true, Bool.not_false, reduceCtorEq] at hc10; done)))
    refine c_seq ?_
    refine c_region ?_
    refine w_pure (y_assign rfl) rfl ?_
    refine w_nil ?_
    refine x_next ?_
    refine c_ret ?_
    refine x_then_ret ?_
    rotate_left
    refine c_skip ?_
    refine x_next ?_
    refine c_seq ?_
    refine c_region ?_
    refine w_pure (y_move rfl) rfl ?_
    refine w_pure (y_assign rfl) rfl ?_
    refine w_nil ?_
    refine x_next ?_
    refine c_ret ?_
    rotate_left
  all_goals exact x_retv [_] rfl ⟨rfl, trivial⟩ ⟨_, rfl, by omega, E.go⟩
theorem toCard_c (w0 : World) (h : SL w0 lo hi v xs := by repeat (first | assumption | exact Go.Gw.Own.sl (by assumption) | exact Go.Gw.Box.at (by assumption) | exact Go.Gw.SLL.el (by first | assumption | exact Go.Gw.OwnD.sll (by assumption)) _ (by omega) | exact Go.Gw.SLL.at (by first | assumption | exact Go.Gw.OwnD.sll (by assumption)) (by omega) | exact Go.Gw.OwnD.sll (by assumption) | (apply Go.Gw.SL.chg; case hx => assumption) | (apply Go.Gw.Own.chg; case hx => assumption) | (apply Go.Gw.Box.chg; case hx => assumption) | (apply Go.Gw.At.chg; case hx => assumption) | exact .inl (Nat.zero_le _) | exact .inr (Nat.zero_le _) | (show _ ∨ _; omega))) (hl : xs.length ≤ 1048576 := by omega) : Ret Tryd.prog 75 [.agg #[v]] w0 fun u w' => ∃ d, u = .agg #[d] ∧ Own w' 2 w0.heap.size d xs ∧ Ext w0 w' := by
  have E : Since 0 0 w0 w0 := Since.refl 0 0 w0
  refine ret_enter Tryd.func75 rfl Tryd.ntmps75 rfl ?_
  focus
    have ht_h := h.top
    refine c_seq ?_
    refine c_region ?_
    refine w_box rfl (k := fun b1 w1 hb1 hx1 hl1 hs1 => ?_)
    have hz_hx1 := hx1.size
    replace h := h.ext hx1
    replace E := E.trans hx1
    refine w_alloc (k := fun b2 w2 hb2 hx2 hl2 hs2 => ?_)
    have hz_hx2 := hx2.size
    replace hb1 := hb1.ext hx2
    replace h := h.ext hx2
    replace E := E.trans hx2
    refine w_nil ?_
    refine x_next ?_
    refine c_seq ?_
    refine c_region ?_
    refine w_alloc (k := fun b3 w3 hb3 hx3 hl3 hs3 => ?_)
    have hz_hx3 := hx3.size
    replace hb2 := hb2.ext hx3
    replace hb1 := hb1.ext hx3
    replace h := h.ext hx3
    replace E := E.trans hx3
    refine w_nil ?_
    refine x_next ?_
    refine c_seq ?_
    refine c_region ?_
    refine w_pure (y_field rfl) rfl ?_
    refine w_pure (y_load_box rfl) rfl ?_
    (refine w_call rfl rfl rfl (toInt64S_c _) rfl ?_; rintro v6 w6 ⟨hp1_6, hx6⟩)
    have hl_hp1_6 := hp1_6.lt
    have hz_hx6 := hx6.size
    replace hb3 := hb3.ext hx6
    replace hb2 := hb2.ext hx6
    replace hb1 := hb1.ext hx6
    replace h := h.ext hx6
    replace E := E.trans hx6
    refine w_pure (y_field rfl) rfl ?_
    refine w_store_box rfl rfl (next := fun ws18 hbs18 hxs18 hss18 => ?_)
    (replace hb3 := hbs18; clear hbs18)
    have hz_hxs18 := hxs18.size
    replace hp1_6 := hp1_6.chg hxs18 (by omega)
    replace hb2 := hb2.chg hxs18 (by omega)
    replace hb1 := hb1.chg hxs18 (by omega)
    replace h := h.chg hxs18 (by omega)
    replace E := E.next hxs18 (by omega)
    refine w_nil ?_
    refine x_next ?_
    refine c_seq ?_
    refine c_region ?_
    refine w_pure (y_load_boxs rfl) rfl ?_
    refine w_store_boxs rfl rfl (next := fun ws24 hbs24 hxs24 hss24 => ?_)
    (replace hb2 := hbs24; clear hbs24)
    have hz_hxs24 := hxs24.size
    replace hb3 := hb3.chg hxs24 (by omega)
    replace hp1_6 := hp1_6.chg hxs24 (by omega)
    replace hb1 := hb1.chg hxs24 (by omega)
    replace h := h.chg hxs24 (by omega)
    replace E := E.next hxs24 (by omega)
    refine w_nil ?_
    refine x_next ?_
    refine c_ret ?_
    rotate_left
  refine x_retv [_] rfl ⟨⟨_, rfl, run_load_str (Box.at (by assumption)) (by rfl)⟩, trivial⟩ ⟨_, rfl, ?_, E.go⟩
  exact Own.rebase (by assumption) (by omega)
theorem eqCard_c (h : SL w lo hi v xs := by repeat (first | assumption | exact Go.Gw.Own.sl (by assumption) | exact Go.Gw.Box.at (by assumption) | exact Go.Gw.SLL.el (by first | assumption | exact Go.Gw.OwnD.sll (by assumption)) _ (by omega) | exact Go.Gw.SLL.at (by first | assumption | exact Go.Gw.OwnD.sll (by assumption)) (by omega) | exact Go.Gw.OwnD.sll (by assumption) | (apply Go.Gw.SL.chg; case hx => assumption) | (apply Go.Gw.Own.chg; case hx => assumption) | (apply Go.Gw.Box.chg; case hx => assumption) | (apply Go.Gw.At.chg; case hx => assumption) | exact .inl (Nat.zero_le _) | exact .inr (Nat.zero_le _) | (show _ ∨ _; omega))) (h' : SL w lo' hi' v' ys := by repeat (first | assumption | exact Go.Gw.Own.sl (by assumption) | exact Go.Gw.Box.at (by assumption) | exact Go.Gw.SLL.el (by first | assumption | exact Go.Gw.OwnD.sll (by assumption)) _ (by omega) | exact Go.Gw.SLL.at (by first | assumption | exact Go.Gw.OwnD.sll (by assumption)) (by omega) | exact Go.Gw.OwnD.sll (by assumption) | (apply Go.Gw.SL.chg; case hx => assumption) | (apply Go.Gw.Own.chg; case hx => assumption) | (apply Go.Gw.Box.chg; case hx => assumption) | (apply Go.Gw.At.chg; case hx => assumption) | exact .inl (Nat.zero_le _) | exact .inr (Nat.zero_le _) | (show _ ∨ _; omega))) : Val Tryd.prog 84 [.agg #[v], .agg #[v']] w (.bool (decide (xs = ys))) := by
  refine ⟨fun w1 hx1 => ?_⟩
  have E : Since 0 0 w1 w1 := Since.refl 0 0 w1
  refine ret_enter Tryd.func84 rfl Tryd.ntmps84 rfl ?_
  focus
    have ht_h := h.top
    have ht_h' := h'.top
    have hz_hx1 := hx1.size
    replace h := h.ext hx1
    replace h' := h'.ext hx1
    refine c_seq ?_
    refine c_region ?_
    refine w_box rfl (k := fun b2 w2 hb2 hx2 hl2 hs2 => ?_)
    have hz_hx2 := hx2.size
    replace E := E.trans hx2
    replace h := h.ext hx2
    replace h' := h'.ext hx2
    refine w_box rfl (k := fun b3 w3 hb3 hx3 hl3 hs3 => ?_)
    have hz_hx3 := hx3.size
    replace hb2 := hb2.ext hx3
    replace E := E.trans hx3
    replace h := h.ext hx3
    replace h' := h'.ext hx3
    refine w_pure (y_assign rfl) rfl ?_
    refine w_nil ?_
    refine x_next ?_
    refine c_seq ?_
    refine c_seq ?_
    refine c_region ?_
    refine w_pure (y_field rfl) rfl ?_
    refine w_pure (y_load_box rfl) rfl ?_
    refine w_pure (y_field rfl) rfl ?_
    refine w_pure (y_load_box rfl) rfl ?_
    refine w_val rfl rfl rfl (eqInt64S_c) rfl (fun w9 hx9 hz9 => ?_)
    have hz_hx9 := hx9.size
    replace hb3 := hb3.ext hx9
    replace hb2 := hb2.ext hx9
    replace E := E.trans hx9
    replace h := h.ext hx9
    replace h' := h'.ext hx9
    refine w_pure (y_not_dec rfl) rfl ?_
    refine w_nil ?_
    refine x_next ?_
    (refine c_dec rfl (fun hc10 => ?_) (fun hc10 => ?_) <;> try (first | exact absurd rfl hc10 | contradiction | exact Bool.noConfusion (show false = true from hc10.symm.trans (by assumption)) | exact Bool.noConfusion (show true = false from hc10.symm.trans (by assumption)) | (exfalso; omega) | (exfalso; simp only [*, Bool.not_true, Bool.not_false, reduceCtorEq] at hc10; done)))
    refine c_seq ?_
    refine c_region ?_
    refine w_pure (y_assign rfl) rfl ?_
    refine w_nil ?_
    refine x_next ?_
    refine c_ret ?_
    refine x_then_ret ?_
    rotate_left
    refine c_skip ?_
    refine x_next ?_
    refine c_seq ?_
    refine c_region ?_
    refine w_pure (y_assign rfl) rfl ?_
    refine w_nil ?_
    refine x_next ?_
    refine c_ret ?_
    rotate_left
  · refine x_retv [_] rfl ⟨rfl, trivial⟩ ⟨by simp [ofResults, hc10], E.go⟩
  · refine x_retv [_] rfl ⟨rfl, trivial⟩ ⟨by simp [ofResults, Decidable.not_not.1 hc10], E.go⟩
end
end Go.Proofs.YtdkedajdgllilaaDoor

/- Contracts: what the law on wheels draws. -/
import Derived.Test.YtgkljfncpgbngaaDoorWhlA
namespace Go.Proofs.YtgkljfncpgbngaaDoor
open Go Go.Gw
set_option linter.unusedVariables false
set_option linter.unusedSimpArgs false
section
variable {w : World} {lo hi b l9 k9 : Nat} {B : Int} {v : Value} {p : List UInt8} {xs : List Int}
theorem DrawAddToCounter_c (h : SL w lo hi v p := by repeat (first | assumption | exact Go.Gw.Own.sl (by assumption) | exact Go.Gw.Box.at (by assumption) | exact Go.Gw.SLL.el (by first | assumption | exact Go.Gw.OwnD.sll (by assumption)) _ (by omega) | exact Go.Gw.SLL.at (by first | assumption | exact Go.Gw.OwnD.sll (by assumption)) (by omega) | exact Go.Gw.OwnD.sll (by assumption) | (apply Go.Gw.SL.chg; case hx => assumption) | (apply Go.Gw.Own.chg; case hx => assumption) | (apply Go.Gw.Box.chg; case hx => assumption) | (apply Go.Gw.At.chg; case hx => assumption) | exact .inl (Nat.zero_le _) | exact .inr (Nat.zero_le _) | (show _ ∨ _; omega))) : Ret Tryd.prog 27 [v] w fun u w' => ∃ d, ∃ xs : List Int, ∃ n : Int, u = .tuple #[.agg #[d], .int .i64 n] ∧ Own w' 2 w.heap.size d xs ∧ xs.length ≤ 13 ∧ In64 n ∧ Ext w w' := by
  have E : Since 0 0 w w := Since.refl 0 0 w
  refine ret_enter Tryd.func27 rfl Tryd.ntmps27 rfl ?_
  focus
    have ht_h := h.top
    refine c_seq ?_
    refine c_region ?_
    refine w_alloc (k := fun b2 w2 hb2 hx2 hl2 hs2 => ?_)
    have hz_hx2 := hx2.size
    replace h := h.ext hx2
    replace E := E.trans hx2
    refine w_pure (y_assign rfl) rfl ?_
    refine w_nil ?_
    refine x_next ?_
    refine c_seq ?_
    refine c_region ?_
    refine w_pure (y_move rfl) rfl ?_
    (refine w_call rfl rfl rfl (l11Ask_c) rfl ?_; rintro _ w5 ⟨d5, ⟨xs5, ⟨n5, ⟨rfl, ⟨hp1_5, ⟨hp2_5, ⟨hp3_5, hx5⟩⟩⟩⟩⟩⟩⟩)
    have hl_hp1_5 := hp1_5.lt
    have hz_hx5 := hx5.size
    replace hb2 := hb2.ext hx5
    replace h := h.ext hx5
    replace E := E.trans hx5
    refine w_pure (y_extract rfl rfl) rfl ?_
    refine w_pure (y_extract rfl rfl) rfl ?_
    refine w_store_boxs rfl rfl (next := fun ws13 hbs13 hxs13 hss13 => ?_)
    (replace hb2 := hbs13; clear hbs13)
    have hz_hxs13 := hxs13.size
    replace hp1_5 := hp1_5.chg hxs13 (by omega)
    replace h := h.chg hxs13 (by omega)
    replace E := E.next hxs13 (by omega)
    refine w_pure (y_assign rfl) rfl ?_
    refine w_nil ?_
    refine x_next ?_
    refine c_ret ?_
    rotate_left
  exact x_retv [_, _] rfl ⟨⟨_, rfl, run_load_str (Box.at (by assumption)) (by rfl)⟩, rfl, trivial⟩ ⟨d5, xs5, n5, rfl, Own.base (by assumption) (by omega), hp2_5, hp3_5, E.go⟩
theorem DrawTakeFromCounter_c (h : SL w lo hi v p := by repeat (first | assumption | exact Go.Gw.Own.sl (by assumption) | exact Go.Gw.Box.at (by assumption) | exact Go.Gw.SLL.el (by first | assumption | exact Go.Gw.OwnD.sll (by assumption)) _ (by omega) | exact Go.Gw.SLL.at (by first | assumption | exact Go.Gw.OwnD.sll (by assumption)) (by omega) | exact Go.Gw.OwnD.sll (by assumption) | (apply Go.Gw.SL.chg; case hx => assumption) | (apply Go.Gw.Own.chg; case hx => assumption) | (apply Go.Gw.Box.chg; case hx => assumption) | (apply Go.Gw.At.chg; case hx => assumption) | exact .inl (Nat.zero_le _) | exact .inr (Nat.zero_le _) | (show _ ∨ _; omega))) : Ret Tryd.prog 30 [v] w fun u w' => ∃ d, ∃ xs : List Int, ∃ n : Int, u = .tuple #[.agg #[d], .int .i64 n] ∧ Own w' 2 w.heap.size d xs ∧ xs.length ≤ 13 ∧ In64 n ∧ Ext w w' := by
  have E : Since 0 0 w w := Since.refl 0 0 w
  refine ret_enter Tryd.func30 rfl Tryd.ntmps30 rfl ?_
  focus
    have ht_h := h.top
    refine c_seq ?_
    refine c_region ?_
    refine w_alloc (k := fun b2 w2 hb2 hx2 hl2 hs2 => ?_)
    have hz_hx2 := hx2.size
    replace h := h.ext hx2
    replace E := E.trans hx2
    refine w_pure (y_assign rfl) rfl ?_
    refine w_nil ?_
    refine x_next ?_
    refine c_seq ?_
    refine c_region ?_
    refine w_pure (y_move rfl) rfl ?_
    (refine w_call rfl rfl rfl (srcFrom_z) rfl ?_; rintro _ w7 ⟨c7, ⟨rfl, ⟨hp1_7, ⟨hp2_7, ⟨hp3_7, hx7⟩⟩⟩⟩⟩)
    have hz_hx7 := hx7.size
    replace hb2 := hb2.ext hx7
    replace h := h.ext hx7
    replace E := E.trans hx7
    refine w_pure (y_assign rfl) rfl ?_
    refine w_nil ?_
    refine x_next ?_
    refine c_seq ?_
    refine c_region ?_
    refine w_pure (y_move rfl) rfl ?_
    (refine w_call rfl rfl rfl (l11Bent_c) rfl ?_; rintro _ w9 ⟨d9, ⟨xs9, ⟨rfl, ⟨hp1_9, ⟨hp2_9, ⟨hp3_9, hx9⟩⟩⟩⟩⟩⟩)
    have hl_hp1_9 := hp1_9.lt
    have hz_hx9 := hx9.size
    replace hb2 := hb2.chg hx9 (by omega)
    replace h := h.chg hx9 (by omega)
    replace E := E.next hx9 (by omega)
    refine w_alloc (k := fun b5 w5 hb5 hx5 hl5 hs5 => ?_)
    have hz_hx5 := hx5.size
    replace hp1_9 := hp1_9.ext hx5
    replace hp3_9 := hp3_9.ext hx5
    replace hb2 := hb2.ext hx5
    replace h := h.ext hx5
    replace E := E.trans hx5
    refine w_store_boxs rfl rfl (next := fun ws19 hbs19 hxs19 hss19 => ?_)
    (replace hb5 := hbs19; clear hbs19)
    have hz_hxs19 := hxs19.size
    replace hp1_9 := hp1_9.chg hxs19 (by omega)
    replace hp3_9 := hp3_9.chg hxs19 (by omega)
    replace hb2 := hb2.chg hxs19 (by omega)
    replace h := h.chg hxs19 (by omega)
    replace E := E.next hxs19 (by omega)
    refine w_nil ?_
    refine x_next ?_
    refine c_seq ?_
    refine c_seq ?_
    refine c_region ?_
    refine w_val rfl rfl rfl (l11Ok_z) rfl (fun w10 hx10 hz10 => ?_)
    have hz_hx10 := hx10.size
    replace hb5 := hb5.ext hx10
    replace hp1_9 := hp1_9.ext hx10
    replace hp3_9 := hp3_9.ext hx10
    replace hb2 := hb2.ext hx10
    replace h := h.ext hx10
    replace E := E.trans hx10
    refine w_pure (y_move rfl) rfl ?_
    (refine w_part rfl rfl (fun hc12 => ?_) (fun hc12 => ?_) <;> try (first | exact absurd rfl hc12 | contradiction | exact Bool.noConfusion (show false = true from hc12.symm.trans (by assumption)) | exact Bool.noConfusion (show true = false from hc12.symm.trans (by assumption)) | (exfalso; omega) | (exfalso; simp only [*, Bool.not_true, Bool.not_false, reduceCtorEq] at hc12; done)))
    refine w_yes rfl rfl ?_
    refine w_pure (y_move rfl) rfl ?_
    refine w_yes rfl rfl ?_
    (refine w_call rfl rfl rfl (srcOne_c _) rfl ?_; rintro _ w13 ⟨q13, ⟨rfl, ⟨hp1_13, hx13⟩⟩⟩)
    have hz_hx13 := hx13.size
    replace hb5 := hb5.chg hx13 (by omega)
    replace hp1_9 := hp1_9.chg hx13 (by omega)
    replace hb2 := hb2.chg hx13 (by omega)
    replace h := h.chg hx13 (by omega)
    replace E := E.next hx13 (by omega)
    refine w_pure (y_pick_t rfl rfl) rfl ?_
    refine w_nil ?_
    refine x_next ?_
    (refine c_if rfl (fun hc14 => ?_) (fun hc14 => ?_) <;> try (first | exact absurd rfl hc14 | contradiction | exact Bool.noConfusion (show false = true from hc14.symm.trans (by assumption)) | exact Bool.noConfusion (show true = false from hc14.symm.trans (by assumption)) | (exfalso; omega) | (exfalso; simp only [*, Bool.not_true, Bool.not_false, reduceCtorEq] at hc14; done)))
    refine c_seq ?_
    refine c_region_held mixed (fun wr4 hxr4 hzr4 => ?_)
    have hz_hxr4 := hxr4.size
    replace hp1_13 := hp1_13.ext hxr4
    replace hb5 := hb5.ext hxr4
    replace hp1_9 := hp1_9.ext hxr4
    replace hb2 := hb2.ext hxr4
    replace h := h.ext hxr4
    replace E := E.trans hxr4
    refine h_pure rfl (y_load_boxs rfl) rfl ?_
    refine h_one rfl ?_
    refine w_val rfl rfl rfl (l11Value_z) rfl (fun w16 hx16 hz16 => ?_)
    have hz_hx16 := hx16.size
    replace hp1_13 := hp1_13.ext hx16
    replace hb5 := hb5.ext hx16
    replace hp1_9 := hp1_9.ext hx16
    replace hb2 := hb2.ext hx16
    replace h := h.ext hx16
    replace E := E.trans hx16
    refine w_nil ?_
    refine x_held ?_
    refine h_one rfl ?_
    refine w_store_boxs rfl rfl (next := fun ws44 hbs44 hxs44 hss44 => ?_)
    (replace hb2 := hbs44; clear hbs44)
    have hz_hxs44 := hxs44.size
    replace hp1_13 := hp1_13.chg hxs44 (by omega)
    replace hb5 := hb5.chg hxs44 (by omega)
    replace hp1_9 := hp1_9.chg hxs44 (by omega)
    replace h := h.chg hxs44 (by omega)
    replace E := E.next hxs44 (by omega)
    refine w_nil ?_
    refine x_heldk ?_
    refine h_pure rfl (y_assign rfl) rfl ?_
    refine h_nil ?_
    refine x_next ?_
    refine c_ret ?_
    refine x_then_ret ?_
    rotate_left
    refine c_skip ?_
    refine x_next ?_
    refine c_seq ?_
    refine c_region ?_
    refine w_pure (y_move rfl) rfl ?_
    (refine w_call rfl rfl rfl (l11Ask_c) rfl ?_; rintro _ w18 ⟨d18, ⟨xs18, ⟨n18, ⟨rfl, ⟨hp1_18, ⟨hp2_18, ⟨hp3_18, hx18⟩⟩⟩⟩⟩⟩⟩)
    have hl_hp1_18 := hp1_18.lt
    have hz_hx18 := hx18.size
    replace hp1_13 := hp1_13.ext hx18
    replace hb5 := hb5.ext hx18
    replace hp1_9 := hp1_9.ext hx18
    replace hb2 := hb2.ext hx18
    replace h := h.ext hx18
    replace E := E.trans hx18
    refine w_pure (y_extract rfl rfl) rfl ?_
    refine w_pure (y_extract rfl rfl) rfl ?_
    refine w_store_boxs rfl rfl (next := fun ws61 hbs61 hxs61 hss61 => ?_)
    (replace hb2 := hbs61; clear hbs61)
    have hz_hxs61 := hxs61.size
    replace hp1_18 := hp1_18.chg hxs61 (by omega)
    replace hp1_13 := hp1_13.chg hxs61 (by omega)
    replace hb5 := hb5.chg hxs61 (by omega)
    replace hp1_9 := hp1_9.chg hxs61 (by omega)
    replace h := h.chg hxs61 (by omega)
    replace E := E.next hxs61 (by omega)
    refine w_pure (y_assign rfl) rfl ?_
    refine w_nil ?_
    refine x_next ?_
    refine c_ret ?_
    rotate_left
    refine w_no rfl rfl rfl rfl ?_
    refine w_no rfl rfl rfl rfl ?_
    refine w_pure (y_pick_f rfl rfl) rfl ?_
    refine w_nil ?_
    refine x_next ?_
    refine c_false rfl ?_
    refine c_skip ?_
    refine x_next ?_
    refine c_seq ?_
    refine c_region ?_
    refine w_pure (y_move rfl) rfl ?_
    (refine w_call rfl rfl rfl (l11Ask_c) rfl ?_; rintro _ w18 ⟨d18, ⟨xs18, ⟨n18, ⟨rfl, ⟨hp1_18, ⟨hp2_18, ⟨hp3_18, hx18⟩⟩⟩⟩⟩⟩⟩)
    have hl_hp1_18 := hp1_18.lt
    have hz_hx18 := hx18.size
    replace hb5 := hb5.ext hx18
    replace hp1_9 := hp1_9.ext hx18
    replace hp3_9 := hp3_9.ext hx18
    replace hb2 := hb2.ext hx18
    replace h := h.ext hx18
    replace E := E.trans hx18
    refine w_pure (y_extract rfl rfl) rfl ?_
    refine w_pure (y_extract rfl rfl) rfl ?_
    refine w_store_boxs rfl rfl (next := fun ws81 hbs81 hxs81 hss81 => ?_)
    (replace hb2 := hbs81; clear hbs81)
    have hz_hxs81 := hxs81.size
    replace hp1_18 := hp1_18.chg hxs81 (by omega)
    replace hb5 := hb5.chg hxs81 (by omega)
    replace hp1_9 := hp1_9.chg hxs81 (by omega)
    replace hp3_9 := hp3_9.chg hxs81 (by omega)
    replace h := h.chg hxs81 (by omega)
    replace E := E.next hxs81 (by omega)
    refine w_pure (y_assign rfl) rfl ?_
    refine w_nil ?_
    refine x_next ?_
    refine c_ret ?_
    rotate_left
  · have hv := valD_drop_bd hc12 0
    rw [List.drop_zero] at hv
    exact x_retv [_, _] rfl ⟨⟨_, rfl, run_load_str (Box.at (by assumption)) (by rfl)⟩, rfl, trivial⟩ ⟨d9, xs9, _, rfl, Own.base (by assumption) (by omega), hp2_9, ⟨by omega, by omega⟩, E.go⟩
  · exact x_retv [_, _] rfl ⟨⟨_, rfl, run_load_str (Box.at (by assumption)) (by rfl)⟩, rfl, trivial⟩ ⟨d18, xs18, n18, rfl, Own.base (by assumption) (by omega), hp2_18, hp3_18, E.go⟩
  · exact x_retv [_, _] rfl ⟨⟨_, rfl, run_load_str (Box.at (by assumption)) (by rfl)⟩, rfl, trivial⟩ ⟨d18, xs18, n18, rfl, Own.base (by assumption) (by omega), hp2_18, hp3_18, E.go⟩
theorem DrawComplementOf_c (h : SL w lo hi v p := by repeat (first | assumption | exact Go.Gw.Own.sl (by assumption) | exact Go.Gw.Box.at (by assumption) | exact Go.Gw.SLL.el (by first | assumption | exact Go.Gw.OwnD.sll (by assumption)) _ (by omega) | exact Go.Gw.SLL.at (by first | assumption | exact Go.Gw.OwnD.sll (by assumption)) (by omega) | exact Go.Gw.OwnD.sll (by assumption) | (apply Go.Gw.SL.chg; case hx => assumption) | (apply Go.Gw.Own.chg; case hx => assumption) | (apply Go.Gw.Box.chg; case hx => assumption) | (apply Go.Gw.At.chg; case hx => assumption) | exact .inl (Nat.zero_le _) | exact .inr (Nat.zero_le _) | (show _ ∨ _; omega))) : Ret Tryd.prog 35 [v] w fun u w' => ∃ d, ∃ xs : List Int, u = .agg #[d] ∧ Own w' 2 w.heap.size d xs ∧ xs.length ≤ 13 ∧ Ext w w' := by
  have E : Since 0 0 w w := Since.refl 0 0 w
  refine ret_enter Tryd.func35 rfl Tryd.ntmps35 rfl ?_
  focus
    have ht_h := h.top
    refine c_seq ?_
    refine c_region ?_
    refine w_alloc (k := fun b2 w2 hb2 hx2 hl2 hs2 => ?_)
    have hz_hx2 := hx2.size
    replace h := h.ext hx2
    replace E := E.trans hx2
    refine w_nil ?_
    refine x_next ?_
    refine c_seq ?_
    refine c_region ?_
    refine w_pure (y_move rfl) rfl ?_
    (refine w_call rfl rfl rfl (srcFrom_z) rfl ?_; rintro _ w4 ⟨c4, ⟨rfl, ⟨hp1_4, ⟨hp2_4, ⟨hp3_4, hx4⟩⟩⟩⟩⟩)
    have hz_hx4 := hx4.size
    replace hb2 := hb2.ext hx4
    replace h := h.ext hx4
    replace E := E.trans hx4
    (refine w_call rfl rfl rfl (l11Bent_c) rfl ?_; rintro _ w5 ⟨d5, ⟨xs5, ⟨rfl, ⟨hp1_5, ⟨hp2_5, ⟨hp3_5, hx5⟩⟩⟩⟩⟩⟩)
    have hl_hp1_5 := hp1_5.lt
    have hz_hx5 := hx5.size
    replace hb2 := hb2.chg hx5 (by omega)
    replace h := h.chg hx5 (by omega)
    replace E := E.next hx5 (by omega)
    refine w_store_boxs rfl rfl (next := fun ws11 hbs11 hxs11 hss11 => ?_)
    (replace hb2 := hbs11; clear hbs11)
    have hz_hxs11 := hxs11.size
    replace hp1_5 := hp1_5.chg hxs11 (by omega)
    replace hp3_5 := hp3_5.chg hxs11 (by omega)
    replace h := h.chg hxs11 (by omega)
    replace E := E.next hxs11 (by omega)
    refine w_nil ?_
    refine x_next ?_
    refine c_ret ?_
    rotate_left
  exact x_retv [_] rfl ⟨⟨_, rfl, run_load_str (Box.at (by assumption)) (by rfl)⟩, trivial⟩ ⟨d5, xs5, rfl, Own.base (by assumption) (by omega), hp2_5, E.go⟩
theorem DrawCounterText_c (h : SL w lo hi v p := by repeat (first | assumption | exact Go.Gw.Own.sl (by assumption) | exact Go.Gw.Box.at (by assumption) | exact Go.Gw.SLL.el (by first | assumption | exact Go.Gw.OwnD.sll (by assumption)) _ (by omega) | exact Go.Gw.SLL.at (by first | assumption | exact Go.Gw.OwnD.sll (by assumption)) (by omega) | exact Go.Gw.OwnD.sll (by assumption) | (apply Go.Gw.SL.chg; case hx => assumption) | (apply Go.Gw.Own.chg; case hx => assumption) | (apply Go.Gw.Box.chg; case hx => assumption) | (apply Go.Gw.At.chg; case hx => assumption) | exact .inl (Nat.zero_le _) | exact .inr (Nat.zero_le _) | (show _ ∨ _; omega))) : Ret Tryd.prog 41 [v] w fun u w' => ∃ d, ∃ xs : List Int, u = .agg #[d] ∧ Own w' 2 w.heap.size d xs ∧ xs.length ≤ 13 ∧ Ext w w' := by
  have E : Since 0 0 w w := Since.refl 0 0 w
  refine ret_enter Tryd.func41 rfl Tryd.ntmps41 rfl ?_
  focus
    have ht_h := h.top
    refine c_seq ?_
    refine c_region ?_
    refine w_alloc (k := fun b2 w2 hb2 hx2 hl2 hs2 => ?_)
    have hz_hx2 := hx2.size
    replace h := h.ext hx2
    replace E := E.trans hx2
    refine w_nil ?_
    refine x_next ?_
    refine c_seq ?_
    refine c_region ?_
    refine w_pure (y_move rfl) rfl ?_
    (refine w_call rfl rfl rfl (srcFrom_z) rfl ?_; rintro _ w4 ⟨c4, ⟨rfl, ⟨hp1_4, ⟨hp2_4, ⟨hp3_4, hx4⟩⟩⟩⟩⟩)
    have hz_hx4 := hx4.size
    replace hb2 := hb2.ext hx4
    replace h := h.ext hx4
    replace E := E.trans hx4
    (refine w_call rfl rfl rfl (l11Bent_c) rfl ?_; rintro _ w5 ⟨d5, ⟨xs5, ⟨rfl, ⟨hp1_5, ⟨hp2_5, ⟨hp3_5, hx5⟩⟩⟩⟩⟩⟩)
    have hl_hp1_5 := hp1_5.lt
    have hz_hx5 := hx5.size
    replace hb2 := hb2.chg hx5 (by omega)
    replace h := h.chg hx5 (by omega)
    replace E := E.next hx5 (by omega)
    refine w_store_boxs rfl rfl (next := fun ws11 hbs11 hxs11 hss11 => ?_)
    (replace hb2 := hbs11; clear hbs11)
    have hz_hxs11 := hxs11.size
    replace hp1_5 := hp1_5.chg hxs11 (by omega)
    replace hp3_5 := hp3_5.chg hxs11 (by omega)
    replace h := h.chg hxs11 (by omega)
    replace E := E.next hxs11 (by omega)
    refine w_nil ?_
    refine x_next ?_
    refine c_ret ?_
    rotate_left
  exact x_retv [_] rfl ⟨⟨_, rfl, run_load_str (Box.at (by assumption)) (by rfl)⟩, trivial⟩ ⟨d5, xs5, rfl, Own.base (by assumption) (by omega), hp2_5, E.go⟩
theorem DrawSetCounter_c (h : SL w lo hi v p := by repeat (first | assumption | exact Go.Gw.Own.sl (by assumption) | exact Go.Gw.Box.at (by assumption) | exact Go.Gw.SLL.el (by first | assumption | exact Go.Gw.OwnD.sll (by assumption)) _ (by omega) | exact Go.Gw.SLL.at (by first | assumption | exact Go.Gw.OwnD.sll (by assumption)) (by omega) | exact Go.Gw.OwnD.sll (by assumption) | (apply Go.Gw.SL.chg; case hx => assumption) | (apply Go.Gw.Own.chg; case hx => assumption) | (apply Go.Gw.Box.chg; case hx => assumption) | (apply Go.Gw.At.chg; case hx => assumption) | exact .inl (Nat.zero_le _) | exact .inr (Nat.zero_le _) | (show _ ∨ _; omega))) : Ret Tryd.prog 38 [v] w fun u w' => ∃ k n : Int, u = .tuple #[.int .i64 k, .int .i64 n] ∧ In64 k ∧ In64 n ∧ Ext w w' := by
  have E : Since 0 0 w w := Since.refl 0 0 w
  refine ret_enter Tryd.func38 rfl Tryd.ntmps38 rfl ?_
  focus
    have ht_h := h.top
    refine c_seq ?_
    refine c_region ?_
    refine w_pure (y_assign rfl) rfl ?_
    refine w_pure (y_assign rfl) rfl ?_
    refine w_nil ?_
    refine x_next ?_
    refine c_seq ?_
    refine c_region ?_
    refine w_pure (y_move rfl) rfl ?_
    (refine w_call rfl rfl rfl (srcFrom_z) rfl ?_; rintro _ w7 ⟨c7, ⟨rfl, ⟨hp1_7, ⟨hp2_7, ⟨hp3_7, hx7⟩⟩⟩⟩⟩)
    have hz_hx7 := hx7.size
    replace h := h.ext hx7
    replace E := E.trans hx7
    refine w_pure (y_assign rfl) rfl ?_
    refine w_nil ?_
    refine x_next ?_
    refine c_seq ?_
    refine c_region ?_
    refine w_pure (y_move rfl) rfl ?_
    (refine w_call rfl rfl rfl (srcPick_z _) rfl ?_; rintro _ w9 ⟨x9, ⟨rfl, ⟨⟨hp1_9, hp2_9⟩, ⟨hp3_9, hx9⟩⟩⟩⟩)
    have hz_hx9 := hx9.size
    replace h := h.chg hx9 (by omega)
    replace E := E.next hx9 (by omega)
    refine w_pure (y_add rfl rfl) rfl ?_
    refine w_pure (y_assign rfl) rfl ?_
    refine w_nil ?_
    refine x_next ?_
    refine c_seq ?_
    refine c_seq ?_
    refine c_region ?_
    refine w_pure (y_move rfl) rfl ?_
    (refine w_call rfl rfl rfl (srcOne_c _) rfl ?_; rintro _ w12 ⟨q12, ⟨rfl, ⟨hp1_12, hx12⟩⟩⟩)
    have hz_hx12 := hx12.size
    replace h := h.chg hx12 (by omega)
    replace E := E.next hx12 (by omega)
    refine w_nil ?_
    refine x_next ?_
    (refine c_if rfl (fun hc12 => ?_) (fun hc12 => ?_) <;> try (first | exact absurd rfl hc12 | contradiction | exact Bool.noConfusion (show false = true from hc12.symm.trans (by assumption)) | exact Bool.noConfusion (show true = false from hc12.symm.trans (by assumption)) | (exfalso; omega) | (exfalso; simp only [*, Bool.not_true, Bool.not_false, reduceCtorEq] at hc12; done)))
    refine c_region ?_
    refine w_pure (y_move rfl) rfl ?_
    refine w_lit (α := Int) rfl rfl rfl rfl rfl rfl rfl rfl (fun v14 w14 ho14 hx14 hl14 hh14 hs14 => ?_)
    have hl_ho14 := ho14.lt
    have hz_hx14 := hx14.size
    replace hp1_12 := hp1_12.ext hx14
    replace h := h.ext hx14
    replace E := E.trans hx14
    (refine w_call rfl rfl rfl (srcAmong_z) rfl ?_; rintro _ w15 ⟨x15, ⟨rfl, ⟨hp1_15, ⟨hp2_15, hx15⟩⟩⟩⟩)
    have hz_hx15 := hx15.size
    replace ho14 := ho14.chg hx15 (by omega)
    replace h := h.chg hx15 (by omega)
    replace E := E.next hx15 (by omega)
    refine w_pure (y_assign rfl) rfl ?_
    refine w_nil ?_
    refine x_next ?_
    refine c_seq ?_
    refine c_seq ?_
    refine c_region ?_
    refine w_pure (y_move rfl) rfl ?_
    (refine w_call rfl rfl rfl (srcOne_c _) rfl ?_; rintro _ w17 ⟨q17, ⟨rfl, ⟨hp1_17, hx17⟩⟩⟩)
    have hz_hx17 := hx17.size
    replace ho14 := ho14.chg hx17 (by omega)
    replace h := h.chg hx17 (by omega)
    replace E := E.next hx17 (by omega)
    refine w_nil ?_
    refine x_next ?_
    (refine c_if rfl (fun hc17 => ?_) (fun hc17 => ?_) <;> try (first | exact absurd rfl hc17 | contradiction | exact Bool.noConfusion (show false = true from hc17.symm.trans (by assumption)) | exact Bool.noConfusion (show true = false from hc17.symm.trans (by assumption)) | (exfalso; omega) | (exfalso; simp only [*, Bool.not_true, Bool.not_false, reduceCtorEq] at hc17; done)))
    refine c_seq ?_
    refine c_region ?_
    refine w_pure (y_move rfl) rfl ?_
    refine w_pure (y_move rfl) rfl ?_
    refine w_lit (α := Int) rfl rfl rfl rfl rfl rfl rfl rfl (fun v20 w20 ho20 hx20 hl20 hh20 hs20 => ?_)
    have hl_ho20 := ho20.lt
    have hz_hx20 := hx20.size
    replace hp1_17 := hp1_17.ext hx20
    replace ho14 := ho14.ext hx20
    replace h := h.ext hx20
    replace E := E.trans hx20
    (refine w_call rfl rfl rfl (srcAmong_z) rfl ?_; rintro _ w21 ⟨x21, ⟨rfl, ⟨hp1_21, ⟨hp2_21, hx21⟩⟩⟩⟩)
    have hz_hx21 := hx21.size
    replace ho20 := ho20.chg hx21 (by omega)
    replace ho14 := ho14.chg hx21 (by omega)
    replace h := h.chg hx21 (by omega)
    replace E := E.next hx21 (by omega)
    refine w_pure (y_assign rfl) rfl ?_
    refine w_pure (y_assign rfl) rfl ?_
    refine w_nil ?_
    refine x_next ?_
    refine c_ret ?_
    refine x_then_ret ?_
    rotate_left
    refine c_skip ?_
    refine x_next ?_
    refine c_seq ?_
    refine c_region ?_
    refine w_pure (y_move rfl) rfl ?_
    refine w_pure (y_move rfl) rfl ?_
    (refine w_call rfl rfl rfl (srcPick_z _) rfl ?_; rintro _ w24 ⟨x24, ⟨rfl, ⟨⟨hp1_24, hp2_24⟩, ⟨hp3_24, hx24⟩⟩⟩⟩)
    have hz_hx24 := hx24.size
    replace ho14 := ho14.chg hx24 (by omega)
    replace h := h.chg hx24 (by omega)
    replace E := E.next hx24 (by omega)
    refine w_pure (y_assign rfl) rfl ?_
    refine w_pure (y_assign rfl) rfl ?_
    refine w_nil ?_
    refine x_next ?_
    refine c_ret ?_
    rotate_left
    refine c_skip ?_
    refine x_next ?_
    refine c_seq ?_
    refine c_seq ?_
    refine c_region ?_
    refine w_pure (y_move rfl) rfl ?_
    (refine w_call rfl rfl rfl (srcOne_c _) rfl ?_; rintro _ w17 ⟨q17, ⟨rfl, ⟨hp1_17, hx17⟩⟩⟩)
    have hz_hx17 := hx17.size
    replace h := h.chg hx17 (by omega)
    replace E := E.next hx17 (by omega)
    refine w_nil ?_
    refine x_next ?_
    (refine c_if rfl (fun hc17 => ?_) (fun hc17 => ?_) <;> try (first | exact absurd rfl hc17 | contradiction | exact Bool.noConfusion (show false = true from hc17.symm.trans (by assumption)) | exact Bool.noConfusion (show true = false from hc17.symm.trans (by assumption)) | (exfalso; omega) | (exfalso; simp only [*, Bool.not_true, Bool.not_false, reduceCtorEq] at hc17; done)))
    refine c_seq ?_
    refine c_region ?_
    refine w_pure (y_move rfl) rfl ?_
    refine w_pure (y_move rfl) rfl ?_
    refine w_lit (α := Int) rfl rfl rfl rfl rfl rfl rfl rfl (fun v20 w20 ho20 hx20 hl20 hh20 hs20 => ?_)
    have hl_ho20 := ho20.lt
    have hz_hx20 := hx20.size
    replace hp1_17 := hp1_17.ext hx20
    replace h := h.ext hx20
    replace E := E.trans hx20
    (refine w_call rfl rfl rfl (srcAmong_z) rfl ?_; rintro _ w21 ⟨x21, ⟨rfl, ⟨hp1_21, ⟨hp2_21, hx21⟩⟩⟩⟩)
    have hz_hx21 := hx21.size
    replace ho20 := ho20.chg hx21 (by omega)
    replace h := h.chg hx21 (by omega)
    replace E := E.next hx21 (by omega)
    refine w_pure (y_assign rfl) rfl ?_
    refine w_pure (y_assign rfl) rfl ?_
    refine w_nil ?_
    refine x_next ?_
    refine c_ret ?_
    refine x_then_ret ?_
    rotate_left
    refine c_skip ?_
    refine x_next ?_
    refine c_seq ?_
    refine c_region ?_
    refine w_pure (y_move rfl) rfl ?_
    refine w_pure (y_move rfl) rfl ?_
    (refine w_call rfl rfl rfl (srcPick_z _) rfl ?_; rintro _ w24 ⟨x24, ⟨rfl, ⟨⟨hp1_24, hp2_24⟩, ⟨hp3_24, hx24⟩⟩⟩⟩)
    have hz_hx24 := hx24.size
    replace h := h.chg hx24 (by omega)
    replace E := E.next hx24 (by omega)
    refine w_pure (y_assign rfl) rfl ?_
    refine w_pure (y_assign rfl) rfl ?_
    refine w_nil ?_
    refine x_next ?_
    refine c_ret ?_
    rotate_left
  all_goals exact x_retv [_, _] rfl ⟨rfl, rfl, trivial⟩ ⟨_, _, rfl, by first | exact ⟨by omega, by omega⟩ | (simp only [List.mem_cons, List.not_mem_nil, or_false] at hp1_15; exact ⟨by omega, by omega⟩), by first | exact ⟨by omega, by omega⟩ | (simp only [List.mem_cons, List.not_mem_nil, or_false] at hp1_21; exact ⟨by omega, by omega⟩), E.go⟩
theorem DrawReadCounter_c (h : SL w lo hi v p := by repeat (first | assumption | exact Go.Gw.Own.sl (by assumption) | exact Go.Gw.Box.at (by assumption) | exact Go.Gw.SLL.el (by first | assumption | exact Go.Gw.OwnD.sll (by assumption)) _ (by omega) | exact Go.Gw.SLL.at (by first | assumption | exact Go.Gw.OwnD.sll (by assumption)) (by omega) | exact Go.Gw.OwnD.sll (by assumption) | (apply Go.Gw.SL.chg; case hx => assumption) | (apply Go.Gw.Own.chg; case hx => assumption) | (apply Go.Gw.Box.chg; case hx => assumption) | (apply Go.Gw.At.chg; case hx => assumption) | exact .inl (Nat.zero_le _) | exact .inr (Nat.zero_le _) | (show _ ∨ _; omega))) : Ret Tryd.prog 44 [v] w fun u w' => ∃ q : List UInt8, u = str q ∧ q.length ≤ 1000 ∧ Ext w w' := by
  have E : Since 0 0 w w := Since.refl 0 0 w
  refine ret_enter Tryd.func44 rfl Tryd.ntmps44 rfl ?_
  focus
    have ht_h := h.top
    refine c_seq ?_
    refine c_region ?_
    refine w_pure (y_assign rfl) rfl ?_
    refine w_nil ?_
    refine x_next ?_
    refine c_seq ?_
    refine c_region ?_
    refine w_pure (y_move rfl) rfl ?_
    (refine w_call rfl rfl rfl (srcFrom_z) rfl ?_; rintro _ w7 ⟨c7, ⟨rfl, ⟨hp1_7, ⟨hp2_7, ⟨hp3_7, hx7⟩⟩⟩⟩⟩)
    have hz_hx7 := hx7.size
    replace h := h.ext hx7
    replace E := E.trans hx7
    refine w_pure (y_assign rfl) rfl ?_
    refine w_nil ?_
    refine x_next ?_
    refine c_seq ?_
    refine c_region ?_
    refine w_pure (y_move rfl) rfl ?_
    (refine w_call rfl rfl rfl (l11Draw_z) rfl ?_; rintro _ w9 ⟨d9, ⟨xs9, ⟨rfl, ⟨hp1_9, ⟨⟨hp2_9, hp3_9⟩, ⟨hp4_9, ⟨hp5_9, hx9⟩⟩⟩⟩⟩⟩⟩)
    have hl_hp1_9 := hp1_9.lt
    have hz_hx9 := hx9.size
    replace h := h.chg hx9 (by omega)
    replace E := E.next hx9 (by omega)
    refine w_alloc (k := fun b4 w4 hb4 hx4 hl4 hs4 => ?_)
    have hz_hx4 := hx4.size
    replace hp1_9 := hp1_9.ext hx4
    replace hp5_9 := hp5_9.ext hx4
    replace h := h.ext hx4
    replace E := E.trans hx4
    refine w_store_boxs rfl rfl (next := fun ws18 hbs18 hxs18 hss18 => ?_)
    (replace hb4 := hbs18; clear hbs18)
    have hz_hxs18 := hxs18.size
    replace hp1_9 := hp1_9.chg hxs18 (by omega)
    replace hp5_9 := hp5_9.chg hxs18 (by omega)
    replace h := h.chg hxs18 (by omega)
    replace E := E.next hxs18 (by omega)
    refine w_nil ?_
    refine x_next ?_
    refine c_seq ?_
    refine c_region ?_
    rotate_left
  have hcl : (ctext xs9).length = xs9.length := by simp [ctext]
  focus
    have ht_hp2_7 := hp2_7.top
    have ht_hp5_9 := hp5_9.top
    refine w_val rfl rfl rfl (l11Text_c (by omega)) rfl (fun w10 hx10 hz10 => ?_)
    have hz_hx10 := hx10.size
    replace hb4 := hb4.ext hx10
    replace hp1_9 := hp1_9.ext hx10
    replace hp5_9 := hp5_9.ext hx10
    replace h := h.ext hx10
    replace E := E.trans hx10
    refine w_pure (y_assign rfl) rfl ?_
    refine w_nil ?_
    refine x_next ?_
    refine c_seq ?_
    refine c_seq ?_
    refine c_region ?_
    refine w_pure (y_move rfl) rfl ?_
    (refine w_call rfl rfl rfl (srcOne_c _) rfl ?_; rintro _ w12 ⟨q12, ⟨rfl, ⟨hp1_12, hx12⟩⟩⟩)
    have hz_hx12 := hx12.size
    replace hb4 := hb4.chg hx12 (by omega)
    replace hp1_9 := hp1_9.chg hx12 (by omega)
    replace h := h.chg hx12 (by omega)
    replace E := E.next hx12 (by omega)
    refine w_nil ?_
    refine x_next ?_
    (refine c_if rfl (fun hc12 => ?_) (fun hc12 => ?_) <;> try (first | exact absurd rfl hc12 | contradiction | exact Bool.noConfusion (show false = true from hc12.symm.trans (by assumption)) | exact Bool.noConfusion (show true = false from hc12.symm.trans (by assumption)) | (exfalso; omega) | (exfalso; simp only [*, Bool.not_true, Bool.not_false, reduceCtorEq] at hc12; done)))
    refine c_seq ?_
    refine c_region ?_
    refine w_pure (y_move rfl) rfl ?_
    refine w_pure (y_move rfl) rfl ?_
    (refine w_call rfl rfl rfl (l01Spoil_c) rfl ?_; rintro _ w15 ⟨q15, ⟨rfl, ⟨hp1_15, ⟨hp2_15, hx15⟩⟩⟩⟩)
    have hz_hx15 := hx15.size
    replace hb4 := hb4.chg hx15 (by omega)
    replace hp1_9 := hp1_9.chg hx15 (by omega)
    replace h := h.chg hx15 (by omega)
    replace E := E.next hx15 (by omega)
    refine w_pure (y_assign rfl) rfl ?_
    refine w_nil ?_
    refine x_next ?_
    refine c_ret ?_
    refine x_then_ret ?_
    rotate_left
    refine c_skip ?_
    refine x_next ?_
    refine c_seq ?_
    refine c_seq ?_
    refine c_region ?_
    refine w_pure (y_move rfl) rfl ?_
    (refine w_call rfl rfl rfl (srcOne_c _) rfl ?_; rintro _ w17 ⟨q17, ⟨rfl, ⟨hp1_17, hx17⟩⟩⟩)
    have hz_hx17 := hx17.size
    replace hb4 := hb4.chg hx17 (by omega)
    replace hp1_9 := hp1_9.chg hx17 (by omega)
    replace h := h.chg hx17 (by omega)
    replace E := E.next hx17 (by omega)
    refine w_nil ?_
    refine x_next ?_
    (refine c_if rfl (fun hc17 => ?_) (fun hc17 => ?_) <;> try (first | exact absurd rfl hc17 | contradiction | exact Bool.noConfusion (show false = true from hc17.symm.trans (by assumption)) | exact Bool.noConfusion (show true = false from hc17.symm.trans (by assumption)) | (exfalso; omega) | (exfalso; simp only [*, Bool.not_true, Bool.not_false, reduceCtorEq] at hc17; done)))
    refine c_seq ?_
    refine c_region ?_
    refine w_pure (y_move rfl) rfl ?_
    refine w_lit (α := (List UInt8)) rfl rfl rfl rfl rfl rfl rfl rfl (fun v19 w19 ho19 hx19 hl19 hh19 hs19 => ?_)
    have hl_ho19 := ho19.lt
    have hz_hx19 := hx19.size
    replace hp1_17 := hp1_17.ext hx19
    replace hb4 := hb4.ext hx19
    replace hp1_9 := hp1_9.ext hx19
    replace h := h.ext hx19
    replace E := E.trans hx19
    (refine w_call rfl rfl rfl (srcText_c) rfl ?_; rintro _ w20 ⟨x20, ⟨rfl, ⟨hp1_20, ⟨hp2_20, hx20⟩⟩⟩⟩)
    have hz_hx20 := hx20.size
    replace ho19 := ho19.chg hx20 (by omega)
    replace hb4 := hb4.chg hx20 (by omega)
    replace hp1_9 := hp1_9.chg hx20 (by omega)
    replace h := h.chg hx20 (by omega)
    replace E := E.next hx20 (by omega)
    refine w_pure (y_assign rfl) rfl ?_
    refine w_nil ?_
    refine x_next ?_
    refine c_ret ?_
    refine x_then_ret ?_
    rotate_left
    refine c_skip ?_
    refine x_next ?_
    refine c_seq ?_
    refine c_region ?_
    refine w_pure (y_move rfl) rfl ?_
    refine w_pure (y_assign rfl) rfl ?_
    refine w_nil ?_
    refine x_next ?_
    refine c_ret ?_
    rotate_left
  all_goals exact x_retv [_] rfl ⟨rfl, trivial⟩ ⟨_, rfl, by omega, E.go⟩
theorem DrawSameCounter_c (h : SL w lo hi v p := by repeat (first | assumption | exact Go.Gw.Own.sl (by assumption) | exact Go.Gw.Box.at (by assumption) | exact Go.Gw.SLL.el (by first | assumption | exact Go.Gw.OwnD.sll (by assumption)) _ (by omega) | exact Go.Gw.SLL.at (by first | assumption | exact Go.Gw.OwnD.sll (by assumption)) (by omega) | exact Go.Gw.OwnD.sll (by assumption) | (apply Go.Gw.SL.chg; case hx => assumption) | (apply Go.Gw.Own.chg; case hx => assumption) | (apply Go.Gw.Box.chg; case hx => assumption) | (apply Go.Gw.At.chg; case hx => assumption) | exact .inl (Nat.zero_le _) | exact .inr (Nat.zero_le _) | (show _ ∨ _; omega))) : Ret Tryd.prog 46 [v] w fun u w' => ∃ d, ∃ xs : List Int, ∃ e, ∃ ys : List Int, u = .tuple #[.agg #[d], .agg #[e]] ∧ Own w' 2 w.heap.size d xs ∧ Own w' 2 w.heap.size e ys ∧ xs.length ≤ 13 ∧ ys.length ≤ 13 ∧ Ext w w' := by
  have E : Since 0 0 w w := Since.refl 0 0 w
  refine ret_enter Tryd.func46 rfl Tryd.ntmps46 rfl ?_
  focus
    have ht_h := h.top
    refine c_seq ?_
    refine c_region ?_
    refine w_alloc (k := fun b2 w2 hb2 hx2 hl2 hs2 => ?_)
    have hz_hx2 := hx2.size
    replace h := h.ext hx2
    replace E := E.trans hx2
    refine w_alloc (k := fun b3 w3 hb3 hx3 hl3 hs3 => ?_)
    have hz_hx3 := hx3.size
    replace hb2 := hb2.ext hx3
    replace h := h.ext hx3
    replace E := E.trans hx3
    refine w_nil ?_
    refine x_next ?_
    refine c_seq ?_
    refine c_region ?_
    refine w_pure (y_move rfl) rfl ?_
    (refine w_call rfl rfl rfl (srcFrom_z) rfl ?_; rintro _ w8 ⟨c8, ⟨rfl, ⟨hp1_8, ⟨hp2_8, ⟨hp3_8, hx8⟩⟩⟩⟩⟩)
    have hz_hx8 := hx8.size
    replace hb3 := hb3.ext hx8
    replace hb2 := hb2.ext hx8
    replace h := h.ext hx8
    replace E := E.trans hx8
    refine w_pure (y_assign rfl) rfl ?_
    refine w_nil ?_
    refine x_next ?_
    refine c_seq ?_
    refine c_region ?_
    refine w_pure (y_move rfl) rfl ?_
    (refine w_call rfl rfl rfl (l11Draw_z) rfl ?_; rintro _ w10 ⟨d10, ⟨xs10, ⟨rfl, ⟨hp1_10, ⟨⟨hp2_10, hp3_10⟩, ⟨hp4_10, ⟨hp5_10, hx10⟩⟩⟩⟩⟩⟩⟩)
    have hl_hp1_10 := hp1_10.lt
    have hz_hx10 := hx10.size
    replace hb3 := hb3.chg hx10 (by omega)
    replace hb2 := hb2.chg hx10 (by omega)
    replace h := h.chg hx10 (by omega)
    replace E := E.next hx10 (by omega)
    refine w_alloc (k := fun b5 w5 hb5 hx5 hl5 hs5 => ?_)
    have hz_hx5 := hx5.size
    replace hp1_10 := hp1_10.ext hx5
    replace hp5_10 := hp5_10.ext hx5
    replace hb3 := hb3.ext hx5
    replace hb2 := hb2.ext hx5
    replace h := h.ext hx5
    replace E := E.trans hx5
    refine w_store_boxs rfl rfl (next := fun ws19 hbs19 hxs19 hss19 => ?_)
    (replace hb5 := hbs19; clear hbs19)
    have hz_hxs19 := hxs19.size
    replace hp1_10 := hp1_10.chg hxs19 (by omega)
    replace hp5_10 := hp5_10.chg hxs19 (by omega)
    replace hb3 := hb3.chg hxs19 (by omega)
    replace hb2 := hb2.chg hxs19 (by omega)
    replace h := h.chg hxs19 (by omega)
    replace E := E.next hxs19 (by omega)
    refine w_nil ?_
    refine x_next ?_
    refine c_seq ?_
    refine c_region ?_
    refine w_pure (y_field rfl) rfl ?_
    refine w_pure (y_load_box rfl) rfl ?_
    (refine w_call rfl rfl rfl (l00Own_c _) rfl ?_; rintro v13 w13 ⟨hp1_13, hx13⟩)
    have hl_hp1_13 := hp1_13.lt
    have hz_hx13 := hx13.size
    replace hb5 := hb5.ext hx13
    replace hp1_10 := hp1_10.ext hx13
    replace hp5_10 := hp5_10.ext hx13
    replace hb3 := hb3.ext hx13
    replace hb2 := hb2.ext hx13
    replace h := h.ext hx13
    replace E := E.trans hx13
    refine w_pure (y_build rfl) rfl ?_
    refine w_alloc (k := fun b6 w6 hb6 hx6 hl6 hs6 => ?_)
    have hz_hx6 := hx6.size
    replace hp1_13 := hp1_13.ext hx6
    replace hb5 := hb5.ext hx6
    replace hp1_10 := hp1_10.ext hx6
    replace hp5_10 := hp5_10.ext hx6
    replace hb3 := hb3.ext hx6
    replace hb2 := hb2.ext hx6
    replace h := h.ext hx6
    replace E := E.trans hx6
    refine w_store_boxs rfl rfl (next := fun ws29 hbs29 hxs29 hss29 => ?_)
    (replace hb6 := hbs29; clear hbs29)
    have hz_hxs29 := hxs29.size
    replace hp1_13 := hp1_13.chg hxs29 (by omega)
    replace hb5 := hb5.chg hxs29 (by omega)
    replace hp1_10 := hp1_10.chg hxs29 (by omega)
    replace hp5_10 := hp5_10.chg hxs29 (by omega)
    replace hb3 := hb3.chg hxs29 (by omega)
    replace hb2 := hb2.chg hxs29 (by omega)
    replace h := h.chg hxs29 (by omega)
    replace E := E.next hxs29 (by omega)
    refine w_nil ?_
    refine x_next ?_
    refine c_seq ?_
    refine c_seq ?_
    refine c_region ?_
    refine w_pure (y_move rfl) rfl ?_
    (refine w_call rfl rfl rfl (srcPick_z _) rfl ?_; rintro _ w16 ⟨x16, ⟨rfl, ⟨⟨hp1_16, hp2_16⟩, ⟨hp3_16, hx16⟩⟩⟩⟩)
    have hz_hx16 := hx16.size
    replace hb6 := hb6.chg hx16 (by omega)
    replace hp1_13 := hp1_13.chg hx16 (by omega)
    replace hb5 := hb5.chg hx16 (by omega)
    replace hp1_10 := hp1_10.chg hx16 (by omega)
    replace hb3 := hb3.chg hx16 (by omega)
    replace hb2 := hb2.chg hx16 (by omega)
    replace h := h.chg hx16 (by omega)
    replace E := E.next hx16 (by omega)
    refine w_nil ?_
    refine x_next ?_
    refine c_block ?_
    refine c_seq ?_
    refine c_region ?_
    refine w_pure (y_eq rfl rfl) rfl ?_
    refine w_pure (y_assign rfl) rfl ?_
    refine w_nil ?_
    refine x_next ?_
    (refine c_dec rfl (fun hc17 => ?_) (fun hc17 => ?_) <;> try (first | exact absurd rfl hc17 | contradiction | exact Bool.noConfusion (show false = true from hc17.symm.trans (by assumption)) | exact Bool.noConfusion (show true = false from hc17.symm.trans (by assumption)) | (exfalso; omega) | (exfalso; simp only [*, Bool.not_true, Bool.not_false, reduceCtorEq] at hc17; done)))
    refine c_region_inv (i := 6) (c8) (max (c8 + 1) (bH v13)) mixed (fun wr6 hxr6 hzr6 => ?_)
    have hz_hxr6 := hxr6.size
    replace hp3_16 := hp3_16.ext hxr6
    replace hb6 := hb6.ext hxr6
    replace hp1_13 := hp1_13.ext hxr6
    replace hb5 := hb5.ext hxr6
    replace hp1_10 := hp1_10.ext hxr6
    replace hb3 := hb3.ext hxr6
    replace hb2 := hb2.ext hxr6
    replace h := h.ext hxr6
    replace E := E.trans hxr6
    refine i_pure rfl (fun w19i hx19i => y_field rfl) rfl ?_
    refine i_pure rfl (fun w20i hx20i => y_load_box rfl) rfl ?_
    refine i_pure rfl (fun w21i hx21i => y_move rfl) rfl ?_
    refine i_one rfl ?_
    (refine w_call rfl rfl rfl (srcPick_z _) rfl ?_; rintro _ w22 ⟨x22, ⟨rfl, ⟨⟨hp1_22, hp2_22⟩, ⟨hp3_22, hx22⟩⟩⟩⟩)
    have hz_hx22 := hx22.size
    replace hb6 := hb6.chg hx22 (by omega)
    replace hp1_13 := hp1_13.chg hx22 (by omega)
    replace hb5 := hb5.chg hx22 (by omega)
    replace hp1_10 := hp1_10.chg hx22 (by omega)
    replace hb3 := hb3.chg hx22 (by omega)
    replace hb2 := hb2.chg hx22 (by omega)
    replace h := h.chg hx22 (by omega)
    replace E := E.next hx22 (by omega)
    refine w_nil ?_
    refine x_hi ?_
    refine i_one rfl ?_
    refine w_pure (y_index rfl rfl) rfl ?_
    refine w_nil ?_
    refine x_hi ?_
    refine i_one rfl ?_
    refine w_store_own rfl rfl (next := fun ws60 hos60 hxs60 hss60 => ?_)
    (replace hp1_13 := hos60; clear hos60)
    have hz_hxs60 := hxs60.size
    replace hp3_22 := hp3_22.chg hxs60 (by omega)
    replace hb6 := hb6.chg hxs60 (by omega)
    replace hb5 := hb5.chg hxs60 (by omega)
    replace hp1_10 := hp1_10.chg hxs60 (by omega)
    replace hb3 := hb3.chg hxs60 (by omega)
    replace hb2 := hb2.chg hxs60 (by omega)
    replace h := h.chg hxs60 (by omega)
    replace E := E.next hxs60 (by omega)
    refine w_nil ?_
    refine x_hi ?_
    refine i_nil ?_
    refine x_block_norm ?_
    refine x_next ?_
    refine c_seq ?_
    refine c_region_held mixed (fun wr9 hxr9 hzr9 => ?_)
    have hz_hxr9 := hxr9.size
    replace hp1_13 := hp1_13.ext hxr9
    replace hp3_22 := hp3_22.ext hxr9
    replace hb6 := hb6.ext hxr9
    replace hb5 := hb5.ext hxr9
    replace hp1_10 := hp1_10.ext hxr9
    replace hb3 := hb3.ext hxr9
    replace hb2 := hb2.ext hxr9
    replace h := h.ext hxr9
    replace E := E.trans hxr9
    refine h_pure rfl (y_load_boxs rfl) rfl ?_
    refine h_turn ?_
    refine h_turn ?_
    refine h_turn ?_
    refine h_twoX (j := 2) rfl rfl ?_ ?_
    refine w_pure (y_load_boxs rfl) rfl ?_
    refine w_nil ?_
    refine x_held ?_
    refine h_one rfl ?_
    refine w_store_boxs rfl rfl (next := fun ws77 hbs77 hxs77 hss77 => ?_)
    (replace hb2 := hbs77; clear hbs77)
    have hz_hxs77 := hxs77.size
    replace hp1_13 := hp1_13.chg hxs77 (by omega)
    replace hp3_22 := hp3_22.chg hxs77 (by omega)
    replace hb6 := hb6.chg hxs77 (by omega)
    replace hb5 := hb5.chg hxs77 (by omega)
    replace hp1_10 := hp1_10.chg hxs77 (by omega)
    replace hb3 := hb3.chg hxs77 (by omega)
    replace h := h.chg hxs77 (by omega)
    replace E := E.next hxs77 (by omega)
    refine w_nil ?_
    refine x_heldk ?_
    refine h_one rfl ?_
    refine w_store_boxs rfl rfl (next := fun ws81 hbs81 hxs81 hss81 => ?_)
    (replace hb3 := hbs81; clear hbs81)
    have hz_hxs81 := hxs81.size
    replace hb2 := hb2.chg hxs81 (by omega)
    replace hp1_13 := hp1_13.chg hxs81 (by omega)
    replace hp3_22 := hp3_22.chg hxs81 (by omega)
    replace hb6 := hb6.chg hxs81 (by omega)
    replace hb5 := hb5.chg hxs81 (by omega)
    replace hp1_10 := hp1_10.chg hxs81 (by omega)
    replace h := h.chg hxs81 (by omega)
    replace E := E.next hxs81 (by omega)
    refine w_nil ?_
    refine x_heldk ?_
    refine h_nil ?_
    refine x_next ?_
    refine c_ret ?_
    rotate_left
    refine w_store_boxs rfl rfl (next := fun ws88 hbs88 hxs88 hss88 => ?_)
    (replace hb2 := hbs88; clear hbs88)
    have hz_hxs88 := hxs88.size
    replace hp1_13 := hp1_13.chg hxs88 (by omega)
    replace hp3_22 := hp3_22.chg hxs88 (by omega)
    replace hb6 := hb6.chg hxs88 (by omega)
    replace hb5 := hb5.chg hxs88 (by omega)
    replace hp1_10 := hp1_10.chg hxs88 (by omega)
    replace hb3 := hb3.chg hxs88 (by omega)
    replace h := h.chg hxs88 (by omega)
    replace E := E.next hxs88 (by omega)
    refine w_nil ?_
    refine x_heldk ?_
    refine h_pure rfl (y_load_boxs rfl) rfl ?_
    refine h_one rfl ?_
    refine w_store_boxs rfl rfl (next := fun ws93 hbs93 hxs93 hss93 => ?_)
    (replace hb3 := hbs93; clear hbs93)
    have hz_hxs93 := hxs93.size
    replace hb2 := hb2.chg hxs93 (by omega)
    replace hp1_13 := hp1_13.chg hxs93 (by omega)
    replace hp3_22 := hp3_22.chg hxs93 (by omega)
    replace hb6 := hb6.chg hxs93 (by omega)
    replace hb5 := hb5.chg hxs93 (by omega)
    replace hp1_10 := hp1_10.chg hxs93 (by omega)
    replace h := h.chg hxs93 (by omega)
    replace E := E.next hxs93 (by omega)
    refine w_nil ?_
    refine x_heldk ?_
    refine h_nil ?_
    refine x_next ?_
    refine c_ret ?_
    rotate_left
    refine c_seq ?_
    refine c_region ?_
    refine w_pure (y_eq rfl rfl) rfl ?_
    refine w_pure (y_assign rfl) rfl ?_
    refine w_nil ?_
    refine x_next ?_
    (refine c_dec rfl (fun hc24 => ?_) (fun hc24 => ?_) <;> try (first | exact absurd rfl hc24 | contradiction | exact Bool.noConfusion (show false = true from hc24.symm.trans (by assumption)) | exact Bool.noConfusion (show true = false from hc24.symm.trans (by assumption)) | (exfalso; omega) | (exfalso; simp only [*, Bool.not_true, Bool.not_false, reduceCtorEq] at hc24; done)))
    refine c_region ?_
    refine w_pure (y_field rfl) rfl ?_
    refine w_pure (y_load_box rfl) rfl ?_
    refine w_lit (α := Int) rfl rfl rfl rfl rfl rfl rfl rfl (fun v28 w28 ho28 hx28 hl28 hh28 hs28 => ?_)
    have hl_ho28 := ho28.lt
    have hz_hx28 := hx28.size
    replace hp3_16 := hp3_16.ext hx28
    replace hb6 := hb6.ext hx28
    replace hp1_13 := hp1_13.ext hx28
    replace hb5 := hb5.ext hx28
    replace hp1_10 := hp1_10.ext hx28
    replace hb3 := hb3.ext hx28
    replace hb2 := hb2.ext hx28
    replace h := h.ext hx28
    replace E := E.trans hx28
    refine w_append rfl rfl (k := fun v29 w29 ho29 hx29 hr29 => ?_)
    have hl_ho29 := ho29.lt
    have hz_hx29 := hx29.size
    replace ho28 := ho28.chg hx29 (by omega)
    replace hp3_16 := hp3_16.chg hx29 (by omega)
    replace hb6 := hb6.chg hx29 (by omega)
    replace hb5 := hb5.chg hx29 (by omega)
    replace hp1_10 := hp1_10.chg hx29 (by omega)
    replace hb3 := hb3.chg hx29 (by omega)
    replace hb2 := hb2.chg hx29 (by omega)
    replace h := h.chg hx29 (by omega)
    replace E := E.next hx29 (by omega)
    refine w_pure (y_field rfl) rfl ?_
    refine w_store_box rfl rfl (next := fun ws113 hbs113 hxs113 hss113 => ?_)
    (replace hb6 := hbs113; clear hbs113)
    have hz_hxs113 := hxs113.size
    replace ho29 := ho29.chg hxs113 (by omega)
    replace ho28 := ho28.chg hxs113 (by omega)
    replace hp3_16 := hp3_16.chg hxs113 (by omega)
    replace hb5 := hb5.chg hxs113 (by omega)
    replace hp1_10 := hp1_10.chg hxs113 (by omega)
    replace hb3 := hb3.chg hxs113 (by omega)
    replace hb2 := hb2.chg hxs113 (by omega)
    replace h := h.chg hxs113 (by omega)
    replace E := E.next hxs113 (by omega)
    refine w_nil ?_
    refine x_block_norm ?_
    refine x_next ?_
    refine c_seq ?_
    refine c_region_held mixed (fun wr9 hxr9 hzr9 => ?_)
    have hz_hxr9 := hxr9.size
    replace hb6 := hb6.ext hxr9
    replace ho29 := ho29.ext hxr9
    replace ho28 := ho28.ext hxr9
    replace hp3_16 := hp3_16.ext hxr9
    replace hb5 := hb5.ext hxr9
    replace hp1_10 := hp1_10.ext hxr9
    replace hb3 := hb3.ext hxr9
    replace hb2 := hb2.ext hxr9
    replace h := h.ext hxr9
    replace E := E.trans hxr9
    refine h_pure rfl (y_load_boxs rfl) rfl ?_
    refine h_turn ?_
    refine h_turn ?_
    refine h_turn ?_
    refine h_twoX (j := 2) rfl rfl ?_ ?_
    refine w_pure (y_load_boxs rfl) rfl ?_
    refine w_nil ?_
    refine x_held ?_
    refine h_one rfl ?_
    refine w_store_boxs rfl rfl (next := fun ws128 hbs128 hxs128 hss128 => ?_)
    (replace hb2 := hbs128; clear hbs128)
    have hz_hxs128 := hxs128.size
    replace hb6 := hb6.chg hxs128 (by omega)
    replace ho29 := ho29.chg hxs128 (by omega)
    replace ho28 := ho28.chg hxs128 (by omega)
    replace hp3_16 := hp3_16.chg hxs128 (by omega)
    replace hb5 := hb5.chg hxs128 (by omega)
    replace hp1_10 := hp1_10.chg hxs128 (by omega)
    replace hb3 := hb3.chg hxs128 (by omega)
    replace h := h.chg hxs128 (by omega)
    replace E := E.next hxs128 (by omega)
    refine w_nil ?_
    refine x_heldk ?_
    refine h_one rfl ?_
    refine w_store_boxs rfl rfl (next := fun ws132 hbs132 hxs132 hss132 => ?_)
    (replace hb3 := hbs132; clear hbs132)
    have hz_hxs132 := hxs132.size
    replace hb2 := hb2.chg hxs132 (by omega)
    replace hb6 := hb6.chg hxs132 (by omega)
    replace ho29 := ho29.chg hxs132 (by omega)
    replace ho28 := ho28.chg hxs132 (by omega)
    replace hp3_16 := hp3_16.chg hxs132 (by omega)
    replace hb5 := hb5.chg hxs132 (by omega)
    replace hp1_10 := hp1_10.chg hxs132 (by omega)
    replace h := h.chg hxs132 (by omega)
    replace E := E.next hxs132 (by omega)
    refine w_nil ?_
    refine x_heldk ?_
    refine h_nil ?_
    refine x_next ?_
    refine c_ret ?_
    rotate_left
    refine w_store_boxs rfl rfl (next := fun ws139 hbs139 hxs139 hss139 => ?_)
    (replace hb2 := hbs139; clear hbs139)
    have hz_hxs139 := hxs139.size
    replace hb6 := hb6.chg hxs139 (by omega)
    replace ho29 := ho29.chg hxs139 (by omega)
    replace ho28 := ho28.chg hxs139 (by omega)
    replace hp3_16 := hp3_16.chg hxs139 (by omega)
    replace hb5 := hb5.chg hxs139 (by omega)
    replace hp1_10 := hp1_10.chg hxs139 (by omega)
    replace hb3 := hb3.chg hxs139 (by omega)
    replace h := h.chg hxs139 (by omega)
    replace E := E.next hxs139 (by omega)
    refine w_nil ?_
    refine x_heldk ?_
    refine h_pure rfl (y_load_boxs rfl) rfl ?_
    refine h_one rfl ?_
    refine w_store_boxs rfl rfl (next := fun ws144 hbs144 hxs144 hss144 => ?_)
    (replace hb3 := hbs144; clear hbs144)
    have hz_hxs144 := hxs144.size
    replace hb2 := hb2.chg hxs144 (by omega)
    replace hb6 := hb6.chg hxs144 (by omega)
    replace ho29 := ho29.chg hxs144 (by omega)
    replace ho28 := ho28.chg hxs144 (by omega)
    replace hp3_16 := hp3_16.chg hxs144 (by omega)
    replace hb5 := hb5.chg hxs144 (by omega)
    replace hp1_10 := hp1_10.chg hxs144 (by omega)
    replace h := h.chg hxs144 (by omega)
    replace E := E.next hxs144 (by omega)
    refine w_nil ?_
    refine x_heldk ?_
    refine h_nil ?_
    refine x_next ?_
    refine c_ret ?_
    rotate_left
    refine c_skip ?_
    refine x_block_norm ?_
    refine x_next ?_
    refine c_seq ?_
    refine c_region_held mixed (fun wr9 hxr9 hzr9 => ?_)
    have hz_hxr9 := hxr9.size
    replace hp3_16 := hp3_16.ext hxr9
    replace hb6 := hb6.ext hxr9
    replace hp1_13 := hp1_13.ext hxr9
    replace hb5 := hb5.ext hxr9
    replace hp1_10 := hp1_10.ext hxr9
    replace hb3 := hb3.ext hxr9
    replace hb2 := hb2.ext hxr9
    replace h := h.ext hxr9
    replace E := E.trans hxr9
    refine h_pure rfl (y_load_boxs rfl) rfl ?_
    refine h_turn ?_
    refine h_turn ?_
    refine h_turn ?_
    refine h_twoX (j := 2) rfl rfl ?_ ?_
    refine w_pure (y_load_boxs rfl) rfl ?_
    refine w_nil ?_
    refine x_held ?_
    refine h_one rfl ?_
    refine w_store_boxs rfl rfl (next := fun ws165 hbs165 hxs165 hss165 => ?_)
    (replace hb2 := hbs165; clear hbs165)
    have hz_hxs165 := hxs165.size
    replace hp3_16 := hp3_16.chg hxs165 (by omega)
    replace hb6 := hb6.chg hxs165 (by omega)
    replace hp1_13 := hp1_13.chg hxs165 (by omega)
    replace hb5 := hb5.chg hxs165 (by omega)
    replace hp1_10 := hp1_10.chg hxs165 (by omega)
    replace hb3 := hb3.chg hxs165 (by omega)
    replace h := h.chg hxs165 (by omega)
    replace E := E.next hxs165 (by omega)
    refine w_nil ?_
    refine x_heldk ?_
    refine h_one rfl ?_
    refine w_store_boxs rfl rfl (next := fun ws169 hbs169 hxs169 hss169 => ?_)
    (replace hb3 := hbs169; clear hbs169)
    have hz_hxs169 := hxs169.size
    replace hb2 := hb2.chg hxs169 (by omega)
    replace hp3_16 := hp3_16.chg hxs169 (by omega)
    replace hb6 := hb6.chg hxs169 (by omega)
    replace hp1_13 := hp1_13.chg hxs169 (by omega)
    replace hb5 := hb5.chg hxs169 (by omega)
    replace hp1_10 := hp1_10.chg hxs169 (by omega)
    replace h := h.chg hxs169 (by omega)
    replace E := E.next hxs169 (by omega)
    refine w_nil ?_
    refine x_heldk ?_
    refine h_nil ?_
    refine x_next ?_
    refine c_ret ?_
    rotate_left
    refine w_store_boxs rfl rfl (next := fun ws176 hbs176 hxs176 hss176 => ?_)
    (replace hb2 := hbs176; clear hbs176)
    have hz_hxs176 := hxs176.size
    replace hp3_16 := hp3_16.chg hxs176 (by omega)
    replace hb6 := hb6.chg hxs176 (by omega)
    replace hp1_13 := hp1_13.chg hxs176 (by omega)
    replace hb5 := hb5.chg hxs176 (by omega)
    replace hp1_10 := hp1_10.chg hxs176 (by omega)
    replace hb3 := hb3.chg hxs176 (by omega)
    replace h := h.chg hxs176 (by omega)
    replace E := E.next hxs176 (by omega)
    refine w_nil ?_
    refine x_heldk ?_
    refine h_pure rfl (y_load_boxs rfl) rfl ?_
    refine h_one rfl ?_
    refine w_store_boxs rfl rfl (next := fun ws181 hbs181 hxs181 hss181 => ?_)
    (replace hb3 := hbs181; clear hbs181)
    have hz_hxs181 := hxs181.size
    replace hb2 := hb2.chg hxs181 (by omega)
    replace hp3_16 := hp3_16.chg hxs181 (by omega)
    replace hb6 := hb6.chg hxs181 (by omega)
    replace hp1_13 := hp1_13.chg hxs181 (by omega)
    replace hb5 := hb5.chg hxs181 (by omega)
    replace hp1_10 := hp1_10.chg hxs181 (by omega)
    replace h := h.chg hxs181 (by omega)
    replace E := E.next hxs181 (by omega)
    refine w_nil ?_
    refine x_heldk ?_
    refine h_nil ?_
    refine x_next ?_
    refine c_ret ?_
    rotate_left
  all_goals exact x_retv [_, _] rfl ⟨⟨_, rfl, run_load_str (Box.at (by assumption)) (by rfl)⟩, ⟨_, rfl, run_load_str (Box.at (by assumption)) (by rfl)⟩, trivial⟩ ⟨d10, xs10, _, _, rfl, Own.base (by assumption) (by omega), Own.base (by assumption) (by omega), by omega, by first | omega | (simp only [List.length_set, List.length_append, List.length_cons, List.length_nil]; omega), E.go⟩
end
end Go.Proofs.YtgkljfncpgbngaaDoor

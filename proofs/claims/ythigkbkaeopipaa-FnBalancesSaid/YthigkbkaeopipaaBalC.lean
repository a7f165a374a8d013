/- Contracts: counters that the laws draw. -/
import Derived.Test.YthigkbkaeopipaaBalB
namespace Go.Proofs.Ythigkbkaeopipaa
open Go Go.Gw
set_option linter.unusedVariables false
set_option linter.unusedSimpArgs false
section
variable {w : World} {lo hi b l9 k9 : Nat} {B : Int} {v : Value} {p : List UInt8} {xs : List Int}
theorem DrawSplitCounter_c (h : SL w lo hi v p := by repeat (first | assumption | exact Go.Gw.Own.sl (by assumption) | exact Go.Gw.Box.at (by assumption) | exact Go.Gw.SLL.el (by first | assumption | exact Go.Gw.OwnD.sll (by assumption)) _ (by omega) | exact Go.Gw.SLL.at (by first | assumption | exact Go.Gw.OwnD.sll (by assumption)) (by omega) | exact Go.Gw.OwnD.sll (by assumption) | (apply Go.Gw.SL.chg; case hx => assumption) | (apply Go.Gw.Own.chg; case hx => assumption) | (apply Go.Gw.Box.chg; case hx => assumption) | (apply Go.Gw.At.chg; case hx => assumption) | exact .inl (Nat.zero_le _) | exact .inr (Nat.zero_le _) | (show _ ∨ _; omega))) : Ret Try.prog 22 [v] w fun u w' => ∃ d, ∃ xs : List Int, ∃ k : Int, u = .tuple #[.agg #[d], .int .i64 k] ∧ Own w' 2 w.heap.size d xs ∧ xs.length ≤ 13 ∧ In64 k ∧ Ext w w' := by
  have htop := h.top
  have E : Since 0 0 w w := Since.refl 0 0 w
  refine ret_enter Try.func22 rfl Try.ntmps22 rfl ?_
  focus
    have ht_h := h.top
    refine c_seq ?_
    refine c_region ?_
    refine w_alloc (k := fun b2 w2 hb2 hx2 hl2 hs2 => ?_)
    have hz_hx2 := hx2.size
    replace h := h.ext hx2
    replace E := E.trans hx2
    refine w_pure (y_assign rfl) rfl ?_
    refine w_nil ?_
    refine x_next ?_
    refine c_seq ?_
    refine c_region ?_
    refine w_pure (y_move rfl) rfl ?_
    (refine w_call rfl rfl rfl (srcFrom_z) rfl ?_; rintro _ w7 ⟨c7, ⟨rfl, ⟨hp1_7, ⟨hp2_7, ⟨hp3_7, hx7⟩⟩⟩⟩⟩)
    have hz_hx7 := hx7.size
    replace hb2 := hb2.ext hx7
    replace h := h.ext hx7
    replace E := E.trans hx7
    refine w_pure (y_assign rfl) rfl ?_
    refine w_nil ?_
    refine x_next ?_
    refine c_seq ?_
    refine c_region ?_
    refine w_pure (y_move rfl) rfl ?_
    (refine w_call rfl rfl rfl (l11Bent_c) rfl ?_; rintro _ w9 ⟨d9, ⟨xs9, ⟨rfl, ⟨hp1_9, ⟨hp2_9, ⟨hp3_9, hx9⟩⟩⟩⟩⟩⟩)
    have hl_hp1_9 := hp1_9.lt
    have hz_hx9 := hx9.size
    replace hb2 := hb2.chg hx9 (by omega)
    replace h := h.chg hx9 (by omega)
    replace E := E.next hx9 (by omega)
    refine w_alloc (k := fun b5 w5 hb5 hx5 hl5 hs5 => ?_)
    have hz_hx5 := hx5.size
    replace hp1_9 := hp1_9.ext hx5
    replace hp3_9 := hp3_9.ext hx5
    replace hb2 := hb2.ext hx5
    replace h := h.ext hx5
    replace E := E.trans hx5
    refine w_store_boxs rfl rfl (next := fun ws19 hbs19 hxs19 hss19 => ?_)
    (replace hb5 := hbs19; clear hbs19)
    have hz_hxs19 := hxs19.size
    replace hp1_9 := hp1_9.chg hxs19 (by omega)
    replace hp3_9 := hp3_9.chg hxs19 (by omega)
    replace hb2 := hb2.chg hxs19 (by omega)
    replace h := h.chg hxs19 (by omega)
    replace E := E.next hxs19 (by omega)
    refine w_nil ?_
    refine x_next ?_
    refine c_seq ?_
    refine c_region_inv (i := 3) (b2) (c7 + 1) mixed (fun wr3 hxr3 hzr3 => ?_)
    have hz_hxr3 := hxr3.size
    replace hb5 := hb5.ext hxr3
    replace hp1_9 := hp1_9.ext hxr3
    replace hp3_9 := hp3_9.ext hxr3
    replace hb2 := hb2.ext hxr3
    replace h := h.ext hxr3
    replace E := E.trans hxr3
    refine i_pure rfl (fun w10i hx10i => y_load_boxs rfl) rfl ?_
    refine i_pure rfl (fun w11i hx11i => y_move rfl) rfl ?_
    refine i_turn ?_
    refine i_pure rfl (fun w13i hx13i => y_move rfl) rfl ?_
    refine i_turn ?_
    refine i_turn ?_
    refine i_turn ?_
    refine i_turn ?_
    refine i_turn ?_
    refine i_one rfl ?_
    (refine w_call rfl rfl rfl (srcPick_z _) rfl ?_; rintro _ w12 ⟨x12, ⟨rfl, ⟨⟨hp1_12, hp2_12⟩, ⟨hp3_12, hx12⟩⟩⟩⟩)
    have hz_hx12 := hx12.size
    replace hb5 := hb5.chg hx12 (by omega)
    replace hp1_9 := hp1_9.chg hx12 (by omega)
    replace hb2 := hb2.chg hx12 (by omega)
    replace h := h.chg hx12 (by omega)
    replace E := E.next hx12 (by omega)
    refine w_nil ?_
    refine x_hi ?_
    refine i_one rfl ?_
    (refine w_call rfl rfl rfl (srcPick_z _) rfl ?_; rintro _ w14 ⟨x14, ⟨rfl, ⟨⟨hp1_14, hp2_14⟩, ⟨hp3_14, hx14⟩⟩⟩⟩)
    have hz_hx14 := hx14.size
    replace hb5 := hb5.chg hx14 (by omega)
    replace hp1_9 := hp1_9.chg hx14 (by omega)
    replace hb2 := hb2.chg hx14 (by omega)
    replace h := h.chg hx14 (by omega)
    replace E := E.next hx14 (by omega)
    refine w_nil ?_
    refine x_hi ?_
    refine i_pure rfl (fun w15i hx15i => y_quo rfl rfl) rfl ?_
    refine i_pure rfl (fun w16i hx16i => y_sub rfl rfl) rfl ?_
    refine i_one rfl ?_
    refine w_store_boxs rfl rfl (next := fun ws44 hbs44 hxs44 hss44 => ?_)
    (replace hb2 := hbs44; clear hbs44)
    have hz_hxs44 := hxs44.size
    replace hp3_14 := hp3_14.chg hxs44 (by omega)
    replace hb5 := hb5.chg hxs44 (by omega)
    replace hp1_9 := hp1_9.chg hxs44 (by omega)
    replace h := h.chg hxs44 (by omega)
    replace E := E.next hxs44 (by omega)
    refine w_nil ?_
    refine x_hi ?_
    refine i_pure rfl (fun w3i hx3i => y_assign rfl) rfl ?_
    refine i_nil ?_
    refine x_next ?_
    refine c_ret ?_
    rotate_left
  exact x_retv [_, _] rfl ⟨⟨_, rfl, run_load_str (Box.at (by assumption)) (by rfl)⟩, rfl, trivial⟩ ⟨d9, xs9, _, rfl, Own.base (by assumption) (by omega), hp2_9, ⟨by omega, by omega⟩, E.go⟩
theorem DrawJoinCounters_c (h : SL w lo hi v p := by repeat (first | assumption | exact Go.Gw.Own.sl (by assumption) | exact Go.Gw.Box.at (by assumption) | exact Go.Gw.SLL.el (by first | assumption | exact Go.Gw.OwnD.sll (by assumption)) _ (by omega) | exact Go.Gw.SLL.at (by first | assumption | exact Go.Gw.OwnD.sll (by assumption)) (by omega) | exact Go.Gw.OwnD.sll (by assumption) | (apply Go.Gw.SL.chg; case hx => assumption) | (apply Go.Gw.Own.chg; case hx => assumption) | (apply Go.Gw.Box.chg; case hx => assumption) | (apply Go.Gw.At.chg; case hx => assumption) | exact .inl (Nat.zero_le _) | exact .inr (Nat.zero_le _) | (show _ ∨ _; omega))) : Ret Try.prog 25 [v] w fun u w' => ∃ d, ∃ xs : List Int, ∃ e, ∃ ys : List Int, u = .tuple #[.agg #[d], .agg #[e]] ∧ Own w' 2 w.heap.size d xs ∧ Own w' 2 w.heap.size e ys ∧ xs.length ≤ 13 ∧ ys.length ≤ 13 ∧ Ext w w' := by
  have htop := h.top
  have E : Since 0 0 w w := Since.refl 0 0 w
  refine ret_enter Try.func25 rfl Try.ntmps25 rfl ?_
  focus
    have ht_h := h.top
    refine c_seq ?_
    refine c_region ?_
    refine w_alloc (k := fun b2 w2 hb2 hx2 hl2 hs2 => ?_)
    have hz_hx2 := hx2.size
    replace h := h.ext hx2
    replace E := E.trans hx2
    refine w_alloc (k := fun b3 w3 hb3 hx3 hl3 hs3 => ?_)
    have hz_hx3 := hx3.size
    replace hb2 := hb2.ext hx3
    replace h := h.ext hx3
    replace E := E.trans hx3
    refine w_nil ?_
    refine x_next ?_
    refine c_seq ?_
    refine c_region ?_
    refine w_pure (y_move rfl) rfl ?_
    (refine w_call rfl rfl rfl (srcFrom_z) rfl ?_; rintro _ w7 ⟨c7, ⟨rfl, ⟨hp1_7, ⟨hp2_7, ⟨hp3_7, hx7⟩⟩⟩⟩⟩)
    have hz_hx7 := hx7.size
    replace hb3 := hb3.ext hx7
    replace hb2 := hb2.ext hx7
    replace h := h.ext hx7
    replace E := E.trans hx7
    refine w_pure (y_assign rfl) rfl ?_
    refine w_nil ?_
    refine x_next ?_
    refine c_seq ?_
    refine c_region ?_
    refine w_pure (y_move rfl) rfl ?_
    (refine w_call rfl rfl rfl (l11Bent_c) rfl ?_; rintro _ w9 ⟨d9, ⟨xs9, ⟨rfl, ⟨hp1_9, ⟨hp2_9, ⟨hp3_9, hx9⟩⟩⟩⟩⟩⟩)
    have hl_hp1_9 := hp1_9.lt
    have hz_hx9 := hx9.size
    replace hb3 := hb3.chg hx9 (by omega)
    replace hb2 := hb2.chg hx9 (by omega)
    replace h := h.chg hx9 (by omega)
    replace E := E.next hx9 (by omega)
    refine w_alloc (k := fun b5 w5 hb5 hx5 hl5 hs5 => ?_)
    have hz_hx5 := hx5.size
    replace hp1_9 := hp1_9.ext hx5
    replace hp3_9 := hp3_9.ext hx5
    replace hb3 := hb3.ext hx5
    replace hb2 := hb2.ext hx5
    replace h := h.ext hx5
    replace E := E.trans hx5
    refine w_store_boxs rfl rfl (next := fun ws19 hbs19 hxs19 hss19 => ?_)
    (replace hb5 := hbs19; clear hbs19)
    have hz_hxs19 := hxs19.size
    replace hp1_9 := hp1_9.chg hxs19 (by omega)
    replace hp3_9 := hp3_9.chg hxs19 (by omega)
    replace hb3 := hb3.chg hxs19 (by omega)
    replace hb2 := hb2.chg hxs19 (by omega)
    replace h := h.chg hxs19 (by omega)
    replace E := E.next hxs19 (by omega)
    refine w_nil ?_
    refine x_next ?_
    refine c_seq ?_
    refine c_region_inv (i := 3) (b2) (c7 + 1) mixed (fun wr3 hxr3 hzr3 => ?_)
    have hz_hxr3 := hxr3.size
    replace hb5 := hb5.ext hxr3
    replace hp1_9 := hp1_9.ext hxr3
    replace hp3_9 := hp3_9.ext hxr3
    replace hb3 := hb3.ext hxr3
    replace hb2 := hb2.ext hxr3
    replace h := h.ext hxr3
    replace E := E.trans hxr3
    refine i_pure rfl (fun w10i hx10i => y_load_boxs rfl) rfl ?_
    refine i_pure rfl (fun w11i hx11i => y_move rfl) rfl ?_
    refine i_one rfl ?_
    (refine w_call rfl rfl rfl (l11Bent_c) rfl ?_; rintro _ w12 ⟨d12, ⟨xs12, ⟨rfl, ⟨hp1_12, ⟨hp2_12, ⟨hp3_12, hx12⟩⟩⟩⟩⟩⟩)
    have hl_hp1_12 := hp1_12.lt
    have hz_hx12 := hx12.size
    replace hb5 := hb5.chg hx12 (by omega)
    replace hp1_9 := hp1_9.chg hx12 (by omega)
    replace hb3 := hb3.chg hx12 (by omega)
    replace hb2 := hb2.chg hx12 (by omega)
    replace h := h.chg hx12 (by omega)
    replace E := E.next hx12 (by omega)
    refine w_nil ?_
    refine x_hi ?_
    refine i_one rfl ?_
    refine w_store_boxs rfl rfl (next := fun ws31 hbs31 hxs31 hss31 => ?_)
    (replace hb2 := hbs31; clear hbs31)
    have hz_hxs31 := hxs31.size
    replace hp1_12 := hp1_12.chg hxs31 (by omega)
    replace hp3_12 := hp3_12.chg hxs31 (by omega)
    replace hb5 := hb5.chg hxs31 (by omega)
    replace hp1_9 := hp1_9.chg hxs31 (by omega)
    replace hb3 := hb3.chg hxs31 (by omega)
    replace h := h.chg hxs31 (by omega)
    replace E := E.next hxs31 (by omega)
    refine w_nil ?_
    refine x_hi ?_
    refine i_one rfl ?_
    refine w_store_boxs rfl rfl (next := fun ws35 hbs35 hxs35 hss35 => ?_)
    (replace hb3 := hbs35; clear hbs35)
    have hz_hxs35 := hxs35.size
    replace hb2 := hb2.chg hxs35 (by omega)
    replace hp1_12 := hp1_12.chg hxs35 (by omega)
    replace hp3_12 := hp3_12.chg hxs35 (by omega)
    replace hb5 := hb5.chg hxs35 (by omega)
    replace hp1_9 := hp1_9.chg hxs35 (by omega)
    replace h := h.chg hxs35 (by omega)
    replace E := E.next hxs35 (by omega)
    refine w_nil ?_
    refine x_hi ?_
    refine i_nil ?_
    refine x_next ?_
    refine c_ret ?_
    rotate_left
  exact x_retv [_, _] rfl ⟨⟨_, rfl, run_load_str (Box.at (by assumption)) (by rfl)⟩, ⟨_, rfl, run_load_str (Box.at (by assumption)) (by rfl)⟩, trivial⟩ ⟨d9, xs9, d12, xs12, rfl, Own.base (by assumption) (by omega), Own.base (by assumption) (by omega), hp2_9, hp2_12, E.go⟩
end
end Go.Proofs.Ythigkbkaeopipaa

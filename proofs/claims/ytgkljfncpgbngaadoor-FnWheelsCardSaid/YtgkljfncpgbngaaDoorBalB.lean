/- Contracts: counters that the laws draw. -/
import Derived.Test.YtgkljfncpgbngaaDoorBalA
namespace Go.Proofs.YtgkljfncpgbngaaDoor
open Go Go.Gw
set_option linter.unusedVariables false
set_option linter.unusedSimpArgs false
section
variable {w : World} {lo hi b l9 k9 : Nat} {B : Int} {v : Value} {p : List UInt8} {xs : List Int}
theorem l11Bent_c (h : Src w lo hi b B := by assumption) (hB : B ≤ 1000000000 := by omega) : Ret Tryd.prog 83 [ptr b 0] w fun u w' => ∃ d, ∃ xs : List Int, u = .agg #[d] ∧ Own w' 2 w.heap.size d xs ∧ xs.length ≤ 13 ∧ Src w' lo hi b (B + 200) ∧ Chg b (b + 1) w w' := by
  have htop := h.top
  have hlim := h.lim
  have E : Since b (b + 1) w w := Since.refl _ _ _
  refine ret_enter Tryd.func83 rfl Tryd.ntmps83 rfl ?_
  focus
    have ht_h := h.top
    refine c_seq ?_
    refine c_region ?_
    refine w_alloc (k := fun b2 w2 hb2 hx2 hl2 hs2 => ?_)
    have hz_hx2 := hx2.size
    replace h := h.ext hx2
    replace E := E.next hx2 (by omega)
    refine w_nil ?_
    refine x_next ?_
    refine c_seq ?_
    refine c_region ?_
    refine w_pure (y_move rfl) rfl ?_
    (refine w_call rfl rfl rfl (l11Draw_c) rfl ?_; rintro _ w5 ⟨d5, ⟨xs5, ⟨rfl, ⟨hp1_5, ⟨⟨hp2_5, hp3_5⟩, ⟨hp4_5, hx5⟩⟩⟩⟩⟩⟩)
    have hl_hp1_5 := hp1_5.lt
    have hz_hx5 := hx5.size
    replace hb2 := hb2.chg hx5 (by omega)
    replace E := E.trans hx5
    refine w_alloc (k := fun b3 w3 hb3 hx3 hl3 hs3 => ?_)
    have hz_hx3 := hx3.size
    replace hp1_5 := hp1_5.ext hx3
    replace hp4_5 := hp4_5.ext hx3
    replace hb2 := hb2.ext hx3
    replace E := E.next hx3 (by omega)
    refine w_store_boxs rfl rfl (next := fun ws11 hbs11 hxs11 hss11 => ?_)
    (replace hb3 := hbs11; clear hbs11)
    have hz_hxs11 := hxs11.size
    replace hp1_5 := hp1_5.chg hxs11 (by omega)
    replace hp4_5 := hp4_5.chg hxs11 (by omega)
    replace hb2 := hb2.chg hxs11 (by omega)
    replace E := E.next hxs11 (by omega)
    refine w_nil ?_
    refine x_next ?_
    refine c_seq ?_
    refine c_seq ?_
    refine c_region ?_
    refine w_pure (y_move rfl) rfl ?_
    (refine w_call rfl rfl rfl (srcPick_z _) rfl ?_; rintro _ w7 ⟨x7, ⟨rfl, ⟨⟨hp1_7, hp2_7⟩, ⟨hp3_7, hx7⟩⟩⟩⟩)
    have hz_hx7 := hx7.size
    replace hb3 := hb3.chg hx7 (by omega)
    replace hp1_5 := hp1_5.chg hx7 (by omega)
    replace hb2 := hb2.chg hx7 (by omega)
    replace E := E.trans hx7
    refine w_nil ?_
    refine x_next ?_
    refine c_block ?_
    refine c_seq ?_
    refine c_region ?_
    refine w_pure (y_eq rfl rfl) rfl ?_
    refine w_pure (y_assign rfl) rfl ?_
    refine w_nil ?_
    refine x_next ?_
    (refine c_dec rfl (fun hc8 => ?_) (fun hc8 => ?_) <;> try (first | exact absurd rfl hc8 | contradiction | exact Bool.noConfusion (show false = true from hc8.symm.trans (by assumption)) | exact Bool.noConfusion (show true = false from hc8.symm.trans (by assumption)) | (exfalso; omega) | (exfalso; simp only [*, Bool.not_true, Bool.not_false, reduceCtorEq] at hc8; done)))
    refine c_region_inv (i := 4) (b) (max (b + 1) (bH d5)) mixed (fun wr4 hxr4 hzr4 => ?_)
    have hz_hxr4 := hxr4.size
    replace hp3_7 := hp3_7.ext hxr4
    replace hb3 := hb3.ext hxr4
    replace hp1_5 := hp1_5.ext hxr4
    replace hb2 := hb2.ext hxr4
    replace E := E.next hxr4 (by omega)
    refine i_pure rfl (fun w10i hx10i => y_field rfl) rfl ?_
    refine i_pure rfl (fun w11i hx11i => y_load_box rfl) rfl ?_
    refine i_pure rfl (fun w12i hx12i => y_move rfl) rfl ?_
    refine i_pure rfl (fun w13i hx13i => y_field rfl) rfl ?_
    refine i_pure rfl (fun w14i hx14i => y_load_box rfl) rfl ?_
    refine i_turn ?_
    refine i_turn ?_
    refine i_pure rfl (fun w17i hx17i => y_move rfl) rfl ?_
    refine i_turn ?_
    refine i_turn ?_
    refine i_turn ?_
    refine i_turn ?_
    refine i_turn ?_
    refine i_turn ?_
    refine i_two (j := 5) rfl rfl ?_ ?_
    refine w_lit (α := Int) rfl rfl rfl rfl rfl rfl rfl rfl (fun v18 w18 ho18 hx18 hl18 hh18 hs18 => ?_)
    have hl_ho18 := ho18.lt
    have hz_hx18 := hx18.size
    replace hp3_7 := hp3_7.ext hx18
    replace hb3 := hb3.ext hx18
    replace hp1_5 := hp1_5.ext hx18
    replace hb2 := hb2.ext hx18
    replace E := E.next hx18 (by omega)
    refine w_nil ?_
    refine x_hi ?_
    refine i_turn ?_
    refine i_turn ?_
    refine i_turn ?_
    refine i_one rfl ?_
    refine w_pure (y_len rfl) rfl ?_
    refine w_nil ?_
    refine x_hi ?_
    refine i_one rfl ?_
    (refine w_call rfl rfl rfl (srcPick_z _) rfl ?_; rintro _ w16 ⟨x16, ⟨rfl, ⟨⟨hp1_16, hp2_16⟩, ⟨hp3_16, hx16⟩⟩⟩⟩)
    have hz_hx16 := hx16.size
    replace ho18 := ho18.chg hx16 (by omega)
    replace hb3 := hb3.chg hx16 (by omega)
    replace hp1_5 := hp1_5.chg hx16 (by omega)
    replace hb2 := hb2.chg hx16 (by omega)
    replace E := E.trans hx16
    refine w_nil ?_
    refine x_hi ?_
    refine i_one rfl ?_
    (refine w_call rfl rfl rfl (srcAmong_c) rfl ?_; rintro _ w19 ⟨x19, ⟨rfl, ⟨hp1_19, ⟨hp2_19, hx19⟩⟩⟩⟩)
    have hz_hx19 := hx19.size
    replace ho18 := ho18.chg hx19 (by omega)
    replace hb3 := hb3.chg hx19 (by omega)
    replace hp1_5 := hp1_5.chg hx19 (by omega)
    replace hb2 := hb2.chg hx19 (by omega)
    replace E := E.trans hx19
    refine w_nil ?_
    refine x_hi ?_
    refine i_one rfl ?_
    refine w_pure (y_index rfl rfl) rfl ?_
    refine w_nil ?_
    refine x_hi ?_
    refine i_one rfl ?_
    refine w_store_own rfl rfl (next := fun ws68 hos68 hxs68 hss68 => ?_)
    (replace hp1_5 := hos68; clear hos68)
    have hz_hxs68 := hxs68.size
    replace hp2_19 := hp2_19.chg hxs68 (by omega)
    replace ho18 := ho18.chg hxs68 (by omega)
    replace hb3 := hb3.chg hxs68 (by omega)
    replace hb2 := hb2.chg hxs68 (by omega)
    replace E := E.next hxs68 (by omega)
    refine w_nil ?_
    refine x_hi ?_
    refine i_nil ?_
    refine x_block_norm ?_
    refine x_next ?_
    refine c_seq ?_
    refine c_region ?_
    refine w_pure (y_load_boxs rfl) rfl ?_
    refine w_store_boxs rfl rfl (next := fun ws77 hbs77 hxs77 hss77 => ?_)
    (replace hb2 := hbs77; clear hbs77)
    have hz_hxs77 := hxs77.size
    replace hp1_5 := hp1_5.chg hxs77 (by omega)
    replace hp2_19 := hp2_19.chg hxs77 (by omega)
    replace ho18 := ho18.chg hxs77 (by omega)
    replace hb3 := hb3.chg hxs77 (by omega)
    replace E := E.next hxs77 (by omega)
    refine w_nil ?_
    refine x_next ?_
    refine c_ret ?_
    rotate_left
    refine w_pure (y_len rfl) rfl ?_
    refine w_nil ?_
    refine x_hi ?_
    refine i_turn ?_
    refine i_turn ?_
    refine i_turn ?_
    refine i_turn ?_
    refine i_turn ?_
    refine i_two (j := 6) rfl rfl ?_ ?_
    refine w_lit (α := Int) rfl rfl rfl rfl rfl rfl rfl rfl (fun v18 w18 ho18 hx18 hl18 hh18 hs18 => ?_)
    have hl_ho18 := ho18.lt
    have hz_hx18 := hx18.size
    replace hp3_7 := hp3_7.ext hx18
    replace hb3 := hb3.ext hx18
    replace hp1_5 := hp1_5.ext hx18
    replace hb2 := hb2.ext hx18
    replace E := E.next hx18 (by omega)
    refine w_nil ?_
    refine x_hi ?_
    refine i_turn ?_
    refine i_turn ?_
    refine i_turn ?_
    refine i_one rfl ?_
    (refine w_call rfl rfl rfl (srcPick_z _) rfl ?_; rintro _ w16 ⟨x16, ⟨rfl, ⟨⟨hp1_16, hp2_16⟩, ⟨hp3_16, hx16⟩⟩⟩⟩)
    have hz_hx16 := hx16.size
    replace ho18 := ho18.chg hx16 (by omega)
    replace hb3 := hb3.chg hx16 (by omega)
    replace hp1_5 := hp1_5.chg hx16 (by omega)
    replace hb2 := hb2.chg hx16 (by omega)
    replace E := E.trans hx16
    refine w_nil ?_
    refine x_hi ?_
    refine i_one rfl ?_
    (refine w_call rfl rfl rfl (srcAmong_c) rfl ?_; rintro _ w19 ⟨x19, ⟨rfl, ⟨hp1_19, ⟨hp2_19, hx19⟩⟩⟩⟩)
    have hz_hx19 := hx19.size
    replace ho18 := ho18.chg hx19 (by omega)
    replace hb3 := hb3.chg hx19 (by omega)
    replace hp1_5 := hp1_5.chg hx19 (by omega)
    replace hb2 := hb2.chg hx19 (by omega)
    replace E := E.trans hx19
    refine w_nil ?_
    refine x_hi ?_
    refine i_one rfl ?_
    refine w_pure (y_index rfl rfl) rfl ?_
    refine w_nil ?_
    refine x_hi ?_
    refine i_one rfl ?_
    refine w_store_own rfl rfl (next := fun ws110 hos110 hxs110 hss110 => ?_)
    (replace hp1_5 := hos110; clear hos110)
    have hz_hxs110 := hxs110.size
    replace hp2_19 := hp2_19.chg hxs110 (by omega)
    replace ho18 := ho18.chg hxs110 (by omega)
    replace hb3 := hb3.chg hxs110 (by omega)
    replace hb2 := hb2.chg hxs110 (by omega)
    replace E := E.next hxs110 (by omega)
    refine w_nil ?_
    refine x_hi ?_
    refine i_nil ?_
    refine x_block_norm ?_
    refine x_next ?_
    refine c_seq ?_
    refine c_region ?_
    refine w_pure (y_load_boxs rfl) rfl ?_
    refine w_store_boxs rfl rfl (next := fun ws119 hbs119 hxs119 hss119 => ?_)
    (replace hb2 := hbs119; clear hbs119)
    have hz_hxs119 := hxs119.size
    replace hp1_5 := hp1_5.chg hxs119 (by omega)
    replace hp2_19 := hp2_19.chg hxs119 (by omega)
    replace ho18 := ho18.chg hxs119 (by omega)
    replace hb3 := hb3.chg hxs119 (by omega)
    replace E := E.next hxs119 (by omega)
    refine w_nil ?_
    refine x_next ?_
    refine c_ret ?_
    rotate_left
    (refine w_call rfl rfl rfl (srcPick_z _) rfl ?_; rintro _ w16 ⟨x16, ⟨rfl, ⟨⟨hp1_16, hp2_16⟩, ⟨hp3_16, hx16⟩⟩⟩⟩)
    have hz_hx16 := hx16.size
    replace hb3 := hb3.chg hx16 (by omega)
    replace hp1_5 := hp1_5.chg hx16 (by omega)
    replace hb2 := hb2.chg hx16 (by omega)
    replace E := E.trans hx16
    refine w_nil ?_
    refine x_hi ?_
    refine i_one rfl ?_
    refine w_lit (α := Int) rfl rfl rfl rfl rfl rfl rfl rfl (fun v18 w18 ho18 hx18 hl18 hh18 hs18 => ?_)
    have hl_ho18 := ho18.lt
    have hz_hx18 := hx18.size
    replace hp3_16 := hp3_16.ext hx18
    replace hb3 := hb3.ext hx18
    replace hp1_5 := hp1_5.ext hx18
    replace hb2 := hb2.ext hx18
    replace E := E.next hx18 (by omega)
    refine w_nil ?_
    refine x_hi ?_
    refine i_one rfl ?_
    (refine w_call rfl rfl rfl (srcAmong_c) rfl ?_; rintro _ w19 ⟨x19, ⟨rfl, ⟨hp1_19, ⟨hp2_19, hx19⟩⟩⟩⟩)
    have hz_hx19 := hx19.size
    replace ho18 := ho18.chg hx19 (by omega)
    replace hb3 := hb3.chg hx19 (by omega)
    replace hp1_5 := hp1_5.chg hx19 (by omega)
    replace hb2 := hb2.chg hx19 (by omega)
    replace E := E.trans hx19
    refine w_nil ?_
    refine x_hi ?_
    refine i_one rfl ?_
    refine w_pure (y_index rfl rfl) rfl ?_
    refine w_nil ?_
    refine x_hi ?_
    refine i_one rfl ?_
    refine w_store_own rfl rfl (next := fun ws140 hos140 hxs140 hss140 => ?_)
    (replace hp1_5 := hos140; clear hos140)
    have hz_hxs140 := hxs140.size
    replace hp2_19 := hp2_19.chg hxs140 (by omega)
    replace ho18 := ho18.chg hxs140 (by omega)
    replace hb3 := hb3.chg hxs140 (by omega)
    replace hb2 := hb2.chg hxs140 (by omega)
    replace E := E.next hxs140 (by omega)
    refine w_nil ?_
    refine x_hi ?_
    refine i_nil ?_
    refine x_block_norm ?_
    refine x_next ?_
    refine c_seq ?_
    refine c_region ?_
    refine w_pure (y_load_boxs rfl) rfl ?_
    refine w_store_boxs rfl rfl (next := fun ws149 hbs149 hxs149 hss149 => ?_)
    (replace hb2 := hbs149; clear hbs149)
    have hz_hxs149 := hxs149.size
    replace hp1_5 := hp1_5.chg hxs149 (by omega)
    replace hp2_19 := hp2_19.chg hxs149 (by omega)
    replace ho18 := ho18.chg hxs149 (by omega)
    replace hb3 := hb3.chg hxs149 (by omega)
    replace E := E.next hxs149 (by omega)
    refine w_nil ?_
    refine x_next ?_
    refine c_ret ?_
    rotate_left
    refine c_seq ?_
    refine c_region ?_
    refine w_pure (y_eq rfl rfl) rfl ?_
    refine w_pure (y_assign rfl) rfl ?_
    refine w_nil ?_
    refine x_next ?_
    (refine c_dec rfl (fun hc21 => ?_) (fun hc21 => ?_) <;> try (first | exact absurd rfl hc21 | contradiction | exact Bool.noConfusion (show false = true from hc21.symm.trans (by assumption)) | exact Bool.noConfusion (show true = false from hc21.symm.trans (by assumption)) | (exfalso; omega) | (exfalso; simp only [*, Bool.not_true, Bool.not_false, reduceCtorEq] at hc21; done)))
    refine c_region ?_
    refine w_pure (y_move rfl) rfl ?_
    (refine w_call rfl rfl rfl (srcPick_z _) rfl ?_; rintro _ w24 ⟨x24, ⟨rfl, ⟨⟨hp1_24, hp2_24⟩, ⟨hp3_24, hx24⟩⟩⟩⟩)
    have hz_hx24 := hx24.size
    replace hb3 := hb3.chg hx24 (by omega)
    replace hp1_5 := hp1_5.chg hx24 (by omega)
    replace hb2 := hb2.chg hx24 (by omega)
    replace E := E.trans hx24
    refine w_make (α := Int) rfl rfl (k := fun v25 w25 ho25 hx25 hl25 hh25 hs25 => ?_)
    have hl_ho25 := ho25.lt
    have hz_hx25 := hx25.size
    replace hp3_24 := hp3_24.ext hx25
    replace hb3 := hb3.ext hx25
    replace hp1_5 := hp1_5.ext hx25
    replace hb2 := hb2.ext hx25
    replace E := E.next hx25 (by omega)
    refine w_pure (y_field rfl) rfl ?_
    refine w_store_box rfl rfl (next := fun ws166 hbs166 hxs166 hss166 => ?_)
    (replace hb3 := hbs166; clear hbs166)
    have hz_hxs166 := hxs166.size
    replace ho25 := ho25.chg hxs166 (by omega)
    replace hp3_24 := hp3_24.chg hxs166 (by omega)
    replace hp1_5 := hp1_5.chg hxs166 (by omega)
    replace hb2 := hb2.chg hxs166 (by omega)
    replace E := E.next hxs166 (by omega)
    refine w_nil ?_
    refine x_block_norm ?_
    refine x_next ?_
    refine c_seq ?_
    refine c_region ?_
    refine w_pure (y_load_boxs rfl) rfl ?_
    refine w_store_boxs rfl rfl (next := fun ws173 hbs173 hxs173 hss173 => ?_)
    (replace hb2 := hbs173; clear hbs173)
    have hz_hxs173 := hxs173.size
    replace hb3 := hb3.chg hxs173 (by omega)
    replace ho25 := ho25.chg hxs173 (by omega)
    replace hp3_24 := hp3_24.chg hxs173 (by omega)
    replace hp1_5 := hp1_5.chg hxs173 (by omega)
    replace E := E.next hxs173 (by omega)
    refine w_nil ?_
    refine x_next ?_
    refine c_ret ?_
    rotate_left
    refine c_seq ?_
    refine c_region ?_
    refine w_pure (y_eq rfl rfl) rfl ?_
    refine w_pure (y_assign rfl) rfl ?_
    refine w_nil ?_
    refine x_next ?_
    (refine c_dec rfl (fun hc27 => ?_) (fun hc27 => ?_) <;> try (first | exact absurd rfl hc27 | contradiction | exact Bool.noConfusion (show false = true from hc27.symm.trans (by assumption)) | exact Bool.noConfusion (show true = false from hc27.symm.trans (by assumption)) | (exfalso; omega) | (exfalso; simp only [*, Bool.not_true, Bool.not_false, reduceCtorEq] at hc27; done)))
    refine c_region ?_
    refine w_pure (y_move rfl) rfl ?_
    (refine w_call rfl rfl rfl (srcPick_z _) rfl ?_; rintro _ w30 ⟨x30, ⟨rfl, ⟨⟨hp1_30, hp2_30⟩, ⟨hp3_30, hx30⟩⟩⟩⟩)
    have hz_hx30 := hx30.size
    replace hb3 := hb3.chg hx30 (by omega)
    replace hp1_5 := hp1_5.chg hx30 (by omega)
    replace hb2 := hb2.chg hx30 (by omega)
    replace E := E.trans hx30
    refine w_pure (y_add rfl rfl) rfl ?_
    refine w_make (α := Int) rfl rfl (k := fun v32 w32 ho32 hx32 hl32 hh32 hs32 => ?_)
    have hl_ho32 := ho32.lt
    have hz_hx32 := hx32.size
    replace hp3_30 := hp3_30.ext hx32
    replace hb3 := hb3.ext hx32
    replace hp1_5 := hp1_5.ext hx32
    replace hb2 := hb2.ext hx32
    replace E := E.next hx32 (by omega)
    refine w_pure (y_field rfl) rfl ?_
    refine w_store_box rfl rfl (next := fun ws191 hbs191 hxs191 hss191 => ?_)
    (replace hb3 := hbs191; clear hbs191)
    have hz_hxs191 := hxs191.size
    replace ho32 := ho32.chg hxs191 (by omega)
    replace hp3_30 := hp3_30.chg hxs191 (by omega)
    replace hp1_5 := hp1_5.chg hxs191 (by omega)
    replace hb2 := hb2.chg hxs191 (by omega)
    replace E := E.next hxs191 (by omega)
    refine w_nil ?_
    refine x_block_norm ?_
    refine x_next ?_
    refine c_seq ?_
    refine c_region ?_
    refine w_pure (y_load_boxs rfl) rfl ?_
    refine w_store_boxs rfl rfl (next := fun ws198 hbs198 hxs198 hss198 => ?_)
    (replace hb2 := hbs198; clear hbs198)
    have hz_hxs198 := hxs198.size
    replace hb3 := hb3.chg hxs198 (by omega)
    replace ho32 := ho32.chg hxs198 (by omega)
    replace hp3_30 := hp3_30.chg hxs198 (by omega)
    replace hp1_5 := hp1_5.chg hxs198 (by omega)
    replace E := E.next hxs198 (by omega)
    refine w_nil ?_
    refine x_next ?_
    refine c_ret ?_
    rotate_left
    refine c_skip ?_
    refine x_block_norm ?_
    refine x_next ?_
    refine c_seq ?_
    refine c_region ?_
    refine w_pure (y_load_boxs rfl) rfl ?_
    refine w_store_boxs rfl rfl (next := fun ws209 hbs209 hxs209 hss209 => ?_)
    (replace hb2 := hbs209; clear hbs209)
    have hz_hxs209 := hxs209.size
    replace hp3_7 := hp3_7.chg hxs209 (by omega)
    replace hb3 := hb3.chg hxs209 (by omega)
    replace hp1_5 := hp1_5.chg hxs209 (by omega)
    replace E := E.next hxs209 (by omega)
    refine w_nil ?_
    refine x_next ?_
    refine c_ret ?_
    rotate_left
  all_goals exact x_retv [_] rfl ⟨⟨_, rfl, run_load_str (Box.at (by assumption)) (by rfl)⟩, trivial⟩ ⟨_, _, rfl, Own.base (by assumption) (by omega), by first | omega | (simp only [List.length_set]; omega) | (simp only [List.length_replicate]; omega), (by assumption : Src _ lo hi b _).more (by omega), E.go⟩
end
end Go.Proofs.YtgkljfncpgbngaaDoor

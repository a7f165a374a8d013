/- Contracts: counters, numbers and texts that the law on wheels draws. -/
import Derived.Test.YtgkljfncpgbngaaDoorBalB
import Derived.Test.YtgkljfncpgbngaaDoorBalD
import Derived.Test.YtgkljfncpgbngaaDoorCntE
import Derived.Test.YtgkljfncpgbngaaDoorWhlP
namespace Go.Proofs.YtgkljfncpgbngaaDoor
open Go Go.Gw
set_option linter.unusedVariables false
set_option linter.unusedSimpArgs false
theorem getD_inS {xs : List (List UInt8)} {i : Nat} (h : i < xs.length) : xs.getD i [] ∈ xs := by rw [List.getD_eq_getElem?_getD, List.getElem?_eq_getElem h]; exact List.getElem_mem h
theorem digs_push {xs : List Int} {d : Int} (h : Digs xs) (hd : 0 ≤ d ∧ d ≤ 9) : Digs (xs ++ [d]) := fun x hx => by
  rw [List.mem_append, List.mem_singleton] at hx
  rcases hx with hx | rfl
  · exact h x hx
  · exact hd
section
variable {w : World} {lo hi b l9 k9 : Nat} {B : Int} {v : Value} {p : List UInt8} {xs : List Int}
theorem srcText_c {xss : List (List UInt8)} (hs : SL w l9 k9 v xss := by repeat (first | assumption | exact Go.Gw.Own.sl (by assumption) | exact Go.Gw.Box.at (by assumption) | exact Go.Gw.SLL.el (by first | assumption | exact Go.Gw.OwnD.sll (by assumption)) _ (by omega) | exact Go.Gw.SLL.at (by first | assumption | exact Go.Gw.OwnD.sll (by assumption)) (by omega) | exact Go.Gw.OwnD.sll (by assumption) | (apply Go.Gw.SL.chg; case hx => assumption) | (apply Go.Gw.Own.chg; case hx => assumption) | (apply Go.Gw.Box.chg; case hx => assumption) | (apply Go.Gw.At.chg; case hx => assumption) | exact .inl (Nat.zero_le _) | exact .inr (Nat.zero_le _) | (show _ ∨ _; omega))) (h : Src w lo hi b B := by assumption) (hB : B ≤ 10000000000 := by omega) (hn : 1 ≤ xss.length ∧ xss.length ≤ 1000 := by first | omega | (simp only [List.length_cons, List.length_nil]; omega)) (hm : ∀ x ∈ xss, x.length ≤ 100 := by decide) (hd : b < l9 ∨ k9 ≤ b := by omega) : Ret Tryd.prog 95 [ptr b 0, v] w fun u w' => ∃ x, u = str x ∧ x.length ≤ 100 ∧ Src w' lo hi b (B + 2) ∧ Chg b (b + 1) w w' := by
  have htop := h.top
  have E : Since b (b + 1) w w := Since.refl _ _ _
  refine ret_enter Tryd.func95 rfl Tryd.ntmps95 rfl ?_
  focus
    have ht_hs := hs.top
    have ht_h := h.top
    refine c_seq ?_
    refine c_region ?_
    refine w_pure (y_assign rfl) rfl ?_
    refine w_nil ?_
    refine x_next ?_
    refine c_seq ?_
    refine c_region ?_
    refine w_pure (y_move rfl) rfl ?_
    refine w_pure (y_move rfl) rfl ?_
    refine w_pure (y_move rfl) rfl ?_
    refine w_pure (y_len rfl) rfl ?_
    (refine w_call rfl rfl rfl (srcPick_z _) rfl ?_; rintro _ w9 ⟨x9, ⟨rfl, ⟨⟨hp1_9, hp2_9⟩, ⟨hp3_9, hx9⟩⟩⟩⟩)
    have hz_hx9 := hx9.size
    replace hs := hs.chg hx9 (by omega)
    replace E := E.trans hx9
    refine w_pure (y_index rfl rfl) rfl ?_
    refine w_pure (y_load_str rfl) rfl ?_
    refine w_pure (y_assign rfl) rfl ?_
    refine w_nil ?_
    refine x_next ?_
    refine c_ret ?_
    rotate_left
  exact x_retv [_] rfl ⟨rfl, trivial⟩ ⟨_, rfl, hm _ (getD_inS (by omega)), hp3_9, E.go⟩
theorem l01Spoil_c (h : Src w lo hi b B := by assumption) (hB : B ≤ 1000000000 := by omega) (hl : p.length ≤ 100000 := by omega) : Ret Tryd.prog 94 [ptr b 0, str p] w fun u w' => ∃ q, u = str q ∧ q.length ≤ p.length + 100 ∧ Src w' lo hi b (B + 20) ∧ Chg b (b + 1) w w' := by
  have htop := h.top
  have hlim := h.lim
  have E : Since b (b + 1) w w := Since.refl _ _ _
  rcases Nat.eq_zero_or_pos p.length with hp0 | hp0
  · obtain rfl := List.eq_nil_of_length_eq_zero hp0
    refine ret_enter Tryd.func94 rfl Tryd.ntmps94 rfl ?_
    focus
      have ht_h := h.top
      refine c_seq ?_
      refine c_region ?_
      refine w_pure (y_assign rfl) rfl ?_
      refine w_nil ?_
      refine x_next ?_
      refine c_seq ?_
      refine c_seq ?_
      refine c_region ?_
      refine w_pure (y_move rfl) rfl ?_
      (refine w_call rfl rfl rfl (srcPick_z _) rfl ?_; rintro _ w8 ⟨x8, ⟨rfl, ⟨⟨hp1_8, hp2_8⟩, ⟨hp3_8, hx8⟩⟩⟩⟩)
      have hz_hx8 := hx8.size
      replace E := E.trans hx8
      refine w_nil ?_
      refine x_next ?_
      refine c_block ?_
      refine c_seq ?_
      refine c_region ?_
      refine w_pure (y_eq rfl rfl) rfl ?_
      refine w_pure (y_assign rfl) rfl ?_
      refine w_nil ?_
      refine x_next ?_
      (refine c_dec rfl (fun hc9 => ?_) (fun hc9 => ?_) <;> try (first | exact absurd rfl hc9 | contradiction | exact Bool.noConfusion (show false = true from hc9.symm.trans (by assumption)) | exact Bool.noConfusion (show true = false from hc9.symm.trans (by assumption)) | (exfalso; omega) | (exfalso; simp only [*, Bool.not_true, Bool.not_false, reduceCtorEq] at hc9; done)))
      refine c_seq ?_
      refine c_region ?_
      refine w_pure (y_move rfl) rfl ?_
      refine w_pure (y_move rfl) rfl ?_
      refine w_pure (y_slen rfl) rfl ?_
      refine w_pure (y_add rfl rfl) rfl ?_
      (refine w_call rfl rfl rfl (srcPick_z _) rfl ?_; rintro _ w15 ⟨x15, ⟨rfl, ⟨⟨hp1_15, hp2_15⟩, ⟨hp3_15, hx15⟩⟩⟩⟩)
      have hz_hx15 := hx15.size
      replace E := E.trans hx15
      refine w_pure (y_assign rfl) rfl ?_
      refine w_nil ?_
      refine x_next ?_
      refine c_region_inv (i := 4) (b) (b + 1) mixed (fun wr4 hxr4 hzr4 => ?_)
      have hz_hxr4 := hxr4.size
      replace hp3_15 := hp3_15.ext hxr4
      replace E := E.next hxr4 (by omega)
      refine i_pure rfl (fun w16i hx16i => y_move rfl) rfl ?_
      refine i_pure rfl (fun w17i hx17i => y_move rfl) rfl ?_
      refine i_pure rfl (fun w18i hx18i => y_part_str rfl (.inl ⟨rfl, rfl⟩) (.inr ⟨_, _, rfl, rfl⟩)) rfl ?_
      refine i_pure rfl (fun w19i hx19i => y_move rfl) rfl ?_
      refine i_turn ?_
      refine i_turn ?_
      refine i_turn ?_
      refine i_pure rfl (fun w23i hx23i => y_move rfl) rfl ?_
      refine i_pure rfl (fun w24i hx24i => y_move rfl) rfl ?_
      refine i_pure rfl (fun w25i hx25i => y_part_str rfl (.inr ⟨_, _, rfl, rfl⟩) (.inl ⟨rfl, rfl⟩)) rfl ?_
      refine i_turn ?_
      refine i_turn ?_
      refine i_one rfl ?_
      refine w_lit (α := (List UInt8)) rfl rfl rfl rfl rfl rfl rfl rfl (fun v20 w20 ho20 hx20 hl20 hh20 hs20 => ?_)
      have hl_ho20 := ho20.lt
      have hz_hx20 := hx20.size
      replace hp3_15 := hp3_15.ext hx20
      replace E := E.next hx20 (by omega)
      refine w_nil ?_
      refine x_hi ?_
      refine i_one rfl ?_
      (refine w_call rfl rfl rfl (srcText_c) rfl ?_; rintro _ w21 ⟨x21, ⟨rfl, ⟨hp1_21, ⟨hp2_21, hx21⟩⟩⟩⟩)
      have hz_hx21 := hx21.size
      replace ho20 := ho20.chg hx21 (by omega)
      replace E := E.trans hx21
      refine w_nil ?_
      refine x_hi ?_
      refine i_one rfl ?_
      refine w_pure (y_scat rfl rfl (by simp only [List.length_append, List.length_drop, List.length_take]; omega)) rfl ?_
      refine w_nil ?_
      refine x_hi ?_
      refine i_one rfl ?_
      refine w_pure (y_scat rfl rfl (by simp only [List.length_append, List.length_drop, List.length_take]; omega)) rfl ?_
      refine w_nil ?_
      refine x_hi ?_
      refine i_pure rfl (fun w1i hx1i => y_assign rfl) rfl ?_
      refine i_nil ?_
      refine x_block_norm ?_
      refine x_next ?_
      refine c_seq ?_
      refine c_region ?_
      refine w_pure (y_move rfl) rfl ?_
      refine w_pure (y_assign rfl) rfl ?_
      refine w_nil ?_
      refine x_next ?_
      refine c_ret ?_
      rotate_left
      refine c_seq ?_
      refine c_region ?_
      refine w_pure (y_eq rfl rfl) rfl ?_
      refine w_pure (y_assign rfl) rfl ?_
      refine w_nil ?_
      refine x_next ?_
      (refine c_dec rfl (fun hc27 => ?_) (fun hc27 => ?_) <;> try (first | exact absurd rfl hc27 | contradiction | exact Bool.noConfusion (show false = true from hc27.symm.trans (by assumption)) | exact Bool.noConfusion (show true = false from hc27.symm.trans (by assumption)) | (exfalso; omega) | (exfalso; simp only [*, Bool.not_true, Bool.not_false, reduceCtorEq] at hc27; done)))
      refine c_seq ?_
      refine c_region ?_
      refine w_pure (y_move rfl) rfl ?_
      refine w_pure (y_sne rfl rfl) rfl ?_
      refine w_nil ?_
      refine x_next ?_
      refine c_false rfl ?_
      refine c_skip ?_
      refine x_block_norm ?_
      refine x_next ?_
      refine c_seq ?_
      refine c_region ?_
      refine w_pure (y_move rfl) rfl ?_
      refine w_pure (y_assign rfl) rfl ?_
      refine w_nil ?_
      refine x_next ?_
      refine c_ret ?_
      rotate_left
      refine c_skip ?_
      refine x_block_norm ?_
      refine x_next ?_
      refine c_seq ?_
      refine c_region ?_
      refine w_pure (y_move rfl) rfl ?_
      refine w_pure (y_assign rfl) rfl ?_
      refine w_nil ?_
      refine x_next ?_
      refine c_ret ?_
      rotate_left
    all_goals first
      | exact x_retv [_] rfl ⟨rfl, trivial⟩ ⟨_, rfl, by first | omega | (simp only [List.length_append, List.length_drop, List.length_take, List.length_nil]; omega), (by assumption : Src _ lo hi b _).more (by omega), E.go⟩
  · refine ret_enter Tryd.func94 rfl Tryd.ntmps94 rfl ?_
    focus
      have ht_h := h.top
      refine c_seq ?_
      refine c_region ?_
      refine w_pure (y_assign rfl) rfl ?_
      refine w_nil ?_
      refine x_next ?_
      refine c_seq ?_
      refine c_seq ?_
      refine c_region ?_
      refine w_pure (y_move rfl) rfl ?_
      (refine w_call rfl rfl rfl (srcPick_z _) rfl ?_; rintro _ w8 ⟨x8, ⟨rfl, ⟨⟨hp1_8, hp2_8⟩, ⟨hp3_8, hx8⟩⟩⟩⟩)
      have hz_hx8 := hx8.size
      replace E := E.trans hx8
      refine w_nil ?_
      refine x_next ?_
      refine c_block ?_
      refine c_seq ?_
      refine c_region ?_
      refine w_pure (y_eq rfl rfl) rfl ?_
      refine w_pure (y_assign rfl) rfl ?_
      refine w_nil ?_
      refine x_next ?_
      (refine c_dec rfl (fun hc9 => ?_) (fun hc9 => ?_) <;> try (first | exact absurd rfl hc9 | contradiction | exact Bool.noConfusion (show false = true from hc9.symm.trans (by assumption)) | exact Bool.noConfusion (show true = false from hc9.symm.trans (by assumption)) | (exfalso; omega) | (exfalso; simp only [*, Bool.not_true, Bool.not_false, reduceCtorEq] at hc9; done)))
      refine c_seq ?_
      refine c_region ?_
      refine w_pure (y_move rfl) rfl ?_
      refine w_pure (y_move rfl) rfl ?_
      refine w_pure (y_slen rfl) rfl ?_
      refine w_pure (y_add rfl rfl) rfl ?_
      (refine w_call rfl rfl rfl (srcPick_z _) rfl ?_; rintro _ w15 ⟨x15, ⟨rfl, ⟨⟨hp1_15, hp2_15⟩, ⟨hp3_15, hx15⟩⟩⟩⟩)
      have hz_hx15 := hx15.size
      replace E := E.trans hx15
      refine w_pure (y_assign rfl) rfl ?_
      refine w_nil ?_
      refine x_next ?_
      refine c_region_inv (i := 4) (b) (b + 1) mixed (fun wr4 hxr4 hzr4 => ?_)
      have hz_hxr4 := hxr4.size
      replace hp3_15 := hp3_15.ext hxr4
      replace E := E.next hxr4 (by omega)
      refine i_pure rfl (fun w16i hx16i => y_move rfl) rfl ?_
      refine i_pure rfl (fun w17i hx17i => y_move rfl) rfl ?_
      refine i_pure rfl (fun w18i hx18i => y_part_str rfl (.inl ⟨rfl, rfl⟩) (.inr ⟨_, _, rfl, rfl⟩)) rfl ?_
      refine i_pure rfl (fun w19i hx19i => y_move rfl) rfl ?_
      refine i_turn ?_
      refine i_turn ?_
      refine i_turn ?_
      refine i_pure rfl (fun w23i hx23i => y_move rfl) rfl ?_
      refine i_pure rfl (fun w24i hx24i => y_move rfl) rfl ?_
      refine i_pure rfl (fun w25i hx25i => y_part_str rfl (.inr ⟨_, _, rfl, rfl⟩) (.inl ⟨rfl, rfl⟩)) rfl ?_
      refine i_turn ?_
      refine i_turn ?_
      refine i_one rfl ?_
      refine w_lit (α := (List UInt8)) rfl rfl rfl rfl rfl rfl rfl rfl (fun v20 w20 ho20 hx20 hl20 hh20 hs20 => ?_)
      have hl_ho20 := ho20.lt
      have hz_hx20 := hx20.size
      replace hp3_15 := hp3_15.ext hx20
      replace E := E.next hx20 (by omega)
      refine w_nil ?_
      refine x_hi ?_
      refine i_one rfl ?_
      (refine w_call rfl rfl rfl (srcText_c) rfl ?_; rintro _ w21 ⟨x21, ⟨rfl, ⟨hp1_21, ⟨hp2_21, hx21⟩⟩⟩⟩)
      have hz_hx21 := hx21.size
      replace ho20 := ho20.chg hx21 (by omega)
      replace E := E.trans hx21
      refine w_nil ?_
      refine x_hi ?_
      refine i_one rfl ?_
      refine w_pure (y_scat rfl rfl (by simp only [List.length_append, List.length_drop, List.length_take]; omega)) rfl ?_
      refine w_nil ?_
      refine x_hi ?_
      refine i_one rfl ?_
      refine w_pure (y_scat rfl rfl (by simp only [List.length_append, List.length_drop, List.length_take]; omega)) rfl ?_
      refine w_nil ?_
      refine x_hi ?_
      refine i_pure rfl (fun w1i hx1i => y_assign rfl) rfl ?_
      refine i_nil ?_
      refine x_block_norm ?_
      refine x_next ?_
      refine c_seq ?_
      refine c_region ?_
      refine w_pure (y_move rfl) rfl ?_
      refine w_pure (y_assign rfl) rfl ?_
      refine w_nil ?_
      refine x_next ?_
      refine c_ret ?_
      rotate_left
      refine c_seq ?_
      refine c_region ?_
      refine w_pure (y_eq rfl rfl) rfl ?_
      refine w_pure (y_assign rfl) rfl ?_
      refine w_nil ?_
      refine x_next ?_
      (refine c_dec rfl (fun hc27 => ?_) (fun hc27 => ?_) <;> try (first | exact absurd rfl hc27 | contradiction | exact Bool.noConfusion (show false = true from hc27.symm.trans (by assumption)) | exact Bool.noConfusion (show true = false from hc27.symm.trans (by assumption)) | (exfalso; omega) | (exfalso; simp only [*, Bool.not_true, Bool.not_false, reduceCtorEq] at hc27; done)))
      refine c_seq ?_
      refine c_region ?_
      refine w_pure (y_move rfl) rfl ?_
      refine w_pure (y_sne rfl rfl) rfl ?_
      refine w_nil ?_
      refine x_next ?_
      (refine c_dec rfl (fun hc30 => ?_) (fun hc30 => ?_) <;> try (first | exact absurd rfl hc30 | contradiction | exact Bool.noConfusion (show false = true from hc30.symm.trans (by assumption)) | exact Bool.noConfusion (show true = false from hc30.symm.trans (by assumption)) | (exfalso; omega) | (exfalso; simp only [*, Bool.not_true, Bool.not_false, reduceCtorEq] at hc30; done)))
      refine c_seq ?_
      refine c_region ?_
      refine w_pure (y_move rfl) rfl ?_
      refine w_pure (y_move rfl) rfl ?_
      refine w_pure (y_slen rfl) rfl ?_
      (refine w_call rfl rfl rfl (srcPick_z _) rfl ?_; rintro _ w34 ⟨x34, ⟨rfl, ⟨⟨hp1_34, hp2_34⟩, ⟨hp3_34, hx34⟩⟩⟩⟩)
      have hz_hx34 := hx34.size
      replace E := E.trans hx34
      refine w_pure (y_assign rfl) rfl ?_
      refine w_nil ?_
      refine x_next ?_
      refine c_region_calm mixed (by decide +kernel) (by kernel_rfl) ?_
      refine q_pure (y_move rfl) rfl ?_
      refine q_pure (y_move rfl) rfl ?_
      refine q_pure (y_part_str rfl (.inl ⟨rfl, rfl⟩) (.inr ⟨_, _, rfl, rfl⟩)) rfl ?_
      refine q_pure (y_move rfl) rfl ?_
      refine q_pure (y_move rfl) rfl ?_
      refine q_pure (y_add rfl rfl) rfl ?_
      refine q_pure (y_part_str rfl (.inr ⟨_, _, rfl, rfl⟩) (.inl ⟨rfl, rfl⟩)) rfl ?_
      refine q_pure (y_scat rfl rfl (by simp only [List.length_append, List.length_drop, List.length_take]; omega)) rfl ?_
      refine q_pure (y_assign rfl) rfl ?_
      refine q_nil (fun ws105 hxs105 hzs105 => ?_)
      have hz_hxs105 := hxs105.size
      replace hp3_34 := hp3_34.ext hxs105
      replace E := E.next hxs105 (by omega)
      refine x_block_norm ?_
      refine x_next ?_
      refine c_seq ?_
      refine c_region ?_
      refine w_pure (y_move rfl) rfl ?_
      refine w_pure (y_assign rfl) rfl ?_
      refine w_nil ?_
      refine x_next ?_
      refine c_ret ?_
      rotate_left
      refine c_skip ?_
      refine x_block_norm ?_
      refine x_next ?_
      refine c_seq ?_
      refine c_region ?_
      refine w_pure (y_move rfl) rfl ?_
      refine w_pure (y_assign rfl) rfl ?_
      refine w_nil ?_
      refine x_next ?_
      refine c_ret ?_
      rotate_left
      refine c_skip ?_
      refine x_block_norm ?_
      refine x_next ?_
      refine c_seq ?_
      refine c_region ?_
      refine w_pure (y_move rfl) rfl ?_
      refine w_pure (y_assign rfl) rfl ?_
      refine w_nil ?_
      refine x_next ?_
      refine c_ret ?_
      rotate_left
    all_goals first
      | exact x_retv [_] rfl ⟨rfl, trivial⟩ ⟨_, rfl, by first | omega | (simp only [List.length_append, List.length_drop, List.length_take, List.length_nil]; omega), (by assumption : Src _ lo hi b _).more (by omega), E.go⟩
theorem l11Draw_z (h : Src w lo hi b B := by assumption) (hB : B ≤ 1000000000 := by omega) : Ret Tryd.prog 92 [ptr b 0] w fun u w' => ∃ d, ∃ xs : List Int, u = .agg #[d] ∧ Own w' 2 w.heap.size d xs ∧ (1 ≤ xs.length ∧ xs.length ≤ 6) ∧ okC xs = true ∧ Src w' lo hi b (B + 100) ∧ Chg b (b + 1) w w' := by
  have htop := h.top
  have hlim := h.lim
  have E : Since b (b + 1) w w := Since.refl _ _ _
  refine ret_enter Tryd.func92 rfl Tryd.ntmps92 rfl ?_
  focus
    have ht_h := h.top
    refine c_seq ?_
    refine c_region ?_
    refine w_alloc (k := fun b2 w2 hb2 hx2 hl2 hs2 => ?_)
    have hz_hx2 := hx2.size
    replace h := h.ext hx2
    replace E := E.next hx2 (by omega)
    refine w_nil ?_
    refine x_next ?_
    refine c_seq ?_
    refine c_region ?_
    refine w_pure (y_build rfl) rfl ?_
    refine w_alloc (k := fun b3 w3 hb3 hx3 hl3 hs3 => ?_)
    have hz_hx3 := hx3.size
    replace hb2 := hb2.ext hx3
    replace h := h.ext hx3
    replace E := E.next hx3 (by omega)
    refine w_store_boxs rfl rfl (next := fun ws10 hbs10 hxs10 hss10 => ?_)
    (replace hb3 := hbs10; clear hbs10)
    have hz_hxs10 := hxs10.size
    replace hb2 := hb2.chg hxs10 (by omega)
    replace h := h.chg hxs10 (by omega)
    replace E := E.next hxs10 (by omega)
    refine w_nil ?_
    refine x_next ?_
    refine c_seq ?_
    refine c_seq ?_
    refine c_region ?_
    refine w_pure (y_move rfl) rfl ?_
    (refine w_call rfl rfl rfl (srcPick_z _) rfl ?_; rintro _ w8 ⟨x8, ⟨rfl, ⟨⟨hp1_8, hp2_8⟩, ⟨hp3_8, hx8⟩⟩⟩⟩)
    have hz_hx8 := hx8.size
    replace hb3 := hb3.chg hx8 (by omega)
    replace hb2 := hb2.chg hx8 (by omega)
    replace E := E.trans hx8
    refine w_pure (y_add rfl rfl) rfl ?_
    refine w_pure (y_assign rfl) rfl ?_
    refine w_nil ?_
    refine x_next ?_
    refine c_block ?_
    rotate_left
  clear h hx2 hx3 hx8
  refine c_loopC b (b3 + 1) (ι := Int × Value × List Int) (fun x => [(0, ptr b 0), (2, ptr b2 0), (3, ptr b3 0), (4, .int .i64 x.1)])
    (fun x w' => Src w' lo hi b (B + 2 + 10 * (6 - x.1)) ∧ Box w' b3 [x.2.1] ∧ Box w' b2 [.slice none 0 0] ∧ Own w' 2 w8.heap.size x.2.1 x.2.2 ∧ (x.2.2.length : Int) = 1 + x8 - x.1 ∧ (0 ≤ x.1 ∧ x.1 ≤ 1 + x8) ∧ Digs x.2.2 ∧ Since b (b + 1) w w') (fun x => x.1.toNat) (1 + x8, .slice none 0 0, [])
    (by repeat (first | exact trivial | refine ⟨rfl, ?_⟩)) ⟨hp3_8.more (by dsimp only; omega), by assumption, by assumption, Own.nil _ _ _, by simp, by dsimp only; omega, (fun d hd => by simp at hd), by assumption⟩ ?_
  clear E hp3_8 hb2 hb3
  rintro ⟨k, u, ps⟩ wL hxL EL ⟨hsr, hb3, hb2, g1, g2, g3, gd, E⟩
  dsimp only at *
  have hzL := hxL.size
  focus
    have ht_hsr := hsr.top
    have hl_g1 := g1.lt
    refine c_seq ?_
    refine c_seq ?_
    refine c_region ?_
    refine w_pure (y_move rfl) rfl ?_
    refine w_pure (y_gt rfl rfl) rfl ?_
    refine w_nil ?_
    refine x_next ?_
    (refine c_dec rfl (fun hc11 => ?_) (fun hc11 => ?_) <;> try (first | exact absurd rfl hc11 | contradiction | exact Bool.noConfusion (show false = true from hc11.symm.trans (by assumption)) | exact Bool.noConfusion (show true = false from hc11.symm.trans (by assumption)) | (exfalso; omega) | (exfalso; simp only [*, Bool.not_true, Bool.not_false, reduceCtorEq] at hc11; done)))
    refine c_skip ?_
    refine x_next ?_
    refine c_seq ?_
    refine c_block ?_
    refine c_seq ?_
    refine c_region ?_
    refine w_pure (y_move rfl) rfl ?_
    (refine w_call rfl rfl rfl (srcPick_z _) rfl ?_; rintro _ w15 ⟨x15, ⟨rfl, ⟨⟨hp1_15, hp2_15⟩, ⟨hp3_15, hx15⟩⟩⟩⟩)
    have hz_hx15 := hx15.size
    replace EL := EL.next hx15 (by omega)
    replace hb3 := hb3.chg hx15 (by omega)
    replace hb2 := hb2.chg hx15 (by omega)
    replace g1 := g1.chg hx15 (by omega)
    replace E := E.trans hx15
    refine w_pure (y_assign rfl) rfl ?_
    refine w_nil ?_
    refine x_next ?_
    refine c_seq ?_
    refine c_seq ?_
    refine c_region ?_
    refine w_pure (y_move rfl) rfl ?_
    (refine w_call rfl rfl rfl (srcOne_c _) rfl ?_; rintro _ w17 ⟨q17, ⟨rfl, ⟨hp1_17, hx17⟩⟩⟩)
    have hz_hx17 := hx17.size
    replace EL := EL.next hx17 (by omega)
    replace hb3 := hb3.chg hx17 (by omega)
    replace hb2 := hb2.chg hx17 (by omega)
    replace g1 := g1.chg hx17 (by omega)
    replace E := E.trans hx17
    refine w_nil ?_
    refine x_next ?_
    (refine c_if rfl (fun hc17 => ?_) (fun hc17 => ?_) <;> try (first | exact absurd rfl hc17 | contradiction | exact Bool.noConfusion (show false = true from hc17.symm.trans (by assumption)) | exact Bool.noConfusion (show true = false from hc17.symm.trans (by assumption)) | (exfalso; omega) | (exfalso; simp only [*, Bool.not_true, Bool.not_false, reduceCtorEq] at hc17; done)))
    refine c_region ?_
    refine w_pure (y_assign rfl) rfl ?_
    refine w_nil ?_
    refine x_next ?_
    refine c_region ?_
    refine w_pure (y_field rfl) rfl ?_
    refine w_pure (y_load_box rfl) rfl ?_
    refine w_pure (y_move rfl) rfl ?_
    refine w_lit (α := Int) rfl rfl rfl rfl rfl rfl rfl rfl (fun v21 w21 ho21 hx21 hl21 hh21 hs21 => ?_)
    have hl_ho21 := ho21.lt
    have hz_hx21 := hx21.size
    replace hp1_17 := hp1_17.ext hx21
    replace EL := EL.next hx21 (by omega)
    replace hb3 := hb3.ext hx21
    replace hb2 := hb2.ext hx21
    replace g1 := g1.ext hx21
    replace E := E.next hx21 (by omega)
    refine w_append rfl rfl (k := fun v22 w22 ho22 hx22 hr22 => ?_)
    have hl_ho22 := ho22.lt
    have hz_hx22 := hx22.size
    replace ho21 := ho21.chg hx22 (by omega)
    replace hp1_17 := hp1_17.chg hx22 (by omega)
    replace EL := EL.next hx22 (by omega)
    replace hb3 := hb3.chg hx22 (by omega)
    replace hb2 := hb2.chg hx22 (by omega)
    replace E := E.next hx22 (by omega)
    refine w_pure (y_field rfl) rfl ?_
    refine w_store_box rfl rfl (next := fun ws39 hbs39 hxs39 hss39 => ?_)
    (replace hb3 := hbs39; clear hbs39)
    have hz_hxs39 := hxs39.size
    replace ho22 := ho22.chg hxs39 (by omega)
    replace ho21 := ho21.chg hxs39 (by omega)
    replace hp1_17 := hp1_17.chg hxs39 (by omega)
    replace EL := EL.next hxs39 (by omega)
    replace hb2 := hb2.chg hxs39 (by omega)
    replace E := E.next hxs39 (by omega)
    refine w_nil ?_
    refine x_block_norm ?_
    refine x_next ?_
    refine c_region ?_
    refine w_pure (y_move rfl) rfl ?_
    refine w_pure (y_sub rfl rfl) rfl ?_
    refine w_pure (y_assign rfl) rfl ?_
    refine w_nil ?_
    rotate_left
    refine c_skip ?_
    refine x_next ?_
    refine c_region ?_
    refine w_pure (y_field rfl) rfl ?_
    refine w_pure (y_load_box rfl) rfl ?_
    refine w_pure (y_move rfl) rfl ?_
    refine w_lit (α := Int) rfl rfl rfl rfl rfl rfl rfl rfl (fun v21 w21 ho21 hx21 hl21 hh21 hs21 => ?_)
    have hl_ho21 := ho21.lt
    have hz_hx21 := hx21.size
    replace hp1_17 := hp1_17.ext hx21
    replace EL := EL.next hx21 (by omega)
    replace hb3 := hb3.ext hx21
    replace hb2 := hb2.ext hx21
    replace g1 := g1.ext hx21
    replace E := E.next hx21 (by omega)
    refine w_append rfl rfl (k := fun v22 w22 ho22 hx22 hr22 => ?_)
    have hl_ho22 := ho22.lt
    have hz_hx22 := hx22.size
    replace ho21 := ho21.chg hx22 (by omega)
    replace hp1_17 := hp1_17.chg hx22 (by omega)
    replace EL := EL.next hx22 (by omega)
    replace hb3 := hb3.chg hx22 (by omega)
    replace hb2 := hb2.chg hx22 (by omega)
    replace E := E.next hx22 (by omega)
    refine w_pure (y_field rfl) rfl ?_
    refine w_store_box rfl rfl (next := fun ws58 hbs58 hxs58 hss58 => ?_)
    (replace hb3 := hbs58; clear hbs58)
    have hz_hxs58 := hxs58.size
    replace ho22 := ho22.chg hxs58 (by omega)
    replace ho21 := ho21.chg hxs58 (by omega)
    replace hp1_17 := hp1_17.chg hxs58 (by omega)
    replace EL := EL.next hxs58 (by omega)
    replace hb2 := hb2.chg hxs58 (by omega)
    replace E := E.next hxs58 (by omega)
    refine w_nil ?_
    refine x_block_norm ?_
    refine x_next ?_
    refine c_region ?_
    refine w_pure (y_move rfl) rfl ?_
    refine w_pure (y_sub rfl rfl) rfl ?_
    refine w_pure (y_assign rfl) rfl ?_
    refine w_nil ?_
    rotate_left
    refine c_exit ?_
    refine x_then_exit ?_
    refine x_then_exit ?_
    refine x_block_hit ?_
    refine x_next ?_
    refine c_seq ?_
    refine c_region ?_
    refine w_pure (y_load_boxs rfl) rfl ?_
    refine w_store_boxs rfl rfl (next := fun ws76 hbs76 hxs76 hss76 => ?_)
    (replace hb2 := hbs76; clear hbs76)
    have hz_hxs76 := hxs76.size
    replace EL := EL.next hxs76 (by omega)
    replace hsr := hsr.chg hxs76 (by omega)
    replace hb3 := hb3.chg hxs76 (by omega)
    replace g1 := g1.chg hxs76 (by omega)
    replace E := E.next hxs76 (by omega)
    refine w_nil ?_
    refine x_next ?_
    refine c_ret ?_
    rotate_left
  · exact x_again (k - 1, v22, ps ++ [_]) (by repeat (first | exact trivial | refine ⟨rfl, ?_⟩)) ⟨EL.go, hp1_17.more (by dsimp only; omega), by assumption, by assumption, by assumption, by rw [List.length_append, List.length_singleton]; dsimp only; omega, by dsimp only; omega, digs_push gd (by omega), by assumption⟩ (by dsimp only; omega)
  · exact x_again (k - 1, v22, ps ++ [_]) (by repeat (first | exact trivial | refine ⟨rfl, ?_⟩)) ⟨EL.go, hp1_17.more (by dsimp only; omega), by assumption, by assumption, by assumption, by rw [List.length_append, List.length_singleton]; dsimp only; omega, by dsimp only; omega, digs_push gd (by omega), by assumption⟩ (by dsimp only; omega)
  · exact x_retv [_] rfl ⟨⟨_, rfl, run_load_str (Box.at (by assumption)) (by rfl)⟩, trivial⟩ ⟨u, ps, rfl, Own.base (by assumption) (by omega), by omega, okC_of gd (by omega) (by omega), (by assumption : Src _ lo hi b _).more (by omega), E.go⟩
theorem l11Ask_c (h : SL w lo hi v p := by repeat (first | assumption | exact Go.Gw.Own.sl (by assumption) | exact Go.Gw.Box.at (by assumption) | exact Go.Gw.SLL.el (by first | assumption | exact Go.Gw.OwnD.sll (by assumption)) _ (by omega) | exact Go.Gw.SLL.at (by first | assumption | exact Go.Gw.OwnD.sll (by assumption)) (by omega) | exact Go.Gw.OwnD.sll (by assumption) | (apply Go.Gw.SL.chg; case hx => assumption) | (apply Go.Gw.Own.chg; case hx => assumption) | (apply Go.Gw.Box.chg; case hx => assumption) | (apply Go.Gw.At.chg; case hx => assumption) | exact .inl (Nat.zero_le _) | exact .inr (Nat.zero_le _) | (show _ ∨ _; omega))) : Ret Tryd.prog 78 [v] w fun u w' => ∃ d, ∃ xs : List Int, ∃ n : Int, u = .tuple #[.agg #[d], .int .i64 n] ∧ Own w' 2 w.heap.size d xs ∧ xs.length ≤ 13 ∧ In64 n ∧ Ext w w' := by
  have htop := h.top
  have E : Since 0 0 w w := Since.refl 0 0 w
  refine ret_enter Tryd.func78 rfl Tryd.ntmps78 rfl ?_
  focus
    have ht_h := h.top
    refine c_seq ?_
    refine c_region ?_
    refine w_alloc (k := fun b2 w2 hb2 hx2 hl2 hs2 => ?_)
    have hz_hx2 := hx2.size
    replace h := h.ext hx2
    replace E := E.trans hx2
    refine w_pure (y_assign rfl) rfl ?_
    refine w_nil ?_
    refine x_next ?_
    refine c_seq ?_
    refine c_region ?_
    refine w_pure (y_move rfl) rfl ?_
    (refine w_call rfl rfl rfl (srcFrom_z) rfl ?_; rintro _ w9 ⟨c9, ⟨rfl, ⟨hp1_9, ⟨hp2_9, ⟨hp3_9, hx9⟩⟩⟩⟩⟩)
    have hz_hx9 := hx9.size
    replace hb2 := hb2.ext hx9
    replace h := h.ext hx9
    replace E := E.trans hx9
    refine w_pure (y_assign rfl) rfl ?_
    refine w_nil ?_
    refine x_next ?_
    refine c_seq ?_
    refine c_region ?_
    refine w_pure (y_move rfl) rfl ?_
    (refine w_call rfl rfl rfl (l11Bent_c) rfl ?_; rintro _ w11 ⟨d11, ⟨xs11, ⟨rfl, ⟨hp1_11, ⟨hp2_11, ⟨hp3_11, hx11⟩⟩⟩⟩⟩⟩)
    have hl_hp1_11 := hp1_11.lt
    have hz_hx11 := hx11.size
    replace hb2 := hb2.chg hx11 (by omega)
    replace h := h.chg hx11 (by omega)
    replace E := E.next hx11 (by omega)
    refine w_alloc (k := fun b5 w5 hb5 hx5 hl5 hs5 => ?_)
    have hz_hx5 := hx5.size
    replace hp1_11 := hp1_11.ext hx5
    replace hp3_11 := hp3_11.ext hx5
    replace hb2 := hb2.ext hx5
    replace h := h.ext hx5
    replace E := E.trans hx5
    refine w_store_boxs rfl rfl (next := fun ws19 hbs19 hxs19 hss19 => ?_)
    (replace hb5 := hbs19; clear hbs19)
    have hz_hxs19 := hxs19.size
    replace hp1_11 := hp1_11.chg hxs19 (by omega)
    replace hp3_11 := hp3_11.chg hxs19 (by omega)
    replace hb2 := hb2.chg hxs19 (by omega)
    replace h := h.chg hxs19 (by omega)
    replace E := E.next hxs19 (by omega)
    refine w_nil ?_
    refine x_next ?_
    refine c_seq ?_
    refine c_seq ?_
    refine c_region ?_
    refine w_pure (y_move rfl) rfl ?_
    (refine w_call rfl rfl rfl (srcOne_c _) rfl ?_; rintro _ w13 ⟨q13, ⟨rfl, ⟨hp1_13, hx13⟩⟩⟩)
    have hz_hx13 := hx13.size
    replace hb5 := hb5.chg hx13 (by omega)
    replace hp1_11 := hp1_11.chg hx13 (by omega)
    replace hb2 := hb2.chg hx13 (by omega)
    replace h := h.chg hx13 (by omega)
    replace E := E.next hx13 (by omega)
    refine w_nil ?_
    refine x_next ?_
    (refine c_if rfl (fun hc13 => ?_) (fun hc13 => ?_) <;> try (first | exact absurd rfl hc13 | contradiction | exact Bool.noConfusion (show false = true from hc13.symm.trans (by assumption)) | exact Bool.noConfusion (show true = false from hc13.symm.trans (by assumption)) | (exfalso; omega) | (exfalso; simp only [*, Bool.not_true, Bool.not_false, reduceCtorEq] at hc13; done)))
    refine c_seq ?_
    refine c_region_inv (i := 4) (b2) (c9 + 1) mixed (fun wr4 hxr4 hzr4 => ?_)
    have hz_hxr4 := hxr4.size
    replace hp1_13 := hp1_13.ext hxr4
    replace hb5 := hb5.ext hxr4
    replace hp1_11 := hp1_11.ext hxr4
    replace hb2 := hb2.ext hxr4
    replace h := h.ext hxr4
    replace E := E.trans hxr4
    refine i_pure rfl (fun w14i hx14i => y_load_boxs rfl) rfl ?_
    refine i_pure rfl (fun w15i hx15i => y_move rfl) rfl ?_
    refine i_one rfl ?_
    refine w_lit (α := Int) rfl rfl rfl rfl rfl rfl rfl rfl (fun v16 w16 ho16 hx16 hl16 hh16 hs16 => ?_)
    have hl_ho16 := ho16.lt
    have hz_hx16 := hx16.size
    replace hp1_13 := hp1_13.ext hx16
    replace hb5 := hb5.ext hx16
    replace hp1_11 := hp1_11.ext hx16
    replace hb2 := hb2.ext hx16
    replace h := h.ext hx16
    replace E := E.trans hx16
    refine w_nil ?_
    refine x_hi ?_
    refine i_one rfl ?_
    (refine w_call rfl rfl rfl (srcAmong_z) rfl ?_; rintro _ w17 ⟨x17, ⟨rfl, ⟨hp1_17, ⟨hp2_17, hx17⟩⟩⟩⟩)
    have hz_hx17 := hx17.size
    replace ho16 := ho16.chg hx17 (by omega)
    replace hb5 := hb5.chg hx17 (by omega)
    replace hp1_11 := hp1_11.chg hx17 (by omega)
    replace hb2 := hb2.chg hx17 (by omega)
    replace h := h.chg hx17 (by omega)
    replace E := E.next hx17 (by omega)
    refine w_nil ?_
    refine x_hi ?_
    refine i_one rfl ?_
    refine w_store_boxs rfl rfl (next := fun ws43 hbs43 hxs43 hss43 => ?_)
    (replace hb2 := hbs43; clear hbs43)
    have hz_hxs43 := hxs43.size
    replace hp2_17 := hp2_17.chg hxs43 (by omega)
    replace ho16 := ho16.chg hxs43 (by omega)
    replace hb5 := hb5.chg hxs43 (by omega)
    replace hp1_11 := hp1_11.chg hxs43 (by omega)
    replace h := h.chg hxs43 (by omega)
    replace E := E.next hxs43 (by omega)
    refine w_nil ?_
    refine x_hi ?_
    refine i_pure rfl (fun w3i hx3i => y_assign rfl) rfl ?_
    refine i_nil ?_
    refine x_next ?_
    refine c_ret ?_
    refine x_then_ret ?_
    rotate_left
    refine c_skip ?_
    refine x_next ?_
    refine c_seq ?_
    refine c_region ?_
    refine w_pure (y_assign rfl) rfl ?_
    refine w_nil ?_
    refine x_next ?_
    refine c_seq ?_
    refine c_seq ?_
    refine c_region ?_
    refine w_pure (y_assign rfl) rfl ?_
    refine w_nil ?_
    refine x_next ?_
    refine c_block ?_
    rotate_left
  · exact x_retv [_, _] rfl ⟨⟨_, rfl, run_load_str (Box.at (by assumption)) (by rfl)⟩, rfl, trivial⟩ ⟨d11, xs11, _, rfl, Own.base (by assumption) (by omega), hp2_11, by simp only [List.mem_cons, List.not_mem_nil, or_false] at hp1_17; exact ⟨by omega, by omega⟩, E.go⟩
  · refine c_loopC b2 (c9 + 1) (ι := Int × Int) (fun x => [(2, ptr b2 0), (4, ptr c9 0), (5, ptr b5 0), (6, .int .i64 x.1), (7, .int .i64 x.2)])
      (fun x w' => Src w' lo hi c9 (0 + 200 + 2 + 2 * x.2) ∧ Box w' b2 [.slice none 0 0] ∧ (0 ≤ x.1 ∧ x.1 ≤ 10 ^ x.2.toNat - 1) ∧ (0 ≤ x.2 ∧ x.2 ≤ 12) ∧ Since 0 0 w w') (fun x => (12 - x.2).toNat) (0, 0)
      (by repeat (first | exact trivial | refine ⟨rfl, ?_⟩)) ⟨by assumption, by assumption, by decide, by decide, by assumption⟩ ?_
    clear hp1_13 hb2 E
    rintro ⟨n, k⟩ wL hxL EL ⟨hs, hb2, g1, g2, E⟩
    dsimp only at *
    have hzL := hxL.size
    have hP := pow10_le (k := k.toNat) (m := 12) (by omega)
    have hP12 : (10 : Int) ^ 12 = 1000000000000 := by decide
    have hPs := pow10_succ k g2.1
    focus
      have ht_hp2_9 := hp2_9.top
      have ht_hp3_11 := hp3_11.top
      have ht_hs := hs.top
      have hz_hxL := hxL.size
      replace hb5 := hb5.chg hxL (by omega)
      replace hp1_11 := hp1_11.chg hxL (by omega)
      replace h := h.chg hxL (by omega)
      refine c_seq ?_
      refine c_seq ?_
      refine c_region ?_
      refine w_pure (y_move rfl) rfl ?_
      refine w_pure (y_field rfl) rfl ?_
      refine w_pure (y_load_box rfl) rfl ?_
      refine w_pure (y_len rfl) rfl ?_
      refine w_pur rfl rfl rfl (l00MinB_c _ _) rfl ?_
      refine w_pure (y_lt rfl rfl) rfl ?_
      refine w_nil ?_
      refine x_next ?_
      (refine c_dec rfl (fun hc23 => ?_) (fun hc23 => ?_) <;> try (first | exact absurd rfl hc23 | contradiction | exact Bool.noConfusion (show false = true from hc23.symm.trans (by assumption)) | exact Bool.noConfusion (show true = false from hc23.symm.trans (by assumption)) | (exfalso; omega) | (exfalso; simp only [*, Bool.not_true, Bool.not_false, reduceCtorEq] at hc23; done)))
      refine c_skip ?_
      refine x_next ?_
      refine c_seq ?_
      refine c_block ?_
      refine c_region ?_
      refine w_pure (y_move rfl) rfl ?_
      refine w_pure (y_mul rfl rfl) rfl ?_
      refine w_pure (y_move rfl) rfl ?_
      (refine w_call rfl rfl rfl (srcPick_z _) rfl ?_; rintro _ w29 ⟨x29, ⟨rfl, ⟨⟨hp1_29, hp2_29⟩, ⟨hp3_29, hx29⟩⟩⟩⟩)
      have hz_hx29 := hx29.size
      replace EL := EL.next hx29 (by omega)
      replace hb2 := hb2.chg hx29 (by omega)
      replace E := E.next hx29 (by omega)
      replace hb5 := hb5.chg hx29 (by omega)
      replace hp1_11 := hp1_11.chg hx29 (by omega)
      replace h := h.chg hx29 (by omega)
      refine w_pure (y_add rfl rfl) rfl ?_
      refine w_pure (y_assign rfl) rfl ?_
      refine w_nil ?_
      refine x_block_norm ?_
      refine x_next ?_
      refine c_region ?_
      refine w_pure (y_move rfl) rfl ?_
      refine w_pure (y_add rfl rfl) rfl ?_
      refine w_pure (y_assign rfl) rfl ?_
      refine w_nil ?_
      rotate_left
      refine c_exit ?_
      refine x_then_exit ?_
      refine x_then_exit ?_
      refine x_block_hit ?_
      refine x_next ?_
      refine c_seq ?_
      refine c_region ?_
      refine w_pure (y_load_boxs rfl) rfl ?_
      refine w_pure (y_move rfl) rfl ?_
      refine w_store_boxs rfl rfl (next := fun ws42 hbs42 hxs42 hss42 => ?_)
      (replace hb2 := hbs42; clear hbs42)
      have hz_hxs42 := hxs42.size
      replace EL := EL.next hxs42 (by omega)
      replace hs := hs.chg hxs42 (by omega)
      replace E := E.next hxs42 (by omega)
      replace hb5 := hb5.chg hxs42 (by omega)
      replace hp1_11 := hp1_11.chg hxs42 (by omega)
      replace h := h.chg hxs42 (by omega)
      refine w_pure (y_assign rfl) rfl ?_
      refine w_nil ?_
      refine x_next ?_
      refine c_ret ?_
      rotate_left
    · exact x_again (10 * n + x29, k + 1) (by repeat (first | exact trivial | refine ⟨rfl, ?_⟩)) ⟨EL.go, (by assumption : Src _ lo hi c9 _).more (by dsimp only; omega), by assumption, by dsimp only; omega, by dsimp only; omega, by assumption⟩ (by dsimp only; omega)
    · exact x_retv [_, _] rfl ⟨⟨_, rfl, run_load_str (Box.at (by assumption)) (by rfl)⟩, rfl, trivial⟩ ⟨d11, xs11, n, rfl, Own.base (by assumption) (by omega), hp2_11, ⟨by omega, by omega⟩, E.go⟩
end
end Go.Proofs.YtgkljfncpgbngaaDoor

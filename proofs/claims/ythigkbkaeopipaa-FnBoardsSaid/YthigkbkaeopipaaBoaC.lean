/- The walk of the law on joined hubs and routed masks. -/
import Derived.Test.YthigkbkaeopipaaBoaB
import Derived.Test.YthigkbkaeopipaaBoaP
import Derived.Test.YthigkbkaeopipaaRteC
namespace Go.Proofs.Ythigkbkaeopipaa
open Go Go.Gw
set_option linter.unusedVariables false
set_option linter.unusedSimpArgs false
theorem hubs0 {e n j k : Int} {ws : List (Int × Int)} (hk : okB e n j ws = true) (h : 0 ≤ k ∧ k < e + n + j) : cHub e n j ws k (e + n + j) = 0 ∧ resHubs e n j ws k = hubsF e n j ws k := by
  have h1 : cHub e n j ws k (e + n + j) = 0 := by rw [cHub, if_pos hk, if_pos (by omega)]
  exact ⟨h1, by rw [resHubs, if_pos h1]⟩
theorem src0 {e n j k : Int} {ws : List (Int × Int)} (hk : okB e n j ws = true) (h : 0 ≤ k ∧ k < n) : cHub e n j ws k n = 0 ∧ resSrc e n j ws k = srcF e n j ws k := by
  have h1 : cHub e n j ws k n = 0 := by rw [cHub, if_pos hk, if_pos (by omega)]
  exact ⟨h1, by rw [resSrc, if_pos h1]⟩
theorem okK_of {xs : List Int} (h : 1 ≤ xs.length ∧ xs.length ≤ 20) (hm : ∀ d ∈ xs, 0 ≤ d ∧ d ≤ 4095) : okK xs = true := by
  simp only [okK, Bool.and_eq_true, decide_eq_true_eq, Bool.not_eq_true', List.any_eq_false]
  refine ⟨h, fun d hd => ?_⟩
  have := hm d hd
  simp; omega
theorem rte0 {e n j : Int} {ws : List (Int × Int)} {xs : List Int} (hk : okB e n j ws = true) (hx : okK xs = true) (hl : (xs.length : Int) = e) : cRte e n j ws xs = 0 ∧ resRte e n j ws xs = rteP xs (srcF e n j ws) n.toNat := by
  have h1 : cRte e n j ws xs = 0 := by rw [cRte, if_pos ⟨hk, hx⟩, if_pos hl]
  exact ⟨h1, by rw [resRte, if_pos h1]⟩
theorem open0 {e n j : Int} {ws : List (Int × Int)} (hk : okB e n j ws = true) : cBrd e n j ws = 0 ∧ resOpen e n j ws = colsP (fun k => decide (((srcF e n j ws k).length : Int) = 0)) n.toNat :=
  ⟨by rw [cBrd, if_pos hk], by rw [resOpen, if_pos hk]⟩
section
set_option maxHeartbeats 4000000 in
theorem lFnBoards (w0 : World) (x0 x1 : { x : OBy // x.ok w0 }) : Ret Try.prog 6 [x0.1.v, x1.1.v] w0 fun u w' => u = .bool true ∧ Ext w0 w' := by
  obtain ⟨⟨v0, p0⟩, ⟨h0⟩⟩ := x0
  obtain ⟨⟨v1, p1⟩, ⟨h1⟩⟩ := x1
  show Ret _ _ [v0, v1] w0 _
  dsimp only at h0 h1
  have E : Since 0 0 w0 w0 := Since.refl 0 0 w0
  refine ret_enter Try.func6 rfl Try.ntmps6 rfl ?_
  focus
    have ht_h0 := h0.top
    have ht_h1 := h1.top
    refine c_seq ?_
    refine c_region ?_
    refine w_pure (y_assign rfl) rfl ?_
    refine w_nil ?_
    refine x_next ?_
    refine c_seq ?_
    refine c_seq ?_
    refine c_region ?_
    refine w_pure (y_move rfl) rfl ?_
    refine w_pure (y_move rfl) rfl ?_
    (refine w_call rfl rfl rfl (a2Long_c) rfl ?_; rintro _ w27 ⟨z27, ⟨rfl, hx27⟩⟩)
    have hz_hx27 := hx27.size
    replace h0 := h0.ext hx27
    replace h1 := h1.ext hx27
    replace E := E.trans hx27
    refine w_nil ?_
    refine x_next ?_
    (refine c_if rfl (fun hc27 => ?_) (fun hc27 => ?_) <;> try (first | exact absurd rfl hc27 | contradiction | exact Bool.noConfusion (show false = true from hc27.symm.trans (by assumption)) | exact Bool.noConfusion (show true = false from hc27.symm.trans (by assumption)) | (exfalso; omega) | (exfalso; simp only [*, Bool.not_true, Bool.not_false, reduceCtorEq] at hc27; done)))
    refine c_seq ?_
    refine c_region ?_
    refine w_pure (y_assign rfl) rfl ?_
    refine w_nil ?_
    refine x_next ?_
    refine c_ret ?_
    refine x_then_ret ?_
    rotate_left
    refine c_skip ?_
    refine x_next ?_
    refine c_seq ?_
    refine c_region ?_
    refine w_pure (y_move rfl) rfl ?_
    (refine w_call rfl rfl rfl (A2Board_c) rfl ?_; rintro _ w29 ⟨d29, ⟨e29, ⟨n29, ⟨j29, ⟨ws29, ⟨rfl, ⟨hp1_29, ⟨hp2_29, ⟨⟨hp3_29, ⟨hp4_29, ⟨hp5_29, ⟨hp6_29, ⟨hp7_29, hp8_29⟩⟩⟩⟩⟩, ⟨hp9_29, hx29⟩⟩⟩⟩⟩⟩⟩⟩⟩⟩)
    have hl_hp1_29 := hp1_29.lt
    have hz_hx29 := hx29.size
    replace h0 := h0.ext hx29
    replace h1 := h1.ext hx29
    replace E := E.trans hx29
    refine w_alloc (k := fun b5 w5 hb5 hx5 hl5 hs5 => ?_)
    have hz_hx5 := hx5.size
    replace hp1_29 := hp1_29.ext hx5
    replace h0 := h0.ext hx5
    replace h1 := h1.ext hx5
    replace E := E.trans hx5
    refine w_store_boxs rfl rfl (next := fun ws30 hbs30 hxs30 hss30 => ?_)
    (replace hb5 := hbs30; clear hbs30)
    have hz_hxs30 := hxs30.size
    replace hp1_29 := hp1_29.chg hxs30 (by omega)
    replace h0 := h0.chg hxs30 (by omega)
    replace h1 := h1.chg hxs30 (by omega)
    replace E := E.next hxs30 (by omega)
    refine w_nil ?_
    refine x_next ?_
    refine c_seq ?_
    refine c_region ?_
    refine w_pure (y_field rfl) rfl ?_
    refine w_pure (y_load_box rfl) rfl ?_
    refine w_pure (y_field rfl) rfl ?_
    refine w_pure (y_load_box rfl) rfl ?_
    refine w_pure (y_add rfl rfl) rfl ?_
    refine w_pure (y_field rfl) rfl ?_
    refine w_pure (y_load_box rfl) rfl ?_
    refine w_pure (y_add rfl rfl) rfl ?_
    refine w_pure (y_assign rfl) rfl ?_
    refine w_nil ?_
    refine x_next ?_
    refine c_seq ?_
    refine c_region ?_
    refine w_pure (y_move rfl) rfl ?_
    refine w_pure (y_move rfl) rfl ?_
    refine w_val rfl rfl rfl (a2At_c _ _) rfl (fun w40 hx40 hz40 => ?_)
    have hz_hx40 := hx40.size
    replace hb5 := hb5.ext hx40
    replace hp1_29 := hp1_29.ext hx40
    replace h0 := h0.ext hx40
    replace h1 := h1.ext hx40
    replace E := E.trans hx40
    refine w_pure (y_assign rfl) rfl ?_
    refine w_nil ?_
    refine x_next ?_
    refine c_seq ?_
    refine c_region ?_
    refine w_pure (y_load_boxs rfl) rfl ?_
    refine w_pure (y_move rfl) rfl ?_
    (refine w_call rfl rfl rfl (iJoinedHubs_c _) rfl ?_; rintro _ w44 ⟨d44, ⟨rfl, ⟨hp1_44, hx44⟩⟩⟩)
    have hl_hp1_44 := hp1_44.lt
    have hz_hx44 := hx44.size
    replace hb5 := hb5.ext hx44
    replace hp1_29 := hp1_29.ext hx44
    replace h0 := h0.ext hx44
    replace h1 := h1.ext hx44
    replace E := E.trans hx44
    refine w_pure (y_move rfl) rfl ?_
    refine w_pure (y_extract rfl rfl) rfl ?_
    refine w_pure (y_extract rfl rfl) rfl ?_
    refine w_pure (y_assign rfl) rfl ?_
    refine w_pure (y_assign rfl) rfl ?_
    refine w_nil ?_
    refine x_next ?_
    refine c_seq ?_
    refine c_seq ?_
    refine c_region ?_
    refine w_pure (y_move rfl) rfl ?_
    refine w_pure (y_ne rfl rfl) rfl ?_
    refine w_pure (y_move rfl) rfl ?_
    (refine w_part_dec rfl rfl (fun hc50 => ?_) (fun hc50 => ?_) <;> try (first | exact absurd rfl hc50 | contradiction | exact Bool.noConfusion (show false = true from hc50.symm.trans (by assumption)) | exact Bool.noConfusion (show true = false from hc50.symm.trans (by assumption)) | (exfalso; omega) | (exfalso; simp only [*, Bool.not_true, Bool.not_false, reduceCtorEq] at hc50; done)))
    refine w_no rfl rfl rfl rfl ?_
    refine w_no rfl rfl rfl rfl ?_
    refine w_no rfl rfl rfl rfl ?_
    refine w_pure (y_pick_t rfl rfl) rfl ?_
    refine w_nil ?_
    refine x_next ?_
    refine c_true rfl ?_
    refine c_seq ?_
    refine c_region ?_
    refine w_pure (y_assign rfl) rfl ?_
    refine w_nil ?_
    refine x_next ?_
    refine c_ret ?_
    refine x_then_ret ?_
    rotate_left
    refine w_yes rfl rfl ?_
    refine w_pure (y_move rfl) rfl ?_
    refine w_yes rfl rfl ?_
    refine w_pure (y_len rfl) rfl ?_
    refine w_yes rfl rfl ?_
    refine w_pure (y_eq rfl rfl) rfl ?_
    refine w_pure (y_pick_f rfl rfl) rfl ?_
    refine w_nil ?_
    refine x_next ?_
    (refine c_dec rfl (fun hc53 => ?_) (fun hc53 => ?_) <;> try (first | exact absurd rfl hc53 | contradiction | exact Bool.noConfusion (show false = true from hc53.symm.trans (by assumption)) | exact Bool.noConfusion (show true = false from hc53.symm.trans (by assumption)) | (exfalso; omega) | (exfalso; simp only [*, Bool.not_true, Bool.not_false, reduceCtorEq] at hc53; done)))
    refine c_seq ?_
    refine c_region ?_
    refine w_pure (y_assign rfl) rfl ?_
    refine w_nil ?_
    refine x_next ?_
    refine c_ret ?_
    refine x_then_ret ?_
    rotate_left
    refine c_skip ?_
    refine x_next ?_
    refine c_seq ?_
    refine c_seq ?_
    refine c_region ?_
    refine w_pure (y_assign rfl) rfl ?_
    refine w_nil ?_
    refine x_next ?_
    refine c_block ?_
    rotate_left
  · exact x_retv [_] rfl ⟨rfl, trivial⟩ ⟨rfl, E.go⟩
  · exact absurd (hubs0 hp2_29 (a2at_bd p1 0 (by omega))).1 hc50
  · exfalso
    rw [(hubs0 hp2_29 (a2at_bd p1 0 (by omega))).2] at hc53
    have := hubsF_pos (ws := ws29) (a2at_bd p1 0 (n := e29 + n29 + j29) (by omega))
    omega
  have hkb := a2at_bd p1 0 (n := e29 + n29 + j29) (by omega)
  have hh := hubs0 hp2_29 hkb
  rw [hh.2] at hp1_44 hc53
  generalize a2at p1 0 (e29 + n29 + j29) = k at *
  have s29 := hp1_29.sl
  have s44 := hp1_44.sl
  have t29 := s29.top
  clear hc50 hp1_29 hp1_44
  try clear hl_hp1_29
  try clear hl_hp1_44
  refine c_loopC 0 0 (ι := Int) (fun x => [(1, v1), (5, ptr b5 0), (6, .int .i64 (e29 + n29 + j29)), (8, d44), (10, .int .i64 x)]) (fun x w' => 0 ≤ x ∧ x ≤ (hubsF e29 n29 j29 ws29 k).length) (fun x => ((hubsF e29 n29 j29 ws29 k).length - x).toNat) 0 (by repeat (first | exact trivial | refine ⟨rfl, ?_⟩)) ⟨by omega, by omega⟩ ?_
  rintro i wL hxL EL ⟨hi0, hi1⟩
  have hzL := hxL.size
  by_cases hlt : i < (hubsF e29 n29 j29 ws29 k).length
  · have hg := hubsF_get (ws := ws29) (k := k) (e := e29) (n := n29) (j := j29) (by omega) (i := i.toNat) (by omega)
    have hh2 := hubs0 hp2_29 ⟨hg.1, hg.2.1⟩
    have hln : (hubsF e29 n29 j29 ws29 k).length ≤ (e29 + n29 + j29).toNat := colsP_len _ _
    focus
      have ht_s29 := s29.top
      have ht_s44 := s44.top
      have hz_hxL := hxL.size
      replace hb5 := hb5.ext hxL
      replace h0 := h0.ext hxL
      replace h1 := h1.ext hxL
      replace E := E.trans hxL
      replace s29 := s29.ext hxL
      replace s44 := s44.ext hxL
      refine c_seq ?_
      refine c_seq ?_
      refine c_region ?_
      refine w_pure (y_move rfl) rfl ?_
      refine w_pure (y_move rfl) rfl ?_
      refine w_pure (y_len rfl) rfl ?_
      refine w_pure (y_lt rfl rfl) rfl ?_
      refine w_nil ?_
      refine x_next ?_
      (refine c_dec rfl (fun hc57 => ?_) (fun hc57 => ?_) <;> try (first | exact absurd rfl hc57 | contradiction | exact Bool.noConfusion (show false = true from hc57.symm.trans (by assumption)) | exact Bool.noConfusion (show true = false from hc57.symm.trans (by assumption)) | (exfalso; omega) | (exfalso; simp only [*, Bool.not_true, Bool.not_false, reduceCtorEq] at hc57; done)))
      refine c_skip ?_
      refine x_next ?_
      refine c_seq ?_
      refine c_block ?_
      refine c_seq ?_
      refine c_seq ?_
      refine c_region ?_
      refine w_pure (y_move rfl) rfl ?_
      refine w_pure (y_move rfl) rfl ?_
      refine w_pure (y_index rfl rfl) rfl ?_
      refine w_pure (y_load_int rfl) rfl ?_
      refine w_pure (y_lt rfl rfl) rfl ?_
      refine w_pure (y_move rfl) rfl ?_
      (refine w_part_dec rfl rfl (fun hc66 => ?_) (fun hc66 => ?_) <;> try (first | exact absurd rfl hc66 | contradiction | exact Bool.noConfusion (show false = true from hc66.symm.trans (by assumption)) | exact Bool.noConfusion (show true = false from hc66.symm.trans (by assumption)) | (exfalso; omega) | (exfalso; simp only [*, Bool.not_true, Bool.not_false, reduceCtorEq] at hc66; done)))
      refine w_yes rfl rfl ?_
      refine w_pure (y_move rfl) rfl ?_
      refine w_yes rfl rfl ?_
      refine w_pure (y_move rfl) rfl ?_
      refine w_yes rfl rfl ?_
      refine w_pure (y_index rfl rfl) rfl ?_
      refine w_yes rfl rfl ?_
      refine w_pure (y_load_int rfl) rfl ?_
      refine w_yes rfl rfl ?_
      refine w_pure (y_move rfl) rfl ?_
      refine w_yes rfl rfl ?_
      refine w_pure (y_ge rfl rfl) rfl ?_
      refine w_pure (y_pick_f rfl rfl) rfl ?_
      refine w_nil ?_
      refine x_next ?_
      (refine c_dec rfl (fun hc72 => ?_) (fun hc72 => ?_) <;> try (first | exact absurd rfl hc72 | contradiction | exact Bool.noConfusion (show false = true from hc72.symm.trans (by assumption)) | exact Bool.noConfusion (show true = false from hc72.symm.trans (by assumption)) | (exfalso; omega) | (exfalso; simp only [*, Bool.not_true, Bool.not_false, reduceCtorEq] at hc72; done)))
      refine c_skip ?_
      refine x_next ?_
      refine c_seq ?_
      refine c_region_held mixed (fun wr14 hxr14 hzr14 => ?_)
      have hz_hxr14 := hxr14.size
      replace EL := EL.trans hxr14
      replace hb5 := hb5.ext hxr14
      replace h0 := h0.ext hxr14
      replace h1 := h1.ext hxr14
      replace E := E.trans hxr14
      replace s29 := s29.ext hxr14
      replace s44 := s44.ext hxr14
      refine h_pure rfl (y_load_boxs rfl) rfl ?_
      refine h_pure rfl (y_move rfl) rfl ?_
      refine h_pure rfl (y_move rfl) rfl ?_
      refine h_pure rfl (y_index rfl rfl) rfl ?_
      refine h_pure rfl (y_load_int rfl) rfl ?_
      refine h_one rfl ?_
      (refine w_call rfl rfl rfl (iJoinedHubs_c _) rfl ?_; rintro _ w79 ⟨d79, ⟨rfl, ⟨hp1_79, hx79⟩⟩⟩)
      have hl_hp1_79 := hp1_79.lt
      have hz_hx79 := hx79.size
      replace EL := EL.trans hx79
      replace hb5 := hb5.ext hx79
      replace h0 := h0.ext hx79
      replace h1 := h1.ext hx79
      replace E := E.trans hx79
      replace s29 := s29.ext hx79
      replace s44 := s44.ext hx79
      refine w_nil ?_
      refine x_held ?_
      refine h_pure rfl (y_move rfl) rfl ?_
      refine h_pure rfl (y_extract rfl rfl) rfl ?_
      refine h_pure rfl (y_extract rfl rfl) rfl ?_
      refine h_pure rfl (y_assign rfl) rfl ?_
      refine h_pure rfl (y_assign rfl) rfl ?_
      refine h_nil ?_
      refine x_next ?_
      refine c_seq ?_
      refine c_region ?_
      refine w_pure (y_move rfl) rfl ?_
      refine w_pure (y_ne rfl rfl) rfl ?_
      refine w_pure (y_move rfl) rfl ?_
      (refine w_part_dec rfl rfl (fun hc85 => ?_) (fun hc85 => ?_) <;> try (first | exact absurd rfl hc85 | contradiction | exact Bool.noConfusion (show false = true from hc85.symm.trans (by assumption)) | exact Bool.noConfusion (show true = false from hc85.symm.trans (by assumption)) | (exfalso; omega) | (exfalso; simp only [*, Bool.not_true, Bool.not_false, reduceCtorEq] at hc85; done)))
      refine w_yes rfl rfl ?_
      refine w_pure (y_move rfl) rfl ?_
      refine w_yes rfl rfl ?_
      refine w_pure (y_move rfl) rfl ?_
      refine w_yes rfl rfl ?_
      refine w_val rfl rfl rfl (a2Same_c) rfl (fun w87 hx87 hz87 => ?_)
      have hz_hx87 := hx87.size
      replace hp1_79 := hp1_79.ext hx87
      replace EL := EL.trans hx87
      replace hb5 := hb5.ext hx87
      replace h0 := h0.ext hx87
      replace h1 := h1.ext hx87
      replace E := E.trans hx87
      replace s29 := s29.ext hx87
      replace s44 := s44.ext hx87
      refine w_yes rfl rfl ?_
      refine w_pure (y_not_dec rfl) rfl ?_
      refine w_pure (y_pick_f rfl rfl) rfl ?_
      refine w_nil ?_
      refine x_next ?_
      (refine c_dec rfl (fun hc89 => ?_) (fun hc89 => ?_) <;> try (first | exact absurd rfl hc89 | contradiction | exact Bool.noConfusion (show false = true from hc89.symm.trans (by assumption)) | exact Bool.noConfusion (show true = false from hc89.symm.trans (by assumption)) | (exfalso; omega) | (exfalso; simp only [*, Bool.not_true, Bool.not_false, reduceCtorEq] at hc89; done)))
      refine c_seq ?_
      refine c_region ?_
      refine w_pure (y_assign rfl) rfl ?_
      refine w_nil ?_
      refine x_next ?_
      refine c_ret ?_
      refine x_block_ret ?_
      refine x_then_ret ?_
      refine x_then_ret ?_
      refine x_block_ret ?_
      refine x_then_ret ?_
      rotate_left
      refine c_skip ?_
      refine x_block_norm ?_
      refine x_next ?_
      refine c_region ?_
      refine w_pure (y_move rfl) rfl ?_
      refine w_pure (y_add rfl rfl) rfl ?_
      refine w_pure (y_assign rfl) rfl ?_
      refine w_nil ?_
      rotate_left
    · exact absurd (hh2.2.trans hg.2.2) hc89
    · exact x_again (i + 1) (by repeat (first | exact trivial | refine ⟨rfl, ?_⟩)) ⟨EL.go, by omega, by omega⟩ (by omega)
  · focus
      have ht_s29 := s29.top
      have ht_s44 := s44.top
      have hz_hxL := hxL.size
      replace hb5 := hb5.ext hxL
      replace h0 := h0.ext hxL
      replace h1 := h1.ext hxL
      replace E := E.trans hxL
      replace s29 := s29.ext hxL
      replace s44 := s44.ext hxL
      refine c_seq ?_
      refine c_seq ?_
      refine c_region ?_
      refine w_pure (y_move rfl) rfl ?_
      refine w_pure (y_move rfl) rfl ?_
      refine w_pure (y_len rfl) rfl ?_
      refine w_pure (y_lt rfl rfl) rfl ?_
      refine w_nil ?_
      refine x_next ?_
      (refine c_dec rfl (fun hc57 => ?_) (fun hc57 => ?_) <;> try (first | exact absurd rfl hc57 | contradiction | exact Bool.noConfusion (show false = true from hc57.symm.trans (by assumption)) | exact Bool.noConfusion (show true = false from hc57.symm.trans (by assumption)) | (exfalso; omega) | (exfalso; simp only [*, Bool.not_true, Bool.not_false, reduceCtorEq] at hc57; done)))
      refine c_exit ?_
      refine x_then_exit ?_
      refine x_then_exit ?_
      refine x_block_hit ?_
      refine x_next ?_
      refine c_seq ?_
      refine c_region ?_
      refine w_pure (y_build rfl) rfl ?_
      refine w_alloc (k := fun b13 w13 hb13 hx13 hl13 hs13 => ?_)
      have hz_hx13 := hx13.size
      replace EL := EL.trans hx13
      replace hb5 := hb5.ext hx13
      replace h0 := h0.ext hx13
      replace h1 := h1.ext hx13
      replace E := E.trans hx13
      replace s29 := s29.ext hx13
      replace s44 := s44.ext hx13
      refine w_store_boxs rfl rfl (next := fun ws20 hbs20 hxs20 hss20 => ?_)
      (replace hb13 := hbs20; clear hbs20)
      have hz_hxs20 := hxs20.size
      replace EL := EL.next hxs20 (by omega)
      replace hb5 := hb5.chg hxs20 (by omega)
      replace h0 := h0.chg hxs20 (by omega)
      replace h1 := h1.chg hxs20 (by omega)
      replace E := E.next hxs20 (by omega)
      replace s29 := s29.chg hxs20 (by omega)
      replace s44 := s44.chg hxs20 (by omega)
      refine w_nil ?_
      refine x_next ?_
      refine c_seq ?_
      refine c_seq ?_
      refine c_region ?_
      refine w_pure (y_assign rfl) rfl ?_
      refine w_nil ?_
      refine x_next ?_
      refine c_block ?_
      rotate_left
    refine c_loopC b13 (b13 + 1) (ι := Int × Value × List Int) (fun x => [(1, v1), (5, ptr b5 0), (13, ptr b13 0), (14, .int .i64 x.1)])
      (fun x w' => Box w' b13 [x.2.1] ∧ Own w' 2 ws20.heap.size x.2.1 x.2.2 ∧ (x.2.2.length : Int) = x.1 ∧ (∀ d ∈ x.2.2, 0 ≤ d ∧ d ≤ 4095) ∧ 0 ≤ x.1 ∧ x.1 ≤ e29) (fun x => (e29 - x.1).toNat) (0, .slice none 0 0, [])
      (by repeat (first | exact trivial | refine ⟨rfl, ?_⟩)) ⟨by assumption, Own.nil _ _ _, rfl, by simp, by dsimp only; omega, by dsimp only; omega⟩ ?_
    clear hb13 hxL EL s44
    rintro ⟨m, u, xs⟩ wM hxM EM ⟨hb13, g1, g2, g3, g4, g5⟩
    dsimp only at *
    have hzM := hxM.size
    have hab := a2at_bd p1 (1 + m) (n := 256) (by omega)
    by_cases hlm : m < e29
    · focus
        have hl_g1 := g1.lt
        have hz_hxM := hxM.size
        replace hb5 := hb5.chg hxM (by omega)
        replace h0 := h0.chg hxM (by omega)
        replace h1 := h1.chg hxM (by omega)
        replace E := E.next hxM (by omega)
        replace s29 := s29.chg hxM (by omega)
        refine c_seq ?_
        refine c_seq ?_
        refine c_region ?_
        refine w_pure (y_move rfl) rfl ?_
        refine w_pure (y_field rfl) rfl ?_
        refine w_pure (y_load_box rfl) rfl ?_
        refine w_pure (y_lt rfl rfl) rfl ?_
        refine w_nil ?_
        refine x_next ?_
        (refine c_dec rfl (fun hc94 => ?_) (fun hc94 => ?_) <;> try (first | exact absurd rfl hc94 | contradiction | exact Bool.noConfusion (show false = true from hc94.symm.trans (by assumption)) | exact Bool.noConfusion (show true = false from hc94.symm.trans (by assumption)) | (exfalso; omega) | (exfalso; simp only [*, Bool.not_true, Bool.not_false, reduceCtorEq] at hc94; done)))
        refine c_skip ?_
        refine x_next ?_
        refine c_seq ?_
        refine c_block ?_
        refine c_region_held mixed (fun wr21 hxr21 hzr21 => ?_)
        have hz_hxr21 := hxr21.size
        replace EM := EM.next hxr21 (by omega)
        replace hb13 := hb13.ext hxr21
        replace g1 := g1.ext hxr21
        replace hb5 := hb5.ext hxr21
        replace h0 := h0.ext hxr21
        replace h1 := h1.ext hxr21
        replace E := E.trans hxr21
        replace s29 := s29.ext hxr21
        refine h_pure rfl (y_field rfl) rfl ?_
        refine h_pure rfl (y_load_box rfl) rfl ?_
        refine h_pure rfl (y_move rfl) rfl ?_
        refine h_pure rfl (y_move rfl) rfl ?_
        refine h_pure rfl (y_add rfl rfl) rfl ?_
        refine h_one rfl ?_
        refine w_val rfl rfl rfl (a2At_c _ _) rfl (fun w102 hx102 hz102 => ?_)
        have hz_hx102 := hx102.size
        replace EM := EM.next hx102 (by omega)
        replace hb13 := hb13.ext hx102
        replace g1 := g1.ext hx102
        replace hb5 := hb5.ext hx102
        replace h0 := h0.ext hx102
        replace h1 := h1.ext hx102
        replace E := E.trans hx102
        replace s29 := s29.ext hx102
        refine w_nil ?_
        refine x_held ?_
        refine h_pure rfl (y_mul rfl rfl) rfl ?_
        refine h_one rfl ?_
        refine w_lit (α := Int) rfl rfl rfl rfl rfl rfl rfl rfl (fun v104 w104 ho104 hx104 hl104 hh104 hs104 => ?_)
        have hl_ho104 := ho104.lt
        have hz_hx104 := hx104.size
        replace EM := EM.next hx104 (by omega)
        replace hb13 := hb13.ext hx104
        replace g1 := g1.ext hx104
        replace hb5 := hb5.ext hx104
        replace h0 := h0.ext hx104
        replace h1 := h1.ext hx104
        replace E := E.trans hx104
        replace s29 := s29.ext hx104
        refine w_nil ?_
        refine x_held ?_
        refine h_one rfl ?_
        refine w_append rfl rfl (k := fun v105 w105 ho105 hx105 hr105 => ?_)
        have hl_ho105 := ho105.lt
        have hz_hx105 := hx105.size
        replace ho104 := ho104.chg hx105 (by omega)
        replace EM := EM.next hx105 (by omega)
        replace hb13 := hb13.chg hx105 (by omega)
        replace hb5 := hb5.chg hx105 (by omega)
        replace h0 := h0.chg hx105 (by omega)
        replace h1 := h1.chg hx105 (by omega)
        replace E := E.next hx105 (by omega)
        replace s29 := s29.chg hx105 (by omega)
        refine w_nil ?_
        refine x_heldk ?_
        refine h_pure rfl (y_field rfl) rfl ?_
        refine h_one rfl ?_
        refine w_store_box rfl rfl (next := fun ws36 hbs36 hxs36 hss36 => ?_)
        (replace hb13 := hbs36; clear hbs36)
        have hz_hxs36 := hxs36.size
        replace ho105 := ho105.chg hxs36 (by omega)
        replace ho104 := ho104.chg hxs36 (by omega)
        replace EM := EM.trans hxs36
        replace hb5 := hb5.chg hxs36 (by omega)
        replace h0 := h0.chg hxs36 (by omega)
        replace h1 := h1.chg hxs36 (by omega)
        replace E := E.next hxs36 (by omega)
        replace s29 := s29.chg hxs36 (by omega)
        refine w_nil ?_
        refine x_heldk ?_
        refine h_nil ?_
        refine x_block_norm ?_
        refine x_next ?_
        refine c_region ?_
        refine w_pure (y_move rfl) rfl ?_
        refine w_pure (y_add rfl rfl) rfl ?_
        refine w_pure (y_assign rfl) rfl ?_
        refine w_nil ?_
        rotate_left
      refine x_again (m + 1, v105, xs ++ [_]) (by repeat (first | exact trivial | refine ⟨rfl, ?_⟩)) ⟨EM.go, by assumption, by assumption, by rw [List.length_append, List.length_singleton]; dsimp only; omega, ?_, by dsimp only; omega, by dsimp only; omega⟩ (by dsimp only; omega)
      intro d hd
      rw [List.mem_append, List.mem_singleton] at hd
      rcases hd with hd | rfl
      · exact g3 d hd
      · omega
    · have hok : okK xs = true := okK_of (by omega) g3
      have hme : (xs.length : Int) = e29 := by omega
      have hr := rte0 hp2_29 hok hme
      have ho := open0 hp2_29
      focus
        have hl_g1 := g1.lt
        have hz_hxM := hxM.size
        replace hb5 := hb5.chg hxM (by omega)
        replace h0 := h0.chg hxM (by omega)
        replace h1 := h1.chg hxM (by omega)
        replace E := E.next hxM (by omega)
        replace s29 := s29.chg hxM (by omega)
        refine c_seq ?_
        refine c_seq ?_
        refine c_region ?_
        refine w_pure (y_move rfl) rfl ?_
        refine w_pure (y_field rfl) rfl ?_
        refine w_pure (y_load_box rfl) rfl ?_
        refine w_pure (y_lt rfl rfl) rfl ?_
        refine w_nil ?_
        refine x_next ?_
        (refine c_dec rfl (fun hc94 => ?_) (fun hc94 => ?_) <;> try (first | exact absurd rfl hc94 | contradiction | exact Bool.noConfusion (show false = true from hc94.symm.trans (by assumption)) | exact Bool.noConfusion (show true = false from hc94.symm.trans (by assumption)) | (exfalso; omega) | (exfalso; simp only [*, Bool.not_true, Bool.not_false, reduceCtorEq] at hc94; done)))
        refine c_exit ?_
        refine x_then_exit ?_
        refine x_then_exit ?_
        refine x_block_hit ?_
        refine x_next ?_
        refine c_seq ?_
        refine c_region ?_
        refine w_pure (y_load_boxs rfl) rfl ?_
        refine w_pure (y_load_boxs rfl) rfl ?_
        (refine w_call rfl rfl rfl (iRouteCard_c) rfl ?_; rintro _ w110 ⟨d110, ⟨rfl, ⟨hp1_110, hx110⟩⟩⟩)
        have hl_hp1_110 := hp1_110.lt
        have hz_hx110 := hx110.size
        replace EM := EM.next hx110 (by omega)
        replace hb13 := hb13.ext hx110
        replace g1 := g1.ext hx110
        replace hb5 := hb5.ext hx110
        replace h0 := h0.ext hx110
        replace h1 := h1.ext hx110
        replace E := E.trans hx110
        replace s29 := s29.ext hx110
        refine w_pure (y_move rfl) rfl ?_
        refine w_pure (y_extract rfl rfl) rfl ?_
        refine w_pure (y_extract rfl rfl) rfl ?_
        refine w_alloc (k := fun b15 w15 hb15 hx15 hl15 hs15 => ?_)
        have hz_hx15 := hx15.size
        replace hp1_110 := hp1_110.ext hx15
        replace EM := EM.next hx15 (by omega)
        replace hb13 := hb13.ext hx15
        replace g1 := g1.ext hx15
        replace hb5 := hb5.ext hx15
        replace h0 := h0.ext hx15
        replace h1 := h1.ext hx15
        replace E := E.trans hx15
        replace s29 := s29.ext hx15
        refine w_store_boxs rfl rfl (next := fun ws25 hbs25 hxs25 hss25 => ?_)
        (replace hb15 := hbs25; clear hbs25)
        have hz_hxs25 := hxs25.size
        replace hp1_110 := hp1_110.chg hxs25 (by omega)
        replace EM := EM.next hxs25 (by omega)
        replace hb13 := hb13.chg hxs25 (by omega)
        replace g1 := g1.chg hxs25 (by omega)
        replace hb5 := hb5.chg hxs25 (by omega)
        replace h0 := h0.chg hxs25 (by omega)
        replace h1 := h1.chg hxs25 (by omega)
        replace E := E.next hxs25 (by omega)
        replace s29 := s29.chg hxs25 (by omega)
        refine w_pure (y_assign rfl) rfl ?_
        refine w_nil ?_
        refine x_next ?_
        refine c_seq ?_
        refine c_region ?_
        refine w_pure (y_load_boxs rfl) rfl ?_
        (refine w_call rfl rfl rfl (iOpenEntries_c) rfl ?_; rintro _ w115 ⟨d115, ⟨rfl, ⟨hp1_115, hx115⟩⟩⟩)
        have hl_hp1_115 := hp1_115.lt
        have hz_hx115 := hx115.size
        replace hb15 := hb15.ext hx115
        replace hp1_110 := hp1_110.ext hx115
        replace EM := EM.next hx115 (by omega)
        replace hb13 := hb13.ext hx115
        replace g1 := g1.ext hx115
        replace hb5 := hb5.ext hx115
        replace h0 := h0.ext hx115
        replace h1 := h1.ext hx115
        replace E := E.trans hx115
        replace s29 := s29.ext hx115
        refine w_pure (y_move rfl) rfl ?_
        refine w_pure (y_extract rfl rfl) rfl ?_
        refine w_pure (y_extract rfl rfl) rfl ?_
        refine w_pure (y_assign rfl) rfl ?_
        refine w_pure (y_assign rfl) rfl ?_
        refine w_nil ?_
        refine x_next ?_
        refine c_seq ?_
        refine c_seq ?_
        refine c_region ?_
        refine w_pure (y_move rfl) rfl ?_
        refine w_pure (y_ne rfl rfl) rfl ?_
        refine w_pure (y_move rfl) rfl ?_
        (refine w_part_dec rfl rfl (fun hc121 => ?_) (fun hc121 => ?_) <;> try (first | exact absurd rfl hc121 | contradiction | exact Bool.noConfusion (show false = true from hc121.symm.trans (by assumption)) | exact Bool.noConfusion (show true = false from hc121.symm.trans (by assumption)) | (exfalso; omega) | (exfalso; simp only [*, Bool.not_true, Bool.not_false, reduceCtorEq] at hc121; done)))
        refine w_yes rfl rfl ?_
        refine w_pure (y_field rfl) rfl ?_
        refine w_yes rfl rfl ?_
        refine w_pure (y_load_box rfl) rfl ?_
        refine w_yes rfl rfl ?_
        refine w_pure (y_len rfl) rfl ?_
        refine w_yes rfl rfl ?_
        refine w_pure (y_field rfl) rfl ?_
        refine w_yes rfl rfl ?_
        refine w_pure (y_load_box rfl) rfl ?_
        refine w_yes rfl rfl ?_
        refine w_pure (y_ne rfl rfl) rfl ?_
        refine w_pure (y_pick_f rfl rfl) rfl ?_
        refine w_pure (y_move rfl) rfl ?_
        (refine w_part_dec rfl rfl (fun hc129 => ?_) (fun hc129 => ?_) <;> try (first | exact absurd rfl hc129 | contradiction | exact Bool.noConfusion (show false = true from hc129.symm.trans (by assumption)) | exact Bool.noConfusion (show true = false from hc129.symm.trans (by assumption)) | (exfalso; omega) | (exfalso; simp only [*, Bool.not_true, Bool.not_false, reduceCtorEq] at hc129; done)))
        refine w_no rfl rfl rfl rfl ?_
        refine w_no rfl rfl rfl rfl ?_
        refine w_pure (y_pick_t rfl rfl) rfl ?_
        refine w_nil ?_
        refine x_next ?_
        refine c_true rfl ?_
        refine c_seq ?_
        refine c_region ?_
        refine w_pure (y_assign rfl) rfl ?_
        refine w_nil ?_
        refine x_next ?_
        refine c_ret ?_
        refine x_then_ret ?_
        rotate_left
        refine w_yes rfl rfl ?_
        refine w_pure (y_move rfl) rfl ?_
        refine w_yes rfl rfl ?_
        refine w_pure (y_ne rfl rfl) rfl ?_
        refine w_pure (y_pick_f rfl rfl) rfl ?_
        refine w_nil ?_
        refine x_next ?_
        (refine c_dec rfl (fun hc131 => ?_) (fun hc131 => ?_) <;> try (first | exact absurd rfl hc131 | contradiction | exact Bool.noConfusion (show false = true from hc131.symm.trans (by assumption)) | exact Bool.noConfusion (show true = false from hc131.symm.trans (by assumption)) | (exfalso; omega) | (exfalso; simp only [*, Bool.not_true, Bool.not_false, reduceCtorEq] at hc131; done)))
        refine c_skip ?_
        refine x_next ?_
        refine c_seq ?_
        refine c_region ?_
        refine w_pure (y_assign rfl) rfl ?_
        refine w_nil ?_
        refine x_next ?_
        refine c_seq ?_
        refine c_seq ?_
        refine c_region ?_
        refine w_pure (y_assign rfl) rfl ?_
        refine w_nil ?_
        refine x_next ?_
        refine c_block ?_
        rotate_left
      · exfalso
        rw [hr.2, rteP_len] at hc129
        omega
      rw [hr.2] at hp1_110
      rw [ho.2] at hp1_115
      have s110 := hp1_110.sl
      have s115 := hp1_115.sl
      have sg := g1.sl
      clear hc129 hc131 hc121 hp1_110 hp1_115 g1
      try clear hl_hp1_110
      try clear hl_hp1_115
      try clear hl_g1
      have hrl := rteP_len xs (srcF e29 n29 j29 ws29) n29.toNat
      refine c_loopC 0 0 (ι := Int) (fun x => [(5, ptr b5 0), (13, ptr b13 0), (15, ptr b15 0), (17, d115), (19, .int .i64 (colsP (fun k => decide (((srcF e29 n29 j29 ws29 k).length : Int) = 0)) x.toNat).length), (20, .int .i64 x)]) (fun x w' => 0 ≤ x ∧ x ≤ n29) (fun x => (n29 - x).toNat) 0 (by repeat (first | exact trivial | refine ⟨rfl, ?_⟩)) ⟨by omega, by omega⟩ ?_
      rintro y wK hxK EK ⟨hy0, hy1⟩
      have hzK := hxK.size
      have hcl := colsP_len (fun k => decide (((srcF e29 n29 j29 ws29 k).length : Int) = 0)) y.toNat
      by_cases hly : y < n29
      · have hs := src0 hp2_29 ⟨hy0, hly⟩
        have hsl := srcF_len e29 n29 j29 y ws29
        focus
          have ht_s110 := s110.top
          have ht_s115 := s115.top
          have ht_sg := sg.top
          have hz_hxK := hxK.size
          replace hb15 := hb15.ext hxK
          replace EM := EM.next hxK (by omega)
          replace hb13 := hb13.ext hxK
          replace hb5 := hb5.ext hxK
          replace h0 := h0.ext hxK
          replace h1 := h1.ext hxK
          replace E := E.trans hxK
          replace s29 := s29.ext hxK
          replace s110 := s110.ext hxK
          replace s115 := s115.ext hxK
          replace sg := sg.ext hxK
          refine c_seq ?_
          refine c_seq ?_
          refine c_region ?_
          refine w_pure (y_move rfl) rfl ?_
          refine w_pure (y_field rfl) rfl ?_
          refine w_pure (y_load_box rfl) rfl ?_
          refine w_pure (y_lt rfl rfl) rfl ?_
          refine w_nil ?_
          refine x_next ?_
          (refine c_dec rfl (fun hc135 => ?_) (fun hc135 => ?_) <;> try (first | exact absurd rfl hc135 | contradiction | exact Bool.noConfusion (show false = true from hc135.symm.trans (by assumption)) | exact Bool.noConfusion (show true = false from hc135.symm.trans (by assumption)) | (exfalso; omega) | (exfalso; simp only [*, Bool.not_true, Bool.not_false, reduceCtorEq] at hc135; done)))
          refine c_skip ?_
          refine x_next ?_
          refine c_seq ?_
          refine c_block ?_
          refine c_seq ?_
          refine c_region ?_
          refine w_pure (y_load_boxs rfl) rfl ?_
          refine w_pure (y_move rfl) rfl ?_
          (refine w_call rfl rfl rfl (iSourcesOf_c _) rfl ?_; rintro _ w141 ⟨d141, ⟨rfl, ⟨hp1_141, hx141⟩⟩⟩)
          have hl_hp1_141 := hp1_141.lt
          have hz_hx141 := hx141.size
          replace EK := EK.trans hx141
          replace hb15 := hb15.ext hx141
          replace EM := EM.next hx141 (by omega)
          replace hb13 := hb13.ext hx141
          replace hb5 := hb5.ext hx141
          replace h0 := h0.ext hx141
          replace h1 := h1.ext hx141
          replace E := E.trans hx141
          replace s29 := s29.ext hx141
          replace s110 := s110.ext hx141
          replace s115 := s115.ext hx141
          replace sg := sg.ext hx141
          refine w_pure (y_move rfl) rfl ?_
          refine w_pure (y_extract rfl rfl) rfl ?_
          refine w_pure (y_extract rfl rfl) rfl ?_
          refine w_pure (y_assign rfl) rfl ?_
          refine w_pure (y_assign rfl) rfl ?_
          refine w_nil ?_
          refine x_next ?_
          refine c_seq ?_
          refine c_seq ?_
          refine c_region ?_
          refine w_pure (y_move rfl) rfl ?_
          refine w_pure (y_ne rfl rfl) rfl ?_
          refine w_nil ?_
          refine x_next ?_
          (refine c_dec rfl (fun hc145 => ?_) (fun hc145 => ?_) <;> try (first | exact absurd rfl hc145 | contradiction | exact Bool.noConfusion (show false = true from hc145.symm.trans (by assumption)) | exact Bool.noConfusion (show true = false from hc145.symm.trans (by assumption)) | (exfalso; omega) | (exfalso; simp only [*, Bool.not_true, Bool.not_false, reduceCtorEq] at hc145; done)))
          refine c_skip ?_
          refine x_next ?_
          refine c_seq ?_
          refine c_region ?_
          refine w_pure (y_assign rfl) rfl ?_
          refine w_nil ?_
          refine x_next ?_
          refine c_seq ?_
          refine c_seq ?_
          refine c_region ?_
          refine w_pure (y_assign rfl) rfl ?_
          refine w_nil ?_
          refine x_next ?_
          refine c_block ?_
          rotate_left
        rw [hs.2] at hp1_141
        have s141 := hp1_141.sl
        clear hp1_141
        try clear hl_hp1_141
        refine c_loopC 0 0 (ι := Int) (fun x => [(5, ptr b5 0), (13, ptr b13 0), (15, ptr b15 0), (17, d115), (19, .int .i64 (colsP (fun k => decide (((srcF e29 n29 j29 ws29 k).length : Int) = 0)) y.toNat).length), (20, .int .i64 y), (21, d141), (23, .int .i64 (orsP xs (srcF e29 n29 j29 ws29 y) x.toNat)), (24, .int .i64 x)]) (fun x w' => 0 ≤ x ∧ x ≤ (srcF e29 n29 j29 ws29 y).length) (fun x => ((srcF e29 n29 j29 ws29 y).length - x).toNat) 0 (by repeat (first | exact trivial | refine ⟨rfl, ?_⟩)) ⟨by omega, by omega⟩ ?_
        rintro z wJ hxJ EJ ⟨hz0, hz1⟩
        have hzJ := hxJ.size
        have q5 := orsP_bd (l := srcF e29 n29 j29 ws29 y) hok z.toNat (by omega) (fun m hm => by rw [hme]; exact srcF_getD (by omega) hm)
        by_cases hlz : z < (srcF e29 n29 j29 ws29 y).length
        · have q6 := srcF_getD (k := y) (ws := ws29) (j := j29) (n := n29) (e := e29) (by omega) (m := z.toNat) (by omega)
          have q7 := okK_getD hok ((srcF e29 n29 j29 ws29 y).getD z.toNat 0).toNat (by omega)
          have e2 : orsP xs (srcF e29 n29 j29 ws29 y) (z + 1).toNat = orI (orsP xs (srcF e29 n29 j29 ws29 y) z.toNat) (xs.getD ((srcF e29 n29 j29 ws29 y).getD z.toNat 0).toNat 0) := by
            rw [show (z + 1).toNat = z.toNat + 1 by omega, orsP]
          focus
            have ht_s141 := s141.top
            have hz_hxJ := hxJ.size
            replace EK := EK.trans hxJ
            replace hb15 := hb15.ext hxJ
            replace EM := EM.next hxJ (by omega)
            replace hb13 := hb13.ext hxJ
            replace hb5 := hb5.ext hxJ
            replace h0 := h0.ext hxJ
            replace h1 := h1.ext hxJ
            replace E := E.trans hxJ
            replace s29 := s29.ext hxJ
            replace s110 := s110.ext hxJ
            replace s115 := s115.ext hxJ
            replace sg := sg.ext hxJ
            replace s141 := s141.ext hxJ
            refine c_seq ?_
            refine c_seq ?_
            refine c_region ?_
            refine w_pure (y_move rfl) rfl ?_
            refine w_pure (y_move rfl) rfl ?_
            refine w_pure (y_len rfl) rfl ?_
            refine w_pure (y_lt rfl rfl) rfl ?_
            refine w_nil ?_
            refine x_next ?_
            (refine c_dec rfl (fun hc149 => ?_) (fun hc149 => ?_) <;> try (first | exact absurd rfl hc149 | contradiction | exact Bool.noConfusion (show false = true from hc149.symm.trans (by assumption)) | exact Bool.noConfusion (show true = false from hc149.symm.trans (by assumption)) | (exfalso; omega) | (exfalso; simp only [*, Bool.not_true, Bool.not_false, reduceCtorEq] at hc149; done)))
            refine c_skip ?_
            refine x_next ?_
            refine c_seq ?_
            refine c_block ?_
            refine c_seq ?_
            refine c_seq ?_
            refine c_region_calm mixed (by decide +kernel) (by kernel_rfl) ?_
            refine q_pure (y_move rfl) rfl ?_
            refine q_pure (y_move rfl) rfl ?_
            refine q_pure (y_index rfl rfl) rfl ?_
            refine q_pure (y_load_int rfl) rfl ?_
            refine q_pure (y_lt rfl rfl) rfl ?_
            refine q_pure (y_move rfl) rfl ?_
            (refine q_part_dec rfl rfl (fun hc158 => ?_) (fun hc158 => ?_) <;> try (first | exact absurd rfl hc158 | contradiction | exact Bool.noConfusion (show false = true from hc158.symm.trans (by assumption)) | exact Bool.noConfusion (show true = false from hc158.symm.trans (by assumption)) | (exfalso; omega) | (exfalso; simp only [*, Bool.not_true, Bool.not_false, reduceCtorEq] at hc158; done)))
            refine q_yes rfl rfl ?_
            refine q_pure (y_move rfl) rfl ?_
            refine q_yes rfl rfl ?_
            refine q_pure (y_move rfl) rfl ?_
            refine q_yes rfl rfl ?_
            refine q_pure (y_index rfl rfl) rfl ?_
            refine q_yes rfl rfl ?_
            refine q_pure (y_load_int rfl) rfl ?_
            refine q_yes rfl rfl ?_
            refine q_pure (y_field rfl) rfl ?_
            refine q_yes rfl rfl ?_
            refine q_pure (y_load_box rfl) rfl ?_
            refine q_yes rfl rfl ?_
            refine q_pure (y_ge rfl rfl) rfl ?_
            refine q_pure (y_pick_f rfl rfl) rfl ?_
            refine q_nil (fun ws40 hxs40 hzs40 => ?_)
            have hz_hxs40 := hxs40.size
            replace EJ := EJ.trans hxs40
            replace EK := EK.trans hxs40
            replace hb15 := hb15.ext hxs40
            replace EM := EM.next hxs40 (by omega)
            replace hb13 := hb13.ext hxs40
            replace hb5 := hb5.ext hxs40
            replace h0 := h0.ext hxs40
            replace h1 := h1.ext hxs40
            replace E := E.trans hxs40
            replace s29 := s29.ext hxs40
            replace s110 := s110.ext hxs40
            replace s115 := s115.ext hxs40
            replace sg := sg.ext hxs40
            replace s141 := s141.ext hxs40
            refine x_next ?_
            (refine c_dec rfl (fun hc165 => ?_) (fun hc165 => ?_) <;> try (first | exact absurd rfl hc165 | contradiction | exact Bool.noConfusion (show false = true from hc165.symm.trans (by assumption)) | exact Bool.noConfusion (show true = false from hc165.symm.trans (by assumption)) | (exfalso; omega) | (exfalso; simp only [*, Bool.not_true, Bool.not_false, reduceCtorEq] at hc165; done)))
            refine c_skip ?_
            refine x_next ?_
            refine c_region_calm mixed (by decide +kernel) (by kernel_rfl) ?_
            refine q_pure (y_move rfl) rfl ?_
            refine q_pure (y_field rfl) rfl ?_
            refine q_pure (y_load_box rfl) rfl ?_
            refine q_pure (y_move rfl) rfl ?_
            refine q_pure (y_move rfl) rfl ?_
            refine q_pure (y_index rfl rfl) rfl ?_
            refine q_pure (y_load_int rfl) rfl ?_
            refine q_pure (y_index rfl rfl) rfl ?_
            refine q_pure (y_load_int rfl) rfl ?_
            refine q_pure (y_or rfl rfl) rfl ?_
            refine q_pure (y_assign rfl) rfl ?_
            refine q_nil (fun ws57 hxs57 hzs57 => ?_)
            have hz_hxs57 := hxs57.size
            replace EJ := EJ.trans hxs57
            replace EK := EK.trans hxs57
            replace hb15 := hb15.ext hxs57
            replace EM := EM.next hxs57 (by omega)
            replace hb13 := hb13.ext hxs57
            replace hb5 := hb5.ext hxs57
            replace h0 := h0.ext hxs57
            replace h1 := h1.ext hxs57
            replace E := E.trans hxs57
            replace s29 := s29.ext hxs57
            replace s110 := s110.ext hxs57
            replace s115 := s115.ext hxs57
            replace sg := sg.ext hxs57
            replace s141 := s141.ext hxs57
            refine x_block_norm ?_
            refine x_next ?_
            refine c_region ?_
            refine w_pure (y_move rfl) rfl ?_
            refine w_pure (y_add rfl rfl) rfl ?_
            refine w_pure (y_assign rfl) rfl ?_
            refine w_nil ?_
            rotate_left
          exact x_again (z + 1) ⟨rfl, rfl, rfl, rfl, rfl, rfl, rfl, congrArg (fun q => some (Value.int .i64 q)) e2.symm, rfl, trivial⟩ ⟨EJ.go, by omega, by omega⟩ (by omega)
        · have hfin : (rteP xs (srcF e29 n29 j29 ws29) n29.toNat).getD y.toNat 0 = orsP xs (srcF e29 n29 j29 ws29 y) z.toNat := by
            have := rteP_get xs (srcF e29 n29 j29 ws29) n29.toNat y.toNat (by omega)
            rw [Int.toNat_of_nonneg hy0] at this
            rw [this]
            congr 1
            omega
          have e3 : ((colsP (fun k => decide (((srcF e29 n29 j29 ws29 k).length : Int) = 0)) (y + 1).toNat).length : Int) = (colsP (fun k => decide (((srcF e29 n29 j29 ws29 k).length : Int) = 0)) y.toNat).length + (if ((srcF e29 n29 j29 ws29 y).length : Int) = 0 then 1 else 0) := by
            rw [show (y + 1).toNat = y.toNat + 1 by omega, colsP, List.length_append, Int.toNat_of_nonneg hy0]
            by_cases h : ((srcF e29 n29 j29 ws29 y).length : Int) = 0
            · rw [if_pos (decide_eq_true h), if_pos h]; simp
            · rw [if_neg (by rw [decide_eq_false h]; simp), if_neg h]; simp
          focus
            have ht_s141 := s141.top
            have hz_hxJ := hxJ.size
            replace EK := EK.trans hxJ
            replace hb15 := hb15.ext hxJ
            replace EM := EM.next hxJ (by omega)
            replace hb13 := hb13.ext hxJ
            replace hb5 := hb5.ext hxJ
            replace h0 := h0.ext hxJ
            replace h1 := h1.ext hxJ
            replace E := E.trans hxJ
            replace s29 := s29.ext hxJ
            replace s110 := s110.ext hxJ
            replace s115 := s115.ext hxJ
            replace sg := sg.ext hxJ
            replace s141 := s141.ext hxJ
            refine c_seq ?_
            refine c_seq ?_
            refine c_region ?_
            refine w_pure (y_move rfl) rfl ?_
            refine w_pure (y_move rfl) rfl ?_
            refine w_pure (y_len rfl) rfl ?_
            refine w_pure (y_lt rfl rfl) rfl ?_
            refine w_nil ?_
            refine x_next ?_
            (refine c_dec rfl (fun hc149 => ?_) (fun hc149 => ?_) <;> try (first | exact absurd rfl hc149 | contradiction | exact Bool.noConfusion (show false = true from hc149.symm.trans (by assumption)) | exact Bool.noConfusion (show true = false from hc149.symm.trans (by assumption)) | (exfalso; omega) | (exfalso; simp only [*, Bool.not_true, Bool.not_false, reduceCtorEq] at hc149; done)))
            refine c_exit ?_
            refine x_then_exit ?_
            refine x_then_exit ?_
            refine x_block_hit ?_
            refine x_next ?_
            refine c_seq ?_
            refine c_seq ?_
            refine c_region ?_
            refine w_pure (y_move rfl) rfl ?_
            refine w_pure (y_len rfl) rfl ?_
            refine w_pure (y_eq rfl rfl) rfl ?_
            refine w_nil ?_
            refine x_next ?_
            (refine c_dec rfl (fun hc178 => ?_) (fun hc178 => ?_) <;> try (first | exact absurd rfl hc178 | contradiction | exact Bool.noConfusion (show false = true from hc178.symm.trans (by assumption)) | exact Bool.noConfusion (show true = false from hc178.symm.trans (by assumption)) | (exfalso; omega) | (exfalso; simp only [*, Bool.not_true, Bool.not_false, reduceCtorEq] at hc178; done)))
            refine c_region ?_
            refine w_pure (y_move rfl) rfl ?_
            refine w_pure (y_add rfl rfl) rfl ?_
            refine w_pure (y_assign rfl) rfl ?_
            refine w_nil ?_
            refine x_next ?_
            refine c_seq ?_
            refine c_region ?_
            refine w_pure (y_field rfl) rfl ?_
            refine w_pure (y_load_box rfl) rfl ?_
            refine w_pure (y_move rfl) rfl ?_
            refine w_pure (y_index rfl rfl) rfl ?_
            refine w_pure (y_load_int rfl) rfl ?_
            refine w_pure (y_move rfl) rfl ?_
            refine w_pure (y_ne rfl rfl) rfl ?_
            refine w_nil ?_
            refine x_next ?_
            (refine c_dec rfl (fun hc187 => ?_) (fun hc187 => ?_) <;> try (first | exact absurd rfl hc187 | contradiction | exact Bool.noConfusion (show false = true from hc187.symm.trans (by assumption)) | exact Bool.noConfusion (show true = false from hc187.symm.trans (by assumption)) | (exfalso; omega) | (exfalso; simp only [*, Bool.not_true, Bool.not_false, reduceCtorEq] at hc187; done)))
            refine c_skip ?_
            refine x_block_norm ?_
            refine x_next ?_
            refine c_region ?_
            refine w_pure (y_move rfl) rfl ?_
            refine w_pure (y_add rfl rfl) rfl ?_
            refine w_pure (y_assign rfl) rfl ?_
            refine w_nil ?_
            rotate_left
            refine c_skip ?_
            refine x_next ?_
            refine c_seq ?_
            refine c_region ?_
            refine w_pure (y_field rfl) rfl ?_
            refine w_pure (y_load_box rfl) rfl ?_
            refine w_pure (y_move rfl) rfl ?_
            refine w_pure (y_index rfl rfl) rfl ?_
            refine w_pure (y_load_int rfl) rfl ?_
            refine w_pure (y_move rfl) rfl ?_
            refine w_pure (y_ne rfl rfl) rfl ?_
            refine w_nil ?_
            refine x_next ?_
            (refine c_dec rfl (fun hc187 => ?_) (fun hc187 => ?_) <;> try (first | exact absurd rfl hc187 | contradiction | exact Bool.noConfusion (show false = true from hc187.symm.trans (by assumption)) | exact Bool.noConfusion (show true = false from hc187.symm.trans (by assumption)) | (exfalso; omega) | (exfalso; simp only [*, Bool.not_true, Bool.not_false, reduceCtorEq] at hc187; done)))
            refine c_skip ?_
            refine x_block_norm ?_
            refine x_next ?_
            refine c_region ?_
            refine w_pure (y_move rfl) rfl ?_
            refine w_pure (y_add rfl rfl) rfl ?_
            refine w_pure (y_assign rfl) rfl ?_
            refine w_nil ?_
            rotate_left
          all_goals first
            | exact absurd hfin hc187
            | (rw [if_pos hc178] at e3; exact x_again (y + 1) ⟨rfl, rfl, rfl, rfl, congrArg (fun q => some (Value.int .i64 q)) e3.symm, rfl, trivial⟩ ⟨EK.go, by omega, by omega⟩ (by omega))
            | (rw [if_neg hc178, Int.add_zero] at e3; exact x_again (y + 1) ⟨rfl, rfl, rfl, rfl, congrArg (fun q => some (Value.int .i64 q)) e3.symm, rfl, trivial⟩ ⟨EK.go, by omega, by omega⟩ (by omega))
      · have ey : y = n29 := by omega
        focus
          have ht_s110 := s110.top
          have ht_s115 := s115.top
          have ht_sg := sg.top
          have hz_hxK := hxK.size
          replace hb15 := hb15.ext hxK
          replace EM := EM.next hxK (by omega)
          replace hb13 := hb13.ext hxK
          replace hb5 := hb5.ext hxK
          replace h0 := h0.ext hxK
          replace h1 := h1.ext hxK
          replace E := E.trans hxK
          replace s29 := s29.ext hxK
          replace s110 := s110.ext hxK
          replace s115 := s115.ext hxK
          replace sg := sg.ext hxK
          refine c_seq ?_
          refine c_seq ?_
          refine c_region ?_
          refine w_pure (y_move rfl) rfl ?_
          refine w_pure (y_field rfl) rfl ?_
          refine w_pure (y_load_box rfl) rfl ?_
          refine w_pure (y_lt rfl rfl) rfl ?_
          refine w_nil ?_
          refine x_next ?_
          (refine c_dec rfl (fun hc135 => ?_) (fun hc135 => ?_) <;> try (first | exact absurd rfl hc135 | contradiction | exact Bool.noConfusion (show false = true from hc135.symm.trans (by assumption)) | exact Bool.noConfusion (show true = false from hc135.symm.trans (by assumption)) | (exfalso; omega) | (exfalso; simp only [*, Bool.not_true, Bool.not_false, reduceCtorEq] at hc135; done)))
          refine c_exit ?_
          refine x_then_exit ?_
          refine x_then_exit ?_
          refine x_block_hit ?_
          refine x_next ?_
          refine c_seq ?_
          refine c_region ?_
          refine w_pure (y_move rfl) rfl ?_
          refine w_pure (y_move rfl) rfl ?_
          refine w_pure (y_len rfl) rfl ?_
          refine w_pure (y_eq rfl rfl) rfl ?_
          refine w_pure (y_assign rfl) rfl ?_
          refine w_nil ?_
          refine x_next ?_
          refine c_ret ?_
          rotate_left
        exact x_retv [_] rfl ⟨rfl, trivial⟩ ⟨by show Value.bool (decide _) = _; rw [decide_eq_true (by rw [ey])], E.go⟩
end
end Go.Proofs.Ythigkbkaeopipaa

/- The walk of the law on the fewest cuts: without them no exits are joined, and each of them is needed. -/
import Derived.Test.YthigkbkaeopipaaFewC
import Derived.Test.YthigkbkaeopipaaBoaB
import Derived.Test.YthigkbkaeopipaaBoaP
import Derived.Test.YthigkbkaeopipaaBrdJ
import Derived.Test.YthigkbkaeopipaaBrdH
import Derived.Test.YthigkbkaeopipaaCutR
namespace Go.Proofs.Ythigkbkaeopipaa
open Go Go.Gw
set_option linter.unusedVariables false
set_option linter.unusedSimpArgs false
section
variable {e n j : Int} {ws : List (Int × Int)}
theorem few_sub (h : cFew e n j ws = 0) : (resFew e n j ws).Sublist (ownL e n j ws) := sub_subs _ _ _ (resFew_least h).mem
theorem few_lt (h : cFew e n j ws = 0) : (resFew e n j ws).Pairwise (· < ·) := (ownL_lt e n j ws).sublist (few_sub h)
theorem few_bd (h : cFew e n j ws = 0) {i : Nat} (hi : i < (resFew e n j ws).length) : 0 ≤ (resFew e n j ws).getD i 0 ∧ (resFew e n j ws).getD i 0 < ws.length := by
  have h1 := (few_sub h).subset (getD_mem hi)
  have h2 := (colsP_iff _ ((resFew e n j ws).getD i 0) ws.length).1 h1
  exact h2.1
theorem pairs_works (h : okB e n j ws = true) (c : List Int) (us : List (Int × Int)) (hu : us = keepW ws c ws.length) (hk : okB e n j us = true) : ((resPair e n j us).length = 0) ↔ worksP e n j ws c = true := by
  rw [works_keep, ← hu, resPair, if_pos hk, decide_eq_true_eq]; rfl
theorem keepW_nil (ws : List (Int × Int)) : keepW ws [] ws.length = ws := by
  rw [keepW_all ws.length (Nat.le_refl _) (fun d hd => by simp at hd), List.take_length]
theorem few_pairs (h : cFew e n j ws = 0) : (resFew e n j ws).length = 0 ↔ (resPair e n j ws).length = 0 := by
  have hk := (resFew_some h).1
  have h1 := pairs_works hk [] ws (keepW_nil ws).symm hk
  have h2 := resFew_least h
  rw [h1]
  constructor
  · intro g
    have h3 := h2.ok
    rw [List.length_eq_zero_iff.1 g] at h3
    exact h3
  · intro g
    have h3 := h2.min [] (by rw [List.length_nil, subs_zero]; simp) g
    rcases Nat.eq_zero_or_pos (resFew e n j ws).length with g2 | g2
    · exact g2
    · exact absurd (.inl (by simpa using g2)) h3
theorem cut_law (h : cFew e n j ws = 0) {skip : Int} (hs : -1 ≤ skip ∧ skip < (resFew e n j ws).length) : worksP e n j ws (dropC (resFew e n j ws) skip 0 (resFew e n j ws).length) = true ↔ skip < 0 := by
  have h2 := resFew_least h
  constructor
  · intro g
    by_cases hn : skip < 0
    · exact hn
    · exfalso
      have h3 := dropC_sub (resFew e n j ws) skip (resFew e n j ws).length 0 (by omega)
      rw [List.drop_zero] at h3
      have h4 := dropC_len (resFew e n j ws) skip (resFew e n j ws).length 0 (by omega)
      rw [if_pos (by omega)] at h4
      refine h2.min _ (subs_sub _ _ (h3.trans (few_sub h))) g (.inl ?_)
      omega
  · intro g
    rw [dropC_all _ g _ 0 (by omega), List.drop_zero]
    exact h2.ok
/-- while cuts are being removed from behind -/
theorem cut_step (h : cFew e n j ws = 0) {skip : Int} {i : Nat} (hi : i < (resFew e n j ws).length) :
    ((resFew e n j ws).getD i 0).toNat < (keepW ws (dropC (resFew e n j ws) skip (i + 1) ((resFew e n j ws).length - (i + 1))) ws.length).length ∧
    remW (keepW ws (dropC (resFew e n j ws) skip (i + 1) ((resFew e n j ws).length - (i + 1))) ws.length) ((resFew e n j ws).getD i 0).toNat = keepW ws ((resFew e n j ws).getD i 0 :: dropC (resFew e n j ws) skip (i + 1) ((resFew e n j ws).length - (i + 1))) ws.length := by
  have hb := few_bd h hi
  have hl := few_lt h
  have hs := dropC_sub (resFew e n j ws) skip ((resFew e n j ws).length - (i + 1)) (i + 1) (by omega)
  have key := keepW_more (ws := ws) (c := dropC (resFew e n j ws) skip (i + 1) ((resFew e n j ws).length - (i + 1))) (k := ((resFew e n j ws).getD i 0).toNat) (fun d hd => by
    have h1 := hs.subset hd
    obtain ⟨m, hm, rfl⟩ := List.mem_iff_getElem.1 h1
    rw [List.length_drop] at hm
    have h2 := lt_getD hl (i := i) (k := i + 1 + m) (by omega) (by omega)
    rw [List.getElem_drop, List.getD_eq_getElem?_getD, List.getD_eq_getElem?_getD, List.getElem?_eq_getElem (show i + 1 + m < _ by omega)] at *
    simp only [Option.getD_some] at h2
    omega) (ws.length - (((resFew e n j ws).getD i 0).toNat + 1)) (by omega)
  rw [show ((resFew e n j ws).getD i 0).toNat + 1 + (ws.length - (((resFew e n j ws).getD i 0).toNat + 1)) = ws.length by omega, Int.toNat_of_nonneg hb.1] at key
  exact key
end
section
variable {w : World} {v : Value} {ws : List (Int × Int)} {lo hi : Nat} {e n j : Int}
theorem sRemoveWire_z (k : Int) (h : SL w lo hi v ws := by repeat (first | assumption | exact Go.Gw.Own.sl (by assumption) | exact Go.Gw.Box.at (by assumption) | exact Go.Gw.SLL.el (by first | assumption | exact Go.Gw.OwnD.sll (by assumption)) _ (by omega) | exact Go.Gw.SLL.at (by first | assumption | exact Go.Gw.OwnD.sll (by assumption)) (by omega) | exact Go.Gw.OwnD.sll (by assumption) | (apply Go.Gw.SL.chg; case hx => assumption) | (apply Go.Gw.Own.chg; case hx => assumption) | (apply Go.Gw.Box.chg; case hx => assumption) | (apply Go.Gw.At.chg; case hx => assumption) | exact .inl (Nat.zero_le _) | exact .inr (Nat.zero_le _) | (show _ ∨ _; omega))) (hk : okB e n j ws = true := by assumption) (hr : 0 ≤ k ∧ k < ws.length := by omega) : Ret Try.prog 32 [.agg #[.int .i64 e, .int .i64 n, .int .i64 j, v], .int .i64 k] w fun u w' =>
    ∃ d, u = .tuple #[.agg #[.int .i64 e, .int .i64 n, .int .i64 j, d], .int .i64 0] ∧ Own w' 76 w.heap.size d (remW ws k.toNat) ∧ Ext w w' := by
  have hc : cRem e n j ws k = 0 := by rw [cRem, if_pos hk, if_pos hr]
  have hn := okB_num hk
  refine (sRemoveWire_c (e := e) (n := n) (j := j) k h ⟨by omega, by omega⟩).mono ?_
  rintro u w' ⟨d, h1, h2, h3⟩
  rw [hc] at h1
  rw [resRem, if_pos hc, show (k + 1).toNat = k.toNat + 1 by omega] at h2
  exact ⟨d, h1, h2, h3⟩
theorem iSneakPairs_z (h : SL w lo hi v ws := by repeat (first | assumption | exact Go.Gw.Own.sl (by assumption) | exact Go.Gw.Box.at (by assumption) | exact Go.Gw.SLL.el (by first | assumption | exact Go.Gw.OwnD.sll (by assumption)) _ (by omega) | exact Go.Gw.SLL.at (by first | assumption | exact Go.Gw.OwnD.sll (by assumption)) (by omega) | exact Go.Gw.OwnD.sll (by assumption) | (apply Go.Gw.SL.chg; case hx => assumption) | (apply Go.Gw.Own.chg; case hx => assumption) | (apply Go.Gw.Box.chg; case hx => assumption) | (apply Go.Gw.At.chg; case hx => assumption) | exact .inl (Nat.zero_le _) | exact .inr (Nat.zero_le _) | (show _ ∨ _; omega))) (hk : okB e n j ws = true := by assumption) : Ret Try.prog 31 [.agg #[.int .i64 e, .int .i64 n, .int .i64 j, v]] w fun u w' => ∃ d sus, u = .tuple #[d, .int .i64 0] ∧ OwnD w' 38 w.heap.size w'.heap.size sus d (resPair e n j ws) ∧ Ext w w' := by
  have hc : cBrd e n j ws = 0 := by rw [cBrd, if_pos hk]
  have := iSneakPairs_c (e := e) (n := n) (j := j) h
  rwa [hc] at this
theorem sSneakPairs_z (h : SL w lo hi v ws := by repeat (first | assumption | exact Go.Gw.Own.sl (by assumption) | exact Go.Gw.Box.at (by assumption) | exact Go.Gw.SLL.el (by first | assumption | exact Go.Gw.OwnD.sll (by assumption)) _ (by omega) | exact Go.Gw.SLL.at (by first | assumption | exact Go.Gw.OwnD.sll (by assumption)) (by omega) | exact Go.Gw.OwnD.sll (by assumption) | (apply Go.Gw.SL.chg; case hx => assumption) | (apply Go.Gw.Own.chg; case hx => assumption) | (apply Go.Gw.Box.chg; case hx => assumption) | (apply Go.Gw.At.chg; case hx => assumption) | exact .inl (Nat.zero_le _) | exact .inr (Nat.zero_le _) | (show _ ∨ _; omega))) (hk : okB e n j ws = true := by assumption) : Ret Try.prog 33 [.agg #[.int .i64 e, .int .i64 n, .int .i64 j, v]] w fun u w' => ∃ d sus, u = .tuple #[d, .int .i64 0] ∧ OwnD w' 38 w.heap.size w'.heap.size sus d (resPair e n j ws) ∧ Ext w w' := by
  have hc : cBrd e n j ws = 0 := by rw [cBrd, if_pos hk]
  have := sSneakPairs_c (e := e) (n := n) (j := j) h
  rwa [hc] at this
theorem iFewestCuts_z (h : SL w lo hi v ws := by repeat (first | assumption | exact Go.Gw.Own.sl (by assumption) | exact Go.Gw.Box.at (by assumption) | exact Go.Gw.SLL.el (by first | assumption | exact Go.Gw.OwnD.sll (by assumption)) _ (by omega) | exact Go.Gw.SLL.at (by first | assumption | exact Go.Gw.OwnD.sll (by assumption)) (by omega) | exact Go.Gw.OwnD.sll (by assumption) | (apply Go.Gw.SL.chg; case hx => assumption) | (apply Go.Gw.Own.chg; case hx => assumption) | (apply Go.Gw.Box.chg; case hx => assumption) | (apply Go.Gw.At.chg; case hx => assumption) | exact .inl (Nat.zero_le _) | exact .inr (Nat.zero_le _) | (show _ ∨ _; omega))) (hk : okB e n j ws = true := by assumption) (hl : ws.length ≤ 10 := by omega) : Ret Try.prog 30 [.agg #[.int .i64 e, .int .i64 n, .int .i64 j, v]] w fun u w' => ∃ d, u = .tuple #[d, .int .i64 0] ∧ Own w' 2 w.heap.size d (resFew e n j ws) ∧ Ext w w' := by
  have hc : cFew e n j ws = 0 := by rw [cFew, if_pos hk, if_pos (by have := ownL_len e n j ws; omega)]
  have := iFewestCuts_c (e := e) (n := n) (j := j) h
  rwa [hc] at this
set_option maxHeartbeats 4000000 in
theorem lFnCuts (w0 : World) (x0 : { x : OBy // x.ok w0 }) : Ret Try.prog 5 [x0.1.v] w0 fun u w' => u = .bool true ∧ Ext w0 w' := by
  obtain ⟨⟨v0, p0⟩, ⟨h0⟩⟩ := x0
  show Ret _ _ [v0] w0 _
  dsimp only at h0
  have hnil : SL (α := UInt8) w0 0 0 (.slice none 0 0) [] := (Own.nil (α := UInt8) w0 0 0).sl
  have E : Since 0 0 w0 w0 := Since.refl 0 0 w0
  refine ret_enter Try.func5 rfl Try.ntmps5 rfl ?_
  focus
    have ht_h0 := h0.top
    have ht_hnil := hnil.top
    refine c_seq ?_
    refine c_region ?_
    refine w_pure (y_assign rfl) rfl ?_
    refine w_nil ?_
    refine x_next ?_
    refine c_seq ?_
    refine c_seq ?_
    refine c_region ?_
    refine w_pure (y_move rfl) rfl ?_
    (refine w_call rfl rfl rfl (a2Long_c) rfl ?_; rintro _ w16 ⟨z16, ⟨rfl, hx16⟩⟩)
    have hz_hx16 := hx16.size
    replace h0 := h0.ext hx16
    replace hnil := hnil.ext hx16
    replace E := E.trans hx16
    refine w_nil ?_
    refine x_next ?_
    (refine c_if rfl (fun hc16 => ?_) (fun hc16 => ?_) <;> try (first | exact absurd rfl hc16 | contradiction | exact Bool.noConfusion (show false = true from hc16.symm.trans (by assumption)) | exact Bool.noConfusion (show true = false from hc16.symm.trans (by assumption)) | (exfalso; omega) | (exfalso; simp only [*, Bool.not_true, Bool.not_false, reduceCtorEq] at hc16; done)))
    refine c_seq ?_
    refine c_region ?_
    refine w_pure (y_assign rfl) rfl ?_
    refine w_nil ?_
    refine x_next ?_
    refine c_ret ?_
    refine x_then_ret ?_
    rotate_left
    refine c_skip ?_
    refine x_next ?_
    refine c_seq ?_
    refine c_region ?_
    refine w_pure (y_move rfl) rfl ?_
    (refine w_call rfl rfl rfl (A2Board_c) rfl ?_; rintro _ w18 ⟨d18, ⟨e18, ⟨n18, ⟨j18, ⟨ws18, ⟨rfl, ⟨hp1_18, ⟨hp2_18, ⟨⟨hp3_18, ⟨hp4_18, ⟨hp5_18, ⟨hp6_18, ⟨hp7_18, hp8_18⟩⟩⟩⟩⟩, ⟨hp9_18, hx18⟩⟩⟩⟩⟩⟩⟩⟩⟩⟩)
    have hl_hp1_18 := hp1_18.lt
    have hz_hx18 := hx18.size
    replace h0 := h0.ext hx18
    replace hnil := hnil.ext hx18
    replace E := E.trans hx18
    refine w_alloc (k := fun b3 w3 hb3 hx3 hl3 hs3 => ?_)
    have hz_hx3 := hx3.size
    replace hp1_18 := hp1_18.ext hx3
    replace h0 := h0.ext hx3
    replace hnil := hnil.ext hx3
    replace E := E.trans hx3
    refine w_store_boxs rfl rfl (next := fun ws29 hbs29 hxs29 hss29 => ?_)
    (replace hb3 := hbs29; clear hbs29)
    have hz_hxs29 := hxs29.size
    replace hp1_18 := hp1_18.chg hxs29 (by omega)
    replace h0 := h0.chg hxs29 (by omega)
    replace hnil := hnil.chg hxs29 (by omega)
    replace E := E.next hxs29 (by omega)
    refine w_nil ?_
    refine x_next ?_
    refine c_seq ?_
    refine c_region ?_
    refine w_pure (y_load_boxs rfl) rfl ?_
    (refine w_call rfl rfl rfl (iFewestCuts_z) rfl ?_; rintro _ w21 ⟨d21, ⟨rfl, ⟨hp1_21, hx21⟩⟩⟩)
    have hl_hp1_21 := hp1_21.lt
    have hz_hx21 := hx21.size
    replace hb3 := hb3.ext hx21
    replace hp1_18 := hp1_18.ext hx21
    replace h0 := h0.ext hx21
    replace hnil := hnil.ext hx21
    replace E := E.trans hx21
    refine w_pure (y_move rfl) rfl ?_
    refine w_pure (y_extract rfl rfl) rfl ?_
    refine w_pure (y_extract rfl rfl) rfl ?_
    refine w_pure (y_assign rfl) rfl ?_
    refine w_pure (y_assign rfl) rfl ?_
    refine w_nil ?_
    refine x_next ?_
    refine c_seq ?_
    refine c_region ?_
    refine w_pure (y_load_boxs rfl) rfl ?_
    (refine w_call rfl rfl rfl (iSneakPairs_z) rfl ?_; rintro _ w26 ⟨d26, ⟨sus26, ⟨rfl, ⟨hp1_26, hx26⟩⟩⟩⟩)
    have hl_hp1_26 := hp1_26.lt
    have hz_hx26 := hx26.size
    replace hp1_21 := hp1_21.ext hx26
    replace hb3 := hb3.ext hx26
    replace hp1_18 := hp1_18.ext hx26
    replace h0 := h0.ext hx26
    replace hnil := hnil.ext hx26
    replace E := E.trans hx26
    refine w_pure (y_move rfl) rfl ?_
    refine w_pure (y_extract rfl rfl) rfl ?_
    refine w_pure (y_extract rfl rfl) rfl ?_
    refine w_pure (y_assign rfl) rfl ?_
    refine w_pure (y_assign rfl) rfl ?_
    refine w_nil ?_
    refine x_next ?_
    refine c_seq ?_
    refine c_seq ?_
    refine c_region ?_
    refine w_pure (y_move rfl) rfl ?_
    refine w_pure (y_ne rfl rfl) rfl ?_
    refine w_pure (y_move rfl) rfl ?_
    refine w_yes rfl rfl ?_
    refine w_pure (y_move rfl) rfl ?_
    refine w_yes rfl rfl ?_
    refine w_pure (y_ne rfl rfl) rfl ?_
    refine w_pure (y_pick_f rfl rfl) rfl ?_
    refine w_pure (y_move rfl) rfl ?_
    refine w_yes rfl rfl ?_
    refine w_pure (y_move rfl) rfl ?_
    refine w_yes rfl rfl ?_
    refine w_pure (y_len rfl) rfl ?_
    refine w_yes rfl rfl ?_
    refine w_pure (y_eq rfl rfl) rfl ?_
    refine w_yes rfl rfl ?_
    refine w_pure (y_move rfl) rfl ?_
    refine w_yes rfl rfl ?_
    refine w_pure (y_lend rfl) rfl ?_
    refine w_yes rfl rfl ?_
    refine w_pure (y_eq rfl rfl) rfl ?_
    refine w_yes rfl rfl ?_
    refine w_pure (y_neb rfl rfl) rfl ?_
    refine w_pure (y_pick_f rfl rfl) rfl ?_
    refine w_nil ?_
    refine x_next ?_
    (refine c_dec rfl (fun hc43 => ?_) (fun hc43 => ?_) <;> try (first | exact absurd rfl hc43 | contradiction | exact Bool.noConfusion (show false = true from hc43.symm.trans (by assumption)) | exact Bool.noConfusion (show true = false from hc43.symm.trans (by assumption)) | (exfalso; omega) | (exfalso; simp only [*, Bool.not_true, Bool.not_false, reduceCtorEq] at hc43; done)))
    refine c_seq ?_
    refine c_region ?_
    refine w_pure (y_assign rfl) rfl ?_
    refine w_nil ?_
    refine x_next ?_
    refine c_ret ?_
    refine x_then_ret ?_
    rotate_left
    refine c_skip ?_
    refine x_next ?_
    refine c_seq ?_
    refine c_seq ?_
    refine c_region ?_
    refine w_pure (y_assign rfl) rfl ?_
    refine w_nil ?_
    refine x_next ?_
    refine c_block ?_
    rotate_left
  · exact x_retv [_] rfl ⟨rfl, trivial⟩ ⟨rfl, E.go⟩
  all_goals have hec : cFew e18 n18 j18 ws18 = 0 := by rw [cFew, if_pos hp2_18, if_pos (by have := ownL_len e18 n18 j18 ws18; omega)]
  · exfalso
    have hfp := few_pairs hec
    exact hc43 (decide_eq_decide.2 (by omega))
  have hfl := resFew_len e18 n18 j18 ws18
  have hkn := keepW_nil ws18
  have hst := fun skip i (hi : i < (resFew e18 n18 j18 ws18).length) => cut_step (skip := skip) hec hi
  have hcl := fun skip hs => cut_law (skip := skip) hec hs
  have hbd := fun i hi => few_bd (i := i) hec hi
  have hlt0 := fun i k hi hk => lt_getD (i := i) (k := k) (few_lt hec) hi hk
  have s21 := hp1_21.sl
  have s18 := hp1_18.sl
  have t21 := s21.top
  have t18 := s18.top
  clear hp1_26 hp1_21 hc43
  try clear hl_hp1_26
  try clear hl_hp1_21
  generalize hR : resFew e18 n18 j18 ws18 = R at *
  refine c_loopC 0 0 (ι := Int) (fun x => [(3, ptr b3 0), (4, d21), (8, .int .i64 x)]) (fun x w' => -1 ≤ x ∧ x ≤ R.length) (fun x => (R.length - x).toNat) (-1) (by repeat (first | exact trivial | refine ⟨rfl, ?_⟩)) ⟨by omega, by omega⟩ ?_
  rintro skip wL hxL EL ⟨hk0, hk1⟩
  have hzL := hxL.size
  by_cases hlk : skip < R.length
  · focus
      have ht_s18 := s18.top
      have ht_s21 := s21.top
      have hz_hxL := hxL.size
      replace hb3 := hb3.ext hxL
      replace hp1_18 := hp1_18.ext hxL
      replace h0 := h0.ext hxL
      replace hnil := hnil.ext hxL
      replace E := E.trans hxL
      replace s18 := s18.ext hxL
      replace s21 := s21.ext hxL
      refine c_seq ?_
      refine c_seq ?_
      refine c_region ?_
      refine w_pure (y_move rfl) rfl ?_
      refine w_pure (y_move rfl) rfl ?_
      refine w_pure (y_len rfl) rfl ?_
      refine w_pure (y_lt rfl rfl) rfl ?_
      refine w_nil ?_
      refine x_next ?_
      (refine c_dec rfl (fun hc47 => ?_) (fun hc47 => ?_) <;> try (first | exact absurd rfl hc47 | contradiction | exact Bool.noConfusion (show false = true from hc47.symm.trans (by assumption)) | exact Bool.noConfusion (show true = false from hc47.symm.trans (by assumption)) | (exfalso; omega) | (exfalso; simp only [*, Bool.not_true, Bool.not_false, reduceCtorEq] at hc47; done)))
      refine c_skip ?_
      refine x_next ?_
      refine c_seq ?_
      refine c_block ?_
      refine c_seq ?_
      refine c_region ?_
      refine w_pure (y_load_boxs rfl) rfl ?_
      refine w_alloc (k := fun b9 w9 hb9 hx9 hl9 hs9 => ?_)
      have hz_hx9 := hx9.size
      replace EL := EL.trans hx9
      replace hb3 := hb3.ext hx9
      replace hp1_18 := hp1_18.ext hx9
      replace h0 := h0.ext hx9
      replace hnil := hnil.ext hx9
      replace E := E.trans hx9
      replace s18 := s18.ext hx9
      replace s21 := s21.ext hx9
      refine w_store_boxs rfl rfl (next := fun ws19 hbs19 hxs19 hss19 => ?_)
      (replace hb9 := hbs19; clear hbs19)
      have hz_hxs19 := hxs19.size
      replace EL := EL.next hxs19 (by omega)
      replace hb3 := hb3.chg hxs19 (by omega)
      replace hp1_18 := hp1_18.chg hxs19 (by omega)
      replace h0 := h0.chg hxs19 (by omega)
      replace hnil := hnil.chg hxs19 (by omega)
      replace E := E.next hxs19 (by omega)
      replace s18 := s18.chg hxs19 (by omega)
      replace s21 := s21.chg hxs19 (by omega)
      refine w_nil ?_
      refine x_next ?_
      refine c_seq ?_
      refine c_seq ?_
      refine c_region ?_
      refine w_pure (y_move rfl) rfl ?_
      refine w_pure (y_len rfl) rfl ?_
      refine w_pure (y_sub rfl rfl) rfl ?_
      refine w_pure (y_assign rfl) rfl ?_
      refine w_nil ?_
      refine x_next ?_
      refine c_block ?_
      rotate_left
    refine c_loopC b9 (b9 + 1) (ι := Int × Value × List (Int × Int)) (fun x => [(3, ptr b3 0), (4, d21), (8, .int .i64 skip), (9, ptr b9 0), (10, .int .i64 x.1)])
      (fun x w' => Box w' b9 [.int .i64 e18, .int .i64 n18, .int .i64 j18, x.2.1] ∧ Own w' 76 w16.heap.size x.2.1 x.2.2 ∧ okB e18 n18 j18 x.2.2 = true ∧ x.2.2 = keepW ws18 (dropC R skip (x.1 + 1).toNat (R.length - (x.1 + 1).toNat)) ws18.length ∧ -1 ≤ x.1 ∧ x.1 < R.length) (fun x => (x.1 + 1).toNat) ((R.length : Int) - 1, d18, ws18)
      (by repeat (first | exact trivial | refine ⟨rfl, ?_⟩)) ⟨by assumption, by assumption, by assumption, ?_, by dsimp only; omega, by dsimp only; omega⟩ ?_
    · dsimp only
      rw [show R.length - ((R.length : Int) - 1 + 1).toNat = 0 by omega, dropC, hkn]
    clear hb9
    rintro ⟨i, u, us⟩ wM hxM EM ⟨hb9, g1, g2, g3, g4, g5⟩
    dsimp only at *
    have hzM := hxM.size
    by_cases hli : 0 ≤ i
    · have h1 := hbd i.toNat (by omega)
      have h2 : 0 < i → R.getD (i - 1).toNat 0 < R.getD i.toNat 0 := fun h => hlt0 _ _ (by omega) (by omega)
      have h3 := hst skip i.toNat (by omega)
      rw [show (i + 1).toNat = i.toNat + 1 by omega] at g3
      rw [← g3] at h3
      have e1 : R.length - i.toNat = R.length - (i.toNat + 1) + 1 := by omega
      focus
        have hl_g1 := g1.lt
        have hz_hxM := hxM.size
        replace EL := EL.next hxM (by omega)
        replace hb3 := hb3.chg hxM (by omega)
        replace hp1_18 := hp1_18.chg hxM (by omega)
        replace h0 := h0.chg hxM (by omega)
        replace hnil := hnil.chg hxM (by omega)
        replace E := E.next hxM (by omega)
        replace s18 := s18.chg hxM (by omega)
        replace s21 := s21.chg hxM (by omega)
        refine c_seq ?_
        refine c_seq ?_
        refine c_region ?_
        refine w_pure (y_move rfl) rfl ?_
        refine w_pure (y_ge rfl rfl) rfl ?_
        refine w_nil ?_
        refine x_next ?_
        (refine c_dec rfl (fun hc55 => ?_) (fun hc55 => ?_) <;> try (first | exact absurd rfl hc55 | contradiction | exact Bool.noConfusion (show false = true from hc55.symm.trans (by assumption)) | exact Bool.noConfusion (show true = false from hc55.symm.trans (by assumption)) | (exfalso; omega) | (exfalso; simp only [*, Bool.not_true, Bool.not_false, reduceCtorEq] at hc55; done)))
        refine c_skip ?_
        refine x_next ?_
        refine c_seq ?_
        refine c_block ?_
        refine c_seq ?_
        refine c_seq ?_
        refine c_region_calm mixed (by decide +kernel) (by kernel_rfl) ?_
        refine q_pure (y_move rfl) rfl ?_
        refine q_pure (y_move rfl) rfl ?_
        refine q_pure (y_index rfl rfl) rfl ?_
        refine q_pure (y_load_int rfl) rfl ?_
        refine q_pure (y_lt rfl rfl) rfl ?_
        refine q_pure (y_move rfl) rfl ?_
        (refine q_part_dec rfl rfl (fun hc64 => ?_) (fun hc64 => ?_) <;> try (first | exact absurd rfl hc64 | contradiction | exact Bool.noConfusion (show false = true from hc64.symm.trans (by assumption)) | exact Bool.noConfusion (show true = false from hc64.symm.trans (by assumption)) | (exfalso; omega) | (exfalso; simp only [*, Bool.not_true, Bool.not_false, reduceCtorEq] at hc64; done)))
        refine q_yes rfl rfl ?_
        refine q_pure (y_move rfl) rfl ?_
        refine q_yes rfl rfl ?_
        refine q_pure (y_gt rfl rfl) rfl ?_
        refine q_yes rfl rfl ?_
        refine q_pure (y_move rfl) rfl ?_
        (refine q_part_dec rfl rfl (fun hc67 => ?_) (fun hc67 => ?_) <;> try (first | exact absurd rfl hc67 | contradiction | exact Bool.noConfusion (show false = true from hc67.symm.trans (by assumption)) | exact Bool.noConfusion (show true = false from hc67.symm.trans (by assumption)) | (exfalso; omega) | (exfalso; simp only [*, Bool.not_true, Bool.not_false, reduceCtorEq] at hc67; done)))
        refine q_yes rfl rfl ?_
        refine q_pure (y_move rfl) rfl ?_
        refine q_yes rfl rfl ?_
        refine q_pure (y_move rfl) rfl ?_
        refine q_yes rfl rfl ?_
        refine q_pure (y_index rfl rfl) rfl ?_
        refine q_yes rfl rfl ?_
        refine q_pure (y_load_int rfl) rfl ?_
        refine q_yes rfl rfl ?_
        refine q_pure (y_move rfl) rfl ?_
        refine q_yes rfl rfl ?_
        refine q_pure (y_move rfl) rfl ?_
        refine q_yes rfl rfl ?_
        refine q_pure (y_sub rfl rfl) rfl ?_
        refine q_yes rfl rfl ?_
        refine q_pure (y_index rfl rfl) rfl ?_
        refine q_yes rfl rfl ?_
        refine q_pure (y_load_int rfl) rfl ?_
        refine q_yes rfl rfl ?_
        refine q_pure (y_le rfl rfl) rfl ?_
        refine q_yes rfl rfl ?_
        refine q_pure (y_pick_t rfl rfl) rfl ?_
        refine q_pure (y_pick_f rfl rfl) rfl ?_
        refine q_nil (fun ws53 hxs53 hzs53 => ?_)
        have hz_hxs53 := hxs53.size
        replace EM := EM.next hxs53 (by omega)
        replace hb9 := hb9.ext hxs53
        replace g1 := g1.ext hxs53
        replace EL := EL.trans hxs53
        replace hb3 := hb3.ext hxs53
        replace hp1_18 := hp1_18.ext hxs53
        replace h0 := h0.ext hxs53
        replace hnil := hnil.ext hxs53
        replace E := E.trans hxs53
        replace s18 := s18.ext hxs53
        replace s21 := s21.ext hxs53
        refine x_next ?_
        (refine c_dec rfl (fun hc78 => ?_) (fun hc78 => ?_) <;> try (first | exact absurd rfl hc78 | contradiction | exact Bool.noConfusion (show false = true from hc78.symm.trans (by assumption)) | exact Bool.noConfusion (show true = false from hc78.symm.trans (by assumption)) | (exfalso; omega) | (exfalso; simp only [*, Bool.not_true, Bool.not_false, reduceCtorEq] at hc78; done)))
        refine c_skip ?_
        refine x_next ?_
        refine c_seq ?_
        refine c_seq ?_
        refine c_region ?_
        refine w_pure (y_move rfl) rfl ?_
        refine w_pure (y_move rfl) rfl ?_
        refine w_pure (y_eq rfl rfl) rfl ?_
        refine w_nil ?_
        refine x_next ?_
        (refine c_dec rfl (fun hc81 => ?_) (fun hc81 => ?_) <;> try (first | exact absurd rfl hc81 | contradiction | exact Bool.noConfusion (show false = true from hc81.symm.trans (by assumption)) | exact Bool.noConfusion (show true = false from hc81.symm.trans (by assumption)) | (exfalso; omega) | (exfalso; simp only [*, Bool.not_true, Bool.not_false, reduceCtorEq] at hc81; done)))
        refine c_exit ?_
        refine x_then_exit ?_
        refine x_block_hit ?_
        refine x_next ?_
        refine c_region ?_
        refine w_pure (y_move rfl) rfl ?_
        refine w_pure (y_sub rfl rfl) rfl ?_
        refine w_pure (y_assign rfl) rfl ?_
        refine w_nil ?_
        rotate_left
        refine c_skip ?_
        refine x_next ?_
        refine c_seq ?_
        refine c_region_held mixed (fun wr18 hxr18 hzr18 => ?_)
        have hz_hxr18 := hxr18.size
        replace EM := EM.next hxr18 (by omega)
        replace hb9 := hb9.ext hxr18
        replace g1 := g1.ext hxr18
        replace EL := EL.trans hxr18
        replace hb3 := hb3.ext hxr18
        replace hp1_18 := hp1_18.ext hxr18
        replace h0 := h0.ext hxr18
        replace hnil := hnil.ext hxr18
        replace E := E.trans hxr18
        replace s18 := s18.ext hxr18
        replace s21 := s21.ext hxr18
        refine h_pure rfl (y_load_boxs rfl) rfl ?_
        refine h_pure rfl (y_move rfl) rfl ?_
        refine h_pure rfl (y_move rfl) rfl ?_
        refine h_pure rfl (y_index rfl rfl) rfl ?_
        refine h_pure rfl (y_load_int rfl) rfl ?_
        refine h_maybe1 (p0 := ⟨9, 11, _⟩) (PA.mk_ok rfl rfl rfl) ?_
        refine m1_call (PA.mk_ok rfl rfl rfl) rfl rfl rfl rfl rfl (fun w88m hx88m => ?_)
        have hz_hx88m := hx88m.size
        replace EM := EM.next hx88m (by omega)
        replace hb9 := hb9.ext hx88m
        replace g1 := g1.ext hx88m
        replace EL := EL.trans hx88m
        replace hb3 := hb3.ext hx88m
        replace hp1_18 := hp1_18.ext hx88m
        replace h0 := h0.ext hx88m
        replace hnil := hnil.ext hx88m
        replace E := E.trans hx88m
        replace s18 := s18.ext hx88m
        replace s21 := s21.ext hx88m
        (refine mc_ret (sRemoveWire_z _) ?_; rintro _ w88 ⟨d88, ⟨rfl, ⟨hp1_88, hx88⟩⟩⟩; refine ⟨hx88, ?_⟩)
        have hl_hp1_88 := hp1_88.lt
        have hz_hx88 := hx88.size
        replace EM := EM.next hx88 (by omega)
        replace hb9 := hb9.ext hx88
        replace g1 := g1.ext hx88
        replace EL := EL.trans hx88
        replace hb3 := hb3.ext hx88
        replace hp1_18 := hp1_18.ext hx88
        replace h0 := h0.ext hx88
        replace hnil := hnil.ext hx88
        replace E := E.trans hx88
        replace s18 := s18.ext hx88
        replace s21 := s21.ext hx88
        refine m1_pure rfl (y_move rfl) rfl ?_
        refine m1_pure rfl (y_extract rfl rfl) rfl ?_
        refine m1_any rfl (fun _ => y_extract rfl rfl) rfl ?_
        (refine m1_end (PA.mk_ok rfl rfl rfl) ?_; intro w11e hx11e hz11e b11 hb11 hlb11 hg11; simp only [Gaps, and_true] at hg11; have hu11 := hb11.lt)
        have hz_hx11e := hx11e.size
        replace hp1_88 := hp1_88.ext hx11e
        replace EM := EM.next hx11e (by omega)
        replace hb9 := hb9.ext hx11e
        replace g1 := g1.ext hx11e
        replace EL := EL.trans hx11e
        replace hb3 := hb3.ext hx11e
        replace hp1_18 := hp1_18.ext hx11e
        replace h0 := h0.ext hx11e
        replace hnil := hnil.ext hx11e
        replace E := E.trans hx11e
        replace s18 := s18.ext hx11e
        replace s21 := s21.ext hx11e
        refine h_one rfl ?_
        refine w_store_boxs rfl rfl (next := fun ws94 hbs94 hxs94 hss94 => ?_)
        (replace hb11 := hbs94; clear hbs94)
        have hz_hxs94 := hxs94.size
        replace hp1_88 := hp1_88.chg hxs94 (by omega)
        replace EM := EM.next hxs94 (by omega)
        replace hb9 := hb9.chg hxs94 (by omega)
        replace g1 := g1.chg hxs94 (by omega)
        replace EL := EL.next hxs94 (by omega)
        replace hb3 := hb3.chg hxs94 (by omega)
        replace hp1_18 := hp1_18.chg hxs94 (by omega)
        replace h0 := h0.chg hxs94 (by omega)
        replace hnil := hnil.chg hxs94 (by omega)
        replace E := E.next hxs94 (by omega)
        replace s18 := s18.chg hxs94 (by omega)
        replace s21 := s21.chg hxs94 (by omega)
        refine w_nil ?_
        refine x_heldk ?_
        refine h_pure rfl (y_assign rfl) rfl ?_
        refine h_nil ?_
        refine x_next ?_
        refine c_seq ?_
        refine c_seq ?_
        refine c_region ?_
        refine w_pure (y_move rfl) rfl ?_
        refine w_pure (y_ne rfl rfl) rfl ?_
        refine w_nil ?_
        refine x_next ?_
        refine c_false rfl ?_
        refine c_skip ?_
        refine x_next ?_
        refine c_region ?_
        refine w_pure (y_load_boxs rfl) rfl ?_
        refine w_store_boxs rfl rfl (next := fun ws112 hbs112 hxs112 hss112 => ?_)
        (replace hb9 := hbs112; clear hbs112)
        have hz_hxs112 := hxs112.size
        replace hb11 := hb11.chg hxs112 (by omega)
        replace hp1_88 := hp1_88.chg hxs112 (by omega)
        replace EM := EM.trans hxs112
        replace EL := EL.next hxs112 (by omega)
        replace hb3 := hb3.chg hxs112 (by omega)
        replace hp1_18 := hp1_18.chg hxs112 (by omega)
        replace h0 := h0.chg hxs112 (by omega)
        replace hnil := hnil.chg hxs112 (by omega)
        replace E := E.next hxs112 (by omega)
        replace s18 := s18.chg hxs112 (by omega)
        replace s21 := s21.chg hxs112 (by omega)
        refine w_nil ?_
        refine x_block_norm ?_
        refine x_next ?_
        refine c_region ?_
        refine w_pure (y_move rfl) rfl ?_
        refine w_pure (y_sub rfl rfl) rfl ?_
        refine w_pure (y_assign rfl) rfl ?_
        refine w_nil ?_
        rotate_left
        refine q_no rfl rfl rfl rfl ?_
        refine q_no rfl rfl rfl rfl ?_
        refine q_no rfl rfl rfl rfl ?_
        refine q_no rfl rfl rfl rfl ?_
        refine q_no rfl rfl rfl rfl ?_
        refine q_no rfl rfl rfl rfl ?_
        refine q_no rfl rfl rfl rfl ?_
        refine q_no rfl rfl rfl rfl ?_
        refine q_no rfl rfl rfl rfl ?_
        refine q_no rfl rfl rfl rfl ?_
        refine q_yes rfl rfl ?_
        refine q_pure (y_pick_f rfl rfl) rfl ?_
        refine q_pure (y_pick_f rfl rfl) rfl ?_
        refine q_nil (fun ws135 hxs135 hzs135 => ?_)
        have hz_hxs135 := hxs135.size
        replace EM := EM.next hxs135 (by omega)
        replace hb9 := hb9.ext hxs135
        replace g1 := g1.ext hxs135
        replace EL := EL.trans hxs135
        replace hb3 := hb3.ext hxs135
        replace hp1_18 := hp1_18.ext hxs135
        replace h0 := h0.ext hxs135
        replace hnil := hnil.ext hxs135
        replace E := E.trans hxs135
        replace s18 := s18.ext hxs135
        replace s21 := s21.ext hxs135
        refine x_next ?_
        refine c_false rfl ?_
        refine c_skip ?_
        refine x_next ?_
        refine c_seq ?_
        refine c_seq ?_
        refine c_region ?_
        refine w_pure (y_move rfl) rfl ?_
        refine w_pure (y_move rfl) rfl ?_
        refine w_pure (y_eq rfl rfl) rfl ?_
        refine w_nil ?_
        refine x_next ?_
        (refine c_dec rfl (fun hc81 => ?_) (fun hc81 => ?_) <;> try (first | exact absurd rfl hc81 | contradiction | exact Bool.noConfusion (show false = true from hc81.symm.trans (by assumption)) | exact Bool.noConfusion (show true = false from hc81.symm.trans (by assumption)) | (exfalso; omega) | (exfalso; simp only [*, Bool.not_true, Bool.not_false, reduceCtorEq] at hc81; done)))
        refine c_exit ?_
        refine x_then_exit ?_
        refine x_block_hit ?_
        refine x_next ?_
        refine c_region ?_
        refine w_pure (y_move rfl) rfl ?_
        refine w_pure (y_sub rfl rfl) rfl ?_
        refine w_pure (y_assign rfl) rfl ?_
        refine w_nil ?_
        rotate_left
        refine c_skip ?_
        refine x_next ?_
        refine c_seq ?_
        refine c_region_held mixed (fun wr18 hxr18 hzr18 => ?_)
        have hz_hxr18 := hxr18.size
        replace EM := EM.next hxr18 (by omega)
        replace hb9 := hb9.ext hxr18
        replace g1 := g1.ext hxr18
        replace EL := EL.trans hxr18
        replace hb3 := hb3.ext hxr18
        replace hp1_18 := hp1_18.ext hxr18
        replace h0 := h0.ext hxr18
        replace hnil := hnil.ext hxr18
        replace E := E.trans hxr18
        replace s18 := s18.ext hxr18
        replace s21 := s21.ext hxr18
        refine h_pure rfl (y_load_boxs rfl) rfl ?_
        refine h_pure rfl (y_move rfl) rfl ?_
        refine h_pure rfl (y_move rfl) rfl ?_
        refine h_pure rfl (y_index rfl rfl) rfl ?_
        refine h_pure rfl (y_load_int rfl) rfl ?_
        refine h_maybe1 (p0 := ⟨9, 11, _⟩) (PA.mk_ok rfl rfl rfl) ?_
        refine m1_call (PA.mk_ok rfl rfl rfl) rfl rfl rfl rfl rfl (fun w88m hx88m => ?_)
        have hz_hx88m := hx88m.size
        replace EM := EM.next hx88m (by omega)
        replace hb9 := hb9.ext hx88m
        replace g1 := g1.ext hx88m
        replace EL := EL.trans hx88m
        replace hb3 := hb3.ext hx88m
        replace hp1_18 := hp1_18.ext hx88m
        replace h0 := h0.ext hx88m
        replace hnil := hnil.ext hx88m
        replace E := E.trans hx88m
        replace s18 := s18.ext hx88m
        replace s21 := s21.ext hx88m
        (refine mc_ret (sRemoveWire_z _) ?_; rintro _ w88 ⟨d88, ⟨rfl, ⟨hp1_88, hx88⟩⟩⟩; refine ⟨hx88, ?_⟩)
        have hl_hp1_88 := hp1_88.lt
        have hz_hx88 := hx88.size
        replace EM := EM.next hx88 (by omega)
        replace hb9 := hb9.ext hx88
        replace g1 := g1.ext hx88
        replace EL := EL.trans hx88
        replace hb3 := hb3.ext hx88
        replace hp1_18 := hp1_18.ext hx88
        replace h0 := h0.ext hx88
        replace hnil := hnil.ext hx88
        replace E := E.trans hx88
        replace s18 := s18.ext hx88
        replace s21 := s21.ext hx88
        refine m1_pure rfl (y_move rfl) rfl ?_
        refine m1_pure rfl (y_extract rfl rfl) rfl ?_
        refine m1_any rfl (fun _ => y_extract rfl rfl) rfl ?_
        (refine m1_end (PA.mk_ok rfl rfl rfl) ?_; intro w11e hx11e hz11e b11 hb11 hlb11 hg11; simp only [Gaps, and_true] at hg11; have hu11 := hb11.lt)
        have hz_hx11e := hx11e.size
        replace hp1_88 := hp1_88.ext hx11e
        replace EM := EM.next hx11e (by omega)
        replace hb9 := hb9.ext hx11e
        replace g1 := g1.ext hx11e
        replace EL := EL.trans hx11e
        replace hb3 := hb3.ext hx11e
        replace hp1_18 := hp1_18.ext hx11e
        replace h0 := h0.ext hx11e
        replace hnil := hnil.ext hx11e
        replace E := E.trans hx11e
        replace s18 := s18.ext hx11e
        replace s21 := s21.ext hx11e
        refine h_one rfl ?_
        refine w_store_boxs rfl rfl (next := fun ws176 hbs176 hxs176 hss176 => ?_)
        (replace hb11 := hbs176; clear hbs176)
        have hz_hxs176 := hxs176.size
        replace hp1_88 := hp1_88.chg hxs176 (by omega)
        replace EM := EM.next hxs176 (by omega)
        replace hb9 := hb9.chg hxs176 (by omega)
        replace g1 := g1.chg hxs176 (by omega)
        replace EL := EL.next hxs176 (by omega)
        replace hb3 := hb3.chg hxs176 (by omega)
        replace hp1_18 := hp1_18.chg hxs176 (by omega)
        replace h0 := h0.chg hxs176 (by omega)
        replace hnil := hnil.chg hxs176 (by omega)
        replace E := E.next hxs176 (by omega)
        replace s18 := s18.chg hxs176 (by omega)
        replace s21 := s21.chg hxs176 (by omega)
        refine w_nil ?_
        refine x_heldk ?_
        refine h_pure rfl (y_assign rfl) rfl ?_
        refine h_nil ?_
        refine x_next ?_
        refine c_seq ?_
        refine c_seq ?_
        refine c_region ?_
        refine w_pure (y_move rfl) rfl ?_
        refine w_pure (y_ne rfl rfl) rfl ?_
        refine w_nil ?_
        refine x_next ?_
        refine c_false rfl ?_
        refine c_skip ?_
        refine x_next ?_
        refine c_region ?_
        refine w_pure (y_load_boxs rfl) rfl ?_
        refine w_store_boxs rfl rfl (next := fun ws194 hbs194 hxs194 hss194 => ?_)
        (replace hb9 := hbs194; clear hbs194)
        have hz_hxs194 := hxs194.size
        replace hb11 := hb11.chg hxs194 (by omega)
        replace hp1_88 := hp1_88.chg hxs194 (by omega)
        replace EM := EM.trans hxs194
        replace EL := EL.next hxs194 (by omega)
        replace hb3 := hb3.chg hxs194 (by omega)
        replace hp1_18 := hp1_18.chg hxs194 (by omega)
        replace h0 := h0.chg hxs194 (by omega)
        replace hnil := hnil.chg hxs194 (by omega)
        replace E := E.next hxs194 (by omega)
        replace s18 := s18.chg hxs194 (by omega)
        replace s21 := s21.chg hxs194 (by omega)
        refine w_nil ?_
        refine x_block_norm ?_
        refine x_next ?_
        refine c_region ?_
        refine w_pure (y_move rfl) rfl ?_
        refine w_pure (y_sub rfl rfl) rfl ?_
        refine w_pure (y_assign rfl) rfl ?_
        refine w_nil ?_
        rotate_left
      all_goals first
        | (have g6 : i = skip := hc81
           refine x_again (i - 1, u, us) (by repeat (first | exact trivial | refine ⟨rfl, ?_⟩)) ⟨EM.go, by assumption, g1, g2, ?_, by dsimp only; omega, by dsimp only; omega⟩ (by dsimp only; omega)
           dsimp only
           rw [show (i - 1 + 1).toNat = i.toNat by omega, e1, dropC, if_pos (by omega)]
           exact g3)
        | (have g6 : ¬ i = skip := hc81
           refine x_again (i - 1, d88, remW us (R.getD i.toNat 0).toNat) (by repeat (first | exact trivial | refine ⟨rfl, ?_⟩)) ⟨EM.go, by assumption, Own.base (by assumption) (by omega), remW_okB g2 h3.1, ?_, by dsimp only; omega, by dsimp only; omega⟩ (by dsimp only; omega)
           dsimp only
           rw [show (i - 1 + 1).toNat = i.toNat by omega, e1, dropC, if_neg (by omega)]
           exact h3.2)
    · rw [show (i + 1).toNat = 0 by omega, Nat.sub_zero] at g3
      have hpw := (pairs_works hp2_18 (dropC R skip 0 R.length) us g3 g2).trans (hcl skip ⟨by omega, by omega⟩)
      focus
        have hl_g1 := g1.lt
        have hz_hxM := hxM.size
        replace EL := EL.next hxM (by omega)
        replace hb3 := hb3.chg hxM (by omega)
        replace hp1_18 := hp1_18.chg hxM (by omega)
        replace h0 := h0.chg hxM (by omega)
        replace hnil := hnil.chg hxM (by omega)
        replace E := E.next hxM (by omega)
        replace s18 := s18.chg hxM (by omega)
        replace s21 := s21.chg hxM (by omega)
        refine c_seq ?_
        refine c_seq ?_
        refine c_region ?_
        refine w_pure (y_move rfl) rfl ?_
        refine w_pure (y_ge rfl rfl) rfl ?_
        refine w_nil ?_
        refine x_next ?_
        (refine c_dec rfl (fun hc55 => ?_) (fun hc55 => ?_) <;> try (first | exact absurd rfl hc55 | contradiction | exact Bool.noConfusion (show false = true from hc55.symm.trans (by assumption)) | exact Bool.noConfusion (show true = false from hc55.symm.trans (by assumption)) | (exfalso; omega) | (exfalso; simp only [*, Bool.not_true, Bool.not_false, reduceCtorEq] at hc55; done)))
        refine c_exit ?_
        refine x_then_exit ?_
        refine x_then_exit ?_
        refine x_block_hit ?_
        refine x_next ?_
        refine c_seq ?_
        refine c_region ?_
        refine w_pure (y_load_boxs rfl) rfl ?_
        (refine w_call rfl rfl rfl (sSneakPairs_z) rfl ?_; rintro _ w96 ⟨d96, ⟨sus96, ⟨rfl, ⟨hp1_96, hx96⟩⟩⟩⟩)
        have hl_hp1_96 := hp1_96.lt
        have hz_hx96 := hx96.size
        replace EM := EM.next hx96 (by omega)
        replace hb9 := hb9.ext hx96
        replace g1 := g1.ext hx96
        replace EL := EL.trans hx96
        replace hb3 := hb3.ext hx96
        replace hp1_18 := hp1_18.ext hx96
        replace h0 := h0.ext hx96
        replace hnil := hnil.ext hx96
        replace E := E.trans hx96
        replace s18 := s18.ext hx96
        replace s21 := s21.ext hx96
        refine w_pure (y_move rfl) rfl ?_
        refine w_pure (y_extract rfl rfl) rfl ?_
        refine w_pure (y_extract rfl rfl) rfl ?_
        refine w_pure (y_assign rfl) rfl ?_
        refine w_pure (y_assign rfl) rfl ?_
        refine w_nil ?_
        refine x_next ?_
        refine c_seq ?_
        refine c_region ?_
        refine w_pure (y_move rfl) rfl ?_
        refine w_pure (y_ne rfl rfl) rfl ?_
        refine w_pure (y_move rfl) rfl ?_
        refine w_yes rfl rfl ?_
        refine w_pure (y_move rfl) rfl ?_
        refine w_yes rfl rfl ?_
        refine w_pure (y_lend rfl) rfl ?_
        refine w_yes rfl rfl ?_
        refine w_pure (y_eq rfl rfl) rfl ?_
        refine w_yes rfl rfl ?_
        refine w_pure (y_move rfl) rfl ?_
        refine w_yes rfl rfl ?_
        refine w_pure (y_lt rfl rfl) rfl ?_
        refine w_yes rfl rfl ?_
        refine w_pure (y_neb rfl rfl) rfl ?_
        refine w_pure (y_pick_f rfl rfl) rfl ?_
        refine w_nil ?_
        refine x_next ?_
        (refine c_dec rfl (fun hc108 => ?_) (fun hc108 => ?_) <;> try (first | exact absurd rfl hc108 | contradiction | exact Bool.noConfusion (show false = true from hc108.symm.trans (by assumption)) | exact Bool.noConfusion (show true = false from hc108.symm.trans (by assumption)) | (exfalso; omega) | (exfalso; simp only [*, Bool.not_true, Bool.not_false, reduceCtorEq] at hc108; done)))
        refine c_seq ?_
        refine c_region ?_
        refine w_pure (y_assign rfl) rfl ?_
        refine w_nil ?_
        refine x_next ?_
        refine c_ret ?_
        refine x_block_ret ?_
        refine x_then_ret ?_
        refine x_then_ret ?_
        refine x_block_ret ?_
        refine x_then_ret ?_
        rotate_left
        refine c_skip ?_
        refine x_block_norm ?_
        refine x_next ?_
        refine c_region ?_
        refine w_pure (y_move rfl) rfl ?_
        refine w_pure (y_add rfl rfl) rfl ?_
        refine w_pure (y_assign rfl) rfl ?_
        refine w_nil ?_
        rotate_left
      · exact absurd (decide_eq_decide.2 (by omega)) hc108
      · exact x_again (skip + 1) (by repeat (first | exact trivial | refine ⟨rfl, ?_⟩)) ⟨EL.go, by omega, by omega⟩ (by omega)
  · focus
      have ht_s18 := s18.top
      have ht_s21 := s21.top
      have hz_hxL := hxL.size
      replace hb3 := hb3.ext hxL
      replace hp1_18 := hp1_18.ext hxL
      replace h0 := h0.ext hxL
      replace hnil := hnil.ext hxL
      replace E := E.trans hxL
      replace s18 := s18.ext hxL
      replace s21 := s21.ext hxL
      refine c_seq ?_
      refine c_seq ?_
      refine c_region ?_
      refine w_pure (y_move rfl) rfl ?_
      refine w_pure (y_move rfl) rfl ?_
      refine w_pure (y_len rfl) rfl ?_
      refine w_pure (y_lt rfl rfl) rfl ?_
      refine w_nil ?_
      refine x_next ?_
      (refine c_dec rfl (fun hc47 => ?_) (fun hc47 => ?_) <;> try (first | exact absurd rfl hc47 | contradiction | exact Bool.noConfusion (show false = true from hc47.symm.trans (by assumption)) | exact Bool.noConfusion (show true = false from hc47.symm.trans (by assumption)) | (exfalso; omega) | (exfalso; simp only [*, Bool.not_true, Bool.not_false, reduceCtorEq] at hc47; done)))
      refine c_exit ?_
      refine x_then_exit ?_
      refine x_then_exit ?_
      refine x_block_hit ?_
      refine x_next ?_
      refine c_seq ?_
      refine c_region ?_
      refine w_pure (y_assign rfl) rfl ?_
      refine w_nil ?_
      refine x_next ?_
      refine c_ret ?_
      rotate_left
    exact x_retv [_] rfl ⟨rfl, trivial⟩ ⟨rfl, E.go⟩
end
end Go.Proofs.Ythigkbkaeopipaa

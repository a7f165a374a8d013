/- Contracts: the nets of a board. -/
import Derived.Test.YthigkbkaeopipaaBrdG
namespace Go.Proofs.Ythigkbkaeopipaa
open Go Go.Gw
set_option linter.unusedVariables false
set_option linter.unusedSimpArgs false
theorem netsR_ok {e n j : Int} {ws : List (Int × Int)} (h : okB e n j ws = true) : RootOk (netsR e n j ws) := by
  have hn := okB_num h
  refine rootOk_rootsF _ _ (fun i hi => ?_) _ (Nat.le_refl _)
  have := okB_getD h i hi
  omega
section
variable {w : World} {v v' vB : Value} {xs ys wo : List Int} {ws : List (Int × Int)} {lo hi lo' hi' b b' : Nat} {e n j e' n' j' : Int}
set_option maxHeartbeats 4000000 in
theorem iNetsOf_c (h : SL w lo hi v ws := by repeat (first | assumption | exact Go.Gw.Own.sl (by assumption) | exact Go.Gw.Box.at (by assumption) | exact Go.Gw.SLL.el (by first | assumption | exact Go.Gw.OwnD.sll (by assumption)) _ (by omega) | exact Go.Gw.SLL.at (by first | assumption | exact Go.Gw.OwnD.sll (by assumption)) (by omega) | exact Go.Gw.OwnD.sll (by assumption) | (apply Go.Gw.SL.chg; case hx => assumption) | (apply Go.Gw.Own.chg; case hx => assumption) | (apply Go.Gw.Box.chg; case hx => assumption) | (apply Go.Gw.At.chg; case hx => assumption) | exact .inl (Nat.zero_le _) | exact .inr (Nat.zero_le _) | (show _ ∨ _; omega))) : Ret Try.prog 45 [.agg #[.int .i64 e, .int .i64 n, .int .i64 j, v]] w fun u w' => ∃ d sus, u = .tuple #[d, .int .i64 (cBrd e n j ws)] ∧ OwnD w' 38 w.heap.size w'.heap.size sus d (resNets e n j ws) ∧ Ext w w' := by
  have E : Since 0 0 w w := Since.refl 0 0 w
  by_cases hk : okB e n j ws = true
  · have hn := okB_num hk
    have hw := okB_getD hk
    have hl : (rootsF (e + n + j).toNat ws ws.length).length = (e + n + j).toNat := rootsF_len _ _ _
    have hro : RootOk (rootsF (e + n + j).toNat ws ws.length) := netsR_ok hk
    have hrs : resNets e n j ws = netsP (rootsF (e + n + j).toNat ws ws.length) (e + n + j).toNat := by rw [resNets, if_pos hk]; rfl
    refine ret_enter Try.func45 rfl Try.ntmps45 rfl ?_
    focus
      have ht_h := h.top
      refine c_seq ?_
      refine c_region ?_
      refine w_box rfl (k := fun b1 w1 hb1 hx1 hl1 hs1 => ?_)
      have hz_hx1 := hx1.size
      replace h := h.ext hx1
      replace E := E.trans hx1
      refine w_pure (y_assign rfl) rfl ?_
      refine w_pure (y_assign rfl) rfl ?_
      refine w_nil ?_
      refine x_next ?_
      refine c_seq ?_
      refine c_seq ?_
      refine c_region ?_
      refine w_pure (y_load_boxs rfl) rfl ?_
      refine w_val rfl rfl rfl (iValidBoard_c) rfl (fun w9 hx9 hz9 => ?_)
      have hz_hx9 := hx9.size
      replace hb1 := hb1.ext hx9
      replace h := h.ext hx9
      replace E := E.trans hx9
      refine w_pure (y_not rfl) rfl ?_
      refine w_nil ?_
      refine x_next ?_
      (refine c_not rfl (fun hc10 => ?_) (fun hc10 => ?_) <;> try (first | exact absurd rfl hc10 | contradiction | exact Bool.noConfusion (show false = true from hc10.symm.trans (by assumption)) | exact Bool.noConfusion (show true = false from hc10.symm.trans (by assumption)) | (exfalso; omega) | (exfalso; simp only [*, Bool.not_true, Bool.not_false, reduceCtorEq] at hc10; done)))
      refine c_skip ?_
      refine x_next ?_
      refine c_seq ?_
      refine c_region ?_
      refine w_pure (y_load_boxs rfl) rfl ?_
      refine w_pure (y_field rfl) rfl ?_
      refine w_pure (y_load_box rfl) rfl ?_
      (refine w_call rfl rfl rfl (firstHubs_c) rfl ?_; rintro v14 w14 ⟨hp1_14, hx14⟩)
      have hl_hp1_14 := hp1_14.lt
      have hz_hx14 := hx14.size
      replace hb1 := hb1.ext hx14
      replace h := h.ext hx14
      replace E := E.trans hx14
      refine w_lit_d0 rfl (k := fun v15 w15 ho15 hx15 hl15 hh15 hs15 => ?_)
      have hl_ho15 := ho15.lt
      have hz_hx15 := hx15.size
      replace hp1_14 := hp1_14.ext hx15
      replace hb1 := hb1.ext hx15
      replace h := h.ext hx15
      replace E := E.trans hx15
      refine w_pure (y_assign rfl) rfl ?_
      refine w_pure (y_assign rfl) rfl ?_
      refine w_nil ?_
      refine x_next ?_
      refine c_seq ?_
      refine c_seq ?_
      refine c_region ?_
      refine w_pure (y_move rfl) rfl ?_
      refine w_pure (y_len rfl) rfl ?_
      refine w_pure (y_move rfl) rfl ?_
      refine w_nil ?_
      refine x_next ?_
      refine c_block ?_
      rotate_left
    generalize hr : rootsF (e + n + j).toNat ws ws.length = r at *
    refine c_loopC (bL v15) (bH v15) (ι := Int × Value × List SV) (fun x => [(4, v14), (5, x.2.1), (17, .int .i64 r.length), (18, .int .i64 x.1)])
      (fun x w' => Own w' 2 w.heap.size v14 r ∧ OwnD w' 38 w.heap.size w'.heap.size x.2.2 x.2.1 (netsP r x.1.toNat) ∧ ((bL x.2.1 = bL v15 ∧ bH x.2.1 = bH v15) ∨ w15.heap.size ≤ bL x.2.1) ∧ 0 ≤ x.1 ∧ x.1 ≤ r.length) (fun x => (r.length - x.1).toNat) (0, v15, [])
      (by repeat (first | exact trivial | refine ⟨rfl, ?_⟩)) ⟨Own.base (by assumption) (by omega), OwnD.wide (ho15.low (by omega)) (by omega) (Nat.le_refl _), .inl ⟨rfl, rfl⟩, by omega, by omega⟩ ?_
    clear ho15 hp1_14
    rintro ⟨i, u, sus⟩ wL hxL EL ⟨gr, g3, g4, hi0, hi1⟩
    dsimp only at *
    have hml := (netsP_len r i.toNat).1
    have e1 : (i + 1).toNat = i.toNat + 1 := by omega
    focus
      have hl_gr := gr.lt
      have hl_g3 := g3.lt
      have hz_hxL := hxL.size
      replace hb1 := hb1.chg hxL (by omega)
      replace h := h.chg hxL (by omega)
      replace E := E.next hxL (by omega)
      refine c_seq ?_
      refine c_region ?_
      refine w_pure (y_lt rfl rfl) rfl ?_
      refine w_nil ?_
      refine x_next ?_
      refine c_seq ?_
      (refine c_dec rfl (fun hc19 => ?_) (fun hc19 => ?_) <;> try (first | exact absurd rfl hc19 | contradiction | exact Bool.noConfusion (show false = true from hc19.symm.trans (by assumption)) | exact Bool.noConfusion (show true = false from hc19.symm.trans (by assumption)) | (exfalso; omega) | (exfalso; simp only [*, Bool.not_true, Bool.not_false, reduceCtorEq] at hc19; done)))
      refine c_skip ?_
      refine x_next ?_
      refine c_seq ?_
      refine c_block ?_
      refine c_seq ?_
      refine c_region ?_
      refine w_pure (y_move rfl) rfl ?_
      refine w_pure (y_assign rfl) rfl ?_
      refine w_nil ?_
      refine x_next ?_
      refine c_seq ?_
      refine c_region ?_
      refine w_pure (y_move rfl) rfl ?_
      refine w_pure (y_move rfl) rfl ?_
      (refine w_call rfl rfl rfl (hubsWith_c _) rfl ?_; rintro v23 w23 ⟨hp1_23, hx23⟩)
      have hl_hp1_23 := hp1_23.lt
      have hz_hx23 := hx23.size
      replace EL := EL.next hx23 (by omega)
      replace gr := gr.ext hx23
      replace g3 := g3.ext hx23
      replace hb1 := hb1.ext hx23
      replace h := h.ext hx23
      replace E := E.trans hx23
      refine w_pure (y_assign rfl) rfl ?_
      refine w_nil ?_
      refine x_next ?_
      refine c_seq ?_
      refine c_region ?_
      refine w_pure (y_move rfl) rfl ?_
      refine w_pure (y_len rfl) rfl ?_
      refine w_pure (y_ge rfl rfl) rfl ?_
      refine w_nil ?_
      refine x_next ?_
      (refine c_dec rfl (fun hc26 => ?_) (fun hc26 => ?_) <;> try (first | exact absurd rfl hc26 | contradiction | exact Bool.noConfusion (show false = true from hc26.symm.trans (by assumption)) | exact Bool.noConfusion (show true = false from hc26.symm.trans (by assumption)) | (exfalso; omega) | (exfalso; simp only [*, Bool.not_true, Bool.not_false, reduceCtorEq] at hc26; done)))
      refine c_region ?_
      refine w_pure (y_move rfl) rfl ?_
      refine w_pure (y_move rfl) rfl ?_
      refine w_lit_sv rfl rfl (k := fun v29 w29 ho29 hx29 hl29 hh29 hs29 => ?_)
      have hl_ho29 := ho29.lt
      have hz_hx29 := hx29.size
      replace hp1_23 := hp1_23.ext hx29
      replace EL := EL.next hx29 (by omega)
      replace gr := gr.ext hx29
      replace g3 := g3.ext hx29
      replace hb1 := hb1.ext hx29
      replace h := h.ext hx29
      replace E := E.trans hx29
      refine w_append_d rfl rfl (k := fun v30 w30 ho30 hx30 hr30 => ?_)
      have hl_ho30 := ho30.lt
      have hz_hx30 := hx30.size
      replace ho29 := ho29.chg hx30 (by omega)
      replace hp1_23 := hp1_23.chg hx30 (by omega)
      replace EL := EL.next hx30 (by omega)
      replace gr := gr.chg hx30 (by omega)
      replace hb1 := hb1.chg hx30 (by omega)
      replace h := h.chg hx30 (by omega)
      replace E := E.next hx30 (by omega)
      refine w_pure (y_assign rfl) rfl ?_
      refine w_nil ?_
      refine x_block_norm ?_
      refine x_next ?_
      refine c_region ?_
      refine w_pure (y_add rfl rfl) rfl ?_
      refine w_pure (y_move rfl) rfl ?_
      refine w_nil ?_
      rotate_left
      refine c_skip ?_
      refine x_block_norm ?_
      refine x_next ?_
      refine c_region ?_
      refine w_pure (y_add rfl rfl) rfl ?_
      refine w_pure (y_move rfl) rfl ?_
      refine w_nil ?_
      rotate_left
      refine c_exit ?_
      refine x_then_exit ?_
      refine x_then_exit ?_
      refine x_block_hit ?_
      refine x_next ?_
      refine c_seq ?_
      refine c_region ?_
      refine w_pure (y_move rfl) rfl ?_
      refine w_pure (y_assign rfl) rfl ?_
      refine w_pure (y_assign rfl) rfl ?_
      refine w_nil ?_
      refine x_next ?_
      refine c_ret ?_
      rotate_left
    · refine x_again (i + 1, v30, sus ++ [svOf v23]) (by repeat (first | exact trivial | refine ⟨rfl, ?_⟩)) ⟨EL.go, by assumption, ?_, by dsimp only; omega, by dsimp only; omega, by dsimp only; omega⟩ (by dsimp only; omega)
      dsimp only
      rw [e1, netsP, show ((i.toNat : Nat) : Int) = i by omega, if_pos (show 2 ≤ (netP r i).length by unfold netP; omega)]
      exact OwnD.wide (by assumption) (by omega) (Nat.le_refl _)
    · refine x_again (i + 1, u, sus) (by repeat (first | exact trivial | refine ⟨rfl, ?_⟩)) ⟨EL.go, by assumption, ?_, by dsimp only; omega, by dsimp only; omega, by dsimp only; omega⟩ (by dsimp only; omega)
      dsimp only
      rw [e1, netsP, show ((i.toNat : Nat) : Int) = i by omega, if_neg (show ¬ 2 ≤ (netP r i).length by unfold netP; omega), List.append_nil]
      exact OwnD.wide (by assumption) (by omega) (Nat.le_refl _)
    · refine x_retv [_, _] rfl ⟨rfl, rfl, trivial⟩ ⟨_, sus, by rw [cBrd, if_pos hk]; rfl, ?_, E.go⟩
      rw [hrs, ← show i.toNat = (e + n + j).toNat by omega]
      exact OwnD.wide (by assumption) (by omega) (Nat.le_refl _)
  · refine ret_enter Try.func45 rfl Try.ntmps45 rfl ?_
    focus
      have ht_h := h.top
      refine c_seq ?_
      refine c_region ?_
      refine w_box rfl (k := fun b1 w1 hb1 hx1 hl1 hs1 => ?_)
      have hz_hx1 := hx1.size
      replace h := h.ext hx1
      replace E := E.trans hx1
      refine w_pure (y_assign rfl) rfl ?_
      refine w_pure (y_assign rfl) rfl ?_
      refine w_nil ?_
      refine x_next ?_
      refine c_seq ?_
      refine c_seq ?_
      refine c_region ?_
      refine w_pure (y_load_boxs rfl) rfl ?_
      refine w_val rfl rfl rfl (iValidBoard_c) rfl (fun w9 hx9 hz9 => ?_)
      have hz_hx9 := hx9.size
      replace hb1 := hb1.ext hx9
      replace h := h.ext hx9
      replace E := E.trans hx9
      refine w_pure (y_not rfl) rfl ?_
      refine w_nil ?_
      refine x_next ?_
      (refine c_not rfl (fun hc10 => ?_) (fun hc10 => ?_) <;> try (first | exact absurd rfl hc10 | contradiction | exact Bool.noConfusion (show false = true from hc10.symm.trans (by assumption)) | exact Bool.noConfusion (show true = false from hc10.symm.trans (by assumption)) | (exfalso; omega) | (exfalso; simp only [*, Bool.not_true, Bool.not_false, reduceCtorEq] at hc10; done)))
      refine c_seq ?_
      refine c_region ?_
      refine w_pure (y_assign rfl) rfl ?_
      refine w_pure (y_assign rfl) rfl ?_
      refine w_nil ?_
      refine x_next ?_
      refine c_ret ?_
      refine x_then_ret ?_
      rotate_left
    refine x_retv [_, _] rfl ⟨rfl, rfl, trivial⟩ ⟨_, [], by rw [cBrd, if_neg hk]; rfl, ?_, E.go⟩
    unfold resNets; rw [if_neg hk]
    exact OwnD.nil _ _ _ _ (Nat.le_refl _)
set_option maxHeartbeats 4000000 in
theorem sNetsOf_c (h : SL w lo hi v ws := by repeat (first | assumption | exact Go.Gw.Own.sl (by assumption) | exact Go.Gw.Box.at (by assumption) | exact Go.Gw.SLL.el (by first | assumption | exact Go.Gw.OwnD.sll (by assumption)) _ (by omega) | exact Go.Gw.SLL.at (by first | assumption | exact Go.Gw.OwnD.sll (by assumption)) (by omega) | exact Go.Gw.OwnD.sll (by assumption) | (apply Go.Gw.SL.chg; case hx => assumption) | (apply Go.Gw.Own.chg; case hx => assumption) | (apply Go.Gw.Box.chg; case hx => assumption) | (apply Go.Gw.At.chg; case hx => assumption) | exact .inl (Nat.zero_le _) | exact .inr (Nat.zero_le _) | (show _ ∨ _; omega))) : Ret Try.prog 47 [.agg #[.int .i64 e, .int .i64 n, .int .i64 j, v]] w fun u w' => ∃ d sus, u = .tuple #[d, .int .i64 (cBrd e n j ws)] ∧ OwnD w' 38 w.heap.size w'.heap.size sus d (resNets e n j ws) ∧ Ext w w' := by
  have E : Since 0 0 w w := Since.refl 0 0 w
  by_cases hk : okB e n j ws = true
  · have hn := okB_num hk
    have hw := okB_getD hk
    have hl : (rootsF (e + n + j).toNat ws ws.length).length = (e + n + j).toNat := rootsF_len _ _ _
    have hro : RootOk (rootsF (e + n + j).toNat ws ws.length) := netsR_ok hk
    have hrs : resNets e n j ws = netsP (rootsF (e + n + j).toNat ws ws.length) (e + n + j).toNat := by rw [resNets, if_pos hk]; rfl
    have hnil := nilI w
    have hrn := rootsW_nil (e + n + j).toNat ws ws.length
    refine ret_enter Try.func47 rfl Try.ntmps47 rfl ?_
    focus
      have ht_h := h.top
      have ht_hnil := hnil.top
      refine c_seq ?_
      refine c_region ?_
      refine w_box rfl (k := fun b1 w1 hb1 hx1 hl1 hs1 => ?_)
      have hz_hx1 := hx1.size
      replace h := h.ext hx1
      replace E := E.trans hx1
      replace hnil := hnil.ext hx1
      refine w_pure (y_assign rfl) rfl ?_
      refine w_pure (y_assign rfl) rfl ?_
      refine w_nil ?_
      refine x_next ?_
      refine c_seq ?_
      refine c_seq ?_
      refine c_region ?_
      refine w_val rfl rfl rfl (l12Ok_c) rfl (fun w8 hx8 hz8 => ?_)
      have hz_hx8 := hx8.size
      replace hb1 := hb1.ext hx8
      replace h := h.ext hx8
      replace E := E.trans hx8
      replace hnil := hnil.ext hx8
      refine w_pure (y_not rfl) rfl ?_
      refine w_nil ?_
      refine x_next ?_
      (refine c_not rfl (fun hc9 => ?_) (fun hc9 => ?_) <;> try (first | exact absurd rfl hc9 | contradiction | exact Bool.noConfusion (show false = true from hc9.symm.trans (by assumption)) | exact Bool.noConfusion (show true = false from hc9.symm.trans (by assumption)) | (exfalso; omega) | (exfalso; simp only [*, Bool.not_true, Bool.not_false, reduceCtorEq] at hc9; done)))
      refine c_skip ?_
      refine x_next ?_
      refine c_seq ?_
      refine c_region ?_
      (refine w_call rfl rfl rfl (l12Roots_c) rfl ?_; rintro v10 w10 ⟨hp1_10, hx10⟩)
      have hl_hp1_10 := hp1_10.lt
      have hz_hx10 := hx10.size
      replace hb1 := hb1.ext hx10
      replace h := h.ext hx10
      replace E := E.trans hx10
      replace hnil := hnil.ext hx10
      refine w_pure (y_assign rfl) rfl ?_
      refine w_nil ?_
      refine x_next ?_
      refine c_seq ?_
      refine c_region ?_
      refine w_lit_d0 rfl (k := fun v11 w11 ho11 hx11 hl11 hh11 hs11 => ?_)
      have hl_ho11 := ho11.lt
      have hz_hx11 := hx11.size
      replace hp1_10 := hp1_10.ext hx11
      replace hb1 := hb1.ext hx11
      replace h := h.ext hx11
      replace E := E.trans hx11
      replace hnil := hnil.ext hx11
      refine w_pure (y_assign rfl) rfl ?_
      refine w_nil ?_
      refine x_next ?_
      refine c_seq ?_
      refine c_seq ?_
      refine c_region ?_
      refine w_pure (y_assign rfl) rfl ?_
      refine w_nil ?_
      refine x_next ?_
      refine c_block ?_
      rotate_left
    rw [hrn] at hp1_10
    generalize hr : rootsF (e + n + j).toNat ws ws.length = r at *
    refine c_loopC (bL v11) (bH v11) (ι := Int × Value × List SV) (fun x => [(1, ptr b1 0), (4, v10), (5, x.2.1), (6, .int .i64 x.1)])
      (fun x w' => Box w' b1 [.int .i64 e, .int .i64 n, .int .i64 j, v] ∧ SL w' lo hi v ws ∧ Own w' 2 w.heap.size v10 r ∧ OwnD w' 38 w.heap.size w'.heap.size x.2.2 x.2.1 (netsP r x.1.toNat) ∧ ((bL x.2.1 = bL v11 ∧ bH x.2.1 = bH v11) ∨ w11.heap.size ≤ bL x.2.1) ∧ 0 ≤ x.1 ∧ x.1 ≤ r.length) (fun x => (r.length - x.1).toNat) (0, v11, [])
      (by repeat (first | exact trivial | refine ⟨rfl, ?_⟩)) ⟨by assumption, by assumption, Own.base (by assumption) (by omega), OwnD.wide (ho11.low (by omega)) (by omega) (Nat.le_refl _), .inl ⟨rfl, rfl⟩, by omega, by omega⟩ ?_
    clear ho11 hp1_10 hb1
    rintro ⟨i, u, sus⟩ wL hxL EL ⟨gb, gs, gr, g3, g4, hi0, hi1⟩
    dsimp only at *
    have hml := (netsP_len r i.toNat).1
    have e1 : (i + 1).toNat = i.toNat + 1 := by omega
    have hcol : colsP (fun x => decide (r.getD (0 + x).toNat 0 = r.getD i.toNat 0)) (e + n + j - 0).toNat = colsP (fun x => decide (r.getD x.toNat 0 = r.getD i.toNat 0)) r.length := by
      rw [show (e + n + j - 0).toNat = r.length by omega]; simp only [Int.zero_add]
    have hlen0 : i < e + n + j → 0 < (colsP (fun x => decide (r.getD (0 + x).toNat 0 = r.getD i.toNat 0)) (e + n + j - 0).toNat).length := fun hh => by rw [hcol]; exact (netP_root (k := i.toNat) hro (by omega)).1
    focus
      have ht_gs := gs.top
      have hl_gr := gr.lt
      have hl_g3 := g3.lt
      have hz_hxL := hxL.size
      replace h := h.chg hxL (by omega)
      replace E := E.next hxL (by omega)
      replace hnil := hnil.chg hxL (by omega)
      refine c_seq ?_
      refine c_seq ?_
      refine c_region ?_
      refine w_pure (y_move rfl) rfl ?_
      refine w_val rfl rfl rfl (l12Hubs_c) rfl (fun w13 hx13 hz13 => ?_)
      have hz_hx13 := hx13.size
      replace EL := EL.next hx13 (by omega)
      replace gb := gb.ext hx13
      replace gs := gs.ext hx13
      replace gr := gr.ext hx13
      replace g3 := g3.ext hx13
      replace h := h.ext hx13
      replace E := E.trans hx13
      replace hnil := hnil.ext hx13
      refine w_pure (y_lt rfl rfl) rfl ?_
      refine w_nil ?_
      refine x_next ?_
      (refine c_dec rfl (fun hc14 => ?_) (fun hc14 => ?_) <;> try (first | exact absurd rfl hc14 | contradiction | exact Bool.noConfusion (show false = true from hc14.symm.trans (by assumption)) | exact Bool.noConfusion (show true = false from hc14.symm.trans (by assumption)) | (exfalso; omega) | (exfalso; simp only [*, Bool.not_true, Bool.not_false, reduceCtorEq] at hc14; done)))
      refine c_skip ?_
      refine x_next ?_
      refine c_seq ?_
      refine c_block ?_
      refine c_seq ?_
      refine c_region ?_
      refine w_pure (y_move rfl) rfl ?_
      refine w_pure (y_move rfl) rfl ?_
      refine w_val rfl rfl rfl (l12Hubs_c) rfl (fun w19 hx19 hz19 => ?_)
      have hz_hx19 := hx19.size
      replace EL := EL.next hx19 (by omega)
      replace gb := gb.ext hx19
      replace gs := gs.ext hx19
      replace gr := gr.ext hx19
      replace g3 := g3.ext hx19
      replace h := h.ext hx19
      replace E := E.trans hx19
      replace hnil := hnil.ext hx19
      (refine w_call rfl rfl rfl (l12With_c _ _ _) rfl ?_; rintro v20 w20 ⟨hp1_20, hx20⟩)
      have hl_hp1_20 := hp1_20.lt
      have hz_hx20 := hx20.size
      replace EL := EL.next hx20 (by omega)
      replace gb := gb.ext hx20
      replace gs := gs.ext hx20
      replace gr := gr.ext hx20
      replace g3 := g3.ext hx20
      replace h := h.ext hx20
      replace E := E.trans hx20
      replace hnil := hnil.ext hx20
      refine w_pure (y_assign rfl) rfl ?_
      refine w_nil ?_
      refine x_next ?_
      refine c_seq ?_
      refine c_region ?_
      refine w_pure (y_move rfl) rfl ?_
      refine w_pure (y_index rfl rfl) rfl ?_
      refine w_pure (y_load_int rfl) rfl ?_
      refine w_pure (y_move rfl) rfl ?_
      refine w_pure (y_eq rfl rfl) rfl ?_
      refine w_pure (y_move rfl) rfl ?_
      (refine w_part_dec rfl rfl (fun hc27 => ?_) (fun hc27 => ?_) <;> try (first | exact absurd rfl hc27 | contradiction | exact Bool.noConfusion (show false = true from hc27.symm.trans (by assumption)) | exact Bool.noConfusion (show true = false from hc27.symm.trans (by assumption)) | (exfalso; omega) | (exfalso; simp only [*, Bool.not_true, Bool.not_false, reduceCtorEq] at hc27; done)))
      refine w_yes rfl rfl ?_
      refine w_pure (y_move rfl) rfl ?_
      refine w_yes rfl rfl ?_
      refine w_pure (y_len rfl) rfl ?_
      refine w_yes rfl rfl ?_
      refine w_pure (y_gt rfl rfl) rfl ?_
      refine w_pure (y_pick_t rfl rfl) rfl ?_
      refine w_nil ?_
      refine x_next ?_
      (refine c_dec rfl (fun hc30 => ?_) (fun hc30 => ?_) <;> try (first | exact absurd rfl hc30 | contradiction | exact Bool.noConfusion (show false = true from hc30.symm.trans (by assumption)) | exact Bool.noConfusion (show true = false from hc30.symm.trans (by assumption)) | (exfalso; omega) | (exfalso; simp only [*, Bool.not_true, Bool.not_false, reduceCtorEq] at hc30; done)))
      refine c_region ?_
      refine w_pure (y_move rfl) rfl ?_
      refine w_pure (y_move rfl) rfl ?_
      refine w_lit_sv rfl rfl (k := fun v33 w33 ho33 hx33 hl33 hh33 hs33 => ?_)
      have hl_ho33 := ho33.lt
      have hz_hx33 := hx33.size
      replace hp1_20 := hp1_20.ext hx33
      replace EL := EL.next hx33 (by omega)
      replace gb := gb.ext hx33
      replace gs := gs.ext hx33
      replace gr := gr.ext hx33
      replace g3 := g3.ext hx33
      replace h := h.ext hx33
      replace E := E.trans hx33
      replace hnil := hnil.ext hx33
      refine w_append_d rfl rfl (k := fun v34 w34 ho34 hx34 hr34 => ?_)
      have hl_ho34 := ho34.lt
      have hz_hx34 := hx34.size
      replace ho33 := ho33.chg hx34 (by omega)
      replace hp1_20 := hp1_20.chg hx34 (by omega)
      replace EL := EL.next hx34 (by omega)
      replace gb := gb.chg hx34 (by omega)
      replace gs := gs.chg hx34 (by omega)
      replace gr := gr.chg hx34 (by omega)
      replace h := h.chg hx34 (by omega)
      replace E := E.next hx34 (by omega)
      replace hnil := hnil.chg hx34 (by omega)
      refine w_pure (y_assign rfl) rfl ?_
      refine w_nil ?_
      refine x_block_norm ?_
      refine x_next ?_
      refine c_region ?_
      refine w_pure (y_move rfl) rfl ?_
      refine w_pure (y_add rfl rfl) rfl ?_
      refine w_pure (y_assign rfl) rfl ?_
      refine w_nil ?_
      rotate_left
      refine c_skip ?_
      refine x_block_norm ?_
      refine x_next ?_
      refine c_region ?_
      refine w_pure (y_move rfl) rfl ?_
      refine w_pure (y_add rfl rfl) rfl ?_
      refine w_pure (y_assign rfl) rfl ?_
      refine w_nil ?_
      rotate_left
      refine w_no rfl rfl rfl rfl ?_
      refine w_no rfl rfl rfl rfl ?_
      refine w_no rfl rfl rfl rfl ?_
      refine w_pure (y_pick_f rfl rfl) rfl ?_
      refine w_nil ?_
      refine x_next ?_
      refine c_false rfl ?_
      refine c_skip ?_
      refine x_block_norm ?_
      refine x_next ?_
      refine c_region ?_
      refine w_pure (y_move rfl) rfl ?_
      refine w_pure (y_add rfl rfl) rfl ?_
      refine w_pure (y_assign rfl) rfl ?_
      refine w_nil ?_
      rotate_left
      refine c_exit ?_
      refine x_then_exit ?_
      refine x_then_exit ?_
      refine x_block_hit ?_
      refine x_next ?_
      refine c_seq ?_
      refine c_region ?_
      refine w_pure (y_move rfl) rfl ?_
      refine w_pure (y_assign rfl) rfl ?_
      refine w_pure (y_assign rfl) rfl ?_
      refine w_nil ?_
      refine x_next ?_
      refine c_ret ?_
      rotate_left
    · obtain ⟨_, hy, _⟩ := netP_root (k := i.toNat) hro (by omega)
      rw [hcol] at hc27 hc30 hp1_20
      have hy := hy (by show _ = ((i.toNat : Nat) : Int); rw [show ((i.toNat : Nat) : Int) = i by omega]; exact hc27)
      rw [hy] at hc30 hp1_20
      refine x_again (i + 1, v34, sus ++ [svOf v20]) (by repeat (first | exact trivial | refine ⟨rfl, ?_⟩)) ⟨EL.go, by assumption, by assumption, by assumption, ?_, by dsimp only; omega, by dsimp only; omega, by dsimp only; omega⟩ (by dsimp only; omega)
      dsimp only
      rw [e1, netsP, if_pos (show 2 ≤ (netP r i.toNat).length by omega), ← hy, ← hcol]
      exact OwnD.wide (by assumption) (by omega) (Nat.le_refl _)
    · obtain ⟨_, hy, _⟩ := netP_root (k := i.toNat) hro (by omega)
      rw [hcol] at hc27 hc30
      have hy := hy (by show _ = ((i.toNat : Nat) : Int); rw [show ((i.toNat : Nat) : Int) = i by omega]; exact hc27)
      rw [hy] at hc30
      refine x_again (i + 1, u, sus) (by repeat (first | exact trivial | refine ⟨rfl, ?_⟩)) ⟨EL.go, by assumption, by assumption, by assumption, ?_, by dsimp only; omega, by dsimp only; omega, by dsimp only; omega⟩ (by dsimp only; omega)
      dsimp only
      rw [e1, netsP, if_neg (show ¬ 2 ≤ (netP r i.toNat).length by omega), List.append_nil]
      exact OwnD.wide (by assumption) (by omega) (Nat.le_refl _)
    · obtain ⟨_, _, hz⟩ := netP_root (k := i.toNat) hro (by omega)
      rw [hcol] at hc27
      have hz := hz (by show ¬ _ = ((i.toNat : Nat) : Int); rw [show ((i.toNat : Nat) : Int) = i by omega]; exact hc27)
      refine x_again (i + 1, u, sus) (by repeat (first | exact trivial | refine ⟨rfl, ?_⟩)) ⟨EL.go, by assumption, by assumption, by assumption, ?_, by dsimp only; omega, by dsimp only; omega, by dsimp only; omega⟩ (by dsimp only; omega)
      dsimp only
      rw [e1, netsP, if_neg (show ¬ 2 ≤ (netP r i.toNat).length by omega), List.append_nil]
      exact OwnD.wide (by assumption) (by omega) (Nat.le_refl _)
    · refine x_retv [_, _] rfl ⟨rfl, rfl, trivial⟩ ⟨_, sus, by rw [cBrd, if_pos hk]; rfl, ?_, E.go⟩
      rw [hrs, ← show i.toNat = (e + n + j).toNat by omega]
      exact OwnD.wide (by assumption) (by omega) (Nat.le_refl _)
  · refine ret_enter Try.func47 rfl Try.ntmps47 rfl ?_
    focus
      have ht_h := h.top
      refine c_seq ?_
      refine c_region ?_
      refine w_box rfl (k := fun b1 w1 hb1 hx1 hl1 hs1 => ?_)
      have hz_hx1 := hx1.size
      replace h := h.ext hx1
      replace E := E.trans hx1
      refine w_pure (y_assign rfl) rfl ?_
      refine w_pure (y_assign rfl) rfl ?_
      refine w_nil ?_
      refine x_next ?_
      refine c_seq ?_
      refine c_seq ?_
      refine c_region ?_
      refine w_val rfl rfl rfl (l12Ok_c) rfl (fun w8 hx8 hz8 => ?_)
      have hz_hx8 := hx8.size
      replace hb1 := hb1.ext hx8
      replace h := h.ext hx8
      replace E := E.trans hx8
      refine w_pure (y_not rfl) rfl ?_
      refine w_nil ?_
      refine x_next ?_
      (refine c_not rfl (fun hc9 => ?_) (fun hc9 => ?_) <;> try (first | exact absurd rfl hc9 | contradiction | exact Bool.noConfusion (show false = true from hc9.symm.trans (by assumption)) | exact Bool.noConfusion (show true = false from hc9.symm.trans (by assumption)) | (exfalso; omega) | (exfalso; simp only [*, Bool.not_true, Bool.not_false, reduceCtorEq] at hc9; done)))
      refine c_seq ?_
      refine c_region ?_
      refine w_pure (y_assign rfl) rfl ?_
      refine w_pure (y_assign rfl) rfl ?_
      refine w_nil ?_
      refine x_next ?_
      refine c_ret ?_
      refine x_then_ret ?_
      rotate_left
    refine x_retv [_, _] rfl ⟨rfl, rfl, trivial⟩ ⟨_, [], by rw [cBrd, if_neg hk]; rfl, ?_, E.go⟩
    unfold resNets; rw [if_neg hk]
    exact OwnD.nil _ _ _ _ (Nat.le_refl _)
end
end Go.Proofs.Ythigkbkaeopipaa

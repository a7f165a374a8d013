/- Contracts: a card is routed through a board, as the statement says it; the law's walk. -/
import Derived.Test.YtoknchhgjodpaaaRteB
namespace Go.Proofs.Ytoknchhgjodpaaa
open Go Go.Gw
set_option linter.unusedVariables false
set_option linter.unusedSimpArgs false
theorem resRte_len (e n j : Int) (ws : List (Int × Int)) (xs : List Int) : (resRte e n j ws xs).length ≤ 20 := by
  unfold resRte
  split
  · rename_i h
    rw [rteP_len]
    unfold cRte at h
    split at h
    · rename_i g
      have := okB_num g.1
      omega
    · simp at h
  · simp
section
variable {w : World} {lo hi lo' hi' : Nat} {v v' v2 : Value} {xs ys : List Int} {ws us : List (Int × Int)} {b b' b2 b3 : Nat} {e n j : Int}
set_option maxHeartbeats 4000000 in
theorem sRouteCard_c (h : SL w lo hi v ws := by repeat (first | assumption | exact Go.Gw.Own.sl (by assumption) | exact Go.Gw.Box.at (by assumption) | (apply Go.Gw.SL.chg; case hx => assumption) | (apply Go.Gw.Own.chg; case hx => assumption) | (apply Go.Gw.Box.chg; case hx => assumption) | (apply Go.Gw.At.chg; case hx => assumption) | exact .inl (Nat.zero_le _) | exact .inr (Nat.zero_le _) | (show _ ∨ _; omega))) (h' : SL w lo' hi' v' xs := by repeat (first | assumption | exact Go.Gw.Own.sl (by assumption) | exact Go.Gw.Box.at (by assumption) | (apply Go.Gw.SL.chg; case hx => assumption) | (apply Go.Gw.Own.chg; case hx => assumption) | (apply Go.Gw.Box.chg; case hx => assumption) | (apply Go.Gw.At.chg; case hx => assumption) | exact .inl (Nat.zero_le _) | exact .inr (Nat.zero_le _) | (show _ ∨ _; omega))) : Ret Try.prog 48 [.agg #[.int .i64 e, .int .i64 n, .int .i64 j, v], .agg #[v']] w fun u w' =>
    ∃ d, u = .tuple #[.agg #[d], .int .i64 (cRte e n j ws xs)] ∧ Own w' 2 w.heap.size d (resRte e n j ws xs) ∧ Ext w w' := by
  have E : Since 0 0 w w := Since.refl 0 0 w
  have hnil := nilI w
  by_cases hk : okB e n j ws = true
  · have q1 := okB_num hk
    have hw := fun i hi => okB_getD hk i hi
    have qr := rootsW_len (e + n + j).toNat ws [] ws.length
    by_cases hx : okK xs = true
    · have q2 := okK_len hx
      by_cases he : (xs.length : Int) = e
      · have ec : cRte e n j ws xs = 0 := by rw [cRte, if_pos ⟨hk, hx⟩, if_pos he]
        refine ret_enter Try.func48 rfl Try.ntmps48 rfl ?_
        focus
          have ht_h := h.top
          have ht_h' := h'.top
          have ht_hnil := hnil.top
          refine c_seq ?_
          refine c_region ?_
          refine w_box rfl (k := fun b2 w2 hb2 hx2 hl2 hs2 => ?_)
          have hz_hx2 := hx2.size
          replace h := h.ext hx2
          replace h' := h'.ext hx2
          replace E := E.trans hx2
          replace hnil := hnil.ext hx2
          refine w_box rfl (k := fun b3 w3 hb3 hx3 hl3 hs3 => ?_)
          have hz_hx3 := hx3.size
          replace hb2 := hb2.ext hx3
          replace h := h.ext hx3
          replace h' := h'.ext hx3
          replace E := E.trans hx3
          replace hnil := hnil.ext hx3
          refine w_alloc (k := fun b4 w4 hb4 hx4 hl4 hs4 => ?_)
          have hz_hx4 := hx4.size
          replace hb3 := hb3.ext hx4
          replace hb2 := hb2.ext hx4
          replace h := h.ext hx4
          replace h' := h'.ext hx4
          replace E := E.trans hx4
          replace hnil := hnil.ext hx4
          refine w_pure (y_assign rfl) rfl ?_
          refine w_nil ?_
          refine x_next ?_
          refine c_seq ?_
          refine c_seq ?_
          refine c_region ?_
          refine w_val rfl rfl rfl (l12Ok_c) rfl (fun w12 hx12 hz12 => ?_)
          have hz_hx12 := hx12.size
          replace hb4 := hb4.ext hx12
          replace hb3 := hb3.ext hx12
          replace hb2 := hb2.ext hx12
          replace h := h.ext hx12
          replace h' := h'.ext hx12
          replace E := E.trans hx12
          replace hnil := hnil.ext hx12
          refine w_pure (y_not rfl) rfl ?_
          refine w_pure (y_move rfl) rfl ?_
          (refine w_part rfl rfl (fun hc15 => ?_) (fun hc15 => ?_) <;> try (first | exact absurd rfl hc15 | contradiction | exact Bool.noConfusion (show false = true from hc15.symm.trans (by assumption)) | exact Bool.noConfusion (show true = false from hc15.symm.trans (by assumption)) | (exfalso; omega) | (exfalso; simp only [*, Bool.not_true, Bool.not_false, reduceCtorEq] at hc15; done)))
          refine w_yes rfl rfl ?_
          refine w_val rfl rfl rfl (l02Ok_c) rfl (fun w15 hx15 hz15 => ?_)
          have hz_hx15 := hx15.size
          replace hb4 := hb4.ext hx15
          replace hb3 := hb3.ext hx15
          replace hb2 := hb2.ext hx15
          replace h := h.ext hx15
          replace h' := h'.ext hx15
          replace E := E.trans hx15
          replace hnil := hnil.ext hx15
          refine w_yes rfl rfl ?_
          refine w_pure (y_not rfl) rfl ?_
          refine w_pure (y_pick_f rfl rfl) rfl ?_
          refine w_nil ?_
          refine x_next ?_
          (refine c_not rfl (fun hc17 => ?_) (fun hc17 => ?_) <;> try (first | exact absurd rfl hc17 | contradiction | exact Bool.noConfusion (show false = true from hc17.symm.trans (by assumption)) | exact Bool.noConfusion (show true = false from hc17.symm.trans (by assumption)) | (exfalso; omega) | (exfalso; simp only [*, Bool.not_true, Bool.not_false, reduceCtorEq] at hc17; done)))
          refine c_skip ?_
          refine x_next ?_
          refine c_seq ?_
          refine c_seq ?_
          refine c_region ?_
          refine w_pure (y_field rfl) rfl ?_
          refine w_pure (y_load_box rfl) rfl ?_
          refine w_pure (y_len rfl) rfl ?_
          refine w_pure (y_field rfl) rfl ?_
          refine w_pure (y_load_box rfl) rfl ?_
          refine w_pure (y_ne rfl rfl) rfl ?_
          refine w_nil ?_
          refine x_next ?_
          (refine c_dec rfl (fun hc24 => ?_) (fun hc24 => ?_) <;> try (first | exact absurd rfl hc24 | contradiction | exact Bool.noConfusion (show false = true from hc24.symm.trans (by assumption)) | exact Bool.noConfusion (show true = false from hc24.symm.trans (by assumption)) | (exfalso; omega) | (exfalso; simp only [*, Bool.not_true, Bool.not_false, reduceCtorEq] at hc24; done)))
          refine c_skip ?_
          refine x_next ?_
          refine c_seq ?_
          refine c_region ?_
          (refine w_call rfl rfl rfl (l12Roots_c) rfl ?_; rintro v26 w26 ⟨hp1_26, hx26⟩)
          have hl_hp1_26 := hp1_26.lt
          have hz_hx26 := hx26.size
          replace hb4 := hb4.ext hx26
          replace hb3 := hb3.ext hx26
          replace hb2 := hb2.ext hx26
          replace h := h.ext hx26
          replace h' := h'.ext hx26
          replace E := E.trans hx26
          replace hnil := hnil.ext hx26
          refine w_pure (y_assign rfl) rfl ?_
          refine w_nil ?_
          refine x_next ?_
          refine c_seq ?_
          refine c_region ?_
          refine w_pure (y_build rfl) rfl ?_
          refine w_alloc (k := fun b7 w7 hb7 hx7 hl7 hs7 => ?_)
          have hz_hx7 := hx7.size
          replace hp1_26 := hp1_26.ext hx7
          replace hb4 := hb4.ext hx7
          replace hb3 := hb3.ext hx7
          replace hb2 := hb2.ext hx7
          replace h := h.ext hx7
          replace h' := h'.ext hx7
          replace E := E.trans hx7
          replace hnil := hnil.ext hx7
          refine w_store_boxs rfl rfl (next := fun ws50 hbs50 hxs50 hss50 => ?_)
          (replace hb7 := hbs50; clear hbs50)
          have hz_hxs50 := hxs50.size
          replace hp1_26 := hp1_26.chg hxs50 (by omega)
          replace hb4 := hb4.chg hxs50 (by omega)
          replace hb3 := hb3.chg hxs50 (by omega)
          replace hb2 := hb2.chg hxs50 (by omega)
          replace h := h.chg hxs50 (by omega)
          replace h' := h'.chg hxs50 (by omega)
          replace E := E.next hxs50 (by omega)
          replace hnil := hnil.chg hxs50 (by omega)
          refine w_nil ?_
          refine x_next ?_
          refine c_seq ?_
          refine c_seq ?_
          refine c_region ?_
          refine w_pure (y_assign rfl) rfl ?_
          refine w_nil ?_
          refine x_next ?_
          refine c_block ?_
          rotate_left
        refine c_loopC b7 (b7 + 1) (ι := Nat × Value) (fun x => [(2, ptr b2 0), (3, ptr b3 0), (4, ptr b4 0), (6, v26), (7, ptr b7 0), (8, .int .i64 x.1)]) (fun x w' => Box w' b7 [x.2] ∧ Own w' 2 ws50.heap.size x.2 (rteP xs (srcF e n j ws) x.1) ∧ (x.1 : Int) ≤ n ∧ (bH x.2 ≤ b7 ∨ b7 < bL x.2)) (fun x => n.toNat - x.1) (0, .slice none 0 0) (by repeat (first | exact trivial | refine ⟨rfl, ?_⟩)) ⟨hb7, Own.nil _ _ _, by simp; omega, .inl (Nat.zero_le _)⟩ ?_
        rintro ⟨k, y⟩ wL hxL EL ⟨hby, hoy, hi, hdis⟩
        dsimp only at *
        clear hb7
        have q9 := rteP_len xs (srcF e n j ws) k
        by_cases hlt : (k : Int) < n
        · focus
            have hl_hoy := hoy.lt
            have hz_hxL := hxL.size
            replace hp1_26 := hp1_26.chg hxL (by omega)
            replace hb4 := hb4.chg hxL (by omega)
            replace hb3 := hb3.chg hxL (by omega)
            replace hb2 := hb2.chg hxL (by omega)
            replace h := h.chg hxL (by omega)
            replace h' := h'.chg hxL (by omega)
            replace E := E.next hxL (by omega)
            replace hnil := hnil.chg hxL (by omega)
            refine c_seq ?_
            refine c_seq ?_
            refine c_region ?_
            refine w_pure (y_move rfl) rfl ?_
            refine w_pure (y_field rfl) rfl ?_
            refine w_pure (y_load_box rfl) rfl ?_
            refine w_pure (y_lt rfl rfl) rfl ?_
            refine w_nil ?_
            refine x_next ?_
            (refine c_dec rfl (fun hc31 => ?_) (fun hc31 => ?_) <;> try (first | exact absurd rfl hc31 | contradiction | exact Bool.noConfusion (show false = true from hc31.symm.trans (by assumption)) | exact Bool.noConfusion (show true = false from hc31.symm.trans (by assumption)) | (exfalso; omega) | (exfalso; simp only [*, Bool.not_true, Bool.not_false, reduceCtorEq] at hc31; done)))
            refine c_skip ?_
            refine x_next ?_
            refine c_seq ?_
            refine c_block ?_
            refine c_seq ?_
            refine c_region ?_
            refine w_pure (y_move rfl) rfl ?_
            refine w_pure (y_field rfl) rfl ?_
            refine w_pure (y_load_box rfl) rfl ?_
            refine w_pure (y_move rfl) rfl ?_
            refine w_pure (y_add rfl rfl) rfl ?_
            refine w_pure (y_field rfl) rfl ?_
            refine w_pure (y_load_box rfl) rfl ?_
            (refine w_call rfl rfl rfl (l12With_c _ _ _) rfl ?_; rintro v41 w41 ⟨hp1_41, hx41⟩)
            have hl_hp1_41 := hp1_41.lt
            have hz_hx41 := hx41.size
            replace EL := EL.next hx41 (by omega)
            replace hby := hby.ext hx41
            replace hoy := hoy.ext hx41
            replace hp1_26 := hp1_26.ext hx41
            replace hb4 := hb4.ext hx41
            replace hb3 := hb3.ext hx41
            replace hb2 := hb2.ext hx41
            replace h := h.ext hx41
            replace h' := h'.ext hx41
            replace E := E.trans hx41
            replace hnil := hnil.ext hx41
            refine w_pure (y_assign rfl) rfl ?_
            refine w_nil ?_
            refine x_next ?_
            refine c_seq ?_
            refine c_region ?_
            refine w_pure (y_assign rfl) rfl ?_
            refine w_nil ?_
            refine x_next ?_
            refine c_seq ?_
            refine c_seq ?_
            refine c_region ?_
            refine w_pure (y_assign rfl) rfl ?_
            refine w_nil ?_
            refine x_next ?_
            refine c_block ?_
            rotate_left
          rw [netsW] at hp1_41
          simp only [Int.zero_add, Int.sub_zero] at hp1_41
          change Own _ _ _ _ (srcF e n j ws k) at hp1_41
          refine c_loopC 0 0 (ι := Nat) (fun x => [(2, ptr b2 0), (3, ptr b3 0), (4, ptr b4 0), (6, v26), (7, ptr b7 0), (8, .int .i64 k), (9, v41), (10, .int .i64 (orsP xs (srcF e n j ws k) x)), (11, .int .i64 x)]) (fun x w' => x ≤ (srcF e n j ws k).length) (fun x => (srcF e n j ws k).length - x) 0 (by repeat (first | exact trivial | refine ⟨rfl, ?_⟩)) (Nat.zero_le _) ?_
          rintro i wM hxM EM hm
          have q3 := srcF_len e n j k ws
          have q5 := orsP_bd (l := srcF e n j ws k) hx i hm (fun m hm => by rw [he]; exact srcF_getD (by omega) hm)
          by_cases hlt2 : i < (srcF e n j ws k).length
          · have q6 := srcF_getD (k := k) (ws := ws) (j := j) (n := n) (e := e) (by omega) hlt2
            have q6 : 0 ≤ (srcF e n j ws k).getD (i : Int).toNat 0 ∧ (srcF e n j ws k).getD (i : Int).toNat 0 < e := q6
            have q7 := okK_getD hx ((srcF e n j ws k).getD (i : Int).toNat 0).toNat (by omega)
            focus
              have hz_hxM := hxM.size
              replace EL := EL.next hxM (by omega)
              replace hby := hby.ext hxM
              replace hoy := hoy.ext hxM
              replace hp1_26 := hp1_26.ext hxM
              replace hb4 := hb4.ext hxM
              replace hb3 := hb3.ext hxM
              replace hb2 := hb2.ext hxM
              replace h := h.ext hxM
              replace h' := h'.ext hxM
              replace E := E.trans hxM
              replace hnil := hnil.ext hxM
              replace hp1_41 := hp1_41.ext hxM
              refine c_seq ?_
              refine c_seq ?_
              refine c_region ?_
              refine w_pure (y_move rfl) rfl ?_
              refine w_pure (y_move rfl) rfl ?_
              refine w_pure (y_len rfl) rfl ?_
              refine w_pure (y_lt rfl rfl) rfl ?_
              refine w_nil ?_
              refine x_next ?_
              (refine c_dec rfl (fun hc45 => ?_) (fun hc45 => ?_) <;> try (first | exact absurd rfl hc45 | contradiction | exact Bool.noConfusion (show false = true from hc45.symm.trans (by assumption)) | exact Bool.noConfusion (show true = false from hc45.symm.trans (by assumption)) | (exfalso; omega) | (exfalso; simp only [*, Bool.not_true, Bool.not_false, reduceCtorEq] at hc45; done)))
              refine c_skip ?_
              refine x_next ?_
              refine c_seq ?_
              refine c_block ?_
              refine c_region_calm mixed (by decide +kernel) (by kernel_rfl) ?_
              refine q_pure (y_move rfl) rfl ?_
              refine q_pure (y_field rfl) rfl ?_
              refine q_pure (y_load_box rfl) rfl ?_
              refine q_pure (y_move rfl) rfl ?_
              refine q_pure (y_move rfl) rfl ?_
              refine q_pure (y_index rfl rfl) rfl ?_
              refine q_pure (y_load_int rfl) rfl ?_
              refine q_pure (y_index rfl rfl) rfl ?_
              refine q_pure (y_load_int rfl) rfl ?_
              refine q_pure (y_or rfl rfl) rfl ?_
              refine q_pure (y_assign rfl) rfl ?_
              refine q_nil (fun ws27 hxs27 hzs27 => ?_)
              have hz_hxs27 := hxs27.size
              replace EM := EM.trans hxs27
              replace EL := EL.next hxs27 (by omega)
              replace hby := hby.ext hxs27
              replace hoy := hoy.ext hxs27
              replace hp1_26 := hp1_26.ext hxs27
              replace hb4 := hb4.ext hxs27
              replace hb3 := hb3.ext hxs27
              replace hb2 := hb2.ext hxs27
              replace h := h.ext hxs27
              replace h' := h'.ext hxs27
              replace E := E.trans hxs27
              replace hnil := hnil.ext hxs27
              replace hp1_41 := hp1_41.ext hxs27
              refine x_block_norm ?_
              refine x_next ?_
              refine c_region ?_
              refine w_pure (y_move rfl) rfl ?_
              refine w_pure (y_add rfl rfl) rfl ?_
              refine w_pure (y_assign rfl) rfl ?_
              refine w_nil ?_
              rotate_left
            exact x_again (i + 1) (by repeat (first | exact trivial | refine ⟨rfl, ?_⟩)) ⟨EM.go, by omega⟩ (by omega)
          · focus
              have hz_hxM := hxM.size
              replace EL := EL.next hxM (by omega)
              replace hby := hby.ext hxM
              replace hoy := hoy.ext hxM
              replace hp1_26 := hp1_26.ext hxM
              replace hb4 := hb4.ext hxM
              replace hb3 := hb3.ext hxM
              replace hb2 := hb2.ext hxM
              replace h := h.ext hxM
              replace h' := h'.ext hxM
              replace E := E.trans hxM
              replace hnil := hnil.ext hxM
              replace hp1_41 := hp1_41.ext hxM
              refine c_seq ?_
              refine c_seq ?_
              refine c_region ?_
              refine w_pure (y_move rfl) rfl ?_
              refine w_pure (y_move rfl) rfl ?_
              refine w_pure (y_len rfl) rfl ?_
              refine w_pure (y_lt rfl rfl) rfl ?_
              refine w_nil ?_
              refine x_next ?_
              (refine c_dec rfl (fun hc45 => ?_) (fun hc45 => ?_) <;> try (first | exact absurd rfl hc45 | contradiction | exact Bool.noConfusion (show false = true from hc45.symm.trans (by assumption)) | exact Bool.noConfusion (show true = false from hc45.symm.trans (by assumption)) | (exfalso; omega) | (exfalso; simp only [*, Bool.not_true, Bool.not_false, reduceCtorEq] at hc45; done)))
              refine c_exit ?_
              refine x_then_exit ?_
              refine x_then_exit ?_
              refine x_block_hit ?_
              refine x_next ?_
              refine c_region ?_
              refine w_pure (y_field rfl) rfl ?_
              refine w_pure (y_load_box rfl) rfl ?_
              refine w_pure (y_move rfl) rfl ?_
              refine w_lit (α := Int) rfl rfl rfl rfl rfl rfl rfl rfl (fun v61 w61 ho61 hx61 hl61 hh61 hs61 => ?_)
              have hl_ho61 := ho61.lt
              have hz_hx61 := hx61.size
              replace EM := EM.trans hx61
              replace EL := EL.next hx61 (by omega)
              replace hby := hby.ext hx61
              replace hoy := hoy.ext hx61
              replace hp1_26 := hp1_26.ext hx61
              replace hb4 := hb4.ext hx61
              replace hb3 := hb3.ext hx61
              replace hb2 := hb2.ext hx61
              replace h := h.ext hx61
              replace h' := h'.ext hx61
              replace E := E.trans hx61
              replace hnil := hnil.ext hx61
              replace hp1_41 := hp1_41.ext hx61
              refine w_append rfl rfl (k := fun v62 w62 ho62 hx62 hr62 => ?_)
              have hl_ho62 := ho62.lt
              have hz_hx62 := hx62.size
              replace ho61 := ho61.chg hx62 (by omega)
              replace EL := EL.next hx62 (by omega)
              replace hby := hby.chg hx62 (by omega)
              replace hp1_26 := hp1_26.chg hx62 (by omega)
              replace hb4 := hb4.chg hx62 (by omega)
              replace hb3 := hb3.chg hx62 (by omega)
              replace hb2 := hb2.chg hx62 (by omega)
              replace h := h.chg hx62 (by omega)
              replace h' := h'.chg hx62 (by omega)
              replace E := E.next hx62 (by omega)
              replace hnil := hnil.chg hx62 (by omega)
              replace hp1_41 := hp1_41.chg hx62 (by omega)
              refine w_pure (y_field rfl) rfl ?_
              refine w_store_box rfl rfl (next := fun ws23 hbs23 hxs23 hss23 => ?_)
              (replace hby := hbs23; clear hbs23)
              have hz_hxs23 := hxs23.size
              replace ho62 := ho62.chg hxs23 (by omega)
              replace ho61 := ho61.chg hxs23 (by omega)
              replace EL := EL.trans hxs23
              replace hp1_26 := hp1_26.chg hxs23 (by omega)
              replace hb4 := hb4.chg hxs23 (by omega)
              replace hb3 := hb3.chg hxs23 (by omega)
              replace hb2 := hb2.chg hxs23 (by omega)
              replace h := h.chg hxs23 (by omega)
              replace h' := h'.chg hxs23 (by omega)
              replace E := E.next hxs23 (by omega)
              replace hnil := hnil.chg hxs23 (by omega)
              replace hp1_41 := hp1_41.chg hxs23 (by omega)
              refine w_nil ?_
              refine x_block_norm ?_
              refine x_next ?_
              refine c_region ?_
              refine w_pure (y_move rfl) rfl ?_
              refine w_pure (y_add rfl rfl) rfl ?_
              refine w_pure (y_assign rfl) rfl ?_
              refine w_nil ?_
              rotate_left
            obtain rfl : i = (srcF e n j ws k).length := by omega
            refine x_again (k + 1, _) (by repeat (first | exact trivial | refine ⟨rfl, ?_⟩)) ⟨EL.go, by assumption, ?_, by dsimp only; omega, ?_⟩ (by dsimp only; omega)
            · dsimp only; rw [rteP]; exact Own.base (by assumption) (by omega)
            · dsimp only; omega
        · focus
            have hl_hoy := hoy.lt
            have hz_hxL := hxL.size
            replace hp1_26 := hp1_26.chg hxL (by omega)
            replace hb4 := hb4.chg hxL (by omega)
            replace hb3 := hb3.chg hxL (by omega)
            replace hb2 := hb2.chg hxL (by omega)
            replace h := h.chg hxL (by omega)
            replace h' := h'.chg hxL (by omega)
            replace E := E.next hxL (by omega)
            replace hnil := hnil.chg hxL (by omega)
            refine c_seq ?_
            refine c_seq ?_
            refine c_region ?_
            refine w_pure (y_move rfl) rfl ?_
            refine w_pure (y_field rfl) rfl ?_
            refine w_pure (y_load_box rfl) rfl ?_
            refine w_pure (y_lt rfl rfl) rfl ?_
            refine w_nil ?_
            refine x_next ?_
            (refine c_dec rfl (fun hc31 => ?_) (fun hc31 => ?_) <;> try (first | exact absurd rfl hc31 | contradiction | exact Bool.noConfusion (show false = true from hc31.symm.trans (by assumption)) | exact Bool.noConfusion (show true = false from hc31.symm.trans (by assumption)) | (exfalso; omega) | (exfalso; simp only [*, Bool.not_true, Bool.not_false, reduceCtorEq] at hc31; done)))
            refine c_exit ?_
            refine x_then_exit ?_
            refine x_then_exit ?_
            refine x_block_hit ?_
            refine x_next ?_
            refine c_seq ?_
            refine c_region ?_
            refine w_pure (y_load_boxs rfl) rfl ?_
            refine w_store_boxs rfl rfl (next := fun ws19 hbs19 hxs19 hss19 => ?_)
            (replace hb4 := hbs19; clear hbs19)
            have hz_hxs19 := hxs19.size
            replace hby := hby.chg hxs19 (by omega)
            replace hoy := hoy.chg hxs19 (by omega)
            replace hp1_26 := hp1_26.chg hxs19 (by omega)
            replace hb3 := hb3.chg hxs19 (by omega)
            replace hb2 := hb2.chg hxs19 (by omega)
            replace h := h.chg hxs19 (by omega)
            replace h' := h'.chg hxs19 (by omega)
            replace E := E.next hxs19 (by omega)
            replace hnil := hnil.chg hxs19 (by omega)
            refine w_pure (y_assign rfl) rfl ?_
            refine w_nil ?_
            refine x_next ?_
            refine c_ret ?_
            rotate_left
          obtain rfl : k = n.toNat := by omega
          refine x_retv [_, _] rfl ⟨⟨_, rfl, run_load_str (Box.at (by assumption)) (by rfl)⟩, rfl, trivial⟩ ⟨_, by rw [ec]; rfl, ?_, E.go⟩
          rw [resRte, if_pos ec]
          exact Own.base (by assumption) (by omega)
      · have ec : cRte e n j ws xs = 6 := by rw [cRte, if_pos ⟨hk, hx⟩, if_neg he]
        refine ret_enter Try.func48 rfl Try.ntmps48 rfl ?_
        focus
          have ht_h := h.top
          have ht_h' := h'.top
          have ht_hnil := hnil.top
          refine c_seq ?_
          refine c_region ?_
          refine w_box rfl (k := fun b2 w2 hb2 hx2 hl2 hs2 => ?_)
          have hz_hx2 := hx2.size
          replace h := h.ext hx2
          replace h' := h'.ext hx2
          replace E := E.trans hx2
          replace hnil := hnil.ext hx2
          refine w_box rfl (k := fun b3 w3 hb3 hx3 hl3 hs3 => ?_)
          have hz_hx3 := hx3.size
          replace hb2 := hb2.ext hx3
          replace h := h.ext hx3
          replace h' := h'.ext hx3
          replace E := E.trans hx3
          replace hnil := hnil.ext hx3
          refine w_alloc (k := fun b4 w4 hb4 hx4 hl4 hs4 => ?_)
          have hz_hx4 := hx4.size
          replace hb3 := hb3.ext hx4
          replace hb2 := hb2.ext hx4
          replace h := h.ext hx4
          replace h' := h'.ext hx4
          replace E := E.trans hx4
          replace hnil := hnil.ext hx4
          refine w_pure (y_assign rfl) rfl ?_
          refine w_nil ?_
          refine x_next ?_
          refine c_seq ?_
          refine c_seq ?_
          refine c_region ?_
          refine w_val rfl rfl rfl (l12Ok_c) rfl (fun w12 hx12 hz12 => ?_)
          have hz_hx12 := hx12.size
          replace hb4 := hb4.ext hx12
          replace hb3 := hb3.ext hx12
          replace hb2 := hb2.ext hx12
          replace h := h.ext hx12
          replace h' := h'.ext hx12
          replace E := E.trans hx12
          replace hnil := hnil.ext hx12
          refine w_pure (y_not rfl) rfl ?_
          refine w_pure (y_move rfl) rfl ?_
          (refine w_part rfl rfl (fun hc15 => ?_) (fun hc15 => ?_) <;> try (first | exact absurd rfl hc15 | contradiction | exact Bool.noConfusion (show false = true from hc15.symm.trans (by assumption)) | exact Bool.noConfusion (show true = false from hc15.symm.trans (by assumption)) | (exfalso; omega) | (exfalso; simp only [*, Bool.not_true, Bool.not_false, reduceCtorEq] at hc15; done)))
          refine w_yes rfl rfl ?_
          refine w_val rfl rfl rfl (l02Ok_c) rfl (fun w15 hx15 hz15 => ?_)
          have hz_hx15 := hx15.size
          replace hb4 := hb4.ext hx15
          replace hb3 := hb3.ext hx15
          replace hb2 := hb2.ext hx15
          replace h := h.ext hx15
          replace h' := h'.ext hx15
          replace E := E.trans hx15
          replace hnil := hnil.ext hx15
          refine w_yes rfl rfl ?_
          refine w_pure (y_not rfl) rfl ?_
          refine w_pure (y_pick_f rfl rfl) rfl ?_
          refine w_nil ?_
          refine x_next ?_
          (refine c_not rfl (fun hc17 => ?_) (fun hc17 => ?_) <;> try (first | exact absurd rfl hc17 | contradiction | exact Bool.noConfusion (show false = true from hc17.symm.trans (by assumption)) | exact Bool.noConfusion (show true = false from hc17.symm.trans (by assumption)) | (exfalso; omega) | (exfalso; simp only [*, Bool.not_true, Bool.not_false, reduceCtorEq] at hc17; done)))
          refine c_skip ?_
          refine x_next ?_
          refine c_seq ?_
          refine c_seq ?_
          refine c_region ?_
          refine w_pure (y_field rfl) rfl ?_
          refine w_pure (y_load_box rfl) rfl ?_
          refine w_pure (y_len rfl) rfl ?_
          refine w_pure (y_field rfl) rfl ?_
          refine w_pure (y_load_box rfl) rfl ?_
          refine w_pure (y_ne rfl rfl) rfl ?_
          refine w_nil ?_
          refine x_next ?_
          (refine c_dec rfl (fun hc24 => ?_) (fun hc24 => ?_) <;> try (first | exact absurd rfl hc24 | contradiction | exact Bool.noConfusion (show false = true from hc24.symm.trans (by assumption)) | exact Bool.noConfusion (show true = false from hc24.symm.trans (by assumption)) | (exfalso; omega) | (exfalso; simp only [*, Bool.not_true, Bool.not_false, reduceCtorEq] at hc24; done)))
          refine c_seq ?_
          refine c_region ?_
          refine w_pure (y_build rfl) rfl ?_
          refine w_store_boxs rfl rfl (next := fun ws41 hbs41 hxs41 hss41 => ?_)
          (replace hb4 := hbs41; clear hbs41)
          have hz_hxs41 := hxs41.size
          replace hb3 := hb3.chg hxs41 (by omega)
          replace hb2 := hb2.chg hxs41 (by omega)
          replace h := h.chg hxs41 (by omega)
          replace h' := h'.chg hxs41 (by omega)
          replace E := E.next hxs41 (by omega)
          replace hnil := hnil.chg hxs41 (by omega)
          refine w_pure (y_assign rfl) rfl ?_
          refine w_nil ?_
          refine x_next ?_
          refine c_ret ?_
          refine x_then_ret ?_
          rotate_left
        all_goals exact x_retv [_, _] rfl ⟨⟨_, rfl, run_load_str (Box.at (by assumption)) (by rfl)⟩, rfl, trivial⟩ ⟨_, by rw [ec]; rfl, by rw [resRte, ec]; exact Own.nil _ _ _, E.go⟩
    · have ec : cRte e n j ws xs = 1 := by rw [cRte, if_neg (fun g => hx g.2)]
      refine ret_enter Try.func48 rfl Try.ntmps48 rfl ?_
      focus
        have ht_h := h.top
        have ht_h' := h'.top
        have ht_hnil := hnil.top
        refine c_seq ?_
        refine c_region ?_
        refine w_box rfl (k := fun b2 w2 hb2 hx2 hl2 hs2 => ?_)
        have hz_hx2 := hx2.size
        replace h := h.ext hx2
        replace h' := h'.ext hx2
        replace E := E.trans hx2
        replace hnil := hnil.ext hx2
        refine w_box rfl (k := fun b3 w3 hb3 hx3 hl3 hs3 => ?_)
        have hz_hx3 := hx3.size
        replace hb2 := hb2.ext hx3
        replace h := h.ext hx3
        replace h' := h'.ext hx3
        replace E := E.trans hx3
        replace hnil := hnil.ext hx3
        refine w_alloc (k := fun b4 w4 hb4 hx4 hl4 hs4 => ?_)
        have hz_hx4 := hx4.size
        replace hb3 := hb3.ext hx4
        replace hb2 := hb2.ext hx4
        replace h := h.ext hx4
        replace h' := h'.ext hx4
        replace E := E.trans hx4
        replace hnil := hnil.ext hx4
        refine w_pure (y_assign rfl) rfl ?_
        refine w_nil ?_
        refine x_next ?_
        refine c_seq ?_
        refine c_seq ?_
        refine c_region ?_
        refine w_val rfl rfl rfl (l12Ok_c) rfl (fun w12 hx12 hz12 => ?_)
        have hz_hx12 := hx12.size
        replace hb4 := hb4.ext hx12
        replace hb3 := hb3.ext hx12
        replace hb2 := hb2.ext hx12
        replace h := h.ext hx12
        replace h' := h'.ext hx12
        replace E := E.trans hx12
        replace hnil := hnil.ext hx12
        refine w_pure (y_not rfl) rfl ?_
        refine w_pure (y_move rfl) rfl ?_
        (refine w_part rfl rfl (fun hc15 => ?_) (fun hc15 => ?_) <;> try (first | exact absurd rfl hc15 | contradiction | exact Bool.noConfusion (show false = true from hc15.symm.trans (by assumption)) | exact Bool.noConfusion (show true = false from hc15.symm.trans (by assumption)) | (exfalso; omega) | (exfalso; simp only [*, Bool.not_true, Bool.not_false, reduceCtorEq] at hc15; done)))
        refine w_yes rfl rfl ?_
        refine w_val rfl rfl rfl (l02Ok_c) rfl (fun w15 hx15 hz15 => ?_)
        have hz_hx15 := hx15.size
        replace hb4 := hb4.ext hx15
        replace hb3 := hb3.ext hx15
        replace hb2 := hb2.ext hx15
        replace h := h.ext hx15
        replace h' := h'.ext hx15
        replace E := E.trans hx15
        replace hnil := hnil.ext hx15
        refine w_yes rfl rfl ?_
        refine w_pure (y_not rfl) rfl ?_
        refine w_pure (y_pick_f rfl rfl) rfl ?_
        refine w_nil ?_
        refine x_next ?_
        (refine c_not rfl (fun hc17 => ?_) (fun hc17 => ?_) <;> try (first | exact absurd rfl hc17 | contradiction | exact Bool.noConfusion (show false = true from hc17.symm.trans (by assumption)) | exact Bool.noConfusion (show true = false from hc17.symm.trans (by assumption)) | (exfalso; omega) | (exfalso; simp only [*, Bool.not_true, Bool.not_false, reduceCtorEq] at hc17; done)))
        refine c_seq ?_
        refine c_region ?_
        refine w_pure (y_build rfl) rfl ?_
        refine w_store_boxs rfl rfl (next := fun ws27 hbs27 hxs27 hss27 => ?_)
        (replace hb4 := hbs27; clear hbs27)
        have hz_hxs27 := hxs27.size
        replace hb3 := hb3.chg hxs27 (by omega)
        replace hb2 := hb2.chg hxs27 (by omega)
        replace h := h.chg hxs27 (by omega)
        replace h' := h'.chg hxs27 (by omega)
        replace E := E.next hxs27 (by omega)
        replace hnil := hnil.chg hxs27 (by omega)
        refine w_pure (y_assign rfl) rfl ?_
        refine w_nil ?_
        refine x_next ?_
        refine c_ret ?_
        refine x_then_ret ?_
        rotate_left
      all_goals exact x_retv [_, _] rfl ⟨⟨_, rfl, run_load_str (Box.at (by assumption)) (by rfl)⟩, rfl, trivial⟩ ⟨_, by rw [ec]; rfl, by rw [resRte, ec]; exact Own.nil _ _ _, E.go⟩
  · have ec : cRte e n j ws xs = 1 := by rw [cRte, if_neg (fun g => hk g.1)]
    refine ret_enter Try.func48 rfl Try.ntmps48 rfl ?_
    focus
      have ht_h := h.top
      have ht_h' := h'.top
      have ht_hnil := hnil.top
      refine c_seq ?_
      refine c_region ?_
      refine w_box rfl (k := fun b2 w2 hb2 hx2 hl2 hs2 => ?_)
      have hz_hx2 := hx2.size
      replace h := h.ext hx2
      replace h' := h'.ext hx2
      replace E := E.trans hx2
      replace hnil := hnil.ext hx2
      refine w_box rfl (k := fun b3 w3 hb3 hx3 hl3 hs3 => ?_)
      have hz_hx3 := hx3.size
      replace hb2 := hb2.ext hx3
      replace h := h.ext hx3
      replace h' := h'.ext hx3
      replace E := E.trans hx3
      replace hnil := hnil.ext hx3
      refine w_alloc (k := fun b4 w4 hb4 hx4 hl4 hs4 => ?_)
      have hz_hx4 := hx4.size
      replace hb3 := hb3.ext hx4
      replace hb2 := hb2.ext hx4
      replace h := h.ext hx4
      replace h' := h'.ext hx4
      replace E := E.trans hx4
      replace hnil := hnil.ext hx4
      refine w_pure (y_assign rfl) rfl ?_
      refine w_nil ?_
      refine x_next ?_
      refine c_seq ?_
      refine c_seq ?_
      refine c_region ?_
      refine w_val rfl rfl rfl (l12Ok_c) rfl (fun w12 hx12 hz12 => ?_)
      have hz_hx12 := hx12.size
      replace hb4 := hb4.ext hx12
      replace hb3 := hb3.ext hx12
      replace hb2 := hb2.ext hx12
      replace h := h.ext hx12
      replace h' := h'.ext hx12
      replace E := E.trans hx12
      replace hnil := hnil.ext hx12
      refine w_pure (y_not rfl) rfl ?_
      refine w_pure (y_move rfl) rfl ?_
      (refine w_part rfl rfl (fun hc15 => ?_) (fun hc15 => ?_) <;> try (first | exact absurd rfl hc15 | contradiction | exact Bool.noConfusion (show false = true from hc15.symm.trans (by assumption)) | exact Bool.noConfusion (show true = false from hc15.symm.trans (by assumption)) | (exfalso; omega) | (exfalso; simp only [*, Bool.not_true, Bool.not_false, reduceCtorEq] at hc15; done)))
      refine w_no rfl rfl rfl rfl ?_
      refine w_no rfl rfl rfl rfl ?_
      refine w_pure (y_pick_t rfl rfl) rfl ?_
      refine w_nil ?_
      refine x_next ?_
      refine c_true rfl ?_
      refine c_seq ?_
      refine c_region ?_
      refine w_pure (y_build rfl) rfl ?_
      refine w_store_boxs rfl rfl (next := fun ws25 hbs25 hxs25 hss25 => ?_)
      (replace hb4 := hbs25; clear hbs25)
      have hz_hxs25 := hxs25.size
      replace hb3 := hb3.chg hxs25 (by omega)
      replace hb2 := hb2.chg hxs25 (by omega)
      replace h := h.chg hxs25 (by omega)
      replace h' := h'.chg hxs25 (by omega)
      replace E := E.next hxs25 (by omega)
      replace hnil := hnil.chg hxs25 (by omega)
      refine w_pure (y_assign rfl) rfl ?_
      refine w_nil ?_
      refine x_next ?_
      refine c_ret ?_
      refine x_then_ret ?_
      rotate_left
    all_goals exact x_retv [_, _] rfl ⟨⟨_, rfl, run_load_str (Box.at (by assumption)) (by rfl)⟩, rfl, trivial⟩ ⟨_, by rw [ec]; rfl, by rw [resRte, ec]; exact Own.nil _ _ _, E.go⟩
theorem lRouteCard (w0 : World) (x0 : { x : OBd // x.ok w0 }) (x1 : { x : OSl // x.ok w0 }) : Ret Try.prog 13 [.agg #[.int .i64 x0.1.e, .int .i64 x0.1.n, .int .i64 x0.1.j, x0.1.v], .agg #[x1.1.v]] w0 fun u w' => u = .bool true ∧ Ext w0 w' := by
  obtain ⟨⟨e0, n0, j0, v0, ws0⟩, hok0⟩ := x0
  have s0 : SL w0 0 w0.heap.size v0 ws0 := hok0.sl
  have r0 := hok0.in64
  have re0 : In64 e0 := hok0.e
  have rn0 : In64 n0 := hok0.n
  have rj0 : In64 j0 := hok0.j
  obtain ⟨⟨v1, xs1⟩, hok1⟩ := x1
  have s1 : SL w0 0 w0.heap.size v1 xs1 := hok1.sl
  have r1 := hok1.in64
  show Ret _ _ [.agg #[.int .i64 e0, .int .i64 n0, .int .i64 j0, v0], .agg #[v1]] w0 _
  clear hok0 hok1
  have E : Since 0 0 w0 w0 := Since.refl 0 0 w0
  have hb := resRte_len e0 n0 j0 ws0 xs1
  refine ret_enter Try.func13 rfl Try.ntmps13 rfl ?_
  focus
    refine c_seq ?_
    refine c_region ?_
    refine w_box rfl (k := fun b2 w2 hb2 hx2 hl2 hs2 => ?_)
    have hz_hx2 := hx2.size
    replace s0 := s0.ext hx2
    replace s1 := s1.ext hx2
    replace E := E.trans hx2
    refine w_box rfl (k := fun b3 w3 hb3 hx3 hl3 hs3 => ?_)
    have hz_hx3 := hx3.size
    replace hb2 := hb2.ext hx3
    replace s0 := s0.ext hx3
    replace s1 := s1.ext hx3
    replace E := E.trans hx3
    refine w_pure (y_assign rfl) rfl ?_
    refine w_nil ?_
    refine x_next ?_
    refine c_seq ?_
    refine c_region ?_
    refine w_pure (y_assign rfl) rfl ?_
    refine w_nil ?_
    refine x_next ?_
    refine c_seq ?_
    refine c_region ?_
    refine w_pure (y_load_boxs rfl) rfl ?_
    refine w_pure (y_move rfl) rfl ?_
    (refine w_call rfl rfl rfl (szBoard_z) rfl ?_; rintro _ w19 ⟨z19, ⟨rfl, ⟨hp1_19, hx19⟩⟩⟩)
    have hz_hx19 := hx19.size
    replace hb3 := hb3.ext hx19
    replace hb2 := hb2.ext hx19
    replace s0 := s0.ext hx19
    replace s1 := s1.ext hx19
    replace E := E.trans hx19
    refine w_pure (y_assign rfl) rfl ?_
    refine w_nil ?_
    refine x_next ?_
    refine c_seq ?_
    refine c_seq ?_
    refine c_region ?_
    refine w_pure (y_move rfl) rfl ?_
    refine w_pure (y_lt rfl rfl) rfl ?_
    refine w_nil ?_
    refine x_next ?_
    (refine c_dec rfl (fun hc21 => ?_) (fun hc21 => ?_) <;> try (first | exact absurd rfl hc21 | contradiction | exact Bool.noConfusion (show false = true from hc21.symm.trans (by assumption)) | exact Bool.noConfusion (show true = false from hc21.symm.trans (by assumption)) | (exfalso; omega) | (exfalso; simp only [*, Bool.not_true, Bool.not_false, reduceCtorEq] at hc21; done)))
    refine c_seq ?_
    refine c_region ?_
    refine w_pure (y_assign rfl) rfl ?_
    refine w_nil ?_
    refine x_next ?_
    refine c_ret ?_
    refine x_then_ret ?_
    exact x_retv [_] rfl ⟨rfl, trivial⟩ ⟨rfl, E.go⟩
    refine c_skip ?_
    refine x_next ?_
    refine c_seq ?_
    refine c_region ?_
    refine w_pure (y_load_boxs rfl) rfl ?_
    refine w_pure (y_move rfl) rfl ?_
    (refine w_call rfl rfl rfl (szCard_z) rfl ?_; rintro _ w24 ⟨z24, ⟨rfl, ⟨hp1_24, hx24⟩⟩⟩)
    have hz_hx24 := hx24.size
    replace hb3 := hb3.ext hx24
    replace hb2 := hb2.ext hx24
    replace s0 := s0.ext hx24
    replace s1 := s1.ext hx24
    replace E := E.trans hx24
    refine w_pure (y_assign rfl) rfl ?_
    refine w_nil ?_
    refine x_next ?_
    refine c_seq ?_
    refine c_seq ?_
    refine c_region ?_
    refine w_pure (y_move rfl) rfl ?_
    refine w_pure (y_lt rfl rfl) rfl ?_
    refine w_nil ?_
    refine x_next ?_
    (refine c_dec rfl (fun hc26 => ?_) (fun hc26 => ?_) <;> try (first | exact absurd rfl hc26 | contradiction | exact Bool.noConfusion (show false = true from hc26.symm.trans (by assumption)) | exact Bool.noConfusion (show true = false from hc26.symm.trans (by assumption)) | (exfalso; omega) | (exfalso; simp only [*, Bool.not_true, Bool.not_false, reduceCtorEq] at hc26; done)))
    refine c_seq ?_
    refine c_region ?_
    refine w_pure (y_assign rfl) rfl ?_
    refine w_nil ?_
    refine x_next ?_
    refine c_ret ?_
    refine x_then_ret ?_
    exact x_retv [_] rfl ⟨rfl, trivial⟩ ⟨rfl, E.go⟩
    refine c_skip ?_
    refine x_next ?_
    refine c_seq ?_
    refine c_region_held mixed (fun wr8 hxr8 hzr8 => ?_)
    have hz_hxr8 := hxr8.size
    replace hb3 := hb3.ext hxr8
    replace hb2 := hb2.ext hxr8
    replace s0 := s0.ext hxr8
    replace s1 := s1.ext hxr8
    replace E := E.trans hxr8
    refine h_pure rfl (y_load_boxs rfl) rfl ?_
    refine h_maybe1 (p0 := ⟨8, 6, _⟩) (PA.mk_ok rfl rfl rfl) ?_
    refine m1_turn ?_
    refine m1_pure rfl (y_load_boxs rfl) rfl ?_
    refine m1_turn ?_
    refine m1_turn ?_
    refine m1_turn ?_
    refine m1_turn ?_
    refine m1_turn ?_
    refine m1_turn ?_
    refine m1_turn ?_
    refine m1_call (PA.mk_ok rfl rfl rfl) rfl rfl rfl rfl rfl (fun w29m hx29m => ?_)
    have hz_hx29m := hx29m.size
    replace hb3 := hb3.ext hx29m
    replace hb2 := hb2.ext hx29m
    replace s0 := s0.ext hx29m
    replace s1 := s1.ext hx29m
    replace E := E.trans hx29m
    (refine mc_ret (toBoard_c) ?_; rintro _ w29 ⟨d29, ⟨rfl, ⟨hp1_29, hx29⟩⟩⟩; refine ⟨hx29, ?_⟩)
    have hz_hx29 := hx29.size
    replace hb3 := hb3.ext hx29
    replace hb2 := hb2.ext hx29
    replace s0 := s0.ext hx29
    replace s1 := s1.ext hx29
    replace E := E.trans hx29
    replace hp1_29 := hp1_29.fresh
    refine m1_call (PA.mk_ok rfl rfl rfl) rfl rfl rfl rfl rfl (fun w31m hx31m => ?_)
    have hz_hx31m := hx31m.size
    replace hb3 := hb3.ext hx31m
    replace hb2 := hb2.ext hx31m
    replace s0 := s0.ext hx31m
    replace s1 := s1.ext hx31m
    replace E := E.trans hx31m
    replace hp1_29 := hp1_29.ext hx31m
    (refine mc_ret (toCard_c _) ?_; rintro _ w31 ⟨d31, ⟨rfl, ⟨hp1_31, hx31⟩⟩⟩; refine ⟨hx31, ?_⟩)
    have hz_hx31 := hx31.size
    replace hb3 := hb3.ext hx31
    replace hb2 := hb2.ext hx31
    replace s0 := s0.ext hx31
    replace s1 := s1.ext hx31
    replace E := E.trans hx31
    replace hp1_29 := hp1_29.ext hx31
    replace hp1_31 := hp1_31.fresh
    refine m1_call (PA.mk_ok rfl rfl rfl) rfl rfl rfl rfl rfl (fun w32m hx32m => ?_)
    have hz_hx32m := hx32m.size
    replace hb3 := hb3.ext hx32m
    replace hb2 := hb2.ext hx32m
    replace s0 := s0.ext hx32m
    replace s1 := s1.ext hx32m
    replace E := E.trans hx32m
    replace hp1_29 := hp1_29.ext hx32m
    replace hp1_31 := hp1_31.ext hx32m
    (refine mc_ret (sRouteCard_c) ?_; rintro _ w32 ⟨d32, ⟨rfl, ⟨hp1_32, hx32⟩⟩⟩; refine ⟨hx32, ?_⟩)
    have hz_hx32 := hx32.size
    replace hb3 := hb3.ext hx32
    replace hb2 := hb2.ext hx32
    replace s0 := s0.ext hx32
    replace s1 := s1.ext hx32
    replace E := E.trans hx32
    replace hp1_29 := hp1_29.ext hx32
    replace hp1_31 := hp1_31.ext hx32
    replace hp1_32 := hp1_32.fresh
    refine m1_pure rfl (y_move rfl) rfl ?_
    refine m1_pure rfl (y_extract rfl rfl) rfl ?_
    refine m1_any rfl (fun _ => y_extract rfl rfl) rfl ?_
    (refine m1_end (PA.mk_ok rfl rfl rfl) ?_; intro w6e hx6e hz6e b6 hb6 hlb6 hg6; simp only [Gaps, and_true] at hg6; have hu6 := hb6.lt)
    have hz_hx6e := hx6e.size
    replace hb3 := hb3.ext hx6e
    replace hb2 := hb2.ext hx6e
    replace s0 := s0.ext hx6e
    replace s1 := s1.ext hx6e
    replace E := E.trans hx6e
    replace hp1_29 := hp1_29.ext hx6e
    replace hp1_31 := hp1_31.ext hx6e
    replace hp1_32 := hp1_32.ext hx6e
    refine h_one rfl ?_
    refine w_store_boxs rfl rfl (next := fun ws89 hbs89 hxs89 hss89 => ?_)
    (replace hb6 := hbs89; clear hbs89)
    have hz_hxs89 := hxs89.size
    replace hb3 := hb3.chg hxs89 (by omega)
    replace hb2 := hb2.chg hxs89 (by omega)
    replace s0 := s0.chg hxs89 (by omega)
    replace s1 := s1.chg hxs89 (by omega)
    replace E := E.next hxs89 (by omega)
    replace hp1_29 := hp1_29.chg hxs89 (by omega)
    replace hp1_31 := hp1_31.chg hxs89 (by omega)
    replace hp1_32 := hp1_32.chg hxs89 (by omega)
    refine w_nil ?_
    refine x_heldk ?_
    refine h_pure rfl (y_assign rfl) rfl ?_
    refine h_nil ?_
    refine x_next ?_
    refine c_seq ?_
    refine c_region ?_
    refine w_pure (y_load_boxs rfl) rfl ?_
    (refine w_call rfl rfl rfl (toBoard_c) rfl ?_; rintro _ w36 ⟨d36, ⟨rfl, ⟨hp1_36, hx36⟩⟩⟩)
    have hz_hx36 := hx36.size
    replace hb6 := hb6.ext hx36
    replace hb3 := hb3.ext hx36
    replace hb2 := hb2.ext hx36
    replace s0 := s0.ext hx36
    replace s1 := s1.ext hx36
    replace E := E.trans hx36
    replace hp1_29 := hp1_29.ext hx36
    replace hp1_31 := hp1_31.ext hx36
    replace hp1_32 := hp1_32.ext hx36
    replace hp1_36 := hp1_36.fresh
    refine w_alloc (k := fun b8 w8 hb8 hx8 hl8 hs8 => ?_)
    have hz_hx8 := hx8.size
    replace hb6 := hb6.ext hx8
    replace hb3 := hb3.ext hx8
    replace hb2 := hb2.ext hx8
    replace s0 := s0.ext hx8
    replace s1 := s1.ext hx8
    replace E := E.trans hx8
    replace hp1_29 := hp1_29.ext hx8
    replace hp1_31 := hp1_31.ext hx8
    replace hp1_32 := hp1_32.ext hx8
    replace hp1_36 := hp1_36.ext hx8
    refine w_store_boxs rfl rfl (next := fun ws100 hbs100 hxs100 hss100 => ?_)
    (replace hb8 := hbs100; clear hbs100)
    have hz_hxs100 := hxs100.size
    replace hb6 := hb6.chg hxs100 (by omega)
    replace hb3 := hb3.chg hxs100 (by omega)
    replace hb2 := hb2.chg hxs100 (by omega)
    replace s0 := s0.chg hxs100 (by omega)
    replace s1 := s1.chg hxs100 (by omega)
    replace E := E.next hxs100 (by omega)
    replace hp1_29 := hp1_29.chg hxs100 (by omega)
    replace hp1_31 := hp1_31.chg hxs100 (by omega)
    replace hp1_32 := hp1_32.chg hxs100 (by omega)
    replace hp1_36 := hp1_36.chg hxs100 (by omega)
    refine w_nil ?_
    refine x_next ?_
    refine c_seq ?_
    refine c_region ?_
    refine w_pure (y_load_boxs rfl) rfl ?_
    (refine w_call rfl rfl rfl (toCard_c _) rfl ?_; rintro _ w38 ⟨d38, ⟨rfl, ⟨hp1_38, hx38⟩⟩⟩)
    have hz_hx38 := hx38.size
    replace hb8 := hb8.ext hx38
    replace hb6 := hb6.ext hx38
    replace hb3 := hb3.ext hx38
    replace hb2 := hb2.ext hx38
    replace s0 := s0.ext hx38
    replace s1 := s1.ext hx38
    replace E := E.trans hx38
    replace hp1_29 := hp1_29.ext hx38
    replace hp1_31 := hp1_31.ext hx38
    replace hp1_32 := hp1_32.ext hx38
    replace hp1_36 := hp1_36.ext hx38
    replace hp1_38 := hp1_38.fresh
    refine w_alloc (k := fun b9 w9 hb9 hx9 hl9 hs9 => ?_)
    have hz_hx9 := hx9.size
    replace hb8 := hb8.ext hx9
    replace hb6 := hb6.ext hx9
    replace hb3 := hb3.ext hx9
    replace hb2 := hb2.ext hx9
    replace s0 := s0.ext hx9
    replace s1 := s1.ext hx9
    replace E := E.trans hx9
    replace hp1_29 := hp1_29.ext hx9
    replace hp1_31 := hp1_31.ext hx9
    replace hp1_32 := hp1_32.ext hx9
    replace hp1_36 := hp1_36.ext hx9
    replace hp1_38 := hp1_38.ext hx9
    refine w_store_boxs rfl rfl (next := fun ws108 hbs108 hxs108 hss108 => ?_)
    (replace hb9 := hbs108; clear hbs108)
    have hz_hxs108 := hxs108.size
    replace hb8 := hb8.chg hxs108 (by omega)
    replace hb6 := hb6.chg hxs108 (by omega)
    replace hb3 := hb3.chg hxs108 (by omega)
    replace hb2 := hb2.chg hxs108 (by omega)
    replace s0 := s0.chg hxs108 (by omega)
    replace s1 := s1.chg hxs108 (by omega)
    replace E := E.next hxs108 (by omega)
    replace hp1_29 := hp1_29.chg hxs108 (by omega)
    replace hp1_31 := hp1_31.chg hxs108 (by omega)
    replace hp1_32 := hp1_32.chg hxs108 (by omega)
    replace hp1_36 := hp1_36.chg hxs108 (by omega)
    replace hp1_38 := hp1_38.chg hxs108 (by omega)
    refine w_nil ?_
    refine x_next ?_
    refine c_seq ?_
    refine c_region ?_
    refine w_pure (y_load_boxs rfl) rfl ?_
    refine w_pure (y_load_boxs rfl) rfl ?_
    (refine w_call rfl rfl rfl (iRouteCard_c) rfl ?_; rintro _ w42 ⟨d42, ⟨rfl, ⟨hp1_42, hx42⟩⟩⟩)
    have hz_hx42 := hx42.size
    replace hb9 := hb9.ext hx42
    replace hb8 := hb8.ext hx42
    replace hb6 := hb6.ext hx42
    replace hb3 := hb3.ext hx42
    replace hb2 := hb2.ext hx42
    replace s0 := s0.ext hx42
    replace s1 := s1.ext hx42
    replace E := E.trans hx42
    replace hp1_29 := hp1_29.ext hx42
    replace hp1_31 := hp1_31.ext hx42
    replace hp1_32 := hp1_32.ext hx42
    replace hp1_36 := hp1_36.ext hx42
    replace hp1_38 := hp1_38.ext hx42
    replace hp1_42 := hp1_42.fresh
    refine w_pure (y_move rfl) rfl ?_
    refine w_pure (y_extract rfl rfl) rfl ?_
    refine w_pure (y_extract rfl rfl) rfl ?_
    refine w_alloc (k := fun b10 w10 hb10 hx10 hl10 hs10 => ?_)
    have hz_hx10 := hx10.size
    replace hb9 := hb9.ext hx10
    replace hb8 := hb8.ext hx10
    replace hb6 := hb6.ext hx10
    replace hb3 := hb3.ext hx10
    replace hb2 := hb2.ext hx10
    replace s0 := s0.ext hx10
    replace s1 := s1.ext hx10
    replace E := E.trans hx10
    replace hp1_29 := hp1_29.ext hx10
    replace hp1_31 := hp1_31.ext hx10
    replace hp1_32 := hp1_32.ext hx10
    replace hp1_36 := hp1_36.ext hx10
    replace hp1_38 := hp1_38.ext hx10
    replace hp1_42 := hp1_42.ext hx10
    refine w_store_boxs rfl rfl (next := fun ws120 hbs120 hxs120 hss120 => ?_)
    (replace hb10 := hbs120; clear hbs120)
    have hz_hxs120 := hxs120.size
    replace hb9 := hb9.chg hxs120 (by omega)
    replace hb8 := hb8.chg hxs120 (by omega)
    replace hb6 := hb6.chg hxs120 (by omega)
    replace hb3 := hb3.chg hxs120 (by omega)
    replace hb2 := hb2.chg hxs120 (by omega)
    replace s0 := s0.chg hxs120 (by omega)
    replace s1 := s1.chg hxs120 (by omega)
    replace E := E.next hxs120 (by omega)
    replace hp1_29 := hp1_29.chg hxs120 (by omega)
    replace hp1_31 := hp1_31.chg hxs120 (by omega)
    replace hp1_32 := hp1_32.chg hxs120 (by omega)
    replace hp1_36 := hp1_36.chg hxs120 (by omega)
    replace hp1_38 := hp1_38.chg hxs120 (by omega)
    replace hp1_42 := hp1_42.chg hxs120 (by omega)
    refine w_pure (y_assign rfl) rfl ?_
    refine w_nil ?_
    refine x_next ?_
    refine c_seq ?_
    refine c_seq ?_
    refine c_region ?_
    refine w_pure (y_load_boxs rfl) rfl ?_
    refine w_pure (y_load_boxs rfl) rfl ?_
    refine w_val rfl rfl rfl (eqCard_c) rfl (fun w47 hx47 hz47 => ?_)
    have hz_hx47 := hx47.size
    replace hb10 := hb10.ext hx47
    replace hb9 := hb9.ext hx47
    replace hb8 := hb8.ext hx47
    replace hb6 := hb6.ext hx47
    replace hb3 := hb3.ext hx47
    replace hb2 := hb2.ext hx47
    replace s0 := s0.ext hx47
    replace s1 := s1.ext hx47
    replace E := E.trans hx47
    replace hp1_29 := hp1_29.ext hx47
    replace hp1_31 := hp1_31.ext hx47
    replace hp1_32 := hp1_32.ext hx47
    replace hp1_36 := hp1_36.ext hx47
    replace hp1_38 := hp1_38.ext hx47
    replace hp1_42 := hp1_42.ext hx47
    refine w_pure (y_not_dec rfl) rfl ?_
    refine w_pure (y_move rfl) rfl ?_
    (refine w_part_dec rfl rfl (fun hc50 => ?_) (fun hc50 => ?_) <;> try (first | exact absurd rfl hc50 | contradiction | exact Bool.noConfusion (show false = true from hc50.symm.trans (by assumption)) | exact Bool.noConfusion (show true = false from hc50.symm.trans (by assumption)) | (exfalso; omega) | (exfalso; simp only [*, Bool.not_true, Bool.not_false, reduceCtorEq] at hc50; done)))
    refine w_yes rfl rfl ?_
    refine w_pure (y_move rfl) rfl ?_
    refine w_yes rfl rfl ?_
    refine w_pure (y_move rfl) rfl ?_
    refine w_yes rfl rfl ?_
    refine w_pure (y_ne rfl rfl) rfl ?_
    refine w_pure (y_pick_f rfl rfl) rfl ?_
    refine w_nil ?_
    refine x_next ?_
    refine c_nsame rfl ?_
    refine c_skip ?_
    refine x_next ?_
    refine c_seq ?_
    refine c_seq ?_
    refine c_region_held mixed (fun wr14 hxr14 hzr14 => ?_)
    have hz_hxr14 := hxr14.size
    replace hb10 := hb10.ext hxr14
    replace hb9 := hb9.ext hxr14
    replace hb8 := hb8.ext hxr14
    replace hb6 := hb6.ext hxr14
    replace hb3 := hb3.ext hxr14
    replace hb2 := hb2.ext hxr14
    replace s0 := s0.ext hxr14
    replace s1 := s1.ext hxr14
    replace E := E.trans hxr14
    replace hp1_29 := hp1_29.ext hxr14
    replace hp1_31 := hp1_31.ext hxr14
    replace hp1_32 := hp1_32.ext hxr14
    replace hp1_36 := hp1_36.ext hxr14
    replace hp1_38 := hp1_38.ext hxr14
    replace hp1_42 := hp1_42.ext hxr14
    refine h_pure rfl (y_load_boxs rfl) rfl ?_
    refine h_pure rfl (y_load_boxs rfl) rfl ?_
    refine h_one rfl ?_
    (refine w_call rfl rfl rfl (toBoard_c) rfl ?_; rintro _ w56 ⟨d56, ⟨rfl, ⟨hp1_56, hx56⟩⟩⟩)
    have hz_hx56 := hx56.size
    replace hb10 := hb10.ext hx56
    replace hb9 := hb9.ext hx56
    replace hb8 := hb8.ext hx56
    replace hb6 := hb6.ext hx56
    replace hb3 := hb3.ext hx56
    replace hb2 := hb2.ext hx56
    replace s0 := s0.ext hx56
    replace s1 := s1.ext hx56
    replace E := E.trans hx56
    replace hp1_29 := hp1_29.ext hx56
    replace hp1_31 := hp1_31.ext hx56
    replace hp1_32 := hp1_32.ext hx56
    replace hp1_36 := hp1_36.ext hx56
    replace hp1_38 := hp1_38.ext hx56
    replace hp1_42 := hp1_42.ext hx56
    replace hp1_56 := hp1_56.fresh
    refine w_nil ?_
    refine x_held ?_
    refine h_one rfl ?_
    refine w_val rfl rfl rfl (eqBoard_c) rfl (fun w57 hx57 hz57 => ?_)
    have hz_hx57 := hx57.size
    replace hb10 := hb10.ext hx57
    replace hb9 := hb9.ext hx57
    replace hb8 := hb8.ext hx57
    replace hb6 := hb6.ext hx57
    replace hb3 := hb3.ext hx57
    replace hb2 := hb2.ext hx57
    replace s0 := s0.ext hx57
    replace s1 := s1.ext hx57
    replace E := E.trans hx57
    replace hp1_29 := hp1_29.ext hx57
    replace hp1_31 := hp1_31.ext hx57
    replace hp1_32 := hp1_32.ext hx57
    replace hp1_36 := hp1_36.ext hx57
    replace hp1_38 := hp1_38.ext hx57
    replace hp1_42 := hp1_42.ext hx57
    replace hp1_56 := hp1_56.ext hx57
    refine w_nil ?_
    refine x_held ?_
    refine h_pure rfl (y_not_dec rfl) rfl ?_
    refine h_nil ?_
    refine x_next ?_
    refine c_nsame rfl ?_
    refine c_skip ?_
    refine x_next ?_
    refine c_seq ?_
    refine c_seq ?_
    refine c_region_held mixed (fun wr16 hxr16 hzr16 => ?_)
    have hz_hxr16 := hxr16.size
    replace hb10 := hb10.ext hxr16
    replace hb9 := hb9.ext hxr16
    replace hb8 := hb8.ext hxr16
    replace hb6 := hb6.ext hxr16
    replace hb3 := hb3.ext hxr16
    replace hb2 := hb2.ext hxr16
    replace s0 := s0.ext hxr16
    replace s1 := s1.ext hxr16
    replace E := E.trans hxr16
    replace hp1_29 := hp1_29.ext hxr16
    replace hp1_31 := hp1_31.ext hxr16
    replace hp1_32 := hp1_32.ext hxr16
    replace hp1_36 := hp1_36.ext hxr16
    replace hp1_38 := hp1_38.ext hxr16
    replace hp1_42 := hp1_42.ext hxr16
    replace hp1_56 := hp1_56.ext hxr16
    refine h_pure rfl (y_load_boxs rfl) rfl ?_
    refine h_pure rfl (y_load_boxs rfl) rfl ?_
    refine h_one rfl ?_
    (refine w_call rfl rfl rfl (toCard_c _) rfl ?_; rintro _ w61 ⟨d61, ⟨rfl, ⟨hp1_61, hx61⟩⟩⟩)
    have hz_hx61 := hx61.size
    replace hb10 := hb10.ext hx61
    replace hb9 := hb9.ext hx61
    replace hb8 := hb8.ext hx61
    replace hb6 := hb6.ext hx61
    replace hb3 := hb3.ext hx61
    replace hb2 := hb2.ext hx61
    replace s0 := s0.ext hx61
    replace s1 := s1.ext hx61
    replace E := E.trans hx61
    replace hp1_29 := hp1_29.ext hx61
    replace hp1_31 := hp1_31.ext hx61
    replace hp1_32 := hp1_32.ext hx61
    replace hp1_36 := hp1_36.ext hx61
    replace hp1_38 := hp1_38.ext hx61
    replace hp1_42 := hp1_42.ext hx61
    replace hp1_56 := hp1_56.ext hx61
    replace hp1_61 := hp1_61.fresh
    refine w_nil ?_
    refine x_held ?_
    refine h_one rfl ?_
    refine w_val rfl rfl rfl (eqCard_c) rfl (fun w62 hx62 hz62 => ?_)
    have hz_hx62 := hx62.size
    replace hb10 := hb10.ext hx62
    replace hb9 := hb9.ext hx62
    replace hb8 := hb8.ext hx62
    replace hb6 := hb6.ext hx62
    replace hb3 := hb3.ext hx62
    replace hb2 := hb2.ext hx62
    replace s0 := s0.ext hx62
    replace s1 := s1.ext hx62
    replace E := E.trans hx62
    replace hp1_29 := hp1_29.ext hx62
    replace hp1_31 := hp1_31.ext hx62
    replace hp1_32 := hp1_32.ext hx62
    replace hp1_36 := hp1_36.ext hx62
    replace hp1_38 := hp1_38.ext hx62
    replace hp1_42 := hp1_42.ext hx62
    replace hp1_56 := hp1_56.ext hx62
    replace hp1_61 := hp1_61.ext hx62
    refine w_nil ?_
    refine x_held ?_
    refine h_pure rfl (y_not_dec rfl) rfl ?_
    refine h_nil ?_
    refine x_next ?_
    refine c_nsame rfl ?_
    refine c_skip ?_
    refine x_next ?_
    refine c_seq ?_
    refine c_region ?_
    refine w_pure (y_assign rfl) rfl ?_
    refine w_nil ?_
    refine x_next ?_
    refine c_seq ?_
    refine c_region ?_
    refine w_pure (y_load_boxs rfl) rfl ?_
    refine w_pure (y_move rfl) rfl ?_
    (refine w_call rfl rfl rfl (markBoard_c) rfl ?_; rintro _ w66 ⟨rfl, ⟨hp1_66, hx66⟩⟩)
    have hz_hx66 := hx66.size
    replace hb10 := hb10.chg hx66 (by omega)
    replace hb9 := hb9.chg hx66 (by omega)
    replace hb8 := hb8.chg hx66 (by omega)
    replace hb6 := hb6.chg hx66 (by omega)
    replace hb3 := hb3.chg hx66 (by omega)
    replace hb2 := hb2.chg hx66 (by omega)
    replace s0 := s0.chg hx66 (by omega)
    replace s1 := s1.chg hx66 (by omega)
    replace E := E.next hx66 (by omega)
    replace hp1_29 := hp1_29.chg hx66 (by omega)
    replace hp1_31 := hp1_31.chg hx66 (by omega)
    replace hp1_32 := hp1_32.chg hx66 (by omega)
    replace hp1_38 := hp1_38.chg hx66 (by omega)
    replace hp1_42 := hp1_42.chg hx66 (by omega)
    replace hp1_56 := hp1_56.chg hx66 (by omega)
    replace hp1_61 := hp1_61.chg hx66 (by omega)
    refine w_pure (y_assign rfl) rfl ?_
    refine w_nil ?_
    refine x_next ?_
    refine c_seq ?_
    refine c_region ?_
    refine w_pure (y_load_boxs rfl) rfl ?_
    refine w_pure (y_move rfl) rfl ?_
    (refine w_call rfl rfl rfl (markCard_c _) rfl ?_; rintro _ w69 ⟨rfl, ⟨hp1_69, hx69⟩⟩)
    have hz_hx69 := hx69.size
    replace hp1_66 := hp1_66.chg hx69 (by omega)
    replace hb10 := hb10.chg hx69 (by omega)
    replace hb9 := hb9.chg hx69 (by omega)
    replace hb8 := hb8.chg hx69 (by omega)
    replace hb6 := hb6.chg hx69 (by omega)
    replace hb3 := hb3.chg hx69 (by omega)
    replace hb2 := hb2.chg hx69 (by omega)
    replace s0 := s0.chg hx69 (by omega)
    replace s1 := s1.chg hx69 (by omega)
    replace E := E.next hx69 (by omega)
    replace hp1_29 := hp1_29.chg hx69 (by omega)
    replace hp1_31 := hp1_31.chg hx69 (by omega)
    replace hp1_32 := hp1_32.chg hx69 (by omega)
    replace hp1_42 := hp1_42.chg hx69 (by omega)
    replace hp1_56 := hp1_56.chg hx69 (by omega)
    replace hp1_61 := hp1_61.chg hx69 (by omega)
    refine w_pure (y_assign rfl) rfl ?_
    refine w_nil ?_
    refine x_next ?_
    refine c_seq ?_
    refine c_seq ?_
    refine c_region ?_
    refine w_pure (y_move rfl) rfl ?_
    refine w_pure (y_lt rfl rfl) rfl ?_
    refine w_pure (y_move rfl) rfl ?_
    refine w_yes rfl rfl ?_
    refine w_pure (y_load_boxs rfl) rfl ?_
    refine w_yes rfl rfl ?_
    refine w_pure (y_load_boxs rfl) rfl ?_
    refine w_yes rfl rfl ?_
    refine w_val rfl rfl rfl (eqCard_c) rfl (fun w75 hx75 hz75 => ?_)
    have hz_hx75 := hx75.size
    replace hp1_69 := hp1_69.ext hx75
    replace hp1_66 := hp1_66.ext hx75
    replace hb10 := hb10.ext hx75
    replace hb9 := hb9.ext hx75
    replace hb8 := hb8.ext hx75
    replace hb6 := hb6.ext hx75
    replace hb3 := hb3.ext hx75
    replace hb2 := hb2.ext hx75
    replace s0 := s0.ext hx75
    replace s1 := s1.ext hx75
    replace E := E.trans hx75
    replace hp1_29 := hp1_29.ext hx75
    replace hp1_31 := hp1_31.ext hx75
    replace hp1_32 := hp1_32.ext hx75
    replace hp1_42 := hp1_42.ext hx75
    replace hp1_56 := hp1_56.ext hx75
    replace hp1_61 := hp1_61.ext hx75
    refine w_yes rfl rfl ?_
    refine w_pure (y_not_dec rfl) rfl ?_
    refine w_pure (y_pick_f rfl rfl) rfl ?_
    refine w_pure (y_move rfl) rfl ?_
    (refine w_part_dec rfl rfl (fun hc79 => ?_) (fun hc79 => ?_) <;> try (first | exact absurd rfl hc79 | contradiction | exact Bool.noConfusion (show false = true from hc79.symm.trans (by assumption)) | exact Bool.noConfusion (show true = false from hc79.symm.trans (by assumption)) | (exfalso; omega) | (exfalso; simp only [*, Bool.not_true, Bool.not_false, reduceCtorEq] at hc79; done)))
    refine w_yes rfl rfl ?_
    refine w_pure (y_move rfl) rfl ?_
    refine w_yes rfl rfl ?_
    refine w_pure (y_move rfl) rfl ?_
    refine w_yes rfl rfl ?_
    refine w_pure (y_ne rfl rfl) rfl ?_
    refine w_pure (y_pick_f rfl rfl) rfl ?_
    refine w_nil ?_
    refine x_next ?_
    refine c_nsame rfl ?_
    refine c_skip ?_
    refine x_next ?_
    refine c_seq ?_
    refine c_region ?_
    refine w_pure (y_assign rfl) rfl ?_
    refine w_nil ?_
    refine x_next ?_
    refine c_seq ?_
    refine c_region ?_
    refine w_pure (y_load_boxs rfl) rfl ?_
    refine w_pure (y_move rfl) rfl ?_
    (refine w_call rfl rfl rfl (markCard_c _) rfl ?_; rintro _ w85 ⟨rfl, ⟨hp1_85, hx85⟩⟩)
    have hz_hx85 := hx85.size
    replace hp1_69 := hp1_69.chg hx85 (by omega)
    replace hp1_66 := hp1_66.chg hx85 (by omega)
    replace hb10 := hb10.chg hx85 (by omega)
    replace hb9 := hb9.chg hx85 (by omega)
    replace hb8 := hb8.chg hx85 (by omega)
    replace hb6 := hb6.chg hx85 (by omega)
    replace hb3 := hb3.chg hx85 (by omega)
    replace hb2 := hb2.chg hx85 (by omega)
    replace s0 := s0.chg hx85 (by omega)
    replace s1 := s1.chg hx85 (by omega)
    replace E := E.next hx85 (by omega)
    replace hp1_29 := hp1_29.chg hx85 (by omega)
    replace hp1_31 := hp1_31.chg hx85 (by omega)
    replace hp1_32 := hp1_32.chg hx85 (by omega)
    replace hp1_56 := hp1_56.chg hx85 (by omega)
    replace hp1_61 := hp1_61.chg hx85 (by omega)
    refine w_pure (y_assign rfl) rfl ?_
    refine w_nil ?_
    refine x_next ?_
    refine c_seq ?_
    refine c_region ?_
    refine w_pure (y_assign rfl) rfl ?_
    refine w_nil ?_
    refine x_next ?_
    refine c_seq ?_
    refine c_region ?_
    refine w_pure (y_load_boxs rfl) rfl ?_
    refine w_pure (y_move rfl) rfl ?_
    refine w_val rfl rfl rfl (heldCard_c) rfl (fun w88 hx88 hz88 => ?_)
    have hz_hx88 := hx88.size
    replace hp1_85 := hp1_85.ext hx88
    replace hp1_69 := hp1_69.ext hx88
    replace hp1_66 := hp1_66.ext hx88
    replace hb10 := hb10.ext hx88
    replace hb9 := hb9.ext hx88
    replace hb8 := hb8.ext hx88
    replace hb6 := hb6.ext hx88
    replace hb3 := hb3.ext hx88
    replace hb2 := hb2.ext hx88
    replace s0 := s0.ext hx88
    replace s1 := s1.ext hx88
    replace E := E.trans hx88
    replace hp1_29 := hp1_29.ext hx88
    replace hp1_31 := hp1_31.ext hx88
    replace hp1_32 := hp1_32.ext hx88
    replace hp1_56 := hp1_56.ext hx88
    replace hp1_61 := hp1_61.ext hx88
    refine w_pure (y_assign rfl) rfl ?_
    refine w_nil ?_
    refine x_next ?_
    refine c_seq ?_
    refine c_seq ?_
    refine c_region ?_
    refine w_pure (y_move rfl) rfl ?_
    refine w_pure (y_lt rfl rfl) rfl ?_
    refine w_nil ?_
    refine x_next ?_
    refine c_false rfl ?_
    refine c_skip ?_
    refine x_next ?_
    refine c_seq ?_
    refine c_seq ?_
    refine c_region ?_
    refine w_pure (y_move rfl) rfl ?_
    refine w_pure (y_move rfl) rfl ?_
    refine w_pure (y_ne rfl rfl) rfl ?_
    refine w_nil ?_
    refine x_next ?_
    refine c_nsame rfl ?_
    refine c_skip ?_
    refine x_next ?_
    refine c_seq ?_
    refine c_region_held mixed (fun wr31 hxr31 hzr31 => ?_)
    have hz_hxr31 := hxr31.size
    replace hp1_85 := hp1_85.ext hxr31
    replace hp1_69 := hp1_69.ext hxr31
    replace hp1_66 := hp1_66.ext hxr31
    replace hb10 := hb10.ext hxr31
    replace hb9 := hb9.ext hxr31
    replace hb8 := hb8.ext hxr31
    replace hb6 := hb6.ext hxr31
    replace hb3 := hb3.ext hxr31
    replace hb2 := hb2.ext hxr31
    replace s0 := s0.ext hxr31
    replace s1 := s1.ext hxr31
    replace E := E.trans hxr31
    replace hp1_29 := hp1_29.ext hxr31
    replace hp1_31 := hp1_31.ext hxr31
    replace hp1_32 := hp1_32.ext hxr31
    replace hp1_56 := hp1_56.ext hxr31
    replace hp1_61 := hp1_61.ext hxr31
    refine h_pure rfl (y_load_boxs rfl) rfl ?_
    refine h_maybe1 (p0 := ⟨8, 15, _⟩) (PA.mk_ok rfl rfl rfl) ?_
    refine m1_turn ?_
    refine m1_pure rfl (y_load_boxs rfl) rfl ?_
    refine m1_turn ?_
    refine m1_turn ?_
    refine m1_turn ?_
    refine m1_turn ?_
    refine m1_turn ?_
    refine m1_turn ?_
    refine m1_turn ?_
    refine m1_call (PA.mk_ok rfl rfl rfl) rfl rfl rfl rfl rfl (fun w96m hx96m => ?_)
    have hz_hx96m := hx96m.size
    replace hp1_85 := hp1_85.ext hx96m
    replace hp1_69 := hp1_69.ext hx96m
    replace hp1_66 := hp1_66.ext hx96m
    replace hb10 := hb10.ext hx96m
    replace hb9 := hb9.ext hx96m
    replace hb8 := hb8.ext hx96m
    replace hb6 := hb6.ext hx96m
    replace hb3 := hb3.ext hx96m
    replace hb2 := hb2.ext hx96m
    replace s0 := s0.ext hx96m
    replace s1 := s1.ext hx96m
    replace E := E.trans hx96m
    replace hp1_29 := hp1_29.ext hx96m
    replace hp1_31 := hp1_31.ext hx96m
    replace hp1_32 := hp1_32.ext hx96m
    replace hp1_56 := hp1_56.ext hx96m
    replace hp1_61 := hp1_61.ext hx96m
    (refine mc_ret (toBoard_c) ?_; rintro _ w96 ⟨d96, ⟨rfl, ⟨hp1_96, hx96⟩⟩⟩; refine ⟨hx96, ?_⟩)
    have hz_hx96 := hx96.size
    replace hp1_85 := hp1_85.ext hx96
    replace hp1_69 := hp1_69.ext hx96
    replace hp1_66 := hp1_66.ext hx96
    replace hb10 := hb10.ext hx96
    replace hb9 := hb9.ext hx96
    replace hb8 := hb8.ext hx96
    replace hb6 := hb6.ext hx96
    replace hb3 := hb3.ext hx96
    replace hb2 := hb2.ext hx96
    replace s0 := s0.ext hx96
    replace s1 := s1.ext hx96
    replace E := E.trans hx96
    replace hp1_29 := hp1_29.ext hx96
    replace hp1_31 := hp1_31.ext hx96
    replace hp1_32 := hp1_32.ext hx96
    replace hp1_56 := hp1_56.ext hx96
    replace hp1_61 := hp1_61.ext hx96
    replace hp1_96 := hp1_96.fresh
    refine m1_call (PA.mk_ok rfl rfl rfl) rfl rfl rfl rfl rfl (fun w98m hx98m => ?_)
    have hz_hx98m := hx98m.size
    replace hp1_85 := hp1_85.ext hx98m
    replace hp1_69 := hp1_69.ext hx98m
    replace hp1_66 := hp1_66.ext hx98m
    replace hb10 := hb10.ext hx98m
    replace hb9 := hb9.ext hx98m
    replace hb8 := hb8.ext hx98m
    replace hb6 := hb6.ext hx98m
    replace hb3 := hb3.ext hx98m
    replace hb2 := hb2.ext hx98m
    replace s0 := s0.ext hx98m
    replace s1 := s1.ext hx98m
    replace E := E.trans hx98m
    replace hp1_29 := hp1_29.ext hx98m
    replace hp1_31 := hp1_31.ext hx98m
    replace hp1_32 := hp1_32.ext hx98m
    replace hp1_56 := hp1_56.ext hx98m
    replace hp1_61 := hp1_61.ext hx98m
    replace hp1_96 := hp1_96.ext hx98m
    (refine mc_ret (toCard_c _) ?_; rintro _ w98 ⟨d98, ⟨rfl, ⟨hp1_98, hx98⟩⟩⟩; refine ⟨hx98, ?_⟩)
    have hz_hx98 := hx98.size
    replace hp1_85 := hp1_85.ext hx98
    replace hp1_69 := hp1_69.ext hx98
    replace hp1_66 := hp1_66.ext hx98
    replace hb10 := hb10.ext hx98
    replace hb9 := hb9.ext hx98
    replace hb8 := hb8.ext hx98
    replace hb6 := hb6.ext hx98
    replace hb3 := hb3.ext hx98
    replace hb2 := hb2.ext hx98
    replace s0 := s0.ext hx98
    replace s1 := s1.ext hx98
    replace E := E.trans hx98
    replace hp1_29 := hp1_29.ext hx98
    replace hp1_31 := hp1_31.ext hx98
    replace hp1_32 := hp1_32.ext hx98
    replace hp1_56 := hp1_56.ext hx98
    replace hp1_61 := hp1_61.ext hx98
    replace hp1_96 := hp1_96.ext hx98
    replace hp1_98 := hp1_98.fresh
    refine m1_call (PA.mk_ok rfl rfl rfl) rfl rfl rfl rfl rfl (fun w99m hx99m => ?_)
    have hz_hx99m := hx99m.size
    replace hp1_85 := hp1_85.ext hx99m
    replace hp1_69 := hp1_69.ext hx99m
    replace hp1_66 := hp1_66.ext hx99m
    replace hb10 := hb10.ext hx99m
    replace hb9 := hb9.ext hx99m
    replace hb8 := hb8.ext hx99m
    replace hb6 := hb6.ext hx99m
    replace hb3 := hb3.ext hx99m
    replace hb2 := hb2.ext hx99m
    replace s0 := s0.ext hx99m
    replace s1 := s1.ext hx99m
    replace E := E.trans hx99m
    replace hp1_29 := hp1_29.ext hx99m
    replace hp1_31 := hp1_31.ext hx99m
    replace hp1_32 := hp1_32.ext hx99m
    replace hp1_56 := hp1_56.ext hx99m
    replace hp1_61 := hp1_61.ext hx99m
    replace hp1_96 := hp1_96.ext hx99m
    replace hp1_98 := hp1_98.ext hx99m
    (refine mc_ret (iRouteCard_c) ?_; rintro _ w99 ⟨d99, ⟨rfl, ⟨hp1_99, hx99⟩⟩⟩; refine ⟨hx99, ?_⟩)
    have hz_hx99 := hx99.size
    replace hp1_85 := hp1_85.ext hx99
    replace hp1_69 := hp1_69.ext hx99
    replace hp1_66 := hp1_66.ext hx99
    replace hb10 := hb10.ext hx99
    replace hb9 := hb9.ext hx99
    replace hb8 := hb8.ext hx99
    replace hb6 := hb6.ext hx99
    replace hb3 := hb3.ext hx99
    replace hb2 := hb2.ext hx99
    replace s0 := s0.ext hx99
    replace s1 := s1.ext hx99
    replace E := E.trans hx99
    replace hp1_29 := hp1_29.ext hx99
    replace hp1_31 := hp1_31.ext hx99
    replace hp1_32 := hp1_32.ext hx99
    replace hp1_56 := hp1_56.ext hx99
    replace hp1_61 := hp1_61.ext hx99
    replace hp1_96 := hp1_96.ext hx99
    replace hp1_98 := hp1_98.ext hx99
    replace hp1_99 := hp1_99.fresh
    refine m1_pure rfl (y_move rfl) rfl ?_
    refine m1_pure rfl (y_extract rfl rfl) rfl ?_
    refine m1_any rfl (fun _ => y_extract rfl rfl) rfl ?_
    (refine m1_end (PA.mk_ok rfl rfl rfl) ?_; intro w15e hx15e hz15e b15 hb15 hlb15 hg15; simp only [Gaps, and_true] at hg15; have hu15 := hb15.lt)
    have hz_hx15e := hx15e.size
    replace hp1_85 := hp1_85.ext hx15e
    replace hp1_69 := hp1_69.ext hx15e
    replace hp1_66 := hp1_66.ext hx15e
    replace hb10 := hb10.ext hx15e
    replace hb9 := hb9.ext hx15e
    replace hb8 := hb8.ext hx15e
    replace hb6 := hb6.ext hx15e
    replace hb3 := hb3.ext hx15e
    replace hb2 := hb2.ext hx15e
    replace s0 := s0.ext hx15e
    replace s1 := s1.ext hx15e
    replace E := E.trans hx15e
    replace hp1_29 := hp1_29.ext hx15e
    replace hp1_31 := hp1_31.ext hx15e
    replace hp1_32 := hp1_32.ext hx15e
    replace hp1_56 := hp1_56.ext hx15e
    replace hp1_61 := hp1_61.ext hx15e
    replace hp1_96 := hp1_96.ext hx15e
    replace hp1_98 := hp1_98.ext hx15e
    replace hp1_99 := hp1_99.ext hx15e
    refine h_one rfl ?_
    refine w_store_boxs rfl rfl (next := fun ws304 hbs304 hxs304 hss304 => ?_)
    (replace hb15 := hbs304; clear hbs304)
    have hz_hxs304 := hxs304.size
    replace hp1_85 := hp1_85.chg hxs304 (by omega)
    replace hp1_69 := hp1_69.chg hxs304 (by omega)
    replace hp1_66 := hp1_66.chg hxs304 (by omega)
    replace hb10 := hb10.chg hxs304 (by omega)
    replace hb9 := hb9.chg hxs304 (by omega)
    replace hb8 := hb8.chg hxs304 (by omega)
    replace hb6 := hb6.chg hxs304 (by omega)
    replace hb3 := hb3.chg hxs304 (by omega)
    replace hb2 := hb2.chg hxs304 (by omega)
    replace s0 := s0.chg hxs304 (by omega)
    replace s1 := s1.chg hxs304 (by omega)
    replace E := E.next hxs304 (by omega)
    replace hp1_29 := hp1_29.chg hxs304 (by omega)
    replace hp1_31 := hp1_31.chg hxs304 (by omega)
    replace hp1_32 := hp1_32.chg hxs304 (by omega)
    replace hp1_56 := hp1_56.chg hxs304 (by omega)
    replace hp1_61 := hp1_61.chg hxs304 (by omega)
    replace hp1_96 := hp1_96.chg hxs304 (by omega)
    replace hp1_98 := hp1_98.chg hxs304 (by omega)
    replace hp1_99 := hp1_99.chg hxs304 (by omega)
    refine w_nil ?_
    refine x_heldk ?_
    refine h_pure rfl (y_assign rfl) rfl ?_
    refine h_nil ?_
    refine x_next ?_
    refine c_seq ?_
    refine c_seq ?_
    refine c_region ?_
    refine w_pure (y_load_boxs rfl) rfl ?_
    refine w_pure (y_load_boxs rfl) rfl ?_
    refine w_val rfl rfl rfl (eqCard_c) rfl (fun w104 hx104 hz104 => ?_)
    have hz_hx104 := hx104.size
    replace hb15 := hb15.ext hx104
    replace hp1_85 := hp1_85.ext hx104
    replace hp1_69 := hp1_69.ext hx104
    replace hp1_66 := hp1_66.ext hx104
    replace hb10 := hb10.ext hx104
    replace hb9 := hb9.ext hx104
    replace hb8 := hb8.ext hx104
    replace hb6 := hb6.ext hx104
    replace hb3 := hb3.ext hx104
    replace hb2 := hb2.ext hx104
    replace s0 := s0.ext hx104
    replace s1 := s1.ext hx104
    replace E := E.trans hx104
    replace hp1_29 := hp1_29.ext hx104
    replace hp1_31 := hp1_31.ext hx104
    replace hp1_32 := hp1_32.ext hx104
    replace hp1_56 := hp1_56.ext hx104
    replace hp1_61 := hp1_61.ext hx104
    replace hp1_96 := hp1_96.ext hx104
    replace hp1_98 := hp1_98.ext hx104
    replace hp1_99 := hp1_99.ext hx104
    refine w_pure (y_not_dec rfl) rfl ?_
    refine w_pure (y_move rfl) rfl ?_
    (refine w_part_dec rfl rfl (fun hc107 => ?_) (fun hc107 => ?_) <;> try (first | exact absurd rfl hc107 | contradiction | exact Bool.noConfusion (show false = true from hc107.symm.trans (by assumption)) | exact Bool.noConfusion (show true = false from hc107.symm.trans (by assumption)) | (exfalso; omega) | (exfalso; simp only [*, Bool.not_true, Bool.not_false, reduceCtorEq] at hc107; done)))
    refine w_yes rfl rfl ?_
    refine w_pure (y_move rfl) rfl ?_
    refine w_yes rfl rfl ?_
    refine w_pure (y_move rfl) rfl ?_
    refine w_yes rfl rfl ?_
    refine w_pure (y_ne rfl rfl) rfl ?_
    refine w_pure (y_pick_f rfl rfl) rfl ?_
    refine w_nil ?_
    refine x_next ?_
    refine c_nsame rfl ?_
    refine c_skip ?_
    refine x_next ?_
    refine c_seq ?_
    refine c_region ?_
    refine w_pure (y_assign rfl) rfl ?_
    refine w_nil ?_
    refine x_next ?_
    refine c_seq ?_
    refine c_region ?_
    refine w_pure (y_load_boxs rfl) rfl ?_
    refine w_pure (y_move rfl) rfl ?_
    refine w_val rfl rfl rfl (heldCard_c) rfl (fun w113 hx113 hz113 => ?_)
    have hz_hx113 := hx113.size
    replace hb15 := hb15.ext hx113
    replace hp1_85 := hp1_85.ext hx113
    replace hp1_69 := hp1_69.ext hx113
    replace hp1_66 := hp1_66.ext hx113
    replace hb10 := hb10.ext hx113
    replace hb9 := hb9.ext hx113
    replace hb8 := hb8.ext hx113
    replace hb6 := hb6.ext hx113
    replace hb3 := hb3.ext hx113
    replace hb2 := hb2.ext hx113
    replace s0 := s0.ext hx113
    replace s1 := s1.ext hx113
    replace E := E.trans hx113
    replace hp1_29 := hp1_29.ext hx113
    replace hp1_31 := hp1_31.ext hx113
    replace hp1_32 := hp1_32.ext hx113
    replace hp1_56 := hp1_56.ext hx113
    replace hp1_61 := hp1_61.ext hx113
    replace hp1_96 := hp1_96.ext hx113
    replace hp1_98 := hp1_98.ext hx113
    replace hp1_99 := hp1_99.ext hx113
    refine w_pure (y_assign rfl) rfl ?_
    refine w_nil ?_
    refine x_next ?_
    refine c_seq ?_
    refine c_seq ?_
    refine c_region ?_
    refine w_pure (y_move rfl) rfl ?_
    refine w_pure (y_lt rfl rfl) rfl ?_
    refine w_nil ?_
    refine x_next ?_
    refine c_false rfl ?_
    refine c_skip ?_
    refine x_next ?_
    refine c_seq ?_
    refine c_seq ?_
    refine c_region ?_
    refine w_pure (y_move rfl) rfl ?_
    refine w_pure (y_move rfl) rfl ?_
    refine w_pure (y_ne rfl rfl) rfl ?_
    refine w_nil ?_
    refine x_next ?_
    refine c_nsame rfl ?_
    refine c_skip ?_
    refine x_next ?_
    refine c_seq ?_
    refine c_region ?_
    refine w_pure (y_assign rfl) rfl ?_
    refine w_nil ?_
    refine x_next ?_
    refine c_ret ?_
    exact x_retv [_] rfl ⟨rfl, trivial⟩ ⟨rfl, E.go⟩
end
end Go.Proofs.Ytoknchhgjodpaaa

/- Contracts: a card is routed through a board. -/
import Derived.Test.YthigkbkaeopipaaRteA
namespace Go.Proofs.Ythigkbkaeopipaa
open Go Go.Gw
set_option linter.unusedVariables false
set_option linter.unusedSimpArgs false
/-- the masks at the first of some columns, taken together -/
def orsP (xs l : List Int) : Nat → Int
  | 0 => 0
  | i + 1 => orI (orsP xs l i) (xs.getD (l.getD i 0).toNat 0)
def rteP (xs : List Int) (f : Int → List Int) : Nat → List Int
  | 0 => []
  | k + 1 => rteP xs f k ++ [orsP xs (f k) (f k).length]
theorem rteP_len (xs : List Int) (f : Int → List Int) : ∀ k, (rteP xs f k).length = k
  | 0 => rfl
  | k + 1 => by rw [rteP, List.length_append, rteP_len xs f k]; rfl
theorem orsP_bd {xs l : List Int} (h : okK xs = true) : ∀ i, i ≤ l.length → (∀ m, m < l.length → 0 ≤ l.getD m 0 ∧ l.getD m 0 < xs.length) → 0 ≤ orsP xs l i ∧ orsP xs l i ≤ 4095
  | 0, _, _ => by simp [orsP]
  | i + 1, hi, hl => by
    have h1 := orsP_bd h i (by omega) hl
    have h2 := hl i (by omega)
    have h3 := okK_getD h (l.getD i 0).toNat (by omega)
    rw [orsP]
    exact orI_12 h1.2 h3.2
theorem colsP_memR {p : Int → Bool} : ∀ i, ∀ x ∈ colsP p i, 0 ≤ x ∧ x < i
  | 0, x, h => by simp [colsP] at h
  | i + 1, x, h => by
    rw [colsP, List.mem_append] at h
    rcases h with h | h
    · have := colsP_memR i x h; omega
    · split at h
      · simp at h; omega
      · simp at h
theorem srcF_getD {e n j k : Int} {ws : List (Int × Int)} (he : 0 ≤ e) {m : Nat} (hm : m < (srcF e n j ws k).length) : 0 ≤ (srcF e n j ws k).getD m 0 ∧ (srcF e n j ws k).getD m 0 < e := by
  rw [List.getD_eq_getElem?_getD, List.getElem?_eq_getElem hm]
  have := colsP_memR _ _ (List.getElem_mem hm)
  simp only [Option.getD_some]
  omega
theorem srcF_len (e n j k : Int) (ws : List (Int × Int)) : (srcF e n j ws k).length ≤ e.toNat := colsP_len _ _
def cRte (e n j : Int) (ws : List (Int × Int)) (xs : List Int) : Int := if okB e n j ws = true ∧ okK xs = true then (if (xs.length : Int) = e then 0 else 6) else 1
def resRte (e n j : Int) (ws : List (Int × Int)) (xs : List Int) : List Int := if cRte e n j ws xs = 0 then rteP xs (srcF e n j ws) n.toNat else []
/-- while a line is being filled: those filled, the one under way, zeros -/
def fillP (xs : List Int) (f : Int → List Int) (n k i : Nat) : List Int := rteP xs f k ++ (orsP xs (f k) i :: List.replicate (n - k - 1) 0)
theorem fillP_len {xs : List Int} {f : Int → List Int} {n k i : Nat} (h : k < n) : (fillP xs f n k i).length = n := by
  rw [fillP, List.length_append, rteP_len]; simp; omega
theorem fillP_get {xs : List Int} {f : Int → List Int} {n k i : Nat} : (fillP xs f n k i).getD k 0 = orsP xs (f k) i := by
  rw [fillP, List.getD_eq_getElem?_getD, List.getElem?_append_right (by rw [rteP_len]; omega), rteP_len, Nat.sub_self]; rfl
theorem fillP_set {xs : List Int} {f : Int → List Int} {n k i : Nat} : (fillP xs f n k i).set k (orI (orsP xs (f k) i) (xs.getD ((f k).getD i 0).toNat 0)) = fillP xs f n k (i + 1) := by
  rw [fillP, List.set_append_right _ _ (by rw [rteP_len]; omega), rteP_len, Nat.sub_self, List.set_cons_zero]; rfl
theorem fillP_zero {xs : List Int} {f : Int → List Int} {n k : Nat} (h : k < n) : rteP xs f k ++ List.replicate (n - k) 0 = fillP xs f n k 0 := by
  rw [fillP, show n - k = n - k - 1 + 1 by omega, List.replicate_succ]; rfl
theorem fillP_full {xs : List Int} {f : Int → List Int} {n k : Nat} : fillP xs f n k (f k).length = rteP xs f (k + 1) ++ List.replicate (n - (k + 1)) 0 := by
  rw [fillP, rteP, List.append_assoc, Nat.sub_sub]; rfl
section
variable {w : World} {lo hi lo' hi' : Nat} {v v' v2 : Value} {xs ys : List Int} {ws us : List (Int × Int)} {b b' b2 b3 : Nat} {e n j : Int}
set_option maxHeartbeats 4000000 in
theorem iRouteCard_c (h : SL w lo hi v ws := by repeat (first | assumption | exact Go.Gw.Own.sl (by assumption) | exact Go.Gw.Box.at (by assumption) | exact Go.Gw.SLL.el (by first | assumption | exact Go.Gw.OwnD.sll (by assumption)) _ (by omega) | exact Go.Gw.SLL.at (by first | assumption | exact Go.Gw.OwnD.sll (by assumption)) (by omega) | exact Go.Gw.OwnD.sll (by assumption) | (apply Go.Gw.SL.chg; case hx => assumption) | (apply Go.Gw.Own.chg; case hx => assumption) | (apply Go.Gw.Box.chg; case hx => assumption) | (apply Go.Gw.At.chg; case hx => assumption) | exact .inl (Nat.zero_le _) | exact .inr (Nat.zero_le _) | (show _ ∨ _; omega))) (h' : SL w lo' hi' v' xs := by repeat (first | assumption | exact Go.Gw.Own.sl (by assumption) | exact Go.Gw.Box.at (by assumption) | exact Go.Gw.SLL.el (by first | assumption | exact Go.Gw.OwnD.sll (by assumption)) _ (by omega) | exact Go.Gw.SLL.at (by first | assumption | exact Go.Gw.OwnD.sll (by assumption)) (by omega) | exact Go.Gw.OwnD.sll (by assumption) | (apply Go.Gw.SL.chg; case hx => assumption) | (apply Go.Gw.Own.chg; case hx => assumption) | (apply Go.Gw.Box.chg; case hx => assumption) | (apply Go.Gw.At.chg; case hx => assumption) | exact .inl (Nat.zero_le _) | exact .inr (Nat.zero_le _) | (show _ ∨ _; omega))) : Ret Try.prog 37 [.agg #[.int .i64 e, .int .i64 n, .int .i64 j, v], .agg #[v']] w fun u w' =>
    ∃ d, u = .tuple #[.agg #[d], .int .i64 (cRte e n j ws xs)] ∧ Own w' 2 w.heap.size d (resRte e n j ws xs) ∧ Ext w w' := by
  have E : Since 0 0 w w := Since.refl 0 0 w
  by_cases hk : okB e n j ws = true
  · have q1 := okB_num hk
    by_cases hx : okK xs = true
    · have q2 := okK_len hx
      by_cases he : (xs.length : Int) = e
      · have ec : cRte e n j ws xs = 0 := by rw [cRte, if_pos ⟨hk, hx⟩, if_pos he]
        refine ret_enter Try.func37 rfl Try.ntmps37 rfl ?_
        focus
          have ht_h := h.top
          have ht_h' := h'.top
          refine c_seq ?_
          refine c_region ?_
          refine w_box rfl (k := fun b2 w2 hb2 hx2 hl2 hs2 => ?_)
          have hz_hx2 := hx2.size
          replace h := h.ext hx2
          replace h' := h'.ext hx2
          replace E := E.trans hx2
          refine w_box rfl (k := fun b3 w3 hb3 hx3 hl3 hs3 => ?_)
          have hz_hx3 := hx3.size
          replace hb2 := hb2.ext hx3
          replace h := h.ext hx3
          replace h' := h'.ext hx3
          replace E := E.trans hx3
          refine w_alloc (k := fun b4 w4 hb4 hx4 hl4 hs4 => ?_)
          have hz_hx4 := hx4.size
          replace hb3 := hb3.ext hx4
          replace hb2 := hb2.ext hx4
          replace h := h.ext hx4
          replace h' := h'.ext hx4
          replace E := E.trans hx4
          refine w_pure (y_assign rfl) rfl ?_
          refine w_nil ?_
          refine x_next ?_
          refine c_seq ?_
          refine c_block ?_
          refine c_seq ?_
          refine c_region ?_
          refine w_pure (y_load_boxs rfl) rfl ?_
          refine w_val rfl rfl rfl (iValidBoard_c) rfl (fun w12 hx12 hz12 => ?_)
          have hz_hx12 := hx12.size
          replace hb4 := hb4.ext hx12
          replace hb3 := hb3.ext hx12
          replace hb2 := hb2.ext hx12
          replace h := h.ext hx12
          replace h' := h'.ext hx12
          replace E := E.trans hx12
          refine w_pure (y_not rfl) rfl ?_
          refine w_pure (y_move rfl) rfl ?_
          (refine w_part rfl rfl (fun hc15 => ?_) (fun hc15 => ?_) <;> try (first | exact absurd rfl hc15 | contradiction | exact Bool.noConfusion (show false = true from hc15.symm.trans (by assumption)) | exact Bool.noConfusion (show true = false from hc15.symm.trans (by assumption)) | (exfalso; omega) | (exfalso; simp only [*, Bool.not_true, Bool.not_false, reduceCtorEq] at hc15; done)))
          refine w_yes rfl rfl ?_
          refine w_pure (y_load_boxs rfl) rfl ?_
          refine w_yes rfl rfl ?_
          refine w_val rfl rfl rfl (iValidCard_c) rfl (fun w16 hx16 hz16 => ?_)
          have hz_hx16 := hx16.size
          replace hb4 := hb4.ext hx16
          replace hb3 := hb3.ext hx16
          replace hb2 := hb2.ext hx16
          replace h := h.ext hx16
          replace h' := h'.ext hx16
          replace E := E.trans hx16
          refine w_yes rfl rfl ?_
          refine w_pure (y_not rfl) rfl ?_
          refine w_pure (y_pick_f rfl rfl) rfl ?_
          refine w_pure (y_assign rfl) rfl ?_
          refine w_nil ?_
          refine x_next ?_
          (refine c_not rfl (fun hc10 => ?_) (fun hc10 => ?_) <;> try (first | exact absurd rfl hc10 | contradiction | exact Bool.noConfusion (show false = true from hc10.symm.trans (by assumption)) | exact Bool.noConfusion (show true = false from hc10.symm.trans (by assumption)) | (exfalso; omega) | (exfalso; simp only [*, Bool.not_true, Bool.not_false, reduceCtorEq] at hc10; done)))
          refine c_seq ?_
          refine c_region_held mixed (fun wr3 hxr3 hzr3 => ?_)
          have hz_hxr3 := hxr3.size
          replace hb4 := hb4.ext hxr3
          replace hb3 := hb3.ext hxr3
          replace hb2 := hb2.ext hxr3
          replace h := h.ext hxr3
          replace h' := h'.ext hxr3
          replace E := E.trans hxr3
          refine h_pure rfl (y_load_boxs rfl) rfl ?_
          refine h_turn ?_
          refine h_pure rfl (y_field rfl) rfl ?_
          refine h_pure rfl (y_load_box rfl) rfl ?_
          refine h_turn ?_
          refine h_turn ?_
          refine h_one rfl ?_
          refine w_val rfl rfl rfl (columns_c) rfl (fun w22 hx22 hz22 => ?_)
          have hz_hx22 := hx22.size
          replace hb4 := hb4.ext hx22
          replace hb3 := hb3.ext hx22
          replace hb2 := hb2.ext hx22
          replace h := h.ext hx22
          replace h' := h'.ext hx22
          replace E := E.trans hx22
          refine w_nil ?_
          refine x_held ?_
          refine h_pure rfl (y_ne rfl rfl) rfl ?_
          refine h_pure rfl (y_assign rfl) rfl ?_
          refine h_nil ?_
          refine x_next ?_
          (refine c_dec rfl (fun hc20 => ?_) (fun hc20 => ?_) <;> try (first | exact absurd rfl hc20 | contradiction | exact Bool.noConfusion (show false = true from hc20.symm.trans (by assumption)) | exact Bool.noConfusion (show true = false from hc20.symm.trans (by assumption)) | (exfalso; omega) | (exfalso; simp only [*, Bool.not_true, Bool.not_false, reduceCtorEq] at hc20; done)))
          refine c_skip ?_
          refine x_block_norm ?_
          refine x_next ?_
          refine c_seq ?_
          refine c_region ?_
          refine w_pure (y_field rfl) rfl ?_
          refine w_pure (y_load_box rfl) rfl ?_
          (refine w_call rfl rfl rfl (blank_c _) rfl ?_; rintro _ w29 ⟨d29, ⟨rfl, ⟨hp1_29, hx29⟩⟩⟩)
          have hl_hp1_29 := hp1_29.lt
          have hz_hx29 := hx29.size
          replace hb4 := hb4.ext hx29
          replace hb3 := hb3.ext hx29
          replace hb2 := hb2.ext hx29
          replace h := h.ext hx29
          replace h' := h'.ext hx29
          replace E := E.trans hx29
          refine w_alloc (k := fun b6 w6 hb6 hx6 hl6 hs6 => ?_)
          have hz_hx6 := hx6.size
          replace hp1_29 := hp1_29.ext hx6
          replace hb4 := hb4.ext hx6
          replace hb3 := hb3.ext hx6
          replace hb2 := hb2.ext hx6
          replace h := h.ext hx6
          replace h' := h'.ext hx6
          replace E := E.trans hx6
          refine w_store_boxs rfl rfl (next := fun ws55 hbs55 hxs55 hss55 => ?_)
          (replace hb6 := hbs55; clear hbs55)
          have hz_hxs55 := hxs55.size
          replace hp1_29 := hp1_29.chg hxs55 (by omega)
          replace hb4 := hb4.chg hxs55 (by omega)
          replace hb3 := hb3.chg hxs55 (by omega)
          replace hb2 := hb2.chg hxs55 (by omega)
          replace h := h.chg hxs55 (by omega)
          replace h' := h'.chg hxs55 (by omega)
          replace E := E.next hxs55 (by omega)
          refine w_nil ?_
          refine x_next ?_
          refine c_seq ?_
          refine c_seq ?_
          refine c_region ?_
          refine w_pure (y_field rfl) rfl ?_
          refine w_pure (y_load_box rfl) rfl ?_
          refine w_pure (y_move rfl) rfl ?_
          refine w_nil ?_
          refine x_next ?_
          refine c_block ?_
          rotate_left
        refine c_loopC (bL d29) (bH d29) (ι := Nat) (fun x => [(2, ptr b2 0), (3, ptr b3 0), (4, ptr b4 0), (6, ptr b6 0), (31, .int .i64 n), (32, .int .i64 x)]) (fun x w' => Own w' 2 w.heap.size d29 (rteP xs (srcF e n j ws) x ++ List.replicate (n.toNat - x) 0) ∧ (x : Int) ≤ n) (fun x => n.toNat - x) 0 (by repeat (first | exact trivial | refine ⟨rfl, ?_⟩)) ⟨by simpa [rteP] using hp1_29.base (by omega), by omega⟩ ?_
        rintro k wL hxL EL ⟨ho, hi⟩
        clear hp1_29
        by_cases hlt : (k : Int) < n
        · rw [fillP_zero (by omega)] at ho
          have q3 := srcF_len e n j k ws
          focus
            have hl_ho := ho.lt
            have hz_hxL := hxL.size
            replace hb6 := hb6.chg hxL (by omega)
            replace hb4 := hb4.chg hxL (by omega)
            replace hb3 := hb3.chg hxL (by omega)
            replace hb2 := hb2.chg hxL (by omega)
            replace h := h.chg hxL (by omega)
            replace h' := h'.chg hxL (by omega)
            replace E := E.next hxL (by omega)
            refine c_seq ?_
            refine c_region ?_
            refine w_pure (y_lt rfl rfl) rfl ?_
            refine w_nil ?_
            refine x_next ?_
            refine c_seq ?_
            (refine c_dec rfl (fun hc33 => ?_) (fun hc33 => ?_) <;> try (first | exact absurd rfl hc33 | contradiction | exact Bool.noConfusion (show false = true from hc33.symm.trans (by assumption)) | exact Bool.noConfusion (show true = false from hc33.symm.trans (by assumption)) | (exfalso; omega) | (exfalso; simp only [*, Bool.not_true, Bool.not_false, reduceCtorEq] at hc33; done)))
            refine c_skip ?_
            refine x_next ?_
            refine c_seq ?_
            refine c_block ?_
            refine c_seq ?_
            refine c_region ?_
            refine w_pure (y_move rfl) rfl ?_
            refine w_pure (y_assign rfl) rfl ?_
            refine w_nil ?_
            refine x_next ?_
            refine c_seq ?_
            refine c_region ?_
            refine w_pure (y_load_boxs rfl) rfl ?_
            refine w_pure (y_move rfl) rfl ?_
            (refine w_call rfl rfl rfl (sourcesOf_c _) rfl ?_; rintro v37 w37 ⟨hp1_37, hx37⟩)
            have hl_hp1_37 := hp1_37.lt
            have hz_hx37 := hx37.size
            replace EL := EL.next hx37 (by omega)
            replace ho := ho.ext hx37
            replace hb6 := hb6.ext hx37
            replace hb4 := hb4.ext hx37
            replace hb3 := hb3.ext hx37
            replace hb2 := hb2.ext hx37
            replace h := h.ext hx37
            replace h' := h'.ext hx37
            replace E := E.trans hx37
            refine w_pure (y_len rfl) rfl ?_
            refine w_pure (y_move rfl) rfl ?_
            refine w_nil ?_
            refine x_next ?_
            refine c_block ?_
            rotate_left
          refine c_loopC (bL d29) (bH d29) (ι := Nat) (fun x => [(2, ptr b2 0), (3, ptr b3 0), (4, ptr b4 0), (6, ptr b6 0), (7, .int .i64 k), (31, .int .i64 n), (32, .int .i64 k), (37, v37), (38, .int .i64 (srcF e n j ws k).length), (39, .int .i64 x)]) (fun x w' => Own w' 2 w.heap.size d29 (fillP xs (srcF e n j ws) n.toNat k x) ∧ x ≤ (srcF e n j ws k).length) (fun x => (srcF e n j ws k).length - x) 0 (by repeat (first | exact trivial | refine ⟨rfl, ?_⟩)) ⟨ho, by omega⟩ ?_
          rintro i wM hxM EM ⟨hom, hm⟩
          clear ho
          have q4 := fillP_len (xs := xs) (f := srcF e n j ws) (n := n.toNat) (k := k) (i := i) (by omega)
          have hg : (fillP xs (srcF e n j ws) n.toNat k i).getD (k : Int).toNat 0 = orsP xs (srcF e n j ws k) i := fillP_get
          have q5 := orsP_bd (l := srcF e n j ws k) hx i hm (fun m hm => by rw [he]; exact srcF_getD (by omega) hm)
          by_cases hlt2 : i < (srcF e n j ws k).length
          · have q6 := srcF_getD (k := k) (ws := ws) (j := j) (n := n) (e := e) (by omega) hlt2
            have q6 : 0 ≤ (srcF e n j ws k).getD (i : Int).toNat 0 ∧ (srcF e n j ws k).getD (i : Int).toNat 0 < e := q6
            have q7 := okK_getD hx ((srcF e n j ws k).getD (i : Int).toNat 0).toNat (by omega)
            focus
              have hl_hom := hom.lt
              have hz_hxM := hxM.size
              replace hp1_37 := hp1_37.chg hxM (by omega)
              replace EL := EL.trans hxM
              replace hb6 := hb6.chg hxM (by omega)
              replace hb4 := hb4.chg hxM (by omega)
              replace hb3 := hb3.chg hxM (by omega)
              replace hb2 := hb2.chg hxM (by omega)
              replace h := h.chg hxM (by omega)
              replace h' := h'.chg hxM (by omega)
              replace E := E.next hxM (by omega)
              refine c_seq ?_
              refine c_region ?_
              refine w_pure (y_lt rfl rfl) rfl ?_
              refine w_nil ?_
              refine x_next ?_
              refine c_seq ?_
              (refine c_dec rfl (fun hc40 => ?_) (fun hc40 => ?_) <;> try (first | exact absurd rfl hc40 | contradiction | exact Bool.noConfusion (show false = true from hc40.symm.trans (by assumption)) | exact Bool.noConfusion (show true = false from hc40.symm.trans (by assumption)) | (exfalso; omega) | (exfalso; simp only [*, Bool.not_true, Bool.not_false, reduceCtorEq] at hc40; done)))
              refine c_skip ?_
              refine x_next ?_
              refine c_seq ?_
              refine c_block ?_
              refine c_seq ?_
              refine c_region ?_
              refine w_pure (y_index rfl rfl) rfl ?_
              refine w_pure (y_load_int rfl) rfl ?_
              refine w_pure (y_assign rfl) rfl ?_
              refine w_nil ?_
              refine x_next ?_
              refine c_region_held mixed (fun wr12 hxr12 hzr12 => ?_)
              have hz_hxr12 := hxr12.size
              replace EM := EM.next hxr12 (by omega)
              replace hom := hom.ext hxr12
              replace hp1_37 := hp1_37.ext hxr12
              replace EL := EL.next hxr12 (by omega)
              replace hb6 := hb6.ext hxr12
              replace hb4 := hb4.ext hxr12
              replace hb3 := hb3.ext hxr12
              replace hb2 := hb2.ext hxr12
              replace h := h.ext hxr12
              replace h' := h'.ext hxr12
              replace E := E.trans hxr12
              refine h_pure rfl (y_field rfl) rfl ?_
              refine h_pure rfl (y_load_box rfl) rfl ?_
              refine h_pure rfl (y_move rfl) rfl ?_
              refine h_pure rfl (y_index rfl rfl) rfl ?_
              refine h_pure rfl (y_load_inte rfl hg) rfl ?_
              refine h_pure rfl (y_field rfl) rfl ?_
              refine h_pure rfl (y_load_box rfl) rfl ?_
              refine h_pure rfl (y_move rfl) rfl ?_
              refine h_pure rfl (y_index rfl rfl) rfl ?_
              refine h_pure rfl (y_load_int rfl) rfl ?_
              refine h_pure rfl (y_or rfl rfl) rfl ?_
              refine h_pure rfl (y_index rfl rfl) rfl ?_
              refine h_one rfl ?_
              refine w_store_own rfl rfl (next := fun ws33 hos33 hxs33 hss33 => ?_)
              (replace hom := hos33; clear hos33)
              have hz_hxs33 := hxs33.size
              replace EM := EM.trans hxs33
              replace hp1_37 := hp1_37.chg hxs33 (by omega)
              replace EL := EL.trans hxs33
              replace hb6 := hb6.chg hxs33 (by omega)
              replace hb4 := hb4.chg hxs33 (by omega)
              replace hb3 := hb3.chg hxs33 (by omega)
              replace hb2 := hb2.chg hxs33 (by omega)
              replace h := h.chg hxs33 (by omega)
              replace h' := h'.chg hxs33 (by omega)
              replace E := E.next hxs33 (by omega)
              refine w_nil ?_
              refine x_heldk ?_
              refine h_nil ?_
              refine x_block_norm ?_
              refine x_next ?_
              refine c_region ?_
              refine w_pure (y_add rfl rfl) rfl ?_
              refine w_pure (y_move rfl) rfl ?_
              refine w_nil ?_
              rotate_left
            refine x_again (i + 1) (by repeat (first | exact trivial | refine ⟨rfl, ?_⟩)) ⟨EM.go, ?_, by omega⟩ (by omega)
            rw [← fillP_set]
            exact hom
          · focus
              have hl_hom := hom.lt
              have hz_hxM := hxM.size
              replace hp1_37 := hp1_37.chg hxM (by omega)
              replace EL := EL.trans hxM
              replace hb6 := hb6.chg hxM (by omega)
              replace hb4 := hb4.chg hxM (by omega)
              replace hb3 := hb3.chg hxM (by omega)
              replace hb2 := hb2.chg hxM (by omega)
              replace h := h.chg hxM (by omega)
              replace h' := h'.chg hxM (by omega)
              replace E := E.next hxM (by omega)
              refine c_seq ?_
              refine c_region ?_
              refine w_pure (y_lt rfl rfl) rfl ?_
              refine w_nil ?_
              refine x_next ?_
              refine c_seq ?_
              (refine c_dec rfl (fun hc40 => ?_) (fun hc40 => ?_) <;> try (first | exact absurd rfl hc40 | contradiction | exact Bool.noConfusion (show false = true from hc40.symm.trans (by assumption)) | exact Bool.noConfusion (show true = false from hc40.symm.trans (by assumption)) | (exfalso; omega) | (exfalso; simp only [*, Bool.not_true, Bool.not_false, reduceCtorEq] at hc40; done)))
              refine c_exit ?_
              refine x_then_exit ?_
              refine x_then_exit ?_
              refine x_block_hit ?_
              refine x_block_norm ?_
              refine x_next ?_
              refine c_region ?_
              refine w_pure (y_add rfl rfl) rfl ?_
              refine w_pure (y_move rfl) rfl ?_
              refine w_nil ?_
              rotate_left
            obtain rfl : i = (srcF e n j ws k).length := by omega
            refine x_again (k + 1) (by repeat (first | exact trivial | refine ⟨rfl, ?_⟩)) ⟨EL.go, ?_, by omega⟩ (by omega)
            rw [← fillP_full]
            exact hom
        · focus
            have hl_ho := ho.lt
            have hz_hxL := hxL.size
            replace hb6 := hb6.chg hxL (by omega)
            replace hb4 := hb4.chg hxL (by omega)
            replace hb3 := hb3.chg hxL (by omega)
            replace hb2 := hb2.chg hxL (by omega)
            replace h := h.chg hxL (by omega)
            replace h' := h'.chg hxL (by omega)
            replace E := E.next hxL (by omega)
            refine c_seq ?_
            refine c_region ?_
            refine w_pure (y_lt rfl rfl) rfl ?_
            refine w_nil ?_
            refine x_next ?_
            refine c_seq ?_
            (refine c_dec rfl (fun hc33 => ?_) (fun hc33 => ?_) <;> try (first | exact absurd rfl hc33 | contradiction | exact Bool.noConfusion (show false = true from hc33.symm.trans (by assumption)) | exact Bool.noConfusion (show true = false from hc33.symm.trans (by assumption)) | (exfalso; omega) | (exfalso; simp only [*, Bool.not_true, Bool.not_false, reduceCtorEq] at hc33; done)))
            refine c_exit ?_
            refine x_then_exit ?_
            refine x_then_exit ?_
            refine x_block_hit ?_
            refine x_next ?_
            refine c_seq ?_
            refine c_region ?_
            refine w_pure (y_load_boxs rfl) rfl ?_
            refine w_store_boxs rfl rfl (next := fun ws16 hbs16 hxs16 hss16 => ?_)
            (replace hb4 := hbs16; clear hbs16)
            have hz_hxs16 := hxs16.size
            replace ho := ho.chg hxs16 (by omega)
            replace hb6 := hb6.chg hxs16 (by omega)
            replace hb3 := hb3.chg hxs16 (by omega)
            replace hb2 := hb2.chg hxs16 (by omega)
            replace h := h.chg hxs16 (by omega)
            replace h' := h'.chg hxs16 (by omega)
            replace E := E.next hxs16 (by omega)
            refine w_pure (y_assign rfl) rfl ?_
            refine w_nil ?_
            refine x_next ?_
            refine c_ret ?_
            rotate_left
          obtain rfl : k = n.toNat := by omega
          refine x_retv [_, _] rfl ⟨⟨_, rfl, run_load_str (Box.at (by assumption)) (by rfl)⟩, rfl, trivial⟩ ⟨_, by rw [ec]; rfl, ?_, E.go⟩
          rw [resRte, if_pos ec]
          simpa using ho
      · have ec : cRte e n j ws xs = 6 := by rw [cRte, if_pos ⟨hk, hx⟩, if_neg he]
        refine ret_enter Try.func37 rfl Try.ntmps37 rfl ?_
        focus
          have ht_h := h.top
          have ht_h' := h'.top
          refine c_seq ?_
          refine c_region ?_
          refine w_box rfl (k := fun b2 w2 hb2 hx2 hl2 hs2 => ?_)
          have hz_hx2 := hx2.size
          replace h := h.ext hx2
          replace h' := h'.ext hx2
          replace E := E.trans hx2
          refine w_box rfl (k := fun b3 w3 hb3 hx3 hl3 hs3 => ?_)
          have hz_hx3 := hx3.size
          replace hb2 := hb2.ext hx3
          replace h := h.ext hx3
          replace h' := h'.ext hx3
          replace E := E.trans hx3
          refine w_alloc (k := fun b4 w4 hb4 hx4 hl4 hs4 => ?_)
          have hz_hx4 := hx4.size
          replace hb3 := hb3.ext hx4
          replace hb2 := hb2.ext hx4
          replace h := h.ext hx4
          replace h' := h'.ext hx4
          replace E := E.trans hx4
          refine w_pure (y_assign rfl) rfl ?_
          refine w_nil ?_
          refine x_next ?_
          refine c_seq ?_
          refine c_block ?_
          refine c_seq ?_
          refine c_region ?_
          refine w_pure (y_load_boxs rfl) rfl ?_
          refine w_val rfl rfl rfl (iValidBoard_c) rfl (fun w12 hx12 hz12 => ?_)
          have hz_hx12 := hx12.size
          replace hb4 := hb4.ext hx12
          replace hb3 := hb3.ext hx12
          replace hb2 := hb2.ext hx12
          replace h := h.ext hx12
          replace h' := h'.ext hx12
          replace E := E.trans hx12
          refine w_pure (y_not rfl) rfl ?_
          refine w_pure (y_move rfl) rfl ?_
          (refine w_part rfl rfl (fun hc15 => ?_) (fun hc15 => ?_) <;> try (first | exact absurd rfl hc15 | contradiction | exact Bool.noConfusion (show false = true from hc15.symm.trans (by assumption)) | exact Bool.noConfusion (show true = false from hc15.symm.trans (by assumption)) | (exfalso; omega) | (exfalso; simp only [*, Bool.not_true, Bool.not_false, reduceCtorEq] at hc15; done)))
          refine w_yes rfl rfl ?_
          refine w_pure (y_load_boxs rfl) rfl ?_
          refine w_yes rfl rfl ?_
          refine w_val rfl rfl rfl (iValidCard_c) rfl (fun w16 hx16 hz16 => ?_)
          have hz_hx16 := hx16.size
          replace hb4 := hb4.ext hx16
          replace hb3 := hb3.ext hx16
          replace hb2 := hb2.ext hx16
          replace h := h.ext hx16
          replace h' := h'.ext hx16
          replace E := E.trans hx16
          refine w_yes rfl rfl ?_
          refine w_pure (y_not rfl) rfl ?_
          refine w_pure (y_pick_f rfl rfl) rfl ?_
          refine w_pure (y_assign rfl) rfl ?_
          refine w_nil ?_
          refine x_next ?_
          (refine c_not rfl (fun hc10 => ?_) (fun hc10 => ?_) <;> try (first | exact absurd rfl hc10 | contradiction | exact Bool.noConfusion (show false = true from hc10.symm.trans (by assumption)) | exact Bool.noConfusion (show true = false from hc10.symm.trans (by assumption)) | (exfalso; omega) | (exfalso; simp only [*, Bool.not_true, Bool.not_false, reduceCtorEq] at hc10; done)))
          refine c_seq ?_
          refine c_region_held mixed (fun wr3 hxr3 hzr3 => ?_)
          have hz_hxr3 := hxr3.size
          replace hb4 := hb4.ext hxr3
          replace hb3 := hb3.ext hxr3
          replace hb2 := hb2.ext hxr3
          replace h := h.ext hxr3
          replace h' := h'.ext hxr3
          replace E := E.trans hxr3
          refine h_pure rfl (y_load_boxs rfl) rfl ?_
          refine h_turn ?_
          refine h_pure rfl (y_field rfl) rfl ?_
          refine h_pure rfl (y_load_box rfl) rfl ?_
          refine h_turn ?_
          refine h_turn ?_
          refine h_one rfl ?_
          refine w_val rfl rfl rfl (columns_c) rfl (fun w22 hx22 hz22 => ?_)
          have hz_hx22 := hx22.size
          replace hb4 := hb4.ext hx22
          replace hb3 := hb3.ext hx22
          replace hb2 := hb2.ext hx22
          replace h := h.ext hx22
          replace h' := h'.ext hx22
          replace E := E.trans hx22
          refine w_nil ?_
          refine x_held ?_
          refine h_pure rfl (y_ne rfl rfl) rfl ?_
          refine h_pure rfl (y_assign rfl) rfl ?_
          refine h_nil ?_
          refine x_next ?_
          (refine c_dec rfl (fun hc20 => ?_) (fun hc20 => ?_) <;> try (first | exact absurd rfl hc20 | contradiction | exact Bool.noConfusion (show false = true from hc20.symm.trans (by assumption)) | exact Bool.noConfusion (show true = false from hc20.symm.trans (by assumption)) | (exfalso; omega) | (exfalso; simp only [*, Bool.not_true, Bool.not_false, reduceCtorEq] at hc20; done)))
          refine c_seq ?_
          refine c_region ?_
          refine w_pure (y_build rfl) rfl ?_
          refine w_store_boxs rfl rfl (next := fun ws49 hbs49 hxs49 hss49 => ?_)
          (replace hb4 := hbs49; clear hbs49)
          have hz_hxs49 := hxs49.size
          replace hb3 := hb3.chg hxs49 (by omega)
          replace hb2 := hb2.chg hxs49 (by omega)
          replace h := h.chg hxs49 (by omega)
          replace h' := h'.chg hxs49 (by omega)
          replace E := E.next hxs49 (by omega)
          refine w_pure (y_assign rfl) rfl ?_
          refine w_nil ?_
          refine x_next ?_
          refine c_ret ?_
          refine x_block_ret ?_
          refine x_then_ret ?_
          rotate_left
        all_goals exact x_retv [_, _] rfl ⟨⟨_, rfl, run_load_str (Box.at (by assumption)) (by rfl)⟩, rfl, trivial⟩ ⟨_, by rw [ec]; rfl, by rw [resRte, ec]; exact Own.nil _ _ _, E.go⟩
    · have ec : cRte e n j ws xs = 1 := by rw [cRte, if_neg (fun g => hx g.2)]
      refine ret_enter Try.func37 rfl Try.ntmps37 rfl ?_
      focus
        have ht_h := h.top
        have ht_h' := h'.top
        refine c_seq ?_
        refine c_region ?_
        refine w_box rfl (k := fun b2 w2 hb2 hx2 hl2 hs2 => ?_)
        have hz_hx2 := hx2.size
        replace h := h.ext hx2
        replace h' := h'.ext hx2
        replace E := E.trans hx2
        refine w_box rfl (k := fun b3 w3 hb3 hx3 hl3 hs3 => ?_)
        have hz_hx3 := hx3.size
        replace hb2 := hb2.ext hx3
        replace h := h.ext hx3
        replace h' := h'.ext hx3
        replace E := E.trans hx3
        refine w_alloc (k := fun b4 w4 hb4 hx4 hl4 hs4 => ?_)
        have hz_hx4 := hx4.size
        replace hb3 := hb3.ext hx4
        replace hb2 := hb2.ext hx4
        replace h := h.ext hx4
        replace h' := h'.ext hx4
        replace E := E.trans hx4
        refine w_pure (y_assign rfl) rfl ?_
        refine w_nil ?_
        refine x_next ?_
        refine c_seq ?_
        refine c_block ?_
        refine c_seq ?_
        refine c_region ?_
        refine w_pure (y_load_boxs rfl) rfl ?_
        refine w_val rfl rfl rfl (iValidBoard_c) rfl (fun w12 hx12 hz12 => ?_)
        have hz_hx12 := hx12.size
        replace hb4 := hb4.ext hx12
        replace hb3 := hb3.ext hx12
        replace hb2 := hb2.ext hx12
        replace h := h.ext hx12
        replace h' := h'.ext hx12
        replace E := E.trans hx12
        refine w_pure (y_not rfl) rfl ?_
        refine w_pure (y_move rfl) rfl ?_
        (refine w_part rfl rfl (fun hc15 => ?_) (fun hc15 => ?_) <;> try (first | exact absurd rfl hc15 | contradiction | exact Bool.noConfusion (show false = true from hc15.symm.trans (by assumption)) | exact Bool.noConfusion (show true = false from hc15.symm.trans (by assumption)) | (exfalso; omega) | (exfalso; simp only [*, Bool.not_true, Bool.not_false, reduceCtorEq] at hc15; done)))
        refine w_yes rfl rfl ?_
        refine w_pure (y_load_boxs rfl) rfl ?_
        refine w_yes rfl rfl ?_
        refine w_val rfl rfl rfl (iValidCard_c) rfl (fun w16 hx16 hz16 => ?_)
        have hz_hx16 := hx16.size
        replace hb4 := hb4.ext hx16
        replace hb3 := hb3.ext hx16
        replace hb2 := hb2.ext hx16
        replace h := h.ext hx16
        replace h' := h'.ext hx16
        replace E := E.trans hx16
        refine w_yes rfl rfl ?_
        refine w_pure (y_not rfl) rfl ?_
        refine w_pure (y_pick_f rfl rfl) rfl ?_
        refine w_pure (y_assign rfl) rfl ?_
        refine w_nil ?_
        refine x_next ?_
        (refine c_not rfl (fun hc10 => ?_) (fun hc10 => ?_) <;> try (first | exact absurd rfl hc10 | contradiction | exact Bool.noConfusion (show false = true from hc10.symm.trans (by assumption)) | exact Bool.noConfusion (show true = false from hc10.symm.trans (by assumption)) | (exfalso; omega) | (exfalso; simp only [*, Bool.not_true, Bool.not_false, reduceCtorEq] at hc10; done)))
        refine c_seq ?_
        refine c_region ?_
        refine w_pure (y_build rfl) rfl ?_
        refine w_store_boxs rfl rfl (next := fun ws32 hbs32 hxs32 hss32 => ?_)
        (replace hb4 := hbs32; clear hbs32)
        have hz_hxs32 := hxs32.size
        replace hb3 := hb3.chg hxs32 (by omega)
        replace hb2 := hb2.chg hxs32 (by omega)
        replace h := h.chg hxs32 (by omega)
        replace h' := h'.chg hxs32 (by omega)
        replace E := E.next hxs32 (by omega)
        refine w_pure (y_assign rfl) rfl ?_
        refine w_nil ?_
        refine x_next ?_
        refine c_ret ?_
        refine x_block_ret ?_
        refine x_then_ret ?_
        rotate_left
      all_goals exact x_retv [_, _] rfl ⟨⟨_, rfl, run_load_str (Box.at (by assumption)) (by rfl)⟩, rfl, trivial⟩ ⟨_, by rw [ec]; rfl, by rw [resRte, ec]; exact Own.nil _ _ _, E.go⟩
  · have ec : cRte e n j ws xs = 1 := by rw [cRte, if_neg (fun g => hk g.1)]
    refine ret_enter Try.func37 rfl Try.ntmps37 rfl ?_
    focus
      have ht_h := h.top
      have ht_h' := h'.top
      refine c_seq ?_
      refine c_region ?_
      refine w_box rfl (k := fun b2 w2 hb2 hx2 hl2 hs2 => ?_)
      have hz_hx2 := hx2.size
      replace h := h.ext hx2
      replace h' := h'.ext hx2
      replace E := E.trans hx2
      refine w_box rfl (k := fun b3 w3 hb3 hx3 hl3 hs3 => ?_)
      have hz_hx3 := hx3.size
      replace hb2 := hb2.ext hx3
      replace h := h.ext hx3
      replace h' := h'.ext hx3
      replace E := E.trans hx3
      refine w_alloc (k := fun b4 w4 hb4 hx4 hl4 hs4 => ?_)
      have hz_hx4 := hx4.size
      replace hb3 := hb3.ext hx4
      replace hb2 := hb2.ext hx4
      replace h := h.ext hx4
      replace h' := h'.ext hx4
      replace E := E.trans hx4
      refine w_pure (y_assign rfl) rfl ?_
      refine w_nil ?_
      refine x_next ?_
      refine c_seq ?_
      refine c_block ?_
      refine c_seq ?_
      refine c_region ?_
      refine w_pure (y_load_boxs rfl) rfl ?_
      refine w_val rfl rfl rfl (iValidBoard_c) rfl (fun w12 hx12 hz12 => ?_)
      have hz_hx12 := hx12.size
      replace hb4 := hb4.ext hx12
      replace hb3 := hb3.ext hx12
      replace hb2 := hb2.ext hx12
      replace h := h.ext hx12
      replace h' := h'.ext hx12
      replace E := E.trans hx12
      refine w_pure (y_not rfl) rfl ?_
      refine w_pure (y_move rfl) rfl ?_
      (refine w_part rfl rfl (fun hc15 => ?_) (fun hc15 => ?_) <;> try (first | exact absurd rfl hc15 | contradiction | exact Bool.noConfusion (show false = true from hc15.symm.trans (by assumption)) | exact Bool.noConfusion (show true = false from hc15.symm.trans (by assumption)) | (exfalso; omega) | (exfalso; simp only [*, Bool.not_true, Bool.not_false, reduceCtorEq] at hc15; done)))
      refine w_no rfl rfl rfl rfl ?_
      refine w_no rfl rfl rfl rfl ?_
      refine w_no rfl rfl rfl rfl ?_
      refine w_pure (y_pick_t rfl rfl) rfl ?_
      refine w_pure (y_assign rfl) rfl ?_
      refine w_nil ?_
      refine x_next ?_
      refine c_true rfl ?_
      refine c_seq ?_
      refine c_region ?_
      refine w_pure (y_build rfl) rfl ?_
      refine w_store_boxs rfl rfl (next := fun ws29 hbs29 hxs29 hss29 => ?_)
      (replace hb4 := hbs29; clear hbs29)
      have hz_hxs29 := hxs29.size
      replace hb3 := hb3.chg hxs29 (by omega)
      replace hb2 := hb2.chg hxs29 (by omega)
      replace h := h.chg hxs29 (by omega)
      replace h' := h'.chg hxs29 (by omega)
      replace E := E.next hxs29 (by omega)
      refine w_pure (y_assign rfl) rfl ?_
      refine w_nil ?_
      refine x_next ?_
      refine c_ret ?_
      refine x_block_ret ?_
      refine x_then_ret ?_
      rotate_left
    all_goals exact x_retv [_, _] rfl ⟨⟨_, rfl, run_load_str (Box.at (by assumption)) (by rfl)⟩, rfl, trivial⟩ ⟨_, by rw [ec]; rfl, by rw [resRte, ec]; exact Own.nil _ _ _, E.go⟩
end
end Go.Proofs.Ythigkbkaeopipaa

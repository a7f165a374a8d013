/- Contracts: a wire is taken away. -/
import Derived.Test.YtcpglpegjdpliaaBrdF
import Derived.Test.YtcpglpegjdpliaaL16
namespace Go.Proofs.Ytcpglpegjdpliaa
open Go Go.Gw
set_option linter.unusedVariables false
set_option linter.unusedSimpArgs false
section
variable {w : World} {v v' : Value} {ws us : List (Int × Int)} {lo hi B b : Nat} {e n j : Int}
theorem delWire_c (k : Int) (h : Own w 58 B v ws := by repeat (first | assumption | exact Go.Gw.Own.sl (by assumption) | exact Go.Gw.Box.at (by assumption) | exact Go.Gw.SLL.el (by first | assumption | exact Go.Gw.OwnD.sll (by assumption)) _ (by omega) | exact Go.Gw.SLL.at (by first | assumption | exact Go.Gw.OwnD.sll (by assumption)) (by omega) | exact Go.Gw.OwnD.sll (by assumption) | (apply Go.Gw.SL.chg; case hx => assumption) | (apply Go.Gw.Own.chg; case hx => assumption) | (apply Go.Gw.Box.chg; case hx => assumption) | (apply Go.Gw.At.chg; case hx => assumption) | exact .inl (Nat.zero_le _) | exact .inr (Nat.zero_le _) | (show _ ∨ _; omega))) (hk : 0 ≤ k ∧ k < ws.length := by omega) : Ret Try.prog 62 [v, .int .i64 k, .int .i64 (k + 1)] w fun u w' => Own w' 58 B u (ws.take k.toNat ++ ws.drop (k + 1).toNat) ∧ Chg (bL v) (bH v) w w' ∧ bL u = bL v ∧ bH u = bH v := by
  have hcp := h.cp_le
  have hsm := h.sl.small
  have hol := h.lt
  have hl1 : (ws.take k.toNat).length = k.toNat := by rw [List.length_take]; omega
  have hl2 : ((ws.take ws.length).drop (k + 1).toNat).length = ws.length - (k + 1).toNat := by rw [List.length_drop, List.length_take]; omega
  refine ret_enter Try.func62 rfl Try.ntmps62 rfl ?_
  focus
    have hl_h := h.lt
    refine c_seq ?_
    refine c_region ?_
    refine w_pure (y_assign rfl) rfl ?_
    refine w_nil ?_
    refine x_next ?_
    refine c_seq ?_
    refine c_region ?_
    refine w_pure (y_move rfl) rfl ?_
    refine w_pure (y_move rfl) rfl ?_
    refine w_pure (y_move rfl) rfl ?_
    refine w_pure (y_move rfl) rfl ?_
    refine w_pure (y_len rfl) rfl ?_
    (refine w_slice3 rfl rfl rfl rfl rfl ?_; intro u13)
    refine w_nil ?_
    refine x_next ?_
    refine c_seq ?_
    refine c_seq ?_
    refine c_region ?_
    refine w_pure (y_move rfl) rfl ?_
    refine w_pure (y_move rfl) rfl ?_
    refine w_pure (y_eq rfl rfl) rfl ?_
    refine w_nil ?_
    refine x_next ?_
    (refine c_dec rfl (fun hc16 => ?_) (fun hc16 => ?_) <;> try (first | exact absurd rfl hc16 | contradiction | exact Bool.noConfusion (show false = true from hc16.symm.trans (by assumption)) | exact Bool.noConfusion (show true = false from hc16.symm.trans (by assumption)) | (exfalso; omega) | (exfalso; simp only [*, Bool.not_true, Bool.not_false, reduceCtorEq] at hc16; done)))
    refine c_skip ?_
    refine x_next ?_
    refine c_seq ?_
    refine c_region ?_
    refine w_pure (y_move rfl) rfl ?_
    refine w_pure (y_len rfl) rfl ?_
    refine w_pure (y_assign rfl) rfl ?_
    refine w_nil ?_
    refine x_next ?_
    refine c_seq ?_
    refine c_region_held mixed (fun wr5 hxr5 hzr5 => ?_)
    have hz_hxr5 := hxr5.size
    replace h := h.ext hxr5
    refine h_pure rfl (y_move rfl) rfl ?_
    refine h_pure rfl (y_move rfl) rfl ?_
    (refine h_slicep rfl rfl rfl rfl ?_; intro u22 hu22 hq22)
    have hl_hu22 := hu22.lt
    refine h_pure rfl (y_move rfl) rfl ?_
    refine h_pure rfl (y_move rfl) rfl ?_
    (refine h_slice rfl rfl (.inr ⟨_, _, rfl, rfl⟩) (.inl ⟨rfl, rfl⟩) rfl ?_; intro u25 hu25)
    refine h_one rfl ?_
    (refine w_append_keep rfl rfl (hc := by simp only [List.length_drop, List.length_take]; omega) (k := fun v26 w26 ho26 hx26 hr26 => ?_))
    have hl_ho26 := ho26.lt
    have hz_hx26 := hx26.size
    refine w_nil ?_
    refine x_heldk ?_
    refine h_pure rfl (y_assign rfl) rfl ?_
    refine h_nil ?_
    refine x_next ?_
    refine c_seq ?_
    refine c_region ?_
    refine w_pure (y_move rfl) rfl ?_
    refine w_pure (y_move rfl) rfl ?_
    refine w_pure (y_len rfl) rfl ?_
    refine w_pure (y_move rfl) rfl ?_
    (refine w_slicet rfl rfl rfl rfl (kk := ?_) (hn := by simp only [List.length_append, List.length_drop, List.length_take]; omega); intro u31 hu31)
    (refine w_clear rfl hu31 (k := fun ws56 hos56 hxs56 => ?_))
    have hl_hos56 := hos56.lt
    have hz_hxs56 := hxs56.size
    refine w_nil ?_
    refine x_next ?_
    refine c_seq ?_
    refine c_region ?_
    refine w_pure (y_move rfl) rfl ?_
    refine w_pure (y_assign rfl) rfl ?_
    refine w_nil ?_
    refine x_next ?_
    refine c_ret ?_
    rotate_left
  · have e1 : ws.take (ws.length : Int).toNat = ws := List.take_length
    rw [e1] at hos56
    refine x_retv [_] rfl ⟨rfl, trivial⟩ ⟨hos56, (hxr5.wide (.inr (Nat.le_refl _)) (.inr (Nat.le_refl _))).trans (Chg.trans (b := w26) ?_ ?_), hr26.1.trans hq22.1, hr26.2.1.trans hq22.2.1⟩
    · rw [← hq22.1, ← hq22.2.1]; exact hx26
    · rw [← hq22.1, ← hq22.2.1, ← hr26.1, ← hr26.2.1]; exact hxs56
def cRem (e n j : Int) (ws : List (Int × Int)) (k : Int) : Int := if okB e n j ws = true then (if 0 ≤ k ∧ k < ws.length then 0 else 2) else 1
def resRem (e n j : Int) (ws : List (Int × Int)) (k : Int) : List (Int × Int) := if cRem e n j ws k = 0 then ws.take k.toNat ++ ws.drop (k + 1).toNat else []
theorem cRem_ok {e n j : Int} {ws : List (Int × Int)} {k : Int} (h : cRem e n j ws k = 0) : okB e n j ws = true ∧ 0 ≤ k ∧ k < ws.length := by
  by_cases hk : okB e n j ws = true
  · by_cases hl : 0 ≤ k ∧ k < ws.length
    · exact ⟨hk, hl⟩
    · simp [cRem, hk, hl] at h
  · simp [cRem, hk] at h
theorem resRem_len (e n j : Int) (ws : List (Int × Int)) (k : Int) : (resRem e n j ws k).length ≤ 41 := by
  unfold resRem; split
  · rename_i h
    have h1 := cRem_ok h
    have := okB_num h1.1
    simp only [List.length_append, List.length_take, List.length_drop]; omega
  · simp
theorem iRemoveWire_c (k : Int) (h : SL w lo hi v ws := by repeat (first | assumption | exact Go.Gw.Own.sl (by assumption) | exact Go.Gw.Box.at (by assumption) | exact Go.Gw.SLL.el (by first | assumption | exact Go.Gw.OwnD.sll (by assumption)) _ (by omega) | exact Go.Gw.SLL.at (by first | assumption | exact Go.Gw.OwnD.sll (by assumption)) (by omega) | exact Go.Gw.OwnD.sll (by assumption) | (apply Go.Gw.SL.chg; case hx => assumption) | (apply Go.Gw.Own.chg; case hx => assumption) | (apply Go.Gw.Box.chg; case hx => assumption) | (apply Go.Gw.At.chg; case hx => assumption) | exact .inl (Nat.zero_le _) | exact .inr (Nat.zero_le _) | (show _ ∨ _; omega))) (hk64 : In64 k := by assumption) : Ret Try.prog 14 [.agg #[.int .i64 e, .int .i64 n, .int .i64 j, v], .int .i64 k] w fun u w' =>
    ∃ d, u = .tuple #[.agg #[.int .i64 (orZero (cRem e n j ws k) e), .int .i64 (orZero (cRem e n j ws k) n), .int .i64 (orZero (cRem e n j ws k) j), d], .int .i64 (cRem e n j ws k)] ∧ Own w' 58 w.heap.size d (resRem e n j ws k) ∧ Ext w w' := by
  have E : Since 0 0 w w := Since.refl 0 0 w
  by_cases hk : okB e n j ws = true
  · have q1 := okB_num hk
    by_cases hl : 0 ≤ k ∧ k < ws.length
    · have ec : cRem e n j ws k = 0 := by rw [cRem, if_pos hk, if_pos hl]
      have hq0 : (([] : List (Int × Int)) ++ ws).length = ws.length := rfl
      refine ret_enter Try.func14 rfl Try.ntmps14 rfl ?_
      focus
        have ht_h := h.top
        refine c_seq ?_
        refine c_region ?_
        refine w_box rfl (k := fun b2 w2 hb2 hx2 hl2 hs2 => ?_)
        have hz_hx2 := hx2.size
        replace h := h.ext hx2
        replace E := E.trans hx2
        refine w_alloc (k := fun b4 w4 hb4 hx4 hl4 hs4 => ?_)
        have hz_hx4 := hx4.size
        replace hb2 := hb2.ext hx4
        replace h := h.ext hx4
        replace E := E.trans hx4
        refine w_pure (y_assign rfl) rfl ?_
        refine w_nil ?_
        refine x_next ?_
        refine c_seq ?_
        refine c_block ?_
        refine c_seq ?_
        refine c_region ?_
        refine w_pure (y_load_boxs rfl) rfl ?_
        refine w_val rfl rfl rfl (iValidBoard_c) rfl (fun w8 hx8 hz8 => ?_)
        have hz_hx8 := hx8.size
        replace hb4 := hb4.ext hx8
        replace hb2 := hb2.ext hx8
        replace h := h.ext hx8
        replace E := E.trans hx8
        refine w_pure (y_not rfl) rfl ?_
        refine w_pure (y_assign rfl) rfl ?_
        refine w_nil ?_
        refine x_next ?_
        (refine c_not rfl (fun hc6 => ?_) (fun hc6 => ?_) <;> try (first | exact absurd rfl hc6 | contradiction | exact Bool.noConfusion (show false = true from hc6.symm.trans (by assumption)) | exact Bool.noConfusion (show true = false from hc6.symm.trans (by assumption)) | (exfalso; omega) | (exfalso; simp only [*, Bool.not_true, Bool.not_false, reduceCtorEq] at hc6; done)))
        refine c_seq ?_
        refine c_region ?_
        refine w_pure (y_move rfl) rfl ?_
        refine w_pure (y_field rfl) rfl ?_
        refine w_pure (y_load_box rfl) rfl ?_
        refine w_val rfl rfl rfl (sizeW_c) rfl (fun w15 hx15 hz15 => ?_)
        have hz_hx15 := hx15.size
        replace hb4 := hb4.ext hx15
        replace hb2 := hb2.ext hx15
        replace h := h.ext hx15
        replace E := E.trans hx15
        refine w_pure (y_sub rfl rfl) rfl ?_
        refine w_pur rfl rfl rfl (inside_c _ _ _) rfl ?_
        refine w_pure (y_not_dec rfl) rfl ?_
        refine w_pure (y_assign rfl) rfl ?_
        refine w_nil ?_
        refine x_next ?_
        (refine c_dec rfl (fun hc11 => ?_) (fun hc11 => ?_) <;> try (first | exact absurd rfl hc11 | contradiction | exact Bool.noConfusion (show false = true from hc11.symm.trans (by assumption)) | exact Bool.noConfusion (show true = false from hc11.symm.trans (by assumption)) | (exfalso; omega) | (exfalso; simp only [*, Bool.not_true, Bool.not_false, reduceCtorEq] at hc11; done)))
        refine c_skip ?_
        refine x_block_norm ?_
        refine x_next ?_
        refine c_seq ?_
        refine c_region_base mixed (fun wr5 hxr5 hzr5 EBr5 => ?_)
        have hz_hxr5 := hxr5.size
        replace hb4 := hb4.ext hxr5
        replace hb2 := hb2.ext hxr5
        replace h := h.ext hxr5
        replace E := E.trans hxr5
        refine b_pure rfl (y_load_boxs rfl) rfl ?_
        refine b_turn ?_
        refine b_pure rfl (y_field rfl) rfl ?_
        refine b_pure rfl (y_load_box rfl) rfl ?_
        refine b_turn ?_
        refine b_pure rfl (y_move rfl) rfl ?_
        refine b_pure rfl (y_move rfl) rfl ?_
        refine b_pure rfl (y_add rfl rfl) rfl ?_
        refine b_turn ?_
        refine b_turn ?_
        refine b_turn ?_
        refine b_turn ?_
        refine b_one rfl ?_
        refine w_lit (α := (Int × Int)) rfl rfl rfl rfl rfl rfl rfl rfl (fun v21 w21 ho21 hx21 hl21 hh21 hs21 => ?_)
        have hl_ho21 := ho21.lt
        have hz_hx21 := hx21.size
        replace EBr5 := EBr5.trans hx21
        replace hb4 := hb4.ext hx21
        replace hb2 := hb2.ext hx21
        replace h := h.ext hx21
        replace E := E.trans hx21
        refine w_nil ?_
        refine x_hb ?_
        refine b_one rfl ?_
        refine w_append rfl rfl (k := fun v24 w24 ho24 hx24 hr24 => ?_)
        have hl_ho24 := ho24.lt
        have hz_hx24 := hx24.size
        replace EBr5 := EBr5.next hx24 (by omega)
        replace hb4 := hb4.chg hx24 (by omega)
        replace hb2 := hb2.chg hx24 (by omega)
        replace h := h.chg hx24 (by omega)
        replace E := E.next hx24 (by omega)
        refine w_nil ?_
        refine x_hb ?_
        refine b_one rfl ?_
        (refine w_call rfl rfl rfl (delWire_c _) rfl ?_; rintro v28 w28 ⟨hp1_28, ⟨hx28, ⟨hp2_28, hp3_28⟩⟩⟩)
        have hl_hp1_28 := hp1_28.lt
        have hz_hx28 := hx28.size
        replace EBr5 := EBr5.next hx28 (by omega)
        replace hb4 := hb4.chg hx28 (by omega)
        replace hb2 := hb2.chg hx28 (by omega)
        replace h := h.chg hx28 (by omega)
        replace E := E.next hx28 (by omega)
        refine w_nil ?_
        refine x_hb ?_
        refine b_one rfl ?_
        refine w_val rfl rfl rfl (withWires_c) rfl (fun w29 hx29 hz29 => ?_)
        have hz_hx29 := hx29.size
        replace hp1_28 := hp1_28.ext hx29
        replace EBr5 := EBr5.trans hx29
        replace hb4 := hb4.ext hx29
        replace hb2 := hb2.ext hx29
        replace h := h.ext hx29
        replace E := E.trans hx29
        refine w_nil ?_
        refine x_hb ?_
        refine b_one rfl ?_
        refine w_store_boxs rfl rfl (next := fun ws66 hbs66 hxs66 hss66 => ?_)
        (replace hb4 := hbs66; clear hbs66)
        have hz_hxs66 := hxs66.size
        replace hp1_28 := hp1_28.chg hxs66 (by omega)
        replace hb2 := hb2.chg hxs66 (by omega)
        replace h := h.chg hxs66 (by omega)
        replace E := E.next hxs66 (by omega)
        refine w_nil ?_
        refine x_hbk ?_
        refine b_pure rfl (y_assign rfl) rfl ?_
        refine b_nil ?_
        refine x_next ?_
        refine c_ret ?_
        rotate_left
      exact x_retv [_, _] rfl ⟨⟨_, rfl, run_load_str (Box.at (by assumption)) (by rfl)⟩, rfl, trivial⟩ ⟨_, by rw [ec]; rfl, by rw [resRem, if_pos ec]; exact Own.base hp1_28 (by omega), E.go⟩
    · have ec : cRem e n j ws k = 2 := by rw [cRem, if_pos hk, if_neg hl]
      refine ret_enter Try.func14 rfl Try.ntmps14 rfl ?_
      focus
        have ht_h := h.top
        refine c_seq ?_
        refine c_region ?_
        refine w_box rfl (k := fun b2 w2 hb2 hx2 hl2 hs2 => ?_)
        have hz_hx2 := hx2.size
        replace h := h.ext hx2
        replace E := E.trans hx2
        refine w_alloc (k := fun b4 w4 hb4 hx4 hl4 hs4 => ?_)
        have hz_hx4 := hx4.size
        replace hb2 := hb2.ext hx4
        replace h := h.ext hx4
        replace E := E.trans hx4
        refine w_pure (y_assign rfl) rfl ?_
        refine w_nil ?_
        refine x_next ?_
        refine c_seq ?_
        refine c_block ?_
        refine c_seq ?_
        refine c_region ?_
        refine w_pure (y_load_boxs rfl) rfl ?_
        refine w_val rfl rfl rfl (iValidBoard_c) rfl (fun w8 hx8 hz8 => ?_)
        have hz_hx8 := hx8.size
        replace hb4 := hb4.ext hx8
        replace hb2 := hb2.ext hx8
        replace h := h.ext hx8
        replace E := E.trans hx8
        refine w_pure (y_not rfl) rfl ?_
        refine w_pure (y_assign rfl) rfl ?_
        refine w_nil ?_
        refine x_next ?_
        (refine c_not rfl (fun hc6 => ?_) (fun hc6 => ?_) <;> try (first | exact absurd rfl hc6 | contradiction | exact Bool.noConfusion (show false = true from hc6.symm.trans (by assumption)) | exact Bool.noConfusion (show true = false from hc6.symm.trans (by assumption)) | (exfalso; omega) | (exfalso; simp only [*, Bool.not_true, Bool.not_false, reduceCtorEq] at hc6; done)))
        refine c_seq ?_
        refine c_region ?_
        refine w_pure (y_move rfl) rfl ?_
        refine w_pure (y_field rfl) rfl ?_
        refine w_pure (y_load_box rfl) rfl ?_
        refine w_val rfl rfl rfl (sizeW_c) rfl (fun w15 hx15 hz15 => ?_)
        have hz_hx15 := hx15.size
        replace hb4 := hb4.ext hx15
        replace hb2 := hb2.ext hx15
        replace h := h.ext hx15
        replace E := E.trans hx15
        refine w_pure (y_sub rfl rfl) rfl ?_
        refine w_pur rfl rfl rfl (inside_c _ _ _) rfl ?_
        refine w_pure (y_not_dec rfl) rfl ?_
        refine w_pure (y_assign rfl) rfl ?_
        refine w_nil ?_
        refine x_next ?_
        (refine c_dec rfl (fun hc11 => ?_) (fun hc11 => ?_) <;> try (first | exact absurd rfl hc11 | contradiction | exact Bool.noConfusion (show false = true from hc11.symm.trans (by assumption)) | exact Bool.noConfusion (show true = false from hc11.symm.trans (by assumption)) | (exfalso; omega) | (exfalso; simp only [*, Bool.not_true, Bool.not_false, reduceCtorEq] at hc11; done)))
        refine c_seq ?_
        refine c_region ?_
        refine w_pure (y_build rfl) rfl ?_
        refine w_store_boxs rfl rfl (next := fun ws35 hbs35 hxs35 hss35 => ?_)
        (replace hb4 := hbs35; clear hbs35)
        have hz_hxs35 := hxs35.size
        replace hb2 := hb2.chg hxs35 (by omega)
        replace h := h.chg hxs35 (by omega)
        replace E := E.next hxs35 (by omega)
        refine w_pure (y_assign rfl) rfl ?_
        refine w_nil ?_
        refine x_next ?_
        refine c_ret ?_
        refine x_block_ret ?_
        refine x_then_ret ?_
        rotate_left
      exact x_retv [_, _] rfl ⟨⟨_, rfl, run_load_str (Box.at (by assumption)) (by rfl)⟩, rfl, trivial⟩ ⟨_, by rw [ec]; rfl, by rw [resRem, ec]; exact Own.nil _ _ _, E.go⟩
  · have ec : cRem e n j ws k = 1 := by rw [cRem, if_neg hk]
    refine ret_enter Try.func14 rfl Try.ntmps14 rfl ?_
    focus
      have ht_h := h.top
      refine c_seq ?_
      refine c_region ?_
      refine w_box rfl (k := fun b2 w2 hb2 hx2 hl2 hs2 => ?_)
      have hz_hx2 := hx2.size
      replace h := h.ext hx2
      replace E := E.trans hx2
      refine w_alloc (k := fun b4 w4 hb4 hx4 hl4 hs4 => ?_)
      have hz_hx4 := hx4.size
      replace hb2 := hb2.ext hx4
      replace h := h.ext hx4
      replace E := E.trans hx4
      refine w_pure (y_assign rfl) rfl ?_
      refine w_nil ?_
      refine x_next ?_
      refine c_seq ?_
      refine c_block ?_
      refine c_seq ?_
      refine c_region ?_
      refine w_pure (y_load_boxs rfl) rfl ?_
      refine w_val rfl rfl rfl (iValidBoard_c) rfl (fun w8 hx8 hz8 => ?_)
      have hz_hx8 := hx8.size
      replace hb4 := hb4.ext hx8
      replace hb2 := hb2.ext hx8
      replace h := h.ext hx8
      replace E := E.trans hx8
      refine w_pure (y_not rfl) rfl ?_
      refine w_pure (y_assign rfl) rfl ?_
      refine w_nil ?_
      refine x_next ?_
      (refine c_not rfl (fun hc6 => ?_) (fun hc6 => ?_) <;> try (first | exact absurd rfl hc6 | contradiction | exact Bool.noConfusion (show false = true from hc6.symm.trans (by assumption)) | exact Bool.noConfusion (show true = false from hc6.symm.trans (by assumption)) | (exfalso; omega) | (exfalso; simp only [*, Bool.not_true, Bool.not_false, reduceCtorEq] at hc6; done)))
      refine c_seq ?_
      refine c_region ?_
      refine w_pure (y_build rfl) rfl ?_
      refine w_store_boxs rfl rfl (next := fun ws22 hbs22 hxs22 hss22 => ?_)
      (replace hb4 := hbs22; clear hbs22)
      have hz_hxs22 := hxs22.size
      replace hb2 := hb2.chg hxs22 (by omega)
      replace h := h.chg hxs22 (by omega)
      replace E := E.next hxs22 (by omega)
      refine w_pure (y_assign rfl) rfl ?_
      refine w_nil ?_
      refine x_next ?_
      refine c_ret ?_
      refine x_block_ret ?_
      refine x_then_ret ?_
      rotate_left
    exact x_retv [_, _] rfl ⟨⟨_, rfl, run_load_str (Box.at (by assumption)) (by rfl)⟩, rfl, trivial⟩ ⟨_, by rw [ec]; rfl, by rw [resRem, ec]; exact Own.nil _ _ _, E.go⟩
theorem sRemoveWire_c (k : Int) (h : SL w lo hi v ws := by repeat (first | assumption | exact Go.Gw.Own.sl (by assumption) | exact Go.Gw.Box.at (by assumption) | exact Go.Gw.SLL.el (by first | assumption | exact Go.Gw.OwnD.sll (by assumption)) _ (by omega) | exact Go.Gw.SLL.at (by first | assumption | exact Go.Gw.OwnD.sll (by assumption)) (by omega) | exact Go.Gw.OwnD.sll (by assumption) | (apply Go.Gw.SL.chg; case hx => assumption) | (apply Go.Gw.Own.chg; case hx => assumption) | (apply Go.Gw.Box.chg; case hx => assumption) | (apply Go.Gw.At.chg; case hx => assumption) | exact .inl (Nat.zero_le _) | exact .inr (Nat.zero_le _) | (show _ ∨ _; omega))) (hk64 : In64 k := by assumption) : Ret Try.prog 12 [.agg #[.int .i64 e, .int .i64 n, .int .i64 j, v], .int .i64 k] w fun u w' =>
    ∃ d, u = .tuple #[.agg #[.int .i64 (orZero (cRem e n j ws k) e), .int .i64 (orZero (cRem e n j ws k) n), .int .i64 (orZero (cRem e n j ws k) j), d], .int .i64 (cRem e n j ws k)] ∧ Own w' 58 w.heap.size d (resRem e n j ws k) ∧ Ext w w' := by
  have E : Since 0 0 w w := Since.refl 0 0 w
  by_cases hk : okB e n j ws = true
  · have q1 := okB_num hk
    by_cases hl : 0 ≤ k ∧ k < ws.length
    · have ec : cRem e n j ws k = 0 := by rw [cRem, if_pos hk, if_pos hl]
      have hl1 : ((ws.take k.toNat).drop (0 : Int).toNat).length ≤ 40 := by rw [List.length_drop, List.length_take]; omega
      have hl2 : ((ws.take (ws.length : Int).toNat).drop (k + 1).toNat).length ≤ 40 := by rw [List.length_drop, List.length_take]; omega
      refine ret_enter Try.func12 rfl Try.ntmps12 rfl ?_
      focus
        have ht_h := h.top
        refine c_seq ?_
        refine c_region ?_
        refine w_box rfl (k := fun b2 w2 hb2 hx2 hl2 hs2 => ?_)
        have hz_hx2 := hx2.size
        replace h := h.ext hx2
        replace E := E.trans hx2
        refine w_alloc (k := fun b4 w4 hb4 hx4 hl4 hs4 => ?_)
        have hz_hx4 := hx4.size
        replace hb2 := hb2.ext hx4
        replace h := h.ext hx4
        replace E := E.trans hx4
        refine w_pure (y_assign rfl) rfl ?_
        refine w_nil ?_
        refine x_next ?_
        refine c_seq ?_
        refine c_seq ?_
        refine c_region ?_
        refine w_val rfl rfl rfl (l12Ok_c) rfl (fun w7 hx7 hz7 => ?_)
        have hz_hx7 := hx7.size
        replace hb4 := hb4.ext hx7
        replace hb2 := hb2.ext hx7
        replace h := h.ext hx7
        replace E := E.trans hx7
        refine w_pure (y_not rfl) rfl ?_
        refine w_nil ?_
        refine x_next ?_
        (refine c_not rfl (fun hc8 => ?_) (fun hc8 => ?_) <;> try (first | exact absurd rfl hc8 | contradiction | exact Bool.noConfusion (show false = true from hc8.symm.trans (by assumption)) | exact Bool.noConfusion (show true = false from hc8.symm.trans (by assumption)) | (exfalso; omega) | (exfalso; simp only [*, Bool.not_true, Bool.not_false, reduceCtorEq] at hc8; done)))
        refine c_skip ?_
        refine x_next ?_
        refine c_seq ?_
        refine c_seq ?_
        refine c_region ?_
        refine w_pure (y_move rfl) rfl ?_
        refine w_pure (y_field rfl) rfl ?_
        refine w_pure (y_load_box rfl) rfl ?_
        refine w_pure (y_len rfl) rfl ?_
        refine w_pure (y_sub rfl rfl) rfl ?_
        refine w_pur rfl rfl rfl (l00In_c _ _ _) rfl ?_
        refine w_pure (y_not_dec rfl) rfl ?_
        refine w_nil ?_
        refine x_next ?_
        (refine c_dec rfl (fun hc16 => ?_) (fun hc16 => ?_) <;> try (first | exact absurd rfl hc16 | contradiction | exact Bool.noConfusion (show false = true from hc16.symm.trans (by assumption)) | exact Bool.noConfusion (show true = false from hc16.symm.trans (by assumption)) | (exfalso; omega) | (exfalso; simp only [*, Bool.not_true, Bool.not_false, reduceCtorEq] at hc16; done)))
        refine c_skip ?_
        refine x_next ?_
        refine c_seq ?_
        refine c_region ?_
        refine w_pure (y_load_boxs rfl) rfl ?_
        refine w_alloc (k := fun b6 w6 hb6 hx6 hl6 hs6 => ?_)
        have hz_hx6 := hx6.size
        replace hb4 := hb4.ext hx6
        replace hb2 := hb2.ext hx6
        replace h := h.ext hx6
        replace E := E.trans hx6
        refine w_store_boxs rfl rfl (next := fun ws37 hbs37 hxs37 hss37 => ?_)
        (replace hb6 := hbs37; clear hbs37)
        have hz_hxs37 := hxs37.size
        replace hb4 := hb4.chg hxs37 (by omega)
        replace hb2 := hb2.chg hxs37 (by omega)
        replace h := h.chg hxs37 (by omega)
        replace E := E.next hxs37 (by omega)
        refine w_nil ?_
        refine x_next ?_
        refine c_seq ?_
        refine c_region ?_
        refine w_lit (α := (Int × Int)) rfl rfl rfl rfl rfl rfl rfl rfl (fun v19 w19 ho19 hx19 hl19 hh19 hs19 => ?_)
        have hl_ho19 := ho19.lt
        have hz_hx19 := hx19.size
        replace hb6 := hb6.ext hx19
        replace hb4 := hb4.ext hx19
        replace hb2 := hb2.ext hx19
        replace h := h.ext hx19
        replace E := E.trans hx19
        refine w_pure (y_field rfl) rfl ?_
        refine w_pure (y_load_box rfl) rfl ?_
        refine w_pure (y_move rfl) rfl ?_
        (refine w_slice rfl (.inl ⟨rfl, rfl⟩) (.inr ⟨_, _, rfl, rfl⟩) rfl ?_; intro u23 hu23)
        refine w_append rfl rfl (k := fun v24 w24 ho24 hx24 hr24 => ?_)
        have hl_ho24 := ho24.lt
        have hz_hx24 := hx24.size
        replace hb6 := hb6.chg hx24 (by omega)
        replace hb4 := hb4.chg hx24 (by omega)
        replace hb2 := hb2.chg hx24 (by omega)
        replace h := h.chg hx24 (by omega)
        replace E := E.next hx24 (by omega)
        replace hu23 := hu23.chg hx24 (by omega)
        refine w_pure (y_field rfl) rfl ?_
        refine w_store_box rfl rfl (next := fun ws49 hbs49 hxs49 hss49 => ?_)
        (replace hb6 := hbs49; clear hbs49)
        have hz_hxs49 := hxs49.size
        replace ho24 := ho24.chg hxs49 (by omega)
        replace hb4 := hb4.chg hxs49 (by omega)
        replace hb2 := hb2.chg hxs49 (by omega)
        replace h := h.chg hxs49 (by omega)
        replace E := E.next hxs49 (by omega)
        replace hu23 := hu23.chg hxs49 (by omega)
        refine w_nil ?_
        refine x_next ?_
        refine c_seq ?_
        refine c_region_held mixed (fun wr7 hxr7 hzr7 => ?_)
        have hz_hxr7 := hxr7.size
        replace hb6 := hb6.ext hxr7
        replace ho24 := ho24.ext hxr7
        replace hb4 := hb4.ext hxr7
        replace hb2 := hb2.ext hxr7
        replace h := h.ext hxr7
        replace E := E.trans hxr7
        replace hu23 := hu23.ext hxr7
        refine h_pure rfl (y_field rfl) rfl ?_
        refine h_pure rfl (y_load_box rfl) rfl ?_
        refine h_pure rfl (y_field rfl) rfl ?_
        refine h_pure rfl (y_load_box rfl) rfl ?_
        refine h_pure rfl (y_move rfl) rfl ?_
        refine h_pure rfl (y_add rfl rfl) rfl ?_
        (refine h_slice rfl rfl (.inr ⟨_, _, rfl, rfl⟩) (.inl ⟨rfl, rfl⟩) rfl ?_; intro u32 hu32)
        refine h_one rfl ?_
        refine w_append rfl rfl (k := fun v33 w33 ho33 hx33 hr33 => ?_)
        have hl_ho33 := ho33.lt
        have hz_hx33 := hx33.size
        replace hb6 := hb6.chg hx33 (by omega)
        replace hb4 := hb4.chg hx33 (by omega)
        replace hb2 := hb2.chg hx33 (by omega)
        replace h := h.chg hx33 (by omega)
        replace E := E.next hx33 (by omega)
        replace hu23 := hu23.chg hx33 (by omega)
        replace hu32 := hu32.chg hx33 (by omega)
        refine w_nil ?_
        refine x_heldk ?_
        refine h_pure rfl (y_field rfl) rfl ?_
        refine h_one rfl ?_
        refine w_store_box rfl rfl (next := fun ws67 hbs67 hxs67 hss67 => ?_)
        (replace hb6 := hbs67; clear hbs67)
        have hz_hxs67 := hxs67.size
        replace ho33 := ho33.chg hxs67 (by omega)
        replace hb4 := hb4.chg hxs67 (by omega)
        replace hb2 := hb2.chg hxs67 (by omega)
        replace h := h.chg hxs67 (by omega)
        replace E := E.next hxs67 (by omega)
        replace hu23 := hu23.chg hxs67 (by omega)
        replace hu32 := hu32.chg hxs67 (by omega)
        refine w_nil ?_
        refine x_heldk ?_
        refine h_nil ?_
        refine x_next ?_
        refine c_seq ?_
        refine c_region ?_
        refine w_pure (y_load_boxs rfl) rfl ?_
        refine w_store_boxs rfl rfl (next := fun ws75 hbs75 hxs75 hss75 => ?_)
        (replace hb4 := hbs75; clear hbs75)
        have hz_hxs75 := hxs75.size
        replace hb6 := hb6.chg hxs75 (by omega)
        replace ho33 := ho33.chg hxs75 (by omega)
        replace hb2 := hb2.chg hxs75 (by omega)
        replace h := h.chg hxs75 (by omega)
        replace E := E.next hxs75 (by omega)
        replace hu23 := hu23.chg hxs75 (by omega)
        replace hu32 := hu32.chg hxs75 (by omega)
        refine w_pure (y_assign rfl) rfl ?_
        refine w_nil ?_
        refine x_next ?_
        refine c_ret ?_
        rotate_left
      have e1 : ws.take (ws.length : Int).toNat = ws := List.take_length
      rw [e1] at ho33
      exact x_retv [_, _] rfl ⟨⟨_, rfl, run_load_str (Box.at (by assumption)) (by rfl)⟩, rfl, trivial⟩ ⟨_, by rw [ec]; rfl, by rw [resRem, if_pos ec]; exact Own.base ho33 (by omega), E.go⟩
    · have ec : cRem e n j ws k = 2 := by rw [cRem, if_pos hk, if_neg hl]
      refine ret_enter Try.func12 rfl Try.ntmps12 rfl ?_
      focus
        have ht_h := h.top
        refine c_seq ?_
        refine c_region ?_
        refine w_box rfl (k := fun b2 w2 hb2 hx2 hl2 hs2 => ?_)
        have hz_hx2 := hx2.size
        replace h := h.ext hx2
        replace E := E.trans hx2
        refine w_alloc (k := fun b4 w4 hb4 hx4 hl4 hs4 => ?_)
        have hz_hx4 := hx4.size
        replace hb2 := hb2.ext hx4
        replace h := h.ext hx4
        replace E := E.trans hx4
        refine w_pure (y_assign rfl) rfl ?_
        refine w_nil ?_
        refine x_next ?_
        refine c_seq ?_
        refine c_seq ?_
        refine c_region ?_
        refine w_val rfl rfl rfl (l12Ok_c) rfl (fun w7 hx7 hz7 => ?_)
        have hz_hx7 := hx7.size
        replace hb4 := hb4.ext hx7
        replace hb2 := hb2.ext hx7
        replace h := h.ext hx7
        replace E := E.trans hx7
        refine w_pure (y_not rfl) rfl ?_
        refine w_nil ?_
        refine x_next ?_
        (refine c_not rfl (fun hc8 => ?_) (fun hc8 => ?_) <;> try (first | exact absurd rfl hc8 | contradiction | exact Bool.noConfusion (show false = true from hc8.symm.trans (by assumption)) | exact Bool.noConfusion (show true = false from hc8.symm.trans (by assumption)) | (exfalso; omega) | (exfalso; simp only [*, Bool.not_true, Bool.not_false, reduceCtorEq] at hc8; done)))
        refine c_skip ?_
        refine x_next ?_
        refine c_seq ?_
        refine c_seq ?_
        refine c_region ?_
        refine w_pure (y_move rfl) rfl ?_
        refine w_pure (y_field rfl) rfl ?_
        refine w_pure (y_load_box rfl) rfl ?_
        refine w_pure (y_len rfl) rfl ?_
        refine w_pure (y_sub rfl rfl) rfl ?_
        refine w_pur rfl rfl rfl (l00In_c _ _ _) rfl ?_
        refine w_pure (y_not_dec rfl) rfl ?_
        refine w_nil ?_
        refine x_next ?_
        (refine c_dec rfl (fun hc16 => ?_) (fun hc16 => ?_) <;> try (first | exact absurd rfl hc16 | contradiction | exact Bool.noConfusion (show false = true from hc16.symm.trans (by assumption)) | exact Bool.noConfusion (show true = false from hc16.symm.trans (by assumption)) | (exfalso; omega) | (exfalso; simp only [*, Bool.not_true, Bool.not_false, reduceCtorEq] at hc16; done)))
        refine c_seq ?_
        refine c_region ?_
        refine w_pure (y_build rfl) rfl ?_
        refine w_store_boxs rfl rfl (next := fun ws34 hbs34 hxs34 hss34 => ?_)
        (replace hb4 := hbs34; clear hbs34)
        have hz_hxs34 := hxs34.size
        replace hb2 := hb2.chg hxs34 (by omega)
        replace h := h.chg hxs34 (by omega)
        replace E := E.next hxs34 (by omega)
        refine w_pure (y_assign rfl) rfl ?_
        refine w_nil ?_
        refine x_next ?_
        refine c_ret ?_
        refine x_then_ret ?_
        rotate_left
      exact x_retv [_, _] rfl ⟨⟨_, rfl, run_load_str (Box.at (by assumption)) (by rfl)⟩, rfl, trivial⟩ ⟨_, by rw [ec]; rfl, by rw [resRem, ec]; exact Own.nil _ _ _, E.go⟩
  · have ec : cRem e n j ws k = 1 := by rw [cRem, if_neg hk]
    refine ret_enter Try.func12 rfl Try.ntmps12 rfl ?_
    focus
      have ht_h := h.top
      refine c_seq ?_
      refine c_region ?_
      refine w_box rfl (k := fun b2 w2 hb2 hx2 hl2 hs2 => ?_)
      have hz_hx2 := hx2.size
      replace h := h.ext hx2
      replace E := E.trans hx2
      refine w_alloc (k := fun b4 w4 hb4 hx4 hl4 hs4 => ?_)
      have hz_hx4 := hx4.size
      replace hb2 := hb2.ext hx4
      replace h := h.ext hx4
      replace E := E.trans hx4
      refine w_pure (y_assign rfl) rfl ?_
      refine w_nil ?_
      refine x_next ?_
      refine c_seq ?_
      refine c_seq ?_
      refine c_region ?_
      refine w_val rfl rfl rfl (l12Ok_c) rfl (fun w7 hx7 hz7 => ?_)
      have hz_hx7 := hx7.size
      replace hb4 := hb4.ext hx7
      replace hb2 := hb2.ext hx7
      replace h := h.ext hx7
      replace E := E.trans hx7
      refine w_pure (y_not rfl) rfl ?_
      refine w_nil ?_
      refine x_next ?_
      (refine c_not rfl (fun hc8 => ?_) (fun hc8 => ?_) <;> try (first | exact absurd rfl hc8 | contradiction | exact Bool.noConfusion (show false = true from hc8.symm.trans (by assumption)) | exact Bool.noConfusion (show true = false from hc8.symm.trans (by assumption)) | (exfalso; omega) | (exfalso; simp only [*, Bool.not_true, Bool.not_false, reduceCtorEq] at hc8; done)))
      refine c_seq ?_
      refine c_region ?_
      refine w_pure (y_build rfl) rfl ?_
      refine w_store_boxs rfl rfl (next := fun ws19 hbs19 hxs19 hss19 => ?_)
      (replace hb4 := hbs19; clear hbs19)
      have hz_hxs19 := hxs19.size
      replace hb2 := hb2.chg hxs19 (by omega)
      replace h := h.chg hxs19 (by omega)
      replace E := E.next hxs19 (by omega)
      refine w_pure (y_assign rfl) rfl ?_
      refine w_nil ?_
      refine x_next ?_
      refine c_ret ?_
      refine x_then_ret ?_
      rotate_left
    exact x_retv [_, _] rfl ⟨⟨_, rfl, run_load_str (Box.at (by assumption)) (by rfl)⟩, rfl, trivial⟩ ⟨_, by rw [ec]; rfl, by rw [resRem, ec]; exact Own.nil _ _ _, E.go⟩
theorem lRemoveWire (w0 : World) (x0 : { x : OBd // x.ok w0 }) (a1 : Int) (i1 : In64 a1) : Ret Try.prog 3 [.agg #[.int .i64 x0.1.e, .int .i64 x0.1.n, .int .i64 x0.1.j, x0.1.v], .int .i64 a1] w0 fun u w' => u = .bool true ∧ Ext w0 w' := by
  obtain ⟨⟨e0, n0, j0, v0, ws0⟩, hok0⟩ := x0
  have s0 : SL w0 0 w0.heap.size v0 ws0 := hok0.sl
  have r0 := hok0.in64
  have re0 : In64 e0 := hok0.e
  have rn0 : In64 n0 := hok0.n
  have rj0 : In64 j0 := hok0.j
  show Ret _ _ [.agg #[.int .i64 e0, .int .i64 n0, .int .i64 j0, v0], .int .i64 a1] w0 _
  clear hok0
  have E : Since 0 0 w0 w0 := Since.refl 0 0 w0
  have hb := resRem_len e0 n0 j0 ws0 a1
  refine ret_enter Try.func3 rfl Try.ntmps3 rfl ?_
  focus
    refine c_seq ?_
    refine c_region ?_
    refine w_box rfl (k := fun b2 w2 hb2 hx2 hl2 hs2 => ?_)
    have hz_hx2 := hx2.size
    replace s0 := s0.ext hx2
    replace E := E.trans hx2
    refine w_pure (y_assign rfl) rfl ?_
    refine w_nil ?_
    refine x_next ?_
    refine c_seq ?_
    refine c_region ?_
    refine w_pure (y_assign rfl) rfl ?_
    refine w_nil ?_
    refine x_next ?_
    refine c_seq ?_
    refine c_region ?_
    refine w_pure (y_load_boxs rfl) rfl ?_
    refine w_pure (y_move rfl) rfl ?_
    (refine w_call rfl rfl rfl (szBoard_z) rfl ?_; rintro _ w18 ⟨z18, ⟨rfl, ⟨hp1_18, hx18⟩⟩⟩)
    have hz_hx18 := hx18.size
    replace hb2 := hb2.ext hx18
    replace s0 := s0.ext hx18
    replace E := E.trans hx18
    refine w_pure (y_assign rfl) rfl ?_
    refine w_nil ?_
    refine x_next ?_
    refine c_seq ?_
    refine c_seq ?_
    refine c_region ?_
    refine w_pure (y_move rfl) rfl ?_
    refine w_pure (y_lt rfl rfl) rfl ?_
    refine w_nil ?_
    refine x_next ?_
    (refine c_dec rfl (fun hc20 => ?_) (fun hc20 => ?_) <;> try (first | exact absurd rfl hc20 | contradiction | exact Bool.noConfusion (show false = true from hc20.symm.trans (by assumption)) | exact Bool.noConfusion (show true = false from hc20.symm.trans (by assumption)) | (exfalso; omega) | (exfalso; simp only [*, Bool.not_true, Bool.not_false, reduceCtorEq] at hc20; done)))
    refine c_seq ?_
    refine c_region ?_
    refine w_pure (y_assign rfl) rfl ?_
    refine w_nil ?_
    refine x_next ?_
    refine c_ret ?_
    refine x_then_ret ?_
    exact x_retv [_] rfl ⟨rfl, trivial⟩ ⟨rfl, E.go⟩
    refine c_skip ?_
    refine x_next ?_
    refine c_seq ?_
    refine c_region ?_
    refine w_pure (y_load_boxs rfl) rfl ?_
    (refine w_call rfl rfl rfl (toBoard_c) rfl ?_; rintro _ w23 ⟨d23, ⟨rfl, ⟨hp1_23, hx23⟩⟩⟩)
    have hz_hx23 := hx23.size
    replace hb2 := hb2.ext hx23
    replace s0 := s0.ext hx23
    replace E := E.trans hx23
    replace hp1_23 := hp1_23.fresh
    refine w_pure (y_move rfl) rfl ?_
    (refine w_call rfl rfl rfl (sRemoveWire_c _) rfl ?_; rintro _ w25 ⟨d25, ⟨rfl, ⟨hp1_25, hx25⟩⟩⟩)
    have hz_hx25 := hx25.size
    replace hb2 := hb2.ext hx25
    replace s0 := s0.ext hx25
    replace E := E.trans hx25
    replace hp1_23 := hp1_23.ext hx25
    replace hp1_25 := hp1_25.fresh
    refine w_pure (y_move rfl) rfl ?_
    refine w_pure (y_extract rfl rfl) rfl ?_
    refine w_pure (y_extract rfl rfl) rfl ?_
    refine w_alloc (k := fun b6 w6 hb6 hx6 hl6 hs6 => ?_)
    have hz_hx6 := hx6.size
    replace hb2 := hb2.ext hx6
    replace s0 := s0.ext hx6
    replace E := E.trans hx6
    replace hp1_23 := hp1_23.ext hx6
    replace hp1_25 := hp1_25.ext hx6
    refine w_store_boxs rfl rfl (next := fun ws48 hbs48 hxs48 hss48 => ?_)
    (replace hb6 := hbs48; clear hbs48)
    have hz_hxs48 := hxs48.size
    replace hb2 := hb2.chg hxs48 (by omega)
    replace s0 := s0.chg hxs48 (by omega)
    replace E := E.next hxs48 (by omega)
    replace hp1_23 := hp1_23.chg hxs48 (by omega)
    replace hp1_25 := hp1_25.chg hxs48 (by omega)
    refine w_pure (y_assign rfl) rfl ?_
    refine w_nil ?_
    refine x_next ?_
    refine c_seq ?_
    refine c_region ?_
    refine w_pure (y_load_boxs rfl) rfl ?_
    (refine w_call rfl rfl rfl (toBoard_c) rfl ?_; rintro _ w29 ⟨d29, ⟨rfl, ⟨hp1_29, hx29⟩⟩⟩)
    have hz_hx29 := hx29.size
    replace hb6 := hb6.ext hx29
    replace hb2 := hb2.ext hx29
    replace s0 := s0.ext hx29
    replace E := E.trans hx29
    replace hp1_23 := hp1_23.ext hx29
    replace hp1_25 := hp1_25.ext hx29
    replace hp1_29 := hp1_29.fresh
    refine w_alloc (k := fun b8 w8 hb8 hx8 hl8 hs8 => ?_)
    have hz_hx8 := hx8.size
    replace hb6 := hb6.ext hx8
    replace hb2 := hb2.ext hx8
    replace s0 := s0.ext hx8
    replace E := E.trans hx8
    replace hp1_23 := hp1_23.ext hx8
    replace hp1_25 := hp1_25.ext hx8
    replace hp1_29 := hp1_29.ext hx8
    refine w_store_boxs rfl rfl (next := fun ws57 hbs57 hxs57 hss57 => ?_)
    (replace hb8 := hbs57; clear hbs57)
    have hz_hxs57 := hxs57.size
    replace hb6 := hb6.chg hxs57 (by omega)
    replace hb2 := hb2.chg hxs57 (by omega)
    replace s0 := s0.chg hxs57 (by omega)
    replace E := E.next hxs57 (by omega)
    replace hp1_23 := hp1_23.chg hxs57 (by omega)
    replace hp1_25 := hp1_25.chg hxs57 (by omega)
    replace hp1_29 := hp1_29.chg hxs57 (by omega)
    refine w_nil ?_
    refine x_next ?_
    refine c_seq ?_
    refine c_region ?_
    refine w_pure (y_load_boxs rfl) rfl ?_
    refine w_pure (y_move rfl) rfl ?_
    (refine w_call rfl rfl rfl (iRemoveWire_c _) rfl ?_; rintro _ w33 ⟨d33, ⟨rfl, ⟨hp1_33, hx33⟩⟩⟩)
    have hz_hx33 := hx33.size
    replace hb8 := hb8.ext hx33
    replace hb6 := hb6.ext hx33
    replace hb2 := hb2.ext hx33
    replace s0 := s0.ext hx33
    replace E := E.trans hx33
    replace hp1_23 := hp1_23.ext hx33
    replace hp1_25 := hp1_25.ext hx33
    replace hp1_29 := hp1_29.ext hx33
    replace hp1_33 := hp1_33.fresh
    refine w_pure (y_move rfl) rfl ?_
    refine w_pure (y_extract rfl rfl) rfl ?_
    refine w_pure (y_extract rfl rfl) rfl ?_
    refine w_alloc (k := fun b9 w9 hb9 hx9 hl9 hs9 => ?_)
    have hz_hx9 := hx9.size
    replace hb8 := hb8.ext hx9
    replace hb6 := hb6.ext hx9
    replace hb2 := hb2.ext hx9
    replace s0 := s0.ext hx9
    replace E := E.trans hx9
    replace hp1_23 := hp1_23.ext hx9
    replace hp1_25 := hp1_25.ext hx9
    replace hp1_29 := hp1_29.ext hx9
    replace hp1_33 := hp1_33.ext hx9
    refine w_store_boxs rfl rfl (next := fun ws69 hbs69 hxs69 hss69 => ?_)
    (replace hb9 := hbs69; clear hbs69)
    have hz_hxs69 := hxs69.size
    replace hb8 := hb8.chg hxs69 (by omega)
    replace hb6 := hb6.chg hxs69 (by omega)
    replace hb2 := hb2.chg hxs69 (by omega)
    replace s0 := s0.chg hxs69 (by omega)
    replace E := E.next hxs69 (by omega)
    replace hp1_23 := hp1_23.chg hxs69 (by omega)
    replace hp1_25 := hp1_25.chg hxs69 (by omega)
    replace hp1_29 := hp1_29.chg hxs69 (by omega)
    replace hp1_33 := hp1_33.chg hxs69 (by omega)
    refine w_pure (y_assign rfl) rfl ?_
    refine w_nil ?_
    refine x_next ?_
    refine c_seq ?_
    refine c_seq ?_
    refine c_region ?_
    refine w_pure (y_load_boxs rfl) rfl ?_
    refine w_pure (y_load_boxs rfl) rfl ?_
    refine w_val rfl rfl rfl (eqBoard_c) rfl (fun w38 hx38 hz38 => ?_)
    have hz_hx38 := hx38.size
    replace hb9 := hb9.ext hx38
    replace hb8 := hb8.ext hx38
    replace hb6 := hb6.ext hx38
    replace hb2 := hb2.ext hx38
    replace s0 := s0.ext hx38
    replace E := E.trans hx38
    replace hp1_23 := hp1_23.ext hx38
    replace hp1_25 := hp1_25.ext hx38
    replace hp1_29 := hp1_29.ext hx38
    replace hp1_33 := hp1_33.ext hx38
    refine w_pure (y_not_dec rfl) rfl ?_
    refine w_pure (y_move rfl) rfl ?_
    (refine w_part_dec rfl rfl (fun hc41 => ?_) (fun hc41 => ?_) <;> try (first | exact absurd rfl hc41 | contradiction | exact Bool.noConfusion (show false = true from hc41.symm.trans (by assumption)) | exact Bool.noConfusion (show true = false from hc41.symm.trans (by assumption)) | (exfalso; omega) | (exfalso; simp only [*, Bool.not_true, Bool.not_false, reduceCtorEq] at hc41; done)))
    refine w_yes rfl rfl ?_
    refine w_pure (y_move rfl) rfl ?_
    refine w_yes rfl rfl ?_
    refine w_pure (y_move rfl) rfl ?_
    refine w_yes rfl rfl ?_
    refine w_pure (y_ne rfl rfl) rfl ?_
    refine w_pure (y_pick_f rfl rfl) rfl ?_
    refine w_nil ?_
    refine x_next ?_
    refine c_nsame rfl ?_
    refine c_skip ?_
    refine x_next ?_
    refine c_seq ?_
    refine c_seq ?_
    refine c_region_held mixed (fun wr10 hxr10 hzr10 => ?_)
    have hz_hxr10 := hxr10.size
    replace hb9 := hb9.ext hxr10
    replace hb8 := hb8.ext hxr10
    replace hb6 := hb6.ext hxr10
    replace hb2 := hb2.ext hxr10
    replace s0 := s0.ext hxr10
    replace E := E.trans hxr10
    replace hp1_23 := hp1_23.ext hxr10
    replace hp1_25 := hp1_25.ext hxr10
    replace hp1_29 := hp1_29.ext hxr10
    replace hp1_33 := hp1_33.ext hxr10
    refine h_pure rfl (y_load_boxs rfl) rfl ?_
    refine h_pure rfl (y_load_boxs rfl) rfl ?_
    refine h_one rfl ?_
    (refine w_call rfl rfl rfl (toBoard_c) rfl ?_; rintro _ w47 ⟨d47, ⟨rfl, ⟨hp1_47, hx47⟩⟩⟩)
    have hz_hx47 := hx47.size
    replace hb9 := hb9.ext hx47
    replace hb8 := hb8.ext hx47
    replace hb6 := hb6.ext hx47
    replace hb2 := hb2.ext hx47
    replace s0 := s0.ext hx47
    replace E := E.trans hx47
    replace hp1_23 := hp1_23.ext hx47
    replace hp1_25 := hp1_25.ext hx47
    replace hp1_29 := hp1_29.ext hx47
    replace hp1_33 := hp1_33.ext hx47
    replace hp1_47 := hp1_47.fresh
    refine w_nil ?_
    refine x_held ?_
    refine h_one rfl ?_
    refine w_val rfl rfl rfl (eqBoard_c) rfl (fun w48 hx48 hz48 => ?_)
    have hz_hx48 := hx48.size
    replace hb9 := hb9.ext hx48
    replace hb8 := hb8.ext hx48
    replace hb6 := hb6.ext hx48
    replace hb2 := hb2.ext hx48
    replace s0 := s0.ext hx48
    replace E := E.trans hx48
    replace hp1_23 := hp1_23.ext hx48
    replace hp1_25 := hp1_25.ext hx48
    replace hp1_29 := hp1_29.ext hx48
    replace hp1_33 := hp1_33.ext hx48
    replace hp1_47 := hp1_47.ext hx48
    refine w_nil ?_
    refine x_held ?_
    refine h_pure rfl (y_not_dec rfl) rfl ?_
    refine h_nil ?_
    refine x_next ?_
    refine c_nsame rfl ?_
    refine c_skip ?_
    refine x_next ?_
    refine c_seq ?_
    refine c_region ?_
    refine w_pure (y_assign rfl) rfl ?_
    refine w_nil ?_
    refine x_next ?_
    refine c_seq ?_
    refine c_region ?_
    refine w_pure (y_load_boxs rfl) rfl ?_
    refine w_pure (y_move rfl) rfl ?_
    (refine w_call rfl rfl rfl (markBoard_c) rfl ?_; rintro _ w52 ⟨rfl, ⟨hp1_52, hx52⟩⟩)
    have hz_hx52 := hx52.size
    replace hb9 := hb9.chg hx52 (by omega)
    replace hb8 := hb8.chg hx52 (by omega)
    replace hb6 := hb6.chg hx52 (by omega)
    replace hb2 := hb2.chg hx52 (by omega)
    replace s0 := s0.chg hx52 (by omega)
    replace E := E.next hx52 (by omega)
    replace hp1_23 := hp1_23.chg hx52 (by omega)
    replace hp1_25 := hp1_25.chg hx52 (by omega)
    replace hp1_33 := hp1_33.chg hx52 (by omega)
    replace hp1_47 := hp1_47.chg hx52 (by omega)
    refine w_pure (y_assign rfl) rfl ?_
    refine w_nil ?_
    refine x_next ?_
    refine c_seq ?_
    refine c_seq ?_
    refine c_region ?_
    refine w_pure (y_move rfl) rfl ?_
    refine w_pure (y_lt rfl rfl) rfl ?_
    refine w_pure (y_move rfl) rfl ?_
    refine w_yes rfl rfl ?_
    refine w_pure (y_load_boxs rfl) rfl ?_
    refine w_yes rfl rfl ?_
    refine w_pure (y_load_boxs rfl) rfl ?_
    refine w_yes rfl rfl ?_
    refine w_val rfl rfl rfl (eqBoard_c) rfl (fun w58 hx58 hz58 => ?_)
    have hz_hx58 := hx58.size
    replace hp1_52 := hp1_52.ext hx58
    replace hb9 := hb9.ext hx58
    replace hb8 := hb8.ext hx58
    replace hb6 := hb6.ext hx58
    replace hb2 := hb2.ext hx58
    replace s0 := s0.ext hx58
    replace E := E.trans hx58
    replace hp1_23 := hp1_23.ext hx58
    replace hp1_25 := hp1_25.ext hx58
    replace hp1_33 := hp1_33.ext hx58
    replace hp1_47 := hp1_47.ext hx58
    refine w_yes rfl rfl ?_
    refine w_pure (y_not_dec rfl) rfl ?_
    refine w_pure (y_pick_f rfl rfl) rfl ?_
    refine w_pure (y_move rfl) rfl ?_
    (refine w_part_dec rfl rfl (fun hc62 => ?_) (fun hc62 => ?_) <;> try (first | exact absurd rfl hc62 | contradiction | exact Bool.noConfusion (show false = true from hc62.symm.trans (by assumption)) | exact Bool.noConfusion (show true = false from hc62.symm.trans (by assumption)) | (exfalso; omega) | (exfalso; simp only [*, Bool.not_true, Bool.not_false, reduceCtorEq] at hc62; done)))
    refine w_yes rfl rfl ?_
    refine w_pure (y_move rfl) rfl ?_
    refine w_yes rfl rfl ?_
    refine w_pure (y_move rfl) rfl ?_
    refine w_yes rfl rfl ?_
    refine w_pure (y_ne rfl rfl) rfl ?_
    refine w_pure (y_pick_f rfl rfl) rfl ?_
    refine w_nil ?_
    refine x_next ?_
    refine c_nsame rfl ?_
    refine c_skip ?_
    refine x_next ?_
    refine c_seq ?_
    refine c_region ?_
    refine w_pure (y_assign rfl) rfl ?_
    refine w_nil ?_
    refine x_next ?_
    refine c_seq ?_
    refine c_region ?_
    refine w_pure (y_load_boxs rfl) rfl ?_
    refine w_pure (y_move rfl) rfl ?_
    (refine w_call rfl rfl rfl (markBoard_c) rfl ?_; rintro _ w68 ⟨rfl, ⟨hp1_68, hx68⟩⟩)
    have hz_hx68 := hx68.size
    replace hp1_52 := hp1_52.chg hx68 (by omega)
    replace hb9 := hb9.chg hx68 (by omega)
    replace hb8 := hb8.chg hx68 (by omega)
    replace hb6 := hb6.chg hx68 (by omega)
    replace hb2 := hb2.chg hx68 (by omega)
    replace s0 := s0.chg hx68 (by omega)
    replace E := E.next hx68 (by omega)
    replace hp1_23 := hp1_23.chg hx68 (by omega)
    replace hp1_25 := hp1_25.chg hx68 (by omega)
    replace hp1_47 := hp1_47.chg hx68 (by omega)
    refine w_pure (y_assign rfl) rfl ?_
    refine w_nil ?_
    refine x_next ?_
    refine c_seq ?_
    refine c_region ?_
    refine w_pure (y_assign rfl) rfl ?_
    refine w_nil ?_
    refine x_next ?_
    refine c_seq ?_
    refine c_region ?_
    refine w_pure (y_load_boxs rfl) rfl ?_
    refine w_pure (y_move rfl) rfl ?_
    refine w_val rfl rfl rfl (heldBoard_c) rfl (fun w71 hx71 hz71 => ?_)
    have hz_hx71 := hx71.size
    replace hp1_68 := hp1_68.ext hx71
    replace hp1_52 := hp1_52.ext hx71
    replace hb9 := hb9.ext hx71
    replace hb8 := hb8.ext hx71
    replace hb6 := hb6.ext hx71
    replace hb2 := hb2.ext hx71
    replace s0 := s0.ext hx71
    replace E := E.trans hx71
    replace hp1_23 := hp1_23.ext hx71
    replace hp1_25 := hp1_25.ext hx71
    replace hp1_47 := hp1_47.ext hx71
    refine w_pure (y_assign rfl) rfl ?_
    refine w_nil ?_
    refine x_next ?_
    refine c_seq ?_
    refine c_seq ?_
    refine c_region ?_
    refine w_pure (y_move rfl) rfl ?_
    refine w_pure (y_lt rfl rfl) rfl ?_
    refine w_nil ?_
    refine x_next ?_
    refine c_false rfl ?_
    refine c_skip ?_
    refine x_next ?_
    refine c_seq ?_
    refine c_seq ?_
    refine c_region ?_
    refine w_pure (y_move rfl) rfl ?_
    refine w_pure (y_move rfl) rfl ?_
    refine w_pure (y_ne rfl rfl) rfl ?_
    refine w_nil ?_
    refine x_next ?_
    refine c_nsame rfl ?_
    refine c_skip ?_
    refine x_next ?_
    refine c_seq ?_
    refine c_region ?_
    refine w_pure (y_load_boxs rfl) rfl ?_
    (refine w_call rfl rfl rfl (toBoard_c) rfl ?_; rintro _ w79 ⟨d79, ⟨rfl, ⟨hp1_79, hx79⟩⟩⟩)
    have hz_hx79 := hx79.size
    replace hp1_68 := hp1_68.ext hx79
    replace hp1_52 := hp1_52.ext hx79
    replace hb9 := hb9.ext hx79
    replace hb8 := hb8.ext hx79
    replace hb6 := hb6.ext hx79
    replace hb2 := hb2.ext hx79
    replace s0 := s0.ext hx79
    replace E := E.trans hx79
    replace hp1_23 := hp1_23.ext hx79
    replace hp1_25 := hp1_25.ext hx79
    replace hp1_47 := hp1_47.ext hx79
    replace hp1_79 := hp1_79.fresh
    refine w_pure (y_move rfl) rfl ?_
    (refine w_call rfl rfl rfl (iRemoveWire_c _) rfl ?_; rintro _ w81 ⟨d81, ⟨rfl, ⟨hp1_81, hx81⟩⟩⟩)
    have hz_hx81 := hx81.size
    replace hp1_68 := hp1_68.ext hx81
    replace hp1_52 := hp1_52.ext hx81
    replace hb9 := hb9.ext hx81
    replace hb8 := hb8.ext hx81
    replace hb6 := hb6.ext hx81
    replace hb2 := hb2.ext hx81
    replace s0 := s0.ext hx81
    replace E := E.trans hx81
    replace hp1_23 := hp1_23.ext hx81
    replace hp1_25 := hp1_25.ext hx81
    replace hp1_47 := hp1_47.ext hx81
    replace hp1_79 := hp1_79.ext hx81
    replace hp1_81 := hp1_81.fresh
    refine w_pure (y_move rfl) rfl ?_
    refine w_pure (y_extract rfl rfl) rfl ?_
    refine w_pure (y_extract rfl rfl) rfl ?_
    refine w_alloc (k := fun b14 w14 hb14 hx14 hl14 hs14 => ?_)
    have hz_hx14 := hx14.size
    replace hp1_68 := hp1_68.ext hx14
    replace hp1_52 := hp1_52.ext hx14
    replace hb9 := hb9.ext hx14
    replace hb8 := hb8.ext hx14
    replace hb6 := hb6.ext hx14
    replace hb2 := hb2.ext hx14
    replace s0 := s0.ext hx14
    replace E := E.trans hx14
    replace hp1_23 := hp1_23.ext hx14
    replace hp1_25 := hp1_25.ext hx14
    replace hp1_47 := hp1_47.ext hx14
    replace hp1_79 := hp1_79.ext hx14
    replace hp1_81 := hp1_81.ext hx14
    refine w_store_boxs rfl rfl (next := fun ws212 hbs212 hxs212 hss212 => ?_)
    (replace hb14 := hbs212; clear hbs212)
    have hz_hxs212 := hxs212.size
    replace hp1_68 := hp1_68.chg hxs212 (by omega)
    replace hp1_52 := hp1_52.chg hxs212 (by omega)
    replace hb9 := hb9.chg hxs212 (by omega)
    replace hb8 := hb8.chg hxs212 (by omega)
    replace hb6 := hb6.chg hxs212 (by omega)
    replace hb2 := hb2.chg hxs212 (by omega)
    replace s0 := s0.chg hxs212 (by omega)
    replace E := E.next hxs212 (by omega)
    replace hp1_23 := hp1_23.chg hxs212 (by omega)
    replace hp1_25 := hp1_25.chg hxs212 (by omega)
    replace hp1_47 := hp1_47.chg hxs212 (by omega)
    replace hp1_79 := hp1_79.chg hxs212 (by omega)
    replace hp1_81 := hp1_81.chg hxs212 (by omega)
    refine w_pure (y_assign rfl) rfl ?_
    refine w_nil ?_
    refine x_next ?_
    refine c_seq ?_
    refine c_seq ?_
    refine c_region ?_
    refine w_pure (y_load_boxs rfl) rfl ?_
    refine w_pure (y_load_boxs rfl) rfl ?_
    refine w_val rfl rfl rfl (eqBoard_c) rfl (fun w86 hx86 hz86 => ?_)
    have hz_hx86 := hx86.size
    replace hb14 := hb14.ext hx86
    replace hp1_68 := hp1_68.ext hx86
    replace hp1_52 := hp1_52.ext hx86
    replace hb9 := hb9.ext hx86
    replace hb8 := hb8.ext hx86
    replace hb6 := hb6.ext hx86
    replace hb2 := hb2.ext hx86
    replace s0 := s0.ext hx86
    replace E := E.trans hx86
    replace hp1_23 := hp1_23.ext hx86
    replace hp1_25 := hp1_25.ext hx86
    replace hp1_47 := hp1_47.ext hx86
    replace hp1_79 := hp1_79.ext hx86
    replace hp1_81 := hp1_81.ext hx86
    refine w_pure (y_not_dec rfl) rfl ?_
    refine w_pure (y_move rfl) rfl ?_
    (refine w_part_dec rfl rfl (fun hc89 => ?_) (fun hc89 => ?_) <;> try (first | exact absurd rfl hc89 | contradiction | exact Bool.noConfusion (show false = true from hc89.symm.trans (by assumption)) | exact Bool.noConfusion (show true = false from hc89.symm.trans (by assumption)) | (exfalso; omega) | (exfalso; simp only [*, Bool.not_true, Bool.not_false, reduceCtorEq] at hc89; done)))
    refine w_yes rfl rfl ?_
    refine w_pure (y_move rfl) rfl ?_
    refine w_yes rfl rfl ?_
    refine w_pure (y_move rfl) rfl ?_
    refine w_yes rfl rfl ?_
    refine w_pure (y_ne rfl rfl) rfl ?_
    refine w_pure (y_pick_f rfl rfl) rfl ?_
    refine w_nil ?_
    refine x_next ?_
    refine c_nsame rfl ?_
    refine c_skip ?_
    refine x_next ?_
    refine c_seq ?_
    refine c_region ?_
    refine w_pure (y_assign rfl) rfl ?_
    refine w_nil ?_
    refine x_next ?_
    refine c_seq ?_
    refine c_region ?_
    refine w_pure (y_load_boxs rfl) rfl ?_
    refine w_pure (y_move rfl) rfl ?_
    refine w_val rfl rfl rfl (heldBoard_c) rfl (fun w95 hx95 hz95 => ?_)
    have hz_hx95 := hx95.size
    replace hb14 := hb14.ext hx95
    replace hp1_68 := hp1_68.ext hx95
    replace hp1_52 := hp1_52.ext hx95
    replace hb9 := hb9.ext hx95
    replace hb8 := hb8.ext hx95
    replace hb6 := hb6.ext hx95
    replace hb2 := hb2.ext hx95
    replace s0 := s0.ext hx95
    replace E := E.trans hx95
    replace hp1_23 := hp1_23.ext hx95
    replace hp1_25 := hp1_25.ext hx95
    replace hp1_47 := hp1_47.ext hx95
    replace hp1_79 := hp1_79.ext hx95
    replace hp1_81 := hp1_81.ext hx95
    refine w_pure (y_assign rfl) rfl ?_
    refine w_nil ?_
    refine x_next ?_
    refine c_seq ?_
    refine c_seq ?_
    refine c_region ?_
    refine w_pure (y_move rfl) rfl ?_
    refine w_pure (y_lt rfl rfl) rfl ?_
    refine w_nil ?_
    refine x_next ?_
    refine c_false rfl ?_
    refine c_skip ?_
    refine x_next ?_
    refine c_seq ?_
    refine c_seq ?_
    refine c_region ?_
    refine w_pure (y_move rfl) rfl ?_
    refine w_pure (y_move rfl) rfl ?_
    refine w_pure (y_ne rfl rfl) rfl ?_
    refine w_nil ?_
    refine x_next ?_
    refine c_nsame rfl ?_
    refine c_skip ?_
    refine x_next ?_
    refine c_seq ?_
    refine c_region ?_
    refine w_pure (y_assign rfl) rfl ?_
    refine w_nil ?_
    refine x_next ?_
    refine c_ret ?_
    exact x_retv [_] rfl ⟨rfl, trivial⟩ ⟨rfl, E.go⟩
end
end Go.Proofs.Ytcpglpegjdpliaa

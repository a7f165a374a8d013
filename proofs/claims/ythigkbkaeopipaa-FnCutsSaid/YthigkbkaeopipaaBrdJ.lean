/- Contracts: a wire is taken away. -/
import Derived.Test.YthigkbkaeopipaaBrdF
import Derived.Test.YthigkbkaeopipaaL16
namespace Go.Proofs.Ythigkbkaeopipaa
open Go Go.Gw
set_option linter.unusedVariables false
set_option linter.unusedSimpArgs false
section
variable {w : World} {v v' : Value} {ws us : List (Int × Int)} {lo hi B b : Nat} {e n j : Int}
theorem delWire_c (k : Int) (h : Own w 76 B v ws := by repeat (first | assumption | exact Go.Gw.Own.sl (by assumption) | exact Go.Gw.Box.at (by assumption) | exact Go.Gw.SLL.el (by first | assumption | exact Go.Gw.OwnD.sll (by assumption)) _ (by omega) | exact Go.Gw.SLL.at (by first | assumption | exact Go.Gw.OwnD.sll (by assumption)) (by omega) | exact Go.Gw.OwnD.sll (by assumption) | (apply Go.Gw.SL.chg; case hx => assumption) | (apply Go.Gw.Own.chg; case hx => assumption) | (apply Go.Gw.Box.chg; case hx => assumption) | (apply Go.Gw.At.chg; case hx => assumption) | exact .inl (Nat.zero_le _) | exact .inr (Nat.zero_le _) | (show _ ∨ _; omega))) (hk : 0 ≤ k ∧ k < ws.length := by omega) : Ret Try.prog 119 [v, .int .i64 k, .int .i64 (k + 1)] w fun u w' => Own w' 76 B u (ws.take k.toNat ++ ws.drop (k + 1).toNat) ∧ Chg (bL v) (bH v) w w' ∧ bL u = bL v ∧ bH u = bH v := by
  have hcp := h.cp_le
  have hsm := h.sl.small
  have hol := h.lt
  have hl1 : (ws.take k.toNat).length = k.toNat := by rw [List.length_take]; omega
  have hl2 : ((ws.take ws.length).drop (k + 1).toNat).length = ws.length - (k + 1).toNat := by rw [List.length_drop, List.length_take]; omega
  refine ret_enter Try.func119 rfl Try.ntmps119 rfl ?_
  focus
    have hl_h := h.lt
    refine c_seq ?_
    refine c_region ?_
    refine w_pure (y_assign rfl) rfl ?_
    refine w_nil ?_
    refine x_next ?_
    refine c_seq ?_
    refine c_region ?_
    refine w_pure (y_move rfl) rfl ?_
    refine w_pure (y_move rfl) rfl ?_
    refine w_pure (y_move rfl) rfl ?_
    refine w_pure (y_move rfl) rfl ?_
    refine w_pure (y_len rfl) rfl ?_
    (refine w_slice3 rfl rfl rfl rfl rfl ?_; intro u13)
    refine w_nil ?_
    refine x_next ?_
    refine c_seq ?_
    refine c_seq ?_
    refine c_region ?_
    refine w_pure (y_move rfl) rfl ?_
    refine w_pure (y_move rfl) rfl ?_
    refine w_pure (y_eq rfl rfl) rfl ?_
    refine w_nil ?_
    refine x_next ?_
    (refine c_dec rfl (fun hc16 => ?_) (fun hc16 => ?_) <;> try (first | exact absurd rfl hc16 | contradiction | exact Bool.noConfusion (show false = true from hc16.symm.trans (by assumption)) | exact Bool.noConfusion (show true = false from hc16.symm.trans (by assumption)) | (exfalso; omega) | (exfalso; simp only [*, Bool.not_true, Bool.not_false, reduceCtorEq] at hc16; done)))
    refine c_skip ?_
    refine x_next ?_
    refine c_seq ?_
    refine c_region ?_
    refine w_pure (y_move rfl) rfl ?_
    refine w_pure (y_len rfl) rfl ?_
    refine w_pure (y_assign rfl) rfl ?_
    refine w_nil ?_
    refine x_next ?_
    refine c_seq ?_
    refine c_region_held mixed (fun wr5 hxr5 hzr5 => ?_)
    have hz_hxr5 := hxr5.size
    replace h := h.ext hxr5
    refine h_pure rfl (y_move rfl) rfl ?_
    refine h_pure rfl (y_move rfl) rfl ?_
    (refine h_slicep rfl rfl rfl rfl ?_; intro u22 hu22 hq22)
    have hl_hu22 := hu22.lt
    refine h_pure rfl (y_move rfl) rfl ?_
    refine h_pure rfl (y_move rfl) rfl ?_
    (refine h_slice rfl rfl (.inr ⟨_, _, rfl, rfl⟩) (.inl ⟨rfl, rfl⟩) rfl ?_; intro u25 hu25)
    refine h_one rfl ?_
    (refine w_append_keep rfl rfl (hc := by simp only [List.length_drop, List.length_take]; omega) (k := fun v26 w26 ho26 hx26 hr26 => ?_))
    have hl_ho26 := ho26.lt
    have hz_hx26 := hx26.size
    refine w_nil ?_
    refine x_heldk ?_
    refine h_pure rfl (y_assign rfl) rfl ?_
    refine h_nil ?_
    refine x_next ?_
    refine c_seq ?_
    refine c_region ?_
    refine w_pure (y_move rfl) rfl ?_
    refine w_pure (y_move rfl) rfl ?_
    refine w_pure (y_len rfl) rfl ?_
    refine w_pure (y_move rfl) rfl ?_
    (refine w_slicet rfl rfl rfl rfl (kk := ?_) (hn := by simp only [List.length_append, List.length_drop, List.length_take]; omega); intro u31 hu31)
    (refine w_clear rfl hu31 (k := fun ws56 hos56 hxs56 => ?_))
    have hl_hos56 := hos56.lt
    have hz_hxs56 := hxs56.size
    refine w_nil ?_
    refine x_next ?_
    refine c_seq ?_
    refine c_region ?_
    refine w_pure (y_move rfl) rfl ?_
    refine w_pure (y_assign rfl) rfl ?_
    refine w_nil ?_
    refine x_next ?_
    refine c_ret ?_
    rotate_left
  · have e1 : ws.take (ws.length : Int).toNat = ws := List.take_length
    rw [e1] at hos56
    refine x_retv [_] rfl ⟨rfl, trivial⟩ ⟨hos56, (hxr5.wide (.inr (Nat.le_refl _)) (.inr (Nat.le_refl _))).trans (Chg.trans (b := w26) ?_ ?_), hr26.1.trans hq22.1, hr26.2.1.trans hq22.2.1⟩
    · rw [← hq22.1, ← hq22.2.1]; exact hx26
    · rw [← hq22.1, ← hq22.2.1, ← hr26.1, ← hr26.2.1]; exact hxs56
def cRem (e n j : Int) (ws : List (Int × Int)) (k : Int) : Int := if okB e n j ws = true then (if 0 ≤ k ∧ k < ws.length then 0 else 2) else 1
def resRem (e n j : Int) (ws : List (Int × Int)) (k : Int) : List (Int × Int) := if cRem e n j ws k = 0 then ws.take k.toNat ++ ws.drop (k + 1).toNat else []
theorem cRem_ok {e n j : Int} {ws : List (Int × Int)} {k : Int} (h : cRem e n j ws k = 0) : okB e n j ws = true ∧ 0 ≤ k ∧ k < ws.length := by
  by_cases hk : okB e n j ws = true
  · by_cases hl : 0 ≤ k ∧ k < ws.length
    · exact ⟨hk, hl⟩
    · simp [cRem, hk, hl] at h
  · simp [cRem, hk] at h
theorem resRem_len (e n j : Int) (ws : List (Int × Int)) (k : Int) : (resRem e n j ws k).length ≤ 41 := by
  unfold resRem; split
  · rename_i h
    have h1 := cRem_ok h
    have := okB_num h1.1
    simp only [List.length_append, List.length_take, List.length_drop]; omega
  · simp
theorem iRemoveWire_c (k : Int) (h : SL w lo hi v ws := by repeat (first | assumption | exact Go.Gw.Own.sl (by assumption) | exact Go.Gw.Box.at (by assumption) | exact Go.Gw.SLL.el (by first | assumption | exact Go.Gw.OwnD.sll (by assumption)) _ (by omega) | exact Go.Gw.SLL.at (by first | assumption | exact Go.Gw.OwnD.sll (by assumption)) (by omega) | exact Go.Gw.OwnD.sll (by assumption) | (apply Go.Gw.SL.chg; case hx => assumption) | (apply Go.Gw.Own.chg; case hx => assumption) | (apply Go.Gw.Box.chg; case hx => assumption) | (apply Go.Gw.At.chg; case hx => assumption) | exact .inl (Nat.zero_le _) | exact .inr (Nat.zero_le _) | (show _ ∨ _; omega))) (hk64 : In64 k := by assumption) : Ret Try.prog 42 [.agg #[.int .i64 e, .int .i64 n, .int .i64 j, v], .int .i64 k] w fun u w' =>
    ∃ d, u = .tuple #[.agg #[.int .i64 (orZero (cRem e n j ws k) e), .int .i64 (orZero (cRem e n j ws k) n), .int .i64 (orZero (cRem e n j ws k) j), d], .int .i64 (cRem e n j ws k)] ∧ Own w' 76 w.heap.size d (resRem e n j ws k) ∧ Ext w w' := by
  have E : Since 0 0 w w := Since.refl 0 0 w
  by_cases hk : okB e n j ws = true
  · have q1 := okB_num hk
    by_cases hl : 0 ≤ k ∧ k < ws.length
    · have ec : cRem e n j ws k = 0 := by rw [cRem, if_pos hk, if_pos hl]
      have hq0 : (([] : List (Int × Int)) ++ ws).length = ws.length := rfl
      refine ret_enter Try.func42 rfl Try.ntmps42 rfl ?_
      focus
        have ht_h := h.top
        refine c_seq ?_
        refine c_region ?_
        refine w_box rfl (k := fun b2 w2 hb2 hx2 hl2 hs2 => ?_)
        have hz_hx2 := hx2.size
        replace h := h.ext hx2
        replace E := E.trans hx2
        refine w_alloc (k := fun b4 w4 hb4 hx4 hl4 hs4 => ?_)
        have hz_hx4 := hx4.size
        replace hb2 := hb2.ext hx4
        replace h := h.ext hx4
        replace E := E.trans hx4
        refine w_pure (y_assign rfl) rfl ?_
        refine w_nil ?_
        refine x_next ?_
        refine c_seq ?_
        refine c_block ?_
        refine c_seq ?_
        refine c_region ?_
        refine w_pure (y_load_boxs rfl) rfl ?_
        refine w_val rfl rfl rfl (iValidBoard_c) rfl (fun w8 hx8 hz8 => ?_)
        have hz_hx8 := hx8.size
        replace hb4 := hb4.ext hx8
        replace hb2 := hb2.ext hx8
        replace h := h.ext hx8
        replace E := E.trans hx8
        refine w_pure (y_not rfl) rfl ?_
        refine w_pure (y_assign rfl) rfl ?_
        refine w_nil ?_
        refine x_next ?_
        (refine c_not rfl (fun hc6 => ?_) (fun hc6 => ?_) <;> try (first | exact absurd rfl hc6 | contradiction | exact Bool.noConfusion (show false = true from hc6.symm.trans (by assumption)) | exact Bool.noConfusion (show true = false from hc6.symm.trans (by assumption)) | (exfalso; omega) | (exfalso; simp only [*, Bool.not_true, Bool.not_false, reduceCtorEq] at hc6; done)))
        refine c_seq ?_
        refine c_region ?_
        refine w_pure (y_move rfl) rfl ?_
        refine w_pure (y_field rfl) rfl ?_
        refine w_pure (y_load_box rfl) rfl ?_
        refine w_val rfl rfl rfl (sizeW_c) rfl (fun w15 hx15 hz15 => ?_)
        have hz_hx15 := hx15.size
        replace hb4 := hb4.ext hx15
        replace hb2 := hb2.ext hx15
        replace h := h.ext hx15
        replace E := E.trans hx15
        refine w_pure (y_sub rfl rfl) rfl ?_
        refine w_pur rfl rfl rfl (inside_c _ _ _) rfl ?_
        refine w_pure (y_not_dec rfl) rfl ?_
        refine w_pure (y_assign rfl) rfl ?_
        refine w_nil ?_
        refine x_next ?_
        (refine c_dec rfl (fun hc11 => ?_) (fun hc11 => ?_) <;> try (first | exact absurd rfl hc11 | contradiction | exact Bool.noConfusion (show false = true from hc11.symm.trans (by assumption)) | exact Bool.noConfusion (show true = false from hc11.symm.trans (by assumption)) | (exfalso; omega) | (exfalso; simp only [*, Bool.not_true, Bool.not_false, reduceCtorEq] at hc11; done)))
        refine c_skip ?_
        refine x_block_norm ?_
        refine x_next ?_
        refine c_seq ?_
        refine c_region_base mixed (fun wr5 hxr5 hzr5 EBr5 => ?_)
        have hz_hxr5 := hxr5.size
        replace hb4 := hb4.ext hxr5
        replace hb2 := hb2.ext hxr5
        replace h := h.ext hxr5
        replace E := E.trans hxr5
        refine b_pure rfl (y_load_boxs rfl) rfl ?_
        refine b_turn ?_
        refine b_pure rfl (y_field rfl) rfl ?_
        refine b_pure rfl (y_load_box rfl) rfl ?_
        refine b_turn ?_
        refine b_pure rfl (y_move rfl) rfl ?_
        refine b_pure rfl (y_move rfl) rfl ?_
        refine b_pure rfl (y_add rfl rfl) rfl ?_
        refine b_turn ?_
        refine b_turn ?_
        refine b_turn ?_
        refine b_turn ?_
        refine b_one rfl ?_
        refine w_lit (α := (Int × Int)) rfl rfl rfl rfl rfl rfl rfl rfl (fun v21 w21 ho21 hx21 hl21 hh21 hs21 => ?_)
        have hl_ho21 := ho21.lt
        have hz_hx21 := hx21.size
        replace EBr5 := EBr5.trans hx21
        replace hb4 := hb4.ext hx21
        replace hb2 := hb2.ext hx21
        replace h := h.ext hx21
        replace E := E.trans hx21
        refine w_nil ?_
        refine x_hb ?_
        refine b_one rfl ?_
        refine w_append rfl rfl (k := fun v24 w24 ho24 hx24 hr24 => ?_)
        have hl_ho24 := ho24.lt
        have hz_hx24 := hx24.size
        replace EBr5 := EBr5.next hx24 (by omega)
        replace hb4 := hb4.chg hx24 (by omega)
        replace hb2 := hb2.chg hx24 (by omega)
        replace h := h.chg hx24 (by omega)
        replace E := E.next hx24 (by omega)
        refine w_nil ?_
        refine x_hb ?_
        refine b_one rfl ?_
        (refine w_call rfl rfl rfl (delWire_c _) rfl ?_; rintro v28 w28 ⟨hp1_28, ⟨hx28, ⟨hp2_28, hp3_28⟩⟩⟩)
        have hl_hp1_28 := hp1_28.lt
        have hz_hx28 := hx28.size
        replace EBr5 := EBr5.next hx28 (by omega)
        replace hb4 := hb4.chg hx28 (by omega)
        replace hb2 := hb2.chg hx28 (by omega)
        replace h := h.chg hx28 (by omega)
        replace E := E.next hx28 (by omega)
        refine w_nil ?_
        refine x_hb ?_
        refine b_one rfl ?_
        refine w_val rfl rfl rfl (withWires_c) rfl (fun w29 hx29 hz29 => ?_)
        have hz_hx29 := hx29.size
        replace hp1_28 := hp1_28.ext hx29
        replace EBr5 := EBr5.trans hx29
        replace hb4 := hb4.ext hx29
        replace hb2 := hb2.ext hx29
        replace h := h.ext hx29
        replace E := E.trans hx29
        refine w_nil ?_
        refine x_hb ?_
        refine b_one rfl ?_
        refine w_store_boxs rfl rfl (next := fun ws66 hbs66 hxs66 hss66 => ?_)
        (replace hb4 := hbs66; clear hbs66)
        have hz_hxs66 := hxs66.size
        replace hp1_28 := hp1_28.chg hxs66 (by omega)
        replace hb2 := hb2.chg hxs66 (by omega)
        replace h := h.chg hxs66 (by omega)
        replace E := E.next hxs66 (by omega)
        refine w_nil ?_
        refine x_hbk ?_
        refine b_pure rfl (y_assign rfl) rfl ?_
        refine b_nil ?_
        refine x_next ?_
        refine c_ret ?_
        rotate_left
      exact x_retv [_, _] rfl ⟨⟨_, rfl, run_load_str (Box.at (by assumption)) (by rfl)⟩, rfl, trivial⟩ ⟨_, by rw [ec]; rfl, by rw [resRem, if_pos ec]; exact Own.base hp1_28 (by omega), E.go⟩
    · have ec : cRem e n j ws k = 2 := by rw [cRem, if_pos hk, if_neg hl]
      refine ret_enter Try.func42 rfl Try.ntmps42 rfl ?_
      focus
        have ht_h := h.top
        refine c_seq ?_
        refine c_region ?_
        refine w_box rfl (k := fun b2 w2 hb2 hx2 hl2 hs2 => ?_)
        have hz_hx2 := hx2.size
        replace h := h.ext hx2
        replace E := E.trans hx2
        refine w_alloc (k := fun b4 w4 hb4 hx4 hl4 hs4 => ?_)
        have hz_hx4 := hx4.size
        replace hb2 := hb2.ext hx4
        replace h := h.ext hx4
        replace E := E.trans hx4
        refine w_pure (y_assign rfl) rfl ?_
        refine w_nil ?_
        refine x_next ?_
        refine c_seq ?_
        refine c_block ?_
        refine c_seq ?_
        refine c_region ?_
        refine w_pure (y_load_boxs rfl) rfl ?_
        refine w_val rfl rfl rfl (iValidBoard_c) rfl (fun w8 hx8 hz8 => ?_)
        have hz_hx8 := hx8.size
        replace hb4 := hb4.ext hx8
        replace hb2 := hb2.ext hx8
        replace h := h.ext hx8
        replace E := E.trans hx8
        refine w_pure (y_not rfl) rfl ?_
        refine w_pure (y_assign rfl) rfl ?_
        refine w_nil ?_
        refine x_next ?_
        (refine c_not rfl (fun hc6 => ?_) (fun hc6 => ?_) <;> try (first | exact absurd rfl hc6 | contradiction | exact Bool.noConfusion (show false = true from hc6.symm.trans (by assumption)) | exact Bool.noConfusion (show true = false from hc6.symm.trans (by assumption)) | (exfalso; omega) | (exfalso; simp only [*, Bool.not_true, Bool.not_false, reduceCtorEq] at hc6; done)))
        refine c_seq ?_
        refine c_region ?_
        refine w_pure (y_move rfl) rfl ?_
        refine w_pure (y_field rfl) rfl ?_
        refine w_pure (y_load_box rfl) rfl ?_
        refine w_val rfl rfl rfl (sizeW_c) rfl (fun w15 hx15 hz15 => ?_)
        have hz_hx15 := hx15.size
        replace hb4 := hb4.ext hx15
        replace hb2 := hb2.ext hx15
        replace h := h.ext hx15
        replace E := E.trans hx15
        refine w_pure (y_sub rfl rfl) rfl ?_
        refine w_pur rfl rfl rfl (inside_c _ _ _) rfl ?_
        refine w_pure (y_not_dec rfl) rfl ?_
        refine w_pure (y_assign rfl) rfl ?_
        refine w_nil ?_
        refine x_next ?_
        (refine c_dec rfl (fun hc11 => ?_) (fun hc11 => ?_) <;> try (first | exact absurd rfl hc11 | contradiction | exact Bool.noConfusion (show false = true from hc11.symm.trans (by assumption)) | exact Bool.noConfusion (show true = false from hc11.symm.trans (by assumption)) | (exfalso; omega) | (exfalso; simp only [*, Bool.not_true, Bool.not_false, reduceCtorEq] at hc11; done)))
        refine c_seq ?_
        refine c_region ?_
        refine w_pure (y_build rfl) rfl ?_
        refine w_store_boxs rfl rfl (next := fun ws35 hbs35 hxs35 hss35 => ?_)
        (replace hb4 := hbs35; clear hbs35)
        have hz_hxs35 := hxs35.size
        replace hb2 := hb2.chg hxs35 (by omega)
        replace h := h.chg hxs35 (by omega)
        replace E := E.next hxs35 (by omega)
        refine w_pure (y_assign rfl) rfl ?_
        refine w_nil ?_
        refine x_next ?_
        refine c_ret ?_
        refine x_block_ret ?_
        refine x_then_ret ?_
        rotate_left
      exact x_retv [_, _] rfl ⟨⟨_, rfl, run_load_str (Box.at (by assumption)) (by rfl)⟩, rfl, trivial⟩ ⟨_, by rw [ec]; rfl, by rw [resRem, ec]; exact Own.nil _ _ _, E.go⟩
  · have ec : cRem e n j ws k = 1 := by rw [cRem, if_neg hk]
    refine ret_enter Try.func42 rfl Try.ntmps42 rfl ?_
    focus
      have ht_h := h.top
      refine c_seq ?_
      refine c_region ?_
      refine w_box rfl (k := fun b2 w2 hb2 hx2 hl2 hs2 => ?_)
      have hz_hx2 := hx2.size
      replace h := h.ext hx2
      replace E := E.trans hx2
      refine w_alloc (k := fun b4 w4 hb4 hx4 hl4 hs4 => ?_)
      have hz_hx4 := hx4.size
      replace hb2 := hb2.ext hx4
      replace h := h.ext hx4
      replace E := E.trans hx4
      refine w_pure (y_assign rfl) rfl ?_
      refine w_nil ?_
      refine x_next ?_
      refine c_seq ?_
      refine c_block ?_
      refine c_seq ?_
      refine c_region ?_
      refine w_pure (y_load_boxs rfl) rfl ?_
      refine w_val rfl rfl rfl (iValidBoard_c) rfl (fun w8 hx8 hz8 => ?_)
      have hz_hx8 := hx8.size
      replace hb4 := hb4.ext hx8
      replace hb2 := hb2.ext hx8
      replace h := h.ext hx8
      replace E := E.trans hx8
      refine w_pure (y_not rfl) rfl ?_
      refine w_pure (y_assign rfl) rfl ?_
      refine w_nil ?_
      refine x_next ?_
      (refine c_not rfl (fun hc6 => ?_) (fun hc6 => ?_) <;> try (first | exact absurd rfl hc6 | contradiction | exact Bool.noConfusion (show false = true from hc6.symm.trans (by assumption)) | exact Bool.noConfusion (show true = false from hc6.symm.trans (by assumption)) | (exfalso; omega) | (exfalso; simp only [*, Bool.not_true, Bool.not_false, reduceCtorEq] at hc6; done)))
      refine c_seq ?_
      refine c_region ?_
      refine w_pure (y_build rfl) rfl ?_
      refine w_store_boxs rfl rfl (next := fun ws22 hbs22 hxs22 hss22 => ?_)
      (replace hb4 := hbs22; clear hbs22)
      have hz_hxs22 := hxs22.size
      replace hb2 := hb2.chg hxs22 (by omega)
      replace h := h.chg hxs22 (by omega)
      replace E := E.next hxs22 (by omega)
      refine w_pure (y_assign rfl) rfl ?_
      refine w_nil ?_
      refine x_next ?_
      refine c_ret ?_
      refine x_block_ret ?_
      refine x_then_ret ?_
      rotate_left
    exact x_retv [_, _] rfl ⟨⟨_, rfl, run_load_str (Box.at (by assumption)) (by rfl)⟩, rfl, trivial⟩ ⟨_, by rw [ec]; rfl, by rw [resRem, ec]; exact Own.nil _ _ _, E.go⟩
theorem sRemoveWire_c (k : Int) (h : SL w lo hi v ws := by repeat (first | assumption | exact Go.Gw.Own.sl (by assumption) | exact Go.Gw.Box.at (by assumption) | exact Go.Gw.SLL.el (by first | assumption | exact Go.Gw.OwnD.sll (by assumption)) _ (by omega) | exact Go.Gw.SLL.at (by first | assumption | exact Go.Gw.OwnD.sll (by assumption)) (by omega) | exact Go.Gw.OwnD.sll (by assumption) | (apply Go.Gw.SL.chg; case hx => assumption) | (apply Go.Gw.Own.chg; case hx => assumption) | (apply Go.Gw.Box.chg; case hx => assumption) | (apply Go.Gw.At.chg; case hx => assumption) | exact .inl (Nat.zero_le _) | exact .inr (Nat.zero_le _) | (show _ ∨ _; omega))) (hk64 : In64 k := by assumption) : Ret Try.prog 32 [.agg #[.int .i64 e, .int .i64 n, .int .i64 j, v], .int .i64 k] w fun u w' =>
    ∃ d, u = .tuple #[.agg #[.int .i64 (orZero (cRem e n j ws k) e), .int .i64 (orZero (cRem e n j ws k) n), .int .i64 (orZero (cRem e n j ws k) j), d], .int .i64 (cRem e n j ws k)] ∧ Own w' 76 w.heap.size d (resRem e n j ws k) ∧ Ext w w' := by
  have E : Since 0 0 w w := Since.refl 0 0 w
  by_cases hk : okB e n j ws = true
  · have q1 := okB_num hk
    by_cases hl : 0 ≤ k ∧ k < ws.length
    · have ec : cRem e n j ws k = 0 := by rw [cRem, if_pos hk, if_pos hl]
      have hl1 : ((ws.take k.toNat).drop (0 : Int).toNat).length ≤ 40 := by rw [List.length_drop, List.length_take]; omega
      have hl2 : ((ws.take (ws.length : Int).toNat).drop (k + 1).toNat).length ≤ 40 := by rw [List.length_drop, List.length_take]; omega
      refine ret_enter Try.func32 rfl Try.ntmps32 rfl ?_
      focus
        have ht_h := h.top
        refine c_seq ?_
        refine c_region ?_
        refine w_box rfl (k := fun b2 w2 hb2 hx2 hl2 hs2 => ?_)
        have hz_hx2 := hx2.size
        replace h := h.ext hx2
        replace E := E.trans hx2
        refine w_alloc (k := fun b4 w4 hb4 hx4 hl4 hs4 => ?_)
        have hz_hx4 := hx4.size
        replace hb2 := hb2.ext hx4
        replace h := h.ext hx4
        replace E := E.trans hx4
        refine w_pure (y_assign rfl) rfl ?_
        refine w_nil ?_
        refine x_next ?_
        refine c_seq ?_
        refine c_seq ?_
        refine c_region ?_
        refine w_val rfl rfl rfl (l12Ok_c) rfl (fun w7 hx7 hz7 => ?_)
        have hz_hx7 := hx7.size
        replace hb4 := hb4.ext hx7
        replace hb2 := hb2.ext hx7
        replace h := h.ext hx7
        replace E := E.trans hx7
        refine w_pure (y_not rfl) rfl ?_
        refine w_nil ?_
        refine x_next ?_
        (refine c_not rfl (fun hc8 => ?_) (fun hc8 => ?_) <;> try (first | exact absurd rfl hc8 | contradiction | exact Bool.noConfusion (show false = true from hc8.symm.trans (by assumption)) | exact Bool.noConfusion (show true = false from hc8.symm.trans (by assumption)) | (exfalso; omega) | (exfalso; simp only [*, Bool.not_true, Bool.not_false, reduceCtorEq] at hc8; done)))
        refine c_skip ?_
        refine x_next ?_
        refine c_seq ?_
        refine c_seq ?_
        refine c_region ?_
        refine w_pure (y_move rfl) rfl ?_
        refine w_pure (y_field rfl) rfl ?_
        refine w_pure (y_load_box rfl) rfl ?_
        refine w_pure (y_len rfl) rfl ?_
        refine w_pure (y_sub rfl rfl) rfl ?_
        refine w_pur rfl rfl rfl (l00In_c _ _ _) rfl ?_
        refine w_pure (y_not_dec rfl) rfl ?_
        refine w_nil ?_
        refine x_next ?_
        (refine c_dec rfl (fun hc16 => ?_) (fun hc16 => ?_) <;> try (first | exact absurd rfl hc16 | contradiction | exact Bool.noConfusion (show false = true from hc16.symm.trans (by assumption)) | exact Bool.noConfusion (show true = false from hc16.symm.trans (by assumption)) | (exfalso; omega) | (exfalso; simp only [*, Bool.not_true, Bool.not_false, reduceCtorEq] at hc16; done)))
        refine c_skip ?_
        refine x_next ?_
        refine c_seq ?_
        refine c_region ?_
        refine w_pure (y_load_boxs rfl) rfl ?_
        refine w_alloc (k := fun b6 w6 hb6 hx6 hl6 hs6 => ?_)
        have hz_hx6 := hx6.size
        replace hb4 := hb4.ext hx6
        replace hb2 := hb2.ext hx6
        replace h := h.ext hx6
        replace E := E.trans hx6
        refine w_store_boxs rfl rfl (next := fun ws37 hbs37 hxs37 hss37 => ?_)
        (replace hb6 := hbs37; clear hbs37)
        have hz_hxs37 := hxs37.size
        replace hb4 := hb4.chg hxs37 (by omega)
        replace hb2 := hb2.chg hxs37 (by omega)
        replace h := h.chg hxs37 (by omega)
        replace E := E.next hxs37 (by omega)
        refine w_nil ?_
        refine x_next ?_
        refine c_seq ?_
        refine c_region ?_
        refine w_lit (α := (Int × Int)) rfl rfl rfl rfl rfl rfl rfl rfl (fun v19 w19 ho19 hx19 hl19 hh19 hs19 => ?_)
        have hl_ho19 := ho19.lt
        have hz_hx19 := hx19.size
        replace hb6 := hb6.ext hx19
        replace hb4 := hb4.ext hx19
        replace hb2 := hb2.ext hx19
        replace h := h.ext hx19
        replace E := E.trans hx19
        refine w_pure (y_field rfl) rfl ?_
        refine w_pure (y_load_box rfl) rfl ?_
        refine w_pure (y_move rfl) rfl ?_
        (refine w_slice rfl (.inl ⟨rfl, rfl⟩) (.inr ⟨_, _, rfl, rfl⟩) rfl ?_; intro u23 hu23)
        refine w_append rfl rfl (k := fun v24 w24 ho24 hx24 hr24 => ?_)
        have hl_ho24 := ho24.lt
        have hz_hx24 := hx24.size
        replace hb6 := hb6.chg hx24 (by omega)
        replace hb4 := hb4.chg hx24 (by omega)
        replace hb2 := hb2.chg hx24 (by omega)
        replace h := h.chg hx24 (by omega)
        replace E := E.next hx24 (by omega)
        replace hu23 := hu23.chg hx24 (by omega)
        refine w_pure (y_field rfl) rfl ?_
        refine w_store_box rfl rfl (next := fun ws49 hbs49 hxs49 hss49 => ?_)
        (replace hb6 := hbs49; clear hbs49)
        have hz_hxs49 := hxs49.size
        replace ho24 := ho24.chg hxs49 (by omega)
        replace hb4 := hb4.chg hxs49 (by omega)
        replace hb2 := hb2.chg hxs49 (by omega)
        replace h := h.chg hxs49 (by omega)
        replace E := E.next hxs49 (by omega)
        replace hu23 := hu23.chg hxs49 (by omega)
        refine w_nil ?_
        refine x_next ?_
        refine c_seq ?_
        refine c_region_held mixed (fun wr7 hxr7 hzr7 => ?_)
        have hz_hxr7 := hxr7.size
        replace hb6 := hb6.ext hxr7
        replace ho24 := ho24.ext hxr7
        replace hb4 := hb4.ext hxr7
        replace hb2 := hb2.ext hxr7
        replace h := h.ext hxr7
        replace E := E.trans hxr7
        replace hu23 := hu23.ext hxr7
        refine h_pure rfl (y_field rfl) rfl ?_
        refine h_pure rfl (y_load_box rfl) rfl ?_
        refine h_pure rfl (y_field rfl) rfl ?_
        refine h_pure rfl (y_load_box rfl) rfl ?_
        refine h_pure rfl (y_move rfl) rfl ?_
        refine h_pure rfl (y_add rfl rfl) rfl ?_
        (refine h_slice rfl rfl (.inr ⟨_, _, rfl, rfl⟩) (.inl ⟨rfl, rfl⟩) rfl ?_; intro u32 hu32)
        refine h_one rfl ?_
        refine w_append rfl rfl (k := fun v33 w33 ho33 hx33 hr33 => ?_)
        have hl_ho33 := ho33.lt
        have hz_hx33 := hx33.size
        replace hb6 := hb6.chg hx33 (by omega)
        replace hb4 := hb4.chg hx33 (by omega)
        replace hb2 := hb2.chg hx33 (by omega)
        replace h := h.chg hx33 (by omega)
        replace E := E.next hx33 (by omega)
        replace hu23 := hu23.chg hx33 (by omega)
        replace hu32 := hu32.chg hx33 (by omega)
        refine w_nil ?_
        refine x_heldk ?_
        refine h_pure rfl (y_field rfl) rfl ?_
        refine h_one rfl ?_
        refine w_store_box rfl rfl (next := fun ws67 hbs67 hxs67 hss67 => ?_)
        (replace hb6 := hbs67; clear hbs67)
        have hz_hxs67 := hxs67.size
        replace ho33 := ho33.chg hxs67 (by omega)
        replace hb4 := hb4.chg hxs67 (by omega)
        replace hb2 := hb2.chg hxs67 (by omega)
        replace h := h.chg hxs67 (by omega)
        replace E := E.next hxs67 (by omega)
        replace hu23 := hu23.chg hxs67 (by omega)
        replace hu32 := hu32.chg hxs67 (by omega)
        refine w_nil ?_
        refine x_heldk ?_
        refine h_nil ?_
        refine x_next ?_
        refine c_seq ?_
        refine c_region ?_
        refine w_pure (y_load_boxs rfl) rfl ?_
        refine w_store_boxs rfl rfl (next := fun ws75 hbs75 hxs75 hss75 => ?_)
        (replace hb4 := hbs75; clear hbs75)
        have hz_hxs75 := hxs75.size
        replace hb6 := hb6.chg hxs75 (by omega)
        replace ho33 := ho33.chg hxs75 (by omega)
        replace hb2 := hb2.chg hxs75 (by omega)
        replace h := h.chg hxs75 (by omega)
        replace E := E.next hxs75 (by omega)
        replace hu23 := hu23.chg hxs75 (by omega)
        replace hu32 := hu32.chg hxs75 (by omega)
        refine w_pure (y_assign rfl) rfl ?_
        refine w_nil ?_
        refine x_next ?_
        refine c_ret ?_
        rotate_left
      have e1 : ws.take (ws.length : Int).toNat = ws := List.take_length
      rw [e1] at ho33
      exact x_retv [_, _] rfl ⟨⟨_, rfl, run_load_str (Box.at (by assumption)) (by rfl)⟩, rfl, trivial⟩ ⟨_, by rw [ec]; rfl, by rw [resRem, if_pos ec]; exact Own.base ho33 (by omega), E.go⟩
    · have ec : cRem e n j ws k = 2 := by rw [cRem, if_pos hk, if_neg hl]
      refine ret_enter Try.func32 rfl Try.ntmps32 rfl ?_
      focus
        have ht_h := h.top
        refine c_seq ?_
        refine c_region ?_
        refine w_box rfl (k := fun b2 w2 hb2 hx2 hl2 hs2 => ?_)
        have hz_hx2 := hx2.size
        replace h := h.ext hx2
        replace E := E.trans hx2
        refine w_alloc (k := fun b4 w4 hb4 hx4 hl4 hs4 => ?_)
        have hz_hx4 := hx4.size
        replace hb2 := hb2.ext hx4
        replace h := h.ext hx4
        replace E := E.trans hx4
        refine w_pure (y_assign rfl) rfl ?_
        refine w_nil ?_
        refine x_next ?_
        refine c_seq ?_
        refine c_seq ?_
        refine c_region ?_
        refine w_val rfl rfl rfl (l12Ok_c) rfl (fun w7 hx7 hz7 => ?_)
        have hz_hx7 := hx7.size
        replace hb4 := hb4.ext hx7
        replace hb2 := hb2.ext hx7
        replace h := h.ext hx7
        replace E := E.trans hx7
        refine w_pure (y_not rfl) rfl ?_
        refine w_nil ?_
        refine x_next ?_
        (refine c_not rfl (fun hc8 => ?_) (fun hc8 => ?_) <;> try (first | exact absurd rfl hc8 | contradiction | exact Bool.noConfusion (show false = true from hc8.symm.trans (by assumption)) | exact Bool.noConfusion (show true = false from hc8.symm.trans (by assumption)) | (exfalso; omega) | (exfalso; simp only [*, Bool.not_true, Bool.not_false, reduceCtorEq] at hc8; done)))
        refine c_skip ?_
        refine x_next ?_
        refine c_seq ?_
        refine c_seq ?_
        refine c_region ?_
        refine w_pure (y_move rfl) rfl ?_
        refine w_pure (y_field rfl) rfl ?_
        refine w_pure (y_load_box rfl) rfl ?_
        refine w_pure (y_len rfl) rfl ?_
        refine w_pure (y_sub rfl rfl) rfl ?_
        refine w_pur rfl rfl rfl (l00In_c _ _ _) rfl ?_
        refine w_pure (y_not_dec rfl) rfl ?_
        refine w_nil ?_
        refine x_next ?_
        (refine c_dec rfl (fun hc16 => ?_) (fun hc16 => ?_) <;> try (first | exact absurd rfl hc16 | contradiction | exact Bool.noConfusion (show false = true from hc16.symm.trans (by assumption)) | exact Bool.noConfusion (show true = false from hc16.symm.trans (by assumption)) | (exfalso; omega) | (exfalso; simp only [*, Bool.not_true, Bool.not_false, reduceCtorEq] at hc16; done)))
        refine c_seq ?_
        refine c_region ?_
        refine w_pure (y_build rfl) rfl ?_
        refine w_store_boxs rfl rfl (next := fun ws34 hbs34 hxs34 hss34 => ?_)
        (replace hb4 := hbs34; clear hbs34)
        have hz_hxs34 := hxs34.size
        replace hb2 := hb2.chg hxs34 (by omega)
        replace h := h.chg hxs34 (by omega)
        replace E := E.next hxs34 (by omega)
        refine w_pure (y_assign rfl) rfl ?_
        refine w_nil ?_
        refine x_next ?_
        refine c_ret ?_
        refine x_then_ret ?_
        rotate_left
      exact x_retv [_, _] rfl ⟨⟨_, rfl, run_load_str (Box.at (by assumption)) (by rfl)⟩, rfl, trivial⟩ ⟨_, by rw [ec]; rfl, by rw [resRem, ec]; exact Own.nil _ _ _, E.go⟩
  · have ec : cRem e n j ws k = 1 := by rw [cRem, if_neg hk]
    refine ret_enter Try.func32 rfl Try.ntmps32 rfl ?_
    focus
      have ht_h := h.top
      refine c_seq ?_
      refine c_region ?_
      refine w_box rfl (k := fun b2 w2 hb2 hx2 hl2 hs2 => ?_)
      have hz_hx2 := hx2.size
      replace h := h.ext hx2
      replace E := E.trans hx2
      refine w_alloc (k := fun b4 w4 hb4 hx4 hl4 hs4 => ?_)
      have hz_hx4 := hx4.size
      replace hb2 := hb2.ext hx4
      replace h := h.ext hx4
      replace E := E.trans hx4
      refine w_pure (y_assign rfl) rfl ?_
      refine w_nil ?_
      refine x_next ?_
      refine c_seq ?_
      refine c_seq ?_
      refine c_region ?_
      refine w_val rfl rfl rfl (l12Ok_c) rfl (fun w7 hx7 hz7 => ?_)
      have hz_hx7 := hx7.size
      replace hb4 := hb4.ext hx7
      replace hb2 := hb2.ext hx7
      replace h := h.ext hx7
      replace E := E.trans hx7
      refine w_pure (y_not rfl) rfl ?_
      refine w_nil ?_
      refine x_next ?_
      (refine c_not rfl (fun hc8 => ?_) (fun hc8 => ?_) <;> try (first | exact absurd rfl hc8 | contradiction | exact Bool.noConfusion (show false = true from hc8.symm.trans (by assumption)) | exact Bool.noConfusion (show true = false from hc8.symm.trans (by assumption)) | (exfalso; omega) | (exfalso; simp only [*, Bool.not_true, Bool.not_false, reduceCtorEq] at hc8; done)))
      refine c_seq ?_
      refine c_region ?_
      refine w_pure (y_build rfl) rfl ?_
      refine w_store_boxs rfl rfl (next := fun ws19 hbs19 hxs19 hss19 => ?_)
      (replace hb4 := hbs19; clear hbs19)
      have hz_hxs19 := hxs19.size
      replace hb2 := hb2.chg hxs19 (by omega)
      replace h := h.chg hxs19 (by omega)
      replace E := E.next hxs19 (by omega)
      refine w_pure (y_assign rfl) rfl ?_
      refine w_nil ?_
      refine x_next ?_
      refine c_ret ?_
      refine x_then_ret ?_
      rotate_left
    exact x_retv [_, _] rfl ⟨⟨_, rfl, run_load_str (Box.at (by assumption)) (by rfl)⟩, rfl, trivial⟩ ⟨_, by rw [ec]; rfl, by rw [resRem, ec]; exact Own.nil _ _ _, E.go⟩
end
end Go.Proofs.Ythigkbkaeopipaa

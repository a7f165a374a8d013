/- Contracts: a wire is added. -/
import Derived.Test.YthigkbkaeopipaaBrdE
namespace Go.Proofs.Ythigkbkaeopipaa
open Go Go.Gw
set_option linter.unusedVariables false
set_option linter.unusedSimpArgs false
def cAdd (e n j : Int) (ws : List (Int × Int)) (p : Int × Int) : Int := if okB e n j ws = true then (if ws.length = 40 then 5 else if wireB (e + n + j) p = true then 0 else 2) else 1
def resAddW (e n j : Int) (ws : List (Int × Int)) (p : Int × Int) : List (Int × Int) := if cAdd e n j ws p = 0 then ws ++ [p] else []
/-- a number of a board that is handed back, 0 where there is a code -/
def orZero (c x : Int) : Int := if c = 0 then x else 0
theorem cAdd_ok {e n j : Int} {ws : List (Int × Int)} {p : Int × Int} (h : cAdd e n j ws p = 0) : okB e n j ws = true ∧ ¬ ws.length = 40 ∧ wireB (e + n + j) p = true := by
  by_cases hk : okB e n j ws = true
  · by_cases hl : ws.length = 40
    · simp [cAdd, hk, hl] at h
    · by_cases hw : wireB (e + n + j) p = true
      · exact ⟨hk, hl, hw⟩
      · simp [cAdd, hk, hl, hw] at h
  · simp [cAdd, hk] at h
theorem resAddW_len (e n j : Int) (ws : List (Int × Int)) (p : Int × Int) : (resAddW e n j ws p).length ≤ 41 := by
  unfold resAddW; split
  · rename_i h; have := okB_num (cAdd_ok h).1; simp; omega
  · simp
section
variable {w : World} {v v' v2 : Value} {xs ys wo : List Int} {ws us : List (Int × Int)} {lo hi lo' hi' b b' b2 b3 : Nat} {e n j e' n' j' : Int}
theorem withWires_c (h : SL w lo hi v us := by repeat (first | assumption | exact Go.Gw.Own.sl (by assumption) | exact Go.Gw.Box.at (by assumption) | exact Go.Gw.SLL.el (by first | assumption | exact Go.Gw.OwnD.sll (by assumption)) _ (by omega) | exact Go.Gw.SLL.at (by first | assumption | exact Go.Gw.OwnD.sll (by assumption)) (by omega) | exact Go.Gw.OwnD.sll (by assumption) | (apply Go.Gw.SL.chg; case hx => assumption) | (apply Go.Gw.Own.chg; case hx => assumption) | (apply Go.Gw.Box.chg; case hx => assumption) | (apply Go.Gw.At.chg; case hx => assumption) | exact .inl (Nat.zero_le _) | exact .inr (Nat.zero_le _) | (show _ ∨ _; omega))) (h' : SL w lo' hi' v' ws := by repeat (first | assumption | exact Go.Gw.Own.sl (by assumption) | exact Go.Gw.Box.at (by assumption) | exact Go.Gw.SLL.el (by first | assumption | exact Go.Gw.OwnD.sll (by assumption)) _ (by omega) | exact Go.Gw.SLL.at (by first | assumption | exact Go.Gw.OwnD.sll (by assumption)) (by omega) | exact Go.Gw.OwnD.sll (by assumption) | (apply Go.Gw.SL.chg; case hx => assumption) | (apply Go.Gw.Own.chg; case hx => assumption) | (apply Go.Gw.Box.chg; case hx => assumption) | (apply Go.Gw.At.chg; case hx => assumption) | exact .inl (Nat.zero_le _) | exact .inr (Nat.zero_le _) | (show _ ∨ _; omega))) : Val Try.prog 118 [.agg #[.int .i64 e, .int .i64 n, .int .i64 j, v], v'] w (.agg #[.int .i64 e, .int .i64 n, .int .i64 j, v']) := by
  refine ⟨fun w0 hx0 => ?_⟩
  have E : Since 0 0 w0 w0 := Since.refl 0 0 w0
  refine ret_enter Try.func118 rfl Try.ntmps118 rfl ?_
  focus
    have ht_h := h.top
    have ht_h' := h'.top
    have hz_hx0 := hx0.size
    replace h := h.ext hx0
    replace h' := h'.ext hx0
    refine c_seq ?_
    refine c_region ?_
    refine w_box rfl (k := fun b2 w2 hb2 hx2 hl2 hs2 => ?_)
    have hz_hx2 := hx2.size
    replace E := E.trans hx2
    replace h := h.ext hx2
    replace h' := h'.ext hx2
    refine w_alloc (k := fun b4 w4 hb4 hx4 hl4 hs4 => ?_)
    have hz_hx4 := hx4.size
    replace hb2 := hb2.ext hx4
    replace E := E.trans hx4
    replace h := h.ext hx4
    replace h' := h'.ext hx4
    refine w_nil ?_
    refine x_next ?_
    refine c_seq ?_
    refine c_region ?_
    refine w_pure (y_field rfl) rfl ?_
    refine w_pure (y_load_box rfl) rfl ?_
    refine w_pure (y_field rfl) rfl ?_
    refine w_pure (y_load_box rfl) rfl ?_
    refine w_pure (y_field rfl) rfl ?_
    refine w_pure (y_load_box rfl) rfl ?_
    refine w_pure (y_move rfl) rfl ?_
    refine w_pure (y_build rfl) rfl ?_
    refine w_store_boxs rfl rfl (next := fun ws17 hbs17 hxs17 hss17 => ?_)
    (replace hb4 := hbs17; clear hbs17)
    have hz_hxs17 := hxs17.size
    replace hb2 := hb2.chg hxs17 (by omega)
    replace E := E.next hxs17 (by omega)
    replace h := h.chg hxs17 (by omega)
    replace h' := h'.chg hxs17 (by omega)
    refine w_nil ?_
    refine x_next ?_
    refine c_ret ?_
    rotate_left
  exact x_retv [_] rfl ⟨⟨_, rfl, run_load_str (Box.at (by assumption)) (by rfl)⟩, trivial⟩ ⟨rfl, E.go⟩
theorem iAddWire_c (x y : Int) (h : SL w lo hi v ws := by repeat (first | assumption | exact Go.Gw.Own.sl (by assumption) | exact Go.Gw.Box.at (by assumption) | exact Go.Gw.SLL.el (by first | assumption | exact Go.Gw.OwnD.sll (by assumption)) _ (by omega) | exact Go.Gw.SLL.at (by first | assumption | exact Go.Gw.OwnD.sll (by assumption)) (by omega) | exact Go.Gw.OwnD.sll (by assumption) | (apply Go.Gw.SL.chg; case hx => assumption) | (apply Go.Gw.Own.chg; case hx => assumption) | (apply Go.Gw.Box.chg; case hx => assumption) | (apply Go.Gw.At.chg; case hx => assumption) | exact .inl (Nat.zero_le _) | exact .inr (Nat.zero_le _) | (show _ ∨ _; omega))) : Ret Try.prog 40 [.agg #[.int .i64 e, .int .i64 n, .int .i64 j, v], .agg #[.int .i64 x, .int .i64 y]] w fun u w' =>
    ∃ d, u = .tuple #[.agg #[.int .i64 (orZero (cAdd e n j ws (x, y)) e), .int .i64 (orZero (cAdd e n j ws (x, y)) n), .int .i64 (orZero (cAdd e n j ws (x, y)) j), d], .int .i64 (cAdd e n j ws (x, y))] ∧ Own w' 76 w.heap.size d (resAddW e n j ws (x, y)) ∧ Ext w w' := by
  have E : Since 0 0 w w := Since.refl 0 0 w
  by_cases hk : okB e n j ws = true
  · have q1 := okB_num hk
    by_cases hl : ws.length = 40
    · have ec : cAdd e n j ws (x, y) = 5 := by rw [cAdd, if_pos hk, if_pos hl]
      refine ret_enter Try.func40 rfl Try.ntmps40 rfl ?_
      focus
        have ht_h := h.top
        refine c_seq ?_
        refine c_region ?_
        refine w_box rfl (k := fun b2 w2 hb2 hx2 hl2 hs2 => ?_)
        have hz_hx2 := hx2.size
        replace h := h.ext hx2
        replace E := E.trans hx2
        refine w_box rfl (k := fun b3 w3 hb3 hx3 hl3 hs3 => ?_)
        have hz_hx3 := hx3.size
        replace hb2 := hb2.ext hx3
        replace h := h.ext hx3
        replace E := E.trans hx3
        refine w_alloc (k := fun b4 w4 hb4 hx4 hl4 hs4 => ?_)
        have hz_hx4 := hx4.size
        replace hb3 := hb3.ext hx4
        replace hb2 := hb2.ext hx4
        replace h := h.ext hx4
        replace E := E.trans hx4
        refine w_pure (y_assign rfl) rfl ?_
        refine w_nil ?_
        refine x_next ?_
        refine c_seq ?_
        refine c_block ?_
        refine c_seq ?_
        refine c_region ?_
        refine w_pure (y_load_boxs rfl) rfl ?_
        refine w_val rfl rfl rfl (iValidBoard_c) rfl (fun w8 hx8 hz8 => ?_)
        have hz_hx8 := hx8.size
        replace hb4 := hb4.ext hx8
        replace hb3 := hb3.ext hx8
        replace hb2 := hb2.ext hx8
        replace h := h.ext hx8
        replace E := E.trans hx8
        refine w_pure (y_not rfl) rfl ?_
        refine w_pure (y_assign rfl) rfl ?_
        refine w_nil ?_
        refine x_next ?_
        (refine c_not rfl (fun hc6 => ?_) (fun hc6 => ?_) <;> try (first | exact absurd rfl hc6 | contradiction | exact Bool.noConfusion (show false = true from hc6.symm.trans (by assumption)) | exact Bool.noConfusion (show true = false from hc6.symm.trans (by assumption)) | (exfalso; omega) | (exfalso; simp only [*, Bool.not_true, Bool.not_false, reduceCtorEq] at hc6; done)))
        refine c_seq ?_
        refine c_region ?_
        refine w_pure (y_field rfl) rfl ?_
        refine w_pure (y_load_box rfl) rfl ?_
        refine w_pure (y_len rfl) rfl ?_
        refine w_pure (y_eq rfl rfl) rfl ?_
        refine w_pure (y_assign rfl) rfl ?_
        refine w_nil ?_
        refine x_next ?_
        (refine c_dec rfl (fun hc11 => ?_) (fun hc11 => ?_) <;> try (first | exact absurd rfl hc11 | contradiction | exact Bool.noConfusion (show false = true from hc11.symm.trans (by assumption)) | exact Bool.noConfusion (show true = false from hc11.symm.trans (by assumption)) | (exfalso; omega) | (exfalso; simp only [*, Bool.not_true, Bool.not_false, reduceCtorEq] at hc11; done)))
        refine c_seq ?_
        refine c_region ?_
        refine w_pure (y_build rfl) rfl ?_
        refine w_store_boxs rfl rfl (next := fun ws33 hbs33 hxs33 hss33 => ?_)
        (replace hb4 := hbs33; clear hbs33)
        have hz_hxs33 := hxs33.size
        replace hb3 := hb3.chg hxs33 (by omega)
        replace hb2 := hb2.chg hxs33 (by omega)
        replace h := h.chg hxs33 (by omega)
        replace E := E.next hxs33 (by omega)
        refine w_pure (y_assign rfl) rfl ?_
        refine w_nil ?_
        refine x_next ?_
        refine c_ret ?_
        refine x_block_ret ?_
        refine x_then_ret ?_
        rotate_left
      exact x_retv [_, _] rfl ⟨⟨_, rfl, run_load_str (Box.at (by assumption)) (by rfl)⟩, rfl, trivial⟩ ⟨_, by rw [ec]; rfl, by rw [resAddW, ec]; exact Own.nil _ _ _, E.go⟩
    · by_cases hw : wireB (e + n + j) (x, y) = true
      · have hw2 : 0 ≤ (x, y).1 ∧ (x, y).1 < (x, y).2 ∧ (x, y).2 < e + n + j := of_decide_eq_true hw
        have ec : cAdd e n j ws (x, y) = 0 := by rw [cAdd, if_pos hk, if_neg hl, if_pos hw]
        refine ret_enter Try.func40 rfl Try.ntmps40 rfl ?_
        focus
          have ht_h := h.top
          refine c_seq ?_
          refine c_region ?_
          refine w_box rfl (k := fun b2 w2 hb2 hx2 hl2 hs2 => ?_)
          have hz_hx2 := hx2.size
          replace h := h.ext hx2
          replace E := E.trans hx2
          refine w_box rfl (k := fun b3 w3 hb3 hx3 hl3 hs3 => ?_)
          have hz_hx3 := hx3.size
          replace hb2 := hb2.ext hx3
          replace h := h.ext hx3
          replace E := E.trans hx3
          refine w_alloc (k := fun b4 w4 hb4 hx4 hl4 hs4 => ?_)
          have hz_hx4 := hx4.size
          replace hb3 := hb3.ext hx4
          replace hb2 := hb2.ext hx4
          replace h := h.ext hx4
          replace E := E.trans hx4
          refine w_pure (y_assign rfl) rfl ?_
          refine w_nil ?_
          refine x_next ?_
          refine c_seq ?_
          refine c_block ?_
          refine c_seq ?_
          refine c_region ?_
          refine w_pure (y_load_boxs rfl) rfl ?_
          refine w_val rfl rfl rfl (iValidBoard_c) rfl (fun w8 hx8 hz8 => ?_)
          have hz_hx8 := hx8.size
          replace hb4 := hb4.ext hx8
          replace hb3 := hb3.ext hx8
          replace hb2 := hb2.ext hx8
          replace h := h.ext hx8
          replace E := E.trans hx8
          refine w_pure (y_not rfl) rfl ?_
          refine w_pure (y_assign rfl) rfl ?_
          refine w_nil ?_
          refine x_next ?_
          (refine c_not rfl (fun hc6 => ?_) (fun hc6 => ?_) <;> try (first | exact absurd rfl hc6 | contradiction | exact Bool.noConfusion (show false = true from hc6.symm.trans (by assumption)) | exact Bool.noConfusion (show true = false from hc6.symm.trans (by assumption)) | (exfalso; omega) | (exfalso; simp only [*, Bool.not_true, Bool.not_false, reduceCtorEq] at hc6; done)))
          refine c_seq ?_
          refine c_region ?_
          refine w_pure (y_field rfl) rfl ?_
          refine w_pure (y_load_box rfl) rfl ?_
          refine w_pure (y_len rfl) rfl ?_
          refine w_pure (y_eq rfl rfl) rfl ?_
          refine w_pure (y_assign rfl) rfl ?_
          refine w_nil ?_
          refine x_next ?_
          (refine c_dec rfl (fun hc11 => ?_) (fun hc11 => ?_) <;> try (first | exact absurd rfl hc11 | contradiction | exact Bool.noConfusion (show false = true from hc11.symm.trans (by assumption)) | exact Bool.noConfusion (show true = false from hc11.symm.trans (by assumption)) | (exfalso; omega) | (exfalso; simp only [*, Bool.not_true, Bool.not_false, reduceCtorEq] at hc11; done)))
          refine c_seq ?_
          refine c_region ?_
          refine w_pure (y_load_boxs rfl) rfl ?_
          refine w_pure (y_load_boxs rfl) rfl ?_
          refine w_val rfl rfl rfl (isWire_c _ _) rfl (fun w20 hx20 hz20 => ?_)
          have hz_hx20 := hx20.size
          replace hb4 := hb4.ext hx20
          replace hb3 := hb3.ext hx20
          replace hb2 := hb2.ext hx20
          replace h := h.ext hx20
          replace E := E.trans hx20
          refine w_pure (y_not_dec rfl) rfl ?_
          refine w_pure (y_assign rfl) rfl ?_
          refine w_nil ?_
          refine x_next ?_
          (refine c_dec rfl (fun hc17 => ?_) (fun hc17 => ?_) <;> try (first | exact absurd rfl hc17 | contradiction | exact Bool.noConfusion (show false = true from hc17.symm.trans (by assumption)) | exact Bool.noConfusion (show true = false from hc17.symm.trans (by assumption)) | (exfalso; omega) | (exfalso; simp only [*, Bool.not_true, Bool.not_false, reduceCtorEq] at hc17; done)))
          refine c_skip ?_
          refine x_block_norm ?_
          refine x_next ?_
          refine c_seq ?_
          refine c_region_base mixed (fun wr7 hxr7 hzr7 EBr7 => ?_)
          have hz_hxr7 := hxr7.size
          replace hb4 := hb4.ext hxr7
          replace hb3 := hb3.ext hxr7
          replace hb2 := hb2.ext hxr7
          replace h := h.ext hxr7
          replace E := E.trans hxr7
          refine b_pure rfl (y_load_boxs rfl) rfl ?_
          refine b_turn ?_
          refine b_pure rfl (y_field rfl) rfl ?_
          refine b_pure rfl (y_load_box rfl) rfl ?_
          refine b_turn ?_
          refine b_pure rfl (y_load_boxs rfl) rfl ?_
          refine b_turn ?_
          refine b_turn ?_
          refine b_turn ?_
          refine b_turn ?_
          refine b_turn ?_
          refine b_turn ?_
          refine b_turn ?_
          refine b_two (j := 1) rfl rfl ?_ ?_
          refine w_lit (α := (Int × Int)) rfl rfl rfl rfl rfl rfl rfl rfl (fun v29 w29 ho29 hx29 hl29 hh29 hs29 => ?_)
          have hl_ho29 := ho29.lt
          have hz_hx29 := hx29.size
          replace EBr7 := EBr7.trans hx29
          replace hb4 := hb4.ext hx29
          replace hb3 := hb3.ext hx29
          replace hb2 := hb2.ext hx29
          replace h := h.ext hx29
          replace E := E.trans hx29
          refine w_nil ?_
          refine x_hb ?_
          refine b_turn ?_
          refine b_turn ?_
          refine b_turn ?_
          refine b_turn ?_
          refine b_one rfl ?_
          refine w_lit (α := (Int × Int)) rfl rfl rfl rfl rfl rfl rfl rfl (fun v24 w24 ho24 hx24 hl24 hh24 hs24 => ?_)
          have hl_ho24 := ho24.lt
          have hz_hx24 := hx24.size
          replace ho29 := ho29.ext hx24
          replace EBr7 := EBr7.trans hx24
          replace hb4 := hb4.ext hx24
          replace hb3 := hb3.ext hx24
          replace hb2 := hb2.ext hx24
          replace h := h.ext hx24
          replace E := E.trans hx24
          refine w_nil ?_
          refine x_hb ?_
          refine b_one rfl ?_
          refine w_append rfl rfl (k := fun v27 w27 ho27 hx27 hr27 => ?_)
          have hl_ho27 := ho27.lt
          have hz_hx27 := hx27.size
          replace ho29 := ho29.chg hx27 (by omega)
          replace EBr7 := EBr7.next hx27 (by omega)
          replace hb4 := hb4.chg hx27 (by omega)
          replace hb3 := hb3.chg hx27 (by omega)
          replace hb2 := hb2.chg hx27 (by omega)
          replace h := h.chg hx27 (by omega)
          replace E := E.next hx27 (by omega)
          refine w_nil ?_
          refine x_hb ?_
          refine b_one rfl ?_
          refine w_append rfl rfl (k := fun v30 w30 ho30 hx30 hr30 => ?_)
          have hl_ho30 := ho30.lt
          have hz_hx30 := hx30.size
          replace ho29 := ho29.chg hx30 (by omega)
          replace EBr7 := EBr7.next hx30 (by omega)
          replace hb4 := hb4.chg hx30 (by omega)
          replace hb3 := hb3.chg hx30 (by omega)
          replace hb2 := hb2.chg hx30 (by omega)
          replace h := h.chg hx30 (by omega)
          replace E := E.next hx30 (by omega)
          refine w_nil ?_
          refine x_hb ?_
          refine b_one rfl ?_
          refine w_val rfl rfl rfl (withWires_c) rfl (fun w31 hx31 hz31 => ?_)
          have hz_hx31 := hx31.size
          replace ho30 := ho30.ext hx31
          replace ho29 := ho29.ext hx31
          replace EBr7 := EBr7.trans hx31
          replace hb4 := hb4.ext hx31
          replace hb3 := hb3.ext hx31
          replace hb2 := hb2.ext hx31
          replace h := h.ext hx31
          replace E := E.trans hx31
          refine w_nil ?_
          refine x_hb ?_
          refine b_one rfl ?_
          refine w_store_boxs rfl rfl (next := fun ws83 hbs83 hxs83 hss83 => ?_)
          (replace hb4 := hbs83; clear hbs83)
          have hz_hxs83 := hxs83.size
          replace ho30 := ho30.chg hxs83 (by omega)
          replace ho29 := ho29.chg hxs83 (by omega)
          replace hb3 := hb3.chg hxs83 (by omega)
          replace hb2 := hb2.chg hxs83 (by omega)
          replace h := h.chg hxs83 (by omega)
          replace E := E.next hxs83 (by omega)
          refine w_nil ?_
          refine x_hbk ?_
          refine b_pure rfl (y_assign rfl) rfl ?_
          refine b_nil ?_
          refine x_next ?_
          refine c_ret ?_
          rotate_left
          refine w_lit (α := (Int × Int)) rfl rfl rfl rfl rfl rfl rfl rfl (fun v24 w24 ho24 hx24 hl24 hh24 hs24 => ?_)
          have hl_ho24 := ho24.lt
          have hz_hx24 := hx24.size
          replace EBr7 := EBr7.trans hx24
          replace hb4 := hb4.ext hx24
          replace hb3 := hb3.ext hx24
          replace hb2 := hb2.ext hx24
          replace h := h.ext hx24
          replace E := E.trans hx24
          refine w_nil ?_
          refine x_hb ?_
          refine b_turn ?_
          refine b_turn ?_
          refine b_turn ?_
          refine b_turn ?_
          refine b_turn ?_
          refine b_turn ?_
          refine b_two (j := 4) rfl rfl ?_ ?_
          refine w_lit (α := (Int × Int)) rfl rfl rfl rfl rfl rfl rfl rfl (fun v29 w29 ho29 hx29 hl29 hh29 hs29 => ?_)
          have hl_ho29 := ho29.lt
          have hz_hx29 := hx29.size
          replace ho24 := ho24.ext hx29
          replace EBr7 := EBr7.trans hx29
          replace hb4 := hb4.ext hx29
          replace hb3 := hb3.ext hx29
          replace hb2 := hb2.ext hx29
          replace h := h.ext hx29
          replace E := E.trans hx29
          refine w_nil ?_
          refine x_hb ?_
          refine b_turn ?_
          refine b_turn ?_
          refine b_turn ?_
          refine b_turn ?_
          refine b_one rfl ?_
          refine w_append rfl rfl (k := fun v27 w27 ho27 hx27 hr27 => ?_)
          have hl_ho27 := ho27.lt
          have hz_hx27 := hx27.size
          replace ho29 := ho29.chg hx27 (by omega)
          replace EBr7 := EBr7.next hx27 (by omega)
          replace hb4 := hb4.chg hx27 (by omega)
          replace hb3 := hb3.chg hx27 (by omega)
          replace hb2 := hb2.chg hx27 (by omega)
          replace h := h.chg hx27 (by omega)
          replace E := E.next hx27 (by omega)
          refine w_nil ?_
          refine x_hb ?_
          refine b_one rfl ?_
          refine w_append rfl rfl (k := fun v30 w30 ho30 hx30 hr30 => ?_)
          have hl_ho30 := ho30.lt
          have hz_hx30 := hx30.size
          replace ho29 := ho29.chg hx30 (by omega)
          replace EBr7 := EBr7.next hx30 (by omega)
          replace hb4 := hb4.chg hx30 (by omega)
          replace hb3 := hb3.chg hx30 (by omega)
          replace hb2 := hb2.chg hx30 (by omega)
          replace h := h.chg hx30 (by omega)
          replace E := E.next hx30 (by omega)
          refine w_nil ?_
          refine x_hb ?_
          refine b_one rfl ?_
          refine w_val rfl rfl rfl (withWires_c) rfl (fun w31 hx31 hz31 => ?_)
          have hz_hx31 := hx31.size
          replace ho30 := ho30.ext hx31
          replace ho29 := ho29.ext hx31
          replace EBr7 := EBr7.trans hx31
          replace hb4 := hb4.ext hx31
          replace hb3 := hb3.ext hx31
          replace hb2 := hb2.ext hx31
          replace h := h.ext hx31
          replace E := E.trans hx31
          refine w_nil ?_
          refine x_hb ?_
          refine b_one rfl ?_
          refine w_store_boxs rfl rfl (next := fun ws121 hbs121 hxs121 hss121 => ?_)
          (replace hb4 := hbs121; clear hbs121)
          have hz_hxs121 := hxs121.size
          replace ho30 := ho30.chg hxs121 (by omega)
          replace ho29 := ho29.chg hxs121 (by omega)
          replace hb3 := hb3.chg hxs121 (by omega)
          replace hb2 := hb2.chg hxs121 (by omega)
          replace h := h.chg hxs121 (by omega)
          replace E := E.next hxs121 (by omega)
          refine w_nil ?_
          refine x_hbk ?_
          refine b_pure rfl (y_assign rfl) rfl ?_
          refine b_nil ?_
          refine x_next ?_
          refine c_ret ?_
          rotate_left
          refine w_append rfl rfl (k := fun v27 w27 ho27 hx27 hr27 => ?_)
          have hl_ho27 := ho27.lt
          have hz_hx27 := hx27.size
          replace EBr7 := EBr7.next hx27 (by omega)
          replace hb4 := hb4.chg hx27 (by omega)
          replace hb3 := hb3.chg hx27 (by omega)
          replace hb2 := hb2.chg hx27 (by omega)
          replace h := h.chg hx27 (by omega)
          replace E := E.next hx27 (by omega)
          refine w_nil ?_
          refine x_hb ?_
          refine b_one rfl ?_
          refine w_lit (α := (Int × Int)) rfl rfl rfl rfl rfl rfl rfl rfl (fun v29 w29 ho29 hx29 hl29 hh29 hs29 => ?_)
          have hl_ho29 := ho29.lt
          have hz_hx29 := hx29.size
          replace ho27 := ho27.ext hx29
          replace EBr7 := EBr7.trans hx29
          replace hb4 := hb4.ext hx29
          replace hb3 := hb3.ext hx29
          replace hb2 := hb2.ext hx29
          replace h := h.ext hx29
          replace E := E.trans hx29
          refine w_nil ?_
          refine x_hb ?_
          refine b_one rfl ?_
          refine w_append rfl rfl (k := fun v30 w30 ho30 hx30 hr30 => ?_)
          have hl_ho30 := ho30.lt
          have hz_hx30 := hx30.size
          replace ho29 := ho29.chg hx30 (by omega)
          replace EBr7 := EBr7.next hx30 (by omega)
          replace hb4 := hb4.chg hx30 (by omega)
          replace hb3 := hb3.chg hx30 (by omega)
          replace hb2 := hb2.chg hx30 (by omega)
          replace h := h.chg hx30 (by omega)
          replace E := E.next hx30 (by omega)
          refine w_nil ?_
          refine x_hb ?_
          refine b_one rfl ?_
          refine w_val rfl rfl rfl (withWires_c) rfl (fun w31 hx31 hz31 => ?_)
          have hz_hx31 := hx31.size
          replace ho30 := ho30.ext hx31
          replace ho29 := ho29.ext hx31
          replace EBr7 := EBr7.trans hx31
          replace hb4 := hb4.ext hx31
          replace hb3 := hb3.ext hx31
          replace hb2 := hb2.ext hx31
          replace h := h.ext hx31
          replace E := E.trans hx31
          refine w_nil ?_
          refine x_hb ?_
          refine b_one rfl ?_
          refine w_store_boxs rfl rfl (next := fun ws145 hbs145 hxs145 hss145 => ?_)
          (replace hb4 := hbs145; clear hbs145)
          have hz_hxs145 := hxs145.size
          replace ho30 := ho30.chg hxs145 (by omega)
          replace ho29 := ho29.chg hxs145 (by omega)
          replace hb3 := hb3.chg hxs145 (by omega)
          replace hb2 := hb2.chg hxs145 (by omega)
          replace h := h.chg hxs145 (by omega)
          replace E := E.next hxs145 (by omega)
          refine w_nil ?_
          refine x_hbk ?_
          refine b_pure rfl (y_assign rfl) rfl ?_
          refine b_nil ?_
          refine x_next ?_
          refine c_ret ?_
          rotate_left
        all_goals exact x_retv [_, _] rfl ⟨⟨_, rfl, run_load_str (Box.at (by assumption)) (by rfl)⟩, rfl, trivial⟩ ⟨_, by rw [ec]; rfl, by rw [resAddW, if_pos ec]; exact Own.base (by assumption) (by omega), E.go⟩
      · have hw2 : ¬ (0 ≤ (x, y).1 ∧ (x, y).1 < (x, y).2 ∧ (x, y).2 < e + n + j) := fun g => hw (decide_eq_true g)
        have ec : cAdd e n j ws (x, y) = 2 := by rw [cAdd, if_pos hk, if_neg hl, if_neg hw]
        refine ret_enter Try.func40 rfl Try.ntmps40 rfl ?_
        focus
          have ht_h := h.top
          refine c_seq ?_
          refine c_region ?_
          refine w_box rfl (k := fun b2 w2 hb2 hx2 hl2 hs2 => ?_)
          have hz_hx2 := hx2.size
          replace h := h.ext hx2
          replace E := E.trans hx2
          refine w_box rfl (k := fun b3 w3 hb3 hx3 hl3 hs3 => ?_)
          have hz_hx3 := hx3.size
          replace hb2 := hb2.ext hx3
          replace h := h.ext hx3
          replace E := E.trans hx3
          refine w_alloc (k := fun b4 w4 hb4 hx4 hl4 hs4 => ?_)
          have hz_hx4 := hx4.size
          replace hb3 := hb3.ext hx4
          replace hb2 := hb2.ext hx4
          replace h := h.ext hx4
          replace E := E.trans hx4
          refine w_pure (y_assign rfl) rfl ?_
          refine w_nil ?_
          refine x_next ?_
          refine c_seq ?_
          refine c_block ?_
          refine c_seq ?_
          refine c_region ?_
          refine w_pure (y_load_boxs rfl) rfl ?_
          refine w_val rfl rfl rfl (iValidBoard_c) rfl (fun w8 hx8 hz8 => ?_)
          have hz_hx8 := hx8.size
          replace hb4 := hb4.ext hx8
          replace hb3 := hb3.ext hx8
          replace hb2 := hb2.ext hx8
          replace h := h.ext hx8
          replace E := E.trans hx8
          refine w_pure (y_not rfl) rfl ?_
          refine w_pure (y_assign rfl) rfl ?_
          refine w_nil ?_
          refine x_next ?_
          (refine c_not rfl (fun hc6 => ?_) (fun hc6 => ?_) <;> try (first | exact absurd rfl hc6 | contradiction | exact Bool.noConfusion (show false = true from hc6.symm.trans (by assumption)) | exact Bool.noConfusion (show true = false from hc6.symm.trans (by assumption)) | (exfalso; omega) | (exfalso; simp only [*, Bool.not_true, Bool.not_false, reduceCtorEq] at hc6; done)))
          refine c_seq ?_
          refine c_region ?_
          refine w_pure (y_field rfl) rfl ?_
          refine w_pure (y_load_box rfl) rfl ?_
          refine w_pure (y_len rfl) rfl ?_
          refine w_pure (y_eq rfl rfl) rfl ?_
          refine w_pure (y_assign rfl) rfl ?_
          refine w_nil ?_
          refine x_next ?_
          (refine c_dec rfl (fun hc11 => ?_) (fun hc11 => ?_) <;> try (first | exact absurd rfl hc11 | contradiction | exact Bool.noConfusion (show false = true from hc11.symm.trans (by assumption)) | exact Bool.noConfusion (show true = false from hc11.symm.trans (by assumption)) | (exfalso; omega) | (exfalso; simp only [*, Bool.not_true, Bool.not_false, reduceCtorEq] at hc11; done)))
          refine c_seq ?_
          refine c_region ?_
          refine w_pure (y_load_boxs rfl) rfl ?_
          refine w_pure (y_load_boxs rfl) rfl ?_
          refine w_val rfl rfl rfl (isWire_c _ _) rfl (fun w20 hx20 hz20 => ?_)
          have hz_hx20 := hx20.size
          replace hb4 := hb4.ext hx20
          replace hb3 := hb3.ext hx20
          replace hb2 := hb2.ext hx20
          replace h := h.ext hx20
          replace E := E.trans hx20
          refine w_pure (y_not_dec rfl) rfl ?_
          refine w_pure (y_assign rfl) rfl ?_
          refine w_nil ?_
          refine x_next ?_
          (refine c_dec rfl (fun hc17 => ?_) (fun hc17 => ?_) <;> try (first | exact absurd rfl hc17 | contradiction | exact Bool.noConfusion (show false = true from hc17.symm.trans (by assumption)) | exact Bool.noConfusion (show true = false from hc17.symm.trans (by assumption)) | (exfalso; omega) | (exfalso; simp only [*, Bool.not_true, Bool.not_false, reduceCtorEq] at hc17; done)))
          refine c_seq ?_
          refine c_region ?_
          refine w_pure (y_build rfl) rfl ?_
          refine w_store_boxs rfl rfl (next := fun ws43 hbs43 hxs43 hss43 => ?_)
          (replace hb4 := hbs43; clear hbs43)
          have hz_hxs43 := hxs43.size
          replace hb3 := hb3.chg hxs43 (by omega)
          replace hb2 := hb2.chg hxs43 (by omega)
          replace h := h.chg hxs43 (by omega)
          replace E := E.next hxs43 (by omega)
          refine w_pure (y_assign rfl) rfl ?_
          refine w_nil ?_
          refine x_next ?_
          refine c_ret ?_
          refine x_block_ret ?_
          refine x_then_ret ?_
          rotate_left
        exact x_retv [_, _] rfl ⟨⟨_, rfl, run_load_str (Box.at (by assumption)) (by rfl)⟩, rfl, trivial⟩ ⟨_, by rw [ec]; rfl, by rw [resAddW, ec]; exact Own.nil _ _ _, E.go⟩
  · have ec : cAdd e n j ws (x, y) = 1 := by rw [cAdd, if_neg hk]
    refine ret_enter Try.func40 rfl Try.ntmps40 rfl ?_
    focus
      have ht_h := h.top
      refine c_seq ?_
      refine c_region ?_
      refine w_box rfl (k := fun b2 w2 hb2 hx2 hl2 hs2 => ?_)
      have hz_hx2 := hx2.size
      replace h := h.ext hx2
      replace E := E.trans hx2
      refine w_box rfl (k := fun b3 w3 hb3 hx3 hl3 hs3 => ?_)
      have hz_hx3 := hx3.size
      replace hb2 := hb2.ext hx3
      replace h := h.ext hx3
      replace E := E.trans hx3
      refine w_alloc (k := fun b4 w4 hb4 hx4 hl4 hs4 => ?_)
      have hz_hx4 := hx4.size
      replace hb3 := hb3.ext hx4
      replace hb2 := hb2.ext hx4
      replace h := h.ext hx4
      replace E := E.trans hx4
      refine w_pure (y_assign rfl) rfl ?_
      refine w_nil ?_
      refine x_next ?_
      refine c_seq ?_
      refine c_block ?_
      refine c_seq ?_
      refine c_region ?_
      refine w_pure (y_load_boxs rfl) rfl ?_
      refine w_val rfl rfl rfl (iValidBoard_c) rfl (fun w8 hx8 hz8 => ?_)
      have hz_hx8 := hx8.size
      replace hb4 := hb4.ext hx8
      replace hb3 := hb3.ext hx8
      replace hb2 := hb2.ext hx8
      replace h := h.ext hx8
      replace E := E.trans hx8
      refine w_pure (y_not rfl) rfl ?_
      refine w_pure (y_assign rfl) rfl ?_
      refine w_nil ?_
      refine x_next ?_
      (refine c_not rfl (fun hc6 => ?_) (fun hc6 => ?_) <;> try (first | exact absurd rfl hc6 | contradiction | exact Bool.noConfusion (show false = true from hc6.symm.trans (by assumption)) | exact Bool.noConfusion (show true = false from hc6.symm.trans (by assumption)) | (exfalso; omega) | (exfalso; simp only [*, Bool.not_true, Bool.not_false, reduceCtorEq] at hc6; done)))
      refine c_seq ?_
      refine c_region ?_
      refine w_pure (y_build rfl) rfl ?_
      refine w_store_boxs rfl rfl (next := fun ws23 hbs23 hxs23 hss23 => ?_)
      (replace hb4 := hbs23; clear hbs23)
      have hz_hxs23 := hxs23.size
      replace hb3 := hb3.chg hxs23 (by omega)
      replace hb2 := hb2.chg hxs23 (by omega)
      replace h := h.chg hxs23 (by omega)
      replace E := E.next hxs23 (by omega)
      refine w_pure (y_assign rfl) rfl ?_
      refine w_nil ?_
      refine x_next ?_
      refine c_ret ?_
      refine x_block_ret ?_
      refine x_then_ret ?_
      rotate_left
    exact x_retv [_, _] rfl ⟨⟨_, rfl, run_load_str (Box.at (by assumption)) (by rfl)⟩, rfl, trivial⟩ ⟨_, by rw [ec]; rfl, by rw [resAddW, ec]; exact Own.nil _ _ _, E.go⟩
end
end Go.Proofs.Ythigkbkaeopipaa

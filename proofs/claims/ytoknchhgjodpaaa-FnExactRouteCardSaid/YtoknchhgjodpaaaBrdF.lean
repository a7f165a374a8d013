/- Contracts: a wire is added. -/
import Derived.Test.YtoknchhgjodpaaaBrdE
namespace Go.Proofs.Ytoknchhgjodpaaa
open Go Go.Gw
set_option linter.unusedVariables false
set_option linter.unusedSimpArgs false
def cAdd (e n j : Int) (ws : List (Int × Int)) (p : Int × Int) : Int := if okB e n j ws = true then (if ws.length = 40 then 5 else if wireB (e + n + j) p = true then 0 else 2) else 1
def resAddW (e n j : Int) (ws : List (Int × Int)) (p : Int × Int) : List (Int × Int) := if cAdd e n j ws p = 0 then ws ++ [p] else []
/-- a number of a board that is handed back, 0 where there is a code -/
def orZero (c x : Int) : Int := if c = 0 then x else 0
theorem cAdd_ok {e n j : Int} {ws : List (Int × Int)} {p : Int × Int} (h : cAdd e n j ws p = 0) : okB e n j ws = true ∧ ¬ ws.length = 40 ∧ wireB (e + n + j) p = true := by
  by_cases hk : okB e n j ws = true
  · by_cases hl : ws.length = 40
    · simp [cAdd, hk, hl] at h
    · by_cases hw : wireB (e + n + j) p = true
      · exact ⟨hk, hl, hw⟩
      · simp [cAdd, hk, hl, hw] at h
  · simp [cAdd, hk] at h
theorem resAddW_len (e n j : Int) (ws : List (Int × Int)) (p : Int × Int) : (resAddW e n j ws p).length ≤ 41 := by
  unfold resAddW; split
  · rename_i h; have := okB_num (cAdd_ok h).1; simp; omega
  · simp
section
variable {w : World} {v v' v2 : Value} {xs ys wo : List Int} {ws us : List (Int × Int)} {lo hi lo' hi' b b' b2 b3 : Nat} {e n j e' n' j' : Int}
theorem withWires_c (h : SL w lo hi v us := by repeat (first | assumption | exact Go.Gw.Own.sl (by assumption) | exact Go.Gw.Box.at (by assumption) | (apply Go.Gw.SL.chg; case hx => assumption) | (apply Go.Gw.Own.chg; case hx => assumption) | (apply Go.Gw.Box.chg; case hx => assumption) | (apply Go.Gw.At.chg; case hx => assumption) | exact .inl (Nat.zero_le _) | exact .inr (Nat.zero_le _) | (show _ ∨ _; omega))) (h' : SL w lo' hi' v' ws := by repeat (first | assumption | exact Go.Gw.Own.sl (by assumption) | exact Go.Gw.Box.at (by assumption) | (apply Go.Gw.SL.chg; case hx => assumption) | (apply Go.Gw.Own.chg; case hx => assumption) | (apply Go.Gw.Box.chg; case hx => assumption) | (apply Go.Gw.At.chg; case hx => assumption) | exact .inl (Nat.zero_le _) | exact .inr (Nat.zero_le _) | (show _ ∨ _; omega))) : Val Try.prog 69 [.agg #[.int .i64 e, .int .i64 n, .int .i64 j, v], v'] w (.agg #[.int .i64 e, .int .i64 n, .int .i64 j, v']) := by
  refine ⟨fun w0 hx0 => ?_⟩
  have E : Since 0 0 w0 w0 := Since.refl 0 0 w0
  refine ret_enter Try.func69 rfl Try.ntmps69 rfl ?_
  focus
    have ht_h := h.top
    have ht_h' := h'.top
    have hz_hx0 := hx0.size
    replace h := h.ext hx0
    replace h' := h'.ext hx0
    refine c_seq ?_
    refine c_region ?_
    refine w_box rfl (k := fun b2 w2 hb2 hx2 hl2 hs2 => ?_)
    have hz_hx2 := hx2.size
    replace E := E.trans hx2
    replace h := h.ext hx2
    replace h' := h'.ext hx2
    refine w_alloc (k := fun b4 w4 hb4 hx4 hl4 hs4 => ?_)
    have hz_hx4 := hx4.size
    replace hb2 := hb2.ext hx4
    replace E := E.trans hx4
    replace h := h.ext hx4
    replace h' := h'.ext hx4
    refine w_nil ?_
    refine x_next ?_
    refine c_seq ?_
    refine c_region ?_
    refine w_pure (y_field rfl) rfl ?_
    refine w_pure (y_load_box rfl) rfl ?_
    refine w_pure (y_field rfl) rfl ?_
    refine w_pure (y_load_box rfl) rfl ?_
    refine w_pure (y_field rfl) rfl ?_
    refine w_pure (y_load_box rfl) rfl ?_
    refine w_pure (y_move rfl) rfl ?_
    refine w_pure (y_build rfl) rfl ?_
    refine w_store_boxs rfl rfl (next := fun ws17 hbs17 hxs17 hss17 => ?_)
    (replace hb4 := hbs17; clear hbs17)
    have hz_hxs17 := hxs17.size
    replace hb2 := hb2.chg hxs17 (by omega)
    replace E := E.next hxs17 (by omega)
    replace h := h.chg hxs17 (by omega)
    replace h' := h'.chg hxs17 (by omega)
    refine w_nil ?_
    refine x_next ?_
    refine c_ret ?_
    rotate_left
  exact x_retv [_] rfl ⟨⟨_, rfl, run_load_str (Box.at (by assumption)) (by rfl)⟩, trivial⟩ ⟨rfl, E.go⟩
theorem l12Own_c (hp : At w b 0 [.int .i64 e, .int .i64 n, .int .i64 j, v] := by repeat (first | assumption | exact Go.Gw.Own.sl (by assumption) | exact Go.Gw.Box.at (by assumption) | (apply Go.Gw.SL.chg; case hx => assumption) | (apply Go.Gw.Own.chg; case hx => assumption) | (apply Go.Gw.Box.chg; case hx => assumption) | (apply Go.Gw.At.chg; case hx => assumption) | exact .inl (Nat.zero_le _) | exact .inr (Nat.zero_le _) | (show _ ∨ _; omega))) (h : SL w lo hi v ws := by repeat (first | assumption | exact Go.Gw.Own.sl (by assumption) | exact Go.Gw.Box.at (by assumption) | (apply Go.Gw.SL.chg; case hx => assumption) | (apply Go.Gw.Own.chg; case hx => assumption) | (apply Go.Gw.Box.chg; case hx => assumption) | (apply Go.Gw.At.chg; case hx => assumption) | exact .inl (Nat.zero_le _) | exact .inr (Nat.zero_le _) | (show _ ∨ _; omega))) (hl : ws.length ≤ 1048576 := by omega) : Ret Try.prog 68 [ptr b 0] w fun u w' => ∃ d, u = .agg #[.int .i64 e, .int .i64 n, .int .i64 j, d] ∧ Own w' 38 w.heap.size d ws ∧ Ext w w' := by
  have E : Since 0 0 w w := Since.refl 0 0 w
  have hbl := hp.lt
  refine ret_enter Try.func68 rfl Try.ntmps68 rfl ?_
  focus
    have ht_h := h.top
    refine c_seq ?_
    refine c_region ?_
    refine w_alloc (k := fun b2 w2 hb2 hx2 hl2 hs2 => ?_)
    have hz_hx2 := hx2.size
    replace hp := hp.ext hx2
    replace h := h.ext hx2
    replace E := E.trans hx2
    refine w_nil ?_
    refine x_next ?_
    refine c_seq ?_
    refine c_region ?_
    refine w_pure (y_move rfl) rfl ?_
    refine w_pure (y_nil rfl) rfl ?_
    refine w_pure (y_loads rfl) rfl ?_
    refine w_alloc (k := fun b3 w3 hb3 hx3 hl3 hs3 => ?_)
    have hz_hx3 := hx3.size
    replace hb2 := hb2.ext hx3
    replace hp := hp.ext hx3
    replace h := h.ext hx3
    replace E := E.trans hx3
    refine w_store_boxs rfl rfl (next := fun ws12 hbs12 hxs12 hss12 => ?_)
    (replace hb3 := hbs12; clear hbs12)
    have hz_hxs12 := hxs12.size
    replace hb2 := hb2.chg hxs12 (by omega)
    replace hp := hp.chg hxs12 (by omega)
    replace h := h.chg hxs12 (by omega)
    replace E := E.next hxs12 (by omega)
    refine w_nil ?_
    refine x_next ?_
    refine c_seq ?_
    refine c_region ?_
    refine w_lit (α := (Int × Int)) rfl rfl rfl rfl rfl rfl rfl rfl (fun v7 w7 ho7 hx7 hl7 hh7 hs7 => ?_)
    have hl_ho7 := ho7.lt
    have hz_hx7 := hx7.size
    replace hb3 := hb3.ext hx7
    replace hb2 := hb2.ext hx7
    replace hp := hp.ext hx7
    replace h := h.ext hx7
    replace E := E.trans hx7
    refine w_pure (y_move rfl) rfl ?_
    refine w_pure (y_nil rfl) rfl ?_
    refine w_pure (y_field rfl) rfl ?_
    refine w_pure (y_loadk rfl) rfl ?_
    refine w_append rfl rfl (k := fun v12 w12 ho12 hx12 hr12 => ?_)
    have hl_ho12 := ho12.lt
    have hz_hx12 := hx12.size
    replace hb3 := hb3.chg hx12 (by omega)
    replace hb2 := hb2.chg hx12 (by omega)
    replace hp := hp.chg hx12 (by omega)
    replace h := h.chg hx12 (by omega)
    replace E := E.next hx12 (by omega)
    refine w_pure (y_field rfl) rfl ?_
    refine w_store_box rfl rfl (next := fun ws24 hbs24 hxs24 hss24 => ?_)
    (replace hb3 := hbs24; clear hbs24)
    have hz_hxs24 := hxs24.size
    replace ho12 := ho12.chg hxs24 (by omega)
    replace hb2 := hb2.chg hxs24 (by omega)
    replace hp := hp.chg hxs24 (by omega)
    replace h := h.chg hxs24 (by omega)
    replace E := E.next hxs24 (by omega)
    refine w_nil ?_
    refine x_next ?_
    refine c_seq ?_
    refine c_region ?_
    refine w_pure (y_load_boxs rfl) rfl ?_
    refine w_store_boxs rfl rfl (next := fun ws30 hbs30 hxs30 hss30 => ?_)
    (replace hb2 := hbs30; clear hbs30)
    have hz_hxs30 := hxs30.size
    replace hb3 := hb3.chg hxs30 (by omega)
    replace ho12 := ho12.chg hxs30 (by omega)
    replace hp := hp.chg hxs30 (by omega)
    replace h := h.chg hxs30 (by omega)
    replace E := E.next hxs30 (by omega)
    refine w_nil ?_
    refine x_next ?_
    refine c_ret ?_
    rotate_left
  exact x_retv [_] rfl ⟨⟨_, rfl, run_load_str (Box.at (by assumption)) (by rfl)⟩, trivial⟩ ⟨_, rfl, Own.base (by assumption) (by omega), E.go⟩
theorem iAddWire_c (x y : Int) (h : SL w lo hi v ws := by repeat (first | assumption | exact Go.Gw.Own.sl (by assumption) | exact Go.Gw.Box.at (by assumption) | (apply Go.Gw.SL.chg; case hx => assumption) | (apply Go.Gw.Own.chg; case hx => assumption) | (apply Go.Gw.Box.chg; case hx => assumption) | (apply Go.Gw.At.chg; case hx => assumption) | exact .inl (Nat.zero_le _) | exact .inr (Nat.zero_le _) | (show _ ∨ _; omega))) : Ret Try.prog 24 [.agg #[.int .i64 e, .int .i64 n, .int .i64 j, v], .agg #[.int .i64 x, .int .i64 y]] w fun u w' =>
    ∃ d, u = .tuple #[.agg #[.int .i64 (orZero (cAdd e n j ws (x, y)) e), .int .i64 (orZero (cAdd e n j ws (x, y)) n), .int .i64 (orZero (cAdd e n j ws (x, y)) j), d], .int .i64 (cAdd e n j ws (x, y))] ∧ Own w' 38 w.heap.size d (resAddW e n j ws (x, y)) ∧ Ext w w' := by
  have E : Since 0 0 w w := Since.refl 0 0 w
  by_cases hk : okB e n j ws = true
  · have q1 := okB_num hk
    by_cases hl : ws.length = 40
    · have ec : cAdd e n j ws (x, y) = 5 := by rw [cAdd, if_pos hk, if_pos hl]
      refine ret_enter Try.func24 rfl Try.ntmps24 rfl ?_
      focus
        have ht_h := h.top
        refine c_seq ?_
        refine c_region ?_
        refine w_box rfl (k := fun b2 w2 hb2 hx2 hl2 hs2 => ?_)
        have hz_hx2 := hx2.size
        replace h := h.ext hx2
        replace E := E.trans hx2
        refine w_box rfl (k := fun b3 w3 hb3 hx3 hl3 hs3 => ?_)
        have hz_hx3 := hx3.size
        replace hb2 := hb2.ext hx3
        replace h := h.ext hx3
        replace E := E.trans hx3
        refine w_alloc (k := fun b4 w4 hb4 hx4 hl4 hs4 => ?_)
        have hz_hx4 := hx4.size
        replace hb3 := hb3.ext hx4
        replace hb2 := hb2.ext hx4
        replace h := h.ext hx4
        replace E := E.trans hx4
        refine w_pure (y_assign rfl) rfl ?_
        refine w_nil ?_
        refine x_next ?_
        refine c_seq ?_
        refine c_block ?_
        refine c_seq ?_
        refine c_region ?_
        refine w_pure (y_load_boxs rfl) rfl ?_
        refine w_val rfl rfl rfl (iValidBoard_c) rfl (fun w8 hx8 hz8 => ?_)
        have hz_hx8 := hx8.size
        replace hb4 := hb4.ext hx8
        replace hb3 := hb3.ext hx8
        replace hb2 := hb2.ext hx8
        replace h := h.ext hx8
        replace E := E.trans hx8
        refine w_pure (y_not rfl) rfl ?_
        refine w_pure (y_assign rfl) rfl ?_
        refine w_nil ?_
        refine x_next ?_
        (refine c_not rfl (fun hc6 => ?_) (fun hc6 => ?_) <;> try (first | exact absurd rfl hc6 | contradiction | exact Bool.noConfusion (show false = true from hc6.symm.trans (by assumption)) | exact Bool.noConfusion (show true = false from hc6.symm.trans (by assumption)) | (exfalso; omega) | (exfalso; simp only [*, Bool.not_true, Bool.not_false, reduceCtorEq] at hc6; done)))
        refine c_seq ?_
        refine c_region ?_
        refine w_pure (y_field rfl) rfl ?_
        refine w_pure (y_load_box rfl) rfl ?_
        refine w_pure (y_len rfl) rfl ?_
        refine w_pure (y_eq rfl rfl) rfl ?_
        refine w_pure (y_assign rfl) rfl ?_
        refine w_nil ?_
        refine x_next ?_
        (refine c_dec rfl (fun hc11 => ?_) (fun hc11 => ?_) <;> try (first | exact absurd rfl hc11 | contradiction | exact Bool.noConfusion (show false = true from hc11.symm.trans (by assumption)) | exact Bool.noConfusion (show true = false from hc11.symm.trans (by assumption)) | (exfalso; omega) | (exfalso; simp only [*, Bool.not_true, Bool.not_false, reduceCtorEq] at hc11; done)))
        refine c_seq ?_
        refine c_region ?_
        refine w_pure (y_build rfl) rfl ?_
        refine w_store_boxs rfl rfl (next := fun ws33 hbs33 hxs33 hss33 => ?_)
        (replace hb4 := hbs33; clear hbs33)
        have hz_hxs33 := hxs33.size
        replace hb3 := hb3.chg hxs33 (by omega)
        replace hb2 := hb2.chg hxs33 (by omega)
        replace h := h.chg hxs33 (by omega)
        replace E := E.next hxs33 (by omega)
        refine w_pure (y_assign rfl) rfl ?_
        refine w_nil ?_
        refine x_next ?_
        refine c_ret ?_
        refine x_block_ret ?_
        refine x_then_ret ?_
        rotate_left
      exact x_retv [_, _] rfl ⟨⟨_, rfl, run_load_str (Box.at (by assumption)) (by rfl)⟩, rfl, trivial⟩ ⟨_, by rw [ec]; rfl, by rw [resAddW, ec]; exact Own.nil _ _ _, E.go⟩
    · by_cases hw : wireB (e + n + j) (x, y) = true
      · have hw2 : 0 ≤ (x, y).1 ∧ (x, y).1 < (x, y).2 ∧ (x, y).2 < e + n + j := of_decide_eq_true hw
        have ec : cAdd e n j ws (x, y) = 0 := by rw [cAdd, if_pos hk, if_neg hl, if_pos hw]
        refine ret_enter Try.func24 rfl Try.ntmps24 rfl ?_
        focus
          have ht_h := h.top
          refine c_seq ?_
          refine c_region ?_
          refine w_box rfl (k := fun b2 w2 hb2 hx2 hl2 hs2 => ?_)
          have hz_hx2 := hx2.size
          replace h := h.ext hx2
          replace E := E.trans hx2
          refine w_box rfl (k := fun b3 w3 hb3 hx3 hl3 hs3 => ?_)
          have hz_hx3 := hx3.size
          replace hb2 := hb2.ext hx3
          replace h := h.ext hx3
          replace E := E.trans hx3
          refine w_alloc (k := fun b4 w4 hb4 hx4 hl4 hs4 => ?_)
          have hz_hx4 := hx4.size
          replace hb3 := hb3.ext hx4
          replace hb2 := hb2.ext hx4
          replace h := h.ext hx4
          replace E := E.trans hx4
          refine w_pure (y_assign rfl) rfl ?_
          refine w_nil ?_
          refine x_next ?_
          refine c_seq ?_
          refine c_block ?_
          refine c_seq ?_
          refine c_region ?_
          refine w_pure (y_load_boxs rfl) rfl ?_
          refine w_val rfl rfl rfl (iValidBoard_c) rfl (fun w8 hx8 hz8 => ?_)
          have hz_hx8 := hx8.size
          replace hb4 := hb4.ext hx8
          replace hb3 := hb3.ext hx8
          replace hb2 := hb2.ext hx8
          replace h := h.ext hx8
          replace E := E.trans hx8
          refine w_pure (y_not rfl) rfl ?_
          refine w_pure (y_assign rfl) rfl ?_
          refine w_nil ?_
          refine x_next ?_
          (refine c_not rfl (fun hc6 => ?_) (fun hc6 => ?_) <;> try (first | exact absurd rfl hc6 | contradiction | exact Bool.noConfusion (show false = true from hc6.symm.trans (by assumption)) | exact Bool.noConfusion (show true = false from hc6.symm.trans (by assumption)) | (exfalso; omega) | (exfalso; simp only [*, Bool.not_true, Bool.not_false, reduceCtorEq] at hc6; done)))
          refine c_seq ?_
          refine c_region ?_
          refine w_pure (y_field rfl) rfl ?_
          refine w_pure (y_load_box rfl) rfl ?_
          refine w_pure (y_len rfl) rfl ?_
          refine w_pure (y_eq rfl rfl) rfl ?_
          refine w_pure (y_assign rfl) rfl ?_
          refine w_nil ?_
          refine x_next ?_
          (refine c_dec rfl (fun hc11 => ?_) (fun hc11 => ?_) <;> try (first | exact absurd rfl hc11 | contradiction | exact Bool.noConfusion (show false = true from hc11.symm.trans (by assumption)) | exact Bool.noConfusion (show true = false from hc11.symm.trans (by assumption)) | (exfalso; omega) | (exfalso; simp only [*, Bool.not_true, Bool.not_false, reduceCtorEq] at hc11; done)))
          refine c_seq ?_
          refine c_region ?_
          refine w_pure (y_load_boxs rfl) rfl ?_
          refine w_pure (y_load_boxs rfl) rfl ?_
          refine w_val rfl rfl rfl (isWire_c _ _) rfl (fun w20 hx20 hz20 => ?_)
          have hz_hx20 := hx20.size
          replace hb4 := hb4.ext hx20
          replace hb3 := hb3.ext hx20
          replace hb2 := hb2.ext hx20
          replace h := h.ext hx20
          replace E := E.trans hx20
          refine w_pure (y_not_dec rfl) rfl ?_
          refine w_pure (y_assign rfl) rfl ?_
          refine w_nil ?_
          refine x_next ?_
          (refine c_dec rfl (fun hc17 => ?_) (fun hc17 => ?_) <;> try (first | exact absurd rfl hc17 | contradiction | exact Bool.noConfusion (show false = true from hc17.symm.trans (by assumption)) | exact Bool.noConfusion (show true = false from hc17.symm.trans (by assumption)) | (exfalso; omega) | (exfalso; simp only [*, Bool.not_true, Bool.not_false, reduceCtorEq] at hc17; done)))
          refine c_skip ?_
          refine x_block_norm ?_
          refine x_next ?_
          refine c_seq ?_
          refine c_region_base mixed (fun wr7 hxr7 hzr7 EBr7 => ?_)
          have hz_hxr7 := hxr7.size
          replace hb4 := hb4.ext hxr7
          replace hb3 := hb3.ext hxr7
          replace hb2 := hb2.ext hxr7
          replace h := h.ext hxr7
          replace E := E.trans hxr7
          refine b_pure rfl (y_load_boxs rfl) rfl ?_
          refine b_turn ?_
          refine b_pure rfl (y_field rfl) rfl ?_
          refine b_pure rfl (y_load_box rfl) rfl ?_
          refine b_turn ?_
          refine b_pure rfl (y_load_boxs rfl) rfl ?_
          refine b_turn ?_
          refine b_turn ?_
          refine b_turn ?_
          refine b_turn ?_
          refine b_turn ?_
          refine b_turn ?_
          refine b_turn ?_
          refine b_two (j := 1) rfl rfl ?_ ?_
          refine w_lit (α := (Int × Int)) rfl rfl rfl rfl rfl rfl rfl rfl (fun v29 w29 ho29 hx29 hl29 hh29 hs29 => ?_)
          have hl_ho29 := ho29.lt
          have hz_hx29 := hx29.size
          replace EBr7 := EBr7.trans hx29
          replace hb4 := hb4.ext hx29
          replace hb3 := hb3.ext hx29
          replace hb2 := hb2.ext hx29
          replace h := h.ext hx29
          replace E := E.trans hx29
          refine w_nil ?_
          refine x_hb ?_
          refine b_turn ?_
          refine b_turn ?_
          refine b_turn ?_
          refine b_turn ?_
          refine b_one rfl ?_
          refine w_lit (α := (Int × Int)) rfl rfl rfl rfl rfl rfl rfl rfl (fun v24 w24 ho24 hx24 hl24 hh24 hs24 => ?_)
          have hl_ho24 := ho24.lt
          have hz_hx24 := hx24.size
          replace ho29 := ho29.ext hx24
          replace EBr7 := EBr7.trans hx24
          replace hb4 := hb4.ext hx24
          replace hb3 := hb3.ext hx24
          replace hb2 := hb2.ext hx24
          replace h := h.ext hx24
          replace E := E.trans hx24
          refine w_nil ?_
          refine x_hb ?_
          refine b_one rfl ?_
          refine w_append rfl rfl (k := fun v27 w27 ho27 hx27 hr27 => ?_)
          have hl_ho27 := ho27.lt
          have hz_hx27 := hx27.size
          replace ho29 := ho29.chg hx27 (by omega)
          replace EBr7 := EBr7.next hx27 (by omega)
          replace hb4 := hb4.chg hx27 (by omega)
          replace hb3 := hb3.chg hx27 (by omega)
          replace hb2 := hb2.chg hx27 (by omega)
          replace h := h.chg hx27 (by omega)
          replace E := E.next hx27 (by omega)
          refine w_nil ?_
          refine x_hb ?_
          refine b_one rfl ?_
          refine w_append rfl rfl (k := fun v30 w30 ho30 hx30 hr30 => ?_)
          have hl_ho30 := ho30.lt
          have hz_hx30 := hx30.size
          replace ho29 := ho29.chg hx30 (by omega)
          replace EBr7 := EBr7.next hx30 (by omega)
          replace hb4 := hb4.chg hx30 (by omega)
          replace hb3 := hb3.chg hx30 (by omega)
          replace hb2 := hb2.chg hx30 (by omega)
          replace h := h.chg hx30 (by omega)
          replace E := E.next hx30 (by omega)
          refine w_nil ?_
          refine x_hb ?_
          refine b_one rfl ?_
          refine w_val rfl rfl rfl (withWires_c) rfl (fun w31 hx31 hz31 => ?_)
          have hz_hx31 := hx31.size
          replace ho30 := ho30.ext hx31
          replace ho29 := ho29.ext hx31
          replace EBr7 := EBr7.trans hx31
          replace hb4 := hb4.ext hx31
          replace hb3 := hb3.ext hx31
          replace hb2 := hb2.ext hx31
          replace h := h.ext hx31
          replace E := E.trans hx31
          refine w_nil ?_
          refine x_hb ?_
          refine b_one rfl ?_
          refine w_store_boxs rfl rfl (next := fun ws83 hbs83 hxs83 hss83 => ?_)
          (replace hb4 := hbs83; clear hbs83)
          have hz_hxs83 := hxs83.size
          replace ho30 := ho30.chg hxs83 (by omega)
          replace ho29 := ho29.chg hxs83 (by omega)
          replace hb3 := hb3.chg hxs83 (by omega)
          replace hb2 := hb2.chg hxs83 (by omega)
          replace h := h.chg hxs83 (by omega)
          replace E := E.next hxs83 (by omega)
          refine w_nil ?_
          refine x_hbk ?_
          refine b_pure rfl (y_assign rfl) rfl ?_
          refine b_nil ?_
          refine x_next ?_
          refine c_ret ?_
          rotate_left
          refine w_lit (α := (Int × Int)) rfl rfl rfl rfl rfl rfl rfl rfl (fun v24 w24 ho24 hx24 hl24 hh24 hs24 => ?_)
          have hl_ho24 := ho24.lt
          have hz_hx24 := hx24.size
          replace EBr7 := EBr7.trans hx24
          replace hb4 := hb4.ext hx24
          replace hb3 := hb3.ext hx24
          replace hb2 := hb2.ext hx24
          replace h := h.ext hx24
          replace E := E.trans hx24
          refine w_nil ?_
          refine x_hb ?_
          refine b_turn ?_
          refine b_turn ?_
          refine b_turn ?_
          refine b_turn ?_
          refine b_turn ?_
          refine b_turn ?_
          refine b_two (j := 4) rfl rfl ?_ ?_
          refine w_lit (α := (Int × Int)) rfl rfl rfl rfl rfl rfl rfl rfl (fun v29 w29 ho29 hx29 hl29 hh29 hs29 => ?_)
          have hl_ho29 := ho29.lt
          have hz_hx29 := hx29.size
          replace ho24 := ho24.ext hx29
          replace EBr7 := EBr7.trans hx29
          replace hb4 := hb4.ext hx29
          replace hb3 := hb3.ext hx29
          replace hb2 := hb2.ext hx29
          replace h := h.ext hx29
          replace E := E.trans hx29
          refine w_nil ?_
          refine x_hb ?_
          refine b_turn ?_
          refine b_turn ?_
          refine b_turn ?_
          refine b_turn ?_
          refine b_one rfl ?_
          refine w_append rfl rfl (k := fun v27 w27 ho27 hx27 hr27 => ?_)
          have hl_ho27 := ho27.lt
          have hz_hx27 := hx27.size
          replace ho29 := ho29.chg hx27 (by omega)
          replace EBr7 := EBr7.next hx27 (by omega)
          replace hb4 := hb4.chg hx27 (by omega)
          replace hb3 := hb3.chg hx27 (by omega)
          replace hb2 := hb2.chg hx27 (by omega)
          replace h := h.chg hx27 (by omega)
          replace E := E.next hx27 (by omega)
          refine w_nil ?_
          refine x_hb ?_
          refine b_one rfl ?_
          refine w_append rfl rfl (k := fun v30 w30 ho30 hx30 hr30 => ?_)
          have hl_ho30 := ho30.lt
          have hz_hx30 := hx30.size
          replace ho29 := ho29.chg hx30 (by omega)
          replace EBr7 := EBr7.next hx30 (by omega)
          replace hb4 := hb4.chg hx30 (by omega)
          replace hb3 := hb3.chg hx30 (by omega)
          replace hb2 := hb2.chg hx30 (by omega)
          replace h := h.chg hx30 (by omega)
          replace E := E.next hx30 (by omega)
          refine w_nil ?_
          refine x_hb ?_
          refine b_one rfl ?_
          refine w_val rfl rfl rfl (withWires_c) rfl (fun w31 hx31 hz31 => ?_)
          have hz_hx31 := hx31.size
          replace ho30 := ho30.ext hx31
          replace ho29 := ho29.ext hx31
          replace EBr7 := EBr7.trans hx31
          replace hb4 := hb4.ext hx31
          replace hb3 := hb3.ext hx31
          replace hb2 := hb2.ext hx31
          replace h := h.ext hx31
          replace E := E.trans hx31
          refine w_nil ?_
          refine x_hb ?_
          refine b_one rfl ?_
          refine w_store_boxs rfl rfl (next := fun ws121 hbs121 hxs121 hss121 => ?_)
          (replace hb4 := hbs121; clear hbs121)
          have hz_hxs121 := hxs121.size
          replace ho30 := ho30.chg hxs121 (by omega)
          replace ho29 := ho29.chg hxs121 (by omega)
          replace hb3 := hb3.chg hxs121 (by omega)
          replace hb2 := hb2.chg hxs121 (by omega)
          replace h := h.chg hxs121 (by omega)
          replace E := E.next hxs121 (by omega)
          refine w_nil ?_
          refine x_hbk ?_
          refine b_pure rfl (y_assign rfl) rfl ?_
          refine b_nil ?_
          refine x_next ?_
          refine c_ret ?_
          rotate_left
          refine w_append rfl rfl (k := fun v27 w27 ho27 hx27 hr27 => ?_)
          have hl_ho27 := ho27.lt
          have hz_hx27 := hx27.size
          replace EBr7 := EBr7.next hx27 (by omega)
          replace hb4 := hb4.chg hx27 (by omega)
          replace hb3 := hb3.chg hx27 (by omega)
          replace hb2 := hb2.chg hx27 (by omega)
          replace h := h.chg hx27 (by omega)
          replace E := E.next hx27 (by omega)
          refine w_nil ?_
          refine x_hb ?_
          refine b_one rfl ?_
          refine w_lit (α := (Int × Int)) rfl rfl rfl rfl rfl rfl rfl rfl (fun v29 w29 ho29 hx29 hl29 hh29 hs29 => ?_)
          have hl_ho29 := ho29.lt
          have hz_hx29 := hx29.size
          replace ho27 := ho27.ext hx29
          replace EBr7 := EBr7.trans hx29
          replace hb4 := hb4.ext hx29
          replace hb3 := hb3.ext hx29
          replace hb2 := hb2.ext hx29
          replace h := h.ext hx29
          replace E := E.trans hx29
          refine w_nil ?_
          refine x_hb ?_
          refine b_one rfl ?_
          refine w_append rfl rfl (k := fun v30 w30 ho30 hx30 hr30 => ?_)
          have hl_ho30 := ho30.lt
          have hz_hx30 := hx30.size
          replace ho29 := ho29.chg hx30 (by omega)
          replace EBr7 := EBr7.next hx30 (by omega)
          replace hb4 := hb4.chg hx30 (by omega)
          replace hb3 := hb3.chg hx30 (by omega)
          replace hb2 := hb2.chg hx30 (by omega)
          replace h := h.chg hx30 (by omega)
          replace E := E.next hx30 (by omega)
          refine w_nil ?_
          refine x_hb ?_
          refine b_one rfl ?_
          refine w_val rfl rfl rfl (withWires_c) rfl (fun w31 hx31 hz31 => ?_)
          have hz_hx31 := hx31.size
          replace ho30 := ho30.ext hx31
          replace ho29 := ho29.ext hx31
          replace EBr7 := EBr7.trans hx31
          replace hb4 := hb4.ext hx31
          replace hb3 := hb3.ext hx31
          replace hb2 := hb2.ext hx31
          replace h := h.ext hx31
          replace E := E.trans hx31
          refine w_nil ?_
          refine x_hb ?_
          refine b_one rfl ?_
          refine w_store_boxs rfl rfl (next := fun ws145 hbs145 hxs145 hss145 => ?_)
          (replace hb4 := hbs145; clear hbs145)
          have hz_hxs145 := hxs145.size
          replace ho30 := ho30.chg hxs145 (by omega)
          replace ho29 := ho29.chg hxs145 (by omega)
          replace hb3 := hb3.chg hxs145 (by omega)
          replace hb2 := hb2.chg hxs145 (by omega)
          replace h := h.chg hxs145 (by omega)
          replace E := E.next hxs145 (by omega)
          refine w_nil ?_
          refine x_hbk ?_
          refine b_pure rfl (y_assign rfl) rfl ?_
          refine b_nil ?_
          refine x_next ?_
          refine c_ret ?_
          rotate_left
        all_goals exact x_retv [_, _] rfl ⟨⟨_, rfl, run_load_str (Box.at (by assumption)) (by rfl)⟩, rfl, trivial⟩ ⟨_, by rw [ec]; rfl, by rw [resAddW, if_pos ec]; exact Own.base (by assumption) (by omega), E.go⟩
      · have hw2 : ¬ (0 ≤ (x, y).1 ∧ (x, y).1 < (x, y).2 ∧ (x, y).2 < e + n + j) := fun g => hw (decide_eq_true g)
        have ec : cAdd e n j ws (x, y) = 2 := by rw [cAdd, if_pos hk, if_neg hl, if_neg hw]
        refine ret_enter Try.func24 rfl Try.ntmps24 rfl ?_
        focus
          have ht_h := h.top
          refine c_seq ?_
          refine c_region ?_
          refine w_box rfl (k := fun b2 w2 hb2 hx2 hl2 hs2 => ?_)
          have hz_hx2 := hx2.size
          replace h := h.ext hx2
          replace E := E.trans hx2
          refine w_box rfl (k := fun b3 w3 hb3 hx3 hl3 hs3 => ?_)
          have hz_hx3 := hx3.size
          replace hb2 := hb2.ext hx3
          replace h := h.ext hx3
          replace E := E.trans hx3
          refine w_alloc (k := fun b4 w4 hb4 hx4 hl4 hs4 => ?_)
          have hz_hx4 := hx4.size
          replace hb3 := hb3.ext hx4
          replace hb2 := hb2.ext hx4
          replace h := h.ext hx4
          replace E := E.trans hx4
          refine w_pure (y_assign rfl) rfl ?_
          refine w_nil ?_
          refine x_next ?_
          refine c_seq ?_
          refine c_block ?_
          refine c_seq ?_
          refine c_region ?_
          refine w_pure (y_load_boxs rfl) rfl ?_
          refine w_val rfl rfl rfl (iValidBoard_c) rfl (fun w8 hx8 hz8 => ?_)
          have hz_hx8 := hx8.size
          replace hb4 := hb4.ext hx8
          replace hb3 := hb3.ext hx8
          replace hb2 := hb2.ext hx8
          replace h := h.ext hx8
          replace E := E.trans hx8
          refine w_pure (y_not rfl) rfl ?_
          refine w_pure (y_assign rfl) rfl ?_
          refine w_nil ?_
          refine x_next ?_
          (refine c_not rfl (fun hc6 => ?_) (fun hc6 => ?_) <;> try (first | exact absurd rfl hc6 | contradiction | exact Bool.noConfusion (show false = true from hc6.symm.trans (by assumption)) | exact Bool.noConfusion (show true = false from hc6.symm.trans (by assumption)) | (exfalso; omega) | (exfalso; simp only [*, Bool.not_true, Bool.not_false, reduceCtorEq] at hc6; done)))
          refine c_seq ?_
          refine c_region ?_
          refine w_pure (y_field rfl) rfl ?_
          refine w_pure (y_load_box rfl) rfl ?_
          refine w_pure (y_len rfl) rfl ?_
          refine w_pure (y_eq rfl rfl) rfl ?_
          refine w_pure (y_assign rfl) rfl ?_
          refine w_nil ?_
          refine x_next ?_
          (refine c_dec rfl (fun hc11 => ?_) (fun hc11 => ?_) <;> try (first | exact absurd rfl hc11 | contradiction | exact Bool.noConfusion (show false = true from hc11.symm.trans (by assumption)) | exact Bool.noConfusion (show true = false from hc11.symm.trans (by assumption)) | (exfalso; omega) | (exfalso; simp only [*, Bool.not_true, Bool.not_false, reduceCtorEq] at hc11; done)))
          refine c_seq ?_
          refine c_region ?_
          refine w_pure (y_load_boxs rfl) rfl ?_
          refine w_pure (y_load_boxs rfl) rfl ?_
          refine w_val rfl rfl rfl (isWire_c _ _) rfl (fun w20 hx20 hz20 => ?_)
          have hz_hx20 := hx20.size
          replace hb4 := hb4.ext hx20
          replace hb3 := hb3.ext hx20
          replace hb2 := hb2.ext hx20
          replace h := h.ext hx20
          replace E := E.trans hx20
          refine w_pure (y_not_dec rfl) rfl ?_
          refine w_pure (y_assign rfl) rfl ?_
          refine w_nil ?_
          refine x_next ?_
          (refine c_dec rfl (fun hc17 => ?_) (fun hc17 => ?_) <;> try (first | exact absurd rfl hc17 | contradiction | exact Bool.noConfusion (show false = true from hc17.symm.trans (by assumption)) | exact Bool.noConfusion (show true = false from hc17.symm.trans (by assumption)) | (exfalso; omega) | (exfalso; simp only [*, Bool.not_true, Bool.not_false, reduceCtorEq] at hc17; done)))
          refine c_seq ?_
          refine c_region ?_
          refine w_pure (y_build rfl) rfl ?_
          refine w_store_boxs rfl rfl (next := fun ws43 hbs43 hxs43 hss43 => ?_)
          (replace hb4 := hbs43; clear hbs43)
          have hz_hxs43 := hxs43.size
          replace hb3 := hb3.chg hxs43 (by omega)
          replace hb2 := hb2.chg hxs43 (by omega)
          replace h := h.chg hxs43 (by omega)
          replace E := E.next hxs43 (by omega)
          refine w_pure (y_assign rfl) rfl ?_
          refine w_nil ?_
          refine x_next ?_
          refine c_ret ?_
          refine x_block_ret ?_
          refine x_then_ret ?_
          rotate_left
        exact x_retv [_, _] rfl ⟨⟨_, rfl, run_load_str (Box.at (by assumption)) (by rfl)⟩, rfl, trivial⟩ ⟨_, by rw [ec]; rfl, by rw [resAddW, ec]; exact Own.nil _ _ _, E.go⟩
  · have ec : cAdd e n j ws (x, y) = 1 := by rw [cAdd, if_neg hk]
    refine ret_enter Try.func24 rfl Try.ntmps24 rfl ?_
    focus
      have ht_h := h.top
      refine c_seq ?_
      refine c_region ?_
      refine w_box rfl (k := fun b2 w2 hb2 hx2 hl2 hs2 => ?_)
      have hz_hx2 := hx2.size
      replace h := h.ext hx2
      replace E := E.trans hx2
      refine w_box rfl (k := fun b3 w3 hb3 hx3 hl3 hs3 => ?_)
      have hz_hx3 := hx3.size
      replace hb2 := hb2.ext hx3
      replace h := h.ext hx3
      replace E := E.trans hx3
      refine w_alloc (k := fun b4 w4 hb4 hx4 hl4 hs4 => ?_)
      have hz_hx4 := hx4.size
      replace hb3 := hb3.ext hx4
      replace hb2 := hb2.ext hx4
      replace h := h.ext hx4
      replace E := E.trans hx4
      refine w_pure (y_assign rfl) rfl ?_
      refine w_nil ?_
      refine x_next ?_
      refine c_seq ?_
      refine c_block ?_
      refine c_seq ?_
      refine c_region ?_
      refine w_pure (y_load_boxs rfl) rfl ?_
      refine w_val rfl rfl rfl (iValidBoard_c) rfl (fun w8 hx8 hz8 => ?_)
      have hz_hx8 := hx8.size
      replace hb4 := hb4.ext hx8
      replace hb3 := hb3.ext hx8
      replace hb2 := hb2.ext hx8
      replace h := h.ext hx8
      replace E := E.trans hx8
      refine w_pure (y_not rfl) rfl ?_
      refine w_pure (y_assign rfl) rfl ?_
      refine w_nil ?_
      refine x_next ?_
      (refine c_not rfl (fun hc6 => ?_) (fun hc6 => ?_) <;> try (first | exact absurd rfl hc6 | contradiction | exact Bool.noConfusion (show false = true from hc6.symm.trans (by assumption)) | exact Bool.noConfusion (show true = false from hc6.symm.trans (by assumption)) | (exfalso; omega) | (exfalso; simp only [*, Bool.not_true, Bool.not_false, reduceCtorEq] at hc6; done)))
      refine c_seq ?_
      refine c_region ?_
      refine w_pure (y_build rfl) rfl ?_
      refine w_store_boxs rfl rfl (next := fun ws23 hbs23 hxs23 hss23 => ?_)
      (replace hb4 := hbs23; clear hbs23)
      have hz_hxs23 := hxs23.size
      replace hb3 := hb3.chg hxs23 (by omega)
      replace hb2 := hb2.chg hxs23 (by omega)
      replace h := h.chg hxs23 (by omega)
      replace E := E.next hxs23 (by omega)
      refine w_pure (y_assign rfl) rfl ?_
      refine w_nil ?_
      refine x_next ?_
      refine c_ret ?_
      refine x_block_ret ?_
      refine x_then_ret ?_
      rotate_left
    exact x_retv [_, _] rfl ⟨⟨_, rfl, run_load_str (Box.at (by assumption)) (by rfl)⟩, rfl, trivial⟩ ⟨_, by rw [ec]; rfl, by rw [resAddW, ec]; exact Own.nil _ _ _, E.go⟩
theorem sAddWire_c (x y : Int) (h : SL w lo hi v ws := by repeat (first | assumption | exact Go.Gw.Own.sl (by assumption) | exact Go.Gw.Box.at (by assumption) | (apply Go.Gw.SL.chg; case hx => assumption) | (apply Go.Gw.Own.chg; case hx => assumption) | (apply Go.Gw.Box.chg; case hx => assumption) | (apply Go.Gw.At.chg; case hx => assumption) | exact .inl (Nat.zero_le _) | exact .inr (Nat.zero_le _) | (show _ ∨ _; omega))) : Ret Try.prog 22 [.agg #[.int .i64 e, .int .i64 n, .int .i64 j, v], .agg #[.int .i64 x, .int .i64 y]] w fun u w' =>
    ∃ d, u = .tuple #[.agg #[.int .i64 (orZero (cAdd e n j ws (x, y)) e), .int .i64 (orZero (cAdd e n j ws (x, y)) n), .int .i64 (orZero (cAdd e n j ws (x, y)) j), d], .int .i64 (cAdd e n j ws (x, y))] ∧ Own w' 38 w.heap.size d (resAddW e n j ws (x, y)) ∧ Ext w w' := by
  have E : Since 0 0 w w := Since.refl 0 0 w
  by_cases hk : okB e n j ws = true
  · have q1 := okB_num hk
    by_cases hl : ws.length = 40
    · have ec : cAdd e n j ws (x, y) = 5 := by rw [cAdd, if_pos hk, if_pos hl]
      refine ret_enter Try.func22 rfl Try.ntmps22 rfl ?_
      focus
        have ht_h := h.top
        refine c_seq ?_
        refine c_region ?_
        refine w_box rfl (k := fun b2 w2 hb2 hx2 hl2 hs2 => ?_)
        have hz_hx2 := hx2.size
        replace h := h.ext hx2
        replace E := E.trans hx2
        refine w_box rfl (k := fun b3 w3 hb3 hx3 hl3 hs3 => ?_)
        have hz_hx3 := hx3.size
        replace hb2 := hb2.ext hx3
        replace h := h.ext hx3
        replace E := E.trans hx3
        refine w_alloc (k := fun b4 w4 hb4 hx4 hl4 hs4 => ?_)
        have hz_hx4 := hx4.size
        replace hb3 := hb3.ext hx4
        replace hb2 := hb2.ext hx4
        replace h := h.ext hx4
        replace E := E.trans hx4
        refine w_pure (y_assign rfl) rfl ?_
        refine w_nil ?_
        refine x_next ?_
        refine c_seq ?_
        refine c_seq ?_
        refine c_region ?_
        refine w_val rfl rfl rfl (l12Ok_c) rfl (fun w7 hx7 hz7 => ?_)
        have hz_hx7 := hx7.size
        replace hb4 := hb4.ext hx7
        replace hb3 := hb3.ext hx7
        replace hb2 := hb2.ext hx7
        replace h := h.ext hx7
        replace E := E.trans hx7
        refine w_pure (y_not rfl) rfl ?_
        refine w_nil ?_
        refine x_next ?_
        (refine c_not rfl (fun hc8 => ?_) (fun hc8 => ?_) <;> try (first | exact absurd rfl hc8 | contradiction | exact Bool.noConfusion (show false = true from hc8.symm.trans (by assumption)) | exact Bool.noConfusion (show true = false from hc8.symm.trans (by assumption)) | (exfalso; omega) | (exfalso; simp only [*, Bool.not_true, Bool.not_false, reduceCtorEq] at hc8; done)))
        refine c_skip ?_
        refine x_next ?_
        refine c_seq ?_
        refine c_seq ?_
        refine c_region ?_
        refine w_pure (y_field rfl) rfl ?_
        refine w_pure (y_load_box rfl) rfl ?_
        refine w_pure (y_len rfl) rfl ?_
        refine w_pure (y_ge rfl rfl) rfl ?_
        refine w_nil ?_
        refine x_next ?_
        (refine c_dec rfl (fun hc13 => ?_) (fun hc13 => ?_) <;> try (first | exact absurd rfl hc13 | contradiction | exact Bool.noConfusion (show false = true from hc13.symm.trans (by assumption)) | exact Bool.noConfusion (show true = false from hc13.symm.trans (by assumption)) | (exfalso; omega) | (exfalso; simp only [*, Bool.not_true, Bool.not_false, reduceCtorEq] at hc13; done)))
        refine c_seq ?_
        refine c_region ?_
        refine w_pure (y_build rfl) rfl ?_
        refine w_store_boxs rfl rfl (next := fun ws32 hbs32 hxs32 hss32 => ?_)
        (replace hb4 := hbs32; clear hbs32)
        have hz_hxs32 := hxs32.size
        replace hb3 := hb3.chg hxs32 (by omega)
        replace hb2 := hb2.chg hxs32 (by omega)
        replace h := h.chg hxs32 (by omega)
        replace E := E.next hxs32 (by omega)
        refine w_pure (y_assign rfl) rfl ?_
        refine w_nil ?_
        refine x_next ?_
        refine c_ret ?_
        refine x_then_ret ?_
        rotate_left
      exact x_retv [_, _] rfl ⟨⟨_, rfl, run_load_str (Box.at (by assumption)) (by rfl)⟩, rfl, trivial⟩ ⟨_, by rw [ec]; rfl, by rw [resAddW, ec]; exact Own.nil _ _ _, E.go⟩
    · by_cases hw : wireB (e + n + j) (x, y) = true
      · have hw2 : 0 ≤ (x, y).1 ∧ (x, y).1 < (x, y).2 ∧ (x, y).2 < e + n + j := of_decide_eq_true hw
        have ec : cAdd e n j ws (x, y) = 0 := by rw [cAdd, if_pos hk, if_neg hl, if_pos hw]
        refine ret_enter Try.func22 rfl Try.ntmps22 rfl ?_
        focus
          have ht_h := h.top
          refine c_seq ?_
          refine c_region ?_
          refine w_box rfl (k := fun b2 w2 hb2 hx2 hl2 hs2 => ?_)
          have hz_hx2 := hx2.size
          replace h := h.ext hx2
          replace E := E.trans hx2
          refine w_box rfl (k := fun b3 w3 hb3 hx3 hl3 hs3 => ?_)
          have hz_hx3 := hx3.size
          replace hb2 := hb2.ext hx3
          replace h := h.ext hx3
          replace E := E.trans hx3
          refine w_alloc (k := fun b4 w4 hb4 hx4 hl4 hs4 => ?_)
          have hz_hx4 := hx4.size
          replace hb3 := hb3.ext hx4
          replace hb2 := hb2.ext hx4
          replace h := h.ext hx4
          replace E := E.trans hx4
          refine w_pure (y_assign rfl) rfl ?_
          refine w_nil ?_
          refine x_next ?_
          refine c_seq ?_
          refine c_seq ?_
          refine c_region ?_
          refine w_val rfl rfl rfl (l12Ok_c) rfl (fun w7 hx7 hz7 => ?_)
          have hz_hx7 := hx7.size
          replace hb4 := hb4.ext hx7
          replace hb3 := hb3.ext hx7
          replace hb2 := hb2.ext hx7
          replace h := h.ext hx7
          replace E := E.trans hx7
          refine w_pure (y_not rfl) rfl ?_
          refine w_nil ?_
          refine x_next ?_
          (refine c_not rfl (fun hc8 => ?_) (fun hc8 => ?_) <;> try (first | exact absurd rfl hc8 | contradiction | exact Bool.noConfusion (show false = true from hc8.symm.trans (by assumption)) | exact Bool.noConfusion (show true = false from hc8.symm.trans (by assumption)) | (exfalso; omega) | (exfalso; simp only [*, Bool.not_true, Bool.not_false, reduceCtorEq] at hc8; done)))
          refine c_skip ?_
          refine x_next ?_
          refine c_seq ?_
          refine c_seq ?_
          refine c_region ?_
          refine w_pure (y_field rfl) rfl ?_
          refine w_pure (y_load_box rfl) rfl ?_
          refine w_pure (y_len rfl) rfl ?_
          refine w_pure (y_ge rfl rfl) rfl ?_
          refine w_nil ?_
          refine x_next ?_
          (refine c_dec rfl (fun hc13 => ?_) (fun hc13 => ?_) <;> try (first | exact absurd rfl hc13 | contradiction | exact Bool.noConfusion (show false = true from hc13.symm.trans (by assumption)) | exact Bool.noConfusion (show true = false from hc13.symm.trans (by assumption)) | (exfalso; omega) | (exfalso; simp only [*, Bool.not_true, Bool.not_false, reduceCtorEq] at hc13; done)))
          refine c_skip ?_
          refine x_next ?_
          refine c_seq ?_
          refine c_seq ?_
          refine c_region_held mixed (fun wr5 hxr5 hzr5 => ?_)
          have hz_hxr5 := hxr5.size
          replace hb4 := hb4.ext hxr5
          replace hb3 := hb3.ext hxr5
          replace hb2 := hb2.ext hxr5
          replace h := h.ext hxr5
          replace E := E.trans hxr5
          refine h_pure rfl (y_load_boxs rfl) rfl ?_
          refine h_one rfl ?_
          refine w_val rfl rfl rfl (l12Hubs_c) rfl (fun w16 hx16 hz16 => ?_)
          have hz_hx16 := hx16.size
          replace hb4 := hb4.ext hx16
          replace hb3 := hb3.ext hx16
          replace hb2 := hb2.ext hx16
          replace h := h.ext hx16
          replace E := E.trans hx16
          refine w_nil ?_
          refine x_held ?_
          refine h_one rfl ?_
          refine w_val rfl rfl rfl (l12Wire_c _ _ _) rfl (fun w17 hx17 hz17 => ?_)
          have hz_hx17 := hx17.size
          replace hb4 := hb4.ext hx17
          replace hb3 := hb3.ext hx17
          replace hb2 := hb2.ext hx17
          replace h := h.ext hx17
          replace E := E.trans hx17
          refine w_nil ?_
          refine x_held ?_
          refine h_pure rfl (y_not_dec rfl) rfl ?_
          refine h_nil ?_
          refine x_next ?_
          (refine c_dec rfl (fun hc18 => ?_) (fun hc18 => ?_) <;> try (first | exact absurd rfl hc18 | contradiction | exact Bool.noConfusion (show false = true from hc18.symm.trans (by assumption)) | exact Bool.noConfusion (show true = false from hc18.symm.trans (by assumption)) | (exfalso; omega) | (exfalso; simp only [*, Bool.not_true, Bool.not_false, reduceCtorEq] at hc18; done)))
          refine c_skip ?_
          refine x_next ?_
          refine c_seq ?_
          refine c_region ?_
          (refine w_call rfl rfl rfl (l12Own_c) rfl ?_; rintro _ w20 ⟨d20, ⟨rfl, ⟨hp1_20, hx20⟩⟩⟩)
          have hl_hp1_20 := hp1_20.lt
          have hz_hx20 := hx20.size
          replace hb4 := hb4.ext hx20
          replace hb3 := hb3.ext hx20
          replace hb2 := hb2.ext hx20
          replace h := h.ext hx20
          replace E := E.trans hx20
          refine w_alloc (k := fun b6 w6 hb6 hx6 hl6 hs6 => ?_)
          have hz_hx6 := hx6.size
          replace hp1_20 := hp1_20.ext hx6
          replace hb4 := hb4.ext hx6
          replace hb3 := hb3.ext hx6
          replace hb2 := hb2.ext hx6
          replace h := h.ext hx6
          replace E := E.trans hx6
          refine w_store_boxs rfl rfl (next := fun ws53 hbs53 hxs53 hss53 => ?_)
          (replace hb6 := hbs53; clear hbs53)
          have hz_hxs53 := hxs53.size
          replace hp1_20 := hp1_20.chg hxs53 (by omega)
          replace hb4 := hb4.chg hxs53 (by omega)
          replace hb3 := hb3.chg hxs53 (by omega)
          replace hb2 := hb2.chg hxs53 (by omega)
          replace h := h.chg hxs53 (by omega)
          replace E := E.next hxs53 (by omega)
          refine w_nil ?_
          refine x_next ?_
          refine c_seq ?_
          refine c_region ?_
          refine w_pure (y_field rfl) rfl ?_
          refine w_pure (y_load_box rfl) rfl ?_
          refine w_pure (y_load_boxs rfl) rfl ?_
          refine w_lit (α := (Int × Int)) rfl rfl rfl rfl rfl rfl rfl rfl (fun v24 w24 ho24 hx24 hl24 hh24 hs24 => ?_)
          have hl_ho24 := ho24.lt
          have hz_hx24 := hx24.size
          replace hb6 := hb6.ext hx24
          replace hp1_20 := hp1_20.ext hx24
          replace hb4 := hb4.ext hx24
          replace hb3 := hb3.ext hx24
          replace hb2 := hb2.ext hx24
          replace h := h.ext hx24
          replace E := E.trans hx24
          refine w_append rfl rfl (k := fun v25 w25 ho25 hx25 hr25 => ?_)
          have hl_ho25 := ho25.lt
          have hz_hx25 := hx25.size
          replace ho24 := ho24.chg hx25 (by omega)
          replace hb6 := hb6.chg hx25 (by omega)
          replace hb4 := hb4.chg hx25 (by omega)
          replace hb3 := hb3.chg hx25 (by omega)
          replace hb2 := hb2.chg hx25 (by omega)
          replace h := h.chg hx25 (by omega)
          replace E := E.next hx25 (by omega)
          refine w_pure (y_field rfl) rfl ?_
          refine w_store_box rfl rfl (next := fun ws64 hbs64 hxs64 hss64 => ?_)
          (replace hb6 := hbs64; clear hbs64)
          have hz_hxs64 := hxs64.size
          replace ho25 := ho25.chg hxs64 (by omega)
          replace ho24 := ho24.chg hxs64 (by omega)
          replace hb4 := hb4.chg hxs64 (by omega)
          replace hb3 := hb3.chg hxs64 (by omega)
          replace hb2 := hb2.chg hxs64 (by omega)
          replace h := h.chg hxs64 (by omega)
          replace E := E.next hxs64 (by omega)
          refine w_nil ?_
          refine x_next ?_
          refine c_seq ?_
          refine c_region ?_
          refine w_pure (y_load_boxs rfl) rfl ?_
          refine w_store_boxs rfl rfl (next := fun ws70 hbs70 hxs70 hss70 => ?_)
          (replace hb4 := hbs70; clear hbs70)
          have hz_hxs70 := hxs70.size
          replace hb6 := hb6.chg hxs70 (by omega)
          replace ho25 := ho25.chg hxs70 (by omega)
          replace ho24 := ho24.chg hxs70 (by omega)
          replace hb3 := hb3.chg hxs70 (by omega)
          replace hb2 := hb2.chg hxs70 (by omega)
          replace h := h.chg hxs70 (by omega)
          replace E := E.next hxs70 (by omega)
          refine w_pure (y_assign rfl) rfl ?_
          refine w_nil ?_
          refine x_next ?_
          refine c_ret ?_
          rotate_left
        all_goals exact x_retv [_, _] rfl ⟨⟨_, rfl, run_load_str (Box.at (by assumption)) (by rfl)⟩, rfl, trivial⟩ ⟨_, by rw [ec]; rfl, by rw [resAddW, if_pos ec]; exact Own.base (by assumption) (by omega), E.go⟩
      · have hw2 : ¬ (0 ≤ (x, y).1 ∧ (x, y).1 < (x, y).2 ∧ (x, y).2 < e + n + j) := fun g => hw (decide_eq_true g)
        have ec : cAdd e n j ws (x, y) = 2 := by rw [cAdd, if_pos hk, if_neg hl, if_neg hw]
        refine ret_enter Try.func22 rfl Try.ntmps22 rfl ?_
        focus
          have ht_h := h.top
          refine c_seq ?_
          refine c_region ?_
          refine w_box rfl (k := fun b2 w2 hb2 hx2 hl2 hs2 => ?_)
          have hz_hx2 := hx2.size
          replace h := h.ext hx2
          replace E := E.trans hx2
          refine w_box rfl (k := fun b3 w3 hb3 hx3 hl3 hs3 => ?_)
          have hz_hx3 := hx3.size
          replace hb2 := hb2.ext hx3
          replace h := h.ext hx3
          replace E := E.trans hx3
          refine w_alloc (k := fun b4 w4 hb4 hx4 hl4 hs4 => ?_)
          have hz_hx4 := hx4.size
          replace hb3 := hb3.ext hx4
          replace hb2 := hb2.ext hx4
          replace h := h.ext hx4
          replace E := E.trans hx4
          refine w_pure (y_assign rfl) rfl ?_
          refine w_nil ?_
          refine x_next ?_
          refine c_seq ?_
          refine c_seq ?_
          refine c_region ?_
          refine w_val rfl rfl rfl (l12Ok_c) rfl (fun w7 hx7 hz7 => ?_)
          have hz_hx7 := hx7.size
          replace hb4 := hb4.ext hx7
          replace hb3 := hb3.ext hx7
          replace hb2 := hb2.ext hx7
          replace h := h.ext hx7
          replace E := E.trans hx7
          refine w_pure (y_not rfl) rfl ?_
          refine w_nil ?_
          refine x_next ?_
          (refine c_not rfl (fun hc8 => ?_) (fun hc8 => ?_) <;> try (first | exact absurd rfl hc8 | contradiction | exact Bool.noConfusion (show false = true from hc8.symm.trans (by assumption)) | exact Bool.noConfusion (show true = false from hc8.symm.trans (by assumption)) | (exfalso; omega) | (exfalso; simp only [*, Bool.not_true, Bool.not_false, reduceCtorEq] at hc8; done)))
          refine c_skip ?_
          refine x_next ?_
          refine c_seq ?_
          refine c_seq ?_
          refine c_region ?_
          refine w_pure (y_field rfl) rfl ?_
          refine w_pure (y_load_box rfl) rfl ?_
          refine w_pure (y_len rfl) rfl ?_
          refine w_pure (y_ge rfl rfl) rfl ?_
          refine w_nil ?_
          refine x_next ?_
          (refine c_dec rfl (fun hc13 => ?_) (fun hc13 => ?_) <;> try (first | exact absurd rfl hc13 | contradiction | exact Bool.noConfusion (show false = true from hc13.symm.trans (by assumption)) | exact Bool.noConfusion (show true = false from hc13.symm.trans (by assumption)) | (exfalso; omega) | (exfalso; simp only [*, Bool.not_true, Bool.not_false, reduceCtorEq] at hc13; done)))
          refine c_skip ?_
          refine x_next ?_
          refine c_seq ?_
          refine c_seq ?_
          refine c_region_held mixed (fun wr5 hxr5 hzr5 => ?_)
          have hz_hxr5 := hxr5.size
          replace hb4 := hb4.ext hxr5
          replace hb3 := hb3.ext hxr5
          replace hb2 := hb2.ext hxr5
          replace h := h.ext hxr5
          replace E := E.trans hxr5
          refine h_pure rfl (y_load_boxs rfl) rfl ?_
          refine h_one rfl ?_
          refine w_val rfl rfl rfl (l12Hubs_c) rfl (fun w16 hx16 hz16 => ?_)
          have hz_hx16 := hx16.size
          replace hb4 := hb4.ext hx16
          replace hb3 := hb3.ext hx16
          replace hb2 := hb2.ext hx16
          replace h := h.ext hx16
          replace E := E.trans hx16
          refine w_nil ?_
          refine x_held ?_
          refine h_one rfl ?_
          refine w_val rfl rfl rfl (l12Wire_c _ _ _) rfl (fun w17 hx17 hz17 => ?_)
          have hz_hx17 := hx17.size
          replace hb4 := hb4.ext hx17
          replace hb3 := hb3.ext hx17
          replace hb2 := hb2.ext hx17
          replace h := h.ext hx17
          replace E := E.trans hx17
          refine w_nil ?_
          refine x_held ?_
          refine h_pure rfl (y_not_dec rfl) rfl ?_
          refine h_nil ?_
          refine x_next ?_
          (refine c_dec rfl (fun hc18 => ?_) (fun hc18 => ?_) <;> try (first | exact absurd rfl hc18 | contradiction | exact Bool.noConfusion (show false = true from hc18.symm.trans (by assumption)) | exact Bool.noConfusion (show true = false from hc18.symm.trans (by assumption)) | (exfalso; omega) | (exfalso; simp only [*, Bool.not_true, Bool.not_false, reduceCtorEq] at hc18; done)))
          refine c_seq ?_
          refine c_region ?_
          refine w_pure (y_build rfl) rfl ?_
          refine w_store_boxs rfl rfl (next := fun ws50 hbs50 hxs50 hss50 => ?_)
          (replace hb4 := hbs50; clear hbs50)
          have hz_hxs50 := hxs50.size
          replace hb3 := hb3.chg hxs50 (by omega)
          replace hb2 := hb2.chg hxs50 (by omega)
          replace h := h.chg hxs50 (by omega)
          replace E := E.next hxs50 (by omega)
          refine w_pure (y_assign rfl) rfl ?_
          refine w_nil ?_
          refine x_next ?_
          refine c_ret ?_
          refine x_then_ret ?_
          rotate_left
        exact x_retv [_, _] rfl ⟨⟨_, rfl, run_load_str (Box.at (by assumption)) (by rfl)⟩, rfl, trivial⟩ ⟨_, by rw [ec]; rfl, by rw [resAddW, ec]; exact Own.nil _ _ _, E.go⟩
  · have ec : cAdd e n j ws (x, y) = 1 := by rw [cAdd, if_neg hk]
    refine ret_enter Try.func22 rfl Try.ntmps22 rfl ?_
    focus
      have ht_h := h.top
      refine c_seq ?_
      refine c_region ?_
      refine w_box rfl (k := fun b2 w2 hb2 hx2 hl2 hs2 => ?_)
      have hz_hx2 := hx2.size
      replace h := h.ext hx2
      replace E := E.trans hx2
      refine w_box rfl (k := fun b3 w3 hb3 hx3 hl3 hs3 => ?_)
      have hz_hx3 := hx3.size
      replace hb2 := hb2.ext hx3
      replace h := h.ext hx3
      replace E := E.trans hx3
      refine w_alloc (k := fun b4 w4 hb4 hx4 hl4 hs4 => ?_)
      have hz_hx4 := hx4.size
      replace hb3 := hb3.ext hx4
      replace hb2 := hb2.ext hx4
      replace h := h.ext hx4
      replace E := E.trans hx4
      refine w_pure (y_assign rfl) rfl ?_
      refine w_nil ?_
      refine x_next ?_
      refine c_seq ?_
      refine c_seq ?_
      refine c_region ?_
      refine w_val rfl rfl rfl (l12Ok_c) rfl (fun w7 hx7 hz7 => ?_)
      have hz_hx7 := hx7.size
      replace hb4 := hb4.ext hx7
      replace hb3 := hb3.ext hx7
      replace hb2 := hb2.ext hx7
      replace h := h.ext hx7
      replace E := E.trans hx7
      refine w_pure (y_not rfl) rfl ?_
      refine w_nil ?_
      refine x_next ?_
      (refine c_not rfl (fun hc8 => ?_) (fun hc8 => ?_) <;> try (first | exact absurd rfl hc8 | contradiction | exact Bool.noConfusion (show false = true from hc8.symm.trans (by assumption)) | exact Bool.noConfusion (show true = false from hc8.symm.trans (by assumption)) | (exfalso; omega) | (exfalso; simp only [*, Bool.not_true, Bool.not_false, reduceCtorEq] at hc8; done)))
      refine c_seq ?_
      refine c_region ?_
      refine w_pure (y_build rfl) rfl ?_
      refine w_store_boxs rfl rfl (next := fun ws20 hbs20 hxs20 hss20 => ?_)
      (replace hb4 := hbs20; clear hbs20)
      have hz_hxs20 := hxs20.size
      replace hb3 := hb3.chg hxs20 (by omega)
      replace hb2 := hb2.chg hxs20 (by omega)
      replace h := h.chg hxs20 (by omega)
      replace E := E.next hxs20 (by omega)
      refine w_pure (y_assign rfl) rfl ?_
      refine w_nil ?_
      refine x_next ?_
      refine c_ret ?_
      refine x_then_ret ?_
      rotate_left
    exact x_retv [_, _] rfl ⟨⟨_, rfl, run_load_str (Box.at (by assumption)) (by rfl)⟩, rfl, trivial⟩ ⟨_, by rw [ec]; rfl, by rw [resAddW, ec]; exact Own.nil _ _ _, E.go⟩
theorem lAddWire (w0 : World) (x0 : { x : OBd // x.ok w0 }) (x1 : { p : Int × Int // In64 p.1 ∧ In64 p.2 }) : Ret Try.prog 5 [.agg #[.int .i64 x0.1.e, .int .i64 x0.1.n, .int .i64 x0.1.j, x0.1.v], .agg #[.int .i64 x1.1.1, .int .i64 x1.1.2]] w0 fun u w' => u = .bool true ∧ Ext w0 w' := by
  obtain ⟨⟨e0, n0, j0, v0, ws0⟩, hok0⟩ := x0
  have s0 : SL w0 0 w0.heap.size v0 ws0 := hok0.sl
  have r0 := hok0.in64
  have re0 : In64 e0 := hok0.e
  have rn0 : In64 n0 := hok0.n
  have rj0 : In64 j0 := hok0.j
  obtain ⟨⟨a1, b1⟩, i1, j1⟩ := x1
  simp only at i1 j1
  show Ret _ _ [.agg #[.int .i64 e0, .int .i64 n0, .int .i64 j0, v0], .agg #[.int .i64 a1, .int .i64 b1]] w0 _
  clear hok0
  have E : Since 0 0 w0 w0 := Since.refl 0 0 w0
  have hb := resAddW_len e0 n0 j0 ws0 (a1, b1)
  refine ret_enter Try.func5 rfl Try.ntmps5 rfl ?_
  focus
    refine c_seq ?_
    refine c_region ?_
    refine w_box rfl (k := fun b2 w2 hb2 hx2 hl2 hs2 => ?_)
    have hz_hx2 := hx2.size
    replace s0 := s0.ext hx2
    replace E := E.trans hx2
    refine w_box rfl (k := fun b3 w3 hb3 hx3 hl3 hs3 => ?_)
    have hz_hx3 := hx3.size
    replace hb2 := hb2.ext hx3
    replace s0 := s0.ext hx3
    replace E := E.trans hx3
    refine w_pure (y_assign rfl) rfl ?_
    refine w_nil ?_
    refine x_next ?_
    refine c_seq ?_
    refine c_region ?_
    refine w_pure (y_assign rfl) rfl ?_
    refine w_nil ?_
    refine x_next ?_
    refine c_seq ?_
    refine c_region ?_
    refine w_pure (y_load_boxs rfl) rfl ?_
    refine w_pure (y_move rfl) rfl ?_
    (refine w_call rfl rfl rfl (szBoard_z) rfl ?_; rintro _ w18 ⟨z18, ⟨rfl, ⟨hp1_18, hx18⟩⟩⟩)
    have hz_hx18 := hx18.size
    replace hb3 := hb3.ext hx18
    replace hb2 := hb2.ext hx18
    replace s0 := s0.ext hx18
    replace E := E.trans hx18
    refine w_pure (y_assign rfl) rfl ?_
    refine w_nil ?_
    refine x_next ?_
    refine c_seq ?_
    refine c_seq ?_
    refine c_region ?_
    refine w_pure (y_move rfl) rfl ?_
    refine w_pure (y_lt rfl rfl) rfl ?_
    refine w_nil ?_
    refine x_next ?_
    (refine c_dec rfl (fun hc20 => ?_) (fun hc20 => ?_) <;> try (first | exact absurd rfl hc20 | contradiction | exact Bool.noConfusion (show false = true from hc20.symm.trans (by assumption)) | exact Bool.noConfusion (show true = false from hc20.symm.trans (by assumption)) | (exfalso; omega) | (exfalso; simp only [*, Bool.not_true, Bool.not_false, reduceCtorEq] at hc20; done)))
    refine c_seq ?_
    refine c_region ?_
    refine w_pure (y_assign rfl) rfl ?_
    refine w_nil ?_
    refine x_next ?_
    refine c_ret ?_
    refine x_then_ret ?_
    exact x_retv [_] rfl ⟨rfl, trivial⟩ ⟨rfl, E.go⟩
    refine c_skip ?_
    refine x_next ?_
    refine c_seq ?_
    refine c_region_held mixed (fun wr5 hxr5 hzr5 => ?_)
    have hz_hxr5 := hxr5.size
    replace hb3 := hb3.ext hxr5
    replace hb2 := hb2.ext hxr5
    replace s0 := s0.ext hxr5
    replace E := E.trans hxr5
    refine h_pure rfl (y_load_boxs rfl) rfl ?_
    refine h_maybe1 (p0 := ⟨8, 6, _⟩) (PA.mk_ok rfl rfl rfl) ?_
    refine m1_turn ?_
    refine m1_pure rfl (y_load_boxs rfl) rfl ?_
    refine m1_turn ?_
    refine m1_turn ?_
    refine m1_turn ?_
    refine m1_turn ?_
    refine m1_turn ?_
    refine m1_turn ?_
    refine m1_turn ?_
    refine m1_call (PA.mk_ok rfl rfl rfl) rfl rfl rfl rfl rfl (fun w23m hx23m => ?_)
    have hz_hx23m := hx23m.size
    replace hb3 := hb3.ext hx23m
    replace hb2 := hb2.ext hx23m
    replace s0 := s0.ext hx23m
    replace E := E.trans hx23m
    (refine mc_ret (toBoard_c) ?_; rintro _ w23 ⟨d23, ⟨rfl, ⟨hp1_23, hx23⟩⟩⟩; refine ⟨hx23, ?_⟩)
    have hz_hx23 := hx23.size
    replace hb3 := hb3.ext hx23
    replace hb2 := hb2.ext hx23
    replace s0 := s0.ext hx23
    replace E := E.trans hx23
    replace hp1_23 := hp1_23.fresh
    refine m1_call (PA.mk_ok rfl rfl rfl) rfl rfl rfl rfl rfl (fun w25m hx25m => ?_)
    have hz_hx25m := hx25m.size
    replace hb3 := hb3.ext hx25m
    replace hb2 := hb2.ext hx25m
    replace s0 := s0.ext hx25m
    replace E := E.trans hx25m
    replace hp1_23 := hp1_23.ext hx25m
    refine mc_val (toWire_c _ _) (fun w25 hx25 hz25 => ?_)
    have hz_hx25 := hx25.size
    replace hb3 := hb3.ext hx25
    replace hb2 := hb2.ext hx25
    replace s0 := s0.ext hx25
    replace E := E.trans hx25
    replace hp1_23 := hp1_23.ext hx25
    refine m1_call (PA.mk_ok rfl rfl rfl) rfl rfl rfl rfl rfl (fun w26m hx26m => ?_)
    have hz_hx26m := hx26m.size
    replace hb3 := hb3.ext hx26m
    replace hb2 := hb2.ext hx26m
    replace s0 := s0.ext hx26m
    replace E := E.trans hx26m
    replace hp1_23 := hp1_23.ext hx26m
    (refine mc_ret (sAddWire_c _ _) ?_; rintro _ w26 ⟨d26, ⟨rfl, ⟨hp1_26, hx26⟩⟩⟩; refine ⟨hx26, ?_⟩)
    have hz_hx26 := hx26.size
    replace hb3 := hb3.ext hx26
    replace hb2 := hb2.ext hx26
    replace s0 := s0.ext hx26
    replace E := E.trans hx26
    replace hp1_23 := hp1_23.ext hx26
    replace hp1_26 := hp1_26.fresh
    refine m1_pure rfl (y_move rfl) rfl ?_
    refine m1_pure rfl (y_extract rfl rfl) rfl ?_
    refine m1_any rfl (fun _ => y_extract rfl rfl) rfl ?_
    (refine m1_end (PA.mk_ok rfl rfl rfl) ?_; intro w6e hx6e hz6e b6 hb6 hlb6 hg6; simp only [Gaps, and_true] at hg6; have hu6 := hb6.lt)
    have hz_hx6e := hx6e.size
    replace hb3 := hb3.ext hx6e
    replace hb2 := hb2.ext hx6e
    replace s0 := s0.ext hx6e
    replace E := E.trans hx6e
    replace hp1_23 := hp1_23.ext hx6e
    replace hp1_26 := hp1_26.ext hx6e
    refine h_one rfl ?_
    refine w_store_boxs rfl rfl (next := fun ws63 hbs63 hxs63 hss63 => ?_)
    (replace hb6 := hbs63; clear hbs63)
    have hz_hxs63 := hxs63.size
    replace hb3 := hb3.chg hxs63 (by omega)
    replace hb2 := hb2.chg hxs63 (by omega)
    replace s0 := s0.chg hxs63 (by omega)
    replace E := E.next hxs63 (by omega)
    replace hp1_23 := hp1_23.chg hxs63 (by omega)
    replace hp1_26 := hp1_26.chg hxs63 (by omega)
    refine w_nil ?_
    refine x_heldk ?_
    refine h_pure rfl (y_assign rfl) rfl ?_
    refine h_nil ?_
    refine x_next ?_
    refine c_seq ?_
    refine c_region ?_
    refine w_pure (y_load_boxs rfl) rfl ?_
    (refine w_call rfl rfl rfl (toBoard_c) rfl ?_; rintro _ w30 ⟨d30, ⟨rfl, ⟨hp1_30, hx30⟩⟩⟩)
    have hz_hx30 := hx30.size
    replace hb6 := hb6.ext hx30
    replace hb3 := hb3.ext hx30
    replace hb2 := hb2.ext hx30
    replace s0 := s0.ext hx30
    replace E := E.trans hx30
    replace hp1_23 := hp1_23.ext hx30
    replace hp1_26 := hp1_26.ext hx30
    replace hp1_30 := hp1_30.fresh
    refine w_alloc (k := fun b8 w8 hb8 hx8 hl8 hs8 => ?_)
    have hz_hx8 := hx8.size
    replace hb6 := hb6.ext hx8
    replace hb3 := hb3.ext hx8
    replace hb2 := hb2.ext hx8
    replace s0 := s0.ext hx8
    replace E := E.trans hx8
    replace hp1_23 := hp1_23.ext hx8
    replace hp1_26 := hp1_26.ext hx8
    replace hp1_30 := hp1_30.ext hx8
    refine w_store_boxs rfl rfl (next := fun ws74 hbs74 hxs74 hss74 => ?_)
    (replace hb8 := hbs74; clear hbs74)
    have hz_hxs74 := hxs74.size
    replace hb6 := hb6.chg hxs74 (by omega)
    replace hb3 := hb3.chg hxs74 (by omega)
    replace hb2 := hb2.chg hxs74 (by omega)
    replace s0 := s0.chg hxs74 (by omega)
    replace E := E.next hxs74 (by omega)
    replace hp1_23 := hp1_23.chg hxs74 (by omega)
    replace hp1_26 := hp1_26.chg hxs74 (by omega)
    replace hp1_30 := hp1_30.chg hxs74 (by omega)
    refine w_nil ?_
    refine x_next ?_
    refine c_seq ?_
    refine c_region_held mixed (fun wr7 hxr7 hzr7 => ?_)
    have hz_hxr7 := hxr7.size
    replace hb8 := hb8.ext hxr7
    replace hb6 := hb6.ext hxr7
    replace hb3 := hb3.ext hxr7
    replace hb2 := hb2.ext hxr7
    replace s0 := s0.ext hxr7
    replace E := E.trans hxr7
    replace hp1_23 := hp1_23.ext hxr7
    replace hp1_26 := hp1_26.ext hxr7
    replace hp1_30 := hp1_30.ext hxr7
    refine h_pure rfl (y_load_boxs rfl) rfl ?_
    refine h_pure rfl (y_load_boxs rfl) rfl ?_
    refine h_maybe1 (p0 := ⟨7, 9, _⟩) (PA.mk_ok rfl rfl rfl) ?_
    refine m1_call (PA.mk_ok rfl rfl rfl) rfl rfl rfl rfl rfl (fun w34m hx34m => ?_)
    have hz_hx34m := hx34m.size
    replace hb8 := hb8.ext hx34m
    replace hb6 := hb6.ext hx34m
    replace hb3 := hb3.ext hx34m
    replace hb2 := hb2.ext hx34m
    replace s0 := s0.ext hx34m
    replace E := E.trans hx34m
    replace hp1_23 := hp1_23.ext hx34m
    replace hp1_26 := hp1_26.ext hx34m
    replace hp1_30 := hp1_30.ext hx34m
    refine mc_val (toWire_c _ _) (fun w34 hx34 hz34 => ?_)
    have hz_hx34 := hx34.size
    replace hb8 := hb8.ext hx34
    replace hb6 := hb6.ext hx34
    replace hb3 := hb3.ext hx34
    replace hb2 := hb2.ext hx34
    replace s0 := s0.ext hx34
    replace E := E.trans hx34
    replace hp1_23 := hp1_23.ext hx34
    replace hp1_26 := hp1_26.ext hx34
    replace hp1_30 := hp1_30.ext hx34
    refine m1_call (PA.mk_ok rfl rfl rfl) rfl rfl rfl rfl rfl (fun w35m hx35m => ?_)
    have hz_hx35m := hx35m.size
    replace hb8 := hb8.ext hx35m
    replace hb6 := hb6.ext hx35m
    replace hb3 := hb3.ext hx35m
    replace hb2 := hb2.ext hx35m
    replace s0 := s0.ext hx35m
    replace E := E.trans hx35m
    replace hp1_23 := hp1_23.ext hx35m
    replace hp1_26 := hp1_26.ext hx35m
    replace hp1_30 := hp1_30.ext hx35m
    (refine mc_ret (iAddWire_c _ _) ?_; rintro _ w35 ⟨d35, ⟨rfl, ⟨hp1_35, hx35⟩⟩⟩; refine ⟨hx35, ?_⟩)
    have hz_hx35 := hx35.size
    replace hb8 := hb8.ext hx35
    replace hb6 := hb6.ext hx35
    replace hb3 := hb3.ext hx35
    replace hb2 := hb2.ext hx35
    replace s0 := s0.ext hx35
    replace E := E.trans hx35
    replace hp1_23 := hp1_23.ext hx35
    replace hp1_26 := hp1_26.ext hx35
    replace hp1_30 := hp1_30.ext hx35
    replace hp1_35 := hp1_35.fresh
    refine m1_pure rfl (y_move rfl) rfl ?_
    refine m1_pure rfl (y_extract rfl rfl) rfl ?_
    refine m1_any rfl (fun _ => y_extract rfl rfl) rfl ?_
    (refine m1_end (PA.mk_ok rfl rfl rfl) ?_; intro w9e hx9e hz9e b9 hb9 hlb9 hg9; simp only [Gaps, and_true] at hg9; have hu9 := hb9.lt)
    have hz_hx9e := hx9e.size
    replace hb8 := hb8.ext hx9e
    replace hb6 := hb6.ext hx9e
    replace hb3 := hb3.ext hx9e
    replace hb2 := hb2.ext hx9e
    replace s0 := s0.ext hx9e
    replace E := E.trans hx9e
    replace hp1_23 := hp1_23.ext hx9e
    replace hp1_26 := hp1_26.ext hx9e
    replace hp1_30 := hp1_30.ext hx9e
    replace hp1_35 := hp1_35.ext hx9e
    refine h_one rfl ?_
    refine w_store_boxs rfl rfl (next := fun ws91 hbs91 hxs91 hss91 => ?_)
    (replace hb9 := hbs91; clear hbs91)
    have hz_hxs91 := hxs91.size
    replace hb8 := hb8.chg hxs91 (by omega)
    replace hb6 := hb6.chg hxs91 (by omega)
    replace hb3 := hb3.chg hxs91 (by omega)
    replace hb2 := hb2.chg hxs91 (by omega)
    replace s0 := s0.chg hxs91 (by omega)
    replace E := E.next hxs91 (by omega)
    replace hp1_23 := hp1_23.chg hxs91 (by omega)
    replace hp1_26 := hp1_26.chg hxs91 (by omega)
    replace hp1_30 := hp1_30.chg hxs91 (by omega)
    replace hp1_35 := hp1_35.chg hxs91 (by omega)
    refine w_nil ?_
    refine x_heldk ?_
    refine h_pure rfl (y_assign rfl) rfl ?_
    refine h_nil ?_
    refine x_next ?_
    refine c_seq ?_
    refine c_seq ?_
    refine c_region ?_
    refine w_pure (y_load_boxs rfl) rfl ?_
    refine w_pure (y_load_boxs rfl) rfl ?_
    refine w_val rfl rfl rfl (eqBoard_c) rfl (fun w40 hx40 hz40 => ?_)
    have hz_hx40 := hx40.size
    replace hb9 := hb9.ext hx40
    replace hb8 := hb8.ext hx40
    replace hb6 := hb6.ext hx40
    replace hb3 := hb3.ext hx40
    replace hb2 := hb2.ext hx40
    replace s0 := s0.ext hx40
    replace E := E.trans hx40
    replace hp1_23 := hp1_23.ext hx40
    replace hp1_26 := hp1_26.ext hx40
    replace hp1_30 := hp1_30.ext hx40
    replace hp1_35 := hp1_35.ext hx40
    refine w_pure (y_not_dec rfl) rfl ?_
    refine w_pure (y_move rfl) rfl ?_
    (refine w_part_dec rfl rfl (fun hc43 => ?_) (fun hc43 => ?_) <;> try (first | exact absurd rfl hc43 | contradiction | exact Bool.noConfusion (show false = true from hc43.symm.trans (by assumption)) | exact Bool.noConfusion (show true = false from hc43.symm.trans (by assumption)) | (exfalso; omega) | (exfalso; simp only [*, Bool.not_true, Bool.not_false, reduceCtorEq] at hc43; done)))
    refine w_yes rfl rfl ?_
    refine w_pure (y_move rfl) rfl ?_
    refine w_yes rfl rfl ?_
    refine w_pure (y_move rfl) rfl ?_
    refine w_yes rfl rfl ?_
    refine w_pure (y_ne rfl rfl) rfl ?_
    refine w_pure (y_pick_f rfl rfl) rfl ?_
    refine w_nil ?_
    refine x_next ?_
    refine c_nsame rfl ?_
    refine c_skip ?_
    refine x_next ?_
    refine c_seq ?_
    refine c_seq ?_
    refine c_region_held mixed (fun wr10 hxr10 hzr10 => ?_)
    have hz_hxr10 := hxr10.size
    replace hb9 := hb9.ext hxr10
    replace hb8 := hb8.ext hxr10
    replace hb6 := hb6.ext hxr10
    replace hb3 := hb3.ext hxr10
    replace hb2 := hb2.ext hxr10
    replace s0 := s0.ext hxr10
    replace E := E.trans hxr10
    replace hp1_23 := hp1_23.ext hxr10
    replace hp1_26 := hp1_26.ext hxr10
    replace hp1_30 := hp1_30.ext hxr10
    replace hp1_35 := hp1_35.ext hxr10
    refine h_pure rfl (y_load_boxs rfl) rfl ?_
    refine h_pure rfl (y_load_boxs rfl) rfl ?_
    refine h_one rfl ?_
    (refine w_call rfl rfl rfl (toBoard_c) rfl ?_; rintro _ w49 ⟨d49, ⟨rfl, ⟨hp1_49, hx49⟩⟩⟩)
    have hz_hx49 := hx49.size
    replace hb9 := hb9.ext hx49
    replace hb8 := hb8.ext hx49
    replace hb6 := hb6.ext hx49
    replace hb3 := hb3.ext hx49
    replace hb2 := hb2.ext hx49
    replace s0 := s0.ext hx49
    replace E := E.trans hx49
    replace hp1_23 := hp1_23.ext hx49
    replace hp1_26 := hp1_26.ext hx49
    replace hp1_30 := hp1_30.ext hx49
    replace hp1_35 := hp1_35.ext hx49
    replace hp1_49 := hp1_49.fresh
    refine w_nil ?_
    refine x_held ?_
    refine h_one rfl ?_
    refine w_val rfl rfl rfl (eqBoard_c) rfl (fun w50 hx50 hz50 => ?_)
    have hz_hx50 := hx50.size
    replace hb9 := hb9.ext hx50
    replace hb8 := hb8.ext hx50
    replace hb6 := hb6.ext hx50
    replace hb3 := hb3.ext hx50
    replace hb2 := hb2.ext hx50
    replace s0 := s0.ext hx50
    replace E := E.trans hx50
    replace hp1_23 := hp1_23.ext hx50
    replace hp1_26 := hp1_26.ext hx50
    replace hp1_30 := hp1_30.ext hx50
    replace hp1_35 := hp1_35.ext hx50
    replace hp1_49 := hp1_49.ext hx50
    refine w_nil ?_
    refine x_held ?_
    refine h_pure rfl (y_not_dec rfl) rfl ?_
    refine h_nil ?_
    refine x_next ?_
    refine c_nsame rfl ?_
    refine c_skip ?_
    refine x_next ?_
    refine c_seq ?_
    refine c_region ?_
    refine w_pure (y_assign rfl) rfl ?_
    refine w_nil ?_
    refine x_next ?_
    refine c_seq ?_
    refine c_region ?_
    refine w_pure (y_load_boxs rfl) rfl ?_
    refine w_pure (y_move rfl) rfl ?_
    (refine w_call rfl rfl rfl (markBoard_c) rfl ?_; rintro _ w54 ⟨rfl, ⟨hp1_54, hx54⟩⟩)
    have hz_hx54 := hx54.size
    replace hb9 := hb9.chg hx54 (by omega)
    replace hb8 := hb8.chg hx54 (by omega)
    replace hb6 := hb6.chg hx54 (by omega)
    replace hb3 := hb3.chg hx54 (by omega)
    replace hb2 := hb2.chg hx54 (by omega)
    replace s0 := s0.chg hx54 (by omega)
    replace E := E.next hx54 (by omega)
    replace hp1_23 := hp1_23.chg hx54 (by omega)
    replace hp1_26 := hp1_26.chg hx54 (by omega)
    replace hp1_35 := hp1_35.chg hx54 (by omega)
    replace hp1_49 := hp1_49.chg hx54 (by omega)
    refine w_pure (y_assign rfl) rfl ?_
    refine w_nil ?_
    refine x_next ?_
    refine c_seq ?_
    refine c_seq ?_
    refine c_region ?_
    refine w_pure (y_move rfl) rfl ?_
    refine w_pure (y_lt rfl rfl) rfl ?_
    refine w_pure (y_move rfl) rfl ?_
    refine w_yes rfl rfl ?_
    refine w_pure (y_load_boxs rfl) rfl ?_
    refine w_yes rfl rfl ?_
    refine w_pure (y_load_boxs rfl) rfl ?_
    refine w_yes rfl rfl ?_
    refine w_val rfl rfl rfl (eqBoard_c) rfl (fun w60 hx60 hz60 => ?_)
    have hz_hx60 := hx60.size
    replace hp1_54 := hp1_54.ext hx60
    replace hb9 := hb9.ext hx60
    replace hb8 := hb8.ext hx60
    replace hb6 := hb6.ext hx60
    replace hb3 := hb3.ext hx60
    replace hb2 := hb2.ext hx60
    replace s0 := s0.ext hx60
    replace E := E.trans hx60
    replace hp1_23 := hp1_23.ext hx60
    replace hp1_26 := hp1_26.ext hx60
    replace hp1_35 := hp1_35.ext hx60
    replace hp1_49 := hp1_49.ext hx60
    refine w_yes rfl rfl ?_
    refine w_pure (y_not_dec rfl) rfl ?_
    refine w_pure (y_pick_f rfl rfl) rfl ?_
    refine w_pure (y_move rfl) rfl ?_
    (refine w_part_dec rfl rfl (fun hc64 => ?_) (fun hc64 => ?_) <;> try (first | exact absurd rfl hc64 | contradiction | exact Bool.noConfusion (show false = true from hc64.symm.trans (by assumption)) | exact Bool.noConfusion (show true = false from hc64.symm.trans (by assumption)) | (exfalso; omega) | (exfalso; simp only [*, Bool.not_true, Bool.not_false, reduceCtorEq] at hc64; done)))
    refine w_yes rfl rfl ?_
    refine w_pure (y_move rfl) rfl ?_
    refine w_yes rfl rfl ?_
    refine w_pure (y_move rfl) rfl ?_
    refine w_yes rfl rfl ?_
    refine w_pure (y_ne rfl rfl) rfl ?_
    refine w_pure (y_pick_f rfl rfl) rfl ?_
    refine w_nil ?_
    refine x_next ?_
    refine c_nsame rfl ?_
    refine c_skip ?_
    refine x_next ?_
    refine c_seq ?_
    refine c_region ?_
    refine w_pure (y_assign rfl) rfl ?_
    refine w_nil ?_
    refine x_next ?_
    refine c_seq ?_
    refine c_region ?_
    refine w_pure (y_load_boxs rfl) rfl ?_
    refine w_pure (y_move rfl) rfl ?_
    (refine w_call rfl rfl rfl (markBoard_c) rfl ?_; rintro _ w70 ⟨rfl, ⟨hp1_70, hx70⟩⟩)
    have hz_hx70 := hx70.size
    replace hp1_54 := hp1_54.chg hx70 (by omega)
    replace hb9 := hb9.chg hx70 (by omega)
    replace hb8 := hb8.chg hx70 (by omega)
    replace hb6 := hb6.chg hx70 (by omega)
    replace hb3 := hb3.chg hx70 (by omega)
    replace hb2 := hb2.chg hx70 (by omega)
    replace s0 := s0.chg hx70 (by omega)
    replace E := E.next hx70 (by omega)
    replace hp1_23 := hp1_23.chg hx70 (by omega)
    replace hp1_26 := hp1_26.chg hx70 (by omega)
    replace hp1_49 := hp1_49.chg hx70 (by omega)
    refine w_pure (y_assign rfl) rfl ?_
    refine w_nil ?_
    refine x_next ?_
    refine c_seq ?_
    refine c_region ?_
    refine w_pure (y_assign rfl) rfl ?_
    refine w_nil ?_
    refine x_next ?_
    refine c_seq ?_
    refine c_region ?_
    refine w_pure (y_load_boxs rfl) rfl ?_
    refine w_pure (y_move rfl) rfl ?_
    refine w_val rfl rfl rfl (heldBoard_c) rfl (fun w73 hx73 hz73 => ?_)
    have hz_hx73 := hx73.size
    replace hp1_70 := hp1_70.ext hx73
    replace hp1_54 := hp1_54.ext hx73
    replace hb9 := hb9.ext hx73
    replace hb8 := hb8.ext hx73
    replace hb6 := hb6.ext hx73
    replace hb3 := hb3.ext hx73
    replace hb2 := hb2.ext hx73
    replace s0 := s0.ext hx73
    replace E := E.trans hx73
    replace hp1_23 := hp1_23.ext hx73
    replace hp1_26 := hp1_26.ext hx73
    replace hp1_49 := hp1_49.ext hx73
    refine w_pure (y_assign rfl) rfl ?_
    refine w_nil ?_
    refine x_next ?_
    refine c_seq ?_
    refine c_seq ?_
    refine c_region ?_
    refine w_pure (y_move rfl) rfl ?_
    refine w_pure (y_lt rfl rfl) rfl ?_
    refine w_nil ?_
    refine x_next ?_
    refine c_false rfl ?_
    refine c_skip ?_
    refine x_next ?_
    refine c_seq ?_
    refine c_seq ?_
    refine c_region ?_
    refine w_pure (y_move rfl) rfl ?_
    refine w_pure (y_move rfl) rfl ?_
    refine w_pure (y_ne rfl rfl) rfl ?_
    refine w_nil ?_
    refine x_next ?_
    refine c_nsame rfl ?_
    refine c_skip ?_
    refine x_next ?_
    refine c_seq ?_
    refine c_region_held mixed (fun wr24 hxr24 hzr24 => ?_)
    have hz_hxr24 := hxr24.size
    replace hp1_70 := hp1_70.ext hxr24
    replace hp1_54 := hp1_54.ext hxr24
    replace hb9 := hb9.ext hxr24
    replace hb8 := hb8.ext hxr24
    replace hb6 := hb6.ext hxr24
    replace hb3 := hb3.ext hxr24
    replace hb2 := hb2.ext hxr24
    replace s0 := s0.ext hxr24
    replace E := E.trans hxr24
    replace hp1_23 := hp1_23.ext hxr24
    replace hp1_26 := hp1_26.ext hxr24
    replace hp1_49 := hp1_49.ext hxr24
    refine h_pure rfl (y_load_boxs rfl) rfl ?_
    refine h_maybe1 (p0 := ⟨8, 14, _⟩) (PA.mk_ok rfl rfl rfl) ?_
    refine m1_turn ?_
    refine m1_pure rfl (y_load_boxs rfl) rfl ?_
    refine m1_turn ?_
    refine m1_turn ?_
    refine m1_turn ?_
    refine m1_turn ?_
    refine m1_turn ?_
    refine m1_turn ?_
    refine m1_turn ?_
    refine m1_call (PA.mk_ok rfl rfl rfl) rfl rfl rfl rfl rfl (fun w81m hx81m => ?_)
    have hz_hx81m := hx81m.size
    replace hp1_70 := hp1_70.ext hx81m
    replace hp1_54 := hp1_54.ext hx81m
    replace hb9 := hb9.ext hx81m
    replace hb8 := hb8.ext hx81m
    replace hb6 := hb6.ext hx81m
    replace hb3 := hb3.ext hx81m
    replace hb2 := hb2.ext hx81m
    replace s0 := s0.ext hx81m
    replace E := E.trans hx81m
    replace hp1_23 := hp1_23.ext hx81m
    replace hp1_26 := hp1_26.ext hx81m
    replace hp1_49 := hp1_49.ext hx81m
    (refine mc_ret (toBoard_c) ?_; rintro _ w81 ⟨d81, ⟨rfl, ⟨hp1_81, hx81⟩⟩⟩; refine ⟨hx81, ?_⟩)
    have hz_hx81 := hx81.size
    replace hp1_70 := hp1_70.ext hx81
    replace hp1_54 := hp1_54.ext hx81
    replace hb9 := hb9.ext hx81
    replace hb8 := hb8.ext hx81
    replace hb6 := hb6.ext hx81
    replace hb3 := hb3.ext hx81
    replace hb2 := hb2.ext hx81
    replace s0 := s0.ext hx81
    replace E := E.trans hx81
    replace hp1_23 := hp1_23.ext hx81
    replace hp1_26 := hp1_26.ext hx81
    replace hp1_49 := hp1_49.ext hx81
    replace hp1_81 := hp1_81.fresh
    refine m1_call (PA.mk_ok rfl rfl rfl) rfl rfl rfl rfl rfl (fun w83m hx83m => ?_)
    have hz_hx83m := hx83m.size
    replace hp1_70 := hp1_70.ext hx83m
    replace hp1_54 := hp1_54.ext hx83m
    replace hb9 := hb9.ext hx83m
    replace hb8 := hb8.ext hx83m
    replace hb6 := hb6.ext hx83m
    replace hb3 := hb3.ext hx83m
    replace hb2 := hb2.ext hx83m
    replace s0 := s0.ext hx83m
    replace E := E.trans hx83m
    replace hp1_23 := hp1_23.ext hx83m
    replace hp1_26 := hp1_26.ext hx83m
    replace hp1_49 := hp1_49.ext hx83m
    replace hp1_81 := hp1_81.ext hx83m
    refine mc_val (toWire_c _ _) (fun w83 hx83 hz83 => ?_)
    have hz_hx83 := hx83.size
    replace hp1_70 := hp1_70.ext hx83
    replace hp1_54 := hp1_54.ext hx83
    replace hb9 := hb9.ext hx83
    replace hb8 := hb8.ext hx83
    replace hb6 := hb6.ext hx83
    replace hb3 := hb3.ext hx83
    replace hb2 := hb2.ext hx83
    replace s0 := s0.ext hx83
    replace E := E.trans hx83
    replace hp1_23 := hp1_23.ext hx83
    replace hp1_26 := hp1_26.ext hx83
    replace hp1_49 := hp1_49.ext hx83
    replace hp1_81 := hp1_81.ext hx83
    refine m1_call (PA.mk_ok rfl rfl rfl) rfl rfl rfl rfl rfl (fun w84m hx84m => ?_)
    have hz_hx84m := hx84m.size
    replace hp1_70 := hp1_70.ext hx84m
    replace hp1_54 := hp1_54.ext hx84m
    replace hb9 := hb9.ext hx84m
    replace hb8 := hb8.ext hx84m
    replace hb6 := hb6.ext hx84m
    replace hb3 := hb3.ext hx84m
    replace hb2 := hb2.ext hx84m
    replace s0 := s0.ext hx84m
    replace E := E.trans hx84m
    replace hp1_23 := hp1_23.ext hx84m
    replace hp1_26 := hp1_26.ext hx84m
    replace hp1_49 := hp1_49.ext hx84m
    replace hp1_81 := hp1_81.ext hx84m
    (refine mc_ret (iAddWire_c _ _) ?_; rintro _ w84 ⟨d84, ⟨rfl, ⟨hp1_84, hx84⟩⟩⟩; refine ⟨hx84, ?_⟩)
    have hz_hx84 := hx84.size
    replace hp1_70 := hp1_70.ext hx84
    replace hp1_54 := hp1_54.ext hx84
    replace hb9 := hb9.ext hx84
    replace hb8 := hb8.ext hx84
    replace hb6 := hb6.ext hx84
    replace hb3 := hb3.ext hx84
    replace hb2 := hb2.ext hx84
    replace s0 := s0.ext hx84
    replace E := E.trans hx84
    replace hp1_23 := hp1_23.ext hx84
    replace hp1_26 := hp1_26.ext hx84
    replace hp1_49 := hp1_49.ext hx84
    replace hp1_81 := hp1_81.ext hx84
    replace hp1_84 := hp1_84.fresh
    refine m1_pure rfl (y_move rfl) rfl ?_
    refine m1_pure rfl (y_extract rfl rfl) rfl ?_
    refine m1_any rfl (fun _ => y_extract rfl rfl) rfl ?_
    (refine m1_end (PA.mk_ok rfl rfl rfl) ?_; intro w14e hx14e hz14e b14 hb14 hlb14 hg14; simp only [Gaps, and_true] at hg14; have hu14 := hb14.lt)
    have hz_hx14e := hx14e.size
    replace hp1_70 := hp1_70.ext hx14e
    replace hp1_54 := hp1_54.ext hx14e
    replace hb9 := hb9.ext hx14e
    replace hb8 := hb8.ext hx14e
    replace hb6 := hb6.ext hx14e
    replace hb3 := hb3.ext hx14e
    replace hb2 := hb2.ext hx14e
    replace s0 := s0.ext hx14e
    replace E := E.trans hx14e
    replace hp1_23 := hp1_23.ext hx14e
    replace hp1_26 := hp1_26.ext hx14e
    replace hp1_49 := hp1_49.ext hx14e
    replace hp1_81 := hp1_81.ext hx14e
    replace hp1_84 := hp1_84.ext hx14e
    refine h_one rfl ?_
    refine w_store_boxs rfl rfl (next := fun ws250 hbs250 hxs250 hss250 => ?_)
    (replace hb14 := hbs250; clear hbs250)
    have hz_hxs250 := hxs250.size
    replace hp1_70 := hp1_70.chg hxs250 (by omega)
    replace hp1_54 := hp1_54.chg hxs250 (by omega)
    replace hb9 := hb9.chg hxs250 (by omega)
    replace hb8 := hb8.chg hxs250 (by omega)
    replace hb6 := hb6.chg hxs250 (by omega)
    replace hb3 := hb3.chg hxs250 (by omega)
    replace hb2 := hb2.chg hxs250 (by omega)
    replace s0 := s0.chg hxs250 (by omega)
    replace E := E.next hxs250 (by omega)
    replace hp1_23 := hp1_23.chg hxs250 (by omega)
    replace hp1_26 := hp1_26.chg hxs250 (by omega)
    replace hp1_49 := hp1_49.chg hxs250 (by omega)
    replace hp1_81 := hp1_81.chg hxs250 (by omega)
    replace hp1_84 := hp1_84.chg hxs250 (by omega)
    refine w_nil ?_
    refine x_heldk ?_
    refine h_pure rfl (y_assign rfl) rfl ?_
    refine h_nil ?_
    refine x_next ?_
    refine c_seq ?_
    refine c_seq ?_
    refine c_region ?_
    refine w_pure (y_load_boxs rfl) rfl ?_
    refine w_pure (y_load_boxs rfl) rfl ?_
    refine w_val rfl rfl rfl (eqBoard_c) rfl (fun w89 hx89 hz89 => ?_)
    have hz_hx89 := hx89.size
    replace hb14 := hb14.ext hx89
    replace hp1_70 := hp1_70.ext hx89
    replace hp1_54 := hp1_54.ext hx89
    replace hb9 := hb9.ext hx89
    replace hb8 := hb8.ext hx89
    replace hb6 := hb6.ext hx89
    replace hb3 := hb3.ext hx89
    replace hb2 := hb2.ext hx89
    replace s0 := s0.ext hx89
    replace E := E.trans hx89
    replace hp1_23 := hp1_23.ext hx89
    replace hp1_26 := hp1_26.ext hx89
    replace hp1_49 := hp1_49.ext hx89
    replace hp1_81 := hp1_81.ext hx89
    replace hp1_84 := hp1_84.ext hx89
    refine w_pure (y_not_dec rfl) rfl ?_
    refine w_pure (y_move rfl) rfl ?_
    (refine w_part_dec rfl rfl (fun hc92 => ?_) (fun hc92 => ?_) <;> try (first | exact absurd rfl hc92 | contradiction | exact Bool.noConfusion (show false = true from hc92.symm.trans (by assumption)) | exact Bool.noConfusion (show true = false from hc92.symm.trans (by assumption)) | (exfalso; omega) | (exfalso; simp only [*, Bool.not_true, Bool.not_false, reduceCtorEq] at hc92; done)))
    refine w_yes rfl rfl ?_
    refine w_pure (y_move rfl) rfl ?_
    refine w_yes rfl rfl ?_
    refine w_pure (y_move rfl) rfl ?_
    refine w_yes rfl rfl ?_
    refine w_pure (y_ne rfl rfl) rfl ?_
    refine w_pure (y_pick_f rfl rfl) rfl ?_
    refine w_nil ?_
    refine x_next ?_
    refine c_nsame rfl ?_
    refine c_skip ?_
    refine x_next ?_
    refine c_seq ?_
    refine c_region ?_
    refine w_pure (y_assign rfl) rfl ?_
    refine w_nil ?_
    refine x_next ?_
    refine c_seq ?_
    refine c_region ?_
    refine w_pure (y_load_boxs rfl) rfl ?_
    refine w_pure (y_move rfl) rfl ?_
    refine w_val rfl rfl rfl (heldBoard_c) rfl (fun w98 hx98 hz98 => ?_)
    have hz_hx98 := hx98.size
    replace hb14 := hb14.ext hx98
    replace hp1_70 := hp1_70.ext hx98
    replace hp1_54 := hp1_54.ext hx98
    replace hb9 := hb9.ext hx98
    replace hb8 := hb8.ext hx98
    replace hb6 := hb6.ext hx98
    replace hb3 := hb3.ext hx98
    replace hb2 := hb2.ext hx98
    replace s0 := s0.ext hx98
    replace E := E.trans hx98
    replace hp1_23 := hp1_23.ext hx98
    replace hp1_26 := hp1_26.ext hx98
    replace hp1_49 := hp1_49.ext hx98
    replace hp1_81 := hp1_81.ext hx98
    replace hp1_84 := hp1_84.ext hx98
    refine w_pure (y_assign rfl) rfl ?_
    refine w_nil ?_
    refine x_next ?_
    refine c_seq ?_
    refine c_seq ?_
    refine c_region ?_
    refine w_pure (y_move rfl) rfl ?_
    refine w_pure (y_lt rfl rfl) rfl ?_
    refine w_nil ?_
    refine x_next ?_
    refine c_false rfl ?_
    refine c_skip ?_
    refine x_next ?_
    refine c_seq ?_
    refine c_seq ?_
    refine c_region ?_
    refine w_pure (y_move rfl) rfl ?_
    refine w_pure (y_move rfl) rfl ?_
    refine w_pure (y_ne rfl rfl) rfl ?_
    refine w_nil ?_
    refine x_next ?_
    refine c_nsame rfl ?_
    refine c_skip ?_
    refine x_next ?_
    refine c_seq ?_
    refine c_region ?_
    refine w_pure (y_assign rfl) rfl ?_
    refine w_nil ?_
    refine x_next ?_
    refine c_ret ?_
    exact x_retv [_] rfl ⟨rfl, trivial⟩ ⟨rfl, E.go⟩
end
end Go.Proofs.Ytoknchhgjodpaaa

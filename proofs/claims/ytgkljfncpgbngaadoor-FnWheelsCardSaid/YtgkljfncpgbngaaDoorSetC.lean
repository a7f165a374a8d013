/- Contracts: a counter that is set. -/
import Derived.Test.YtgkljfncpgbngaaDoorTieA
import Derived.Test.YtgkljfncpgbngaaDoorCntK
namespace Go.Proofs.YtgkljfncpgbngaaDoor
open Go Go.Gw
set_option linter.unusedVariables false
set_option linter.unusedSimpArgs false
def cSet (k n : Int) : Int := if (1 ≤ k ∧ k ≤ 12) ∧ 0 ≤ n then (if n < 10 ^ k.toNat then 0 else 5) else 2
def resSet (k n : Int) : List Int := if cSet k n = 0 then digs k.toNat n else []
theorem cSet_2 {k n : Int} (h : ¬ ((1 ≤ k ∧ k ≤ 12) ∧ 0 ≤ n)) : cSet k n = 2 := by rw [cSet, if_neg h]
theorem cSet_5 {k n : Int} (h : (1 ≤ k ∧ k ≤ 12) ∧ 0 ≤ n) (h2 : ¬ n < 10 ^ k.toNat) : cSet k n = 5 := by rw [cSet, if_pos h, if_neg h2]
theorem cSet_0 {k n : Int} (h : (1 ≤ k ∧ k ≤ 12) ∧ 0 ≤ n) (h2 : n < 10 ^ k.toNat) : cSet k n = 0 := by rw [cSet, if_pos h, if_pos h2]
theorem resSet_len (k n : Int) : (resSet k n).length ≤ 12 := by
  unfold resSet; split
  · rename_i h
    rw [digs_len]
    by_cases h1 : (1 ≤ k ∧ k ≤ 12) ∧ 0 ≤ n
    · omega
    · rw [cSet_2 h1] at h; omega
  · simp
section
variable {w : World} {lo hi B : Nat} {v : Value} {xs : List Int}
theorem iSetCounter_c (k n : Int) (hT : Tab B w := by assumption) (hn : In64 n := by assumption) : Ret Tryd.prog 39 [.int .i64 k, .int .i64 n] w fun u w' => ∃ d, u = .tuple #[.agg #[d], .int .i64 (cSet k n)] ∧ Own w' 2 w.heap.size d (resSet k n) ∧ Ext w w' := by
  have E : Since 0 0 w w := Since.refl 0 0 w
  by_cases hk : (1 ≤ k ∧ k ≤ 12) ∧ 0 ≤ n
  · have hd := nDig_le (n := n) (k := k) hk.2 hk.1.1
    by_cases hk2 : n < 10 ^ k.toNat
    · refine ret_enter Tryd.func39 rfl Tryd.ntmps39 rfl ?_
      focus
        have ht_hT := hT.top
        refine c_seq ?_
        refine c_region ?_
        refine w_alloc (k := fun b4 w4 hb4 hx4 hl4 hs4 => ?_)
        have hz_hx4 := hx4.size
        replace hT := hT.ext hx4
        replace E := E.trans hx4
        refine w_pure (y_assign rfl) rfl ?_
        refine w_nil ?_
        refine x_next ?_
        refine c_seq ?_
        refine c_block ?_
        refine c_seq ?_
        refine c_region ?_
        refine w_pure (y_move rfl) rfl ?_
        refine w_pur rfl rfl rfl (inside_c _ _ _) rfl ?_
        refine w_pure (y_not_dec rfl) rfl ?_
        refine w_pure (y_move rfl) rfl ?_
        (refine w_part_dec rfl rfl (fun hc11 => ?_) (fun hc11 => ?_) <;> try (first | exact absurd rfl hc11 | contradiction | exact Bool.noConfusion (show false = true from hc11.symm.trans (by assumption)) | exact Bool.noConfusion (show true = false from hc11.symm.trans (by assumption)) | (exfalso; omega) | (exfalso; simp only [*, Bool.not_true, Bool.not_false, reduceCtorEq] at hc11; done)))
        refine w_yes rfl rfl ?_
        refine w_pure (y_move rfl) rfl ?_
        refine w_yes rfl rfl ?_
        refine w_pure (y_lt rfl rfl) rfl ?_
        refine w_pure (y_pick_f rfl rfl) rfl ?_
        refine w_pure (y_assign rfl) rfl ?_
        refine w_nil ?_
        refine x_next ?_
        (refine c_dec rfl (fun hc6 => ?_) (fun hc6 => ?_) <;> try (first | exact absurd rfl hc6 | contradiction | exact Bool.noConfusion (show false = true from hc6.symm.trans (by assumption)) | exact Bool.noConfusion (show true = false from hc6.symm.trans (by assumption)) | (exfalso; omega) | (exfalso; simp only [*, Bool.not_true, Bool.not_false, reduceCtorEq] at hc6; done)))
        refine c_seq ?_
        refine c_region ?_
        refine w_pure (y_move rfl) rfl ?_
        refine w_val rfl rfl rfl (digitsOf_c _) rfl (fun w17 hx17 hz17 => ?_)
        have hz_hx17 := hx17.size
        replace hb4 := hb4.ext hx17
        replace hT := hT.ext hx17
        replace E := E.trans hx17
        refine w_pure (y_move rfl) rfl ?_
        refine w_pure (y_gt rfl rfl) rfl ?_
        refine w_pure (y_assign rfl) rfl ?_
        refine w_nil ?_
        refine x_next ?_
        (refine c_dec rfl (fun hc15 => ?_) (fun hc15 => ?_) <;> try (first | exact absurd rfl hc15 | contradiction | exact Bool.noConfusion (show false = true from hc15.symm.trans (by assumption)) | exact Bool.noConfusion (show true = false from hc15.symm.trans (by assumption)) | (exfalso; omega) | (exfalso; simp only [*, Bool.not_true, Bool.not_false, reduceCtorEq] at hc15; done)))
        refine c_skip ?_
        refine x_block_norm ?_
        refine x_next ?_
        refine c_seq ?_
        refine c_region ?_
        refine w_pure (y_move rfl) rfl ?_
        refine w_pure (y_move rfl) rfl ?_
        (refine w_call rfl rfl rfl (wheelsShow_c k n _ ⟨by omega, by omega⟩ (by omega) (by omega)) rfl ?_; rintro _ w23 ⟨d23, ⟨rfl, ⟨hp1_23, hx23⟩⟩⟩)
        have hl_hp1_23 := hp1_23.lt
        have hz_hx23 := hx23.size
        replace hb4 := hb4.ext hx23
        replace hT := hT.ext hx23
        replace E := E.trans hx23
        refine w_store_boxs rfl rfl (next := fun ws43 hbs43 hxs43 hss43 => ?_)
        (replace hb4 := hbs43; clear hbs43)
        have hz_hxs43 := hxs43.size
        replace hp1_23 := hp1_23.chg hxs43 (by omega)
        replace hT := hT.chg hxs43 (by omega)
        replace E := E.next hxs43 (by omega)
        refine w_pure (y_assign rfl) rfl ?_
        refine w_nil ?_
        refine x_next ?_
        refine c_ret ?_
        rotate_left
      refine x_retv [_, _] rfl ⟨⟨_, rfl, run_load_str (Box.at (by assumption)) (by rfl)⟩, rfl, trivial⟩ ⟨_, by rw [cSet_0 hk hk2]; rfl, ?_, E.go⟩
      rw [resSet, if_pos (cSet_0 hk hk2)]
      exact Own.base (by assumption) (by omega)
    · refine ret_enter Tryd.func39 rfl Tryd.ntmps39 rfl ?_
      focus
        have ht_hT := hT.top
        refine c_seq ?_
        refine c_region ?_
        refine w_alloc (k := fun b4 w4 hb4 hx4 hl4 hs4 => ?_)
        have hz_hx4 := hx4.size
        replace hT := hT.ext hx4
        replace E := E.trans hx4
        refine w_pure (y_assign rfl) rfl ?_
        refine w_nil ?_
        refine x_next ?_
        refine c_seq ?_
        refine c_block ?_
        refine c_seq ?_
        refine c_region ?_
        refine w_pure (y_move rfl) rfl ?_
        refine w_pur rfl rfl rfl (inside_c _ _ _) rfl ?_
        refine w_pure (y_not_dec rfl) rfl ?_
        refine w_pure (y_move rfl) rfl ?_
        (refine w_part_dec rfl rfl (fun hc11 => ?_) (fun hc11 => ?_) <;> try (first | exact absurd rfl hc11 | contradiction | exact Bool.noConfusion (show false = true from hc11.symm.trans (by assumption)) | exact Bool.noConfusion (show true = false from hc11.symm.trans (by assumption)) | (exfalso; omega) | (exfalso; simp only [*, Bool.not_true, Bool.not_false, reduceCtorEq] at hc11; done)))
        refine w_yes rfl rfl ?_
        refine w_pure (y_move rfl) rfl ?_
        refine w_yes rfl rfl ?_
        refine w_pure (y_lt rfl rfl) rfl ?_
        refine w_pure (y_pick_f rfl rfl) rfl ?_
        refine w_pure (y_assign rfl) rfl ?_
        refine w_nil ?_
        refine x_next ?_
        (refine c_dec rfl (fun hc6 => ?_) (fun hc6 => ?_) <;> try (first | exact absurd rfl hc6 | contradiction | exact Bool.noConfusion (show false = true from hc6.symm.trans (by assumption)) | exact Bool.noConfusion (show true = false from hc6.symm.trans (by assumption)) | (exfalso; omega) | (exfalso; simp only [*, Bool.not_true, Bool.not_false, reduceCtorEq] at hc6; done)))
        refine c_seq ?_
        refine c_region ?_
        refine w_pure (y_move rfl) rfl ?_
        refine w_val rfl rfl rfl (digitsOf_c _) rfl (fun w17 hx17 hz17 => ?_)
        have hz_hx17 := hx17.size
        replace hb4 := hb4.ext hx17
        replace hT := hT.ext hx17
        replace E := E.trans hx17
        refine w_pure (y_move rfl) rfl ?_
        refine w_pure (y_gt rfl rfl) rfl ?_
        refine w_pure (y_assign rfl) rfl ?_
        refine w_nil ?_
        refine x_next ?_
        (refine c_dec rfl (fun hc15 => ?_) (fun hc15 => ?_) <;> try (first | exact absurd rfl hc15 | contradiction | exact Bool.noConfusion (show false = true from hc15.symm.trans (by assumption)) | exact Bool.noConfusion (show true = false from hc15.symm.trans (by assumption)) | (exfalso; omega) | (exfalso; simp only [*, Bool.not_true, Bool.not_false, reduceCtorEq] at hc15; done)))
        refine c_seq ?_
        refine c_region ?_
        refine w_pure (y_build rfl) rfl ?_
        refine w_store_boxs rfl rfl (next := fun ws38 hbs38 hxs38 hss38 => ?_)
        (replace hb4 := hbs38; clear hbs38)
        have hz_hxs38 := hxs38.size
        replace hT := hT.chg hxs38 (by omega)
        replace E := E.next hxs38 (by omega)
        refine w_pure (y_assign rfl) rfl ?_
        refine w_nil ?_
        refine x_next ?_
        refine c_ret ?_
        refine x_block_ret ?_
        refine x_then_ret ?_
        rotate_left
      refine x_retv [_, _] rfl ⟨⟨_, rfl, run_load_str (Box.at (by assumption)) (by rfl)⟩, rfl, trivial⟩ ⟨_, by rw [cSet_5 hk hk2]; rfl, ?_, E.go⟩
      rw [resSet, if_neg (by rw [cSet_5 hk hk2]; decide)]
      exact Own.nil _ _ _
  · refine ret_enter Tryd.func39 rfl Tryd.ntmps39 rfl ?_
    focus
      have ht_hT := hT.top
      refine c_seq ?_
      refine c_region ?_
      refine w_alloc (k := fun b4 w4 hb4 hx4 hl4 hs4 => ?_)
      have hz_hx4 := hx4.size
      replace hT := hT.ext hx4
      replace E := E.trans hx4
      refine w_pure (y_assign rfl) rfl ?_
      refine w_nil ?_
      refine x_next ?_
      refine c_seq ?_
      refine c_block ?_
      refine c_seq ?_
      refine c_region ?_
      refine w_pure (y_move rfl) rfl ?_
      refine w_pur rfl rfl rfl (inside_c _ _ _) rfl ?_
      refine w_pure (y_not_dec rfl) rfl ?_
      refine w_pure (y_move rfl) rfl ?_
      (refine w_part_dec rfl rfl (fun hc11 => ?_) (fun hc11 => ?_) <;> try (first | exact absurd rfl hc11 | contradiction | exact Bool.noConfusion (show false = true from hc11.symm.trans (by assumption)) | exact Bool.noConfusion (show true = false from hc11.symm.trans (by assumption)) | (exfalso; omega) | (exfalso; simp only [*, Bool.not_true, Bool.not_false, reduceCtorEq] at hc11; done)))
      refine w_no rfl rfl rfl rfl ?_
      refine w_no rfl rfl rfl rfl ?_
      refine w_pure (y_pick_t rfl rfl) rfl ?_
      refine w_pure (y_assign rfl) rfl ?_
      refine w_nil ?_
      refine x_next ?_
      refine c_true rfl ?_
      refine c_seq ?_
      refine c_region ?_
      refine w_pure (y_build rfl) rfl ?_
      refine w_store_boxs rfl rfl (next := fun ws26 hbs26 hxs26 hss26 => ?_)
      (replace hb4 := hbs26; clear hbs26)
      have hz_hxs26 := hxs26.size
      replace hT := hT.chg hxs26 (by omega)
      replace E := E.next hxs26 (by omega)
      refine w_pure (y_assign rfl) rfl ?_
      refine w_nil ?_
      refine x_next ?_
      refine c_ret ?_
      refine x_block_ret ?_
      refine x_then_ret ?_
      rotate_left
      refine w_yes rfl rfl ?_
      refine w_pure (y_move rfl) rfl ?_
      refine w_yes rfl rfl ?_
      refine w_pure (y_lt rfl rfl) rfl ?_
      refine w_pure (y_pick_f rfl rfl) rfl ?_
      refine w_pure (y_assign rfl) rfl ?_
      refine w_nil ?_
      refine x_next ?_
      (refine c_dec rfl (fun hc6 => ?_) (fun hc6 => ?_) <;> try (first | exact absurd rfl hc6 | contradiction | exact Bool.noConfusion (show false = true from hc6.symm.trans (by assumption)) | exact Bool.noConfusion (show true = false from hc6.symm.trans (by assumption)) | (exfalso; omega) | (exfalso; simp only [*, Bool.not_true, Bool.not_false, reduceCtorEq] at hc6; done)))
      refine c_seq ?_
      refine c_region ?_
      refine w_pure (y_build rfl) rfl ?_
      refine w_store_boxs rfl rfl (next := fun ws46 hbs46 hxs46 hss46 => ?_)
      (replace hb4 := hbs46; clear hbs46)
      have hz_hxs46 := hxs46.size
      replace hT := hT.chg hxs46 (by omega)
      replace E := E.next hxs46 (by omega)
      refine w_pure (y_assign rfl) rfl ?_
      refine w_nil ?_
      refine x_next ?_
      refine c_ret ?_
      refine x_block_ret ?_
      refine x_then_ret ?_
      rotate_left
    all_goals (
      refine x_retv [_, _] rfl ⟨⟨_, rfl, run_load_str (Box.at (by assumption)) (by rfl)⟩, rfl, trivial⟩ ⟨_, by rw [cSet_2 hk]; rfl, ?_, E.go⟩
      rw [resSet, if_neg (by rw [cSet_2 hk]; decide)]
      exact Own.nil _ _ _
    )
theorem sSetCounter_c (k n : Int) (hn : In64 n := by assumption) : Ret Tryd.prog 40 [.int .i64 k, .int .i64 n] w fun u w' => ∃ d, u = .tuple #[.agg #[d], .int .i64 (cSet k n)] ∧ Own w' 2 w.heap.size d (resSet k n) ∧ Ext w w' := by
  have E : Since 0 0 w w := Since.refl 0 0 w
  by_cases hk : (1 ≤ k ∧ k ≤ 12) ∧ 0 ≤ n
  · by_cases hk2 : n < 10 ^ k.toNat
    · refine ret_enter Tryd.func40 rfl Tryd.ntmps40 rfl ?_
      focus
        refine c_seq ?_
        refine c_region ?_
        refine w_alloc (k := fun b4 w4 hb4 hx4 hl4 hs4 => ?_)
        have hz_hx4 := hx4.size
        replace E := E.trans hx4
        refine w_pure (y_assign rfl) rfl ?_
        refine w_nil ?_
        refine x_next ?_
        refine c_seq ?_
        refine c_seq ?_
        refine c_region ?_
        refine w_pure (y_move rfl) rfl ?_
        refine w_pur rfl rfl rfl (l00In_c _ _ _) rfl ?_
        refine w_pure (y_not_dec rfl) rfl ?_
        refine w_pure (y_move rfl) rfl ?_
        (refine w_part_dec rfl rfl (fun hc10 => ?_) (fun hc10 => ?_) <;> try (first | exact absurd rfl hc10 | contradiction | exact Bool.noConfusion (show false = true from hc10.symm.trans (by assumption)) | exact Bool.noConfusion (show true = false from hc10.symm.trans (by assumption)) | (exfalso; omega) | (exfalso; simp only [*, Bool.not_true, Bool.not_false, reduceCtorEq] at hc10; done)))
        refine w_yes rfl rfl ?_
        refine w_pure (y_move rfl) rfl ?_
        refine w_yes rfl rfl ?_
        refine w_pure (y_lt rfl rfl) rfl ?_
        refine w_pure (y_pick_f rfl rfl) rfl ?_
        refine w_nil ?_
        refine x_next ?_
        (refine c_dec rfl (fun hc12 => ?_) (fun hc12 => ?_) <;> try (first | exact absurd rfl hc12 | contradiction | exact Bool.noConfusion (show false = true from hc12.symm.trans (by assumption)) | exact Bool.noConfusion (show true = false from hc12.symm.trans (by assumption)) | (exfalso; omega) | (exfalso; simp only [*, Bool.not_true, Bool.not_false, reduceCtorEq] at hc12; done)))
        refine c_skip ?_
        refine x_next ?_
        refine c_seq ?_
        refine c_seq ?_
        refine c_region ?_
        refine w_pure (y_move rfl) rfl ?_
        refine w_pure (y_move rfl) rfl ?_
        refine w_pur rfl rfl rfl (l11Power_c _ (by omega) (by omega)) rfl ?_
        refine w_pure (y_ge rfl rfl) rfl ?_
        refine w_nil ?_
        refine x_next ?_
        (refine c_dec rfl (fun hc17 => ?_) (fun hc17 => ?_) <;> try (first | exact absurd rfl hc17 | contradiction | exact Bool.noConfusion (show false = true from hc17.symm.trans (by assumption)) | exact Bool.noConfusion (show true = false from hc17.symm.trans (by assumption)) | (exfalso; omega) | (exfalso; simp only [*, Bool.not_true, Bool.not_false, reduceCtorEq] at hc17; done)))
        refine c_skip ?_
        refine x_next ?_
        refine c_seq ?_
        refine c_region ?_
        refine w_pure (y_move rfl) rfl ?_
        refine w_pure (y_move rfl) rfl ?_
        (refine w_call rfl rfl rfl (l11Set_c _ _ (by omega) (by omega) (by omega)) rfl ?_; rintro _ w21 ⟨d21, ⟨rfl, ⟨hp1_21, hx21⟩⟩⟩)
        have hl_hp1_21 := hp1_21.lt
        have hz_hx21 := hx21.size
        replace hb4 := hb4.ext hx21
        replace E := E.trans hx21
        refine w_store_boxs rfl rfl (next := fun ws42 hbs42 hxs42 hss42 => ?_)
        (replace hb4 := hbs42; clear hbs42)
        have hz_hxs42 := hxs42.size
        replace hp1_21 := hp1_21.chg hxs42 (by omega)
        replace E := E.next hxs42 (by omega)
        refine w_pure (y_assign rfl) rfl ?_
        refine w_nil ?_
        refine x_next ?_
        refine c_ret ?_
        rotate_left
      refine x_retv [_, _] rfl ⟨⟨_, rfl, run_load_str (Box.at (by assumption)) (by rfl)⟩, rfl, trivial⟩ ⟨_, by rw [cSet_0 hk hk2]; rfl, ?_, E.go⟩
      rw [resSet, if_pos (cSet_0 hk hk2)]
      exact Own.base (by assumption) (by omega)
    · refine ret_enter Tryd.func40 rfl Tryd.ntmps40 rfl ?_
      focus
        refine c_seq ?_
        refine c_region ?_
        refine w_alloc (k := fun b4 w4 hb4 hx4 hl4 hs4 => ?_)
        have hz_hx4 := hx4.size
        replace E := E.trans hx4
        refine w_pure (y_assign rfl) rfl ?_
        refine w_nil ?_
        refine x_next ?_
        refine c_seq ?_
        refine c_seq ?_
        refine c_region ?_
        refine w_pure (y_move rfl) rfl ?_
        refine w_pur rfl rfl rfl (l00In_c _ _ _) rfl ?_
        refine w_pure (y_not_dec rfl) rfl ?_
        refine w_pure (y_move rfl) rfl ?_
        (refine w_part_dec rfl rfl (fun hc10 => ?_) (fun hc10 => ?_) <;> try (first | exact absurd rfl hc10 | contradiction | exact Bool.noConfusion (show false = true from hc10.symm.trans (by assumption)) | exact Bool.noConfusion (show true = false from hc10.symm.trans (by assumption)) | (exfalso; omega) | (exfalso; simp only [*, Bool.not_true, Bool.not_false, reduceCtorEq] at hc10; done)))
        refine w_yes rfl rfl ?_
        refine w_pure (y_move rfl) rfl ?_
        refine w_yes rfl rfl ?_
        refine w_pure (y_lt rfl rfl) rfl ?_
        refine w_pure (y_pick_f rfl rfl) rfl ?_
        refine w_nil ?_
        refine x_next ?_
        (refine c_dec rfl (fun hc12 => ?_) (fun hc12 => ?_) <;> try (first | exact absurd rfl hc12 | contradiction | exact Bool.noConfusion (show false = true from hc12.symm.trans (by assumption)) | exact Bool.noConfusion (show true = false from hc12.symm.trans (by assumption)) | (exfalso; omega) | (exfalso; simp only [*, Bool.not_true, Bool.not_false, reduceCtorEq] at hc12; done)))
        refine c_skip ?_
        refine x_next ?_
        refine c_seq ?_
        refine c_seq ?_
        refine c_region ?_
        refine w_pure (y_move rfl) rfl ?_
        refine w_pure (y_move rfl) rfl ?_
        refine w_pur rfl rfl rfl (l11Power_c _ (by omega) (by omega)) rfl ?_
        refine w_pure (y_ge rfl rfl) rfl ?_
        refine w_nil ?_
        refine x_next ?_
        (refine c_dec rfl (fun hc17 => ?_) (fun hc17 => ?_) <;> try (first | exact absurd rfl hc17 | contradiction | exact Bool.noConfusion (show false = true from hc17.symm.trans (by assumption)) | exact Bool.noConfusion (show true = false from hc17.symm.trans (by assumption)) | (exfalso; omega) | (exfalso; simp only [*, Bool.not_true, Bool.not_false, reduceCtorEq] at hc17; done)))
        refine c_seq ?_
        refine c_region ?_
        refine w_pure (y_build rfl) rfl ?_
        refine w_store_boxs rfl rfl (next := fun ws38 hbs38 hxs38 hss38 => ?_)
        (replace hb4 := hbs38; clear hbs38)
        have hz_hxs38 := hxs38.size
        replace E := E.next hxs38 (by omega)
        refine w_pure (y_assign rfl) rfl ?_
        refine w_nil ?_
        refine x_next ?_
        refine c_ret ?_
        refine x_then_ret ?_
        rotate_left
      refine x_retv [_, _] rfl ⟨⟨_, rfl, run_load_str (Box.at (by assumption)) (by rfl)⟩, rfl, trivial⟩ ⟨_, by rw [cSet_5 hk hk2]; rfl, ?_, E.go⟩
      rw [resSet, if_neg (by rw [cSet_5 hk hk2]; decide)]
      exact Own.nil _ _ _
  · refine ret_enter Tryd.func40 rfl Tryd.ntmps40 rfl ?_
    focus
      refine c_seq ?_
      refine c_region ?_
      refine w_alloc (k := fun b4 w4 hb4 hx4 hl4 hs4 => ?_)
      have hz_hx4 := hx4.size
      replace E := E.trans hx4
      refine w_pure (y_assign rfl) rfl ?_
      refine w_nil ?_
      refine x_next ?_
      refine c_seq ?_
      refine c_seq ?_
      refine c_region ?_
      refine w_pure (y_move rfl) rfl ?_
      refine w_pur rfl rfl rfl (l00In_c _ _ _) rfl ?_
      refine w_pure (y_not_dec rfl) rfl ?_
      refine w_pure (y_move rfl) rfl ?_
      (refine w_part_dec rfl rfl (fun hc10 => ?_) (fun hc10 => ?_) <;> try (first | exact absurd rfl hc10 | contradiction | exact Bool.noConfusion (show false = true from hc10.symm.trans (by assumption)) | exact Bool.noConfusion (show true = false from hc10.symm.trans (by assumption)) | (exfalso; omega) | (exfalso; simp only [*, Bool.not_true, Bool.not_false, reduceCtorEq] at hc10; done)))
      refine w_no rfl rfl rfl rfl ?_
      refine w_no rfl rfl rfl rfl ?_
      refine w_pure (y_pick_t rfl rfl) rfl ?_
      refine w_nil ?_
      refine x_next ?_
      refine c_true rfl ?_
      refine c_seq ?_
      refine c_region ?_
      refine w_pure (y_build rfl) rfl ?_
      refine w_store_boxs rfl rfl (next := fun ws24 hbs24 hxs24 hss24 => ?_)
      (replace hb4 := hbs24; clear hbs24)
      have hz_hxs24 := hxs24.size
      replace E := E.next hxs24 (by omega)
      refine w_pure (y_assign rfl) rfl ?_
      refine w_nil ?_
      refine x_next ?_
      refine c_ret ?_
      refine x_then_ret ?_
      rotate_left
      refine w_yes rfl rfl ?_
      refine w_pure (y_move rfl) rfl ?_
      refine w_yes rfl rfl ?_
      refine w_pure (y_lt rfl rfl) rfl ?_
      refine w_pure (y_pick_f rfl rfl) rfl ?_
      refine w_nil ?_
      refine x_next ?_
      (refine c_dec rfl (fun hc12 => ?_) (fun hc12 => ?_) <;> try (first | exact absurd rfl hc12 | contradiction | exact Bool.noConfusion (show false = true from hc12.symm.trans (by assumption)) | exact Bool.noConfusion (show true = false from hc12.symm.trans (by assumption)) | (exfalso; omega) | (exfalso; simp only [*, Bool.not_true, Bool.not_false, reduceCtorEq] at hc12; done)))
      refine c_seq ?_
      refine c_region ?_
      refine w_pure (y_build rfl) rfl ?_
      refine w_store_boxs rfl rfl (next := fun ws42 hbs42 hxs42 hss42 => ?_)
      (replace hb4 := hbs42; clear hbs42)
      have hz_hxs42 := hxs42.size
      replace E := E.next hxs42 (by omega)
      refine w_pure (y_assign rfl) rfl ?_
      refine w_nil ?_
      refine x_next ?_
      refine c_ret ?_
      refine x_then_ret ?_
      rotate_left
    all_goals (
      refine x_retv [_, _] rfl ⟨⟨_, rfl, run_load_str (Box.at (by assumption)) (by rfl)⟩, rfl, trivial⟩ ⟨_, by rw [cSet_2 hk]; rfl, ?_, E.go⟩
      rw [resSet, if_neg (by rw [cSet_2 hk]; decide)]
      exact Own.nil _ _ _
    )
end
end Go.Proofs.YtgkljfncpgbngaaDoor

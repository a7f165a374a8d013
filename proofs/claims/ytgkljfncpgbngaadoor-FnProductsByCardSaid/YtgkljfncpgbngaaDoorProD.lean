/- The walk of the law on products, quotients, turns and halves. -/
import Derived.Test.YtgkljfncpgbngaaDoorProC
namespace Go.Proofs.YtgkljfncpgbngaaDoor
open Go Go.Gw
set_option linter.unusedVariables false
set_option linter.unusedSimpArgs false
theorem quo_fact (a e : Int) : cQuo a e = 0 → (orZ (cQuo a e) (a.tdiv e) * e + orZ (cQuo a e) (a.tmod e) = a) ∧ (-2000000000000 ≤ orZ (cQuo a e) (a.tdiv e) * e ∧ orZ (cQuo a e) (a.tdiv e) * e ≤ 2000000000000) ∧ (-1000000 ≤ orZ (cQuo a e) (a.tmod e) ∧ orZ (cQuo a e) (a.tmod e) ≤ 1000000) ∧ max (orZ (cQuo a e) (a.tmod e)) (-(orZ (cQuo a e) (a.tmod e))) < max e (-e) ∧ (-999999 ≤ e ∧ e ≤ 999999) ∧ 1 ≤ orZ (cQuo a e) (turnQ (a.tdiv e)) := fun h => by
  rw [h]
  simp only [orZ, if_true]
  unfold cQuo at h
  split at h
  · rename_i g
    split at h
    · cases h
    · rename_i he
      have h1 := quot_law (d := a) he
      have h2 := tdiv_bd (a := a) (b := e) g.1 he
      have h3 := turnQ_bd (q := a.tdiv e) h2
      omega
  · cases h
theorem prd_fact (a b : Int) : cPrd a b = 0 → orZ (cPrd a b) (a * b) = a * b ∧ (1 ≤ orZ (cPrd a b) (cyc b) ∧ orZ (cPrd a b) (cyc b) ≤ 7) ∧ (-1000000000000 ≤ a * b ∧ a * b ≤ 1000000000000) := fun h => by
  rw [h]
  simp only [orZ, if_true]
  unfold cPrd at h
  split at h
  · rename_i g
    have h1 := nzTo_bd (dlist b) (dlist b).length
    have h6 : (10 : Int) ^ (6 : Int).toNat = 1000000 := by decide
    have h2 : nDig (absI b) ≤ 6 := (nDig_le (n := absI b) (k := 6) (by unfold absI; omega) (by omega)).2 (by rw [h6]; unfold absI; omega)
    have h3 := dlist_len b
    have h4 := mulB (a := absI a) (b := absI b) (A := 999999) (B := 999999) (by unfold absI; omega) (by unfold absI; omega)
    have h5 := abs_mul a b
    refine ⟨trivial, ?_, ?_⟩
    · unfold cyc; omega
    · by_cases hs : decide (a < 0) = decide (b < 0)
      · have := h5.2 hs; omega
      · have := h5.1 hs; omega
  · cases h
theorem haf_fact (n q : Int) : (hafR n q).2 = 0 → (-999999999999 ≤ n ∧ n ≤ 999999999999) ∧ (0 ≤ q ∧ q ≤ 12) ∧ (hafR n q).1 = halfV n (10 ^ q.toNat) := fun h => by
  unfold hafR at h ⊢
  split at h
  · rename_i g; rw [if_pos g]; exact ⟨⟨g.1, g.2.1⟩, g.2.2, rfl⟩
  · cases h
section
set_option maxHeartbeats 4000000 in
theorem lFnProductsBy (w0 : World) (hT : Tab w0.heap.size w0) (x0 : { x : OBy // x.ok w0 }) : Ret Tryd.prog 3 [x0.1.v] w0 fun u w' => u = .bool true ∧ Ext w0 w' := by
  obtain ⟨⟨v0, p0⟩, ⟨h0⟩⟩ := x0
  show Ret _ _ [v0] w0 _
  dsimp only at h0
  have E : Since 0 0 w0 w0 := Since.refl 0 0 w0
  refine ret_enter Tryd.func3 rfl Tryd.ntmps3 rfl ?_
  focus
    have ht_hT := hT.top
    have ht_h0 := h0.top
    refine c_seq ?_
    refine c_region ?_
    refine w_pure (y_assign rfl) rfl ?_
    refine w_nil ?_
    refine x_next ?_
    refine c_seq ?_
    refine c_seq ?_
    refine c_region ?_
    refine w_pure (y_move rfl) rfl ?_
    (refine w_call rfl rfl rfl (f6bigP_c) rfl ?_; rintro _ w54 ⟨z54, ⟨rfl, hx54⟩⟩)
    have hz_hx54 := hx54.size
    replace hT := hT.ext hx54
    replace h0 := h0.ext hx54
    replace E := E.trans hx54
    refine w_nil ?_
    refine x_next ?_
    (refine c_if rfl (fun hc54 => ?_) (fun hc54 => ?_) <;> try (first | exact absurd rfl hc54 | contradiction | exact Bool.noConfusion (show false = true from hc54.symm.trans (by assumption)) | exact Bool.noConfusion (show true = false from hc54.symm.trans (by assumption)) | (exfalso; omega) | (exfalso; simp only [*, Bool.not_true, Bool.not_false, reduceCtorEq] at hc54; done)))
    refine c_seq ?_
    refine c_region ?_
    refine w_pure (y_assign rfl) rfl ?_
    refine w_nil ?_
    refine x_next ?_
    refine c_ret ?_
    refine x_then_ret ?_
    rotate_left
    refine c_skip ?_
    refine x_next ?_
    refine c_seq ?_
    refine c_region ?_
    refine w_pure (y_move rfl) rfl ?_
    (refine w_call rfl rfl rfl (DrawProductBy_c) rfl ?_; rintro _ w57 ⟨a57, ⟨e57, ⟨rfl, ⟨⟨hp1_57, hp2_57⟩, ⟨⟨hp3_57, hp4_57⟩, hx57⟩⟩⟩⟩⟩)
    have hz_hx57 := hx57.size
    replace hT := hT.ext hx57
    replace h0 := h0.ext hx57
    replace E := E.trans hx57
    refine w_pure (y_move rfl) rfl ?_
    refine w_pure (y_extract rfl rfl) rfl ?_
    refine w_pure (y_extract rfl rfl) rfl ?_
    refine w_pure (y_assign rfl) rfl ?_
    refine w_pure (y_assign rfl) rfl ?_
    refine w_nil ?_
    refine x_next ?_
    refine c_seq ?_
    refine c_region ?_
    refine w_pure (y_move rfl) rfl ?_
    refine w_pure (y_move rfl) rfl ?_
    refine w_val rfl rfl rfl (iProductBy_c _ _) rfl (fun w63 hx63 hz63 => ?_)
    have hz_hx63 := hx63.size
    replace hT := hT.ext hx63
    replace h0 := h0.ext hx63
    replace E := E.trans hx63
    refine w_pure (y_move rfl) rfl ?_
    refine w_pure (y_extract rfl rfl) rfl ?_
    refine w_pure (y_extract rfl rfl) rfl ?_
    refine w_pure (y_extract rfl rfl) rfl ?_
    refine w_pure (y_assign rfl) rfl ?_
    refine w_pure (y_assign rfl) rfl ?_
    refine w_pure (y_assign rfl) rfl ?_
    refine w_nil ?_
    refine x_next ?_
    refine c_seq ?_
    refine c_region ?_
    refine w_pure (y_move rfl) rfl ?_
    refine w_pure (y_move rfl) rfl ?_
    refine w_pur rfl rfl rfl (sProductBy_c _ _) rfl ?_
    refine w_pure (y_move rfl) rfl ?_
    refine w_pure (y_extract rfl rfl) rfl ?_
    refine w_pure (y_extract rfl rfl) rfl ?_
    refine w_pure (y_extract rfl rfl) rfl ?_
    refine w_pure (y_assign rfl) rfl ?_
    refine w_pure (y_assign rfl) rfl ?_
    refine w_pure (y_assign rfl) rfl ?_
    refine w_nil ?_
    refine x_next ?_
    refine c_seq ?_
    refine c_region ?_
    refine w_pure (y_move rfl) rfl ?_
    (refine w_call rfl rfl rfl (DrawComponentsOf_c) rfl ?_; rintro _ w76 ⟨a76, ⟨e76, ⟨rfl, ⟨⟨hp1_76, hp2_76⟩, ⟨⟨hp3_76, hp4_76⟩, hx76⟩⟩⟩⟩⟩)
    have hz_hx76 := hx76.size
    replace hT := hT.ext hx76
    replace h0 := h0.ext hx76
    replace E := E.trans hx76
    refine w_pure (y_move rfl) rfl ?_
    refine w_pure (y_extract rfl rfl) rfl ?_
    refine w_pure (y_extract rfl rfl) rfl ?_
    refine w_pure (y_assign rfl) rfl ?_
    refine w_pure (y_assign rfl) rfl ?_
    refine w_nil ?_
    refine x_next ?_
    refine c_seq ?_
    refine c_region ?_
    refine w_pure (y_move rfl) rfl ?_
    refine w_pure (y_move rfl) rfl ?_
    refine w_pur rfl rfl rfl (iComponentsOf_z _ _) rfl ?_
    refine w_pure (y_move rfl) rfl ?_
    refine w_pure (y_extract rfl rfl) rfl ?_
    refine w_pure (y_extract rfl rfl) rfl ?_
    refine w_pure (y_extract rfl rfl) rfl ?_
    refine w_pure (y_assign rfl) rfl ?_
    refine w_pure (y_assign rfl) rfl ?_
    refine w_pure (y_assign rfl) rfl ?_
    refine w_nil ?_
    refine x_next ?_
    refine c_seq ?_
    refine c_region ?_
    refine w_pure (y_move rfl) rfl ?_
    refine w_pure (y_move rfl) rfl ?_
    refine w_pur rfl rfl rfl (sComponentsOf_z _ _) rfl ?_
    refine w_pure (y_move rfl) rfl ?_
    refine w_pure (y_extract rfl rfl) rfl ?_
    refine w_pure (y_extract rfl rfl) rfl ?_
    refine w_pure (y_extract rfl rfl) rfl ?_
    refine w_pure (y_assign rfl) rfl ?_
    refine w_pure (y_assign rfl) rfl ?_
    refine w_pure (y_assign rfl) rfl ?_
    refine w_nil ?_
    refine x_next ?_
    refine c_seq ?_
    refine c_region ?_
    refine w_pure (y_move rfl) rfl ?_
    (refine w_call rfl rfl rfl (DrawQuotientBy_c) rfl ?_; rintro _ w95 ⟨a95, ⟨e95, ⟨rfl, ⟨⟨hp1_95, hp2_95⟩, ⟨⟨hp3_95, hp4_95⟩, hx95⟩⟩⟩⟩⟩)
    have hz_hx95 := hx95.size
    replace hT := hT.ext hx95
    replace h0 := h0.ext hx95
    replace E := E.trans hx95
    refine w_pure (y_move rfl) rfl ?_
    refine w_pure (y_extract rfl rfl) rfl ?_
    refine w_pure (y_extract rfl rfl) rfl ?_
    refine w_pure (y_assign rfl) rfl ?_
    refine w_pure (y_assign rfl) rfl ?_
    refine w_nil ?_
    refine x_next ?_
    refine c_seq ?_
    refine c_region ?_
    refine w_pure (y_move rfl) rfl ?_
    refine w_pure (y_move rfl) rfl ?_
    refine w_val rfl rfl rfl (iQuotientBy_c _ _) rfl (fun w101 hx101 hz101 => ?_)
    have hz_hx101 := hx101.size
    replace hT := hT.ext hx101
    replace h0 := h0.ext hx101
    replace E := E.trans hx101
    refine w_pure (y_move rfl) rfl ?_
    refine w_pure (y_extract rfl rfl) rfl ?_
    refine w_pure (y_extract rfl rfl) rfl ?_
    refine w_pure (y_extract rfl rfl) rfl ?_
    refine w_pure (y_extract rfl rfl) rfl ?_
    refine w_pure (y_assign rfl) rfl ?_
    refine w_pure (y_assign rfl) rfl ?_
    refine w_pure (y_assign rfl) rfl ?_
    refine w_pure (y_assign rfl) rfl ?_
    refine w_nil ?_
    refine x_next ?_
    refine c_seq ?_
    refine c_region ?_
    refine w_pure (y_move rfl) rfl ?_
    refine w_pure (y_move rfl) rfl ?_
    refine w_pur rfl rfl rfl (sQuotientBy_c _ _) rfl ?_
    refine w_pure (y_move rfl) rfl ?_
    refine w_pure (y_extract rfl rfl) rfl ?_
    refine w_pure (y_extract rfl rfl) rfl ?_
    refine w_pure (y_extract rfl rfl) rfl ?_
    refine w_pure (y_extract rfl rfl) rfl ?_
    refine w_pure (y_assign rfl) rfl ?_
    refine w_pure (y_assign rfl) rfl ?_
    refine w_pure (y_assign rfl) rfl ?_
    refine w_pure (y_assign rfl) rfl ?_
    refine w_nil ?_
    refine x_next ?_
    refine c_seq ?_
    refine c_region ?_
    refine w_pure (y_move rfl) rfl ?_
    (refine w_call rfl rfl rfl (DrawTurnsFor_c) rfl ?_; rintro _ w115 ⟨a115, ⟨rfl, ⟨⟨hp1_115, hp2_115⟩, hx115⟩⟩⟩)
    have hz_hx115 := hx115.size
    replace hT := hT.ext hx115
    replace h0 := h0.ext hx115
    replace E := E.trans hx115
    refine w_pure (y_assign rfl) rfl ?_
    refine w_nil ?_
    refine x_next ?_
    refine c_seq ?_
    refine c_region ?_
    refine w_pure (y_move rfl) rfl ?_
    refine w_val rfl rfl rfl (iTurnsFor_c _) rfl (fun w118 hx118 hz118 => ?_)
    have hz_hx118 := hx118.size
    replace hT := hT.ext hx118
    replace h0 := h0.ext hx118
    replace E := E.trans hx118
    refine w_pure (y_move rfl) rfl ?_
    refine w_pure (y_extract rfl rfl) rfl ?_
    refine w_pure (y_extract rfl rfl) rfl ?_
    refine w_pure (y_assign rfl) rfl ?_
    refine w_pure (y_assign rfl) rfl ?_
    refine w_nil ?_
    refine x_next ?_
    refine c_seq ?_
    refine c_region ?_
    refine w_pure (y_move rfl) rfl ?_
    refine w_pur rfl rfl rfl (sTurnsFor_c _) rfl ?_
    refine w_pure (y_move rfl) rfl ?_
    refine w_pure (y_extract rfl rfl) rfl ?_
    refine w_pure (y_extract rfl rfl) rfl ?_
    refine w_pure (y_assign rfl) rfl ?_
    refine w_pure (y_assign rfl) rfl ?_
    refine w_nil ?_
    refine x_next ?_
    refine c_seq ?_
    refine c_region ?_
    refine w_pure (y_move rfl) rfl ?_
    (refine w_call rfl rfl rfl (DrawHalfAdjust_c) rfl ?_; rintro _ w128 ⟨a128, ⟨e128, ⟨rfl, ⟨⟨hp1_128, hp2_128⟩, ⟨⟨hp3_128, hp4_128⟩, hx128⟩⟩⟩⟩⟩)
    have hz_hx128 := hx128.size
    replace hT := hT.ext hx128
    replace h0 := h0.ext hx128
    replace E := E.trans hx128
    refine w_pure (y_move rfl) rfl ?_
    refine w_pure (y_extract rfl rfl) rfl ?_
    refine w_pure (y_extract rfl rfl) rfl ?_
    refine w_pure (y_assign rfl) rfl ?_
    refine w_pure (y_assign rfl) rfl ?_
    refine w_nil ?_
    refine x_next ?_
    refine c_seq ?_
    refine c_region ?_
    refine w_pure (y_move rfl) rfl ?_
    refine w_pure (y_move rfl) rfl ?_
    refine w_pur rfl rfl rfl (iHalfAdjust_z _ _) rfl ?_
    refine w_pure (y_move rfl) rfl ?_
    refine w_pure (y_extract rfl rfl) rfl ?_
    refine w_pure (y_extract rfl rfl) rfl ?_
    refine w_pure (y_assign rfl) rfl ?_
    refine w_pure (y_assign rfl) rfl ?_
    refine w_nil ?_
    refine x_next ?_
    refine c_seq ?_
    refine c_region ?_
    refine w_pure (y_move rfl) rfl ?_
    refine w_pure (y_move rfl) rfl ?_
    refine w_pur rfl rfl rfl (sHalfAdjust_z _ _) rfl ?_
    refine w_pure (y_move rfl) rfl ?_
    refine w_pure (y_extract rfl rfl) rfl ?_
    refine w_pure (y_extract rfl rfl) rfl ?_
    refine w_pure (y_assign rfl) rfl ?_
    refine w_pure (y_assign rfl) rfl ?_
    refine w_nil ?_
    refine x_next ?_
    refine c_seq ?_
    refine c_region ?_
    refine w_pure (y_move rfl) rfl ?_
    (refine w_call rfl rfl rfl (DrawCalculate_c) rfl ?_; rintro _ w145 ⟨k145, ⟨a145, ⟨e145, ⟨rfl, ⟨⟨hp1_145, hp2_145⟩, ⟨⟨hp3_145, hp4_145⟩, ⟨⟨hp5_145, hp6_145⟩, hx145⟩⟩⟩⟩⟩⟩⟩)
    have hz_hx145 := hx145.size
    replace hT := hT.ext hx145
    replace h0 := h0.ext hx145
    replace E := E.trans hx145
    refine w_pure (y_move rfl) rfl ?_
    refine w_pure (y_extract rfl rfl) rfl ?_
    refine w_pure (y_extract rfl rfl) rfl ?_
    refine w_pure (y_extract rfl rfl) rfl ?_
    refine w_pure (y_assign rfl) rfl ?_
    refine w_pure (y_assign rfl) rfl ?_
    refine w_pure (y_assign rfl) rfl ?_
    refine w_nil ?_
    refine x_next ?_
    refine c_seq ?_
    refine c_region ?_
    refine w_pure (y_move rfl) rfl ?_
    refine w_pure (y_move rfl) rfl ?_
    refine w_pure (y_move rfl) rfl ?_
    refine w_val rfl rfl rfl (iCalculate_c _ _ _) rfl (fun w153 hx153 hz153 => ?_)
    have hz_hx153 := hx153.size
    replace hT := hT.ext hx153
    replace h0 := h0.ext hx153
    replace E := E.trans hx153
    refine w_pure (y_move rfl) rfl ?_
    refine w_pure (y_extract rfl rfl) rfl ?_
    refine w_pure (y_extract rfl rfl) rfl ?_
    refine w_pure (y_extract rfl rfl) rfl ?_
    refine w_pure (y_assign rfl) rfl ?_
    refine w_pure (y_assign rfl) rfl ?_
    refine w_pure (y_assign rfl) rfl ?_
    refine w_nil ?_
    refine x_next ?_
    refine c_seq ?_
    refine c_region ?_
    refine w_pure (y_move rfl) rfl ?_
    refine w_pure (y_move rfl) rfl ?_
    refine w_pure (y_move rfl) rfl ?_
    refine w_pur rfl rfl rfl (sCalculate_c _ _ _) rfl ?_
    refine w_pure (y_move rfl) rfl ?_
    refine w_pure (y_extract rfl rfl) rfl ?_
    refine w_pure (y_extract rfl rfl) rfl ?_
    refine w_pure (y_extract rfl rfl) rfl ?_
    refine w_pure (y_assign rfl) rfl ?_
    refine w_pure (y_assign rfl) rfl ?_
    refine w_pure (y_assign rfl) rfl ?_
    refine w_nil ?_
    refine x_next ?_
    refine c_seq ?_
    refine c_region ?_
    refine w_pure (y_move rfl) rfl ?_
    (refine w_call rfl rfl rfl (DrawCalcName_c) rfl ?_; rintro _ w166 ⟨a166, ⟨rfl, ⟨⟨hp1_166, hp2_166⟩, hx166⟩⟩⟩)
    have hz_hx166 := hx166.size
    replace hT := hT.ext hx166
    replace h0 := h0.ext hx166
    replace E := E.trans hx166
    refine w_pure (y_assign rfl) rfl ?_
    refine w_nil ?_
    refine x_next ?_
    refine c_seq ?_
    refine c_seq ?_
    refine c_region ?_
    refine w_pure (y_move rfl) rfl ?_
    refine w_pure (y_move rfl) rfl ?_
    refine w_pure (y_ne rfl rfl) rfl ?_
    refine w_pure (y_move rfl) rfl ?_
    (refine w_part_dec rfl rfl (fun hc171 => ?_) (fun hc171 => ?_) <;> try (first | exact absurd rfl hc171 | contradiction | exact Bool.noConfusion (show false = true from hc171.symm.trans (by assumption)) | exact Bool.noConfusion (show true = false from hc171.symm.trans (by assumption)) | (exfalso; omega) | (exfalso; simp only [*, Bool.not_true, Bool.not_false, reduceCtorEq] at hc171; done)))
    refine w_yes rfl rfl ?_
    refine w_pure (y_move rfl) rfl ?_
    refine w_yes rfl rfl ?_
    refine w_pure (y_move rfl) rfl ?_
    refine w_yes rfl rfl ?_
    refine w_pure (y_ne rfl rfl) rfl ?_
    refine w_pure (y_pick_f rfl rfl) rfl ?_
    refine w_pure (y_move rfl) rfl ?_
    (refine w_part_dec rfl rfl (fun hc176 => ?_) (fun hc176 => ?_) <;> try (first | exact absurd rfl hc176 | contradiction | exact Bool.noConfusion (show false = true from hc176.symm.trans (by assumption)) | exact Bool.noConfusion (show true = false from hc176.symm.trans (by assumption)) | (exfalso; omega) | (exfalso; simp only [*, Bool.not_true, Bool.not_false, reduceCtorEq] at hc176; done)))
    refine w_yes rfl rfl ?_
    refine w_pure (y_move rfl) rfl ?_
    refine w_yes rfl rfl ?_
    refine w_pure (y_move rfl) rfl ?_
    refine w_yes rfl rfl ?_
    refine w_pure (y_ne rfl rfl) rfl ?_
    refine w_pure (y_pick_f rfl rfl) rfl ?_
    refine w_pure (y_move rfl) rfl ?_
    (refine w_part_dec rfl rfl (fun hc181 => ?_) (fun hc181 => ?_) <;> try (first | exact absurd rfl hc181 | contradiction | exact Bool.noConfusion (show false = true from hc181.symm.trans (by assumption)) | exact Bool.noConfusion (show true = false from hc181.symm.trans (by assumption)) | (exfalso; omega) | (exfalso; simp only [*, Bool.not_true, Bool.not_false, reduceCtorEq] at hc181; done)))
    refine w_yes rfl rfl ?_
    refine w_pure (y_move rfl) rfl ?_
    refine w_yes rfl rfl ?_
    refine w_pure (y_move rfl) rfl ?_
    refine w_yes rfl rfl ?_
    refine w_pure (y_ne rfl rfl) rfl ?_
    refine w_pure (y_pick_f rfl rfl) rfl ?_
    refine w_pure (y_move rfl) rfl ?_
    (refine w_part_dec rfl rfl (fun hc186 => ?_) (fun hc186 => ?_) <;> try (first | exact absurd rfl hc186 | contradiction | exact Bool.noConfusion (show false = true from hc186.symm.trans (by assumption)) | exact Bool.noConfusion (show true = false from hc186.symm.trans (by assumption)) | (exfalso; omega) | (exfalso; simp only [*, Bool.not_true, Bool.not_false, reduceCtorEq] at hc186; done)))
    refine w_yes rfl rfl ?_
    refine w_pure (y_move rfl) rfl ?_
    refine w_yes rfl rfl ?_
    refine w_pure (y_move rfl) rfl ?_
    refine w_yes rfl rfl ?_
    refine w_pure (y_ne rfl rfl) rfl ?_
    refine w_pure (y_pick_f rfl rfl) rfl ?_
    refine w_pure (y_move rfl) rfl ?_
    (refine w_part_dec rfl rfl (fun hc191 => ?_) (fun hc191 => ?_) <;> try (first | exact absurd rfl hc191 | contradiction | exact Bool.noConfusion (show false = true from hc191.symm.trans (by assumption)) | exact Bool.noConfusion (show true = false from hc191.symm.trans (by assumption)) | (exfalso; omega) | (exfalso; simp only [*, Bool.not_true, Bool.not_false, reduceCtorEq] at hc191; done)))
    refine w_yes rfl rfl ?_
    refine w_pure (y_move rfl) rfl ?_
    refine w_yes rfl rfl ?_
    refine w_pure (y_move rfl) rfl ?_
    refine w_yes rfl rfl ?_
    refine w_pure (y_ne rfl rfl) rfl ?_
    refine w_pure (y_pick_f rfl rfl) rfl ?_
    refine w_pure (y_move rfl) rfl ?_
    (refine w_part_dec rfl rfl (fun hc196 => ?_) (fun hc196 => ?_) <;> try (first | exact absurd rfl hc196 | contradiction | exact Bool.noConfusion (show false = true from hc196.symm.trans (by assumption)) | exact Bool.noConfusion (show true = false from hc196.symm.trans (by assumption)) | (exfalso; omega) | (exfalso; simp only [*, Bool.not_true, Bool.not_false, reduceCtorEq] at hc196; done)))
    refine w_yes rfl rfl ?_
    refine w_pure (y_move rfl) rfl ?_
    refine w_yes rfl rfl ?_
    refine w_pure (y_move rfl) rfl ?_
    refine w_yes rfl rfl ?_
    refine w_pure (y_ne rfl rfl) rfl ?_
    refine w_pure (y_pick_f rfl rfl) rfl ?_
    refine w_pure (y_move rfl) rfl ?_
    (refine w_part_dec rfl rfl (fun hc201 => ?_) (fun hc201 => ?_) <;> try (first | exact absurd rfl hc201 | contradiction | exact Bool.noConfusion (show false = true from hc201.symm.trans (by assumption)) | exact Bool.noConfusion (show true = false from hc201.symm.trans (by assumption)) | (exfalso; omega) | (exfalso; simp only [*, Bool.not_true, Bool.not_false, reduceCtorEq] at hc201; done)))
    refine w_yes rfl rfl ?_
    refine w_pure (y_move rfl) rfl ?_
    refine w_yes rfl rfl ?_
    refine w_pure (y_move rfl) rfl ?_
    refine w_yes rfl rfl ?_
    refine w_pure (y_ne rfl rfl) rfl ?_
    refine w_pure (y_pick_f rfl rfl) rfl ?_
    refine w_pure (y_move rfl) rfl ?_
    (refine w_part_dec rfl rfl (fun hc206 => ?_) (fun hc206 => ?_) <;> try (first | exact absurd rfl hc206 | contradiction | exact Bool.noConfusion (show false = true from hc206.symm.trans (by assumption)) | exact Bool.noConfusion (show true = false from hc206.symm.trans (by assumption)) | (exfalso; omega) | (exfalso; simp only [*, Bool.not_true, Bool.not_false, reduceCtorEq] at hc206; done)))
    refine w_yes rfl rfl ?_
    refine w_pure (y_move rfl) rfl ?_
    refine w_yes rfl rfl ?_
    refine w_pure (y_move rfl) rfl ?_
    refine w_yes rfl rfl ?_
    refine w_pure (y_ne rfl rfl) rfl ?_
    refine w_pure (y_pick_f rfl rfl) rfl ?_
    refine w_pure (y_move rfl) rfl ?_
    (refine w_part_dec rfl rfl (fun hc211 => ?_) (fun hc211 => ?_) <;> try (first | exact absurd rfl hc211 | contradiction | exact Bool.noConfusion (show false = true from hc211.symm.trans (by assumption)) | exact Bool.noConfusion (show true = false from hc211.symm.trans (by assumption)) | (exfalso; omega) | (exfalso; simp only [*, Bool.not_true, Bool.not_false, reduceCtorEq] at hc211; done)))
    refine w_yes rfl rfl ?_
    refine w_pure (y_move rfl) rfl ?_
    refine w_yes rfl rfl ?_
    refine w_pure (y_move rfl) rfl ?_
    refine w_yes rfl rfl ?_
    refine w_pure (y_ne rfl rfl) rfl ?_
    refine w_pure (y_pick_f rfl rfl) rfl ?_
    refine w_pure (y_move rfl) rfl ?_
    (refine w_part_dec rfl rfl (fun hc216 => ?_) (fun hc216 => ?_) <;> try (first | exact absurd rfl hc216 | contradiction | exact Bool.noConfusion (show false = true from hc216.symm.trans (by assumption)) | exact Bool.noConfusion (show true = false from hc216.symm.trans (by assumption)) | (exfalso; omega) | (exfalso; simp only [*, Bool.not_true, Bool.not_false, reduceCtorEq] at hc216; done)))
    refine w_yes rfl rfl ?_
    refine w_pure (y_move rfl) rfl ?_
    refine w_yes rfl rfl ?_
    refine w_pure (y_move rfl) rfl ?_
    refine w_yes rfl rfl ?_
    refine w_pure (y_ne rfl rfl) rfl ?_
    refine w_pure (y_pick_f rfl rfl) rfl ?_
    refine w_pure (y_move rfl) rfl ?_
    (refine w_part_dec rfl rfl (fun hc221 => ?_) (fun hc221 => ?_) <;> try (first | exact absurd rfl hc221 | contradiction | exact Bool.noConfusion (show false = true from hc221.symm.trans (by assumption)) | exact Bool.noConfusion (show true = false from hc221.symm.trans (by assumption)) | (exfalso; omega) | (exfalso; simp only [*, Bool.not_true, Bool.not_false, reduceCtorEq] at hc221; done)))
    refine w_yes rfl rfl ?_
    refine w_pure (y_move rfl) rfl ?_
    refine w_yes rfl rfl ?_
    refine w_pure (y_move rfl) rfl ?_
    refine w_yes rfl rfl ?_
    refine w_pure (y_ne rfl rfl) rfl ?_
    refine w_pure (y_pick_f rfl rfl) rfl ?_
    refine w_pure (y_move rfl) rfl ?_
    (refine w_part_dec rfl rfl (fun hc226 => ?_) (fun hc226 => ?_) <;> try (first | exact absurd rfl hc226 | contradiction | exact Bool.noConfusion (show false = true from hc226.symm.trans (by assumption)) | exact Bool.noConfusion (show true = false from hc226.symm.trans (by assumption)) | (exfalso; omega) | (exfalso; simp only [*, Bool.not_true, Bool.not_false, reduceCtorEq] at hc226; done)))
    refine w_yes rfl rfl ?_
    refine w_pure (y_move rfl) rfl ?_
    refine w_yes rfl rfl ?_
    refine w_pure (y_move rfl) rfl ?_
    refine w_yes rfl rfl ?_
    refine w_pure (y_ne rfl rfl) rfl ?_
    refine w_pure (y_pick_f rfl rfl) rfl ?_
    refine w_pure (y_move rfl) rfl ?_
    (refine w_part_dec rfl rfl (fun hc231 => ?_) (fun hc231 => ?_) <;> try (first | exact absurd rfl hc231 | contradiction | exact Bool.noConfusion (show false = true from hc231.symm.trans (by assumption)) | exact Bool.noConfusion (show true = false from hc231.symm.trans (by assumption)) | (exfalso; omega) | (exfalso; simp only [*, Bool.not_true, Bool.not_false, reduceCtorEq] at hc231; done)))
    refine w_yes rfl rfl ?_
    refine w_pure (y_move rfl) rfl ?_
    refine w_yes rfl rfl ?_
    refine w_pure (y_move rfl) rfl ?_
    refine w_yes rfl rfl ?_
    refine w_pure (y_ne rfl rfl) rfl ?_
    refine w_pure (y_pick_f rfl rfl) rfl ?_
    refine w_pure (y_move rfl) rfl ?_
    (refine w_part_dec rfl rfl (fun hc236 => ?_) (fun hc236 => ?_) <;> try (first | exact absurd rfl hc236 | contradiction | exact Bool.noConfusion (show false = true from hc236.symm.trans (by assumption)) | exact Bool.noConfusion (show true = false from hc236.symm.trans (by assumption)) | (exfalso; omega) | (exfalso; simp only [*, Bool.not_true, Bool.not_false, reduceCtorEq] at hc236; done)))
    refine w_yes rfl rfl ?_
    refine w_pure (y_move rfl) rfl ?_
    refine w_yes rfl rfl ?_
    refine w_pure (y_move rfl) rfl ?_
    refine w_yes rfl rfl ?_
    refine w_pure (y_ne rfl rfl) rfl ?_
    refine w_pure (y_pick_f rfl rfl) rfl ?_
    refine w_pure (y_move rfl) rfl ?_
    (refine w_part_dec rfl rfl (fun hc241 => ?_) (fun hc241 => ?_) <;> try (first | exact absurd rfl hc241 | contradiction | exact Bool.noConfusion (show false = true from hc241.symm.trans (by assumption)) | exact Bool.noConfusion (show true = false from hc241.symm.trans (by assumption)) | (exfalso; omega) | (exfalso; simp only [*, Bool.not_true, Bool.not_false, reduceCtorEq] at hc241; done)))
    refine w_yes rfl rfl ?_
    refine w_pure (y_move rfl) rfl ?_
    refine w_yes rfl rfl ?_
    refine w_pure (y_move rfl) rfl ?_
    refine w_yes rfl rfl ?_
    refine w_pure (y_ne rfl rfl) rfl ?_
    refine w_pure (y_pick_f rfl rfl) rfl ?_
    refine w_pure (y_move rfl) rfl ?_
    (refine w_part_dec rfl rfl (fun hc246 => ?_) (fun hc246 => ?_) <;> try (first | exact absurd rfl hc246 | contradiction | exact Bool.noConfusion (show false = true from hc246.symm.trans (by assumption)) | exact Bool.noConfusion (show true = false from hc246.symm.trans (by assumption)) | (exfalso; omega) | (exfalso; simp only [*, Bool.not_true, Bool.not_false, reduceCtorEq] at hc246; done)))
    refine w_yes rfl rfl ?_
    refine w_pure (y_move rfl) rfl ?_
    refine w_yes rfl rfl ?_
    refine w_pure (y_move rfl) rfl ?_
    refine w_yes rfl rfl ?_
    refine w_pure (y_ne rfl rfl) rfl ?_
    refine w_pure (y_pick_f rfl rfl) rfl ?_
    refine w_pure (y_move rfl) rfl ?_
    (refine w_part_dec rfl rfl (fun hc251 => ?_) (fun hc251 => ?_) <;> try (first | exact absurd rfl hc251 | contradiction | exact Bool.noConfusion (show false = true from hc251.symm.trans (by assumption)) | exact Bool.noConfusion (show true = false from hc251.symm.trans (by assumption)) | (exfalso; omega) | (exfalso; simp only [*, Bool.not_true, Bool.not_false, reduceCtorEq] at hc251; done)))
    refine w_yes rfl rfl ?_
    refine w_pure (y_move rfl) rfl ?_
    refine w_yes rfl rfl ?_
    rotate_left
  · exact x_retv [_] rfl ⟨rfl, trivial⟩ ⟨rfl, E.go⟩
  have hC := fun h => compR_ok (n := a76) (d := e76) h
  have hQ := quo_fact a95 e95
  have hP := prd_fact a57 e57
  have hH := haf_fact a128 e128
  have hB := half_bd (n := a128) (P := 10 ^ e128.toNat) (pow10_pos _)
  have hp9 : e128 ≤ 9 → 0 < (10 : Int) ^ e128.toNat ∧ (10 : Int) ^ e128.toNat ≤ 1000000000 := fun h => ⟨pow10_pos _, pow10_le (k := e128.toNat) (m := 9) (by omega)⟩
  generalize (compR a76 e76).1 = CR at *
  generalize (compR a76 e76).2.1 = CL at *
  generalize (compR a76 e76).2.2 = CC at *
  generalize orZ (cQuo a95 e95) (a95.tdiv e95) = Q at *
  generalize orZ (cQuo a95 e95) (a95.tmod e95) = R at *
  generalize orZ (cQuo a95 e95) (turnQ (a95.tdiv e95)) = U at *
  generalize cQuo a95 e95 = QC at *
  generalize orZ (cPrd a57 e57) (a57 * e57) = M at *
  generalize orZ (cPrd a57 e57) (cyc e57) = Y at *
  generalize cPrd a57 e57 = PC at *
  generalize halfV a128 (10 ^ e128.toNat) = HV at *
  generalize (hafR a128 e128).1 = H at *
  generalize (hafR a128 e128).2 = HC at *
  generalize hX : (10 : Int) ^ e128.toNat = X at *
  focus
    refine w_pur rfl rfl rfl (iCalcName_c _) rfl ?_
    refine w_yes rfl rfl ?_
    refine w_pure (y_move rfl) rfl ?_
    refine w_yes rfl rfl ?_
    refine w_val rfl rfl rfl (sCalcName_c _ _) rfl (fun w254 hx254 hz254 => ?_)
    have hz_hx254 := hx254.size
    replace hT := hT.ext hx254
    replace h0 := h0.ext hx254
    replace E := E.trans hx254
    refine w_yes rfl rfl ?_
    refine w_pure (y_sne rfl rfl) rfl ?_
    refine w_pure (y_pick_f rfl rfl) rfl ?_
    refine w_nil ?_
    refine x_next ?_
    refine c_nsame rfl ?_
    refine c_skip ?_
    refine x_next ?_
    refine c_seq ?_
    refine c_seq ?_
    refine c_region ?_
    refine w_pure (y_move rfl) rfl ?_
    refine w_pure (y_eq rfl rfl) rfl ?_
    refine w_pure (y_move rfl) rfl ?_
    (refine w_part_dec rfl rfl (fun hc260 => ?_) (fun hc260 => ?_) <;> try (first | exact absurd rfl hc260 | contradiction | exact Bool.noConfusion (show false = true from hc260.symm.trans (by assumption)) | exact Bool.noConfusion (show true = false from hc260.symm.trans (by assumption)) | (exfalso; omega) | (exfalso; simp only [*, Bool.not_true, Bool.not_false, reduceCtorEq] at hc260; done)))
    refine w_yes rfl rfl ?_
    refine w_pure (y_move rfl) rfl ?_
    refine w_yes rfl rfl ?_
    refine w_pure (y_move rfl) rfl ?_
    refine w_yes rfl rfl ?_
    refine w_pure (y_mul rfl rfl) rfl ?_
    refine w_yes rfl rfl ?_
    refine w_pure (y_add rfl rfl) rfl ?_
    refine w_yes rfl rfl ?_
    refine w_pure (y_move rfl) rfl ?_
    refine w_yes rfl rfl ?_
    refine w_pure (y_move rfl) rfl ?_
    refine w_yes rfl rfl ?_
    refine w_pure (y_mul rfl rfl) rfl ?_
    refine w_yes rfl rfl ?_
    refine w_pure (y_ne rfl rfl) rfl ?_
    refine w_pure (y_pick_t rfl rfl) rfl ?_
    refine w_nil ?_
    refine x_next ?_
    (refine c_dec rfl (fun hc268 => ?_) (fun hc268 => ?_) <;> try (first | exact absurd rfl hc268 | contradiction | exact Bool.noConfusion (show false = true from hc268.symm.trans (by assumption)) | exact Bool.noConfusion (show true = false from hc268.symm.trans (by assumption)) | (exfalso; omega) | (exfalso; simp only [*, Bool.not_true, Bool.not_false, reduceCtorEq] at hc268; done)))
    refine c_skip ?_
    refine x_next ?_
    refine c_seq ?_
    refine c_seq ?_
    refine c_region ?_
    refine w_pure (y_move rfl) rfl ?_
    refine w_pure (y_eq rfl rfl) rfl ?_
    refine w_pure (y_move rfl) rfl ?_
    (refine w_part_dec rfl rfl (fun hc272 => ?_) (fun hc272 => ?_) <;> try (first | exact absurd rfl hc272 | contradiction | exact Bool.noConfusion (show false = true from hc272.symm.trans (by assumption)) | exact Bool.noConfusion (show true = false from hc272.symm.trans (by assumption)) | (exfalso; omega) | (exfalso; simp only [*, Bool.not_true, Bool.not_false, reduceCtorEq] at hc272; done)))
    refine w_yes rfl rfl ?_
    refine w_pure (y_move rfl) rfl ?_
    refine w_yes rfl rfl ?_
    refine w_pure (y_move rfl) rfl ?_
    refine w_yes rfl rfl ?_
    refine w_pure (y_mul rfl rfl) rfl ?_
    refine w_yes rfl rfl ?_
    refine w_pure (y_move rfl) rfl ?_
    refine w_yes rfl rfl ?_
    refine w_pure (y_add rfl rfl) rfl ?_
    refine w_yes rfl rfl ?_
    refine w_pure (y_move rfl) rfl ?_
    refine w_yes rfl rfl ?_
    refine w_pure (y_ne rfl rfl) rfl ?_
    refine w_yes rfl rfl ?_
    refine w_pure (y_move rfl) rfl ?_
    (refine w_part_dec rfl rfl (fun hc280 => ?_) (fun hc280 => ?_) <;> try (first | exact absurd rfl hc280 | contradiction | exact Bool.noConfusion (show false = true from hc280.symm.trans (by assumption)) | exact Bool.noConfusion (show true = false from hc280.symm.trans (by assumption)) | (exfalso; omega) | (exfalso; simp only [*, Bool.not_true, Bool.not_false, reduceCtorEq] at hc280; done)))
    refine w_yes rfl rfl ?_
    refine w_pure (y_move rfl) rfl ?_
    refine w_yes rfl rfl ?_
    refine w_pure (y_move rfl) rfl ?_
    refine w_yes rfl rfl ?_
    refine w_pure (y_neg rfl) rfl ?_
    refine w_yes rfl rfl ?_
    refine w_pure (y_max rfl rfl) rfl ?_
    refine w_yes rfl rfl ?_
    refine w_pure (y_move rfl) rfl ?_
    refine w_yes rfl rfl ?_
    refine w_pure (y_move rfl) rfl ?_
    refine w_yes rfl rfl ?_
    refine w_pure (y_neg rfl) rfl ?_
    refine w_yes rfl rfl ?_
    refine w_pure (y_max rfl rfl) rfl ?_
    refine w_yes rfl rfl ?_
    refine w_pure (y_ge rfl rfl) rfl ?_
    refine w_yes rfl rfl ?_
    refine w_pure (y_pick_f rfl rfl) rfl ?_
    refine w_yes rfl rfl ?_
    refine w_pure (y_move rfl) rfl ?_
    (refine w_part_dec rfl rfl (fun hc291 => ?_) (fun hc291 => ?_) <;> try (first | exact absurd rfl hc291 | contradiction | exact Bool.noConfusion (show false = true from hc291.symm.trans (by assumption)) | exact Bool.noConfusion (show true = false from hc291.symm.trans (by assumption)) | (exfalso; omega) | (exfalso; simp only [*, Bool.not_true, Bool.not_false, reduceCtorEq] at hc291; done)))
    refine w_yes rfl rfl ?_
    refine w_pure (y_move rfl) rfl ?_
    refine w_yes rfl rfl ?_
    refine w_pure (y_lt rfl rfl) rfl ?_
    refine w_yes rfl rfl ?_
    refine w_pure (y_pick_f rfl rfl) rfl ?_
    refine w_pure (y_pick_t rfl rfl) rfl ?_
    refine w_nil ?_
    refine x_next ?_
    (refine c_dec rfl (fun hc294 => ?_) (fun hc294 => ?_) <;> try (first | exact absurd rfl hc294 | contradiction | exact Bool.noConfusion (show false = true from hc294.symm.trans (by assumption)) | exact Bool.noConfusion (show true = false from hc294.symm.trans (by assumption)) | (exfalso; omega) | (exfalso; simp only [*, Bool.not_true, Bool.not_false, reduceCtorEq] at hc294; done)))
    refine c_skip ?_
    refine x_next ?_
    refine c_seq ?_
    refine c_seq ?_
    refine c_region ?_
    refine w_pure (y_move rfl) rfl ?_
    refine w_pure (y_eq rfl rfl) rfl ?_
    refine w_pure (y_move rfl) rfl ?_
    (refine w_part_dec rfl rfl (fun hc298 => ?_) (fun hc298 => ?_) <;> try (first | exact absurd rfl hc298 | contradiction | exact Bool.noConfusion (show false = true from hc298.symm.trans (by assumption)) | exact Bool.noConfusion (show true = false from hc298.symm.trans (by assumption)) | (exfalso; omega) | (exfalso; simp only [*, Bool.not_true, Bool.not_false, reduceCtorEq] at hc298; done)))
    refine w_yes rfl rfl ?_
    refine w_pure (y_move rfl) rfl ?_
    refine w_yes rfl rfl ?_
    refine w_pure (y_le rfl rfl) rfl ?_
    refine w_pure (y_pick_t rfl rfl) rfl ?_
    refine w_nil ?_
    refine x_next ?_
    (refine c_dec rfl (fun hc300 => ?_) (fun hc300 => ?_) <;> try (first | exact absurd rfl hc300 | contradiction | exact Bool.noConfusion (show false = true from hc300.symm.trans (by assumption)) | exact Bool.noConfusion (show true = false from hc300.symm.trans (by assumption)) | (exfalso; omega) | (exfalso; simp only [*, Bool.not_true, Bool.not_false, reduceCtorEq] at hc300; done)))
    refine c_seq ?_
    refine c_region ?_
    refine w_pure (y_assign rfl) rfl ?_
    refine w_nil ?_
    refine x_next ?_
    refine c_seq ?_
    refine c_seq ?_
    refine c_region ?_
    refine w_pure (y_assign rfl) rfl ?_
    refine w_nil ?_
    refine x_next ?_
    refine c_block ?_
    rotate_left
    refine c_skip ?_
    refine x_next ?_
    refine c_seq ?_
    refine c_region ?_
    rotate_left
    refine w_no rfl rfl rfl rfl ?_
    refine w_no rfl rfl rfl rfl ?_
    refine w_pure (y_pick_f rfl rfl) rfl ?_
    refine w_nil ?_
    refine x_next ?_
    refine c_false rfl ?_
    refine c_skip ?_
    refine x_next ?_
    refine c_seq ?_
    refine c_region ?_
    rotate_left
    refine w_no rfl rfl rfl rfl ?_
    refine w_no rfl rfl rfl rfl ?_
    refine w_no rfl rfl rfl rfl ?_
    refine w_no rfl rfl rfl rfl ?_
    refine w_no rfl rfl rfl rfl ?_
    refine w_no rfl rfl rfl rfl ?_
    refine w_no rfl rfl rfl rfl ?_
    refine w_no rfl rfl rfl rfl ?_
    refine w_none rfl rfl rfl ?_
    refine w_none rfl rfl rfl ?_
    refine w_none rfl rfl rfl ?_
    refine w_none rfl rfl rfl ?_
    refine w_none rfl rfl rfl ?_
    refine w_none rfl rfl rfl ?_
    refine w_none rfl rfl rfl ?_
    refine w_none rfl rfl rfl ?_
    refine w_none rfl rfl rfl ?_
    refine w_no rfl rfl rfl rfl ?_
    refine w_no rfl rfl rfl rfl ?_
    refine w_none rfl rfl rfl ?_
    refine w_none rfl rfl rfl ?_
    refine w_no rfl rfl rfl rfl ?_
    refine w_pure (y_pick_f rfl rfl) rfl ?_
    refine w_nil ?_
    refine x_next ?_
    refine c_false rfl ?_
    refine c_skip ?_
    refine x_next ?_
    refine c_seq ?_
    refine c_seq ?_
    refine c_region ?_
    refine w_pure (y_move rfl) rfl ?_
    refine w_pure (y_eq rfl rfl) rfl ?_
    refine w_pure (y_move rfl) rfl ?_
    (refine w_part_dec rfl rfl (fun hc298 => ?_) (fun hc298 => ?_) <;> try (first | exact absurd rfl hc298 | contradiction | exact Bool.noConfusion (show false = true from hc298.symm.trans (by assumption)) | exact Bool.noConfusion (show true = false from hc298.symm.trans (by assumption)) | (exfalso; omega) | (exfalso; simp only [*, Bool.not_true, Bool.not_false, reduceCtorEq] at hc298; done)))
    refine w_yes rfl rfl ?_
    refine w_pure (y_move rfl) rfl ?_
    refine w_yes rfl rfl ?_
    refine w_pure (y_le rfl rfl) rfl ?_
    refine w_pure (y_pick_t rfl rfl) rfl ?_
    refine w_nil ?_
    refine x_next ?_
    (refine c_dec rfl (fun hc300 => ?_) (fun hc300 => ?_) <;> try (first | exact absurd rfl hc300 | contradiction | exact Bool.noConfusion (show false = true from hc300.symm.trans (by assumption)) | exact Bool.noConfusion (show true = false from hc300.symm.trans (by assumption)) | (exfalso; omega) | (exfalso; simp only [*, Bool.not_true, Bool.not_false, reduceCtorEq] at hc300; done)))
    refine c_seq ?_
    refine c_region ?_
    refine w_pure (y_assign rfl) rfl ?_
    refine w_nil ?_
    refine x_next ?_
    refine c_seq ?_
    refine c_seq ?_
    refine c_region ?_
    refine w_pure (y_assign rfl) rfl ?_
    refine w_nil ?_
    refine x_next ?_
    refine c_block ?_
    rotate_left
    refine c_skip ?_
    refine x_next ?_
    refine c_seq ?_
    refine c_region ?_
    rotate_left
    refine w_no rfl rfl rfl rfl ?_
    refine w_no rfl rfl rfl rfl ?_
    refine w_pure (y_pick_f rfl rfl) rfl ?_
    refine w_nil ?_
    refine x_next ?_
    refine c_false rfl ?_
    refine c_skip ?_
    refine x_next ?_
    refine c_seq ?_
    refine c_region ?_
    rotate_left
    refine w_no rfl rfl rfl rfl ?_
    refine w_no rfl rfl rfl rfl ?_
    refine w_no rfl rfl rfl rfl ?_
    refine w_no rfl rfl rfl rfl ?_
    refine w_no rfl rfl rfl rfl ?_
    refine w_no rfl rfl rfl rfl ?_
    refine w_no rfl rfl rfl rfl ?_
    refine w_no rfl rfl rfl rfl ?_
    refine w_pure (y_pick_f rfl rfl) rfl ?_
    refine w_nil ?_
    refine x_next ?_
    refine c_false rfl ?_
    refine c_skip ?_
    refine x_next ?_
    refine c_seq ?_
    refine c_seq ?_
    refine c_region ?_
    refine w_pure (y_move rfl) rfl ?_
    refine w_pure (y_eq rfl rfl) rfl ?_
    refine w_pure (y_move rfl) rfl ?_
    (refine w_part_dec rfl rfl (fun hc272 => ?_) (fun hc272 => ?_) <;> try (first | exact absurd rfl hc272 | contradiction | exact Bool.noConfusion (show false = true from hc272.symm.trans (by assumption)) | exact Bool.noConfusion (show true = false from hc272.symm.trans (by assumption)) | (exfalso; omega) | (exfalso; simp only [*, Bool.not_true, Bool.not_false, reduceCtorEq] at hc272; done)))
    refine w_yes rfl rfl ?_
    refine w_pure (y_move rfl) rfl ?_
    refine w_yes rfl rfl ?_
    refine w_pure (y_move rfl) rfl ?_
    refine w_yes rfl rfl ?_
    refine w_pure (y_mul rfl rfl) rfl ?_
    refine w_yes rfl rfl ?_
    refine w_pure (y_move rfl) rfl ?_
    refine w_yes rfl rfl ?_
    refine w_pure (y_add rfl rfl) rfl ?_
    refine w_yes rfl rfl ?_
    refine w_pure (y_move rfl) rfl ?_
    refine w_yes rfl rfl ?_
    refine w_pure (y_ne rfl rfl) rfl ?_
    refine w_yes rfl rfl ?_
    refine w_pure (y_move rfl) rfl ?_
    (refine w_part_dec rfl rfl (fun hc280 => ?_) (fun hc280 => ?_) <;> try (first | exact absurd rfl hc280 | contradiction | exact Bool.noConfusion (show false = true from hc280.symm.trans (by assumption)) | exact Bool.noConfusion (show true = false from hc280.symm.trans (by assumption)) | (exfalso; omega) | (exfalso; simp only [*, Bool.not_true, Bool.not_false, reduceCtorEq] at hc280; done)))
    refine w_yes rfl rfl ?_
    refine w_pure (y_move rfl) rfl ?_
    refine w_yes rfl rfl ?_
    refine w_pure (y_move rfl) rfl ?_
    refine w_yes rfl rfl ?_
    refine w_pure (y_neg rfl) rfl ?_
    refine w_yes rfl rfl ?_
    refine w_pure (y_max rfl rfl) rfl ?_
    refine w_yes rfl rfl ?_
    refine w_pure (y_move rfl) rfl ?_
    refine w_yes rfl rfl ?_
    refine w_pure (y_move rfl) rfl ?_
    refine w_yes rfl rfl ?_
    refine w_pure (y_neg rfl) rfl ?_
    refine w_yes rfl rfl ?_
    refine w_pure (y_max rfl rfl) rfl ?_
    refine w_yes rfl rfl ?_
    refine w_pure (y_ge rfl rfl) rfl ?_
    refine w_yes rfl rfl ?_
    refine w_pure (y_pick_f rfl rfl) rfl ?_
    refine w_yes rfl rfl ?_
    refine w_pure (y_move rfl) rfl ?_
    (refine w_part_dec rfl rfl (fun hc291 => ?_) (fun hc291 => ?_) <;> try (first | exact absurd rfl hc291 | contradiction | exact Bool.noConfusion (show false = true from hc291.symm.trans (by assumption)) | exact Bool.noConfusion (show true = false from hc291.symm.trans (by assumption)) | (exfalso; omega) | (exfalso; simp only [*, Bool.not_true, Bool.not_false, reduceCtorEq] at hc291; done)))
    refine w_yes rfl rfl ?_
    refine w_pure (y_move rfl) rfl ?_
    refine w_yes rfl rfl ?_
    refine w_pure (y_lt rfl rfl) rfl ?_
    refine w_yes rfl rfl ?_
    refine w_pure (y_pick_f rfl rfl) rfl ?_
    refine w_pure (y_pick_t rfl rfl) rfl ?_
    refine w_nil ?_
    refine x_next ?_
    (refine c_dec rfl (fun hc294 => ?_) (fun hc294 => ?_) <;> try (first | exact absurd rfl hc294 | contradiction | exact Bool.noConfusion (show false = true from hc294.symm.trans (by assumption)) | exact Bool.noConfusion (show true = false from hc294.symm.trans (by assumption)) | (exfalso; omega) | (exfalso; simp only [*, Bool.not_true, Bool.not_false, reduceCtorEq] at hc294; done)))
    refine c_skip ?_
    refine x_next ?_
    refine c_seq ?_
    refine c_seq ?_
    refine c_region ?_
    refine w_pure (y_move rfl) rfl ?_
    refine w_pure (y_eq rfl rfl) rfl ?_
    refine w_pure (y_move rfl) rfl ?_
    (refine w_part_dec rfl rfl (fun hc298 => ?_) (fun hc298 => ?_) <;> try (first | exact absurd rfl hc298 | contradiction | exact Bool.noConfusion (show false = true from hc298.symm.trans (by assumption)) | exact Bool.noConfusion (show true = false from hc298.symm.trans (by assumption)) | (exfalso; omega) | (exfalso; simp only [*, Bool.not_true, Bool.not_false, reduceCtorEq] at hc298; done)))
    refine w_yes rfl rfl ?_
    refine w_pure (y_move rfl) rfl ?_
    refine w_yes rfl rfl ?_
    refine w_pure (y_le rfl rfl) rfl ?_
    refine w_pure (y_pick_t rfl rfl) rfl ?_
    refine w_nil ?_
    refine x_next ?_
    (refine c_dec rfl (fun hc300 => ?_) (fun hc300 => ?_) <;> try (first | exact absurd rfl hc300 | contradiction | exact Bool.noConfusion (show false = true from hc300.symm.trans (by assumption)) | exact Bool.noConfusion (show true = false from hc300.symm.trans (by assumption)) | (exfalso; omega) | (exfalso; simp only [*, Bool.not_true, Bool.not_false, reduceCtorEq] at hc300; done)))
    refine c_seq ?_
    refine c_region ?_
    refine w_pure (y_assign rfl) rfl ?_
    refine w_nil ?_
    refine x_next ?_
    refine c_seq ?_
    refine c_seq ?_
    refine c_region ?_
    refine w_pure (y_assign rfl) rfl ?_
    refine w_nil ?_
    refine x_next ?_
    refine c_block ?_
    rotate_left
    refine c_skip ?_
    refine x_next ?_
    refine c_seq ?_
    refine c_region ?_
    rotate_left
    refine w_no rfl rfl rfl rfl ?_
    refine w_no rfl rfl rfl rfl ?_
    refine w_pure (y_pick_f rfl rfl) rfl ?_
    refine w_nil ?_
    refine x_next ?_
    refine c_false rfl ?_
    refine c_skip ?_
    refine x_next ?_
    refine c_seq ?_
    refine c_region ?_
    rotate_left
    refine w_no rfl rfl rfl rfl ?_
    refine w_no rfl rfl rfl rfl ?_
    refine w_no rfl rfl rfl rfl ?_
    refine w_no rfl rfl rfl rfl ?_
    refine w_no rfl rfl rfl rfl ?_
    refine w_no rfl rfl rfl rfl ?_
    refine w_no rfl rfl rfl rfl ?_
    refine w_no rfl rfl rfl rfl ?_
    refine w_none rfl rfl rfl ?_
    refine w_none rfl rfl rfl ?_
    refine w_none rfl rfl rfl ?_
    refine w_none rfl rfl rfl ?_
    refine w_none rfl rfl rfl ?_
    refine w_none rfl rfl rfl ?_
    refine w_none rfl rfl rfl ?_
    refine w_none rfl rfl rfl ?_
    refine w_none rfl rfl rfl ?_
    refine w_no rfl rfl rfl rfl ?_
    refine w_no rfl rfl rfl rfl ?_
    refine w_none rfl rfl rfl ?_
    refine w_none rfl rfl rfl ?_
    refine w_no rfl rfl rfl rfl ?_
    refine w_pure (y_pick_f rfl rfl) rfl ?_
    refine w_nil ?_
    refine x_next ?_
    refine c_false rfl ?_
    refine c_skip ?_
    refine x_next ?_
    refine c_seq ?_
    refine c_seq ?_
    refine c_region ?_
    refine w_pure (y_move rfl) rfl ?_
    refine w_pure (y_eq rfl rfl) rfl ?_
    refine w_pure (y_move rfl) rfl ?_
    (refine w_part_dec rfl rfl (fun hc298 => ?_) (fun hc298 => ?_) <;> try (first | exact absurd rfl hc298 | contradiction | exact Bool.noConfusion (show false = true from hc298.symm.trans (by assumption)) | exact Bool.noConfusion (show true = false from hc298.symm.trans (by assumption)) | (exfalso; omega) | (exfalso; simp only [*, Bool.not_true, Bool.not_false, reduceCtorEq] at hc298; done)))
    refine w_yes rfl rfl ?_
    refine w_pure (y_move rfl) rfl ?_
    refine w_yes rfl rfl ?_
    refine w_pure (y_le rfl rfl) rfl ?_
    refine w_pure (y_pick_t rfl rfl) rfl ?_
    refine w_nil ?_
    refine x_next ?_
    (refine c_dec rfl (fun hc300 => ?_) (fun hc300 => ?_) <;> try (first | exact absurd rfl hc300 | contradiction | exact Bool.noConfusion (show false = true from hc300.symm.trans (by assumption)) | exact Bool.noConfusion (show true = false from hc300.symm.trans (by assumption)) | (exfalso; omega) | (exfalso; simp only [*, Bool.not_true, Bool.not_false, reduceCtorEq] at hc300; done)))
    refine c_seq ?_
    refine c_region ?_
    refine w_pure (y_assign rfl) rfl ?_
    refine w_nil ?_
    refine x_next ?_
    refine c_seq ?_
    refine c_seq ?_
    refine c_region ?_
    refine w_pure (y_assign rfl) rfl ?_
    refine w_nil ?_
    refine x_next ?_
    refine c_block ?_
    rotate_left
    refine c_skip ?_
    refine x_next ?_
    refine c_seq ?_
    refine c_region ?_
    rotate_left
    refine w_no rfl rfl rfl rfl ?_
    refine w_no rfl rfl rfl rfl ?_
    refine w_pure (y_pick_f rfl rfl) rfl ?_
    refine w_nil ?_
    refine x_next ?_
    refine c_false rfl ?_
    refine c_skip ?_
    refine x_next ?_
    refine c_seq ?_
    refine c_region ?_
    rotate_left
  · refine c_loopC 0 0 (ι := Int) (fun x => [(3, .int .i64 a57), (4, .int .i64 e57), (5, .int .i64 M), (6, .int .i64 Y), (7, .int .i64 PC), (34, .int .i64 a128), (35, .int .i64 e128), (36, .int .i64 H), (50, .int .i64 (10 ^ x.toNat)), (51, .int .i64 x)]) (fun x w' => 0 ≤ x ∧ x ≤ e128) (fun x => (e128 - x).toNat) 0
      (by set_option maxRecDepth 20000 in exact ⟨rfl, rfl, rfl, rfl, rfl, rfl, rfl, rfl, congrArg (fun q => some (Value.int .i64 q)) (show (1 : Int) = 10 ^ (Int.toNat 0) by decide), rfl, trivial⟩) ⟨by omega, by omega⟩ ?_
    rintro y wL hxL EL ⟨hy0, hy1⟩
    have hzL := hxL.size
    have hpy : 0 < (10 : Int) ^ y.toNat ∧ (10 : Int) ^ y.toNat ≤ 1000000000 := ⟨pow10_pos _, pow10_le (k := y.toNat) (m := 9) (by omega)⟩
    by_cases hly : y < e128
    · focus
        have hz_hxL := hxL.size
        replace hT := hT.ext hxL
        replace h0 := h0.ext hxL
        replace E := E.trans hxL
        refine c_seq ?_
        refine c_seq ?_
        refine c_region ?_
        refine w_pure (y_move rfl) rfl ?_
        refine w_pure (y_move rfl) rfl ?_
        refine w_pure (y_lt rfl rfl) rfl ?_
        refine w_nil ?_
        refine x_next ?_
        (refine c_dec rfl (fun hc303 => ?_) (fun hc303 => ?_) <;> try (first | exact absurd rfl hc303 | contradiction | exact Bool.noConfusion (show false = true from hc303.symm.trans (by assumption)) | exact Bool.noConfusion (show true = false from hc303.symm.trans (by assumption)) | (exfalso; omega) | (exfalso; simp only [*, Bool.not_true, Bool.not_false, reduceCtorEq] at hc303; done)))
        refine c_skip ?_
        refine x_next ?_
        refine c_seq ?_
        refine c_block ?_
        refine c_region ?_
        refine w_pure (y_move rfl) rfl ?_
        refine w_pure (y_mul rfl rfl) rfl ?_
        refine w_pure (y_assign rfl) rfl ?_
        refine w_nil ?_
        refine x_block_norm ?_
        refine x_next ?_
        refine c_region ?_
        refine w_pure (y_move rfl) rfl ?_
        refine w_pure (y_add rfl rfl) rfl ?_
        refine w_pure (y_assign rfl) rfl ?_
        refine w_nil ?_
        rotate_left
      have z1 : 10 * (10 : Int) ^ y.toNat = 10 ^ (y + 1).toNat := by rw [pow10_succ _ hy0, Int.mul_comm]
      exact x_again (y + 1) ⟨rfl, rfl, rfl, rfl, rfl, rfl, rfl, rfl, congrArg (fun q => some (Value.int .i64 q)) z1, rfl, trivial⟩ ⟨EL.go, by omega, by omega⟩ (by omega)
    · have ey : (10 : Int) ^ y.toNat = X := by rw [show y = e128 by omega]; exact hX
      rw [ey]
      clear hpy ey
      have hHV := (hH hc298).2.2
      rw [← hHV] at hB
      clear hHV
      focus
        have hz_hxL := hxL.size
        replace hT := hT.ext hxL
        replace h0 := h0.ext hxL
        replace E := E.trans hxL
        refine c_seq ?_
        refine c_seq ?_
        refine c_region ?_
        refine w_pure (y_move rfl) rfl ?_
        refine w_pure (y_move rfl) rfl ?_
        refine w_pure (y_lt rfl rfl) rfl ?_
        refine w_nil ?_
        refine x_next ?_
        (refine c_dec rfl (fun hc303 => ?_) (fun hc303 => ?_) <;> try (first | exact absurd rfl hc303 | contradiction | exact Bool.noConfusion (show false = true from hc303.symm.trans (by assumption)) | exact Bool.noConfusion (show true = false from hc303.symm.trans (by assumption)) | (exfalso; omega) | (exfalso; simp only [*, Bool.not_true, Bool.not_false, reduceCtorEq] at hc303; done)))
        refine c_exit ?_
        refine x_then_exit ?_
        refine x_then_exit ?_
        refine x_block_hit ?_
        refine x_next ?_
        refine c_seq ?_
        refine c_region ?_
        refine w_pure (y_move rfl) rfl ?_
        refine w_pure (y_move rfl) rfl ?_
        refine w_pure (y_mul rfl rfl) rfl ?_
        refine w_pure (y_move rfl) rfl ?_
        refine w_pure (y_sub rfl rfl) rfl ?_
        refine w_pure (y_assign rfl) rfl ?_
        refine w_nil ?_
        refine x_next ?_
        refine c_seq ?_
        refine c_region ?_
        refine w_pure (y_move rfl) rfl ?_
        refine w_pure (y_move rfl) rfl ?_
        refine w_pure (y_neg rfl) rfl ?_
        refine w_pure (y_max rfl rfl) rfl ?_
        refine w_pure (y_mul rfl rfl) rfl ?_
        refine w_pure (y_move rfl) rfl ?_
        refine w_pure (y_gt rfl rfl) rfl ?_
        refine w_nil ?_
        refine x_next ?_
        (refine c_dec rfl (fun hc319 => ?_) (fun hc319 => ?_) <;> try (first | exact absurd rfl hc319 | contradiction | exact Bool.noConfusion (show false = true from hc319.symm.trans (by assumption)) | exact Bool.noConfusion (show true = false from hc319.symm.trans (by assumption)) | (exfalso; omega) | (exfalso; simp only [*, Bool.not_true, Bool.not_false, reduceCtorEq] at hc319; done)))
        refine c_skip ?_
        refine x_next ?_
        refine c_seq ?_
        refine c_region ?_
        refine w_pure (y_move rfl) rfl ?_
        refine w_pure (y_ne rfl rfl) rfl ?_
        refine w_pure (y_move rfl) rfl ?_
        (refine w_part_dec rfl rfl (fun hc323 => ?_) (fun hc323 => ?_) <;> try (first | exact absurd rfl hc323 | contradiction | exact Bool.noConfusion (show false = true from hc323.symm.trans (by assumption)) | exact Bool.noConfusion (show true = false from hc323.symm.trans (by assumption)) | (exfalso; omega) | (exfalso; simp only [*, Bool.not_true, Bool.not_false, reduceCtorEq] at hc323; done)))
        refine w_no rfl rfl rfl rfl ?_
        refine w_no rfl rfl rfl rfl ?_
        refine w_no rfl rfl rfl rfl ?_
        refine w_no rfl rfl rfl rfl ?_
        refine w_no rfl rfl rfl rfl ?_
        refine w_no rfl rfl rfl rfl ?_
        refine w_none rfl rfl rfl ?_
        refine w_none rfl rfl rfl ?_
        refine w_no rfl rfl rfl rfl ?_
        refine w_no rfl rfl rfl rfl ?_
        refine w_none rfl rfl rfl ?_
        refine w_none rfl rfl rfl ?_
        refine w_no rfl rfl rfl rfl ?_
        refine w_pure (y_pick_t rfl rfl) rfl ?_
        refine w_pure (y_assign rfl) rfl ?_
        refine w_nil ?_
        refine x_next ?_
        refine c_ret ?_
        rotate_left
        refine w_yes rfl rfl ?_
        refine w_pure (y_move rfl) rfl ?_
        refine w_yes rfl rfl ?_
        refine w_pure (y_move rfl) rfl ?_
        refine w_yes rfl rfl ?_
        refine w_pure (y_move rfl) rfl ?_
        refine w_yes rfl rfl ?_
        refine w_pure (y_mul rfl rfl) rfl ?_
        refine w_yes rfl rfl ?_
        refine w_pure (y_eq rfl rfl) rfl ?_
        refine w_yes rfl rfl ?_
        refine w_pure (y_move rfl) rfl ?_
        (refine w_part_dec rfl rfl (fun hc329 => ?_) (fun hc329 => ?_) <;> try (first | exact absurd rfl hc329 | contradiction | exact Bool.noConfusion (show false = true from hc329.symm.trans (by assumption)) | exact Bool.noConfusion (show true = false from hc329.symm.trans (by assumption)) | (exfalso; omega) | (exfalso; simp only [*, Bool.not_true, Bool.not_false, reduceCtorEq] at hc329; done)))
        refine w_yes rfl rfl ?_
        refine w_pure (y_move rfl) rfl ?_
        refine w_yes rfl rfl ?_
        refine w_pure (y_ge rfl rfl) rfl ?_
        refine w_yes rfl rfl ?_
        refine w_pure (y_pick_t rfl rfl) rfl ?_
        refine w_yes rfl rfl ?_
        refine w_pure (y_move rfl) rfl ?_
        (refine w_part_dec rfl rfl (fun hc333 => ?_) (fun hc333 => ?_) <;> try (first | exact absurd rfl hc333 | contradiction | exact Bool.noConfusion (show false = true from hc333.symm.trans (by assumption)) | exact Bool.noConfusion (show true = false from hc333.symm.trans (by assumption)) | (exfalso; omega) | (exfalso; simp only [*, Bool.not_true, Bool.not_false, reduceCtorEq] at hc333; done)))
        refine w_yes rfl rfl ?_
        refine w_pure (y_move rfl) rfl ?_
        refine w_yes rfl rfl ?_
        refine w_pure (y_le rfl rfl) rfl ?_
        refine w_yes rfl rfl ?_
        refine w_pure (y_pick_t rfl rfl) rfl ?_
        refine w_pure (y_pick_f rfl rfl) rfl ?_
        refine w_pure (y_assign rfl) rfl ?_
        refine w_nil ?_
        refine x_next ?_
        refine c_ret ?_
        rotate_left
      all_goals first
        | exact x_retv [_] rfl ⟨rfl, trivial⟩ ⟨rfl, E.go⟩
        | exact x_retv [_] rfl ⟨rfl, trivial⟩ ⟨by show Value.bool (decide _) = _; rw [decide_eq_true (by omega)], E.go⟩
  · refine W.sub [(3, .int .i64 a57), (4, .int .i64 e57), (5, .int .i64 M), (6, .int .i64 Y), (7, .int .i64 PC)] ?_ ?_
    · set_option maxRecDepth 20000 in exact ⟨rfl, rfl, rfl, rfl, rfl, trivial⟩
    · focus
        refine w_pure (y_move rfl) rfl ?_
        refine w_pure (y_ne rfl rfl) rfl ?_
        refine w_pure (y_move rfl) rfl ?_
        (refine w_part_dec rfl rfl (fun hc323 => ?_) (fun hc323 => ?_) <;> try (first | exact absurd rfl hc323 | contradiction | exact Bool.noConfusion (show false = true from hc323.symm.trans (by assumption)) | exact Bool.noConfusion (show true = false from hc323.symm.trans (by assumption)) | (exfalso; omega) | (exfalso; simp only [*, Bool.not_true, Bool.not_false, reduceCtorEq] at hc323; done)))
        refine w_no rfl rfl rfl rfl ?_
        refine w_no rfl rfl rfl rfl ?_
        refine w_no rfl rfl rfl rfl ?_
        refine w_no rfl rfl rfl rfl ?_
        refine w_no rfl rfl rfl rfl ?_
        refine w_no rfl rfl rfl rfl ?_
        refine w_none rfl rfl rfl ?_
        refine w_none rfl rfl rfl ?_
        refine w_no rfl rfl rfl rfl ?_
        refine w_no rfl rfl rfl rfl ?_
        refine w_none rfl rfl rfl ?_
        refine w_none rfl rfl rfl ?_
        refine w_no rfl rfl rfl rfl ?_
        refine w_pure (y_pick_t rfl rfl) rfl ?_
        refine w_pure (y_assign rfl) rfl ?_
        refine w_nil ?_
        refine x_next ?_
        refine c_ret ?_
        rotate_left
        refine w_yes rfl rfl ?_
        refine w_pure (y_move rfl) rfl ?_
        refine w_yes rfl rfl ?_
        refine w_pure (y_move rfl) rfl ?_
        refine w_yes rfl rfl ?_
        refine w_pure (y_move rfl) rfl ?_
        refine w_yes rfl rfl ?_
        refine w_pure (y_mul rfl rfl) rfl ?_
        refine w_yes rfl rfl ?_
        refine w_pure (y_eq rfl rfl) rfl ?_
        refine w_yes rfl rfl ?_
        refine w_pure (y_move rfl) rfl ?_
        (refine w_part_dec rfl rfl (fun hc329 => ?_) (fun hc329 => ?_) <;> try (first | exact absurd rfl hc329 | contradiction | exact Bool.noConfusion (show false = true from hc329.symm.trans (by assumption)) | exact Bool.noConfusion (show true = false from hc329.symm.trans (by assumption)) | (exfalso; omega) | (exfalso; simp only [*, Bool.not_true, Bool.not_false, reduceCtorEq] at hc329; done)))
        refine w_yes rfl rfl ?_
        refine w_pure (y_move rfl) rfl ?_
        refine w_yes rfl rfl ?_
        refine w_pure (y_ge rfl rfl) rfl ?_
        refine w_yes rfl rfl ?_
        refine w_pure (y_pick_t rfl rfl) rfl ?_
        refine w_yes rfl rfl ?_
        refine w_pure (y_move rfl) rfl ?_
        (refine w_part_dec rfl rfl (fun hc333 => ?_) (fun hc333 => ?_) <;> try (first | exact absurd rfl hc333 | contradiction | exact Bool.noConfusion (show false = true from hc333.symm.trans (by assumption)) | exact Bool.noConfusion (show true = false from hc333.symm.trans (by assumption)) | (exfalso; omega) | (exfalso; simp only [*, Bool.not_true, Bool.not_false, reduceCtorEq] at hc333; done)))
        refine w_yes rfl rfl ?_
        refine w_pure (y_move rfl) rfl ?_
        refine w_yes rfl rfl ?_
        refine w_pure (y_le rfl rfl) rfl ?_
        refine w_yes rfl rfl ?_
        refine w_pure (y_pick_t rfl rfl) rfl ?_
        refine w_pure (y_pick_f rfl rfl) rfl ?_
        refine w_pure (y_assign rfl) rfl ?_
        refine w_nil ?_
        refine x_next ?_
        refine c_ret ?_
        rotate_left
      all_goals first
        | exact x_retv [_] rfl ⟨rfl, trivial⟩ ⟨rfl, E.go⟩
        | exact x_retv [_] rfl ⟨rfl, trivial⟩ ⟨by show Value.bool (decide _) = _; rw [decide_eq_true (by omega)], E.go⟩
  · refine W.sub [(3, .int .i64 a57), (4, .int .i64 e57), (5, .int .i64 M), (6, .int .i64 Y), (7, .int .i64 PC)] ?_ ?_
    · set_option maxRecDepth 20000 in exact ⟨rfl, rfl, rfl, rfl, rfl, trivial⟩
    · focus
        refine w_pure (y_move rfl) rfl ?_
        refine w_pure (y_ne rfl rfl) rfl ?_
        refine w_pure (y_move rfl) rfl ?_
        (refine w_part_dec rfl rfl (fun hc323 => ?_) (fun hc323 => ?_) <;> try (first | exact absurd rfl hc323 | contradiction | exact Bool.noConfusion (show false = true from hc323.symm.trans (by assumption)) | exact Bool.noConfusion (show true = false from hc323.symm.trans (by assumption)) | (exfalso; omega) | (exfalso; simp only [*, Bool.not_true, Bool.not_false, reduceCtorEq] at hc323; done)))
        refine w_no rfl rfl rfl rfl ?_
        refine w_no rfl rfl rfl rfl ?_
        refine w_no rfl rfl rfl rfl ?_
        refine w_no rfl rfl rfl rfl ?_
        refine w_no rfl rfl rfl rfl ?_
        refine w_no rfl rfl rfl rfl ?_
        refine w_none rfl rfl rfl ?_
        refine w_none rfl rfl rfl ?_
        refine w_no rfl rfl rfl rfl ?_
        refine w_no rfl rfl rfl rfl ?_
        refine w_none rfl rfl rfl ?_
        refine w_none rfl rfl rfl ?_
        refine w_no rfl rfl rfl rfl ?_
        refine w_pure (y_pick_t rfl rfl) rfl ?_
        refine w_pure (y_assign rfl) rfl ?_
        refine w_nil ?_
        refine x_next ?_
        refine c_ret ?_
        rotate_left
        refine w_yes rfl rfl ?_
        refine w_pure (y_move rfl) rfl ?_
        refine w_yes rfl rfl ?_
        refine w_pure (y_move rfl) rfl ?_
        refine w_yes rfl rfl ?_
        refine w_pure (y_move rfl) rfl ?_
        refine w_yes rfl rfl ?_
        refine w_pure (y_mul rfl rfl) rfl ?_
        refine w_yes rfl rfl ?_
        refine w_pure (y_eq rfl rfl) rfl ?_
        refine w_yes rfl rfl ?_
        refine w_pure (y_move rfl) rfl ?_
        (refine w_part_dec rfl rfl (fun hc329 => ?_) (fun hc329 => ?_) <;> try (first | exact absurd rfl hc329 | contradiction | exact Bool.noConfusion (show false = true from hc329.symm.trans (by assumption)) | exact Bool.noConfusion (show true = false from hc329.symm.trans (by assumption)) | (exfalso; omega) | (exfalso; simp only [*, Bool.not_true, Bool.not_false, reduceCtorEq] at hc329; done)))
        refine w_yes rfl rfl ?_
        refine w_pure (y_move rfl) rfl ?_
        refine w_yes rfl rfl ?_
        refine w_pure (y_ge rfl rfl) rfl ?_
        refine w_yes rfl rfl ?_
        refine w_pure (y_pick_t rfl rfl) rfl ?_
        refine w_yes rfl rfl ?_
        refine w_pure (y_move rfl) rfl ?_
        (refine w_part_dec rfl rfl (fun hc333 => ?_) (fun hc333 => ?_) <;> try (first | exact absurd rfl hc333 | contradiction | exact Bool.noConfusion (show false = true from hc333.symm.trans (by assumption)) | exact Bool.noConfusion (show true = false from hc333.symm.trans (by assumption)) | (exfalso; omega) | (exfalso; simp only [*, Bool.not_true, Bool.not_false, reduceCtorEq] at hc333; done)))
        refine w_yes rfl rfl ?_
        refine w_pure (y_move rfl) rfl ?_
        refine w_yes rfl rfl ?_
        refine w_pure (y_le rfl rfl) rfl ?_
        refine w_yes rfl rfl ?_
        refine w_pure (y_pick_t rfl rfl) rfl ?_
        refine w_pure (y_pick_f rfl rfl) rfl ?_
        refine w_pure (y_assign rfl) rfl ?_
        refine w_nil ?_
        refine x_next ?_
        refine c_ret ?_
        rotate_left
      all_goals first
        | exact x_retv [_] rfl ⟨rfl, trivial⟩ ⟨rfl, E.go⟩
        | exact x_retv [_] rfl ⟨rfl, trivial⟩ ⟨by show Value.bool (decide _) = _; rw [decide_eq_true (by omega)], E.go⟩
  · refine c_loopC 0 0 (ι := Int) (fun x => [(3, .int .i64 a57), (4, .int .i64 e57), (5, .int .i64 M), (6, .int .i64 Y), (7, .int .i64 PC), (34, .int .i64 a128), (35, .int .i64 e128), (36, .int .i64 H), (50, .int .i64 (10 ^ x.toNat)), (51, .int .i64 x)]) (fun x w' => 0 ≤ x ∧ x ≤ e128) (fun x => (e128 - x).toNat) 0
      (by set_option maxRecDepth 20000 in exact ⟨rfl, rfl, rfl, rfl, rfl, rfl, rfl, rfl, congrArg (fun q => some (Value.int .i64 q)) (show (1 : Int) = 10 ^ (Int.toNat 0) by decide), rfl, trivial⟩) ⟨by omega, by omega⟩ ?_
    rintro y wL hxL EL ⟨hy0, hy1⟩
    have hzL := hxL.size
    have hpy : 0 < (10 : Int) ^ y.toNat ∧ (10 : Int) ^ y.toNat ≤ 1000000000 := ⟨pow10_pos _, pow10_le (k := y.toNat) (m := 9) (by omega)⟩
    by_cases hly : y < e128
    · focus
        have hz_hxL := hxL.size
        replace hT := hT.ext hxL
        replace h0 := h0.ext hxL
        replace E := E.trans hxL
        refine c_seq ?_
        refine c_seq ?_
        refine c_region ?_
        refine w_pure (y_move rfl) rfl ?_
        refine w_pure (y_move rfl) rfl ?_
        refine w_pure (y_lt rfl rfl) rfl ?_
        refine w_nil ?_
        refine x_next ?_
        (refine c_dec rfl (fun hc303 => ?_) (fun hc303 => ?_) <;> try (first | exact absurd rfl hc303 | contradiction | exact Bool.noConfusion (show false = true from hc303.symm.trans (by assumption)) | exact Bool.noConfusion (show true = false from hc303.symm.trans (by assumption)) | (exfalso; omega) | (exfalso; simp only [*, Bool.not_true, Bool.not_false, reduceCtorEq] at hc303; done)))
        refine c_skip ?_
        refine x_next ?_
        refine c_seq ?_
        refine c_block ?_
        refine c_region ?_
        refine w_pure (y_move rfl) rfl ?_
        refine w_pure (y_mul rfl rfl) rfl ?_
        refine w_pure (y_assign rfl) rfl ?_
        refine w_nil ?_
        refine x_block_norm ?_
        refine x_next ?_
        refine c_region ?_
        refine w_pure (y_move rfl) rfl ?_
        refine w_pure (y_add rfl rfl) rfl ?_
        refine w_pure (y_assign rfl) rfl ?_
        refine w_nil ?_
        rotate_left
      have z1 : 10 * (10 : Int) ^ y.toNat = 10 ^ (y + 1).toNat := by rw [pow10_succ _ hy0, Int.mul_comm]
      exact x_again (y + 1) ⟨rfl, rfl, rfl, rfl, rfl, rfl, rfl, rfl, congrArg (fun q => some (Value.int .i64 q)) z1, rfl, trivial⟩ ⟨EL.go, by omega, by omega⟩ (by omega)
    · have ey : (10 : Int) ^ y.toNat = X := by rw [show y = e128 by omega]; exact hX
      rw [ey]
      clear hpy ey
      have hHV := (hH hc298).2.2
      rw [← hHV] at hB
      clear hHV
      focus
        have hz_hxL := hxL.size
        replace hT := hT.ext hxL
        replace h0 := h0.ext hxL
        replace E := E.trans hxL
        refine c_seq ?_
        refine c_seq ?_
        refine c_region ?_
        refine w_pure (y_move rfl) rfl ?_
        refine w_pure (y_move rfl) rfl ?_
        refine w_pure (y_lt rfl rfl) rfl ?_
        refine w_nil ?_
        refine x_next ?_
        (refine c_dec rfl (fun hc303 => ?_) (fun hc303 => ?_) <;> try (first | exact absurd rfl hc303 | contradiction | exact Bool.noConfusion (show false = true from hc303.symm.trans (by assumption)) | exact Bool.noConfusion (show true = false from hc303.symm.trans (by assumption)) | (exfalso; omega) | (exfalso; simp only [*, Bool.not_true, Bool.not_false, reduceCtorEq] at hc303; done)))
        refine c_exit ?_
        refine x_then_exit ?_
        refine x_then_exit ?_
        refine x_block_hit ?_
        refine x_next ?_
        refine c_seq ?_
        refine c_region ?_
        refine w_pure (y_move rfl) rfl ?_
        refine w_pure (y_move rfl) rfl ?_
        refine w_pure (y_mul rfl rfl) rfl ?_
        refine w_pure (y_move rfl) rfl ?_
        refine w_pure (y_sub rfl rfl) rfl ?_
        refine w_pure (y_assign rfl) rfl ?_
        refine w_nil ?_
        refine x_next ?_
        refine c_seq ?_
        refine c_region ?_
        refine w_pure (y_move rfl) rfl ?_
        refine w_pure (y_move rfl) rfl ?_
        refine w_pure (y_neg rfl) rfl ?_
        refine w_pure (y_max rfl rfl) rfl ?_
        refine w_pure (y_mul rfl rfl) rfl ?_
        refine w_pure (y_move rfl) rfl ?_
        refine w_pure (y_gt rfl rfl) rfl ?_
        refine w_nil ?_
        refine x_next ?_
        (refine c_dec rfl (fun hc319 => ?_) (fun hc319 => ?_) <;> try (first | exact absurd rfl hc319 | contradiction | exact Bool.noConfusion (show false = true from hc319.symm.trans (by assumption)) | exact Bool.noConfusion (show true = false from hc319.symm.trans (by assumption)) | (exfalso; omega) | (exfalso; simp only [*, Bool.not_true, Bool.not_false, reduceCtorEq] at hc319; done)))
        refine c_skip ?_
        refine x_next ?_
        refine c_seq ?_
        refine c_region ?_
        refine w_pure (y_move rfl) rfl ?_
        refine w_pure (y_ne rfl rfl) rfl ?_
        refine w_pure (y_move rfl) rfl ?_
        (refine w_part_dec rfl rfl (fun hc323 => ?_) (fun hc323 => ?_) <;> try (first | exact absurd rfl hc323 | contradiction | exact Bool.noConfusion (show false = true from hc323.symm.trans (by assumption)) | exact Bool.noConfusion (show true = false from hc323.symm.trans (by assumption)) | (exfalso; omega) | (exfalso; simp only [*, Bool.not_true, Bool.not_false, reduceCtorEq] at hc323; done)))
        refine w_no rfl rfl rfl rfl ?_
        refine w_no rfl rfl rfl rfl ?_
        refine w_no rfl rfl rfl rfl ?_
        refine w_no rfl rfl rfl rfl ?_
        refine w_no rfl rfl rfl rfl ?_
        refine w_no rfl rfl rfl rfl ?_
        refine w_none rfl rfl rfl ?_
        refine w_none rfl rfl rfl ?_
        refine w_no rfl rfl rfl rfl ?_
        refine w_no rfl rfl rfl rfl ?_
        refine w_none rfl rfl rfl ?_
        refine w_none rfl rfl rfl ?_
        refine w_no rfl rfl rfl rfl ?_
        refine w_pure (y_pick_t rfl rfl) rfl ?_
        refine w_pure (y_assign rfl) rfl ?_
        refine w_nil ?_
        refine x_next ?_
        refine c_ret ?_
        rotate_left
        refine w_yes rfl rfl ?_
        refine w_pure (y_move rfl) rfl ?_
        refine w_yes rfl rfl ?_
        refine w_pure (y_move rfl) rfl ?_
        refine w_yes rfl rfl ?_
        refine w_pure (y_move rfl) rfl ?_
        refine w_yes rfl rfl ?_
        refine w_pure (y_mul rfl rfl) rfl ?_
        refine w_yes rfl rfl ?_
        refine w_pure (y_eq rfl rfl) rfl ?_
        refine w_yes rfl rfl ?_
        refine w_pure (y_move rfl) rfl ?_
        (refine w_part_dec rfl rfl (fun hc329 => ?_) (fun hc329 => ?_) <;> try (first | exact absurd rfl hc329 | contradiction | exact Bool.noConfusion (show false = true from hc329.symm.trans (by assumption)) | exact Bool.noConfusion (show true = false from hc329.symm.trans (by assumption)) | (exfalso; omega) | (exfalso; simp only [*, Bool.not_true, Bool.not_false, reduceCtorEq] at hc329; done)))
        refine w_yes rfl rfl ?_
        refine w_pure (y_move rfl) rfl ?_
        refine w_yes rfl rfl ?_
        refine w_pure (y_ge rfl rfl) rfl ?_
        refine w_yes rfl rfl ?_
        refine w_pure (y_pick_t rfl rfl) rfl ?_
        refine w_yes rfl rfl ?_
        refine w_pure (y_move rfl) rfl ?_
        (refine w_part_dec rfl rfl (fun hc333 => ?_) (fun hc333 => ?_) <;> try (first | exact absurd rfl hc333 | contradiction | exact Bool.noConfusion (show false = true from hc333.symm.trans (by assumption)) | exact Bool.noConfusion (show true = false from hc333.symm.trans (by assumption)) | (exfalso; omega) | (exfalso; simp only [*, Bool.not_true, Bool.not_false, reduceCtorEq] at hc333; done)))
        refine w_yes rfl rfl ?_
        refine w_pure (y_move rfl) rfl ?_
        refine w_yes rfl rfl ?_
        refine w_pure (y_le rfl rfl) rfl ?_
        refine w_yes rfl rfl ?_
        refine w_pure (y_pick_t rfl rfl) rfl ?_
        refine w_pure (y_pick_f rfl rfl) rfl ?_
        refine w_pure (y_assign rfl) rfl ?_
        refine w_nil ?_
        refine x_next ?_
        refine c_ret ?_
        rotate_left
      all_goals first
        | exact x_retv [_] rfl ⟨rfl, trivial⟩ ⟨rfl, E.go⟩
        | exact x_retv [_] rfl ⟨rfl, trivial⟩ ⟨by show Value.bool (decide _) = _; rw [decide_eq_true (by omega)], E.go⟩
  · refine W.sub [(3, .int .i64 a57), (4, .int .i64 e57), (5, .int .i64 M), (6, .int .i64 Y), (7, .int .i64 PC)] ?_ ?_
    · set_option maxRecDepth 20000 in exact ⟨rfl, rfl, rfl, rfl, rfl, trivial⟩
    · focus
        refine w_pure (y_move rfl) rfl ?_
        refine w_pure (y_ne rfl rfl) rfl ?_
        refine w_pure (y_move rfl) rfl ?_
        (refine w_part_dec rfl rfl (fun hc323 => ?_) (fun hc323 => ?_) <;> try (first | exact absurd rfl hc323 | contradiction | exact Bool.noConfusion (show false = true from hc323.symm.trans (by assumption)) | exact Bool.noConfusion (show true = false from hc323.symm.trans (by assumption)) | (exfalso; omega) | (exfalso; simp only [*, Bool.not_true, Bool.not_false, reduceCtorEq] at hc323; done)))
        refine w_no rfl rfl rfl rfl ?_
        refine w_no rfl rfl rfl rfl ?_
        refine w_no rfl rfl rfl rfl ?_
        refine w_no rfl rfl rfl rfl ?_
        refine w_no rfl rfl rfl rfl ?_
        refine w_no rfl rfl rfl rfl ?_
        refine w_none rfl rfl rfl ?_
        refine w_none rfl rfl rfl ?_
        refine w_no rfl rfl rfl rfl ?_
        refine w_no rfl rfl rfl rfl ?_
        refine w_none rfl rfl rfl ?_
        refine w_none rfl rfl rfl ?_
        refine w_no rfl rfl rfl rfl ?_
        refine w_pure (y_pick_t rfl rfl) rfl ?_
        refine w_pure (y_assign rfl) rfl ?_
        refine w_nil ?_
        refine x_next ?_
        refine c_ret ?_
        rotate_left
        refine w_yes rfl rfl ?_
        refine w_pure (y_move rfl) rfl ?_
        refine w_yes rfl rfl ?_
        refine w_pure (y_move rfl) rfl ?_
        refine w_yes rfl rfl ?_
        refine w_pure (y_move rfl) rfl ?_
        refine w_yes rfl rfl ?_
        refine w_pure (y_mul rfl rfl) rfl ?_
        refine w_yes rfl rfl ?_
        refine w_pure (y_eq rfl rfl) rfl ?_
        refine w_yes rfl rfl ?_
        refine w_pure (y_move rfl) rfl ?_
        (refine w_part_dec rfl rfl (fun hc329 => ?_) (fun hc329 => ?_) <;> try (first | exact absurd rfl hc329 | contradiction | exact Bool.noConfusion (show false = true from hc329.symm.trans (by assumption)) | exact Bool.noConfusion (show true = false from hc329.symm.trans (by assumption)) | (exfalso; omega) | (exfalso; simp only [*, Bool.not_true, Bool.not_false, reduceCtorEq] at hc329; done)))
        refine w_yes rfl rfl ?_
        refine w_pure (y_move rfl) rfl ?_
        refine w_yes rfl rfl ?_
        refine w_pure (y_ge rfl rfl) rfl ?_
        refine w_yes rfl rfl ?_
        refine w_pure (y_pick_t rfl rfl) rfl ?_
        refine w_yes rfl rfl ?_
        refine w_pure (y_move rfl) rfl ?_
        (refine w_part_dec rfl rfl (fun hc333 => ?_) (fun hc333 => ?_) <;> try (first | exact absurd rfl hc333 | contradiction | exact Bool.noConfusion (show false = true from hc333.symm.trans (by assumption)) | exact Bool.noConfusion (show true = false from hc333.symm.trans (by assumption)) | (exfalso; omega) | (exfalso; simp only [*, Bool.not_true, Bool.not_false, reduceCtorEq] at hc333; done)))
        refine w_yes rfl rfl ?_
        refine w_pure (y_move rfl) rfl ?_
        refine w_yes rfl rfl ?_
        refine w_pure (y_le rfl rfl) rfl ?_
        refine w_yes rfl rfl ?_
        refine w_pure (y_pick_t rfl rfl) rfl ?_
        refine w_pure (y_pick_f rfl rfl) rfl ?_
        refine w_pure (y_assign rfl) rfl ?_
        refine w_nil ?_
        refine x_next ?_
        refine c_ret ?_
        rotate_left
      all_goals first
        | exact x_retv [_] rfl ⟨rfl, trivial⟩ ⟨rfl, E.go⟩
        | exact x_retv [_] rfl ⟨rfl, trivial⟩ ⟨by show Value.bool (decide _) = _; rw [decide_eq_true (by omega)], E.go⟩
  · refine W.sub [(3, .int .i64 a57), (4, .int .i64 e57), (5, .int .i64 M), (6, .int .i64 Y), (7, .int .i64 PC)] ?_ ?_
    · set_option maxRecDepth 20000 in exact ⟨rfl, rfl, rfl, rfl, rfl, trivial⟩
    · focus
        refine w_pure (y_move rfl) rfl ?_
        refine w_pure (y_ne rfl rfl) rfl ?_
        refine w_pure (y_move rfl) rfl ?_
        (refine w_part_dec rfl rfl (fun hc323 => ?_) (fun hc323 => ?_) <;> try (first | exact absurd rfl hc323 | contradiction | exact Bool.noConfusion (show false = true from hc323.symm.trans (by assumption)) | exact Bool.noConfusion (show true = false from hc323.symm.trans (by assumption)) | (exfalso; omega) | (exfalso; simp only [*, Bool.not_true, Bool.not_false, reduceCtorEq] at hc323; done)))
        refine w_no rfl rfl rfl rfl ?_
        refine w_no rfl rfl rfl rfl ?_
        refine w_no rfl rfl rfl rfl ?_
        refine w_no rfl rfl rfl rfl ?_
        refine w_no rfl rfl rfl rfl ?_
        refine w_no rfl rfl rfl rfl ?_
        refine w_none rfl rfl rfl ?_
        refine w_none rfl rfl rfl ?_
        refine w_no rfl rfl rfl rfl ?_
        refine w_no rfl rfl rfl rfl ?_
        refine w_none rfl rfl rfl ?_
        refine w_none rfl rfl rfl ?_
        refine w_no rfl rfl rfl rfl ?_
        refine w_pure (y_pick_t rfl rfl) rfl ?_
        refine w_pure (y_assign rfl) rfl ?_
        refine w_nil ?_
        refine x_next ?_
        refine c_ret ?_
        rotate_left
        refine w_yes rfl rfl ?_
        refine w_pure (y_move rfl) rfl ?_
        refine w_yes rfl rfl ?_
        refine w_pure (y_move rfl) rfl ?_
        refine w_yes rfl rfl ?_
        refine w_pure (y_move rfl) rfl ?_
        refine w_yes rfl rfl ?_
        refine w_pure (y_mul rfl rfl) rfl ?_
        refine w_yes rfl rfl ?_
        refine w_pure (y_eq rfl rfl) rfl ?_
        refine w_yes rfl rfl ?_
        refine w_pure (y_move rfl) rfl ?_
        (refine w_part_dec rfl rfl (fun hc329 => ?_) (fun hc329 => ?_) <;> try (first | exact absurd rfl hc329 | contradiction | exact Bool.noConfusion (show false = true from hc329.symm.trans (by assumption)) | exact Bool.noConfusion (show true = false from hc329.symm.trans (by assumption)) | (exfalso; omega) | (exfalso; simp only [*, Bool.not_true, Bool.not_false, reduceCtorEq] at hc329; done)))
        refine w_yes rfl rfl ?_
        refine w_pure (y_move rfl) rfl ?_
        refine w_yes rfl rfl ?_
        refine w_pure (y_ge rfl rfl) rfl ?_
        refine w_yes rfl rfl ?_
        refine w_pure (y_pick_t rfl rfl) rfl ?_
        refine w_yes rfl rfl ?_
        refine w_pure (y_move rfl) rfl ?_
        (refine w_part_dec rfl rfl (fun hc333 => ?_) (fun hc333 => ?_) <;> try (first | exact absurd rfl hc333 | contradiction | exact Bool.noConfusion (show false = true from hc333.symm.trans (by assumption)) | exact Bool.noConfusion (show true = false from hc333.symm.trans (by assumption)) | (exfalso; omega) | (exfalso; simp only [*, Bool.not_true, Bool.not_false, reduceCtorEq] at hc333; done)))
        refine w_yes rfl rfl ?_
        refine w_pure (y_move rfl) rfl ?_
        refine w_yes rfl rfl ?_
        refine w_pure (y_le rfl rfl) rfl ?_
        refine w_yes rfl rfl ?_
        refine w_pure (y_pick_t rfl rfl) rfl ?_
        refine w_pure (y_pick_f rfl rfl) rfl ?_
        refine w_pure (y_assign rfl) rfl ?_
        refine w_nil ?_
        refine x_next ?_
        refine c_ret ?_
        rotate_left
      all_goals first
        | exact x_retv [_] rfl ⟨rfl, trivial⟩ ⟨rfl, E.go⟩
        | exact x_retv [_] rfl ⟨rfl, trivial⟩ ⟨by show Value.bool (decide _) = _; rw [decide_eq_true (by omega)], E.go⟩
  · refine c_loopC 0 0 (ι := Int) (fun x => [(3, .int .i64 a57), (4, .int .i64 e57), (5, .int .i64 M), (6, .int .i64 Y), (7, .int .i64 PC), (34, .int .i64 a128), (35, .int .i64 e128), (36, .int .i64 H), (50, .int .i64 (10 ^ x.toNat)), (51, .int .i64 x)]) (fun x w' => 0 ≤ x ∧ x ≤ e128) (fun x => (e128 - x).toNat) 0
      (by set_option maxRecDepth 20000 in exact ⟨rfl, rfl, rfl, rfl, rfl, rfl, rfl, rfl, congrArg (fun q => some (Value.int .i64 q)) (show (1 : Int) = 10 ^ (Int.toNat 0) by decide), rfl, trivial⟩) ⟨by omega, by omega⟩ ?_
    rintro y wL hxL EL ⟨hy0, hy1⟩
    have hzL := hxL.size
    have hpy : 0 < (10 : Int) ^ y.toNat ∧ (10 : Int) ^ y.toNat ≤ 1000000000 := ⟨pow10_pos _, pow10_le (k := y.toNat) (m := 9) (by omega)⟩
    by_cases hly : y < e128
    · focus
        have hz_hxL := hxL.size
        replace hT := hT.ext hxL
        replace h0 := h0.ext hxL
        replace E := E.trans hxL
        refine c_seq ?_
        refine c_seq ?_
        refine c_region ?_
        refine w_pure (y_move rfl) rfl ?_
        refine w_pure (y_move rfl) rfl ?_
        refine w_pure (y_lt rfl rfl) rfl ?_
        refine w_nil ?_
        refine x_next ?_
        (refine c_dec rfl (fun hc303 => ?_) (fun hc303 => ?_) <;> try (first | exact absurd rfl hc303 | contradiction | exact Bool.noConfusion (show false = true from hc303.symm.trans (by assumption)) | exact Bool.noConfusion (show true = false from hc303.symm.trans (by assumption)) | (exfalso; omega) | (exfalso; simp only [*, Bool.not_true, Bool.not_false, reduceCtorEq] at hc303; done)))
        refine c_skip ?_
        refine x_next ?_
        refine c_seq ?_
        refine c_block ?_
        refine c_region ?_
        refine w_pure (y_move rfl) rfl ?_
        refine w_pure (y_mul rfl rfl) rfl ?_
        refine w_pure (y_assign rfl) rfl ?_
        refine w_nil ?_
        refine x_block_norm ?_
        refine x_next ?_
        refine c_region ?_
        refine w_pure (y_move rfl) rfl ?_
        refine w_pure (y_add rfl rfl) rfl ?_
        refine w_pure (y_assign rfl) rfl ?_
        refine w_nil ?_
        rotate_left
      have z1 : 10 * (10 : Int) ^ y.toNat = 10 ^ (y + 1).toNat := by rw [pow10_succ _ hy0, Int.mul_comm]
      exact x_again (y + 1) ⟨rfl, rfl, rfl, rfl, rfl, rfl, rfl, rfl, congrArg (fun q => some (Value.int .i64 q)) z1, rfl, trivial⟩ ⟨EL.go, by omega, by omega⟩ (by omega)
    · have ey : (10 : Int) ^ y.toNat = X := by rw [show y = e128 by omega]; exact hX
      rw [ey]
      clear hpy ey
      have hHV := (hH hc298).2.2
      rw [← hHV] at hB
      clear hHV
      focus
        have hz_hxL := hxL.size
        replace hT := hT.ext hxL
        replace h0 := h0.ext hxL
        replace E := E.trans hxL
        refine c_seq ?_
        refine c_seq ?_
        refine c_region ?_
        refine w_pure (y_move rfl) rfl ?_
        refine w_pure (y_move rfl) rfl ?_
        refine w_pure (y_lt rfl rfl) rfl ?_
        refine w_nil ?_
        refine x_next ?_
        (refine c_dec rfl (fun hc303 => ?_) (fun hc303 => ?_) <;> try (first | exact absurd rfl hc303 | contradiction | exact Bool.noConfusion (show false = true from hc303.symm.trans (by assumption)) | exact Bool.noConfusion (show true = false from hc303.symm.trans (by assumption)) | (exfalso; omega) | (exfalso; simp only [*, Bool.not_true, Bool.not_false, reduceCtorEq] at hc303; done)))
        refine c_exit ?_
        refine x_then_exit ?_
        refine x_then_exit ?_
        refine x_block_hit ?_
        refine x_next ?_
        refine c_seq ?_
        refine c_region ?_
        refine w_pure (y_move rfl) rfl ?_
        refine w_pure (y_move rfl) rfl ?_
        refine w_pure (y_mul rfl rfl) rfl ?_
        refine w_pure (y_move rfl) rfl ?_
        refine w_pure (y_sub rfl rfl) rfl ?_
        refine w_pure (y_assign rfl) rfl ?_
        refine w_nil ?_
        refine x_next ?_
        refine c_seq ?_
        refine c_region ?_
        refine w_pure (y_move rfl) rfl ?_
        refine w_pure (y_move rfl) rfl ?_
        refine w_pure (y_neg rfl) rfl ?_
        refine w_pure (y_max rfl rfl) rfl ?_
        refine w_pure (y_mul rfl rfl) rfl ?_
        refine w_pure (y_move rfl) rfl ?_
        refine w_pure (y_gt rfl rfl) rfl ?_
        refine w_nil ?_
        refine x_next ?_
        (refine c_dec rfl (fun hc319 => ?_) (fun hc319 => ?_) <;> try (first | exact absurd rfl hc319 | contradiction | exact Bool.noConfusion (show false = true from hc319.symm.trans (by assumption)) | exact Bool.noConfusion (show true = false from hc319.symm.trans (by assumption)) | (exfalso; omega) | (exfalso; simp only [*, Bool.not_true, Bool.not_false, reduceCtorEq] at hc319; done)))
        refine c_skip ?_
        refine x_next ?_
        refine c_seq ?_
        refine c_region ?_
        refine w_pure (y_move rfl) rfl ?_
        refine w_pure (y_ne rfl rfl) rfl ?_
        refine w_pure (y_move rfl) rfl ?_
        (refine w_part_dec rfl rfl (fun hc323 => ?_) (fun hc323 => ?_) <;> try (first | exact absurd rfl hc323 | contradiction | exact Bool.noConfusion (show false = true from hc323.symm.trans (by assumption)) | exact Bool.noConfusion (show true = false from hc323.symm.trans (by assumption)) | (exfalso; omega) | (exfalso; simp only [*, Bool.not_true, Bool.not_false, reduceCtorEq] at hc323; done)))
        refine w_no rfl rfl rfl rfl ?_
        refine w_no rfl rfl rfl rfl ?_
        refine w_no rfl rfl rfl rfl ?_
        refine w_no rfl rfl rfl rfl ?_
        refine w_no rfl rfl rfl rfl ?_
        refine w_no rfl rfl rfl rfl ?_
        refine w_none rfl rfl rfl ?_
        refine w_none rfl rfl rfl ?_
        refine w_no rfl rfl rfl rfl ?_
        refine w_no rfl rfl rfl rfl ?_
        refine w_none rfl rfl rfl ?_
        refine w_none rfl rfl rfl ?_
        refine w_no rfl rfl rfl rfl ?_
        refine w_pure (y_pick_t rfl rfl) rfl ?_
        refine w_pure (y_assign rfl) rfl ?_
        refine w_nil ?_
        refine x_next ?_
        refine c_ret ?_
        rotate_left
        refine w_yes rfl rfl ?_
        refine w_pure (y_move rfl) rfl ?_
        refine w_yes rfl rfl ?_
        refine w_pure (y_move rfl) rfl ?_
        refine w_yes rfl rfl ?_
        refine w_pure (y_move rfl) rfl ?_
        refine w_yes rfl rfl ?_
        refine w_pure (y_mul rfl rfl) rfl ?_
        refine w_yes rfl rfl ?_
        refine w_pure (y_eq rfl rfl) rfl ?_
        refine w_yes rfl rfl ?_
        refine w_pure (y_move rfl) rfl ?_
        (refine w_part_dec rfl rfl (fun hc329 => ?_) (fun hc329 => ?_) <;> try (first | exact absurd rfl hc329 | contradiction | exact Bool.noConfusion (show false = true from hc329.symm.trans (by assumption)) | exact Bool.noConfusion (show true = false from hc329.symm.trans (by assumption)) | (exfalso; omega) | (exfalso; simp only [*, Bool.not_true, Bool.not_false, reduceCtorEq] at hc329; done)))
        refine w_yes rfl rfl ?_
        refine w_pure (y_move rfl) rfl ?_
        refine w_yes rfl rfl ?_
        refine w_pure (y_ge rfl rfl) rfl ?_
        refine w_yes rfl rfl ?_
        refine w_pure (y_pick_t rfl rfl) rfl ?_
        refine w_yes rfl rfl ?_
        refine w_pure (y_move rfl) rfl ?_
        (refine w_part_dec rfl rfl (fun hc333 => ?_) (fun hc333 => ?_) <;> try (first | exact absurd rfl hc333 | contradiction | exact Bool.noConfusion (show false = true from hc333.symm.trans (by assumption)) | exact Bool.noConfusion (show true = false from hc333.symm.trans (by assumption)) | (exfalso; omega) | (exfalso; simp only [*, Bool.not_true, Bool.not_false, reduceCtorEq] at hc333; done)))
        refine w_yes rfl rfl ?_
        refine w_pure (y_move rfl) rfl ?_
        refine w_yes rfl rfl ?_
        refine w_pure (y_le rfl rfl) rfl ?_
        refine w_yes rfl rfl ?_
        refine w_pure (y_pick_t rfl rfl) rfl ?_
        refine w_pure (y_pick_f rfl rfl) rfl ?_
        refine w_pure (y_assign rfl) rfl ?_
        refine w_nil ?_
        refine x_next ?_
        refine c_ret ?_
        rotate_left
      all_goals first
        | exact x_retv [_] rfl ⟨rfl, trivial⟩ ⟨rfl, E.go⟩
        | exact x_retv [_] rfl ⟨rfl, trivial⟩ ⟨by show Value.bool (decide _) = _; rw [decide_eq_true (by omega)], E.go⟩
  · refine W.sub [(3, .int .i64 a57), (4, .int .i64 e57), (5, .int .i64 M), (6, .int .i64 Y), (7, .int .i64 PC)] ?_ ?_
    · set_option maxRecDepth 20000 in exact ⟨rfl, rfl, rfl, rfl, rfl, trivial⟩
    · focus
        refine w_pure (y_move rfl) rfl ?_
        refine w_pure (y_ne rfl rfl) rfl ?_
        refine w_pure (y_move rfl) rfl ?_
        (refine w_part_dec rfl rfl (fun hc323 => ?_) (fun hc323 => ?_) <;> try (first | exact absurd rfl hc323 | contradiction | exact Bool.noConfusion (show false = true from hc323.symm.trans (by assumption)) | exact Bool.noConfusion (show true = false from hc323.symm.trans (by assumption)) | (exfalso; omega) | (exfalso; simp only [*, Bool.not_true, Bool.not_false, reduceCtorEq] at hc323; done)))
        refine w_no rfl rfl rfl rfl ?_
        refine w_no rfl rfl rfl rfl ?_
        refine w_no rfl rfl rfl rfl ?_
        refine w_no rfl rfl rfl rfl ?_
        refine w_no rfl rfl rfl rfl ?_
        refine w_no rfl rfl rfl rfl ?_
        refine w_none rfl rfl rfl ?_
        refine w_none rfl rfl rfl ?_
        refine w_no rfl rfl rfl rfl ?_
        refine w_no rfl rfl rfl rfl ?_
        refine w_none rfl rfl rfl ?_
        refine w_none rfl rfl rfl ?_
        refine w_no rfl rfl rfl rfl ?_
        refine w_pure (y_pick_t rfl rfl) rfl ?_
        refine w_pure (y_assign rfl) rfl ?_
        refine w_nil ?_
        refine x_next ?_
        refine c_ret ?_
        rotate_left
        refine w_yes rfl rfl ?_
        refine w_pure (y_move rfl) rfl ?_
        refine w_yes rfl rfl ?_
        refine w_pure (y_move rfl) rfl ?_
        refine w_yes rfl rfl ?_
        refine w_pure (y_move rfl) rfl ?_
        refine w_yes rfl rfl ?_
        refine w_pure (y_mul rfl rfl) rfl ?_
        refine w_yes rfl rfl ?_
        refine w_pure (y_eq rfl rfl) rfl ?_
        refine w_yes rfl rfl ?_
        refine w_pure (y_move rfl) rfl ?_
        (refine w_part_dec rfl rfl (fun hc329 => ?_) (fun hc329 => ?_) <;> try (first | exact absurd rfl hc329 | contradiction | exact Bool.noConfusion (show false = true from hc329.symm.trans (by assumption)) | exact Bool.noConfusion (show true = false from hc329.symm.trans (by assumption)) | (exfalso; omega) | (exfalso; simp only [*, Bool.not_true, Bool.not_false, reduceCtorEq] at hc329; done)))
        refine w_yes rfl rfl ?_
        refine w_pure (y_move rfl) rfl ?_
        refine w_yes rfl rfl ?_
        refine w_pure (y_ge rfl rfl) rfl ?_
        refine w_yes rfl rfl ?_
        refine w_pure (y_pick_t rfl rfl) rfl ?_
        refine w_yes rfl rfl ?_
        refine w_pure (y_move rfl) rfl ?_
        (refine w_part_dec rfl rfl (fun hc333 => ?_) (fun hc333 => ?_) <;> try (first | exact absurd rfl hc333 | contradiction | exact Bool.noConfusion (show false = true from hc333.symm.trans (by assumption)) | exact Bool.noConfusion (show true = false from hc333.symm.trans (by assumption)) | (exfalso; omega) | (exfalso; simp only [*, Bool.not_true, Bool.not_false, reduceCtorEq] at hc333; done)))
        refine w_yes rfl rfl ?_
        refine w_pure (y_move rfl) rfl ?_
        refine w_yes rfl rfl ?_
        refine w_pure (y_le rfl rfl) rfl ?_
        refine w_yes rfl rfl ?_
        refine w_pure (y_pick_t rfl rfl) rfl ?_
        refine w_pure (y_pick_f rfl rfl) rfl ?_
        refine w_pure (y_assign rfl) rfl ?_
        refine w_nil ?_
        refine x_next ?_
        refine c_ret ?_
        rotate_left
      all_goals first
        | exact x_retv [_] rfl ⟨rfl, trivial⟩ ⟨rfl, E.go⟩
        | exact x_retv [_] rfl ⟨rfl, trivial⟩ ⟨by show Value.bool (decide _) = _; rw [decide_eq_true (by omega)], E.go⟩
  · refine W.sub [(3, .int .i64 a57), (4, .int .i64 e57), (5, .int .i64 M), (6, .int .i64 Y), (7, .int .i64 PC)] ?_ ?_
    · set_option maxRecDepth 20000 in exact ⟨rfl, rfl, rfl, rfl, rfl, trivial⟩
    · focus
        refine w_pure (y_move rfl) rfl ?_
        refine w_pure (y_ne rfl rfl) rfl ?_
        refine w_pure (y_move rfl) rfl ?_
        (refine w_part_dec rfl rfl (fun hc323 => ?_) (fun hc323 => ?_) <;> try (first | exact absurd rfl hc323 | contradiction | exact Bool.noConfusion (show false = true from hc323.symm.trans (by assumption)) | exact Bool.noConfusion (show true = false from hc323.symm.trans (by assumption)) | (exfalso; omega) | (exfalso; simp only [*, Bool.not_true, Bool.not_false, reduceCtorEq] at hc323; done)))
        refine w_no rfl rfl rfl rfl ?_
        refine w_no rfl rfl rfl rfl ?_
        refine w_no rfl rfl rfl rfl ?_
        refine w_no rfl rfl rfl rfl ?_
        refine w_no rfl rfl rfl rfl ?_
        refine w_no rfl rfl rfl rfl ?_
        refine w_none rfl rfl rfl ?_
        refine w_none rfl rfl rfl ?_
        refine w_no rfl rfl rfl rfl ?_
        refine w_no rfl rfl rfl rfl ?_
        refine w_none rfl rfl rfl ?_
        refine w_none rfl rfl rfl ?_
        refine w_no rfl rfl rfl rfl ?_
        refine w_pure (y_pick_t rfl rfl) rfl ?_
        refine w_pure (y_assign rfl) rfl ?_
        refine w_nil ?_
        refine x_next ?_
        refine c_ret ?_
        rotate_left
        refine w_yes rfl rfl ?_
        refine w_pure (y_move rfl) rfl ?_
        refine w_yes rfl rfl ?_
        refine w_pure (y_move rfl) rfl ?_
        refine w_yes rfl rfl ?_
        refine w_pure (y_move rfl) rfl ?_
        refine w_yes rfl rfl ?_
        refine w_pure (y_mul rfl rfl) rfl ?_
        refine w_yes rfl rfl ?_
        refine w_pure (y_eq rfl rfl) rfl ?_
        refine w_yes rfl rfl ?_
        refine w_pure (y_move rfl) rfl ?_
        (refine w_part_dec rfl rfl (fun hc329 => ?_) (fun hc329 => ?_) <;> try (first | exact absurd rfl hc329 | contradiction | exact Bool.noConfusion (show false = true from hc329.symm.trans (by assumption)) | exact Bool.noConfusion (show true = false from hc329.symm.trans (by assumption)) | (exfalso; omega) | (exfalso; simp only [*, Bool.not_true, Bool.not_false, reduceCtorEq] at hc329; done)))
        refine w_yes rfl rfl ?_
        refine w_pure (y_move rfl) rfl ?_
        refine w_yes rfl rfl ?_
        refine w_pure (y_ge rfl rfl) rfl ?_
        refine w_yes rfl rfl ?_
        refine w_pure (y_pick_t rfl rfl) rfl ?_
        refine w_yes rfl rfl ?_
        refine w_pure (y_move rfl) rfl ?_
        (refine w_part_dec rfl rfl (fun hc333 => ?_) (fun hc333 => ?_) <;> try (first | exact absurd rfl hc333 | contradiction | exact Bool.noConfusion (show false = true from hc333.symm.trans (by assumption)) | exact Bool.noConfusion (show true = false from hc333.symm.trans (by assumption)) | (exfalso; omega) | (exfalso; simp only [*, Bool.not_true, Bool.not_false, reduceCtorEq] at hc333; done)))
        refine w_yes rfl rfl ?_
        refine w_pure (y_move rfl) rfl ?_
        refine w_yes rfl rfl ?_
        refine w_pure (y_le rfl rfl) rfl ?_
        refine w_yes rfl rfl ?_
        refine w_pure (y_pick_t rfl rfl) rfl ?_
        refine w_pure (y_pick_f rfl rfl) rfl ?_
        refine w_pure (y_assign rfl) rfl ?_
        refine w_nil ?_
        refine x_next ?_
        refine c_ret ?_
        rotate_left
      all_goals first
        | exact x_retv [_] rfl ⟨rfl, trivial⟩ ⟨rfl, E.go⟩
        | exact x_retv [_] rfl ⟨rfl, trivial⟩ ⟨by show Value.bool (decide _) = _; rw [decide_eq_true (by omega)], E.go⟩
  · refine c_loopC 0 0 (ι := Int) (fun x => [(3, .int .i64 a57), (4, .int .i64 e57), (5, .int .i64 M), (6, .int .i64 Y), (7, .int .i64 PC), (34, .int .i64 a128), (35, .int .i64 e128), (36, .int .i64 H), (50, .int .i64 (10 ^ x.toNat)), (51, .int .i64 x)]) (fun x w' => 0 ≤ x ∧ x ≤ e128) (fun x => (e128 - x).toNat) 0
      (by set_option maxRecDepth 20000 in exact ⟨rfl, rfl, rfl, rfl, rfl, rfl, rfl, rfl, congrArg (fun q => some (Value.int .i64 q)) (show (1 : Int) = 10 ^ (Int.toNat 0) by decide), rfl, trivial⟩) ⟨by omega, by omega⟩ ?_
    rintro y wL hxL EL ⟨hy0, hy1⟩
    have hzL := hxL.size
    have hpy : 0 < (10 : Int) ^ y.toNat ∧ (10 : Int) ^ y.toNat ≤ 1000000000 := ⟨pow10_pos _, pow10_le (k := y.toNat) (m := 9) (by omega)⟩
    by_cases hly : y < e128
    · focus
        have hz_hxL := hxL.size
        replace hT := hT.ext hxL
        replace h0 := h0.ext hxL
        replace E := E.trans hxL
        refine c_seq ?_
        refine c_seq ?_
        refine c_region ?_
        refine w_pure (y_move rfl) rfl ?_
        refine w_pure (y_move rfl) rfl ?_
        refine w_pure (y_lt rfl rfl) rfl ?_
        refine w_nil ?_
        refine x_next ?_
        (refine c_dec rfl (fun hc303 => ?_) (fun hc303 => ?_) <;> try (first | exact absurd rfl hc303 | contradiction | exact Bool.noConfusion (show false = true from hc303.symm.trans (by assumption)) | exact Bool.noConfusion (show true = false from hc303.symm.trans (by assumption)) | (exfalso; omega) | (exfalso; simp only [*, Bool.not_true, Bool.not_false, reduceCtorEq] at hc303; done)))
        refine c_skip ?_
        refine x_next ?_
        refine c_seq ?_
        refine c_block ?_
        refine c_region ?_
        refine w_pure (y_move rfl) rfl ?_
        refine w_pure (y_mul rfl rfl) rfl ?_
        refine w_pure (y_assign rfl) rfl ?_
        refine w_nil ?_
        refine x_block_norm ?_
        refine x_next ?_
        refine c_region ?_
        refine w_pure (y_move rfl) rfl ?_
        refine w_pure (y_add rfl rfl) rfl ?_
        refine w_pure (y_assign rfl) rfl ?_
        refine w_nil ?_
        rotate_left
      have z1 : 10 * (10 : Int) ^ y.toNat = 10 ^ (y + 1).toNat := by rw [pow10_succ _ hy0, Int.mul_comm]
      exact x_again (y + 1) ⟨rfl, rfl, rfl, rfl, rfl, rfl, rfl, rfl, congrArg (fun q => some (Value.int .i64 q)) z1, rfl, trivial⟩ ⟨EL.go, by omega, by omega⟩ (by omega)
    · have ey : (10 : Int) ^ y.toNat = X := by rw [show y = e128 by omega]; exact hX
      rw [ey]
      clear hpy ey
      have hHV := (hH hc298).2.2
      rw [← hHV] at hB
      clear hHV
      focus
        have hz_hxL := hxL.size
        replace hT := hT.ext hxL
        replace h0 := h0.ext hxL
        replace E := E.trans hxL
        refine c_seq ?_
        refine c_seq ?_
        refine c_region ?_
        refine w_pure (y_move rfl) rfl ?_
        refine w_pure (y_move rfl) rfl ?_
        refine w_pure (y_lt rfl rfl) rfl ?_
        refine w_nil ?_
        refine x_next ?_
        (refine c_dec rfl (fun hc303 => ?_) (fun hc303 => ?_) <;> try (first | exact absurd rfl hc303 | contradiction | exact Bool.noConfusion (show false = true from hc303.symm.trans (by assumption)) | exact Bool.noConfusion (show true = false from hc303.symm.trans (by assumption)) | (exfalso; omega) | (exfalso; simp only [*, Bool.not_true, Bool.not_false, reduceCtorEq] at hc303; done)))
        refine c_exit ?_
        refine x_then_exit ?_
        refine x_then_exit ?_
        refine x_block_hit ?_
        refine x_next ?_
        refine c_seq ?_
        refine c_region ?_
        refine w_pure (y_move rfl) rfl ?_
        refine w_pure (y_move rfl) rfl ?_
        refine w_pure (y_mul rfl rfl) rfl ?_
        refine w_pure (y_move rfl) rfl ?_
        refine w_pure (y_sub rfl rfl) rfl ?_
        refine w_pure (y_assign rfl) rfl ?_
        refine w_nil ?_
        refine x_next ?_
        refine c_seq ?_
        refine c_region ?_
        refine w_pure (y_move rfl) rfl ?_
        refine w_pure (y_move rfl) rfl ?_
        refine w_pure (y_neg rfl) rfl ?_
        refine w_pure (y_max rfl rfl) rfl ?_
        refine w_pure (y_mul rfl rfl) rfl ?_
        refine w_pure (y_move rfl) rfl ?_
        refine w_pure (y_gt rfl rfl) rfl ?_
        refine w_nil ?_
        refine x_next ?_
        (refine c_dec rfl (fun hc319 => ?_) (fun hc319 => ?_) <;> try (first | exact absurd rfl hc319 | contradiction | exact Bool.noConfusion (show false = true from hc319.symm.trans (by assumption)) | exact Bool.noConfusion (show true = false from hc319.symm.trans (by assumption)) | (exfalso; omega) | (exfalso; simp only [*, Bool.not_true, Bool.not_false, reduceCtorEq] at hc319; done)))
        refine c_skip ?_
        refine x_next ?_
        refine c_seq ?_
        refine c_region ?_
        refine w_pure (y_move rfl) rfl ?_
        refine w_pure (y_ne rfl rfl) rfl ?_
        refine w_pure (y_move rfl) rfl ?_
        (refine w_part_dec rfl rfl (fun hc323 => ?_) (fun hc323 => ?_) <;> try (first | exact absurd rfl hc323 | contradiction | exact Bool.noConfusion (show false = true from hc323.symm.trans (by assumption)) | exact Bool.noConfusion (show true = false from hc323.symm.trans (by assumption)) | (exfalso; omega) | (exfalso; simp only [*, Bool.not_true, Bool.not_false, reduceCtorEq] at hc323; done)))
        refine w_no rfl rfl rfl rfl ?_
        refine w_no rfl rfl rfl rfl ?_
        refine w_no rfl rfl rfl rfl ?_
        refine w_no rfl rfl rfl rfl ?_
        refine w_no rfl rfl rfl rfl ?_
        refine w_no rfl rfl rfl rfl ?_
        refine w_none rfl rfl rfl ?_
        refine w_none rfl rfl rfl ?_
        refine w_no rfl rfl rfl rfl ?_
        refine w_no rfl rfl rfl rfl ?_
        refine w_none rfl rfl rfl ?_
        refine w_none rfl rfl rfl ?_
        refine w_no rfl rfl rfl rfl ?_
        refine w_pure (y_pick_t rfl rfl) rfl ?_
        refine w_pure (y_assign rfl) rfl ?_
        refine w_nil ?_
        refine x_next ?_
        refine c_ret ?_
        rotate_left
        refine w_yes rfl rfl ?_
        refine w_pure (y_move rfl) rfl ?_
        refine w_yes rfl rfl ?_
        refine w_pure (y_move rfl) rfl ?_
        refine w_yes rfl rfl ?_
        refine w_pure (y_move rfl) rfl ?_
        refine w_yes rfl rfl ?_
        refine w_pure (y_mul rfl rfl) rfl ?_
        refine w_yes rfl rfl ?_
        refine w_pure (y_eq rfl rfl) rfl ?_
        refine w_yes rfl rfl ?_
        refine w_pure (y_move rfl) rfl ?_
        (refine w_part_dec rfl rfl (fun hc329 => ?_) (fun hc329 => ?_) <;> try (first | exact absurd rfl hc329 | contradiction | exact Bool.noConfusion (show false = true from hc329.symm.trans (by assumption)) | exact Bool.noConfusion (show true = false from hc329.symm.trans (by assumption)) | (exfalso; omega) | (exfalso; simp only [*, Bool.not_true, Bool.not_false, reduceCtorEq] at hc329; done)))
        refine w_yes rfl rfl ?_
        refine w_pure (y_move rfl) rfl ?_
        refine w_yes rfl rfl ?_
        refine w_pure (y_ge rfl rfl) rfl ?_
        refine w_yes rfl rfl ?_
        refine w_pure (y_pick_t rfl rfl) rfl ?_
        refine w_yes rfl rfl ?_
        refine w_pure (y_move rfl) rfl ?_
        (refine w_part_dec rfl rfl (fun hc333 => ?_) (fun hc333 => ?_) <;> try (first | exact absurd rfl hc333 | contradiction | exact Bool.noConfusion (show false = true from hc333.symm.trans (by assumption)) | exact Bool.noConfusion (show true = false from hc333.symm.trans (by assumption)) | (exfalso; omega) | (exfalso; simp only [*, Bool.not_true, Bool.not_false, reduceCtorEq] at hc333; done)))
        refine w_yes rfl rfl ?_
        refine w_pure (y_move rfl) rfl ?_
        refine w_yes rfl rfl ?_
        refine w_pure (y_le rfl rfl) rfl ?_
        refine w_yes rfl rfl ?_
        refine w_pure (y_pick_t rfl rfl) rfl ?_
        refine w_pure (y_pick_f rfl rfl) rfl ?_
        refine w_pure (y_assign rfl) rfl ?_
        refine w_nil ?_
        refine x_next ?_
        refine c_ret ?_
        rotate_left
      all_goals first
        | exact x_retv [_] rfl ⟨rfl, trivial⟩ ⟨rfl, E.go⟩
        | exact x_retv [_] rfl ⟨rfl, trivial⟩ ⟨by show Value.bool (decide _) = _; rw [decide_eq_true (by omega)], E.go⟩
  · refine W.sub [(3, .int .i64 a57), (4, .int .i64 e57), (5, .int .i64 M), (6, .int .i64 Y), (7, .int .i64 PC)] ?_ ?_
    · set_option maxRecDepth 20000 in exact ⟨rfl, rfl, rfl, rfl, rfl, trivial⟩
    · focus
        refine w_pure (y_move rfl) rfl ?_
        refine w_pure (y_ne rfl rfl) rfl ?_
        refine w_pure (y_move rfl) rfl ?_
        (refine w_part_dec rfl rfl (fun hc323 => ?_) (fun hc323 => ?_) <;> try (first | exact absurd rfl hc323 | contradiction | exact Bool.noConfusion (show false = true from hc323.symm.trans (by assumption)) | exact Bool.noConfusion (show true = false from hc323.symm.trans (by assumption)) | (exfalso; omega) | (exfalso; simp only [*, Bool.not_true, Bool.not_false, reduceCtorEq] at hc323; done)))
        refine w_no rfl rfl rfl rfl ?_
        refine w_no rfl rfl rfl rfl ?_
        refine w_no rfl rfl rfl rfl ?_
        refine w_no rfl rfl rfl rfl ?_
        refine w_no rfl rfl rfl rfl ?_
        refine w_no rfl rfl rfl rfl ?_
        refine w_none rfl rfl rfl ?_
        refine w_none rfl rfl rfl ?_
        refine w_no rfl rfl rfl rfl ?_
        refine w_no rfl rfl rfl rfl ?_
        refine w_none rfl rfl rfl ?_
        refine w_none rfl rfl rfl ?_
        refine w_no rfl rfl rfl rfl ?_
        refine w_pure (y_pick_t rfl rfl) rfl ?_
        refine w_pure (y_assign rfl) rfl ?_
        refine w_nil ?_
        refine x_next ?_
        refine c_ret ?_
        rotate_left
        refine w_yes rfl rfl ?_
        refine w_pure (y_move rfl) rfl ?_
        refine w_yes rfl rfl ?_
        refine w_pure (y_move rfl) rfl ?_
        refine w_yes rfl rfl ?_
        refine w_pure (y_move rfl) rfl ?_
        refine w_yes rfl rfl ?_
        refine w_pure (y_mul rfl rfl) rfl ?_
        refine w_yes rfl rfl ?_
        refine w_pure (y_eq rfl rfl) rfl ?_
        refine w_yes rfl rfl ?_
        refine w_pure (y_move rfl) rfl ?_
        (refine w_part_dec rfl rfl (fun hc329 => ?_) (fun hc329 => ?_) <;> try (first | exact absurd rfl hc329 | contradiction | exact Bool.noConfusion (show false = true from hc329.symm.trans (by assumption)) | exact Bool.noConfusion (show true = false from hc329.symm.trans (by assumption)) | (exfalso; omega) | (exfalso; simp only [*, Bool.not_true, Bool.not_false, reduceCtorEq] at hc329; done)))
        refine w_yes rfl rfl ?_
        refine w_pure (y_move rfl) rfl ?_
        refine w_yes rfl rfl ?_
        refine w_pure (y_ge rfl rfl) rfl ?_
        refine w_yes rfl rfl ?_
        refine w_pure (y_pick_t rfl rfl) rfl ?_
        refine w_yes rfl rfl ?_
        refine w_pure (y_move rfl) rfl ?_
        (refine w_part_dec rfl rfl (fun hc333 => ?_) (fun hc333 => ?_) <;> try (first | exact absurd rfl hc333 | contradiction | exact Bool.noConfusion (show false = true from hc333.symm.trans (by assumption)) | exact Bool.noConfusion (show true = false from hc333.symm.trans (by assumption)) | (exfalso; omega) | (exfalso; simp only [*, Bool.not_true, Bool.not_false, reduceCtorEq] at hc333; done)))
        refine w_yes rfl rfl ?_
        refine w_pure (y_move rfl) rfl ?_
        refine w_yes rfl rfl ?_
        refine w_pure (y_le rfl rfl) rfl ?_
        refine w_yes rfl rfl ?_
        refine w_pure (y_pick_t rfl rfl) rfl ?_
        refine w_pure (y_pick_f rfl rfl) rfl ?_
        refine w_pure (y_assign rfl) rfl ?_
        refine w_nil ?_
        refine x_next ?_
        refine c_ret ?_
        rotate_left
      all_goals first
        | exact x_retv [_] rfl ⟨rfl, trivial⟩ ⟨rfl, E.go⟩
        | exact x_retv [_] rfl ⟨rfl, trivial⟩ ⟨by show Value.bool (decide _) = _; rw [decide_eq_true (by omega)], E.go⟩
  · refine W.sub [(3, .int .i64 a57), (4, .int .i64 e57), (5, .int .i64 M), (6, .int .i64 Y), (7, .int .i64 PC)] ?_ ?_
    · set_option maxRecDepth 20000 in exact ⟨rfl, rfl, rfl, rfl, rfl, trivial⟩
    · focus
        refine w_pure (y_move rfl) rfl ?_
        refine w_pure (y_ne rfl rfl) rfl ?_
        refine w_pure (y_move rfl) rfl ?_
        (refine w_part_dec rfl rfl (fun hc323 => ?_) (fun hc323 => ?_) <;> try (first | exact absurd rfl hc323 | contradiction | exact Bool.noConfusion (show false = true from hc323.symm.trans (by assumption)) | exact Bool.noConfusion (show true = false from hc323.symm.trans (by assumption)) | (exfalso; omega) | (exfalso; simp only [*, Bool.not_true, Bool.not_false, reduceCtorEq] at hc323; done)))
        refine w_no rfl rfl rfl rfl ?_
        refine w_no rfl rfl rfl rfl ?_
        refine w_no rfl rfl rfl rfl ?_
        refine w_no rfl rfl rfl rfl ?_
        refine w_no rfl rfl rfl rfl ?_
        refine w_no rfl rfl rfl rfl ?_
        refine w_none rfl rfl rfl ?_
        refine w_none rfl rfl rfl ?_
        refine w_no rfl rfl rfl rfl ?_
        refine w_no rfl rfl rfl rfl ?_
        refine w_none rfl rfl rfl ?_
        refine w_none rfl rfl rfl ?_
        refine w_no rfl rfl rfl rfl ?_
        refine w_pure (y_pick_t rfl rfl) rfl ?_
        refine w_pure (y_assign rfl) rfl ?_
        refine w_nil ?_
        refine x_next ?_
        refine c_ret ?_
        rotate_left
        refine w_yes rfl rfl ?_
        refine w_pure (y_move rfl) rfl ?_
        refine w_yes rfl rfl ?_
        refine w_pure (y_move rfl) rfl ?_
        refine w_yes rfl rfl ?_
        refine w_pure (y_move rfl) rfl ?_
        refine w_yes rfl rfl ?_
        refine w_pure (y_mul rfl rfl) rfl ?_
        refine w_yes rfl rfl ?_
        refine w_pure (y_eq rfl rfl) rfl ?_
        refine w_yes rfl rfl ?_
        refine w_pure (y_move rfl) rfl ?_
        (refine w_part_dec rfl rfl (fun hc329 => ?_) (fun hc329 => ?_) <;> try (first | exact absurd rfl hc329 | contradiction | exact Bool.noConfusion (show false = true from hc329.symm.trans (by assumption)) | exact Bool.noConfusion (show true = false from hc329.symm.trans (by assumption)) | (exfalso; omega) | (exfalso; simp only [*, Bool.not_true, Bool.not_false, reduceCtorEq] at hc329; done)))
        refine w_yes rfl rfl ?_
        refine w_pure (y_move rfl) rfl ?_
        refine w_yes rfl rfl ?_
        refine w_pure (y_ge rfl rfl) rfl ?_
        refine w_yes rfl rfl ?_
        refine w_pure (y_pick_t rfl rfl) rfl ?_
        refine w_yes rfl rfl ?_
        refine w_pure (y_move rfl) rfl ?_
        (refine w_part_dec rfl rfl (fun hc333 => ?_) (fun hc333 => ?_) <;> try (first | exact absurd rfl hc333 | contradiction | exact Bool.noConfusion (show false = true from hc333.symm.trans (by assumption)) | exact Bool.noConfusion (show true = false from hc333.symm.trans (by assumption)) | (exfalso; omega) | (exfalso; simp only [*, Bool.not_true, Bool.not_false, reduceCtorEq] at hc333; done)))
        refine w_yes rfl rfl ?_
        refine w_pure (y_move rfl) rfl ?_
        refine w_yes rfl rfl ?_
        refine w_pure (y_le rfl rfl) rfl ?_
        refine w_yes rfl rfl ?_
        refine w_pure (y_pick_t rfl rfl) rfl ?_
        refine w_pure (y_pick_f rfl rfl) rfl ?_
        refine w_pure (y_assign rfl) rfl ?_
        refine w_nil ?_
        refine x_next ?_
        refine c_ret ?_
        rotate_left
      all_goals first
        | exact x_retv [_] rfl ⟨rfl, trivial⟩ ⟨rfl, E.go⟩
        | exact x_retv [_] rfl ⟨rfl, trivial⟩ ⟨by show Value.bool (decide _) = _; rw [decide_eq_true (by omega)], E.go⟩
end
end Go.Proofs.YtgkljfncpgbngaaDoor

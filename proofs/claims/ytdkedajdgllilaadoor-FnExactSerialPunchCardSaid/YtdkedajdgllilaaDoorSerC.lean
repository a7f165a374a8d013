/- Contracts: serial numbers. -/
import Derived.Test.YtdkedajdgllilaaDoorSerB
import Derived.Test.YtdkedajdgllilaaDoorRepB
import Derived.Test.YtdkedajdgllilaaDoorSetA
namespace Go.Proofs.YtdkedajdgllilaaDoor
open Go Go.Gw
set_option linter.unusedVariables false
set_option linter.unusedSimpArgs false
theorem cSer_1 {xss : List (List Int)} {f t first : Int} (h : okD xss = false) : cSer xss f t first = 1 := by simp [cSer, h]
theorem cSer_2 {xss : List (List Int)} {f t first : Int} (h : okD xss = true) (h2 : ¬ ((0 ≤ f ∧ f < t ∧ t ≤ widD xss) ∧ t - f ≤ 12 ∧ 0 ≤ first ∧ first ≤ 999999999999)) : cSer xss f t first = 2 := by rw [cSer, if_pos h, if_neg h2]
theorem cSer_s {xss : List (List Int)} {f t first : Int} (h : okD xss = true) (h2 : (0 ≤ f ∧ f < t ∧ t ≤ widD xss) ∧ t - f ≤ 12 ∧ 0 ≤ first ∧ first ≤ 999999999999) : cSer xss f t first = serF xss f t first 0 := by rw [cSer, if_pos h, if_pos h2]
theorem serAt_len {xss : List (List Int)} {f t first : Int} (h : okD xss = true) (h2 : 0 ≤ f ∧ f < t ∧ t ≤ widD xss) {i : Nat} (hi : i < xss.length) : (serAt xss f t first i).length = (xss.getD i []).length := by
  have := widD_at h i hi
  exact putF_len (by omega) (by rw [pun_len]; omega)
theorem set_own {α : Type} {d : α} {xs : List α} {i : Nat} : xs.set i (xs.getD i d) = xs := by
  apply List.ext_getElem?
  intro j
  rw [List.getElem?_set]
  split
  · rename_i e
    subst e
    split
    · rename_i h; rw [List.getD_eq_getElem?_getD, List.getElem?_eq_getElem h]; rfl
    · rename_i h; rw [List.getElem?_eq_none (by omega)]
  · rfl
theorem put_step {c P : List Int} {f x : Int} (h0 : 0 ≤ f ∧ 0 ≤ x) (h1 : f + x < c.length) (h2 : x < P.length) : (putF c f (f + x) (P.take x.toNat)).set (f + x).toNat (P.getD x.toNat 0) = putF c f (f + (x + 1)) (P.take (x + 1).toNat) := by
  have a1 : (c.take f.toNat).length = f.toNat := by rw [List.length_take]; omega
  have a2 : (P.take x.toNat).length = x.toNat := by rw [List.length_take]; omega
  have a3 : (c.take f.toNat ++ P.take x.toNat).length = (f + x).toNat := by rw [List.length_append]; omega
  unfold putF
  rw [List.set_append_right _ _ (by omega), a3, Nat.sub_self, List.drop_eq_getElem_cons (show (f + x).toNat < c.length by omega), List.set_cons_zero, show (x + 1).toNat = x.toNat + 1 by omega, List.take_add_one, show P[x.toNat]? = some (P.getD x.toNat 0) by rw [List.getD_eq_getElem?_getD, List.getElem?_eq_getElem (by omega)]; rfl, show (f + (x + 1)).toNat = (f + x).toNat + 1 by omega]
  simp
theorem put_zero {c P : List Int} {f : Int} : putF c f (f + 0) (P.take (Int.toNat 0)) = c := by
  unfold putF
  rw [Int.add_zero, show Int.toNat 0 = 0 from rfl, List.take_zero, List.append_nil, List.take_append_drop]
theorem put_lenx {c P : List Int} {f x : Int} (h0 : 0 ≤ f ∧ 0 ≤ x) (h1 : f + x ≤ c.length) (h2 : x ≤ P.length) : (putF c f (f + x) (P.take x.toNat)).length = c.length := by
  simp only [putF, List.length_append, List.length_take, List.length_drop]; omega
theorem put_get {c P : List Int} {f x : Int} (h0 : 0 ≤ f ∧ 0 ≤ x) (h1 : f + x < c.length) (h2 : x ≤ P.length) : (putF c f (f + x) (P.take x.toNat)).getD (f + x).toNat 0 = c.getD (f + x).toNat 0 := by
  have a3 : (c.take f.toNat ++ P.take x.toNat).length = (f + x).toNat := by rw [List.length_append, List.length_take, List.length_take]; omega
  unfold putF
  rw [List.getD_eq_getElem?_getD, List.getElem?_append_right (by omega), a3, Nat.sub_self, List.getElem?_drop, Nat.add_zero, List.getD_eq_getElem?_getD]
theorem resSer_bd (xss : List (List Int)) (f t first : Int) : totD (resSer xss f t first) ≤ 800 ∧ (resSer xss f t first).length ≤ 40 := by
  unfold resSer
  split
  · rename_i h
    cases hk : okD xss
    · rw [cSer_1 hk] at h; cases h
    by_cases h2 : (0 ≤ f ∧ f < t ∧ t ≤ widD xss) ∧ t - f ≤ 12 ∧ 0 ≤ first ∧ first ≤ 999999999999
    · refine deck_bd hk (serL_len _ _ _ _) (fun i hi => ?_)
      rw [List.getD_eq_getElem?_getD, serL_get hi]
      exact serAt_len hk h2.1 hi
    · rw [cSer_2 hk h2] at h; cases h
  · simp [totD, tot]
section
variable {w : World} {lo hi B e : Nat} {v : Value} {xs : List Int} {xss : List (List Int)} {svs : List SV} {f t first : Int}
theorem SerialPunch1_c (x : Int) : Pur Tryd.prog 82 [.int .i64 x] (.bool (decide (¬ x = 0))) := by
  refine ⟨fun w => ?_⟩
  refine ret_enter Tryd.func82 rfl Tryd.ntmps82 rfl ?_
  focus
    refine c_seq ?_
    refine c_region ?_
    refine w_pure (y_assign rfl) rfl ?_
    refine w_nil ?_
    refine x_next ?_
    refine c_seq ?_
    refine c_region ?_
    refine w_pure (y_move rfl) rfl ?_
    refine w_pure (y_ne rfl rfl) rfl ?_
    refine w_pure (y_assign rfl) rfl ?_
    refine w_nil ?_
    refine x_next ?_
    refine c_ret ?_
    rotate_left
  exact x_retv [_] rfl ⟨rfl, trivial⟩ ⟨rfl, rfl⟩
theorem iSerialPunch_c (hT : Tab B w := by assumption) (h : SLL w lo hi svs v xss := by repeat (first | assumption | exact Go.Gw.Own.sl (by assumption) | exact Go.Gw.Box.at (by assumption) | exact Go.Gw.SLL.el (by first | assumption | exact Go.Gw.OwnD.sll (by assumption)) _ (by omega) | exact Go.Gw.SLL.at (by first | assumption | exact Go.Gw.OwnD.sll (by assumption)) (by omega) | exact Go.Gw.OwnD.sll (by assumption) | (apply Go.Gw.SL.chg; case hx => assumption) | (apply Go.Gw.Own.chg; case hx => assumption) | (apply Go.Gw.Box.chg; case hx => assumption) | (apply Go.Gw.At.chg; case hx => assumption) | exact .inl (Nat.zero_le _) | exact .inr (Nat.zero_le _) | (show _ ∨ _; omega))) (hi64 : In64 f ∧ In64 t ∧ In64 first := by exact ⟨by assumption, by assumption, by assumption⟩) : Ret Tryd.prog 11 [v, .agg #[.int .i64 f, .int .i64 t], .int .i64 first] w fun u w' => ∃ d sus, u = .tuple #[d, .int .i64 (cSer xss f t first)] ∧ OwnD w' 85 w.heap.size w'.heap.size sus d (resSer xss f t first) ∧ Ext w w' := by
  obtain ⟨⟨f1, f2⟩, ⟨t1, t2⟩, ⟨n1, n2⟩⟩ := hi64
  have E : Since 0 0 w w := Since.refl 0 0 w
  cases hk : okD xss
  · refine ret_enter Tryd.func11 rfl Tryd.ntmps11 rfl ?_
    focus
      have ht_hT := hT.top
      have ht_h := h.top
      refine c_seq ?_
      refine c_region ?_
      refine w_box rfl (k := fun b4 w4 hb4 hx4 hl4 hs4 => ?_)
      have hz_hx4 := hx4.size
      replace hT := hT.ext hx4
      replace h := h.ext hx4
      replace E := E.trans hx4
      refine w_pure (y_assign rfl) rfl ?_
      refine w_pure (y_assign rfl) rfl ?_
      refine w_nil ?_
      refine x_next ?_
      refine c_seq ?_
      refine c_block ?_
      refine c_seq ?_
      refine c_region ?_
      refine w_pure (y_move rfl) rfl ?_
      refine w_val rfl rfl rfl (iValidDeck_c) rfl (fun w14 hx14 hz14 => ?_)
      have hz_hx14 := hx14.size
      replace hb4 := hb4.ext hx14
      replace hT := hT.ext hx14
      replace h := h.ext hx14
      replace E := E.trans hx14
      refine w_pure (y_not rfl) rfl ?_
      refine w_pure (y_assign rfl) rfl ?_
      refine w_nil ?_
      refine x_next ?_
      (refine c_not rfl (fun hc12 => ?_) (fun hc12 => ?_) <;> try (first | exact absurd rfl hc12 | contradiction | exact Bool.noConfusion (show false = true from hc12.symm.trans (by assumption)) | exact Bool.noConfusion (show true = false from hc12.symm.trans (by assumption)) | (exfalso; omega) | (exfalso; simp only [*, Bool.not_true, Bool.not_false, reduceCtorEq] at hc12; done)))
      refine c_seq ?_
      refine c_region ?_
      refine w_pure (y_assign rfl) rfl ?_
      refine w_pure (y_assign rfl) rfl ?_
      refine w_nil ?_
      refine x_next ?_
      refine c_ret ?_
      refine x_block_ret ?_
      refine x_then_ret ?_
      rotate_left
    exact x_retv [_, _] rfl ⟨rfl, rfl, trivial⟩ ⟨_, [], by rw [cSer_1 hk]; rfl, by unfold resSer; rw [cSer_1 hk, if_neg (by decide)]; exact OwnD.nil _ _ _ _ (Nat.le_refl _), E.go⟩
  have hwb := widD_bd hk
  by_cases h2 : (0 ≤ f ∧ f < t ∧ t ≤ widD xss) ∧ t - f ≤ 12 ∧ 0 ≤ first ∧ first ≤ 999999999999
  case neg =>
    refine ret_enter Tryd.func11 rfl Tryd.ntmps11 rfl ?_
    focus
      have ht_hT := hT.top
      have ht_h := h.top
      refine c_seq ?_
      refine c_region ?_
      refine w_box rfl (k := fun b4 w4 hb4 hx4 hl4 hs4 => ?_)
      have hz_hx4 := hx4.size
      replace hT := hT.ext hx4
      replace h := h.ext hx4
      replace E := E.trans hx4
      refine w_pure (y_assign rfl) rfl ?_
      refine w_pure (y_assign rfl) rfl ?_
      refine w_nil ?_
      refine x_next ?_
      refine c_seq ?_
      refine c_block ?_
      refine c_seq ?_
      refine c_region ?_
      refine w_pure (y_move rfl) rfl ?_
      refine w_val rfl rfl rfl (iValidDeck_c) rfl (fun w14 hx14 hz14 => ?_)
      have hz_hx14 := hx14.size
      replace hb4 := hb4.ext hx14
      replace hT := hT.ext hx14
      replace h := h.ext hx14
      replace E := E.trans hx14
      refine w_pure (y_not rfl) rfl ?_
      refine w_pure (y_assign rfl) rfl ?_
      refine w_nil ?_
      refine x_next ?_
      (refine c_not rfl (fun hc12 => ?_) (fun hc12 => ?_) <;> try (first | exact absurd rfl hc12 | contradiction | exact Bool.noConfusion (show false = true from hc12.symm.trans (by assumption)) | exact Bool.noConfusion (show true = false from hc12.symm.trans (by assumption)) | (exfalso; omega) | (exfalso; simp only [*, Bool.not_true, Bool.not_false, reduceCtorEq] at hc12; done)))
      refine c_seq ?_
      refine c_region_held mixed (fun wr3 hxr3 hzr3 => ?_)
      have hz_hxr3 := hxr3.size
      replace hb4 := hb4.ext hxr3
      replace hT := hT.ext hxr3
      replace h := h.ext hxr3
      replace E := E.trans hxr3
      refine h_pure rfl (y_load_boxs rfl) rfl ?_
      refine h_pure rfl (y_move rfl) rfl ?_
      refine h_one rfl ?_
      refine w_val rfl rfl rfl (deckColumns_c) rfl (fun w19 hx19 hz19 => ?_)
      have hz_hx19 := hx19.size
      replace hb4 := hb4.ext hx19
      replace hT := hT.ext hx19
      replace h := h.ext hx19
      replace E := E.trans hx19
      refine w_nil ?_
      refine x_held ?_
      refine h_one rfl ?_
      refine w_val rfl rfl rfl (isField_c _ _ _) rfl (fun w20 hx20 hz20 => ?_)
      have hz_hx20 := hx20.size
      replace hb4 := hb4.ext hx20
      replace hT := hT.ext hx20
      replace h := h.ext hx20
      replace E := E.trans hx20
      refine w_nil ?_
      refine x_held ?_
      refine h_pure rfl (y_not_dec rfl) rfl ?_
      refine h_pure rfl (y_move rfl) rfl ?_
      (refine h_part_dec rfl rfl (fun hc23 => ?_) (fun hc23 => ?_) <;> try (first | exact absurd rfl hc23 | contradiction | exact Bool.noConfusion (show false = true from hc23.symm.trans (by assumption)) | exact Bool.noConfusion (show true = false from hc23.symm.trans (by assumption)) | (exfalso; omega) | (exfalso; simp only [*, Bool.not_true, Bool.not_false, reduceCtorEq] at hc23; done)))
      refine h_no rfl rfl rfl rfl rfl ?_
      refine h_no rfl rfl rfl rfl rfl ?_
      refine h_no rfl rfl rfl rfl rfl ?_
      refine h_no rfl rfl rfl rfl rfl ?_
      refine h_no rfl rfl rfl rfl rfl ?_
      refine h_no rfl rfl rfl rfl rfl ?_
      refine h_pure rfl (y_pick_t rfl rfl) rfl ?_
      refine h_pure rfl (y_move rfl) rfl ?_
      refine h_no rfl rfl rfl rfl rfl ?_
      refine h_no rfl rfl rfl rfl rfl ?_
      refine h_no rfl rfl rfl rfl rfl ?_
      refine h_pure rfl (y_pick_t rfl rfl) rfl ?_
      refine h_pure rfl (y_assign rfl) rfl ?_
      refine h_nil ?_
      refine x_next ?_
      refine c_true rfl ?_
      refine c_seq ?_
      refine c_region ?_
      refine w_pure (y_assign rfl) rfl ?_
      refine w_pure (y_assign rfl) rfl ?_
      refine w_nil ?_
      refine x_next ?_
      refine c_ret ?_
      refine x_block_ret ?_
      refine x_then_ret ?_
      rotate_left
      refine h_yes rfl rfl rfl (y_field rfl) rfl ?_
      refine h_yes rfl rfl rfl (y_load_box rfl) rfl ?_
      refine h_yes rfl rfl rfl (y_field rfl) rfl ?_
      refine h_yes rfl rfl rfl (y_load_box rfl) rfl ?_
      refine h_yes rfl rfl rfl (y_sub rfl rfl) rfl ?_
      refine h_yes rfl rfl rfl (y_gt rfl rfl) rfl ?_
      refine h_pure rfl (y_pick_f rfl rfl) rfl ?_
      refine h_pure rfl (y_move rfl) rfl ?_
      (refine h_part_dec rfl rfl (fun hc31 => ?_) (fun hc31 => ?_) <;> try (first | exact absurd rfl hc31 | contradiction | exact Bool.noConfusion (show false = true from hc31.symm.trans (by assumption)) | exact Bool.noConfusion (show true = false from hc31.symm.trans (by assumption)) | (exfalso; omega) | (exfalso; simp only [*, Bool.not_true, Bool.not_false, reduceCtorEq] at hc31; done)))
      refine h_no rfl rfl rfl rfl rfl ?_
      refine h_no rfl rfl rfl rfl rfl ?_
      refine h_no rfl rfl rfl rfl rfl ?_
      refine h_pure rfl (y_pick_t rfl rfl) rfl ?_
      refine h_pure rfl (y_assign rfl) rfl ?_
      refine h_nil ?_
      refine x_next ?_
      refine c_true rfl ?_
      refine c_seq ?_
      refine c_region ?_
      refine w_pure (y_assign rfl) rfl ?_
      refine w_pure (y_assign rfl) rfl ?_
      refine w_nil ?_
      refine x_next ?_
      refine c_ret ?_
      refine x_block_ret ?_
      refine x_then_ret ?_
      rotate_left
      refine h_yes rfl rfl rfl (y_move rfl) rfl ?_
      (refine h_part rfl rfl (fun hc32 => ?_) (fun hc32 => ?_) <;> try (first | exact absurd rfl hc32 | contradiction | exact Bool.noConfusion (show false = true from hc32.symm.trans (by assumption)) | exact Bool.noConfusion (show true = false from hc32.symm.trans (by assumption)) | (exfalso; omega) | (exfalso; simp only [*, Bool.not_true, Bool.not_false, reduceCtorEq] at hc32; done)))
      refine h_one rfl ?_
      refine w_yes rfl rfl ?_
      refine w_pur rfl rfl rfl (inside_c _ _ _) rfl ?_
      refine w_nil ?_
      refine x_held ?_
      refine h_yes rfl rfl rfl (y_not_dec rfl) rfl ?_
      refine h_pure rfl (y_pick_f rfl rfl) rfl ?_
      refine h_pure rfl (y_assign rfl) rfl ?_
      refine h_nil ?_
      refine x_next ?_
      (refine c_dec rfl (fun hc16 => ?_) (fun hc16 => ?_) <;> try (first | exact absurd rfl hc16 | contradiction | exact Bool.noConfusion (show false = true from hc16.symm.trans (by assumption)) | exact Bool.noConfusion (show true = false from hc16.symm.trans (by assumption)) | (exfalso; omega) | (exfalso; simp only [*, Bool.not_true, Bool.not_false, reduceCtorEq] at hc16; done)))
      refine c_seq ?_
      refine c_region ?_
      refine w_pure (y_assign rfl) rfl ?_
      refine w_pure (y_assign rfl) rfl ?_
      refine w_nil ?_
      refine x_next ?_
      refine c_ret ?_
      refine x_block_ret ?_
      refine x_then_ret ?_
      rotate_left
    all_goals exact x_retv [_, _] rfl ⟨rfl, rfl, trivial⟩ ⟨_, [], by rw [cSer_2 hk h2]; rfl, by unfold resSer; rw [cSer_2 hk h2, if_neg (by decide)]; exact OwnD.nil _ _ _ _ (Nat.le_refl _), E.go⟩
  have hcs := cSer_s hk h2
  have hd40 := okD_len hk
  have hsl := serL_len xss f t first
  refine ret_enter Tryd.func11 rfl Tryd.ntmps11 rfl ?_
  focus
    have ht_hT := hT.top
    have ht_h := h.top
    refine c_seq ?_
    refine c_region ?_
    refine w_box rfl (k := fun b4 w4 hb4 hx4 hl4 hs4 => ?_)
    have hz_hx4 := hx4.size
    replace hT := hT.ext hx4
    replace h := h.ext hx4
    replace E := E.trans hx4
    refine w_pure (y_assign rfl) rfl ?_
    refine w_pure (y_assign rfl) rfl ?_
    refine w_nil ?_
    refine x_next ?_
    refine c_seq ?_
    refine c_block ?_
    refine c_seq ?_
    refine c_region ?_
    refine w_pure (y_move rfl) rfl ?_
    refine w_val rfl rfl rfl (iValidDeck_c) rfl (fun w14 hx14 hz14 => ?_)
    have hz_hx14 := hx14.size
    replace hb4 := hb4.ext hx14
    replace hT := hT.ext hx14
    replace h := h.ext hx14
    replace E := E.trans hx14
    refine w_pure (y_not rfl) rfl ?_
    refine w_pure (y_assign rfl) rfl ?_
    refine w_nil ?_
    refine x_next ?_
    (refine c_not rfl (fun hc12 => ?_) (fun hc12 => ?_) <;> try (first | exact absurd rfl hc12 | contradiction | exact Bool.noConfusion (show false = true from hc12.symm.trans (by assumption)) | exact Bool.noConfusion (show true = false from hc12.symm.trans (by assumption)) | (exfalso; omega) | (exfalso; simp only [*, Bool.not_true, Bool.not_false, reduceCtorEq] at hc12; done)))
    refine c_seq ?_
    refine c_region_held mixed (fun wr3 hxr3 hzr3 => ?_)
    have hz_hxr3 := hxr3.size
    replace hb4 := hb4.ext hxr3
    replace hT := hT.ext hxr3
    replace h := h.ext hxr3
    replace E := E.trans hxr3
    refine h_pure rfl (y_load_boxs rfl) rfl ?_
    refine h_pure rfl (y_move rfl) rfl ?_
    refine h_one rfl ?_
    refine w_val rfl rfl rfl (deckColumns_c) rfl (fun w19 hx19 hz19 => ?_)
    have hz_hx19 := hx19.size
    replace hb4 := hb4.ext hx19
    replace hT := hT.ext hx19
    replace h := h.ext hx19
    replace E := E.trans hx19
    refine w_nil ?_
    refine x_held ?_
    refine h_one rfl ?_
    refine w_val rfl rfl rfl (isField_c _ _ _) rfl (fun w20 hx20 hz20 => ?_)
    have hz_hx20 := hx20.size
    replace hb4 := hb4.ext hx20
    replace hT := hT.ext hx20
    replace h := h.ext hx20
    replace E := E.trans hx20
    refine w_nil ?_
    refine x_held ?_
    refine h_pure rfl (y_not_dec rfl) rfl ?_
    refine h_pure rfl (y_move rfl) rfl ?_
    (refine h_part_dec rfl rfl (fun hc23 => ?_) (fun hc23 => ?_) <;> try (first | exact absurd rfl hc23 | contradiction | exact Bool.noConfusion (show false = true from hc23.symm.trans (by assumption)) | exact Bool.noConfusion (show true = false from hc23.symm.trans (by assumption)) | (exfalso; omega) | (exfalso; simp only [*, Bool.not_true, Bool.not_false, reduceCtorEq] at hc23; done)))
    refine h_yes rfl rfl rfl (y_field rfl) rfl ?_
    refine h_yes rfl rfl rfl (y_load_box rfl) rfl ?_
    refine h_yes rfl rfl rfl (y_field rfl) rfl ?_
    refine h_yes rfl rfl rfl (y_load_box rfl) rfl ?_
    refine h_yes rfl rfl rfl (y_sub rfl rfl) rfl ?_
    refine h_yes rfl rfl rfl (y_gt rfl rfl) rfl ?_
    refine h_pure rfl (y_pick_f rfl rfl) rfl ?_
    refine h_pure rfl (y_move rfl) rfl ?_
    (refine h_part_dec rfl rfl (fun hc31 => ?_) (fun hc31 => ?_) <;> try (first | exact absurd rfl hc31 | contradiction | exact Bool.noConfusion (show false = true from hc31.symm.trans (by assumption)) | exact Bool.noConfusion (show true = false from hc31.symm.trans (by assumption)) | (exfalso; omega) | (exfalso; simp only [*, Bool.not_true, Bool.not_false, reduceCtorEq] at hc31; done)))
    refine h_yes rfl rfl rfl (y_move rfl) rfl ?_
    (refine h_part rfl rfl (fun hc32 => ?_) (fun hc32 => ?_) <;> try (first | exact absurd rfl hc32 | contradiction | exact Bool.noConfusion (show false = true from hc32.symm.trans (by assumption)) | exact Bool.noConfusion (show true = false from hc32.symm.trans (by assumption)) | (exfalso; omega) | (exfalso; simp only [*, Bool.not_true, Bool.not_false, reduceCtorEq] at hc32; done)))
    refine h_one rfl ?_
    refine w_yes rfl rfl ?_
    refine w_pur rfl rfl rfl (inside_c _ _ _) rfl ?_
    refine w_nil ?_
    refine x_held ?_
    refine h_yes rfl rfl rfl (y_not_dec rfl) rfl ?_
    refine h_pure rfl (y_pick_f rfl rfl) rfl ?_
    refine h_pure rfl (y_assign rfl) rfl ?_
    refine h_nil ?_
    refine x_next ?_
    (refine c_dec rfl (fun hc16 => ?_) (fun hc16 => ?_) <;> try (first | exact absurd rfl hc16 | contradiction | exact Bool.noConfusion (show false = true from hc16.symm.trans (by assumption)) | exact Bool.noConfusion (show true = false from hc16.symm.trans (by assumption)) | (exfalso; omega) | (exfalso; simp only [*, Bool.not_true, Bool.not_false, reduceCtorEq] at hc16; done)))
    refine c_skip ?_
    refine x_block_norm ?_
    refine x_next ?_
    refine c_seq ?_
    refine c_region ?_
    refine w_lit_d0 rfl (k := fun v35 w35 ho35 hx35 hl35 hh35 hs35 => ?_)
    have hl_ho35 := ho35.lt
    have hz_hx35 := hx35.size
    replace hb4 := hb4.ext hx35
    replace hT := hT.ext hx35
    replace h := h.ext hx35
    replace E := E.trans hx35
    refine w_pure (y_assign rfl) rfl ?_
    refine w_nil ?_
    refine x_next ?_
    refine c_seq ?_
    refine c_seq ?_
    refine c_region ?_
    refine w_pure (y_move rfl) rfl ?_
    refine w_pure (y_lend rfl) rfl ?_
    refine w_pure (y_move rfl) rfl ?_
    refine w_nil ?_
    refine x_next ?_
    refine c_block ?_
    rotate_left
  refine c_loopC (bL v35) (bH v35) (ι := Int × Value × List SV) (fun x => [(2, .int .i64 first), (4, ptr b4 0), (8, x.2.1), (36, v), (37, .int .i64 xss.length), (38, .int .i64 x.1)])
    (fun x w' => OwnD w' 85 w.heap.size w'.heap.size x.2.2 x.2.1 ((serL xss f t first).take x.1.toNat) ∧ ((bL x.2.1 = bL v35 ∧ bH x.2.1 = bH v35) ∨ w35.heap.size ≤ bL x.2.1) ∧ 0 ≤ x.1 ∧ x.1 ≤ xss.length ∧ serF xss f t first x.1.toNat = serF xss f t first 0) (fun x => (xss.length - x.1).toNat) (0, v35, [])
    (by repeat (first | exact trivial | refine ⟨rfl, ?_⟩)) ⟨by show OwnD _ _ _ _ [] v35 (List.take 0 _); rw [List.take_zero]; exact OwnD.wide (ho35.low (by omega)) (by omega) (Nat.le_refl _), .inl ⟨rfl, rfl⟩, by dsimp only; omega, by dsimp only; omega, rfl⟩ ?_
  clear ho35
  rintro ⟨i, u, sus⟩ wL hxL EL ⟨g3, g4, hi0, hi1, hser⟩
  dsimp only at *
  have e1 : (i + 1).toNat = i.toNat + 1 := by omega
  have htl : ((serL xss f t first).take i.toNat).length = i.toNat := by rw [List.length_take]; omega
  by_cases hli : i < xss.length
  case neg =>
    rw [serF_end (by omega)] at hser
    have hc0 : cSer xss f t first = 0 := hcs.trans hser.symm
    focus
      have hl_g3 := g3.lt
      have hz_hxL := hxL.size
      replace hb4 := hb4.chg hxL (by omega)
      replace hT := hT.chg hxL (by omega)
      replace h := h.chg hxL (by omega)
      replace E := E.next hxL (by omega)
      refine c_seq ?_
      refine c_region ?_
      refine w_pure (y_lt rfl rfl) rfl ?_
      refine w_nil ?_
      refine x_next ?_
      refine c_seq ?_
      (refine c_dec rfl (fun hc39 => ?_) (fun hc39 => ?_) <;> try (first | exact absurd rfl hc39 | contradiction | exact Bool.noConfusion (show false = true from hc39.symm.trans (by assumption)) | exact Bool.noConfusion (show true = false from hc39.symm.trans (by assumption)) | (exfalso; omega) | (exfalso; simp only [*, Bool.not_true, Bool.not_false, reduceCtorEq] at hc39; done)))
      refine c_exit ?_
      refine x_then_exit ?_
      refine x_then_exit ?_
      refine x_block_hit ?_
      refine x_next ?_
      refine c_seq ?_
      refine c_region ?_
      refine w_pure (y_move rfl) rfl ?_
      refine w_pure (y_assign rfl) rfl ?_
      refine w_pure (y_assign rfl) rfl ?_
      refine w_nil ?_
      refine x_next ?_
      refine c_ret ?_
      rotate_left
    rw [List.take_of_length_le (by omega)] at g3
    exact x_retv [_, _] rfl ⟨rfl, rfl, trivial⟩ ⟨_, sus, by rw [hc0]; rfl, by unfold resSer; rw [if_pos hc0]; exact OwnD.wide (by assumption) (by omega) (Nat.le_refl _), E.go⟩
  have hwi := widD_at hk i.toNat (by omega)
  have hnd := nDig_le (n := first + i) (k := t - f) (by omega) (by omega)
  have hi2 : ((i.toNat : Nat) : Int) = i := Int.toNat_of_nonneg hi0
  have eAt : serAt xss f t first i.toNat = putF (xss.getD i.toNat []) f t (pun (first + i) (t - f).toNat) := by unfold serAt; rw [hi2]
  have hlt5 : ¬ t - f < nDig (first + i) → first + (i.toNat : Nat) < 10 ^ (t - f).toNat := fun hh => by rw [hi2]; exact hnd.1 (by omega)
  have hge5 : t - f < nDig (first + i) → ¬ first + (i.toNat : Nat) < 10 ^ (t - f).toNat := fun hh h5 => by rw [hi2] at h5; have := hnd.2 h5; omega
  focus
    have hl_g3 := g3.lt
    have hz_hxL := hxL.size
    replace hb4 := hb4.chg hxL (by omega)
    replace hT := hT.chg hxL (by omega)
    replace h := h.chg hxL (by omega)
    replace E := E.next hxL (by omega)
    refine c_seq ?_
    refine c_region ?_
    refine w_pure (y_lt rfl rfl) rfl ?_
    refine w_nil ?_
    refine x_next ?_
    refine c_seq ?_
    (refine c_dec rfl (fun hc39 => ?_) (fun hc39 => ?_) <;> try (first | exact absurd rfl hc39 | contradiction | exact Bool.noConfusion (show false = true from hc39.symm.trans (by assumption)) | exact Bool.noConfusion (show true = false from hc39.symm.trans (by assumption)) | (exfalso; omega) | (exfalso; simp only [*, Bool.not_true, Bool.not_false, reduceCtorEq] at hc39; done)))
    refine c_skip ?_
    refine x_next ?_
    refine c_seq ?_
    refine c_block ?_
    refine c_seq ?_
    refine c_region ?_
    refine w_pure (y_move rfl) rfl ?_
    refine w_pure (y_indexd rfl rfl) rfl ?_
    refine w_pure (y_loads rfl) rfl ?_
    refine w_alloc (k := fun b10 w10 hb10 hx10 hl10 hs10 => ?_)
    have hz_hx10 := hx10.size
    replace EL := EL.next hx10 (by omega)
    replace g3 := g3.ext hx10
    replace hb4 := hb4.ext hx10
    replace hT := hT.ext hx10
    replace h := h.ext hx10
    replace E := E.trans hx10
    refine w_pure (y_assign rfl) rfl ?_
    refine w_store_boxs rfl rfl (next := fun ws19 hbs19 hxs19 hss19 => ?_)
    (replace hb10 := hbs19; clear hbs19)
    have hz_hxs19 := hxs19.size
    replace EL := EL.next hxs19 (by omega)
    replace g3 := g3.chg hxs19 (by omega)
    replace hb4 := hb4.chg hxs19 (by omega)
    replace hT := hT.chg hxs19 (by omega)
    replace h := h.chg hxs19 (by omega)
    replace E := E.next hxs19 (by omega)
    refine w_nil ?_
    refine x_next ?_
    refine c_seq ?_
    refine c_region ?_
    refine w_pure (y_move rfl) rfl ?_
    refine w_pure (y_move rfl) rfl ?_
    refine w_pure (y_add rfl rfl) rfl ?_
    refine w_pure (y_assign rfl) rfl ?_
    refine w_nil ?_
    refine x_next ?_
    refine c_seq ?_
    refine c_block ?_
    refine c_seq ?_
    refine c_region_held mixed (fun wr10 hxr10 hzr10 => ?_)
    have hz_hxr10 := hxr10.size
    replace hb10 := hb10.ext hxr10
    replace EL := EL.next hxr10 (by omega)
    replace g3 := g3.ext hxr10
    replace hb4 := hb4.ext hxr10
    replace hT := hT.ext hxr10
    replace h := h.ext hxr10
    replace E := E.trans hxr10
    refine h_pure rfl (y_move rfl) rfl ?_
    refine h_turn ?_
    refine h_pure rfl (y_field rfl) rfl ?_
    refine h_pure rfl (y_load_box rfl) rfl ?_
    refine h_pure rfl (y_field rfl) rfl ?_
    refine h_pure rfl (y_load_box rfl) rfl ?_
    refine h_pure rfl (y_sub rfl rfl) rfl ?_
    refine h_turn ?_
    refine h_turn ?_
    refine h_one rfl ?_
    refine w_val rfl rfl rfl (digitsOf_c _) rfl (fun w48 hx48 hz48 => ?_)
    have hz_hx48 := hx48.size
    replace hb10 := hb10.ext hx48
    replace EL := EL.next hx48 (by omega)
    replace g3 := g3.ext hx48
    replace hb4 := hb4.ext hx48
    replace hT := hT.ext hx48
    replace h := h.ext hx48
    replace E := E.trans hx48
    refine w_nil ?_
    refine x_held ?_
    refine h_pure rfl (y_gt rfl rfl) rfl ?_
    refine h_pure rfl (y_assign rfl) rfl ?_
    refine h_nil ?_
    refine x_next ?_
    (refine c_dec rfl (fun hc46 => ?_) (fun hc46 => ?_) <;> try (first | exact absurd rfl hc46 | contradiction | exact Bool.noConfusion (show false = true from hc46.symm.trans (by assumption)) | exact Bool.noConfusion (show true = false from hc46.symm.trans (by assumption)) | (exfalso; omega) | (exfalso; simp only [*, Bool.not_true, Bool.not_false, reduceCtorEq] at hc46; done)))
    refine c_seq ?_
    refine c_region ?_
    refine w_pure (y_assign rfl) rfl ?_
    refine w_pure (y_assign rfl) rfl ?_
    refine w_nil ?_
    refine x_next ?_
    refine c_ret ?_
    refine x_block_ret ?_
    refine x_then_ret ?_
    refine x_block_ret ?_
    refine x_then_ret ?_
    refine x_then_ret ?_
    refine x_block_ret ?_
    refine x_then_ret ?_
    rotate_left
    refine c_seq ?_
    refine c_region ?_
    refine w_pure (y_field rfl) rfl ?_
    refine w_pure (y_load_box rfl) rfl ?_
    refine w_pure (y_field rfl) rfl ?_
    refine w_pure (y_load_box rfl) rfl ?_
    refine w_pure (y_field rfl) rfl ?_
    refine w_pure (y_load_box rfl) rfl ?_
    (refine w_slice rfl (.inr ⟨_, _, rfl, rfl⟩) (.inr ⟨_, _, rfl, rfl⟩) rfl ?_; intro u62 hu62)
    refine w_val rfl rfl rfl (ContainsFunc_int (first := []) (cap := []) (p := fun x => decide (¬ x = 0)) (h := (by repeat (first | assumption | exact Go.Gw.Own.sl (by assumption) | exact Go.Gw.Box.at (by assumption) | exact Go.Gw.SLL.el (by first | assumption | exact Go.Gw.OwnD.sll (by assumption)) _ (by omega) | exact Go.Gw.SLL.at (by first | assumption | exact Go.Gw.OwnD.sll (by assumption)) (by omega) | exact Go.Gw.OwnD.sll (by assumption) | (apply Go.Gw.SL.chg; case hx => assumption) | (apply Go.Gw.Own.chg; case hx => assumption) | (apply Go.Gw.Box.chg; case hx => assumption) | (apply Go.Gw.At.chg; case hx => assumption) | exact .inl (Nat.zero_le _) | exact .inr (Nat.zero_le _) | (show _ ∨ _; omega)))) (hp := fun x _ => (SerialPunch1_c x).val)) rfl (fun w63 hx63 hz63 => ?_)
    have hz_hx63 := hx63.size
    replace hb10 := hb10.ext hx63
    replace EL := EL.next hx63 (by omega)
    replace g3 := g3.ext hx63
    replace hb4 := hb4.ext hx63
    replace hT := hT.ext hx63
    replace h := h.ext hx63
    replace E := E.trans hx63
    replace hu62 := hu62.ext hx63
    refine w_pure (y_assign rfl) rfl ?_
    refine w_nil ?_
    refine x_next ?_
    (refine c_if rfl (fun hc55 => ?_) (fun hc55 => ?_) <;> try (first | exact absurd rfl hc55 | contradiction | exact Bool.noConfusion (show false = true from hc55.symm.trans (by assumption)) | exact Bool.noConfusion (show true = false from hc55.symm.trans (by assumption)) | (exfalso; omega) | (exfalso; simp only [*, Bool.not_true, Bool.not_false, reduceCtorEq] at hc55; done)))
    refine c_seq ?_
    refine c_region ?_
    refine w_pure (y_assign rfl) rfl ?_
    refine w_pure (y_assign rfl) rfl ?_
    refine w_nil ?_
    refine x_next ?_
    refine c_ret ?_
    refine x_block_ret ?_
    refine x_then_ret ?_
    refine x_block_ret ?_
    refine x_then_ret ?_
    refine x_then_ret ?_
    refine x_block_ret ?_
    refine x_then_ret ?_
    rotate_left
    refine c_skip ?_
    refine x_block_norm ?_
    refine x_next ?_
    refine c_region ?_
    refine w_pure (y_move rfl) rfl ?_
    refine w_pure (y_load_boxs rfl) rfl ?_
    refine w_pure (y_load_boxs rfl) rfl ?_
    refine w_pure (y_move rfl) rfl ?_
    (refine w_call rfl rfl rfl (punchNumber_c _ _ _) rfl ?_; rintro _ w68 ⟨d68, ⟨rfl, ⟨hp1_68, hx68⟩⟩⟩)
    have hl_hp1_68 := hp1_68.lt
    have hz_hx68 := hx68.size
    replace hb10 := hb10.ext hx68
    replace EL := EL.next hx68 (by omega)
    replace g3 := g3.ext hx68
    replace hb4 := hb4.ext hx68
    replace hT := hT.ext hx68
    replace h := h.ext hx68
    replace E := E.trans hx68
    replace hu62 := hu62.ext hx68
    refine w_lit_cd rfl rfl (k := fun v69 w69 ho69 hx69 hl69 hh69 hs69 => ?_)
    have hl_ho69 := ho69.lt
    have hz_hx69 := hx69.size
    replace hp1_68 := hp1_68.ext hx69
    replace hb10 := hb10.ext hx69
    replace EL := EL.next hx69 (by omega)
    replace g3 := g3.ext hx69
    replace hb4 := hb4.ext hx69
    replace hT := hT.ext hx69
    replace h := h.ext hx69
    replace E := E.trans hx69
    replace hu62 := hu62.ext hx69
    refine w_append_d rfl rfl (k := fun v70 w70 ho70 hx70 hr70 => ?_)
    have hl_ho70 := ho70.lt
    have hz_hx70 := hx70.size
    replace ho69 := ho69.chg hx70 (by omega)
    replace hp1_68 := hp1_68.chg hx70 (by omega)
    replace hb10 := hb10.chg hx70 (by omega)
    replace EL := EL.next hx70 (by omega)
    replace hb4 := hb4.chg hx70 (by omega)
    replace hT := hT.chg hx70 (by omega)
    replace h := h.chg hx70 (by omega)
    replace E := E.next hx70 (by omega)
    replace hu62 := hu62.chg hx70 (by omega)
    refine w_pure (y_assign rfl) rfl ?_
    refine w_nil ?_
    refine x_block_norm ?_
    refine x_next ?_
    refine c_region ?_
    refine w_pure (y_add rfl rfl) rfl ?_
    refine w_pure (y_move rfl) rfl ?_
    refine w_nil ?_
    rotate_left
  · have hc5 : cSer xss f t first = 5 := by rw [hcs, ← hser, serF_5 (i := i.toNat) (by omega) (hge5 hc46)]
    exact x_retv [_, _] rfl ⟨rfl, rfl, trivial⟩ ⟨_, [], by rw [hc5]; rfl, by unfold resSer; rw [hc5, if_neg (by decide)]; exact OwnD.nil _ _ _ _ (Nat.le_refl _), E.go⟩
  · have hbk : blkB (xss.getD i.toNat []) f t = false := by show (!(((xss.getD i.toNat []).take t.toNat).drop f.toNat).any _) = false; rw [hc55]; rfl
    have hc9 : cSer xss f t first = 9 := by rw [hcs, ← hser, serF_9 (i := i.toNat) (by omega) (hlt5 hc46) hbk]
    exact x_retv [_, _] rfl ⟨rfl, rfl, trivial⟩ ⟨_, [], by rw [hc9]; rfl, by unfold resSer; rw [hc9, if_neg (by decide)]; exact OwnD.nil _ _ _ _ (Nat.le_refl _), E.go⟩
  · have hbk : blkB (xss.getD i.toNat []) f t = true := by show (!(((xss.getD i.toNat []).take t.toNat).drop f.toNat).any _) = true; rw [hc55]; rfl
    refine x_again (i + 1, v70, sus ++ [svOf d68]) (by repeat (first | exact trivial | refine ⟨rfl, ?_⟩)) ⟨EL.go, ?_, by dsimp only; omega, by dsimp only; omega, by dsimp only; omega, ?_⟩ (by dsimp only; omega)
    · dsimp only
      rw [e1, List.take_add_one, serL_get (by omega), eAt]
      exact OwnD.wide (by assumption) (by omega) (Nat.le_refl _)
    · dsimp only
      rw [← hser, serF_on (i := i.toNat) (by omega) (hlt5 hc46) hbk, e1]
theorem sSerialPunch_c (h : SLL w lo hi svs v xss := by repeat (first | assumption | exact Go.Gw.Own.sl (by assumption) | exact Go.Gw.Box.at (by assumption) | exact Go.Gw.SLL.el (by first | assumption | exact Go.Gw.OwnD.sll (by assumption)) _ (by omega) | exact Go.Gw.SLL.at (by first | assumption | exact Go.Gw.OwnD.sll (by assumption)) (by omega) | exact Go.Gw.OwnD.sll (by assumption) | (apply Go.Gw.SL.chg; case hx => assumption) | (apply Go.Gw.Own.chg; case hx => assumption) | (apply Go.Gw.Box.chg; case hx => assumption) | (apply Go.Gw.At.chg; case hx => assumption) | exact .inl (Nat.zero_le _) | exact .inr (Nat.zero_le _) | (show _ ∨ _; omega))) (hi64 : In64 f ∧ In64 t ∧ In64 first := by exact ⟨by assumption, by assumption, by assumption⟩) : Ret Tryd.prog 8 [v, .agg #[.int .i64 f, .int .i64 t], .int .i64 first] w fun u w' => ∃ d sus, u = .tuple #[d, .int .i64 (cSer xss f t first)] ∧ OwnD w' 85 w.heap.size w'.heap.size sus d (resSer xss f t first) ∧ Ext w w' := by
  obtain ⟨⟨f1, f2⟩, ⟨t1, t2⟩, ⟨n1, n2⟩⟩ := hi64
  have E : Since 0 0 w w := Since.refl 0 0 w
  cases hk : okD xss
  · refine ret_enter Tryd.func8 rfl Tryd.ntmps8 rfl ?_
    focus
      have ht_h := h.top
      refine c_seq ?_
      refine c_region ?_
      refine w_box rfl (k := fun b4 w4 hb4 hx4 hl4 hs4 => ?_)
      have hz_hx4 := hx4.size
      replace h := h.ext hx4
      replace E := E.trans hx4
      refine w_pure (y_assign rfl) rfl ?_
      refine w_pure (y_assign rfl) rfl ?_
      refine w_nil ?_
      refine x_next ?_
      refine c_seq ?_
      refine c_seq ?_
      refine c_region ?_
      refine w_pure (y_move rfl) rfl ?_
      refine w_val rfl rfl rfl (l02Deck_c) rfl (fun w15 hx15 hz15 => ?_)
      have hz_hx15 := hx15.size
      replace hb4 := hb4.ext hx15
      replace h := h.ext hx15
      replace E := E.trans hx15
      refine w_pure (y_not rfl) rfl ?_
      refine w_nil ?_
      refine x_next ?_
      (refine c_not rfl (fun hc16 => ?_) (fun hc16 => ?_) <;> try (first | exact absurd rfl hc16 | contradiction | exact Bool.noConfusion (show false = true from hc16.symm.trans (by assumption)) | exact Bool.noConfusion (show true = false from hc16.symm.trans (by assumption)) | (exfalso; omega) | (exfalso; simp only [*, Bool.not_true, Bool.not_false, reduceCtorEq] at hc16; done)))
      refine c_seq ?_
      refine c_region ?_
      refine w_pure (y_assign rfl) rfl ?_
      refine w_pure (y_assign rfl) rfl ?_
      refine w_nil ?_
      refine x_next ?_
      refine c_ret ?_
      refine x_then_ret ?_
      rotate_left
    exact x_retv [_, _] rfl ⟨rfl, rfl, trivial⟩ ⟨_, [], by rw [cSer_1 hk]; rfl, by unfold resSer; rw [cSer_1 hk, if_neg (by decide)]; exact OwnD.nil _ _ _ _ (Nat.le_refl _), E.go⟩
  have hwb := widD_bd hk
  by_cases h2 : (0 ≤ f ∧ f < t ∧ t ≤ widD xss) ∧ t - f ≤ 12 ∧ 0 ≤ first ∧ first ≤ 999999999999
  case neg =>
    refine ret_enter Tryd.func8 rfl Tryd.ntmps8 rfl ?_
    focus
      have ht_h := h.top
      refine c_seq ?_
      refine c_region ?_
      refine w_box rfl (k := fun b4 w4 hb4 hx4 hl4 hs4 => ?_)
      have hz_hx4 := hx4.size
      replace h := h.ext hx4
      replace E := E.trans hx4
      refine w_pure (y_assign rfl) rfl ?_
      refine w_pure (y_assign rfl) rfl ?_
      refine w_nil ?_
      refine x_next ?_
      refine c_seq ?_
      refine c_seq ?_
      refine c_region ?_
      refine w_pure (y_move rfl) rfl ?_
      refine w_val rfl rfl rfl (l02Deck_c) rfl (fun w15 hx15 hz15 => ?_)
      have hz_hx15 := hx15.size
      replace hb4 := hb4.ext hx15
      replace h := h.ext hx15
      replace E := E.trans hx15
      refine w_pure (y_not rfl) rfl ?_
      refine w_nil ?_
      refine x_next ?_
      (refine c_not rfl (fun hc16 => ?_) (fun hc16 => ?_) <;> try (first | exact absurd rfl hc16 | contradiction | exact Bool.noConfusion (show false = true from hc16.symm.trans (by assumption)) | exact Bool.noConfusion (show true = false from hc16.symm.trans (by assumption)) | (exfalso; omega) | (exfalso; simp only [*, Bool.not_true, Bool.not_false, reduceCtorEq] at hc16; done)))
      refine c_skip ?_
      refine x_next ?_
      refine c_seq ?_
      refine c_seq ?_
      refine c_region_held mixed (fun wr3 hxr3 hzr3 => ?_)
      have hz_hxr3 := hxr3.size
      replace hb4 := hb4.ext hxr3
      replace h := h.ext hxr3
      replace E := E.trans hxr3
      refine h_pure rfl (y_load_boxs rfl) rfl ?_
      refine h_pure rfl (y_move rfl) rfl ?_
      refine h_one rfl ?_
      refine w_val rfl rfl rfl (l07WidthOf_c) rfl (fun w19 hx19 hz19 => ?_)
      have hz_hx19 := hx19.size
      replace hb4 := hb4.ext hx19
      replace h := h.ext hx19
      replace E := E.trans hx19
      refine w_nil ?_
      refine x_held ?_
      refine h_one rfl ?_
      refine w_val rfl rfl rfl (l02Field_c _ _ _) rfl (fun w20 hx20 hz20 => ?_)
      have hz_hx20 := hx20.size
      replace hb4 := hb4.ext hx20
      replace h := h.ext hx20
      replace E := E.trans hx20
      refine w_nil ?_
      refine x_held ?_
      refine h_pure rfl (y_not_dec rfl) rfl ?_
      refine h_pure rfl (y_move rfl) rfl ?_
      (refine h_part_dec rfl rfl (fun hc23 => ?_) (fun hc23 => ?_) <;> try (first | exact absurd rfl hc23 | contradiction | exact Bool.noConfusion (show false = true from hc23.symm.trans (by assumption)) | exact Bool.noConfusion (show true = false from hc23.symm.trans (by assumption)) | (exfalso; omega) | (exfalso; simp only [*, Bool.not_true, Bool.not_false, reduceCtorEq] at hc23; done)))
      refine h_no rfl rfl rfl rfl rfl ?_
      refine h_no rfl rfl rfl rfl rfl ?_
      refine h_no rfl rfl rfl rfl rfl ?_
      refine h_no rfl rfl rfl rfl rfl ?_
      refine h_no rfl rfl rfl rfl rfl ?_
      refine h_no rfl rfl rfl rfl rfl ?_
      refine h_pure rfl (y_pick_t rfl rfl) rfl ?_
      refine h_pure rfl (y_move rfl) rfl ?_
      refine h_no rfl rfl rfl rfl rfl ?_
      refine h_no rfl rfl rfl rfl rfl ?_
      refine h_no rfl rfl rfl rfl rfl ?_
      refine h_pure rfl (y_pick_t rfl rfl) rfl ?_
      refine h_nil ?_
      refine x_next ?_
      refine c_true rfl ?_
      refine c_seq ?_
      refine c_region ?_
      refine w_pure (y_assign rfl) rfl ?_
      refine w_pure (y_assign rfl) rfl ?_
      refine w_nil ?_
      refine x_next ?_
      refine c_ret ?_
      refine x_then_ret ?_
      rotate_left
      refine h_yes rfl rfl rfl (y_field rfl) rfl ?_
      refine h_yes rfl rfl rfl (y_load_box rfl) rfl ?_
      refine h_yes rfl rfl rfl (y_field rfl) rfl ?_
      refine h_yes rfl rfl rfl (y_load_box rfl) rfl ?_
      refine h_yes rfl rfl rfl (y_sub rfl rfl) rfl ?_
      refine h_yes rfl rfl rfl (y_gt rfl rfl) rfl ?_
      refine h_pure rfl (y_pick_f rfl rfl) rfl ?_
      refine h_pure rfl (y_move rfl) rfl ?_
      (refine h_part_dec rfl rfl (fun hc31 => ?_) (fun hc31 => ?_) <;> try (first | exact absurd rfl hc31 | contradiction | exact Bool.noConfusion (show false = true from hc31.symm.trans (by assumption)) | exact Bool.noConfusion (show true = false from hc31.symm.trans (by assumption)) | (exfalso; omega) | (exfalso; simp only [*, Bool.not_true, Bool.not_false, reduceCtorEq] at hc31; done)))
      refine h_no rfl rfl rfl rfl rfl ?_
      refine h_no rfl rfl rfl rfl rfl ?_
      refine h_no rfl rfl rfl rfl rfl ?_
      refine h_pure rfl (y_pick_t rfl rfl) rfl ?_
      refine h_nil ?_
      refine x_next ?_
      refine c_true rfl ?_
      refine c_seq ?_
      refine c_region ?_
      refine w_pure (y_assign rfl) rfl ?_
      refine w_pure (y_assign rfl) rfl ?_
      refine w_nil ?_
      refine x_next ?_
      refine c_ret ?_
      refine x_then_ret ?_
      rotate_left
      refine h_yes rfl rfl rfl (y_move rfl) rfl ?_
      (refine h_part rfl rfl (fun hc32 => ?_) (fun hc32 => ?_) <;> try (first | exact absurd rfl hc32 | contradiction | exact Bool.noConfusion (show false = true from hc32.symm.trans (by assumption)) | exact Bool.noConfusion (show true = false from hc32.symm.trans (by assumption)) | (exfalso; omega) | (exfalso; simp only [*, Bool.not_true, Bool.not_false, reduceCtorEq] at hc32; done)))
      refine h_one rfl ?_
      refine w_yes rfl rfl ?_
      refine w_pur rfl rfl rfl (l00In_c _ _ _) rfl ?_
      refine w_nil ?_
      refine x_held ?_
      refine h_yes rfl rfl rfl (y_not_dec rfl) rfl ?_
      refine h_pure rfl (y_pick_f rfl rfl) rfl ?_
      refine h_nil ?_
      refine x_next ?_
      (refine c_dec rfl (fun hc34 => ?_) (fun hc34 => ?_) <;> try (first | exact absurd rfl hc34 | contradiction | exact Bool.noConfusion (show false = true from hc34.symm.trans (by assumption)) | exact Bool.noConfusion (show true = false from hc34.symm.trans (by assumption)) | (exfalso; omega) | (exfalso; simp only [*, Bool.not_true, Bool.not_false, reduceCtorEq] at hc34; done)))
      refine c_seq ?_
      refine c_region ?_
      refine w_pure (y_assign rfl) rfl ?_
      refine w_pure (y_assign rfl) rfl ?_
      refine w_nil ?_
      refine x_next ?_
      refine c_ret ?_
      refine x_then_ret ?_
      rotate_left
    all_goals exact x_retv [_, _] rfl ⟨rfl, rfl, trivial⟩ ⟨_, [], by rw [cSer_2 hk h2]; rfl, by unfold resSer; rw [cSer_2 hk h2, if_neg (by decide)]; exact OwnD.nil _ _ _ _ (Nat.le_refl _), E.go⟩
  have hcs := cSer_s hk h2
  have hd40 := okD_len hk
  have hsl := serL_len xss f t first
  refine ret_enter Tryd.func8 rfl Tryd.ntmps8 rfl ?_
  focus
    have ht_h := h.top
    refine c_seq ?_
    refine c_region ?_
    refine w_box rfl (k := fun b4 w4 hb4 hx4 hl4 hs4 => ?_)
    have hz_hx4 := hx4.size
    replace h := h.ext hx4
    replace E := E.trans hx4
    refine w_pure (y_assign rfl) rfl ?_
    refine w_pure (y_assign rfl) rfl ?_
    refine w_nil ?_
    refine x_next ?_
    refine c_seq ?_
    refine c_seq ?_
    refine c_region ?_
    refine w_pure (y_move rfl) rfl ?_
    refine w_val rfl rfl rfl (l02Deck_c) rfl (fun w15 hx15 hz15 => ?_)
    have hz_hx15 := hx15.size
    replace hb4 := hb4.ext hx15
    replace h := h.ext hx15
    replace E := E.trans hx15
    refine w_pure (y_not rfl) rfl ?_
    refine w_nil ?_
    refine x_next ?_
    (refine c_not rfl (fun hc16 => ?_) (fun hc16 => ?_) <;> try (first | exact absurd rfl hc16 | contradiction | exact Bool.noConfusion (show false = true from hc16.symm.trans (by assumption)) | exact Bool.noConfusion (show true = false from hc16.symm.trans (by assumption)) | (exfalso; omega) | (exfalso; simp only [*, Bool.not_true, Bool.not_false, reduceCtorEq] at hc16; done)))
    refine c_skip ?_
    refine x_next ?_
    refine c_seq ?_
    refine c_seq ?_
    refine c_region_held mixed (fun wr3 hxr3 hzr3 => ?_)
    have hz_hxr3 := hxr3.size
    replace hb4 := hb4.ext hxr3
    replace h := h.ext hxr3
    replace E := E.trans hxr3
    refine h_pure rfl (y_load_boxs rfl) rfl ?_
    refine h_pure rfl (y_move rfl) rfl ?_
    refine h_one rfl ?_
    refine w_val rfl rfl rfl (l07WidthOf_c) rfl (fun w19 hx19 hz19 => ?_)
    have hz_hx19 := hx19.size
    replace hb4 := hb4.ext hx19
    replace h := h.ext hx19
    replace E := E.trans hx19
    refine w_nil ?_
    refine x_held ?_
    refine h_one rfl ?_
    refine w_val rfl rfl rfl (l02Field_c _ _ _) rfl (fun w20 hx20 hz20 => ?_)
    have hz_hx20 := hx20.size
    replace hb4 := hb4.ext hx20
    replace h := h.ext hx20
    replace E := E.trans hx20
    refine w_nil ?_
    refine x_held ?_
    refine h_pure rfl (y_not_dec rfl) rfl ?_
    refine h_pure rfl (y_move rfl) rfl ?_
    (refine h_part_dec rfl rfl (fun hc23 => ?_) (fun hc23 => ?_) <;> try (first | exact absurd rfl hc23 | contradiction | exact Bool.noConfusion (show false = true from hc23.symm.trans (by assumption)) | exact Bool.noConfusion (show true = false from hc23.symm.trans (by assumption)) | (exfalso; omega) | (exfalso; simp only [*, Bool.not_true, Bool.not_false, reduceCtorEq] at hc23; done)))
    refine h_yes rfl rfl rfl (y_field rfl) rfl ?_
    refine h_yes rfl rfl rfl (y_load_box rfl) rfl ?_
    refine h_yes rfl rfl rfl (y_field rfl) rfl ?_
    refine h_yes rfl rfl rfl (y_load_box rfl) rfl ?_
    refine h_yes rfl rfl rfl (y_sub rfl rfl) rfl ?_
    refine h_yes rfl rfl rfl (y_gt rfl rfl) rfl ?_
    refine h_pure rfl (y_pick_f rfl rfl) rfl ?_
    refine h_pure rfl (y_move rfl) rfl ?_
    (refine h_part_dec rfl rfl (fun hc31 => ?_) (fun hc31 => ?_) <;> try (first | exact absurd rfl hc31 | contradiction | exact Bool.noConfusion (show false = true from hc31.symm.trans (by assumption)) | exact Bool.noConfusion (show true = false from hc31.symm.trans (by assumption)) | (exfalso; omega) | (exfalso; simp only [*, Bool.not_true, Bool.not_false, reduceCtorEq] at hc31; done)))
    refine h_yes rfl rfl rfl (y_move rfl) rfl ?_
    (refine h_part rfl rfl (fun hc32 => ?_) (fun hc32 => ?_) <;> try (first | exact absurd rfl hc32 | contradiction | exact Bool.noConfusion (show false = true from hc32.symm.trans (by assumption)) | exact Bool.noConfusion (show true = false from hc32.symm.trans (by assumption)) | (exfalso; omega) | (exfalso; simp only [*, Bool.not_true, Bool.not_false, reduceCtorEq] at hc32; done)))
    refine h_one rfl ?_
    refine w_yes rfl rfl ?_
    refine w_pur rfl rfl rfl (l00In_c _ _ _) rfl ?_
    refine w_nil ?_
    refine x_held ?_
    refine h_yes rfl rfl rfl (y_not_dec rfl) rfl ?_
    refine h_pure rfl (y_pick_f rfl rfl) rfl ?_
    refine h_nil ?_
    refine x_next ?_
    (refine c_dec rfl (fun hc34 => ?_) (fun hc34 => ?_) <;> try (first | exact absurd rfl hc34 | contradiction | exact Bool.noConfusion (show false = true from hc34.symm.trans (by assumption)) | exact Bool.noConfusion (show true = false from hc34.symm.trans (by assumption)) | (exfalso; omega) | (exfalso; simp only [*, Bool.not_true, Bool.not_false, reduceCtorEq] at hc34; done)))
    refine c_skip ?_
    refine x_next ?_
    refine c_seq ?_
    refine c_region ?_
    refine w_pure (y_move rfl) rfl ?_
    (refine w_call rfl rfl rfl (l02Copy_c) rfl ?_; rintro v36 w36 ⟨sus36, ⟨hp1_36, hx36⟩⟩)
    have hl_hp1_36 := hp1_36.lt
    have hz_hx36 := hx36.size
    replace hb4 := hb4.ext hx36
    replace h := h.ext hx36
    replace E := E.trans hx36
    refine w_pure (y_assign rfl) rfl ?_
    refine w_nil ?_
    refine x_next ?_
    refine c_seq ?_
    refine c_seq ?_
    refine c_region ?_
    refine w_pure (y_assign rfl) rfl ?_
    refine w_nil ?_
    refine x_next ?_
    refine c_block ?_
    rotate_left
  refine c_loopC w20.heap.size w36.heap.size (ι := Int) (fun x => [(2, .int .i64 first), (4, ptr b4 0), (8, v36), (9, .int .i64 x)])
    (fun x w' => OwnD w' 85 w20.heap.size w36.heap.size sus36 v36 ((serL xss f t first).take x.toNat ++ xss.drop x.toNat) ∧ 0 ≤ x ∧ x ≤ xss.length ∧ serF xss f t first x.toNat = serF xss f t first 0) (fun x => (xss.length - x).toNat) 0
    (by repeat (first | exact trivial | refine ⟨rfl, ?_⟩)) ⟨by simpa using hp1_36, by omega, by omega, rfl⟩ ?_
  clear hp1_36
  rintro i wL hxL EL ⟨g3, hi0, hi1, hser⟩
  have e1 : (i + 1).toNat = i.toNat + 1 := by omega
  have hml : ((serL xss f t first).take i.toNat ++ xss.drop i.toNat).length = xss.length := mix_len hsl
  by_cases hli : i < xss.length
  case neg =>
    rw [serF_end (by omega)] at hser
    have hc0 : cSer xss f t first = 0 := hcs.trans hser.symm
    focus
      have hl_g3 := g3.lt
      have hz_hxL := hxL.size
      replace hb4 := hb4.chg hxL (by omega)
      replace h := h.chg hxL (by omega)
      replace E := E.next hxL (by omega)
      refine c_seq ?_
      refine c_seq ?_
      refine c_region ?_
      refine w_pure (y_move rfl) rfl ?_
      refine w_pure (y_move rfl) rfl ?_
      refine w_pure (y_lend rfl) rfl ?_
      refine w_pure (y_lt rfl rfl) rfl ?_
      refine w_nil ?_
      refine x_next ?_
      (refine c_dec rfl (fun hc40 => ?_) (fun hc40 => ?_) <;> try (first | exact absurd rfl hc40 | contradiction | exact Bool.noConfusion (show false = true from hc40.symm.trans (by assumption)) | exact Bool.noConfusion (show true = false from hc40.symm.trans (by assumption)) | (exfalso; omega) | (exfalso; simp only [*, Bool.not_true, Bool.not_false, reduceCtorEq] at hc40; done)))
      refine c_exit ?_
      refine x_then_exit ?_
      refine x_then_exit ?_
      refine x_block_hit ?_
      refine x_next ?_
      refine c_seq ?_
      refine c_region ?_
      refine w_pure (y_move rfl) rfl ?_
      refine w_pure (y_assign rfl) rfl ?_
      refine w_pure (y_assign rfl) rfl ?_
      refine w_nil ?_
      refine x_next ?_
      refine c_ret ?_
      rotate_left
    rw [mix_all hsl (by omega)] at g3
    exact x_retv [_, _] rfl ⟨rfl, rfl, trivial⟩ ⟨_, sus36, by rw [hc0]; rfl, by unfold resSer; rw [if_pos hc0]; exact OwnD.wide (g3.low (by omega)) (by omega) (Nat.le_refl _), E.go⟩
  have hwi := widD_at hk i.toNat (by omega)
  have hi2 : ((i.toNat : Nat) : Int) = i := Int.toNat_of_nonneg hi0
  have hz := sft_zero (t - f).toNat (first + i) (by omega)
  have eAt : serAt xss f t first i.toNat = putF (xss.getD i.toNat []) f t (pun (first + i) (t - f).toNat) := by unfold serAt; rw [hi2]
  have hpl : ((pun (first + i) (t - f).toNat).length : Int) = t - f := by rw [pun_len]; omega
  have hmg : ((serL xss f t first).take i.toNat ++ xss.drop i.toNat).getD i.toNat [] = xss.getD i.toNat [] := mix_getD hsl (by omega)
  have hst : ((serL xss f t first).take i.toNat ++ xss.drop i.toNat).set i.toNat (serAt xss f t first i.toNat) = (serL xss f t first).take (i + 1).toNat ++ xss.drop (i + 1).toNat := by rw [e1]; exact upd_step hsl (by omega) (serL_get (by omega))
  have hs0 : ((serL xss f t first).take i.toNat ++ xss.drop i.toNat).set i.toNat (xss.getD i.toNat []) = (serL xss f t first).take i.toNat ++ xss.drop i.toNat := by rw [← hmg]; exact set_own
  have hpg : ∀ k, k < (prt (xss.getD i.toNat []) f t).length → (prt (xss.getD i.toNat []) f t).getD k 0 = (xss.getD i.toNat []).getD (f.toNat + k) 0 := fun k hk => prt_get (by omega) hk
  have hprl := prt_len (xs := xss.getD i.toNat []) (f := f) (t := t) (by omega)
  generalize (serL xss f t first).take i.toNat ++ xss.drop i.toNat = M at *
  generalize hcd : xss.getD i.toNat [] = c at *
  focus
    have hl_g3 := g3.lt
    have hz_hxL := hxL.size
    replace hb4 := hb4.chg hxL (by omega)
    replace h := h.chg hxL (by omega)
    replace E := E.next hxL (by omega)
    refine c_seq ?_
    refine c_seq ?_
    refine c_region ?_
    refine w_pure (y_move rfl) rfl ?_
    refine w_pure (y_move rfl) rfl ?_
    refine w_pure (y_lend rfl) rfl ?_
    refine w_pure (y_lt rfl rfl) rfl ?_
    refine w_nil ?_
    refine x_next ?_
    (refine c_dec rfl (fun hc40 => ?_) (fun hc40 => ?_) <;> try (first | exact absurd rfl hc40 | contradiction | exact Bool.noConfusion (show false = true from hc40.symm.trans (by assumption)) | exact Bool.noConfusion (show true = false from hc40.symm.trans (by assumption)) | (exfalso; omega) | (exfalso; simp only [*, Bool.not_true, Bool.not_false, reduceCtorEq] at hc40; done)))
    refine c_skip ?_
    refine x_next ?_
    refine c_seq ?_
    refine c_block ?_
    refine c_seq ?_
    refine c_region ?_
    refine w_pure (y_move rfl) rfl ?_
    refine w_pure (y_move rfl) rfl ?_
    refine w_pure (y_add rfl rfl) rfl ?_
    refine w_pure (y_field rfl) rfl ?_
    refine w_pure (y_load_box rfl) rfl ?_
    refine w_pure (y_field rfl) rfl ?_
    refine w_pure (y_load_box rfl) rfl ?_
    refine w_pure (y_sub rfl rfl) rfl ?_
    (refine w_call rfl rfl rfl (l03Put_c _ _) rfl ?_; rintro _ w52 ⟨d52, ⟨rfl, ⟨hp1_52, hx52⟩⟩⟩)
    have hl_hp1_52 := hp1_52.lt
    have hz_hx52 := hx52.size
    replace EL := EL.next hx52 (by omega)
    replace g3 := g3.ext hx52
    replace hb4 := hb4.ext hx52
    replace h := h.ext hx52
    replace E := E.trans hx52
    refine w_pure (y_move rfl) rfl ?_
    refine w_pure (y_extract rfl rfl) rfl ?_
    refine w_pure (y_extract rfl rfl) rfl ?_
    refine w_pure (y_assign rfl) rfl ?_
    refine w_pure (y_assign rfl) rfl ?_
    refine w_nil ?_
    refine x_next ?_
    refine c_seq ?_
    refine c_seq ?_
    refine c_region ?_
    refine w_pure (y_move rfl) rfl ?_
    refine w_pure (y_not_dec rfl) rfl ?_
    refine w_nil ?_
    refine x_next ?_
    (refine c_dec rfl (fun hc56 => ?_) (fun hc56 => ?_) <;> try (first | exact absurd rfl hc56 | contradiction | exact Bool.noConfusion (show false = true from hc56.symm.trans (by assumption)) | exact Bool.noConfusion (show true = false from hc56.symm.trans (by assumption)) | (exfalso; omega) | (exfalso; simp only [*, Bool.not_true, Bool.not_false, reduceCtorEq] at hc56; done)))
    refine c_seq ?_
    refine c_region ?_
    refine w_pure (y_assign rfl) rfl ?_
    refine w_pure (y_assign rfl) rfl ?_
    refine w_nil ?_
    refine x_next ?_
    refine c_ret ?_
    refine x_then_ret ?_
    refine x_block_ret ?_
    refine x_then_ret ?_
    refine x_then_ret ?_
    refine x_block_ret ?_
    refine x_then_ret ?_
    rotate_left
    refine c_skip ?_
    refine x_next ?_
    refine c_seq ?_
    refine c_region ?_
    refine w_pure (y_assign rfl) rfl ?_
    refine w_nil ?_
    refine x_next ?_
    refine c_block ?_
    rotate_left
  · have hc5 : cSer xss f t first = 5 := by rw [hcs, ← hser, serF_5 (i := i.toNat) (by omega) (by rw [hi2]; exact fun hh => hc56 (hz.2 hh))]
    exact x_retv [_, _] rfl ⟨rfl, rfl, trivial⟩ ⟨_, [], by rw [hc5]; rfl, by unfold resSer; rw [hc5, if_neg (by decide)]; exact OwnD.nil _ _ _ _ (Nat.le_refl _), E.go⟩
  have hlt5 : first + (i.toNat : Nat) < 10 ^ (t - f).toNat := by rw [hi2]; exact hz.1 (Decidable.not_not.1 hc56)
  generalize pun (first + i) (t - f).toNat = P at *
  refine c_loopC w20.heap.size w36.heap.size (ι := Int) (fun x => [(2, .int .i64 first), (4, ptr b4 0), (8, v36), (9, .int .i64 i), (10, d52), (12, .int .i64 x)])
    (fun x w' => OwnD w' 85 w20.heap.size w36.heap.size sus36 v36 (M.set i.toNat (putF c f (f + x) (P.take x.toNat))) ∧ 0 ≤ x ∧ x ≤ t - f ∧ ∀ k : Nat, k < x.toNat → c.getD (f.toNat + k) 0 = 0) (fun x => (t - f - x).toNat) 0
    (by repeat (first | exact trivial | refine ⟨rfl, ?_⟩)) ⟨by rw [put_zero, hs0]; assumption, by omega, by omega, fun k hk => by simp at hk⟩ ?_
  clear g3
  rintro x wM hxM EM ⟨g6, hx0, hx1, hall⟩
  have hMl : (M.set i.toNat (putF c f (f + x) (P.take x.toNat))).length = xss.length := by rw [List.length_set]; exact hml
  have hMg : (M.set i.toNat (putF c f (f + x) (P.take x.toNat))).getD i.toNat [] = putF c f (f + x) (P.take x.toNat) := by
    rw [List.getD_eq_getElem?_getD, List.getElem?_set_self (by omega)]; rfl
  have hpx := put_lenx (c := c) (P := P) (f := f) (x := x) (by omega) (by omega) (by omega)
  have hgl : ((M.set i.toNat (putF c f (f + x) (P.take x.toNat))).getD i.toNat []).length = c.length := by rw [hMg]; exact hpx
  by_cases hlx : x < t - f
  case neg =>
    have ex : x = t - f := by omega
    subst ex
    have hbk : blkB c f t = true := blkB_yes fun k hk => by rw [hpg k hk]; exact hall k (by omega)
    rw [show f + (t - f) = t by omega, List.take_of_length_le (by omega), ← eAt, hst] at g6
    focus
      have hl_g6 := g6.lt
      have hz_hxM := hxM.size
      replace EL := EL.trans hxM
      replace hb4 := hb4.chg hxM (by omega)
      replace h := h.chg hxM (by omega)
      replace E := E.next hxM (by omega)
      replace hp1_52 := hp1_52.chg hxM (by omega)
      refine c_seq ?_
      refine c_seq ?_
      refine c_region ?_
      refine w_pure (y_move rfl) rfl ?_
      refine w_pure (y_move rfl) rfl ?_
      refine w_pure (y_len rfl) rfl ?_
      refine w_pure (y_lt rfl rfl) rfl ?_
      refine w_nil ?_
      refine x_next ?_
      (refine c_dec rfl (fun hc60 => ?_) (fun hc60 => ?_) <;> try (first | exact absurd rfl hc60 | contradiction | exact Bool.noConfusion (show false = true from hc60.symm.trans (by assumption)) | exact Bool.noConfusion (show true = false from hc60.symm.trans (by assumption)) | (exfalso; omega) | (exfalso; simp only [*, Bool.not_true, Bool.not_false, reduceCtorEq] at hc60; done)))
      refine c_exit ?_
      refine x_then_exit ?_
      refine x_then_exit ?_
      refine x_block_hit ?_
      refine x_block_norm ?_
      refine x_next ?_
      refine c_region ?_
      refine w_pure (y_move rfl) rfl ?_
      refine w_pure (y_add rfl rfl) rfl ?_
      refine w_pure (y_assign rfl) rfl ?_
      refine w_nil ?_
      rotate_left
    refine x_again (i + 1) (by repeat (first | exact trivial | refine ⟨rfl, ?_⟩)) ⟨EL.go, by assumption, by omega, by omega, ?_⟩ (by omega)
    rw [← hser, serF_on (i := i.toNat) (by omega) hlt5 (by rw [hcd]; exact hbk), e1]
  have hpgx := put_get (c := c) (P := P) (f := f) (x := x) (by omega) (by omega) (by omega)
  have hval : ((M.set i.toNat (putF c f (f + x) (P.take x.toNat))).getD i.toNat []).getD (f + x).toNat 0 = c.getD (f + x).toNat 0 := by rw [hMg]; exact hpgx
  have hpst := put_step (c := c) (P := P) (f := f) (x := x) (by omega) (by omega) (by omega)
  focus
    have hl_g6 := g6.lt
    have hz_hxM := hxM.size
    replace EL := EL.trans hxM
    replace hb4 := hb4.chg hxM (by omega)
    replace h := h.chg hxM (by omega)
    replace E := E.next hxM (by omega)
    replace hp1_52 := hp1_52.chg hxM (by omega)
    refine c_seq ?_
    refine c_seq ?_
    refine c_region ?_
    refine w_pure (y_move rfl) rfl ?_
    refine w_pure (y_move rfl) rfl ?_
    refine w_pure (y_len rfl) rfl ?_
    refine w_pure (y_lt rfl rfl) rfl ?_
    refine w_nil ?_
    refine x_next ?_
    (refine c_dec rfl (fun hc60 => ?_) (fun hc60 => ?_) <;> try (first | exact absurd rfl hc60 | contradiction | exact Bool.noConfusion (show false = true from hc60.symm.trans (by assumption)) | exact Bool.noConfusion (show true = false from hc60.symm.trans (by assumption)) | (exfalso; omega) | (exfalso; simp only [*, Bool.not_true, Bool.not_false, reduceCtorEq] at hc60; done)))
    refine c_skip ?_
    refine x_next ?_
    refine c_seq ?_
    refine c_block ?_
    refine c_seq ?_
    refine c_region ?_
    refine w_pure (y_field rfl) rfl ?_
    refine w_pure (y_load_box rfl) rfl ?_
    refine w_pure (y_move rfl) rfl ?_
    refine w_pure (y_add rfl rfl) rfl ?_
    refine w_pure (y_assign rfl) rfl ?_
    refine w_nil ?_
    refine x_next ?_
    refine c_seq ?_
    refine c_seq ?_
    refine c_region ?_
    refine w_pure (y_move rfl) rfl ?_
    refine w_pure (y_move rfl) rfl ?_
    refine w_pure (y_indexd rfl rfl) rfl ?_
    refine w_pure (y_field rfl) rfl ?_
    refine w_pure (y_loadk rfl) rfl ?_
    refine w_pure (y_move rfl) rfl ?_
    refine w_pure (y_index rfl rfl) rfl ?_
    refine w_pure (y_load_int rfl) rfl ?_
    refine w_pure (y_ne rfl rfl) rfl ?_
    refine w_nil ?_
    refine x_next ?_
    (refine c_dec rfl (fun hc75 => ?_) (fun hc75 => ?_) <;> try (first | exact absurd rfl hc75 | contradiction | exact Bool.noConfusion (show false = true from hc75.symm.trans (by assumption)) | exact Bool.noConfusion (show true = false from hc75.symm.trans (by assumption)) | (exfalso; omega) | (exfalso; simp only [*, Bool.not_true, Bool.not_false, reduceCtorEq] at hc75; done)))
    refine c_seq ?_
    refine c_region ?_
    refine w_pure (y_assign rfl) rfl ?_
    refine w_pure (y_assign rfl) rfl ?_
    refine w_nil ?_
    refine x_next ?_
    refine c_ret ?_
    refine x_then_ret ?_
    refine x_block_ret ?_
    refine x_then_ret ?_
    refine x_then_ret ?_
    refine x_block_ret ?_
    refine x_block_ret ?_
    refine x_then_ret ?_
    refine x_then_ret ?_
    refine x_block_ret ?_
    refine x_then_ret ?_
    rotate_left
    refine c_skip ?_
    refine x_next ?_
    refine c_region_base mixed (fun wr18 hxr18 hzr18 EBr18 => ?_)
    have hz_hxr18 := hxr18.size
    replace EM := EM.next hxr18 (by omega)
    replace g6 := g6.ext hxr18
    replace EL := EL.next hxr18 (by omega)
    replace hb4 := hb4.ext hxr18
    replace h := h.ext hxr18
    replace E := E.trans hxr18
    replace hp1_52 := hp1_52.ext hxr18
    refine b_pure rfl (y_move rfl) rfl ?_
    refine b_pure rfl (y_move rfl) rfl ?_
    refine b_pure rfl (y_indexd rfl rfl) rfl ?_
    refine b_pure rfl (y_field rfl) rfl ?_
    refine b_pure rfl (y_loadk rfl) rfl ?_
    refine b_pure rfl (y_move rfl) rfl ?_
    refine b_pure rfl (y_move rfl) rfl ?_
    refine b_pure rfl (y_move rfl) rfl ?_
    refine b_pure rfl (y_index rfl rfl) rfl ?_
    refine b_pure rfl (y_load_int rfl) rfl ?_
    refine b_pure rfl (y_index rfl rfl) rfl ?_
    refine b_one rfl ?_
    refine w_store_eld rfl rfl (next := fun ws72 hos72 hxs72 hss72 => ?_)
    (replace g6 := hos72; clear hos72)
    have hz_hxs72 := hxs72.size
    replace EM := EM.trans hxs72
    replace EL := EL.trans hxs72
    replace hb4 := hb4.chg hxs72 (by omega)
    replace h := h.chg hxs72 (by omega)
    replace E := E.next hxs72 (by omega)
    replace hp1_52 := hp1_52.chg hxs72 (by omega)
    refine w_nil ?_
    refine x_hbk ?_
    refine b_nil ?_
    refine x_block_norm ?_
    refine x_next ?_
    refine c_region ?_
    refine w_pure (y_move rfl) rfl ?_
    refine w_pure (y_add rfl rfl) rfl ?_
    refine w_pure (y_assign rfl) rfl ?_
    refine w_nil ?_
    rotate_left
  · have hnz : ¬ (prt c f t).getD x.toNat 0 = 0 := by
      rw [hpg x.toNat (by omega), show f.toNat + x.toNat = (f + x).toNat by omega, ← hval]; exact hc75
    have hbk : blkB c f t = false := blkB_no (by omega) hnz
    have hc9 : cSer xss f t first = 9 := by rw [hcs, ← hser, serF_9 (i := i.toNat) (by omega) hlt5 (by rw [hcd]; exact hbk)]
    exact x_retv [_, _] rfl ⟨rfl, rfl, trivial⟩ ⟨_, [], by rw [hc9]; rfl, by unfold resSer; rw [hc9, if_neg (by decide)]; exact OwnD.nil _ _ _ _ (Nat.le_refl _), E.go⟩
  · rw [hMg, List.set_set, hpst] at g6
    refine x_again (x + 1) (by repeat (first | exact trivial | refine ⟨rfl, ?_⟩)) ⟨EM.go, by assumption, by omega, by omega, fun k hk => ?_⟩ (by omega)
    by_cases ek : k = x.toNat
    · subst ek
      rw [show f.toNat + x.toNat = (f + x).toNat by omega, ← hval]; exact Decidable.not_not.1 hc75
    · exact hall k (by omega)
end
end Go.Proofs.YtdkedajdgllilaaDoor

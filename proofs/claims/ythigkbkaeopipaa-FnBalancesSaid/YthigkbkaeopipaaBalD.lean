/- Contracts: counters that the laws draw. -/
import Derived.Test.YthigkbkaeopipaaBalA
namespace Go.Proofs.Ythigkbkaeopipaa
open Go Go.Gw
set_option linter.unusedVariables false
set_option linter.unusedSimpArgs false
theorem powB {k : Nat} (h : k ≤ 4) : 1 ≤ (10 : Int) ^ k ∧ (10 : Int) ^ k ≤ 10000 := ⟨by have := pow10_pos k; omega, pow10_le h⟩
theorem last_bd {xs : List Int} (h : ∀ x ∈ xs, -10000 ≤ x ∧ x ≤ 10000) (i : Nat) : -10000 ≤ xs.getD i 0 ∧ xs.getD i 0 ≤ 10000 := by
  by_cases hi : i < xs.length
  · exact h _ (getD_in hi)
  · rw [List.getD_eq_getElem?_getD, List.getElem?_eq_none (by omega)]; simp
theorem snoc_bd {xs : List Int} {y : Int} (h : ∀ x ∈ xs, -10000 ≤ x ∧ x ≤ 10000) (hy : -10000 ≤ y ∧ y ≤ 10000) : ∀ x ∈ xs ++ [y], -10000 ≤ x ∧ x ≤ 10000 := fun x hx => by
  rw [List.mem_append, List.mem_singleton] at hx
  rcases hx with hx | rfl
  · exact h x hx
  · exact hy
section
variable {w : World} {lo hi b l9 k9 : Nat} {B : Int} {v : Value} {p : List UInt8} {xs : List Int}
theorem srcAmong_z (hs : SL w l9 k9 v xs := by repeat (first | assumption | exact Go.Gw.Own.sl (by assumption) | exact Go.Gw.Box.at (by assumption) | exact Go.Gw.SLL.el (by first | assumption | exact Go.Gw.OwnD.sll (by assumption)) _ (by omega) | exact Go.Gw.SLL.at (by first | assumption | exact Go.Gw.OwnD.sll (by assumption)) (by omega) | exact Go.Gw.OwnD.sll (by assumption) | (apply Go.Gw.SL.chg; case hx => assumption) | (apply Go.Gw.Own.chg; case hx => assumption) | (apply Go.Gw.Box.chg; case hx => assumption) | (apply Go.Gw.At.chg; case hx => assumption) | exact .inl (Nat.zero_le _) | exact .inr (Nat.zero_le _) | (show _ ∨ _; omega))) (h : Src w lo hi b B := by assumption) (hB : B ≤ 10000000000 := by omega) (hn : 1 ≤ xs.length ∧ xs.length ≤ 1000 := by first | omega | (simp only [List.length_cons, List.length_nil]; omega)) (hd : b < l9 ∨ k9 ≤ b := by omega) : Ret Try.prog 77 [ptr b 0, v] w fun u w' => ∃ x, u = .int .i64 x ∧ x ∈ xs ∧ Src w' lo hi b (B + 2) ∧ Chg b (b + 1) w w' := by
  have htop := h.top
  have E : Since b (b + 1) w w := Since.refl _ _ _
  refine ret_enter Try.func77 rfl Try.ntmps77 rfl ?_
  focus
    have ht_hs := hs.top
    have ht_h := h.top
    refine c_seq ?_
    refine c_region ?_
    refine w_pure (y_assign rfl) rfl ?_
    refine w_nil ?_
    refine x_next ?_
    refine c_seq ?_
    refine c_region ?_
    refine w_pure (y_move rfl) rfl ?_
    refine w_pure (y_move rfl) rfl ?_
    refine w_pure (y_move rfl) rfl ?_
    refine w_pure (y_len rfl) rfl ?_
    (refine w_call rfl rfl rfl (srcPick_z _) rfl ?_; rintro _ w9 ⟨x9, ⟨rfl, ⟨⟨hp1_9, hp2_9⟩, ⟨hp3_9, hx9⟩⟩⟩⟩)
    have hz_hx9 := hx9.size
    replace hs := hs.chg hx9 (by omega)
    replace E := E.trans hx9
    refine w_pure (y_index rfl rfl) rfl ?_
    refine w_pure (y_load_int rfl) rfl ?_
    refine w_pure (y_assign rfl) rfl ?_
    refine w_nil ?_
    refine x_next ?_
    refine c_ret ?_
    rotate_left
  exact x_retv [_] rfl ⟨rfl, trivial⟩ ⟨_, rfl, getD_in (by omega), hp3_9, E.go⟩
theorem l00MinB_c (a b : Int) : Pur Try.prog 80 [.int .i64 a, .int .i64 b] (.int .i64 (min a b)) := by
  refine ⟨fun w => ?_⟩
  refine ret_enter Try.func80 rfl Try.ntmps80 rfl ?_
  focus
    refine c_seq ?_
    refine c_region ?_
    refine w_pure (y_assign rfl) rfl ?_
    refine w_nil ?_
    refine x_next ?_
    refine c_seq ?_
    refine c_seq ?_
    refine c_region ?_
    refine w_pure (y_move rfl) rfl ?_
    refine w_pure (y_move rfl) rfl ?_
    refine w_pure (y_lt rfl rfl) rfl ?_
    refine w_nil ?_
    refine x_next ?_
    (refine c_dec rfl (fun hc7 => ?_) (fun hc7 => ?_) <;> try (first | exact absurd rfl hc7 | contradiction | exact Bool.noConfusion (show false = true from hc7.symm.trans (by assumption)) | exact Bool.noConfusion (show true = false from hc7.symm.trans (by assumption)) | (exfalso; omega) | (exfalso; simp only [*, Bool.not_true, Bool.not_false, reduceCtorEq] at hc7; done)))
    refine c_seq ?_
    refine c_region ?_
    refine w_pure (y_move rfl) rfl ?_
    refine w_pure (y_assign rfl) rfl ?_
    refine w_nil ?_
    refine x_next ?_
    refine c_ret ?_
    refine x_then_ret ?_
    rotate_left
    refine c_skip ?_
    refine x_next ?_
    refine c_seq ?_
    refine c_region ?_
    refine w_pure (y_move rfl) rfl ?_
    refine w_pure (y_assign rfl) rfl ?_
    refine w_nil ?_
    refine x_next ?_
    refine c_ret ?_
    rotate_left
  all_goals refine x_retv [_] rfl ⟨rfl, trivial⟩ ⟨?_, rfl⟩
  all_goals simp only [ofResults]; congr 1; omega
set_option maxHeartbeats 4000000 in
theorem DrawBalanceAfter_c (h : SL w lo hi v p := by repeat (first | assumption | exact Go.Gw.Own.sl (by assumption) | exact Go.Gw.Box.at (by assumption) | exact Go.Gw.SLL.el (by first | assumption | exact Go.Gw.OwnD.sll (by assumption)) _ (by omega) | exact Go.Gw.SLL.at (by first | assumption | exact Go.Gw.OwnD.sll (by assumption)) (by omega) | exact Go.Gw.OwnD.sll (by assumption) | (apply Go.Gw.SL.chg; case hx => assumption) | (apply Go.Gw.Own.chg; case hx => assumption) | (apply Go.Gw.Box.chg; case hx => assumption) | (apply Go.Gw.At.chg; case hx => assumption) | exact .inl (Nat.zero_le _) | exact .inr (Nat.zero_le _) | (show _ ∨ _; omega))) : Ret Try.prog 19 [v] w fun u w' => ∃ d, ∃ xs : List Int, ∃ k : Int, u = .tuple #[.int .i64 k, d] ∧ Own w' 2 w.heap.size d xs ∧ xs.length ≤ 41 ∧ In64 k ∧ Ext w w' := by
  have htop := h.top
  have E : Since 0 0 w w := Since.refl 0 0 w
  refine ret_enter Try.func19 rfl Try.ntmps19 rfl ?_
  focus
    have ht_h := h.top
    refine c_seq ?_
    refine c_region ?_
    refine w_pure (y_assign rfl) rfl ?_
    refine w_pure (y_assign rfl) rfl ?_
    refine w_nil ?_
    refine x_next ?_
    refine c_seq ?_
    refine c_region ?_
    refine w_pure (y_move rfl) rfl ?_
    (refine w_call rfl rfl rfl (srcFrom_z) rfl ?_; rintro _ w11 ⟨c11, ⟨rfl, ⟨hp1_11, ⟨hp2_11, ⟨hp3_11, hx11⟩⟩⟩⟩⟩)
    have hz_hx11 := hx11.size
    replace h := h.ext hx11
    replace E := E.trans hx11
    refine w_pure (y_assign rfl) rfl ?_
    refine w_nil ?_
    refine x_next ?_
    refine c_seq ?_
    refine c_region ?_
    refine w_pure (y_move rfl) rfl ?_
    (refine w_call rfl rfl rfl (srcPick_z _) rfl ?_; rintro _ w13 ⟨x13, ⟨rfl, ⟨⟨hp1_13, hp2_13⟩, ⟨hp3_13, hx13⟩⟩⟩⟩)
    have hz_hx13 := hx13.size
    replace h := h.chg hx13 (by omega)
    replace E := E.next hx13 (by omega)
    refine w_pure (y_add rfl rfl) rfl ?_
    refine w_pure (y_assign rfl) rfl ?_
    refine w_nil ?_
    refine x_next ?_
    refine c_seq ?_
    refine c_seq ?_
    refine c_region ?_
    refine w_pure (y_move rfl) rfl ?_
    (refine w_call rfl rfl rfl (srcOne_c _) rfl ?_; rintro _ w16 ⟨q16, ⟨rfl, ⟨hp1_16, hx16⟩⟩⟩)
    have hz_hx16 := hx16.size
    replace h := h.chg hx16 (by omega)
    replace E := E.next hx16 (by omega)
    refine w_nil ?_
    refine x_next ?_
    (refine c_if rfl (fun hc16 => ?_) (fun hc16 => ?_) <;> try (first | exact absurd rfl hc16 | contradiction | exact Bool.noConfusion (show false = true from hc16.symm.trans (by assumption)) | exact Bool.noConfusion (show true = false from hc16.symm.trans (by assumption)) | (exfalso; omega) | (exfalso; simp only [*, Bool.not_true, Bool.not_false, reduceCtorEq] at hc16; done)))
    refine c_region ?_
    refine w_pure (y_move rfl) rfl ?_
    refine w_lit (α := Int) rfl rfl rfl rfl rfl rfl rfl rfl (fun v18 w18 ho18 hx18 hl18 hh18 hs18 => ?_)
    have hl_ho18 := ho18.lt
    have hz_hx18 := hx18.size
    replace hp1_16 := hp1_16.ext hx18
    replace h := h.ext hx18
    replace E := E.trans hx18
    (refine w_call rfl rfl rfl (srcAmong_z) rfl ?_; rintro _ w19 ⟨x19, ⟨rfl, ⟨hp1_19, ⟨hp2_19, hx19⟩⟩⟩⟩)
    have hz_hx19 := hx19.size
    replace ho18 := ho18.chg hx19 (by omega)
    replace h := h.chg hx19 (by omega)
    replace E := E.next hx19 (by omega)
    refine w_pure (y_assign rfl) rfl ?_
    refine w_nil ?_
    refine x_next ?_
    refine c_seq ?_
    refine c_region ?_
    refine w_pure (y_move rfl) rfl ?_
    rotate_left
    refine c_skip ?_
    refine x_next ?_
    refine c_seq ?_
    refine c_region ?_
    refine w_pure (y_move rfl) rfl ?_
    refine w_pure (y_sub rfl rfl) rfl ?_
    refine w_pur rfl rfl rfl (l00MinB_c _ _) rfl ?_
    refine w_pur rfl rfl rfl (l00Max_c _ _) rfl ?_
    refine w_pur rfl rfl rfl (l11Power_c _ (by omega) (by omega)) rfl ?_
    refine w_pure (y_assign rfl) rfl ?_
    refine w_nil ?_
    refine x_next ?_
    refine c_seq ?_
    refine c_region ?_
    refine w_lit (α := Int) rfl rfl rfl rfl rfl rfl rfl rfl (fun v25 w25 ho25 hx25 hl25 hh25 hs25 => ?_)
    have hl_ho25 := ho25.lt
    have hz_hx25 := hx25.size
    replace hp1_16 := hp1_16.ext hx25
    replace h := h.ext hx25
    replace E := E.trans hx25
    refine w_pure (y_assign rfl) rfl ?_
    refine w_nil ?_
    refine x_next ?_
    refine c_seq ?_
    refine c_seq ?_
    refine c_region ?_
    refine w_pure (y_move rfl) rfl ?_
    (refine w_call rfl rfl rfl (srcPick_z _) rfl ?_; rintro _ w27 ⟨x27, ⟨rfl, ⟨⟨hp1_27, hp2_27⟩, ⟨hp3_27, hx27⟩⟩⟩⟩)
    have hz_hx27 := hx27.size
    replace ho25 := ho25.chg hx27 (by omega)
    replace h := h.chg hx27 (by omega)
    replace E := E.next hx27 (by omega)
    refine w_pure (y_assign rfl) rfl ?_
    refine w_nil ?_
    refine x_next ?_
    refine c_block ?_
    rotate_left
  · have hb1 : -1 ≤ x19 ∧ x19 ≤ 13 := by
      simp only [List.mem_cons, List.not_mem_nil, or_false] at hp1_19
      omega
    clear hp1_19
    have hM := powB (k := (max 1 (min 4 (x19 - 1))).toNat) (by omega)
    focus
      have ht_hp2_11 := hp2_11.top
      have ht_hp3_13 := hp3_13.top
      have ht_hp1_16 := hp1_16.top
      have ht_hp2_19 := hp2_19.top
      refine w_pure (y_sub rfl rfl) rfl ?_
      refine w_pur rfl rfl rfl (l00MinB_c _ _) rfl ?_
      refine w_pur rfl rfl rfl (l00Max_c _ _) rfl ?_
      refine w_pur rfl rfl rfl (l11Power_c _ (by omega) (by omega)) rfl ?_
      refine w_pure (y_assign rfl) rfl ?_
      refine w_nil ?_
      refine x_next ?_
      refine c_seq ?_
      refine c_region ?_
      refine w_lit (α := Int) rfl rfl rfl rfl rfl rfl rfl rfl (fun v25 w25 ho25 hx25 hl25 hh25 hs25 => ?_)
      have hl_ho25 := ho25.lt
      have hz_hx25 := hx25.size
      replace hp2_19 := hp2_19.ext hx25
      replace ho18 := ho18.ext hx25
      replace h := h.ext hx25
      replace E := E.trans hx25
      refine w_pure (y_assign rfl) rfl ?_
      refine w_nil ?_
      refine x_next ?_
      refine c_seq ?_
      refine c_seq ?_
      refine c_region ?_
      refine w_pure (y_move rfl) rfl ?_
      (refine w_call rfl rfl rfl (srcPick_z _) rfl ?_; rintro _ w27 ⟨x27, ⟨rfl, ⟨⟨hp1_27, hp2_27⟩, ⟨hp3_27, hx27⟩⟩⟩⟩)
      have hz_hx27 := hx27.size
      replace ho25 := ho25.chg hx27 (by omega)
      replace ho18 := ho18.chg hx27 (by omega)
      replace h := h.chg hx27 (by omega)
      replace E := E.next hx27 (by omega)
      refine w_pure (y_assign rfl) rfl ?_
      refine w_nil ?_
      refine x_next ?_
      refine c_block ?_
      rotate_left
    generalize (10 : Int) ^ (max 1 (min 4 (x19 - 1))).toNat = most at *
    refine c_loopC c11 (bH v25) (ι := Int × Value × List Int) (fun x => [(4, ptr c11 0), (5, .int .i64 (x19)), (6, .int .i64 most), (7, x.2.1), (8, .int .i64 x.1)])
      (fun x w' => Own w' 2 w.heap.size x.2.1 x.2.2 ∧ (∀ y ∈ x.2.2, -10000 ≤ y ∧ y ≤ 10000) ∧ x.2.2.length ≤ 7 - x.1 ∧ (0 ≤ x.1 ∧ x.1 ≤ 7) ∧ Src w' lo hi c11 (10 + 10 * (7 - x.1)) ∧ ((bL x.2.1 = bL v25 ∧ bH x.2.1 = bH v25) ∨ w27.heap.size ≤ bL x.2.1) ∧ Since 0 0 w w') (fun x => x.1.toNat) (x27, v25, [])
      (by repeat (first | exact trivial | refine ⟨rfl, ?_⟩)) ⟨Own.base (by assumption) (by omega), by simp, by simp; omega, by dsimp only; omega, (by assumption : Src w27 lo hi c11 _).more (by dsimp only; omega), .inl ⟨rfl, rfl⟩, by assumption⟩ ?_
    clear ho25 E hp2_19 hp3_27
    rintro ⟨k, u, ys⟩ wL hxL EL ⟨g1, g2, g3, g4, g5, g6, E⟩
    dsimp only at *
    have hzL := hxL.size
    have hla := last_bd g2 ((ys.length : Int) - 1).toNat
    by_cases hlk : 0 < k
    · focus
        have hl_g1 := g1.lt
        have ht_g5 := g5.top
        have hz_hxL := hxL.size
        replace h := h.chg hxL (by omega)
        refine c_seq ?_
        refine c_seq ?_
        refine c_region ?_
        refine w_pure (y_move rfl) rfl ?_
        refine w_pure (y_gt rfl rfl) rfl ?_
        refine w_nil ?_
        refine x_next ?_
        (refine c_dec rfl (fun hc29 => ?_) (fun hc29 => ?_) <;> try (first | exact absurd rfl hc29 | contradiction | exact Bool.noConfusion (show false = true from hc29.symm.trans (by assumption)) | exact Bool.noConfusion (show true = false from hc29.symm.trans (by assumption)) | (exfalso; omega) | (exfalso; simp only [*, Bool.not_true, Bool.not_false, reduceCtorEq] at hc29; done)))
        refine c_skip ?_
        refine x_next ?_
        refine c_seq ?_
        refine c_block ?_
        refine c_seq ?_
        refine c_region ?_
        refine w_pure (y_move rfl) rfl ?_
        refine w_pure (y_move rfl) rfl ?_
        (refine w_call rfl rfl rfl (srcPick_z _) rfl ?_; rintro _ w34 ⟨x34, ⟨rfl, ⟨⟨hp1_34, hp2_34⟩, ⟨hp3_34, hx34⟩⟩⟩⟩)
        have hz_hx34 := hx34.size
        replace EL := EL.next hx34 (by omega)
        replace g1 := g1.chg hx34 (by omega)
        replace E := E.next hx34 (by omega)
        replace h := h.chg hx34 (by omega)
        refine w_pure (y_assign rfl) rfl ?_
        refine w_nil ?_
        refine x_next ?_
        refine c_seq ?_
        refine c_seq ?_
        refine c_region ?_
        refine w_pure (y_move rfl) rfl ?_
        (refine w_call rfl rfl rfl (srcOne_c _) rfl ?_; rintro _ w36 ⟨q36, ⟨rfl, ⟨hp1_36, hx36⟩⟩⟩)
        have hz_hx36 := hx36.size
        replace EL := EL.next hx36 (by omega)
        replace g1 := g1.chg hx36 (by omega)
        replace E := E.next hx36 (by omega)
        replace h := h.chg hx36 (by omega)
        refine w_nil ?_
        refine x_next ?_
        (refine c_if rfl (fun hc36 => ?_) (fun hc36 => ?_) <;> try (first | exact absurd rfl hc36 | contradiction | exact Bool.noConfusion (show false = true from hc36.symm.trans (by assumption)) | exact Bool.noConfusion (show true = false from hc36.symm.trans (by assumption)) | (exfalso; omega) | (exfalso; simp only [*, Bool.not_true, Bool.not_false, reduceCtorEq] at hc36; done)))
        refine c_region ?_
        refine w_pure (y_move rfl) rfl ?_
        refine w_pure (y_neg rfl) rfl ?_
        refine w_pure (y_assign rfl) rfl ?_
        refine w_nil ?_
        refine x_next ?_
        refine c_seq ?_
        refine c_seq ?_
        refine c_region ?_
        refine w_pure (y_move rfl) rfl ?_
        (refine w_call rfl rfl rfl (srcOne_c _) rfl ?_; rintro _ w40 ⟨q40, ⟨rfl, ⟨hp1_40, hx40⟩⟩⟩)
        have hz_hx40 := hx40.size
        replace EL := EL.next hx40 (by omega)
        replace g1 := g1.chg hx40 (by omega)
        replace E := E.next hx40 (by omega)
        replace h := h.chg hx40 (by omega)
        refine w_pure (y_move rfl) rfl ?_
        (refine w_part rfl rfl (fun hc42 => ?_) (fun hc42 => ?_) <;> try (first | exact absurd rfl hc42 | contradiction | exact Bool.noConfusion (show false = true from hc42.symm.trans (by assumption)) | exact Bool.noConfusion (show true = false from hc42.symm.trans (by assumption)) | (exfalso; omega) | (exfalso; simp only [*, Bool.not_true, Bool.not_false, reduceCtorEq] at hc42; done)))
        refine w_yes rfl rfl ?_
        refine w_pure (y_move rfl) rfl ?_
        refine w_yes rfl rfl ?_
        refine w_pure (y_len rfl) rfl ?_
        refine w_yes rfl rfl ?_
        refine w_pure (y_gt rfl rfl) rfl ?_
        refine w_pure (y_pick_t rfl rfl) rfl ?_
        refine w_nil ?_
        refine x_next ?_
        (refine c_dec rfl (fun hc45 => ?_) (fun hc45 => ?_) <;> try (first | exact absurd rfl hc45 | contradiction | exact Bool.noConfusion (show false = true from hc45.symm.trans (by assumption)) | exact Bool.noConfusion (show true = false from hc45.symm.trans (by assumption)) | (exfalso; omega) | (exfalso; simp only [*, Bool.not_true, Bool.not_false, reduceCtorEq] at hc45; done)))
        refine c_region ?_
        refine w_pure (y_move rfl) rfl ?_
        refine w_pure (y_move rfl) rfl ?_
        refine w_pure (y_len rfl) rfl ?_
        refine w_pure (y_sub rfl rfl) rfl ?_
        refine w_pure (y_index rfl rfl) rfl ?_
        refine w_pure (y_load_int rfl) rfl ?_
        refine w_pure (y_neg rfl) rfl ?_
        refine w_pure (y_assign rfl) rfl ?_
        refine w_nil ?_
        refine x_next ?_
        refine c_region ?_
        refine w_pure (y_move rfl) rfl ?_
        refine w_pure (y_move rfl) rfl ?_
        refine w_lit (α := Int) rfl rfl rfl rfl rfl rfl rfl rfl (fun v55 w55 ho55 hx55 hl55 hh55 hs55 => ?_)
        have hl_ho55 := ho55.lt
        have hz_hx55 := hx55.size
        replace hp1_40 := hp1_40.ext hx55
        replace EL := EL.next hx55 (by omega)
        replace g1 := g1.ext hx55
        replace E := E.trans hx55
        replace h := h.ext hx55
        refine w_append rfl rfl (k := fun v56 w56 ho56 hx56 hr56 => ?_)
        have hl_ho56 := ho56.lt
        have hz_hx56 := hx56.size
        replace ho55 := ho55.chg hx56 (by omega)
        replace hp1_40 := hp1_40.chg hx56 (by omega)
        replace EL := EL.next hx56 (by omega)
        replace E := E.next hx56 (by omega)
        replace h := h.chg hx56 (by omega)
        refine w_pure (y_assign rfl) rfl ?_
        refine w_nil ?_
        refine x_block_norm ?_
        refine x_next ?_
        refine c_region ?_
        refine w_pure (y_move rfl) rfl ?_
        refine w_pure (y_sub rfl rfl) rfl ?_
        refine w_pure (y_assign rfl) rfl ?_
        refine w_nil ?_
        rotate_left
        refine c_skip ?_
        refine x_next ?_
        refine c_region ?_
        refine w_pure (y_move rfl) rfl ?_
        refine w_pure (y_move rfl) rfl ?_
        refine w_lit (α := Int) rfl rfl rfl rfl rfl rfl rfl rfl (fun v55 w55 ho55 hx55 hl55 hh55 hs55 => ?_)
        have hl_ho55 := ho55.lt
        have hz_hx55 := hx55.size
        replace hp1_40 := hp1_40.ext hx55
        replace EL := EL.next hx55 (by omega)
        replace g1 := g1.ext hx55
        replace E := E.trans hx55
        replace h := h.ext hx55
        refine w_append rfl rfl (k := fun v56 w56 ho56 hx56 hr56 => ?_)
        have hl_ho56 := ho56.lt
        have hz_hx56 := hx56.size
        replace ho55 := ho55.chg hx56 (by omega)
        replace hp1_40 := hp1_40.chg hx56 (by omega)
        replace EL := EL.next hx56 (by omega)
        replace E := E.next hx56 (by omega)
        replace h := h.chg hx56 (by omega)
        refine w_pure (y_assign rfl) rfl ?_
        refine w_nil ?_
        refine x_block_norm ?_
        refine x_next ?_
        refine c_region ?_
        refine w_pure (y_move rfl) rfl ?_
        refine w_pure (y_sub rfl rfl) rfl ?_
        refine w_pure (y_assign rfl) rfl ?_
        refine w_nil ?_
        rotate_left
        refine w_no rfl rfl rfl rfl ?_
        refine w_no rfl rfl rfl rfl ?_
        refine w_no rfl rfl rfl rfl ?_
        refine w_pure (y_pick_f rfl rfl) rfl ?_
        refine w_nil ?_
        refine x_next ?_
        refine c_false rfl ?_
        refine c_skip ?_
        refine x_next ?_
        refine c_region ?_
        refine w_pure (y_move rfl) rfl ?_
        refine w_pure (y_move rfl) rfl ?_
        refine w_lit (α := Int) rfl rfl rfl rfl rfl rfl rfl rfl (fun v55 w55 ho55 hx55 hl55 hh55 hs55 => ?_)
        have hl_ho55 := ho55.lt
        have hz_hx55 := hx55.size
        replace hp1_40 := hp1_40.ext hx55
        replace EL := EL.next hx55 (by omega)
        replace g1 := g1.ext hx55
        replace E := E.trans hx55
        replace h := h.ext hx55
        refine w_append rfl rfl (k := fun v56 w56 ho56 hx56 hr56 => ?_)
        have hl_ho56 := ho56.lt
        have hz_hx56 := hx56.size
        replace ho55 := ho55.chg hx56 (by omega)
        replace hp1_40 := hp1_40.chg hx56 (by omega)
        replace EL := EL.next hx56 (by omega)
        replace E := E.next hx56 (by omega)
        replace h := h.chg hx56 (by omega)
        refine w_pure (y_assign rfl) rfl ?_
        refine w_nil ?_
        refine x_block_norm ?_
        refine x_next ?_
        refine c_region ?_
        refine w_pure (y_move rfl) rfl ?_
        refine w_pure (y_sub rfl rfl) rfl ?_
        refine w_pure (y_assign rfl) rfl ?_
        refine w_nil ?_
        rotate_left
        refine c_skip ?_
        refine x_next ?_
        refine c_seq ?_
        refine c_seq ?_
        refine c_region ?_
        refine w_pure (y_move rfl) rfl ?_
        (refine w_call rfl rfl rfl (srcOne_c _) rfl ?_; rintro _ w40 ⟨q40, ⟨rfl, ⟨hp1_40, hx40⟩⟩⟩)
        have hz_hx40 := hx40.size
        replace EL := EL.next hx40 (by omega)
        replace g1 := g1.chg hx40 (by omega)
        replace E := E.next hx40 (by omega)
        replace h := h.chg hx40 (by omega)
        refine w_pure (y_move rfl) rfl ?_
        (refine w_part rfl rfl (fun hc42 => ?_) (fun hc42 => ?_) <;> try (first | exact absurd rfl hc42 | contradiction | exact Bool.noConfusion (show false = true from hc42.symm.trans (by assumption)) | exact Bool.noConfusion (show true = false from hc42.symm.trans (by assumption)) | (exfalso; omega) | (exfalso; simp only [*, Bool.not_true, Bool.not_false, reduceCtorEq] at hc42; done)))
        refine w_yes rfl rfl ?_
        refine w_pure (y_move rfl) rfl ?_
        refine w_yes rfl rfl ?_
        refine w_pure (y_len rfl) rfl ?_
        refine w_yes rfl rfl ?_
        refine w_pure (y_gt rfl rfl) rfl ?_
        refine w_pure (y_pick_t rfl rfl) rfl ?_
        refine w_nil ?_
        refine x_next ?_
        (refine c_dec rfl (fun hc45 => ?_) (fun hc45 => ?_) <;> try (first | exact absurd rfl hc45 | contradiction | exact Bool.noConfusion (show false = true from hc45.symm.trans (by assumption)) | exact Bool.noConfusion (show true = false from hc45.symm.trans (by assumption)) | (exfalso; omega) | (exfalso; simp only [*, Bool.not_true, Bool.not_false, reduceCtorEq] at hc45; done)))
        refine c_region ?_
        refine w_pure (y_move rfl) rfl ?_
        refine w_pure (y_move rfl) rfl ?_
        refine w_pure (y_len rfl) rfl ?_
        refine w_pure (y_sub rfl rfl) rfl ?_
        refine w_pure (y_index rfl rfl) rfl ?_
        refine w_pure (y_load_int rfl) rfl ?_
        refine w_pure (y_neg rfl) rfl ?_
        refine w_pure (y_assign rfl) rfl ?_
        refine w_nil ?_
        refine x_next ?_
        refine c_region ?_
        refine w_pure (y_move rfl) rfl ?_
        refine w_pure (y_move rfl) rfl ?_
        refine w_lit (α := Int) rfl rfl rfl rfl rfl rfl rfl rfl (fun v55 w55 ho55 hx55 hl55 hh55 hs55 => ?_)
        have hl_ho55 := ho55.lt
        have hz_hx55 := hx55.size
        replace hp1_40 := hp1_40.ext hx55
        replace EL := EL.next hx55 (by omega)
        replace g1 := g1.ext hx55
        replace E := E.trans hx55
        replace h := h.ext hx55
        refine w_append rfl rfl (k := fun v56 w56 ho56 hx56 hr56 => ?_)
        have hl_ho56 := ho56.lt
        have hz_hx56 := hx56.size
        replace ho55 := ho55.chg hx56 (by omega)
        replace hp1_40 := hp1_40.chg hx56 (by omega)
        replace EL := EL.next hx56 (by omega)
        replace E := E.next hx56 (by omega)
        replace h := h.chg hx56 (by omega)
        refine w_pure (y_assign rfl) rfl ?_
        refine w_nil ?_
        refine x_block_norm ?_
        refine x_next ?_
        refine c_region ?_
        refine w_pure (y_move rfl) rfl ?_
        refine w_pure (y_sub rfl rfl) rfl ?_
        refine w_pure (y_assign rfl) rfl ?_
        refine w_nil ?_
        rotate_left
        refine c_skip ?_
        refine x_next ?_
        refine c_region ?_
        refine w_pure (y_move rfl) rfl ?_
        refine w_pure (y_move rfl) rfl ?_
        refine w_lit (α := Int) rfl rfl rfl rfl rfl rfl rfl rfl (fun v55 w55 ho55 hx55 hl55 hh55 hs55 => ?_)
        have hl_ho55 := ho55.lt
        have hz_hx55 := hx55.size
        replace hp1_40 := hp1_40.ext hx55
        replace EL := EL.next hx55 (by omega)
        replace g1 := g1.ext hx55
        replace E := E.trans hx55
        replace h := h.ext hx55
        refine w_append rfl rfl (k := fun v56 w56 ho56 hx56 hr56 => ?_)
        have hl_ho56 := ho56.lt
        have hz_hx56 := hx56.size
        replace ho55 := ho55.chg hx56 (by omega)
        replace hp1_40 := hp1_40.chg hx56 (by omega)
        replace EL := EL.next hx56 (by omega)
        replace E := E.next hx56 (by omega)
        replace h := h.chg hx56 (by omega)
        refine w_pure (y_assign rfl) rfl ?_
        refine w_nil ?_
        refine x_block_norm ?_
        refine x_next ?_
        refine c_region ?_
        refine w_pure (y_move rfl) rfl ?_
        refine w_pure (y_sub rfl rfl) rfl ?_
        refine w_pure (y_assign rfl) rfl ?_
        refine w_nil ?_
        rotate_left
        refine w_no rfl rfl rfl rfl ?_
        refine w_no rfl rfl rfl rfl ?_
        refine w_no rfl rfl rfl rfl ?_
        refine w_pure (y_pick_f rfl rfl) rfl ?_
        refine w_nil ?_
        refine x_next ?_
        refine c_false rfl ?_
        refine c_skip ?_
        refine x_next ?_
        refine c_region ?_
        refine w_pure (y_move rfl) rfl ?_
        refine w_pure (y_move rfl) rfl ?_
        refine w_lit (α := Int) rfl rfl rfl rfl rfl rfl rfl rfl (fun v55 w55 ho55 hx55 hl55 hh55 hs55 => ?_)
        have hl_ho55 := ho55.lt
        have hz_hx55 := hx55.size
        replace hp1_40 := hp1_40.ext hx55
        replace EL := EL.next hx55 (by omega)
        replace g1 := g1.ext hx55
        replace E := E.trans hx55
        replace h := h.ext hx55
        refine w_append rfl rfl (k := fun v56 w56 ho56 hx56 hr56 => ?_)
        have hl_ho56 := ho56.lt
        have hz_hx56 := hx56.size
        replace ho55 := ho55.chg hx56 (by omega)
        replace hp1_40 := hp1_40.chg hx56 (by omega)
        replace EL := EL.next hx56 (by omega)
        replace E := E.next hx56 (by omega)
        replace h := h.chg hx56 (by omega)
        refine w_pure (y_assign rfl) rfl ?_
        refine w_nil ?_
        refine x_block_norm ?_
        refine x_next ?_
        refine c_region ?_
        refine w_pure (y_move rfl) rfl ?_
        refine w_pure (y_sub rfl rfl) rfl ?_
        refine w_pure (y_assign rfl) rfl ?_
        refine w_nil ?_
        rotate_left
      all_goals exact x_again (k - 1, v56, ys ++ [_]) (by repeat (first | exact trivial | refine ⟨rfl, ?_⟩)) ⟨EL.go, by assumption, snoc_bd g2 (by omega), by rw [List.length_append, List.length_singleton]; dsimp only; omega, by dsimp only; omega, hp1_40.more (by dsimp only; omega), by dsimp only; omega, by assumption⟩ (by dsimp only; omega)
    · focus
        have hl_g1 := g1.lt
        have ht_g5 := g5.top
        have hz_hxL := hxL.size
        replace h := h.chg hxL (by omega)
        refine c_seq ?_
        refine c_seq ?_
        refine c_region ?_
        refine w_pure (y_move rfl) rfl ?_
        refine w_pure (y_gt rfl rfl) rfl ?_
        refine w_nil ?_
        refine x_next ?_
        (refine c_dec rfl (fun hc29 => ?_) (fun hc29 => ?_) <;> try (first | exact absurd rfl hc29 | contradiction | exact Bool.noConfusion (show false = true from hc29.symm.trans (by assumption)) | exact Bool.noConfusion (show true = false from hc29.symm.trans (by assumption)) | (exfalso; omega) | (exfalso; simp only [*, Bool.not_true, Bool.not_false, reduceCtorEq] at hc29; done)))
        refine c_exit ?_
        refine x_then_exit ?_
        refine x_then_exit ?_
        refine x_block_hit ?_
        refine x_next ?_
        refine c_seq ?_
        refine c_seq ?_
        refine c_region ?_
        refine w_pure (y_move rfl) rfl ?_
        (refine w_call rfl rfl rfl (srcOne_c _) rfl ?_; rintro _ w58 ⟨q58, ⟨rfl, ⟨hp1_58, hx58⟩⟩⟩)
        have hz_hx58 := hx58.size
        replace EL := EL.next hx58 (by omega)
        replace g1 := g1.chg hx58 (by omega)
        replace E := E.next hx58 (by omega)
        replace h := h.chg hx58 (by omega)
        refine w_nil ?_
        refine x_next ?_
        (refine c_if rfl (fun hc58 => ?_) (fun hc58 => ?_) <;> try (first | exact absurd rfl hc58 | contradiction | exact Bool.noConfusion (show false = true from hc58.symm.trans (by assumption)) | exact Bool.noConfusion (show true = false from hc58.symm.trans (by assumption)) | (exfalso; omega) | (exfalso; simp only [*, Bool.not_true, Bool.not_false, reduceCtorEq] at hc58; done)))
        refine c_region ?_
        refine w_pure (y_move rfl) rfl ?_
        refine w_pure (y_move rfl) rfl ?_
        refine w_pure (y_move rfl) rfl ?_
        refine w_pure (y_move rfl) rfl ?_
        refine w_pure (y_neg rfl) rfl ?_
        refine w_lit (α := Int) rfl rfl rfl rfl rfl rfl rfl rfl (fun v64 w64 ho64 hx64 hl64 hh64 hs64 => ?_)
        have hl_ho64 := ho64.lt
        have hz_hx64 := hx64.size
        replace hp1_58 := hp1_58.ext hx64
        replace EL := EL.next hx64 (by omega)
        replace g1 := g1.ext hx64
        replace E := E.trans hx64
        replace h := h.ext hx64
        (refine w_call rfl rfl rfl (srcAmong_z) rfl ?_; rintro _ w65 ⟨x65, ⟨rfl, ⟨hp1_65, ⟨hp2_65, hx65⟩⟩⟩⟩)
        have hz_hx65 := hx65.size
        replace ho64 := ho64.chg hx65 (by omega)
        replace EL := EL.next hx65 (by omega)
        replace g1 := g1.chg hx65 (by omega)
        replace E := E.next hx65 (by omega)
        replace h := h.chg hx65 (by omega)
        refine w_lit (α := Int) rfl rfl rfl rfl rfl rfl rfl rfl (fun v66 w66 ho66 hx66 hl66 hh66 hs66 => ?_)
        have hl_ho66 := ho66.lt
        have hz_hx66 := hx66.size
        replace hp2_65 := hp2_65.ext hx66
        replace ho64 := ho64.ext hx66
        replace EL := EL.next hx66 (by omega)
        replace g1 := g1.ext hx66
        replace E := E.trans hx66
        replace h := h.ext hx66
        refine w_append rfl rfl (k := fun v67 w67 ho67 hx67 hr67 => ?_)
        have hl_ho67 := ho67.lt
        have hz_hx67 := hx67.size
        replace ho66 := ho66.chg hx67 (by omega)
        replace hp2_65 := hp2_65.chg hx67 (by omega)
        replace ho64 := ho64.chg hx67 (by omega)
        replace EL := EL.next hx67 (by omega)
        replace E := E.next hx67 (by omega)
        replace h := h.chg hx67 (by omega)
        refine w_pure (y_assign rfl) rfl ?_
        refine w_nil ?_
        refine x_next ?_
        refine c_seq ?_
        refine c_seq ?_
        refine c_region ?_
        refine w_pure (y_move rfl) rfl ?_
        (refine w_call rfl rfl rfl (srcOne_c _) rfl ?_; rintro _ w69 ⟨q69, ⟨rfl, ⟨hp1_69, hx69⟩⟩⟩)
        have hz_hx69 := hx69.size
        replace ho67 := ho67.chg hx69 (by omega)
        replace ho66 := ho66.chg hx69 (by omega)
        replace ho64 := ho64.chg hx69 (by omega)
        replace EL := EL.next hx69 (by omega)
        replace E := E.next hx69 (by omega)
        replace h := h.chg hx69 (by omega)
        refine w_nil ?_
        refine x_next ?_
        (refine c_if rfl (fun hc69 => ?_) (fun hc69 => ?_) <;> try (first | exact absurd rfl hc69 | contradiction | exact Bool.noConfusion (show false = true from hc69.symm.trans (by assumption)) | exact Bool.noConfusion (show true = false from hc69.symm.trans (by assumption)) | (exfalso; omega) | (exfalso; simp only [*, Bool.not_true, Bool.not_false, reduceCtorEq] at hc69; done)))
        refine c_region ?_
        refine w_pure (y_move rfl) rfl ?_
        (refine w_call rfl rfl rfl (srcPick_z _) rfl ?_; rintro _ w71 ⟨x71, ⟨rfl, ⟨⟨hp1_71, hp2_71⟩, ⟨hp3_71, hx71⟩⟩⟩⟩)
        have hz_hx71 := hx71.size
        replace ho67 := ho67.chg hx71 (by omega)
        replace ho66 := ho66.chg hx71 (by omega)
        replace ho64 := ho64.chg hx71 (by omega)
        replace EL := EL.next hx71 (by omega)
        replace E := E.next hx71 (by omega)
        replace h := h.chg hx71 (by omega)
        refine w_pure (y_add rfl rfl) rfl ?_
        refine w_make (α := Int) rfl rfl (k := fun v73 w73 ho73 hx73 hl73 hh73 hs73 => ?_)
        have hl_ho73 := ho73.lt
        have hz_hx73 := hx73.size
        replace hp3_71 := hp3_71.ext hx73
        replace ho67 := ho67.ext hx73
        replace ho66 := ho66.ext hx73
        replace ho64 := ho64.ext hx73
        replace EL := EL.next hx73 (by omega)
        replace E := E.trans hx73
        replace h := h.ext hx73
        refine w_pure (y_assign rfl) rfl ?_
        refine w_nil ?_
        refine x_next ?_
        refine c_seq ?_
        refine c_region ?_
        refine w_pure (y_move rfl) rfl ?_
        refine w_pure (y_move rfl) rfl ?_
        refine w_pure (y_assign rfl) rfl ?_
        refine w_pure (y_assign rfl) rfl ?_
        refine w_nil ?_
        refine x_next ?_
        refine c_ret ?_
        rotate_left
        refine c_skip ?_
        refine x_next ?_
        refine c_seq ?_
        refine c_region ?_
        refine w_pure (y_move rfl) rfl ?_
        refine w_pure (y_move rfl) rfl ?_
        refine w_pure (y_assign rfl) rfl ?_
        refine w_pure (y_assign rfl) rfl ?_
        refine w_nil ?_
        refine x_next ?_
        refine c_ret ?_
        rotate_left
        refine c_skip ?_
        refine x_next ?_
        refine c_seq ?_
        refine c_seq ?_
        refine c_region ?_
        refine w_pure (y_move rfl) rfl ?_
        (refine w_call rfl rfl rfl (srcOne_c _) rfl ?_; rintro _ w69 ⟨q69, ⟨rfl, ⟨hp1_69, hx69⟩⟩⟩)
        have hz_hx69 := hx69.size
        replace EL := EL.next hx69 (by omega)
        replace g1 := g1.chg hx69 (by omega)
        replace E := E.next hx69 (by omega)
        replace h := h.chg hx69 (by omega)
        refine w_nil ?_
        refine x_next ?_
        (refine c_if rfl (fun hc69 => ?_) (fun hc69 => ?_) <;> try (first | exact absurd rfl hc69 | contradiction | exact Bool.noConfusion (show false = true from hc69.symm.trans (by assumption)) | exact Bool.noConfusion (show true = false from hc69.symm.trans (by assumption)) | (exfalso; omega) | (exfalso; simp only [*, Bool.not_true, Bool.not_false, reduceCtorEq] at hc69; done)))
        refine c_region ?_
        refine w_pure (y_move rfl) rfl ?_
        (refine w_call rfl rfl rfl (srcPick_z _) rfl ?_; rintro _ w71 ⟨x71, ⟨rfl, ⟨⟨hp1_71, hp2_71⟩, ⟨hp3_71, hx71⟩⟩⟩⟩)
        have hz_hx71 := hx71.size
        replace EL := EL.next hx71 (by omega)
        replace g1 := g1.chg hx71 (by omega)
        replace E := E.next hx71 (by omega)
        replace h := h.chg hx71 (by omega)
        refine w_pure (y_add rfl rfl) rfl ?_
        refine w_make (α := Int) rfl rfl (k := fun v73 w73 ho73 hx73 hl73 hh73 hs73 => ?_)
        have hl_ho73 := ho73.lt
        have hz_hx73 := hx73.size
        replace hp3_71 := hp3_71.ext hx73
        replace EL := EL.next hx73 (by omega)
        replace g1 := g1.ext hx73
        replace E := E.trans hx73
        replace h := h.ext hx73
        refine w_pure (y_assign rfl) rfl ?_
        refine w_nil ?_
        refine x_next ?_
        refine c_seq ?_
        refine c_region ?_
        refine w_pure (y_move rfl) rfl ?_
        refine w_pure (y_move rfl) rfl ?_
        refine w_pure (y_assign rfl) rfl ?_
        refine w_pure (y_assign rfl) rfl ?_
        refine w_nil ?_
        refine x_next ?_
        refine c_ret ?_
        rotate_left
        refine c_skip ?_
        refine x_next ?_
        refine c_seq ?_
        refine c_region ?_
        refine w_pure (y_move rfl) rfl ?_
        refine w_pure (y_move rfl) rfl ?_
        refine w_pure (y_assign rfl) rfl ?_
        refine w_pure (y_assign rfl) rfl ?_
        refine w_nil ?_
        refine x_next ?_
        refine c_ret ?_
        rotate_left
      all_goals exact x_retv [_, _] rfl ⟨rfl, rfl, trivial⟩ ⟨_, _, x19, rfl, Own.base (by assumption) (by omega), by first | omega | (simp only [List.length_append, List.length_singleton]; omega) | (simp only [List.length_replicate]; omega), ⟨by omega, by omega⟩, E.go⟩
  · skip
    have hM := powB (k := (max 1 (min 4 (2 + x13 - 1))).toNat) (by omega)
    focus
      have ht_hp2_11 := hp2_11.top
      have ht_hp3_13 := hp3_13.top
      have ht_hp1_16 := hp1_16.top
      have ht_hp3_27 := hp3_27.top
      rotate_left
    generalize (10 : Int) ^ (max 1 (min 4 (2 + x13 - 1))).toNat = most at *
    refine c_loopC c11 (bH v25) (ι := Int × Value × List Int) (fun x => [(4, ptr c11 0), (5, .int .i64 (2 + x13)), (6, .int .i64 most), (7, x.2.1), (8, .int .i64 x.1)])
      (fun x w' => Own w' 2 w.heap.size x.2.1 x.2.2 ∧ (∀ y ∈ x.2.2, -10000 ≤ y ∧ y ≤ 10000) ∧ x.2.2.length ≤ 7 - x.1 ∧ (0 ≤ x.1 ∧ x.1 ≤ 7) ∧ Src w' lo hi c11 (10 + 10 * (7 - x.1)) ∧ ((bL x.2.1 = bL v25 ∧ bH x.2.1 = bH v25) ∨ w27.heap.size ≤ bL x.2.1) ∧ Since 0 0 w w') (fun x => x.1.toNat) (x27, v25, [])
      (by repeat (first | exact trivial | refine ⟨rfl, ?_⟩)) ⟨Own.base (by assumption) (by omega), by simp, by simp; omega, by dsimp only; omega, (by assumption : Src w27 lo hi c11 _).more (by dsimp only; omega), .inl ⟨rfl, rfl⟩, by assumption⟩ ?_
    clear ho25 E hp1_16 hp3_27
    rintro ⟨k, u, ys⟩ wL hxL EL ⟨g1, g2, g3, g4, g5, g6, E⟩
    dsimp only at *
    have hzL := hxL.size
    have hla := last_bd g2 ((ys.length : Int) - 1).toNat
    by_cases hlk : 0 < k
    · focus
        have hl_g1 := g1.lt
        have ht_g5 := g5.top
        have hz_hxL := hxL.size
        replace h := h.chg hxL (by omega)
        refine c_seq ?_
        refine c_seq ?_
        refine c_region ?_
        refine w_pure (y_move rfl) rfl ?_
        refine w_pure (y_gt rfl rfl) rfl ?_
        refine w_nil ?_
        refine x_next ?_
        (refine c_dec rfl (fun hc29 => ?_) (fun hc29 => ?_) <;> try (first | exact absurd rfl hc29 | contradiction | exact Bool.noConfusion (show false = true from hc29.symm.trans (by assumption)) | exact Bool.noConfusion (show true = false from hc29.symm.trans (by assumption)) | (exfalso; omega) | (exfalso; simp only [*, Bool.not_true, Bool.not_false, reduceCtorEq] at hc29; done)))
        refine c_skip ?_
        refine x_next ?_
        refine c_seq ?_
        refine c_block ?_
        refine c_seq ?_
        refine c_region ?_
        refine w_pure (y_move rfl) rfl ?_
        refine w_pure (y_move rfl) rfl ?_
        (refine w_call rfl rfl rfl (srcPick_z _) rfl ?_; rintro _ w34 ⟨x34, ⟨rfl, ⟨⟨hp1_34, hp2_34⟩, ⟨hp3_34, hx34⟩⟩⟩⟩)
        have hz_hx34 := hx34.size
        replace EL := EL.next hx34 (by omega)
        replace g1 := g1.chg hx34 (by omega)
        replace E := E.next hx34 (by omega)
        replace h := h.chg hx34 (by omega)
        refine w_pure (y_assign rfl) rfl ?_
        refine w_nil ?_
        refine x_next ?_
        refine c_seq ?_
        refine c_seq ?_
        refine c_region ?_
        refine w_pure (y_move rfl) rfl ?_
        (refine w_call rfl rfl rfl (srcOne_c _) rfl ?_; rintro _ w36 ⟨q36, ⟨rfl, ⟨hp1_36, hx36⟩⟩⟩)
        have hz_hx36 := hx36.size
        replace EL := EL.next hx36 (by omega)
        replace g1 := g1.chg hx36 (by omega)
        replace E := E.next hx36 (by omega)
        replace h := h.chg hx36 (by omega)
        refine w_nil ?_
        refine x_next ?_
        (refine c_if rfl (fun hc36 => ?_) (fun hc36 => ?_) <;> try (first | exact absurd rfl hc36 | contradiction | exact Bool.noConfusion (show false = true from hc36.symm.trans (by assumption)) | exact Bool.noConfusion (show true = false from hc36.symm.trans (by assumption)) | (exfalso; omega) | (exfalso; simp only [*, Bool.not_true, Bool.not_false, reduceCtorEq] at hc36; done)))
        refine c_region ?_
        refine w_pure (y_move rfl) rfl ?_
        refine w_pure (y_neg rfl) rfl ?_
        refine w_pure (y_assign rfl) rfl ?_
        refine w_nil ?_
        refine x_next ?_
        refine c_seq ?_
        refine c_seq ?_
        refine c_region ?_
        refine w_pure (y_move rfl) rfl ?_
        (refine w_call rfl rfl rfl (srcOne_c _) rfl ?_; rintro _ w40 ⟨q40, ⟨rfl, ⟨hp1_40, hx40⟩⟩⟩)
        have hz_hx40 := hx40.size
        replace EL := EL.next hx40 (by omega)
        replace g1 := g1.chg hx40 (by omega)
        replace E := E.next hx40 (by omega)
        replace h := h.chg hx40 (by omega)
        refine w_pure (y_move rfl) rfl ?_
        (refine w_part rfl rfl (fun hc42 => ?_) (fun hc42 => ?_) <;> try (first | exact absurd rfl hc42 | contradiction | exact Bool.noConfusion (show false = true from hc42.symm.trans (by assumption)) | exact Bool.noConfusion (show true = false from hc42.symm.trans (by assumption)) | (exfalso; omega) | (exfalso; simp only [*, Bool.not_true, Bool.not_false, reduceCtorEq] at hc42; done)))
        refine w_yes rfl rfl ?_
        refine w_pure (y_move rfl) rfl ?_
        refine w_yes rfl rfl ?_
        refine w_pure (y_len rfl) rfl ?_
        refine w_yes rfl rfl ?_
        refine w_pure (y_gt rfl rfl) rfl ?_
        refine w_pure (y_pick_t rfl rfl) rfl ?_
        refine w_nil ?_
        refine x_next ?_
        (refine c_dec rfl (fun hc45 => ?_) (fun hc45 => ?_) <;> try (first | exact absurd rfl hc45 | contradiction | exact Bool.noConfusion (show false = true from hc45.symm.trans (by assumption)) | exact Bool.noConfusion (show true = false from hc45.symm.trans (by assumption)) | (exfalso; omega) | (exfalso; simp only [*, Bool.not_true, Bool.not_false, reduceCtorEq] at hc45; done)))
        refine c_region ?_
        refine w_pure (y_move rfl) rfl ?_
        refine w_pure (y_move rfl) rfl ?_
        refine w_pure (y_len rfl) rfl ?_
        refine w_pure (y_sub rfl rfl) rfl ?_
        refine w_pure (y_index rfl rfl) rfl ?_
        refine w_pure (y_load_int rfl) rfl ?_
        refine w_pure (y_neg rfl) rfl ?_
        refine w_pure (y_assign rfl) rfl ?_
        refine w_nil ?_
        refine x_next ?_
        refine c_region ?_
        refine w_pure (y_move rfl) rfl ?_
        refine w_pure (y_move rfl) rfl ?_
        refine w_lit (α := Int) rfl rfl rfl rfl rfl rfl rfl rfl (fun v55 w55 ho55 hx55 hl55 hh55 hs55 => ?_)
        have hl_ho55 := ho55.lt
        have hz_hx55 := hx55.size
        replace hp1_40 := hp1_40.ext hx55
        replace EL := EL.next hx55 (by omega)
        replace g1 := g1.ext hx55
        replace E := E.trans hx55
        replace h := h.ext hx55
        refine w_append rfl rfl (k := fun v56 w56 ho56 hx56 hr56 => ?_)
        have hl_ho56 := ho56.lt
        have hz_hx56 := hx56.size
        replace ho55 := ho55.chg hx56 (by omega)
        replace hp1_40 := hp1_40.chg hx56 (by omega)
        replace EL := EL.next hx56 (by omega)
        replace E := E.next hx56 (by omega)
        replace h := h.chg hx56 (by omega)
        refine w_pure (y_assign rfl) rfl ?_
        refine w_nil ?_
        refine x_block_norm ?_
        refine x_next ?_
        refine c_region ?_
        refine w_pure (y_move rfl) rfl ?_
        refine w_pure (y_sub rfl rfl) rfl ?_
        refine w_pure (y_assign rfl) rfl ?_
        refine w_nil ?_
        rotate_left
        refine c_skip ?_
        refine x_next ?_
        refine c_region ?_
        refine w_pure (y_move rfl) rfl ?_
        refine w_pure (y_move rfl) rfl ?_
        refine w_lit (α := Int) rfl rfl rfl rfl rfl rfl rfl rfl (fun v55 w55 ho55 hx55 hl55 hh55 hs55 => ?_)
        have hl_ho55 := ho55.lt
        have hz_hx55 := hx55.size
        replace hp1_40 := hp1_40.ext hx55
        replace EL := EL.next hx55 (by omega)
        replace g1 := g1.ext hx55
        replace E := E.trans hx55
        replace h := h.ext hx55
        refine w_append rfl rfl (k := fun v56 w56 ho56 hx56 hr56 => ?_)
        have hl_ho56 := ho56.lt
        have hz_hx56 := hx56.size
        replace ho55 := ho55.chg hx56 (by omega)
        replace hp1_40 := hp1_40.chg hx56 (by omega)
        replace EL := EL.next hx56 (by omega)
        replace E := E.next hx56 (by omega)
        replace h := h.chg hx56 (by omega)
        refine w_pure (y_assign rfl) rfl ?_
        refine w_nil ?_
        refine x_block_norm ?_
        refine x_next ?_
        refine c_region ?_
        refine w_pure (y_move rfl) rfl ?_
        refine w_pure (y_sub rfl rfl) rfl ?_
        refine w_pure (y_assign rfl) rfl ?_
        refine w_nil ?_
        rotate_left
        refine w_no rfl rfl rfl rfl ?_
        refine w_no rfl rfl rfl rfl ?_
        refine w_no rfl rfl rfl rfl ?_
        refine w_pure (y_pick_f rfl rfl) rfl ?_
        refine w_nil ?_
        refine x_next ?_
        refine c_false rfl ?_
        refine c_skip ?_
        refine x_next ?_
        refine c_region ?_
        refine w_pure (y_move rfl) rfl ?_
        refine w_pure (y_move rfl) rfl ?_
        refine w_lit (α := Int) rfl rfl rfl rfl rfl rfl rfl rfl (fun v55 w55 ho55 hx55 hl55 hh55 hs55 => ?_)
        have hl_ho55 := ho55.lt
        have hz_hx55 := hx55.size
        replace hp1_40 := hp1_40.ext hx55
        replace EL := EL.next hx55 (by omega)
        replace g1 := g1.ext hx55
        replace E := E.trans hx55
        replace h := h.ext hx55
        refine w_append rfl rfl (k := fun v56 w56 ho56 hx56 hr56 => ?_)
        have hl_ho56 := ho56.lt
        have hz_hx56 := hx56.size
        replace ho55 := ho55.chg hx56 (by omega)
        replace hp1_40 := hp1_40.chg hx56 (by omega)
        replace EL := EL.next hx56 (by omega)
        replace E := E.next hx56 (by omega)
        replace h := h.chg hx56 (by omega)
        refine w_pure (y_assign rfl) rfl ?_
        refine w_nil ?_
        refine x_block_norm ?_
        refine x_next ?_
        refine c_region ?_
        refine w_pure (y_move rfl) rfl ?_
        refine w_pure (y_sub rfl rfl) rfl ?_
        refine w_pure (y_assign rfl) rfl ?_
        refine w_nil ?_
        rotate_left
        refine c_skip ?_
        refine x_next ?_
        refine c_seq ?_
        refine c_seq ?_
        refine c_region ?_
        refine w_pure (y_move rfl) rfl ?_
        (refine w_call rfl rfl rfl (srcOne_c _) rfl ?_; rintro _ w40 ⟨q40, ⟨rfl, ⟨hp1_40, hx40⟩⟩⟩)
        have hz_hx40 := hx40.size
        replace EL := EL.next hx40 (by omega)
        replace g1 := g1.chg hx40 (by omega)
        replace E := E.next hx40 (by omega)
        replace h := h.chg hx40 (by omega)
        refine w_pure (y_move rfl) rfl ?_
        (refine w_part rfl rfl (fun hc42 => ?_) (fun hc42 => ?_) <;> try (first | exact absurd rfl hc42 | contradiction | exact Bool.noConfusion (show false = true from hc42.symm.trans (by assumption)) | exact Bool.noConfusion (show true = false from hc42.symm.trans (by assumption)) | (exfalso; omega) | (exfalso; simp only [*, Bool.not_true, Bool.not_false, reduceCtorEq] at hc42; done)))
        refine w_yes rfl rfl ?_
        refine w_pure (y_move rfl) rfl ?_
        refine w_yes rfl rfl ?_
        refine w_pure (y_len rfl) rfl ?_
        refine w_yes rfl rfl ?_
        refine w_pure (y_gt rfl rfl) rfl ?_
        refine w_pure (y_pick_t rfl rfl) rfl ?_
        refine w_nil ?_
        refine x_next ?_
        (refine c_dec rfl (fun hc45 => ?_) (fun hc45 => ?_) <;> try (first | exact absurd rfl hc45 | contradiction | exact Bool.noConfusion (show false = true from hc45.symm.trans (by assumption)) | exact Bool.noConfusion (show true = false from hc45.symm.trans (by assumption)) | (exfalso; omega) | (exfalso; simp only [*, Bool.not_true, Bool.not_false, reduceCtorEq] at hc45; done)))
        refine c_region ?_
        refine w_pure (y_move rfl) rfl ?_
        refine w_pure (y_move rfl) rfl ?_
        refine w_pure (y_len rfl) rfl ?_
        refine w_pure (y_sub rfl rfl) rfl ?_
        refine w_pure (y_index rfl rfl) rfl ?_
        refine w_pure (y_load_int rfl) rfl ?_
        refine w_pure (y_neg rfl) rfl ?_
        refine w_pure (y_assign rfl) rfl ?_
        refine w_nil ?_
        refine x_next ?_
        refine c_region ?_
        refine w_pure (y_move rfl) rfl ?_
        refine w_pure (y_move rfl) rfl ?_
        refine w_lit (α := Int) rfl rfl rfl rfl rfl rfl rfl rfl (fun v55 w55 ho55 hx55 hl55 hh55 hs55 => ?_)
        have hl_ho55 := ho55.lt
        have hz_hx55 := hx55.size
        replace hp1_40 := hp1_40.ext hx55
        replace EL := EL.next hx55 (by omega)
        replace g1 := g1.ext hx55
        replace E := E.trans hx55
        replace h := h.ext hx55
        refine w_append rfl rfl (k := fun v56 w56 ho56 hx56 hr56 => ?_)
        have hl_ho56 := ho56.lt
        have hz_hx56 := hx56.size
        replace ho55 := ho55.chg hx56 (by omega)
        replace hp1_40 := hp1_40.chg hx56 (by omega)
        replace EL := EL.next hx56 (by omega)
        replace E := E.next hx56 (by omega)
        replace h := h.chg hx56 (by omega)
        refine w_pure (y_assign rfl) rfl ?_
        refine w_nil ?_
        refine x_block_norm ?_
        refine x_next ?_
        refine c_region ?_
        refine w_pure (y_move rfl) rfl ?_
        refine w_pure (y_sub rfl rfl) rfl ?_
        refine w_pure (y_assign rfl) rfl ?_
        refine w_nil ?_
        rotate_left
        refine c_skip ?_
        refine x_next ?_
        refine c_region ?_
        refine w_pure (y_move rfl) rfl ?_
        refine w_pure (y_move rfl) rfl ?_
        refine w_lit (α := Int) rfl rfl rfl rfl rfl rfl rfl rfl (fun v55 w55 ho55 hx55 hl55 hh55 hs55 => ?_)
        have hl_ho55 := ho55.lt
        have hz_hx55 := hx55.size
        replace hp1_40 := hp1_40.ext hx55
        replace EL := EL.next hx55 (by omega)
        replace g1 := g1.ext hx55
        replace E := E.trans hx55
        replace h := h.ext hx55
        refine w_append rfl rfl (k := fun v56 w56 ho56 hx56 hr56 => ?_)
        have hl_ho56 := ho56.lt
        have hz_hx56 := hx56.size
        replace ho55 := ho55.chg hx56 (by omega)
        replace hp1_40 := hp1_40.chg hx56 (by omega)
        replace EL := EL.next hx56 (by omega)
        replace E := E.next hx56 (by omega)
        replace h := h.chg hx56 (by omega)
        refine w_pure (y_assign rfl) rfl ?_
        refine w_nil ?_
        refine x_block_norm ?_
        refine x_next ?_
        refine c_region ?_
        refine w_pure (y_move rfl) rfl ?_
        refine w_pure (y_sub rfl rfl) rfl ?_
        refine w_pure (y_assign rfl) rfl ?_
        refine w_nil ?_
        rotate_left
        refine w_no rfl rfl rfl rfl ?_
        refine w_no rfl rfl rfl rfl ?_
        refine w_no rfl rfl rfl rfl ?_
        refine w_pure (y_pick_f rfl rfl) rfl ?_
        refine w_nil ?_
        refine x_next ?_
        refine c_false rfl ?_
        refine c_skip ?_
        refine x_next ?_
        refine c_region ?_
        refine w_pure (y_move rfl) rfl ?_
        refine w_pure (y_move rfl) rfl ?_
        refine w_lit (α := Int) rfl rfl rfl rfl rfl rfl rfl rfl (fun v55 w55 ho55 hx55 hl55 hh55 hs55 => ?_)
        have hl_ho55 := ho55.lt
        have hz_hx55 := hx55.size
        replace hp1_40 := hp1_40.ext hx55
        replace EL := EL.next hx55 (by omega)
        replace g1 := g1.ext hx55
        replace E := E.trans hx55
        replace h := h.ext hx55
        refine w_append rfl rfl (k := fun v56 w56 ho56 hx56 hr56 => ?_)
        have hl_ho56 := ho56.lt
        have hz_hx56 := hx56.size
        replace ho55 := ho55.chg hx56 (by omega)
        replace hp1_40 := hp1_40.chg hx56 (by omega)
        replace EL := EL.next hx56 (by omega)
        replace E := E.next hx56 (by omega)
        replace h := h.chg hx56 (by omega)
        refine w_pure (y_assign rfl) rfl ?_
        refine w_nil ?_
        refine x_block_norm ?_
        refine x_next ?_
        refine c_region ?_
        refine w_pure (y_move rfl) rfl ?_
        refine w_pure (y_sub rfl rfl) rfl ?_
        refine w_pure (y_assign rfl) rfl ?_
        refine w_nil ?_
        rotate_left
      all_goals exact x_again (k - 1, v56, ys ++ [_]) (by repeat (first | exact trivial | refine ⟨rfl, ?_⟩)) ⟨EL.go, by assumption, snoc_bd g2 (by omega), by rw [List.length_append, List.length_singleton]; dsimp only; omega, by dsimp only; omega, hp1_40.more (by dsimp only; omega), by dsimp only; omega, by assumption⟩ (by dsimp only; omega)
    · focus
        have hl_g1 := g1.lt
        have ht_g5 := g5.top
        have hz_hxL := hxL.size
        replace h := h.chg hxL (by omega)
        refine c_seq ?_
        refine c_seq ?_
        refine c_region ?_
        refine w_pure (y_move rfl) rfl ?_
        refine w_pure (y_gt rfl rfl) rfl ?_
        refine w_nil ?_
        refine x_next ?_
        (refine c_dec rfl (fun hc29 => ?_) (fun hc29 => ?_) <;> try (first | exact absurd rfl hc29 | contradiction | exact Bool.noConfusion (show false = true from hc29.symm.trans (by assumption)) | exact Bool.noConfusion (show true = false from hc29.symm.trans (by assumption)) | (exfalso; omega) | (exfalso; simp only [*, Bool.not_true, Bool.not_false, reduceCtorEq] at hc29; done)))
        refine c_exit ?_
        refine x_then_exit ?_
        refine x_then_exit ?_
        refine x_block_hit ?_
        refine x_next ?_
        refine c_seq ?_
        refine c_seq ?_
        refine c_region ?_
        refine w_pure (y_move rfl) rfl ?_
        (refine w_call rfl rfl rfl (srcOne_c _) rfl ?_; rintro _ w58 ⟨q58, ⟨rfl, ⟨hp1_58, hx58⟩⟩⟩)
        have hz_hx58 := hx58.size
        replace EL := EL.next hx58 (by omega)
        replace g1 := g1.chg hx58 (by omega)
        replace E := E.next hx58 (by omega)
        replace h := h.chg hx58 (by omega)
        refine w_nil ?_
        refine x_next ?_
        (refine c_if rfl (fun hc58 => ?_) (fun hc58 => ?_) <;> try (first | exact absurd rfl hc58 | contradiction | exact Bool.noConfusion (show false = true from hc58.symm.trans (by assumption)) | exact Bool.noConfusion (show true = false from hc58.symm.trans (by assumption)) | (exfalso; omega) | (exfalso; simp only [*, Bool.not_true, Bool.not_false, reduceCtorEq] at hc58; done)))
        refine c_region ?_
        refine w_pure (y_move rfl) rfl ?_
        refine w_pure (y_move rfl) rfl ?_
        refine w_pure (y_move rfl) rfl ?_
        refine w_pure (y_move rfl) rfl ?_
        refine w_pure (y_neg rfl) rfl ?_
        refine w_lit (α := Int) rfl rfl rfl rfl rfl rfl rfl rfl (fun v64 w64 ho64 hx64 hl64 hh64 hs64 => ?_)
        have hl_ho64 := ho64.lt
        have hz_hx64 := hx64.size
        replace hp1_58 := hp1_58.ext hx64
        replace EL := EL.next hx64 (by omega)
        replace g1 := g1.ext hx64
        replace E := E.trans hx64
        replace h := h.ext hx64
        (refine w_call rfl rfl rfl (srcAmong_z) rfl ?_; rintro _ w65 ⟨x65, ⟨rfl, ⟨hp1_65, ⟨hp2_65, hx65⟩⟩⟩⟩)
        have hz_hx65 := hx65.size
        replace ho64 := ho64.chg hx65 (by omega)
        replace EL := EL.next hx65 (by omega)
        replace g1 := g1.chg hx65 (by omega)
        replace E := E.next hx65 (by omega)
        replace h := h.chg hx65 (by omega)
        refine w_lit (α := Int) rfl rfl rfl rfl rfl rfl rfl rfl (fun v66 w66 ho66 hx66 hl66 hh66 hs66 => ?_)
        have hl_ho66 := ho66.lt
        have hz_hx66 := hx66.size
        replace hp2_65 := hp2_65.ext hx66
        replace ho64 := ho64.ext hx66
        replace EL := EL.next hx66 (by omega)
        replace g1 := g1.ext hx66
        replace E := E.trans hx66
        replace h := h.ext hx66
        refine w_append rfl rfl (k := fun v67 w67 ho67 hx67 hr67 => ?_)
        have hl_ho67 := ho67.lt
        have hz_hx67 := hx67.size
        replace ho66 := ho66.chg hx67 (by omega)
        replace hp2_65 := hp2_65.chg hx67 (by omega)
        replace ho64 := ho64.chg hx67 (by omega)
        replace EL := EL.next hx67 (by omega)
        replace E := E.next hx67 (by omega)
        replace h := h.chg hx67 (by omega)
        refine w_pure (y_assign rfl) rfl ?_
        refine w_nil ?_
        refine x_next ?_
        refine c_seq ?_
        refine c_seq ?_
        refine c_region ?_
        refine w_pure (y_move rfl) rfl ?_
        (refine w_call rfl rfl rfl (srcOne_c _) rfl ?_; rintro _ w69 ⟨q69, ⟨rfl, ⟨hp1_69, hx69⟩⟩⟩)
        have hz_hx69 := hx69.size
        replace ho67 := ho67.chg hx69 (by omega)
        replace ho66 := ho66.chg hx69 (by omega)
        replace ho64 := ho64.chg hx69 (by omega)
        replace EL := EL.next hx69 (by omega)
        replace E := E.next hx69 (by omega)
        replace h := h.chg hx69 (by omega)
        refine w_nil ?_
        refine x_next ?_
        (refine c_if rfl (fun hc69 => ?_) (fun hc69 => ?_) <;> try (first | exact absurd rfl hc69 | contradiction | exact Bool.noConfusion (show false = true from hc69.symm.trans (by assumption)) | exact Bool.noConfusion (show true = false from hc69.symm.trans (by assumption)) | (exfalso; omega) | (exfalso; simp only [*, Bool.not_true, Bool.not_false, reduceCtorEq] at hc69; done)))
        refine c_region ?_
        refine w_pure (y_move rfl) rfl ?_
        (refine w_call rfl rfl rfl (srcPick_z _) rfl ?_; rintro _ w71 ⟨x71, ⟨rfl, ⟨⟨hp1_71, hp2_71⟩, ⟨hp3_71, hx71⟩⟩⟩⟩)
        have hz_hx71 := hx71.size
        replace ho67 := ho67.chg hx71 (by omega)
        replace ho66 := ho66.chg hx71 (by omega)
        replace ho64 := ho64.chg hx71 (by omega)
        replace EL := EL.next hx71 (by omega)
        replace E := E.next hx71 (by omega)
        replace h := h.chg hx71 (by omega)
        refine w_pure (y_add rfl rfl) rfl ?_
        refine w_make (α := Int) rfl rfl (k := fun v73 w73 ho73 hx73 hl73 hh73 hs73 => ?_)
        have hl_ho73 := ho73.lt
        have hz_hx73 := hx73.size
        replace hp3_71 := hp3_71.ext hx73
        replace ho67 := ho67.ext hx73
        replace ho66 := ho66.ext hx73
        replace ho64 := ho64.ext hx73
        replace EL := EL.next hx73 (by omega)
        replace E := E.trans hx73
        replace h := h.ext hx73
        refine w_pure (y_assign rfl) rfl ?_
        refine w_nil ?_
        refine x_next ?_
        refine c_seq ?_
        refine c_region ?_
        refine w_pure (y_move rfl) rfl ?_
        refine w_pure (y_move rfl) rfl ?_
        refine w_pure (y_assign rfl) rfl ?_
        refine w_pure (y_assign rfl) rfl ?_
        refine w_nil ?_
        refine x_next ?_
        refine c_ret ?_
        rotate_left
        refine c_skip ?_
        refine x_next ?_
        refine c_seq ?_
        refine c_region ?_
        refine w_pure (y_move rfl) rfl ?_
        refine w_pure (y_move rfl) rfl ?_
        refine w_pure (y_assign rfl) rfl ?_
        refine w_pure (y_assign rfl) rfl ?_
        refine w_nil ?_
        refine x_next ?_
        refine c_ret ?_
        rotate_left
        refine c_skip ?_
        refine x_next ?_
        refine c_seq ?_
        refine c_seq ?_
        refine c_region ?_
        refine w_pure (y_move rfl) rfl ?_
        (refine w_call rfl rfl rfl (srcOne_c _) rfl ?_; rintro _ w69 ⟨q69, ⟨rfl, ⟨hp1_69, hx69⟩⟩⟩)
        have hz_hx69 := hx69.size
        replace EL := EL.next hx69 (by omega)
        replace g1 := g1.chg hx69 (by omega)
        replace E := E.next hx69 (by omega)
        replace h := h.chg hx69 (by omega)
        refine w_nil ?_
        refine x_next ?_
        (refine c_if rfl (fun hc69 => ?_) (fun hc69 => ?_) <;> try (first | exact absurd rfl hc69 | contradiction | exact Bool.noConfusion (show false = true from hc69.symm.trans (by assumption)) | exact Bool.noConfusion (show true = false from hc69.symm.trans (by assumption)) | (exfalso; omega) | (exfalso; simp only [*, Bool.not_true, Bool.not_false, reduceCtorEq] at hc69; done)))
        refine c_region ?_
        refine w_pure (y_move rfl) rfl ?_
        (refine w_call rfl rfl rfl (srcPick_z _) rfl ?_; rintro _ w71 ⟨x71, ⟨rfl, ⟨⟨hp1_71, hp2_71⟩, ⟨hp3_71, hx71⟩⟩⟩⟩)
        have hz_hx71 := hx71.size
        replace EL := EL.next hx71 (by omega)
        replace g1 := g1.chg hx71 (by omega)
        replace E := E.next hx71 (by omega)
        replace h := h.chg hx71 (by omega)
        refine w_pure (y_add rfl rfl) rfl ?_
        refine w_make (α := Int) rfl rfl (k := fun v73 w73 ho73 hx73 hl73 hh73 hs73 => ?_)
        have hl_ho73 := ho73.lt
        have hz_hx73 := hx73.size
        replace hp3_71 := hp3_71.ext hx73
        replace EL := EL.next hx73 (by omega)
        replace g1 := g1.ext hx73
        replace E := E.trans hx73
        replace h := h.ext hx73
        refine w_pure (y_assign rfl) rfl ?_
        refine w_nil ?_
        refine x_next ?_
        refine c_seq ?_
        refine c_region ?_
        refine w_pure (y_move rfl) rfl ?_
        refine w_pure (y_move rfl) rfl ?_
        refine w_pure (y_assign rfl) rfl ?_
        refine w_pure (y_assign rfl) rfl ?_
        refine w_nil ?_
        refine x_next ?_
        refine c_ret ?_
        rotate_left
        refine c_skip ?_
        refine x_next ?_
        refine c_seq ?_
        refine c_region ?_
        refine w_pure (y_move rfl) rfl ?_
        refine w_pure (y_move rfl) rfl ?_
        refine w_pure (y_assign rfl) rfl ?_
        refine w_pure (y_assign rfl) rfl ?_
        refine w_nil ?_
        refine x_next ?_
        refine c_ret ?_
        rotate_left
      all_goals exact x_retv [_, _] rfl ⟨rfl, rfl, trivial⟩ ⟨_, _, 2 + x13, rfl, Own.base (by assumption) (by omega), by first | omega | (simp only [List.length_append, List.length_singleton]; omega) | (simp only [List.length_replicate]; omega), ⟨by omega, by omega⟩, E.go⟩
end
end Go.Proofs.Ythigkbkaeopipaa

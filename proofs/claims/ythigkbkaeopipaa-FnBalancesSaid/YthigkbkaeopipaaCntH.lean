/- Contracts: joining and splitting. -/
import Derived.Test.YthigkbkaeopipaaCntF
import Derived.Test.YthigkbkaeopipaaLawA
namespace Go.Proofs.Ythigkbkaeopipaa
open Go Go.Gw
set_option linter.unusedVariables false
set_option linter.unusedSimpArgs false
def joinC (xs ys : List Int) : Int := if okC xs = true ∧ okC ys = true then (if xs.length + ys.length ≤ 12 then 0 else 5) else 1
def resJoin (xs ys : List Int) : List Int := if joinC xs ys = 0 then xs ++ ys else []
theorem resJoin_len (xs ys : List Int) : (resJoin xs ys).length ≤ 12 := by
  by_cases h : okC xs = true ∧ okC ys = true
  · by_cases h2 : xs.length + ys.length ≤ 12
    · simp [resJoin, joinC, h, h2]
    · simp [resJoin, joinC, h, h2]
  · simp [resJoin, joinC, if_neg h]
theorem nines_c (k : Int) (h0 : 0 ≤ k) (h1 : k ≤ 18) : Pur Try.prog 82 [.int .i64 k] (.int .i64 (10 ^ k.toNat - 1)) := by
  refine ⟨fun w => ?_⟩
  refine ret_enter Try.func82 rfl Try.ntmps82 rfl ?_
  focus
    refine c_seq ?_
    refine c_region ?_
    refine w_pure (y_assign rfl) rfl ?_
    refine w_nil ?_
    refine x_next ?_
    refine c_seq ?_
    refine c_region ?_
    refine w_pure (y_assign rfl) rfl ?_
    refine w_nil ?_
    refine x_next ?_
    refine c_seq ?_
    refine c_seq ?_
    refine c_region ?_
    refine w_pure (y_move rfl) rfl ?_
    refine w_pure (y_move rfl) rfl ?_
    refine w_nil ?_
    refine x_next ?_
    refine c_block ?_
    rotate_left
  refine c_loop (ι := Int × Int) (fun x => [(3, .int .i64 x.2), (4, .int .i64 k), (5, .int .i64 x.1)]) (fun x w' => w' = w ∧ 0 ≤ x.1 ∧ x.1 ≤ k ∧ x.2 = 10 ^ x.1.toNat - 1) (fun x => (k - x.1).toNat) (0, 0)
    ⟨rfl, rfl, rfl, trivial⟩ ⟨rfl, by simp, by simp; omega, by simp⟩ ?_
  rintro ⟨i, n⟩ w2 ⟨rfl, hi0, hi1, hn⟩
  dsimp only at *
  have hp1 := pow10_pos i.toNat
  have hp2 := fun h => pow10_18 (k := i.toNat + 1) h
  rw [Int.pow_succ] at hp2
  by_cases hik : i < k
  · have := hp2 (by omega)
    focus
      refine c_seq ?_
      refine c_region ?_
      refine w_pure (y_lt rfl rfl) rfl ?_
      refine w_nil ?_
      refine x_next ?_
      refine c_seq ?_
      (refine c_dec rfl (fun hc6 => ?_) (fun hc6 => ?_) <;> try (first | exact absurd rfl hc6 | contradiction | exact Bool.noConfusion (show false = true from hc6.symm.trans (by assumption)) | exact Bool.noConfusion (show true = false from hc6.symm.trans (by assumption)) | (exfalso; omega) | (exfalso; simp only [*, Bool.not_true, Bool.not_false, reduceCtorEq] at hc6; done)))
      refine c_skip ?_
      refine x_next ?_
      refine c_seq ?_
      refine c_block ?_
      refine c_region ?_
      refine w_pure (y_move rfl) rfl ?_
      refine w_pure (y_mul rfl rfl) rfl ?_
      refine w_pure (y_add rfl rfl) rfl ?_
      refine w_pure (y_assign rfl) rfl ?_
      refine w_nil ?_
      refine x_block_norm ?_
      refine x_next ?_
      refine c_region ?_
      refine w_pure (y_add rfl rfl) rfl ?_
      refine w_pure (y_move rfl) rfl ?_
      refine w_nil ?_
      rotate_left
    refine x_again (i + 1, 10 * n + 9) ⟨rfl, rfl, rfl, trivial⟩ ⟨rfl, by dsimp only; omega, by dsimp only; omega, ?_⟩ (by dsimp only; omega)
    dsimp only
    rw [pow10_succ _ hi0, hn]; omega
  · focus
      refine c_seq ?_
      refine c_region ?_
      refine w_pure (y_lt rfl rfl) rfl ?_
      refine w_nil ?_
      refine x_next ?_
      refine c_seq ?_
      (refine c_dec rfl (fun hc6 => ?_) (fun hc6 => ?_) <;> try (first | exact absurd rfl hc6 | contradiction | exact Bool.noConfusion (show false = true from hc6.symm.trans (by assumption)) | exact Bool.noConfusion (show true = false from hc6.symm.trans (by assumption)) | (exfalso; omega) | (exfalso; simp only [*, Bool.not_true, Bool.not_false, reduceCtorEq] at hc6; done)))
      refine c_exit ?_
      refine x_then_exit ?_
      refine x_then_exit ?_
      refine x_block_hit ?_
      refine x_next ?_
      refine c_seq ?_
      refine c_region ?_
      refine w_pure (y_move rfl) rfl ?_
      refine w_pure (y_assign rfl) rfl ?_
      refine w_nil ?_
      refine x_next ?_
      refine c_ret ?_
      rotate_left
    refine x_retv [_] rfl ⟨rfl, trivial⟩ ⟨?_, rfl⟩
    rw [hn, show i = k by omega]; rfl
section
variable {w : World} {v v' : Value} {xs ys : List Int} {lo hi lo' hi' b b' : Nat}
theorem l11Ok_z (hp : At w b 0 [v] := by repeat (first | assumption | exact Go.Gw.Own.sl (by assumption) | exact Go.Gw.Box.at (by assumption) | exact Go.Gw.SLL.el (by first | assumption | exact Go.Gw.OwnD.sll (by assumption)) _ (by omega) | exact Go.Gw.SLL.at (by first | assumption | exact Go.Gw.OwnD.sll (by assumption)) (by omega) | exact Go.Gw.OwnD.sll (by assumption) | (apply Go.Gw.SL.chg; case hx => assumption) | (apply Go.Gw.Own.chg; case hx => assumption) | (apply Go.Gw.Box.chg; case hx => assumption) | (apply Go.Gw.At.chg; case hx => assumption) | exact .inl (Nat.zero_le _) | exact .inr (Nat.zero_le _) | (show _ ∨ _; omega))) (h : SL w lo hi v xs := by repeat (first | assumption | exact Go.Gw.Own.sl (by assumption) | exact Go.Gw.Box.at (by assumption) | exact Go.Gw.SLL.el (by first | assumption | exact Go.Gw.OwnD.sll (by assumption)) _ (by omega) | exact Go.Gw.SLL.at (by first | assumption | exact Go.Gw.OwnD.sll (by assumption)) (by omega) | exact Go.Gw.OwnD.sll (by assumption) | (apply Go.Gw.SL.chg; case hx => assumption) | (apply Go.Gw.Own.chg; case hx => assumption) | (apply Go.Gw.Box.chg; case hx => assumption) | (apply Go.Gw.At.chg; case hx => assumption) | exact .inl (Nat.zero_le _) | exact .inr (Nat.zero_le _) | (show _ ∨ _; omega))) : Val Try.prog 94 [ptr b 0] w (.bool (okC xs)) := l11Ok_c (h := h) (hp := hp)
theorem l11Value_z (hp : At w b 0 [v] := by repeat (first | assumption | exact Go.Gw.Own.sl (by assumption) | exact Go.Gw.Box.at (by assumption) | exact Go.Gw.SLL.el (by first | assumption | exact Go.Gw.OwnD.sll (by assumption)) _ (by omega) | exact Go.Gw.SLL.at (by first | assumption | exact Go.Gw.OwnD.sll (by assumption)) (by omega) | exact Go.Gw.OwnD.sll (by assumption) | (apply Go.Gw.SL.chg; case hx => assumption) | (apply Go.Gw.Own.chg; case hx => assumption) | (apply Go.Gw.Box.chg; case hx => assumption) | (apply Go.Gw.At.chg; case hx => assumption) | exact .inl (Nat.zero_le _) | exact .inr (Nat.zero_le _) | (show _ ∨ _; omega))) (h : SL w lo hi v xs := by repeat (first | assumption | exact Go.Gw.Own.sl (by assumption) | exact Go.Gw.Box.at (by assumption) | exact Go.Gw.SLL.el (by first | assumption | exact Go.Gw.OwnD.sll (by assumption)) _ (by omega) | exact Go.Gw.SLL.at (by first | assumption | exact Go.Gw.OwnD.sll (by assumption)) (by omega) | exact Go.Gw.OwnD.sll (by assumption) | (apply Go.Gw.SL.chg; case hx => assumption) | (apply Go.Gw.Own.chg; case hx => assumption) | (apply Go.Gw.Box.chg; case hx => assumption) | (apply Go.Gw.At.chg; case hx => assumption) | exact .inl (Nat.zero_le _) | exact .inr (Nat.zero_le _) | (show _ ∨ _; omega))) (hk : okC xs = true := by assumption) : Val Try.prog 90 [ptr b 0] w (.int .i64 (valD xs)) := l11Value_c hk (h := h) (hp := hp)
theorem iJoinCounters_c (h : SL w lo hi v xs := by repeat (first | assumption | exact Go.Gw.Own.sl (by assumption) | exact Go.Gw.Box.at (by assumption) | exact Go.Gw.SLL.el (by first | assumption | exact Go.Gw.OwnD.sll (by assumption)) _ (by omega) | exact Go.Gw.SLL.at (by first | assumption | exact Go.Gw.OwnD.sll (by assumption)) (by omega) | exact Go.Gw.OwnD.sll (by assumption) | (apply Go.Gw.SL.chg; case hx => assumption) | (apply Go.Gw.Own.chg; case hx => assumption) | (apply Go.Gw.Box.chg; case hx => assumption) | (apply Go.Gw.At.chg; case hx => assumption) | exact .inl (Nat.zero_le _) | exact .inr (Nat.zero_le _) | (show _ ∨ _; omega))) (h' : SL w lo' hi' v' ys := by repeat (first | assumption | exact Go.Gw.Own.sl (by assumption) | exact Go.Gw.Box.at (by assumption) | exact Go.Gw.SLL.el (by first | assumption | exact Go.Gw.OwnD.sll (by assumption)) _ (by omega) | exact Go.Gw.SLL.at (by first | assumption | exact Go.Gw.OwnD.sll (by assumption)) (by omega) | exact Go.Gw.OwnD.sll (by assumption) | (apply Go.Gw.SL.chg; case hx => assumption) | (apply Go.Gw.Own.chg; case hx => assumption) | (apply Go.Gw.Box.chg; case hx => assumption) | (apply Go.Gw.At.chg; case hx => assumption) | exact .inl (Nat.zero_le _) | exact .inr (Nat.zero_le _) | (show _ ∨ _; omega))) : Ret Try.prog 26 [.agg #[v], .agg #[v']] w fun u w' => ∃ d, u = .tuple #[.agg #[d], .int .i64 (joinC xs ys)] ∧ Own w' 2 w.heap.size d (resJoin xs ys) ∧ Ext w w' := by
  have E : Since 0 0 w w := Since.refl 0 0 w
  by_cases hk : okC xs = true
  · have hl1 := okC_len hk
    by_cases hk' : okC ys = true
    · have hl2 := okC_len hk'
      refine ret_enter Try.func26 rfl Try.ntmps26 rfl ?_
      focus
        have ht_h := h.top
        have ht_h' := h'.top
        refine c_seq ?_
        refine c_region ?_
        refine w_box rfl (k := fun b2 w2 hb2 hx2 hl2 hs2 => ?_)
        have hz_hx2 := hx2.size
        replace h := h.ext hx2
        replace h' := h'.ext hx2
        replace E := E.trans hx2
        refine w_box rfl (k := fun b3 w3 hb3 hx3 hl3 hs3 => ?_)
        have hz_hx3 := hx3.size
        replace hb2 := hb2.ext hx3
        replace h := h.ext hx3
        replace h' := h'.ext hx3
        replace E := E.trans hx3
        refine w_alloc (k := fun b4 w4 hb4 hx4 hl4 hs4 => ?_)
        have hz_hx4 := hx4.size
        replace hb3 := hb3.ext hx4
        replace hb2 := hb2.ext hx4
        replace h := h.ext hx4
        replace h' := h'.ext hx4
        replace E := E.trans hx4
        refine w_pure (y_assign rfl) rfl ?_
        refine w_nil ?_
        refine x_next ?_
        refine c_seq ?_
        refine c_block ?_
        refine c_seq ?_
        refine c_region ?_
        refine w_pure (y_load_boxs rfl) rfl ?_
        refine w_val rfl rfl rfl (iValidCounter_c) rfl (fun w8 hx8 hz8 => ?_)
        have hz_hx8 := hx8.size
        replace hb4 := hb4.ext hx8
        replace hb3 := hb3.ext hx8
        replace hb2 := hb2.ext hx8
        replace h := h.ext hx8
        replace h' := h'.ext hx8
        replace E := E.trans hx8
        refine w_pure (y_not rfl) rfl ?_
        refine w_pure (y_move rfl) rfl ?_
        (refine w_part rfl rfl (fun hc11 => ?_) (fun hc11 => ?_) <;> try (first | exact absurd rfl hc11 | contradiction | exact Bool.noConfusion (show false = true from hc11.symm.trans (by assumption)) | exact Bool.noConfusion (show true = false from hc11.symm.trans (by assumption)) | (exfalso; omega) | (exfalso; simp only [*, Bool.not_true, Bool.not_false, reduceCtorEq] at hc11; done)))
        refine w_yes rfl rfl ?_
        refine w_pure (y_load_boxs rfl) rfl ?_
        refine w_yes rfl rfl ?_
        refine w_val rfl rfl rfl (iValidCounter_c) rfl (fun w12 hx12 hz12 => ?_)
        have hz_hx12 := hx12.size
        replace hb4 := hb4.ext hx12
        replace hb3 := hb3.ext hx12
        replace hb2 := hb2.ext hx12
        replace h := h.ext hx12
        replace h' := h'.ext hx12
        replace E := E.trans hx12
        refine w_yes rfl rfl ?_
        refine w_pure (y_not rfl) rfl ?_
        refine w_pure (y_pick_f rfl rfl) rfl ?_
        refine w_pure (y_assign rfl) rfl ?_
        refine w_nil ?_
        refine x_next ?_
        (refine c_not rfl (fun hc6 => ?_) (fun hc6 => ?_) <;> try (first | exact absurd rfl hc6 | contradiction | exact Bool.noConfusion (show false = true from hc6.symm.trans (by assumption)) | exact Bool.noConfusion (show true = false from hc6.symm.trans (by assumption)) | (exfalso; omega) | (exfalso; simp only [*, Bool.not_true, Bool.not_false, reduceCtorEq] at hc6; done)))
        refine c_seq ?_
        refine c_region ?_
        refine w_pure (y_field rfl) rfl ?_
        refine w_pure (y_load_box rfl) rfl ?_
        refine w_pure (y_len rfl) rfl ?_
        refine w_pure (y_field rfl) rfl ?_
        refine w_pure (y_load_box rfl) rfl ?_
        refine w_pure (y_len rfl) rfl ?_
        refine w_pure (y_add rfl rfl) rfl ?_
        refine w_pure (y_gt rfl rfl) rfl ?_
        refine w_pure (y_assign rfl) rfl ?_
        refine w_nil ?_
        refine x_next ?_
        (refine c_dec rfl (fun hc16 => ?_) (fun hc16 => ?_) <;> try (first | exact absurd rfl hc16 | contradiction | exact Bool.noConfusion (show false = true from hc16.symm.trans (by assumption)) | exact Bool.noConfusion (show true = false from hc16.symm.trans (by assumption)) | (exfalso; omega) | (exfalso; simp only [*, Bool.not_true, Bool.not_false, reduceCtorEq] at hc16; done)))
        refine c_seq ?_
        refine c_region ?_
        refine w_pure (y_build rfl) rfl ?_
        refine w_store_boxs rfl rfl (next := fun ws46 hbs46 hxs46 hss46 => ?_)
        (replace hb4 := hbs46; clear hbs46)
        have hz_hxs46 := hxs46.size
        replace hb3 := hb3.chg hxs46 (by omega)
        replace hb2 := hb2.chg hxs46 (by omega)
        replace h := h.chg hxs46 (by omega)
        replace h' := h'.chg hxs46 (by omega)
        replace E := E.next hxs46 (by omega)
        refine w_pure (y_assign rfl) rfl ?_
        refine w_nil ?_
        refine x_next ?_
        refine c_ret ?_
        refine x_block_ret ?_
        refine x_then_ret ?_
        rotate_left
        refine c_skip ?_
        refine x_block_norm ?_
        refine x_next ?_
        refine c_seq ?_
        refine c_region_held mixed (fun wr5 hxr5 hzr5 => ?_)
        have hz_hxr5 := hxr5.size
        replace hb4 := hb4.ext hxr5
        replace hb3 := hb3.ext hxr5
        replace hb2 := hb2.ext hxr5
        replace h := h.ext hxr5
        replace h' := h'.ext hxr5
        replace E := E.trans hxr5
        refine h_pure rfl (y_field rfl) rfl ?_
        refine h_pure rfl (y_load_box rfl) rfl ?_
        refine h_turn ?_
        refine h_pure rfl (y_field rfl) rfl ?_
        refine h_pure rfl (y_load_box rfl) rfl ?_
        refine h_turn ?_
        refine h_turn ?_
        refine h_turn ?_
        refine h_turn ?_
        refine h_one rfl ?_
        (refine w_call rfl rfl rfl (copyInts_c _) rfl ?_; rintro v28 w28 ⟨hp1_28, hx28⟩)
        have hl_hp1_28 := hp1_28.lt
        have hz_hx28 := hx28.size
        replace hb4 := hb4.ext hx28
        replace hb3 := hb3.ext hx28
        replace hb2 := hb2.ext hx28
        replace h := h.ext hx28
        replace h' := h'.ext hx28
        replace E := E.trans hx28
        refine w_nil ?_
        refine x_held ?_
        refine h_one rfl ?_
        refine w_append rfl rfl (k := fun v31 w31 ho31 hx31 hr31 => ?_)
        have hl_ho31 := ho31.lt
        have hz_hx31 := hx31.size
        replace hb4 := hb4.chg hx31 (by omega)
        replace hb3 := hb3.chg hx31 (by omega)
        replace hb2 := hb2.chg hx31 (by omega)
        replace h := h.chg hx31 (by omega)
        replace h' := h'.chg hx31 (by omega)
        replace E := E.next hx31 (by omega)
        refine w_nil ?_
        refine x_heldk ?_
        refine h_pure rfl (y_build rfl) rfl ?_
        refine h_one rfl ?_
        refine w_store_boxs rfl rfl (next := fun ws78 hbs78 hxs78 hss78 => ?_)
        (replace hb4 := hbs78; clear hbs78)
        have hz_hxs78 := hxs78.size
        replace ho31 := ho31.chg hxs78 (by omega)
        replace hb3 := hb3.chg hxs78 (by omega)
        replace hb2 := hb2.chg hxs78 (by omega)
        replace h := h.chg hxs78 (by omega)
        replace h' := h'.chg hxs78 (by omega)
        replace E := E.next hxs78 (by omega)
        refine w_nil ?_
        refine x_heldk ?_
        refine h_pure rfl (y_assign rfl) rfl ?_
        refine h_nil ?_
        refine x_next ?_
        refine c_ret ?_
        rotate_left
      · have e : joinC xs ys = 5 := by simp [joinC, hk, hk']; omega
        exact x_retv [_, _] rfl ⟨⟨_, rfl, run_load_str (Box.at (by assumption)) (by rfl)⟩, rfl, trivial⟩ ⟨_, by rw [e]; rfl, by rw [resJoin, e]; exact Own.nil _ _ _, E.go⟩
      · have e : joinC xs ys = 0 := by simp [joinC, hk, hk']; omega
        exact x_retv [_, _] rfl ⟨⟨_, rfl, run_load_str (Box.at (by assumption)) (by rfl)⟩, rfl, trivial⟩ ⟨_, by rw [e]; rfl, by rw [resJoin, e]; exact Own.base (by assumption) (by omega), E.go⟩
    · refine ret_enter Try.func26 rfl Try.ntmps26 rfl ?_
      focus
        have ht_h := h.top
        have ht_h' := h'.top
        refine c_seq ?_
        refine c_region ?_
        refine w_box rfl (k := fun b2 w2 hb2 hx2 hl2 hs2 => ?_)
        have hz_hx2 := hx2.size
        replace h := h.ext hx2
        replace h' := h'.ext hx2
        replace E := E.trans hx2
        refine w_box rfl (k := fun b3 w3 hb3 hx3 hl3 hs3 => ?_)
        have hz_hx3 := hx3.size
        replace hb2 := hb2.ext hx3
        replace h := h.ext hx3
        replace h' := h'.ext hx3
        replace E := E.trans hx3
        refine w_alloc (k := fun b4 w4 hb4 hx4 hl4 hs4 => ?_)
        have hz_hx4 := hx4.size
        replace hb3 := hb3.ext hx4
        replace hb2 := hb2.ext hx4
        replace h := h.ext hx4
        replace h' := h'.ext hx4
        replace E := E.trans hx4
        refine w_pure (y_assign rfl) rfl ?_
        refine w_nil ?_
        refine x_next ?_
        refine c_seq ?_
        refine c_block ?_
        refine c_seq ?_
        refine c_region ?_
        refine w_pure (y_load_boxs rfl) rfl ?_
        refine w_val rfl rfl rfl (iValidCounter_c) rfl (fun w8 hx8 hz8 => ?_)
        have hz_hx8 := hx8.size
        replace hb4 := hb4.ext hx8
        replace hb3 := hb3.ext hx8
        replace hb2 := hb2.ext hx8
        replace h := h.ext hx8
        replace h' := h'.ext hx8
        replace E := E.trans hx8
        refine w_pure (y_not rfl) rfl ?_
        refine w_pure (y_move rfl) rfl ?_
        (refine w_part rfl rfl (fun hc11 => ?_) (fun hc11 => ?_) <;> try (first | exact absurd rfl hc11 | contradiction | exact Bool.noConfusion (show false = true from hc11.symm.trans (by assumption)) | exact Bool.noConfusion (show true = false from hc11.symm.trans (by assumption)) | (exfalso; omega) | (exfalso; simp only [*, Bool.not_true, Bool.not_false, reduceCtorEq] at hc11; done)))
        refine w_yes rfl rfl ?_
        refine w_pure (y_load_boxs rfl) rfl ?_
        refine w_yes rfl rfl ?_
        refine w_val rfl rfl rfl (iValidCounter_c) rfl (fun w12 hx12 hz12 => ?_)
        have hz_hx12 := hx12.size
        replace hb4 := hb4.ext hx12
        replace hb3 := hb3.ext hx12
        replace hb2 := hb2.ext hx12
        replace h := h.ext hx12
        replace h' := h'.ext hx12
        replace E := E.trans hx12
        refine w_yes rfl rfl ?_
        refine w_pure (y_not rfl) rfl ?_
        refine w_pure (y_pick_f rfl rfl) rfl ?_
        refine w_pure (y_assign rfl) rfl ?_
        refine w_nil ?_
        refine x_next ?_
        (refine c_not rfl (fun hc6 => ?_) (fun hc6 => ?_) <;> try (first | exact absurd rfl hc6 | contradiction | exact Bool.noConfusion (show false = true from hc6.symm.trans (by assumption)) | exact Bool.noConfusion (show true = false from hc6.symm.trans (by assumption)) | (exfalso; omega) | (exfalso; simp only [*, Bool.not_true, Bool.not_false, reduceCtorEq] at hc6; done)))
        refine c_seq ?_
        refine c_region ?_
        refine w_pure (y_build rfl) rfl ?_
        refine w_store_boxs rfl rfl (next := fun ws32 hbs32 hxs32 hss32 => ?_)
        (replace hb4 := hbs32; clear hbs32)
        have hz_hxs32 := hxs32.size
        replace hb3 := hb3.chg hxs32 (by omega)
        replace hb2 := hb2.chg hxs32 (by omega)
        replace h := h.chg hxs32 (by omega)
        replace h' := h'.chg hxs32 (by omega)
        replace E := E.next hxs32 (by omega)
        refine w_pure (y_assign rfl) rfl ?_
        refine w_nil ?_
        refine x_next ?_
        refine c_ret ?_
        refine x_block_ret ?_
        refine x_then_ret ?_
        rotate_left
      have e : joinC xs ys = 1 := by simp [joinC, hk']
      exact x_retv [_, _] rfl ⟨⟨_, rfl, run_load_str (Box.at (by assumption)) (by rfl)⟩, rfl, trivial⟩ ⟨_, by rw [e]; rfl, by rw [resJoin, e]; exact Own.nil _ _ _, E.go⟩
  · refine ret_enter Try.func26 rfl Try.ntmps26 rfl ?_
    focus
      have ht_h := h.top
      have ht_h' := h'.top
      refine c_seq ?_
      refine c_region ?_
      refine w_box rfl (k := fun b2 w2 hb2 hx2 hl2 hs2 => ?_)
      have hz_hx2 := hx2.size
      replace h := h.ext hx2
      replace h' := h'.ext hx2
      replace E := E.trans hx2
      refine w_box rfl (k := fun b3 w3 hb3 hx3 hl3 hs3 => ?_)
      have hz_hx3 := hx3.size
      replace hb2 := hb2.ext hx3
      replace h := h.ext hx3
      replace h' := h'.ext hx3
      replace E := E.trans hx3
      refine w_alloc (k := fun b4 w4 hb4 hx4 hl4 hs4 => ?_)
      have hz_hx4 := hx4.size
      replace hb3 := hb3.ext hx4
      replace hb2 := hb2.ext hx4
      replace h := h.ext hx4
      replace h' := h'.ext hx4
      replace E := E.trans hx4
      refine w_pure (y_assign rfl) rfl ?_
      refine w_nil ?_
      refine x_next ?_
      refine c_seq ?_
      refine c_block ?_
      refine c_seq ?_
      refine c_region ?_
      refine w_pure (y_load_boxs rfl) rfl ?_
      refine w_val rfl rfl rfl (iValidCounter_c) rfl (fun w8 hx8 hz8 => ?_)
      have hz_hx8 := hx8.size
      replace hb4 := hb4.ext hx8
      replace hb3 := hb3.ext hx8
      replace hb2 := hb2.ext hx8
      replace h := h.ext hx8
      replace h' := h'.ext hx8
      replace E := E.trans hx8
      refine w_pure (y_not rfl) rfl ?_
      refine w_pure (y_move rfl) rfl ?_
      (refine w_part rfl rfl (fun hc11 => ?_) (fun hc11 => ?_) <;> try (first | exact absurd rfl hc11 | contradiction | exact Bool.noConfusion (show false = true from hc11.symm.trans (by assumption)) | exact Bool.noConfusion (show true = false from hc11.symm.trans (by assumption)) | (exfalso; omega) | (exfalso; simp only [*, Bool.not_true, Bool.not_false, reduceCtorEq] at hc11; done)))
      refine w_no rfl rfl rfl rfl ?_
      refine w_no rfl rfl rfl rfl ?_
      refine w_no rfl rfl rfl rfl ?_
      refine w_pure (y_pick_t rfl rfl) rfl ?_
      refine w_pure (y_assign rfl) rfl ?_
      refine w_nil ?_
      refine x_next ?_
      refine c_true rfl ?_
      refine c_seq ?_
      refine c_region ?_
      refine w_pure (y_build rfl) rfl ?_
      refine w_store_boxs rfl rfl (next := fun ws29 hbs29 hxs29 hss29 => ?_)
      (replace hb4 := hbs29; clear hbs29)
      have hz_hxs29 := hxs29.size
      replace hb3 := hb3.chg hxs29 (by omega)
      replace hb2 := hb2.chg hxs29 (by omega)
      replace h := h.chg hxs29 (by omega)
      replace h' := h'.chg hxs29 (by omega)
      replace E := E.next hxs29 (by omega)
      refine w_pure (y_assign rfl) rfl ?_
      refine w_nil ?_
      refine x_next ?_
      refine c_ret ?_
      refine x_block_ret ?_
      refine x_then_ret ?_
      rotate_left
    have e : joinC xs ys = 1 := by simp [joinC, hk]
    exact x_retv [_, _] rfl ⟨⟨_, rfl, run_load_str (Box.at (by assumption)) (by rfl)⟩, rfl, trivial⟩ ⟨_, by rw [e]; rfl, by rw [resJoin, e]; exact Own.nil _ _ _, E.go⟩
theorem sJoinCounters_c (h : SL w lo hi v xs := by repeat (first | assumption | exact Go.Gw.Own.sl (by assumption) | exact Go.Gw.Box.at (by assumption) | exact Go.Gw.SLL.el (by first | assumption | exact Go.Gw.OwnD.sll (by assumption)) _ (by omega) | exact Go.Gw.SLL.at (by first | assumption | exact Go.Gw.OwnD.sll (by assumption)) (by omega) | exact Go.Gw.OwnD.sll (by assumption) | (apply Go.Gw.SL.chg; case hx => assumption) | (apply Go.Gw.Own.chg; case hx => assumption) | (apply Go.Gw.Box.chg; case hx => assumption) | (apply Go.Gw.At.chg; case hx => assumption) | exact .inl (Nat.zero_le _) | exact .inr (Nat.zero_le _) | (show _ ∨ _; omega))) (h' : SL w lo' hi' v' ys := by repeat (first | assumption | exact Go.Gw.Own.sl (by assumption) | exact Go.Gw.Box.at (by assumption) | exact Go.Gw.SLL.el (by first | assumption | exact Go.Gw.OwnD.sll (by assumption)) _ (by omega) | exact Go.Gw.SLL.at (by first | assumption | exact Go.Gw.OwnD.sll (by assumption)) (by omega) | exact Go.Gw.OwnD.sll (by assumption) | (apply Go.Gw.SL.chg; case hx => assumption) | (apply Go.Gw.Own.chg; case hx => assumption) | (apply Go.Gw.Box.chg; case hx => assumption) | (apply Go.Gw.At.chg; case hx => assumption) | exact .inl (Nat.zero_le _) | exact .inr (Nat.zero_le _) | (show _ ∨ _; omega))) : Ret Try.prog 27 [.agg #[v], .agg #[v']] w fun u w' => ∃ d, u = .tuple #[.agg #[d], .int .i64 (joinC xs ys)] ∧ Own w' 2 w.heap.size d (resJoin xs ys) ∧ Ext w w' := by
  have E : Since 0 0 w w := Since.refl 0 0 w
  by_cases hk : okC xs = true
  · have hl1 := okC_len hk
    by_cases hk' : okC ys = true
    · have hl2 := okC_len hk'
      refine ret_enter Try.func27 rfl Try.ntmps27 rfl ?_
      focus
        have ht_h := h.top
        have ht_h' := h'.top
        refine c_seq ?_
        refine c_region ?_
        refine w_box rfl (k := fun b2 w2 hb2 hx2 hl2 hs2 => ?_)
        have hz_hx2 := hx2.size
        replace h := h.ext hx2
        replace h' := h'.ext hx2
        replace E := E.trans hx2
        refine w_box rfl (k := fun b3 w3 hb3 hx3 hl3 hs3 => ?_)
        have hz_hx3 := hx3.size
        replace hb2 := hb2.ext hx3
        replace h := h.ext hx3
        replace h' := h'.ext hx3
        replace E := E.trans hx3
        refine w_alloc (k := fun b4 w4 hb4 hx4 hl4 hs4 => ?_)
        have hz_hx4 := hx4.size
        replace hb3 := hb3.ext hx4
        replace hb2 := hb2.ext hx4
        replace h := h.ext hx4
        replace h' := h'.ext hx4
        replace E := E.trans hx4
        refine w_pure (y_assign rfl) rfl ?_
        refine w_nil ?_
        refine x_next ?_
        refine c_seq ?_
        refine c_seq ?_
        refine c_region ?_
        refine w_val rfl rfl rfl (l11Ok_z) rfl (fun w6 hx6 hz6 => ?_)
        have hz_hx6 := hx6.size
        replace hb4 := hb4.ext hx6
        replace hb3 := hb3.ext hx6
        replace hb2 := hb2.ext hx6
        replace h := h.ext hx6
        replace h' := h'.ext hx6
        replace E := E.trans hx6
        refine w_pure (y_not rfl) rfl ?_
        refine w_pure (y_move rfl) rfl ?_
        (refine w_part rfl rfl (fun hc9 => ?_) (fun hc9 => ?_) <;> try (first | exact absurd rfl hc9 | contradiction | exact Bool.noConfusion (show false = true from hc9.symm.trans (by assumption)) | exact Bool.noConfusion (show true = false from hc9.symm.trans (by assumption)) | (exfalso; omega) | (exfalso; simp only [*, Bool.not_true, Bool.not_false, reduceCtorEq] at hc9; done)))
        refine w_yes rfl rfl ?_
        refine w_val rfl rfl rfl (l11Ok_z) rfl (fun w9x1_17 hx9x1_17 hz9x1_17 => ?_)
        have hz_hx9x1_17 := hx9x1_17.size
        replace hb4 := hb4.ext hx9x1_17
        replace hb3 := hb3.ext hx9x1_17
        replace hb2 := hb2.ext hx9x1_17
        replace h := h.ext hx9x1_17
        replace h' := h'.ext hx9x1_17
        replace E := E.trans hx9x1_17
        refine w_yes rfl rfl ?_
        refine w_pure (y_not rfl) rfl ?_
        refine w_pure (y_pick_f rfl rfl) rfl ?_
        refine w_nil ?_
        refine x_next ?_
        (refine c_not rfl (fun hc11 => ?_) (fun hc11 => ?_) <;> try (first | exact absurd rfl hc11 | contradiction | exact Bool.noConfusion (show false = true from hc11.symm.trans (by assumption)) | exact Bool.noConfusion (show true = false from hc11.symm.trans (by assumption)) | (exfalso; omega) | (exfalso; simp only [*, Bool.not_true, Bool.not_false, reduceCtorEq] at hc11; done)))
        refine c_skip ?_
        refine x_next ?_
        refine c_seq ?_
        refine c_seq ?_
        refine c_region ?_
        refine w_pure (y_field rfl) rfl ?_
        refine w_pure (y_load_box rfl) rfl ?_
        refine w_pure (y_len rfl) rfl ?_
        refine w_pure (y_field rfl) rfl ?_
        refine w_pure (y_load_box rfl) rfl ?_
        refine w_pure (y_len rfl) rfl ?_
        refine w_pure (y_add rfl rfl) rfl ?_
        refine w_pure (y_gt rfl rfl) rfl ?_
        refine w_nil ?_
        refine x_next ?_
        (refine c_dec rfl (fun hc20 => ?_) (fun hc20 => ?_) <;> try (first | exact absurd rfl hc20 | contradiction | exact Bool.noConfusion (show false = true from hc20.symm.trans (by assumption)) | exact Bool.noConfusion (show true = false from hc20.symm.trans (by assumption)) | (exfalso; omega) | (exfalso; simp only [*, Bool.not_true, Bool.not_false, reduceCtorEq] at hc20; done)))
        refine c_seq ?_
        refine c_region ?_
        refine w_pure (y_build rfl) rfl ?_
        refine w_store_boxs rfl rfl (next := fun ws43 hbs43 hxs43 hss43 => ?_)
        (replace hb4 := hbs43; clear hbs43)
        have hz_hxs43 := hxs43.size
        replace hb3 := hb3.chg hxs43 (by omega)
        replace hb2 := hb2.chg hxs43 (by omega)
        replace h := h.chg hxs43 (by omega)
        replace h' := h'.chg hxs43 (by omega)
        replace E := E.next hxs43 (by omega)
        refine w_pure (y_assign rfl) rfl ?_
        refine w_nil ?_
        refine x_next ?_
        refine c_ret ?_
        refine x_then_ret ?_
        rotate_left
        refine c_skip ?_
        refine x_next ?_
        refine c_seq ?_
        refine c_region_held mixed (fun wr5 hxr5 hzr5 => ?_)
        have hz_hxr5 := hxr5.size
        replace hb4 := hb4.ext hxr5
        replace hb3 := hb3.ext hxr5
        replace hb2 := hb2.ext hxr5
        replace h := h.ext hxr5
        replace h' := h'.ext hxr5
        replace E := E.trans hxr5
        refine h_pure rfl (y_field rfl) rfl ?_
        refine h_pure rfl (y_load_box rfl) rfl ?_
        refine h_turn ?_
        refine h_pure rfl (y_field rfl) rfl ?_
        refine h_pure rfl (y_load_box rfl) rfl ?_
        refine h_turn ?_
        refine h_turn ?_
        refine h_turn ?_
        refine h_turn ?_
        refine h_one rfl ?_
        (refine w_call rfl rfl rfl (l00Own_c _) rfl ?_; rintro v24 w24 ⟨hp1_24, hx24⟩)
        have hl_hp1_24 := hp1_24.lt
        have hz_hx24 := hx24.size
        replace hb4 := hb4.ext hx24
        replace hb3 := hb3.ext hx24
        replace hb2 := hb2.ext hx24
        replace h := h.ext hx24
        replace h' := h'.ext hx24
        replace E := E.trans hx24
        refine w_nil ?_
        refine x_held ?_
        refine h_one rfl ?_
        refine w_append rfl rfl (k := fun v27 w27 ho27 hx27 hr27 => ?_)
        have hl_ho27 := ho27.lt
        have hz_hx27 := hx27.size
        replace hb4 := hb4.chg hx27 (by omega)
        replace hb3 := hb3.chg hx27 (by omega)
        replace hb2 := hb2.chg hx27 (by omega)
        replace h := h.chg hx27 (by omega)
        replace h' := h'.chg hx27 (by omega)
        replace E := E.next hx27 (by omega)
        refine w_nil ?_
        refine x_heldk ?_
        refine h_pure rfl (y_build rfl) rfl ?_
        refine h_one rfl ?_
        refine w_store_boxs rfl rfl (next := fun ws73 hbs73 hxs73 hss73 => ?_)
        (replace hb4 := hbs73; clear hbs73)
        have hz_hxs73 := hxs73.size
        replace ho27 := ho27.chg hxs73 (by omega)
        replace hb3 := hb3.chg hxs73 (by omega)
        replace hb2 := hb2.chg hxs73 (by omega)
        replace h := h.chg hxs73 (by omega)
        replace h' := h'.chg hxs73 (by omega)
        replace E := E.next hxs73 (by omega)
        refine w_nil ?_
        refine x_heldk ?_
        refine h_pure rfl (y_assign rfl) rfl ?_
        refine h_nil ?_
        refine x_next ?_
        refine c_ret ?_
        rotate_left
      · have e : joinC xs ys = 5 := by simp [joinC, hk, hk']; omega
        exact x_retv [_, _] rfl ⟨⟨_, rfl, run_load_str (Box.at (by assumption)) (by rfl)⟩, rfl, trivial⟩ ⟨_, by rw [e]; rfl, by rw [resJoin, e]; exact Own.nil _ _ _, E.go⟩
      · have e : joinC xs ys = 0 := by simp [joinC, hk, hk']; omega
        exact x_retv [_, _] rfl ⟨⟨_, rfl, run_load_str (Box.at (by assumption)) (by rfl)⟩, rfl, trivial⟩ ⟨_, by rw [e]; rfl, by rw [resJoin, e]; exact Own.base (by assumption) (by omega), E.go⟩
    · refine ret_enter Try.func27 rfl Try.ntmps27 rfl ?_
      focus
        have ht_h := h.top
        have ht_h' := h'.top
        refine c_seq ?_
        refine c_region ?_
        refine w_box rfl (k := fun b2 w2 hb2 hx2 hl2 hs2 => ?_)
        have hz_hx2 := hx2.size
        replace h := h.ext hx2
        replace h' := h'.ext hx2
        replace E := E.trans hx2
        refine w_box rfl (k := fun b3 w3 hb3 hx3 hl3 hs3 => ?_)
        have hz_hx3 := hx3.size
        replace hb2 := hb2.ext hx3
        replace h := h.ext hx3
        replace h' := h'.ext hx3
        replace E := E.trans hx3
        refine w_alloc (k := fun b4 w4 hb4 hx4 hl4 hs4 => ?_)
        have hz_hx4 := hx4.size
        replace hb3 := hb3.ext hx4
        replace hb2 := hb2.ext hx4
        replace h := h.ext hx4
        replace h' := h'.ext hx4
        replace E := E.trans hx4
        refine w_pure (y_assign rfl) rfl ?_
        refine w_nil ?_
        refine x_next ?_
        refine c_seq ?_
        refine c_seq ?_
        refine c_region ?_
        refine w_val rfl rfl rfl (l11Ok_z) rfl (fun w6 hx6 hz6 => ?_)
        have hz_hx6 := hx6.size
        replace hb4 := hb4.ext hx6
        replace hb3 := hb3.ext hx6
        replace hb2 := hb2.ext hx6
        replace h := h.ext hx6
        replace h' := h'.ext hx6
        replace E := E.trans hx6
        refine w_pure (y_not rfl) rfl ?_
        refine w_pure (y_move rfl) rfl ?_
        (refine w_part rfl rfl (fun hc9 => ?_) (fun hc9 => ?_) <;> try (first | exact absurd rfl hc9 | contradiction | exact Bool.noConfusion (show false = true from hc9.symm.trans (by assumption)) | exact Bool.noConfusion (show true = false from hc9.symm.trans (by assumption)) | (exfalso; omega) | (exfalso; simp only [*, Bool.not_true, Bool.not_false, reduceCtorEq] at hc9; done)))
        refine w_yes rfl rfl ?_
        refine w_val rfl rfl rfl (l11Ok_z) rfl (fun w9x2_17 hx9x2_17 hz9x2_17 => ?_)
        have hz_hx9x2_17 := hx9x2_17.size
        replace hb4 := hb4.ext hx9x2_17
        replace hb3 := hb3.ext hx9x2_17
        replace hb2 := hb2.ext hx9x2_17
        replace h := h.ext hx9x2_17
        replace h' := h'.ext hx9x2_17
        replace E := E.trans hx9x2_17
        refine w_yes rfl rfl ?_
        refine w_pure (y_not rfl) rfl ?_
        refine w_pure (y_pick_f rfl rfl) rfl ?_
        refine w_nil ?_
        refine x_next ?_
        (refine c_not rfl (fun hc11 => ?_) (fun hc11 => ?_) <;> try (first | exact absurd rfl hc11 | contradiction | exact Bool.noConfusion (show false = true from hc11.symm.trans (by assumption)) | exact Bool.noConfusion (show true = false from hc11.symm.trans (by assumption)) | (exfalso; omega) | (exfalso; simp only [*, Bool.not_true, Bool.not_false, reduceCtorEq] at hc11; done)))
        refine c_seq ?_
        refine c_region ?_
        refine w_pure (y_build rfl) rfl ?_
        refine w_store_boxs rfl rfl (next := fun ws27 hbs27 hxs27 hss27 => ?_)
        (replace hb4 := hbs27; clear hbs27)
        have hz_hxs27 := hxs27.size
        replace hb3 := hb3.chg hxs27 (by omega)
        replace hb2 := hb2.chg hxs27 (by omega)
        replace h := h.chg hxs27 (by omega)
        replace h' := h'.chg hxs27 (by omega)
        replace E := E.next hxs27 (by omega)
        refine w_pure (y_assign rfl) rfl ?_
        refine w_nil ?_
        refine x_next ?_
        refine c_ret ?_
        refine x_then_ret ?_
        rotate_left
      have e : joinC xs ys = 1 := by simp [joinC, hk']
      exact x_retv [_, _] rfl ⟨⟨_, rfl, run_load_str (Box.at (by assumption)) (by rfl)⟩, rfl, trivial⟩ ⟨_, by rw [e]; rfl, by rw [resJoin, e]; exact Own.nil _ _ _, E.go⟩
  · refine ret_enter Try.func27 rfl Try.ntmps27 rfl ?_
    focus
      have ht_h := h.top
      have ht_h' := h'.top
      refine c_seq ?_
      refine c_region ?_
      refine w_box rfl (k := fun b2 w2 hb2 hx2 hl2 hs2 => ?_)
      have hz_hx2 := hx2.size
      replace h := h.ext hx2
      replace h' := h'.ext hx2
      replace E := E.trans hx2
      refine w_box rfl (k := fun b3 w3 hb3 hx3 hl3 hs3 => ?_)
      have hz_hx3 := hx3.size
      replace hb2 := hb2.ext hx3
      replace h := h.ext hx3
      replace h' := h'.ext hx3
      replace E := E.trans hx3
      refine w_alloc (k := fun b4 w4 hb4 hx4 hl4 hs4 => ?_)
      have hz_hx4 := hx4.size
      replace hb3 := hb3.ext hx4
      replace hb2 := hb2.ext hx4
      replace h := h.ext hx4
      replace h' := h'.ext hx4
      replace E := E.trans hx4
      refine w_pure (y_assign rfl) rfl ?_
      refine w_nil ?_
      refine x_next ?_
      refine c_seq ?_
      refine c_seq ?_
      refine c_region ?_
      refine w_val rfl rfl rfl (l11Ok_z) rfl (fun w6 hx6 hz6 => ?_)
      have hz_hx6 := hx6.size
      replace hb4 := hb4.ext hx6
      replace hb3 := hb3.ext hx6
      replace hb2 := hb2.ext hx6
      replace h := h.ext hx6
      replace h' := h'.ext hx6
      replace E := E.trans hx6
      refine w_pure (y_not rfl) rfl ?_
      refine w_pure (y_move rfl) rfl ?_
      (refine w_part rfl rfl (fun hc9 => ?_) (fun hc9 => ?_) <;> try (first | exact absurd rfl hc9 | contradiction | exact Bool.noConfusion (show false = true from hc9.symm.trans (by assumption)) | exact Bool.noConfusion (show true = false from hc9.symm.trans (by assumption)) | (exfalso; omega) | (exfalso; simp only [*, Bool.not_true, Bool.not_false, reduceCtorEq] at hc9; done)))
      refine w_no rfl rfl rfl rfl ?_
      refine w_no rfl rfl rfl rfl ?_
      refine w_pure (y_pick_t rfl rfl) rfl ?_
      refine w_nil ?_
      refine x_next ?_
      refine c_true rfl ?_
      refine c_seq ?_
      refine c_region ?_
      refine w_pure (y_build rfl) rfl ?_
      refine w_store_boxs rfl rfl (next := fun ws25 hbs25 hxs25 hss25 => ?_)
      (replace hb4 := hbs25; clear hbs25)
      have hz_hxs25 := hxs25.size
      replace hb3 := hb3.chg hxs25 (by omega)
      replace hb2 := hb2.chg hxs25 (by omega)
      replace h := h.chg hxs25 (by omega)
      replace h' := h'.chg hxs25 (by omega)
      replace E := E.next hxs25 (by omega)
      refine w_pure (y_assign rfl) rfl ?_
      refine w_nil ?_
      refine x_next ?_
      refine c_ret ?_
      refine x_then_ret ?_
      rotate_left
    have e : joinC xs ys = 1 := by simp [joinC, hk]
    exact x_retv [_, _] rfl ⟨⟨_, rfl, run_load_str (Box.at (by assumption)) (by rfl)⟩, rfl, trivial⟩ ⟨_, by rw [e]; rfl, by rw [resJoin, e]; exact Own.nil _ _ _, E.go⟩
end
end Go.Proofs.Ythigkbkaeopipaa

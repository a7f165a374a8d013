/- Contracts: joining and splitting. -/
import Derived.Test.YtmmpnlhanljhiaaCntF
import Derived.Test.YtmmpnlhanljhiaaLawA
namespace Go.Proofs.Ytmmpnlhanljhiaa
open Go Go.Gw
set_option linter.unusedVariables false
set_option linter.unusedSimpArgs false
def joinC (xs ys : List Int) : Int := if okC xs = true ∧ okC ys = true then (if xs.length + ys.length ≤ 12 then 0 else 5) else 1
def resJoin (xs ys : List Int) : List Int := if joinC xs ys = 0 then xs ++ ys else []
theorem resJoin_len (xs ys : List Int) : (resJoin xs ys).length ≤ 12 := by
  by_cases h : okC xs = true ∧ okC ys = true
  · by_cases h2 : xs.length + ys.length ≤ 12
    · simp [resJoin, joinC, h, h2]
    · simp [resJoin, joinC, h, h2]
  · simp [resJoin, joinC, if_neg h]
theorem nines_c (k : Int) (h0 : 0 ≤ k) (h1 : k ≤ 18) : Pur Try.prog 60 [.int .i64 k] (.int .i64 (10 ^ k.toNat - 1)) := by
  refine ⟨fun w => ?_⟩
  refine ret_enter Try.func60 rfl Try.ntmps60 rfl ?_
  focus
    refine c_seq ?_
    refine c_region ?_
    refine w_pure (y_assign rfl) rfl ?_
    refine w_nil ?_
    refine x_next ?_
    refine c_seq ?_
    refine c_region ?_
    refine w_pure (y_assign rfl) rfl ?_
    refine w_nil ?_
    refine x_next ?_
    refine c_seq ?_
    refine c_seq ?_
    refine c_region ?_
    refine w_pure (y_move rfl) rfl ?_
    refine w_pure (y_move rfl) rfl ?_
    refine w_nil ?_
    refine x_next ?_
    refine c_block ?_
    rotate_left
  refine c_loop (ι := Int × Int) (fun x => [(3, .int .i64 x.2), (4, .int .i64 k), (5, .int .i64 x.1)]) (fun x w' => w' = w ∧ 0 ≤ x.1 ∧ x.1 ≤ k ∧ x.2 = 10 ^ x.1.toNat - 1) (fun x => (k - x.1).toNat) (0, 0)
    ⟨rfl, rfl, rfl, trivial⟩ ⟨rfl, by simp, by simp; omega, by simp⟩ ?_
  rintro ⟨i, n⟩ w2 ⟨rfl, hi0, hi1, hn⟩
  dsimp only at *
  have hp1 := pow10_pos i.toNat
  have hp2 := fun h => pow10_18 (k := i.toNat + 1) h
  rw [Int.pow_succ] at hp2
  by_cases hik : i < k
  · have := hp2 (by omega)
    focus
      refine c_seq ?_
      refine c_region ?_
      refine w_pure (y_lt rfl rfl) rfl ?_
      refine w_nil ?_
      refine x_next ?_
      refine c_seq ?_
      (refine c_dec rfl (fun hc6 => ?_) (fun hc6 => ?_) <;> try (first | exact absurd rfl hc6 | contradiction | exact Bool.noConfusion (show false = true from hc6.symm.trans (by assumption)) | exact Bool.noConfusion (show true = false from hc6.symm.trans (by assumption)) | (exfalso; omega) | (exfalso; simp only [*, Bool.not_true, Bool.not_false, reduceCtorEq] at hc6; done)))
      refine c_skip ?_
      refine x_next ?_
      refine c_seq ?_
      refine c_block ?_
      refine c_region ?_
      refine w_pure (y_move rfl) rfl ?_
      refine w_pure (y_mul rfl rfl) rfl ?_
      refine w_pure (y_add rfl rfl) rfl ?_
      refine w_pure (y_assign rfl) rfl ?_
      refine w_nil ?_
      refine x_block_norm ?_
      refine x_next ?_
      refine c_region ?_
      refine w_pure (y_add rfl rfl) rfl ?_
      refine w_pure (y_move rfl) rfl ?_
      refine w_nil ?_
      rotate_left
    refine x_again (i + 1, 10 * n + 9) ⟨rfl, rfl, rfl, trivial⟩ ⟨rfl, by dsimp only; omega, by dsimp only; omega, ?_⟩ (by dsimp only; omega)
    dsimp only
    rw [pow10_succ _ hi0, hn]; omega
  · focus
      refine c_seq ?_
      refine c_region ?_
      refine w_pure (y_lt rfl rfl) rfl ?_
      refine w_nil ?_
      refine x_next ?_
      refine c_seq ?_
      (refine c_dec rfl (fun hc6 => ?_) (fun hc6 => ?_) <;> try (first | exact absurd rfl hc6 | contradiction | exact Bool.noConfusion (show false = true from hc6.symm.trans (by assumption)) | exact Bool.noConfusion (show true = false from hc6.symm.trans (by assumption)) | (exfalso; omega) | (exfalso; simp only [*, Bool.not_true, Bool.not_false, reduceCtorEq] at hc6; done)))
      refine c_exit ?_
      refine x_then_exit ?_
      refine x_then_exit ?_
      refine x_block_hit ?_
      refine x_next ?_
      refine c_seq ?_
      refine c_region ?_
      refine w_pure (y_move rfl) rfl ?_
      refine w_pure (y_assign rfl) rfl ?_
      refine w_nil ?_
      refine x_next ?_
      refine c_ret ?_
      rotate_left
    refine x_retv [_] rfl ⟨rfl, trivial⟩ ⟨?_, rfl⟩
    rw [hn, show i = k by omega]; rfl
section
variable {w : World} {v v' : Value} {xs ys : List Int} {lo hi lo' hi' b b' : Nat}
theorem l11Ok_z (hp : At w b 0 [v] := by repeat (first | assumption | exact Go.Gw.Own.sl (by assumption) | exact Go.Gw.Box.at (by assumption) | (apply Go.Gw.SL.chg; case hx => assumption) | (apply Go.Gw.Own.chg; case hx => assumption) | (apply Go.Gw.Box.chg; case hx => assumption) | (apply Go.Gw.At.chg; case hx => assumption) | exact .inl (Nat.zero_le _) | exact .inr (Nat.zero_le _) | (show _ ∨ _; omega))) (h : SL w lo hi v xs := by repeat (first | assumption | exact Go.Gw.Own.sl (by assumption) | exact Go.Gw.Box.at (by assumption) | (apply Go.Gw.SL.chg; case hx => assumption) | (apply Go.Gw.Own.chg; case hx => assumption) | (apply Go.Gw.Box.chg; case hx => assumption) | (apply Go.Gw.At.chg; case hx => assumption) | exact .inl (Nat.zero_le _) | exact .inr (Nat.zero_le _) | (show _ ∨ _; omega))) : Val Try.prog 46 [ptr b 0] w (.bool (okC xs)) := l11Ok_c (h := h) (hp := hp)
theorem l11Value_z (hp : At w b 0 [v] := by repeat (first | assumption | exact Go.Gw.Own.sl (by assumption) | exact Go.Gw.Box.at (by assumption) | (apply Go.Gw.SL.chg; case hx => assumption) | (apply Go.Gw.Own.chg; case hx => assumption) | (apply Go.Gw.Box.chg; case hx => assumption) | (apply Go.Gw.At.chg; case hx => assumption) | exact .inl (Nat.zero_le _) | exact .inr (Nat.zero_le _) | (show _ ∨ _; omega))) (h : SL w lo hi v xs := by repeat (first | assumption | exact Go.Gw.Own.sl (by assumption) | exact Go.Gw.Box.at (by assumption) | (apply Go.Gw.SL.chg; case hx => assumption) | (apply Go.Gw.Own.chg; case hx => assumption) | (apply Go.Gw.Box.chg; case hx => assumption) | (apply Go.Gw.At.chg; case hx => assumption) | exact .inl (Nat.zero_le _) | exact .inr (Nat.zero_le _) | (show _ ∨ _; omega))) (hk : okC xs = true := by assumption) : Val Try.prog 52 [ptr b 0] w (.int .i64 (valD xs)) := l11Value_c hk (h := h) (hp := hp)
theorem iJoinCounters_c (h : SL w lo hi v xs := by repeat (first | assumption | exact Go.Gw.Own.sl (by assumption) | exact Go.Gw.Box.at (by assumption) | (apply Go.Gw.SL.chg; case hx => assumption) | (apply Go.Gw.Own.chg; case hx => assumption) | (apply Go.Gw.Box.chg; case hx => assumption) | (apply Go.Gw.At.chg; case hx => assumption) | exact .inl (Nat.zero_le _) | exact .inr (Nat.zero_le _) | (show _ ∨ _; omega))) (h' : SL w lo' hi' v' ys := by repeat (first | assumption | exact Go.Gw.Own.sl (by assumption) | exact Go.Gw.Box.at (by assumption) | (apply Go.Gw.SL.chg; case hx => assumption) | (apply Go.Gw.Own.chg; case hx => assumption) | (apply Go.Gw.Box.chg; case hx => assumption) | (apply Go.Gw.At.chg; case hx => assumption) | exact .inl (Nat.zero_le _) | exact .inr (Nat.zero_le _) | (show _ ∨ _; omega))) : Ret Try.prog 26 [.agg #[v], .agg #[v']] w fun u w' => ∃ d, u = .tuple #[.agg #[d], .int .i64 (joinC xs ys)] ∧ Own w' 2 w.heap.size d (resJoin xs ys) ∧ Ext w w' := by
  have E : Since 0 0 w w := Since.refl 0 0 w
  by_cases hk : okC xs = true
  · have hl1 := okC_len hk
    by_cases hk' : okC ys = true
    · have hl2 := okC_len hk'
      refine ret_enter Try.func26 rfl Try.ntmps26 rfl ?_
      focus
        have ht_h := h.top
        have ht_h' := h'.top
        refine c_seq ?_
        refine c_region ?_
        refine w_box rfl (k := fun b2 w2 hb2 hx2 hl2 hs2 => ?_)
        have hz_hx2 := hx2.size
        replace h := h.ext hx2
        replace h' := h'.ext hx2
        replace E := E.trans hx2
        refine w_box rfl (k := fun b3 w3 hb3 hx3 hl3 hs3 => ?_)
        have hz_hx3 := hx3.size
        replace hb2 := hb2.ext hx3
        replace h := h.ext hx3
        replace h' := h'.ext hx3
        replace E := E.trans hx3
        refine w_alloc (k := fun b4 w4 hb4 hx4 hl4 hs4 => ?_)
        have hz_hx4 := hx4.size
        replace hb3 := hb3.ext hx4
        replace hb2 := hb2.ext hx4
        replace h := h.ext hx4
        replace h' := h'.ext hx4
        replace E := E.trans hx4
        refine w_pure (y_assign rfl) rfl ?_
        refine w_nil ?_
        refine x_next ?_
        refine c_seq ?_
        refine c_block ?_
        refine c_seq ?_
        refine c_region ?_
        refine w_pure (y_load_boxs rfl) rfl ?_
        refine w_val rfl rfl rfl (iValidCounter_c) rfl (fun w8 hx8 hz8 => ?_)
        have hz_hx8 := hx8.size
        replace hb4 := hb4.ext hx8
        replace hb3 := hb3.ext hx8
        replace hb2 := hb2.ext hx8
        replace h := h.ext hx8
        replace h' := h'.ext hx8
        replace E := E.trans hx8
        refine w_pure (y_not rfl) rfl ?_
        refine w_pure (y_move rfl) rfl ?_
        (refine w_part rfl rfl (fun hc11 => ?_) (fun hc11 => ?_) <;> try (first | exact absurd rfl hc11 | contradiction | exact Bool.noConfusion (show false = true from hc11.symm.trans (by assumption)) | exact Bool.noConfusion (show true = false from hc11.symm.trans (by assumption)) | (exfalso; omega) | (exfalso; simp only [*, Bool.not_true, Bool.not_false, reduceCtorEq] at hc11; done)))
        refine w_yes rfl rfl ?_
        refine w_pure (y_load_boxs rfl) rfl ?_
        refine w_yes rfl rfl ?_
        refine w_val rfl rfl rfl (iValidCounter_c) rfl (fun w12 hx12 hz12 => ?_)
        have hz_hx12 := hx12.size
        replace hb4 := hb4.ext hx12
        replace hb3 := hb3.ext hx12
        replace hb2 := hb2.ext hx12
        replace h := h.ext hx12
        replace h' := h'.ext hx12
        replace E := E.trans hx12
        refine w_yes rfl rfl ?_
        refine w_pure (y_not rfl) rfl ?_
        refine w_pure (y_pick_f rfl rfl) rfl ?_
        refine w_pure (y_assign rfl) rfl ?_
        refine w_nil ?_
        refine x_next ?_
        (refine c_not rfl (fun hc6 => ?_) (fun hc6 => ?_) <;> try (first | exact absurd rfl hc6 | contradiction | exact Bool.noConfusion (show false = true from hc6.symm.trans (by assumption)) | exact Bool.noConfusion (show true = false from hc6.symm.trans (by assumption)) | (exfalso; omega) | (exfalso; simp only [*, Bool.not_true, Bool.not_false, reduceCtorEq] at hc6; done)))
        refine c_seq ?_
        refine c_region ?_
        refine w_pure (y_field rfl) rfl ?_
        refine w_pure (y_load_box rfl) rfl ?_
        refine w_pure (y_len rfl) rfl ?_
        refine w_pure (y_field rfl) rfl ?_
        refine w_pure (y_load_box rfl) rfl ?_
        refine w_pure (y_len rfl) rfl ?_
        refine w_pure (y_add rfl rfl) rfl ?_
        refine w_pure (y_gt rfl rfl) rfl ?_
        refine w_pure (y_assign rfl) rfl ?_
        refine w_nil ?_
        refine x_next ?_
        (refine c_dec rfl (fun hc16 => ?_) (fun hc16 => ?_) <;> try (first | exact absurd rfl hc16 | contradiction | exact Bool.noConfusion (show false = true from hc16.symm.trans (by assumption)) | exact Bool.noConfusion (show true = false from hc16.symm.trans (by assumption)) | (exfalso; omega) | (exfalso; simp only [*, Bool.not_true, Bool.not_false, reduceCtorEq] at hc16; done)))
        refine c_seq ?_
        refine c_region ?_
        refine w_pure (y_build rfl) rfl ?_
        refine w_store_boxs rfl rfl (next := fun ws46 hbs46 hxs46 hss46 => ?_)
        (replace hb4 := hbs46; clear hbs46)
        have hz_hxs46 := hxs46.size
        replace hb3 := hb3.chg hxs46 (by omega)
        replace hb2 := hb2.chg hxs46 (by omega)
        replace h := h.chg hxs46 (by omega)
        replace h' := h'.chg hxs46 (by omega)
        replace E := E.next hxs46 (by omega)
        refine w_pure (y_assign rfl) rfl ?_
        refine w_nil ?_
        refine x_next ?_
        refine c_ret ?_
        refine x_block_ret ?_
        refine x_then_ret ?_
        rotate_left
        refine c_skip ?_
        refine x_block_norm ?_
        refine x_next ?_
        refine c_seq ?_
        refine c_region_held mixed (fun wr5 hxr5 hzr5 => ?_)
        have hz_hxr5 := hxr5.size
        replace hb4 := hb4.ext hxr5
        replace hb3 := hb3.ext hxr5
        replace hb2 := hb2.ext hxr5
        replace h := h.ext hxr5
        replace h' := h'.ext hxr5
        replace E := E.trans hxr5
        refine h_pure rfl (y_field rfl) rfl ?_
        refine h_pure rfl (y_load_box rfl) rfl ?_
        refine h_turn ?_
        refine h_pure rfl (y_field rfl) rfl ?_
        refine h_pure rfl (y_load_box rfl) rfl ?_
        refine h_turn ?_
        refine h_turn ?_
        refine h_turn ?_
        refine h_turn ?_
        refine h_one rfl ?_
        (refine w_call rfl rfl rfl (copyInts_c _) rfl ?_; rintro v28 w28 ⟨hp1_28, hx28⟩)
        have hl_hp1_28 := hp1_28.lt
        have hz_hx28 := hx28.size
        replace hb4 := hb4.ext hx28
        replace hb3 := hb3.ext hx28
        replace hb2 := hb2.ext hx28
        replace h := h.ext hx28
        replace h' := h'.ext hx28
        replace E := E.trans hx28
        refine w_nil ?_
        refine x_held ?_
        refine h_one rfl ?_
        refine w_append rfl rfl (k := fun v31 w31 ho31 hx31 hr31 => ?_)
        have hl_ho31 := ho31.lt
        have hz_hx31 := hx31.size
        replace hb4 := hb4.chg hx31 (by omega)
        replace hb3 := hb3.chg hx31 (by omega)
        replace hb2 := hb2.chg hx31 (by omega)
        replace h := h.chg hx31 (by omega)
        replace h' := h'.chg hx31 (by omega)
        replace E := E.next hx31 (by omega)
        refine w_nil ?_
        refine x_heldk ?_
        refine h_pure rfl (y_build rfl) rfl ?_
        refine h_one rfl ?_
        refine w_store_boxs rfl rfl (next := fun ws78 hbs78 hxs78 hss78 => ?_)
        (replace hb4 := hbs78; clear hbs78)
        have hz_hxs78 := hxs78.size
        replace ho31 := ho31.chg hxs78 (by omega)
        replace hb3 := hb3.chg hxs78 (by omega)
        replace hb2 := hb2.chg hxs78 (by omega)
        replace h := h.chg hxs78 (by omega)
        replace h' := h'.chg hxs78 (by omega)
        replace E := E.next hxs78 (by omega)
        refine w_nil ?_
        refine x_heldk ?_
        refine h_pure rfl (y_assign rfl) rfl ?_
        refine h_nil ?_
        refine x_next ?_
        refine c_ret ?_
        rotate_left
      · have e : joinC xs ys = 5 := by simp [joinC, hk, hk']; omega
        exact x_retv [_, _] rfl ⟨⟨_, rfl, run_load_str (Box.at (by assumption)) (by rfl)⟩, rfl, trivial⟩ ⟨_, by rw [e]; rfl, by rw [resJoin, e]; exact Own.nil _ _ _, E.go⟩
      · have e : joinC xs ys = 0 := by simp [joinC, hk, hk']; omega
        exact x_retv [_, _] rfl ⟨⟨_, rfl, run_load_str (Box.at (by assumption)) (by rfl)⟩, rfl, trivial⟩ ⟨_, by rw [e]; rfl, by rw [resJoin, e]; exact Own.base (by assumption) (by omega), E.go⟩
    · refine ret_enter Try.func26 rfl Try.ntmps26 rfl ?_
      focus
        have ht_h := h.top
        have ht_h' := h'.top
        refine c_seq ?_
        refine c_region ?_
        refine w_box rfl (k := fun b2 w2 hb2 hx2 hl2 hs2 => ?_)
        have hz_hx2 := hx2.size
        replace h := h.ext hx2
        replace h' := h'.ext hx2
        replace E := E.trans hx2
        refine w_box rfl (k := fun b3 w3 hb3 hx3 hl3 hs3 => ?_)
        have hz_hx3 := hx3.size
        replace hb2 := hb2.ext hx3
        replace h := h.ext hx3
        replace h' := h'.ext hx3
        replace E := E.trans hx3
        refine w_alloc (k := fun b4 w4 hb4 hx4 hl4 hs4 => ?_)
        have hz_hx4 := hx4.size
        replace hb3 := hb3.ext hx4
        replace hb2 := hb2.ext hx4
        replace h := h.ext hx4
        replace h' := h'.ext hx4
        replace E := E.trans hx4
        refine w_pure (y_assign rfl) rfl ?_
        refine w_nil ?_
        refine x_next ?_
        refine c_seq ?_
        refine c_block ?_
        refine c_seq ?_
        refine c_region ?_
        refine w_pure (y_load_boxs rfl) rfl ?_
        refine w_val rfl rfl rfl (iValidCounter_c) rfl (fun w8 hx8 hz8 => ?_)
        have hz_hx8 := hx8.size
        replace hb4 := hb4.ext hx8
        replace hb3 := hb3.ext hx8
        replace hb2 := hb2.ext hx8
        replace h := h.ext hx8
        replace h' := h'.ext hx8
        replace E := E.trans hx8
        refine w_pure (y_not rfl) rfl ?_
        refine w_pure (y_move rfl) rfl ?_
        (refine w_part rfl rfl (fun hc11 => ?_) (fun hc11 => ?_) <;> try (first | exact absurd rfl hc11 | contradiction | exact Bool.noConfusion (show false = true from hc11.symm.trans (by assumption)) | exact Bool.noConfusion (show true = false from hc11.symm.trans (by assumption)) | (exfalso; omega) | (exfalso; simp only [*, Bool.not_true, Bool.not_false, reduceCtorEq] at hc11; done)))
        refine w_yes rfl rfl ?_
        refine w_pure (y_load_boxs rfl) rfl ?_
        refine w_yes rfl rfl ?_
        refine w_val rfl rfl rfl (iValidCounter_c) rfl (fun w12 hx12 hz12 => ?_)
        have hz_hx12 := hx12.size
        replace hb4 := hb4.ext hx12
        replace hb3 := hb3.ext hx12
        replace hb2 := hb2.ext hx12
        replace h := h.ext hx12
        replace h' := h'.ext hx12
        replace E := E.trans hx12
        refine w_yes rfl rfl ?_
        refine w_pure (y_not rfl) rfl ?_
        refine w_pure (y_pick_f rfl rfl) rfl ?_
        refine w_pure (y_assign rfl) rfl ?_
        refine w_nil ?_
        refine x_next ?_
        (refine c_not rfl (fun hc6 => ?_) (fun hc6 => ?_) <;> try (first | exact absurd rfl hc6 | contradiction | exact Bool.noConfusion (show false = true from hc6.symm.trans (by assumption)) | exact Bool.noConfusion (show true = false from hc6.symm.trans (by assumption)) | (exfalso; omega) | (exfalso; simp only [*, Bool.not_true, Bool.not_false, reduceCtorEq] at hc6; done)))
        refine c_seq ?_
        refine c_region ?_
        refine w_pure (y_build rfl) rfl ?_
        refine w_store_boxs rfl rfl (next := fun ws32 hbs32 hxs32 hss32 => ?_)
        (replace hb4 := hbs32; clear hbs32)
        have hz_hxs32 := hxs32.size
        replace hb3 := hb3.chg hxs32 (by omega)
        replace hb2 := hb2.chg hxs32 (by omega)
        replace h := h.chg hxs32 (by omega)
        replace h' := h'.chg hxs32 (by omega)
        replace E := E.next hxs32 (by omega)
        refine w_pure (y_assign rfl) rfl ?_
        refine w_nil ?_
        refine x_next ?_
        refine c_ret ?_
        refine x_block_ret ?_
        refine x_then_ret ?_
        rotate_left
      have e : joinC xs ys = 1 := by simp [joinC, hk']
      exact x_retv [_, _] rfl ⟨⟨_, rfl, run_load_str (Box.at (by assumption)) (by rfl)⟩, rfl, trivial⟩ ⟨_, by rw [e]; rfl, by rw [resJoin, e]; exact Own.nil _ _ _, E.go⟩
  · refine ret_enter Try.func26 rfl Try.ntmps26 rfl ?_
    focus
      have ht_h := h.top
      have ht_h' := h'.top
      refine c_seq ?_
      refine c_region ?_
      refine w_box rfl (k := fun b2 w2 hb2 hx2 hl2 hs2 => ?_)
      have hz_hx2 := hx2.size
      replace h := h.ext hx2
      replace h' := h'.ext hx2
      replace E := E.trans hx2
      refine w_box rfl (k := fun b3 w3 hb3 hx3 hl3 hs3 => ?_)
      have hz_hx3 := hx3.size
      replace hb2 := hb2.ext hx3
      replace h := h.ext hx3
      replace h' := h'.ext hx3
      replace E := E.trans hx3
      refine w_alloc (k := fun b4 w4 hb4 hx4 hl4 hs4 => ?_)
      have hz_hx4 := hx4.size
      replace hb3 := hb3.ext hx4
      replace hb2 := hb2.ext hx4
      replace h := h.ext hx4
      replace h' := h'.ext hx4
      replace E := E.trans hx4
      refine w_pure (y_assign rfl) rfl ?_
      refine w_nil ?_
      refine x_next ?_
      refine c_seq ?_
      refine c_block ?_
      refine c_seq ?_
      refine c_region ?_
      refine w_pure (y_load_boxs rfl) rfl ?_
      refine w_val rfl rfl rfl (iValidCounter_c) rfl (fun w8 hx8 hz8 => ?_)
      have hz_hx8 := hx8.size
      replace hb4 := hb4.ext hx8
      replace hb3 := hb3.ext hx8
      replace hb2 := hb2.ext hx8
      replace h := h.ext hx8
      replace h' := h'.ext hx8
      replace E := E.trans hx8
      refine w_pure (y_not rfl) rfl ?_
      refine w_pure (y_move rfl) rfl ?_
      (refine w_part rfl rfl (fun hc11 => ?_) (fun hc11 => ?_) <;> try (first | exact absurd rfl hc11 | contradiction | exact Bool.noConfusion (show false = true from hc11.symm.trans (by assumption)) | exact Bool.noConfusion (show true = false from hc11.symm.trans (by assumption)) | (exfalso; omega) | (exfalso; simp only [*, Bool.not_true, Bool.not_false, reduceCtorEq] at hc11; done)))
      refine w_no rfl rfl rfl rfl ?_
      refine w_no rfl rfl rfl rfl ?_
      refine w_no rfl rfl rfl rfl ?_
      refine w_pure (y_pick_t rfl rfl) rfl ?_
      refine w_pure (y_assign rfl) rfl ?_
      refine w_nil ?_
      refine x_next ?_
      refine c_true rfl ?_
      refine c_seq ?_
      refine c_region ?_
      refine w_pure (y_build rfl) rfl ?_
      refine w_store_boxs rfl rfl (next := fun ws29 hbs29 hxs29 hss29 => ?_)
      (replace hb4 := hbs29; clear hbs29)
      have hz_hxs29 := hxs29.size
      replace hb3 := hb3.chg hxs29 (by omega)
      replace hb2 := hb2.chg hxs29 (by omega)
      replace h := h.chg hxs29 (by omega)
      replace h' := h'.chg hxs29 (by omega)
      replace E := E.next hxs29 (by omega)
      refine w_pure (y_assign rfl) rfl ?_
      refine w_nil ?_
      refine x_next ?_
      refine c_ret ?_
      refine x_block_ret ?_
      refine x_then_ret ?_
      rotate_left
    have e : joinC xs ys = 1 := by simp [joinC, hk]
    exact x_retv [_, _] rfl ⟨⟨_, rfl, run_load_str (Box.at (by assumption)) (by rfl)⟩, rfl, trivial⟩ ⟨_, by rw [e]; rfl, by rw [resJoin, e]; exact Own.nil _ _ _, E.go⟩
theorem sJoinCounters_c (h : SL w lo hi v xs := by repeat (first | assumption | exact Go.Gw.Own.sl (by assumption) | exact Go.Gw.Box.at (by assumption) | (apply Go.Gw.SL.chg; case hx => assumption) | (apply Go.Gw.Own.chg; case hx => assumption) | (apply Go.Gw.Box.chg; case hx => assumption) | (apply Go.Gw.At.chg; case hx => assumption) | exact .inl (Nat.zero_le _) | exact .inr (Nat.zero_le _) | (show _ ∨ _; omega))) (h' : SL w lo' hi' v' ys := by repeat (first | assumption | exact Go.Gw.Own.sl (by assumption) | exact Go.Gw.Box.at (by assumption) | (apply Go.Gw.SL.chg; case hx => assumption) | (apply Go.Gw.Own.chg; case hx => assumption) | (apply Go.Gw.Box.chg; case hx => assumption) | (apply Go.Gw.At.chg; case hx => assumption) | exact .inl (Nat.zero_le _) | exact .inr (Nat.zero_le _) | (show _ ∨ _; omega))) : Ret Try.prog 25 [.agg #[v], .agg #[v']] w fun u w' => ∃ d, u = .tuple #[.agg #[d], .int .i64 (joinC xs ys)] ∧ Own w' 2 w.heap.size d (resJoin xs ys) ∧ Ext w w' := by
  have E : Since 0 0 w w := Since.refl 0 0 w
  by_cases hk : okC xs = true
  · have hl1 := okC_len hk
    by_cases hk' : okC ys = true
    · have hl2 := okC_len hk'
      refine ret_enter Try.func25 rfl Try.ntmps25 rfl ?_
      focus
        have ht_h := h.top
        have ht_h' := h'.top
        refine c_seq ?_
        refine c_region ?_
        refine w_box rfl (k := fun b2 w2 hb2 hx2 hl2 hs2 => ?_)
        have hz_hx2 := hx2.size
        replace h := h.ext hx2
        replace h' := h'.ext hx2
        replace E := E.trans hx2
        refine w_box rfl (k := fun b3 w3 hb3 hx3 hl3 hs3 => ?_)
        have hz_hx3 := hx3.size
        replace hb2 := hb2.ext hx3
        replace h := h.ext hx3
        replace h' := h'.ext hx3
        replace E := E.trans hx3
        refine w_alloc (k := fun b4 w4 hb4 hx4 hl4 hs4 => ?_)
        have hz_hx4 := hx4.size
        replace hb3 := hb3.ext hx4
        replace hb2 := hb2.ext hx4
        replace h := h.ext hx4
        replace h' := h'.ext hx4
        replace E := E.trans hx4
        refine w_pure (y_assign rfl) rfl ?_
        refine w_nil ?_
        refine x_next ?_
        refine c_seq ?_
        refine c_seq ?_
        refine c_region ?_
        refine w_val rfl rfl rfl (l11Ok_z) rfl (fun w6 hx6 hz6 => ?_)
        have hz_hx6 := hx6.size
        replace hb4 := hb4.ext hx6
        replace hb3 := hb3.ext hx6
        replace hb2 := hb2.ext hx6
        replace h := h.ext hx6
        replace h' := h'.ext hx6
        replace E := E.trans hx6
        refine w_pure (y_not rfl) rfl ?_
        refine w_pure (y_move rfl) rfl ?_
        (refine w_part rfl rfl (fun hc9 => ?_) (fun hc9 => ?_) <;> try (first | exact absurd rfl hc9 | contradiction | exact Bool.noConfusion (show false = true from hc9.symm.trans (by assumption)) | exact Bool.noConfusion (show true = false from hc9.symm.trans (by assumption)) | (exfalso; omega) | (exfalso; simp only [*, Bool.not_true, Bool.not_false, reduceCtorEq] at hc9; done)))
        refine w_yes rfl rfl ?_
        refine w_val rfl rfl rfl (l11Ok_z) rfl (fun w9x1_17 hx9x1_17 hz9x1_17 => ?_)
        have hz_hx9x1_17 := hx9x1_17.size
        replace hb4 := hb4.ext hx9x1_17
        replace hb3 := hb3.ext hx9x1_17
        replace hb2 := hb2.ext hx9x1_17
        replace h := h.ext hx9x1_17
        replace h' := h'.ext hx9x1_17
        replace E := E.trans hx9x1_17
        refine w_yes rfl rfl ?_
        refine w_pure (y_not rfl) rfl ?_
        refine w_pure (y_pick_f rfl rfl) rfl ?_
        refine w_nil ?_
        refine x_next ?_
        (refine c_not rfl (fun hc11 => ?_) (fun hc11 => ?_) <;> try (first | exact absurd rfl hc11 | contradiction | exact Bool.noConfusion (show false = true from hc11.symm.trans (by assumption)) | exact Bool.noConfusion (show true = false from hc11.symm.trans (by assumption)) | (exfalso; omega) | (exfalso; simp only [*, Bool.not_true, Bool.not_false, reduceCtorEq] at hc11; done)))
        refine c_skip ?_
        refine x_next ?_
        refine c_seq ?_
        refine c_seq ?_
        refine c_region ?_
        refine w_pure (y_field rfl) rfl ?_
        refine w_pure (y_load_box rfl) rfl ?_
        refine w_pure (y_len rfl) rfl ?_
        refine w_pure (y_field rfl) rfl ?_
        refine w_pure (y_load_box rfl) rfl ?_
        refine w_pure (y_len rfl) rfl ?_
        refine w_pure (y_add rfl rfl) rfl ?_
        refine w_pure (y_gt rfl rfl) rfl ?_
        refine w_nil ?_
        refine x_next ?_
        (refine c_dec rfl (fun hc20 => ?_) (fun hc20 => ?_) <;> try (first | exact absurd rfl hc20 | contradiction | exact Bool.noConfusion (show false = true from hc20.symm.trans (by assumption)) | exact Bool.noConfusion (show true = false from hc20.symm.trans (by assumption)) | (exfalso; omega) | (exfalso; simp only [*, Bool.not_true, Bool.not_false, reduceCtorEq] at hc20; done)))
        refine c_seq ?_
        refine c_region ?_
        refine w_pure (y_build rfl) rfl ?_
        refine w_store_boxs rfl rfl (next := fun ws43 hbs43 hxs43 hss43 => ?_)
        (replace hb4 := hbs43; clear hbs43)
        have hz_hxs43 := hxs43.size
        replace hb3 := hb3.chg hxs43 (by omega)
        replace hb2 := hb2.chg hxs43 (by omega)
        replace h := h.chg hxs43 (by omega)
        replace h' := h'.chg hxs43 (by omega)
        replace E := E.next hxs43 (by omega)
        refine w_pure (y_assign rfl) rfl ?_
        refine w_nil ?_
        refine x_next ?_
        refine c_ret ?_
        refine x_then_ret ?_
        rotate_left
        refine c_skip ?_
        refine x_next ?_
        refine c_seq ?_
        refine c_region_held mixed (fun wr5 hxr5 hzr5 => ?_)
        have hz_hxr5 := hxr5.size
        replace hb4 := hb4.ext hxr5
        replace hb3 := hb3.ext hxr5
        replace hb2 := hb2.ext hxr5
        replace h := h.ext hxr5
        replace h' := h'.ext hxr5
        replace E := E.trans hxr5
        refine h_pure rfl (y_field rfl) rfl ?_
        refine h_pure rfl (y_load_box rfl) rfl ?_
        refine h_turn ?_
        refine h_pure rfl (y_field rfl) rfl ?_
        refine h_pure rfl (y_load_box rfl) rfl ?_
        refine h_turn ?_
        refine h_turn ?_
        refine h_turn ?_
        refine h_turn ?_
        refine h_one rfl ?_
        (refine w_call rfl rfl rfl (l00Own_c _) rfl ?_; rintro v24 w24 ⟨hp1_24, hx24⟩)
        have hl_hp1_24 := hp1_24.lt
        have hz_hx24 := hx24.size
        replace hb4 := hb4.ext hx24
        replace hb3 := hb3.ext hx24
        replace hb2 := hb2.ext hx24
        replace h := h.ext hx24
        replace h' := h'.ext hx24
        replace E := E.trans hx24
        refine w_nil ?_
        refine x_held ?_
        refine h_one rfl ?_
        refine w_append rfl rfl (k := fun v27 w27 ho27 hx27 hr27 => ?_)
        have hl_ho27 := ho27.lt
        have hz_hx27 := hx27.size
        replace hb4 := hb4.chg hx27 (by omega)
        replace hb3 := hb3.chg hx27 (by omega)
        replace hb2 := hb2.chg hx27 (by omega)
        replace h := h.chg hx27 (by omega)
        replace h' := h'.chg hx27 (by omega)
        replace E := E.next hx27 (by omega)
        refine w_nil ?_
        refine x_heldk ?_
        refine h_pure rfl (y_build rfl) rfl ?_
        refine h_one rfl ?_
        refine w_store_boxs rfl rfl (next := fun ws73 hbs73 hxs73 hss73 => ?_)
        (replace hb4 := hbs73; clear hbs73)
        have hz_hxs73 := hxs73.size
        replace ho27 := ho27.chg hxs73 (by omega)
        replace hb3 := hb3.chg hxs73 (by omega)
        replace hb2 := hb2.chg hxs73 (by omega)
        replace h := h.chg hxs73 (by omega)
        replace h' := h'.chg hxs73 (by omega)
        replace E := E.next hxs73 (by omega)
        refine w_nil ?_
        refine x_heldk ?_
        refine h_pure rfl (y_assign rfl) rfl ?_
        refine h_nil ?_
        refine x_next ?_
        refine c_ret ?_
        rotate_left
      · have e : joinC xs ys = 5 := by simp [joinC, hk, hk']; omega
        exact x_retv [_, _] rfl ⟨⟨_, rfl, run_load_str (Box.at (by assumption)) (by rfl)⟩, rfl, trivial⟩ ⟨_, by rw [e]; rfl, by rw [resJoin, e]; exact Own.nil _ _ _, E.go⟩
      · have e : joinC xs ys = 0 := by simp [joinC, hk, hk']; omega
        exact x_retv [_, _] rfl ⟨⟨_, rfl, run_load_str (Box.at (by assumption)) (by rfl)⟩, rfl, trivial⟩ ⟨_, by rw [e]; rfl, by rw [resJoin, e]; exact Own.base (by assumption) (by omega), E.go⟩
    · refine ret_enter Try.func25 rfl Try.ntmps25 rfl ?_
      focus
        have ht_h := h.top
        have ht_h' := h'.top
        refine c_seq ?_
        refine c_region ?_
        refine w_box rfl (k := fun b2 w2 hb2 hx2 hl2 hs2 => ?_)
        have hz_hx2 := hx2.size
        replace h := h.ext hx2
        replace h' := h'.ext hx2
        replace E := E.trans hx2
        refine w_box rfl (k := fun b3 w3 hb3 hx3 hl3 hs3 => ?_)
        have hz_hx3 := hx3.size
        replace hb2 := hb2.ext hx3
        replace h := h.ext hx3
        replace h' := h'.ext hx3
        replace E := E.trans hx3
        refine w_alloc (k := fun b4 w4 hb4 hx4 hl4 hs4 => ?_)
        have hz_hx4 := hx4.size
        replace hb3 := hb3.ext hx4
        replace hb2 := hb2.ext hx4
        replace h := h.ext hx4
        replace h' := h'.ext hx4
        replace E := E.trans hx4
        refine w_pure (y_assign rfl) rfl ?_
        refine w_nil ?_
        refine x_next ?_
        refine c_seq ?_
        refine c_seq ?_
        refine c_region ?_
        refine w_val rfl rfl rfl (l11Ok_z) rfl (fun w6 hx6 hz6 => ?_)
        have hz_hx6 := hx6.size
        replace hb4 := hb4.ext hx6
        replace hb3 := hb3.ext hx6
        replace hb2 := hb2.ext hx6
        replace h := h.ext hx6
        replace h' := h'.ext hx6
        replace E := E.trans hx6
        refine w_pure (y_not rfl) rfl ?_
        refine w_pure (y_move rfl) rfl ?_
        (refine w_part rfl rfl (fun hc9 => ?_) (fun hc9 => ?_) <;> try (first | exact absurd rfl hc9 | contradiction | exact Bool.noConfusion (show false = true from hc9.symm.trans (by assumption)) | exact Bool.noConfusion (show true = false from hc9.symm.trans (by assumption)) | (exfalso; omega) | (exfalso; simp only [*, Bool.not_true, Bool.not_false, reduceCtorEq] at hc9; done)))
        refine w_yes rfl rfl ?_
        refine w_val rfl rfl rfl (l11Ok_z) rfl (fun w9x2_17 hx9x2_17 hz9x2_17 => ?_)
        have hz_hx9x2_17 := hx9x2_17.size
        replace hb4 := hb4.ext hx9x2_17
        replace hb3 := hb3.ext hx9x2_17
        replace hb2 := hb2.ext hx9x2_17
        replace h := h.ext hx9x2_17
        replace h' := h'.ext hx9x2_17
        replace E := E.trans hx9x2_17
        refine w_yes rfl rfl ?_
        refine w_pure (y_not rfl) rfl ?_
        refine w_pure (y_pick_f rfl rfl) rfl ?_
        refine w_nil ?_
        refine x_next ?_
        (refine c_not rfl (fun hc11 => ?_) (fun hc11 => ?_) <;> try (first | exact absurd rfl hc11 | contradiction | exact Bool.noConfusion (show false = true from hc11.symm.trans (by assumption)) | exact Bool.noConfusion (show true = false from hc11.symm.trans (by assumption)) | (exfalso; omega) | (exfalso; simp only [*, Bool.not_true, Bool.not_false, reduceCtorEq] at hc11; done)))
        refine c_seq ?_
        refine c_region ?_
        refine w_pure (y_build rfl) rfl ?_
        refine w_store_boxs rfl rfl (next := fun ws27 hbs27 hxs27 hss27 => ?_)
        (replace hb4 := hbs27; clear hbs27)
        have hz_hxs27 := hxs27.size
        replace hb3 := hb3.chg hxs27 (by omega)
        replace hb2 := hb2.chg hxs27 (by omega)
        replace h := h.chg hxs27 (by omega)
        replace h' := h'.chg hxs27 (by omega)
        replace E := E.next hxs27 (by omega)
        refine w_pure (y_assign rfl) rfl ?_
        refine w_nil ?_
        refine x_next ?_
        refine c_ret ?_
        refine x_then_ret ?_
        rotate_left
      have e : joinC xs ys = 1 := by simp [joinC, hk']
      exact x_retv [_, _] rfl ⟨⟨_, rfl, run_load_str (Box.at (by assumption)) (by rfl)⟩, rfl, trivial⟩ ⟨_, by rw [e]; rfl, by rw [resJoin, e]; exact Own.nil _ _ _, E.go⟩
  · refine ret_enter Try.func25 rfl Try.ntmps25 rfl ?_
    focus
      have ht_h := h.top
      have ht_h' := h'.top
      refine c_seq ?_
      refine c_region ?_
      refine w_box rfl (k := fun b2 w2 hb2 hx2 hl2 hs2 => ?_)
      have hz_hx2 := hx2.size
      replace h := h.ext hx2
      replace h' := h'.ext hx2
      replace E := E.trans hx2
      refine w_box rfl (k := fun b3 w3 hb3 hx3 hl3 hs3 => ?_)
      have hz_hx3 := hx3.size
      replace hb2 := hb2.ext hx3
      replace h := h.ext hx3
      replace h' := h'.ext hx3
      replace E := E.trans hx3
      refine w_alloc (k := fun b4 w4 hb4 hx4 hl4 hs4 => ?_)
      have hz_hx4 := hx4.size
      replace hb3 := hb3.ext hx4
      replace hb2 := hb2.ext hx4
      replace h := h.ext hx4
      replace h' := h'.ext hx4
      replace E := E.trans hx4
      refine w_pure (y_assign rfl) rfl ?_
      refine w_nil ?_
      refine x_next ?_
      refine c_seq ?_
      refine c_seq ?_
      refine c_region ?_
      refine w_val rfl rfl rfl (l11Ok_z) rfl (fun w6 hx6 hz6 => ?_)
      have hz_hx6 := hx6.size
      replace hb4 := hb4.ext hx6
      replace hb3 := hb3.ext hx6
      replace hb2 := hb2.ext hx6
      replace h := h.ext hx6
      replace h' := h'.ext hx6
      replace E := E.trans hx6
      refine w_pure (y_not rfl) rfl ?_
      refine w_pure (y_move rfl) rfl ?_
      (refine w_part rfl rfl (fun hc9 => ?_) (fun hc9 => ?_) <;> try (first | exact absurd rfl hc9 | contradiction | exact Bool.noConfusion (show false = true from hc9.symm.trans (by assumption)) | exact Bool.noConfusion (show true = false from hc9.symm.trans (by assumption)) | (exfalso; omega) | (exfalso; simp only [*, Bool.not_true, Bool.not_false, reduceCtorEq] at hc9; done)))
      refine w_no rfl rfl rfl rfl ?_
      refine w_no rfl rfl rfl rfl ?_
      refine w_pure (y_pick_t rfl rfl) rfl ?_
      refine w_nil ?_
      refine x_next ?_
      refine c_true rfl ?_
      refine c_seq ?_
      refine c_region ?_
      refine w_pure (y_build rfl) rfl ?_
      refine w_store_boxs rfl rfl (next := fun ws25 hbs25 hxs25 hss25 => ?_)
      (replace hb4 := hbs25; clear hbs25)
      have hz_hxs25 := hxs25.size
      replace hb3 := hb3.chg hxs25 (by omega)
      replace hb2 := hb2.chg hxs25 (by omega)
      replace h := h.chg hxs25 (by omega)
      replace h' := h'.chg hxs25 (by omega)
      replace E := E.next hxs25 (by omega)
      refine w_pure (y_assign rfl) rfl ?_
      refine w_nil ?_
      refine x_next ?_
      refine c_ret ?_
      refine x_then_ret ?_
      rotate_left
    have e : joinC xs ys = 1 := by simp [joinC, hk]
    exact x_retv [_, _] rfl ⟨⟨_, rfl, run_load_str (Box.at (by assumption)) (by rfl)⟩, rfl, trivial⟩ ⟨_, by rw [e]; rfl, by rw [resJoin, e]; exact Own.nil _ _ _, E.go⟩
theorem lJoinCounters (w0 : World) (x0 : { x : OSl // x.ok w0 }) (x1 : { x : OSl // x.ok w0 }) : Ret Try.prog 6 [.agg #[x0.1.v], .agg #[x1.1.v]] w0 fun u w' => u = .bool true ∧ Ext w0 w' := by
  obtain ⟨⟨v0, xs0⟩, hok0⟩ := x0
  have s0 : SL w0 0 w0.heap.size v0 xs0 := hok0.sl
  have r0 := hok0.in64
  obtain ⟨⟨v1, xs1⟩, hok1⟩ := x1
  have s1 : SL w0 0 w0.heap.size v1 xs1 := hok1.sl
  have r1 := hok1.in64
  show Ret _ _ [.agg #[v0], .agg #[v1]] w0 _
  clear hok0 hok1
  have E : Since 0 0 w0 w0 := Since.refl 0 0 w0
  have hb := resJoin_len xs0 xs1
  refine ret_enter Try.func6 rfl Try.ntmps6 rfl ?_
  focus
    refine c_seq ?_
    refine c_region ?_
    refine w_box rfl (k := fun b2 w2 hb2 hx2 hl2 hs2 => ?_)
    have hz_hx2 := hx2.size
    replace s0 := s0.ext hx2
    replace s1 := s1.ext hx2
    replace E := E.trans hx2
    refine w_box rfl (k := fun b3 w3 hb3 hx3 hl3 hs3 => ?_)
    have hz_hx3 := hx3.size
    replace hb2 := hb2.ext hx3
    replace s0 := s0.ext hx3
    replace s1 := s1.ext hx3
    replace E := E.trans hx3
    refine w_pure (y_assign rfl) rfl ?_
    refine w_nil ?_
    refine x_next ?_
    refine c_seq ?_
    refine c_region ?_
    refine w_pure (y_assign rfl) rfl ?_
    refine w_nil ?_
    refine x_next ?_
    refine c_seq ?_
    refine c_region ?_
    refine w_pure (y_load_boxs rfl) rfl ?_
    refine w_pure (y_move rfl) rfl ?_
    (refine w_call rfl rfl rfl (szCounter_z) rfl ?_; rintro _ w19 ⟨z19, ⟨rfl, ⟨hp1_19, hx19⟩⟩⟩)
    have hz_hx19 := hx19.size
    replace hb3 := hb3.ext hx19
    replace hb2 := hb2.ext hx19
    replace s0 := s0.ext hx19
    replace s1 := s1.ext hx19
    replace E := E.trans hx19
    refine w_pure (y_assign rfl) rfl ?_
    refine w_nil ?_
    refine x_next ?_
    refine c_seq ?_
    refine c_seq ?_
    refine c_region ?_
    refine w_pure (y_move rfl) rfl ?_
    refine w_pure (y_lt rfl rfl) rfl ?_
    refine w_nil ?_
    refine x_next ?_
    (refine c_dec rfl (fun hc21 => ?_) (fun hc21 => ?_) <;> try (first | exact absurd rfl hc21 | contradiction | exact Bool.noConfusion (show false = true from hc21.symm.trans (by assumption)) | exact Bool.noConfusion (show true = false from hc21.symm.trans (by assumption)) | (exfalso; omega) | (exfalso; simp only [*, Bool.not_true, Bool.not_false, reduceCtorEq] at hc21; done)))
    refine c_seq ?_
    refine c_region ?_
    refine w_pure (y_assign rfl) rfl ?_
    refine w_nil ?_
    refine x_next ?_
    refine c_ret ?_
    refine x_then_ret ?_
    exact x_retv [_] rfl ⟨rfl, trivial⟩ ⟨rfl, E.go⟩
    refine c_skip ?_
    refine x_next ?_
    refine c_seq ?_
    refine c_region ?_
    refine w_pure (y_load_boxs rfl) rfl ?_
    refine w_pure (y_move rfl) rfl ?_
    (refine w_call rfl rfl rfl (szCounter_z) rfl ?_; rintro _ w24 ⟨z24, ⟨rfl, ⟨hp1_24, hx24⟩⟩⟩)
    have hz_hx24 := hx24.size
    replace hb3 := hb3.ext hx24
    replace hb2 := hb2.ext hx24
    replace s0 := s0.ext hx24
    replace s1 := s1.ext hx24
    replace E := E.trans hx24
    refine w_pure (y_assign rfl) rfl ?_
    refine w_nil ?_
    refine x_next ?_
    refine c_seq ?_
    refine c_seq ?_
    refine c_region ?_
    refine w_pure (y_move rfl) rfl ?_
    refine w_pure (y_lt rfl rfl) rfl ?_
    refine w_nil ?_
    refine x_next ?_
    (refine c_dec rfl (fun hc26 => ?_) (fun hc26 => ?_) <;> try (first | exact absurd rfl hc26 | contradiction | exact Bool.noConfusion (show false = true from hc26.symm.trans (by assumption)) | exact Bool.noConfusion (show true = false from hc26.symm.trans (by assumption)) | (exfalso; omega) | (exfalso; simp only [*, Bool.not_true, Bool.not_false, reduceCtorEq] at hc26; done)))
    refine c_seq ?_
    refine c_region ?_
    refine w_pure (y_assign rfl) rfl ?_
    refine w_nil ?_
    refine x_next ?_
    refine c_ret ?_
    refine x_then_ret ?_
    exact x_retv [_] rfl ⟨rfl, trivial⟩ ⟨rfl, E.go⟩
    refine c_skip ?_
    refine x_next ?_
    refine c_seq ?_
    refine c_region_held mixed (fun wr8 hxr8 hzr8 => ?_)
    have hz_hxr8 := hxr8.size
    replace hb3 := hb3.ext hxr8
    replace hb2 := hb2.ext hxr8
    replace s0 := s0.ext hxr8
    replace s1 := s1.ext hxr8
    replace E := E.trans hxr8
    refine h_pure rfl (y_load_boxs rfl) rfl ?_
    refine h_maybe1 (p0 := ⟨8, 6, _⟩) (PA.mk_ok rfl rfl rfl) ?_
    refine m1_turn ?_
    refine m1_pure rfl (y_load_boxs rfl) rfl ?_
    refine m1_turn ?_
    refine m1_turn ?_
    refine m1_turn ?_
    refine m1_turn ?_
    refine m1_turn ?_
    refine m1_turn ?_
    refine m1_turn ?_
    refine m1_call (PA.mk_ok rfl rfl rfl) rfl rfl rfl rfl rfl (fun w29m hx29m => ?_)
    have hz_hx29m := hx29m.size
    replace hb3 := hb3.ext hx29m
    replace hb2 := hb2.ext hx29m
    replace s0 := s0.ext hx29m
    replace s1 := s1.ext hx29m
    replace E := E.trans hx29m
    (refine mc_ret (toCounter_c _) ?_; rintro _ w29 ⟨d29, ⟨rfl, ⟨hp1_29, hx29⟩⟩⟩; refine ⟨hx29, ?_⟩)
    have hz_hx29 := hx29.size
    replace hb3 := hb3.ext hx29
    replace hb2 := hb2.ext hx29
    replace s0 := s0.ext hx29
    replace s1 := s1.ext hx29
    replace E := E.trans hx29
    replace hp1_29 := hp1_29.fresh
    refine m1_call (PA.mk_ok rfl rfl rfl) rfl rfl rfl rfl rfl (fun w31m hx31m => ?_)
    have hz_hx31m := hx31m.size
    replace hb3 := hb3.ext hx31m
    replace hb2 := hb2.ext hx31m
    replace s0 := s0.ext hx31m
    replace s1 := s1.ext hx31m
    replace E := E.trans hx31m
    replace hp1_29 := hp1_29.ext hx31m
    (refine mc_ret (toCounter_c _) ?_; rintro _ w31 ⟨d31, ⟨rfl, ⟨hp1_31, hx31⟩⟩⟩; refine ⟨hx31, ?_⟩)
    have hz_hx31 := hx31.size
    replace hb3 := hb3.ext hx31
    replace hb2 := hb2.ext hx31
    replace s0 := s0.ext hx31
    replace s1 := s1.ext hx31
    replace E := E.trans hx31
    replace hp1_29 := hp1_29.ext hx31
    replace hp1_31 := hp1_31.fresh
    refine m1_call (PA.mk_ok rfl rfl rfl) rfl rfl rfl rfl rfl (fun w32m hx32m => ?_)
    have hz_hx32m := hx32m.size
    replace hb3 := hb3.ext hx32m
    replace hb2 := hb2.ext hx32m
    replace s0 := s0.ext hx32m
    replace s1 := s1.ext hx32m
    replace E := E.trans hx32m
    replace hp1_29 := hp1_29.ext hx32m
    replace hp1_31 := hp1_31.ext hx32m
    (refine mc_ret (sJoinCounters_c) ?_; rintro _ w32 ⟨d32, ⟨rfl, ⟨hp1_32, hx32⟩⟩⟩; refine ⟨hx32, ?_⟩)
    have hz_hx32 := hx32.size
    replace hb3 := hb3.ext hx32
    replace hb2 := hb2.ext hx32
    replace s0 := s0.ext hx32
    replace s1 := s1.ext hx32
    replace E := E.trans hx32
    replace hp1_29 := hp1_29.ext hx32
    replace hp1_31 := hp1_31.ext hx32
    replace hp1_32 := hp1_32.fresh
    refine m1_pure rfl (y_move rfl) rfl ?_
    refine m1_pure rfl (y_extract rfl rfl) rfl ?_
    refine m1_any rfl (fun _ => y_extract rfl rfl) rfl ?_
    (refine m1_end (PA.mk_ok rfl rfl rfl) ?_; intro w6e hx6e hz6e b6 hb6 hlb6 hg6; simp only [Gaps, and_true] at hg6; have hu6 := hb6.lt)
    have hz_hx6e := hx6e.size
    replace hb3 := hb3.ext hx6e
    replace hb2 := hb2.ext hx6e
    replace s0 := s0.ext hx6e
    replace s1 := s1.ext hx6e
    replace E := E.trans hx6e
    replace hp1_29 := hp1_29.ext hx6e
    replace hp1_31 := hp1_31.ext hx6e
    replace hp1_32 := hp1_32.ext hx6e
    refine h_one rfl ?_
    refine w_store_boxs rfl rfl (next := fun ws89 hbs89 hxs89 hss89 => ?_)
    (replace hb6 := hbs89; clear hbs89)
    have hz_hxs89 := hxs89.size
    replace hb3 := hb3.chg hxs89 (by omega)
    replace hb2 := hb2.chg hxs89 (by omega)
    replace s0 := s0.chg hxs89 (by omega)
    replace s1 := s1.chg hxs89 (by omega)
    replace E := E.next hxs89 (by omega)
    replace hp1_29 := hp1_29.chg hxs89 (by omega)
    replace hp1_31 := hp1_31.chg hxs89 (by omega)
    replace hp1_32 := hp1_32.chg hxs89 (by omega)
    refine w_nil ?_
    refine x_heldk ?_
    refine h_pure rfl (y_assign rfl) rfl ?_
    refine h_nil ?_
    refine x_next ?_
    refine c_seq ?_
    refine c_region ?_
    refine w_pure (y_load_boxs rfl) rfl ?_
    (refine w_call rfl rfl rfl (toCounter_c _) rfl ?_; rintro _ w36 ⟨d36, ⟨rfl, ⟨hp1_36, hx36⟩⟩⟩)
    have hz_hx36 := hx36.size
    replace hb6 := hb6.ext hx36
    replace hb3 := hb3.ext hx36
    replace hb2 := hb2.ext hx36
    replace s0 := s0.ext hx36
    replace s1 := s1.ext hx36
    replace E := E.trans hx36
    replace hp1_29 := hp1_29.ext hx36
    replace hp1_31 := hp1_31.ext hx36
    replace hp1_32 := hp1_32.ext hx36
    replace hp1_36 := hp1_36.fresh
    refine w_alloc (k := fun b8 w8 hb8 hx8 hl8 hs8 => ?_)
    have hz_hx8 := hx8.size
    replace hb6 := hb6.ext hx8
    replace hb3 := hb3.ext hx8
    replace hb2 := hb2.ext hx8
    replace s0 := s0.ext hx8
    replace s1 := s1.ext hx8
    replace E := E.trans hx8
    replace hp1_29 := hp1_29.ext hx8
    replace hp1_31 := hp1_31.ext hx8
    replace hp1_32 := hp1_32.ext hx8
    replace hp1_36 := hp1_36.ext hx8
    refine w_store_boxs rfl rfl (next := fun ws100 hbs100 hxs100 hss100 => ?_)
    (replace hb8 := hbs100; clear hbs100)
    have hz_hxs100 := hxs100.size
    replace hb6 := hb6.chg hxs100 (by omega)
    replace hb3 := hb3.chg hxs100 (by omega)
    replace hb2 := hb2.chg hxs100 (by omega)
    replace s0 := s0.chg hxs100 (by omega)
    replace s1 := s1.chg hxs100 (by omega)
    replace E := E.next hxs100 (by omega)
    replace hp1_29 := hp1_29.chg hxs100 (by omega)
    replace hp1_31 := hp1_31.chg hxs100 (by omega)
    replace hp1_32 := hp1_32.chg hxs100 (by omega)
    replace hp1_36 := hp1_36.chg hxs100 (by omega)
    refine w_nil ?_
    refine x_next ?_
    refine c_seq ?_
    refine c_region ?_
    refine w_pure (y_load_boxs rfl) rfl ?_
    (refine w_call rfl rfl rfl (toCounter_c _) rfl ?_; rintro _ w38 ⟨d38, ⟨rfl, ⟨hp1_38, hx38⟩⟩⟩)
    have hz_hx38 := hx38.size
    replace hb8 := hb8.ext hx38
    replace hb6 := hb6.ext hx38
    replace hb3 := hb3.ext hx38
    replace hb2 := hb2.ext hx38
    replace s0 := s0.ext hx38
    replace s1 := s1.ext hx38
    replace E := E.trans hx38
    replace hp1_29 := hp1_29.ext hx38
    replace hp1_31 := hp1_31.ext hx38
    replace hp1_32 := hp1_32.ext hx38
    replace hp1_36 := hp1_36.ext hx38
    replace hp1_38 := hp1_38.fresh
    refine w_alloc (k := fun b9 w9 hb9 hx9 hl9 hs9 => ?_)
    have hz_hx9 := hx9.size
    replace hb8 := hb8.ext hx9
    replace hb6 := hb6.ext hx9
    replace hb3 := hb3.ext hx9
    replace hb2 := hb2.ext hx9
    replace s0 := s0.ext hx9
    replace s1 := s1.ext hx9
    replace E := E.trans hx9
    replace hp1_29 := hp1_29.ext hx9
    replace hp1_31 := hp1_31.ext hx9
    replace hp1_32 := hp1_32.ext hx9
    replace hp1_36 := hp1_36.ext hx9
    replace hp1_38 := hp1_38.ext hx9
    refine w_store_boxs rfl rfl (next := fun ws108 hbs108 hxs108 hss108 => ?_)
    (replace hb9 := hbs108; clear hbs108)
    have hz_hxs108 := hxs108.size
    replace hb8 := hb8.chg hxs108 (by omega)
    replace hb6 := hb6.chg hxs108 (by omega)
    replace hb3 := hb3.chg hxs108 (by omega)
    replace hb2 := hb2.chg hxs108 (by omega)
    replace s0 := s0.chg hxs108 (by omega)
    replace s1 := s1.chg hxs108 (by omega)
    replace E := E.next hxs108 (by omega)
    replace hp1_29 := hp1_29.chg hxs108 (by omega)
    replace hp1_31 := hp1_31.chg hxs108 (by omega)
    replace hp1_32 := hp1_32.chg hxs108 (by omega)
    replace hp1_36 := hp1_36.chg hxs108 (by omega)
    replace hp1_38 := hp1_38.chg hxs108 (by omega)
    refine w_nil ?_
    refine x_next ?_
    refine c_seq ?_
    refine c_region ?_
    refine w_pure (y_load_boxs rfl) rfl ?_
    refine w_pure (y_load_boxs rfl) rfl ?_
    (refine w_call rfl rfl rfl (iJoinCounters_c) rfl ?_; rintro _ w42 ⟨d42, ⟨rfl, ⟨hp1_42, hx42⟩⟩⟩)
    have hz_hx42 := hx42.size
    replace hb9 := hb9.ext hx42
    replace hb8 := hb8.ext hx42
    replace hb6 := hb6.ext hx42
    replace hb3 := hb3.ext hx42
    replace hb2 := hb2.ext hx42
    replace s0 := s0.ext hx42
    replace s1 := s1.ext hx42
    replace E := E.trans hx42
    replace hp1_29 := hp1_29.ext hx42
    replace hp1_31 := hp1_31.ext hx42
    replace hp1_32 := hp1_32.ext hx42
    replace hp1_36 := hp1_36.ext hx42
    replace hp1_38 := hp1_38.ext hx42
    replace hp1_42 := hp1_42.fresh
    refine w_pure (y_move rfl) rfl ?_
    refine w_pure (y_extract rfl rfl) rfl ?_
    refine w_pure (y_extract rfl rfl) rfl ?_
    refine w_alloc (k := fun b10 w10 hb10 hx10 hl10 hs10 => ?_)
    have hz_hx10 := hx10.size
    replace hb9 := hb9.ext hx10
    replace hb8 := hb8.ext hx10
    replace hb6 := hb6.ext hx10
    replace hb3 := hb3.ext hx10
    replace hb2 := hb2.ext hx10
    replace s0 := s0.ext hx10
    replace s1 := s1.ext hx10
    replace E := E.trans hx10
    replace hp1_29 := hp1_29.ext hx10
    replace hp1_31 := hp1_31.ext hx10
    replace hp1_32 := hp1_32.ext hx10
    replace hp1_36 := hp1_36.ext hx10
    replace hp1_38 := hp1_38.ext hx10
    replace hp1_42 := hp1_42.ext hx10
    refine w_store_boxs rfl rfl (next := fun ws120 hbs120 hxs120 hss120 => ?_)
    (replace hb10 := hbs120; clear hbs120)
    have hz_hxs120 := hxs120.size
    replace hb9 := hb9.chg hxs120 (by omega)
    replace hb8 := hb8.chg hxs120 (by omega)
    replace hb6 := hb6.chg hxs120 (by omega)
    replace hb3 := hb3.chg hxs120 (by omega)
    replace hb2 := hb2.chg hxs120 (by omega)
    replace s0 := s0.chg hxs120 (by omega)
    replace s1 := s1.chg hxs120 (by omega)
    replace E := E.next hxs120 (by omega)
    replace hp1_29 := hp1_29.chg hxs120 (by omega)
    replace hp1_31 := hp1_31.chg hxs120 (by omega)
    replace hp1_32 := hp1_32.chg hxs120 (by omega)
    replace hp1_36 := hp1_36.chg hxs120 (by omega)
    replace hp1_38 := hp1_38.chg hxs120 (by omega)
    replace hp1_42 := hp1_42.chg hxs120 (by omega)
    refine w_pure (y_assign rfl) rfl ?_
    refine w_nil ?_
    refine x_next ?_
    refine c_seq ?_
    refine c_seq ?_
    refine c_region ?_
    refine w_pure (y_load_boxs rfl) rfl ?_
    refine w_pure (y_load_boxs rfl) rfl ?_
    refine w_val rfl rfl rfl (eqCounter_c) rfl (fun w47 hx47 hz47 => ?_)
    have hz_hx47 := hx47.size
    replace hb10 := hb10.ext hx47
    replace hb9 := hb9.ext hx47
    replace hb8 := hb8.ext hx47
    replace hb6 := hb6.ext hx47
    replace hb3 := hb3.ext hx47
    replace hb2 := hb2.ext hx47
    replace s0 := s0.ext hx47
    replace s1 := s1.ext hx47
    replace E := E.trans hx47
    replace hp1_29 := hp1_29.ext hx47
    replace hp1_31 := hp1_31.ext hx47
    replace hp1_32 := hp1_32.ext hx47
    replace hp1_36 := hp1_36.ext hx47
    replace hp1_38 := hp1_38.ext hx47
    replace hp1_42 := hp1_42.ext hx47
    refine w_pure (y_not_dec rfl) rfl ?_
    refine w_pure (y_move rfl) rfl ?_
    (refine w_part_dec rfl rfl (fun hc50 => ?_) (fun hc50 => ?_) <;> try (first | exact absurd rfl hc50 | contradiction | exact Bool.noConfusion (show false = true from hc50.symm.trans (by assumption)) | exact Bool.noConfusion (show true = false from hc50.symm.trans (by assumption)) | (exfalso; omega) | (exfalso; simp only [*, Bool.not_true, Bool.not_false, reduceCtorEq] at hc50; done)))
    refine w_yes rfl rfl ?_
    refine w_pure (y_move rfl) rfl ?_
    refine w_yes rfl rfl ?_
    refine w_pure (y_move rfl) rfl ?_
    refine w_yes rfl rfl ?_
    refine w_pure (y_ne rfl rfl) rfl ?_
    refine w_pure (y_pick_f rfl rfl) rfl ?_
    refine w_nil ?_
    refine x_next ?_
    refine c_nsame rfl ?_
    refine c_skip ?_
    refine x_next ?_
    refine c_seq ?_
    refine c_seq ?_
    refine c_region_held mixed (fun wr14 hxr14 hzr14 => ?_)
    have hz_hxr14 := hxr14.size
    replace hb10 := hb10.ext hxr14
    replace hb9 := hb9.ext hxr14
    replace hb8 := hb8.ext hxr14
    replace hb6 := hb6.ext hxr14
    replace hb3 := hb3.ext hxr14
    replace hb2 := hb2.ext hxr14
    replace s0 := s0.ext hxr14
    replace s1 := s1.ext hxr14
    replace E := E.trans hxr14
    replace hp1_29 := hp1_29.ext hxr14
    replace hp1_31 := hp1_31.ext hxr14
    replace hp1_32 := hp1_32.ext hxr14
    replace hp1_36 := hp1_36.ext hxr14
    replace hp1_38 := hp1_38.ext hxr14
    replace hp1_42 := hp1_42.ext hxr14
    refine h_pure rfl (y_load_boxs rfl) rfl ?_
    refine h_pure rfl (y_load_boxs rfl) rfl ?_
    refine h_one rfl ?_
    (refine w_call rfl rfl rfl (toCounter_c _) rfl ?_; rintro _ w56 ⟨d56, ⟨rfl, ⟨hp1_56, hx56⟩⟩⟩)
    have hz_hx56 := hx56.size
    replace hb10 := hb10.ext hx56
    replace hb9 := hb9.ext hx56
    replace hb8 := hb8.ext hx56
    replace hb6 := hb6.ext hx56
    replace hb3 := hb3.ext hx56
    replace hb2 := hb2.ext hx56
    replace s0 := s0.ext hx56
    replace s1 := s1.ext hx56
    replace E := E.trans hx56
    replace hp1_29 := hp1_29.ext hx56
    replace hp1_31 := hp1_31.ext hx56
    replace hp1_32 := hp1_32.ext hx56
    replace hp1_36 := hp1_36.ext hx56
    replace hp1_38 := hp1_38.ext hx56
    replace hp1_42 := hp1_42.ext hx56
    replace hp1_56 := hp1_56.fresh
    refine w_nil ?_
    refine x_held ?_
    refine h_one rfl ?_
    refine w_val rfl rfl rfl (eqCounter_c) rfl (fun w57 hx57 hz57 => ?_)
    have hz_hx57 := hx57.size
    replace hb10 := hb10.ext hx57
    replace hb9 := hb9.ext hx57
    replace hb8 := hb8.ext hx57
    replace hb6 := hb6.ext hx57
    replace hb3 := hb3.ext hx57
    replace hb2 := hb2.ext hx57
    replace s0 := s0.ext hx57
    replace s1 := s1.ext hx57
    replace E := E.trans hx57
    replace hp1_29 := hp1_29.ext hx57
    replace hp1_31 := hp1_31.ext hx57
    replace hp1_32 := hp1_32.ext hx57
    replace hp1_36 := hp1_36.ext hx57
    replace hp1_38 := hp1_38.ext hx57
    replace hp1_42 := hp1_42.ext hx57
    replace hp1_56 := hp1_56.ext hx57
    refine w_nil ?_
    refine x_held ?_
    refine h_pure rfl (y_not_dec rfl) rfl ?_
    refine h_nil ?_
    refine x_next ?_
    refine c_nsame rfl ?_
    refine c_skip ?_
    refine x_next ?_
    refine c_seq ?_
    refine c_seq ?_
    refine c_region_held mixed (fun wr16 hxr16 hzr16 => ?_)
    have hz_hxr16 := hxr16.size
    replace hb10 := hb10.ext hxr16
    replace hb9 := hb9.ext hxr16
    replace hb8 := hb8.ext hxr16
    replace hb6 := hb6.ext hxr16
    replace hb3 := hb3.ext hxr16
    replace hb2 := hb2.ext hxr16
    replace s0 := s0.ext hxr16
    replace s1 := s1.ext hxr16
    replace E := E.trans hxr16
    replace hp1_29 := hp1_29.ext hxr16
    replace hp1_31 := hp1_31.ext hxr16
    replace hp1_32 := hp1_32.ext hxr16
    replace hp1_36 := hp1_36.ext hxr16
    replace hp1_38 := hp1_38.ext hxr16
    replace hp1_42 := hp1_42.ext hxr16
    replace hp1_56 := hp1_56.ext hxr16
    refine h_pure rfl (y_load_boxs rfl) rfl ?_
    refine h_pure rfl (y_load_boxs rfl) rfl ?_
    refine h_one rfl ?_
    (refine w_call rfl rfl rfl (toCounter_c _) rfl ?_; rintro _ w61 ⟨d61, ⟨rfl, ⟨hp1_61, hx61⟩⟩⟩)
    have hz_hx61 := hx61.size
    replace hb10 := hb10.ext hx61
    replace hb9 := hb9.ext hx61
    replace hb8 := hb8.ext hx61
    replace hb6 := hb6.ext hx61
    replace hb3 := hb3.ext hx61
    replace hb2 := hb2.ext hx61
    replace s0 := s0.ext hx61
    replace s1 := s1.ext hx61
    replace E := E.trans hx61
    replace hp1_29 := hp1_29.ext hx61
    replace hp1_31 := hp1_31.ext hx61
    replace hp1_32 := hp1_32.ext hx61
    replace hp1_36 := hp1_36.ext hx61
    replace hp1_38 := hp1_38.ext hx61
    replace hp1_42 := hp1_42.ext hx61
    replace hp1_56 := hp1_56.ext hx61
    replace hp1_61 := hp1_61.fresh
    refine w_nil ?_
    refine x_held ?_
    refine h_one rfl ?_
    refine w_val rfl rfl rfl (eqCounter_c) rfl (fun w62 hx62 hz62 => ?_)
    have hz_hx62 := hx62.size
    replace hb10 := hb10.ext hx62
    replace hb9 := hb9.ext hx62
    replace hb8 := hb8.ext hx62
    replace hb6 := hb6.ext hx62
    replace hb3 := hb3.ext hx62
    replace hb2 := hb2.ext hx62
    replace s0 := s0.ext hx62
    replace s1 := s1.ext hx62
    replace E := E.trans hx62
    replace hp1_29 := hp1_29.ext hx62
    replace hp1_31 := hp1_31.ext hx62
    replace hp1_32 := hp1_32.ext hx62
    replace hp1_36 := hp1_36.ext hx62
    replace hp1_38 := hp1_38.ext hx62
    replace hp1_42 := hp1_42.ext hx62
    replace hp1_56 := hp1_56.ext hx62
    replace hp1_61 := hp1_61.ext hx62
    refine w_nil ?_
    refine x_held ?_
    refine h_pure rfl (y_not_dec rfl) rfl ?_
    refine h_nil ?_
    refine x_next ?_
    refine c_nsame rfl ?_
    refine c_skip ?_
    refine x_next ?_
    refine c_seq ?_
    refine c_region ?_
    refine w_pure (y_assign rfl) rfl ?_
    refine w_nil ?_
    refine x_next ?_
    refine c_seq ?_
    refine c_region ?_
    refine w_pure (y_load_boxs rfl) rfl ?_
    refine w_pure (y_move rfl) rfl ?_
    (refine w_call rfl rfl rfl (markCounter_c _) rfl ?_; rintro _ w66 ⟨rfl, ⟨hp1_66, hx66⟩⟩)
    have hz_hx66 := hx66.size
    replace hb10 := hb10.chg hx66 (by omega)
    replace hb9 := hb9.chg hx66 (by omega)
    replace hb8 := hb8.chg hx66 (by omega)
    replace hb6 := hb6.chg hx66 (by omega)
    replace hb3 := hb3.chg hx66 (by omega)
    replace hb2 := hb2.chg hx66 (by omega)
    replace s0 := s0.chg hx66 (by omega)
    replace s1 := s1.chg hx66 (by omega)
    replace E := E.next hx66 (by omega)
    replace hp1_29 := hp1_29.chg hx66 (by omega)
    replace hp1_31 := hp1_31.chg hx66 (by omega)
    replace hp1_32 := hp1_32.chg hx66 (by omega)
    replace hp1_38 := hp1_38.chg hx66 (by omega)
    replace hp1_42 := hp1_42.chg hx66 (by omega)
    replace hp1_56 := hp1_56.chg hx66 (by omega)
    replace hp1_61 := hp1_61.chg hx66 (by omega)
    refine w_pure (y_assign rfl) rfl ?_
    refine w_nil ?_
    refine x_next ?_
    refine c_seq ?_
    refine c_region ?_
    refine w_pure (y_load_boxs rfl) rfl ?_
    refine w_pure (y_move rfl) rfl ?_
    (refine w_call rfl rfl rfl (markCounter_c _) rfl ?_; rintro _ w69 ⟨rfl, ⟨hp1_69, hx69⟩⟩)
    have hz_hx69 := hx69.size
    replace hp1_66 := hp1_66.chg hx69 (by omega)
    replace hb10 := hb10.chg hx69 (by omega)
    replace hb9 := hb9.chg hx69 (by omega)
    replace hb8 := hb8.chg hx69 (by omega)
    replace hb6 := hb6.chg hx69 (by omega)
    replace hb3 := hb3.chg hx69 (by omega)
    replace hb2 := hb2.chg hx69 (by omega)
    replace s0 := s0.chg hx69 (by omega)
    replace s1 := s1.chg hx69 (by omega)
    replace E := E.next hx69 (by omega)
    replace hp1_29 := hp1_29.chg hx69 (by omega)
    replace hp1_31 := hp1_31.chg hx69 (by omega)
    replace hp1_32 := hp1_32.chg hx69 (by omega)
    replace hp1_42 := hp1_42.chg hx69 (by omega)
    replace hp1_56 := hp1_56.chg hx69 (by omega)
    replace hp1_61 := hp1_61.chg hx69 (by omega)
    refine w_pure (y_assign rfl) rfl ?_
    refine w_nil ?_
    refine x_next ?_
    refine c_seq ?_
    refine c_seq ?_
    refine c_region ?_
    refine w_pure (y_move rfl) rfl ?_
    refine w_pure (y_lt rfl rfl) rfl ?_
    refine w_pure (y_move rfl) rfl ?_
    refine w_yes rfl rfl ?_
    refine w_pure (y_load_boxs rfl) rfl ?_
    refine w_yes rfl rfl ?_
    refine w_pure (y_load_boxs rfl) rfl ?_
    refine w_yes rfl rfl ?_
    refine w_val rfl rfl rfl (eqCounter_c) rfl (fun w75 hx75 hz75 => ?_)
    have hz_hx75 := hx75.size
    replace hp1_69 := hp1_69.ext hx75
    replace hp1_66 := hp1_66.ext hx75
    replace hb10 := hb10.ext hx75
    replace hb9 := hb9.ext hx75
    replace hb8 := hb8.ext hx75
    replace hb6 := hb6.ext hx75
    replace hb3 := hb3.ext hx75
    replace hb2 := hb2.ext hx75
    replace s0 := s0.ext hx75
    replace s1 := s1.ext hx75
    replace E := E.trans hx75
    replace hp1_29 := hp1_29.ext hx75
    replace hp1_31 := hp1_31.ext hx75
    replace hp1_32 := hp1_32.ext hx75
    replace hp1_42 := hp1_42.ext hx75
    replace hp1_56 := hp1_56.ext hx75
    replace hp1_61 := hp1_61.ext hx75
    refine w_yes rfl rfl ?_
    refine w_pure (y_not_dec rfl) rfl ?_
    refine w_pure (y_pick_f rfl rfl) rfl ?_
    refine w_pure (y_move rfl) rfl ?_
    (refine w_part_dec rfl rfl (fun hc79 => ?_) (fun hc79 => ?_) <;> try (first | exact absurd rfl hc79 | contradiction | exact Bool.noConfusion (show false = true from hc79.symm.trans (by assumption)) | exact Bool.noConfusion (show true = false from hc79.symm.trans (by assumption)) | (exfalso; omega) | (exfalso; simp only [*, Bool.not_true, Bool.not_false, reduceCtorEq] at hc79; done)))
    refine w_yes rfl rfl ?_
    refine w_pure (y_move rfl) rfl ?_
    refine w_yes rfl rfl ?_
    refine w_pure (y_move rfl) rfl ?_
    refine w_yes rfl rfl ?_
    refine w_pure (y_ne rfl rfl) rfl ?_
    refine w_pure (y_pick_f rfl rfl) rfl ?_
    refine w_nil ?_
    refine x_next ?_
    refine c_nsame rfl ?_
    refine c_skip ?_
    refine x_next ?_
    refine c_seq ?_
    refine c_region ?_
    refine w_pure (y_assign rfl) rfl ?_
    refine w_nil ?_
    refine x_next ?_
    refine c_seq ?_
    refine c_region ?_
    refine w_pure (y_load_boxs rfl) rfl ?_
    refine w_pure (y_move rfl) rfl ?_
    (refine w_call rfl rfl rfl (markCounter_c _) rfl ?_; rintro _ w85 ⟨rfl, ⟨hp1_85, hx85⟩⟩)
    have hz_hx85 := hx85.size
    replace hp1_69 := hp1_69.chg hx85 (by omega)
    replace hp1_66 := hp1_66.chg hx85 (by omega)
    replace hb10 := hb10.chg hx85 (by omega)
    replace hb9 := hb9.chg hx85 (by omega)
    replace hb8 := hb8.chg hx85 (by omega)
    replace hb6 := hb6.chg hx85 (by omega)
    replace hb3 := hb3.chg hx85 (by omega)
    replace hb2 := hb2.chg hx85 (by omega)
    replace s0 := s0.chg hx85 (by omega)
    replace s1 := s1.chg hx85 (by omega)
    replace E := E.next hx85 (by omega)
    replace hp1_29 := hp1_29.chg hx85 (by omega)
    replace hp1_31 := hp1_31.chg hx85 (by omega)
    replace hp1_32 := hp1_32.chg hx85 (by omega)
    replace hp1_56 := hp1_56.chg hx85 (by omega)
    replace hp1_61 := hp1_61.chg hx85 (by omega)
    refine w_pure (y_assign rfl) rfl ?_
    refine w_nil ?_
    refine x_next ?_
    refine c_seq ?_
    refine c_region ?_
    refine w_pure (y_assign rfl) rfl ?_
    refine w_nil ?_
    refine x_next ?_
    refine c_seq ?_
    refine c_region ?_
    refine w_pure (y_load_boxs rfl) rfl ?_
    refine w_pure (y_move rfl) rfl ?_
    refine w_val rfl rfl rfl (heldCounter_c) rfl (fun w88 hx88 hz88 => ?_)
    have hz_hx88 := hx88.size
    replace hp1_85 := hp1_85.ext hx88
    replace hp1_69 := hp1_69.ext hx88
    replace hp1_66 := hp1_66.ext hx88
    replace hb10 := hb10.ext hx88
    replace hb9 := hb9.ext hx88
    replace hb8 := hb8.ext hx88
    replace hb6 := hb6.ext hx88
    replace hb3 := hb3.ext hx88
    replace hb2 := hb2.ext hx88
    replace s0 := s0.ext hx88
    replace s1 := s1.ext hx88
    replace E := E.trans hx88
    replace hp1_29 := hp1_29.ext hx88
    replace hp1_31 := hp1_31.ext hx88
    replace hp1_32 := hp1_32.ext hx88
    replace hp1_56 := hp1_56.ext hx88
    replace hp1_61 := hp1_61.ext hx88
    refine w_pure (y_assign rfl) rfl ?_
    refine w_nil ?_
    refine x_next ?_
    refine c_seq ?_
    refine c_seq ?_
    refine c_region ?_
    refine w_pure (y_move rfl) rfl ?_
    refine w_pure (y_lt rfl rfl) rfl ?_
    refine w_nil ?_
    refine x_next ?_
    refine c_false rfl ?_
    refine c_skip ?_
    refine x_next ?_
    refine c_seq ?_
    refine c_seq ?_
    refine c_region ?_
    refine w_pure (y_move rfl) rfl ?_
    refine w_pure (y_move rfl) rfl ?_
    refine w_pure (y_ne rfl rfl) rfl ?_
    refine w_nil ?_
    refine x_next ?_
    refine c_nsame rfl ?_
    refine c_skip ?_
    refine x_next ?_
    refine c_seq ?_
    refine c_region_held mixed (fun wr31 hxr31 hzr31 => ?_)
    have hz_hxr31 := hxr31.size
    replace hp1_85 := hp1_85.ext hxr31
    replace hp1_69 := hp1_69.ext hxr31
    replace hp1_66 := hp1_66.ext hxr31
    replace hb10 := hb10.ext hxr31
    replace hb9 := hb9.ext hxr31
    replace hb8 := hb8.ext hxr31
    replace hb6 := hb6.ext hxr31
    replace hb3 := hb3.ext hxr31
    replace hb2 := hb2.ext hxr31
    replace s0 := s0.ext hxr31
    replace s1 := s1.ext hxr31
    replace E := E.trans hxr31
    replace hp1_29 := hp1_29.ext hxr31
    replace hp1_31 := hp1_31.ext hxr31
    replace hp1_32 := hp1_32.ext hxr31
    replace hp1_56 := hp1_56.ext hxr31
    replace hp1_61 := hp1_61.ext hxr31
    refine h_pure rfl (y_load_boxs rfl) rfl ?_
    refine h_maybe1 (p0 := ⟨8, 15, _⟩) (PA.mk_ok rfl rfl rfl) ?_
    refine m1_turn ?_
    refine m1_pure rfl (y_load_boxs rfl) rfl ?_
    refine m1_turn ?_
    refine m1_turn ?_
    refine m1_turn ?_
    refine m1_turn ?_
    refine m1_turn ?_
    refine m1_turn ?_
    refine m1_turn ?_
    refine m1_call (PA.mk_ok rfl rfl rfl) rfl rfl rfl rfl rfl (fun w96m hx96m => ?_)
    have hz_hx96m := hx96m.size
    replace hp1_85 := hp1_85.ext hx96m
    replace hp1_69 := hp1_69.ext hx96m
    replace hp1_66 := hp1_66.ext hx96m
    replace hb10 := hb10.ext hx96m
    replace hb9 := hb9.ext hx96m
    replace hb8 := hb8.ext hx96m
    replace hb6 := hb6.ext hx96m
    replace hb3 := hb3.ext hx96m
    replace hb2 := hb2.ext hx96m
    replace s0 := s0.ext hx96m
    replace s1 := s1.ext hx96m
    replace E := E.trans hx96m
    replace hp1_29 := hp1_29.ext hx96m
    replace hp1_31 := hp1_31.ext hx96m
    replace hp1_32 := hp1_32.ext hx96m
    replace hp1_56 := hp1_56.ext hx96m
    replace hp1_61 := hp1_61.ext hx96m
    (refine mc_ret (toCounter_c _) ?_; rintro _ w96 ⟨d96, ⟨rfl, ⟨hp1_96, hx96⟩⟩⟩; refine ⟨hx96, ?_⟩)
    have hz_hx96 := hx96.size
    replace hp1_85 := hp1_85.ext hx96
    replace hp1_69 := hp1_69.ext hx96
    replace hp1_66 := hp1_66.ext hx96
    replace hb10 := hb10.ext hx96
    replace hb9 := hb9.ext hx96
    replace hb8 := hb8.ext hx96
    replace hb6 := hb6.ext hx96
    replace hb3 := hb3.ext hx96
    replace hb2 := hb2.ext hx96
    replace s0 := s0.ext hx96
    replace s1 := s1.ext hx96
    replace E := E.trans hx96
    replace hp1_29 := hp1_29.ext hx96
    replace hp1_31 := hp1_31.ext hx96
    replace hp1_32 := hp1_32.ext hx96
    replace hp1_56 := hp1_56.ext hx96
    replace hp1_61 := hp1_61.ext hx96
    replace hp1_96 := hp1_96.fresh
    refine m1_call (PA.mk_ok rfl rfl rfl) rfl rfl rfl rfl rfl (fun w98m hx98m => ?_)
    have hz_hx98m := hx98m.size
    replace hp1_85 := hp1_85.ext hx98m
    replace hp1_69 := hp1_69.ext hx98m
    replace hp1_66 := hp1_66.ext hx98m
    replace hb10 := hb10.ext hx98m
    replace hb9 := hb9.ext hx98m
    replace hb8 := hb8.ext hx98m
    replace hb6 := hb6.ext hx98m
    replace hb3 := hb3.ext hx98m
    replace hb2 := hb2.ext hx98m
    replace s0 := s0.ext hx98m
    replace s1 := s1.ext hx98m
    replace E := E.trans hx98m
    replace hp1_29 := hp1_29.ext hx98m
    replace hp1_31 := hp1_31.ext hx98m
    replace hp1_32 := hp1_32.ext hx98m
    replace hp1_56 := hp1_56.ext hx98m
    replace hp1_61 := hp1_61.ext hx98m
    replace hp1_96 := hp1_96.ext hx98m
    (refine mc_ret (toCounter_c _) ?_; rintro _ w98 ⟨d98, ⟨rfl, ⟨hp1_98, hx98⟩⟩⟩; refine ⟨hx98, ?_⟩)
    have hz_hx98 := hx98.size
    replace hp1_85 := hp1_85.ext hx98
    replace hp1_69 := hp1_69.ext hx98
    replace hp1_66 := hp1_66.ext hx98
    replace hb10 := hb10.ext hx98
    replace hb9 := hb9.ext hx98
    replace hb8 := hb8.ext hx98
    replace hb6 := hb6.ext hx98
    replace hb3 := hb3.ext hx98
    replace hb2 := hb2.ext hx98
    replace s0 := s0.ext hx98
    replace s1 := s1.ext hx98
    replace E := E.trans hx98
    replace hp1_29 := hp1_29.ext hx98
    replace hp1_31 := hp1_31.ext hx98
    replace hp1_32 := hp1_32.ext hx98
    replace hp1_56 := hp1_56.ext hx98
    replace hp1_61 := hp1_61.ext hx98
    replace hp1_96 := hp1_96.ext hx98
    replace hp1_98 := hp1_98.fresh
    refine m1_call (PA.mk_ok rfl rfl rfl) rfl rfl rfl rfl rfl (fun w99m hx99m => ?_)
    have hz_hx99m := hx99m.size
    replace hp1_85 := hp1_85.ext hx99m
    replace hp1_69 := hp1_69.ext hx99m
    replace hp1_66 := hp1_66.ext hx99m
    replace hb10 := hb10.ext hx99m
    replace hb9 := hb9.ext hx99m
    replace hb8 := hb8.ext hx99m
    replace hb6 := hb6.ext hx99m
    replace hb3 := hb3.ext hx99m
    replace hb2 := hb2.ext hx99m
    replace s0 := s0.ext hx99m
    replace s1 := s1.ext hx99m
    replace E := E.trans hx99m
    replace hp1_29 := hp1_29.ext hx99m
    replace hp1_31 := hp1_31.ext hx99m
    replace hp1_32 := hp1_32.ext hx99m
    replace hp1_56 := hp1_56.ext hx99m
    replace hp1_61 := hp1_61.ext hx99m
    replace hp1_96 := hp1_96.ext hx99m
    replace hp1_98 := hp1_98.ext hx99m
    (refine mc_ret (iJoinCounters_c) ?_; rintro _ w99 ⟨d99, ⟨rfl, ⟨hp1_99, hx99⟩⟩⟩; refine ⟨hx99, ?_⟩)
    have hz_hx99 := hx99.size
    replace hp1_85 := hp1_85.ext hx99
    replace hp1_69 := hp1_69.ext hx99
    replace hp1_66 := hp1_66.ext hx99
    replace hb10 := hb10.ext hx99
    replace hb9 := hb9.ext hx99
    replace hb8 := hb8.ext hx99
    replace hb6 := hb6.ext hx99
    replace hb3 := hb3.ext hx99
    replace hb2 := hb2.ext hx99
    replace s0 := s0.ext hx99
    replace s1 := s1.ext hx99
    replace E := E.trans hx99
    replace hp1_29 := hp1_29.ext hx99
    replace hp1_31 := hp1_31.ext hx99
    replace hp1_32 := hp1_32.ext hx99
    replace hp1_56 := hp1_56.ext hx99
    replace hp1_61 := hp1_61.ext hx99
    replace hp1_96 := hp1_96.ext hx99
    replace hp1_98 := hp1_98.ext hx99
    replace hp1_99 := hp1_99.fresh
    refine m1_pure rfl (y_move rfl) rfl ?_
    refine m1_pure rfl (y_extract rfl rfl) rfl ?_
    refine m1_any rfl (fun _ => y_extract rfl rfl) rfl ?_
    (refine m1_end (PA.mk_ok rfl rfl rfl) ?_; intro w15e hx15e hz15e b15 hb15 hlb15 hg15; simp only [Gaps, and_true] at hg15; have hu15 := hb15.lt)
    have hz_hx15e := hx15e.size
    replace hp1_85 := hp1_85.ext hx15e
    replace hp1_69 := hp1_69.ext hx15e
    replace hp1_66 := hp1_66.ext hx15e
    replace hb10 := hb10.ext hx15e
    replace hb9 := hb9.ext hx15e
    replace hb8 := hb8.ext hx15e
    replace hb6 := hb6.ext hx15e
    replace hb3 := hb3.ext hx15e
    replace hb2 := hb2.ext hx15e
    replace s0 := s0.ext hx15e
    replace s1 := s1.ext hx15e
    replace E := E.trans hx15e
    replace hp1_29 := hp1_29.ext hx15e
    replace hp1_31 := hp1_31.ext hx15e
    replace hp1_32 := hp1_32.ext hx15e
    replace hp1_56 := hp1_56.ext hx15e
    replace hp1_61 := hp1_61.ext hx15e
    replace hp1_96 := hp1_96.ext hx15e
    replace hp1_98 := hp1_98.ext hx15e
    replace hp1_99 := hp1_99.ext hx15e
    refine h_one rfl ?_
    refine w_store_boxs rfl rfl (next := fun ws304 hbs304 hxs304 hss304 => ?_)
    (replace hb15 := hbs304; clear hbs304)
    have hz_hxs304 := hxs304.size
    replace hp1_85 := hp1_85.chg hxs304 (by omega)
    replace hp1_69 := hp1_69.chg hxs304 (by omega)
    replace hp1_66 := hp1_66.chg hxs304 (by omega)
    replace hb10 := hb10.chg hxs304 (by omega)
    replace hb9 := hb9.chg hxs304 (by omega)
    replace hb8 := hb8.chg hxs304 (by omega)
    replace hb6 := hb6.chg hxs304 (by omega)
    replace hb3 := hb3.chg hxs304 (by omega)
    replace hb2 := hb2.chg hxs304 (by omega)
    replace s0 := s0.chg hxs304 (by omega)
    replace s1 := s1.chg hxs304 (by omega)
    replace E := E.next hxs304 (by omega)
    replace hp1_29 := hp1_29.chg hxs304 (by omega)
    replace hp1_31 := hp1_31.chg hxs304 (by omega)
    replace hp1_32 := hp1_32.chg hxs304 (by omega)
    replace hp1_56 := hp1_56.chg hxs304 (by omega)
    replace hp1_61 := hp1_61.chg hxs304 (by omega)
    replace hp1_96 := hp1_96.chg hxs304 (by omega)
    replace hp1_98 := hp1_98.chg hxs304 (by omega)
    replace hp1_99 := hp1_99.chg hxs304 (by omega)
    refine w_nil ?_
    refine x_heldk ?_
    refine h_pure rfl (y_assign rfl) rfl ?_
    refine h_nil ?_
    refine x_next ?_
    refine c_seq ?_
    refine c_seq ?_
    refine c_region ?_
    refine w_pure (y_load_boxs rfl) rfl ?_
    refine w_pure (y_load_boxs rfl) rfl ?_
    refine w_val rfl rfl rfl (eqCounter_c) rfl (fun w104 hx104 hz104 => ?_)
    have hz_hx104 := hx104.size
    replace hb15 := hb15.ext hx104
    replace hp1_85 := hp1_85.ext hx104
    replace hp1_69 := hp1_69.ext hx104
    replace hp1_66 := hp1_66.ext hx104
    replace hb10 := hb10.ext hx104
    replace hb9 := hb9.ext hx104
    replace hb8 := hb8.ext hx104
    replace hb6 := hb6.ext hx104
    replace hb3 := hb3.ext hx104
    replace hb2 := hb2.ext hx104
    replace s0 := s0.ext hx104
    replace s1 := s1.ext hx104
    replace E := E.trans hx104
    replace hp1_29 := hp1_29.ext hx104
    replace hp1_31 := hp1_31.ext hx104
    replace hp1_32 := hp1_32.ext hx104
    replace hp1_56 := hp1_56.ext hx104
    replace hp1_61 := hp1_61.ext hx104
    replace hp1_96 := hp1_96.ext hx104
    replace hp1_98 := hp1_98.ext hx104
    replace hp1_99 := hp1_99.ext hx104
    refine w_pure (y_not_dec rfl) rfl ?_
    refine w_pure (y_move rfl) rfl ?_
    (refine w_part_dec rfl rfl (fun hc107 => ?_) (fun hc107 => ?_) <;> try (first | exact absurd rfl hc107 | contradiction | exact Bool.noConfusion (show false = true from hc107.symm.trans (by assumption)) | exact Bool.noConfusion (show true = false from hc107.symm.trans (by assumption)) | (exfalso; omega) | (exfalso; simp only [*, Bool.not_true, Bool.not_false, reduceCtorEq] at hc107; done)))
    refine w_yes rfl rfl ?_
    refine w_pure (y_move rfl) rfl ?_
    refine w_yes rfl rfl ?_
    refine w_pure (y_move rfl) rfl ?_
    refine w_yes rfl rfl ?_
    refine w_pure (y_ne rfl rfl) rfl ?_
    refine w_pure (y_pick_f rfl rfl) rfl ?_
    refine w_nil ?_
    refine x_next ?_
    refine c_nsame rfl ?_
    refine c_skip ?_
    refine x_next ?_
    refine c_seq ?_
    refine c_region ?_
    refine w_pure (y_assign rfl) rfl ?_
    refine w_nil ?_
    refine x_next ?_
    refine c_seq ?_
    refine c_region ?_
    refine w_pure (y_load_boxs rfl) rfl ?_
    refine w_pure (y_move rfl) rfl ?_
    refine w_val rfl rfl rfl (heldCounter_c) rfl (fun w113 hx113 hz113 => ?_)
    have hz_hx113 := hx113.size
    replace hb15 := hb15.ext hx113
    replace hp1_85 := hp1_85.ext hx113
    replace hp1_69 := hp1_69.ext hx113
    replace hp1_66 := hp1_66.ext hx113
    replace hb10 := hb10.ext hx113
    replace hb9 := hb9.ext hx113
    replace hb8 := hb8.ext hx113
    replace hb6 := hb6.ext hx113
    replace hb3 := hb3.ext hx113
    replace hb2 := hb2.ext hx113
    replace s0 := s0.ext hx113
    replace s1 := s1.ext hx113
    replace E := E.trans hx113
    replace hp1_29 := hp1_29.ext hx113
    replace hp1_31 := hp1_31.ext hx113
    replace hp1_32 := hp1_32.ext hx113
    replace hp1_56 := hp1_56.ext hx113
    replace hp1_61 := hp1_61.ext hx113
    replace hp1_96 := hp1_96.ext hx113
    replace hp1_98 := hp1_98.ext hx113
    replace hp1_99 := hp1_99.ext hx113
    refine w_pure (y_assign rfl) rfl ?_
    refine w_nil ?_
    refine x_next ?_
    refine c_seq ?_
    refine c_seq ?_
    refine c_region ?_
    refine w_pure (y_move rfl) rfl ?_
    refine w_pure (y_lt rfl rfl) rfl ?_
    refine w_nil ?_
    refine x_next ?_
    refine c_false rfl ?_
    refine c_skip ?_
    refine x_next ?_
    refine c_seq ?_
    refine c_seq ?_
    refine c_region ?_
    refine w_pure (y_move rfl) rfl ?_
    refine w_pure (y_move rfl) rfl ?_
    refine w_pure (y_ne rfl rfl) rfl ?_
    refine w_nil ?_
    refine x_next ?_
    refine c_nsame rfl ?_
    refine c_skip ?_
    refine x_next ?_
    refine c_seq ?_
    refine c_region ?_
    refine w_pure (y_assign rfl) rfl ?_
    refine w_nil ?_
    refine x_next ?_
    refine c_ret ?_
    exact x_retv [_] rfl ⟨rfl, trivial⟩ ⟨rfl, E.go⟩
end
end Go.Proofs.Ytmmpnlhanljhiaa

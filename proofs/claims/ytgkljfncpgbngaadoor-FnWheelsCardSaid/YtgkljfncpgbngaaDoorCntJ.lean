/- Contracts: taking from counters, complements, splitting. -/
import Derived.Test.YtgkljfncpgbngaaDoorCntI
namespace Go.Proofs.YtgkljfncpgbngaaDoor
open Go Go.Gw
set_option linter.unusedVariables false
set_option linter.unusedSimpArgs false
/-- the digits after a number has been taken away, by its complement -/
def takeP (xs : List Int) (n : Int) : List Int × Int × Int := addS xs (10 ^ xs.length - 1 - n) xs.length
def takeD (xs : List Int) (n : Int) : List Int := if (takeP xs n).2.2 = 1 then (addS (takeP xs n).1 1 (takeP xs n).1.length).1 else (takeP xs n).1
def resTake (xs : List Int) (n : Int) : List Int := if codeN xs n = 0 then takeD xs n else []
def topTake (xs : List Int) (n : Int) : Bool := decide (codeN xs n = 0 ∧ (takeP xs n).2.2 = 1)
theorem takeP_len (xs : List Int) (n : Int) : (takeP xs n).1.length = xs.length := addS_len _ _ _
theorem takeD_len (xs : List Int) (n : Int) : (takeD xs n).length = xs.length := by
  unfold takeD; split
  · rw [addS_len, takeP_len]
  · rw [takeP_len]
theorem resTake_len (xs : List Int) (n : Int) : (resTake xs n).length ≤ 12 := by
  unfold resTake; split
  · rename_i h; rw [takeD_len]; exact (okC_len (codeN_ok h).1).2
  · simp
section
variable {w : World} {v v' : Value} {xs ys : List Int} {lo hi lo' hi' b b' : Nat}
theorem iTakeFromCounter_c (n : Int) (h : SL w lo hi v xs := by repeat (first | assumption | exact Go.Gw.Own.sl (by assumption) | exact Go.Gw.Box.at (by assumption) | exact Go.Gw.SLL.el (by first | assumption | exact Go.Gw.OwnD.sll (by assumption)) _ (by omega) | exact Go.Gw.SLL.at (by first | assumption | exact Go.Gw.OwnD.sll (by assumption)) (by omega) | exact Go.Gw.OwnD.sll (by assumption) | (apply Go.Gw.SL.chg; case hx => assumption) | (apply Go.Gw.Own.chg; case hx => assumption) | (apply Go.Gw.Box.chg; case hx => assumption) | (apply Go.Gw.At.chg; case hx => assumption) | exact .inl (Nat.zero_le _) | exact .inr (Nat.zero_le _) | (show _ ∨ _; omega))) : Ret Tryd.prog 31 [.agg #[v], .int .i64 n] w fun u w' =>
    ∃ d, u = .tuple #[.agg #[d], .bool (topTake xs n), .int .i64 (codeN xs n)] ∧ Own w' 2 w.heap.size d (resTake xs n) ∧ Ext w w' := by
  have E : Since 0 0 w w := Since.refl 0 0 w
  by_cases e : codeN xs n = 0
  · obtain ⟨hk, q1, q2, q3⟩ := codeN_ok e
    have q4 := okC_len hk
    have q5 : Digs xs := okC_dig hk
    have q6 : (10 : Int) ^ ((xs.length : Int)).toNat - 1 - n = 10 ^ xs.length - 1 - n := rfl
    have q7 := pow10_12 (k := ((xs.length : Int)).toNat) (by omega)
    have q8 : n ≤ 10 ^ ((xs.length : Int)).toNat - 1 := q2
    have q9 : Digs (addS xs (10 ^ ((xs.length : Int)).toNat - 1 - n) xs.length).1 := (addS_bd q5 _ _).2.2.2.2
    have qa := takeP_len xs n
    have qb : (addS xs (10 ^ ((xs.length : Int)).toNat - 1 - n) xs.length).1.length = xs.length := addS_len _ _ _
    refine ret_enter Tryd.func31 rfl Tryd.ntmps31 rfl ?_
    focus
      have ht_h := h.top
      refine c_seq ?_
      refine c_region ?_
      refine w_box rfl (k := fun b2 w2 hb2 hx2 hl2 hs2 => ?_)
      have hz_hx2 := hx2.size
      replace h := h.ext hx2
      replace E := E.trans hx2
      refine w_alloc (k := fun b4 w4 hb4 hx4 hl4 hs4 => ?_)
      have hz_hx4 := hx4.size
      replace hb2 := hb2.ext hx4
      replace h := h.ext hx4
      replace E := E.trans hx4
      refine w_pure (y_assign rfl) rfl ?_
      refine w_pure (y_assign rfl) rfl ?_
      refine w_nil ?_
      refine x_next ?_
      refine c_seq ?_
      refine c_seq ?_
      refine c_region ?_
      refine w_pure (y_load_boxs rfl) rfl ?_
      refine w_pure (y_move rfl) rfl ?_
      refine w_val rfl rfl rfl (countCode_c _) rfl (fun w13 hx13 hz13 => ?_)
      have hz_hx13 := hx13.size
      replace hb4 := hb4.ext hx13
      replace hb2 := hb2.ext hx13
      replace h := h.ext hx13
      replace E := E.trans hx13
      refine w_pure (y_assign rfl) rfl ?_
      refine w_nil ?_
      refine x_next ?_
      refine c_seq ?_
      refine c_region ?_
      refine w_pure (y_move rfl) rfl ?_
      refine w_pure (y_ne rfl rfl) rfl ?_
      refine w_nil ?_
      refine x_next ?_
      (refine c_dec rfl (fun hc15 => ?_) (fun hc15 => ?_) <;> try (first | exact absurd rfl hc15 | contradiction | exact Bool.noConfusion (show false = true from hc15.symm.trans (by assumption)) | exact Bool.noConfusion (show true = false from hc15.symm.trans (by assumption)) | (exfalso; omega) | (exfalso; simp only [*, Bool.not_true, Bool.not_false, reduceCtorEq] at hc15; done)))
      refine c_skip ?_
      refine x_next ?_
      refine c_seq ?_
      refine c_region_held mixed (fun wr4 hxr4 hzr4 => ?_)
      have hz_hxr4 := hxr4.size
      replace hb4 := hb4.ext hxr4
      replace hb2 := hb2.ext hxr4
      replace h := h.ext hxr4
      replace E := E.trans hxr4
      refine h_pure rfl (y_load_boxs rfl) rfl ?_
      refine h_pure rfl (y_field rfl) rfl ?_
      refine h_pure rfl (y_load_box rfl) rfl ?_
      refine h_maybe1 (p0 := ⟨12, 8, _⟩) (PA.mk_ok rfl rfl rfl) ?_
      refine m1_turn ?_
      refine m1_turn ?_
      refine m1_pure rfl (y_move rfl) rfl ?_
      refine m1_turn ?_
      refine m1_turn ?_
      refine m1_turn ?_
      refine m1_turn ?_
      refine m1_turn ?_
      refine m1_turn ?_
      refine m1_turn ?_
      refine m1_turn ?_
      refine m1_turn ?_
      refine m1_call (PA.mk_ok rfl rfl rfl) rfl rfl rfl rfl rfl (fun w22m hx22m => ?_)
      have hz_hx22m := hx22m.size
      replace hb4 := hb4.ext hx22m
      replace hb2 := hb2.ext hx22m
      replace h := h.ext hx22m
      replace E := E.trans hx22m
      refine mc_val (size_c) (fun w22 hx22 hz22 => ?_)
      have hz_hx22 := hx22.size
      replace hb4 := hb4.ext hx22
      replace hb2 := hb2.ext hx22
      replace h := h.ext hx22
      replace E := E.trans hx22
      refine m1_call (PA.mk_ok rfl rfl rfl) rfl rfl rfl rfl rfl (fun w23m hx23m => ?_)
      have hz_hx23m := hx23m.size
      replace hb4 := hb4.ext hx23m
      replace hb2 := hb2.ext hx23m
      replace h := h.ext hx23m
      replace E := E.trans hx23m
      refine mc_pur (nines_c _ (by omega) (by omega)) ?_
      refine m1_pure rfl (y_sub rfl rfl) rfl ?_
      refine m1_call (PA.mk_ok rfl rfl rfl) rfl rfl rfl rfl rfl (fun w26m hx26m => ?_)
      have hz_hx26m := hx26m.size
      replace hb4 := hb4.ext hx26m
      replace hb2 := hb2.ext hx26m
      replace h := h.ext hx26m
      replace E := E.trans hx26m
      (refine mc_ret (added_c _) ?_; rintro _ w26 ⟨d26, ⟨rfl, ⟨hp1_26, hx26⟩⟩⟩; refine ⟨hx26, ?_⟩)
      have hl_hp1_26 := hp1_26.lt
      have hz_hx26 := hx26.size
      replace hb4 := hb4.ext hx26
      replace hb2 := hb2.ext hx26
      replace h := h.ext hx26
      replace E := E.trans hx26
      refine m1_pure rfl (y_move rfl) rfl ?_
      refine m1_pure rfl (y_extract rfl rfl) rfl ?_
      refine m1_any rfl (fun _ => y_extract rfl rfl) rfl ?_
      refine m1_any rfl (fun _ => y_extract rfl rfl) rfl ?_
      (refine m1_end (PA.mk_ok rfl rfl rfl) ?_; intro w8e hx8e hz8e b8 hb8 hlb8 hg8; simp only [Gaps, and_true] at hg8; have hu8 := hb8.lt)
      have hz_hx8e := hx8e.size
      replace hp1_26 := hp1_26.ext hx8e
      replace hb4 := hb4.ext hx8e
      replace hb2 := hb2.ext hx8e
      replace h := h.ext hx8e
      replace E := E.trans hx8e
      refine h_one rfl ?_
      refine w_store_boxs rfl rfl (next := fun ws58 hbs58 hxs58 hss58 => ?_)
      (replace hb8 := hbs58; clear hbs58)
      have hz_hxs58 := hxs58.size
      replace hp1_26 := hp1_26.chg hxs58 (by omega)
      replace hb4 := hb4.chg hxs58 (by omega)
      replace hb2 := hb2.chg hxs58 (by omega)
      replace h := h.chg hxs58 (by omega)
      replace E := E.next hxs58 (by omega)
      refine w_nil ?_
      refine x_heldk ?_
      refine h_pure rfl (y_assign rfl) rfl ?_
      refine h_pure rfl (y_assign rfl) rfl ?_
      refine h_nil ?_
      refine x_next ?_
      refine c_seq ?_
      refine c_seq ?_
      refine c_region ?_
      refine w_pure (y_move rfl) rfl ?_
      refine w_nil ?_
      refine x_next ?_
      (refine c_dec rfl (fun hc30 => ?_) (fun hc30 => ?_) <;> try (first | exact absurd rfl hc30 | contradiction | exact Bool.noConfusion (show false = true from hc30.symm.trans (by assumption)) | exact Bool.noConfusion (show true = false from hc30.symm.trans (by assumption)) | (exfalso; omega) | (exfalso; simp only [*, Bool.not_true, Bool.not_false, reduceCtorEq] at hc30; done)))
      refine c_region ?_
      refine w_pure (y_load_boxs rfl) rfl ?_
      (refine w_call rfl rfl rfl (added_c _) rfl ?_; rintro _ w33 ⟨d33, ⟨rfl, ⟨hp1_33, hx33⟩⟩⟩)
      have hl_hp1_33 := hp1_33.lt
      have hz_hx33 := hx33.size
      replace hb8 := hb8.ext hx33
      replace hp1_26 := hp1_26.ext hx33
      replace hb4 := hb4.ext hx33
      replace hb2 := hb2.ext hx33
      replace h := h.ext hx33
      replace E := E.trans hx33
      refine w_pure (y_move rfl) rfl ?_
      refine w_pure (y_extract rfl rfl) rfl ?_
      refine w_pure (y_extract rfl rfl) rfl ?_
      refine w_pure (y_extract rfl rfl) rfl ?_
      refine w_store_boxs rfl rfl (next := fun ws79 hbs79 hxs79 hss79 => ?_)
      (replace hb8 := hbs79; clear hbs79)
      have hz_hxs79 := hxs79.size
      replace hp1_33 := hp1_33.chg hxs79 (by omega)
      replace hp1_26 := hp1_26.chg hxs79 (by omega)
      replace hb4 := hb4.chg hxs79 (by omega)
      replace hb2 := hb2.chg hxs79 (by omega)
      replace h := h.chg hxs79 (by omega)
      replace E := E.next hxs79 (by omega)
      refine w_nil ?_
      refine x_next ?_
      refine c_seq ?_
      refine c_region ?_
      refine w_pure (y_load_boxs rfl) rfl ?_
      refine w_pure (y_move rfl) rfl ?_
      refine w_store_boxs rfl rfl (next := fun ws86 hbs86 hxs86 hss86 => ?_)
      (replace hb4 := hbs86; clear hbs86)
      have hz_hxs86 := hxs86.size
      replace hb8 := hb8.chg hxs86 (by omega)
      replace hp1_33 := hp1_33.chg hxs86 (by omega)
      replace hp1_26 := hp1_26.chg hxs86 (by omega)
      replace hb2 := hb2.chg hxs86 (by omega)
      replace h := h.chg hxs86 (by omega)
      replace E := E.next hxs86 (by omega)
      refine w_pure (y_assign rfl) rfl ?_
      refine w_pure (y_assign rfl) rfl ?_
      refine w_nil ?_
      refine x_next ?_
      refine c_ret ?_
      rotate_left
      refine c_skip ?_
      refine x_next ?_
      refine c_seq ?_
      refine c_region ?_
      refine w_pure (y_load_boxs rfl) rfl ?_
      refine w_pure (y_move rfl) rfl ?_
      refine w_store_boxs rfl rfl (next := fun ws99 hbs99 hxs99 hss99 => ?_)
      (replace hb4 := hbs99; clear hbs99)
      have hz_hxs99 := hxs99.size
      replace hb8 := hb8.chg hxs99 (by omega)
      replace hp1_26 := hp1_26.chg hxs99 (by omega)
      replace hb2 := hb2.chg hxs99 (by omega)
      replace h := h.chg hxs99 (by omega)
      replace E := E.next hxs99 (by omega)
      refine w_pure (y_assign rfl) rfl ?_
      refine w_pure (y_assign rfl) rfl ?_
      refine w_nil ?_
      refine x_next ?_
      refine c_ret ?_
      rotate_left
    all_goals have ht : topTake xs n = decide ((takeP xs n).2.2 = 1) := by simp [topTake, e]
    · have hc : (takeP xs n).2.2 = 1 := hc30
      refine x_retv [_, _, _] rfl ⟨⟨_, rfl, run_load_str (Box.at (by assumption)) (by rfl)⟩, rfl, rfl, trivial⟩ ⟨d33, by rw [ht, e]; rfl, ?_, E.go⟩
      rw [resTake, if_pos e, takeD, if_pos hc]; exact hp1_33.base (by omega)
    · have hc : ¬ (takeP xs n).2.2 = 1 := hc30
      refine x_retv [_, _, _] rfl ⟨⟨_, rfl, run_load_str (Box.at (by assumption)) (by rfl)⟩, rfl, rfl, trivial⟩ ⟨d26, by rw [ht, e]; rfl, ?_, E.go⟩
      rw [resTake, if_pos e, takeD, if_neg hc]; exact hp1_26.base (by omega)
  · refine ret_enter Tryd.func31 rfl Tryd.ntmps31 rfl ?_
    focus
      have ht_h := h.top
      refine c_seq ?_
      refine c_region ?_
      refine w_box rfl (k := fun b2 w2 hb2 hx2 hl2 hs2 => ?_)
      have hz_hx2 := hx2.size
      replace h := h.ext hx2
      replace E := E.trans hx2
      refine w_alloc (k := fun b4 w4 hb4 hx4 hl4 hs4 => ?_)
      have hz_hx4 := hx4.size
      replace hb2 := hb2.ext hx4
      replace h := h.ext hx4
      replace E := E.trans hx4
      refine w_pure (y_assign rfl) rfl ?_
      refine w_pure (y_assign rfl) rfl ?_
      refine w_nil ?_
      refine x_next ?_
      refine c_seq ?_
      refine c_seq ?_
      refine c_region ?_
      refine w_pure (y_load_boxs rfl) rfl ?_
      refine w_pure (y_move rfl) rfl ?_
      refine w_val rfl rfl rfl (countCode_c _) rfl (fun w13 hx13 hz13 => ?_)
      have hz_hx13 := hx13.size
      replace hb4 := hb4.ext hx13
      replace hb2 := hb2.ext hx13
      replace h := h.ext hx13
      replace E := E.trans hx13
      refine w_pure (y_assign rfl) rfl ?_
      refine w_nil ?_
      refine x_next ?_
      refine c_seq ?_
      refine c_region ?_
      refine w_pure (y_move rfl) rfl ?_
      refine w_pure (y_ne rfl rfl) rfl ?_
      refine w_nil ?_
      refine x_next ?_
      (refine c_dec rfl (fun hc15 => ?_) (fun hc15 => ?_) <;> try (first | exact absurd rfl hc15 | contradiction | exact Bool.noConfusion (show false = true from hc15.symm.trans (by assumption)) | exact Bool.noConfusion (show true = false from hc15.symm.trans (by assumption)) | (exfalso; omega) | (exfalso; simp only [*, Bool.not_true, Bool.not_false, reduceCtorEq] at hc15; done)))
      refine c_seq ?_
      refine c_region ?_
      refine w_pure (y_build rfl) rfl ?_
      refine w_pure (y_move rfl) rfl ?_
      refine w_store_boxs rfl rfl (next := fun ws29 hbs29 hxs29 hss29 => ?_)
      (replace hb4 := hbs29; clear hbs29)
      have hz_hxs29 := hxs29.size
      replace hb2 := hb2.chg hxs29 (by omega)
      replace h := h.chg hxs29 (by omega)
      replace E := E.next hxs29 (by omega)
      refine w_pure (y_assign rfl) rfl ?_
      refine w_pure (y_assign rfl) rfl ?_
      refine w_nil ?_
      refine x_next ?_
      refine c_ret ?_
      refine x_then_ret ?_
      rotate_left
    exact x_retv [_, _, _] rfl ⟨⟨_, rfl, run_load_str (Box.at (by assumption)) (by rfl)⟩, rfl, rfl, trivial⟩ ⟨_, by simp [topTake, e]; rfl, by rw [resTake, if_neg e]; exact Own.nil _ _ _, E.go⟩
theorem l11Nines_c (n : Int) (hp : At w b 0 [v] := by repeat (first | assumption | exact Go.Gw.Own.sl (by assumption) | exact Go.Gw.Box.at (by assumption) | exact Go.Gw.SLL.el (by first | assumption | exact Go.Gw.OwnD.sll (by assumption)) _ (by omega) | exact Go.Gw.SLL.at (by first | assumption | exact Go.Gw.OwnD.sll (by assumption)) (by omega) | exact Go.Gw.OwnD.sll (by assumption) | (apply Go.Gw.SL.chg; case hx => assumption) | (apply Go.Gw.Own.chg; case hx => assumption) | (apply Go.Gw.Box.chg; case hx => assumption) | (apply Go.Gw.At.chg; case hx => assumption) | exact .inl (Nat.zero_le _) | exact .inr (Nat.zero_le _) | (show _ ∨ _; omega))) (h : SL w lo hi v xs := by repeat (first | assumption | exact Go.Gw.Own.sl (by assumption) | exact Go.Gw.Box.at (by assumption) | exact Go.Gw.SLL.el (by first | assumption | exact Go.Gw.OwnD.sll (by assumption)) _ (by omega) | exact Go.Gw.SLL.at (by first | assumption | exact Go.Gw.OwnD.sll (by assumption)) (by omega) | exact Go.Gw.OwnD.sll (by assumption) | (apply Go.Gw.SL.chg; case hx => assumption) | (apply Go.Gw.Own.chg; case hx => assumption) | (apply Go.Gw.Box.chg; case hx => assumption) | (apply Go.Gw.At.chg; case hx => assumption) | exact .inl (Nat.zero_le _) | exact .inr (Nat.zero_le _) | (show _ ∨ _; omega))) (hl : xs.length ≤ 12 := by omega) (hn : 0 ≤ n ∧ n ≤ 1000000000000 := by omega) : Val Tryd.prog 105 [ptr b 0, .int .i64 n] w (.int .i64 (10 ^ xs.length - 1 - n)) := by
  refine ⟨fun w1 hx1 => ?_⟩
  have E : Since 0 0 w1 w1 := Since.refl 0 0 w1
  have q7 := pow10_12 (k := ((xs.length : Int)).toNat) (by omega)
  have q8 := pow10_pos ((xs.length : Int)).toNat
  refine ret_enter Tryd.func105 rfl Tryd.ntmps105 rfl ?_
  focus
    have ht_h := h.top
    have hz_hx1 := hx1.size
    replace hp := hp.ext hx1
    replace h := h.ext hx1
    refine c_seq ?_
    refine c_region ?_
    refine w_pure (y_assign rfl) rfl ?_
    refine w_nil ?_
    refine x_next ?_
    refine c_seq ?_
    refine c_region ?_
    refine w_pure (y_move rfl) rfl ?_
    refine w_pure (y_nil rfl) rfl ?_
    refine w_pure (y_field rfl) rfl ?_
    refine w_pure (y_loadk rfl) rfl ?_
    refine w_pure (y_len rfl) rfl ?_
    refine w_pur rfl rfl rfl (l11Power_c _ (by omega) (by omega)) rfl ?_
    refine w_pure (y_sub rfl rfl) rfl ?_
    refine w_pure (y_move rfl) rfl ?_
    refine w_pure (y_sub rfl rfl) rfl ?_
    refine w_pure (y_assign rfl) rfl ?_
    refine w_nil ?_
    refine x_next ?_
    refine c_ret ?_
    rotate_left
  exact x_retv [_] rfl ⟨rfl, trivial⟩ ⟨rfl, E.go⟩
theorem l11Take_c (n : Int) (hp : At w b 0 [v] := by repeat (first | assumption | exact Go.Gw.Own.sl (by assumption) | exact Go.Gw.Box.at (by assumption) | exact Go.Gw.SLL.el (by first | assumption | exact Go.Gw.OwnD.sll (by assumption)) _ (by omega) | exact Go.Gw.SLL.at (by first | assumption | exact Go.Gw.OwnD.sll (by assumption)) (by omega) | exact Go.Gw.OwnD.sll (by assumption) | (apply Go.Gw.SL.chg; case hx => assumption) | (apply Go.Gw.Own.chg; case hx => assumption) | (apply Go.Gw.Box.chg; case hx => assumption) | (apply Go.Gw.At.chg; case hx => assumption) | exact .inl (Nat.zero_le _) | exact .inr (Nat.zero_le _) | (show _ ∨ _; omega))) (h : SL w lo hi v xs := by repeat (first | assumption | exact Go.Gw.Own.sl (by assumption) | exact Go.Gw.Box.at (by assumption) | exact Go.Gw.SLL.el (by first | assumption | exact Go.Gw.OwnD.sll (by assumption)) _ (by omega) | exact Go.Gw.SLL.at (by first | assumption | exact Go.Gw.OwnD.sll (by assumption)) (by omega) | exact Go.Gw.OwnD.sll (by assumption) | (apply Go.Gw.SL.chg; case hx => assumption) | (apply Go.Gw.Own.chg; case hx => assumption) | (apply Go.Gw.Box.chg; case hx => assumption) | (apply Go.Gw.At.chg; case hx => assumption) | exact .inl (Nat.zero_le _) | exact .inr (Nat.zero_le _) | (show _ ∨ _; omega))) (hd : Digs xs := by assumption) (hl : xs.length ≤ 12 := by omega) (hn : 0 ≤ n ∧ n ≤ 10 ^ xs.length - 1 := by omega) : Ret Tryd.prog 87 [ptr b 0, .int .i64 n] w fun u w' =>
    ∃ d, u = .tuple #[.agg #[d], .bool (decide ((takeP xs n).2.2 = 1))] ∧ Own w' 2 w.heap.size d (takeD xs n) ∧ Ext w w' := by
  have E : Since 0 0 w w := Since.refl 0 0 w
  have hbl := hp.lt
  have q7 := pow10_12 (k := xs.length) hl
  have q9 : Digs (addS xs (10 ^ xs.length - 1 - n) xs.length).1 := (addS_bd hd _ _).2.2.2.2
  have qb : (addS xs (10 ^ xs.length - 1 - n) xs.length).1.length = xs.length := addS_len _ _ _
  refine ret_enter Tryd.func87 rfl Tryd.ntmps87 rfl ?_
  focus
    have ht_h := h.top
    refine c_seq ?_
    refine c_region ?_
    refine w_alloc (k := fun b4 w4 hb4 hx4 hl4 hs4 => ?_)
    have hz_hx4 := hx4.size
    replace hp := hp.ext hx4
    replace h := h.ext hx4
    replace E := E.trans hx4
    refine w_pure (y_assign rfl) rfl ?_
    refine w_nil ?_
    refine x_next ?_
    refine c_seq ?_
    refine c_region ?_
    refine w_pure (y_move rfl) rfl ?_
    refine w_pure (y_move rfl) rfl ?_
    refine w_pure (y_move rfl) rfl ?_
    refine w_val rfl rfl rfl (l11Nines_c _) rfl (fun w13 hx13 hz13 => ?_)
    have hz_hx13 := hx13.size
    replace hb4 := hb4.ext hx13
    replace hp := hp.ext hx13
    replace h := h.ext hx13
    replace E := E.trans hx13
    (refine w_call rfl rfl rfl (l11Add_c _) rfl ?_; rintro _ w14 ⟨d14, ⟨rfl, ⟨hp1_14, hx14⟩⟩⟩)
    have hl_hp1_14 := hp1_14.lt
    have hz_hx14 := hx14.size
    replace hb4 := hb4.ext hx14
    replace hp := hp.ext hx14
    replace h := h.ext hx14
    replace E := E.trans hx14
    refine w_pure (y_move rfl) rfl ?_
    refine w_pure (y_extract rfl rfl) rfl ?_
    refine w_pure (y_extract rfl rfl) rfl ?_
    refine w_pure (y_extract rfl rfl) rfl ?_
    refine w_alloc (k := fun b6 w6 hb6 hx6 hl6 hs6 => ?_)
    have hz_hx6 := hx6.size
    replace hp1_14 := hp1_14.ext hx6
    replace hb4 := hb4.ext hx6
    replace hp := hp.ext hx6
    replace h := h.ext hx6
    replace E := E.trans hx6
    refine w_store_boxs rfl rfl (next := fun ws19 hbs19 hxs19 hss19 => ?_)
    (replace hb6 := hbs19; clear hbs19)
    have hz_hxs19 := hxs19.size
    replace hp1_14 := hp1_14.chg hxs19 (by omega)
    replace hb4 := hb4.chg hxs19 (by omega)
    replace hp := hp.chg hxs19 (by omega)
    replace h := h.chg hxs19 (by omega)
    replace E := E.next hxs19 (by omega)
    refine w_pure (y_assign rfl) rfl ?_
    refine w_pure (y_assign rfl) rfl ?_
    refine w_nil ?_
    refine x_next ?_
    refine c_seq ?_
    refine c_seq ?_
    refine c_region ?_
    refine w_pure (y_move rfl) rfl ?_
    refine w_nil ?_
    refine x_next ?_
    (refine c_dec rfl (fun hc18 => ?_) (fun hc18 => ?_) <;> try (first | exact absurd rfl hc18 | contradiction | exact Bool.noConfusion (show false = true from hc18.symm.trans (by assumption)) | exact Bool.noConfusion (show true = false from hc18.symm.trans (by assumption)) | (exfalso; omega) | (exfalso; simp only [*, Bool.not_true, Bool.not_false, reduceCtorEq] at hc18; done)))
    refine c_region ?_
    (refine w_call rfl rfl rfl (l11Add_c _) rfl ?_; rintro _ w20 ⟨d20, ⟨rfl, ⟨hp1_20, hx20⟩⟩⟩)
    have hl_hp1_20 := hp1_20.lt
    have hz_hx20 := hx20.size
    replace hb6 := hb6.ext hx20
    replace hp1_14 := hp1_14.ext hx20
    replace hb4 := hb4.ext hx20
    replace hp := hp.ext hx20
    replace h := h.ext hx20
    replace E := E.trans hx20
    refine w_pure (y_move rfl) rfl ?_
    refine w_pure (y_extract rfl rfl) rfl ?_
    refine w_pure (y_extract rfl rfl) rfl ?_
    refine w_pure (y_extract rfl rfl) rfl ?_
    refine w_store_boxs rfl rfl (next := fun ws37 hbs37 hxs37 hss37 => ?_)
    (replace hb6 := hbs37; clear hbs37)
    have hz_hxs37 := hxs37.size
    replace hp1_20 := hp1_20.chg hxs37 (by omega)
    replace hp1_14 := hp1_14.chg hxs37 (by omega)
    replace hb4 := hb4.chg hxs37 (by omega)
    replace hp := hp.chg hxs37 (by omega)
    replace h := h.chg hxs37 (by omega)
    replace E := E.next hxs37 (by omega)
    refine w_nil ?_
    refine x_next ?_
    refine c_seq ?_
    refine c_region ?_
    refine w_pure (y_load_boxs rfl) rfl ?_
    refine w_pure (y_move rfl) rfl ?_
    refine w_store_boxs rfl rfl (next := fun ws44 hbs44 hxs44 hss44 => ?_)
    (replace hb4 := hbs44; clear hbs44)
    have hz_hxs44 := hxs44.size
    replace hb6 := hb6.chg hxs44 (by omega)
    replace hp1_20 := hp1_20.chg hxs44 (by omega)
    replace hp1_14 := hp1_14.chg hxs44 (by omega)
    replace hp := hp.chg hxs44 (by omega)
    replace h := h.chg hxs44 (by omega)
    replace E := E.next hxs44 (by omega)
    refine w_pure (y_assign rfl) rfl ?_
    refine w_nil ?_
    refine x_next ?_
    refine c_ret ?_
    rotate_left
    refine c_skip ?_
    refine x_next ?_
    refine c_seq ?_
    refine c_region ?_
    refine w_pure (y_load_boxs rfl) rfl ?_
    refine w_pure (y_move rfl) rfl ?_
    refine w_store_boxs rfl rfl (next := fun ws56 hbs56 hxs56 hss56 => ?_)
    (replace hb4 := hbs56; clear hbs56)
    have hz_hxs56 := hxs56.size
    replace hb6 := hb6.chg hxs56 (by omega)
    replace hp1_14 := hp1_14.chg hxs56 (by omega)
    replace hp := hp.chg hxs56 (by omega)
    replace h := h.chg hxs56 (by omega)
    replace E := E.next hxs56 (by omega)
    refine w_pure (y_assign rfl) rfl ?_
    refine w_nil ?_
    refine x_next ?_
    refine c_ret ?_
    rotate_left
  · have hc : (takeP xs n).2.2 = 1 := hc18
    refine x_retv [_, _] rfl ⟨⟨_, rfl, run_load_str (Box.at (by assumption)) (by rfl)⟩, rfl, trivial⟩ ⟨_, rfl, ?_, E.go⟩
    rw [takeD, if_pos hc]; exact Own.base (by assumption) (by omega)
  · have hc : ¬ (takeP xs n).2.2 = 1 := hc18
    refine x_retv [_, _] rfl ⟨⟨_, rfl, run_load_str (Box.at (by assumption)) (by rfl)⟩, rfl, trivial⟩ ⟨_, rfl, ?_, E.go⟩
    rw [takeD, if_neg hc]; exact Own.base (by assumption) (by omega)
theorem sTakeFromCounter_c (n : Int) (h : SL w lo hi v xs := by repeat (first | assumption | exact Go.Gw.Own.sl (by assumption) | exact Go.Gw.Box.at (by assumption) | exact Go.Gw.SLL.el (by first | assumption | exact Go.Gw.OwnD.sll (by assumption)) _ (by omega) | exact Go.Gw.SLL.at (by first | assumption | exact Go.Gw.OwnD.sll (by assumption)) (by omega) | exact Go.Gw.OwnD.sll (by assumption) | (apply Go.Gw.SL.chg; case hx => assumption) | (apply Go.Gw.Own.chg; case hx => assumption) | (apply Go.Gw.Box.chg; case hx => assumption) | (apply Go.Gw.At.chg; case hx => assumption) | exact .inl (Nat.zero_le _) | exact .inr (Nat.zero_le _) | (show _ ∨ _; omega))) : Ret Tryd.prog 32 [.agg #[v], .int .i64 n] w fun u w' =>
    ∃ d, u = .tuple #[.agg #[d], .bool (topTake xs n), .int .i64 (codeN xs n)] ∧ Own w' 2 w.heap.size d (resTake xs n) ∧ Ext w w' := by
  have E : Since 0 0 w w := Since.refl 0 0 w
  by_cases e : codeN xs n = 0
  · obtain ⟨hk, q1, q2, q3⟩ := codeN_ok e
    have q4 := okC_len hk
    have q5 : Digs xs := okC_dig hk
    refine ret_enter Tryd.func32 rfl Tryd.ntmps32 rfl ?_
    focus
      have ht_h := h.top
      refine c_seq ?_
      refine c_region ?_
      refine w_box rfl (k := fun b2 w2 hb2 hx2 hl2 hs2 => ?_)
      have hz_hx2 := hx2.size
      replace h := h.ext hx2
      replace E := E.trans hx2
      refine w_alloc (k := fun b4 w4 hb4 hx4 hl4 hs4 => ?_)
      have hz_hx4 := hx4.size
      replace hb2 := hb2.ext hx4
      replace h := h.ext hx4
      replace E := E.trans hx4
      refine w_pure (y_assign rfl) rfl ?_
      refine w_pure (y_assign rfl) rfl ?_
      refine w_nil ?_
      refine x_next ?_
      refine c_seq ?_
      refine c_region ?_
      refine w_pure (y_move rfl) rfl ?_
      refine w_val rfl rfl rfl (l11Code_c _) rfl (fun w11 hx11 hz11 => ?_)
      have hz_hx11 := hx11.size
      replace hb4 := hb4.ext hx11
      replace hb2 := hb2.ext hx11
      replace h := h.ext hx11
      replace E := E.trans hx11
      refine w_pure (y_assign rfl) rfl ?_
      refine w_nil ?_
      refine x_next ?_
      refine c_seq ?_
      refine c_seq ?_
      refine c_region ?_
      refine w_pure (y_move rfl) rfl ?_
      refine w_pure (y_ne rfl rfl) rfl ?_
      refine w_nil ?_
      refine x_next ?_
      (refine c_dec rfl (fun hc13 => ?_) (fun hc13 => ?_) <;> try (first | exact absurd rfl hc13 | contradiction | exact Bool.noConfusion (show false = true from hc13.symm.trans (by assumption)) | exact Bool.noConfusion (show true = false from hc13.symm.trans (by assumption)) | (exfalso; omega) | (exfalso; simp only [*, Bool.not_true, Bool.not_false, reduceCtorEq] at hc13; done)))
      refine c_skip ?_
      refine x_next ?_
      refine c_seq ?_
      refine c_region ?_
      refine w_pure (y_move rfl) rfl ?_
      (refine w_call rfl rfl rfl (l11Take_c _) rfl ?_; rintro _ w18 ⟨d18, ⟨rfl, ⟨hp1_18, hx18⟩⟩⟩)
      have hl_hp1_18 := hp1_18.lt
      have hz_hx18 := hx18.size
      replace hb4 := hb4.ext hx18
      replace hb2 := hb2.ext hx18
      replace h := h.ext hx18
      replace E := E.trans hx18
      refine w_pure (y_move rfl) rfl ?_
      refine w_pure (y_extract rfl rfl) rfl ?_
      refine w_pure (y_extract rfl rfl) rfl ?_
      refine w_alloc (k := fun b8 w8 hb8 hx8 hl8 hs8 => ?_)
      have hz_hx8 := hx8.size
      replace hp1_18 := hp1_18.ext hx8
      replace hb4 := hb4.ext hx8
      replace hb2 := hb2.ext hx8
      replace h := h.ext hx8
      replace E := E.trans hx8
      refine w_store_boxs rfl rfl (next := fun ws34 hbs34 hxs34 hss34 => ?_)
      (replace hb8 := hbs34; clear hbs34)
      have hz_hxs34 := hxs34.size
      replace hp1_18 := hp1_18.chg hxs34 (by omega)
      replace hb4 := hb4.chg hxs34 (by omega)
      replace hb2 := hb2.chg hxs34 (by omega)
      replace h := h.chg hxs34 (by omega)
      replace E := E.next hxs34 (by omega)
      refine w_pure (y_assign rfl) rfl ?_
      refine w_nil ?_
      refine x_next ?_
      refine c_seq ?_
      refine c_region ?_
      refine w_pure (y_load_boxs rfl) rfl ?_
      refine w_pure (y_move rfl) rfl ?_
      refine w_store_boxs rfl rfl (next := fun ws42 hbs42 hxs42 hss42 => ?_)
      (replace hb4 := hbs42; clear hbs42)
      have hz_hxs42 := hxs42.size
      replace hb8 := hb8.chg hxs42 (by omega)
      replace hp1_18 := hp1_18.chg hxs42 (by omega)
      replace hb2 := hb2.chg hxs42 (by omega)
      replace h := h.chg hxs42 (by omega)
      replace E := E.next hxs42 (by omega)
      refine w_pure (y_assign rfl) rfl ?_
      refine w_pure (y_assign rfl) rfl ?_
      refine w_nil ?_
      refine x_next ?_
      refine c_ret ?_
      rotate_left
    exact x_retv [_, _, _] rfl ⟨⟨_, rfl, run_load_str (Box.at (by assumption)) (by rfl)⟩, rfl, rfl, trivial⟩ ⟨_, by simp [topTake, e]; rfl, by rw [resTake, if_pos e]; exact Own.base (by assumption) (by omega), E.go⟩
  · refine ret_enter Tryd.func32 rfl Tryd.ntmps32 rfl ?_
    focus
      have ht_h := h.top
      refine c_seq ?_
      refine c_region ?_
      refine w_box rfl (k := fun b2 w2 hb2 hx2 hl2 hs2 => ?_)
      have hz_hx2 := hx2.size
      replace h := h.ext hx2
      replace E := E.trans hx2
      refine w_alloc (k := fun b4 w4 hb4 hx4 hl4 hs4 => ?_)
      have hz_hx4 := hx4.size
      replace hb2 := hb2.ext hx4
      replace h := h.ext hx4
      replace E := E.trans hx4
      refine w_pure (y_assign rfl) rfl ?_
      refine w_pure (y_assign rfl) rfl ?_
      refine w_nil ?_
      refine x_next ?_
      refine c_seq ?_
      refine c_region ?_
      refine w_pure (y_move rfl) rfl ?_
      refine w_val rfl rfl rfl (l11Code_c _) rfl (fun w11 hx11 hz11 => ?_)
      have hz_hx11 := hx11.size
      replace hb4 := hb4.ext hx11
      replace hb2 := hb2.ext hx11
      replace h := h.ext hx11
      replace E := E.trans hx11
      refine w_pure (y_assign rfl) rfl ?_
      refine w_nil ?_
      refine x_next ?_
      refine c_seq ?_
      refine c_seq ?_
      refine c_region ?_
      refine w_pure (y_move rfl) rfl ?_
      refine w_pure (y_ne rfl rfl) rfl ?_
      refine w_nil ?_
      refine x_next ?_
      (refine c_dec rfl (fun hc13 => ?_) (fun hc13 => ?_) <;> try (first | exact absurd rfl hc13 | contradiction | exact Bool.noConfusion (show false = true from hc13.symm.trans (by assumption)) | exact Bool.noConfusion (show true = false from hc13.symm.trans (by assumption)) | (exfalso; omega) | (exfalso; simp only [*, Bool.not_true, Bool.not_false, reduceCtorEq] at hc13; done)))
      refine c_seq ?_
      refine c_region ?_
      refine w_pure (y_build rfl) rfl ?_
      refine w_pure (y_move rfl) rfl ?_
      refine w_store_boxs rfl rfl (next := fun ws28 hbs28 hxs28 hss28 => ?_)
      (replace hb4 := hbs28; clear hbs28)
      have hz_hxs28 := hxs28.size
      replace hb2 := hb2.chg hxs28 (by omega)
      replace h := h.chg hxs28 (by omega)
      replace E := E.next hxs28 (by omega)
      refine w_pure (y_assign rfl) rfl ?_
      refine w_pure (y_assign rfl) rfl ?_
      refine w_nil ?_
      refine x_next ?_
      refine c_ret ?_
      refine x_then_ret ?_
      rotate_left
    exact x_retv [_, _, _] rfl ⟨⟨_, rfl, run_load_str (Box.at (by assumption)) (by rfl)⟩, rfl, rfl, trivial⟩ ⟨_, by simp [topTake, e]; rfl, by rw [resTake, if_neg e]; exact Own.nil _ _ _, E.go⟩

/-! ### complements -/
def comp (xs : List Int) : List Int := (List.range xs.length).map fun j => 9 - xs.getD j 0
theorem comp_len (xs : List Int) : (comp xs).length = xs.length := by simp [comp]
theorem comp_map (xs : List Int) : comp xs = xs.map fun d => 9 - d := by
  apply List.ext_getElem (by simp [comp])
  intro i h1 h2
  have hi : i < xs.length := by simpa [comp] using h1
  simp [comp, List.getD_eq_getElem?_getD, hi]
theorem digs_comp : ∀ (xs : List Int), Digs xs → digs xs.length (10 ^ xs.length - 1 - valD xs) = xs.map fun d => 9 - d
  | [], _ => rfl
  | d :: r, h => by
    have h1 := h d (by simp)
    have h2 := valD_bd (xs := r) (fun x hx => h x (by simp [hx]))
    have ih := digs_comp r (fun x hx => h x (by simp [hx]))
    rw [List.length_cons, digs, valD, Int.pow_succ]
    rw [show (10 ^ r.length * 10 - 1 - (d + 10 * valD r)) % 10 = 9 - d by omega, show (10 ^ r.length * 10 - 1 - (d + 10 * valD r)) / 10 = 10 ^ r.length - 1 - valD r by omega, ih]
    rfl
def resComp (xs : List Int) : List Int := if okC xs = true then comp xs else []
def codeOk (xs : List Int) : Int := if okC xs = true then 0 else 1
theorem resComp_len (xs : List Int) : (resComp xs).length ≤ 12 := by
  unfold resComp; split
  · rename_i h; rw [comp_len]; exact (okC_len h).2
  · simp
theorem iComplementOf_c (h : SL w lo hi v xs := by repeat (first | assumption | exact Go.Gw.Own.sl (by assumption) | exact Go.Gw.Box.at (by assumption) | exact Go.Gw.SLL.el (by first | assumption | exact Go.Gw.OwnD.sll (by assumption)) _ (by omega) | exact Go.Gw.SLL.at (by first | assumption | exact Go.Gw.OwnD.sll (by assumption)) (by omega) | exact Go.Gw.OwnD.sll (by assumption) | (apply Go.Gw.SL.chg; case hx => assumption) | (apply Go.Gw.Own.chg; case hx => assumption) | (apply Go.Gw.Box.chg; case hx => assumption) | (apply Go.Gw.At.chg; case hx => assumption) | exact .inl (Nat.zero_le _) | exact .inr (Nat.zero_le _) | (show _ ∨ _; omega))) : Ret Tryd.prog 36 [.agg #[v]] w fun u w' => ∃ d, u = .tuple #[.agg #[d], .int .i64 (codeOk xs)] ∧ Own w' 2 w.heap.size d (resComp xs) ∧ Ext w w' := by
  have E : Since 0 0 w w := Since.refl 0 0 w
  by_cases hk : okC xs = true
  · have q4 := okC_len hk
    have q5 : Digs xs := okC_dig hk
    have q7 := pow10_12 (k := ((xs.length : Int)).toNat) (by omega)
    have q8 : 0 ≤ valD xs ∧ valD xs < 10 ^ ((xs.length : Int)).toNat := valD_bd q5
    refine ret_enter Tryd.func36 rfl Tryd.ntmps36 rfl ?_
    focus
      have ht_h := h.top
      refine c_seq ?_
      refine c_region ?_
      refine w_box rfl (k := fun b1 w1 hb1 hx1 hl1 hs1 => ?_)
      have hz_hx1 := hx1.size
      replace h := h.ext hx1
      replace E := E.trans hx1
      refine w_alloc (k := fun b2 w2 hb2 hx2 hl2 hs2 => ?_)
      have hz_hx2 := hx2.size
      replace hb1 := hb1.ext hx2
      replace h := h.ext hx2
      replace E := E.trans hx2
      refine w_pure (y_assign rfl) rfl ?_
      refine w_nil ?_
      refine x_next ?_
      refine c_seq ?_
      refine c_seq ?_
      refine c_region ?_
      refine w_pure (y_load_boxs rfl) rfl ?_
      refine w_val rfl rfl rfl (iValidCounter_c) rfl (fun w5 hx5 hz5 => ?_)
      have hz_hx5 := hx5.size
      replace hb2 := hb2.ext hx5
      replace hb1 := hb1.ext hx5
      replace h := h.ext hx5
      replace E := E.trans hx5
      refine w_pure (y_not rfl) rfl ?_
      refine w_nil ?_
      refine x_next ?_
      (refine c_not rfl (fun hc6 => ?_) (fun hc6 => ?_) <;> try (first | exact absurd rfl hc6 | contradiction | exact Bool.noConfusion (show false = true from hc6.symm.trans (by assumption)) | exact Bool.noConfusion (show true = false from hc6.symm.trans (by assumption)) | (exfalso; omega) | (exfalso; simp only [*, Bool.not_true, Bool.not_false, reduceCtorEq] at hc6; done)))
      refine c_skip ?_
      refine x_next ?_
      refine c_seq ?_
      refine c_region_held mixed (fun wr3 hxr3 hzr3 => ?_)
      have hz_hxr3 := hxr3.size
      replace hb2 := hb2.ext hxr3
      replace hb1 := hb1.ext hxr3
      replace h := h.ext hxr3
      replace E := E.trans hxr3
      refine h_pure rfl (y_field rfl) rfl ?_
      refine h_pure rfl (y_load_box rfl) rfl ?_
      refine h_turn ?_
      refine h_pure rfl (y_field rfl) rfl ?_
      refine h_pure rfl (y_load_box rfl) rfl ?_
      refine h_turn ?_
      refine h_turn ?_
      refine h_pure rfl (y_load_boxs rfl) rfl ?_
      refine h_turn ?_
      refine h_turn ?_
      refine h_turn ?_
      refine h_turn ?_
      refine h_turn ?_
      refine h_one rfl ?_
      refine w_val rfl rfl rfl (size_c) rfl (fun w10 hx10 hz10 => ?_)
      have hz_hx10 := hx10.size
      replace hb2 := hb2.ext hx10
      replace hb1 := hb1.ext hx10
      replace h := h.ext hx10
      replace E := E.trans hx10
      refine w_nil ?_
      refine x_held ?_
      refine h_one rfl ?_
      refine w_val rfl rfl rfl (size_c) rfl (fun w13 hx13 hz13 => ?_)
      have hz_hx13 := hx13.size
      replace hb2 := hb2.ext hx13
      replace hb1 := hb1.ext hx13
      replace h := h.ext hx13
      replace E := E.trans hx13
      refine w_nil ?_
      refine x_held ?_
      refine h_one rfl ?_
      refine w_pur rfl rfl rfl (nines_c _ (by omega) (by omega)) rfl ?_
      refine w_nil ?_
      refine x_held ?_
      refine h_one rfl ?_
      refine w_val rfl rfl rfl (shown_c (by omega)) rfl (fun w16 hx16 hz16 => ?_)
      have hz_hx16 := hx16.size
      replace hb2 := hb2.ext hx16
      replace hb1 := hb1.ext hx16
      replace h := h.ext hx16
      replace E := E.trans hx16
      refine w_nil ?_
      refine x_held ?_
      refine h_pure rfl (y_sub rfl rfl) rfl ?_
      refine h_one rfl ?_
      (refine w_call rfl rfl rfl (wheelsShow_c _ _ _ (by omega) (by omega) (by omega)) rfl ?_; rintro _ w18 ⟨d18, ⟨rfl, ⟨hp1_18, hx18⟩⟩⟩)
      have hl_hp1_18 := hp1_18.lt
      have hz_hx18 := hx18.size
      replace hb2 := hb2.ext hx18
      replace hb1 := hb1.ext hx18
      replace h := h.ext hx18
      replace E := E.trans hx18
      refine w_nil ?_
      refine x_held ?_
      refine h_one rfl ?_
      refine w_store_boxs rfl rfl (next := fun ws56 hbs56 hxs56 hss56 => ?_)
      (replace hb2 := hbs56; clear hbs56)
      have hz_hxs56 := hxs56.size
      replace hp1_18 := hp1_18.chg hxs56 (by omega)
      replace hb1 := hb1.chg hxs56 (by omega)
      replace h := h.chg hxs56 (by omega)
      replace E := E.next hxs56 (by omega)
      refine w_nil ?_
      refine x_heldk ?_
      refine h_pure rfl (y_assign rfl) rfl ?_
      refine h_nil ?_
      refine x_next ?_
      refine c_ret ?_
      rotate_left
    refine x_retv [_, _] rfl ⟨⟨_, rfl, run_load_str (Box.at (by assumption)) (by rfl)⟩, rfl, trivial⟩ ⟨_, by rw [codeOk, if_pos hk]; rfl, ?_, E.go⟩
    rw [resComp, if_pos hk, comp_map, ← digs_comp xs q5]; exact Own.base (by assumption) (by omega)
  · refine ret_enter Tryd.func36 rfl Tryd.ntmps36 rfl ?_
    focus
      have ht_h := h.top
      refine c_seq ?_
      refine c_region ?_
      refine w_box rfl (k := fun b1 w1 hb1 hx1 hl1 hs1 => ?_)
      have hz_hx1 := hx1.size
      replace h := h.ext hx1
      replace E := E.trans hx1
      refine w_alloc (k := fun b2 w2 hb2 hx2 hl2 hs2 => ?_)
      have hz_hx2 := hx2.size
      replace hb1 := hb1.ext hx2
      replace h := h.ext hx2
      replace E := E.trans hx2
      refine w_pure (y_assign rfl) rfl ?_
      refine w_nil ?_
      refine x_next ?_
      refine c_seq ?_
      refine c_seq ?_
      refine c_region ?_
      refine w_pure (y_load_boxs rfl) rfl ?_
      refine w_val rfl rfl rfl (iValidCounter_c) rfl (fun w5 hx5 hz5 => ?_)
      have hz_hx5 := hx5.size
      replace hb2 := hb2.ext hx5
      replace hb1 := hb1.ext hx5
      replace h := h.ext hx5
      replace E := E.trans hx5
      refine w_pure (y_not rfl) rfl ?_
      refine w_nil ?_
      refine x_next ?_
      (refine c_not rfl (fun hc6 => ?_) (fun hc6 => ?_) <;> try (first | exact absurd rfl hc6 | contradiction | exact Bool.noConfusion (show false = true from hc6.symm.trans (by assumption)) | exact Bool.noConfusion (show true = false from hc6.symm.trans (by assumption)) | (exfalso; omega) | (exfalso; simp only [*, Bool.not_true, Bool.not_false, reduceCtorEq] at hc6; done)))
      refine c_seq ?_
      refine c_region ?_
      refine w_pure (y_build rfl) rfl ?_
      refine w_store_boxs rfl rfl (next := fun ws20 hbs20 hxs20 hss20 => ?_)
      (replace hb2 := hbs20; clear hbs20)
      have hz_hxs20 := hxs20.size
      replace hb1 := hb1.chg hxs20 (by omega)
      replace h := h.chg hxs20 (by omega)
      replace E := E.next hxs20 (by omega)
      refine w_pure (y_assign rfl) rfl ?_
      refine w_nil ?_
      refine x_next ?_
      refine c_ret ?_
      refine x_then_ret ?_
      rotate_left
    exact x_retv [_, _] rfl ⟨⟨_, rfl, run_load_str (Box.at (by assumption)) (by rfl)⟩, rfl, trivial⟩ ⟨_, by rw [codeOk, if_neg hk]; rfl, by rw [resComp, if_neg hk]; exact Own.nil _ _ _, E.go⟩
theorem sComplementOf_c (h : SL w lo hi v xs := by repeat (first | assumption | exact Go.Gw.Own.sl (by assumption) | exact Go.Gw.Box.at (by assumption) | exact Go.Gw.SLL.el (by first | assumption | exact Go.Gw.OwnD.sll (by assumption)) _ (by omega) | exact Go.Gw.SLL.at (by first | assumption | exact Go.Gw.OwnD.sll (by assumption)) (by omega) | exact Go.Gw.OwnD.sll (by assumption) | (apply Go.Gw.SL.chg; case hx => assumption) | (apply Go.Gw.Own.chg; case hx => assumption) | (apply Go.Gw.Box.chg; case hx => assumption) | (apply Go.Gw.At.chg; case hx => assumption) | exact .inl (Nat.zero_le _) | exact .inr (Nat.zero_le _) | (show _ ∨ _; omega))) : Ret Tryd.prog 37 [.agg #[v]] w fun u w' => ∃ d, u = .tuple #[.agg #[d], .int .i64 (codeOk xs)] ∧ Own w' 2 w.heap.size d (resComp xs) ∧ Ext w w' := by
  have E : Since 0 0 w w := Since.refl 0 0 w
  by_cases hk : okC xs = true
  · have q4 := okC_len hk
    have q5 : Digs xs := okC_dig hk
    refine ret_enter Tryd.func37 rfl Tryd.ntmps37 rfl ?_
    focus
      have ht_h := h.top
      refine c_seq ?_
      refine c_region ?_
      refine w_box rfl (k := fun b1 w1 hb1 hx1 hl1 hs1 => ?_)
      have hz_hx1 := hx1.size
      replace h := h.ext hx1
      replace E := E.trans hx1
      refine w_alloc (k := fun b2 w2 hb2 hx2 hl2 hs2 => ?_)
      have hz_hx2 := hx2.size
      replace hb1 := hb1.ext hx2
      replace h := h.ext hx2
      replace E := E.trans hx2
      refine w_pure (y_assign rfl) rfl ?_
      refine w_nil ?_
      refine x_next ?_
      refine c_seq ?_
      refine c_seq ?_
      refine c_region ?_
      refine w_val rfl rfl rfl (l11Ok_z) rfl (fun w6 hx6 hz6 => ?_)
      have hz_hx6 := hx6.size
      replace hb2 := hb2.ext hx6
      replace hb1 := hb1.ext hx6
      replace h := h.ext hx6
      replace E := E.trans hx6
      refine w_pure (y_not rfl) rfl ?_
      refine w_nil ?_
      refine x_next ?_
      (refine c_not rfl (fun hc7 => ?_) (fun hc7 => ?_) <;> try (first | exact absurd rfl hc7 | contradiction | exact Bool.noConfusion (show false = true from hc7.symm.trans (by assumption)) | exact Bool.noConfusion (show true = false from hc7.symm.trans (by assumption)) | (exfalso; omega) | (exfalso; simp only [*, Bool.not_true, Bool.not_false, reduceCtorEq] at hc7; done)))
      refine c_skip ?_
      refine x_next ?_
      refine c_seq ?_
      refine c_region ?_
      refine w_pure (y_build rfl) rfl ?_
      refine w_alloc (k := fun b4 w4 hb4 hx4 hl4 hs4 => ?_)
      have hz_hx4 := hx4.size
      replace hb2 := hb2.ext hx4
      replace hb1 := hb1.ext hx4
      replace h := h.ext hx4
      replace E := E.trans hx4
      refine w_store_boxs rfl rfl (next := fun ws22 hbs22 hxs22 hss22 => ?_)
      (replace hb4 := hbs22; clear hbs22)
      have hz_hxs22 := hxs22.size
      replace hb2 := hb2.chg hxs22 (by omega)
      replace hb1 := hb1.chg hxs22 (by omega)
      replace h := h.chg hxs22 (by omega)
      replace E := E.next hxs22 (by omega)
      refine w_nil ?_
      refine x_next ?_
      refine c_seq ?_
      refine c_seq ?_
      refine c_region ?_
      refine w_pure (y_assign rfl) rfl ?_
      refine w_nil ?_
      refine x_next ?_
      refine c_block ?_
      rotate_left
    refine c_loopC b4 (b4 + 1) (ι := Nat × Value) (fun x => [(1, ptr b1 0), (2, ptr b2 0), (4, ptr b4 0), (5, .int .i64 x.1)])
      (fun x w' => Box w' b4 [x.2] ∧ Own w' 2 (b4 + 1) x.2 ((List.range x.1).map fun j => 9 - xs.getD j 0) ∧ x.1 ≤ xs.length) (fun x => xs.length - x.1) (0, .slice none 0 0) (by repeat (first | exact trivial | refine ⟨rfl, ?_⟩)) ⟨by assumption, Own.nil _ _ _, by simp⟩ ?_
    rintro ⟨i, u⟩ wL hxL EL ⟨hbu, ho, hi⟩
    dsimp only at *
    have hg : xs.getD (i : Int).toNat 0 = xs.getD i 0 := rfl
    have q2 := q5.getD i
    have q6 : ((List.range i).map fun j => 9 - xs.getD j 0).length = i := by simp
    focus
      have hl_ho := ho.lt
      have hz_hxL := hxL.size
      replace hb2 := hb2.chg hxL (by omega)
      replace hb1 := hb1.chg hxL (by omega)
      replace h := h.chg hxL (by omega)
      replace E := E.next hxL (by omega)
      refine c_seq ?_
      refine c_seq ?_
      refine c_region ?_
      refine w_pure (y_move rfl) rfl ?_
      refine w_pure (y_field rfl) rfl ?_
      refine w_pure (y_load_box rfl) rfl ?_
      refine w_pure (y_len rfl) rfl ?_
      refine w_pure (y_lt rfl rfl) rfl ?_
      refine w_nil ?_
      refine x_next ?_
      (refine c_dec rfl (fun hc14 => ?_) (fun hc14 => ?_) <;> try (first | exact absurd rfl hc14 | contradiction | exact Bool.noConfusion (show false = true from hc14.symm.trans (by assumption)) | exact Bool.noConfusion (show true = false from hc14.symm.trans (by assumption)) | (exfalso; omega) | (exfalso; simp only [*, Bool.not_true, Bool.not_false, reduceCtorEq] at hc14; done)))
      refine c_skip ?_
      refine x_next ?_
      refine c_seq ?_
      refine c_block ?_
      refine c_region_held mixed (fun wr7 hxr7 hzr7 => ?_)
      have hz_hxr7 := hxr7.size
      replace EL := EL.next hxr7 (by omega)
      replace hbu := hbu.ext hxr7
      replace ho := ho.ext hxr7
      replace hb2 := hb2.ext hxr7
      replace hb1 := hb1.ext hxr7
      replace h := h.ext hxr7
      replace E := E.trans hxr7
      refine h_pure rfl (y_field rfl) rfl ?_
      refine h_pure rfl (y_load_box rfl) rfl ?_
      refine h_pure rfl (y_field rfl) rfl ?_
      refine h_pure rfl (y_load_box rfl) rfl ?_
      refine h_pure rfl (y_move rfl) rfl ?_
      refine h_pure rfl (y_index rfl rfl) rfl ?_
      refine h_pure rfl (y_load_inte rfl hg) rfl ?_
      refine h_pure rfl (y_sub rfl rfl) rfl ?_
      refine h_one rfl ?_
      refine w_lit (α := Int) rfl rfl rfl rfl rfl rfl rfl rfl (fun v25 w25 ho25 hx25 hl25 hh25 hs25 => ?_)
      have hl_ho25 := ho25.lt
      have hz_hx25 := hx25.size
      replace EL := EL.next hx25 (by omega)
      replace hbu := hbu.ext hx25
      replace ho := ho.ext hx25
      replace hb2 := hb2.ext hx25
      replace hb1 := hb1.ext hx25
      replace h := h.ext hx25
      replace E := E.trans hx25
      refine w_nil ?_
      refine x_held ?_
      refine h_one rfl ?_
      refine w_append rfl rfl (k := fun v26 w26 ho26 hx26 hr26 => ?_)
      have hl_ho26 := ho26.lt
      have hz_hx26 := hx26.size
      replace ho25 := ho25.chg hx26 (by omega)
      replace EL := EL.next hx26 (by omega)
      replace hbu := hbu.chg hx26 (by omega)
      replace hb2 := hb2.chg hx26 (by omega)
      replace hb1 := hb1.chg hx26 (by omega)
      replace h := h.chg hx26 (by omega)
      replace E := E.next hx26 (by omega)
      refine w_nil ?_
      refine x_heldk ?_
      refine h_pure rfl (y_field rfl) rfl ?_
      refine h_one rfl ?_
      refine w_store_box rfl rfl (next := fun ws35 hbs35 hxs35 hss35 => ?_)
      (replace hb4 := hbs35; clear hbs35)
      have hz_hxs35 := hxs35.size
      replace ho26 := ho26.chg hxs35 (by omega)
      replace ho25 := ho25.chg hxs35 (by omega)
      replace EL := EL.trans hxs35
      replace hb2 := hb2.chg hxs35 (by omega)
      replace hb1 := hb1.chg hxs35 (by omega)
      replace h := h.chg hxs35 (by omega)
      replace E := E.next hxs35 (by omega)
      refine w_nil ?_
      refine x_heldk ?_
      refine h_nil ?_
      refine x_block_norm ?_
      refine x_next ?_
      refine c_region ?_
      refine w_pure (y_move rfl) rfl ?_
      refine w_pure (y_add rfl rfl) rfl ?_
      refine w_pure (y_assign rfl) rfl ?_
      refine w_nil ?_
      rotate_left
      refine c_exit ?_
      refine x_then_exit ?_
      refine x_then_exit ?_
      refine x_block_hit ?_
      refine x_next ?_
      refine c_seq ?_
      refine c_region ?_
      refine w_pure (y_load_boxs rfl) rfl ?_
      refine w_store_boxs rfl rfl (next := fun ws55 hbs55 hxs55 hss55 => ?_)
      (replace hb2 := hbs55; clear hbs55)
      have hz_hxs55 := hxs55.size
      replace hbu := hbu.chg hxs55 (by omega)
      replace ho := ho.chg hxs55 (by omega)
      replace hb1 := hb1.chg hxs55 (by omega)
      replace h := h.chg hxs55 (by omega)
      replace E := E.next hxs55 (by omega)
      refine w_pure (y_assign rfl) rfl ?_
      refine w_nil ?_
      refine x_next ?_
      refine c_ret ?_
      rotate_left
    · refine x_again (i + 1, v26) (by repeat (first | exact trivial | refine ⟨rfl, ?_⟩)) ⟨EL.go, by assumption, ?_, by dsimp only; omega⟩ (by dsimp only; omega)
      dsimp only
      rw [List.range_succ, List.map_append]
      assumption
    · obtain rfl : i = xs.length := by omega
      exact x_retv [_, _] rfl ⟨⟨_, rfl, run_load_str (Box.at (by assumption)) (by rfl)⟩, rfl, trivial⟩ ⟨_, by rw [codeOk, if_pos hk]; rfl, by rw [resComp, if_pos hk]; exact Own.base (by assumption) (by omega), E.go⟩
  · refine ret_enter Tryd.func37 rfl Tryd.ntmps37 rfl ?_
    focus
      have ht_h := h.top
      refine c_seq ?_
      refine c_region ?_
      refine w_box rfl (k := fun b1 w1 hb1 hx1 hl1 hs1 => ?_)
      have hz_hx1 := hx1.size
      replace h := h.ext hx1
      replace E := E.trans hx1
      refine w_alloc (k := fun b2 w2 hb2 hx2 hl2 hs2 => ?_)
      have hz_hx2 := hx2.size
      replace hb1 := hb1.ext hx2
      replace h := h.ext hx2
      replace E := E.trans hx2
      refine w_pure (y_assign rfl) rfl ?_
      refine w_nil ?_
      refine x_next ?_
      refine c_seq ?_
      refine c_seq ?_
      refine c_region ?_
      refine w_val rfl rfl rfl (l11Ok_z) rfl (fun w6 hx6 hz6 => ?_)
      have hz_hx6 := hx6.size
      replace hb2 := hb2.ext hx6
      replace hb1 := hb1.ext hx6
      replace h := h.ext hx6
      replace E := E.trans hx6
      refine w_pure (y_not rfl) rfl ?_
      refine w_nil ?_
      refine x_next ?_
      (refine c_not rfl (fun hc7 => ?_) (fun hc7 => ?_) <;> try (first | exact absurd rfl hc7 | contradiction | exact Bool.noConfusion (show false = true from hc7.symm.trans (by assumption)) | exact Bool.noConfusion (show true = false from hc7.symm.trans (by assumption)) | (exfalso; omega) | (exfalso; simp only [*, Bool.not_true, Bool.not_false, reduceCtorEq] at hc7; done)))
      refine c_seq ?_
      refine c_region ?_
      refine w_pure (y_build rfl) rfl ?_
      refine w_store_boxs rfl rfl (next := fun ws19 hbs19 hxs19 hss19 => ?_)
      (replace hb2 := hbs19; clear hbs19)
      have hz_hxs19 := hxs19.size
      replace hb1 := hb1.chg hxs19 (by omega)
      replace h := h.chg hxs19 (by omega)
      replace E := E.next hxs19 (by omega)
      refine w_pure (y_assign rfl) rfl ?_
      refine w_nil ?_
      refine x_next ?_
      refine c_ret ?_
      refine x_then_ret ?_
      rotate_left
    exact x_retv [_, _] rfl ⟨⟨_, rfl, run_load_str (Box.at (by assumption)) (by rfl)⟩, rfl, trivial⟩ ⟨_, by rw [codeOk, if_neg hk]; rfl, by rw [resComp, if_neg hk]; exact Own.nil _ _ _, E.go⟩

/-! ### splitting -/
def splitC (xs : List Int) (k : Int) : Int := if okC xs = true then (if 1 ≤ k ∧ k ≤ xs.length - 1 then 0 else 2) else 1
def resLow (xs : List Int) (k : Int) : List Int := if splitC xs k = 0 then xs.take k.toNat else []
def resHigh (xs : List Int) (k : Int) : List Int := if splitC xs k = 0 then xs.drop k.toNat else []
theorem splitC_ok {xs : List Int} {k : Int} (h : splitC xs k = 0) : okC xs = true ∧ 1 ≤ k ∧ k ≤ xs.length - 1 := by
  by_cases hk : okC xs = true
  · by_cases hn : 1 ≤ k ∧ k ≤ xs.length - 1
    · exact ⟨hk, hn⟩
    · simp only [splitC, hk, if_true, if_neg hn] at h; omega
  · simp [splitC, hk] at h
theorem resSplit_len (xs : List Int) (k : Int) : (resLow xs k).length ≤ 12 ∧ (resHigh xs k).length ≤ 12 := by
  unfold resLow resHigh; split
  · rename_i h; have := okC_len (splitC_ok h).1; simp; omega
  · simp
end
end Go.Proofs.YtgkljfncpgbngaaDoor

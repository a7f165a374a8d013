/- Contracts: taking from counters, complements, splitting. -/
import Derived.Test.YthigkbkaeopipaaCntI
namespace Go.Proofs.Ythigkbkaeopipaa
open Go Go.Gw
set_option linter.unusedVariables false
set_option linter.unusedSimpArgs false
/-- the digits after a number has been taken away, by its complement -/
def takeP (xs : List Int) (n : Int) : List Int × Int × Int := addS xs (10 ^ xs.length - 1 - n) xs.length
def takeD (xs : List Int) (n : Int) : List Int := if (takeP xs n).2.2 = 1 then (addS (takeP xs n).1 1 (takeP xs n).1.length).1 else (takeP xs n).1
def resTake (xs : List Int) (n : Int) : List Int := if codeN xs n = 0 then takeD xs n else []
def topTake (xs : List Int) (n : Int) : Bool := decide (codeN xs n = 0 ∧ (takeP xs n).2.2 = 1)
theorem takeP_len (xs : List Int) (n : Int) : (takeP xs n).1.length = xs.length := addS_len _ _ _
theorem takeD_len (xs : List Int) (n : Int) : (takeD xs n).length = xs.length := by
  unfold takeD; split
  · rw [addS_len, takeP_len]
  · rw [takeP_len]
theorem resTake_len (xs : List Int) (n : Int) : (resTake xs n).length ≤ 12 := by
  unfold resTake; split
  · rename_i h; rw [takeD_len]; exact (okC_len (codeN_ok h).1).2
  · simp
section
variable {w : World} {v v' : Value} {xs ys : List Int} {lo hi lo' hi' b b' : Nat}
theorem l11Nines_c (n : Int) (hp : At w b 0 [v] := by repeat (first | assumption | exact Go.Gw.Own.sl (by assumption) | exact Go.Gw.Box.at (by assumption) | exact Go.Gw.SLL.el (by first | assumption | exact Go.Gw.OwnD.sll (by assumption)) _ (by omega) | exact Go.Gw.SLL.at (by first | assumption | exact Go.Gw.OwnD.sll (by assumption)) (by omega) | exact Go.Gw.OwnD.sll (by assumption) | (apply Go.Gw.SL.chg; case hx => assumption) | (apply Go.Gw.Own.chg; case hx => assumption) | (apply Go.Gw.Box.chg; case hx => assumption) | (apply Go.Gw.At.chg; case hx => assumption) | exact .inl (Nat.zero_le _) | exact .inr (Nat.zero_le _) | (show _ ∨ _; omega))) (h : SL w lo hi v xs := by repeat (first | assumption | exact Go.Gw.Own.sl (by assumption) | exact Go.Gw.Box.at (by assumption) | exact Go.Gw.SLL.el (by first | assumption | exact Go.Gw.OwnD.sll (by assumption)) _ (by omega) | exact Go.Gw.SLL.at (by first | assumption | exact Go.Gw.OwnD.sll (by assumption)) (by omega) | exact Go.Gw.OwnD.sll (by assumption) | (apply Go.Gw.SL.chg; case hx => assumption) | (apply Go.Gw.Own.chg; case hx => assumption) | (apply Go.Gw.Box.chg; case hx => assumption) | (apply Go.Gw.At.chg; case hx => assumption) | exact .inl (Nat.zero_le _) | exact .inr (Nat.zero_le _) | (show _ ∨ _; omega))) (hl : xs.length ≤ 12 := by omega) (hn : 0 ≤ n ∧ n ≤ 1000000000000 := by omega) : Val Try.prog 88 [ptr b 0, .int .i64 n] w (.int .i64 (10 ^ xs.length - 1 - n)) := by
  refine ⟨fun w1 hx1 => ?_⟩
  have E : Since 0 0 w1 w1 := Since.refl 0 0 w1
  have q7 := pow10_12 (k := ((xs.length : Int)).toNat) (by omega)
  have q8 := pow10_pos ((xs.length : Int)).toNat
  refine ret_enter Try.func88 rfl Try.ntmps88 rfl ?_
  focus
    have ht_h := h.top
    have hz_hx1 := hx1.size
    replace hp := hp.ext hx1
    replace h := h.ext hx1
    refine c_seq ?_
    refine c_region ?_
    refine w_pure (y_assign rfl) rfl ?_
    refine w_nil ?_
    refine x_next ?_
    refine c_seq ?_
    refine c_region ?_
    refine w_pure (y_move rfl) rfl ?_
    refine w_pure (y_nil rfl) rfl ?_
    refine w_pure (y_field rfl) rfl ?_
    refine w_pure (y_loadk rfl) rfl ?_
    refine w_pure (y_len rfl) rfl ?_
    refine w_pur rfl rfl rfl (l11Power_c _ (by omega) (by omega)) rfl ?_
    refine w_pure (y_sub rfl rfl) rfl ?_
    refine w_pure (y_move rfl) rfl ?_
    refine w_pure (y_sub rfl rfl) rfl ?_
    refine w_pure (y_assign rfl) rfl ?_
    refine w_nil ?_
    refine x_next ?_
    refine c_ret ?_
    rotate_left
  exact x_retv [_] rfl ⟨rfl, trivial⟩ ⟨rfl, E.go⟩

/-! ### complements -/
def comp (xs : List Int) : List Int := (List.range xs.length).map fun j => 9 - xs.getD j 0
theorem comp_len (xs : List Int) : (comp xs).length = xs.length := by simp [comp]
theorem comp_map (xs : List Int) : comp xs = xs.map fun d => 9 - d := by
  apply List.ext_getElem (by simp [comp])
  intro i h1 h2
  have hi : i < xs.length := by simpa [comp] using h1
  simp [comp, List.getD_eq_getElem?_getD, hi]
theorem digs_comp : ∀ (xs : List Int), Digs xs → digs xs.length (10 ^ xs.length - 1 - valD xs) = xs.map fun d => 9 - d
  | [], _ => rfl
  | d :: r, h => by
    have h1 := h d (by simp)
    have h2 := valD_bd (xs := r) (fun x hx => h x (by simp [hx]))
    have ih := digs_comp r (fun x hx => h x (by simp [hx]))
    rw [List.length_cons, digs, valD, Int.pow_succ]
    rw [show (10 ^ r.length * 10 - 1 - (d + 10 * valD r)) % 10 = 9 - d by omega, show (10 ^ r.length * 10 - 1 - (d + 10 * valD r)) / 10 = 10 ^ r.length - 1 - valD r by omega, ih]
    rfl
def resComp (xs : List Int) : List Int := if okC xs = true then comp xs else []
def codeOk (xs : List Int) : Int := if okC xs = true then 0 else 1
theorem resComp_len (xs : List Int) : (resComp xs).length ≤ 12 := by
  unfold resComp; split
  · rename_i h; rw [comp_len]; exact (okC_len h).2
  · simp

/-! ### splitting -/
def splitC (xs : List Int) (k : Int) : Int := if okC xs = true then (if 1 ≤ k ∧ k ≤ xs.length - 1 then 0 else 2) else 1
def resLow (xs : List Int) (k : Int) : List Int := if splitC xs k = 0 then xs.take k.toNat else []
def resHigh (xs : List Int) (k : Int) : List Int := if splitC xs k = 0 then xs.drop k.toNat else []
theorem splitC_ok {xs : List Int} {k : Int} (h : splitC xs k = 0) : okC xs = true ∧ 1 ≤ k ∧ k ≤ xs.length - 1 := by
  by_cases hk : okC xs = true
  · by_cases hn : 1 ≤ k ∧ k ≤ xs.length - 1
    · exact ⟨hk, hn⟩
    · simp only [splitC, hk, if_true, if_neg hn] at h; omega
  · simp [splitC, hk] at h
theorem resSplit_len (xs : List Int) (k : Int) : (resLow xs k).length ≤ 12 ∧ (resHigh xs k).length ≤ 12 := by
  unfold resLow resHigh; split
  · rename_i h; have := okC_len (splitC_ok h).1; simp; omega
  · simp
theorem iSplitCounter_c (k : Int) (h : SL w lo hi v xs := by repeat (first | assumption | exact Go.Gw.Own.sl (by assumption) | exact Go.Gw.Box.at (by assumption) | exact Go.Gw.SLL.el (by first | assumption | exact Go.Gw.OwnD.sll (by assumption)) _ (by omega) | exact Go.Gw.SLL.at (by first | assumption | exact Go.Gw.OwnD.sll (by assumption)) (by omega) | exact Go.Gw.OwnD.sll (by assumption) | (apply Go.Gw.SL.chg; case hx => assumption) | (apply Go.Gw.Own.chg; case hx => assumption) | (apply Go.Gw.Box.chg; case hx => assumption) | (apply Go.Gw.At.chg; case hx => assumption) | exact .inl (Nat.zero_le _) | exact .inr (Nat.zero_le _) | (show _ ∨ _; omega))) (hk64 : In64 k := by assumption) : Ret Try.prog 23 [.agg #[v], .int .i64 k] w fun u w' => ∃ d e m, u = .tuple #[.agg #[d], .agg #[e], .int .i64 (splitC xs k)] ∧
    SL w' w.heap.size m d (resLow xs k) ∧ SL w' m w'.heap.size e (resHigh xs k) ∧ (w.heap.size ≤ m ∧ m ≤ w'.heap.size) ∧ Ext w w' := by
  have E : Since 0 0 w w := Since.refl 0 0 w
  have hsm := h.small
  by_cases hk : okC xs = true
  · have hlen := okC_len hk
    by_cases hk2 : 1 ≤ k ∧ k ≤ xs.length - 1
    · have e : splitC xs k = 0 := by rw [splitC, if_pos hk, if_pos hk2]
      have e1 : (xs.take k.toNat).drop (Int.toNat 0) = resLow xs k := by rw [resLow, if_pos e]; rfl
      have e2 : (xs.take (xs.length : Int).toNat).drop k.toNat = resHigh xs k := by rw [resHigh, if_pos e]; simp
      have q1 := resSplit_len xs k
      refine ret_enter Try.func23 rfl Try.ntmps23 rfl ?_
      focus
        refine c_seq ?_
        refine c_region ?_
        refine w_box rfl (k := fun b2 w2 hb2 hx2 hl2 hs2 => ?_)
        have hz_hx2 := hx2.size
        replace h := h.ext hx2
        replace E := E.trans hx2
        refine w_alloc (k := fun b4 w4 hb4 hx4 hl4 hs4 => ?_)
        have hz_hx4 := hx4.size
        replace hb2 := hb2.ext hx4
        replace h := h.ext hx4
        replace E := E.trans hx4
        refine w_alloc (k := fun b5 w5 hb5 hx5 hl5 hs5 => ?_)
        have hz_hx5 := hx5.size
        replace hb4 := hb4.ext hx5
        replace hb2 := hb2.ext hx5
        replace h := h.ext hx5
        replace E := E.trans hx5
        refine w_pure (y_assign rfl) rfl ?_
        refine w_nil ?_
        refine x_next ?_
        refine c_seq ?_
        refine c_block ?_
        refine c_seq ?_
        refine c_region ?_
        refine w_pure (y_load_boxs rfl) rfl ?_
        refine w_val rfl rfl rfl (iValidCounter_c) rfl (fun w9 hx9 hz9 => ?_)
        have hz_hx9 := hx9.size
        replace hb5 := hb5.ext hx9
        replace hb4 := hb4.ext hx9
        replace hb2 := hb2.ext hx9
        replace h := h.ext hx9
        replace E := E.trans hx9
        refine w_pure (y_not rfl) rfl ?_
        refine w_pure (y_assign rfl) rfl ?_
        refine w_nil ?_
        refine x_next ?_
        (refine c_not rfl (fun hc7 => ?_) (fun hc7 => ?_) <;> try (first | exact absurd rfl hc7 | contradiction | exact Bool.noConfusion (show false = true from hc7.symm.trans (by assumption)) | exact Bool.noConfusion (show true = false from hc7.symm.trans (by assumption)) | (exfalso; omega) | (exfalso; simp only [*, Bool.not_true, Bool.not_false, reduceCtorEq] at hc7; done)))
        refine c_seq ?_
        refine c_region ?_
        refine w_pure (y_move rfl) rfl ?_
        refine w_pure (y_field rfl) rfl ?_
        refine w_pure (y_load_box rfl) rfl ?_
        refine w_val rfl rfl rfl (size_c) rfl (fun w17 hx17 hz17 => ?_)
        have hz_hx17 := hx17.size
        replace hb5 := hb5.ext hx17
        replace hb4 := hb4.ext hx17
        replace hb2 := hb2.ext hx17
        replace h := h.ext hx17
        replace E := E.trans hx17
        refine w_pure (y_sub rfl rfl) rfl ?_
        refine w_pur rfl rfl rfl (inside_c _ _ _) rfl ?_
        refine w_pure (y_not_dec rfl) rfl ?_
        refine w_pure (y_assign rfl) rfl ?_
        refine w_nil ?_
        refine x_next ?_
        (refine c_dec rfl (fun hc13 => ?_) (fun hc13 => ?_) <;> try (first | exact absurd rfl hc13 | contradiction | exact Bool.noConfusion (show false = true from hc13.symm.trans (by assumption)) | exact Bool.noConfusion (show true = false from hc13.symm.trans (by assumption)) | (exfalso; omega) | (exfalso; simp only [*, Bool.not_true, Bool.not_false, reduceCtorEq] at hc13; done)))
        refine c_skip ?_
        refine x_block_norm ?_
        refine x_next ?_
        refine c_seq ?_
        refine c_region_held mixed (fun wr5 hxr5 hzr5 => ?_)
        have hz_hxr5 := hxr5.size
        replace hb5 := hb5.ext hxr5
        replace hb4 := hb4.ext hxr5
        replace hb2 := hb2.ext hxr5
        replace h := h.ext hxr5
        replace E := E.trans hxr5
        refine h_pure rfl (y_field rfl) rfl ?_
        refine h_pure rfl (y_load_box rfl) rfl ?_
        refine h_pure rfl (y_move rfl) rfl ?_
        (refine h_slice rfl rfl (.inl ⟨rfl, rfl⟩) (.inr ⟨_, _, rfl, rfl⟩) rfl ?_; intro u26 hu26)
        refine h_turn ?_
        refine h_turn ?_
        refine h_pure rfl (y_field rfl) rfl ?_
        refine h_pure rfl (y_load_box rfl) rfl ?_
        refine h_pure rfl (y_move rfl) rfl ?_
        (refine h_slice rfl rfl (.inr ⟨_, _, rfl, rfl⟩) (.inl ⟨rfl, rfl⟩) rfl ?_; intro u32 hu32)
        refine h_turn ?_
        refine h_turn ?_
        refine h_turn ?_
        refine h_turn ?_
        refine h_turn ?_
        refine h_one rfl ?_
        (refine w_call rfl rfl rfl (copyInts_c (hl := by first | (rw [e1]; omega) | (rw [e2]; omega)) _) rfl ?_; rintro v27 w27 ⟨hp1_27, hx27⟩)
        have hz_hx27 := hx27.size
        replace hb5 := hb5.ext hx27
        replace hb4 := hb4.ext hx27
        replace hb2 := hb2.ext hx27
        replace h := h.ext hx27
        replace E := E.trans hx27
        replace hu26 := hu26.ext hx27
        replace hu32 := hu32.ext hx27
        replace hp1_27 := hp1_27.fresh
        refine w_nil ?_
        refine x_held ?_
        refine h_pure rfl (y_build rfl) rfl ?_
        refine h_one rfl ?_
        (refine w_call rfl rfl rfl (copyInts_c (hl := by first | (rw [e1]; omega) | (rw [e2]; omega)) _) rfl ?_; rintro v33 w33 ⟨hp1_33, hx33⟩)
        have hz_hx33 := hx33.size
        replace hb5 := hb5.ext hx33
        replace hb4 := hb4.ext hx33
        replace hb2 := hb2.ext hx33
        replace h := h.ext hx33
        replace E := E.trans hx33
        replace hu26 := hu26.ext hx33
        replace hu32 := hu32.ext hx33
        replace hp1_27 := hp1_27.ext hx33
        replace hp1_33 := hp1_33.fresh
        refine w_nil ?_
        refine x_held ?_
        refine h_any rfl (fun _ => y_build rfl) rfl ?_
        refine h_one rfl ?_
        refine w_store_boxs rfl rfl (next := fun ws64 hbs64 hxs64 hss64 => ?_)
        (replace hb4 := hbs64; clear hbs64)
        have hz_hxs64 := hxs64.size
        replace hb5 := hb5.chg hxs64 (by omega)
        replace hb2 := hb2.chg hxs64 (by omega)
        replace E := E.next hxs64 (by omega)
        replace hp1_27 := hp1_27.chg hxs64 (by omega)
        replace hp1_33 := hp1_33.chg hxs64 (by omega)
        refine w_nil ?_
        refine x_heldk ?_
        refine h_one rfl ?_
        refine w_store_boxs rfl rfl (next := fun ws68 hbs68 hxs68 hss68 => ?_)
        (replace hb5 := hbs68; clear hbs68)
        have hz_hxs68 := hxs68.size
        replace hb4 := hb4.chg hxs68 (by omega)
        replace hb2 := hb2.chg hxs68 (by omega)
        replace E := E.next hxs68 (by omega)
        replace hp1_27 := hp1_27.chg hxs68 (by omega)
        replace hp1_33 := hp1_33.chg hxs68 (by omega)
        refine w_nil ?_
        refine x_heldk ?_
        refine h_pure rfl (y_assign rfl) rfl ?_
        refine h_nil ?_
        refine x_next ?_
        refine c_ret ?_
        rotate_left
      rw [e1] at hp1_27
      rw [e2] at hp1_33
      exact x_retv [_, _, _] rfl ⟨⟨_, rfl, run_load_str (Box.at (by assumption)) (by rfl)⟩, ⟨_, rfl, run_load_str (Box.at (by assumption)) (by rfl)⟩, rfl, trivial⟩ ⟨v27, v33, w27.heap.size, by rw [e]; rfl, hp1_27.wide (by omega) (by omega) (by omega), hp1_33.wide (by omega) (by omega) (by omega), ⟨by omega, by omega⟩, E.go⟩
    · have e : splitC xs k = 2 := by rw [splitC, if_pos hk, if_neg hk2]
      refine ret_enter Try.func23 rfl Try.ntmps23 rfl ?_
      focus
        have ht_h := h.top
        refine c_seq ?_
        refine c_region ?_
        refine w_box rfl (k := fun b2 w2 hb2 hx2 hl2 hs2 => ?_)
        have hz_hx2 := hx2.size
        replace h := h.ext hx2
        replace E := E.trans hx2
        refine w_alloc (k := fun b4 w4 hb4 hx4 hl4 hs4 => ?_)
        have hz_hx4 := hx4.size
        replace hb2 := hb2.ext hx4
        replace h := h.ext hx4
        replace E := E.trans hx4
        refine w_alloc (k := fun b5 w5 hb5 hx5 hl5 hs5 => ?_)
        have hz_hx5 := hx5.size
        replace hb4 := hb4.ext hx5
        replace hb2 := hb2.ext hx5
        replace h := h.ext hx5
        replace E := E.trans hx5
        refine w_pure (y_assign rfl) rfl ?_
        refine w_nil ?_
        refine x_next ?_
        refine c_seq ?_
        refine c_block ?_
        refine c_seq ?_
        refine c_region ?_
        refine w_pure (y_load_boxs rfl) rfl ?_
        refine w_val rfl rfl rfl (iValidCounter_c) rfl (fun w9 hx9 hz9 => ?_)
        have hz_hx9 := hx9.size
        replace hb5 := hb5.ext hx9
        replace hb4 := hb4.ext hx9
        replace hb2 := hb2.ext hx9
        replace h := h.ext hx9
        replace E := E.trans hx9
        refine w_pure (y_not rfl) rfl ?_
        refine w_pure (y_assign rfl) rfl ?_
        refine w_nil ?_
        refine x_next ?_
        (refine c_not rfl (fun hc7 => ?_) (fun hc7 => ?_) <;> try (first | exact absurd rfl hc7 | contradiction | exact Bool.noConfusion (show false = true from hc7.symm.trans (by assumption)) | exact Bool.noConfusion (show true = false from hc7.symm.trans (by assumption)) | (exfalso; omega) | (exfalso; simp only [*, Bool.not_true, Bool.not_false, reduceCtorEq] at hc7; done)))
        refine c_seq ?_
        refine c_region ?_
        refine w_pure (y_move rfl) rfl ?_
        refine w_pure (y_field rfl) rfl ?_
        refine w_pure (y_load_box rfl) rfl ?_
        refine w_val rfl rfl rfl (size_c) rfl (fun w17 hx17 hz17 => ?_)
        have hz_hx17 := hx17.size
        replace hb5 := hb5.ext hx17
        replace hb4 := hb4.ext hx17
        replace hb2 := hb2.ext hx17
        replace h := h.ext hx17
        replace E := E.trans hx17
        refine w_pure (y_sub rfl rfl) rfl ?_
        refine w_pur rfl rfl rfl (inside_c _ _ _) rfl ?_
        refine w_pure (y_not_dec rfl) rfl ?_
        refine w_pure (y_assign rfl) rfl ?_
        refine w_nil ?_
        refine x_next ?_
        (refine c_dec rfl (fun hc13 => ?_) (fun hc13 => ?_) <;> try (first | exact absurd rfl hc13 | contradiction | exact Bool.noConfusion (show false = true from hc13.symm.trans (by assumption)) | exact Bool.noConfusion (show true = false from hc13.symm.trans (by assumption)) | (exfalso; omega) | (exfalso; simp only [*, Bool.not_true, Bool.not_false, reduceCtorEq] at hc13; done)))
        refine c_seq ?_
        refine c_region ?_
        refine w_pure (y_build rfl) rfl ?_
        refine w_pure (y_build rfl) rfl ?_
        refine w_store_boxs rfl rfl (next := fun ws37 hbs37 hxs37 hss37 => ?_)
        (replace hb4 := hbs37; clear hbs37)
        have hz_hxs37 := hxs37.size
        replace hb5 := hb5.chg hxs37 (by omega)
        replace hb2 := hb2.chg hxs37 (by omega)
        replace h := h.chg hxs37 (by omega)
        replace E := E.next hxs37 (by omega)
        refine w_store_boxs rfl rfl (next := fun ws38 hbs38 hxs38 hss38 => ?_)
        (replace hb5 := hbs38; clear hbs38)
        have hz_hxs38 := hxs38.size
        replace hb4 := hb4.chg hxs38 (by omega)
        replace hb2 := hb2.chg hxs38 (by omega)
        replace h := h.chg hxs38 (by omega)
        replace E := E.next hxs38 (by omega)
        refine w_pure (y_assign rfl) rfl ?_
        refine w_nil ?_
        refine x_next ?_
        refine c_ret ?_
        refine x_block_ret ?_
        refine x_then_ret ?_
        rotate_left
      exact x_retv [_, _, _] rfl ⟨⟨_, rfl, run_load_str (Box.at (by assumption)) (by rfl)⟩, ⟨_, rfl, run_load_str (Box.at (by assumption)) (by rfl)⟩, rfl, trivial⟩ ⟨_, _, w.heap.size, by rw [e]; rfl, by rw [resLow, e]; exact (Own.nil w 2 w.heap.size).fresh.ext E.go, by rw [resHigh, e]; exact (Own.nil _ 2 w.heap.size).fresh, ⟨Nat.le_refl _, E.go.size⟩, E.go⟩
  · have e : splitC xs k = 1 := by rw [splitC, if_neg hk]
    refine ret_enter Try.func23 rfl Try.ntmps23 rfl ?_
    focus
      have ht_h := h.top
      refine c_seq ?_
      refine c_region ?_
      refine w_box rfl (k := fun b2 w2 hb2 hx2 hl2 hs2 => ?_)
      have hz_hx2 := hx2.size
      replace h := h.ext hx2
      replace E := E.trans hx2
      refine w_alloc (k := fun b4 w4 hb4 hx4 hl4 hs4 => ?_)
      have hz_hx4 := hx4.size
      replace hb2 := hb2.ext hx4
      replace h := h.ext hx4
      replace E := E.trans hx4
      refine w_alloc (k := fun b5 w5 hb5 hx5 hl5 hs5 => ?_)
      have hz_hx5 := hx5.size
      replace hb4 := hb4.ext hx5
      replace hb2 := hb2.ext hx5
      replace h := h.ext hx5
      replace E := E.trans hx5
      refine w_pure (y_assign rfl) rfl ?_
      refine w_nil ?_
      refine x_next ?_
      refine c_seq ?_
      refine c_block ?_
      refine c_seq ?_
      refine c_region ?_
      refine w_pure (y_load_boxs rfl) rfl ?_
      refine w_val rfl rfl rfl (iValidCounter_c) rfl (fun w9 hx9 hz9 => ?_)
      have hz_hx9 := hx9.size
      replace hb5 := hb5.ext hx9
      replace hb4 := hb4.ext hx9
      replace hb2 := hb2.ext hx9
      replace h := h.ext hx9
      replace E := E.trans hx9
      refine w_pure (y_not rfl) rfl ?_
      refine w_pure (y_assign rfl) rfl ?_
      refine w_nil ?_
      refine x_next ?_
      (refine c_not rfl (fun hc7 => ?_) (fun hc7 => ?_) <;> try (first | exact absurd rfl hc7 | contradiction | exact Bool.noConfusion (show false = true from hc7.symm.trans (by assumption)) | exact Bool.noConfusion (show true = false from hc7.symm.trans (by assumption)) | (exfalso; omega) | (exfalso; simp only [*, Bool.not_true, Bool.not_false, reduceCtorEq] at hc7; done)))
      refine c_seq ?_
      refine c_region ?_
      refine w_pure (y_build rfl) rfl ?_
      refine w_pure (y_build rfl) rfl ?_
      refine w_store_boxs rfl rfl (next := fun ws24 hbs24 hxs24 hss24 => ?_)
      (replace hb4 := hbs24; clear hbs24)
      have hz_hxs24 := hxs24.size
      replace hb5 := hb5.chg hxs24 (by omega)
      replace hb2 := hb2.chg hxs24 (by omega)
      replace h := h.chg hxs24 (by omega)
      replace E := E.next hxs24 (by omega)
      refine w_store_boxs rfl rfl (next := fun ws25 hbs25 hxs25 hss25 => ?_)
      (replace hb5 := hbs25; clear hbs25)
      have hz_hxs25 := hxs25.size
      replace hb4 := hb4.chg hxs25 (by omega)
      replace hb2 := hb2.chg hxs25 (by omega)
      replace h := h.chg hxs25 (by omega)
      replace E := E.next hxs25 (by omega)
      refine w_pure (y_assign rfl) rfl ?_
      refine w_nil ?_
      refine x_next ?_
      refine c_ret ?_
      refine x_block_ret ?_
      refine x_then_ret ?_
      rotate_left
    exact x_retv [_, _, _] rfl ⟨⟨_, rfl, run_load_str (Box.at (by assumption)) (by rfl)⟩, ⟨_, rfl, run_load_str (Box.at (by assumption)) (by rfl)⟩, rfl, trivial⟩ ⟨_, _, w.heap.size, by rw [e]; rfl, by rw [resLow, e]; exact (Own.nil w 2 w.heap.size).fresh.ext E.go, by rw [resHigh, e]; exact (Own.nil _ 2 w.heap.size).fresh, ⟨Nat.le_refl _, E.go.size⟩, E.go⟩
theorem sSplitCounter_c (k : Int) (h : SL w lo hi v xs := by repeat (first | assumption | exact Go.Gw.Own.sl (by assumption) | exact Go.Gw.Box.at (by assumption) | exact Go.Gw.SLL.el (by first | assumption | exact Go.Gw.OwnD.sll (by assumption)) _ (by omega) | exact Go.Gw.SLL.at (by first | assumption | exact Go.Gw.OwnD.sll (by assumption)) (by omega) | exact Go.Gw.OwnD.sll (by assumption) | (apply Go.Gw.SL.chg; case hx => assumption) | (apply Go.Gw.Own.chg; case hx => assumption) | (apply Go.Gw.Box.chg; case hx => assumption) | (apply Go.Gw.At.chg; case hx => assumption) | exact .inl (Nat.zero_le _) | exact .inr (Nat.zero_le _) | (show _ ∨ _; omega))) (hk64 : In64 k := by assumption) : Ret Try.prog 24 [.agg #[v], .int .i64 k] w fun u w' => ∃ d e m, u = .tuple #[.agg #[d], .agg #[e], .int .i64 (splitC xs k)] ∧
    SL w' w.heap.size m d (resLow xs k) ∧ SL w' m w'.heap.size e (resHigh xs k) ∧ (w.heap.size ≤ m ∧ m ≤ w'.heap.size) ∧ Ext w w' := by
  have E : Since 0 0 w w := Since.refl 0 0 w
  have hsm := h.small
  by_cases hk : okC xs = true
  · have hlen := okC_len hk
    by_cases hk2 : 1 ≤ k ∧ k ≤ xs.length - 1
    · have e : splitC xs k = 0 := by rw [splitC, if_pos hk, if_pos hk2]
      have e1 : (xs.take k.toNat).drop (Int.toNat 0) = resLow xs k := by rw [resLow, if_pos e]; rfl
      have e2 : (xs.take (xs.length : Int).toNat).drop k.toNat = resHigh xs k := by rw [resHigh, if_pos e]; simp
      have q1 := resSplit_len xs k
      refine ret_enter Try.func24 rfl Try.ntmps24 rfl ?_
      focus
        refine c_seq ?_
        refine c_region ?_
        refine w_box rfl (k := fun b2 w2 hb2 hx2 hl2 hs2 => ?_)
        have hz_hx2 := hx2.size
        replace h := h.ext hx2
        replace E := E.trans hx2
        refine w_alloc (k := fun b4 w4 hb4 hx4 hl4 hs4 => ?_)
        have hz_hx4 := hx4.size
        replace hb2 := hb2.ext hx4
        replace h := h.ext hx4
        replace E := E.trans hx4
        refine w_alloc (k := fun b5 w5 hb5 hx5 hl5 hs5 => ?_)
        have hz_hx5 := hx5.size
        replace hb4 := hb4.ext hx5
        replace hb2 := hb2.ext hx5
        replace h := h.ext hx5
        replace E := E.trans hx5
        refine w_pure (y_assign rfl) rfl ?_
        refine w_nil ?_
        refine x_next ?_
        refine c_seq ?_
        refine c_seq ?_
        refine c_region ?_
        refine w_val rfl rfl rfl (l11Ok_z) rfl (fun w7 hx7 hz7 => ?_)
        have hz_hx7 := hx7.size
        replace hb5 := hb5.ext hx7
        replace hb4 := hb4.ext hx7
        replace hb2 := hb2.ext hx7
        replace h := h.ext hx7
        replace E := E.trans hx7
        refine w_pure (y_not rfl) rfl ?_
        refine w_nil ?_
        refine x_next ?_
        (refine c_not rfl (fun hc8 => ?_) (fun hc8 => ?_) <;> try (first | exact absurd rfl hc8 | contradiction | exact Bool.noConfusion (show false = true from hc8.symm.trans (by assumption)) | exact Bool.noConfusion (show true = false from hc8.symm.trans (by assumption)) | (exfalso; omega) | (exfalso; simp only [*, Bool.not_true, Bool.not_false, reduceCtorEq] at hc8; done)))
        refine c_skip ?_
        refine x_next ?_
        refine c_seq ?_
        refine c_seq ?_
        refine c_region ?_
        refine w_pure (y_move rfl) rfl ?_
        refine w_pure (y_field rfl) rfl ?_
        refine w_pure (y_load_box rfl) rfl ?_
        refine w_pure (y_len rfl) rfl ?_
        refine w_pure (y_sub rfl rfl) rfl ?_
        refine w_pur rfl rfl rfl (l00In_c _ _ _) rfl ?_
        refine w_pure (y_not_dec rfl) rfl ?_
        refine w_nil ?_
        refine x_next ?_
        (refine c_dec rfl (fun hc17 => ?_) (fun hc17 => ?_) <;> try (first | exact absurd rfl hc17 | contradiction | exact Bool.noConfusion (show false = true from hc17.symm.trans (by assumption)) | exact Bool.noConfusion (show true = false from hc17.symm.trans (by assumption)) | (exfalso; omega) | (exfalso; simp only [*, Bool.not_true, Bool.not_false, reduceCtorEq] at hc17; done)))
        refine c_skip ?_
        refine x_next ?_
        refine c_seq ?_
        refine c_region_held mixed (fun wr5 hxr5 hzr5 => ?_)
        have hz_hxr5 := hxr5.size
        replace hb5 := hb5.ext hxr5
        replace hb4 := hb4.ext hxr5
        replace hb2 := hb2.ext hxr5
        replace h := h.ext hxr5
        replace E := E.trans hxr5
        refine h_pure rfl (y_field rfl) rfl ?_
        refine h_pure rfl (y_load_box rfl) rfl ?_
        refine h_pure rfl (y_move rfl) rfl ?_
        (refine h_slice rfl rfl (.inl ⟨rfl, rfl⟩) (.inr ⟨_, _, rfl, rfl⟩) rfl ?_; intro u23 hu23)
        refine h_turn ?_
        refine h_turn ?_
        refine h_pure rfl (y_field rfl) rfl ?_
        refine h_pure rfl (y_load_box rfl) rfl ?_
        refine h_pure rfl (y_move rfl) rfl ?_
        (refine h_slice rfl rfl (.inr ⟨_, _, rfl, rfl⟩) (.inl ⟨rfl, rfl⟩) rfl ?_; intro u29 hu29)
        refine h_turn ?_
        refine h_turn ?_
        refine h_turn ?_
        refine h_turn ?_
        refine h_turn ?_
        refine h_one rfl ?_
        (refine w_call rfl rfl rfl (l00Own_c (hl := by first | (rw [e1]; omega) | (rw [e2]; omega)) _) rfl ?_; rintro v24 w24 ⟨hp1_24, hx24⟩)
        have hz_hx24 := hx24.size
        replace hb5 := hb5.ext hx24
        replace hb4 := hb4.ext hx24
        replace hb2 := hb2.ext hx24
        replace h := h.ext hx24
        replace E := E.trans hx24
        replace hu23 := hu23.ext hx24
        replace hu29 := hu29.ext hx24
        replace hp1_24 := hp1_24.fresh
        refine w_nil ?_
        refine x_held ?_
        refine h_pure rfl (y_build rfl) rfl ?_
        refine h_one rfl ?_
        (refine w_call rfl rfl rfl (l00Own_c (hl := by first | (rw [e1]; omega) | (rw [e2]; omega)) _) rfl ?_; rintro v30 w30 ⟨hp1_30, hx30⟩)
        have hz_hx30 := hx30.size
        replace hb5 := hb5.ext hx30
        replace hb4 := hb4.ext hx30
        replace hb2 := hb2.ext hx30
        replace h := h.ext hx30
        replace E := E.trans hx30
        replace hu23 := hu23.ext hx30
        replace hu29 := hu29.ext hx30
        replace hp1_24 := hp1_24.ext hx30
        replace hp1_30 := hp1_30.fresh
        refine w_nil ?_
        refine x_held ?_
        refine h_any rfl (fun _ => y_build rfl) rfl ?_
        refine h_one rfl ?_
        refine w_store_boxs rfl rfl (next := fun ws62 hbs62 hxs62 hss62 => ?_)
        (replace hb4 := hbs62; clear hbs62)
        have hz_hxs62 := hxs62.size
        replace hb5 := hb5.chg hxs62 (by omega)
        replace hb2 := hb2.chg hxs62 (by omega)
        replace E := E.next hxs62 (by omega)
        replace hp1_24 := hp1_24.chg hxs62 (by omega)
        replace hp1_30 := hp1_30.chg hxs62 (by omega)
        refine w_nil ?_
        refine x_heldk ?_
        refine h_one rfl ?_
        refine w_store_boxs rfl rfl (next := fun ws66 hbs66 hxs66 hss66 => ?_)
        (replace hb5 := hbs66; clear hbs66)
        have hz_hxs66 := hxs66.size
        replace hb4 := hb4.chg hxs66 (by omega)
        replace hb2 := hb2.chg hxs66 (by omega)
        replace E := E.next hxs66 (by omega)
        replace hp1_24 := hp1_24.chg hxs66 (by omega)
        replace hp1_30 := hp1_30.chg hxs66 (by omega)
        refine w_nil ?_
        refine x_heldk ?_
        refine h_pure rfl (y_assign rfl) rfl ?_
        refine h_nil ?_
        refine x_next ?_
        refine c_ret ?_
        rotate_left
      rw [e1] at hp1_24
      rw [e2] at hp1_30
      exact x_retv [_, _, _] rfl ⟨⟨_, rfl, run_load_str (Box.at (by assumption)) (by rfl)⟩, ⟨_, rfl, run_load_str (Box.at (by assumption)) (by rfl)⟩, rfl, trivial⟩ ⟨v24, v30, w24.heap.size, by rw [e]; rfl, hp1_24.wide (by omega) (by omega) (by omega), hp1_30.wide (by omega) (by omega) (by omega), ⟨by omega, by omega⟩, E.go⟩
    · have e : splitC xs k = 2 := by rw [splitC, if_pos hk, if_neg hk2]
      refine ret_enter Try.func24 rfl Try.ntmps24 rfl ?_
      focus
        have ht_h := h.top
        refine c_seq ?_
        refine c_region ?_
        refine w_box rfl (k := fun b2 w2 hb2 hx2 hl2 hs2 => ?_)
        have hz_hx2 := hx2.size
        replace h := h.ext hx2
        replace E := E.trans hx2
        refine w_alloc (k := fun b4 w4 hb4 hx4 hl4 hs4 => ?_)
        have hz_hx4 := hx4.size
        replace hb2 := hb2.ext hx4
        replace h := h.ext hx4
        replace E := E.trans hx4
        refine w_alloc (k := fun b5 w5 hb5 hx5 hl5 hs5 => ?_)
        have hz_hx5 := hx5.size
        replace hb4 := hb4.ext hx5
        replace hb2 := hb2.ext hx5
        replace h := h.ext hx5
        replace E := E.trans hx5
        refine w_pure (y_assign rfl) rfl ?_
        refine w_nil ?_
        refine x_next ?_
        refine c_seq ?_
        refine c_seq ?_
        refine c_region ?_
        refine w_val rfl rfl rfl (l11Ok_z) rfl (fun w7 hx7 hz7 => ?_)
        have hz_hx7 := hx7.size
        replace hb5 := hb5.ext hx7
        replace hb4 := hb4.ext hx7
        replace hb2 := hb2.ext hx7
        replace h := h.ext hx7
        replace E := E.trans hx7
        refine w_pure (y_not rfl) rfl ?_
        refine w_nil ?_
        refine x_next ?_
        (refine c_not rfl (fun hc8 => ?_) (fun hc8 => ?_) <;> try (first | exact absurd rfl hc8 | contradiction | exact Bool.noConfusion (show false = true from hc8.symm.trans (by assumption)) | exact Bool.noConfusion (show true = false from hc8.symm.trans (by assumption)) | (exfalso; omega) | (exfalso; simp only [*, Bool.not_true, Bool.not_false, reduceCtorEq] at hc8; done)))
        refine c_skip ?_
        refine x_next ?_
        refine c_seq ?_
        refine c_seq ?_
        refine c_region ?_
        refine w_pure (y_move rfl) rfl ?_
        refine w_pure (y_field rfl) rfl ?_
        refine w_pure (y_load_box rfl) rfl ?_
        refine w_pure (y_len rfl) rfl ?_
        refine w_pure (y_sub rfl rfl) rfl ?_
        refine w_pur rfl rfl rfl (l00In_c _ _ _) rfl ?_
        refine w_pure (y_not_dec rfl) rfl ?_
        refine w_nil ?_
        refine x_next ?_
        (refine c_dec rfl (fun hc17 => ?_) (fun hc17 => ?_) <;> try (first | exact absurd rfl hc17 | contradiction | exact Bool.noConfusion (show false = true from hc17.symm.trans (by assumption)) | exact Bool.noConfusion (show true = false from hc17.symm.trans (by assumption)) | (exfalso; omega) | (exfalso; simp only [*, Bool.not_true, Bool.not_false, reduceCtorEq] at hc17; done)))
        refine c_seq ?_
        refine c_region ?_
        refine w_pure (y_build rfl) rfl ?_
        refine w_pure (y_build rfl) rfl ?_
        refine w_store_boxs rfl rfl (next := fun ws36 hbs36 hxs36 hss36 => ?_)
        (replace hb4 := hbs36; clear hbs36)
        have hz_hxs36 := hxs36.size
        replace hb5 := hb5.chg hxs36 (by omega)
        replace hb2 := hb2.chg hxs36 (by omega)
        replace h := h.chg hxs36 (by omega)
        replace E := E.next hxs36 (by omega)
        refine w_store_boxs rfl rfl (next := fun ws37 hbs37 hxs37 hss37 => ?_)
        (replace hb5 := hbs37; clear hbs37)
        have hz_hxs37 := hxs37.size
        replace hb4 := hb4.chg hxs37 (by omega)
        replace hb2 := hb2.chg hxs37 (by omega)
        replace h := h.chg hxs37 (by omega)
        replace E := E.next hxs37 (by omega)
        refine w_pure (y_assign rfl) rfl ?_
        refine w_nil ?_
        refine x_next ?_
        refine c_ret ?_
        refine x_then_ret ?_
        rotate_left
      exact x_retv [_, _, _] rfl ⟨⟨_, rfl, run_load_str (Box.at (by assumption)) (by rfl)⟩, ⟨_, rfl, run_load_str (Box.at (by assumption)) (by rfl)⟩, rfl, trivial⟩ ⟨_, _, w.heap.size, by rw [e]; rfl, by rw [resLow, e]; exact (Own.nil w 2 w.heap.size).fresh.ext E.go, by rw [resHigh, e]; exact (Own.nil _ 2 w.heap.size).fresh, ⟨Nat.le_refl _, E.go.size⟩, E.go⟩
  · have e : splitC xs k = 1 := by rw [splitC, if_neg hk]
    refine ret_enter Try.func24 rfl Try.ntmps24 rfl ?_
    focus
      have ht_h := h.top
      refine c_seq ?_
      refine c_region ?_
      refine w_box rfl (k := fun b2 w2 hb2 hx2 hl2 hs2 => ?_)
      have hz_hx2 := hx2.size
      replace h := h.ext hx2
      replace E := E.trans hx2
      refine w_alloc (k := fun b4 w4 hb4 hx4 hl4 hs4 => ?_)
      have hz_hx4 := hx4.size
      replace hb2 := hb2.ext hx4
      replace h := h.ext hx4
      replace E := E.trans hx4
      refine w_alloc (k := fun b5 w5 hb5 hx5 hl5 hs5 => ?_)
      have hz_hx5 := hx5.size
      replace hb4 := hb4.ext hx5
      replace hb2 := hb2.ext hx5
      replace h := h.ext hx5
      replace E := E.trans hx5
      refine w_pure (y_assign rfl) rfl ?_
      refine w_nil ?_
      refine x_next ?_
      refine c_seq ?_
      refine c_seq ?_
      refine c_region ?_
      refine w_val rfl rfl rfl (l11Ok_z) rfl (fun w7 hx7 hz7 => ?_)
      have hz_hx7 := hx7.size
      replace hb5 := hb5.ext hx7
      replace hb4 := hb4.ext hx7
      replace hb2 := hb2.ext hx7
      replace h := h.ext hx7
      replace E := E.trans hx7
      refine w_pure (y_not rfl) rfl ?_
      refine w_nil ?_
      refine x_next ?_
      (refine c_not rfl (fun hc8 => ?_) (fun hc8 => ?_) <;> try (first | exact absurd rfl hc8 | contradiction | exact Bool.noConfusion (show false = true from hc8.symm.trans (by assumption)) | exact Bool.noConfusion (show true = false from hc8.symm.trans (by assumption)) | (exfalso; omega) | (exfalso; simp only [*, Bool.not_true, Bool.not_false, reduceCtorEq] at hc8; done)))
      refine c_seq ?_
      refine c_region ?_
      refine w_pure (y_build rfl) rfl ?_
      refine w_pure (y_build rfl) rfl ?_
      refine w_store_boxs rfl rfl (next := fun ws21 hbs21 hxs21 hss21 => ?_)
      (replace hb4 := hbs21; clear hbs21)
      have hz_hxs21 := hxs21.size
      replace hb5 := hb5.chg hxs21 (by omega)
      replace hb2 := hb2.chg hxs21 (by omega)
      replace h := h.chg hxs21 (by omega)
      replace E := E.next hxs21 (by omega)
      refine w_store_boxs rfl rfl (next := fun ws22 hbs22 hxs22 hss22 => ?_)
      (replace hb5 := hbs22; clear hbs22)
      have hz_hxs22 := hxs22.size
      replace hb4 := hb4.chg hxs22 (by omega)
      replace hb2 := hb2.chg hxs22 (by omega)
      replace h := h.chg hxs22 (by omega)
      replace E := E.next hxs22 (by omega)
      refine w_pure (y_assign rfl) rfl ?_
      refine w_nil ?_
      refine x_next ?_
      refine c_ret ?_
      refine x_then_ret ?_
      rotate_left
    exact x_retv [_, _, _] rfl ⟨⟨_, rfl, run_load_str (Box.at (by assumption)) (by rfl)⟩, ⟨_, rfl, run_load_str (Box.at (by assumption)) (by rfl)⟩, rfl, trivial⟩ ⟨_, _, w.heap.size, by rw [e]; rfl, by rw [resLow, e]; exact (Own.nil w 2 w.heap.size).fresh.ext E.go, by rw [resHigh, e]; exact (Own.nil _ 2 w.heap.size).fresh, ⟨Nat.le_refl _, E.go.size⟩, E.go⟩
end
end Go.Proofs.Ythigkbkaeopipaa

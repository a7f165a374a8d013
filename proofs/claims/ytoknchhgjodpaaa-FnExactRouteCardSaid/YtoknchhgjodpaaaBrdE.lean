/- Contracts: open entries, spare wires. -/
import Derived.Test.YtoknchhgjodpaaaBrdD
namespace Go.Proofs.Ytoknchhgjodpaaa
open Go Go.Gw
set_option linter.unusedVariables false
set_option linter.unusedSimpArgs false
theorem rootsF_take (h : Nat) (ws : List (Int × Int)) (k : Nat) : ∀ i, i ≤ k → rootsF h (ws.take k) i = rootsF h ws i
  | 0, _ => rfl
  | i + 1, hi => by
    have e : (ws.take k).getD i (0, 0) = ws.getD i (0, 0) := by
      rw [List.getD_eq_getElem?_getD, List.getD_eq_getElem?_getD, List.getElem?_take, if_pos (by omega)]
    rw [rootsF, rootsF, rootsF_take h ws k i (by omega), e]
def spareB (e n j : Int) (ws : List (Int × Int)) (k : Int) : Bool := decide ((rootsF (e + n + j).toNat ws k.toNat).getD (ws.getD k.toNat (0, 0)).1.toNat 0 = (rootsF (e + n + j).toNat ws k.toNat).getD (ws.getD k.toNat (0, 0)).2.toNat 0)
def resSpare (e n j : Int) (ws : List (Int × Int)) : List Int := if okB e n j ws = true then colsP (spareB e n j ws) ws.length else []
theorem resSpare_len (e n j : Int) (ws : List (Int × Int)) : (resSpare e n j ws).length ≤ 40 := by
  unfold resSpare; split
  · rename_i h; have h1 := okB_num h; have := colsP_len (spareB e n j ws) ws.length
    omega
  · simp
section
variable {w : World} {v v' v2 : Value} {xs ys wo : List Int} {ws : List (Int × Int)} {lo hi lo' hi' b b' b2 b3 : Nat} {e n j e' n' j' : Int}
theorem OpenEntries1_c (k : Int) (hk : okB e n j ws = true := by assumption) (hr : 0 ≤ k ∧ k ≤ n - 1 := by omega) (hp : At w b 0 [.int .i64 e, .int .i64 n, .int .i64 j, v] := by repeat (first | assumption | exact Go.Gw.Own.sl (by assumption) | exact Go.Gw.Box.at (by assumption) | (apply Go.Gw.SL.chg; case hx => assumption) | (apply Go.Gw.Own.chg; case hx => assumption) | (apply Go.Gw.Box.chg; case hx => assumption) | (apply Go.Gw.At.chg; case hx => assumption) | exact .inl (Nat.zero_le _) | exact .inr (Nat.zero_le _) | (show _ ∨ _; omega))) (h : SL w lo hi v ws := by repeat (first | assumption | exact Go.Gw.Own.sl (by assumption) | exact Go.Gw.Box.at (by assumption) | (apply Go.Gw.SL.chg; case hx => assumption) | (apply Go.Gw.Own.chg; case hx => assumption) | (apply Go.Gw.Box.chg; case hx => assumption) | (apply Go.Gw.At.chg; case hx => assumption) | exact .inl (Nat.zero_le _) | exact .inr (Nat.zero_le _) | (show _ ∨ _; omega))) : Val Try.prog 81 [.int .i64 k, ptr b 0] w (.bool (decide (((srcF e n j ws k).length : Int) = 0))) := by
  refine ⟨fun w0 hx0 => ?_⟩
  have E : Since 0 0 w0 w0 := Since.refl 0 0 w0
  refine ret_enter Try.func81 rfl Try.ntmps81 rfl ?_
  focus
    have ht_h := h.top
    have hz_hx0 := hx0.size
    replace hp := hp.ext hx0
    replace h := h.ext hx0
    refine c_seq ?_
    refine c_region ?_
    refine w_pure (y_assign rfl) rfl ?_
    refine w_nil ?_
    refine x_next ?_
    refine c_seq ?_
    refine c_region ?_
    refine w_pure (y_loads rfl) rfl ?_
    refine w_pure (y_move rfl) rfl ?_
    (refine w_call rfl rfl rfl (sourcesOf_c _) rfl ?_; rintro v6 w6 ⟨hp1_6, hx6⟩)
    have hl_hp1_6 := hp1_6.lt
    have hz_hx6 := hx6.size
    replace E := E.trans hx6
    replace hp := hp.ext hx6
    replace h := h.ext hx6
    refine w_pure (y_len rfl) rfl ?_
    refine w_pure (y_eq rfl rfl) rfl ?_
    refine w_pure (y_assign rfl) rfl ?_
    refine w_nil ?_
    refine x_next ?_
    refine c_ret ?_
    rotate_left
  exact x_retv [_] rfl ⟨rfl, trivial⟩ ⟨rfl, E.go⟩
theorem iOpenEntries_c (h : SL w lo hi v ws := by repeat (first | assumption | exact Go.Gw.Own.sl (by assumption) | exact Go.Gw.Box.at (by assumption) | (apply Go.Gw.SL.chg; case hx => assumption) | (apply Go.Gw.Own.chg; case hx => assumption) | (apply Go.Gw.Box.chg; case hx => assumption) | (apply Go.Gw.At.chg; case hx => assumption) | exact .inl (Nat.zero_le _) | exact .inr (Nat.zero_le _) | (show _ ∨ _; omega))) : Ret Try.prog 35 [.agg #[.int .i64 e, .int .i64 n, .int .i64 j, v]] w fun u w' => ∃ d, u = .tuple #[d, .int .i64 (cBrd e n j ws)] ∧ Own w' 2 w.heap.size d (resOpen e n j ws) ∧ Ext w w' := by
  have E : Since 0 0 w w := Since.refl 0 0 w
  by_cases hk : okB e n j ws = true
  · have q1 := okB_num hk
    have ec : cBrd e n j ws = 0 := by rw [cBrd, if_pos hk]
    refine ret_enter Try.func35 rfl Try.ntmps35 rfl ?_
    focus
      have ht_h := h.top
      refine c_seq ?_
      refine c_region ?_
      refine w_box rfl (k := fun b1 w1 hb1 hx1 hl1 hs1 => ?_)
      have hz_hx1 := hx1.size
      replace h := h.ext hx1
      replace E := E.trans hx1
      refine w_pure (y_assign rfl) rfl ?_
      refine w_pure (y_assign rfl) rfl ?_
      refine w_nil ?_
      refine x_next ?_
      refine c_seq ?_
      refine c_seq ?_
      refine c_region ?_
      refine w_pure (y_load_boxs rfl) rfl ?_
      refine w_val rfl rfl rfl (iValidBoard_c) rfl (fun w5 hx5 hz5 => ?_)
      have hz_hx5 := hx5.size
      replace hb1 := hb1.ext hx5
      replace h := h.ext hx5
      replace E := E.trans hx5
      refine w_pure (y_not rfl) rfl ?_
      refine w_nil ?_
      refine x_next ?_
      (refine c_not rfl (fun hc6 => ?_) (fun hc6 => ?_) <;> try (first | exact absurd rfl hc6 | contradiction | exact Bool.noConfusion (show false = true from hc6.symm.trans (by assumption)) | exact Bool.noConfusion (show true = false from hc6.symm.trans (by assumption)) | (exfalso; omega) | (exfalso; simp only [*, Bool.not_true, Bool.not_false, reduceCtorEq] at hc6; done)))
      refine c_skip ?_
      refine x_next ?_
      refine c_seq ?_
      refine c_region ?_
      refine w_pure (y_field rfl) rfl ?_
      refine w_pure (y_load_box rfl) rfl ?_
      refine w_pure (y_func rfl) rfl ?_
      (refine w_call rfl rfl rfl (columnsWhere_c (first := []) (cap := [ptr b1 0]) (p := fun k => decide (((srcF e n j ws k).length : Int) = 0)) (hp := fun x h0 h1 => OpenEntries1_c x hk ⟨by omega, by omega⟩)) rfl ?_; rintro v10 w10 ⟨hp1_10, hx10⟩)
      have hl_hp1_10 := hp1_10.lt
      have hz_hx10 := hx10.size
      replace hb1 := hb1.ext hx10
      replace h := h.ext hx10
      replace E := E.trans hx10
      refine w_pure (y_assign rfl) rfl ?_
      refine w_pure (y_assign rfl) rfl ?_
      refine w_nil ?_
      refine x_next ?_
      refine c_ret ?_
      rotate_left
    exact x_retv [_, _] rfl ⟨rfl, rfl, trivial⟩ ⟨_, by rw [ec]; rfl, by rw [resOpen, if_pos hk]; exact Own.base (by assumption) (by omega), E.go⟩
  · have ec : cBrd e n j ws = 1 := by rw [cBrd, if_neg hk]
    refine ret_enter Try.func35 rfl Try.ntmps35 rfl ?_
    focus
      have ht_h := h.top
      refine c_seq ?_
      refine c_region ?_
      refine w_box rfl (k := fun b1 w1 hb1 hx1 hl1 hs1 => ?_)
      have hz_hx1 := hx1.size
      replace h := h.ext hx1
      replace E := E.trans hx1
      refine w_pure (y_assign rfl) rfl ?_
      refine w_pure (y_assign rfl) rfl ?_
      refine w_nil ?_
      refine x_next ?_
      refine c_seq ?_
      refine c_seq ?_
      refine c_region ?_
      refine w_pure (y_load_boxs rfl) rfl ?_
      refine w_val rfl rfl rfl (iValidBoard_c) rfl (fun w5 hx5 hz5 => ?_)
      have hz_hx5 := hx5.size
      replace hb1 := hb1.ext hx5
      replace h := h.ext hx5
      replace E := E.trans hx5
      refine w_pure (y_not rfl) rfl ?_
      refine w_nil ?_
      refine x_next ?_
      (refine c_not rfl (fun hc6 => ?_) (fun hc6 => ?_) <;> try (first | exact absurd rfl hc6 | contradiction | exact Bool.noConfusion (show false = true from hc6.symm.trans (by assumption)) | exact Bool.noConfusion (show true = false from hc6.symm.trans (by assumption)) | (exfalso; omega) | (exfalso; simp only [*, Bool.not_true, Bool.not_false, reduceCtorEq] at hc6; done)))
      refine c_seq ?_
      refine c_region ?_
      refine w_pure (y_assign rfl) rfl ?_
      refine w_pure (y_assign rfl) rfl ?_
      refine w_nil ?_
      refine x_next ?_
      refine c_ret ?_
      refine x_then_ret ?_
      rotate_left
    exact x_retv [_, _] rfl ⟨rfl, rfl, trivial⟩ ⟨_, by rw [ec]; rfl, by rw [resOpen, if_neg hk]; exact Own.nil _ _ _, E.go⟩
theorem sOpenEntries_c (h : SL w lo hi v ws := by repeat (first | assumption | exact Go.Gw.Own.sl (by assumption) | exact Go.Gw.Box.at (by assumption) | (apply Go.Gw.SL.chg; case hx => assumption) | (apply Go.Gw.Own.chg; case hx => assumption) | (apply Go.Gw.Box.chg; case hx => assumption) | (apply Go.Gw.At.chg; case hx => assumption) | exact .inl (Nat.zero_le _) | exact .inr (Nat.zero_le _) | (show _ ∨ _; omega))) : Ret Try.prog 34 [.agg #[.int .i64 e, .int .i64 n, .int .i64 j, v]] w fun u w' => ∃ d, u = .tuple #[d, .int .i64 (cBrd e n j ws)] ∧ Own w' 2 w.heap.size d (resOpen e n j ws) ∧ Ext w w' := by
  have E : Since 0 0 w w := Since.refl 0 0 w
  have hnil := nilI w
  by_cases hk : okB e n j ws = true
  · have q1 := okB_num hk
    have hw := fun i hi => okB_getD hk i hi
    have q2 := rootsW_len (e + n + j).toNat ws [] ws.length
    have ec : cBrd e n j ws = 0 := by rw [cBrd, if_pos hk]
    refine ret_enter Try.func34 rfl Try.ntmps34 rfl ?_
    focus
      have ht_h := h.top
      have ht_hnil := hnil.top
      refine c_seq ?_
      refine c_region ?_
      refine w_box rfl (k := fun b1 w1 hb1 hx1 hl1 hs1 => ?_)
      have hz_hx1 := hx1.size
      replace h := h.ext hx1
      replace E := E.trans hx1
      replace hnil := hnil.ext hx1
      refine w_pure (y_assign rfl) rfl ?_
      refine w_pure (y_assign rfl) rfl ?_
      refine w_nil ?_
      refine x_next ?_
      refine c_seq ?_
      refine c_seq ?_
      refine c_region ?_
      refine w_val rfl rfl rfl (l12Ok_c) rfl (fun w7 hx7 hz7 => ?_)
      have hz_hx7 := hx7.size
      replace hb1 := hb1.ext hx7
      replace h := h.ext hx7
      replace E := E.trans hx7
      replace hnil := hnil.ext hx7
      refine w_pure (y_not rfl) rfl ?_
      refine w_nil ?_
      refine x_next ?_
      (refine c_not rfl (fun hc8 => ?_) (fun hc8 => ?_) <;> try (first | exact absurd rfl hc8 | contradiction | exact Bool.noConfusion (show false = true from hc8.symm.trans (by assumption)) | exact Bool.noConfusion (show true = false from hc8.symm.trans (by assumption)) | (exfalso; omega) | (exfalso; simp only [*, Bool.not_true, Bool.not_false, reduceCtorEq] at hc8; done)))
      refine c_skip ?_
      refine x_next ?_
      refine c_seq ?_
      refine c_region ?_
      (refine w_call rfl rfl rfl (l12Roots_c) rfl ?_; rintro v9 w9 ⟨hp1_9, hx9⟩)
      have hl_hp1_9 := hp1_9.lt
      have hz_hx9 := hx9.size
      replace hb1 := hb1.ext hx9
      replace h := h.ext hx9
      replace E := E.trans hx9
      replace hnil := hnil.ext hx9
      refine w_pure (y_assign rfl) rfl ?_
      refine w_nil ?_
      refine x_next ?_
      refine c_seq ?_
      refine c_region ?_
      refine w_lit (α := Int) rfl rfl rfl rfl rfl rfl rfl rfl (fun v10 w10 ho10 hx10 hl10 hh10 hs10 => ?_)
      have hl_ho10 := ho10.lt
      have hz_hx10 := hx10.size
      replace hp1_9 := hp1_9.ext hx10
      replace hb1 := hb1.ext hx10
      replace h := h.ext hx10
      replace E := E.trans hx10
      replace hnil := hnil.ext hx10
      refine w_pure (y_assign rfl) rfl ?_
      refine w_nil ?_
      refine x_next ?_
      refine c_seq ?_
      refine c_seq ?_
      refine c_region ?_
      refine w_pure (y_assign rfl) rfl ?_
      refine w_nil ?_
      refine x_next ?_
      refine c_block ?_
      rotate_left
    refine c_loopC (bL v10) (bH v10) (ι := Nat × Value) (fun x => [(1, ptr b1 0), (4, v9), (5, x.2), (6, .int .i64 x.1)]) (fun x w' => Own w' 2 (bL v10) x.2 (colsP (fun k => decide (((srcF e n j ws k).length : Int) = 0)) x.1) ∧ (x.1 : Int) ≤ n ∧ ((bL x.2 = bL v10 ∧ bH x.2 = bH v10) ∨ w10.heap.size ≤ bL x.2)) (fun x => n.toNat - x.1) (0, v10) (by repeat (first | exact trivial | refine ⟨rfl, ?_⟩)) ⟨ho10.rebase (.inr (Nat.le_refl _)), by simp; omega, .inl ⟨rfl, rfl⟩⟩ ?_
    rintro ⟨i, u⟩ wL hxL EL ⟨ho, hi, hbl⟩
    dsimp only at *
    clear ho10
    have q3 := colsP_len (fun k => decide (((srcF e n j ws k).length : Int) = 0)) i
    have q4 : (colsP (fun x => decide ((rootsW (e + n + j).toNat ws [] ws.length).getD (0 + x).toNat 0 = (rootsW (e + n + j).toNat ws [] ws.length).getD (e + i).toNat 0)) (e - 0).toNat) = srcF e n j ws i := by
      rw [netsW]; simp only [Int.zero_add, Int.sub_zero]; rfl
    focus
      have hl_ho := ho.lt
      have hz_hxL := hxL.size
      replace hp1_9 := hp1_9.chg hxL (by omega)
      replace hb1 := hb1.chg hxL (by omega)
      replace h := h.chg hxL (by omega)
      replace E := E.next hxL (by omega)
      replace hnil := hnil.chg hxL (by omega)
      refine c_seq ?_
      refine c_seq ?_
      refine c_region ?_
      refine w_pure (y_move rfl) rfl ?_
      refine w_pure (y_field rfl) rfl ?_
      refine w_pure (y_load_box rfl) rfl ?_
      refine w_pure (y_lt rfl rfl) rfl ?_
      refine w_nil ?_
      refine x_next ?_
      (refine c_dec rfl (fun hc14 => ?_) (fun hc14 => ?_) <;> try (first | exact absurd rfl hc14 | contradiction | exact Bool.noConfusion (show false = true from hc14.symm.trans (by assumption)) | exact Bool.noConfusion (show true = false from hc14.symm.trans (by assumption)) | (exfalso; omega) | (exfalso; simp only [*, Bool.not_true, Bool.not_false, reduceCtorEq] at hc14; done)))
      refine c_skip ?_
      refine x_next ?_
      refine c_seq ?_
      refine c_block ?_
      refine c_seq ?_
      refine c_region ?_
      refine w_pure (y_move rfl) rfl ?_
      refine w_pure (y_field rfl) rfl ?_
      refine w_pure (y_load_box rfl) rfl ?_
      refine w_pure (y_move rfl) rfl ?_
      refine w_pure (y_add rfl rfl) rfl ?_
      refine w_pure (y_field rfl) rfl ?_
      refine w_pure (y_load_box rfl) rfl ?_
      (refine w_call rfl rfl rfl (l12With_c _ _ _) rfl ?_; rintro v24 w24 ⟨hp1_24, hx24⟩)
      have hl_hp1_24 := hp1_24.lt
      have hz_hx24 := hx24.size
      replace EL := EL.next hx24 (by omega)
      replace ho := ho.ext hx24
      replace hp1_9 := hp1_9.ext hx24
      replace hb1 := hb1.ext hx24
      replace h := h.ext hx24
      replace E := E.trans hx24
      replace hnil := hnil.ext hx24
      refine w_pure (y_len rfl) rfl ?_
      refine w_pure (y_eq rfl rfl) rfl ?_
      refine w_nil ?_
      refine x_next ?_
      (refine c_dec rfl (fun hc26 => ?_) (fun hc26 => ?_) <;> try (first | exact absurd rfl hc26 | contradiction | exact Bool.noConfusion (show false = true from hc26.symm.trans (by assumption)) | exact Bool.noConfusion (show true = false from hc26.symm.trans (by assumption)) | (exfalso; omega) | (exfalso; simp only [*, Bool.not_true, Bool.not_false, reduceCtorEq] at hc26; done)))
      refine c_region ?_
      refine w_pure (y_move rfl) rfl ?_
      refine w_pure (y_move rfl) rfl ?_
      refine w_lit (α := Int) rfl rfl rfl rfl rfl rfl rfl rfl (fun v29 w29 ho29 hx29 hl29 hh29 hs29 => ?_)
      have hl_ho29 := ho29.lt
      have hz_hx29 := hx29.size
      replace hp1_24 := hp1_24.ext hx29
      replace EL := EL.next hx29 (by omega)
      replace ho := ho.ext hx29
      replace hp1_9 := hp1_9.ext hx29
      replace hb1 := hb1.ext hx29
      replace h := h.ext hx29
      replace E := E.trans hx29
      replace hnil := hnil.ext hx29
      refine w_append rfl rfl (k := fun v30 w30 ho30 hx30 hr30 => ?_)
      have hl_ho30 := ho30.lt
      have hz_hx30 := hx30.size
      replace ho29 := ho29.chg hx30 (by omega)
      replace hp1_24 := hp1_24.chg hx30 (by omega)
      replace EL := EL.next hx30 (by omega)
      replace hp1_9 := hp1_9.chg hx30 (by omega)
      replace hb1 := hb1.chg hx30 (by omega)
      replace h := h.chg hx30 (by omega)
      replace E := E.next hx30 (by omega)
      replace hnil := hnil.chg hx30 (by omega)
      refine w_pure (y_assign rfl) rfl ?_
      refine w_nil ?_
      refine x_block_norm ?_
      refine x_next ?_
      refine c_region ?_
      refine w_pure (y_move rfl) rfl ?_
      refine w_pure (y_add rfl rfl) rfl ?_
      refine w_pure (y_assign rfl) rfl ?_
      refine w_nil ?_
      rotate_left
      refine c_skip ?_
      refine x_block_norm ?_
      refine x_next ?_
      refine c_region ?_
      refine w_pure (y_move rfl) rfl ?_
      refine w_pure (y_add rfl rfl) rfl ?_
      refine w_pure (y_assign rfl) rfl ?_
      refine w_nil ?_
      rotate_left
      refine c_exit ?_
      refine x_then_exit ?_
      refine x_then_exit ?_
      refine x_block_hit ?_
      refine x_next ?_
      refine c_seq ?_
      refine c_region ?_
      refine w_pure (y_move rfl) rfl ?_
      refine w_pure (y_assign rfl) rfl ?_
      refine w_pure (y_assign rfl) rfl ?_
      refine w_nil ?_
      refine x_next ?_
      refine c_ret ?_
      rotate_left
    · refine x_again (i + 1, v30) (by repeat (first | exact trivial | refine ⟨rfl, ?_⟩)) ⟨EL.go, ?_, by dsimp only; omega, by dsimp only; omega⟩ (by dsimp only; omega)
      dsimp only
      rw [q4] at hc26
      rw [colsP, if_pos (decide_eq_true hc26)]
      assumption
    · refine x_again (i + 1, u) (by repeat (first | exact trivial | refine ⟨rfl, ?_⟩)) ⟨EL.go, ?_, by dsimp only; omega, by dsimp only; omega⟩ (by dsimp only; omega)
      dsimp only
      rw [q4] at hc26
      rw [colsP, if_neg (by rw [decide_eq_false hc26]; simp), List.append_nil]
      exact ho
    · refine x_retv [_, _] rfl ⟨rfl, rfl, trivial⟩ ⟨_, by rw [ec]; rfl, ?_, E.go⟩
      rw [resOpen, if_pos hk, show n.toNat = i by omega]; exact ho.base (by omega)
  · have ec : cBrd e n j ws = 1 := by rw [cBrd, if_neg hk]
    refine ret_enter Try.func34 rfl Try.ntmps34 rfl ?_
    focus
      have ht_h := h.top
      have ht_hnil := hnil.top
      refine c_seq ?_
      refine c_region ?_
      refine w_box rfl (k := fun b1 w1 hb1 hx1 hl1 hs1 => ?_)
      have hz_hx1 := hx1.size
      replace h := h.ext hx1
      replace E := E.trans hx1
      replace hnil := hnil.ext hx1
      refine w_pure (y_assign rfl) rfl ?_
      refine w_pure (y_assign rfl) rfl ?_
      refine w_nil ?_
      refine x_next ?_
      refine c_seq ?_
      refine c_seq ?_
      refine c_region ?_
      refine w_val rfl rfl rfl (l12Ok_c) rfl (fun w7 hx7 hz7 => ?_)
      have hz_hx7 := hx7.size
      replace hb1 := hb1.ext hx7
      replace h := h.ext hx7
      replace E := E.trans hx7
      replace hnil := hnil.ext hx7
      refine w_pure (y_not rfl) rfl ?_
      refine w_nil ?_
      refine x_next ?_
      (refine c_not rfl (fun hc8 => ?_) (fun hc8 => ?_) <;> try (first | exact absurd rfl hc8 | contradiction | exact Bool.noConfusion (show false = true from hc8.symm.trans (by assumption)) | exact Bool.noConfusion (show true = false from hc8.symm.trans (by assumption)) | (exfalso; omega) | (exfalso; simp only [*, Bool.not_true, Bool.not_false, reduceCtorEq] at hc8; done)))
      refine c_seq ?_
      refine c_region ?_
      refine w_pure (y_assign rfl) rfl ?_
      refine w_pure (y_assign rfl) rfl ?_
      refine w_nil ?_
      refine x_next ?_
      refine c_ret ?_
      refine x_then_ret ?_
      rotate_left
    exact x_retv [_, _] rfl ⟨rfl, rfl, trivial⟩ ⟨_, by rw [ec]; rfl, by rw [resOpen, if_neg hk]; exact Own.nil _ _ _, E.go⟩
theorem sizeW_c (h : SL w lo hi v ws := by repeat (first | assumption | exact Go.Gw.Own.sl (by assumption) | exact Go.Gw.Box.at (by assumption) | (apply Go.Gw.SL.chg; case hx => assumption) | (apply Go.Gw.Own.chg; case hx => assumption) | (apply Go.Gw.Box.chg; case hx => assumption) | (apply Go.Gw.At.chg; case hx => assumption) | exact .inl (Nat.zero_le _) | exact .inr (Nat.zero_le _) | (show _ ∨ _; omega))) : Val Try.prog 73 [v] w (.int .i64 ws.length) := by
  refine ⟨fun w0 hx0 => ?_⟩
  have E : Since 0 0 w0 w0 := Since.refl 0 0 w0
  have hsm := h.small
  refine ret_enter Try.func73 rfl Try.ntmps73 rfl ?_
  focus
    have ht_h := h.top
    have hz_hx0 := hx0.size
    replace h := h.ext hx0
    refine c_seq ?_
    refine c_region ?_
    refine w_pure (y_assign rfl) rfl ?_
    refine w_nil ?_
    refine x_next ?_
    refine c_seq ?_
    refine c_region ?_
    refine w_pure (y_move rfl) rfl ?_
    refine w_pure (y_len rfl) rfl ?_
    refine w_pure (y_assign rfl) rfl ?_
    refine w_nil ?_
    refine x_next ?_
    refine c_ret ?_
    rotate_left
  exact x_retv [_] rfl ⟨rfl, trivial⟩ ⟨rfl, E.go⟩
theorem SpareWires1_c (k : Int) (hk : okB e n j ws = true) (hr : 0 ≤ k ∧ k < ws.length) (hp : At w b 0 [.int .i64 e, .int .i64 n, .int .i64 j, v] := by repeat (first | assumption | exact Go.Gw.Own.sl (by assumption) | exact Go.Gw.Box.at (by assumption) | (apply Go.Gw.SL.chg; case hx => assumption) | (apply Go.Gw.Own.chg; case hx => assumption) | (apply Go.Gw.Box.chg; case hx => assumption) | (apply Go.Gw.At.chg; case hx => assumption) | exact .inl (Nat.zero_le _) | exact .inr (Nat.zero_le _) | (show _ ∨ _; omega))) (h : SL w lo hi v ws := by repeat (first | assumption | exact Go.Gw.Own.sl (by assumption) | exact Go.Gw.Box.at (by assumption) | (apply Go.Gw.SL.chg; case hx => assumption) | (apply Go.Gw.Own.chg; case hx => assumption) | (apply Go.Gw.Box.chg; case hx => assumption) | (apply Go.Gw.At.chg; case hx => assumption) | exact .inl (Nat.zero_le _) | exact .inr (Nat.zero_le _) | (show _ ∨ _; omega))) : Val Try.prog 77 [.int .i64 k, ptr b 0] w (.bool (spareB e n j ws k)) := by
  refine ⟨fun w0 hx0 => ?_⟩
  have E : Since 0 0 w0 w0 := Since.refl 0 0 w0
  have q1 := okB_num hk
  have hw := fun i hi => okB_getD hk i hi
  have ht : (ws.take k.toNat).drop (Int.toNat 0) = ws.take k.toNat := rfl
  have hw2 : ∀ i, i < ((ws.take k.toNat).drop (Int.toNat 0)).length → 0 ≤ (((ws.take k.toNat).drop (Int.toNat 0)).getD i (0, 0)).1 ∧ (((ws.take k.toNat).drop (Int.toNat 0)).getD i (0, 0)).1 < (((ws.take k.toNat).drop (Int.toNat 0)).getD i (0, 0)).2 ∧ (((ws.take k.toNat).drop (Int.toNat 0)).getD i (0, 0)).2 < e + n + j := fun i hi => by
    rw [ht] at hi ⊢
    rw [List.length_take] at hi
    rw [List.getD_eq_getElem?_getD, List.getElem?_take, if_pos (by omega), ← List.getD_eq_getElem?_getD]
    exact hw i (by omega)
  have q3 : rootsF (e + n + j).toNat ((ws.take k.toNat).drop (Int.toNat 0)) ((ws.take k.toNat).drop (Int.toNat 0)).length = rootsF (e + n + j).toNat ws k.toNat := by
    rw [ht, List.length_take, Nat.min_eq_left (by omega), rootsF_take _ _ _ _ (Nat.le_refl _)]
  have q4 := rootsF_len (e + n + j).toNat ((ws.take k.toNat).drop (Int.toNat 0)) ((ws.take k.toNat).drop (Int.toNat 0)).length
  have q5 := hw k.toNat (by omega)
  refine ret_enter Try.func77 rfl Try.ntmps77 rfl ?_
  focus
    have ht_h := h.top
    have hz_hx0 := hx0.size
    replace hp := hp.ext hx0
    replace h := h.ext hx0
    refine c_seq ?_
    refine c_region ?_
    refine w_pure (y_assign rfl) rfl ?_
    refine w_nil ?_
    refine x_next ?_
    refine c_seq ?_
    refine c_region_held mixed (fun wr1 hxr1 hzr1 => ?_)
    have hz_hxr1 := hxr1.size
    replace E := E.trans hxr1
    replace hp := hp.ext hxr1
    replace h := h.ext hxr1
    refine h_pure rfl (y_loads rfl) rfl ?_
    refine h_pure rfl (y_field rfl) rfl ?_
    refine h_pure rfl (y_loadk rfl) rfl ?_
    refine h_pure rfl (y_move rfl) rfl ?_
    (refine h_slice rfl rfl (.inl ⟨rfl, rfl⟩) (.inr ⟨_, _, rfl, rfl⟩) rfl ?_; intro u9 hu9)
    refine h_one rfl ?_
    (refine w_call rfl rfl rfl (firstHubs_c) rfl ?_; rintro v10 w10 ⟨hp1_10, hx10⟩)
    have hl_hp1_10 := hp1_10.lt
    have hz_hx10 := hx10.size
    replace E := E.trans hx10
    replace hp := hp.ext hx10
    replace h := h.ext hx10
    replace hu9 := hu9.ext hx10
    refine w_nil ?_
    refine x_held ?_
    refine h_pure rfl (y_assign rfl) rfl ?_
    refine h_nil ?_
    refine x_next ?_
    refine c_seq ?_
    refine c_region_calm mixed (by decide +kernel) (by kernel_rfl) ?_
    refine q_pure (y_move rfl) rfl ?_
    refine q_pure (y_field rfl) rfl ?_
    refine q_pure (y_loadk rfl) rfl ?_
    refine q_pure (y_move rfl) rfl ?_
    refine q_pure (y_index rfl rfl) rfl ?_
    refine q_pure (y_field rfl) rfl ?_
    refine q_pure (y_load_p0 rfl) rfl ?_
    refine q_pure (y_index rfl rfl) rfl ?_
    refine q_pure (y_load_int rfl) rfl ?_
    refine q_pure (y_move rfl) rfl ?_
    refine q_pure (y_field rfl) rfl ?_
    refine q_pure (y_loadk rfl) rfl ?_
    refine q_pure (y_move rfl) rfl ?_
    refine q_pure (y_index rfl rfl) rfl ?_
    refine q_pure (y_field rfl) rfl ?_
    refine q_pure (y_load_p1 rfl) rfl ?_
    refine q_pure (y_index rfl rfl) rfl ?_
    refine q_pure (y_load_int rfl) rfl ?_
    refine q_pure (y_eq rfl rfl) rfl ?_
    refine q_pure (y_assign rfl) rfl ?_
    refine q_nil (fun ws42 hxs42 hzs42 => ?_)
    have hz_hxs42 := hxs42.size
    replace hp1_10 := hp1_10.ext hxs42
    replace E := E.trans hxs42
    replace hp := hp.ext hxs42
    replace h := h.ext hxs42
    replace hu9 := hu9.ext hxs42
    refine x_next ?_
    refine c_ret ?_
    rotate_left
  refine x_retv [_] rfl ⟨rfl, trivial⟩ ⟨?_, E.go⟩
  rw [spareB, ← q3]; rfl
theorem iSpareWires_c (h : SL w lo hi v ws := by repeat (first | assumption | exact Go.Gw.Own.sl (by assumption) | exact Go.Gw.Box.at (by assumption) | (apply Go.Gw.SL.chg; case hx => assumption) | (apply Go.Gw.Own.chg; case hx => assumption) | (apply Go.Gw.Box.chg; case hx => assumption) | (apply Go.Gw.At.chg; case hx => assumption) | exact .inl (Nat.zero_le _) | exact .inr (Nat.zero_le _) | (show _ ∨ _; omega))) : Ret Try.prog 30 [.agg #[.int .i64 e, .int .i64 n, .int .i64 j, v]] w fun u w' => ∃ d, u = .tuple #[d, .int .i64 (cBrd e n j ws)] ∧ Own w' 2 w.heap.size d (resSpare e n j ws) ∧ Ext w w' := by
  have E : Since 0 0 w w := Since.refl 0 0 w
  by_cases hk : okB e n j ws = true
  · have q1 := okB_num hk
    have ec : cBrd e n j ws = 0 := by rw [cBrd, if_pos hk]
    refine ret_enter Try.func30 rfl Try.ntmps30 rfl ?_
    focus
      have ht_h := h.top
      refine c_seq ?_
      refine c_region ?_
      refine w_box rfl (k := fun b1 w1 hb1 hx1 hl1 hs1 => ?_)
      have hz_hx1 := hx1.size
      replace h := h.ext hx1
      replace E := E.trans hx1
      refine w_pure (y_assign rfl) rfl ?_
      refine w_pure (y_assign rfl) rfl ?_
      refine w_nil ?_
      refine x_next ?_
      refine c_seq ?_
      refine c_seq ?_
      refine c_region ?_
      refine w_pure (y_load_boxs rfl) rfl ?_
      refine w_val rfl rfl rfl (iValidBoard_c) rfl (fun w5 hx5 hz5 => ?_)
      have hz_hx5 := hx5.size
      replace hb1 := hb1.ext hx5
      replace h := h.ext hx5
      replace E := E.trans hx5
      refine w_pure (y_not rfl) rfl ?_
      refine w_nil ?_
      refine x_next ?_
      (refine c_not rfl (fun hc6 => ?_) (fun hc6 => ?_) <;> try (first | exact absurd rfl hc6 | contradiction | exact Bool.noConfusion (show false = true from hc6.symm.trans (by assumption)) | exact Bool.noConfusion (show true = false from hc6.symm.trans (by assumption)) | (exfalso; omega) | (exfalso; simp only [*, Bool.not_true, Bool.not_false, reduceCtorEq] at hc6; done)))
      refine c_skip ?_
      refine x_next ?_
      refine c_seq ?_
      refine c_region ?_
      refine w_pure (y_field rfl) rfl ?_
      refine w_pure (y_load_box rfl) rfl ?_
      refine w_val rfl rfl rfl (sizeW_c) rfl (fun w9 hx9 hz9 => ?_)
      have hz_hx9 := hx9.size
      replace hb1 := hb1.ext hx9
      replace h := h.ext hx9
      replace E := E.trans hx9
      refine w_pure (y_func rfl) rfl ?_
      (refine w_call rfl rfl rfl (columnsWhere_c (first := []) (cap := [ptr b1 0]) (p := spareB e n j ws) (hp := fun x h0 h1 => SpareWires1_c x hk ⟨by omega, by omega⟩)) rfl ?_; rintro v11 w11 ⟨hp1_11, hx11⟩)
      have hl_hp1_11 := hp1_11.lt
      have hz_hx11 := hx11.size
      replace hb1 := hb1.ext hx11
      replace h := h.ext hx11
      replace E := E.trans hx11
      refine w_pure (y_assign rfl) rfl ?_
      refine w_pure (y_assign rfl) rfl ?_
      refine w_nil ?_
      refine x_next ?_
      refine c_ret ?_
      rotate_left
    exact x_retv [_, _] rfl ⟨rfl, rfl, trivial⟩ ⟨_, by rw [ec]; rfl, by rw [resSpare, if_pos hk]; exact Own.base (by assumption) (by omega), E.go⟩
  · have ec : cBrd e n j ws = 1 := by rw [cBrd, if_neg hk]
    refine ret_enter Try.func30 rfl Try.ntmps30 rfl ?_
    focus
      have ht_h := h.top
      refine c_seq ?_
      refine c_region ?_
      refine w_box rfl (k := fun b1 w1 hb1 hx1 hl1 hs1 => ?_)
      have hz_hx1 := hx1.size
      replace h := h.ext hx1
      replace E := E.trans hx1
      refine w_pure (y_assign rfl) rfl ?_
      refine w_pure (y_assign rfl) rfl ?_
      refine w_nil ?_
      refine x_next ?_
      refine c_seq ?_
      refine c_seq ?_
      refine c_region ?_
      refine w_pure (y_load_boxs rfl) rfl ?_
      refine w_val rfl rfl rfl (iValidBoard_c) rfl (fun w5 hx5 hz5 => ?_)
      have hz_hx5 := hx5.size
      replace hb1 := hb1.ext hx5
      replace h := h.ext hx5
      replace E := E.trans hx5
      refine w_pure (y_not rfl) rfl ?_
      refine w_nil ?_
      refine x_next ?_
      (refine c_not rfl (fun hc6 => ?_) (fun hc6 => ?_) <;> try (first | exact absurd rfl hc6 | contradiction | exact Bool.noConfusion (show false = true from hc6.symm.trans (by assumption)) | exact Bool.noConfusion (show true = false from hc6.symm.trans (by assumption)) | (exfalso; omega) | (exfalso; simp only [*, Bool.not_true, Bool.not_false, reduceCtorEq] at hc6; done)))
      refine c_seq ?_
      refine c_region ?_
      refine w_pure (y_assign rfl) rfl ?_
      refine w_pure (y_assign rfl) rfl ?_
      refine w_nil ?_
      refine x_next ?_
      refine c_ret ?_
      refine x_then_ret ?_
      rotate_left
    exact x_retv [_, _] rfl ⟨rfl, rfl, trivial⟩ ⟨_, by rw [ec]; rfl, by rw [resSpare, if_neg hk]; exact Own.nil _ _ _, E.go⟩
theorem sSpareWires_c (h : SL w lo hi v ws := by repeat (first | assumption | exact Go.Gw.Own.sl (by assumption) | exact Go.Gw.Box.at (by assumption) | (apply Go.Gw.SL.chg; case hx => assumption) | (apply Go.Gw.Own.chg; case hx => assumption) | (apply Go.Gw.Box.chg; case hx => assumption) | (apply Go.Gw.At.chg; case hx => assumption) | exact .inl (Nat.zero_le _) | exact .inr (Nat.zero_le _) | (show _ ∨ _; omega))) : Ret Try.prog 29 [.agg #[.int .i64 e, .int .i64 n, .int .i64 j, v]] w fun u w' => ∃ d, u = .tuple #[d, .int .i64 (cBrd e n j ws)] ∧ Own w' 2 w.heap.size d (resSpare e n j ws) ∧ Ext w w' := by
  have E : Since 0 0 w w := Since.refl 0 0 w
  by_cases hk : okB e n j ws = true
  · have q1 := okB_num hk
    have hw := fun i hi => okB_getD hk i hi
    have ec : cBrd e n j ws = 0 := by rw [cBrd, if_pos hk]
    refine ret_enter Try.func29 rfl Try.ntmps29 rfl ?_
    focus
      have ht_h := h.top
      refine c_seq ?_
      refine c_region ?_
      refine w_box rfl (k := fun b1 w1 hb1 hx1 hl1 hs1 => ?_)
      have hz_hx1 := hx1.size
      replace h := h.ext hx1
      replace E := E.trans hx1
      refine w_pure (y_assign rfl) rfl ?_
      refine w_pure (y_assign rfl) rfl ?_
      refine w_nil ?_
      refine x_next ?_
      refine c_seq ?_
      refine c_seq ?_
      refine c_region ?_
      refine w_val rfl rfl rfl (l12Ok_c) rfl (fun w9 hx9 hz9 => ?_)
      have hz_hx9 := hx9.size
      replace hb1 := hb1.ext hx9
      replace h := h.ext hx9
      replace E := E.trans hx9
      refine w_pure (y_not rfl) rfl ?_
      refine w_nil ?_
      refine x_next ?_
      (refine c_not rfl (fun hc10 => ?_) (fun hc10 => ?_) <;> try (first | exact absurd rfl hc10 | contradiction | exact Bool.noConfusion (show false = true from hc10.symm.trans (by assumption)) | exact Bool.noConfusion (show true = false from hc10.symm.trans (by assumption)) | (exfalso; omega) | (exfalso; simp only [*, Bool.not_true, Bool.not_false, reduceCtorEq] at hc10; done)))
      refine c_skip ?_
      refine x_next ?_
      refine c_seq ?_
      refine c_region ?_
      refine w_lit (α := Int) rfl rfl rfl rfl rfl rfl rfl rfl (fun v11 w11 ho11 hx11 hl11 hh11 hs11 => ?_)
      have hl_ho11 := ho11.lt
      have hz_hx11 := hx11.size
      replace hb1 := hb1.ext hx11
      replace h := h.ext hx11
      replace E := E.trans hx11
      refine w_pure (y_assign rfl) rfl ?_
      refine w_nil ?_
      refine x_next ?_
      refine c_seq ?_
      refine c_seq ?_
      refine c_region ?_
      refine w_pure (y_assign rfl) rfl ?_
      refine w_nil ?_
      refine x_next ?_
      refine c_block ?_
      rotate_left
    refine c_loopC (bL v11) (bH v11) (ι := Nat × Value) (fun x => [(1, ptr b1 0), (4, x.2), (5, .int .i64 x.1)]) (fun x w' => Own w' 2 (bL v11) x.2 (upto x.1) ∧ (x.1 : Int) ≤ e + n + j ∧ ((bL x.2 = bL v11 ∧ bH x.2 = bH v11) ∨ w11.heap.size ≤ bL x.2)) (fun x => (e + n + j).toNat - x.1) (0, v11) (by repeat (first | exact trivial | refine ⟨rfl, ?_⟩)) ⟨ho11.rebase (.inr (Nat.le_refl _)), by simp; omega, .inl ⟨rfl, rfl⟩⟩ ?_
    rintro ⟨i, u⟩ wL hxL EL ⟨ho, hi, hbl⟩
    dsimp only at *
    clear ho11
    have q3 := upto_len i
    focus
      have hl_ho := ho.lt
      have hz_hxL := hxL.size
      replace hb1 := hb1.chg hxL (by omega)
      replace h := h.chg hxL (by omega)
      replace E := E.next hxL (by omega)
      refine c_seq ?_
      refine c_seq ?_
      refine c_region ?_
      refine w_pure (y_move rfl) rfl ?_
      refine w_val rfl rfl rfl (l12Hubs_c) rfl (fun w13 hx13 hz13 => ?_)
      have hz_hx13 := hx13.size
      replace EL := EL.next hx13 (by omega)
      replace ho := ho.ext hx13
      replace hb1 := hb1.ext hx13
      replace h := h.ext hx13
      replace E := E.trans hx13
      refine w_pure (y_lt rfl rfl) rfl ?_
      refine w_nil ?_
      refine x_next ?_
      (refine c_dec rfl (fun hc14 => ?_) (fun hc14 => ?_) <;> try (first | exact absurd rfl hc14 | contradiction | exact Bool.noConfusion (show false = true from hc14.symm.trans (by assumption)) | exact Bool.noConfusion (show true = false from hc14.symm.trans (by assumption)) | (exfalso; omega) | (exfalso; simp only [*, Bool.not_true, Bool.not_false, reduceCtorEq] at hc14; done)))
      refine c_skip ?_
      refine x_next ?_
      refine c_seq ?_
      refine c_block ?_
      refine c_region ?_
      refine w_pure (y_move rfl) rfl ?_
      refine w_pure (y_move rfl) rfl ?_
      refine w_lit (α := Int) rfl rfl rfl rfl rfl rfl rfl rfl (fun v19 w19 ho19 hx19 hl19 hh19 hs19 => ?_)
      have hl_ho19 := ho19.lt
      have hz_hx19 := hx19.size
      replace EL := EL.next hx19 (by omega)
      replace ho := ho.ext hx19
      replace hb1 := hb1.ext hx19
      replace h := h.ext hx19
      replace E := E.trans hx19
      refine w_append rfl rfl (k := fun v20 w20 ho20 hx20 hr20 => ?_)
      have hl_ho20 := ho20.lt
      have hz_hx20 := hx20.size
      replace ho19 := ho19.chg hx20 (by omega)
      replace EL := EL.next hx20 (by omega)
      replace hb1 := hb1.chg hx20 (by omega)
      replace h := h.chg hx20 (by omega)
      replace E := E.next hx20 (by omega)
      refine w_pure (y_assign rfl) rfl ?_
      refine w_nil ?_
      refine x_block_norm ?_
      refine x_next ?_
      refine c_region ?_
      refine w_pure (y_move rfl) rfl ?_
      refine w_pure (y_add rfl rfl) rfl ?_
      refine w_pure (y_assign rfl) rfl ?_
      refine w_nil ?_
      rotate_left
      refine c_exit ?_
      refine x_then_exit ?_
      refine x_then_exit ?_
      refine x_block_hit ?_
      refine x_next ?_
      refine c_seq ?_
      refine c_region ?_
      refine w_lit (α := Int) rfl rfl rfl rfl rfl rfl rfl rfl (fun v21 w21 ho21 hx21 hl21 hh21 hs21 => ?_)
      have hl_ho21 := ho21.lt
      have hz_hx21 := hx21.size
      replace EL := EL.next hx21 (by omega)
      replace ho := ho.ext hx21
      replace hb1 := hb1.ext hx21
      replace h := h.ext hx21
      replace E := E.trans hx21
      refine w_pure (y_assign rfl) rfl ?_
      refine w_nil ?_
      refine x_next ?_
      refine c_seq ?_
      refine c_seq ?_
      refine c_region ?_
      refine w_pure (y_assign rfl) rfl ?_
      refine w_nil ?_
      refine x_next ?_
      refine c_block ?_
      rotate_left
    · refine x_again (i + 1, v20) (by repeat (first | exact trivial | refine ⟨rfl, ?_⟩)) ⟨EL.go, ?_, by dsimp only; omega, by dsimp only; omega⟩ (by dsimp only; omega)
      dsimp only
      rw [upto_succ]
      assumption
    · have q2 : (e + n + j).toNat = i := by omega
      refine c_loopC (bL u) (bH v21) (ι := Nat × Value) (fun x => [(1, ptr b1 0), (4, u), (6, x.2), (7, .int .i64 x.1)]) (fun x w' => Own w' 2 (bL v11) u (rootsF i ws x.1) ∧ Own w' 2 (bL v21) x.2 (colsP (spareB e n j ws) x.1) ∧ x.1 ≤ ws.length ∧ ((bL x.2 = bL v21 ∧ bH x.2 = bH v21) ∨ w21.heap.size ≤ bL x.2)) (fun x => ws.length - x.1) (0, v21) (by repeat (first | exact trivial | refine ⟨rfl, ?_⟩)) ⟨ho, ho21.rebase (.inr (Nat.le_refl _)), by simp, .inl ⟨rfl, rfl⟩⟩ ?_
      rintro ⟨m, y⟩ wM hxM EM ⟨hom, hoy, hm, hby⟩
      dsimp only at *
      clear ho ho21 hxL
      have q5 := rootsF_len i ws m
      have q6 := colsP_len (spareB e n j ws) m
      by_cases hlt : m < ws.length
      · have q4 := hw m hlt
        focus
          have hl_hom := hom.lt
          have hl_hoy := hoy.lt
          have hz_hxM := hxM.size
          replace hb1 := hb1.chg hxM (by omega)
          replace h := h.chg hxM (by omega)
          replace E := E.next hxM (by omega)
          refine c_seq ?_
          refine c_seq ?_
          refine c_region ?_
          refine w_pure (y_move rfl) rfl ?_
          refine w_pure (y_field rfl) rfl ?_
          refine w_pure (y_load_box rfl) rfl ?_
          refine w_pure (y_len rfl) rfl ?_
          refine w_pure (y_lt rfl rfl) rfl ?_
          refine w_nil ?_
          refine x_next ?_
          (refine c_dec rfl (fun hc26 => ?_) (fun hc26 => ?_) <;> try (first | exact absurd rfl hc26 | contradiction | exact Bool.noConfusion (show false = true from hc26.symm.trans (by assumption)) | exact Bool.noConfusion (show true = false from hc26.symm.trans (by assumption)) | (exfalso; omega) | (exfalso; simp only [*, Bool.not_true, Bool.not_false, reduceCtorEq] at hc26; done)))
          refine c_skip ?_
          refine x_next ?_
          refine c_seq ?_
          refine c_block ?_
          refine c_seq ?_
          refine c_region ?_
          refine w_pure (y_field rfl) rfl ?_
          refine w_pure (y_load_box rfl) rfl ?_
          refine w_pure (y_move rfl) rfl ?_
          refine w_pure (y_index rfl rfl) rfl ?_
          refine w_pure (y_load_paire rfl (show ws.getD (m : Int).toNat (0, 0) = ((ws.getD m (0, 0)).1, (ws.getD m (0, 0)).2) from rfl)) rfl ?_
          refine w_alloc (k := fun b8 w8 hb8 hx8 hl8 hs8 => ?_)
          have hz_hx8 := hx8.size
          replace EM := EM.next hx8 (by omega)
          replace hom := hom.ext hx8
          replace hoy := hoy.ext hx8
          replace hb1 := hb1.ext hx8
          replace h := h.ext hx8
          replace E := E.trans hx8
          refine w_store_boxs rfl rfl (next := fun ws24 hbs24 hxs24 hss24 => ?_)
          (replace hb8 := hbs24; clear hbs24)
          have hz_hxs24 := hxs24.size
          replace EM := EM.next hxs24 (by omega)
          replace hom := hom.chg hxs24 (by omega)
          replace hoy := hoy.chg hxs24 (by omega)
          replace hb1 := hb1.chg hxs24 (by omega)
          replace h := h.chg hxs24 (by omega)
          replace E := E.next hxs24 (by omega)
          refine w_nil ?_
          refine x_next ?_
          refine c_seq ?_
          refine c_seq ?_
          refine c_region_calm mixed (by decide +kernel) (by kernel_rfl) ?_
          refine q_pure (y_move rfl) rfl ?_
          refine q_pure (y_field rfl) rfl ?_
          refine q_pure (y_load_box rfl) rfl ?_
          refine q_pure (y_index rfl rfl) rfl ?_
          refine q_pure (y_load_int rfl) rfl ?_
          refine q_pure (y_move rfl) rfl ?_
          refine q_pure (y_field rfl) rfl ?_
          refine q_pure (y_load_box rfl) rfl ?_
          refine q_pure (y_index rfl rfl) rfl ?_
          refine q_pure (y_load_int rfl) rfl ?_
          refine q_pure (y_eq rfl rfl) rfl ?_
          refine q_nil (fun ws41 hxs41 hzs41 => ?_)
          have hz_hxs41 := hxs41.size
          replace hb8 := hb8.ext hxs41
          replace EM := EM.next hxs41 (by omega)
          replace hom := hom.ext hxs41
          replace hoy := hoy.ext hxs41
          replace hb1 := hb1.ext hxs41
          replace h := h.ext hxs41
          replace E := E.trans hxs41
          refine x_next ?_
          (refine c_dec rfl (fun hc44 => ?_) (fun hc44 => ?_) <;> try (first | exact absurd rfl hc44 | contradiction | exact Bool.noConfusion (show false = true from hc44.symm.trans (by assumption)) | exact Bool.noConfusion (show true = false from hc44.symm.trans (by assumption)) | (exfalso; omega) | (exfalso; simp only [*, Bool.not_true, Bool.not_false, reduceCtorEq] at hc44; done)))
          refine c_region ?_
          refine w_pure (y_move rfl) rfl ?_
          refine w_pure (y_move rfl) rfl ?_
          refine w_lit (α := Int) rfl rfl rfl rfl rfl rfl rfl rfl (fun v47 w47 ho47 hx47 hl47 hh47 hs47 => ?_)
          have hl_ho47 := ho47.lt
          have hz_hx47 := hx47.size
          replace hb8 := hb8.ext hx47
          replace EM := EM.next hx47 (by omega)
          replace hom := hom.ext hx47
          replace hoy := hoy.ext hx47
          replace hb1 := hb1.ext hx47
          replace h := h.ext hx47
          replace E := E.trans hx47
          refine w_append rfl rfl (k := fun v48 w48 ho48 hx48 hr48 => ?_)
          have hl_ho48 := ho48.lt
          have hz_hx48 := hx48.size
          replace ho47 := ho47.chg hx48 (by omega)
          replace hb8 := hb8.chg hx48 (by omega)
          replace EM := EM.next hx48 (by omega)
          replace hom := hom.chg hx48 (by omega)
          replace hb1 := hb1.chg hx48 (by omega)
          replace h := h.chg hx48 (by omega)
          replace E := E.next hx48 (by omega)
          refine w_pure (y_assign rfl) rfl ?_
          refine w_nil ?_
          refine x_next ?_
          refine c_region_held mixed (fun wr15 hxr15 hzr15 => ?_)
          have hz_hxr15 := hxr15.size
          replace ho48 := ho48.ext hxr15
          replace ho47 := ho47.ext hxr15
          replace hb8 := hb8.ext hxr15
          replace EM := EM.next hxr15 (by omega)
          replace hom := hom.ext hxr15
          replace hb1 := hb1.ext hxr15
          replace h := h.ext hxr15
          replace E := E.trans hxr15
          refine h_pure rfl (y_move rfl) rfl ?_
          refine h_pure rfl (y_move rfl) rfl ?_
          refine h_pure rfl (y_field rfl) rfl ?_
          refine h_pure rfl (y_load_box rfl) rfl ?_
          refine h_pure rfl (y_index rfl rfl) rfl ?_
          refine h_pure rfl (y_load_int rfl) rfl ?_
          refine h_pure rfl (y_move rfl) rfl ?_
          refine h_pure rfl (y_field rfl) rfl ?_
          refine h_pure rfl (y_load_box rfl) rfl ?_
          refine h_pure rfl (y_index rfl rfl) rfl ?_
          refine h_pure rfl (y_load_int rfl) rfl ?_
          refine h_one rfl ?_
          (refine w_call rfl rfl rfl (l12Join_c _ _) rfl ?_; rintro _ w60 ⟨rfl, ⟨hp1_60, hx60⟩⟩)
          have hl_hp1_60 := hp1_60.lt
          have hz_hx60 := hx60.size
          replace ho48 := ho48.chg hx60 (by omega)
          replace ho47 := ho47.chg hx60 (by omega)
          replace hb8 := hb8.chg hx60 (by omega)
          replace EM := EM.next hx60 (by omega)
          replace hb1 := hb1.chg hx60 (by omega)
          replace h := h.chg hx60 (by omega)
          replace E := E.next hx60 (by omega)
          refine w_nil ?_
          refine x_heldk ?_
          refine h_pure rfl (y_assign rfl) rfl ?_
          refine h_nil ?_
          refine x_block_norm ?_
          refine x_next ?_
          refine c_region ?_
          refine w_pure (y_move rfl) rfl ?_
          refine w_pure (y_add rfl rfl) rfl ?_
          refine w_pure (y_assign rfl) rfl ?_
          refine w_nil ?_
          rotate_left
          refine c_skip ?_
          refine x_next ?_
          refine c_region_held mixed (fun wr15 hxr15 hzr15 => ?_)
          have hz_hxr15 := hxr15.size
          replace hb8 := hb8.ext hxr15
          replace EM := EM.next hxr15 (by omega)
          replace hom := hom.ext hxr15
          replace hoy := hoy.ext hxr15
          replace hb1 := hb1.ext hxr15
          replace h := h.ext hxr15
          replace E := E.trans hxr15
          refine h_pure rfl (y_move rfl) rfl ?_
          refine h_pure rfl (y_move rfl) rfl ?_
          refine h_pure rfl (y_field rfl) rfl ?_
          refine h_pure rfl (y_load_box rfl) rfl ?_
          refine h_pure rfl (y_index rfl rfl) rfl ?_
          refine h_pure rfl (y_load_int rfl) rfl ?_
          refine h_pure rfl (y_move rfl) rfl ?_
          refine h_pure rfl (y_field rfl) rfl ?_
          refine h_pure rfl (y_load_box rfl) rfl ?_
          refine h_pure rfl (y_index rfl rfl) rfl ?_
          refine h_pure rfl (y_load_int rfl) rfl ?_
          refine h_one rfl ?_
          (refine w_call rfl rfl rfl (l12Join_c _ _) rfl ?_; rintro _ w60 ⟨rfl, ⟨hp1_60, hx60⟩⟩)
          have hl_hp1_60 := hp1_60.lt
          have hz_hx60 := hx60.size
          replace hb8 := hb8.chg hx60 (by omega)
          replace EM := EM.next hx60 (by omega)
          replace hoy := hoy.chg hx60 (by omega)
          replace hb1 := hb1.chg hx60 (by omega)
          replace h := h.chg hx60 (by omega)
          replace E := E.next hx60 (by omega)
          refine w_nil ?_
          refine x_heldk ?_
          refine h_pure rfl (y_assign rfl) rfl ?_
          refine h_nil ?_
          refine x_block_norm ?_
          refine x_next ?_
          refine c_region ?_
          refine w_pure (y_move rfl) rfl ?_
          refine w_pure (y_add rfl rfl) rfl ?_
          refine w_pure (y_assign rfl) rfl ?_
          refine w_nil ?_
          rotate_left
        · have hs : spareB e n j ws (m : Int) = true := by rw [spareB, q2]; exact decide_eq_true hc44
          refine x_again (m + 1, v48) (by repeat (first | exact trivial | refine ⟨rfl, ?_⟩)) ⟨EM.go, ?_, ?_, by dsimp only; omega, by dsimp only; omega⟩ (by dsimp only; omega)
          · assumption
          · dsimp only; rw [colsP, if_pos hs]; assumption
        · have hs : ¬ spareB e n j ws (m : Int) = true := by rw [spareB, q2]; exact fun g => hc44 (of_decide_eq_true g)
          refine x_again (m + 1, y) (by repeat (first | exact trivial | refine ⟨rfl, ?_⟩)) ⟨EM.go, ?_, ?_, by dsimp only; omega, by dsimp only; omega⟩ (by dsimp only; omega)
          · assumption
          · dsimp only; rw [colsP, if_neg hs, List.append_nil]; assumption
      · focus
          have hl_hom := hom.lt
          have hl_hoy := hoy.lt
          have hz_hxM := hxM.size
          replace hb1 := hb1.chg hxM (by omega)
          replace h := h.chg hxM (by omega)
          replace E := E.next hxM (by omega)
          refine c_seq ?_
          refine c_seq ?_
          refine c_region ?_
          refine w_pure (y_move rfl) rfl ?_
          refine w_pure (y_field rfl) rfl ?_
          refine w_pure (y_load_box rfl) rfl ?_
          refine w_pure (y_len rfl) rfl ?_
          refine w_pure (y_lt rfl rfl) rfl ?_
          refine w_nil ?_
          refine x_next ?_
          (refine c_dec rfl (fun hc26 => ?_) (fun hc26 => ?_) <;> try (first | exact absurd rfl hc26 | contradiction | exact Bool.noConfusion (show false = true from hc26.symm.trans (by assumption)) | exact Bool.noConfusion (show true = false from hc26.symm.trans (by assumption)) | (exfalso; omega) | (exfalso; simp only [*, Bool.not_true, Bool.not_false, reduceCtorEq] at hc26; done)))
          refine c_exit ?_
          refine x_then_exit ?_
          refine x_then_exit ?_
          refine x_block_hit ?_
          refine x_next ?_
          refine c_seq ?_
          refine c_region ?_
          refine w_pure (y_move rfl) rfl ?_
          refine w_pure (y_assign rfl) rfl ?_
          refine w_pure (y_assign rfl) rfl ?_
          refine w_nil ?_
          refine x_next ?_
          refine c_ret ?_
          rotate_left
        refine x_retv [_, _] rfl ⟨rfl, rfl, trivial⟩ ⟨_, by rw [ec]; rfl, ?_, E.go⟩
        rw [resSpare, if_pos hk, show ws.length = m by omega]; exact hoy.base (by omega)
  · have ec : cBrd e n j ws = 1 := by rw [cBrd, if_neg hk]
    refine ret_enter Try.func29 rfl Try.ntmps29 rfl ?_
    focus
      have ht_h := h.top
      refine c_seq ?_
      refine c_region ?_
      refine w_box rfl (k := fun b1 w1 hb1 hx1 hl1 hs1 => ?_)
      have hz_hx1 := hx1.size
      replace h := h.ext hx1
      replace E := E.trans hx1
      refine w_pure (y_assign rfl) rfl ?_
      refine w_pure (y_assign rfl) rfl ?_
      refine w_nil ?_
      refine x_next ?_
      refine c_seq ?_
      refine c_seq ?_
      refine c_region ?_
      refine w_val rfl rfl rfl (l12Ok_c) rfl (fun w9 hx9 hz9 => ?_)
      have hz_hx9 := hx9.size
      replace hb1 := hb1.ext hx9
      replace h := h.ext hx9
      replace E := E.trans hx9
      refine w_pure (y_not rfl) rfl ?_
      refine w_nil ?_
      refine x_next ?_
      (refine c_not rfl (fun hc10 => ?_) (fun hc10 => ?_) <;> try (first | exact absurd rfl hc10 | contradiction | exact Bool.noConfusion (show false = true from hc10.symm.trans (by assumption)) | exact Bool.noConfusion (show true = false from hc10.symm.trans (by assumption)) | (exfalso; omega) | (exfalso; simp only [*, Bool.not_true, Bool.not_false, reduceCtorEq] at hc10; done)))
      refine c_seq ?_
      refine c_region ?_
      refine w_pure (y_assign rfl) rfl ?_
      refine w_pure (y_assign rfl) rfl ?_
      refine w_nil ?_
      refine x_next ?_
      refine c_ret ?_
      refine x_then_ret ?_
      rotate_left
    exact x_retv [_, _] rfl ⟨rfl, rfl, trivial⟩ ⟨_, by rw [ec]; rfl, by rw [resSpare, if_neg hk]; exact Own.nil _ _ _, E.go⟩
end
end Go.Proofs.Ytoknchhgjodpaaa

/- Contracts: open entries, spare wires. -/
import Derived.Test.YthigkbkaeopipaaBrdD
namespace Go.Proofs.Ythigkbkaeopipaa
open Go Go.Gw
set_option linter.unusedVariables false
set_option linter.unusedSimpArgs false
theorem rootsF_take (h : Nat) (ws : List (Int × Int)) (k : Nat) : ∀ i, i ≤ k → rootsF h (ws.take k) i = rootsF h ws i
  | 0, _ => rfl
  | i + 1, hi => by
    have e : (ws.take k).getD i (0, 0) = ws.getD i (0, 0) := by
      rw [List.getD_eq_getElem?_getD, List.getD_eq_getElem?_getD, List.getElem?_take, if_pos (by omega)]
    rw [rootsF, rootsF, rootsF_take h ws k i (by omega), e]
def spareB (e n j : Int) (ws : List (Int × Int)) (k : Int) : Bool := decide ((rootsF (e + n + j).toNat ws k.toNat).getD (ws.getD k.toNat (0, 0)).1.toNat 0 = (rootsF (e + n + j).toNat ws k.toNat).getD (ws.getD k.toNat (0, 0)).2.toNat 0)
def resSpare (e n j : Int) (ws : List (Int × Int)) : List Int := if okB e n j ws = true then colsP (spareB e n j ws) ws.length else []
theorem resSpare_len (e n j : Int) (ws : List (Int × Int)) : (resSpare e n j ws).length ≤ 40 := by
  unfold resSpare; split
  · rename_i h; have h1 := okB_num h; have := colsP_len (spareB e n j ws) ws.length
    omega
  · simp
section
variable {w : World} {v v' v2 : Value} {xs ys wo : List Int} {ws : List (Int × Int)} {lo hi lo' hi' b b' b2 b3 : Nat} {e n j e' n' j' : Int}
theorem OpenEntries1_c (k : Int) (hk : okB e n j ws = true := by assumption) (hr : 0 ≤ k ∧ k ≤ n - 1 := by omega) (hp : At w b 0 [.int .i64 e, .int .i64 n, .int .i64 j, v] := by repeat (first | assumption | exact Go.Gw.Own.sl (by assumption) | exact Go.Gw.Box.at (by assumption) | exact Go.Gw.SLL.el (by first | assumption | exact Go.Gw.OwnD.sll (by assumption)) _ (by omega) | exact Go.Gw.SLL.at (by first | assumption | exact Go.Gw.OwnD.sll (by assumption)) (by omega) | exact Go.Gw.OwnD.sll (by assumption) | (apply Go.Gw.SL.chg; case hx => assumption) | (apply Go.Gw.Own.chg; case hx => assumption) | (apply Go.Gw.Box.chg; case hx => assumption) | (apply Go.Gw.At.chg; case hx => assumption) | exact .inl (Nat.zero_le _) | exact .inr (Nat.zero_le _) | (show _ ∨ _; omega))) (h : SL w lo hi v ws := by repeat (first | assumption | exact Go.Gw.Own.sl (by assumption) | exact Go.Gw.Box.at (by assumption) | exact Go.Gw.SLL.el (by first | assumption | exact Go.Gw.OwnD.sll (by assumption)) _ (by omega) | exact Go.Gw.SLL.at (by first | assumption | exact Go.Gw.OwnD.sll (by assumption)) (by omega) | exact Go.Gw.OwnD.sll (by assumption) | (apply Go.Gw.SL.chg; case hx => assumption) | (apply Go.Gw.Own.chg; case hx => assumption) | (apply Go.Gw.Box.chg; case hx => assumption) | (apply Go.Gw.At.chg; case hx => assumption) | exact .inl (Nat.zero_le _) | exact .inr (Nat.zero_le _) | (show _ ∨ _; omega))) : Val Try.prog 116 [.int .i64 k, ptr b 0] w (.bool (decide (((srcF e n j ws k).length : Int) = 0))) := by
  refine ⟨fun w0 hx0 => ?_⟩
  have E : Since 0 0 w0 w0 := Since.refl 0 0 w0
  refine ret_enter Try.func116 rfl Try.ntmps116 rfl ?_
  focus
    have ht_h := h.top
    have hz_hx0 := hx0.size
    replace hp := hp.ext hx0
    replace h := h.ext hx0
    refine c_seq ?_
    refine c_region ?_
    refine w_pure (y_assign rfl) rfl ?_
    refine w_nil ?_
    refine x_next ?_
    refine c_seq ?_
    refine c_region ?_
    refine w_pure (y_loads rfl) rfl ?_
    refine w_pure (y_move rfl) rfl ?_
    (refine w_call rfl rfl rfl (sourcesOf_c _) rfl ?_; rintro v6 w6 ⟨hp1_6, hx6⟩)
    have hl_hp1_6 := hp1_6.lt
    have hz_hx6 := hx6.size
    replace E := E.trans hx6
    replace hp := hp.ext hx6
    replace h := h.ext hx6
    refine w_pure (y_len rfl) rfl ?_
    refine w_pure (y_eq rfl rfl) rfl ?_
    refine w_pure (y_assign rfl) rfl ?_
    refine w_nil ?_
    refine x_next ?_
    refine c_ret ?_
    rotate_left
  exact x_retv [_] rfl ⟨rfl, trivial⟩ ⟨rfl, E.go⟩
theorem iOpenEntries_c (h : SL w lo hi v ws := by repeat (first | assumption | exact Go.Gw.Own.sl (by assumption) | exact Go.Gw.Box.at (by assumption) | exact Go.Gw.SLL.el (by first | assumption | exact Go.Gw.OwnD.sll (by assumption)) _ (by omega) | exact Go.Gw.SLL.at (by first | assumption | exact Go.Gw.OwnD.sll (by assumption)) (by omega) | exact Go.Gw.OwnD.sll (by assumption) | (apply Go.Gw.SL.chg; case hx => assumption) | (apply Go.Gw.Own.chg; case hx => assumption) | (apply Go.Gw.Box.chg; case hx => assumption) | (apply Go.Gw.At.chg; case hx => assumption) | exact .inl (Nat.zero_le _) | exact .inr (Nat.zero_le _) | (show _ ∨ _; omega))) : Ret Try.prog 38 [.agg #[.int .i64 e, .int .i64 n, .int .i64 j, v]] w fun u w' => ∃ d, u = .tuple #[d, .int .i64 (cBrd e n j ws)] ∧ Own w' 2 w.heap.size d (resOpen e n j ws) ∧ Ext w w' := by
  have E : Since 0 0 w w := Since.refl 0 0 w
  by_cases hk : okB e n j ws = true
  · have q1 := okB_num hk
    have ec : cBrd e n j ws = 0 := by rw [cBrd, if_pos hk]
    refine ret_enter Try.func38 rfl Try.ntmps38 rfl ?_
    focus
      have ht_h := h.top
      refine c_seq ?_
      refine c_region ?_
      refine w_box rfl (k := fun b1 w1 hb1 hx1 hl1 hs1 => ?_)
      have hz_hx1 := hx1.size
      replace h := h.ext hx1
      replace E := E.trans hx1
      refine w_pure (y_assign rfl) rfl ?_
      refine w_pure (y_assign rfl) rfl ?_
      refine w_nil ?_
      refine x_next ?_
      refine c_seq ?_
      refine c_seq ?_
      refine c_region ?_
      refine w_pure (y_load_boxs rfl) rfl ?_
      refine w_val rfl rfl rfl (iValidBoard_c) rfl (fun w5 hx5 hz5 => ?_)
      have hz_hx5 := hx5.size
      replace hb1 := hb1.ext hx5
      replace h := h.ext hx5
      replace E := E.trans hx5
      refine w_pure (y_not rfl) rfl ?_
      refine w_nil ?_
      refine x_next ?_
      (refine c_not rfl (fun hc6 => ?_) (fun hc6 => ?_) <;> try (first | exact absurd rfl hc6 | contradiction | exact Bool.noConfusion (show false = true from hc6.symm.trans (by assumption)) | exact Bool.noConfusion (show true = false from hc6.symm.trans (by assumption)) | (exfalso; omega) | (exfalso; simp only [*, Bool.not_true, Bool.not_false, reduceCtorEq] at hc6; done)))
      refine c_skip ?_
      refine x_next ?_
      refine c_seq ?_
      refine c_region ?_
      refine w_pure (y_field rfl) rfl ?_
      refine w_pure (y_load_box rfl) rfl ?_
      refine w_pure (y_func rfl) rfl ?_
      (refine w_call rfl rfl rfl (columnsWhere_c (first := []) (cap := [ptr b1 0]) (p := fun k => decide (((srcF e n j ws k).length : Int) = 0)) (hp := fun x h0 h1 => OpenEntries1_c x hk ⟨by omega, by omega⟩)) rfl ?_; rintro v10 w10 ⟨hp1_10, hx10⟩)
      have hl_hp1_10 := hp1_10.lt
      have hz_hx10 := hx10.size
      replace hb1 := hb1.ext hx10
      replace h := h.ext hx10
      replace E := E.trans hx10
      refine w_pure (y_assign rfl) rfl ?_
      refine w_pure (y_assign rfl) rfl ?_
      refine w_nil ?_
      refine x_next ?_
      refine c_ret ?_
      rotate_left
    exact x_retv [_, _] rfl ⟨rfl, rfl, trivial⟩ ⟨_, by rw [ec]; rfl, by rw [resOpen, if_pos hk]; exact Own.base (by assumption) (by omega), E.go⟩
  · have ec : cBrd e n j ws = 1 := by rw [cBrd, if_neg hk]
    refine ret_enter Try.func38 rfl Try.ntmps38 rfl ?_
    focus
      have ht_h := h.top
      refine c_seq ?_
      refine c_region ?_
      refine w_box rfl (k := fun b1 w1 hb1 hx1 hl1 hs1 => ?_)
      have hz_hx1 := hx1.size
      replace h := h.ext hx1
      replace E := E.trans hx1
      refine w_pure (y_assign rfl) rfl ?_
      refine w_pure (y_assign rfl) rfl ?_
      refine w_nil ?_
      refine x_next ?_
      refine c_seq ?_
      refine c_seq ?_
      refine c_region ?_
      refine w_pure (y_load_boxs rfl) rfl ?_
      refine w_val rfl rfl rfl (iValidBoard_c) rfl (fun w5 hx5 hz5 => ?_)
      have hz_hx5 := hx5.size
      replace hb1 := hb1.ext hx5
      replace h := h.ext hx5
      replace E := E.trans hx5
      refine w_pure (y_not rfl) rfl ?_
      refine w_nil ?_
      refine x_next ?_
      (refine c_not rfl (fun hc6 => ?_) (fun hc6 => ?_) <;> try (first | exact absurd rfl hc6 | contradiction | exact Bool.noConfusion (show false = true from hc6.symm.trans (by assumption)) | exact Bool.noConfusion (show true = false from hc6.symm.trans (by assumption)) | (exfalso; omega) | (exfalso; simp only [*, Bool.not_true, Bool.not_false, reduceCtorEq] at hc6; done)))
      refine c_seq ?_
      refine c_region ?_
      refine w_pure (y_assign rfl) rfl ?_
      refine w_pure (y_assign rfl) rfl ?_
      refine w_nil ?_
      refine x_next ?_
      refine c_ret ?_
      refine x_then_ret ?_
      rotate_left
    exact x_retv [_, _] rfl ⟨rfl, rfl, trivial⟩ ⟨_, by rw [ec]; rfl, by rw [resOpen, if_neg hk]; exact Own.nil _ _ _, E.go⟩
theorem sizeW_c (h : SL w lo hi v ws := by repeat (first | assumption | exact Go.Gw.Own.sl (by assumption) | exact Go.Gw.Box.at (by assumption) | exact Go.Gw.SLL.el (by first | assumption | exact Go.Gw.OwnD.sll (by assumption)) _ (by omega) | exact Go.Gw.SLL.at (by first | assumption | exact Go.Gw.OwnD.sll (by assumption)) (by omega) | exact Go.Gw.OwnD.sll (by assumption) | (apply Go.Gw.SL.chg; case hx => assumption) | (apply Go.Gw.Own.chg; case hx => assumption) | (apply Go.Gw.Box.chg; case hx => assumption) | (apply Go.Gw.At.chg; case hx => assumption) | exact .inl (Nat.zero_le _) | exact .inr (Nat.zero_le _) | (show _ ∨ _; omega))) : Val Try.prog 101 [v] w (.int .i64 ws.length) := by
  refine ⟨fun w0 hx0 => ?_⟩
  have E : Since 0 0 w0 w0 := Since.refl 0 0 w0
  have hsm := h.small
  refine ret_enter Try.func101 rfl Try.ntmps101 rfl ?_
  focus
    have ht_h := h.top
    have hz_hx0 := hx0.size
    replace h := h.ext hx0
    refine c_seq ?_
    refine c_region ?_
    refine w_pure (y_assign rfl) rfl ?_
    refine w_nil ?_
    refine x_next ?_
    refine c_seq ?_
    refine c_region ?_
    refine w_pure (y_move rfl) rfl ?_
    refine w_pure (y_len rfl) rfl ?_
    refine w_pure (y_assign rfl) rfl ?_
    refine w_nil ?_
    refine x_next ?_
    refine c_ret ?_
    rotate_left
  exact x_retv [_] rfl ⟨rfl, trivial⟩ ⟨rfl, E.go⟩
theorem SpareWires1_c (k : Int) (hk : okB e n j ws = true) (hr : 0 ≤ k ∧ k < ws.length) (hp : At w b 0 [.int .i64 e, .int .i64 n, .int .i64 j, v] := by repeat (first | assumption | exact Go.Gw.Own.sl (by assumption) | exact Go.Gw.Box.at (by assumption) | exact Go.Gw.SLL.el (by first | assumption | exact Go.Gw.OwnD.sll (by assumption)) _ (by omega) | exact Go.Gw.SLL.at (by first | assumption | exact Go.Gw.OwnD.sll (by assumption)) (by omega) | exact Go.Gw.OwnD.sll (by assumption) | (apply Go.Gw.SL.chg; case hx => assumption) | (apply Go.Gw.Own.chg; case hx => assumption) | (apply Go.Gw.Box.chg; case hx => assumption) | (apply Go.Gw.At.chg; case hx => assumption) | exact .inl (Nat.zero_le _) | exact .inr (Nat.zero_le _) | (show _ ∨ _; omega))) (h : SL w lo hi v ws := by repeat (first | assumption | exact Go.Gw.Own.sl (by assumption) | exact Go.Gw.Box.at (by assumption) | exact Go.Gw.SLL.el (by first | assumption | exact Go.Gw.OwnD.sll (by assumption)) _ (by omega) | exact Go.Gw.SLL.at (by first | assumption | exact Go.Gw.OwnD.sll (by assumption)) (by omega) | exact Go.Gw.OwnD.sll (by assumption) | (apply Go.Gw.SL.chg; case hx => assumption) | (apply Go.Gw.Own.chg; case hx => assumption) | (apply Go.Gw.Box.chg; case hx => assumption) | (apply Go.Gw.At.chg; case hx => assumption) | exact .inl (Nat.zero_le _) | exact .inr (Nat.zero_le _) | (show _ ∨ _; omega))) : Val Try.prog 121 [.int .i64 k, ptr b 0] w (.bool (spareB e n j ws k)) := by
  refine ⟨fun w0 hx0 => ?_⟩
  have E : Since 0 0 w0 w0 := Since.refl 0 0 w0
  have q1 := okB_num hk
  have hw := fun i hi => okB_getD hk i hi
  have ht : (ws.take k.toNat).drop (Int.toNat 0) = ws.take k.toNat := rfl
  have hw2 : ∀ i, i < ((ws.take k.toNat).drop (Int.toNat 0)).length → 0 ≤ (((ws.take k.toNat).drop (Int.toNat 0)).getD i (0, 0)).1 ∧ (((ws.take k.toNat).drop (Int.toNat 0)).getD i (0, 0)).1 < (((ws.take k.toNat).drop (Int.toNat 0)).getD i (0, 0)).2 ∧ (((ws.take k.toNat).drop (Int.toNat 0)).getD i (0, 0)).2 < e + n + j := fun i hi => by
    rw [ht] at hi ⊢
    rw [List.length_take] at hi
    rw [List.getD_eq_getElem?_getD, List.getElem?_take, if_pos (by omega), ← List.getD_eq_getElem?_getD]
    exact hw i (by omega)
  have q3 : rootsF (e + n + j).toNat ((ws.take k.toNat).drop (Int.toNat 0)) ((ws.take k.toNat).drop (Int.toNat 0)).length = rootsF (e + n + j).toNat ws k.toNat := by
    rw [ht, List.length_take, Nat.min_eq_left (by omega), rootsF_take _ _ _ _ (Nat.le_refl _)]
  have q4 := rootsF_len (e + n + j).toNat ((ws.take k.toNat).drop (Int.toNat 0)) ((ws.take k.toNat).drop (Int.toNat 0)).length
  have q5 := hw k.toNat (by omega)
  refine ret_enter Try.func121 rfl Try.ntmps121 rfl ?_
  focus
    have ht_h := h.top
    have hz_hx0 := hx0.size
    replace hp := hp.ext hx0
    replace h := h.ext hx0
    refine c_seq ?_
    refine c_region ?_
    refine w_pure (y_assign rfl) rfl ?_
    refine w_nil ?_
    refine x_next ?_
    refine c_seq ?_
    refine c_region_held mixed (fun wr1 hxr1 hzr1 => ?_)
    have hz_hxr1 := hxr1.size
    replace E := E.trans hxr1
    replace hp := hp.ext hxr1
    replace h := h.ext hxr1
    refine h_pure rfl (y_loads rfl) rfl ?_
    refine h_pure rfl (y_field rfl) rfl ?_
    refine h_pure rfl (y_loadk rfl) rfl ?_
    refine h_pure rfl (y_move rfl) rfl ?_
    (refine h_slice rfl rfl (.inl ⟨rfl, rfl⟩) (.inr ⟨_, _, rfl, rfl⟩) rfl ?_; intro u9 hu9)
    refine h_one rfl ?_
    (refine w_call rfl rfl rfl (firstHubs_c) rfl ?_; rintro v10 w10 ⟨hp1_10, hx10⟩)
    have hl_hp1_10 := hp1_10.lt
    have hz_hx10 := hx10.size
    replace E := E.trans hx10
    replace hp := hp.ext hx10
    replace h := h.ext hx10
    replace hu9 := hu9.ext hx10
    refine w_nil ?_
    refine x_held ?_
    refine h_pure rfl (y_assign rfl) rfl ?_
    refine h_nil ?_
    refine x_next ?_
    refine c_seq ?_
    refine c_region_calm mixed (by decide +kernel) (by kernel_rfl) ?_
    refine q_pure (y_move rfl) rfl ?_
    refine q_pure (y_field rfl) rfl ?_
    refine q_pure (y_loadk rfl) rfl ?_
    refine q_pure (y_move rfl) rfl ?_
    refine q_pure (y_index rfl rfl) rfl ?_
    refine q_pure (y_field rfl) rfl ?_
    refine q_pure (y_load_p0 rfl) rfl ?_
    refine q_pure (y_index rfl rfl) rfl ?_
    refine q_pure (y_load_int rfl) rfl ?_
    refine q_pure (y_move rfl) rfl ?_
    refine q_pure (y_field rfl) rfl ?_
    refine q_pure (y_loadk rfl) rfl ?_
    refine q_pure (y_move rfl) rfl ?_
    refine q_pure (y_index rfl rfl) rfl ?_
    refine q_pure (y_field rfl) rfl ?_
    refine q_pure (y_load_p1 rfl) rfl ?_
    refine q_pure (y_index rfl rfl) rfl ?_
    refine q_pure (y_load_int rfl) rfl ?_
    refine q_pure (y_eq rfl rfl) rfl ?_
    refine q_pure (y_assign rfl) rfl ?_
    refine q_nil (fun ws42 hxs42 hzs42 => ?_)
    have hz_hxs42 := hxs42.size
    replace hp1_10 := hp1_10.ext hxs42
    replace E := E.trans hxs42
    replace hp := hp.ext hxs42
    replace h := h.ext hxs42
    replace hu9 := hu9.ext hxs42
    refine x_next ?_
    refine c_ret ?_
    rotate_left
  refine x_retv [_] rfl ⟨rfl, trivial⟩ ⟨?_, E.go⟩
  rw [spareB, ← q3]; rfl
theorem iSpareWires_c (h : SL w lo hi v ws := by repeat (first | assumption | exact Go.Gw.Own.sl (by assumption) | exact Go.Gw.Box.at (by assumption) | exact Go.Gw.SLL.el (by first | assumption | exact Go.Gw.OwnD.sll (by assumption)) _ (by omega) | exact Go.Gw.SLL.at (by first | assumption | exact Go.Gw.OwnD.sll (by assumption)) (by omega) | exact Go.Gw.OwnD.sll (by assumption) | (apply Go.Gw.SL.chg; case hx => assumption) | (apply Go.Gw.Own.chg; case hx => assumption) | (apply Go.Gw.Box.chg; case hx => assumption) | (apply Go.Gw.At.chg; case hx => assumption) | exact .inl (Nat.zero_le _) | exact .inr (Nat.zero_le _) | (show _ ∨ _; omega))) : Ret Try.prog 46 [.agg #[.int .i64 e, .int .i64 n, .int .i64 j, v]] w fun u w' => ∃ d, u = .tuple #[d, .int .i64 (cBrd e n j ws)] ∧ Own w' 2 w.heap.size d (resSpare e n j ws) ∧ Ext w w' := by
  have E : Since 0 0 w w := Since.refl 0 0 w
  by_cases hk : okB e n j ws = true
  · have q1 := okB_num hk
    have ec : cBrd e n j ws = 0 := by rw [cBrd, if_pos hk]
    refine ret_enter Try.func46 rfl Try.ntmps46 rfl ?_
    focus
      have ht_h := h.top
      refine c_seq ?_
      refine c_region ?_
      refine w_box rfl (k := fun b1 w1 hb1 hx1 hl1 hs1 => ?_)
      have hz_hx1 := hx1.size
      replace h := h.ext hx1
      replace E := E.trans hx1
      refine w_pure (y_assign rfl) rfl ?_
      refine w_pure (y_assign rfl) rfl ?_
      refine w_nil ?_
      refine x_next ?_
      refine c_seq ?_
      refine c_seq ?_
      refine c_region ?_
      refine w_pure (y_load_boxs rfl) rfl ?_
      refine w_val rfl rfl rfl (iValidBoard_c) rfl (fun w5 hx5 hz5 => ?_)
      have hz_hx5 := hx5.size
      replace hb1 := hb1.ext hx5
      replace h := h.ext hx5
      replace E := E.trans hx5
      refine w_pure (y_not rfl) rfl ?_
      refine w_nil ?_
      refine x_next ?_
      (refine c_not rfl (fun hc6 => ?_) (fun hc6 => ?_) <;> try (first | exact absurd rfl hc6 | contradiction | exact Bool.noConfusion (show false = true from hc6.symm.trans (by assumption)) | exact Bool.noConfusion (show true = false from hc6.symm.trans (by assumption)) | (exfalso; omega) | (exfalso; simp only [*, Bool.not_true, Bool.not_false, reduceCtorEq] at hc6; done)))
      refine c_skip ?_
      refine x_next ?_
      refine c_seq ?_
      refine c_region ?_
      refine w_pure (y_field rfl) rfl ?_
      refine w_pure (y_load_box rfl) rfl ?_
      refine w_val rfl rfl rfl (sizeW_c) rfl (fun w9 hx9 hz9 => ?_)
      have hz_hx9 := hx9.size
      replace hb1 := hb1.ext hx9
      replace h := h.ext hx9
      replace E := E.trans hx9
      refine w_pure (y_func rfl) rfl ?_
      (refine w_call rfl rfl rfl (columnsWhere_c (first := []) (cap := [ptr b1 0]) (p := spareB e n j ws) (hp := fun x h0 h1 => SpareWires1_c x hk ⟨by omega, by omega⟩)) rfl ?_; rintro v11 w11 ⟨hp1_11, hx11⟩)
      have hl_hp1_11 := hp1_11.lt
      have hz_hx11 := hx11.size
      replace hb1 := hb1.ext hx11
      replace h := h.ext hx11
      replace E := E.trans hx11
      refine w_pure (y_assign rfl) rfl ?_
      refine w_pure (y_assign rfl) rfl ?_
      refine w_nil ?_
      refine x_next ?_
      refine c_ret ?_
      rotate_left
    exact x_retv [_, _] rfl ⟨rfl, rfl, trivial⟩ ⟨_, by rw [ec]; rfl, by rw [resSpare, if_pos hk]; exact Own.base (by assumption) (by omega), E.go⟩
  · have ec : cBrd e n j ws = 1 := by rw [cBrd, if_neg hk]
    refine ret_enter Try.func46 rfl Try.ntmps46 rfl ?_
    focus
      have ht_h := h.top
      refine c_seq ?_
      refine c_region ?_
      refine w_box rfl (k := fun b1 w1 hb1 hx1 hl1 hs1 => ?_)
      have hz_hx1 := hx1.size
      replace h := h.ext hx1
      replace E := E.trans hx1
      refine w_pure (y_assign rfl) rfl ?_
      refine w_pure (y_assign rfl) rfl ?_
      refine w_nil ?_
      refine x_next ?_
      refine c_seq ?_
      refine c_seq ?_
      refine c_region ?_
      refine w_pure (y_load_boxs rfl) rfl ?_
      refine w_val rfl rfl rfl (iValidBoard_c) rfl (fun w5 hx5 hz5 => ?_)
      have hz_hx5 := hx5.size
      replace hb1 := hb1.ext hx5
      replace h := h.ext hx5
      replace E := E.trans hx5
      refine w_pure (y_not rfl) rfl ?_
      refine w_nil ?_
      refine x_next ?_
      (refine c_not rfl (fun hc6 => ?_) (fun hc6 => ?_) <;> try (first | exact absurd rfl hc6 | contradiction | exact Bool.noConfusion (show false = true from hc6.symm.trans (by assumption)) | exact Bool.noConfusion (show true = false from hc6.symm.trans (by assumption)) | (exfalso; omega) | (exfalso; simp only [*, Bool.not_true, Bool.not_false, reduceCtorEq] at hc6; done)))
      refine c_seq ?_
      refine c_region ?_
      refine w_pure (y_assign rfl) rfl ?_
      refine w_pure (y_assign rfl) rfl ?_
      refine w_nil ?_
      refine x_next ?_
      refine c_ret ?_
      refine x_then_ret ?_
      rotate_left
    exact x_retv [_, _] rfl ⟨rfl, rfl, trivial⟩ ⟨_, by rw [ec]; rfl, by rw [resSpare, if_neg hk]; exact Own.nil _ _ _, E.go⟩
end
end Go.Proofs.Ythigkbkaeopipaa

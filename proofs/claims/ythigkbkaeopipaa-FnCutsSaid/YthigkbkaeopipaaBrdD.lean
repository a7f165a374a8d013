/- Contracts: joined hubs, sources, open entries, spare wires. -/
import Derived.Test.YthigkbkaeopipaaBrdC
namespace Go.Proofs.Ythigkbkaeopipaa
open Go Go.Gw
set_option linter.unusedVariables false
set_option linter.unusedSimpArgs false
/-- the nets of a board -/
def netsR (e n j : Int) (ws : List (Int × Int)) : List Int := rootsF (e + n + j).toNat ws ws.length
theorem netsR_len (e n j : Int) (ws : List (Int × Int)) : (netsR e n j ws).length = (e + n + j).toNat := rootsF_len _ _ _
theorem netsW (e n j : Int) (ws : List (Int × Int)) : rootsW (e + n + j).toNat ws [] ws.length = netsR e n j ws := rootsW_nil _ _ _
def cHub (e n j : Int) (ws : List (Int × Int)) (k m : Int) : Int := if okB e n j ws = true then (if 0 ≤ k ∧ k ≤ m - 1 then 0 else 2) else 1
def cBrd (e n j : Int) (ws : List (Int × Int)) : Int := if okB e n j ws = true then 0 else 1
def hubsF (e n j : Int) (ws : List (Int × Int)) (k : Int) : List Int := colsP (fun x => decide ((netsR e n j ws).getD x.toNat 0 = (netsR e n j ws).getD k.toNat 0)) (e + n + j).toNat
def srcF (e n j : Int) (ws : List (Int × Int)) (k : Int) : List Int := colsP (fun x => decide ((netsR e n j ws).getD x.toNat 0 = (netsR e n j ws).getD (e + k).toNat 0)) e.toNat
def resHubs (e n j : Int) (ws : List (Int × Int)) (k : Int) : List Int := if cHub e n j ws k (e + n + j) = 0 then hubsF e n j ws k else []
def resSrc (e n j : Int) (ws : List (Int × Int)) (k : Int) : List Int := if cHub e n j ws k n = 0 then srcF e n j ws k else []
def resOpen (e n j : Int) (ws : List (Int × Int)) : List Int := if okB e n j ws = true then colsP (fun k => decide (((srcF e n j ws k).length : Int) = 0)) n.toNat else []
theorem cHub_ok {e n j k m : Int} {ws : List (Int × Int)} (h : cHub e n j ws k m = 0) : okB e n j ws = true ∧ 0 ≤ k ∧ k ≤ m - 1 := by
  by_cases hk : okB e n j ws = true
  · by_cases hn : 0 ≤ k ∧ k ≤ m - 1
    · exact ⟨hk, hn⟩
    · simp only [cHub, hk, if_true, if_neg hn] at h; omega
  · simp [cHub, hk] at h
theorem resHubs_len (e n j : Int) (ws : List (Int × Int)) (k : Int) : (resHubs e n j ws k).length ≤ 30 := by
  unfold resHubs; split
  · rename_i h; have h1 := okB_num (cHub_ok h).1; have := colsP_len (fun x => decide ((netsR e n j ws).getD x.toNat 0 = (netsR e n j ws).getD k.toNat 0)) (e + n + j).toNat
    unfold hubsF; omega
  · simp
theorem resSrc_len (e n j : Int) (ws : List (Int × Int)) (k : Int) : (resSrc e n j ws k).length ≤ 30 := by
  unfold resSrc; split
  · rename_i h; have h1 := okB_num (cHub_ok h).1; have := colsP_len (fun x => decide ((netsR e n j ws).getD x.toNat 0 = (netsR e n j ws).getD (e + k).toNat 0)) e.toNat
    unfold srcF; omega
  · simp
theorem resOpen_len (e n j : Int) (ws : List (Int × Int)) : (resOpen e n j ws).length ≤ 30 := by
  unfold resOpen; split
  · rename_i h; have h1 := okB_num h; have := colsP_len (fun k => decide (((srcF e n j ws k).length : Int) = 0)) n.toNat
    omega
  · simp
section
variable {w : World} {v v' v2 : Value} {xs ys wo : List Int} {ws : List (Int × Int)} {lo hi lo' hi' b b' b2 b3 : Nat} {e n j e' n' j' : Int}
theorem nilI (w : World) : SL (α := Int) w 0 0 (.slice none 0 0) [] := (Own.nil w 0 0).sl
theorem l12Hubs_w (hp : At w b 0 [.int .i64 e, .int .i64 n, .int .i64 j, v] := by repeat (first | assumption | exact Go.Gw.Own.sl (by assumption) | exact Go.Gw.Box.at (by assumption) | exact Go.Gw.SLL.el (by first | assumption | exact Go.Gw.OwnD.sll (by assumption)) _ (by omega) | exact Go.Gw.SLL.at (by first | assumption | exact Go.Gw.OwnD.sll (by assumption)) (by omega) | exact Go.Gw.OwnD.sll (by assumption) | (apply Go.Gw.SL.chg; case hx => assumption) | (apply Go.Gw.Own.chg; case hx => assumption) | (apply Go.Gw.Box.chg; case hx => assumption) | (apply Go.Gw.At.chg; case hx => assumption) | exact .inl (Nat.zero_le _) | exact .inr (Nat.zero_le _) | (show _ ∨ _; omega))) : Val Try.prog 123 [ptr b 0] w (.int .i64 (IntKind.i64.wrap (IntKind.i64.wrap (e + n) + j))) := by
  refine ⟨fun w1 hx1 => ?_⟩
  have E : Since 0 0 w1 w1 := Since.refl 0 0 w1
  refine ret_enter Try.func123 rfl Try.ntmps123 rfl ?_
  focus
    have hz_hx1 := hx1.size
    replace hp := hp.ext hx1
    refine c_seq ?_
    refine c_region ?_
    refine w_pure (y_assign rfl) rfl ?_
    refine w_nil ?_
    refine x_next ?_
    refine c_seq ?_
    refine c_region_calm mixed (by decide +kernel) (by kernel_rfl) ?_
    refine q_pure (y_move rfl) rfl ?_
    refine q_pure (y_nil rfl) rfl ?_
    refine q_pure (y_field rfl) rfl ?_
    refine q_pure (y_loadk rfl) rfl ?_
    refine q_pure (y_move rfl) rfl ?_
    refine q_pure (y_nil rfl) rfl ?_
    refine q_pure (y_field rfl) rfl ?_
    refine q_pure (y_loadk rfl) rfl ?_
    refine q_pure (y_add_wrap rfl rfl) rfl ?_
    refine q_pure (y_move rfl) rfl ?_
    refine q_pure (y_nil rfl) rfl ?_
    refine q_pure (y_field rfl) rfl ?_
    refine q_pure (y_loadk rfl) rfl ?_
    refine q_pure (y_add_wrap rfl rfl) rfl ?_
    refine q_pure (y_assign rfl) rfl ?_
    refine q_nil (fun ws23 hxs23 hzs23 => ?_)
    have hz_hxs23 := hxs23.size
    replace E := E.trans hxs23
    replace hp := hp.ext hxs23
    refine x_next ?_
    refine c_ret ?_
    rotate_left
  exact x_retv [_] rfl ⟨rfl, trivial⟩ ⟨rfl, E.go⟩
theorem iJoinedHubs_c (k : Int) (h : SL w lo hi v ws := by repeat (first | assumption | exact Go.Gw.Own.sl (by assumption) | exact Go.Gw.Box.at (by assumption) | exact Go.Gw.SLL.el (by first | assumption | exact Go.Gw.OwnD.sll (by assumption)) _ (by omega) | exact Go.Gw.SLL.at (by first | assumption | exact Go.Gw.OwnD.sll (by assumption)) (by omega) | exact Go.Gw.OwnD.sll (by assumption) | (apply Go.Gw.SL.chg; case hx => assumption) | (apply Go.Gw.Own.chg; case hx => assumption) | (apply Go.Gw.Box.chg; case hx => assumption) | (apply Go.Gw.At.chg; case hx => assumption) | exact .inl (Nat.zero_le _) | exact .inr (Nat.zero_le _) | (show _ ∨ _; omega))) : Ret Try.prog 35 [.agg #[.int .i64 e, .int .i64 n, .int .i64 j, v], .int .i64 k] w fun u w' => ∃ d, u = .tuple #[d, .int .i64 (cHub e n j ws k (e + n + j))] ∧ Own w' 2 w.heap.size d (resHubs e n j ws k) ∧ Ext w w' := by
  have E : Since 0 0 w w := Since.refl 0 0 w
  by_cases hk : okB e n j ws = true
  · have q1 := okB_num hk
    have hw := fun i hi => okB_getD hk i hi
    have q2 := rootsF_len (e + n + j).toNat ws ws.length
    by_cases hr : 0 ≤ k ∧ k ≤ e + n + j - 1
    · have ec : cHub e n j ws k (e + n + j) = 0 := by rw [cHub, if_pos hk, if_pos hr]
      refine ret_enter Try.func35 rfl Try.ntmps35 rfl ?_
      focus
        have ht_h := h.top
        refine c_seq ?_
        refine c_region ?_
        refine w_box rfl (k := fun b2 w2 hb2 hx2 hl2 hs2 => ?_)
        have hz_hx2 := hx2.size
        replace h := h.ext hx2
        replace E := E.trans hx2
        refine w_pure (y_assign rfl) rfl ?_
        refine w_pure (y_assign rfl) rfl ?_
        refine w_nil ?_
        refine x_next ?_
        refine c_seq ?_
        refine c_block ?_
        refine c_seq ?_
        refine c_region ?_
        refine w_pure (y_load_boxs rfl) rfl ?_
        refine w_val rfl rfl rfl (iValidBoard_c) rfl (fun w9 hx9 hz9 => ?_)
        have hz_hx9 := hx9.size
        replace hb2 := hb2.ext hx9
        replace h := h.ext hx9
        replace E := E.trans hx9
        refine w_pure (y_not rfl) rfl ?_
        refine w_pure (y_assign rfl) rfl ?_
        refine w_nil ?_
        refine x_next ?_
        (refine c_not rfl (fun hc7 => ?_) (fun hc7 => ?_) <;> try (first | exact absurd rfl hc7 | contradiction | exact Bool.noConfusion (show false = true from hc7.symm.trans (by assumption)) | exact Bool.noConfusion (show true = false from hc7.symm.trans (by assumption)) | (exfalso; omega) | (exfalso; simp only [*, Bool.not_true, Bool.not_false, reduceCtorEq] at hc7; done)))
        refine c_seq ?_
        refine c_region ?_
        refine w_pure (y_move rfl) rfl ?_
        refine w_pure (y_load_boxs rfl) rfl ?_
        refine w_val rfl rfl rfl (hubs_c) rfl (fun w14 hx14 hz14 => ?_)
        have hz_hx14 := hx14.size
        replace hb2 := hb2.ext hx14
        replace h := h.ext hx14
        replace E := E.trans hx14
        refine w_pure (y_sub rfl rfl) rfl ?_
        refine w_pur rfl rfl rfl (inside_c _ _ _) rfl ?_
        refine w_pure (y_not_dec rfl) rfl ?_
        refine w_pure (y_assign rfl) rfl ?_
        refine w_nil ?_
        refine x_next ?_
        (refine c_dec rfl (fun hc11 => ?_) (fun hc11 => ?_) <;> try (first | exact absurd rfl hc11 | contradiction | exact Bool.noConfusion (show false = true from hc11.symm.trans (by assumption)) | exact Bool.noConfusion (show true = false from hc11.symm.trans (by assumption)) | (exfalso; omega) | (exfalso; simp only [*, Bool.not_true, Bool.not_false, reduceCtorEq] at hc11; done)))
        refine c_skip ?_
        refine x_block_norm ?_
        refine x_next ?_
        refine c_seq ?_
        refine c_region ?_
        refine w_pure (y_load_boxs rfl) rfl ?_
        refine w_pure (y_field rfl) rfl ?_
        refine w_pure (y_load_box rfl) rfl ?_
        (refine w_call rfl rfl rfl (firstHubs_c) rfl ?_; rintro v21 w21 ⟨hp1_21, hx21⟩)
        have hl_hp1_21 := hp1_21.lt
        have hz_hx21 := hx21.size
        replace hb2 := hb2.ext hx21
        replace h := h.ext hx21
        replace E := E.trans hx21
        refine w_pure (y_assign rfl) rfl ?_
        refine w_nil ?_
        refine x_next ?_
        refine c_seq ?_
        refine c_region ?_
        refine w_pure (y_move rfl) rfl ?_
        refine w_pure (y_move rfl) rfl ?_
        refine w_pure (y_move rfl) rfl ?_
        refine w_pure (y_index rfl rfl) rfl ?_
        refine w_pure (y_load_int rfl) rfl ?_
        (refine w_call rfl rfl rfl (hubsWith_c _) rfl ?_; rintro v27 w27 ⟨hp1_27, hx27⟩)
        have hl_hp1_27 := hp1_27.lt
        have hz_hx27 := hx27.size
        replace hp1_21 := hp1_21.ext hx27
        replace hb2 := hb2.ext hx27
        replace h := h.ext hx27
        replace E := E.trans hx27
        refine w_pure (y_assign rfl) rfl ?_
        refine w_pure (y_assign rfl) rfl ?_
        refine w_nil ?_
        refine x_next ?_
        refine c_ret ?_
        rotate_left
      refine x_retv [_, _] rfl ⟨rfl, rfl, trivial⟩ ⟨_, by rw [ec]; rfl, ?_, E.go⟩
      rw [resHubs, if_pos ec, hubsF, ← netsR_len e n j ws]; exact Own.base (by assumption) (by omega)
    · have ec : cHub e n j ws k (e + n + j) = 2 := by rw [cHub, if_pos hk, if_neg hr]
      refine ret_enter Try.func35 rfl Try.ntmps35 rfl ?_
      focus
        have ht_h := h.top
        refine c_seq ?_
        refine c_region ?_
        refine w_box rfl (k := fun b2 w2 hb2 hx2 hl2 hs2 => ?_)
        have hz_hx2 := hx2.size
        replace h := h.ext hx2
        replace E := E.trans hx2
        refine w_pure (y_assign rfl) rfl ?_
        refine w_pure (y_assign rfl) rfl ?_
        refine w_nil ?_
        refine x_next ?_
        refine c_seq ?_
        refine c_block ?_
        refine c_seq ?_
        refine c_region ?_
        refine w_pure (y_load_boxs rfl) rfl ?_
        refine w_val rfl rfl rfl (iValidBoard_c) rfl (fun w9 hx9 hz9 => ?_)
        have hz_hx9 := hx9.size
        replace hb2 := hb2.ext hx9
        replace h := h.ext hx9
        replace E := E.trans hx9
        refine w_pure (y_not rfl) rfl ?_
        refine w_pure (y_assign rfl) rfl ?_
        refine w_nil ?_
        refine x_next ?_
        (refine c_not rfl (fun hc7 => ?_) (fun hc7 => ?_) <;> try (first | exact absurd rfl hc7 | contradiction | exact Bool.noConfusion (show false = true from hc7.symm.trans (by assumption)) | exact Bool.noConfusion (show true = false from hc7.symm.trans (by assumption)) | (exfalso; omega) | (exfalso; simp only [*, Bool.not_true, Bool.not_false, reduceCtorEq] at hc7; done)))
        refine c_seq ?_
        refine c_region ?_
        refine w_pure (y_move rfl) rfl ?_
        refine w_pure (y_load_boxs rfl) rfl ?_
        refine w_val rfl rfl rfl (hubs_c) rfl (fun w14 hx14 hz14 => ?_)
        have hz_hx14 := hx14.size
        replace hb2 := hb2.ext hx14
        replace h := h.ext hx14
        replace E := E.trans hx14
        refine w_pure (y_sub rfl rfl) rfl ?_
        refine w_pur rfl rfl rfl (inside_c _ _ _) rfl ?_
        refine w_pure (y_not_dec rfl) rfl ?_
        refine w_pure (y_assign rfl) rfl ?_
        refine w_nil ?_
        refine x_next ?_
        (refine c_dec rfl (fun hc11 => ?_) (fun hc11 => ?_) <;> try (first | exact absurd rfl hc11 | contradiction | exact Bool.noConfusion (show false = true from hc11.symm.trans (by assumption)) | exact Bool.noConfusion (show true = false from hc11.symm.trans (by assumption)) | (exfalso; omega) | (exfalso; simp only [*, Bool.not_true, Bool.not_false, reduceCtorEq] at hc11; done)))
        refine c_seq ?_
        refine c_region ?_
        refine w_pure (y_assign rfl) rfl ?_
        refine w_pure (y_assign rfl) rfl ?_
        refine w_nil ?_
        refine x_next ?_
        refine c_ret ?_
        refine x_block_ret ?_
        refine x_then_ret ?_
        rotate_left
      exact x_retv [_, _] rfl ⟨rfl, rfl, trivial⟩ ⟨_, by rw [ec]; rfl, by rw [resHubs, ec]; exact Own.nil _ _ _, E.go⟩
  · have ec : cHub e n j ws k (e + n + j) = 1 := by rw [cHub, if_neg hk]
    refine ret_enter Try.func35 rfl Try.ntmps35 rfl ?_
    focus
      have ht_h := h.top
      refine c_seq ?_
      refine c_region ?_
      refine w_box rfl (k := fun b2 w2 hb2 hx2 hl2 hs2 => ?_)
      have hz_hx2 := hx2.size
      replace h := h.ext hx2
      replace E := E.trans hx2
      refine w_pure (y_assign rfl) rfl ?_
      refine w_pure (y_assign rfl) rfl ?_
      refine w_nil ?_
      refine x_next ?_
      refine c_seq ?_
      refine c_block ?_
      refine c_seq ?_
      refine c_region ?_
      refine w_pure (y_load_boxs rfl) rfl ?_
      refine w_val rfl rfl rfl (iValidBoard_c) rfl (fun w9 hx9 hz9 => ?_)
      have hz_hx9 := hx9.size
      replace hb2 := hb2.ext hx9
      replace h := h.ext hx9
      replace E := E.trans hx9
      refine w_pure (y_not rfl) rfl ?_
      refine w_pure (y_assign rfl) rfl ?_
      refine w_nil ?_
      refine x_next ?_
      (refine c_not rfl (fun hc7 => ?_) (fun hc7 => ?_) <;> try (first | exact absurd rfl hc7 | contradiction | exact Bool.noConfusion (show false = true from hc7.symm.trans (by assumption)) | exact Bool.noConfusion (show true = false from hc7.symm.trans (by assumption)) | (exfalso; omega) | (exfalso; simp only [*, Bool.not_true, Bool.not_false, reduceCtorEq] at hc7; done)))
      refine c_seq ?_
      refine c_region ?_
      refine w_pure (y_assign rfl) rfl ?_
      refine w_pure (y_assign rfl) rfl ?_
      refine w_nil ?_
      refine x_next ?_
      refine c_ret ?_
      refine x_block_ret ?_
      refine x_then_ret ?_
      rotate_left
    exact x_retv [_, _] rfl ⟨rfl, rfl, trivial⟩ ⟨_, by rw [ec]; rfl, by rw [resHubs, ec]; exact Own.nil _ _ _, E.go⟩
theorem sourcesOf1_c (k m : Int) (hp1 : At w b 0 [v'] := by repeat (first | assumption | exact Go.Gw.Own.sl (by assumption) | exact Go.Gw.Box.at (by assumption) | exact Go.Gw.SLL.el (by first | assumption | exact Go.Gw.OwnD.sll (by assumption)) _ (by omega) | exact Go.Gw.SLL.at (by first | assumption | exact Go.Gw.OwnD.sll (by assumption)) (by omega) | exact Go.Gw.OwnD.sll (by assumption) | (apply Go.Gw.SL.chg; case hx => assumption) | (apply Go.Gw.Own.chg; case hx => assumption) | (apply Go.Gw.Box.chg; case hx => assumption) | (apply Go.Gw.At.chg; case hx => assumption) | exact .inl (Nat.zero_le _) | exact .inr (Nat.zero_le _) | (show _ ∨ _; omega))) (hp2 : At w b2 0 [.int .i64 e, .int .i64 n, .int .i64 j, v] := by repeat (first | assumption | exact Go.Gw.Own.sl (by assumption) | exact Go.Gw.Box.at (by assumption) | exact Go.Gw.SLL.el (by first | assumption | exact Go.Gw.OwnD.sll (by assumption)) _ (by omega) | exact Go.Gw.SLL.at (by first | assumption | exact Go.Gw.OwnD.sll (by assumption)) (by omega) | exact Go.Gw.OwnD.sll (by assumption) | (apply Go.Gw.SL.chg; case hx => assumption) | (apply Go.Gw.Own.chg; case hx => assumption) | (apply Go.Gw.Box.chg; case hx => assumption) | (apply Go.Gw.At.chg; case hx => assumption) | exact .inl (Nat.zero_le _) | exact .inr (Nat.zero_le _) | (show _ ∨ _; omega))) (hp3 : At w b3 0 [.int .i64 m] := by repeat (first | assumption | exact Go.Gw.Own.sl (by assumption) | exact Go.Gw.Box.at (by assumption) | exact Go.Gw.SLL.el (by first | assumption | exact Go.Gw.OwnD.sll (by assumption)) _ (by omega) | exact Go.Gw.SLL.at (by first | assumption | exact Go.Gw.OwnD.sll (by assumption)) (by omega) | exact Go.Gw.OwnD.sll (by assumption) | (apply Go.Gw.SL.chg; case hx => assumption) | (apply Go.Gw.Own.chg; case hx => assumption) | (apply Go.Gw.Box.chg; case hx => assumption) | (apply Go.Gw.At.chg; case hx => assumption) | exact .inl (Nat.zero_le _) | exact .inr (Nat.zero_le _) | (show _ ∨ _; omega))) (h : SL w lo hi v' xs := by repeat (first | assumption | exact Go.Gw.Own.sl (by assumption) | exact Go.Gw.Box.at (by assumption) | exact Go.Gw.SLL.el (by first | assumption | exact Go.Gw.OwnD.sll (by assumption)) _ (by omega) | exact Go.Gw.SLL.at (by first | assumption | exact Go.Gw.OwnD.sll (by assumption)) (by omega) | exact Go.Gw.OwnD.sll (by assumption) | (apply Go.Gw.SL.chg; case hx => assumption) | (apply Go.Gw.Own.chg; case hx => assumption) | (apply Go.Gw.Box.chg; case hx => assumption) | (apply Go.Gw.At.chg; case hx => assumption) | exact .inl (Nat.zero_le _) | exact .inr (Nat.zero_le _) | (show _ ∨ _; omega))) (hk : 0 ≤ k ∧ k < xs.length ∧ 0 ≤ e + m ∧ e + m < xs.length ∧ xs.length ≤ 1000 := by omega) : Val Try.prog 163 [.int .i64 k, ptr b 0, ptr b2 0, ptr b3 0] w (.bool (decide (xs.getD k.toNat 0 = xs.getD (e + m).toNat 0))) := by
  refine ⟨fun w0 hx0 => ?_⟩
  have E : Since 0 0 w0 w0 := Since.refl 0 0 w0
  refine ret_enter Try.func163 rfl Try.ntmps163 rfl ?_
  focus
    have ht_h := h.top
    have hz_hx0 := hx0.size
    replace hp1 := hp1.ext hx0
    replace hp2 := hp2.ext hx0
    replace hp3 := hp3.ext hx0
    replace h := h.ext hx0
    refine c_seq ?_
    refine c_region ?_
    refine w_pure (y_assign rfl) rfl ?_
    refine w_nil ?_
    refine x_next ?_
    refine c_seq ?_
    refine c_region_calm mixed (by decide +kernel) (by kernel_rfl) ?_
    refine q_pure (y_load rfl) rfl ?_
    refine q_pure (y_move rfl) rfl ?_
    refine q_pure (y_index rfl rfl) rfl ?_
    refine q_pure (y_load_int rfl) rfl ?_
    refine q_pure (y_load rfl) rfl ?_
    refine q_pure (y_field rfl) rfl ?_
    refine q_pure (y_loadk rfl) rfl ?_
    refine q_pure (y_load rfl) rfl ?_
    refine q_pure (y_add rfl rfl) rfl ?_
    refine q_pure (y_index rfl rfl) rfl ?_
    refine q_pure (y_load_int rfl) rfl ?_
    refine q_pure (y_eq rfl rfl) rfl ?_
    refine q_pure (y_assign rfl) rfl ?_
    refine q_nil (fun ws21 hxs21 hzs21 => ?_)
    have hz_hxs21 := hxs21.size
    replace E := E.trans hxs21
    replace hp1 := hp1.ext hxs21
    replace hp2 := hp2.ext hxs21
    replace hp3 := hp3.ext hxs21
    replace h := h.ext hxs21
    refine x_next ?_
    refine c_ret ?_
    rotate_left
  exact x_retv [_] rfl ⟨rfl, trivial⟩ ⟨rfl, E.go⟩
theorem sourcesOf_c (k : Int) (hk : okB e n j ws = true := by assumption) (hr : 0 ≤ k ∧ k ≤ n - 1 := by omega) (h : SL w lo hi v ws := by repeat (first | assumption | exact Go.Gw.Own.sl (by assumption) | exact Go.Gw.Box.at (by assumption) | exact Go.Gw.SLL.el (by first | assumption | exact Go.Gw.OwnD.sll (by assumption)) _ (by omega) | exact Go.Gw.SLL.at (by first | assumption | exact Go.Gw.OwnD.sll (by assumption)) (by omega) | exact Go.Gw.OwnD.sll (by assumption) | (apply Go.Gw.SL.chg; case hx => assumption) | (apply Go.Gw.Own.chg; case hx => assumption) | (apply Go.Gw.Box.chg; case hx => assumption) | (apply Go.Gw.At.chg; case hx => assumption) | exact .inl (Nat.zero_le _) | exact .inr (Nat.zero_le _) | (show _ ∨ _; omega))) : Ret Try.prog 115 [.agg #[.int .i64 e, .int .i64 n, .int .i64 j, v], .int .i64 k] w fun u w' => Own w' 2 w.heap.size u (srcF e n j ws k) ∧ Ext w w' := by
  have E : Since 0 0 w w := Since.refl 0 0 w
  have q1 := okB_num hk
  have hw := fun i hi => okB_getD hk i hi
  have q2 := rootsF_len (e + n + j).toNat ws ws.length
  refine ret_enter Try.func115 rfl Try.ntmps115 rfl ?_
  focus
    have ht_h := h.top
    refine c_seq ?_
    refine c_region ?_
    refine w_box rfl (k := fun b2 w2 hb2 hx2 hl2 hs2 => ?_)
    have hz_hx2 := hx2.size
    replace h := h.ext hx2
    replace E := E.trans hx2
    refine w_box1 rfl (k := fun b3 w3 hb3 hx3 hl3 hs3 => ?_)
    have hz_hx3 := hx3.size
    replace hb2 := hb2.ext hx3
    replace h := h.ext hx3
    replace E := E.trans hx3
    refine w_pure (y_assign rfl) rfl ?_
    refine w_nil ?_
    refine x_next ?_
    refine c_seq ?_
    refine c_region ?_
    refine w_pure (y_load_boxs rfl) rfl ?_
    refine w_pure (y_field rfl) rfl ?_
    refine w_pure (y_load_box rfl) rfl ?_
    (refine w_call rfl rfl rfl (firstHubs_c) rfl ?_; rintro v9 w9 ⟨hp1_9, hx9⟩)
    have hl_hp1_9 := hp1_9.lt
    have hz_hx9 := hx9.size
    replace hb3 := hb3.ext hx9
    replace hb2 := hb2.ext hx9
    replace h := h.ext hx9
    replace E := E.trans hx9
    refine w_alloc (k := fun b5 w5 hb5 hx5 hl5 hs5 => ?_)
    have hz_hx5 := hx5.size
    replace hp1_9 := hp1_9.ext hx5
    replace hb3 := hb3.ext hx5
    replace hb2 := hb2.ext hx5
    replace h := h.ext hx5
    replace E := E.trans hx5
    refine w_store_box rfl rfl (next := fun ws15 hbs15 hxs15 hss15 => ?_)
    (replace hb5 := hbs15; clear hbs15)
    have hz_hxs15 := hxs15.size
    replace hp1_9 := hp1_9.chg hxs15 (by omega)
    replace hb3 := hb3.chg hxs15 (by omega)
    replace hb2 := hb2.chg hxs15 (by omega)
    replace h := h.chg hxs15 (by omega)
    replace E := E.next hxs15 (by omega)
    refine w_nil ?_
    refine x_next ?_
    refine c_seq ?_
    refine c_region ?_
    refine w_pure (y_field rfl) rfl ?_
    refine w_pure (y_load_box rfl) rfl ?_
    refine w_pure (y_func rfl) rfl ?_
    (refine w_call rfl rfl rfl (columnsWhere_c (first := []) (cap := [ptr b5 0, ptr b2 0, ptr b3 0]) (p := fun x => decide ((rootsF (e + n + j).toNat ws ws.length).getD x.toNat 0 = (rootsF (e + n + j).toNat ws ws.length).getD (e + k).toNat 0)) (hp := fun x h0 h1 => sourcesOf1_c x k (hk := ⟨by omega, by omega, by omega, by omega, by omega⟩))) rfl ?_; rintro v13 w13 ⟨hp1_13, hx13⟩)
    have hl_hp1_13 := hp1_13.lt
    have hz_hx13 := hx13.size
    replace hb5 := hb5.ext hx13
    replace hp1_9 := hp1_9.ext hx13
    replace hb3 := hb3.ext hx13
    replace hb2 := hb2.ext hx13
    replace h := h.ext hx13
    replace E := E.trans hx13
    refine w_pure (y_assign rfl) rfl ?_
    refine w_nil ?_
    refine x_next ?_
    refine c_ret ?_
    rotate_left
  exact x_retv [_] rfl ⟨rfl, trivial⟩ ⟨Own.base (by assumption) (by omega), E.go⟩
theorem iSourcesOf_c (k : Int) (h : SL w lo hi v ws := by repeat (first | assumption | exact Go.Gw.Own.sl (by assumption) | exact Go.Gw.Box.at (by assumption) | exact Go.Gw.SLL.el (by first | assumption | exact Go.Gw.OwnD.sll (by assumption)) _ (by omega) | exact Go.Gw.SLL.at (by first | assumption | exact Go.Gw.OwnD.sll (by assumption)) (by omega) | exact Go.Gw.OwnD.sll (by assumption) | (apply Go.Gw.SL.chg; case hx => assumption) | (apply Go.Gw.Own.chg; case hx => assumption) | (apply Go.Gw.Box.chg; case hx => assumption) | (apply Go.Gw.At.chg; case hx => assumption) | exact .inl (Nat.zero_le _) | exact .inr (Nat.zero_le _) | (show _ ∨ _; omega))) : Ret Try.prog 39 [.agg #[.int .i64 e, .int .i64 n, .int .i64 j, v], .int .i64 k] w fun u w' => ∃ d, u = .tuple #[d, .int .i64 (cHub e n j ws k n)] ∧ Own w' 2 w.heap.size d (resSrc e n j ws k) ∧ Ext w w' := by
  have E : Since 0 0 w w := Since.refl 0 0 w
  by_cases hk : okB e n j ws = true
  · have q1 := okB_num hk
    by_cases hr : 0 ≤ k ∧ k ≤ n - 1
    · have ec : cHub e n j ws k n = 0 := by rw [cHub, if_pos hk, if_pos hr]
      refine ret_enter Try.func39 rfl Try.ntmps39 rfl ?_
      focus
        have ht_h := h.top
        refine c_seq ?_
        refine c_region ?_
        refine w_box rfl (k := fun b2 w2 hb2 hx2 hl2 hs2 => ?_)
        have hz_hx2 := hx2.size
        replace h := h.ext hx2
        replace E := E.trans hx2
        refine w_pure (y_assign rfl) rfl ?_
        refine w_pure (y_assign rfl) rfl ?_
        refine w_nil ?_
        refine x_next ?_
        refine c_seq ?_
        refine c_block ?_
        refine c_seq ?_
        refine c_region ?_
        refine w_pure (y_load_boxs rfl) rfl ?_
        refine w_val rfl rfl rfl (iValidBoard_c) rfl (fun w8 hx8 hz8 => ?_)
        have hz_hx8 := hx8.size
        replace hb2 := hb2.ext hx8
        replace h := h.ext hx8
        replace E := E.trans hx8
        refine w_pure (y_not rfl) rfl ?_
        refine w_pure (y_assign rfl) rfl ?_
        refine w_nil ?_
        refine x_next ?_
        (refine c_not rfl (fun hc6 => ?_) (fun hc6 => ?_) <;> try (first | exact absurd rfl hc6 | contradiction | exact Bool.noConfusion (show false = true from hc6.symm.trans (by assumption)) | exact Bool.noConfusion (show true = false from hc6.symm.trans (by assumption)) | (exfalso; omega) | (exfalso; simp only [*, Bool.not_true, Bool.not_false, reduceCtorEq] at hc6; done)))
        refine c_seq ?_
        refine c_region ?_
        refine w_pure (y_move rfl) rfl ?_
        refine w_pure (y_field rfl) rfl ?_
        refine w_pure (y_load_box rfl) rfl ?_
        refine w_pure (y_sub rfl rfl) rfl ?_
        refine w_pur rfl rfl rfl (inside_c _ _ _) rfl ?_
        refine w_pure (y_not_dec rfl) rfl ?_
        refine w_pure (y_assign rfl) rfl ?_
        refine w_nil ?_
        refine x_next ?_
        (refine c_dec rfl (fun hc10 => ?_) (fun hc10 => ?_) <;> try (first | exact absurd rfl hc10 | contradiction | exact Bool.noConfusion (show false = true from hc10.symm.trans (by assumption)) | exact Bool.noConfusion (show true = false from hc10.symm.trans (by assumption)) | (exfalso; omega) | (exfalso; simp only [*, Bool.not_true, Bool.not_false, reduceCtorEq] at hc10; done)))
        refine c_skip ?_
        refine x_block_norm ?_
        refine x_next ?_
        refine c_seq ?_
        refine c_region ?_
        refine w_pure (y_load_boxs rfl) rfl ?_
        refine w_pure (y_move rfl) rfl ?_
        (refine w_call rfl rfl rfl (sourcesOf_c _) rfl ?_; rintro v19 w19 ⟨hp1_19, hx19⟩)
        have hl_hp1_19 := hp1_19.lt
        have hz_hx19 := hx19.size
        replace hb2 := hb2.ext hx19
        replace h := h.ext hx19
        replace E := E.trans hx19
        refine w_pure (y_assign rfl) rfl ?_
        refine w_pure (y_assign rfl) rfl ?_
        refine w_nil ?_
        refine x_next ?_
        refine c_ret ?_
        rotate_left
      exact x_retv [_, _] rfl ⟨rfl, rfl, trivial⟩ ⟨_, by rw [ec]; rfl, by rw [resSrc, if_pos ec]; exact Own.base (by assumption) (by omega), E.go⟩
    · have ec : cHub e n j ws k n = 2 := by rw [cHub, if_pos hk, if_neg hr]
      refine ret_enter Try.func39 rfl Try.ntmps39 rfl ?_
      focus
        have ht_h := h.top
        refine c_seq ?_
        refine c_region ?_
        refine w_box rfl (k := fun b2 w2 hb2 hx2 hl2 hs2 => ?_)
        have hz_hx2 := hx2.size
        replace h := h.ext hx2
        replace E := E.trans hx2
        refine w_pure (y_assign rfl) rfl ?_
        refine w_pure (y_assign rfl) rfl ?_
        refine w_nil ?_
        refine x_next ?_
        refine c_seq ?_
        refine c_block ?_
        refine c_seq ?_
        refine c_region ?_
        refine w_pure (y_load_boxs rfl) rfl ?_
        refine w_val rfl rfl rfl (iValidBoard_c) rfl (fun w8 hx8 hz8 => ?_)
        have hz_hx8 := hx8.size
        replace hb2 := hb2.ext hx8
        replace h := h.ext hx8
        replace E := E.trans hx8
        refine w_pure (y_not rfl) rfl ?_
        refine w_pure (y_assign rfl) rfl ?_
        refine w_nil ?_
        refine x_next ?_
        (refine c_not rfl (fun hc6 => ?_) (fun hc6 => ?_) <;> try (first | exact absurd rfl hc6 | contradiction | exact Bool.noConfusion (show false = true from hc6.symm.trans (by assumption)) | exact Bool.noConfusion (show true = false from hc6.symm.trans (by assumption)) | (exfalso; omega) | (exfalso; simp only [*, Bool.not_true, Bool.not_false, reduceCtorEq] at hc6; done)))
        refine c_seq ?_
        refine c_region ?_
        refine w_pure (y_move rfl) rfl ?_
        refine w_pure (y_field rfl) rfl ?_
        refine w_pure (y_load_box rfl) rfl ?_
        refine w_pure (y_sub rfl rfl) rfl ?_
        refine w_pur rfl rfl rfl (inside_c _ _ _) rfl ?_
        refine w_pure (y_not_dec rfl) rfl ?_
        refine w_pure (y_assign rfl) rfl ?_
        refine w_nil ?_
        refine x_next ?_
        (refine c_dec rfl (fun hc10 => ?_) (fun hc10 => ?_) <;> try (first | exact absurd rfl hc10 | contradiction | exact Bool.noConfusion (show false = true from hc10.symm.trans (by assumption)) | exact Bool.noConfusion (show true = false from hc10.symm.trans (by assumption)) | (exfalso; omega) | (exfalso; simp only [*, Bool.not_true, Bool.not_false, reduceCtorEq] at hc10; done)))
        refine c_seq ?_
        refine c_region ?_
        refine w_pure (y_assign rfl) rfl ?_
        refine w_pure (y_assign rfl) rfl ?_
        refine w_nil ?_
        refine x_next ?_
        refine c_ret ?_
        refine x_block_ret ?_
        refine x_then_ret ?_
        rotate_left
      exact x_retv [_, _] rfl ⟨rfl, rfl, trivial⟩ ⟨_, by rw [ec]; rfl, by rw [resSrc, ec]; exact Own.nil _ _ _, E.go⟩
  · have ec : cHub e n j ws k n = 1 := by rw [cHub, if_neg hk]
    refine ret_enter Try.func39 rfl Try.ntmps39 rfl ?_
    focus
      have ht_h := h.top
      refine c_seq ?_
      refine c_region ?_
      refine w_box rfl (k := fun b2 w2 hb2 hx2 hl2 hs2 => ?_)
      have hz_hx2 := hx2.size
      replace h := h.ext hx2
      replace E := E.trans hx2
      refine w_pure (y_assign rfl) rfl ?_
      refine w_pure (y_assign rfl) rfl ?_
      refine w_nil ?_
      refine x_next ?_
      refine c_seq ?_
      refine c_block ?_
      refine c_seq ?_
      refine c_region ?_
      refine w_pure (y_load_boxs rfl) rfl ?_
      refine w_val rfl rfl rfl (iValidBoard_c) rfl (fun w8 hx8 hz8 => ?_)
      have hz_hx8 := hx8.size
      replace hb2 := hb2.ext hx8
      replace h := h.ext hx8
      replace E := E.trans hx8
      refine w_pure (y_not rfl) rfl ?_
      refine w_pure (y_assign rfl) rfl ?_
      refine w_nil ?_
      refine x_next ?_
      (refine c_not rfl (fun hc6 => ?_) (fun hc6 => ?_) <;> try (first | exact absurd rfl hc6 | contradiction | exact Bool.noConfusion (show false = true from hc6.symm.trans (by assumption)) | exact Bool.noConfusion (show true = false from hc6.symm.trans (by assumption)) | (exfalso; omega) | (exfalso; simp only [*, Bool.not_true, Bool.not_false, reduceCtorEq] at hc6; done)))
      refine c_seq ?_
      refine c_region ?_
      refine w_pure (y_assign rfl) rfl ?_
      refine w_pure (y_assign rfl) rfl ?_
      refine w_nil ?_
      refine x_next ?_
      refine c_ret ?_
      refine x_block_ret ?_
      refine x_then_ret ?_
      rotate_left
    exact x_retv [_, _] rfl ⟨rfl, rfl, trivial⟩ ⟨_, by rw [ec]; rfl, by rw [resSrc, ec]; exact Own.nil _ _ _, E.go⟩
end
end Go.Proofs.Ythigkbkaeopipaa

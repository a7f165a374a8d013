/- Contracts: cycles, breaks, sums and names of groups. -/
import Derived.Test.YthigkbkaeopipaaTabC
namespace Go.Proofs.Ythigkbkaeopipaa
open Go Go.Gw
set_option linter.unusedVariables false
set_option linter.unusedSimpArgs false
def resCyc (g h : Int) (ps : List (Int × Int)) (xss : List (List Int)) : Int := if cTab g h ps xss = 0 then (xss.length : Int) + (hdL xss g h).length + 1 else 0
def resBrk (g h : Int) (ps : List (Int × Int)) (xss : List (List Int)) : Int := if cTab g h ps xss = 0 then max (((hdL xss g h).length : Int) - 1) 0 else 0
def resGra (g h : Int) (ps : List (Int × Int)) (xss : List (List Int)) : List Int := if cTab g h ps xss = 0 then sumL xss ps else []
theorem resGra_len (g h : Int) (ps : List (Int × Int)) (xss : List (List Int)) : (resGra g h ps xss).length ≤ ps.length := by
  unfold resGra; split
  · rw [sumL_len]; exact Nat.le_refl _
  · simp
/-- the names of the first n groups -/
def namG (xss : List (List Int)) (g h : Int) : List (List UInt8) := (List.range (hdL xss g h).length).map fun i => textL (prt (xss.getD ((hdL xss g h).getD i 0).toNat []) g h)
theorem namG_len (xss : List (List Int)) (g h : Int) : (namG xss g h).length = (hdL xss g h).length := by simp [namG]
theorem namG_get {xss : List (List Int)} {g h : Int} {i : Nat} (hi : i < (hdL xss g h).length) : (namG xss g h)[i]? = some (textL (prt (xss.getD ((hdL xss g h).getD i 0).toNat []) g h)) := by simp [namG, hi]
def resNam (g h : Int) (ps : List (Int × Int)) (xss : List (List Int)) : List (List UInt8) := if cTab g h ps xss = 0 then namG xss g h else []
theorem resNam_len (g h : Int) (ps : List (Int × Int)) (xss : List (List Int)) : (resNam g h ps xss).length ≤ 40 := by
  unfold resNam; split
  · rename_i hc
    have := okD_len (cTab_ok hc).1
    have := hdL_len xss g h
    rw [namG_len]; omega
  · simp
/-- the sums of all groups -/
def sumG (xss : List (List Int)) (ps : List (Int × Int)) (g h : Int) : List (List Int) := (List.range (hdL xss g h).length).map fun i => sumR xss ps ((hdL xss g h).getD i 0) (toI xss.length (hdL xss g h) i)
theorem sumG_len (xss : List (List Int)) (ps : List (Int × Int)) (g h : Int) : (sumG xss ps g h).length = (hdL xss g h).length := by simp [sumG]
theorem sumG_get {xss : List (List Int)} {ps : List (Int × Int)} {g h : Int} {i : Nat} (hi : i < (hdL xss g h).length) : (sumG xss ps g h)[i]? = some (sumR xss ps ((hdL xss g h).getD i 0) (toI xss.length (hdL xss g h) i)) := by simp [sumG, hi]
def resGrp (g h : Int) (ps : List (Int × Int)) (xss : List (List Int)) : List (List Int) := if cTab g h ps xss = 0 then sumG xss ps g h else []
theorem totD_le {xss : List (List Int)} (m : Nat) (h : ∀ i, i < xss.length → (xss.getD i []).length ≤ m) : ∀ i, i ≤ xss.length → tot xss i ≤ m * i
  | 0, _ => by simp [tot_zero]
  | i + 1, hi => by
    have h1 := totD_le m h i (by omega)
    have hp2 := h i (by omega)
    rw [tot_succ (by omega), Nat.mul_succ]; omega
theorem resGrp_bd (g h : Int) (ps : List (Int × Int)) (xss : List (List Int)) : (resGrp g h ps xss).length ≤ 40 ∧ totD (resGrp g h ps xss) ≤ 160 := by
  unfold resGrp; split
  · rename_i hc
    have h1 := okD_len (cTab_ok hc).1
    have h2 := hdL_len xss g h
    have h3 := (okSet_at (cTab_ok hc).2.1).1.2.2
    have h4 := totD_le (xss := sumG xss ps g h) 4 (fun i hi => by
      rw [sumG_len] at hi
      rw [List.getD_eq_getElem?_getD, sumG_get hi]
      simp only [Option.getD_some, sumR_len]; omega) _ (Nat.le_refl _)
    rw [sumG_len] at h4 ⊢
    unfold totD; rw [sumG_len]; omega
  · simp [totD, tot]
section
variable {w : World} {lo hi lp hp b o e : Nat} {v vp u : Value} {ps : List (Int × Int)} {xss : List (List Int)} {svs gs : List SV} {g h W : Int} {dt : Bool}
theorem iBreaksIn_c (hs : SL w lp hp vp ps := by repeat (first | assumption | exact Go.Gw.Own.sl (by assumption) | exact Go.Gw.Box.at (by assumption) | exact Go.Gw.SLL.el (by first | assumption | exact Go.Gw.OwnD.sll (by assumption)) _ (by omega) | exact Go.Gw.SLL.at (by first | assumption | exact Go.Gw.OwnD.sll (by assumption)) (by omega) | exact Go.Gw.OwnD.sll (by assumption) | (apply Go.Gw.SL.chg; case hx => assumption) | (apply Go.Gw.Own.chg; case hx => assumption) | (apply Go.Gw.Box.chg; case hx => assumption) | (apply Go.Gw.At.chg; case hx => assumption) | exact .inl (Nat.zero_le _) | exact .inr (Nat.zero_le _) | (show _ ∨ _; omega))) (hd : SLL w lo hi svs v xss := by repeat (first | assumption | exact Go.Gw.Own.sl (by assumption) | exact Go.Gw.Box.at (by assumption) | exact Go.Gw.SLL.el (by first | assumption | exact Go.Gw.OwnD.sll (by assumption)) _ (by omega) | exact Go.Gw.SLL.at (by first | assumption | exact Go.Gw.OwnD.sll (by assumption)) (by omega) | exact Go.Gw.OwnD.sll (by assumption) | (apply Go.Gw.SL.chg; case hx => assumption) | (apply Go.Gw.Own.chg; case hx => assumption) | (apply Go.Gw.Box.chg; case hx => assumption) | (apply Go.Gw.At.chg; case hx => assumption) | exact .inl (Nat.zero_le _) | exact .inr (Nat.zero_le _) | (show _ ∨ _; omega))) : Val Try.prog 16 [.agg #[.int .i64 g, .int .i64 h, vp, .bool dt], v] w (.tuple #[.int .i64 (resBrk g h ps xss), .int .i64 (cTab g h ps xss)]) := by
  refine ⟨fun w1 hx1 => ?_⟩
  replace hs := hs.ext hx1
  replace hd := hd.ext hx1
  have E : Since 0 0 w1 w1 := Since.refl 0 0 w1
  by_cases hc : cTab g h ps xss = 0
  case neg =>
    refine ret_enter Try.func16 rfl Try.ntmps16 rfl ?_
    focus
      have ht_hs := hs.top
      have ht_hd := hd.top
      refine c_seq ?_
      refine c_region ?_
      refine w_box rfl (k := fun b2 w2 hb2 hx2 hl2 hs2 => ?_)
      have hz_hx2 := hx2.size
      replace hs := hs.ext hx2
      replace hd := hd.ext hx2
      replace E := E.trans hx2
      refine w_pure (y_assign rfl) rfl ?_
      refine w_pure (y_assign rfl) rfl ?_
      refine w_nil ?_
      refine x_next ?_
      refine c_seq ?_
      refine c_seq ?_
      refine c_region ?_
      refine w_pure (y_load_boxs rfl) rfl ?_
      refine w_pure (y_move rfl) rfl ?_
      refine w_val rfl rfl rfl (setupCode_c) rfl (fun w9 hx9 hz9 => ?_)
      have hz_hx9 := hx9.size
      replace hb2 := hb2.ext hx9
      replace hs := hs.ext hx9
      replace hd := hd.ext hx9
      replace E := E.trans hx9
      refine w_pure (y_assign rfl) rfl ?_
      refine w_nil ?_
      refine x_next ?_
      refine c_seq ?_
      refine c_region ?_
      refine w_pure (y_move rfl) rfl ?_
      refine w_pure (y_ne rfl rfl) rfl ?_
      refine w_nil ?_
      refine x_next ?_
      (refine c_dec rfl (fun hc11 => ?_) (fun hc11 => ?_) <;> try (first | exact absurd rfl hc11 | contradiction | exact Bool.noConfusion (show false = true from hc11.symm.trans (by assumption)) | exact Bool.noConfusion (show true = false from hc11.symm.trans (by assumption)) | (exfalso; omega) | (exfalso; simp only [*, Bool.not_true, Bool.not_false, reduceCtorEq] at hc11; done)))
      refine c_seq ?_
      refine c_region ?_
      refine w_pure (y_move rfl) rfl ?_
      refine w_pure (y_assign rfl) rfl ?_
      refine w_pure (y_assign rfl) rfl ?_
      refine w_nil ?_
      refine x_next ?_
      refine c_ret ?_
      refine x_then_ret ?_
      rotate_left
    exact x_retv [_, _] rfl ⟨rfl, rfl, trivial⟩ ⟨by rw [resBrk, if_neg hc]; rfl, E.go⟩
  obtain ⟨hk, hk2, hk3, hk4⟩ := cTab_ok hc
  have hd40 := okD_len hk
  have hdl := hdL_len xss g h
  have hf : ∀ i, i < xss.length → 0 ≤ g ∧ g < h ∧ h ≤ (xss.getD i []).length := fun i hi => by
    have h1 := (okSet_at hk2).1.2.1
    have h2 := widD_at hk i hi
    omega
  refine ret_enter Try.func16 rfl Try.ntmps16 rfl ?_
  focus
    have ht_hs := hs.top
    have ht_hd := hd.top
    refine c_seq ?_
    refine c_region ?_
    refine w_box rfl (k := fun b2 w2 hb2 hx2 hl2 hs2 => ?_)
    have hz_hx2 := hx2.size
    replace hs := hs.ext hx2
    replace hd := hd.ext hx2
    replace E := E.trans hx2
    refine w_pure (y_assign rfl) rfl ?_
    refine w_pure (y_assign rfl) rfl ?_
    refine w_nil ?_
    refine x_next ?_
    refine c_seq ?_
    refine c_seq ?_
    refine c_region ?_
    refine w_pure (y_load_boxs rfl) rfl ?_
    refine w_pure (y_move rfl) rfl ?_
    refine w_val rfl rfl rfl (setupCode_c) rfl (fun w9 hx9 hz9 => ?_)
    have hz_hx9 := hx9.size
    replace hb2 := hb2.ext hx9
    replace hs := hs.ext hx9
    replace hd := hd.ext hx9
    replace E := E.trans hx9
    refine w_pure (y_assign rfl) rfl ?_
    refine w_nil ?_
    refine x_next ?_
    refine c_seq ?_
    refine c_region ?_
    refine w_pure (y_move rfl) rfl ?_
    refine w_pure (y_ne rfl rfl) rfl ?_
    refine w_nil ?_
    refine x_next ?_
    (refine c_dec rfl (fun hc11 => ?_) (fun hc11 => ?_) <;> try (first | exact absurd rfl hc11 | contradiction | exact Bool.noConfusion (show false = true from hc11.symm.trans (by assumption)) | exact Bool.noConfusion (show true = false from hc11.symm.trans (by assumption)) | (exfalso; omega) | (exfalso; simp only [*, Bool.not_true, Bool.not_false, reduceCtorEq] at hc11; done)))
    refine c_skip ?_
    refine x_next ?_
    refine c_seq ?_
    refine c_region ?_
    refine w_pure (y_move rfl) rfl ?_
    refine w_pure (y_field rfl) rfl ?_
    refine w_pure (y_load_boxp rfl) rfl ?_
    (refine w_call rfl rfl rfl (groupsOf_c _ _) rfl ?_; rintro v16 w16 ⟨hp1_16, hx16⟩)
    have hl_hp1_16 := hp1_16.lt
    have hz_hx16 := hx16.size
    replace hb2 := hb2.ext hx16
    replace hs := hs.ext hx16
    replace hd := hd.ext hx16
    replace E := E.trans hx16
    refine w_val rfl rfl rfl (size_c) rfl (fun w17 hx17 hz17 => ?_)
    have hz_hx17 := hx17.size
    replace hp1_16 := hp1_16.ext hx17
    replace hb2 := hb2.ext hx17
    replace hs := hs.ext hx17
    replace hd := hd.ext hx17
    replace E := E.trans hx17
    refine w_pure (y_sub rfl rfl) rfl ?_
    refine w_pure (y_max rfl rfl) rfl ?_
    refine w_pure (y_assign rfl) rfl ?_
    refine w_pure (y_assign rfl) rfl ?_
    refine w_nil ?_
    refine x_next ?_
    refine c_ret ?_
    rotate_left
  exact x_retv [_, _] rfl ⟨rfl, rfl, trivial⟩ ⟨by rw [resBrk, if_pos hc, hc]; rfl, E.go⟩
theorem iGrandSums_c (hs : SL w lp hp vp ps := by repeat (first | assumption | exact Go.Gw.Own.sl (by assumption) | exact Go.Gw.Box.at (by assumption) | exact Go.Gw.SLL.el (by first | assumption | exact Go.Gw.OwnD.sll (by assumption)) _ (by omega) | exact Go.Gw.SLL.at (by first | assumption | exact Go.Gw.OwnD.sll (by assumption)) (by omega) | exact Go.Gw.OwnD.sll (by assumption) | (apply Go.Gw.SL.chg; case hx => assumption) | (apply Go.Gw.Own.chg; case hx => assumption) | (apply Go.Gw.Box.chg; case hx => assumption) | (apply Go.Gw.At.chg; case hx => assumption) | exact .inl (Nat.zero_le _) | exact .inr (Nat.zero_le _) | (show _ ∨ _; omega))) (hd : SLL w lo hi svs v xss := by repeat (first | assumption | exact Go.Gw.Own.sl (by assumption) | exact Go.Gw.Box.at (by assumption) | exact Go.Gw.SLL.el (by first | assumption | exact Go.Gw.OwnD.sll (by assumption)) _ (by omega) | exact Go.Gw.SLL.at (by first | assumption | exact Go.Gw.OwnD.sll (by assumption)) (by omega) | exact Go.Gw.OwnD.sll (by assumption) | (apply Go.Gw.SL.chg; case hx => assumption) | (apply Go.Gw.Own.chg; case hx => assumption) | (apply Go.Gw.Box.chg; case hx => assumption) | (apply Go.Gw.At.chg; case hx => assumption) | exact .inl (Nat.zero_le _) | exact .inr (Nat.zero_le _) | (show _ ∨ _; omega))) : Ret Try.prog 15 [.agg #[.int .i64 g, .int .i64 h, vp, .bool dt], v] w fun u w' => ∃ d, u = .tuple #[d, .int .i64 (cTab g h ps xss)] ∧ Own w' 2 w.heap.size d (resGra g h ps xss) ∧ Ext w w' := by
  have E : Since 0 0 w w := Since.refl 0 0 w
  by_cases hc : cTab g h ps xss = 0
  case neg =>
    refine ret_enter Try.func15 rfl Try.ntmps15 rfl ?_
    focus
      have ht_hs := hs.top
      have ht_hd := hd.top
      refine c_seq ?_
      refine c_region ?_
      refine w_box rfl (k := fun b2 w2 hb2 hx2 hl2 hs2 => ?_)
      have hz_hx2 := hx2.size
      replace hs := hs.ext hx2
      replace hd := hd.ext hx2
      replace E := E.trans hx2
      refine w_pure (y_assign rfl) rfl ?_
      refine w_pure (y_assign rfl) rfl ?_
      refine w_nil ?_
      refine x_next ?_
      refine c_seq ?_
      refine c_seq ?_
      refine c_region ?_
      refine w_pure (y_load_boxs rfl) rfl ?_
      refine w_pure (y_move rfl) rfl ?_
      refine w_val rfl rfl rfl (setupCode_c) rfl (fun w11 hx11 hz11 => ?_)
      have hz_hx11 := hx11.size
      replace hb2 := hb2.ext hx11
      replace hs := hs.ext hx11
      replace hd := hd.ext hx11
      replace E := E.trans hx11
      refine w_pure (y_assign rfl) rfl ?_
      refine w_nil ?_
      refine x_next ?_
      refine c_seq ?_
      refine c_region ?_
      refine w_pure (y_move rfl) rfl ?_
      refine w_pure (y_ne rfl rfl) rfl ?_
      refine w_nil ?_
      refine x_next ?_
      (refine c_dec rfl (fun hc13 => ?_) (fun hc13 => ?_) <;> try (first | exact absurd rfl hc13 | contradiction | exact Bool.noConfusion (show false = true from hc13.symm.trans (by assumption)) | exact Bool.noConfusion (show true = false from hc13.symm.trans (by assumption)) | (exfalso; omega) | (exfalso; simp only [*, Bool.not_true, Bool.not_false, reduceCtorEq] at hc13; done)))
      refine c_seq ?_
      refine c_region ?_
      refine w_pure (y_move rfl) rfl ?_
      refine w_pure (y_assign rfl) rfl ?_
      refine w_pure (y_assign rfl) rfl ?_
      refine w_nil ?_
      refine x_next ?_
      refine c_ret ?_
      refine x_then_ret ?_
      rotate_left
    exact x_retv [_, _] rfl ⟨rfl, rfl, trivial⟩ ⟨_, rfl, by rw [resGra, if_neg hc]; exact Own.nil _ _ _, E.go⟩
  obtain ⟨hk, hk2, hk3, hk4⟩ := cTab_ok hc
  have hT := TabOK.of hk hk2
  refine ret_enter Try.func15 rfl Try.ntmps15 rfl ?_
  focus
    have ht_hs := hs.top
    have ht_hd := hd.top
    refine c_seq ?_
    refine c_region ?_
    refine w_box rfl (k := fun b2 w2 hb2 hx2 hl2 hs2 => ?_)
    have hz_hx2 := hx2.size
    replace hs := hs.ext hx2
    replace hd := hd.ext hx2
    replace E := E.trans hx2
    refine w_pure (y_assign rfl) rfl ?_
    refine w_pure (y_assign rfl) rfl ?_
    refine w_nil ?_
    refine x_next ?_
    refine c_seq ?_
    refine c_seq ?_
    refine c_region ?_
    refine w_pure (y_load_boxs rfl) rfl ?_
    refine w_pure (y_move rfl) rfl ?_
    refine w_val rfl rfl rfl (setupCode_c) rfl (fun w11 hx11 hz11 => ?_)
    have hz_hx11 := hx11.size
    replace hb2 := hb2.ext hx11
    replace hs := hs.ext hx11
    replace hd := hd.ext hx11
    replace E := E.trans hx11
    refine w_pure (y_assign rfl) rfl ?_
    refine w_nil ?_
    refine x_next ?_
    refine c_seq ?_
    refine c_region ?_
    refine w_pure (y_move rfl) rfl ?_
    refine w_pure (y_ne rfl rfl) rfl ?_
    refine w_nil ?_
    refine x_next ?_
    (refine c_dec rfl (fun hc13 => ?_) (fun hc13 => ?_) <;> try (first | exact absurd rfl hc13 | contradiction | exact Bool.noConfusion (show false = true from hc13.symm.trans (by assumption)) | exact Bool.noConfusion (show true = false from hc13.symm.trans (by assumption)) | (exfalso; omega) | (exfalso; simp only [*, Bool.not_true, Bool.not_false, reduceCtorEq] at hc13; done)))
    refine c_skip ?_
    refine x_next ?_
    refine c_seq ?_
    refine c_region ?_
    refine w_pure (y_field rfl) rfl ?_
    refine w_pure (y_load_box rfl) rfl ?_
    refine w_pure (y_move rfl) rfl ?_
    (refine w_call rfl rfl rfl (sumsOf_c) rfl ?_; rintro _ w19 ⟨d19, ⟨rfl, ⟨hp1_19, hx19⟩⟩⟩)
    have hl_hp1_19 := hp1_19.lt
    have hz_hx19 := hx19.size
    replace hb2 := hb2.ext hx19
    replace hs := hs.ext hx19
    replace hd := hd.ext hx19
    replace E := E.trans hx19
    refine w_pure (y_move rfl) rfl ?_
    refine w_pure (y_extract rfl rfl) rfl ?_
    refine w_pure (y_extract rfl rfl) rfl ?_
    refine w_pure (y_assign rfl) rfl ?_
    refine w_pure (y_assign rfl) rfl ?_
    refine w_nil ?_
    refine x_next ?_
    refine c_seq ?_
    refine c_region ?_
    refine w_pure (y_move rfl) rfl ?_
    refine w_pure (y_assign rfl) rfl ?_
    refine w_pure (y_assign rfl) rfl ?_
    refine w_nil ?_
    refine x_next ?_
    refine c_ret ?_
    rotate_left
  rw [if_pos hk3] at hp1_19
  exact x_retv [_, _] rfl ⟨rfl, rfl, trivial⟩ ⟨_, by rw [hc]; rfl, by rw [resGra, if_pos hc]; exact Own.base (by assumption) (by omega), E.go⟩
theorem iGroupNames_c (hs : SL w lp hp vp ps := by repeat (first | assumption | exact Go.Gw.Own.sl (by assumption) | exact Go.Gw.Box.at (by assumption) | exact Go.Gw.SLL.el (by first | assumption | exact Go.Gw.OwnD.sll (by assumption)) _ (by omega) | exact Go.Gw.SLL.at (by first | assumption | exact Go.Gw.OwnD.sll (by assumption)) (by omega) | exact Go.Gw.OwnD.sll (by assumption) | (apply Go.Gw.SL.chg; case hx => assumption) | (apply Go.Gw.Own.chg; case hx => assumption) | (apply Go.Gw.Box.chg; case hx => assumption) | (apply Go.Gw.At.chg; case hx => assumption) | exact .inl (Nat.zero_le _) | exact .inr (Nat.zero_le _) | (show _ ∨ _; omega))) (hd : SLL w lo hi svs v xss := by repeat (first | assumption | exact Go.Gw.Own.sl (by assumption) | exact Go.Gw.Box.at (by assumption) | exact Go.Gw.SLL.el (by first | assumption | exact Go.Gw.OwnD.sll (by assumption)) _ (by omega) | exact Go.Gw.SLL.at (by first | assumption | exact Go.Gw.OwnD.sll (by assumption)) (by omega) | exact Go.Gw.OwnD.sll (by assumption) | (apply Go.Gw.SL.chg; case hx => assumption) | (apply Go.Gw.Own.chg; case hx => assumption) | (apply Go.Gw.Box.chg; case hx => assumption) | (apply Go.Gw.At.chg; case hx => assumption) | exact .inl (Nat.zero_le _) | exact .inr (Nat.zero_le _) | (show _ ∨ _; omega))) : Ret Try.prog 14 [.agg #[.int .i64 g, .int .i64 h, vp, .bool dt], v] w fun u w' => ∃ d, u = .tuple #[d, .int .i64 (cTab g h ps xss)] ∧ Own w' 9 w.heap.size d (resNam g h ps xss) ∧ Ext w w' := by
  have E : Since 0 0 w w := Since.refl 0 0 w
  by_cases hc : cTab g h ps xss = 0
  case neg =>
    refine ret_enter Try.func14 rfl Try.ntmps14 rfl ?_
    focus
      have ht_hs := hs.top
      have ht_hd := hd.top
      refine c_seq ?_
      refine c_region ?_
      refine w_box rfl (k := fun b2 w2 hb2 hx2 hl2 hs2 => ?_)
      have hz_hx2 := hx2.size
      replace hs := hs.ext hx2
      replace hd := hd.ext hx2
      replace E := E.trans hx2
      refine w_pure (y_assign rfl) rfl ?_
      refine w_pure (y_assign rfl) rfl ?_
      refine w_nil ?_
      refine x_next ?_
      refine c_seq ?_
      refine c_seq ?_
      refine c_region ?_
      refine w_pure (y_load_boxs rfl) rfl ?_
      refine w_pure (y_move rfl) rfl ?_
      refine w_val rfl rfl rfl (setupCode_c) rfl (fun w12 hx12 hz12 => ?_)
      have hz_hx12 := hx12.size
      replace hb2 := hb2.ext hx12
      replace hs := hs.ext hx12
      replace hd := hd.ext hx12
      replace E := E.trans hx12
      refine w_pure (y_assign rfl) rfl ?_
      refine w_nil ?_
      refine x_next ?_
      refine c_seq ?_
      refine c_region ?_
      refine w_pure (y_move rfl) rfl ?_
      refine w_pure (y_ne rfl rfl) rfl ?_
      refine w_nil ?_
      refine x_next ?_
      (refine c_dec rfl (fun hc14 => ?_) (fun hc14 => ?_) <;> try (first | exact absurd rfl hc14 | contradiction | exact Bool.noConfusion (show false = true from hc14.symm.trans (by assumption)) | exact Bool.noConfusion (show true = false from hc14.symm.trans (by assumption)) | (exfalso; omega) | (exfalso; simp only [*, Bool.not_true, Bool.not_false, reduceCtorEq] at hc14; done)))
      refine c_seq ?_
      refine c_region ?_
      refine w_pure (y_move rfl) rfl ?_
      refine w_pure (y_assign rfl) rfl ?_
      refine w_pure (y_assign rfl) rfl ?_
      refine w_nil ?_
      refine x_next ?_
      refine c_ret ?_
      refine x_then_ret ?_
      rotate_left
    exact x_retv [_, _] rfl ⟨rfl, rfl, trivial⟩ ⟨_, rfl, by rw [resNam, if_neg hc]; exact Own.nil _ _ _, E.go⟩
  obtain ⟨hk, hk2, hk3, hk4⟩ := cTab_ok hc
  have hT := TabOK.of hk hk2
  have hd40 := okD_len hk
  have hdl := hdL_len xss g h
  have hf : ∀ i, i < xss.length → 0 ≤ g ∧ g < h ∧ h ≤ (xss.getD i []).length := fun i hi => by
    have h1 := (okSet_at hk2).1.2.1
    have h2 := widD_at hk i hi
    omega
  refine ret_enter Try.func14 rfl Try.ntmps14 rfl ?_
  focus
    have ht_hs := hs.top
    have ht_hd := hd.top
    refine c_seq ?_
    refine c_region ?_
    refine w_box rfl (k := fun b2 w2 hb2 hx2 hl2 hs2 => ?_)
    have hz_hx2 := hx2.size
    replace hs := hs.ext hx2
    replace hd := hd.ext hx2
    replace E := E.trans hx2
    refine w_pure (y_assign rfl) rfl ?_
    refine w_pure (y_assign rfl) rfl ?_
    refine w_nil ?_
    refine x_next ?_
    refine c_seq ?_
    refine c_seq ?_
    refine c_region ?_
    refine w_pure (y_load_boxs rfl) rfl ?_
    refine w_pure (y_move rfl) rfl ?_
    refine w_val rfl rfl rfl (setupCode_c) rfl (fun w12 hx12 hz12 => ?_)
    have hz_hx12 := hx12.size
    replace hb2 := hb2.ext hx12
    replace hs := hs.ext hx12
    replace hd := hd.ext hx12
    replace E := E.trans hx12
    refine w_pure (y_assign rfl) rfl ?_
    refine w_nil ?_
    refine x_next ?_
    refine c_seq ?_
    refine c_region ?_
    refine w_pure (y_move rfl) rfl ?_
    refine w_pure (y_ne rfl rfl) rfl ?_
    refine w_nil ?_
    refine x_next ?_
    (refine c_dec rfl (fun hc14 => ?_) (fun hc14 => ?_) <;> try (first | exact absurd rfl hc14 | contradiction | exact Bool.noConfusion (show false = true from hc14.symm.trans (by assumption)) | exact Bool.noConfusion (show true = false from hc14.symm.trans (by assumption)) | (exfalso; omega) | (exfalso; simp only [*, Bool.not_true, Bool.not_false, reduceCtorEq] at hc14; done)))
    refine c_skip ?_
    refine x_next ?_
    refine c_seq ?_
    refine c_region ?_
    refine w_lit_s0 rfl (k := fun v16 w16 ho16 hx16 hl16 hh16 hs16 => ?_)
    have hl_ho16 := ho16.lt
    have hz_hx16 := hx16.size
    replace hb2 := hb2.ext hx16
    replace hs := hs.ext hx16
    replace hd := hd.ext hx16
    replace E := E.trans hx16
    refine w_pure (y_assign rfl) rfl ?_
    refine w_nil ?_
    refine x_next ?_
    refine c_seq ?_
    refine c_seq ?_
    refine c_region ?_
    refine w_pure (y_move rfl) rfl ?_
    refine w_pure (y_field rfl) rfl ?_
    refine w_pure (y_load_boxp rfl) rfl ?_
    (refine w_call rfl rfl rfl (groups_c _ _) rfl ?_; rintro v20 w20 ⟨gs20, ⟨hp1_20, ⟨hp2_20, ⟨hp3_20, hx20⟩⟩⟩⟩)
    have hl_hp1_20 := hp1_20.lt
    have hz_hx20 := hx20.size
    replace ho16 := ho16.ext hx20
    replace hb2 := hb2.ext hx20
    replace hs := hs.ext hx20
    replace hd := hd.ext hx20
    replace E := E.trans hx20
    refine w_pure (y_len rfl) rfl ?_
    refine w_pure (y_move rfl) rfl ?_
    refine w_nil ?_
    refine x_next ?_
    refine c_block ?_
    rotate_left
  have hnl := namG_len xss g h
  refine c_loopC (bL v16) (bH v16) (ι := Int × Value) (fun x => [(2, ptr b2 0), (7, x.2), (20, v20), (21, .int .i64 gs20.length), (22, .int .i64 x.1)])
    (fun x w' => Box w' b2 [.int .i64 g, .int .i64 h, vp, .bool dt] ∧ Own w' 24 w16.heap.size v20 gs20 ∧ GrE w' lo hi svs xss (hdL xss g h) gs20 ∧ Own w' 9 w.heap.size x.2 ((namG xss g h).take x.1.toNat) ∧ ((bL x.2 = bL v16 ∧ bH x.2 = bH v16) ∨ w20.heap.size ≤ bL x.2) ∧ 0 ≤ x.1 ∧ x.1 ≤ (hdL xss g h).length) (fun x => ((hdL xss g h).length - x.1).toNat) (0, v16)
    (by repeat (first | exact trivial | refine ⟨rfl, ?_⟩)) ⟨by assumption, by assumption, by assumption, by show Own _ _ _ v16 (List.take 0 _); rw [List.take_zero]; exact Own.base (by assumption) (by omega), .inl ⟨rfl, rfl⟩, by dsimp only; omega, by dsimp only; omega⟩ ?_
  clear ho16 hp1_20 hp2_20 hb2
  rintro ⟨i, u⟩ wL hxL EL ⟨hb2, g1, g2, g3, g4, hi0, hi1⟩
  dsimp only at *
  have e1 : (i + 1).toNat = i.toNat + 1 := by omega
  have htl : i ≤ (hdL xss g h).length → ((namG xss g h).take i.toNat).length = i.toNat := fun _ => by rw [List.length_take]; omega
  by_cases hli : i < (hdL xss g h).length
  case neg =>
    focus
      have hl_g1 := g1.lt
      have hl_g3 := g3.lt
      have hz_hxL := hxL.size
      replace hs := hs.chg hxL (by omega)
      replace hd := hd.chg hxL (by omega)
      replace E := E.next hxL (by omega)
      refine c_seq ?_
      refine c_region ?_
      refine w_pure (y_lt rfl rfl) rfl ?_
      refine w_nil ?_
      refine x_next ?_
      refine c_seq ?_
      (refine c_dec rfl (fun hc23 => ?_) (fun hc23 => ?_) <;> try (first | exact absurd rfl hc23 | contradiction | exact Bool.noConfusion (show false = true from hc23.symm.trans (by assumption)) | exact Bool.noConfusion (show true = false from hc23.symm.trans (by assumption)) | (exfalso; omega) | (exfalso; simp only [*, Bool.not_true, Bool.not_false, reduceCtorEq] at hc23; done)))
      refine c_exit ?_
      refine x_then_exit ?_
      refine x_then_exit ?_
      refine x_block_hit ?_
      refine x_next ?_
      refine c_seq ?_
      refine c_region ?_
      refine w_pure (y_move rfl) rfl ?_
      refine w_pure (y_assign rfl) rfl ?_
      refine w_pure (y_assign rfl) rfl ?_
      refine w_nil ?_
      refine x_next ?_
      refine c_ret ?_
      rotate_left
    rw [List.take_of_length_le (by omega)] at g3
    exact x_retv [_, _] rfl ⟨rfl, rfl, trivial⟩ ⟨_, by rw [hc]; rfl, by rw [resNam, if_pos hc]; exact g3, E.go⟩
  have hb := hdL_bd (xss := xss) (f := g) (t := h) (i := i.toNat) (by omega)
  have hgr := g2.el i.toNat (by omega)
  have hsl : (((xss.take (toI xss.length (hdL xss g h) i.toNat).toNat).drop ((hdL xss g h).getD i.toNat 0).toNat).length : Int) = toI xss.length (hdL xss g h) i.toNat - (hdL xss g h).getD i.toNat 0 := by simp only [List.length_drop, List.length_take]; omega
  have hx0 : ((xss.take (toI xss.length (hdL xss g h) i.toNat).toNat).drop ((hdL xss g h).getD i.toNat 0).toNat).getD (Int.toNat 0) [] = xss.getD ((hdL xss g h).getD i.toNat 0).toNat [] := by
    rw [drop_take_getD (show Int.toNat 0 < _ by show 0 < _; omega)]; rfl
  have hf0 := hf ((hdL xss g h).getD i.toNat 0).toNat (by omega)
  have hk0 := okF_at hk4 (i := ((hdL xss g h).getD i.toNat 0).toNat) (by omega)
  have hcd := (hT.cd ((hdL xss g h).getD i.toNat 0).toNat (by omega)).2
  have hwd := hT.wid
  rw [← hx0] at hf0 hk0 hcd
  focus
    have hl_g1 := g1.lt
    have hl_g3 := g3.lt
    have ht_hgr := hgr.top
    have hz_hxL := hxL.size
    replace hs := hs.chg hxL (by omega)
    replace hd := hd.chg hxL (by omega)
    replace E := E.next hxL (by omega)
    refine c_seq ?_
    refine c_region ?_
    refine w_pure (y_lt rfl rfl) rfl ?_
    refine w_nil ?_
    refine x_next ?_
    refine c_seq ?_
    (refine c_dec rfl (fun hc23 => ?_) (fun hc23 => ?_) <;> try (first | exact absurd rfl hc23 | contradiction | exact Bool.noConfusion (show false = true from hc23.symm.trans (by assumption)) | exact Bool.noConfusion (show true = false from hc23.symm.trans (by assumption)) | (exfalso; omega) | (exfalso; simp only [*, Bool.not_true, Bool.not_false, reduceCtorEq] at hc23; done)))
    refine c_skip ?_
    refine x_next ?_
    refine c_seq ?_
    refine c_block ?_
    refine c_seq ?_
    refine c_region ?_
    refine w_pure (y_index rfl rfl) rfl ?_
    refine w_pure (y_load_svo rfl) rfl ?_
    refine w_pure (y_assign rfl) rfl ?_
    refine w_nil ?_
    refine x_next ?_
    refine c_region_held mixed (fun wr8 hxr8 hzr8 => ?_)
    have hz_hxr8 := hxr8.size
    replace EL := EL.next hxr8 (by omega)
    replace hb2 := hb2.ext hxr8
    replace g1 := g1.ext hxr8
    replace g2 := g2.ext hxr8
    replace g3 := g3.ext hxr8
    replace hgr := hgr.ext hxr8
    replace hs := hs.ext hxr8
    replace hd := hd.ext hxr8
    replace E := E.trans hxr8
    refine h_pure rfl (y_move rfl) rfl ?_
    refine h_pure rfl (y_move rfl) rfl ?_
    refine h_pure rfl (y_indexd rfl rfl) rfl ?_
    refine h_pure rfl (y_loads rfl) rfl ?_
    refine h_pure rfl (y_field rfl) rfl ?_
    refine h_pure rfl (y_load_boxp rfl) rfl ?_
    refine h_one rfl ?_
    refine w_val rfl rfl rfl (fieldText_c _ _) rfl (fun w32 hx32 hz32 => ?_)
    have hz_hx32 := hx32.size
    replace EL := EL.next hx32 (by omega)
    replace hb2 := hb2.ext hx32
    replace g1 := g1.ext hx32
    replace g2 := g2.ext hx32
    replace g3 := g3.ext hx32
    replace hgr := hgr.ext hx32
    replace hs := hs.ext hx32
    replace hd := hd.ext hx32
    replace E := E.trans hx32
    refine w_nil ?_
    refine x_held ?_
    refine h_one rfl ?_
    refine w_lit (α := (List UInt8)) rfl rfl rfl rfl rfl rfl rfl rfl (fun v33 w33 ho33 hx33 hl33 hh33 hs33 => ?_)
    have hl_ho33 := ho33.lt
    have hz_hx33 := hx33.size
    replace EL := EL.next hx33 (by omega)
    replace hb2 := hb2.ext hx33
    replace g1 := g1.ext hx33
    replace g2 := g2.ext hx33
    replace g3 := g3.ext hx33
    replace hgr := hgr.ext hx33
    replace hs := hs.ext hx33
    replace hd := hd.ext hx33
    replace E := E.trans hx33
    refine w_nil ?_
    refine x_held ?_
    refine h_one rfl ?_
    refine w_append rfl rfl (k := fun v34 w34 ho34 hx34 hr34 => ?_)
    have hl_ho34 := ho34.lt
    have hz_hx34 := hx34.size
    replace ho33 := ho33.chg hx34 (by omega)
    replace EL := EL.next hx34 (by omega)
    replace hb2 := hb2.chg hx34 (by omega)
    replace g1 := g1.chg hx34 (by omega)
    replace g2 := g2.chg hx34 (by omega)
    replace hgr := hgr.chg hx34 (by omega)
    replace hs := hs.chg hx34 (by omega)
    replace hd := hd.chg hx34 (by omega)
    replace E := E.next hx34 (by omega)
    refine w_nil ?_
    refine x_heldk ?_
    refine h_pure rfl (y_assign rfl) rfl ?_
    refine h_nil ?_
    refine x_block_norm ?_
    refine x_next ?_
    refine c_region ?_
    refine w_pure (y_add rfl rfl) rfl ?_
    refine w_pure (y_move rfl) rfl ?_
    refine w_nil ?_
    rotate_left
  refine x_again (i + 1, v34) (by repeat (first | exact trivial | refine ⟨rfl, ?_⟩)) ⟨EL.go, by assumption, by assumption, by assumption, ?_, by dsimp only; omega, by dsimp only; omega, by dsimp only; omega⟩ (by dsimp only; omega)
  dsimp only
  rw [e1, List.take_add_one, namG_get (by omega), ← hx0]
  exact Own.base (by assumption) (by omega)
theorem iGroupSums_c (hs : SL w lp hp vp ps := by repeat (first | assumption | exact Go.Gw.Own.sl (by assumption) | exact Go.Gw.Box.at (by assumption) | exact Go.Gw.SLL.el (by first | assumption | exact Go.Gw.OwnD.sll (by assumption)) _ (by omega) | exact Go.Gw.SLL.at (by first | assumption | exact Go.Gw.OwnD.sll (by assumption)) (by omega) | exact Go.Gw.OwnD.sll (by assumption) | (apply Go.Gw.SL.chg; case hx => assumption) | (apply Go.Gw.Own.chg; case hx => assumption) | (apply Go.Gw.Box.chg; case hx => assumption) | (apply Go.Gw.At.chg; case hx => assumption) | exact .inl (Nat.zero_le _) | exact .inr (Nat.zero_le _) | (show _ ∨ _; omega))) (hd : SLL w lo hi svs v xss := by repeat (first | assumption | exact Go.Gw.Own.sl (by assumption) | exact Go.Gw.Box.at (by assumption) | exact Go.Gw.SLL.el (by first | assumption | exact Go.Gw.OwnD.sll (by assumption)) _ (by omega) | exact Go.Gw.SLL.at (by first | assumption | exact Go.Gw.OwnD.sll (by assumption)) (by omega) | exact Go.Gw.OwnD.sll (by assumption) | (apply Go.Gw.SL.chg; case hx => assumption) | (apply Go.Gw.Own.chg; case hx => assumption) | (apply Go.Gw.Box.chg; case hx => assumption) | (apply Go.Gw.At.chg; case hx => assumption) | exact .inl (Nat.zero_le _) | exact .inr (Nat.zero_le _) | (show _ ∨ _; omega))) : Ret Try.prog 13 [.agg #[.int .i64 g, .int .i64 h, vp, .bool dt], v] w fun u w' => ∃ d sus, u = .tuple #[d, .int .i64 (cTab g h ps xss)] ∧ OwnD w' 38 w.heap.size w'.heap.size sus d (resGrp g h ps xss) ∧ Ext w w' := by
  have E : Since 0 0 w w := Since.refl 0 0 w
  by_cases hc : cTab g h ps xss = 0
  case neg =>
    refine ret_enter Try.func13 rfl Try.ntmps13 rfl ?_
    focus
      have ht_hs := hs.top
      have ht_hd := hd.top
      refine c_seq ?_
      refine c_region ?_
      refine w_box rfl (k := fun b2 w2 hb2 hx2 hl2 hs2 => ?_)
      have hz_hx2 := hx2.size
      replace hs := hs.ext hx2
      replace hd := hd.ext hx2
      replace E := E.trans hx2
      refine w_pure (y_assign rfl) rfl ?_
      refine w_pure (y_assign rfl) rfl ?_
      refine w_nil ?_
      refine x_next ?_
      refine c_seq ?_
      refine c_seq ?_
      refine c_region ?_
      refine w_pure (y_load_boxs rfl) rfl ?_
      refine w_pure (y_move rfl) rfl ?_
      refine w_val rfl rfl rfl (setupCode_c) rfl (fun w14 hx14 hz14 => ?_)
      have hz_hx14 := hx14.size
      replace hb2 := hb2.ext hx14
      replace hs := hs.ext hx14
      replace hd := hd.ext hx14
      replace E := E.trans hx14
      refine w_pure (y_assign rfl) rfl ?_
      refine w_nil ?_
      refine x_next ?_
      refine c_seq ?_
      refine c_region ?_
      refine w_pure (y_move rfl) rfl ?_
      refine w_pure (y_ne rfl rfl) rfl ?_
      refine w_nil ?_
      refine x_next ?_
      (refine c_dec rfl (fun hc16 => ?_) (fun hc16 => ?_) <;> try (first | exact absurd rfl hc16 | contradiction | exact Bool.noConfusion (show false = true from hc16.symm.trans (by assumption)) | exact Bool.noConfusion (show true = false from hc16.symm.trans (by assumption)) | (exfalso; omega) | (exfalso; simp only [*, Bool.not_true, Bool.not_false, reduceCtorEq] at hc16; done)))
      refine c_seq ?_
      refine c_region ?_
      refine w_pure (y_move rfl) rfl ?_
      refine w_pure (y_assign rfl) rfl ?_
      refine w_pure (y_assign rfl) rfl ?_
      refine w_nil ?_
      refine x_next ?_
      refine c_ret ?_
      refine x_then_ret ?_
      rotate_left
    exact x_retv [_, _] rfl ⟨rfl, rfl, trivial⟩ ⟨_, [], rfl, by rw [resGrp, if_neg hc]; exact OwnD.nil _ _ _ _ (Nat.le_refl _), E.go⟩
  obtain ⟨hk, hk2, hk3, hk4⟩ := cTab_ok hc
  have hT := TabOK.of hk hk2
  have hd40 := okD_len hk
  have hdl := hdL_len xss g h
  have hf : ∀ i, i < xss.length → 0 ≤ g ∧ g < h ∧ h ≤ (xss.getD i []).length := fun i hi => by
    have h1 := (okSet_at hk2).1.2.1
    have h2 := widD_at hk i hi
    omega
  refine ret_enter Try.func13 rfl Try.ntmps13 rfl ?_
  focus
    have ht_hs := hs.top
    have ht_hd := hd.top
    refine c_seq ?_
    refine c_region ?_
    refine w_box rfl (k := fun b2 w2 hb2 hx2 hl2 hs2 => ?_)
    have hz_hx2 := hx2.size
    replace hs := hs.ext hx2
    replace hd := hd.ext hx2
    replace E := E.trans hx2
    refine w_pure (y_assign rfl) rfl ?_
    refine w_pure (y_assign rfl) rfl ?_
    refine w_nil ?_
    refine x_next ?_
    refine c_seq ?_
    refine c_seq ?_
    refine c_region ?_
    refine w_pure (y_load_boxs rfl) rfl ?_
    refine w_pure (y_move rfl) rfl ?_
    refine w_val rfl rfl rfl (setupCode_c) rfl (fun w14 hx14 hz14 => ?_)
    have hz_hx14 := hx14.size
    replace hb2 := hb2.ext hx14
    replace hs := hs.ext hx14
    replace hd := hd.ext hx14
    replace E := E.trans hx14
    refine w_pure (y_assign rfl) rfl ?_
    refine w_nil ?_
    refine x_next ?_
    refine c_seq ?_
    refine c_region ?_
    refine w_pure (y_move rfl) rfl ?_
    refine w_pure (y_ne rfl rfl) rfl ?_
    refine w_nil ?_
    refine x_next ?_
    (refine c_dec rfl (fun hc16 => ?_) (fun hc16 => ?_) <;> try (first | exact absurd rfl hc16 | contradiction | exact Bool.noConfusion (show false = true from hc16.symm.trans (by assumption)) | exact Bool.noConfusion (show true = false from hc16.symm.trans (by assumption)) | (exfalso; omega) | (exfalso; simp only [*, Bool.not_true, Bool.not_false, reduceCtorEq] at hc16; done)))
    refine c_skip ?_
    refine x_next ?_
    refine c_seq ?_
    refine c_region ?_
    refine w_lit_d0 rfl (k := fun v18 w18 ho18 hx18 hl18 hh18 hs18 => ?_)
    have hl_ho18 := ho18.lt
    have hz_hx18 := hx18.size
    replace hb2 := hb2.ext hx18
    replace hs := hs.ext hx18
    replace hd := hd.ext hx18
    replace E := E.trans hx18
    refine w_pure (y_assign rfl) rfl ?_
    refine w_nil ?_
    refine x_next ?_
    refine c_seq ?_
    refine c_seq ?_
    refine c_region ?_
    refine w_pure (y_move rfl) rfl ?_
    refine w_pure (y_field rfl) rfl ?_
    refine w_pure (y_load_boxp rfl) rfl ?_
    (refine w_call rfl rfl rfl (groups_c _ _) rfl ?_; rintro v22 w22 ⟨gs22, ⟨hp1_22, ⟨hp2_22, ⟨hp3_22, hx22⟩⟩⟩⟩)
    have hl_hp1_22 := hp1_22.lt
    have hz_hx22 := hx22.size
    replace ho18 := ho18.ext hx22
    replace hb2 := hb2.ext hx22
    replace hs := hs.ext hx22
    replace hd := hd.ext hx22
    replace E := E.trans hx22
    refine w_pure (y_len rfl) rfl ?_
    refine w_pure (y_move rfl) rfl ?_
    refine w_nil ?_
    refine x_next ?_
    refine c_block ?_
    rotate_left
  have hnl := sumG_len xss ps g h
  refine c_loopC (bL v18) (bH v18) (ι := Int × Value × List SV) (fun x => [(2, ptr b2 0), (7, x.2.1), (22, v22), (23, .int .i64 gs22.length), (24, .int .i64 x.1)])
    (fun x w' => Box w' b2 [.int .i64 g, .int .i64 h, vp, .bool dt] ∧ SL w' lp hp vp ps ∧ Own w' 24 w18.heap.size v22 gs22 ∧ GrE w' lo hi svs xss (hdL xss g h) gs22 ∧ OwnD w' 38 w.heap.size w'.heap.size x.2.2 x.2.1 ((sumG xss ps g h).take x.1.toNat) ∧ ((bL x.2.1 = bL v18 ∧ bH x.2.1 = bH v18) ∨ w22.heap.size ≤ bL x.2.1) ∧ 0 ≤ x.1 ∧ x.1 ≤ (hdL xss g h).length) (fun x => ((hdL xss g h).length - x.1).toNat) (0, v18, [])
    (by repeat (first | exact trivial | refine ⟨rfl, ?_⟩)) ⟨by assumption, by assumption, by assumption, by assumption, by show OwnD _ _ _ _ [] v18 (List.take 0 _); rw [List.take_zero]; exact OwnD.wide (ho18.low (by omega)) (by omega) (Nat.le_refl _), .inl ⟨rfl, rfl⟩, by dsimp only; omega, by dsimp only; omega⟩ ?_
  clear ho18 hp1_22 hp2_22 hb2 hs
  rintro ⟨i, u, sus⟩ wL hxL EL ⟨hb2, hs, g1, g2, g3, g4, hi0, hi1⟩
  dsimp only at *
  have e1 : (i + 1).toNat = i.toNat + 1 := by omega
  have htl : i ≤ (hdL xss g h).length → ((sumG xss ps g h).take i.toNat).length = i.toNat := fun _ => by rw [List.length_take]; omega
  by_cases hli : i < (hdL xss g h).length
  case neg =>
    focus
      have hl_g1 := g1.lt
      have hl_g3 := g3.lt
      have hz_hxL := hxL.size
      replace hd := hd.chg hxL (by omega)
      replace E := E.next hxL (by omega)
      refine c_seq ?_
      refine c_region ?_
      refine w_pure (y_lt rfl rfl) rfl ?_
      refine w_nil ?_
      refine x_next ?_
      refine c_seq ?_
      (refine c_dec rfl (fun hc25 => ?_) (fun hc25 => ?_) <;> try (first | exact absurd rfl hc25 | contradiction | exact Bool.noConfusion (show false = true from hc25.symm.trans (by assumption)) | exact Bool.noConfusion (show true = false from hc25.symm.trans (by assumption)) | (exfalso; omega) | (exfalso; simp only [*, Bool.not_true, Bool.not_false, reduceCtorEq] at hc25; done)))
      refine c_exit ?_
      refine x_then_exit ?_
      refine x_then_exit ?_
      refine x_block_hit ?_
      refine x_next ?_
      refine c_seq ?_
      refine c_region ?_
      refine w_pure (y_move rfl) rfl ?_
      refine w_pure (y_assign rfl) rfl ?_
      refine w_pure (y_assign rfl) rfl ?_
      refine w_nil ?_
      refine x_next ?_
      refine c_ret ?_
      rotate_left
    rw [List.take_of_length_le (by omega)] at g3
    exact x_retv [_, _] rfl ⟨rfl, rfl, trivial⟩ ⟨_, sus, by rw [hc]; rfl, by rw [resGrp, if_pos hc]; exact OwnD.wide g3 (by omega) (Nat.le_refl _), E.go⟩
  have hb := hdL_bd (xss := xss) (f := g) (t := h) (i := i.toNat) (by omega)
  have hgr := g2.el i.toNat (by omega)
  have hsl : (((xss.take (toI xss.length (hdL xss g h) i.toNat).toNat).drop ((hdL xss g h).getD i.toNat 0).toNat).length : Int) = toI xss.length (hdL xss g h) i.toNat - (hdL xss g h).getD i.toNat 0 := by simp only [List.length_drop, List.length_take]; omega
  have hTs := hT.sub ((hdL xss g h).getD i.toNat 0).toNat (toI xss.length (hdL xss g h) i.toNat).toNat
  have hNs := okN_sub (a := ((hdL xss g h).getD i.toNat 0).toNat) (b := (toI xss.length (hdL xss g h) i.toNat).toNat) hk3
  have hLs := sumL_sub (ps := ps) (xss := xss) (a := (hdL xss g h).getD i.toNat 0) (b := toI xss.length (hdL xss g h) i.toNat) (by omega)
  focus
    have hl_g1 := g1.lt
    have hl_g3 := g3.lt
    have ht_hgr := hgr.top
    have hz_hxL := hxL.size
    replace hd := hd.chg hxL (by omega)
    replace E := E.next hxL (by omega)
    refine c_seq ?_
    refine c_region ?_
    refine w_pure (y_lt rfl rfl) rfl ?_
    refine w_nil ?_
    refine x_next ?_
    refine c_seq ?_
    (refine c_dec rfl (fun hc25 => ?_) (fun hc25 => ?_) <;> try (first | exact absurd rfl hc25 | contradiction | exact Bool.noConfusion (show false = true from hc25.symm.trans (by assumption)) | exact Bool.noConfusion (show true = false from hc25.symm.trans (by assumption)) | (exfalso; omega) | (exfalso; simp only [*, Bool.not_true, Bool.not_false, reduceCtorEq] at hc25; done)))
    refine c_skip ?_
    refine x_next ?_
    refine c_seq ?_
    refine c_block ?_
    refine c_seq ?_
    refine c_region ?_
    refine w_pure (y_index rfl rfl) rfl ?_
    refine w_pure (y_load_svo rfl) rfl ?_
    refine w_pure (y_assign rfl) rfl ?_
    refine w_nil ?_
    refine x_next ?_
    refine c_seq ?_
    refine c_region ?_
    refine w_pure (y_field rfl) rfl ?_
    refine w_pure (y_load_box rfl) rfl ?_
    refine w_pure (y_move rfl) rfl ?_
    (refine w_call rfl rfl rfl (sumsOf_c) rfl ?_; rintro _ w32 ⟨d32, ⟨rfl, ⟨hp1_32, hx32⟩⟩⟩)
    have hl_hp1_32 := hp1_32.lt
    have hz_hx32 := hx32.size
    replace EL := EL.next hx32 (by omega)
    replace hb2 := hb2.ext hx32
    replace hs := hs.ext hx32
    replace g1 := g1.ext hx32
    replace g2 := g2.ext hx32
    replace g3 := g3.ext hx32
    replace hgr := hgr.ext hx32
    replace hd := hd.ext hx32
    replace E := E.trans hx32
    refine w_pure (y_move rfl) rfl ?_
    refine w_pure (y_extract rfl rfl) rfl ?_
    refine w_pure (y_extract rfl rfl) rfl ?_
    refine w_pure (y_assign rfl) rfl ?_
    refine w_pure (y_assign rfl) rfl ?_
    refine w_nil ?_
    refine x_next ?_
    refine c_region ?_
    refine w_pure (y_move rfl) rfl ?_
    refine w_pure (y_move rfl) rfl ?_
    refine w_lit_sv rfl rfl (k := fun v37 w37 ho37 hx37 hl37 hh37 hs37 => ?_)
    have hl_ho37 := ho37.lt
    have hz_hx37 := hx37.size
    replace hp1_32 := hp1_32.ext hx37
    replace EL := EL.next hx37 (by omega)
    replace hb2 := hb2.ext hx37
    replace hs := hs.ext hx37
    replace g1 := g1.ext hx37
    replace g2 := g2.ext hx37
    replace g3 := g3.ext hx37
    replace hgr := hgr.ext hx37
    replace hd := hd.ext hx37
    replace E := E.trans hx37
    refine w_append_d rfl rfl (k := fun v38 w38 ho38 hx38 hr38 => ?_)
    have hl_ho38 := ho38.lt
    have hz_hx38 := hx38.size
    replace ho37 := ho37.chg hx38 (by omega)
    replace hp1_32 := hp1_32.chg hx38 (by omega)
    replace EL := EL.next hx38 (by omega)
    replace hb2 := hb2.chg hx38 (by omega)
    replace hs := hs.chg hx38 (by omega)
    replace g1 := g1.chg hx38 (by omega)
    replace g2 := g2.chg hx38 (by omega)
    replace hgr := hgr.chg hx38 (by omega)
    replace hd := hd.chg hx38 (by omega)
    replace E := E.next hx38 (by omega)
    refine w_pure (y_assign rfl) rfl ?_
    refine w_nil ?_
    refine x_block_norm ?_
    refine x_next ?_
    refine c_region ?_
    refine w_pure (y_add rfl rfl) rfl ?_
    refine w_pure (y_move rfl) rfl ?_
    refine w_nil ?_
    rotate_left
  rw [if_pos hNs, hLs] at ho38
  refine x_again (i + 1, v38, sus ++ [svOf d32]) (by repeat (first | exact trivial | refine ⟨rfl, ?_⟩)) ⟨EL.go, by assumption, by assumption, by assumption, by assumption, ?_, by dsimp only; omega, by dsimp only; omega, by dsimp only; omega⟩ (by dsimp only; omega)
  dsimp only
  rw [e1, List.take_add_one, sumG_get (by omega)]
  exact OwnD.wide (by assumption) (by omega) (Nat.le_refl _)
end
end Go.Proofs.Ythigkbkaeopipaa

/- Contracts: cycles, breaks, sums and names of groups. -/
import Derived.Test.YtihnhelkfiaimaaGreatDoorTabC
namespace Go.Proofs.YtihnhelkfiaimaaGreatDoor
open Go Go.Gw
set_option linter.unusedVariables false
set_option linter.unusedSimpArgs false
def resCyc (g h : Int) (ps : List (Int × Int)) (xss : List (List Int)) : Int := if cTab g h ps xss = 0 then (xss.length : Int) + (hdL xss g h).length + 1 else 0
def resBrk (g h : Int) (ps : List (Int × Int)) (xss : List (List Int)) : Int := if cTab g h ps xss = 0 then max (((hdL xss g h).length : Int) - 1) 0 else 0
def resGra (g h : Int) (ps : List (Int × Int)) (xss : List (List Int)) : List Int := if cTab g h ps xss = 0 then sumL xss ps else []
theorem resGra_len (g h : Int) (ps : List (Int × Int)) (xss : List (List Int)) : (resGra g h ps xss).length ≤ ps.length := by
  unfold resGra; split
  · rw [sumL_len]; exact Nat.le_refl _
  · simp
/-- the names of the first n groups -/
def namG (xss : List (List Int)) (g h : Int) : List (List UInt8) := (List.range (hdL xss g h).length).map fun i => textL (prt (xss.getD ((hdL xss g h).getD i 0).toNat []) g h)
theorem namG_len (xss : List (List Int)) (g h : Int) : (namG xss g h).length = (hdL xss g h).length := by simp [namG]
theorem namG_get {xss : List (List Int)} {g h : Int} {i : Nat} (hi : i < (hdL xss g h).length) : (namG xss g h)[i]? = some (textL (prt (xss.getD ((hdL xss g h).getD i 0).toNat []) g h)) := by simp [namG, hi]
def resNam (g h : Int) (ps : List (Int × Int)) (xss : List (List Int)) : List (List UInt8) := if cTab g h ps xss = 0 then namG xss g h else []
theorem resNam_len (g h : Int) (ps : List (Int × Int)) (xss : List (List Int)) : (resNam g h ps xss).length ≤ 40 := by
  unfold resNam; split
  · rename_i hc
    have := okD_len (cTab_ok hc).1
    have := hdL_len xss g h
    rw [namG_len]; omega
  · simp
/-- the sums of all groups -/
def sumG (xss : List (List Int)) (ps : List (Int × Int)) (g h : Int) : List (List Int) := (List.range (hdL xss g h).length).map fun i => sumR xss ps ((hdL xss g h).getD i 0) (toI xss.length (hdL xss g h) i)
theorem sumG_len (xss : List (List Int)) (ps : List (Int × Int)) (g h : Int) : (sumG xss ps g h).length = (hdL xss g h).length := by simp [sumG]
theorem sumG_get {xss : List (List Int)} {ps : List (Int × Int)} {g h : Int} {i : Nat} (hi : i < (hdL xss g h).length) : (sumG xss ps g h)[i]? = some (sumR xss ps ((hdL xss g h).getD i 0) (toI xss.length (hdL xss g h) i)) := by simp [sumG, hi]
def resGrp (g h : Int) (ps : List (Int × Int)) (xss : List (List Int)) : List (List Int) := if cTab g h ps xss = 0 then sumG xss ps g h else []
theorem totD_le {xss : List (List Int)} (m : Nat) (h : ∀ i, i < xss.length → (xss.getD i []).length ≤ m) : ∀ i, i ≤ xss.length → tot xss i ≤ m * i
  | 0, _ => by simp [tot_zero]
  | i + 1, hi => by
    have h1 := totD_le m h i (by omega)
    have hp2 := h i (by omega)
    rw [tot_succ (by omega), Nat.mul_succ]; omega
theorem resGrp_bd (g h : Int) (ps : List (Int × Int)) (xss : List (List Int)) : (resGrp g h ps xss).length ≤ 40 ∧ totD (resGrp g h ps xss) ≤ 160 := by
  unfold resGrp; split
  · rename_i hc
    have h1 := okD_len (cTab_ok hc).1
    have h2 := hdL_len xss g h
    have h3 := (okSet_at (cTab_ok hc).2.1).1.2.2
    have h4 := totD_le (xss := sumG xss ps g h) 4 (fun i hi => by
      rw [sumG_len] at hi
      rw [List.getD_eq_getElem?_getD, sumG_get hi]
      simp only [Option.getD_some, sumR_len]; omega) _ (Nat.le_refl _)
    rw [sumG_len] at h4 ⊢
    unfold totD; rw [sumG_len]; omega
  · simp [totD, tot]
section
variable {w : World} {lo hi lp hp b o e : Nat} {v vp u : Value} {ps : List (Int × Int)} {xss : List (List Int)} {svs gs : List SV} {g h W : Int} {dt : Bool}
theorem iCyclesFor_c (hs : SL w lp hp vp ps := by repeat (first | assumption | exact Go.Gw.Own.sl (by assumption) | exact Go.Gw.Box.at (by assumption) | exact Go.Gw.SLL.el (by first | assumption | exact Go.Gw.OwnD.sll (by assumption)) _ (by omega) | exact Go.Gw.SLL.at (by first | assumption | exact Go.Gw.OwnD.sll (by assumption)) (by omega) | exact Go.Gw.OwnD.sll (by assumption) | (apply Go.Gw.SL.chg; case hx => assumption) | (apply Go.Gw.Own.chg; case hx => assumption) | (apply Go.Gw.Box.chg; case hx => assumption) | (apply Go.Gw.At.chg; case hx => assumption) | exact .inl (Nat.zero_le _) | exact .inr (Nat.zero_le _) | (show _ ∨ _; omega))) (hd : SLL w lo hi svs v xss := by repeat (first | assumption | exact Go.Gw.Own.sl (by assumption) | exact Go.Gw.Box.at (by assumption) | exact Go.Gw.SLL.el (by first | assumption | exact Go.Gw.OwnD.sll (by assumption)) _ (by omega) | exact Go.Gw.SLL.at (by first | assumption | exact Go.Gw.OwnD.sll (by assumption)) (by omega) | exact Go.Gw.OwnD.sll (by assumption) | (apply Go.Gw.SL.chg; case hx => assumption) | (apply Go.Gw.Own.chg; case hx => assumption) | (apply Go.Gw.Box.chg; case hx => assumption) | (apply Go.Gw.At.chg; case hx => assumption) | exact .inl (Nat.zero_le _) | exact .inr (Nat.zero_le _) | (show _ ∨ _; omega))) : Val Tryz.prog 11 [.agg #[.int .i64 g, .int .i64 h, vp, .bool dt], v] w (.tuple #[.int .i64 (resCyc g h ps xss), .int .i64 (cTab g h ps xss)]) := by
  refine ⟨fun w1 hx1 => ?_⟩
  replace hs := hs.ext hx1
  replace hd := hd.ext hx1
  have E : Since 0 0 w1 w1 := Since.refl 0 0 w1
  by_cases hc : cTab g h ps xss = 0
  case neg =>
    refine ret_enter Tryz.func11 rfl Tryz.ntmps11 rfl ?_
    focus
      have ht_hs := hs.top
      have ht_hd := hd.top
      refine c_seq ?_
      refine c_region ?_
      refine w_box rfl (k := fun b2 w2 hb2 hx2 hl2 hs2 => ?_)
      have hz_hx2 := hx2.size
      replace hs := hs.ext hx2
      replace hd := hd.ext hx2
      replace E := E.trans hx2
      refine w_pure (y_assign rfl) rfl ?_
      refine w_pure (y_assign rfl) rfl ?_
      refine w_nil ?_
      refine x_next ?_
      refine c_seq ?_
      refine c_seq ?_
      refine c_region ?_
      refine w_pure (y_load_boxs rfl) rfl ?_
      refine w_pure (y_move rfl) rfl ?_
      refine w_val rfl rfl rfl (setupCode_c) rfl (fun w9 hx9 hz9 => ?_)
      have hz_hx9 := hx9.size
      replace hb2 := hb2.ext hx9
      replace hs := hs.ext hx9
      replace hd := hd.ext hx9
      replace E := E.trans hx9
      refine w_pure (y_assign rfl) rfl ?_
      refine w_nil ?_
      refine x_next ?_
      refine c_seq ?_
      refine c_region ?_
      refine w_pure (y_move rfl) rfl ?_
      refine w_pure (y_ne rfl rfl) rfl ?_
      refine w_nil ?_
      refine x_next ?_
      (refine c_dec rfl (fun hc11 => ?_) (fun hc11 => ?_) <;> try (first | exact absurd rfl hc11 | contradiction | exact Bool.noConfusion (show false = true from hc11.symm.trans (by assumption)) | exact Bool.noConfusion (show true = false from hc11.symm.trans (by assumption)) | (exfalso; omega) | (exfalso; simp only [*, Bool.not_true, Bool.not_false, reduceCtorEq] at hc11; done)))
      refine c_seq ?_
      refine c_region ?_
      refine w_pure (y_move rfl) rfl ?_
      refine w_pure (y_assign rfl) rfl ?_
      refine w_pure (y_assign rfl) rfl ?_
      refine w_nil ?_
      refine x_next ?_
      refine c_ret ?_
      refine x_then_ret ?_
      rotate_left
    exact x_retv [_, _] rfl ⟨rfl, rfl, trivial⟩ ⟨by rw [resCyc, if_neg hc]; rfl, E.go⟩
  obtain ⟨hk, hk2, hk3, hk4⟩ := cTab_ok hc
  have hd40 := okD_len hk
  have hdl := hdL_len xss g h
  have hf : ∀ i, i < xss.length → 0 ≤ g ∧ g < h ∧ h ≤ (xss.getD i []).length := fun i hi => by
    have h1 := (okSet_at hk2).1.2.1
    have h2 := widD_at hk i hi
    omega
  refine ret_enter Tryz.func11 rfl Tryz.ntmps11 rfl ?_
  focus
    have ht_hs := hs.top
    have ht_hd := hd.top
    refine c_seq ?_
    refine c_region ?_
    refine w_box rfl (k := fun b2 w2 hb2 hx2 hl2 hs2 => ?_)
    have hz_hx2 := hx2.size
    replace hs := hs.ext hx2
    replace hd := hd.ext hx2
    replace E := E.trans hx2
    refine w_pure (y_assign rfl) rfl ?_
    refine w_pure (y_assign rfl) rfl ?_
    refine w_nil ?_
    refine x_next ?_
    refine c_seq ?_
    refine c_seq ?_
    refine c_region ?_
    refine w_pure (y_load_boxs rfl) rfl ?_
    refine w_pure (y_move rfl) rfl ?_
    refine w_val rfl rfl rfl (setupCode_c) rfl (fun w9 hx9 hz9 => ?_)
    have hz_hx9 := hx9.size
    replace hb2 := hb2.ext hx9
    replace hs := hs.ext hx9
    replace hd := hd.ext hx9
    replace E := E.trans hx9
    refine w_pure (y_assign rfl) rfl ?_
    refine w_nil ?_
    refine x_next ?_
    refine c_seq ?_
    refine c_region ?_
    refine w_pure (y_move rfl) rfl ?_
    refine w_pure (y_ne rfl rfl) rfl ?_
    refine w_nil ?_
    refine x_next ?_
    (refine c_dec rfl (fun hc11 => ?_) (fun hc11 => ?_) <;> try (first | exact absurd rfl hc11 | contradiction | exact Bool.noConfusion (show false = true from hc11.symm.trans (by assumption)) | exact Bool.noConfusion (show true = false from hc11.symm.trans (by assumption)) | (exfalso; omega) | (exfalso; simp only [*, Bool.not_true, Bool.not_false, reduceCtorEq] at hc11; done)))
    refine c_skip ?_
    refine x_next ?_
    refine c_seq ?_
    refine c_region_held mixed (fun wr4 hxr4 hzr4 => ?_)
    have hz_hxr4 := hxr4.size
    replace hb2 := hb2.ext hxr4
    replace hs := hs.ext hxr4
    replace hd := hd.ext hxr4
    replace E := E.trans hxr4
    refine h_pure rfl (y_move rfl) rfl ?_
    refine h_turn ?_
    refine h_pure rfl (y_move rfl) rfl ?_
    refine h_pure rfl (y_field rfl) rfl ?_
    refine h_pure rfl (y_load_boxp rfl) rfl ?_
    refine h_turn ?_
    refine h_turn ?_
    refine h_turn ?_
    refine h_turn ?_
    refine h_turn ?_
    refine h_turn ?_
    refine h_one rfl ?_
    refine w_val rfl rfl rfl (sizeCard_c) rfl (fun w14 hx14 hz14 => ?_)
    have hz_hx14 := hx14.size
    replace hb2 := hb2.ext hx14
    replace hs := hs.ext hx14
    replace hd := hd.ext hx14
    replace E := E.trans hx14
    refine w_nil ?_
    refine x_held ?_
    refine h_one rfl ?_
    (refine w_call rfl rfl rfl (groupsOf_c _ _) rfl ?_; rintro v18 w18 ⟨hp1_18, hx18⟩)
    have hl_hp1_18 := hp1_18.lt
    have hz_hx18 := hx18.size
    replace hb2 := hb2.ext hx18
    replace hs := hs.ext hx18
    replace hd := hd.ext hx18
    replace E := E.trans hx18
    refine w_nil ?_
    refine x_held ?_
    refine h_one rfl ?_
    refine w_val rfl rfl rfl (size_c) rfl (fun w19 hx19 hz19 => ?_)
    have hz_hx19 := hx19.size
    replace hp1_18 := hp1_18.ext hx19
    replace hb2 := hb2.ext hx19
    replace hs := hs.ext hx19
    replace hd := hd.ext hx19
    replace E := E.trans hx19
    refine w_nil ?_
    refine x_held ?_
    refine h_pure rfl (y_add rfl rfl) rfl ?_
    refine h_pure rfl (y_add rfl rfl) rfl ?_
    refine h_pure rfl (y_assign rfl) rfl ?_
    refine h_pure rfl (y_assign rfl) rfl ?_
    refine h_nil ?_
    refine x_next ?_
    refine c_ret ?_
    rotate_left
  exact x_retv [_, _] rfl ⟨rfl, rfl, trivial⟩ ⟨by rw [resCyc, if_pos hc, hc]; rfl, E.go⟩
theorem sGrandSums_c (hs : SL w lp hp vp ps := by repeat (first | assumption | exact Go.Gw.Own.sl (by assumption) | exact Go.Gw.Box.at (by assumption) | exact Go.Gw.SLL.el (by first | assumption | exact Go.Gw.OwnD.sll (by assumption)) _ (by omega) | exact Go.Gw.SLL.at (by first | assumption | exact Go.Gw.OwnD.sll (by assumption)) (by omega) | exact Go.Gw.OwnD.sll (by assumption) | (apply Go.Gw.SL.chg; case hx => assumption) | (apply Go.Gw.Own.chg; case hx => assumption) | (apply Go.Gw.Box.chg; case hx => assumption) | (apply Go.Gw.At.chg; case hx => assumption) | exact .inl (Nat.zero_le _) | exact .inr (Nat.zero_le _) | (show _ ∨ _; omega))) (hd : SLL w lo hi svs v xss := by repeat (first | assumption | exact Go.Gw.Own.sl (by assumption) | exact Go.Gw.Box.at (by assumption) | exact Go.Gw.SLL.el (by first | assumption | exact Go.Gw.OwnD.sll (by assumption)) _ (by omega) | exact Go.Gw.SLL.at (by first | assumption | exact Go.Gw.OwnD.sll (by assumption)) (by omega) | exact Go.Gw.OwnD.sll (by assumption) | (apply Go.Gw.SL.chg; case hx => assumption) | (apply Go.Gw.Own.chg; case hx => assumption) | (apply Go.Gw.Box.chg; case hx => assumption) | (apply Go.Gw.At.chg; case hx => assumption) | exact .inl (Nat.zero_le _) | exact .inr (Nat.zero_le _) | (show _ ∨ _; omega))) : Ret Tryz.prog 12 [.agg #[.int .i64 g, .int .i64 h, vp, .bool dt], v] w fun u w' => ∃ d, u = .tuple #[d, .int .i64 (cTab g h ps xss)] ∧ Own w' 2 w.heap.size d (resGra g h ps xss) ∧ Ext w w' := by
  have E : Since 0 0 w w := Since.refl 0 0 w
  by_cases hc : cTab g h ps xss = 0
  case neg =>
    refine ret_enter Tryz.func12 rfl Tryz.ntmps12 rfl ?_
    focus
      have ht_hs := hs.top
      have ht_hd := hd.top
      refine c_seq ?_
      refine c_region ?_
      refine w_box rfl (k := fun b2 w2 hb2 hx2 hl2 hs2 => ?_)
      have hz_hx2 := hx2.size
      replace hs := hs.ext hx2
      replace hd := hd.ext hx2
      replace E := E.trans hx2
      refine w_pure (y_assign rfl) rfl ?_
      refine w_pure (y_assign rfl) rfl ?_
      refine w_nil ?_
      refine x_next ?_
      refine c_seq ?_
      refine c_region ?_
      refine w_pure (y_move rfl) rfl ?_
      (refine w_call rfl rfl rfl (l13Read_bad (hp := (by repeat (first | assumption | exact Go.Gw.Own.sl (by assumption) | exact Go.Gw.Box.at (by assumption) | exact Go.Gw.SLL.el (by first | assumption | exact Go.Gw.OwnD.sll (by assumption)) _ (by omega) | exact Go.Gw.SLL.at (by first | assumption | exact Go.Gw.OwnD.sll (by assumption)) (by omega) | exact Go.Gw.OwnD.sll (by assumption) | (apply Go.Gw.SL.chg; case hx => assumption) | (apply Go.Gw.Own.chg; case hx => assumption) | (apply Go.Gw.Box.chg; case hx => assumption) | (apply Go.Gw.At.chg; case hx => assumption) | exact .inl (Nat.zero_le _) | exact .inr (Nat.zero_le _) | (show _ ∨ _; omega)))) (hs := (by repeat (first | assumption | exact Go.Gw.Own.sl (by assumption) | exact Go.Gw.Box.at (by assumption) | exact Go.Gw.SLL.el (by first | assumption | exact Go.Gw.OwnD.sll (by assumption)) _ (by omega) | exact Go.Gw.SLL.at (by first | assumption | exact Go.Gw.OwnD.sll (by assumption)) (by omega) | exact Go.Gw.OwnD.sll (by assumption) | (apply Go.Gw.SL.chg; case hx => assumption) | (apply Go.Gw.Own.chg; case hx => assumption) | (apply Go.Gw.Box.chg; case hx => assumption) | (apply Go.Gw.At.chg; case hx => assumption) | exact .inl (Nat.zero_le _) | exact .inr (Nat.zero_le _) | (show _ ∨ _; omega)))) (hd := by assumption) (hc := hc)) rfl ?_; rintro _ w10 ⟨c10, ⟨rfl, hx10⟩⟩)
      have hz_hx10 := hx10.size
      replace hb2 := hb2.ext hx10
      replace hs := hs.ext hx10
      replace hd := hd.ext hx10
      replace E := E.trans hx10
      refine w_pure (y_move rfl) rfl ?_
      refine w_pure (y_extract rfl rfl) rfl ?_
      refine w_pure (y_extract rfl rfl) rfl ?_
      refine w_pure (y_assign rfl) rfl ?_
      refine w_pure (y_assign rfl) rfl ?_
      refine w_nil ?_
      refine x_next ?_
      refine c_seq ?_
      refine c_seq ?_
      refine c_region ?_
      refine w_pure (y_move rfl) rfl ?_
      refine w_pure (y_ne rfl rfl) rfl ?_
      refine w_nil ?_
      refine x_next ?_
      (refine c_dec rfl (fun hc14 => ?_) (fun hc14 => ?_) <;> try (first | exact absurd rfl hc14 | contradiction | exact Bool.noConfusion (show false = true from hc14.symm.trans (by assumption)) | exact Bool.noConfusion (show true = false from hc14.symm.trans (by assumption)) | (exfalso; omega) | (exfalso; simp only [*, Bool.not_true, Bool.not_false, reduceCtorEq] at hc14; done)))
      refine c_seq ?_
      refine c_region ?_
      refine w_pure (y_move rfl) rfl ?_
      refine w_pure (y_assign rfl) rfl ?_
      refine w_pure (y_assign rfl) rfl ?_
      refine w_nil ?_
      refine x_next ?_
      refine c_ret ?_
      refine x_then_ret ?_
      rotate_left
    exact x_retv [_, _] rfl ⟨rfl, rfl, trivial⟩ ⟨_, rfl, by rw [resGra, if_neg hc]; exact Own.nil _ _ _, E.go⟩
  obtain ⟨hk, hk2, hk3, hk4⟩ := cTab_ok hc
  have hT := TabOK.of hk hk2
  have hkl := keysL_len xss g h
  refine ret_enter Tryz.func12 rfl Tryz.ntmps12 rfl ?_
  focus
    have ht_hs := hs.top
    have ht_hd := hd.top
    refine c_seq ?_
    refine c_region ?_
    refine w_box rfl (k := fun b2 w2 hb2 hx2 hl2 hs2 => ?_)
    have hz_hx2 := hx2.size
    replace hs := hs.ext hx2
    replace hd := hd.ext hx2
    replace E := E.trans hx2
    refine w_pure (y_assign rfl) rfl ?_
    refine w_pure (y_assign rfl) rfl ?_
    refine w_nil ?_
    refine x_next ?_
    refine c_seq ?_
    refine c_region ?_
    refine w_pure (y_move rfl) rfl ?_
    (refine w_call rfl rfl rfl (l13Read_ok (hp := (by repeat (first | assumption | exact Go.Gw.Own.sl (by assumption) | exact Go.Gw.Box.at (by assumption) | exact Go.Gw.SLL.el (by first | assumption | exact Go.Gw.OwnD.sll (by assumption)) _ (by omega) | exact Go.Gw.SLL.at (by first | assumption | exact Go.Gw.OwnD.sll (by assumption)) (by omega) | exact Go.Gw.OwnD.sll (by assumption) | (apply Go.Gw.SL.chg; case hx => assumption) | (apply Go.Gw.Own.chg; case hx => assumption) | (apply Go.Gw.Box.chg; case hx => assumption) | (apply Go.Gw.At.chg; case hx => assumption) | exact .inl (Nat.zero_le _) | exact .inr (Nat.zero_le _) | (show _ ∨ _; omega)))) (hs := (by repeat (first | assumption | exact Go.Gw.Own.sl (by assumption) | exact Go.Gw.Box.at (by assumption) | exact Go.Gw.SLL.el (by first | assumption | exact Go.Gw.OwnD.sll (by assumption)) _ (by omega) | exact Go.Gw.SLL.at (by first | assumption | exact Go.Gw.OwnD.sll (by assumption)) (by omega) | exact Go.Gw.OwnD.sll (by assumption) | (apply Go.Gw.SL.chg; case hx => assumption) | (apply Go.Gw.Own.chg; case hx => assumption) | (apply Go.Gw.Box.chg; case hx => assumption) | (apply Go.Gw.At.chg; case hx => assumption) | exact .inl (Nat.zero_le _) | exact .inr (Nat.zero_le _) | (show _ ∨ _; omega)))) (hd := by assumption) (hc := hc)) rfl ?_; rintro _ w10 ⟨c10, ⟨kv10, ⟨nv10, ⟨hv10, ⟨svn10, ⟨rfl, ⟨hp1_10, ⟨hp2_10, ⟨hp3_10, ⟨hp4_10, ⟨hp5_10, ⟨hp6_10, hx10⟩⟩⟩⟩⟩⟩⟩⟩⟩⟩⟩⟩)
    have hz_hx10 := hx10.size
    replace hb2 := hb2.ext hx10
    replace hs := hs.ext hx10
    replace hd := hd.ext hx10
    replace E := E.trans hx10
    refine w_pure (y_move rfl) rfl ?_
    refine w_pure (y_extract rfl rfl) rfl ?_
    refine w_pure (y_extract rfl rfl) rfl ?_
    refine w_pure (y_assign rfl) rfl ?_
    refine w_pure (y_assign rfl) rfl ?_
    refine w_nil ?_
    refine x_next ?_
    refine c_seq ?_
    refine c_seq ?_
    refine c_region ?_
    refine w_pure (y_move rfl) rfl ?_
    refine w_pure (y_ne rfl rfl) rfl ?_
    refine w_nil ?_
    refine x_next ?_
    refine c_false rfl ?_
    refine c_skip ?_
    refine x_next ?_
    refine c_seq ?_
    refine c_region_held mixed (fun wr4 hxr4 hzr4 => ?_)
    have hz_hxr4 := hxr4.size
    replace hp1_10 := hp1_10.ext hxr4
    replace hp3_10 := hp3_10.ext hxr4
    replace hp4_10 := hp4_10.ext hxr4
    replace hp5_10 := hp5_10.ext hxr4
    replace hb2 := hb2.ext hxr4
    replace hs := hs.ext hxr4
    replace hd := hd.ext hxr4
    replace E := E.trans hxr4
    refine h_pure rfl (y_move rfl) rfl ?_
    refine h_pure rfl (y_move rfl) rfl ?_
    refine h_pure rfl (y_nil rfl) rfl ?_
    refine h_pure rfl (y_field rfl) rfl ?_
    refine h_pure rfl (y_load_box rfl) rfl ?_
    refine h_pure rfl (y_len rfl) rfl ?_
    refine h_pure rfl (y_field rfl) rfl ?_
    refine h_pure rfl (y_load_box rfl) rfl ?_
    refine h_pure rfl (y_len rfl) rfl ?_
    refine h_one rfl ?_
    (refine w_call rfl rfl rfl (l13Sums_c _ _) rfl ?_; rintro v25 w25 ⟨hp1_25, hx25⟩)
    have hl_hp1_25 := hp1_25.lt
    have hz_hx25 := hx25.size
    replace hp1_10 := hp1_10.ext hx25
    replace hp3_10 := hp3_10.ext hx25
    replace hp4_10 := hp4_10.ext hx25
    replace hp5_10 := hp5_10.ext hx25
    replace hb2 := hb2.ext hx25
    replace hs := hs.ext hx25
    replace hd := hd.ext hx25
    replace E := E.trans hx25
    refine w_nil ?_
    refine x_held ?_
    refine h_pure rfl (y_assign rfl) rfl ?_
    refine h_pure rfl (y_assign rfl) rfl ?_
    refine h_nil ?_
    refine x_next ?_
    refine c_ret ?_
    rotate_left
  rw [hkl, sumL_R] at hp1_25
  exact x_retv [_, _] rfl ⟨rfl, rfl, trivial⟩ ⟨_, by rw [hc]; rfl, by rw [resGra, if_pos hc]; exact Own.base (by assumption) (by omega), E.go⟩
theorem sGroupNames_c (hs : SL w lp hp vp ps := by repeat (first | assumption | exact Go.Gw.Own.sl (by assumption) | exact Go.Gw.Box.at (by assumption) | exact Go.Gw.SLL.el (by first | assumption | exact Go.Gw.OwnD.sll (by assumption)) _ (by omega) | exact Go.Gw.SLL.at (by first | assumption | exact Go.Gw.OwnD.sll (by assumption)) (by omega) | exact Go.Gw.OwnD.sll (by assumption) | (apply Go.Gw.SL.chg; case hx => assumption) | (apply Go.Gw.Own.chg; case hx => assumption) | (apply Go.Gw.Box.chg; case hx => assumption) | (apply Go.Gw.At.chg; case hx => assumption) | exact .inl (Nat.zero_le _) | exact .inr (Nat.zero_le _) | (show _ ∨ _; omega))) (hd : SLL w lo hi svs v xss := by repeat (first | assumption | exact Go.Gw.Own.sl (by assumption) | exact Go.Gw.Box.at (by assumption) | exact Go.Gw.SLL.el (by first | assumption | exact Go.Gw.OwnD.sll (by assumption)) _ (by omega) | exact Go.Gw.SLL.at (by first | assumption | exact Go.Gw.OwnD.sll (by assumption)) (by omega) | exact Go.Gw.OwnD.sll (by assumption) | (apply Go.Gw.SL.chg; case hx => assumption) | (apply Go.Gw.Own.chg; case hx => assumption) | (apply Go.Gw.Box.chg; case hx => assumption) | (apply Go.Gw.At.chg; case hx => assumption) | exact .inl (Nat.zero_le _) | exact .inr (Nat.zero_le _) | (show _ ∨ _; omega))) : Ret Tryz.prog 10 [.agg #[.int .i64 g, .int .i64 h, vp, .bool dt], v] w fun u w' => ∃ d, u = .tuple #[d, .int .i64 (cTab g h ps xss)] ∧ Own w' 9 w.heap.size d (resNam g h ps xss) ∧ Ext w w' := by
  have E : Since 0 0 w w := Since.refl 0 0 w
  by_cases hc : cTab g h ps xss = 0
  case neg =>
    refine ret_enter Tryz.func10 rfl Tryz.ntmps10 rfl ?_
    focus
      have ht_hs := hs.top
      have ht_hd := hd.top
      refine c_seq ?_
      refine c_region ?_
      refine w_box rfl (k := fun b2 w2 hb2 hx2 hl2 hs2 => ?_)
      have hz_hx2 := hx2.size
      replace hs := hs.ext hx2
      replace hd := hd.ext hx2
      replace E := E.trans hx2
      refine w_pure (y_assign rfl) rfl ?_
      refine w_pure (y_assign rfl) rfl ?_
      refine w_nil ?_
      refine x_next ?_
      refine c_seq ?_
      refine c_region ?_
      refine w_pure (y_move rfl) rfl ?_
      (refine w_call rfl rfl rfl (l13Read_bad (hp := (by repeat (first | assumption | exact Go.Gw.Own.sl (by assumption) | exact Go.Gw.Box.at (by assumption) | exact Go.Gw.SLL.el (by first | assumption | exact Go.Gw.OwnD.sll (by assumption)) _ (by omega) | exact Go.Gw.SLL.at (by first | assumption | exact Go.Gw.OwnD.sll (by assumption)) (by omega) | exact Go.Gw.OwnD.sll (by assumption) | (apply Go.Gw.SL.chg; case hx => assumption) | (apply Go.Gw.Own.chg; case hx => assumption) | (apply Go.Gw.Box.chg; case hx => assumption) | (apply Go.Gw.At.chg; case hx => assumption) | exact .inl (Nat.zero_le _) | exact .inr (Nat.zero_le _) | (show _ ∨ _; omega)))) (hs := (by repeat (first | assumption | exact Go.Gw.Own.sl (by assumption) | exact Go.Gw.Box.at (by assumption) | exact Go.Gw.SLL.el (by first | assumption | exact Go.Gw.OwnD.sll (by assumption)) _ (by omega) | exact Go.Gw.SLL.at (by first | assumption | exact Go.Gw.OwnD.sll (by assumption)) (by omega) | exact Go.Gw.OwnD.sll (by assumption) | (apply Go.Gw.SL.chg; case hx => assumption) | (apply Go.Gw.Own.chg; case hx => assumption) | (apply Go.Gw.Box.chg; case hx => assumption) | (apply Go.Gw.At.chg; case hx => assumption) | exact .inl (Nat.zero_le _) | exact .inr (Nat.zero_le _) | (show _ ∨ _; omega)))) (hd := by assumption) (hc := hc)) rfl ?_; rintro _ w12 ⟨c12, ⟨rfl, hx12⟩⟩)
      have hz_hx12 := hx12.size
      replace hb2 := hb2.ext hx12
      replace hs := hs.ext hx12
      replace hd := hd.ext hx12
      replace E := E.trans hx12
      refine w_pure (y_move rfl) rfl ?_
      refine w_pure (y_extract rfl rfl) rfl ?_
      refine w_pure (y_extract rfl rfl) rfl ?_
      refine w_pure (y_assign rfl) rfl ?_
      refine w_pure (y_assign rfl) rfl ?_
      refine w_nil ?_
      refine x_next ?_
      refine c_seq ?_
      refine c_seq ?_
      refine c_region ?_
      refine w_pure (y_move rfl) rfl ?_
      refine w_pure (y_ne rfl rfl) rfl ?_
      refine w_nil ?_
      refine x_next ?_
      (refine c_dec rfl (fun hc16 => ?_) (fun hc16 => ?_) <;> try (first | exact absurd rfl hc16 | contradiction | exact Bool.noConfusion (show false = true from hc16.symm.trans (by assumption)) | exact Bool.noConfusion (show true = false from hc16.symm.trans (by assumption)) | (exfalso; omega) | (exfalso; simp only [*, Bool.not_true, Bool.not_false, reduceCtorEq] at hc16; done)))
      refine c_seq ?_
      refine c_region ?_
      refine w_pure (y_move rfl) rfl ?_
      refine w_pure (y_assign rfl) rfl ?_
      refine w_pure (y_assign rfl) rfl ?_
      refine w_nil ?_
      refine x_next ?_
      refine c_ret ?_
      refine x_then_ret ?_
      rotate_left
    exact x_retv [_, _] rfl ⟨rfl, rfl, trivial⟩ ⟨_, rfl, by rw [resNam, if_neg hc]; exact Own.nil _ _ _, E.go⟩
  obtain ⟨hk, hk2, hk3, hk4⟩ := cTab_ok hc
  have hT := TabOK.of hk hk2
  have hd40 := okD_len hk
  have hdl := hdL_len xss g h
  have hkl := keysL_len xss g h
  refine ret_enter Tryz.func10 rfl Tryz.ntmps10 rfl ?_
  focus
    have ht_hs := hs.top
    have ht_hd := hd.top
    refine c_seq ?_
    refine c_region ?_
    refine w_box rfl (k := fun b2 w2 hb2 hx2 hl2 hs2 => ?_)
    have hz_hx2 := hx2.size
    replace hs := hs.ext hx2
    replace hd := hd.ext hx2
    replace E := E.trans hx2
    refine w_pure (y_assign rfl) rfl ?_
    refine w_pure (y_assign rfl) rfl ?_
    refine w_nil ?_
    refine x_next ?_
    refine c_seq ?_
    refine c_region ?_
    refine w_pure (y_move rfl) rfl ?_
    (refine w_call rfl rfl rfl (l13Read_ok (hp := (by repeat (first | assumption | exact Go.Gw.Own.sl (by assumption) | exact Go.Gw.Box.at (by assumption) | exact Go.Gw.SLL.el (by first | assumption | exact Go.Gw.OwnD.sll (by assumption)) _ (by omega) | exact Go.Gw.SLL.at (by first | assumption | exact Go.Gw.OwnD.sll (by assumption)) (by omega) | exact Go.Gw.OwnD.sll (by assumption) | (apply Go.Gw.SL.chg; case hx => assumption) | (apply Go.Gw.Own.chg; case hx => assumption) | (apply Go.Gw.Box.chg; case hx => assumption) | (apply Go.Gw.At.chg; case hx => assumption) | exact .inl (Nat.zero_le _) | exact .inr (Nat.zero_le _) | (show _ ∨ _; omega)))) (hs := (by repeat (first | assumption | exact Go.Gw.Own.sl (by assumption) | exact Go.Gw.Box.at (by assumption) | exact Go.Gw.SLL.el (by first | assumption | exact Go.Gw.OwnD.sll (by assumption)) _ (by omega) | exact Go.Gw.SLL.at (by first | assumption | exact Go.Gw.OwnD.sll (by assumption)) (by omega) | exact Go.Gw.OwnD.sll (by assumption) | (apply Go.Gw.SL.chg; case hx => assumption) | (apply Go.Gw.Own.chg; case hx => assumption) | (apply Go.Gw.Box.chg; case hx => assumption) | (apply Go.Gw.At.chg; case hx => assumption) | exact .inl (Nat.zero_le _) | exact .inr (Nat.zero_le _) | (show _ ∨ _; omega)))) (hd := by assumption) (hc := hc)) rfl ?_; rintro _ w12 ⟨c12, ⟨kv12, ⟨nv12, ⟨hv12, ⟨svn12, ⟨rfl, ⟨hp1_12, ⟨hp2_12, ⟨hp3_12, ⟨hp4_12, ⟨hp5_12, ⟨hp6_12, hx12⟩⟩⟩⟩⟩⟩⟩⟩⟩⟩⟩⟩)
    have hz_hx12 := hx12.size
    replace hb2 := hb2.ext hx12
    replace hs := hs.ext hx12
    replace hd := hd.ext hx12
    replace E := E.trans hx12
    refine w_pure (y_move rfl) rfl ?_
    refine w_pure (y_extract rfl rfl) rfl ?_
    refine w_pure (y_extract rfl rfl) rfl ?_
    refine w_pure (y_assign rfl) rfl ?_
    refine w_pure (y_assign rfl) rfl ?_
    refine w_nil ?_
    refine x_next ?_
    refine c_seq ?_
    refine c_seq ?_
    refine c_region ?_
    refine w_pure (y_move rfl) rfl ?_
    refine w_pure (y_ne rfl rfl) rfl ?_
    refine w_nil ?_
    refine x_next ?_
    refine c_false rfl ?_
    refine c_skip ?_
    refine x_next ?_
    refine c_seq ?_
    refine c_region ?_
    refine w_lit_s0 rfl (k := fun v18 w18 ho18 hx18 hl18 hh18 hs18 => ?_)
    have hl_ho18 := ho18.lt
    have hz_hx18 := hx18.size
    replace hp1_12 := hp1_12.ext hx18
    replace hp3_12 := hp3_12.ext hx18
    replace hp4_12 := hp4_12.ext hx18
    replace hp5_12 := hp5_12.ext hx18
    replace hb2 := hb2.ext hx18
    replace hs := hs.ext hx18
    replace hd := hd.ext hx18
    replace E := E.trans hx18
    refine w_pure (y_assign rfl) rfl ?_
    refine w_nil ?_
    refine x_next ?_
    refine c_seq ?_
    refine c_seq ?_
    refine c_region ?_
    refine w_pure (y_assign rfl) rfl ?_
    refine w_nil ?_
    refine x_next ?_
    refine c_block ?_
    rotate_left
  have hnl := namG_len xss g h
  refine c_loopC (bL v18) (bH v18) (ι := Int × Value) (fun x => [(6, ptr c12 0), (8, x.2), (9, .int .i64 x.1)])
    (fun x w' => Box w' c12 [kv12, nv12, hv12] ∧ SL w' w2.heap.size w12.heap.size kv12 (keysL xss g h) ∧ SL w' w2.heap.size w12.heap.size hv12 (hdL xss g h) ∧ Own w' 9 w.heap.size x.2 ((namG xss g h).take x.1.toNat) ∧ ((bL x.2 = bL v18 ∧ bH x.2 = bH v18) ∨ w18.heap.size ≤ bL x.2) ∧ 0 ≤ x.1 ∧ x.1 ≤ (hdL xss g h).length) (fun x => ((hdL xss g h).length - x.1).toNat) (0, v18)
    (by repeat (first | exact trivial | refine ⟨rfl, ?_⟩)) ⟨by assumption, by assumption, by assumption, by show Own _ _ _ v18 (List.take 0 _); rw [List.take_zero]; exact Own.base (by assumption) (by omega), .inl ⟨rfl, rfl⟩, by dsimp only; omega, by dsimp only; omega⟩ ?_
  clear ho18 hp1_12 hp3_12 hp4_12 hp5_12
  rintro ⟨i, u⟩ wL hxL EL ⟨hb2, g1, g2, g3, g4, hi0, hi1⟩
  dsimp only at *
  have e1 : (i + 1).toNat = i.toNat + 1 := by omega
  have htl : i ≤ (hdL xss g h).length → ((namG xss g h).take i.toNat).length = i.toNat := fun _ => by rw [List.length_take]; omega
  by_cases hli : i < (hdL xss g h).length
  case neg =>
    focus
      have ht_g1 := g1.top
      have ht_g2 := g2.top
      have hl_g3 := g3.lt
      have hz_hxL := hxL.size
      replace hs := hs.chg hxL (by omega)
      replace hd := hd.chg hxL (by omega)
      replace E := E.next hxL (by omega)
      refine c_seq ?_
      refine c_seq ?_
      refine c_region ?_
      refine w_pure (y_move rfl) rfl ?_
      refine w_pure (y_move rfl) rfl ?_
      refine w_pure (y_nil rfl) rfl ?_
      refine w_pure (y_field rfl) rfl ?_
      refine w_pure (y_load_box rfl) rfl ?_
      refine w_pure (y_len rfl) rfl ?_
      refine w_pure (y_lt rfl rfl) rfl ?_
      refine w_nil ?_
      refine x_next ?_
      (refine c_dec rfl (fun hc25 => ?_) (fun hc25 => ?_) <;> try (first | exact absurd rfl hc25 | contradiction | exact Bool.noConfusion (show false = true from hc25.symm.trans (by assumption)) | exact Bool.noConfusion (show true = false from hc25.symm.trans (by assumption)) | (exfalso; omega) | (exfalso; simp only [*, Bool.not_true, Bool.not_false, reduceCtorEq] at hc25; done)))
      refine c_exit ?_
      refine x_then_exit ?_
      refine x_then_exit ?_
      refine x_block_hit ?_
      refine x_next ?_
      refine c_seq ?_
      refine c_region ?_
      refine w_pure (y_move rfl) rfl ?_
      refine w_pure (y_assign rfl) rfl ?_
      refine w_pure (y_assign rfl) rfl ?_
      refine w_nil ?_
      refine x_next ?_
      refine c_ret ?_
      rotate_left
    rw [List.take_of_length_le (by omega)] at g3
    exact x_retv [_, _] rfl ⟨rfl, rfl, trivial⟩ ⟨_, by rw [hc]; rfl, by rw [resNam, if_pos hc]; exact g3, E.go⟩
  have hb := hdL_bd (xss := xss) (f := g) (t := h) (i := i.toNat) (by omega)
  focus
    have ht_g1 := g1.top
    have ht_g2 := g2.top
    have hl_g3 := g3.lt
    have hz_hxL := hxL.size
    replace hs := hs.chg hxL (by omega)
    replace hd := hd.chg hxL (by omega)
    replace E := E.next hxL (by omega)
    refine c_seq ?_
    refine c_seq ?_
    refine c_region ?_
    refine w_pure (y_move rfl) rfl ?_
    refine w_pure (y_move rfl) rfl ?_
    refine w_pure (y_nil rfl) rfl ?_
    refine w_pure (y_field rfl) rfl ?_
    refine w_pure (y_load_box rfl) rfl ?_
    refine w_pure (y_len rfl) rfl ?_
    refine w_pure (y_lt rfl rfl) rfl ?_
    refine w_nil ?_
    refine x_next ?_
    (refine c_dec rfl (fun hc25 => ?_) (fun hc25 => ?_) <;> try (first | exact absurd rfl hc25 | contradiction | exact Bool.noConfusion (show false = true from hc25.symm.trans (by assumption)) | exact Bool.noConfusion (show true = false from hc25.symm.trans (by assumption)) | (exfalso; omega) | (exfalso; simp only [*, Bool.not_true, Bool.not_false, reduceCtorEq] at hc25; done)))
    refine c_skip ?_
    refine x_next ?_
    refine c_seq ?_
    refine c_block ?_
    refine c_region_held mixed (fun wr8 hxr8 hzr8 => ?_)
    have hz_hxr8 := hxr8.size
    replace EL := EL.next hxr8 (by omega)
    replace hb2 := hb2.ext hxr8
    replace g1 := g1.ext hxr8
    replace g2 := g2.ext hxr8
    replace g3 := g3.ext hxr8
    replace hs := hs.ext hxr8
    replace hd := hd.ext hxr8
    replace E := E.trans hxr8
    refine h_pure rfl (y_move rfl) rfl ?_
    refine h_pure rfl (y_move rfl) rfl ?_
    refine h_pure rfl (y_nil rfl) rfl ?_
    refine h_pure rfl (y_field rfl) rfl ?_
    refine h_pure rfl (y_load_box rfl) rfl ?_
    refine h_pure rfl (y_move rfl) rfl ?_
    refine h_pure rfl (y_nil rfl) rfl ?_
    refine h_pure rfl (y_field rfl) rfl ?_
    refine h_pure rfl (y_load_box rfl) rfl ?_
    refine h_pure rfl (y_move rfl) rfl ?_
    refine h_pure rfl (y_index rfl rfl) rfl ?_
    refine h_pure rfl (y_load_int rfl) rfl ?_
    refine h_pure rfl (y_index rfl rfl) rfl ?_
    refine h_pure rfl (y_load_str rfl) rfl ?_
    refine h_one rfl ?_
    refine w_lit (α := (List UInt8)) rfl rfl rfl rfl rfl rfl rfl rfl (fun v42 w42 ho42 hx42 hl42 hh42 hs42 => ?_)
    have hl_ho42 := ho42.lt
    have hz_hx42 := hx42.size
    replace EL := EL.next hx42 (by omega)
    replace hb2 := hb2.ext hx42
    replace g1 := g1.ext hx42
    replace g2 := g2.ext hx42
    replace g3 := g3.ext hx42
    replace hs := hs.ext hx42
    replace hd := hd.ext hx42
    replace E := E.trans hx42
    refine w_nil ?_
    refine x_held ?_
    refine h_one rfl ?_
    refine w_append rfl rfl (k := fun v43 w43 ho43 hx43 hr43 => ?_)
    have hl_ho43 := ho43.lt
    have hz_hx43 := hx43.size
    replace ho42 := ho42.chg hx43 (by omega)
    replace EL := EL.next hx43 (by omega)
    replace hb2 := hb2.chg hx43 (by omega)
    replace g1 := g1.chg hx43 (by omega)
    replace g2 := g2.chg hx43 (by omega)
    replace hs := hs.chg hx43 (by omega)
    replace hd := hd.chg hx43 (by omega)
    replace E := E.next hx43 (by omega)
    refine w_nil ?_
    refine x_heldk ?_
    refine h_pure rfl (y_assign rfl) rfl ?_
    refine h_nil ?_
    refine x_block_norm ?_
    refine x_next ?_
    refine c_region ?_
    refine w_pure (y_move rfl) rfl ?_
    refine w_pure (y_add rfl rfl) rfl ?_
    refine w_pure (y_assign rfl) rfl ?_
    refine w_nil ?_
    rotate_left
  rw [keysL_getD (by omega)] at ho43
  refine x_again (i + 1, v43) (by repeat (first | exact trivial | refine ⟨rfl, ?_⟩)) ⟨EL.go, by assumption, by assumption, by assumption, ?_, by dsimp only; omega, by dsimp only; omega, by dsimp only; omega⟩ (by dsimp only; omega)
  dsimp only
  rw [e1, List.take_add_one, namG_get (by omega)]
  exact Own.base (by assumption) (by omega)
end
end Go.Proofs.YtihnhelkfiaimaaGreatDoor

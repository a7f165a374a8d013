/- The walk of the law on printed lines: how many there are, and the last one. -/
import Derived.Test.YtihnhelkfiaimaaGreatDoorTabE
import Derived.Test.YtihnhelkfiaimaaGreatDoorSmpB
import Derived.Test.YtihnhelkfiaimaaGreatDoorOpB
namespace Go.Proofs.YtihnhelkfiaimaaGreatDoor
open Go Go.Gw
set_option linter.unusedVariables false
set_option linter.unusedSimpArgs false
/-- where group m begins; behind the last group the deck ends -/
def bgn (xss : List (List Int)) (g h : Int) (m : Nat) : Int := if m < (hdL xss g h).length then (hdL xss g h).getD m 0 else xss.length
theorem bgn_zero (xss : List (List Int)) (g h : Int) : bgn xss g h 0 = 0 := by
  rcases Nat.eq_zero_or_pos xss.length with h0 | h0
  · have := hdL_len xss g h
    rw [bgn, if_neg (by omega), h0]; rfl
  · have h1 := hdG_zero (p := isHd xss g h) (by simp [isHd]) xss.length h0
    have h2 : 0 < (hdL xss g h).length := h1.1
    rw [bgn, if_pos h2]; exact h1.2
theorem bgn_end (xss : List (List Int)) (g h : Int) : bgn xss g h (hdL xss g h).length = xss.length := by rw [bgn, if_neg (by omega)]
theorem detN_all (xss : List (List Int)) (ps : List (Int × Int)) (g h : Int) (a : Nat) : ∀ m, (detN xss ps g h true a m).length = m
  | 0 => rfl
  | m + 1 => by rw [detN, List.length_append, detN_all xss ps g h a m, if_pos rfl]; rfl
theorem tabN_all (xss : List (List Int)) (ps : List (Int × Int)) (g h : Int) (dt : Bool) : ∀ i, i ≤ (hdL xss g h).length → ((tabN xss ps g h dt i).length : Int) = i + (if dt = true then bgn xss g h i else 0)
  | 0, _ => by rw [bgn_zero]; simp [tabN]
  | i + 1, hi => by
    have ih := tabN_all xss ps g h dt i (by omega)
    have hb := hdL_bd (show i < (hdL xss g h).length by omega)
    have e1 : bgn xss g h i = (hdL xss g h).getD i 0 := by rw [bgn, if_pos (by omega)]
    have e2 : bgn xss g h (i + 1) = toI xss.length (hdL xss g h) i := rfl
    rw [tabN, List.length_append, List.length_append, List.length_singleton]
    cases dt
    · rw [detN_no]; simp only [List.length_nil]; simp at ih ⊢; omega
    · rw [detN_all]
      simp only [if_true] at ih ⊢
      rw [e1] at ih; rw [e2]
      unfold cnt
      push_cast; omega
theorem tabL_all (xss : List (List Int)) (ps : List (Int × Int)) (g h : Int) (dt : Bool) : ((tabL xss ps g h dt).length : Int) = (hdL xss g h).length + 1 + (if dt = true then (xss.length : Int) else 0) := by
  have h1 := tabN_all xss ps g h dt _ (Nat.le_refl _)
  rw [bgn_end] at h1
  rw [tabL, List.length_append, List.length_singleton]
  cases dt <;> simp at h1 ⊢ <;> omega
theorem tabL_last (xss : List (List Int)) (ps : List (Int × Int)) (g h : Int) (dt : Bool) : (tabL xss ps g h dt).getD (((tabL xss ps g h dt).length : Int) - 1).toNat [] = [42, 42, 32] ++ sline (sumL xss ps) := by
  rw [tabL, List.length_append, List.length_singleton, show (((tabN xss ps g h dt (hdL xss g h).length).length + 1 : Nat) : Int) - 1 = ((tabN xss ps g h dt (hdL xss g h).length).length : Int) by push_cast; omega, Int.toNat_natCast, List.getD_eq_getElem?_getD, List.getElem?_append_right (Nat.le_refl _), Nat.sub_self]
  rfl
section
variable {w : World} {lo hi lo' hi' lp hp b o B : Nat} {v v' vp : Value} {p q : List UInt8} {ps : List (Int × Int)} {xss : List (List Int)} {svs : List SV} {g h : Int} {dt : Bool}
theorem a2Long_c (h : SL w lo hi v p := by repeat (first | assumption | exact Go.Gw.Own.sl (by assumption) | exact Go.Gw.Box.at (by assumption) | exact Go.Gw.SLL.el (by first | assumption | exact Go.Gw.OwnD.sll (by assumption)) _ (by omega) | exact Go.Gw.SLL.at (by first | assumption | exact Go.Gw.OwnD.sll (by assumption)) (by omega) | exact Go.Gw.OwnD.sll (by assumption) | (apply Go.Gw.SL.chg; case hx => assumption) | (apply Go.Gw.Own.chg; case hx => assumption) | (apply Go.Gw.Box.chg; case hx => assumption) | (apply Go.Gw.At.chg; case hx => assumption) | exact .inl (Nat.zero_le _) | exact .inr (Nat.zero_le _) | (show _ ∨ _; omega))) (h' : SL w lo' hi' v' q := by repeat (first | assumption | exact Go.Gw.Own.sl (by assumption) | exact Go.Gw.Box.at (by assumption) | exact Go.Gw.SLL.el (by first | assumption | exact Go.Gw.OwnD.sll (by assumption)) _ (by omega) | exact Go.Gw.SLL.at (by first | assumption | exact Go.Gw.OwnD.sll (by assumption)) (by omega) | exact Go.Gw.OwnD.sll (by assumption) | (apply Go.Gw.SL.chg; case hx => assumption) | (apply Go.Gw.Own.chg; case hx => assumption) | (apply Go.Gw.Box.chg; case hx => assumption) | (apply Go.Gw.At.chg; case hx => assumption) | exact .inl (Nat.zero_le _) | exact .inr (Nat.zero_le _) | (show _ ∨ _; omega))) : Ret Tryz.prog 6 [v, v'] w fun u w' => ∃ z, u = .bool z ∧ Ext w w' := by
  have E : Since 0 0 w w := Since.refl 0 0 w
  refine ret_enter Tryz.func6 rfl Tryz.ntmps6 rfl ?_
  focus
    have ht_h := h.top
    have ht_h' := h'.top
    refine c_seq ?_
    refine c_region ?_
    refine w_pure (y_assign rfl) rfl ?_
    refine w_nil ?_
    refine x_next ?_
    refine c_seq ?_
    refine c_region ?_
    refine w_pure (y_move rfl) rfl ?_
    refine w_pure (y_len rfl) rfl ?_
    refine w_pure (y_gt rfl rfl) rfl ?_
    refine w_pure (y_move rfl) rfl ?_
    (refine w_part_dec rfl rfl (fun hc9 => ?_) (fun hc9 => ?_) <;> try (first | exact absurd rfl hc9 | contradiction | exact Bool.noConfusion (show false = true from hc9.symm.trans (by assumption)) | exact Bool.noConfusion (show true = false from hc9.symm.trans (by assumption)) | (exfalso; omega) | (exfalso; simp only [*, Bool.not_true, Bool.not_false, reduceCtorEq] at hc9; done)))
    refine w_no rfl rfl rfl rfl ?_
    refine w_no rfl rfl rfl rfl ?_
    refine w_no rfl rfl rfl rfl ?_
    refine w_pure (y_pick_t rfl rfl) rfl ?_
    refine w_pure (y_assign rfl) rfl ?_
    refine w_nil ?_
    refine x_next ?_
    refine c_ret ?_
    rotate_left
    refine w_yes rfl rfl ?_
    refine w_pure (y_move rfl) rfl ?_
    refine w_yes rfl rfl ?_
    refine w_pure (y_len rfl) rfl ?_
    refine w_yes rfl rfl ?_
    refine w_pure (y_gt rfl rfl) rfl ?_
    refine w_pure (y_pick_f rfl rfl) rfl ?_
    refine w_pure (y_assign rfl) rfl ?_
    refine w_nil ?_
    refine x_next ?_
    refine c_ret ?_
    rotate_left
  all_goals exact x_retv [_] rfl ⟨rfl, trivial⟩ ⟨_, rfl, E.go⟩
theorem iTabulateDeck_z (hT : Tab B w := by assumption) (hs : SL w lp hp vp ps := by repeat (first | assumption | exact Go.Gw.Own.sl (by assumption) | exact Go.Gw.Box.at (by assumption) | exact Go.Gw.SLL.el (by first | assumption | exact Go.Gw.OwnD.sll (by assumption)) _ (by omega) | exact Go.Gw.SLL.at (by first | assumption | exact Go.Gw.OwnD.sll (by assumption)) (by omega) | exact Go.Gw.OwnD.sll (by assumption) | (apply Go.Gw.SL.chg; case hx => assumption) | (apply Go.Gw.Own.chg; case hx => assumption) | (apply Go.Gw.Box.chg; case hx => assumption) | (apply Go.Gw.At.chg; case hx => assumption) | exact .inl (Nat.zero_le _) | exact .inr (Nat.zero_le _) | (show _ ∨ _; omega))) (hd : SLL w lo hi svs v xss := by repeat (first | assumption | exact Go.Gw.Own.sl (by assumption) | exact Go.Gw.Box.at (by assumption) | exact Go.Gw.SLL.el (by first | assumption | exact Go.Gw.OwnD.sll (by assumption)) _ (by omega) | exact Go.Gw.SLL.at (by first | assumption | exact Go.Gw.OwnD.sll (by assumption)) (by omega) | exact Go.Gw.OwnD.sll (by assumption) | (apply Go.Gw.SL.chg; case hx => assumption) | (apply Go.Gw.Own.chg; case hx => assumption) | (apply Go.Gw.Box.chg; case hx => assumption) | (apply Go.Gw.At.chg; case hx => assumption) | exact .inl (Nat.zero_le _) | exact .inr (Nat.zero_le _) | (show _ ∨ _; omega))) (hc : cTab g h ps xss = 0 := by first | assumption | exact good_tab (by assumption) (by assumption)) : Ret Tryz.prog 9 [.agg #[.int .i64 g, .int .i64 h, vp, .bool dt], v] w fun u w' => ∃ d, u = .tuple #[d, .int .i64 0] ∧ Own w' 9 w.heap.size d (tabL xss ps g h dt) ∧ Ext w w' := by
  have := iTabulateDeck_c (g := g) (h := h) (dt := dt) hT hs hd
  rwa [hc, resTab, if_pos hc] at this
theorem sGroupNames_z (hs : SL w lp hp vp ps := by repeat (first | assumption | exact Go.Gw.Own.sl (by assumption) | exact Go.Gw.Box.at (by assumption) | exact Go.Gw.SLL.el (by first | assumption | exact Go.Gw.OwnD.sll (by assumption)) _ (by omega) | exact Go.Gw.SLL.at (by first | assumption | exact Go.Gw.OwnD.sll (by assumption)) (by omega) | exact Go.Gw.OwnD.sll (by assumption) | (apply Go.Gw.SL.chg; case hx => assumption) | (apply Go.Gw.Own.chg; case hx => assumption) | (apply Go.Gw.Box.chg; case hx => assumption) | (apply Go.Gw.At.chg; case hx => assumption) | exact .inl (Nat.zero_le _) | exact .inr (Nat.zero_le _) | (show _ ∨ _; omega))) (hd : SLL w lo hi svs v xss := by repeat (first | assumption | exact Go.Gw.Own.sl (by assumption) | exact Go.Gw.Box.at (by assumption) | exact Go.Gw.SLL.el (by first | assumption | exact Go.Gw.OwnD.sll (by assumption)) _ (by omega) | exact Go.Gw.SLL.at (by first | assumption | exact Go.Gw.OwnD.sll (by assumption)) (by omega) | exact Go.Gw.OwnD.sll (by assumption) | (apply Go.Gw.SL.chg; case hx => assumption) | (apply Go.Gw.Own.chg; case hx => assumption) | (apply Go.Gw.Box.chg; case hx => assumption) | (apply Go.Gw.At.chg; case hx => assumption) | exact .inl (Nat.zero_le _) | exact .inr (Nat.zero_le _) | (show _ ∨ _; omega))) (hc : cTab g h ps xss = 0 := by first | assumption | exact good_tab (by assumption) (by assumption)) : Ret Tryz.prog 10 [.agg #[.int .i64 g, .int .i64 h, vp, .bool dt], v] w fun u w' => ∃ d, u = .tuple #[d, .int .i64 0] ∧ Own w' 9 w.heap.size d (namG xss g h) ∧ Ext w w' := by
  have := sGroupNames_c (g := g) (h := h) (dt := dt) hs hd
  rwa [hc, resNam, if_pos hc] at this
theorem sGrandSums_z (hs : SL w lp hp vp ps := by repeat (first | assumption | exact Go.Gw.Own.sl (by assumption) | exact Go.Gw.Box.at (by assumption) | exact Go.Gw.SLL.el (by first | assumption | exact Go.Gw.OwnD.sll (by assumption)) _ (by omega) | exact Go.Gw.SLL.at (by first | assumption | exact Go.Gw.OwnD.sll (by assumption)) (by omega) | exact Go.Gw.OwnD.sll (by assumption) | (apply Go.Gw.SL.chg; case hx => assumption) | (apply Go.Gw.Own.chg; case hx => assumption) | (apply Go.Gw.Box.chg; case hx => assumption) | (apply Go.Gw.At.chg; case hx => assumption) | exact .inl (Nat.zero_le _) | exact .inr (Nat.zero_le _) | (show _ ∨ _; omega))) (hd : SLL w lo hi svs v xss := by repeat (first | assumption | exact Go.Gw.Own.sl (by assumption) | exact Go.Gw.Box.at (by assumption) | exact Go.Gw.SLL.el (by first | assumption | exact Go.Gw.OwnD.sll (by assumption)) _ (by omega) | exact Go.Gw.SLL.at (by first | assumption | exact Go.Gw.OwnD.sll (by assumption)) (by omega) | exact Go.Gw.OwnD.sll (by assumption) | (apply Go.Gw.SL.chg; case hx => assumption) | (apply Go.Gw.Own.chg; case hx => assumption) | (apply Go.Gw.Box.chg; case hx => assumption) | (apply Go.Gw.At.chg; case hx => assumption) | exact .inl (Nat.zero_le _) | exact .inr (Nat.zero_le _) | (show _ ∨ _; omega))) (hc : cTab g h ps xss = 0 := by first | assumption | exact good_tab (by assumption) (by assumption)) : Ret Tryz.prog 12 [.agg #[.int .i64 g, .int .i64 h, vp, .bool dt], v] w fun u w' => ∃ d, u = .tuple #[d, .int .i64 0] ∧ Own w' 2 w.heap.size d (sumL xss ps) ∧ Ext w w' := by
  have := sGrandSums_c (g := g) (h := h) (dt := dt) hs hd
  rwa [hc, resGra, if_pos hc] at this
theorem iCyclesFor_z (hs : SL w lp hp vp ps := by repeat (first | assumption | exact Go.Gw.Own.sl (by assumption) | exact Go.Gw.Box.at (by assumption) | exact Go.Gw.SLL.el (by first | assumption | exact Go.Gw.OwnD.sll (by assumption)) _ (by omega) | exact Go.Gw.SLL.at (by first | assumption | exact Go.Gw.OwnD.sll (by assumption)) (by omega) | exact Go.Gw.OwnD.sll (by assumption) | (apply Go.Gw.SL.chg; case hx => assumption) | (apply Go.Gw.Own.chg; case hx => assumption) | (apply Go.Gw.Box.chg; case hx => assumption) | (apply Go.Gw.At.chg; case hx => assumption) | exact .inl (Nat.zero_le _) | exact .inr (Nat.zero_le _) | (show _ ∨ _; omega))) (hd : SLL w lo hi svs v xss := by repeat (first | assumption | exact Go.Gw.Own.sl (by assumption) | exact Go.Gw.Box.at (by assumption) | exact Go.Gw.SLL.el (by first | assumption | exact Go.Gw.OwnD.sll (by assumption)) _ (by omega) | exact Go.Gw.SLL.at (by first | assumption | exact Go.Gw.OwnD.sll (by assumption)) (by omega) | exact Go.Gw.OwnD.sll (by assumption) | (apply Go.Gw.SL.chg; case hx => assumption) | (apply Go.Gw.Own.chg; case hx => assumption) | (apply Go.Gw.Box.chg; case hx => assumption) | (apply Go.Gw.At.chg; case hx => assumption) | exact .inl (Nat.zero_le _) | exact .inr (Nat.zero_le _) | (show _ ∨ _; omega))) (hc : cTab g h ps xss = 0 := by first | assumption | exact good_tab (by assumption) (by assumption)) : Val Tryz.prog 11 [.agg #[.int .i64 g, .int .i64 h, vp, .bool dt], v] w (.tuple #[.int .i64 ((xss.length : Int) + (hdL xss g h).length + 1), .int .i64 0]) := by
  have := iCyclesFor_c (g := g) (h := h) (dt := dt) hs hd
  rwa [hc, resCyc, if_pos hc] at this
set_option maxHeartbeats 4000000 in
theorem lFnPrinted (w0 : World) (hT : Tab w0.heap.size w0) (x0 x1 : { x : OBy // x.ok w0 }) : Ret Tryz.prog 3 [x0.1.v, x1.1.v] w0 fun u w' => u = .bool true ∧ Ext w0 w' := by
  obtain ⟨⟨v0, p0⟩, ⟨h0⟩⟩ := x0
  obtain ⟨⟨v1, p1⟩, ⟨h1⟩⟩ := x1
  show Ret _ _ [v0, v1] w0 _
  dsimp only at h0 h1
  have E : Since 0 0 w0 w0 := Since.refl 0 0 w0
  refine ret_enter Tryz.func3 rfl Tryz.ntmps3 rfl ?_
  focus
    have ht_hT := hT.top
    have ht_h0 := h0.top
    have ht_h1 := h1.top
    refine c_seq ?_
    refine c_region ?_
    refine w_pure (y_assign rfl) rfl ?_
    refine w_nil ?_
    refine x_next ?_
    refine c_seq ?_
    refine c_seq ?_
    refine c_region ?_
    refine w_pure (y_move rfl) rfl ?_
    refine w_pure (y_move rfl) rfl ?_
    (refine w_call rfl rfl rfl (a2Long_c) rfl ?_; rintro _ w18 ⟨z18, ⟨rfl, hx18⟩⟩)
    have hz_hx18 := hx18.size
    replace hT := hT.ext hx18
    replace h0 := h0.ext hx18
    replace h1 := h1.ext hx18
    replace E := E.trans hx18
    refine w_nil ?_
    refine x_next ?_
    (refine c_if rfl (fun hc18 => ?_) (fun hc18 => ?_) <;> try (first | exact absurd rfl hc18 | contradiction | exact Bool.noConfusion (show false = true from hc18.symm.trans (by assumption)) | exact Bool.noConfusion (show true = false from hc18.symm.trans (by assumption)) | (exfalso; omega) | (exfalso; simp only [*, Bool.not_true, Bool.not_false, reduceCtorEq] at hc18; done)))
    refine c_seq ?_
    refine c_region ?_
    refine w_pure (y_assign rfl) rfl ?_
    refine w_nil ?_
    refine x_next ?_
    refine c_ret ?_
    refine x_then_ret ?_
    rotate_left
    refine c_skip ?_
    refine x_next ?_
    refine c_seq ?_
    refine c_region ?_
    refine w_pure (y_move rfl) rfl ?_
    (refine w_call rfl rfl rfl (A2Cards_c) rfl ?_; rintro v20 w20 ⟨sus20, ⟨xss20, ⟨hp1_20, ⟨hp2_20, hx20⟩⟩⟩⟩)
    have hl_hp1_20 := hp1_20.lt
    have hz_hx20 := hx20.size
    replace hT := hT.ext hx20
    replace h0 := h0.ext hx20
    replace h1 := h1.ext hx20
    replace E := E.trans hx20
    refine w_pure (y_assign rfl) rfl ?_
    refine w_nil ?_
    refine x_next ?_
    refine c_seq ?_
    refine c_region ?_
    refine w_pure (y_move rfl) rfl ?_
    (refine w_call rfl rfl rfl (A2Setup_c) rfl ?_; rintro _ w22 ⟨d22, ⟨q22, ⟨ps22, ⟨rfl, ⟨hp1_22, ⟨hp2_22, hx22⟩⟩⟩⟩⟩⟩)
    have hl_hp1_22 := hp1_22.lt
    have hz_hx22 := hx22.size
    replace hp1_20 := hp1_20.ext hx22
    replace hT := hT.ext hx22
    replace h0 := h0.ext hx22
    replace h1 := h1.ext hx22
    replace E := E.trans hx22
    refine w_alloc (k := fun b6 w6 hb6 hx6 hl6 hs6 => ?_)
    have hz_hx6 := hx6.size
    replace hp1_22 := hp1_22.ext hx6
    replace hp1_20 := hp1_20.ext hx6
    replace hT := hT.ext hx6
    replace h0 := h0.ext hx6
    replace h1 := h1.ext hx6
    replace E := E.trans hx6
    refine w_store_boxs rfl rfl (next := fun ws37 hbs37 hxs37 hss37 => ?_)
    (replace hb6 := hbs37; clear hbs37)
    have hz_hxs37 := hxs37.size
    replace hp1_22 := hp1_22.chg hxs37 (by omega)
    replace hp1_20 := hp1_20.chg hxs37 (by omega)
    replace hT := hT.chg hxs37 (by omega)
    replace h0 := h0.chg hxs37 (by omega)
    replace h1 := h1.chg hxs37 (by omega)
    replace E := E.next hxs37 (by omega)
    refine w_nil ?_
    refine x_next ?_
    refine c_seq ?_
    refine c_region ?_
    refine w_pure (y_load_boxs rfl) rfl ?_
    refine w_pure (y_move rfl) rfl ?_
    rotate_left
  · exact x_retv [_] rfl ⟨rfl, trivial⟩ ⟨rfl, E.go⟩
  have hct := cTab_ok (good_tab hp2_20 hp2_22)
  have hTb := TabOK.of hct.1 hct.2.1
  have hq := hTb.in64
  have gl := hp2_20.len
  have sl := hp2_22.len
  have hsl := sline_len hq (by rw [sumL_len]; omega)
  have hL := tabL_all xss20 ps22 0 1 q22
  have hla := tabL_last xss20 ps22 0 1 q22
  have hN := namG_len xss20 0 1
  have hH := hdL_len xss20 0 1
  have hS := sumL_len xss20 ps22
  cases q22
  · simp only [Bool.false_eq_true, if_false] at hL
    focus
      (refine w_call rfl rfl rfl (iTabulateDeck_z) rfl ?_; rintro _ w26 ⟨d26, ⟨rfl, ⟨hp1_26, hx26⟩⟩⟩)
      have hl_hp1_26 := hp1_26.lt
      have hz_hx26 := hx26.size
      replace hp1_22 := hp1_22.ext hx26
      replace hp1_20 := hp1_20.ext hx26
      replace hT := hT.ext hx26
      replace h0 := h0.ext hx26
      replace h1 := h1.ext hx26
      replace E := E.trans hx26
      replace hb6 := hb6.ext hx26
      refine w_pure (y_move rfl) rfl ?_
      refine w_pure (y_extract rfl rfl) rfl ?_
      refine w_pure (y_extract rfl rfl) rfl ?_
      refine w_pure (y_assign rfl) rfl ?_
      refine w_pure (y_assign rfl) rfl ?_
      refine w_nil ?_
      refine x_next ?_
      refine c_seq ?_
      refine c_region ?_
      refine w_pure (y_load_boxs rfl) rfl ?_
      refine w_pure (y_move rfl) rfl ?_
      (refine w_call rfl rfl rfl (sGroupNames_z) rfl ?_; rintro _ w32 ⟨d32, ⟨rfl, ⟨hp1_32, hx32⟩⟩⟩)
      have hl_hp1_32 := hp1_32.lt
      have hz_hx32 := hx32.size
      replace hp1_26 := hp1_26.ext hx32
      replace hp1_22 := hp1_22.ext hx32
      replace hp1_20 := hp1_20.ext hx32
      replace hT := hT.ext hx32
      replace h0 := h0.ext hx32
      replace h1 := h1.ext hx32
      replace E := E.trans hx32
      replace hb6 := hb6.ext hx32
      refine w_pure (y_move rfl) rfl ?_
      refine w_pure (y_extract rfl rfl) rfl ?_
      refine w_pure (y_extract rfl rfl) rfl ?_
      refine w_pure (y_assign rfl) rfl ?_
      refine w_pure (y_assign rfl) rfl ?_
      refine w_nil ?_
      refine x_next ?_
      refine c_seq ?_
      refine c_region ?_
      refine w_pure (y_load_boxs rfl) rfl ?_
      refine w_pure (y_move rfl) rfl ?_
      refine w_val rfl rfl rfl (iCyclesFor_z) rfl (fun w38 hx38 hz38 => ?_)
      have hz_hx38 := hx38.size
      replace hp1_32 := hp1_32.ext hx38
      replace hp1_26 := hp1_26.ext hx38
      replace hp1_22 := hp1_22.ext hx38
      replace hp1_20 := hp1_20.ext hx38
      replace hT := hT.ext hx38
      replace h0 := h0.ext hx38
      replace h1 := h1.ext hx38
      replace E := E.trans hx38
      replace hb6 := hb6.ext hx38
      refine w_pure (y_move rfl) rfl ?_
      refine w_pure (y_extract rfl rfl) rfl ?_
      refine w_pure (y_extract rfl rfl) rfl ?_
      refine w_pure (y_assign rfl) rfl ?_
      refine w_pure (y_assign rfl) rfl ?_
      refine w_nil ?_
      refine x_next ?_
      refine c_seq ?_
      refine c_region ?_
      refine w_pure (y_load_boxs rfl) rfl ?_
      refine w_pure (y_move rfl) rfl ?_
      (refine w_call rfl rfl rfl (sGrandSums_z) rfl ?_; rintro _ w44 ⟨d44, ⟨rfl, ⟨hp1_44, hx44⟩⟩⟩)
      have hl_hp1_44 := hp1_44.lt
      have hz_hx44 := hx44.size
      replace hp1_32 := hp1_32.ext hx44
      replace hp1_26 := hp1_26.ext hx44
      replace hp1_22 := hp1_22.ext hx44
      replace hp1_20 := hp1_20.ext hx44
      replace hT := hT.ext hx44
      replace h0 := h0.ext hx44
      replace h1 := h1.ext hx44
      replace E := E.trans hx44
      replace hb6 := hb6.ext hx44
      refine w_pure (y_move rfl) rfl ?_
      refine w_pure (y_extract rfl rfl) rfl ?_
      refine w_pure (y_extract rfl rfl) rfl ?_
      refine w_pure (y_assign rfl) rfl ?_
      refine w_pure (y_assign rfl) rfl ?_
      refine w_nil ?_
      refine x_next ?_
      refine c_seq ?_
      refine c_region ?_
      refine w_pure (y_move rfl) rfl ?_
      refine w_pure (y_len rfl) rfl ?_
      refine w_pure (y_add rfl rfl) rfl ?_
      refine w_pure (y_assign rfl) rfl ?_
      refine w_nil ?_
      refine x_next ?_
      refine c_seq ?_
      refine c_seq ?_
      refine c_region ?_
      refine w_pure (y_field rfl) rfl ?_
      refine w_pure (y_load_box rfl) rfl ?_
      refine w_nil ?_
      refine x_next ?_
      refine c_false rfl ?_
      refine c_skip ?_
      refine x_next ?_
      refine c_seq ?_
      refine c_region_held mixed (fun wr12 hxr12 hzr12 => ?_)
      have hz_hxr12 := hxr12.size
      replace hp1_44 := hp1_44.ext hxr12
      replace hp1_32 := hp1_32.ext hxr12
      replace hp1_26 := hp1_26.ext hxr12
      replace hp1_22 := hp1_22.ext hxr12
      replace hp1_20 := hp1_20.ext hxr12
      replace hT := hT.ext hxr12
      replace h0 := h0.ext hxr12
      replace h1 := h1.ext hxr12
      replace E := E.trans hxr12
      replace hb6 := hb6.ext hxr12
      refine h_pure rfl (y_move rfl) rfl ?_
      refine h_pure rfl (y_eq rfl rfl) rfl ?_
      refine h_pure rfl (y_move rfl) rfl ?_
      refine h_yes rfl rfl rfl (y_move rfl) rfl ?_
      refine h_yes rfl rfl rfl (y_eq rfl rfl) rfl ?_
      refine h_pure rfl (y_pick_t rfl rfl) rfl ?_
      refine h_pure rfl (y_move rfl) rfl ?_
      refine h_yes rfl rfl rfl (y_move rfl) rfl ?_
      refine h_yes rfl rfl rfl (y_len rfl) rfl ?_
      refine h_yes rfl rfl rfl (y_move rfl) rfl ?_
      refine h_yes rfl rfl rfl (y_eq rfl rfl) rfl ?_
      refine h_pure rfl (y_pick_t rfl rfl) rfl ?_
      refine h_pure rfl (y_move rfl) rfl ?_
      (refine h_part_dec rfl rfl (fun hc69 => ?_) (fun hc69 => ?_) <;> try (first | exact absurd rfl hc69 | contradiction | exact Bool.noConfusion (show false = true from hc69.symm.trans (by assumption)) | exact Bool.noConfusion (show true = false from hc69.symm.trans (by assumption)) | (exfalso; omega) | (exfalso; simp only [*, Bool.not_true, Bool.not_false, reduceCtorEq] at hc69; done)))
      refine h_yes rfl rfl rfl (y_move rfl) rfl ?_
      refine h_yes rfl rfl rfl (y_eq rfl rfl) rfl ?_
      refine h_pure rfl (y_pick_t rfl rfl) rfl ?_
      refine h_pure rfl (y_move rfl) rfl ?_
      refine h_yes rfl rfl rfl (y_move rfl) rfl ?_
      refine h_yes rfl rfl rfl (y_move rfl) rfl ?_
      refine h_yes rfl rfl rfl (y_lend rfl) rfl ?_
      refine h_yes rfl rfl rfl (y_move rfl) rfl ?_
      refine h_yes rfl rfl rfl (y_len rfl) rfl ?_
      refine h_yes rfl rfl rfl (y_add rfl rfl) rfl ?_
      refine h_yes rfl rfl rfl (y_add rfl rfl) rfl ?_
      refine h_yes rfl rfl rfl (y_eq rfl rfl) rfl ?_
      refine h_pure rfl (y_pick_t rfl rfl) rfl ?_
      refine h_pure rfl (y_move rfl) rfl ?_
      (refine h_part_dec rfl rfl (fun hc83 => ?_) (fun hc83 => ?_) <;> try (first | exact absurd rfl hc83 | contradiction | exact Bool.noConfusion (show false = true from hc83.symm.trans (by assumption)) | exact Bool.noConfusion (show true = false from hc83.symm.trans (by assumption)) | (exfalso; omega) | (exfalso; simp only [*, Bool.not_true, Bool.not_false, reduceCtorEq] at hc83; done)))
      refine h_yes rfl rfl rfl (y_move rfl) rfl ?_
      refine h_yes rfl rfl rfl (y_eq rfl rfl) rfl ?_
      refine h_pure rfl (y_pick_t rfl rfl) rfl ?_
      refine h_pure rfl (y_move rfl) rfl ?_
      refine h_yes rfl rfl rfl (y_move rfl) rfl ?_
      refine h_yes rfl rfl rfl (y_move rfl) rfl ?_
      refine h_yes rfl rfl rfl (y_len rfl) rfl ?_
      refine h_yes rfl rfl rfl (y_sub rfl rfl) rfl ?_
      refine h_yes rfl rfl rfl (y_index rfl rfl) rfl ?_
      refine h_yes rfl rfl rfl (y_load_str rfl) rfl ?_
      refine h_yes rfl rfl rfl (y_move rfl) rfl ?_
      (refine h_part_dec rfl rfl (fun hc94 => ?_) (fun hc94 => ?_) <;> try (first | exact absurd rfl hc94 | contradiction | exact Bool.noConfusion (show false = true from hc94.symm.trans (by assumption)) | exact Bool.noConfusion (show true = false from hc94.symm.trans (by assumption)) | (exfalso; omega) | (exfalso; simp only [*, Bool.not_true, Bool.not_false, reduceCtorEq] at hc94; done)))
      refine h_one rfl ?_
      refine w_yes rfl rfl ?_
      refine w_val rfl rfl rfl (iSumLine_c) rfl (fun w94 hx94 hz94 => ?_)
      have hz_hx94 := hx94.size
      replace hp1_44 := hp1_44.ext hx94
      replace hp1_32 := hp1_32.ext hx94
      replace hp1_26 := hp1_26.ext hx94
      replace hp1_22 := hp1_22.ext hx94
      replace hp1_20 := hp1_20.ext hx94
      replace hT := hT.ext hx94
      replace h0 := h0.ext hx94
      replace h1 := h1.ext hx94
      replace E := E.trans hx94
      replace hb6 := hb6.ext hx94
      refine w_nil ?_
      refine x_held ?_
      (refine h_part rfl rfl (fun hc95 => ?_) (fun hc95 => ?_) <;> try (first | exact absurd rfl hc95 | contradiction | exact Bool.noConfusion (show false = true from hc95.symm.trans (by assumption)) | exact Bool.noConfusion (show true = false from hc95.symm.trans (by assumption)) | (exfalso; omega) | (exfalso; simp only [*, Bool.not_true, Bool.not_false, reduceCtorEq] at hc95; done)))
      refine h_one rfl ?_
      refine w_yes rfl rfl ?_
      refine w_pure (y_scat rfl rfl (by simp only [List.length_cons, List.length_nil]; omega)) rfl ?_
      refine w_nil ?_
      refine x_held ?_
      refine h_yes rfl rfl rfl (y_seq rfl rfl) rfl ?_
      refine h_pure rfl (y_pick_t rfl rfl) rfl ?_
      refine h_pure rfl (y_assign rfl) rfl ?_
      refine h_nil ?_
      refine x_next ?_
      refine c_ret ?_
      rotate_left
    all_goals exact x_retv [_] rfl ⟨rfl, trivial⟩ ⟨by show Value.bool (decide _) = _; rw [decide_eq_true hla], E.go⟩
  · simp only [if_true] at hL
    focus
      (refine w_call rfl rfl rfl (iTabulateDeck_z) rfl ?_; rintro _ w26 ⟨d26, ⟨rfl, ⟨hp1_26, hx26⟩⟩⟩)
      have hl_hp1_26 := hp1_26.lt
      have hz_hx26 := hx26.size
      replace hp1_22 := hp1_22.ext hx26
      replace hp1_20 := hp1_20.ext hx26
      replace hT := hT.ext hx26
      replace h0 := h0.ext hx26
      replace h1 := h1.ext hx26
      replace E := E.trans hx26
      replace hb6 := hb6.ext hx26
      refine w_pure (y_move rfl) rfl ?_
      refine w_pure (y_extract rfl rfl) rfl ?_
      refine w_pure (y_extract rfl rfl) rfl ?_
      refine w_pure (y_assign rfl) rfl ?_
      refine w_pure (y_assign rfl) rfl ?_
      refine w_nil ?_
      refine x_next ?_
      refine c_seq ?_
      refine c_region ?_
      refine w_pure (y_load_boxs rfl) rfl ?_
      refine w_pure (y_move rfl) rfl ?_
      (refine w_call rfl rfl rfl (sGroupNames_z) rfl ?_; rintro _ w32 ⟨d32, ⟨rfl, ⟨hp1_32, hx32⟩⟩⟩)
      have hl_hp1_32 := hp1_32.lt
      have hz_hx32 := hx32.size
      replace hp1_26 := hp1_26.ext hx32
      replace hp1_22 := hp1_22.ext hx32
      replace hp1_20 := hp1_20.ext hx32
      replace hT := hT.ext hx32
      replace h0 := h0.ext hx32
      replace h1 := h1.ext hx32
      replace E := E.trans hx32
      replace hb6 := hb6.ext hx32
      refine w_pure (y_move rfl) rfl ?_
      refine w_pure (y_extract rfl rfl) rfl ?_
      refine w_pure (y_extract rfl rfl) rfl ?_
      refine w_pure (y_assign rfl) rfl ?_
      refine w_pure (y_assign rfl) rfl ?_
      refine w_nil ?_
      refine x_next ?_
      refine c_seq ?_
      refine c_region ?_
      refine w_pure (y_load_boxs rfl) rfl ?_
      refine w_pure (y_move rfl) rfl ?_
      refine w_val rfl rfl rfl (iCyclesFor_z) rfl (fun w38 hx38 hz38 => ?_)
      have hz_hx38 := hx38.size
      replace hp1_32 := hp1_32.ext hx38
      replace hp1_26 := hp1_26.ext hx38
      replace hp1_22 := hp1_22.ext hx38
      replace hp1_20 := hp1_20.ext hx38
      replace hT := hT.ext hx38
      replace h0 := h0.ext hx38
      replace h1 := h1.ext hx38
      replace E := E.trans hx38
      replace hb6 := hb6.ext hx38
      refine w_pure (y_move rfl) rfl ?_
      refine w_pure (y_extract rfl rfl) rfl ?_
      refine w_pure (y_extract rfl rfl) rfl ?_
      refine w_pure (y_assign rfl) rfl ?_
      refine w_pure (y_assign rfl) rfl ?_
      refine w_nil ?_
      refine x_next ?_
      refine c_seq ?_
      refine c_region ?_
      refine w_pure (y_load_boxs rfl) rfl ?_
      refine w_pure (y_move rfl) rfl ?_
      (refine w_call rfl rfl rfl (sGrandSums_z) rfl ?_; rintro _ w44 ⟨d44, ⟨rfl, ⟨hp1_44, hx44⟩⟩⟩)
      have hl_hp1_44 := hp1_44.lt
      have hz_hx44 := hx44.size
      replace hp1_32 := hp1_32.ext hx44
      replace hp1_26 := hp1_26.ext hx44
      replace hp1_22 := hp1_22.ext hx44
      replace hp1_20 := hp1_20.ext hx44
      replace hT := hT.ext hx44
      replace h0 := h0.ext hx44
      replace h1 := h1.ext hx44
      replace E := E.trans hx44
      replace hb6 := hb6.ext hx44
      refine w_pure (y_move rfl) rfl ?_
      refine w_pure (y_extract rfl rfl) rfl ?_
      refine w_pure (y_extract rfl rfl) rfl ?_
      refine w_pure (y_assign rfl) rfl ?_
      refine w_pure (y_assign rfl) rfl ?_
      refine w_nil ?_
      refine x_next ?_
      refine c_seq ?_
      refine c_region ?_
      refine w_pure (y_move rfl) rfl ?_
      refine w_pure (y_len rfl) rfl ?_
      refine w_pure (y_add rfl rfl) rfl ?_
      refine w_pure (y_assign rfl) rfl ?_
      refine w_nil ?_
      refine x_next ?_
      refine c_seq ?_
      refine c_seq ?_
      refine c_region ?_
      refine w_pure (y_field rfl) rfl ?_
      refine w_pure (y_load_box rfl) rfl ?_
      refine w_nil ?_
      refine x_next ?_
      refine c_true rfl ?_
      refine c_region ?_
      refine w_pure (y_move rfl) rfl ?_
      refine w_pure (y_move rfl) rfl ?_
      refine w_pure (y_lend rfl) rfl ?_
      refine w_pure (y_add rfl rfl) rfl ?_
      refine w_pure (y_assign rfl) rfl ?_
      refine w_nil ?_
      refine x_next ?_
      refine c_seq ?_
      refine c_region_held mixed (fun wr12 hxr12 hzr12 => ?_)
      have hz_hxr12 := hxr12.size
      replace hp1_44 := hp1_44.ext hxr12
      replace hp1_32 := hp1_32.ext hxr12
      replace hp1_26 := hp1_26.ext hxr12
      replace hp1_22 := hp1_22.ext hxr12
      replace hp1_20 := hp1_20.ext hxr12
      replace hT := hT.ext hxr12
      replace h0 := h0.ext hxr12
      replace h1 := h1.ext hxr12
      replace E := E.trans hxr12
      replace hb6 := hb6.ext hxr12
      refine h_pure rfl (y_move rfl) rfl ?_
      refine h_pure rfl (y_eq rfl rfl) rfl ?_
      refine h_pure rfl (y_move rfl) rfl ?_
      refine h_yes rfl rfl rfl (y_move rfl) rfl ?_
      refine h_yes rfl rfl rfl (y_eq rfl rfl) rfl ?_
      refine h_pure rfl (y_pick_t rfl rfl) rfl ?_
      refine h_pure rfl (y_move rfl) rfl ?_
      refine h_yes rfl rfl rfl (y_move rfl) rfl ?_
      refine h_yes rfl rfl rfl (y_len rfl) rfl ?_
      refine h_yes rfl rfl rfl (y_move rfl) rfl ?_
      refine h_yes rfl rfl rfl (y_eq rfl rfl) rfl ?_
      refine h_pure rfl (y_pick_t rfl rfl) rfl ?_
      refine h_pure rfl (y_move rfl) rfl ?_
      (refine h_part_dec rfl rfl (fun hc69 => ?_) (fun hc69 => ?_) <;> try (first | exact absurd rfl hc69 | contradiction | exact Bool.noConfusion (show false = true from hc69.symm.trans (by assumption)) | exact Bool.noConfusion (show true = false from hc69.symm.trans (by assumption)) | (exfalso; omega) | (exfalso; simp only [*, Bool.not_true, Bool.not_false, reduceCtorEq] at hc69; done)))
      refine h_yes rfl rfl rfl (y_move rfl) rfl ?_
      refine h_yes rfl rfl rfl (y_eq rfl rfl) rfl ?_
      refine h_pure rfl (y_pick_t rfl rfl) rfl ?_
      refine h_pure rfl (y_move rfl) rfl ?_
      refine h_yes rfl rfl rfl (y_move rfl) rfl ?_
      refine h_yes rfl rfl rfl (y_move rfl) rfl ?_
      refine h_yes rfl rfl rfl (y_lend rfl) rfl ?_
      refine h_yes rfl rfl rfl (y_move rfl) rfl ?_
      refine h_yes rfl rfl rfl (y_len rfl) rfl ?_
      refine h_yes rfl rfl rfl (y_add rfl rfl) rfl ?_
      refine h_yes rfl rfl rfl (y_add rfl rfl) rfl ?_
      refine h_yes rfl rfl rfl (y_eq rfl rfl) rfl ?_
      refine h_pure rfl (y_pick_t rfl rfl) rfl ?_
      refine h_pure rfl (y_move rfl) rfl ?_
      (refine h_part_dec rfl rfl (fun hc83 => ?_) (fun hc83 => ?_) <;> try (first | exact absurd rfl hc83 | contradiction | exact Bool.noConfusion (show false = true from hc83.symm.trans (by assumption)) | exact Bool.noConfusion (show true = false from hc83.symm.trans (by assumption)) | (exfalso; omega) | (exfalso; simp only [*, Bool.not_true, Bool.not_false, reduceCtorEq] at hc83; done)))
      refine h_yes rfl rfl rfl (y_move rfl) rfl ?_
      refine h_yes rfl rfl rfl (y_eq rfl rfl) rfl ?_
      refine h_pure rfl (y_pick_t rfl rfl) rfl ?_
      refine h_pure rfl (y_move rfl) rfl ?_
      refine h_yes rfl rfl rfl (y_move rfl) rfl ?_
      refine h_yes rfl rfl rfl (y_move rfl) rfl ?_
      refine h_yes rfl rfl rfl (y_len rfl) rfl ?_
      refine h_yes rfl rfl rfl (y_sub rfl rfl) rfl ?_
      refine h_yes rfl rfl rfl (y_index rfl rfl) rfl ?_
      refine h_yes rfl rfl rfl (y_load_str rfl) rfl ?_
      refine h_yes rfl rfl rfl (y_move rfl) rfl ?_
      (refine h_part_dec rfl rfl (fun hc94 => ?_) (fun hc94 => ?_) <;> try (first | exact absurd rfl hc94 | contradiction | exact Bool.noConfusion (show false = true from hc94.symm.trans (by assumption)) | exact Bool.noConfusion (show true = false from hc94.symm.trans (by assumption)) | (exfalso; omega) | (exfalso; simp only [*, Bool.not_true, Bool.not_false, reduceCtorEq] at hc94; done)))
      refine h_one rfl ?_
      refine w_yes rfl rfl ?_
      refine w_val rfl rfl rfl (iSumLine_c) rfl (fun w94 hx94 hz94 => ?_)
      have hz_hx94 := hx94.size
      replace hp1_44 := hp1_44.ext hx94
      replace hp1_32 := hp1_32.ext hx94
      replace hp1_26 := hp1_26.ext hx94
      replace hp1_22 := hp1_22.ext hx94
      replace hp1_20 := hp1_20.ext hx94
      replace hT := hT.ext hx94
      replace h0 := h0.ext hx94
      replace h1 := h1.ext hx94
      replace E := E.trans hx94
      replace hb6 := hb6.ext hx94
      refine w_nil ?_
      refine x_held ?_
      (refine h_part rfl rfl (fun hc95 => ?_) (fun hc95 => ?_) <;> try (first | exact absurd rfl hc95 | contradiction | exact Bool.noConfusion (show false = true from hc95.symm.trans (by assumption)) | exact Bool.noConfusion (show true = false from hc95.symm.trans (by assumption)) | (exfalso; omega) | (exfalso; simp only [*, Bool.not_true, Bool.not_false, reduceCtorEq] at hc95; done)))
      refine h_one rfl ?_
      refine w_yes rfl rfl ?_
      refine w_pure (y_scat rfl rfl (by simp only [List.length_cons, List.length_nil]; omega)) rfl ?_
      refine w_nil ?_
      refine x_held ?_
      refine h_yes rfl rfl rfl (y_seq rfl rfl) rfl ?_
      refine h_pure rfl (y_pick_t rfl rfl) rfl ?_
      refine h_pure rfl (y_assign rfl) rfl ?_
      refine h_nil ?_
      refine x_next ?_
      refine c_ret ?_
      rotate_left
    all_goals exact x_retv [_] rfl ⟨rfl, trivial⟩ ⟨by show Value.bool (decide _) = _; rw [decide_eq_true hla], E.go⟩
end
end Go.Proofs.YtihnhelkfiaimaaGreatDoor

/- Contracts: the printed lines of a tabulated deck. -/
import Derived.Test.YtihnhelkfiaimaaGreatDoorTabD
import Derived.Test.YtihnhelkfiaimaaGreatDoorJoA
namespace Go.Proofs.YtihnhelkfiaimaaGreatDoor
open Go Go.Gw
set_option linter.unusedVariables false
set_option linter.unusedSimpArgs false
/-- between the first cards of two groups none is a first card -/
theorem hdG_gap (p : Nat → Bool) : ∀ n i, i < (hdG p n).length → ∀ j : Nat, (hdG p n).getD i 0 < j → (j : Int) < toI n (hdG p n) i → p j = false
  | 0, i, h, _, _, _ => by simp [hdG] at h
  | n + 1, i, h, j, h1, h2 => by
    have ih := hdG_gap p n
    rw [hdG] at h h1 h2
    split at h
    · rename_i hp
      rw [if_pos hp] at h1 h2
      by_cases hi : i < (hdG p n).length
      · rw [getD_append_lt hi] at h1
        unfold toI at h2
        by_cases h3 : i + 1 < (hdG p n).length
        · rw [if_pos (by simp; omega), getD_append_lt h3] at h2
          exact ih i hi j h1 (by unfold toI; rw [if_pos h3]; exact h2)
        · rw [if_pos (by simp; omega), getD_append_eq (by omega)] at h2
          exact ih i hi j h1 (by unfold toI; rw [if_neg h3]; omega)
      · have e : i = (hdG p n).length := by simp at h; omega
        rw [getD_append_eq e] at h1
        unfold toI at h2
        rw [if_neg (by simp; omega)] at h2
        omega
    · rename_i hp
      rw [if_neg hp] at h1 h2
      unfold toI at h2
      by_cases h3 : i + 1 < (hdG p n).length
      · rw [if_pos h3] at h2
        exact ih i h j h1 (by unfold toI; rw [if_pos h3]; exact h2)
      · rw [if_neg h3] at h2
        by_cases hj : j = n
        · subst hj; simpa using hp
        · exact ih i h j h1 (by unfold toI; rw [if_neg h3]; omega)
/-- all cards of a group have the field of its first card -/
theorem group_same {xss : List (List Int)} {f t : Int} {i : Nat} (h : i < (hdL xss f t).length) : ∀ k : Nat, ((hdL xss f t).getD i 0) + k < toI xss.length (hdL xss f t) i → prt (xss.getD (((hdL xss f t).getD i 0).toNat + k) []) f t = prt (xss.getD ((hdL xss f t).getD i 0).toNat []) f t
  | 0, _ => rfl
  | k + 1, hk => by
    have hb := hdL_bd h
    have ih := group_same h k (by omega)
    have hg := hdG_gap (isHd xss f t) xss.length i h (((hdL xss f t).getD i 0).toNat + k + 1) (by show (hdL xss f t).getD i 0 < _; omega) (by show _ < toI xss.length (hdL xss f t) i; omega)
    simp only [isHd, decide_eq_false_iff_not, not_or, Decidable.not_not] at hg
    rw [← ih, ← Nat.add_assoc]
    have := hg.2
    rw [show ((hdL xss f t).getD i 0).toNat + k + 1 - 1 = ((hdL xss f t).getD i 0).toNat + k by omega] at this
    exact this.symm
theorem sumL_one (xss : List (List Int)) (ps : List (Int × Int)) (j : Nat) : sumL [xss.getD j []] ps = rowAt xss ps j := by
  unfold sumL rowAt
  refine List.map_congr_left fun p _ => ?_
  show (0 : Int) + (nmF [xss.getD j []] p 0).1 = (nmF xss p j).1
  rw [Int.zero_add]; rfl
def grpLine (xss : List (List Int)) (ps : List (Int × Int)) (g h : Int) (i : Nat) : List UInt8 :=
  [42] ++ textL (prt (xss.getD ((hdL xss g h).getD i 0).toNat []) g h) ++ [32] ++ sline (sumR xss ps ((hdL xss g h).getD i 0) (toI xss.length (hdL xss g h) i))
def detLine (xss : List (List Int)) (ps : List (Int × Int)) (g h : Int) (j : Nat) : List UInt8 := textL (prt (xss.getD j []) g h) ++ [32] ++ sline (rowAt xss ps j)
/-- the lines of m cards from a on, where they are wanted -/
def detN (xss : List (List Int)) (ps : List (Int × Int)) (g h : Int) (dt : Bool) (a : Nat) : Nat → List (List UInt8)
  | 0 => []
  | m + 1 => detN xss ps g h dt a m ++ (if dt = true then [detLine xss ps g h (a + m)] else [])
theorem detN_len (xss : List (List Int)) (ps : List (Int × Int)) (g h : Int) (dt : Bool) (a : Nat) : ∀ m, (detN xss ps g h dt a m).length ≤ m
  | 0 => Nat.le_refl _
  | m + 1 => by
    have := detN_len xss ps g h dt a m
    rw [detN]; split <;> simp <;> omega
theorem detN_no (xss : List (List Int)) (ps : List (Int × Int)) (g h : Int) (a : Nat) : ∀ m, detN xss ps g h false a m = []
  | 0 => rfl
  | m + 1 => by rw [detN, detN_no xss ps g h a m, if_neg (by decide)]; rfl
/-- how many cards group i has -/
def cnt (xss : List (List Int)) (g h : Int) (i : Nat) : Nat := (toI xss.length (hdL xss g h) i).toNat - ((hdL xss g h).getD i 0).toNat
/-- the lines of the first i groups -/
def tabN (xss : List (List Int)) (ps : List (Int × Int)) (g h : Int) (dt : Bool) : Nat → List (List UInt8)
  | 0 => []
  | i + 1 => tabN xss ps g h dt i ++ detN xss ps g h dt ((hdL xss g h).getD i 0).toNat (cnt xss g h i) ++ [grpLine xss ps g h i]
def tabL (xss : List (List Int)) (ps : List (Int × Int)) (g h : Int) (dt : Bool) : List (List UInt8) := tabN xss ps g h dt (hdL xss g h).length ++ [[42, 42, 32] ++ sline (sumL xss ps)]
theorem cnt_le {xss : List (List Int)} {g h : Int} {i : Nat} (hi : i < (hdL xss g h).length) : cnt xss g h i ≤ xss.length := by
  have := hdL_bd hi
  unfold cnt; omega
theorem tabN_len (xss : List (List Int)) (ps : List (Int × Int)) (g h : Int) (dt : Bool) : ∀ i, i ≤ (hdL xss g h).length → (tabN xss ps g h dt i).length ≤ i * (xss.length + 1)
  | 0, _ => Nat.zero_le _
  | i + 1, hi => by
    have h1 := tabN_len xss ps g h dt i (by omega)
    have h2 := detN_len xss ps g h dt ((hdL xss g h).getD i 0).toNat (cnt xss g h i)
    have h3 := cnt_le (xss := xss) (g := g) (h := h) (i := i) (by omega)
    rw [tabN, Nat.succ_mul]
    simp only [List.length_append, List.length_cons, List.length_nil]; omega
theorem tabN_bd {xss : List (List Int)} (ps : List (Int × Int)) (g h : Int) (dt : Bool) (hl : xss.length ≤ 40) {i : Nat} (hi : i ≤ (hdL xss g h).length) : (tabN xss ps g h dt i).length ≤ 1640 := by
  have h1 := tabN_len xss ps g h dt i hi
  have h2 := hdL_len xss g h
  have : i * (xss.length + 1) ≤ 40 * 41 := Nat.mul_le_mul (by omega) (by omega)
  omega
def resTab (g h : Int) (ps : List (Int × Int)) (dt : Bool) (xss : List (List Int)) : List (List UInt8) := if cTab g h ps xss = 0 then tabL xss ps g h dt else []
theorem resTab_len (g h : Int) (ps : List (Int × Int)) (dt : Bool) (xss : List (List Int)) : (resTab g h ps dt xss).length ≤ 2000 := by
  unfold resTab; split
  · rename_i hc
    have h1 := tabN_bd ps g h dt (okD_len (cTab_ok hc).1) (Nat.le_refl _)
    unfold tabL
    simp only [List.length_append, List.length_cons, List.length_nil]; omega
  · simp
theorem sline_len {xs : List Int} (h : ∀ n ∈ xs, In64 n) (hl : xs.length ≤ 4) : (sline xs).length ≤ 84 := by
  unfold sline; split
  · simp
  · have := (lineTo_len h xs.length (Nat.le_refl _)).1
    omega
theorem rowAt_in {xss : List (List Int)} {ps : List (Int × Int)} {W : Int} (h : TabOK xss ps W) {i : Nat} (hi : i < xss.length) : ∀ n ∈ rowAt xss ps i, In64 n := fun n hn => by
  rw [← sumL_one] at hn
  exact (h.one hi).in64 n hn
theorem sumR_in {xss : List (List Int)} {ps : List (Int × Int)} {W : Int} (h : TabOK xss ps W) {a b : Int} (hr : 0 ≤ a ∧ a ≤ b ∧ b ≤ xss.length) : ∀ n ∈ sumR xss ps a b, In64 n := fun n hn => by
  rw [← sumL_sub hr] at hn
  exact (h.sub _ _).in64 n hn
/-- what a round of the program's loop over groups meets -/
theorem grp_i {w : World} {lo hi : Nat} {v : Value} {xss : List (List Int)} {svs : List SV} {ps : List (Int × Int)} {g h W : Int} (dt : Bool) (hT : TabOK xss ps W) (hk3 : okN xss ps = true) (hk4 : okF xss g h = true) (hf : ∀ i, i < xss.length → 0 ≤ g ∧ g < h ∧ h ≤ (xss.getD i []).length) {i : Nat} (hi' : i < (hdL xss g h).length)
    (hgr : SLL w lo hi ((svs.take (toI xss.length (hdL xss g h) i).toNat).drop ((hdL xss g h).getD i 0).toNat) v ((xss.take (toI xss.length (hdL xss g h) i).toNat).drop ((hdL xss g h).getD i 0).toNat)) :
    ∃ (A : Nat) (sub : List (List Int)) (ssub : List SV), SLL w lo hi ssub v sub ∧ TabOK sub ps W ∧ okN sub ps = true ∧ 0 < sub.length ∧ sub.length ≤ 40 ∧ okT (prt (sub.getD (Int.toNat 0) []) g h) = true ∧ (0 ≤ g ∧ g < h ∧ h ≤ (sub.getD (Int.toNat 0) []).length) ∧ (sub.getD (Int.toNat 0) []).length ≤ 20 ∧ (textL (prt (sub.getD (Int.toNat 0) []) g h)).length ≤ 20 ∧ (sline (sumL sub ps)).length ≤ 84 ∧
      tabN xss ps g h dt (i + 1) = tabN xss ps g h dt i ++ detN xss ps g h dt A sub.length ++ [[42] ++ textL (prt (sub.getD (Int.toNat 0) []) g h) ++ [32] ++ sline (sumL sub ps)] ∧
      ∀ k, k < sub.length → detLine xss ps g h (A + k) = textL (prt (sub.getD (Int.toNat 0) []) g h) ++ [32] ++ sline (sumL [sub.getD k []] ps) := by
  have hb := hdL_bd hi'
  have hlen := hT.len
  have hsl : (((xss.take (toI xss.length (hdL xss g h) i).toNat).drop ((hdL xss g h).getD i 0).toNat).length : Int) = toI xss.length (hdL xss g h) i - (hdL xss g h).getD i 0 := by simp only [List.length_drop, List.length_take]; omega
  have hx0 : ((xss.take (toI xss.length (hdL xss g h) i).toNat).drop ((hdL xss g h).getD i 0).toNat).getD (Int.toNat 0) [] = xss.getD ((hdL xss g h).getD i 0).toNat [] := by
    rw [drop_take_getD (show Int.toNat 0 < _ by show 0 < _; omega)]; rfl
  have hTs := hT.sub ((hdL xss g h).getD i 0).toNat (toI xss.length (hdL xss g h) i).toNat
  have hLs := sumL_sub (ps := ps) (xss := xss) (a := (hdL xss g h).getD i 0) (b := toI xss.length (hdL xss g h) i) (by omega)
  have hcd := (hT.cd ((hdL xss g h).getD i 0).toNat (by omega)).2
  have hw := hT.wid
  have hf0 := hf ((hdL xss g h).getD i 0).toNat (by omega)
  have hk0 := okF_at hk4 (i := ((hdL xss g h).getD i 0).toNat) (by omega)
  have htx : (textL (prt (xss.getD ((hdL xss g h).getD i 0).toNat []) g h)).length ≤ 20 := by
    rw [textL_len]; have := prt_len hf0; omega
  refine ⟨((hdL xss g h).getD i 0).toNat, _, _, hgr, hTs, okN_sub hk3, by omega, by omega, by rw [hx0]; exact hk0, by rw [hx0]; exact hf0, by rw [hx0]; omega, by rw [hx0]; exact htx, sline_len hTs.in64 (by rw [sumL_len]; exact hTs.pl), ?_, fun k hk => ?_⟩
  · rw [tabN, show cnt xss g h i = ((xss.take (toI xss.length (hdL xss g h) i).toNat).drop ((hdL xss g h).getD i 0).toNat).length by unfold cnt; omega, grpLine, hx0, hLs]
  · have hg := group_same hi' k (by omega)
    rw [detLine, hg, hx0, drop_take_getD hk, sumL_one]
/-- what a round of the reference's loop over groups meets -/
theorem grp_s {xss : List (List Int)} {ps : List (Int × Int)} {g h W : Int} (dt : Bool) (hT : TabOK xss ps W) (hf : ∀ i, i < xss.length → 0 ≤ g ∧ g < h ∧ h ≤ (xss.getD i []).length) {i : Nat} (hi' : i < (hdL xss g h).length) :
    ∃ a c : Int, (hdL xss g h).getD i 0 = a ∧ toI (keysL xss g h).length (hdL xss g h) i = c ∧ (0 ≤ a ∧ a < c ∧ c ≤ xss.length) ∧ ((keysL xss g h).getD a.toNat []).length ≤ 20 ∧ (∀ n ∈ sumR xss ps a c, In64 n) ∧ (sumR xss ps a c).length ≤ 4 ∧ (sline (sumR xss ps a c)).length ≤ 84 ∧
      tabN xss ps g h dt (i + 1) = tabN xss ps g h dt i ++ detN xss ps g h dt a.toNat (c.toNat - a.toNat) ++ [[42] ++ (keysL xss g h).getD a.toNat [] ++ [32] ++ sline (sumR xss ps a c)] := by
  have hb := hdL_bd hi'
  have hf0 := hf ((hdL xss g h).getD i 0).toNat (by omega)
  have hcd := (hT.cd ((hdL xss g h).getD i 0).toNat (by omega)).2
  have hw := hT.wid
  have hq := sumR_in hT (a := (hdL xss g h).getD i 0) (b := toI xss.length (hdL xss g h) i) (by omega)
  have hl : (sumR xss ps ((hdL xss g h).getD i 0) (toI xss.length (hdL xss g h) i)).length ≤ 4 := by rw [sumR_len]; exact hT.pl
  refine ⟨_, _, rfl, by rw [keysL_len], hb, ?_, hq, hl, sline_len hq hl, ?_⟩
  · rw [keysL_getD (by omega), textL_len]; have := prt_len hf0; omega
  · rw [keysL_getD (by omega), tabN]; rfl
/-- a card's line -/
theorem det_s {xss : List (List Int)} {ps : List (Int × Int)} {g h W : Int} (hT : TabOK xss ps W) (hf : ∀ i, i < xss.length → 0 ≤ g ∧ g < h ∧ h ≤ (xss.getD i []).length) {j : Nat} (hj : j < xss.length) :
    ((keysL xss g h).getD j []).length ≤ 20 ∧ (∀ n ∈ (rowsL xss ps).getD j [], In64 n) ∧ ((rowsL xss ps).getD j []).length ≤ 4 ∧ (sline ((rowsL xss ps).getD j [])).length ≤ 84 ∧ detLine xss ps g h j = (keysL xss g h).getD j [] ++ [32] ++ sline ((rowsL xss ps).getD j []) := by
  have hf0 := hf j hj
  have hcd := (hT.cd j hj).2
  have hw := hT.wid
  have hq := rowAt_in hT hj
  have hl : (rowAt xss ps j).length ≤ 4 := by rw [rowAt_len]; exact hT.pl
  rw [keysL_getD hj, rowsL_getD hj, textL_len]
  have := prt_len hf0
  exact ⟨by omega, hq, hl, sline_len hq hl, rfl⟩
section
variable {w : World} {lo hi lp hp la ha b o e B : Nat} {v vp u : Value} {xs : List Int} {ps : List (Int × Int)} {xss : List (List Int)} {svs gs : List SV} {g h W : Int} {dt : Bool}
theorem sumText_c (hT : Tab B w := by assumption) (hs : SL w lp hp vp ps := by repeat (first | assumption | exact Go.Gw.Own.sl (by assumption) | exact Go.Gw.Box.at (by assumption) | exact Go.Gw.SLL.el (by first | assumption | exact Go.Gw.OwnD.sll (by assumption)) _ (by omega) | exact Go.Gw.SLL.at (by first | assumption | exact Go.Gw.OwnD.sll (by assumption)) (by omega) | exact Go.Gw.OwnD.sll (by assumption) | (apply Go.Gw.SL.chg; case hx => assumption) | (apply Go.Gw.Own.chg; case hx => assumption) | (apply Go.Gw.Box.chg; case hx => assumption) | (apply Go.Gw.At.chg; case hx => assumption) | exact .inl (Nat.zero_le _) | exact .inr (Nat.zero_le _) | (show _ ∨ _; omega))) (hd : SLL w lo hi svs v xss := by repeat (first | assumption | exact Go.Gw.Own.sl (by assumption) | exact Go.Gw.Box.at (by assumption) | exact Go.Gw.SLL.el (by first | assumption | exact Go.Gw.OwnD.sll (by assumption)) _ (by omega) | exact Go.Gw.SLL.at (by first | assumption | exact Go.Gw.OwnD.sll (by assumption)) (by omega) | exact Go.Gw.OwnD.sll (by assumption) | (apply Go.Gw.SL.chg; case hx => assumption) | (apply Go.Gw.Own.chg; case hx => assumption) | (apply Go.Gw.Box.chg; case hx => assumption) | (apply Go.Gw.At.chg; case hx => assumption) | exact .inl (Nat.zero_le _) | exact .inr (Nat.zero_le _) | (show _ ∨ _; omega))) (hk : TabOK xss ps W := by assumption) (hN : okN xss ps = true := by assumption) : Val Tryz.prog 63 [.agg #[.int .i64 g, .int .i64 h, vp, .bool dt], v] w (str (sline (sumL xss ps))) := by
  refine ⟨fun w1 hx1 => ?_⟩
  replace hs := hs.ext hx1
  replace hd := hd.ext hx1
  replace hT := hT.ext hx1
  have hq := hk.in64
  have hpl := hk.pl
  have hsl := sumL_len xss ps
  have E : Since 0 0 w1 w1 := Since.refl 0 0 w1
  refine ret_enter Tryz.func63 rfl Tryz.ntmps63 rfl ?_
  focus
    have ht_hs := hs.top
    have ht_hd := hd.top
    have ht_hT := hT.top
    refine c_seq ?_
    refine c_region ?_
    refine w_box rfl (k := fun b2 w2 hb2 hx2 hl2 hs2 => ?_)
    have hz_hx2 := hx2.size
    replace hs := hs.ext hx2
    replace hd := hd.ext hx2
    replace hT := hT.ext hx2
    replace E := E.trans hx2
    refine w_pure (y_assign rfl) rfl ?_
    refine w_nil ?_
    refine x_next ?_
    refine c_seq ?_
    refine c_region ?_
    refine w_pure (y_field rfl) rfl ?_
    refine w_pure (y_load_box rfl) rfl ?_
    refine w_pure (y_move rfl) rfl ?_
    (refine w_call rfl rfl rfl (sumsOf_c) rfl ?_; rintro _ w11 ⟨d11, rfl, ho11, hx11⟩; rw [if_pos hN] at ho11; have hz11 := hx11.size)
    have hl_ho11 := ho11.lt
    have hz_hx11 := hx11.size
    replace hb2 := hb2.ext hx11
    replace hs := hs.ext hx11
    replace hd := hd.ext hx11
    replace hT := hT.ext hx11
    replace E := E.trans hx11
    refine w_pure (y_move rfl) rfl ?_
    refine w_pure (y_extract rfl rfl) rfl ?_
    refine w_pure (y_extract rfl rfl) rfl ?_
    refine w_pure (y_assign rfl) rfl ?_
    refine w_pure (y_assign rfl) rfl ?_
    refine w_nil ?_
    refine x_next ?_
    refine c_seq ?_
    refine c_region ?_
    refine w_pure (y_move rfl) rfl ?_
    refine w_val rfl rfl rfl (iSumLine_c) rfl (fun w15 hx15 hz15 => ?_)
    have hz_hx15 := hx15.size
    replace ho11 := ho11.ext hx15
    replace hb2 := hb2.ext hx15
    replace hs := hs.ext hx15
    replace hd := hd.ext hx15
    replace hT := hT.ext hx15
    replace E := E.trans hx15
    refine w_pure (y_assign rfl) rfl ?_
    refine w_nil ?_
    refine x_next ?_
    refine c_ret ?_
    rotate_left
  exact x_retv [_] rfl ⟨rfl, trivial⟩ ⟨rfl, E.go⟩
/-- the same for one card -/
theorem sumText_one (hT : Tab B w := by assumption) (hs : SL w lp hp vp ps := by repeat (first | assumption | exact Go.Gw.Own.sl (by assumption) | exact Go.Gw.Box.at (by assumption) | exact Go.Gw.SLL.el (by first | assumption | exact Go.Gw.OwnD.sll (by assumption)) _ (by omega) | exact Go.Gw.SLL.at (by first | assumption | exact Go.Gw.OwnD.sll (by assumption)) (by omega) | exact Go.Gw.OwnD.sll (by assumption) | (apply Go.Gw.SL.chg; case hx => assumption) | (apply Go.Gw.Own.chg; case hx => assumption) | (apply Go.Gw.Box.chg; case hx => assumption) | (apply Go.Gw.At.chg; case hx => assumption) | exact .inl (Nat.zero_le _) | exact .inr (Nat.zero_le _) | (show _ ∨ _; omega))) (ho : Own w e o v [svOf u] := by assumption) (hu : SL w lo hi u xs := by repeat (first | assumption | exact Go.Gw.Own.sl (by assumption) | exact Go.Gw.Box.at (by assumption) | exact Go.Gw.SLL.el (by first | assumption | exact Go.Gw.OwnD.sll (by assumption)) _ (by omega) | exact Go.Gw.SLL.at (by first | assumption | exact Go.Gw.OwnD.sll (by assumption)) (by omega) | exact Go.Gw.OwnD.sll (by assumption) | (apply Go.Gw.SL.chg; case hx => assumption) | (apply Go.Gw.Own.chg; case hx => assumption) | (apply Go.Gw.Box.chg; case hx => assumption) | (apply Go.Gw.At.chg; case hx => assumption) | exact .inl (Nat.zero_le _) | exact .inr (Nat.zero_le _) | (show _ ∨ _; omega))) (hk : TabOK [xs] ps W := by assumption) (hN : okN [xs] ps = true := by assumption) : Val Tryz.prog 63 [.agg #[.int .i64 g, .int .i64 h, vp, .bool dt], v] w (str (sline (sumL [xs] ps))) := by
  have h1 : SLL w 0 w.heap.size [svOf u] v [xs] := by
    refine ⟨ho.fresh.wide (Nat.zero_le _) (Nat.le_refl _) (Nat.le_refl _), rfl, fun i hi => ?_⟩
    obtain rfl : i = 0 := by simpa using hi
    have e1 : svD [svOf u] 0 = u := svOf_v hu
    rw [e1]
    exact hu.wide (Nat.zero_le _) hu.top (Nat.le_refl _)
  exact sumText_c hT hs h1 hk hN
set_option maxHeartbeats 4000000 in
theorem iTabulateDeck_c (hT : Tab B w := by assumption) (hs : SL w lp hp vp ps := by repeat (first | assumption | exact Go.Gw.Own.sl (by assumption) | exact Go.Gw.Box.at (by assumption) | exact Go.Gw.SLL.el (by first | assumption | exact Go.Gw.OwnD.sll (by assumption)) _ (by omega) | exact Go.Gw.SLL.at (by first | assumption | exact Go.Gw.OwnD.sll (by assumption)) (by omega) | exact Go.Gw.OwnD.sll (by assumption) | (apply Go.Gw.SL.chg; case hx => assumption) | (apply Go.Gw.Own.chg; case hx => assumption) | (apply Go.Gw.Box.chg; case hx => assumption) | (apply Go.Gw.At.chg; case hx => assumption) | exact .inl (Nat.zero_le _) | exact .inr (Nat.zero_le _) | (show _ ∨ _; omega))) (hd : SLL w lo hi svs v xss := by repeat (first | assumption | exact Go.Gw.Own.sl (by assumption) | exact Go.Gw.Box.at (by assumption) | exact Go.Gw.SLL.el (by first | assumption | exact Go.Gw.OwnD.sll (by assumption)) _ (by omega) | exact Go.Gw.SLL.at (by first | assumption | exact Go.Gw.OwnD.sll (by assumption)) (by omega) | exact Go.Gw.OwnD.sll (by assumption) | (apply Go.Gw.SL.chg; case hx => assumption) | (apply Go.Gw.Own.chg; case hx => assumption) | (apply Go.Gw.Box.chg; case hx => assumption) | (apply Go.Gw.At.chg; case hx => assumption) | exact .inl (Nat.zero_le _) | exact .inr (Nat.zero_le _) | (show _ ∨ _; omega))) : Ret Tryz.prog 9 [.agg #[.int .i64 g, .int .i64 h, vp, .bool dt], v] w fun u w' => ∃ d, u = .tuple #[d, .int .i64 (cTab g h ps xss)] ∧ Own w' 9 w.heap.size d (resTab g h ps dt xss) ∧ Ext w w' := by
  have E : Since 0 0 w w := Since.refl 0 0 w
  by_cases hc : cTab g h ps xss = 0
  case neg =>
    refine ret_enter Tryz.func9 rfl Tryz.ntmps9 rfl ?_
    focus
      have ht_hT := hT.top
      have ht_hs := hs.top
      have ht_hd := hd.top
      refine c_seq ?_
      refine c_region ?_
      refine w_box rfl (k := fun b2 w2 hb2 hx2 hl2 hs2 => ?_)
      have hz_hx2 := hx2.size
      replace hT := hT.ext hx2
      replace hs := hs.ext hx2
      replace hd := hd.ext hx2
      replace E := E.trans hx2
      refine w_pure (y_assign rfl) rfl ?_
      refine w_pure (y_assign rfl) rfl ?_
      refine w_nil ?_
      refine x_next ?_
      refine c_seq ?_
      refine c_seq ?_
      refine c_region ?_
      refine w_pure (y_load_boxs rfl) rfl ?_
      refine w_pure (y_move rfl) rfl ?_
      refine w_val rfl rfl rfl (setupCode_c) rfl (fun w15 hx15 hz15 => ?_)
      have hz_hx15 := hx15.size
      replace hb2 := hb2.ext hx15
      replace hT := hT.ext hx15
      replace hs := hs.ext hx15
      replace hd := hd.ext hx15
      replace E := E.trans hx15
      refine w_pure (y_assign rfl) rfl ?_
      refine w_nil ?_
      refine x_next ?_
      refine c_seq ?_
      refine c_region ?_
      refine w_pure (y_move rfl) rfl ?_
      refine w_pure (y_ne rfl rfl) rfl ?_
      refine w_nil ?_
      refine x_next ?_
      (refine c_dec rfl (fun hc17 => ?_) (fun hc17 => ?_) <;> try (first | exact absurd rfl hc17 | contradiction | exact Bool.noConfusion (show false = true from hc17.symm.trans (by assumption)) | exact Bool.noConfusion (show true = false from hc17.symm.trans (by assumption)) | (exfalso; omega) | (exfalso; simp only [*, Bool.not_true, Bool.not_false, reduceCtorEq] at hc17; done)))
      refine c_seq ?_
      refine c_region ?_
      refine w_pure (y_move rfl) rfl ?_
      refine w_pure (y_assign rfl) rfl ?_
      refine w_pure (y_assign rfl) rfl ?_
      refine w_nil ?_
      refine x_next ?_
      refine c_ret ?_
      refine x_then_ret ?_
      rotate_left
    exact x_retv [_, _] rfl ⟨rfl, rfl, trivial⟩ ⟨_, rfl, by rw [resTab, if_neg hc]; exact Own.nil _ _ _, E.go⟩
  obtain ⟨hk, hk2, hk3, hk4⟩ := cTab_ok hc
  have hTb := TabOK.of hk hk2
  have hd40 := okD_len hk
  have hdl := hdL_len xss g h
  have hf : ∀ i, i < xss.length → 0 ≤ g ∧ g < h ∧ h ≤ (xss.getD i []).length := fun i hi => by
    have h1 := (okSet_at hk2).1.2.1
    have h2 := widD_at hk i hi
    omega
  refine ret_enter Tryz.func9 rfl Tryz.ntmps9 rfl ?_
  focus
    have ht_hT := hT.top
    have ht_hs := hs.top
    have ht_hd := hd.top
    refine c_seq ?_
    refine c_region ?_
    refine w_box rfl (k := fun b2 w2 hb2 hx2 hl2 hs2 => ?_)
    have hz_hx2 := hx2.size
    replace hT := hT.ext hx2
    replace hs := hs.ext hx2
    replace hd := hd.ext hx2
    replace E := E.trans hx2
    refine w_pure (y_assign rfl) rfl ?_
    refine w_pure (y_assign rfl) rfl ?_
    refine w_nil ?_
    refine x_next ?_
    refine c_seq ?_
    refine c_seq ?_
    refine c_region ?_
    refine w_pure (y_load_boxs rfl) rfl ?_
    refine w_pure (y_move rfl) rfl ?_
    refine w_val rfl rfl rfl (setupCode_c) rfl (fun w15 hx15 hz15 => ?_)
    have hz_hx15 := hx15.size
    replace hb2 := hb2.ext hx15
    replace hT := hT.ext hx15
    replace hs := hs.ext hx15
    replace hd := hd.ext hx15
    replace E := E.trans hx15
    refine w_pure (y_assign rfl) rfl ?_
    refine w_nil ?_
    refine x_next ?_
    refine c_seq ?_
    refine c_region ?_
    refine w_pure (y_move rfl) rfl ?_
    refine w_pure (y_ne rfl rfl) rfl ?_
    refine w_nil ?_
    refine x_next ?_
    (refine c_dec rfl (fun hc17 => ?_) (fun hc17 => ?_) <;> try (first | exact absurd rfl hc17 | contradiction | exact Bool.noConfusion (show false = true from hc17.symm.trans (by assumption)) | exact Bool.noConfusion (show true = false from hc17.symm.trans (by assumption)) | (exfalso; omega) | (exfalso; simp only [*, Bool.not_true, Bool.not_false, reduceCtorEq] at hc17; done)))
    refine c_skip ?_
    refine x_next ?_
    refine c_seq ?_
    refine c_region ?_
    refine w_lit_s0 rfl (k := fun v19 w19 ho19 hx19 hl19 hh19 hs19 => ?_)
    have hl_ho19 := ho19.lt
    have hz_hx19 := hx19.size
    replace hb2 := hb2.ext hx19
    replace hT := hT.ext hx19
    replace hs := hs.ext hx19
    replace hd := hd.ext hx19
    replace E := E.trans hx19
    refine w_pure (y_assign rfl) rfl ?_
    refine w_nil ?_
    refine x_next ?_
    refine c_seq ?_
    refine c_seq ?_
    refine c_region ?_
    refine w_pure (y_move rfl) rfl ?_
    refine w_pure (y_field rfl) rfl ?_
    refine w_pure (y_load_boxp rfl) rfl ?_
    (refine w_call rfl rfl rfl (groups_c _ _) rfl ?_; rintro v23 w23 ⟨gs23, ⟨hp1_23, ⟨hp2_23, ⟨hp3_23, hx23⟩⟩⟩⟩)
    have hl_hp1_23 := hp1_23.lt
    have hz_hx23 := hx23.size
    replace ho19 := ho19.ext hx23
    replace hb2 := hb2.ext hx23
    replace hT := hT.ext hx23
    replace hs := hs.ext hx23
    replace hd := hd.ext hx23
    replace E := E.trans hx23
    refine w_pure (y_len rfl) rfl ?_
    refine w_pure (y_move rfl) rfl ?_
    refine w_nil ?_
    refine x_next ?_
    refine c_block ?_
    rotate_left
  have hsl4 := sline_len hTb.in64 (by rw [sumL_len]; exact hTb.pl)
  refine c_loopC (bL v19) (bH v19) (ι := Int × Value) (fun x => [(1, v), (2, ptr b2 0), (7, x.2), (23, v23), (24, .int .i64 gs23.length), (25, .int .i64 x.1)])
    (fun x w' => Own w' 9 w.heap.size x.2 (tabN xss ps g h dt x.1.toNat) ∧ ((bL x.2 = bL v19 ∧ bH x.2 = bH v19) ∨ w23.heap.size ≤ bL x.2) ∧ 0 ≤ x.1 ∧ x.1 ≤ (hdL xss g h).length) (fun x => ((hdL xss g h).length - x.1).toNat) (0, v19)
    (by repeat (first | exact trivial | refine ⟨rfl, ?_⟩)) ⟨by show Own _ _ _ v19 []; exact Own.base (by assumption) (by omega), .inl ⟨rfl, rfl⟩, by dsimp only; omega, by dsimp only; omega⟩ ?_
  clear ho19
  rintro ⟨i, u⟩ wL hxL EL ⟨g3, g4, hi0, hi1⟩
  dsimp only at *
  have e1 : (i + 1).toNat = i.toNat + 1 := by omega
  have htl := tabN_bd ps g h dt hd40 (i := i.toNat) (by omega)
  by_cases hli : i < (hdL xss g h).length
  case neg =>
    focus
      have hl_g3 := g3.lt
      have hz_hxL := hxL.size
      replace hp1_23 := hp1_23.chg hxL (by omega)
      replace hp2_23 := hp2_23.chg hxL (by omega)
      replace hb2 := hb2.chg hxL (by omega)
      replace hT := hT.chg hxL (by omega)
      replace hs := hs.chg hxL (by omega)
      replace hd := hd.chg hxL (by omega)
      replace E := E.next hxL (by omega)
      refine c_seq ?_
      refine c_region ?_
      refine w_pure (y_lt rfl rfl) rfl ?_
      refine w_nil ?_
      refine x_next ?_
      refine c_seq ?_
      (refine c_dec rfl (fun hc26 => ?_) (fun hc26 => ?_) <;> try (first | exact absurd rfl hc26 | contradiction | exact Bool.noConfusion (show false = true from hc26.symm.trans (by assumption)) | exact Bool.noConfusion (show true = false from hc26.symm.trans (by assumption)) | (exfalso; omega) | (exfalso; simp only [*, Bool.not_true, Bool.not_false, reduceCtorEq] at hc26; done)))
      refine c_exit ?_
      refine x_then_exit ?_
      refine x_then_exit ?_
      refine x_block_hit ?_
      refine x_next ?_
      refine c_seq ?_
      refine c_region ?_
      refine w_pure (y_move rfl) rfl ?_
      refine w_pure (y_load_boxs rfl) rfl ?_
      refine w_pure (y_move rfl) rfl ?_
      refine w_val rfl rfl rfl (sumText_c) rfl (fun w68 hx68 hz68 => ?_)
      have hz_hx68 := hx68.size
      replace EL := EL.next hx68 (by omega)
      replace g3 := g3.ext hx68
      replace hp1_23 := hp1_23.ext hx68
      replace hp2_23 := hp2_23.ext hx68
      replace hb2 := hb2.ext hx68
      replace hT := hT.ext hx68
      replace hs := hs.ext hx68
      replace hd := hd.ext hx68
      replace E := E.trans hx68
      refine w_pure (y_scat rfl rfl (by simp only [List.length_cons, List.length_nil, List.length_append]; omega)) rfl ?_
      refine w_lit (α := (List UInt8)) rfl rfl rfl rfl rfl rfl rfl rfl (fun v70 w70 ho70 hx70 hl70 hh70 hs70 => ?_)
      have hl_ho70 := ho70.lt
      have hz_hx70 := hx70.size
      replace EL := EL.next hx70 (by omega)
      replace g3 := g3.ext hx70
      replace hp1_23 := hp1_23.ext hx70
      replace hp2_23 := hp2_23.ext hx70
      replace hb2 := hb2.ext hx70
      replace hT := hT.ext hx70
      replace hs := hs.ext hx70
      replace hd := hd.ext hx70
      replace E := E.trans hx70
      refine w_append rfl rfl (k := fun v71 w71 ho71 hx71 hr71 => ?_)
      have hl_ho71 := ho71.lt
      have hz_hx71 := hx71.size
      replace ho70 := ho70.chg hx71 (by omega)
      replace EL := EL.next hx71 (by omega)
      replace hp1_23 := hp1_23.chg hx71 (by omega)
      replace hp2_23 := hp2_23.chg hx71 (by omega)
      replace hb2 := hb2.chg hx71 (by omega)
      replace hT := hT.chg hx71 (by omega)
      replace hs := hs.chg hx71 (by omega)
      replace hd := hd.chg hx71 (by omega)
      replace E := E.next hx71 (by omega)
      refine w_pure (y_assign rfl) rfl ?_
      refine w_pure (y_assign rfl) rfl ?_
      refine w_nil ?_
      refine x_next ?_
      refine c_ret ?_
      rotate_left
    refine x_retv [_, _] rfl ⟨rfl, rfl, trivial⟩ ⟨_, by rw [hc]; rfl, ?_, E.go⟩
    rw [show i.toNat = (hdL xss g h).length by omega] at ho71
    rw [resTab, if_pos hc]
    exact Own.base (by assumption) (by omega)
  have hgr0 := hp2_23.el i.toNat (by omega)
  obtain ⟨A, sub, ssub, hgr, hTs, hNs, hs0, hs40, hk0, hf0, hcd, htx, hs84, hstep, hdet⟩ := grp_i dt hTb hk3 hk4 hf (by omega) hgr0
  clear hgr0
  focus
    have hl_g3 := g3.lt
    have ht_hgr := hgr.top
    have hz_hxL := hxL.size
    replace hp1_23 := hp1_23.chg hxL (by omega)
    replace hp2_23 := hp2_23.chg hxL (by omega)
    replace hb2 := hb2.chg hxL (by omega)
    replace hT := hT.chg hxL (by omega)
    replace hs := hs.chg hxL (by omega)
    replace hd := hd.chg hxL (by omega)
    replace E := E.next hxL (by omega)
    replace hgr := hgr.chg hxL (by omega)
    refine c_seq ?_
    refine c_region ?_
    refine w_pure (y_lt rfl rfl) rfl ?_
    refine w_nil ?_
    refine x_next ?_
    refine c_seq ?_
    (refine c_dec rfl (fun hc26 => ?_) (fun hc26 => ?_) <;> try (first | exact absurd rfl hc26 | contradiction | exact Bool.noConfusion (show false = true from hc26.symm.trans (by assumption)) | exact Bool.noConfusion (show true = false from hc26.symm.trans (by assumption)) | (exfalso; omega) | (exfalso; simp only [*, Bool.not_true, Bool.not_false, reduceCtorEq] at hc26; done)))
    refine c_skip ?_
    refine x_next ?_
    refine c_seq ?_
    refine c_block ?_
    refine c_seq ?_
    refine c_region ?_
    refine w_pure (y_index rfl rfl) rfl ?_
    refine w_pure (y_load_svo rfl) rfl ?_
    refine w_pure (y_assign rfl) rfl ?_
    refine w_nil ?_
    refine x_next ?_
    refine c_seq ?_
    refine c_region_held mixed (fun wr8 hxr8 hzr8 => ?_)
    have hz_hxr8 := hxr8.size
    replace EL := EL.next hxr8 (by omega)
    replace g3 := g3.ext hxr8
    replace hp1_23 := hp1_23.ext hxr8
    replace hp2_23 := hp2_23.ext hxr8
    replace hb2 := hb2.ext hxr8
    replace hT := hT.ext hxr8
    replace hs := hs.ext hxr8
    replace hd := hd.ext hxr8
    replace E := E.trans hxr8
    replace hgr := hgr.ext hxr8
    refine h_pure rfl (y_move rfl) rfl ?_
    refine h_pure rfl (y_indexd rfl rfl) rfl ?_
    refine h_pure rfl (y_loads rfl) rfl ?_
    refine h_pure rfl (y_field rfl) rfl ?_
    refine h_pure rfl (y_load_boxp rfl) rfl ?_
    refine h_one rfl ?_
    refine w_val rfl rfl rfl (fieldText_c _ _) rfl (fun w34 hx34 hz34 => ?_)
    have hz_hx34 := hx34.size
    replace EL := EL.next hx34 (by omega)
    replace g3 := g3.ext hx34
    replace hp1_23 := hp1_23.ext hx34
    replace hp2_23 := hp2_23.ext hx34
    replace hb2 := hb2.ext hx34
    replace hT := hT.ext hx34
    replace hs := hs.ext hx34
    replace hd := hd.ext hx34
    replace E := E.trans hx34
    replace hgr := hgr.ext hx34
    refine w_nil ?_
    refine x_held ?_
    refine h_pure rfl (y_assign rfl) rfl ?_
    refine h_nil ?_
    refine x_next ?_
    refine c_seq ?_
    refine c_seq ?_
    refine c_region ?_
    refine w_pure (y_move rfl) rfl ?_
    refine w_pure (y_lend rfl) rfl ?_
    refine w_pure (y_move rfl) rfl ?_
    refine w_nil ?_
    refine x_next ?_
    refine c_block ?_
    rotate_left
  refine c_loopC (bL u) (bH u) (ι := Int × Value) (fun x => [(1, v), (2, ptr b2 0), (7, x.2), (9, svD gs23 i.toNat), (10, str (textL (prt (sub.getD (Int.toNat 0) []) g h))), (23, v23), (24, .int .i64 gs23.length), (25, .int .i64 i), (35, svD gs23 i.toNat), (36, .int .i64 sub.length), (37, .int .i64 x.1)])
    (fun x w' => Own w' 9 w.heap.size x.2 (tabN xss ps g h dt i.toNat ++ detN xss ps g h dt A x.1.toNat) ∧ ((bL x.2 = bL u ∧ bH x.2 = bH u) ∨ w34.heap.size ≤ bL x.2) ∧ 0 ≤ x.1 ∧ x.1 ≤ sub.length) (fun x => (sub.length - x.1).toNat) (0, u)
    (by repeat (first | exact trivial | refine ⟨rfl, ?_⟩)) ⟨by show Own _ _ _ u (_ ++ []); rw [List.append_nil]; assumption, .inl ⟨rfl, rfl⟩, by dsimp only; omega, by dsimp only; omega⟩ ?_
  clear g3
  rintro ⟨k, u2⟩ wM hxM EM ⟨g6, g5, hk0', hk1'⟩
  dsimp only at *
  have e2 : (k + 1).toNat = k.toNat + 1 := by omega
  have hdn := detN_len xss ps g h dt A k.toNat
  have hal : (tabN xss ps g h dt i.toNat ++ detN xss ps g h dt A k.toNat).length ≤ 1700 := by rw [List.length_append]; omega
  by_cases hlk : k < sub.length
  case neg =>
    focus
      have hl_g6 := g6.lt
      have hz_hxM := hxM.size
      replace EL := EL.next hxM (by omega)
      replace hp1_23 := hp1_23.chg hxM (by omega)
      replace hp2_23 := hp2_23.chg hxM (by omega)
      replace hb2 := hb2.chg hxM (by omega)
      replace hT := hT.chg hxM (by omega)
      replace hs := hs.chg hxM (by omega)
      replace hd := hd.chg hxM (by omega)
      replace E := E.next hxM (by omega)
      replace hgr := hgr.chg hxM (by omega)
      refine c_seq ?_
      refine c_region ?_
      refine w_pure (y_lt rfl rfl) rfl ?_
      refine w_nil ?_
      refine x_next ?_
      refine c_seq ?_
      (refine c_dec rfl (fun hc38 => ?_) (fun hc38 => ?_) <;> try (first | exact absurd rfl hc38 | contradiction | exact Bool.noConfusion (show false = true from hc38.symm.trans (by assumption)) | exact Bool.noConfusion (show true = false from hc38.symm.trans (by assumption)) | (exfalso; omega) | (exfalso; simp only [*, Bool.not_true, Bool.not_false, reduceCtorEq] at hc38; done)))
      refine c_exit ?_
      refine x_then_exit ?_
      refine x_then_exit ?_
      refine x_block_hit ?_
      refine x_next ?_
      refine c_region ?_
      refine w_pure (y_move rfl) rfl ?_
      refine w_pure (y_move rfl) rfl ?_
      refine w_pure (y_scat rfl rfl (by simp only [List.length_cons, List.length_nil, List.length_append]; omega)) rfl ?_
      refine w_pure (y_scat rfl rfl (by simp only [List.length_cons, List.length_nil, List.length_append]; omega)) rfl ?_
      refine w_pure (y_load_boxs rfl) rfl ?_
      refine w_pure (y_move rfl) rfl ?_
      refine w_val rfl rfl rfl (sumText_c (hN := hNs) (hk := hTs)) rfl (fun w60 hx60 hz60 => ?_)
      have hz_hx60 := hx60.size
      replace EM := EM.next hx60 (by omega)
      replace g6 := g6.ext hx60
      replace EL := EL.next hx60 (by omega)
      replace hp1_23 := hp1_23.ext hx60
      replace hp2_23 := hp2_23.ext hx60
      replace hb2 := hb2.ext hx60
      replace hT := hT.ext hx60
      replace hs := hs.ext hx60
      replace hd := hd.ext hx60
      replace E := E.trans hx60
      replace hgr := hgr.ext hx60
      refine w_pure (y_scat rfl rfl (by simp only [List.length_cons, List.length_nil, List.length_append]; omega)) rfl ?_
      refine w_lit (α := (List UInt8)) rfl rfl rfl rfl rfl rfl rfl rfl (fun v62 w62 ho62 hx62 hl62 hh62 hs62 => ?_)
      have hl_ho62 := ho62.lt
      have hz_hx62 := hx62.size
      replace EM := EM.next hx62 (by omega)
      replace g6 := g6.ext hx62
      replace EL := EL.next hx62 (by omega)
      replace hp1_23 := hp1_23.ext hx62
      replace hp2_23 := hp2_23.ext hx62
      replace hb2 := hb2.ext hx62
      replace hT := hT.ext hx62
      replace hs := hs.ext hx62
      replace hd := hd.ext hx62
      replace E := E.trans hx62
      replace hgr := hgr.ext hx62
      refine w_append rfl rfl (k := fun v63 w63 ho63 hx63 hr63 => ?_)
      have hl_ho63 := ho63.lt
      have hz_hx63 := hx63.size
      replace ho62 := ho62.chg hx63 (by omega)
      replace EM := EM.next hx63 (by omega)
      replace EL := EL.next hx63 (by omega)
      replace hp1_23 := hp1_23.chg hx63 (by omega)
      replace hp2_23 := hp2_23.chg hx63 (by omega)
      replace hb2 := hb2.chg hx63 (by omega)
      replace hT := hT.chg hx63 (by omega)
      replace hs := hs.chg hx63 (by omega)
      replace hd := hd.chg hx63 (by omega)
      replace E := E.next hx63 (by omega)
      replace hgr := hgr.chg hx63 (by omega)
      refine w_pure (y_assign rfl) rfl ?_
      refine w_nil ?_
      refine x_block_norm ?_
      refine x_next ?_
      refine c_region ?_
      refine w_pure (y_add rfl rfl) rfl ?_
      refine w_pure (y_move rfl) rfl ?_
      refine w_nil ?_
      rotate_left
    refine x_again (i + 1, v63) (by repeat (first | exact trivial | refine ⟨rfl, ?_⟩)) ⟨EL.go, ?_, by dsimp only; omega, by dsimp only; omega, by dsimp only; omega⟩ (by dsimp only; omega)
    dsimp only
    rw [e1, hstep, show sub.length = k.toNat by omega]
    exact Own.base (by assumption) (by omega)
  cases dt
  · focus
      have hl_g6 := g6.lt
      have hz_hxM := hxM.size
      replace EL := EL.next hxM (by omega)
      replace hp1_23 := hp1_23.chg hxM (by omega)
      replace hp2_23 := hp2_23.chg hxM (by omega)
      replace hT := hT.chg hxM (by omega)
      replace hs := hs.chg hxM (by omega)
      replace hd := hd.chg hxM (by omega)
      replace E := E.next hxM (by omega)
      replace hgr := hgr.chg hxM (by omega)
      replace hb2 := hb2.chg hxM (by omega)
      refine c_seq ?_
      refine c_region ?_
      refine w_pure (y_lt rfl rfl) rfl ?_
      refine w_nil ?_
      refine x_next ?_
      refine c_seq ?_
      (refine c_dec rfl (fun hc38 => ?_) (fun hc38 => ?_) <;> try (first | exact absurd rfl hc38 | contradiction | exact Bool.noConfusion (show false = true from hc38.symm.trans (by assumption)) | exact Bool.noConfusion (show true = false from hc38.symm.trans (by assumption)) | (exfalso; omega) | (exfalso; simp only [*, Bool.not_true, Bool.not_false, reduceCtorEq] at hc38; done)))
      refine c_skip ?_
      refine x_next ?_
      refine c_seq ?_
      refine c_block ?_
      refine c_seq ?_
      refine c_region ?_
      refine w_pure (y_indexd rfl rfl) rfl ?_
      refine w_pure (y_loads rfl) rfl ?_
      refine w_alloc (k := fun b12 w12 hb12 hx12 hl12 hs12 => ?_)
      have hz_hx12 := hx12.size
      replace EM := EM.next hx12 (by omega)
      replace g6 := g6.ext hx12
      replace EL := EL.next hx12 (by omega)
      replace hp1_23 := hp1_23.ext hx12
      replace hp2_23 := hp2_23.ext hx12
      replace hT := hT.ext hx12
      replace hs := hs.ext hx12
      replace hd := hd.ext hx12
      replace E := E.trans hx12
      replace hgr := hgr.ext hx12
      replace hb2 := hb2.ext hx12
      refine w_store_boxs rfl rfl (next := fun ws17 hbs17 hxs17 hss17 => ?_)
      (replace hb12 := hbs17; clear hbs17)
      have hz_hxs17 := hxs17.size
      replace EM := EM.next hxs17 (by omega)
      replace g6 := g6.chg hxs17 (by omega)
      replace EL := EL.next hxs17 (by omega)
      replace hp1_23 := hp1_23.chg hxs17 (by omega)
      replace hp2_23 := hp2_23.chg hxs17 (by omega)
      replace hT := hT.chg hxs17 (by omega)
      replace hs := hs.chg hxs17 (by omega)
      replace hd := hd.chg hxs17 (by omega)
      replace E := E.next hxs17 (by omega)
      replace hgr := hgr.chg hxs17 (by omega)
      replace hb2 := hb2.chg hxs17 (by omega)
      refine w_nil ?_
      refine x_next ?_
      refine c_seq ?_
      refine c_region ?_
      refine w_pure (y_field rfl) rfl ?_
      refine w_pure (y_load_box rfl) rfl ?_
      refine w_nil ?_
      refine x_next ?_
      refine c_false rfl ?_
      refine c_skip ?_
      refine x_block_norm ?_
      refine x_next ?_
      refine c_region ?_
      refine w_pure (y_add rfl rfl) rfl ?_
      refine w_pure (y_move rfl) rfl ?_
      refine w_nil ?_
      rotate_left
    refine x_again (k + 1, u2) (by repeat (first | exact trivial | refine ⟨rfl, ?_⟩)) ⟨EM.go, ?_, by dsimp only; omega, by dsimp only; omega, by dsimp only; omega⟩ (by dsimp only; omega)
    dsimp only
    rw [e2, detN, if_neg (by decide), List.append_nil]
    exact Own.base (by assumption) (by omega)
  have hT1 := hTs.one (i := k.toNat) (by omega)
  have hN1 := okN_one (i := k.toNat) hNs (by omega)
  have hs1 := sline_len hT1.in64 (by rw [sumL_len]; exact hT1.pl)
  have hd1 := hdet k.toNat (by omega)
  focus
    have hl_g6 := g6.lt
    have hz_hxM := hxM.size
    replace EL := EL.next hxM (by omega)
    replace hp1_23 := hp1_23.chg hxM (by omega)
    replace hp2_23 := hp2_23.chg hxM (by omega)
    replace hT := hT.chg hxM (by omega)
    replace hs := hs.chg hxM (by omega)
    replace hd := hd.chg hxM (by omega)
    replace E := E.next hxM (by omega)
    replace hgr := hgr.chg hxM (by omega)
    replace hb2 := hb2.chg hxM (by omega)
    refine c_seq ?_
    refine c_region ?_
    refine w_pure (y_lt rfl rfl) rfl ?_
    refine w_nil ?_
    refine x_next ?_
    refine c_seq ?_
    (refine c_dec rfl (fun hc38 => ?_) (fun hc38 => ?_) <;> try (first | exact absurd rfl hc38 | contradiction | exact Bool.noConfusion (show false = true from hc38.symm.trans (by assumption)) | exact Bool.noConfusion (show true = false from hc38.symm.trans (by assumption)) | (exfalso; omega) | (exfalso; simp only [*, Bool.not_true, Bool.not_false, reduceCtorEq] at hc38; done)))
    refine c_skip ?_
    refine x_next ?_
    refine c_seq ?_
    refine c_block ?_
    refine c_seq ?_
    refine c_region ?_
    refine w_pure (y_indexd rfl rfl) rfl ?_
    refine w_pure (y_loads rfl) rfl ?_
    refine w_alloc (k := fun b12 w12 hb12 hx12 hl12 hs12 => ?_)
    have hz_hx12 := hx12.size
    replace EM := EM.next hx12 (by omega)
    replace g6 := g6.ext hx12
    replace EL := EL.next hx12 (by omega)
    replace hp1_23 := hp1_23.ext hx12
    replace hp2_23 := hp2_23.ext hx12
    replace hT := hT.ext hx12
    replace hs := hs.ext hx12
    replace hd := hd.ext hx12
    replace E := E.trans hx12
    replace hgr := hgr.ext hx12
    replace hb2 := hb2.ext hx12
    refine w_store_boxs rfl rfl (next := fun ws17 hbs17 hxs17 hss17 => ?_)
    (replace hb12 := hbs17; clear hbs17)
    have hz_hxs17 := hxs17.size
    replace EM := EM.next hxs17 (by omega)
    replace g6 := g6.chg hxs17 (by omega)
    replace EL := EL.next hxs17 (by omega)
    replace hp1_23 := hp1_23.chg hxs17 (by omega)
    replace hp2_23 := hp2_23.chg hxs17 (by omega)
    replace hT := hT.chg hxs17 (by omega)
    replace hs := hs.chg hxs17 (by omega)
    replace hd := hd.chg hxs17 (by omega)
    replace E := E.next hxs17 (by omega)
    replace hgr := hgr.chg hxs17 (by omega)
    replace hb2 := hb2.chg hxs17 (by omega)
    refine w_nil ?_
    refine x_next ?_
    refine c_seq ?_
    refine c_region ?_
    refine w_pure (y_field rfl) rfl ?_
    refine w_pure (y_load_box rfl) rfl ?_
    refine w_nil ?_
    refine x_next ?_
    refine c_true rfl ?_
    refine c_region ?_
    refine w_pure (y_move rfl) rfl ?_
    refine w_pure (y_move rfl) rfl ?_
    refine w_pure (y_scat rfl rfl (by simp only [List.length_cons, List.length_nil, List.length_append]; omega)) rfl ?_
    refine w_pure (y_load_boxs rfl) rfl ?_
    refine w_pure (y_load_boxs rfl) rfl ?_
    refine w_lit_cd rfl rfl (k := fun v48 w48 ho48 hx48 hl48 hh48 hs48 => ?_)
    have hl_ho48 := ho48.lt
    have hz_hx48 := hx48.size
    replace hb12 := hb12.ext hx48
    replace EM := EM.next hx48 (by omega)
    replace g6 := g6.ext hx48
    replace EL := EL.next hx48 (by omega)
    replace hp1_23 := hp1_23.ext hx48
    replace hp2_23 := hp2_23.ext hx48
    replace hT := hT.ext hx48
    replace hs := hs.ext hx48
    replace hd := hd.ext hx48
    replace E := E.trans hx48
    replace hgr := hgr.ext hx48
    replace hb2 := hb2.ext hx48
    refine w_val rfl rfl rfl (sumText_one (hN := hN1) (hk := hT1)) rfl (fun w49 hx49 hz49 => ?_)
    have hz_hx49 := hx49.size
    replace ho48 := ho48.ext hx49
    replace hb12 := hb12.ext hx49
    replace EM := EM.next hx49 (by omega)
    replace g6 := g6.ext hx49
    replace EL := EL.next hx49 (by omega)
    replace hp1_23 := hp1_23.ext hx49
    replace hp2_23 := hp2_23.ext hx49
    replace hT := hT.ext hx49
    replace hs := hs.ext hx49
    replace hd := hd.ext hx49
    replace E := E.trans hx49
    replace hgr := hgr.ext hx49
    replace hb2 := hb2.ext hx49
    refine w_pure (y_scat rfl rfl (by simp only [List.length_cons, List.length_nil, List.length_append]; omega)) rfl ?_
    refine w_lit (α := (List UInt8)) rfl rfl rfl rfl rfl rfl rfl rfl (fun v51 w51 ho51 hx51 hl51 hh51 hs51 => ?_)
    have hl_ho51 := ho51.lt
    have hz_hx51 := hx51.size
    replace ho48 := ho48.ext hx51
    replace hb12 := hb12.ext hx51
    replace EM := EM.next hx51 (by omega)
    replace g6 := g6.ext hx51
    replace EL := EL.next hx51 (by omega)
    replace hp1_23 := hp1_23.ext hx51
    replace hp2_23 := hp2_23.ext hx51
    replace hT := hT.ext hx51
    replace hs := hs.ext hx51
    replace hd := hd.ext hx51
    replace E := E.trans hx51
    replace hgr := hgr.ext hx51
    replace hb2 := hb2.ext hx51
    refine w_append rfl rfl (k := fun v52 w52 ho52 hx52 hr52 => ?_)
    have hl_ho52 := ho52.lt
    have hz_hx52 := hx52.size
    replace ho51 := ho51.chg hx52 (by omega)
    replace ho48 := ho48.chg hx52 (by omega)
    replace hb12 := hb12.chg hx52 (by omega)
    replace EM := EM.next hx52 (by omega)
    replace EL := EL.next hx52 (by omega)
    replace hp2_23 := hp2_23.chg hx52 (by omega)
    replace hT := hT.chg hx52 (by omega)
    replace hs := hs.chg hx52 (by omega)
    replace hd := hd.chg hx52 (by omega)
    replace E := E.next hx52 (by omega)
    replace hgr := hgr.chg hx52 (by omega)
    replace hb2 := hb2.chg hx52 (by omega)
    refine w_pure (y_assign rfl) rfl ?_
    refine w_nil ?_
    refine x_block_norm ?_
    refine x_next ?_
    refine c_region ?_
    refine w_pure (y_add rfl rfl) rfl ?_
    refine w_pure (y_move rfl) rfl ?_
    refine w_nil ?_
    rotate_left
  refine x_again (k + 1, v52) (by repeat (first | exact trivial | refine ⟨rfl, ?_⟩)) ⟨EM.go, ?_, by dsimp only; omega, by dsimp only; omega, by dsimp only; omega⟩ (by dsimp only; omega)
  dsimp only
  rw [e2, detN, if_pos rfl, hd1, ← List.append_assoc]
  exact Own.base (by assumption) (by omega)
end
end Go.Proofs.YtihnhelkfiaimaaGreatDoor

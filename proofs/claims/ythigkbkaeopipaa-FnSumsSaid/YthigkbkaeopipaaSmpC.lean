/- The walk of the law on sums of groups: they are the sums of all cards, and neighbours have other names. -/
import Derived.Test.YthigkbkaeopipaaSmpB
namespace Go.Proofs.Ythigkbkaeopipaa
open Go Go.Gw
set_option linter.unusedVariables false
set_option linter.unusedSimpArgs false
theorem hdG_gap (p : Nat → Bool) : ∀ n i, i < (hdG p n).length → p ((hdG p n).getD i 0).toNat = true ∧ ∀ m : Nat, (hdG p n).getD i 0 < m → (m : Int) < (if i + 1 < (hdG p n).length then (hdG p n).getD (i + 1) 0 else n) → p m = false
  | 0, i, h => by simp [hdG] at h
  | n + 1, i, h => by
    have ih := hdG_gap p n
    rw [hdG] at h ⊢
    split at h
    · rename_i hp
      rw [if_pos hp]
      by_cases hi : i < (hdG p n).length
      · have h1 := ih i hi
        rw [getD_append_lt hi]
        refine ⟨h1.1, fun m hm1 hm2 => h1.2 m hm1 ?_⟩
        by_cases h3 : i + 1 < (hdG p n).length
        · rw [if_pos (by simp; omega), getD_append_lt h3] at hm2
          rw [if_pos h3]; exact hm2
        · rw [if_pos (by simp; omega), getD_append_eq (by omega)] at hm2
          rw [if_neg h3]; exact hm2
      · have e : i = (hdG p n).length := by simp at h; omega
        rw [getD_append_eq e]
        refine ⟨by simpa using hp, fun m hm1 hm2 => ?_⟩
        rw [if_neg (by simp; omega)] at hm2
        omega
    · rename_i hp
      rw [if_neg hp]
      have h1 := ih i h
      refine ⟨h1.1, fun m hm1 hm2 => ?_⟩
      by_cases h3 : i + 1 < (hdG p n).length
      · rw [if_pos h3] at hm2
        exact h1.2 m hm1 (by rw [if_pos h3]; exact hm2)
      · rw [if_neg h3] at hm2
        by_cases e : m = n
        · subst e; simpa using hp
        · exact h1.2 m hm1 (by rw [if_neg h3]; omega)
section
variable {xss : List (List Int)} {ps : List (Int × Int)} {g h : Int}
/-- where group m begins; behind the last one: the deck's end -/
def bnd (xss : List (List Int)) (g h : Int) (m : Nat) : Int := if m < (hdL xss g h).length then (hdL xss g h).getD m 0 else xss.length
theorem bnd_zero : bnd xss g h 0 = 0 := by
  unfold bnd
  by_cases hl : xss.length = 0
  · have := hdL_len xss g h
    rw [if_neg (by omega), hl]; rfl
  · have := hdG_zero (p := isHd xss g h) (by simp [isHd]) xss.length (by omega)
    rw [if_pos (show 0 < (hdL xss g h).length from this.1)]; exact this.2
theorem bnd_end : bnd xss g h (hdL xss g h).length = xss.length := by rw [bnd, if_neg (by omega)]
theorem bnd_le (m : Nat) : 0 ≤ bnd xss g h m ∧ bnd xss g h m ≤ xss.length := by
  unfold bnd; split
  · rename_i hm
    have := hdL_bd hm
    omega
  · omega
theorem sum_step {m k : Nat} (hm : m < (hdL xss g h).length) (hk : k < ps.length) : ((sumG xss ps g h).getD m []).length = ps.length ∧ ((sumG xss ps g h).getD m []).getD k 0 = sumC xss (ps.getD k (0, 0)) (bnd xss g h (m + 1)).toNat - sumC xss (ps.getD k (0, 0)) (bnd xss g h m).toNat := by
  rw [List.getD_eq_getElem?_getD, sumG_get hm, Option.getD_some, sumR_len, List.getD_eq_getElem?_getD, sumR_get hk, Option.getD_some]
  have e1 : toI xss.length (hdL xss g h) m = bnd xss g h (m + 1) := rfl
  have e2 : (hdL xss g h).getD m 0 = bnd xss g h m := by rw [bnd, if_pos hm]
  rw [e1, e2]
  exact ⟨rfl, rfl⟩
theorem key_run {a b : Nat} (hp : ∀ m, a < m → m < b → isHd xss g h m = false) : ∀ d, a + d < b → prt (xss.getD (a + d) []) g h = prt (xss.getD a []) g h
  | 0, _ => rfl
  | d + 1, hd => by
    have ih := key_run hp d (by omega)
    have h1 := hp (a + (d + 1)) (by omega) hd
    unfold isHd at h1
    have h2 := of_decide_eq_false h1
    rw [show a + (d + 1) - 1 = a + d by omega] at h2
    have h3 : prt (xss.getD (a + d) []) g h = prt (xss.getD (a + (d + 1)) []) g h := Decidable.not_not.1 fun e => h2 (.inr e)
    rw [← h3, ih]
theorem hdL_gap {i : Nat} (hi : i < (hdL xss g h).length) : isHd xss g h ((hdL xss g h).getD i 0).toNat = true ∧ ∀ m : Nat, (hdL xss g h).getD i 0 < m → (m : Int) < (if i + 1 < (hdL xss g h).length then (hdL xss g h).getD (i + 1) 0 else xss.length) → isHd xss g h m = false := hdG_gap (isHd xss g h) xss.length i hi
theorem hdL_up {i : Nat} (hi : i + 1 < (hdL xss g h).length) : (hdL xss g h).getD i 0 < (hdL xss g h).getD (i + 1) 0 := (hdG_bd (isHd xss g h) xss.length i (Nat.lt_of_succ_lt hi)).2.2 hi
theorem namG_getD {i : Nat} (hi : i < (hdL xss g h).length) : (namG xss g h).getD i [] = textL (prt (xss.getD ((hdL xss g h).getD i 0).toNat []) g h) := by rw [List.getD_eq_getElem?_getD, namG_get hi]; rfl
theorem names_differ (hF : okF xss g h = true) {m : Nat} (hm : m + 1 < (hdL xss g h).length) : ¬ (namG xss g h).getD (m + 1) [] = (namG xss g h).getD m [] := by
  have b1 := hdL_bd (xss := xss) (f := g) (t := h) (i := m) (by omega)
  have b2 := hdL_bd hm
  have g1 := (hdL_gap (xss := xss) (g := g) (h := h) (i := m) (by omega)).2
  have g2 := (hdL_gap hm).1
  have o := hdL_up hm
  rw [if_pos hm] at g1
  intro he
  rw [namG_getD hm, namG_getD (show m < (hdL xss g h).length by omega)] at he
  generalize (hdL xss g h).getD m 0 = A at *
  generalize (hdL xss g h).getD (m + 1) 0 = C at *
  have r := key_run (xss := xss) (g := g) (h := h) (a := A.toNat) (b := C.toNat) (fun q h1 h2 => g1 q (by omega) (by omega)) (C.toNat - 1 - A.toNat) (by omega)
  rw [show A.toNat + (C.toNat - 1 - A.toNat) = C.toNat - 1 by omega] at r
  unfold isHd at g2
  rcases of_decide_eq_true g2 with e | e
  · omega
  · have := textL_inj (okF_at hF (i := C.toNat) (by omega)) (okF_at hF (i := A.toNat) (by omega)) he
    exact e (by rw [r]; exact this.symm)
end
section
variable {w : World} {lo hi lp hp b o : Nat} {v vp : Value} {xs : List Int} {ps : List (Int × Int)} {xss : List (List Int)} {svs : List SV} {g h : Int} {dt : Bool}
theorem iGroupSums_z (hs : SL w lp hp vp ps := by repeat (first | assumption | exact Go.Gw.Own.sl (by assumption) | exact Go.Gw.Box.at (by assumption) | exact Go.Gw.SLL.el (by first | assumption | exact Go.Gw.OwnD.sll (by assumption)) _ (by omega) | exact Go.Gw.SLL.at (by first | assumption | exact Go.Gw.OwnD.sll (by assumption)) (by omega) | exact Go.Gw.OwnD.sll (by assumption) | (apply Go.Gw.SL.chg; case hx => assumption) | (apply Go.Gw.Own.chg; case hx => assumption) | (apply Go.Gw.Box.chg; case hx => assumption) | (apply Go.Gw.At.chg; case hx => assumption) | exact .inl (Nat.zero_le _) | exact .inr (Nat.zero_le _) | (show _ ∨ _; omega))) (hd : SLL w lo hi svs v xss := by repeat (first | assumption | exact Go.Gw.Own.sl (by assumption) | exact Go.Gw.Box.at (by assumption) | exact Go.Gw.SLL.el (by first | assumption | exact Go.Gw.OwnD.sll (by assumption)) _ (by omega) | exact Go.Gw.SLL.at (by first | assumption | exact Go.Gw.OwnD.sll (by assumption)) (by omega) | exact Go.Gw.OwnD.sll (by assumption) | (apply Go.Gw.SL.chg; case hx => assumption) | (apply Go.Gw.Own.chg; case hx => assumption) | (apply Go.Gw.Box.chg; case hx => assumption) | (apply Go.Gw.At.chg; case hx => assumption) | exact .inl (Nat.zero_le _) | exact .inr (Nat.zero_le _) | (show _ ∨ _; omega))) (hc : cTab g h ps xss = 0 := by first | assumption | exact good_tab (by assumption) (by assumption)) : Ret Try.prog 13 [.agg #[.int .i64 g, .int .i64 h, vp, .bool dt], v] w fun u w' => ∃ d sus, u = .tuple #[d, .int .i64 0] ∧ OwnD w' 38 w.heap.size w'.heap.size sus d (sumG xss ps g h) ∧ Ext w w' := by
  have := iGroupSums_c (g := g) (h := h) (dt := dt) hs hd
  rwa [hc, resGrp, if_pos hc] at this
theorem iGroupNames_z (hs : SL w lp hp vp ps := by repeat (first | assumption | exact Go.Gw.Own.sl (by assumption) | exact Go.Gw.Box.at (by assumption) | exact Go.Gw.SLL.el (by first | assumption | exact Go.Gw.OwnD.sll (by assumption)) _ (by omega) | exact Go.Gw.SLL.at (by first | assumption | exact Go.Gw.OwnD.sll (by assumption)) (by omega) | exact Go.Gw.OwnD.sll (by assumption) | (apply Go.Gw.SL.chg; case hx => assumption) | (apply Go.Gw.Own.chg; case hx => assumption) | (apply Go.Gw.Box.chg; case hx => assumption) | (apply Go.Gw.At.chg; case hx => assumption) | exact .inl (Nat.zero_le _) | exact .inr (Nat.zero_le _) | (show _ ∨ _; omega))) (hd : SLL w lo hi svs v xss := by repeat (first | assumption | exact Go.Gw.Own.sl (by assumption) | exact Go.Gw.Box.at (by assumption) | exact Go.Gw.SLL.el (by first | assumption | exact Go.Gw.OwnD.sll (by assumption)) _ (by omega) | exact Go.Gw.SLL.at (by first | assumption | exact Go.Gw.OwnD.sll (by assumption)) (by omega) | exact Go.Gw.OwnD.sll (by assumption) | (apply Go.Gw.SL.chg; case hx => assumption) | (apply Go.Gw.Own.chg; case hx => assumption) | (apply Go.Gw.Box.chg; case hx => assumption) | (apply Go.Gw.At.chg; case hx => assumption) | exact .inl (Nat.zero_le _) | exact .inr (Nat.zero_le _) | (show _ ∨ _; omega))) (hc : cTab g h ps xss = 0 := by first | assumption | exact good_tab (by assumption) (by assumption)) : Ret Try.prog 14 [.agg #[.int .i64 g, .int .i64 h, vp, .bool dt], v] w fun u w' => ∃ d, u = .tuple #[d, .int .i64 0] ∧ Own w' 9 w.heap.size d (namG xss g h) ∧ Ext w w' := by
  have := iGroupNames_c (g := g) (h := h) (dt := dt) hs hd
  rwa [hc, resNam, if_pos hc] at this
theorem iGrandSums_z (hs : SL w lp hp vp ps := by repeat (first | assumption | exact Go.Gw.Own.sl (by assumption) | exact Go.Gw.Box.at (by assumption) | exact Go.Gw.SLL.el (by first | assumption | exact Go.Gw.OwnD.sll (by assumption)) _ (by omega) | exact Go.Gw.SLL.at (by first | assumption | exact Go.Gw.OwnD.sll (by assumption)) (by omega) | exact Go.Gw.OwnD.sll (by assumption) | (apply Go.Gw.SL.chg; case hx => assumption) | (apply Go.Gw.Own.chg; case hx => assumption) | (apply Go.Gw.Box.chg; case hx => assumption) | (apply Go.Gw.At.chg; case hx => assumption) | exact .inl (Nat.zero_le _) | exact .inr (Nat.zero_le _) | (show _ ∨ _; omega))) (hd : SLL w lo hi svs v xss := by repeat (first | assumption | exact Go.Gw.Own.sl (by assumption) | exact Go.Gw.Box.at (by assumption) | exact Go.Gw.SLL.el (by first | assumption | exact Go.Gw.OwnD.sll (by assumption)) _ (by omega) | exact Go.Gw.SLL.at (by first | assumption | exact Go.Gw.OwnD.sll (by assumption)) (by omega) | exact Go.Gw.OwnD.sll (by assumption) | (apply Go.Gw.SL.chg; case hx => assumption) | (apply Go.Gw.Own.chg; case hx => assumption) | (apply Go.Gw.Box.chg; case hx => assumption) | (apply Go.Gw.At.chg; case hx => assumption) | exact .inl (Nat.zero_le _) | exact .inr (Nat.zero_le _) | (show _ ∨ _; omega))) (hc : cTab g h ps xss = 0 := by first | assumption | exact good_tab (by assumption) (by assumption)) : Ret Try.prog 15 [.agg #[.int .i64 g, .int .i64 h, vp, .bool dt], v] w fun u w' => ∃ d, u = .tuple #[d, .int .i64 0] ∧ Own w' 2 w.heap.size d (sumL xss ps) ∧ Ext w w' := by
  have := iGrandSums_c (g := g) (h := h) (dt := dt) hs hd
  rwa [hc, resGra, if_pos hc] at this
theorem iBreaksIn_z (hs : SL w lp hp vp ps := by repeat (first | assumption | exact Go.Gw.Own.sl (by assumption) | exact Go.Gw.Box.at (by assumption) | exact Go.Gw.SLL.el (by first | assumption | exact Go.Gw.OwnD.sll (by assumption)) _ (by omega) | exact Go.Gw.SLL.at (by first | assumption | exact Go.Gw.OwnD.sll (by assumption)) (by omega) | exact Go.Gw.OwnD.sll (by assumption) | (apply Go.Gw.SL.chg; case hx => assumption) | (apply Go.Gw.Own.chg; case hx => assumption) | (apply Go.Gw.Box.chg; case hx => assumption) | (apply Go.Gw.At.chg; case hx => assumption) | exact .inl (Nat.zero_le _) | exact .inr (Nat.zero_le _) | (show _ ∨ _; omega))) (hd : SLL w lo hi svs v xss := by repeat (first | assumption | exact Go.Gw.Own.sl (by assumption) | exact Go.Gw.Box.at (by assumption) | exact Go.Gw.SLL.el (by first | assumption | exact Go.Gw.OwnD.sll (by assumption)) _ (by omega) | exact Go.Gw.SLL.at (by first | assumption | exact Go.Gw.OwnD.sll (by assumption)) (by omega) | exact Go.Gw.OwnD.sll (by assumption) | (apply Go.Gw.SL.chg; case hx => assumption) | (apply Go.Gw.Own.chg; case hx => assumption) | (apply Go.Gw.Box.chg; case hx => assumption) | (apply Go.Gw.At.chg; case hx => assumption) | exact .inl (Nat.zero_le _) | exact .inr (Nat.zero_le _) | (show _ ∨ _; omega))) (hc : cTab g h ps xss = 0 := by first | assumption | exact good_tab (by assumption) (by assumption)) : Val Try.prog 16 [.agg #[.int .i64 g, .int .i64 h, vp, .bool dt], v] w (.tuple #[.int .i64 (max (((hdL xss g h).length : Int) - 1) 0), .int .i64 0]) := by
  have := iBreaksIn_c (g := g) (h := h) (dt := dt) hs hd
  rwa [hc, resBrk, if_pos hc] at this
theorem l02CodeC_z (f t : Int) (hp : At w b o [v] := by repeat (first | assumption | exact Go.Gw.Own.sl (by assumption) | exact Go.Gw.Box.at (by assumption) | exact Go.Gw.SLL.el (by first | assumption | exact Go.Gw.OwnD.sll (by assumption)) _ (by omega) | exact Go.Gw.SLL.at (by first | assumption | exact Go.Gw.OwnD.sll (by assumption)) (by omega) | exact Go.Gw.OwnD.sll (by assumption) | (apply Go.Gw.SL.chg; case hx => assumption) | (apply Go.Gw.Own.chg; case hx => assumption) | (apply Go.Gw.Box.chg; case hx => assumption) | (apply Go.Gw.At.chg; case hx => assumption) | exact .inl (Nat.zero_le _) | exact .inr (Nat.zero_le _) | (show _ ∨ _; omega))) (h : SL w lo hi v xs := by repeat (first | assumption | exact Go.Gw.Own.sl (by assumption) | exact Go.Gw.Box.at (by assumption) | exact Go.Gw.SLL.el (by first | assumption | exact Go.Gw.OwnD.sll (by assumption)) _ (by omega) | exact Go.Gw.SLL.at (by first | assumption | exact Go.Gw.OwnD.sll (by assumption)) (by omega) | exact Go.Gw.OwnD.sll (by assumption) | (apply Go.Gw.SL.chg; case hx => assumption) | (apply Go.Gw.Own.chg; case hx => assumption) | (apply Go.Gw.Box.chg; case hx => assumption) | (apply Go.Gw.At.chg; case hx => assumption) | exact .inl (Nat.zero_le _) | exact .inr (Nat.zero_le _) | (show _ ∨ _; omega))) (hk : okK xs = true := by assumption) (hf : 0 ≤ f ∧ f < t ∧ t ≤ xs.length := by omega) : Val Try.prog 72 [ptr b o, .agg #[.int .i64 f, .int .i64 t]] w (.int .i64 0) := by
  have hkl := okK_len hk
  have hfb : fldB f t xs.length = true := decide_eq_true hf
  refine ⟨fun w1 hx1 => ?_⟩
  have E : Since 0 0 w1 w1 := Since.refl 0 0 w1
  refine ret_enter Try.func72 rfl Try.ntmps72 rfl ?_
  focus
    have ht_h := h.top
    have hz_hx1 := hx1.size
    replace hp := hp.ext hx1
    replace h := h.ext hx1
    refine c_seq ?_
    refine c_region ?_
    refine w_box rfl (k := fun b3 w3 hb3 hx3 hl3 hs3 => ?_)
    have hz_hx3 := hx3.size
    replace E := E.trans hx3
    replace hp := hp.ext hx3
    replace h := h.ext hx3
    refine w_pure (y_assign rfl) rfl ?_
    refine w_nil ?_
    refine x_next ?_
    refine c_seq ?_
    refine c_seq ?_
    refine c_region ?_
    refine w_pure (y_move rfl) rfl ?_
    refine w_val rfl rfl rfl (l02Ok_c) rfl (fun w6 hx6 hz6 => ?_)
    have hz_hx6 := hx6.size
    replace hb3 := hb3.ext hx6
    replace E := E.trans hx6
    replace hp := hp.ext hx6
    replace h := h.ext hx6
    refine w_pure (y_not rfl) rfl ?_
    refine w_nil ?_
    refine x_next ?_
    (refine c_not rfl (fun hc7 => ?_) (fun hc7 => ?_) <;> try (first | exact absurd rfl hc7 | contradiction | exact Bool.noConfusion (show false = true from hc7.symm.trans (by assumption)) | exact Bool.noConfusion (show true = false from hc7.symm.trans (by assumption)) | (exfalso; omega) | (exfalso; simp only [*, Bool.not_true, Bool.not_false, reduceCtorEq] at hc7; done)))
    refine c_skip ?_
    refine x_next ?_
    refine c_seq ?_
    refine c_seq ?_
    refine c_region_held mixed (fun wr3 hxr3 hzr3 => ?_)
    have hz_hxr3 := hxr3.size
    replace hb3 := hb3.ext hxr3
    replace E := E.trans hxr3
    replace hp := hp.ext hxr3
    replace h := h.ext hxr3
    refine h_pure rfl (y_load_boxs rfl) rfl ?_
    refine h_pure rfl (y_move rfl) rfl ?_
    refine h_pure rfl (y_nil rfl) rfl ?_
    refine h_pure rfl (y_field rfl) rfl ?_
    refine h_pure rfl (y_loadk rfl) rfl ?_
    refine h_pure rfl (y_len rfl) rfl ?_
    refine h_one rfl ?_
    refine w_val rfl rfl rfl (l02Field_c _ _ _) rfl (fun w14 hx14 hz14 => ?_)
    have hz_hx14 := hx14.size
    replace hb3 := hb3.ext hx14
    replace E := E.trans hx14
    replace hp := hp.ext hx14
    replace h := h.ext hx14
    refine w_nil ?_
    refine x_held ?_
    refine h_pure rfl (y_not_dec rfl) rfl ?_
    refine h_nil ?_
    refine x_next ?_
    (refine c_dec rfl (fun hc15 => ?_) (fun hc15 => ?_) <;> try (first | exact absurd rfl hc15 | contradiction | exact Bool.noConfusion (show false = true from hc15.symm.trans (by assumption)) | exact Bool.noConfusion (show true = false from hc15.symm.trans (by assumption)) | (exfalso; omega) | (exfalso; simp only [*, Bool.not_true, Bool.not_false, reduceCtorEq] at hc15; done)))
    refine c_skip ?_
    refine x_next ?_
    refine c_seq ?_
    refine c_region ?_
    refine w_pure (y_assign rfl) rfl ?_
    refine w_nil ?_
    refine x_next ?_
    refine c_ret ?_
    rotate_left
  exact x_retv [_] rfl ⟨rfl, trivial⟩ ⟨rfl, E.go⟩
theorem sNumberIn_z (f t : Int) (h : SL w lo hi v xs := by repeat (first | assumption | exact Go.Gw.Own.sl (by assumption) | exact Go.Gw.Box.at (by assumption) | exact Go.Gw.SLL.el (by first | assumption | exact Go.Gw.OwnD.sll (by assumption)) _ (by omega) | exact Go.Gw.SLL.at (by first | assumption | exact Go.Gw.OwnD.sll (by assumption)) (by omega) | exact Go.Gw.OwnD.sll (by assumption) | (apply Go.Gw.SL.chg; case hx => assumption) | (apply Go.Gw.Own.chg; case hx => assumption) | (apply Go.Gw.Box.chg; case hx => assumption) | (apply Go.Gw.At.chg; case hx => assumption) | exact .inl (Nat.zero_le _) | exact .inr (Nat.zero_le _) | (show _ ∨ _; omega))) (hk : okK xs = true := by assumption) (hf : (0 ≤ f ∧ f < t ∧ t ≤ xs.length) ∧ t - f ≤ 12 := by omega) (hn : (numL (prt xs f t)).2 = true := by assumption) : Val Try.prog 17 [.agg #[v], .agg #[.int .i64 f, .int .i64 t]] w (.tuple #[.int .i64 (numL (prt xs f t)).1, .int .i64 0]) := by
  refine ⟨fun w1 hx1 => ?_⟩
  have hpl := prt_len (xs := xs) hf.1
  have hrg : ∀ i, i < (prt xs f t).length → 0 ≤ (prt xs f t).getD i 0 ∧ (prt xs f t).getD i 0 ≤ 4095 := fun i hi => prt_ok hf.1 hk i hi
  have E : Since 0 0 w1 w1 := Since.refl 0 0 w1
  refine ret_enter Try.func17 rfl Try.ntmps17 rfl ?_
  focus
    have ht_h := h.top
    have hz_hx1 := hx1.size
    replace h := h.ext hx1
    refine c_seq ?_
    refine c_region ?_
    refine w_box rfl (k := fun b2 w2 hb2 hx2 hl2 hs2 => ?_)
    have hz_hx2 := hx2.size
    replace E := E.trans hx2
    replace h := h.ext hx2
    refine w_box rfl (k := fun b3 w3 hb3 hx3 hl3 hs3 => ?_)
    have hz_hx3 := hx3.size
    replace hb2 := hb2.ext hx3
    replace E := E.trans hx3
    replace h := h.ext hx3
    refine w_pure (y_assign rfl) rfl ?_
    refine w_pure (y_assign rfl) rfl ?_
    refine w_nil ?_
    refine x_next ?_
    refine c_seq ?_
    refine c_region ?_
    refine w_pure (y_load_boxs rfl) rfl ?_
    refine w_val rfl rfl rfl (l02CodeC_z _ _) rfl (fun w10 hx10 hz10 => ?_)
    have hz_hx10 := hx10.size
    replace hb3 := hb3.ext hx10
    replace hb2 := hb2.ext hx10
    replace E := E.trans hx10
    replace h := h.ext hx10
    refine w_pure (y_assign rfl) rfl ?_
    refine w_nil ?_
    refine x_next ?_
    refine c_seq ?_
    refine c_seq ?_
    refine c_region ?_
    refine w_pure (y_move rfl) rfl ?_
    refine w_pure (y_ne rfl rfl) rfl ?_
    refine w_nil ?_
    refine x_next ?_
    refine c_false rfl ?_
    refine c_skip ?_
    refine x_next ?_
    refine c_seq ?_
    refine c_seq ?_
    refine c_region ?_
    refine w_pure (y_field rfl) rfl ?_
    refine w_pure (y_load_box rfl) rfl ?_
    refine w_pure (y_field rfl) rfl ?_
    refine w_pure (y_load_box rfl) rfl ?_
    refine w_pure (y_sub rfl rfl) rfl ?_
    refine w_pure (y_gt rfl rfl) rfl ?_
    refine w_nil ?_
    refine x_next ?_
    (refine c_dec rfl (fun hc19 => ?_) (fun hc19 => ?_) <;> try (first | exact absurd rfl hc19 | contradiction | exact Bool.noConfusion (show false = true from hc19.symm.trans (by assumption)) | exact Bool.noConfusion (show true = false from hc19.symm.trans (by assumption)) | (exfalso; omega) | (exfalso; simp only [*, Bool.not_true, Bool.not_false, reduceCtorEq] at hc19; done)))
    refine c_skip ?_
    refine x_next ?_
    refine c_seq ?_
    refine c_region ?_
    refine w_pure (y_load_boxs rfl) rfl ?_
    (refine w_call rfl rfl rfl (l02Part_c _ _) rfl ?_; rintro v22 w22 ⟨hp1_22, hx22⟩)
    have hz_hx22 := hx22.size
    replace hb3 := hb3.ext hx22
    replace hb2 := hb2.ext hx22
    replace E := E.trans hx22
    replace h := h.ext hx22
    refine w_val rfl rfl rfl (l03Number_c) rfl (fun w23 hx23 hz23 => ?_)
    have hz_hx23 := hx23.size
    replace hp1_22 := hp1_22.ext hx23
    replace hb3 := hb3.ext hx23
    replace hb2 := hb2.ext hx23
    replace E := E.trans hx23
    replace h := h.ext hx23
    refine w_pure (y_move rfl) rfl ?_
    refine w_pure (y_extract rfl rfl) rfl ?_
    refine w_pure (y_extract rfl rfl) rfl ?_
    refine w_pure (y_assign rfl) rfl ?_
    refine w_pure (y_assign rfl) rfl ?_
    refine w_nil ?_
    refine x_next ?_
    refine c_seq ?_
    refine c_seq ?_
    refine c_region ?_
    refine w_pure (y_move rfl) rfl ?_
    refine w_pure (y_not rfl) rfl ?_
    refine w_nil ?_
    refine x_next ?_
    (refine c_not rfl (fun hc27 => ?_) (fun hc27 => ?_) <;> try (first | exact absurd rfl hc27 | contradiction | exact Bool.noConfusion (show false = true from hc27.symm.trans (by assumption)) | exact Bool.noConfusion (show true = false from hc27.symm.trans (by assumption)) | (exfalso; omega) | (exfalso; simp only [*, Bool.not_true, Bool.not_false, reduceCtorEq] at hc27; done)))
    refine c_skip ?_
    refine x_next ?_
    refine c_seq ?_
    refine c_region ?_
    refine w_pure (y_move rfl) rfl ?_
    refine w_pure (y_assign rfl) rfl ?_
    refine w_pure (y_assign rfl) rfl ?_
    refine w_nil ?_
    refine x_next ?_
    refine c_ret ?_
    rotate_left
  exact x_retv [_, _] rfl ⟨rfl, rfl, trivial⟩ ⟨rfl, E.go⟩
end
end Go.Proofs.Ythigkbkaeopipaa

/- Contracts: decks that are reproduced. -/
import Derived.Test.YtkkgkoibabbjoaaCpyB
namespace Go.Proofs.Ytkkgkoibabbjoaa
open Go Go.Gw
set_option linter.unusedVariables false
set_option linter.unusedSimpArgs false
def cRep (xss : List (List Int)) (ps : List (Int × Int)) (k : Int) : Int := if okD xss = true then (if okCp ps (widD xss) k = true then 0 else 2) else 1
def repF (ps : List (Int × Int)) (k : Int) (xs : List Int) : List Int := copyF xs ps (List.replicate k.toNat 0) ps.length
def resRep (xss : List (List Int)) (ps : List (Int × Int)) (k : Int) : List (List Int) := if cRep xss ps k = 0 then xss.map (repF ps k) else []
theorem take_map_all {α β : Type} (g : α → β) {xs : List α} {i : Nat} (h : i = xs.length) : (xs.take i).map g = xs.map g := by rw [List.take_of_length_le (by omega)]
theorem cRep_1 {xss : List (List Int)} {ps : List (Int × Int)} {k : Int} (h : okD xss = false) : cRep xss ps k = 1 := by simp [cRep, h]
theorem cRep_2 {xss : List (List Int)} {ps : List (Int × Int)} {k : Int} (h : okD xss = true) (h2 : okCp ps (widD xss) k = false) : cRep xss ps k = 2 := by simp [cRep, h, h2]
theorem cRep_0 {xss : List (List Int)} {ps : List (Int × Int)} {k : Int} (h : okD xss = true) (h2 : okCp ps (widD xss) k = true) : cRep xss ps k = 0 := by simp [cRep, h, h2]
theorem totD_le {xss : List (List Int)} (m : Nat) (h : ∀ i, i < xss.length → (xss.getD i []).length ≤ m) : totD xss ≤ xss.length * m := by
  have : ∀ j, j ≤ xss.length → tot xss j ≤ j * m := by
    intro j
    induction j with
    | zero => intro _; simp [tot_zero]
    | succ j ih =>
      intro hj
      rw [tot_succ (by omega), Nat.succ_mul]
      have := ih (by omega)
      have := h j (by omega)
      omega
  exact this _ (Nat.le_refl _)
theorem map_getD {α β : Type} {d : α} {d' : β} (g : α → β) {xs : List α} {i : Nat} (h : i < xs.length) : (xs.map g).getD i d' = g (xs.getD i d) := by
  rw [List.getD_eq_getElem?_getD, List.getElem?_map, List.getElem?_eq_getElem h, List.getD_eq_getElem?_getD, List.getElem?_eq_getElem h]; rfl
theorem resRep_bd (xss : List (List Int)) (ps : List (Int × Int)) (k : Int) : totD (resRep xss ps k) ≤ 800 ∧ (resRep xss ps k).length ≤ 40 := by
  unfold resRep
  split
  · rename_i h
    cases hk : okD xss
    · rw [cRep_1 hk] at h; cases h
    cases hk2 : okCp ps (widD xss) k
    · rw [cRep_2 hk hk2] at h; cases h
    have hb := okCp_bd hk2
    have hb2 := okD_len hk
    have h1 := totD_le (xss := xss.map (repF ps k)) 20 (fun i hi => by
      simp only [List.length_map] at hi
      rw [map_getD (d := []) _ hi, repF, copyF_len]
      simp; omega)
    simp only [List.length_map] at h1 ⊢
    omega
  · simp [totD, tot]
section
variable {w : World} {lo hi lo' hi' l2 h2 e b b' o o' : Nat} {v v' v2 d : Value} {xs ys : List Int} {ps : List (Int × Int)} {xss : List (List Int)} {svs : List SV} {f t : Int}
theorem iReproduceDeck_c (k : Int) (h : SLL w lo hi svs v xss := by repeat (first | assumption | exact Go.Gw.Own.sl (by assumption) | exact Go.Gw.Box.at (by assumption) | exact Go.Gw.SLL.el (by first | assumption | exact Go.Gw.OwnD.sll (by assumption)) _ (by omega) | exact Go.Gw.SLL.at (by first | assumption | exact Go.Gw.OwnD.sll (by assumption)) (by omega) | exact Go.Gw.OwnD.sll (by assumption) | (apply Go.Gw.SL.chg; case hx => assumption) | (apply Go.Gw.Own.chg; case hx => assumption) | (apply Go.Gw.Box.chg; case hx => assumption) | (apply Go.Gw.At.chg; case hx => assumption) | exact .inl (Nat.zero_le _) | exact .inr (Nat.zero_le _) | (show _ ∨ _; omega))) (hl : SL w l2 h2 v2 ps := by repeat (first | assumption | exact Go.Gw.Own.sl (by assumption) | exact Go.Gw.Box.at (by assumption) | exact Go.Gw.SLL.el (by first | assumption | exact Go.Gw.OwnD.sll (by assumption)) _ (by omega) | exact Go.Gw.SLL.at (by first | assumption | exact Go.Gw.OwnD.sll (by assumption)) (by omega) | exact Go.Gw.OwnD.sll (by assumption) | (apply Go.Gw.SL.chg; case hx => assumption) | (apply Go.Gw.Own.chg; case hx => assumption) | (apply Go.Gw.Box.chg; case hx => assumption) | (apply Go.Gw.At.chg; case hx => assumption) | exact .inl (Nat.zero_le _) | exact .inr (Nat.zero_le _) | (show _ ∨ _; omega))) : Ret Try.prog 12 [v, v2, .int .i64 k] w fun u w' => ∃ d sus, u = .tuple #[d, .int .i64 (cRep xss ps k)] ∧ OwnD w' 42 w.heap.size w'.heap.size sus d (resRep xss ps k) ∧ Ext w w' := by
  have E : Since 0 0 w w := Since.refl 0 0 w
  cases hk : okD xss
  · refine ret_enter Try.func12 rfl Try.ntmps12 rfl ?_
    focus
      have ht_h := h.top
      have ht_hl := hl.top
      refine c_seq ?_
      refine c_region ?_
      refine w_pure (y_assign rfl) rfl ?_
      refine w_pure (y_assign rfl) rfl ?_
      refine w_nil ?_
      refine x_next ?_
      refine c_seq ?_
      refine c_block ?_
      refine c_seq ?_
      refine c_region ?_
      refine w_pure (y_move rfl) rfl ?_
      refine w_val rfl rfl rfl (iValidDeck_c) rfl (fun w13 hx13 hz13 => ?_)
      have hz_hx13 := hx13.size
      replace h := h.ext hx13
      replace hl := hl.ext hx13
      replace E := E.trans hx13
      refine w_pure (y_not rfl) rfl ?_
      refine w_pure (y_assign rfl) rfl ?_
      refine w_nil ?_
      refine x_next ?_
      (refine c_not rfl (fun hc11 => ?_) (fun hc11 => ?_) <;> try (first | exact absurd rfl hc11 | contradiction | exact Bool.noConfusion (show false = true from hc11.symm.trans (by assumption)) | exact Bool.noConfusion (show true = false from hc11.symm.trans (by assumption)) | (exfalso; omega) | (exfalso; simp only [*, Bool.not_true, Bool.not_false, reduceCtorEq] at hc11; done)))
      refine c_seq ?_
      refine c_region ?_
      refine w_pure (y_assign rfl) rfl ?_
      refine w_pure (y_assign rfl) rfl ?_
      refine w_nil ?_
      refine x_next ?_
      refine c_ret ?_
      refine x_block_ret ?_
      refine x_then_ret ?_
      rotate_left
    exact x_retv [_, _] rfl ⟨rfl, rfl, trivial⟩ ⟨_, [], by rw [cRep_1 hk]; rfl, by unfold resRep; rw [cRep_1 hk, if_neg (by decide)]; exact OwnD.nil _ _ _ _ (Nat.le_refl _), E.go⟩
  cases hk2 : okCp ps (widD xss) k
  · refine ret_enter Try.func12 rfl Try.ntmps12 rfl ?_
    focus
      have ht_h := h.top
      have ht_hl := hl.top
      refine c_seq ?_
      refine c_region ?_
      refine w_pure (y_assign rfl) rfl ?_
      refine w_pure (y_assign rfl) rfl ?_
      refine w_nil ?_
      refine x_next ?_
      refine c_seq ?_
      refine c_block ?_
      refine c_seq ?_
      refine c_region ?_
      refine w_pure (y_move rfl) rfl ?_
      refine w_val rfl rfl rfl (iValidDeck_c) rfl (fun w13 hx13 hz13 => ?_)
      have hz_hx13 := hx13.size
      replace h := h.ext hx13
      replace hl := hl.ext hx13
      replace E := E.trans hx13
      refine w_pure (y_not rfl) rfl ?_
      refine w_pure (y_assign rfl) rfl ?_
      refine w_nil ?_
      refine x_next ?_
      (refine c_not rfl (fun hc11 => ?_) (fun hc11 => ?_) <;> try (first | exact absurd rfl hc11 | contradiction | exact Bool.noConfusion (show false = true from hc11.symm.trans (by assumption)) | exact Bool.noConfusion (show true = false from hc11.symm.trans (by assumption)) | (exfalso; omega) | (exfalso; simp only [*, Bool.not_true, Bool.not_false, reduceCtorEq] at hc11; done)))
      refine c_seq ?_
      refine c_region ?_
      refine w_pure (y_move rfl) rfl ?_
      refine w_pure (y_move rfl) rfl ?_
      refine w_val rfl rfl rfl (deckColumns_c) rfl (fun w18 hx18 hz18 => ?_)
      have hz_hx18 := hx18.size
      replace h := h.ext hx18
      replace hl := hl.ext hx18
      replace E := E.trans hx18
      refine w_pure (y_move rfl) rfl ?_
      refine w_val rfl rfl rfl (iValidCopies_c _ _) rfl (fun w20 hx20 hz20 => ?_)
      have hz_hx20 := hx20.size
      replace h := h.ext hx20
      replace hl := hl.ext hx20
      replace E := E.trans hx20
      refine w_pure (y_not rfl) rfl ?_
      refine w_pure (y_assign rfl) rfl ?_
      refine w_nil ?_
      refine x_next ?_
      (refine c_not rfl (fun hc15 => ?_) (fun hc15 => ?_) <;> try (first | exact absurd rfl hc15 | contradiction | exact Bool.noConfusion (show false = true from hc15.symm.trans (by assumption)) | exact Bool.noConfusion (show true = false from hc15.symm.trans (by assumption)) | (exfalso; omega) | (exfalso; simp only [*, Bool.not_true, Bool.not_false, reduceCtorEq] at hc15; done)))
      refine c_seq ?_
      refine c_region ?_
      refine w_pure (y_assign rfl) rfl ?_
      refine w_pure (y_assign rfl) rfl ?_
      refine w_nil ?_
      refine x_next ?_
      refine c_ret ?_
      refine x_block_ret ?_
      refine x_then_ret ?_
      rotate_left
    exact x_retv [_, _] rfl ⟨rfl, rfl, trivial⟩ ⟨_, [], by rw [cRep_2 hk hk2]; rfl, by unfold resRep; rw [cRep_2 hk hk2, if_neg (by decide)]; exact OwnD.nil _ _ _ _ (Nat.le_refl _), E.go⟩
  have hb := okCp_bd hk2
  have hb2 := okD_len hk
  refine ret_enter Try.func12 rfl Try.ntmps12 rfl ?_
  focus
    have ht_h := h.top
    have ht_hl := hl.top
    refine c_seq ?_
    refine c_region ?_
    refine w_pure (y_assign rfl) rfl ?_
    refine w_pure (y_assign rfl) rfl ?_
    refine w_nil ?_
    refine x_next ?_
    refine c_seq ?_
    refine c_block ?_
    refine c_seq ?_
    refine c_region ?_
    refine w_pure (y_move rfl) rfl ?_
    refine w_val rfl rfl rfl (iValidDeck_c) rfl (fun w13 hx13 hz13 => ?_)
    have hz_hx13 := hx13.size
    replace h := h.ext hx13
    replace hl := hl.ext hx13
    replace E := E.trans hx13
    refine w_pure (y_not rfl) rfl ?_
    refine w_pure (y_assign rfl) rfl ?_
    refine w_nil ?_
    refine x_next ?_
    (refine c_not rfl (fun hc11 => ?_) (fun hc11 => ?_) <;> try (first | exact absurd rfl hc11 | contradiction | exact Bool.noConfusion (show false = true from hc11.symm.trans (by assumption)) | exact Bool.noConfusion (show true = false from hc11.symm.trans (by assumption)) | (exfalso; omega) | (exfalso; simp only [*, Bool.not_true, Bool.not_false, reduceCtorEq] at hc11; done)))
    refine c_seq ?_
    refine c_region ?_
    refine w_pure (y_move rfl) rfl ?_
    refine w_pure (y_move rfl) rfl ?_
    refine w_val rfl rfl rfl (deckColumns_c) rfl (fun w18 hx18 hz18 => ?_)
    have hz_hx18 := hx18.size
    replace h := h.ext hx18
    replace hl := hl.ext hx18
    replace E := E.trans hx18
    refine w_pure (y_move rfl) rfl ?_
    refine w_val rfl rfl rfl (iValidCopies_c _ _) rfl (fun w20 hx20 hz20 => ?_)
    have hz_hx20 := hx20.size
    replace h := h.ext hx20
    replace hl := hl.ext hx20
    replace E := E.trans hx20
    refine w_pure (y_not rfl) rfl ?_
    refine w_pure (y_assign rfl) rfl ?_
    refine w_nil ?_
    refine x_next ?_
    (refine c_not rfl (fun hc15 => ?_) (fun hc15 => ?_) <;> try (first | exact absurd rfl hc15 | contradiction | exact Bool.noConfusion (show false = true from hc15.symm.trans (by assumption)) | exact Bool.noConfusion (show true = false from hc15.symm.trans (by assumption)) | (exfalso; omega) | (exfalso; simp only [*, Bool.not_true, Bool.not_false, reduceCtorEq] at hc15; done)))
    refine c_skip ?_
    refine x_block_norm ?_
    refine x_next ?_
    refine c_seq ?_
    refine c_region ?_
    refine w_lit_d0 rfl (k := fun v22 w22 ho22 hx22 hl22 hh22 hs22 => ?_)
    have hl_ho22 := ho22.lt
    have hz_hx22 := hx22.size
    replace h := h.ext hx22
    replace hl := hl.ext hx22
    replace E := E.trans hx22
    refine w_pure (y_assign rfl) rfl ?_
    refine w_nil ?_
    refine x_next ?_
    refine c_seq ?_
    refine c_seq ?_
    refine c_region ?_
    refine w_pure (y_move rfl) rfl ?_
    refine w_pure (y_lend rfl) rfl ?_
    refine w_pure (y_move rfl) rfl ?_
    refine w_nil ?_
    refine x_next ?_
    refine c_block ?_
    rotate_left
  refine c_loopC (bL v22) (bH v22) (ι := Int × Value × List SV) (fun x => [(1, v2), (2, .int .i64 k), (8, x.2.1), (23, v), (24, .int .i64 xss.length), (25, .int .i64 x.1)])
    (fun x w' => SLL w' lo hi svs v xss ∧ SL w' l2 h2 v2 ps ∧ OwnD w' 42 w.heap.size w'.heap.size x.2.2 x.2.1 ((xss.take x.1.toNat).map (repF ps k)) ∧ ((bL x.2.1 = bL v22 ∧ bH x.2.1 = bH v22) ∨ w22.heap.size ≤ bL x.2.1) ∧ 0 ≤ x.1 ∧ x.1 ≤ xss.length) (fun x => (xss.length - x.1).toNat) (0, v22, [])
    (by repeat (first | exact trivial | refine ⟨rfl, ?_⟩)) ⟨by assumption, by assumption, OwnD.wide (ho22.low (by omega)) (by omega) (Nat.le_refl _), .inl ⟨rfl, rfl⟩, by omega, by omega⟩ ?_
  clear ho22
  rintro ⟨i, u, sus⟩ wL hxL EL ⟨g1, g2, g3, g4, hi0, hi1⟩
  dsimp only at *
  have hml : i ≤ xss.length → ((xss.take i.toNat).map (repF ps k)).length = i.toNat := fun hh => map_take_len _ (by omega)
  have hrg : i < xss.length → Rng (xss.getD i.toNat []) := fun hh => rng_of (okD_at hk _ (by omega)).1
  have hwd : i < xss.length → ((xss.getD i.toNat []).length : Int) = widD xss := fun hh => widD_at hk _ (by omega)
  have hz := rng_zero k.toNat
  have e1 : (i + 1).toNat = i.toNat + 1 := by omega
  have hrl : ((List.replicate k.toNat (0 : Int)).length : Int) = k := by simp; omega
  focus
    have ht_g1 := g1.top
    have ht_g2 := g2.top
    have hl_g3 := g3.lt
    have hz_hxL := hxL.size
    replace h := h.chg hxL (by omega)
    replace hl := hl.chg hxL (by omega)
    replace E := E.next hxL (by omega)
    refine c_seq ?_
    refine c_region ?_
    refine w_pure (y_lt rfl rfl) rfl ?_
    refine w_nil ?_
    refine x_next ?_
    refine c_seq ?_
    (refine c_dec rfl (fun hc26 => ?_) (fun hc26 => ?_) <;> try (first | exact absurd rfl hc26 | contradiction | exact Bool.noConfusion (show false = true from hc26.symm.trans (by assumption)) | exact Bool.noConfusion (show true = false from hc26.symm.trans (by assumption)) | (exfalso; omega) | (exfalso; simp only [*, Bool.not_true, Bool.not_false, reduceCtorEq] at hc26; done)))
    refine c_skip ?_
    refine x_next ?_
    refine c_seq ?_
    refine c_block ?_
    refine c_seq ?_
    refine c_region ?_
    refine w_pure (y_indexd rfl rfl) rfl ?_
    refine w_pure (y_loads rfl) rfl ?_
    refine w_alloc (k := fun b10 w10 hb10 hx10 hl10 hs10 => ?_)
    have hz_hx10 := hx10.size
    replace EL := EL.next hx10 (by omega)
    replace g1 := g1.ext hx10
    replace g2 := g2.ext hx10
    replace g3 := g3.ext hx10
    replace h := h.ext hx10
    replace hl := hl.ext hx10
    replace E := E.trans hx10
    refine w_store_boxs rfl rfl (next := fun ws17 hbs17 hxs17 hss17 => ?_)
    (replace hb10 := hbs17; clear hbs17)
    have hz_hxs17 := hxs17.size
    replace EL := EL.next hxs17 (by omega)
    replace g1 := g1.chg hxs17 (by omega)
    replace g2 := g2.chg hxs17 (by omega)
    replace g3 := g3.chg hxs17 (by omega)
    replace h := h.chg hxs17 (by omega)
    replace hl := hl.chg hxs17 (by omega)
    replace E := E.next hxs17 (by omega)
    refine w_nil ?_
    refine x_next ?_
    refine c_region_held mixed (fun wr9 hxr9 hzr9 => ?_)
    have hz_hxr9 := hxr9.size
    replace hb10 := hb10.ext hxr9
    replace EL := EL.next hxr9 (by omega)
    replace g1 := g1.ext hxr9
    replace g2 := g2.ext hxr9
    replace g3 := g3.ext hxr9
    replace h := h.ext hxr9
    replace hl := hl.ext hxr9
    replace E := E.trans hxr9
    refine h_pure rfl (y_move rfl) rfl ?_
    refine h_pure rfl (y_move rfl) rfl ?_
    refine h_turn ?_
    refine h_pure rfl (y_load_boxs rfl) rfl ?_
    refine h_pure rfl (y_move rfl) rfl ?_
    refine h_turn ?_
    refine h_turn ?_
    refine h_turn ?_
    refine h_turn ?_
    refine h_one rfl ?_
    (refine w_call rfl rfl rfl (blank_c _) rfl ?_; rintro _ w31 ⟨d31, ⟨rfl, ⟨hp1_31, hx31⟩⟩⟩)
    have hl_hp1_31 := hp1_31.lt
    have hz_hx31 := hx31.size
    replace hb10 := hb10.ext hx31
    replace EL := EL.next hx31 (by omega)
    replace g1 := g1.ext hx31
    replace g2 := g2.ext hx31
    replace g3 := g3.ext hx31
    replace h := h.ext hx31
    replace hl := hl.ext hx31
    replace E := E.trans hx31
    refine w_nil ?_
    refine x_held ?_
    refine h_one rfl ?_
    (refine w_call rfl rfl rfl (copied_c (hx := hrg (by omega)) (f := widD xss) (t := k)) rfl ?_; rintro _ w34 ⟨d34, ⟨rfl, ⟨hp1_34, hx34⟩⟩⟩)
    have hl_hp1_34 := hp1_34.lt
    have hz_hx34 := hx34.size
    replace hp1_31 := hp1_31.ext hx34
    replace hb10 := hb10.ext hx34
    replace EL := EL.next hx34 (by omega)
    replace g1 := g1.ext hx34
    replace g2 := g2.ext hx34
    replace g3 := g3.ext hx34
    replace h := h.ext hx34
    replace hl := hl.ext hx34
    replace E := E.trans hx34
    refine w_nil ?_
    refine x_held ?_
    refine h_one rfl ?_
    refine w_lit_cd rfl rfl (k := fun v35 w35 ho35 hx35 hl35 hh35 hs35 => ?_)
    have hl_ho35 := ho35.lt
    have hz_hx35 := hx35.size
    replace hp1_34 := hp1_34.ext hx35
    replace hp1_31 := hp1_31.ext hx35
    replace hb10 := hb10.ext hx35
    replace EL := EL.next hx35 (by omega)
    replace g1 := g1.ext hx35
    replace g2 := g2.ext hx35
    replace g3 := g3.ext hx35
    replace h := h.ext hx35
    replace hl := hl.ext hx35
    replace E := E.trans hx35
    refine w_nil ?_
    refine x_held ?_
    refine h_one rfl ?_
    refine w_append_d rfl rfl (k := fun v36 w36 ho36 hx36 hr36 => ?_)
    have hl_ho36 := ho36.lt
    have hz_hx36 := hx36.size
    replace ho35 := ho35.chg hx36 (by omega)
    replace hp1_34 := hp1_34.chg hx36 (by omega)
    replace hp1_31 := hp1_31.chg hx36 (by omega)
    replace hb10 := hb10.chg hx36 (by omega)
    replace EL := EL.next hx36 (by omega)
    replace g1 := g1.chg hx36 (by omega)
    replace g2 := g2.chg hx36 (by omega)
    replace h := h.chg hx36 (by omega)
    replace hl := hl.chg hx36 (by omega)
    replace E := E.next hx36 (by omega)
    refine w_nil ?_
    refine x_heldk ?_
    refine h_pure rfl (y_assign rfl) rfl ?_
    refine h_nil ?_
    refine x_block_norm ?_
    refine x_next ?_
    refine c_region ?_
    refine w_pure (y_add rfl rfl) rfl ?_
    refine w_pure (y_move rfl) rfl ?_
    refine w_nil ?_
    rotate_left
    refine c_exit ?_
    refine x_then_exit ?_
    refine x_then_exit ?_
    refine x_block_hit ?_
    refine x_next ?_
    refine c_seq ?_
    refine c_region ?_
    refine w_pure (y_move rfl) rfl ?_
    refine w_pure (y_assign rfl) rfl ?_
    refine w_pure (y_assign rfl) rfl ?_
    refine w_nil ?_
    refine x_next ?_
    refine c_ret ?_
    rotate_left
  · refine x_again (i + 1, v36, sus ++ [svOf d34]) (by repeat (first | exact trivial | refine ⟨rfl, ?_⟩)) ⟨EL.go, by assumption, by assumption, ?_, by dsimp only; omega, by dsimp only; omega, by dsimp only; omega⟩ (by dsimp only; omega)
    dsimp only
    rw [e1, map_take_succ (d := []) _ (by omega)]
    exact OwnD.wide (by assumption) (by omega) (Nat.le_refl _)
  · refine x_retv [_, _] rfl ⟨rfl, rfl, trivial⟩ ⟨_, sus, by rw [cRep_0 hk hk2]; rfl, ?_, E.go⟩
    unfold resRep; rw [cRep_0 hk hk2, if_pos rfl, ← take_map_all _ (i := i.toNat) (by omega)]
    exact OwnD.wide (by assumption) (by omega) (Nat.le_refl _)
theorem sReproduceDeck_c (k : Int) (h : SLL w lo hi svs v xss := by repeat (first | assumption | exact Go.Gw.Own.sl (by assumption) | exact Go.Gw.Box.at (by assumption) | exact Go.Gw.SLL.el (by first | assumption | exact Go.Gw.OwnD.sll (by assumption)) _ (by omega) | exact Go.Gw.SLL.at (by first | assumption | exact Go.Gw.OwnD.sll (by assumption)) (by omega) | exact Go.Gw.OwnD.sll (by assumption) | (apply Go.Gw.SL.chg; case hx => assumption) | (apply Go.Gw.Own.chg; case hx => assumption) | (apply Go.Gw.Box.chg; case hx => assumption) | (apply Go.Gw.At.chg; case hx => assumption) | exact .inl (Nat.zero_le _) | exact .inr (Nat.zero_le _) | (show _ ∨ _; omega))) (hl : SL w l2 h2 v2 ps := by repeat (first | assumption | exact Go.Gw.Own.sl (by assumption) | exact Go.Gw.Box.at (by assumption) | exact Go.Gw.SLL.el (by first | assumption | exact Go.Gw.OwnD.sll (by assumption)) _ (by omega) | exact Go.Gw.SLL.at (by first | assumption | exact Go.Gw.OwnD.sll (by assumption)) (by omega) | exact Go.Gw.OwnD.sll (by assumption) | (apply Go.Gw.SL.chg; case hx => assumption) | (apply Go.Gw.Own.chg; case hx => assumption) | (apply Go.Gw.Box.chg; case hx => assumption) | (apply Go.Gw.At.chg; case hx => assumption) | exact .inl (Nat.zero_le _) | exact .inr (Nat.zero_le _) | (show _ ∨ _; omega))) : Ret Try.prog 9 [v, v2, .int .i64 k] w fun u w' => ∃ d sus, u = .tuple #[d, .int .i64 (cRep xss ps k)] ∧ OwnD w' 42 w.heap.size w'.heap.size sus d (resRep xss ps k) ∧ Ext w w' := by
  have E : Since 0 0 w w := Since.refl 0 0 w
  cases hk : okD xss
  · refine ret_enter Try.func9 rfl Try.ntmps9 rfl ?_
    focus
      have ht_h := h.top
      have ht_hl := hl.top
      refine c_seq ?_
      refine c_region ?_
      refine w_pure (y_assign rfl) rfl ?_
      refine w_pure (y_assign rfl) rfl ?_
      refine w_nil ?_
      refine x_next ?_
      refine c_seq ?_
      refine c_seq ?_
      refine c_region ?_
      refine w_pure (y_move rfl) rfl ?_
      refine w_val rfl rfl rfl (l02Deck_c) rfl (fun w12 hx12 hz12 => ?_)
      have hz_hx12 := hx12.size
      replace h := h.ext hx12
      replace hl := hl.ext hx12
      replace E := E.trans hx12
      refine w_pure (y_not rfl) rfl ?_
      refine w_nil ?_
      refine x_next ?_
      (refine c_not rfl (fun hc13 => ?_) (fun hc13 => ?_) <;> try (first | exact absurd rfl hc13 | contradiction | exact Bool.noConfusion (show false = true from hc13.symm.trans (by assumption)) | exact Bool.noConfusion (show true = false from hc13.symm.trans (by assumption)) | (exfalso; omega) | (exfalso; simp only [*, Bool.not_true, Bool.not_false, reduceCtorEq] at hc13; done)))
      refine c_seq ?_
      refine c_region ?_
      refine w_pure (y_assign rfl) rfl ?_
      refine w_pure (y_assign rfl) rfl ?_
      refine w_nil ?_
      refine x_next ?_
      refine c_ret ?_
      refine x_then_ret ?_
      rotate_left
    exact x_retv [_, _] rfl ⟨rfl, rfl, trivial⟩ ⟨_, [], by rw [cRep_1 hk]; rfl, by unfold resRep; rw [cRep_1 hk, if_neg (by decide)]; exact OwnD.nil _ _ _ _ (Nat.le_refl _), E.go⟩
  cases hk2 : okCp ps (widD xss) k
  · refine ret_enter Try.func9 rfl Try.ntmps9 rfl ?_
    focus
      have ht_h := h.top
      have ht_hl := hl.top
      refine c_seq ?_
      refine c_region ?_
      refine w_pure (y_assign rfl) rfl ?_
      refine w_pure (y_assign rfl) rfl ?_
      refine w_nil ?_
      refine x_next ?_
      refine c_seq ?_
      refine c_seq ?_
      refine c_region ?_
      refine w_pure (y_move rfl) rfl ?_
      refine w_val rfl rfl rfl (l02Deck_c) rfl (fun w12 hx12 hz12 => ?_)
      have hz_hx12 := hx12.size
      replace h := h.ext hx12
      replace hl := hl.ext hx12
      replace E := E.trans hx12
      refine w_pure (y_not rfl) rfl ?_
      refine w_nil ?_
      refine x_next ?_
      (refine c_not rfl (fun hc13 => ?_) (fun hc13 => ?_) <;> try (first | exact absurd rfl hc13 | contradiction | exact Bool.noConfusion (show false = true from hc13.symm.trans (by assumption)) | exact Bool.noConfusion (show true = false from hc13.symm.trans (by assumption)) | (exfalso; omega) | (exfalso; simp only [*, Bool.not_true, Bool.not_false, reduceCtorEq] at hc13; done)))
      refine c_skip ?_
      refine x_next ?_
      refine c_seq ?_
      refine c_seq ?_
      refine c_region ?_
      refine w_pure (y_move rfl) rfl ?_
      refine w_pure (y_move rfl) rfl ?_
      refine w_val rfl rfl rfl (l07WidthOf_c) rfl (fun w16 hx16 hz16 => ?_)
      have hz_hx16 := hx16.size
      replace h := h.ext hx16
      replace hl := hl.ext hx16
      replace E := E.trans hx16
      refine w_pure (y_move rfl) rfl ?_
      refine w_val rfl rfl rfl (sValidCopies_c _ _) rfl (fun w18 hx18 hz18 => ?_)
      have hz_hx18 := hx18.size
      replace h := h.ext hx18
      replace hl := hl.ext hx18
      replace E := E.trans hx18
      refine w_pure (y_not rfl) rfl ?_
      refine w_nil ?_
      refine x_next ?_
      (refine c_not rfl (fun hc19 => ?_) (fun hc19 => ?_) <;> try (first | exact absurd rfl hc19 | contradiction | exact Bool.noConfusion (show false = true from hc19.symm.trans (by assumption)) | exact Bool.noConfusion (show true = false from hc19.symm.trans (by assumption)) | (exfalso; omega) | (exfalso; simp only [*, Bool.not_true, Bool.not_false, reduceCtorEq] at hc19; done)))
      refine c_seq ?_
      refine c_region ?_
      refine w_pure (y_assign rfl) rfl ?_
      refine w_pure (y_assign rfl) rfl ?_
      refine w_nil ?_
      refine x_next ?_
      refine c_ret ?_
      refine x_then_ret ?_
      rotate_left
    exact x_retv [_, _] rfl ⟨rfl, rfl, trivial⟩ ⟨_, [], by rw [cRep_2 hk hk2]; rfl, by unfold resRep; rw [cRep_2 hk hk2, if_neg (by decide)]; exact OwnD.nil _ _ _ _ (Nat.le_refl _), E.go⟩
  have hb := okCp_bd hk2
  have hb2 := okD_len hk
  refine ret_enter Try.func9 rfl Try.ntmps9 rfl ?_
  focus
    have ht_h := h.top
    have ht_hl := hl.top
    refine c_seq ?_
    refine c_region ?_
    refine w_pure (y_assign rfl) rfl ?_
    refine w_pure (y_assign rfl) rfl ?_
    refine w_nil ?_
    refine x_next ?_
    refine c_seq ?_
    refine c_seq ?_
    refine c_region ?_
    refine w_pure (y_move rfl) rfl ?_
    refine w_val rfl rfl rfl (l02Deck_c) rfl (fun w12 hx12 hz12 => ?_)
    have hz_hx12 := hx12.size
    replace h := h.ext hx12
    replace hl := hl.ext hx12
    replace E := E.trans hx12
    refine w_pure (y_not rfl) rfl ?_
    refine w_nil ?_
    refine x_next ?_
    (refine c_not rfl (fun hc13 => ?_) (fun hc13 => ?_) <;> try (first | exact absurd rfl hc13 | contradiction | exact Bool.noConfusion (show false = true from hc13.symm.trans (by assumption)) | exact Bool.noConfusion (show true = false from hc13.symm.trans (by assumption)) | (exfalso; omega) | (exfalso; simp only [*, Bool.not_true, Bool.not_false, reduceCtorEq] at hc13; done)))
    refine c_skip ?_
    refine x_next ?_
    refine c_seq ?_
    refine c_seq ?_
    refine c_region ?_
    refine w_pure (y_move rfl) rfl ?_
    refine w_pure (y_move rfl) rfl ?_
    refine w_val rfl rfl rfl (l07WidthOf_c) rfl (fun w16 hx16 hz16 => ?_)
    have hz_hx16 := hx16.size
    replace h := h.ext hx16
    replace hl := hl.ext hx16
    replace E := E.trans hx16
    refine w_pure (y_move rfl) rfl ?_
    refine w_val rfl rfl rfl (sValidCopies_c _ _) rfl (fun w18 hx18 hz18 => ?_)
    have hz_hx18 := hx18.size
    replace h := h.ext hx18
    replace hl := hl.ext hx18
    replace E := E.trans hx18
    refine w_pure (y_not rfl) rfl ?_
    refine w_nil ?_
    refine x_next ?_
    (refine c_not rfl (fun hc19 => ?_) (fun hc19 => ?_) <;> try (first | exact absurd rfl hc19 | contradiction | exact Bool.noConfusion (show false = true from hc19.symm.trans (by assumption)) | exact Bool.noConfusion (show true = false from hc19.symm.trans (by assumption)) | (exfalso; omega) | (exfalso; simp only [*, Bool.not_true, Bool.not_false, reduceCtorEq] at hc19; done)))
    refine c_skip ?_
    refine x_next ?_
    refine c_seq ?_
    refine c_region ?_
    refine w_lit_d0 rfl (k := fun v20 w20 ho20 hx20 hl20 hh20 hs20 => ?_)
    have hl_ho20 := ho20.lt
    have hz_hx20 := hx20.size
    replace h := h.ext hx20
    replace hl := hl.ext hx20
    replace E := E.trans hx20
    refine w_pure (y_assign rfl) rfl ?_
    refine w_nil ?_
    refine x_next ?_
    refine c_seq ?_
    refine c_seq ?_
    refine c_region ?_
    refine w_pure (y_assign rfl) rfl ?_
    refine w_nil ?_
    refine x_next ?_
    refine c_block ?_
    rotate_left
  refine c_loopC (bL v20) (bH v20) (ι := Int × Value × List SV) (fun x => [(0, v), (1, v2), (2, .int .i64 k), (8, x.2.1), (9, .int .i64 x.1)])
    (fun x w' => SLL w' lo hi svs v xss ∧ SL w' l2 h2 v2 ps ∧ OwnD w' 42 w.heap.size w'.heap.size x.2.2 x.2.1 ((xss.take x.1.toNat).map (repF ps k)) ∧ ((bL x.2.1 = bL v20 ∧ bH x.2.1 = bH v20) ∨ w20.heap.size ≤ bL x.2.1) ∧ 0 ≤ x.1 ∧ x.1 ≤ xss.length) (fun x => (xss.length - x.1).toNat) (0, v20, [])
    (by repeat (first | exact trivial | refine ⟨rfl, ?_⟩)) ⟨by assumption, by assumption, OwnD.wide (ho20.low (by omega)) (by omega) (Nat.le_refl _), .inl ⟨rfl, rfl⟩, by omega, by omega⟩ ?_
  clear ho20
  rintro ⟨i, u, sus⟩ wL hxL EL ⟨g1, g2, g3, g4, hi0, hi1⟩
  dsimp only at *
  have hml : i ≤ xss.length → ((xss.take i.toNat).map (repF ps k)).length = i.toNat := fun hh => map_take_len _ (by omega)
  have hrg : i < xss.length → Rng (xss.getD i.toNat []) := fun hh => rng_of (okD_at hk _ (by omega)).1
  have hwd : i < xss.length → ((xss.getD i.toNat []).length : Int) = widD xss := fun hh => widD_at hk _ (by omega)
  have hz := rng_zero k.toNat
  have e1 : (i + 1).toNat = i.toNat + 1 := by omega
  have hrl : ((List.replicate k.toNat (0 : Int)).length : Int) = k := by simp; omega
  have hin : 0 < xss.length → lo ≤ sb v ∧ sb v < hi := fun hh => g1.out.block (by have := g1.len; omega)
  focus
    have ht_g1 := g1.top
    have ht_g2 := g2.top
    have hl_g3 := g3.lt
    have hz_hxL := hxL.size
    replace h := h.chg hxL (by omega)
    replace hl := hl.chg hxL (by omega)
    replace E := E.next hxL (by omega)
    refine c_seq ?_
    refine c_seq ?_
    refine c_region ?_
    refine w_pure (y_move rfl) rfl ?_
    refine w_pure (y_move rfl) rfl ?_
    refine w_pure (y_lend rfl) rfl ?_
    refine w_pure (y_lt rfl rfl) rfl ?_
    refine w_nil ?_
    refine x_next ?_
    (refine c_dec rfl (fun hc24 => ?_) (fun hc24 => ?_) <;> try (first | exact absurd rfl hc24 | contradiction | exact Bool.noConfusion (show false = true from hc24.symm.trans (by assumption)) | exact Bool.noConfusion (show true = false from hc24.symm.trans (by assumption)) | (exfalso; omega) | (exfalso; simp only [*, Bool.not_true, Bool.not_false, reduceCtorEq] at hc24; done)))
    refine c_skip ?_
    refine x_next ?_
    refine c_seq ?_
    refine c_block ?_
    refine c_seq ?_
    refine c_region ?_
    refine w_pure (y_move rfl) rfl ?_
    refine w_make (α := Int) rfl rfl (k := fun v28 w28 ho28 hx28 hl28 hh28 hs28 => ?_)
    have hl_ho28 := ho28.lt
    have hz_hx28 := hx28.size
    replace EL := EL.next hx28 (by omega)
    replace g1 := g1.ext hx28
    replace g2 := g2.ext hx28
    replace g3 := g3.ext hx28
    replace h := h.ext hx28
    replace hl := hl.ext hx28
    replace E := E.trans hx28
    refine w_pure (y_build rfl) rfl ?_
    refine w_alloc (k := fun b10 w10 hb10 hx10 hl10 hs10 => ?_)
    have hz_hx10 := hx10.size
    replace ho28 := ho28.ext hx10
    replace EL := EL.next hx10 (by omega)
    replace g1 := g1.ext hx10
    replace g2 := g2.ext hx10
    replace g3 := g3.ext hx10
    replace h := h.ext hx10
    replace hl := hl.ext hx10
    replace E := E.trans hx10
    refine w_store_boxs rfl rfl (next := fun ws21 hbs21 hxs21 hss21 => ?_)
    (replace hb10 := hbs21; clear hbs21)
    have hz_hxs21 := hxs21.size
    replace ho28 := ho28.chg hxs21 (by omega)
    replace EL := EL.next hxs21 (by omega)
    replace g1 := g1.chg hxs21 (by omega)
    replace g2 := g2.chg hxs21 (by omega)
    replace g3 := g3.chg hxs21 (by omega)
    replace h := h.chg hxs21 (by omega)
    replace hl := hl.chg hxs21 (by omega)
    replace E := E.next hxs21 (by omega)
    refine w_nil ?_
    refine x_next ?_
    refine c_seq ?_
    refine c_region ?_
    refine w_pure (y_move rfl) rfl ?_
    refine w_pure (y_move rfl) rfl ?_
    refine w_pure (y_indexd rfl rfl) rfl ?_
    refine w_pure (y_move rfl) rfl ?_
    (refine w_call rfl rfl rfl (l10Copy_c (hx := hrg (by omega)) (f := widD xss) (t := k)) rfl ?_; rintro _ w34 ⟨rfl, ⟨hp1_34, hx34⟩⟩)
    have hz_hx34 := hx34.size
    replace hb10 := hb10.chg hx34 (by omega)
    replace EL := EL.next hx34 (by omega)
    replace g1 := g1.chg hx34 (by omega)
    replace g2 := g2.chg hx34 (by omega)
    replace g3 := g3.chg hx34 (by omega)
    replace h := h.chg hx34 (by omega)
    replace hl := hl.chg hx34 (by omega)
    replace E := E.next hx34 (by omega)
    refine w_nil ?_
    refine x_next ?_
    refine c_region ?_
    refine w_pure (y_move rfl) rfl ?_
    refine w_pure (y_load_boxs rfl) rfl ?_
    refine w_lit_cd rfl rfl (k := fun v37 w37 ho37 hx37 hl37 hh37 hs37 => ?_)
    have hl_ho37 := ho37.lt
    have hz_hx37 := hx37.size
    replace hp1_34 := hp1_34.ext hx37
    replace hb10 := hb10.ext hx37
    replace EL := EL.next hx37 (by omega)
    replace g1 := g1.ext hx37
    replace g2 := g2.ext hx37
    replace g3 := g3.ext hx37
    replace h := h.ext hx37
    replace hl := hl.ext hx37
    replace E := E.trans hx37
    refine w_append_d rfl rfl (k := fun v38 w38 ho38 hx38 hr38 => ?_)
    have hl_ho38 := ho38.lt
    have hz_hx38 := hx38.size
    replace ho37 := ho37.chg hx38 (by omega)
    replace hp1_34 := hp1_34.chg hx38 (by omega)
    replace hb10 := hb10.chg hx38 (by omega)
    replace EL := EL.next hx38 (by omega)
    replace g1 := g1.chg hx38 (by omega)
    replace g2 := g2.chg hx38 (by omega)
    replace h := h.chg hx38 (by omega)
    replace hl := hl.chg hx38 (by omega)
    replace E := E.next hx38 (by omega)
    refine w_pure (y_assign rfl) rfl ?_
    refine w_nil ?_
    refine x_block_norm ?_
    refine x_next ?_
    refine c_region ?_
    refine w_pure (y_move rfl) rfl ?_
    refine w_pure (y_add rfl rfl) rfl ?_
    refine w_pure (y_assign rfl) rfl ?_
    refine w_nil ?_
    rotate_left
    refine c_exit ?_
    refine x_then_exit ?_
    refine x_then_exit ?_
    refine x_block_hit ?_
    refine x_next ?_
    refine c_seq ?_
    refine c_region ?_
    refine w_pure (y_move rfl) rfl ?_
    refine w_pure (y_assign rfl) rfl ?_
    refine w_pure (y_assign rfl) rfl ?_
    refine w_nil ?_
    refine x_next ?_
    refine c_ret ?_
    rotate_left
  · refine x_again (i + 1, v38, sus ++ [svOf v28]) (by repeat (first | exact trivial | refine ⟨rfl, ?_⟩)) ⟨EL.go, by assumption, by assumption, ?_, by dsimp only; omega, by dsimp only; omega, by dsimp only; omega⟩ (by dsimp only; omega)
    dsimp only
    rw [e1, map_take_succ (d := []) _ (by omega)]
    exact OwnD.wide (by assumption) (by omega) (Nat.le_refl _)
  · refine x_retv [_, _] rfl ⟨rfl, rfl, trivial⟩ ⟨_, sus, by rw [cRep_0 hk hk2]; rfl, ?_, E.go⟩
    unfold resRep; rw [cRep_0 hk hk2, if_pos rfl, ← take_map_all _ (i := i.toNat) (by omega)]
    exact OwnD.wide (by assumption) (by omega) (Nat.le_refl _)
end
end Go.Proofs.Ytkkgkoibabbjoaa

/- Rules, contracts and plain laws towards the law FnGangs, part 3. -/
import Derived.Test.YticnemjjjceiaaaGreatDoorCh2
/- RepA -/
namespace Go.Proofs.YticnemjjjceiaaaGreatDoor
open Go Go.Gw
set_option linter.unusedVariables false
set_option linter.unusedSimpArgs false
def cRep (xss : List (List Int)) (ps : List (Int × Int)) (k : Int) : Int := if okD xss = true then (if okCp ps (widD xss) k = true then 0 else 2) else 1
def repF (ps : List (Int × Int)) (k : Int) (xs : List Int) : List Int := copyF xs ps (List.replicate k.toNat 0) ps.length
def resRep (xss : List (List Int)) (ps : List (Int × Int)) (k : Int) : List (List Int) := if cRep xss ps k = 0 then xss.map (repF ps k) else []
theorem take_map_all {α β : Type} (g : α → β) {xs : List α} {i : Nat} (h : i = xs.length) : (xs.take i).map g = xs.map g := by rw [List.take_of_length_le (by omega)]
theorem cRep_1 {xss : List (List Int)} {ps : List (Int × Int)} {k : Int} (h : okD xss = false) : cRep xss ps k = 1 := by simp [cRep, h]
theorem cRep_2 {xss : List (List Int)} {ps : List (Int × Int)} {k : Int} (h : okD xss = true) (h2 : okCp ps (widD xss) k = false) : cRep xss ps k = 2 := by simp [cRep, h, h2]
theorem cRep_0 {xss : List (List Int)} {ps : List (Int × Int)} {k : Int} (h : okD xss = true) (h2 : okCp ps (widD xss) k = true) : cRep xss ps k = 0 := by simp [cRep, h, h2]
theorem totD_lem {xss : List (List Int)} (m : Nat) (h : ∀ i, i < xss.length → (xss.getD i []).length ≤ m) : totD xss ≤ xss.length * m := by
  have : ∀ j, j ≤ xss.length → tot xss j ≤ j * m := by
    intro j
    induction j with
    | zero => intro _; simp [tot_zero]
    | succ j ih =>
      intro hj
      rw [tot_succ (by omega), Nat.succ_mul]
      have := ih (by omega)
      have := h j (by omega)
      omega
  exact this _ (Nat.le_refl _)
theorem map_getD {α β : Type} {d : α} {d' : β} (g : α → β) {xs : List α} {i : Nat} (h : i < xs.length) : (xs.map g).getD i d' = g (xs.getD i d) := by
  rw [List.getD_eq_getElem?_getD, List.getElem?_map, List.getElem?_eq_getElem h, List.getD_eq_getElem?_getD, List.getElem?_eq_getElem h]; rfl
theorem resRep_bd (xss : List (List Int)) (ps : List (Int × Int)) (k : Int) : totD (resRep xss ps k) ≤ 800 ∧ (resRep xss ps k).length ≤ 40 := by
  unfold resRep
  split
  · rename_i h
    cases hk : okD xss
    · rw [cRep_1 hk] at h; cases h
    cases hk2 : okCp ps (widD xss) k
    · rw [cRep_2 hk hk2] at h; cases h
    have hb := okCp_bd hk2
    have hb2 := okD_len hk
    have h1 := totD_lem (xss := xss.map (repF ps k)) 20 (fun i hi => by
      simp only [List.length_map] at hi
      rw [map_getD (d := []) _ hi, repF, copyF_len]
      simp; omega)
    simp only [List.length_map] at h1 ⊢
    omega
  · simp [totD, tot]
section
variable {w : World} {lo hi lo' hi' l2 h2 e b b' o o' : Nat} {v v' v2 d : Value} {xs ys : List Int} {ps : List (Int × Int)} {xss : List (List Int)} {svs : List SV} {f t : Int}
theorem iReproduceDeck_c (k : Int) (h : SLL w lo hi svs v xss := by repeat (first | assumption | exact Go.Gw.Own.sl (by assumption) | exact Go.Gw.Box.at (by assumption) | exact Go.Gw.SLL.el (by first | assumption | exact Go.Gw.OwnD.sll (by assumption)) _ (by omega) | exact Go.Gw.SLL.at (by first | assumption | exact Go.Gw.OwnD.sll (by assumption)) (by omega) | exact Go.Gw.OwnD.sll (by assumption) | (apply Go.Gw.SL.chg; case hx => assumption) | (apply Go.Gw.Own.chg; case hx => assumption) | (apply Go.Gw.Box.chg; case hx => assumption) | (apply Go.Gw.At.chg; case hx => assumption) | exact .inl (Nat.zero_le _) | exact .inr (Nat.zero_le _) | (show _ ∨ _; omega))) (hl : SL w l2 h2 v2 ps := by repeat (first | assumption | exact Go.Gw.Own.sl (by assumption) | exact Go.Gw.Box.at (by assumption) | exact Go.Gw.SLL.el (by first | assumption | exact Go.Gw.OwnD.sll (by assumption)) _ (by omega) | exact Go.Gw.SLL.at (by first | assumption | exact Go.Gw.OwnD.sll (by assumption)) (by omega) | exact Go.Gw.OwnD.sll (by assumption) | (apply Go.Gw.SL.chg; case hx => assumption) | (apply Go.Gw.Own.chg; case hx => assumption) | (apply Go.Gw.Box.chg; case hx => assumption) | (apply Go.Gw.At.chg; case hx => assumption) | exact .inl (Nat.zero_le _) | exact .inr (Nat.zero_le _) | (show _ ∨ _; omega))) : Ret Tryz.prog 31 [v, v2, .int .i64 k] w fun u w' => ∃ d sus, u = .tuple #[d, .int .i64 (cRep xss ps k)] ∧ OwnD w' 26 w.heap.size w'.heap.size sus d (resRep xss ps k) ∧ Ext w w' := by
  have E : Since 0 0 w w := Since.refl 0 0 w
  cases hk : okD xss
  · refine ret_enter Tryz.func31 rfl Tryz.ntmps31 rfl ?_
    focus have ht_h := h.top; have ht_hl := hl.top; refine c_seq ?_; refine c_region ?_; refine w_pure (y_assign rfl) rfl ?_; refine w_pure (y_assign rfl) rfl ?_; refine w_nil ?_; refine x_next ?_; refine c_seq ?_; refine c_block ?_; refine c_seq ?_; refine c_region ?_; refine w_pure (y_move rfl) rfl ?_; refine w_val rfl rfl rfl (iValidDeck_c) rfl (fun w13 hx13 hz13 => ?_); have hz_hx13 := hx13.size; replace h := h.ext hx13; replace hl := hl.ext hx13; replace E := E.trans hx13; refine w_pure (y_not rfl) rfl ?_; refine w_pure (y_assign rfl) rfl ?_; refine w_nil ?_; refine x_next ?_; (refine c_not rfl (fun hc11 => ?_) (fun hc11 => ?_) <;> try (first | exact absurd rfl hc11 | contradiction | exact Bool.noConfusion (show false = true from hc11.symm.trans (by assumption)) | exact Bool.noConfusion (show true = false from hc11.symm.trans (by assumption)) | (exfalso; omega) | (exfalso; simp only [*, Bool.not_true, Bool.not_false, reduceCtorEq] at hc11; done))); refine c_seq ?_; refine c_region ?_; refine w_pure (y_assign rfl) rfl ?_; refine w_pure (y_assign rfl) rfl ?_; refine w_nil ?_; refine x_next ?_; refine c_ret ?_; refine x_block_ret ?_; refine x_then_ret ?_; rotate_left
    exact x_retv [_, _] rfl ⟨rfl, rfl, trivial⟩ ⟨_, [], by rw [cRep_1 hk]; rfl, by unfold resRep; rw [cRep_1 hk, if_neg (by decide)]; exact OwnD.nil _ _ _ _ (Nat.le_refl _), E.go⟩
  cases hk2 : okCp ps (widD xss) k
  · refine ret_enter Tryz.func31 rfl Tryz.ntmps31 rfl ?_
    focus have ht_h := h.top; have ht_hl := hl.top; refine c_seq ?_; refine c_region ?_; refine w_pure (y_assign rfl) rfl ?_; refine w_pure (y_assign rfl) rfl ?_; refine w_nil ?_; refine x_next ?_; refine c_seq ?_; refine c_block ?_; refine c_seq ?_; refine c_region ?_; refine w_pure (y_move rfl) rfl ?_; refine w_val rfl rfl rfl (iValidDeck_c) rfl (fun w13 hx13 hz13 => ?_); have hz_hx13 := hx13.size; replace h := h.ext hx13; replace hl := hl.ext hx13; replace E := E.trans hx13; refine w_pure (y_not rfl) rfl ?_; refine w_pure (y_assign rfl) rfl ?_; refine w_nil ?_; refine x_next ?_; (refine c_not rfl (fun hc11 => ?_) (fun hc11 => ?_) <;> try (first | exact absurd rfl hc11 | contradiction | exact Bool.noConfusion (show false = true from hc11.symm.trans (by assumption)) | exact Bool.noConfusion (show true = false from hc11.symm.trans (by assumption)) | (exfalso; omega) | (exfalso; simp only [*, Bool.not_true, Bool.not_false, reduceCtorEq] at hc11; done))); refine c_seq ?_; refine c_region ?_; refine w_pure (y_move rfl) rfl ?_; refine w_pure (y_move rfl) rfl ?_; refine w_val rfl rfl rfl (deckColumns_c) rfl (fun w18 hx18 hz18 => ?_); have hz_hx18 := hx18.size; replace h := h.ext hx18; replace hl := hl.ext hx18; replace E := E.trans hx18; refine w_pure (y_move rfl) rfl ?_; refine w_val rfl rfl rfl (iValidCopies_c _ _) rfl (fun w20 hx20 hz20 => ?_); have hz_hx20 := hx20.size; replace h := h.ext hx20; replace hl := hl.ext hx20; replace E := E.trans hx20; refine w_pure (y_not rfl) rfl ?_; refine w_pure (y_assign rfl) rfl ?_; refine w_nil ?_; refine x_next ?_; (refine c_not rfl (fun hc15 => ?_) (fun hc15 => ?_) <;> try (first | exact absurd rfl hc15 | contradiction | exact Bool.noConfusion (show false = true from hc15.symm.trans (by assumption)) | exact Bool.noConfusion (show true = false from hc15.symm.trans (by assumption)) | (exfalso; omega) | (exfalso; simp only [*, Bool.not_true, Bool.not_false, reduceCtorEq] at hc15; done))); refine c_seq ?_; refine c_region ?_; refine w_pure (y_assign rfl) rfl ?_; refine w_pure (y_assign rfl) rfl ?_; refine w_nil ?_; refine x_next ?_; refine c_ret ?_; refine x_block_ret ?_; refine x_then_ret ?_; rotate_left
    exact x_retv [_, _] rfl ⟨rfl, rfl, trivial⟩ ⟨_, [], by rw [cRep_2 hk hk2]; rfl, by unfold resRep; rw [cRep_2 hk hk2, if_neg (by decide)]; exact OwnD.nil _ _ _ _ (Nat.le_refl _), E.go⟩
  have hb := okCp_bd hk2
  have hb2 := okD_len hk
  refine ret_enter Tryz.func31 rfl Tryz.ntmps31 rfl ?_
  focus have ht_h := h.top; have ht_hl := hl.top; refine c_seq ?_; refine c_region ?_; refine w_pure (y_assign rfl) rfl ?_; refine w_pure (y_assign rfl) rfl ?_; refine w_nil ?_; refine x_next ?_; refine c_seq ?_; refine c_block ?_; refine c_seq ?_; refine c_region ?_; refine w_pure (y_move rfl) rfl ?_; refine w_val rfl rfl rfl (iValidDeck_c) rfl (fun w13 hx13 hz13 => ?_); have hz_hx13 := hx13.size; replace h := h.ext hx13; replace hl := hl.ext hx13; replace E := E.trans hx13; refine w_pure (y_not rfl) rfl ?_; refine w_pure (y_assign rfl) rfl ?_; refine w_nil ?_; refine x_next ?_; (refine c_not rfl (fun hc11 => ?_) (fun hc11 => ?_) <;> try (first | exact absurd rfl hc11 | contradiction | exact Bool.noConfusion (show false = true from hc11.symm.trans (by assumption)) | exact Bool.noConfusion (show true = false from hc11.symm.trans (by assumption)) | (exfalso; omega) | (exfalso; simp only [*, Bool.not_true, Bool.not_false, reduceCtorEq] at hc11; done))); refine c_seq ?_; refine c_region ?_; refine w_pure (y_move rfl) rfl ?_; refine w_pure (y_move rfl) rfl ?_; refine w_val rfl rfl rfl (deckColumns_c) rfl (fun w18 hx18 hz18 => ?_); have hz_hx18 := hx18.size; replace h := h.ext hx18; replace hl := hl.ext hx18; replace E := E.trans hx18; refine w_pure (y_move rfl) rfl ?_; refine w_val rfl rfl rfl (iValidCopies_c _ _) rfl (fun w20 hx20 hz20 => ?_); have hz_hx20 := hx20.size; replace h := h.ext hx20; replace hl := hl.ext hx20; replace E := E.trans hx20; refine w_pure (y_not rfl) rfl ?_; refine w_pure (y_assign rfl) rfl ?_; refine w_nil ?_; refine x_next ?_; (refine c_not rfl (fun hc15 => ?_) (fun hc15 => ?_) <;> try (first | exact absurd rfl hc15 | contradiction | exact Bool.noConfusion (show false = true from hc15.symm.trans (by assumption)) | exact Bool.noConfusion (show true = false from hc15.symm.trans (by assumption)) | (exfalso; omega) | (exfalso; simp only [*, Bool.not_true, Bool.not_false, reduceCtorEq] at hc15; done))); refine c_skip ?_; refine x_block_norm ?_; refine x_next ?_; refine c_seq ?_; refine c_region ?_; refine w_lit_d0 rfl (k := fun v22 w22 ho22 hx22 hl22 hh22 hs22 => ?_); have hl_ho22 := ho22.lt; have hz_hx22 := hx22.size; replace h := h.ext hx22; replace hl := hl.ext hx22; replace E := E.trans hx22; refine w_pure (y_assign rfl) rfl ?_; refine w_nil ?_; refine x_next ?_; refine c_seq ?_; refine c_seq ?_; refine c_region ?_; refine w_pure (y_move rfl) rfl ?_; refine w_pure (y_lend rfl) rfl ?_; refine w_pure (y_move rfl) rfl ?_; refine w_nil ?_; refine x_next ?_; refine c_block ?_; rotate_left
  refine c_loopC (bL v22) (bH v22) (ι := Int × Value × List SV) (fun x => [(1, v2), (2, .int .i64 k), (8, x.2.1), (23, v), (24, .int .i64 xss.length), (25, .int .i64 x.1)])
    (fun x w' => SLL w' lo hi svs v xss ∧ SL w' l2 h2 v2 ps ∧ OwnD w' 26 w.heap.size w'.heap.size x.2.2 x.2.1 ((xss.take x.1.toNat).map (repF ps k)) ∧ ((bL x.2.1 = bL v22 ∧ bH x.2.1 = bH v22) ∨ w22.heap.size ≤ bL x.2.1) ∧ 0 ≤ x.1 ∧ x.1 ≤ xss.length) (fun x => (xss.length - x.1).toNat) (0, v22, [])
    (by repeat (first | exact trivial | refine ⟨rfl, ?_⟩)) ⟨by assumption, by assumption, OwnD.wide (ho22.low (by omega)) (by omega) (Nat.le_refl _), .inl ⟨rfl, rfl⟩, by omega, by omega⟩ ?_
  clear ho22
  rintro ⟨i, u, sus⟩ wL hxL EL ⟨g1, g2, g3, g4, hi0, hi1⟩
  dsimp only at *
  have hml : i ≤ xss.length → ((xss.take i.toNat).map (repF ps k)).length = i.toNat := fun hh => map_take_len _ (by omega)
  have hrg : i < xss.length → Rng (xss.getD i.toNat []) := fun hh => rng_of (okD_at hk _ (by omega)).1
  have hwd : i < xss.length → ((xss.getD i.toNat []).length : Int) = widD xss := fun hh => widD_at hk _ (by omega)
  have hz := rng_zero k.toNat
  have e1 : (i + 1).toNat = i.toNat + 1 := by omega
  have hrl : ((List.replicate k.toNat (0 : Int)).length : Int) = k := by simp; omega
  focus have ht_g1 := g1.top; have ht_g2 := g2.top; have hl_g3 := g3.lt; have hz_hxL := hxL.size; replace h := h.chg hxL (by omega); replace hl := hl.chg hxL (by omega); replace E := E.next hxL (by omega); refine c_seq ?_; refine c_region ?_; refine w_pure (y_lt rfl rfl) rfl ?_; refine w_nil ?_; refine x_next ?_; refine c_seq ?_; (refine c_dec rfl (fun hc26 => ?_) (fun hc26 => ?_) <;> try (first | exact absurd rfl hc26 | contradiction | exact Bool.noConfusion (show false = true from hc26.symm.trans (by assumption)) | exact Bool.noConfusion (show true = false from hc26.symm.trans (by assumption)) | (exfalso; omega) | (exfalso; simp only [*, Bool.not_true, Bool.not_false, reduceCtorEq] at hc26; done))); refine c_skip ?_; refine x_next ?_; refine c_seq ?_; refine c_block ?_; refine c_seq ?_; refine c_region ?_; refine w_pure (y_indexd rfl rfl) rfl ?_; refine w_pure (y_loads rfl) rfl ?_; refine w_alloc (k := fun b10 w10 hb10 hx10 hl10 hs10 => ?_); have hz_hx10 := hx10.size; replace EL := EL.next hx10 (by omega); replace g1 := g1.ext hx10; replace g2 := g2.ext hx10; replace g3 := g3.ext hx10; replace h := h.ext hx10; replace hl := hl.ext hx10; replace E := E.trans hx10; refine w_store_boxs rfl rfl (next := fun ws17 hbs17 hxs17 hss17 => ?_); (replace hb10 := hbs17; clear hbs17); have hz_hxs17 := hxs17.size; replace EL := EL.next hxs17 (by omega); replace g1 := g1.chg hxs17 (by omega); replace g2 := g2.chg hxs17 (by omega); replace g3 := g3.chg hxs17 (by omega); replace h := h.chg hxs17 (by omega); replace hl := hl.chg hxs17 (by omega); replace E := E.next hxs17 (by omega); refine w_nil ?_; refine x_next ?_; refine c_region_held mixed (fun wr9 hxr9 hzr9 => ?_); have hz_hxr9 := hxr9.size; replace hb10 := hb10.ext hxr9; replace EL := EL.next hxr9 (by omega); replace g1 := g1.ext hxr9; replace g2 := g2.ext hxr9; replace g3 := g3.ext hxr9; replace h := h.ext hxr9; replace hl := hl.ext hxr9; replace E := E.trans hxr9; refine h_pure rfl (y_move rfl) rfl ?_; refine h_pure rfl (y_move rfl) rfl ?_; refine h_turn ?_; refine h_pure rfl (y_load_boxs rfl) rfl ?_; refine h_pure rfl (y_move rfl) rfl ?_; refine h_turn ?_; refine h_turn ?_; refine h_turn ?_; refine h_turn ?_; refine h_one rfl ?_; (refine w_call rfl rfl rfl (blank_c _) rfl ?_; rintro _ w31 ⟨d31, ⟨rfl, ⟨hp1_31, hx31⟩⟩⟩); have hl_hp1_31 := hp1_31.lt; have hz_hx31 := hx31.size; replace hb10 := hb10.ext hx31; replace EL := EL.next hx31 (by omega); replace g1 := g1.ext hx31; replace g2 := g2.ext hx31; replace g3 := g3.ext hx31; replace h := h.ext hx31; replace hl := hl.ext hx31; replace E := E.trans hx31; refine w_nil ?_; refine x_held ?_; refine h_one rfl ?_; (refine w_call rfl rfl rfl (copied_c (hx := hrg (by omega)) (f := widD xss) (t := k)) rfl ?_; rintro _ w34 ⟨d34, ⟨rfl, ⟨hp1_34, hx34⟩⟩⟩); have hl_hp1_34 := hp1_34.lt; have hz_hx34 := hx34.size; replace hp1_31 := hp1_31.ext hx34; replace hb10 := hb10.ext hx34; replace EL := EL.next hx34 (by omega); replace g1 := g1.ext hx34; replace g2 := g2.ext hx34; replace g3 := g3.ext hx34; replace h := h.ext hx34; replace hl := hl.ext hx34; replace E := E.trans hx34; refine w_nil ?_; refine x_held ?_; refine h_one rfl ?_; refine w_lit_cd rfl rfl (k := fun v35 w35 ho35 hx35 hl35 hh35 hs35 => ?_); have hl_ho35 := ho35.lt; have hz_hx35 := hx35.size; replace hp1_34 := hp1_34.ext hx35; replace hp1_31 := hp1_31.ext hx35; replace hb10 := hb10.ext hx35; replace EL := EL.next hx35 (by omega); replace g1 := g1.ext hx35; replace g2 := g2.ext hx35; replace g3 := g3.ext hx35; replace h := h.ext hx35; replace hl := hl.ext hx35; replace E := E.trans hx35; refine w_nil ?_; refine x_held ?_; refine h_one rfl ?_; refine w_append_d rfl rfl (k := fun v36 w36 ho36 hx36 hr36 => ?_); have hl_ho36 := ho36.lt; have hz_hx36 := hx36.size; replace ho35 := ho35.chg hx36 (by omega); replace hp1_34 := hp1_34.chg hx36 (by omega); replace hp1_31 := hp1_31.chg hx36 (by omega); replace hb10 := hb10.chg hx36 (by omega); replace EL := EL.next hx36 (by omega); replace g1 := g1.chg hx36 (by omega); replace g2 := g2.chg hx36 (by omega); replace h := h.chg hx36 (by omega); replace hl := hl.chg hx36 (by omega); replace E := E.next hx36 (by omega); refine w_nil ?_; refine x_heldk ?_; refine h_pure rfl (y_assign rfl) rfl ?_; refine h_nil ?_; refine x_block_norm ?_; refine x_next ?_; refine c_region ?_; refine w_pure (y_add rfl rfl) rfl ?_; refine w_pure (y_move rfl) rfl ?_; refine w_nil ?_; rotate_left; refine c_exit ?_; refine x_then_exit ?_; refine x_then_exit ?_; refine x_block_hit ?_; refine x_next ?_; refine c_seq ?_; refine c_region ?_; refine w_pure (y_move rfl) rfl ?_; refine w_pure (y_assign rfl) rfl ?_; refine w_pure (y_assign rfl) rfl ?_; refine w_nil ?_; refine x_next ?_; refine c_ret ?_; rotate_left
  · refine x_again (i + 1, v36, sus ++ [svOf d34]) (by repeat (first | exact trivial | refine ⟨rfl, ?_⟩)) ⟨EL.go, by assumption, by assumption, ?_, by dsimp only; omega, by dsimp only; omega, by dsimp only; omega⟩ (by dsimp only; omega)
    dsimp only
    rw [e1, map_take_succ (d := []) _ (by omega)]
    exact OwnD.wide (by assumption) (by omega) (Nat.le_refl _)
  · refine x_retv [_, _] rfl ⟨rfl, rfl, trivial⟩ ⟨_, sus, by rw [cRep_0 hk hk2]; rfl, ?_, E.go⟩
    unfold resRep; rw [cRep_0 hk hk2, if_pos rfl, ← take_map_all _ (i := i.toNat) (by omega)]
    exact OwnD.wide (by assumption) (by omega) (Nat.le_refl _)
theorem sReproduceDeck_c (k : Int) (h : SLL w lo hi svs v xss := by repeat (first | assumption | exact Go.Gw.Own.sl (by assumption) | exact Go.Gw.Box.at (by assumption) | exact Go.Gw.SLL.el (by first | assumption | exact Go.Gw.OwnD.sll (by assumption)) _ (by omega) | exact Go.Gw.SLL.at (by first | assumption | exact Go.Gw.OwnD.sll (by assumption)) (by omega) | exact Go.Gw.OwnD.sll (by assumption) | (apply Go.Gw.SL.chg; case hx => assumption) | (apply Go.Gw.Own.chg; case hx => assumption) | (apply Go.Gw.Box.chg; case hx => assumption) | (apply Go.Gw.At.chg; case hx => assumption) | exact .inl (Nat.zero_le _) | exact .inr (Nat.zero_le _) | (show _ ∨ _; omega))) (hl : SL w l2 h2 v2 ps := by repeat (first | assumption | exact Go.Gw.Own.sl (by assumption) | exact Go.Gw.Box.at (by assumption) | exact Go.Gw.SLL.el (by first | assumption | exact Go.Gw.OwnD.sll (by assumption)) _ (by omega) | exact Go.Gw.SLL.at (by first | assumption | exact Go.Gw.OwnD.sll (by assumption)) (by omega) | exact Go.Gw.OwnD.sll (by assumption) | (apply Go.Gw.SL.chg; case hx => assumption) | (apply Go.Gw.Own.chg; case hx => assumption) | (apply Go.Gw.Box.chg; case hx => assumption) | (apply Go.Gw.At.chg; case hx => assumption) | exact .inl (Nat.zero_le _) | exact .inr (Nat.zero_le _) | (show _ ∨ _; omega))) : Ret Tryz.prog 32 [v, v2, .int .i64 k] w fun u w' => ∃ d sus, u = .tuple #[d, .int .i64 (cRep xss ps k)] ∧ OwnD w' 26 w.heap.size w'.heap.size sus d (resRep xss ps k) ∧ Ext w w' := by
  have E : Since 0 0 w w := Since.refl 0 0 w
  cases hk : okD xss
  · refine ret_enter Tryz.func32 rfl Tryz.ntmps32 rfl ?_
    focus have ht_h := h.top; have ht_hl := hl.top; refine c_seq ?_; refine c_region ?_; refine w_pure (y_assign rfl) rfl ?_; refine w_pure (y_assign rfl) rfl ?_; refine w_nil ?_; refine x_next ?_; refine c_seq ?_; refine c_seq ?_; refine c_region ?_; refine w_pure (y_move rfl) rfl ?_; refine w_val rfl rfl rfl (l02Deck_c) rfl (fun w12 hx12 hz12 => ?_); have hz_hx12 := hx12.size; replace h := h.ext hx12; replace hl := hl.ext hx12; replace E := E.trans hx12; refine w_pure (y_not rfl) rfl ?_; refine w_nil ?_; refine x_next ?_; (refine c_not rfl (fun hc13 => ?_) (fun hc13 => ?_) <;> try (first | exact absurd rfl hc13 | contradiction | exact Bool.noConfusion (show false = true from hc13.symm.trans (by assumption)) | exact Bool.noConfusion (show true = false from hc13.symm.trans (by assumption)) | (exfalso; omega) | (exfalso; simp only [*, Bool.not_true, Bool.not_false, reduceCtorEq] at hc13; done))); refine c_seq ?_; refine c_region ?_; refine w_pure (y_assign rfl) rfl ?_; refine w_pure (y_assign rfl) rfl ?_; refine w_nil ?_; refine x_next ?_; refine c_ret ?_; refine x_then_ret ?_; rotate_left
    exact x_retv [_, _] rfl ⟨rfl, rfl, trivial⟩ ⟨_, [], by rw [cRep_1 hk]; rfl, by unfold resRep; rw [cRep_1 hk, if_neg (by decide)]; exact OwnD.nil _ _ _ _ (Nat.le_refl _), E.go⟩
  cases hk2 : okCp ps (widD xss) k
  · refine ret_enter Tryz.func32 rfl Tryz.ntmps32 rfl ?_
    focus have ht_h := h.top; have ht_hl := hl.top; refine c_seq ?_; refine c_region ?_; refine w_pure (y_assign rfl) rfl ?_; refine w_pure (y_assign rfl) rfl ?_; refine w_nil ?_; refine x_next ?_; refine c_seq ?_; refine c_seq ?_; refine c_region ?_; refine w_pure (y_move rfl) rfl ?_; refine w_val rfl rfl rfl (l02Deck_c) rfl (fun w12 hx12 hz12 => ?_); have hz_hx12 := hx12.size; replace h := h.ext hx12; replace hl := hl.ext hx12; replace E := E.trans hx12; refine w_pure (y_not rfl) rfl ?_; refine w_nil ?_; refine x_next ?_; (refine c_not rfl (fun hc13 => ?_) (fun hc13 => ?_) <;> try (first | exact absurd rfl hc13 | contradiction | exact Bool.noConfusion (show false = true from hc13.symm.trans (by assumption)) | exact Bool.noConfusion (show true = false from hc13.symm.trans (by assumption)) | (exfalso; omega) | (exfalso; simp only [*, Bool.not_true, Bool.not_false, reduceCtorEq] at hc13; done))); refine c_skip ?_; refine x_next ?_; refine c_seq ?_; refine c_seq ?_; refine c_region ?_; refine w_pure (y_move rfl) rfl ?_; refine w_pure (y_move rfl) rfl ?_; refine w_val rfl rfl rfl (l07WidthOf_c) rfl (fun w16 hx16 hz16 => ?_); have hz_hx16 := hx16.size; replace h := h.ext hx16; replace hl := hl.ext hx16; replace E := E.trans hx16; refine w_pure (y_move rfl) rfl ?_; refine w_val rfl rfl rfl (sValidCopies_c _ _) rfl (fun w18 hx18 hz18 => ?_); have hz_hx18 := hx18.size; replace h := h.ext hx18; replace hl := hl.ext hx18; replace E := E.trans hx18; refine w_pure (y_not rfl) rfl ?_; refine w_nil ?_; refine x_next ?_; (refine c_not rfl (fun hc19 => ?_) (fun hc19 => ?_) <;> try (first | exact absurd rfl hc19 | contradiction | exact Bool.noConfusion (show false = true from hc19.symm.trans (by assumption)) | exact Bool.noConfusion (show true = false from hc19.symm.trans (by assumption)) | (exfalso; omega) | (exfalso; simp only [*, Bool.not_true, Bool.not_false, reduceCtorEq] at hc19; done))); refine c_seq ?_; refine c_region ?_; refine w_pure (y_assign rfl) rfl ?_; refine w_pure (y_assign rfl) rfl ?_; refine w_nil ?_; refine x_next ?_; refine c_ret ?_; refine x_then_ret ?_; rotate_left
    exact x_retv [_, _] rfl ⟨rfl, rfl, trivial⟩ ⟨_, [], by rw [cRep_2 hk hk2]; rfl, by unfold resRep; rw [cRep_2 hk hk2, if_neg (by decide)]; exact OwnD.nil _ _ _ _ (Nat.le_refl _), E.go⟩
  have hb := okCp_bd hk2
  have hb2 := okD_len hk
  refine ret_enter Tryz.func32 rfl Tryz.ntmps32 rfl ?_
  focus have ht_h := h.top; have ht_hl := hl.top; refine c_seq ?_; refine c_region ?_; refine w_pure (y_assign rfl) rfl ?_; refine w_pure (y_assign rfl) rfl ?_; refine w_nil ?_; refine x_next ?_; refine c_seq ?_; refine c_seq ?_; refine c_region ?_; refine w_pure (y_move rfl) rfl ?_; refine w_val rfl rfl rfl (l02Deck_c) rfl (fun w12 hx12 hz12 => ?_); have hz_hx12 := hx12.size; replace h := h.ext hx12; replace hl := hl.ext hx12; replace E := E.trans hx12; refine w_pure (y_not rfl) rfl ?_; refine w_nil ?_; refine x_next ?_; (refine c_not rfl (fun hc13 => ?_) (fun hc13 => ?_) <;> try (first | exact absurd rfl hc13 | contradiction | exact Bool.noConfusion (show false = true from hc13.symm.trans (by assumption)) | exact Bool.noConfusion (show true = false from hc13.symm.trans (by assumption)) | (exfalso; omega) | (exfalso; simp only [*, Bool.not_true, Bool.not_false, reduceCtorEq] at hc13; done))); refine c_skip ?_; refine x_next ?_; refine c_seq ?_; refine c_seq ?_; refine c_region ?_; refine w_pure (y_move rfl) rfl ?_; refine w_pure (y_move rfl) rfl ?_; refine w_val rfl rfl rfl (l07WidthOf_c) rfl (fun w16 hx16 hz16 => ?_); have hz_hx16 := hx16.size; replace h := h.ext hx16; replace hl := hl.ext hx16; replace E := E.trans hx16; refine w_pure (y_move rfl) rfl ?_; refine w_val rfl rfl rfl (sValidCopies_c _ _) rfl (fun w18 hx18 hz18 => ?_); have hz_hx18 := hx18.size; replace h := h.ext hx18; replace hl := hl.ext hx18; replace E := E.trans hx18; refine w_pure (y_not rfl) rfl ?_; refine w_nil ?_; refine x_next ?_; (refine c_not rfl (fun hc19 => ?_) (fun hc19 => ?_) <;> try (first | exact absurd rfl hc19 | contradiction | exact Bool.noConfusion (show false = true from hc19.symm.trans (by assumption)) | exact Bool.noConfusion (show true = false from hc19.symm.trans (by assumption)) | (exfalso; omega) | (exfalso; simp only [*, Bool.not_true, Bool.not_false, reduceCtorEq] at hc19; done))); refine c_skip ?_; refine x_next ?_; refine c_seq ?_; refine c_region ?_; refine w_lit_d0 rfl (k := fun v20 w20 ho20 hx20 hl20 hh20 hs20 => ?_); have hl_ho20 := ho20.lt; have hz_hx20 := hx20.size; replace h := h.ext hx20; replace hl := hl.ext hx20; replace E := E.trans hx20; refine w_pure (y_assign rfl) rfl ?_; refine w_nil ?_; refine x_next ?_; refine c_seq ?_; refine c_seq ?_; refine c_region ?_; refine w_pure (y_assign rfl) rfl ?_; refine w_nil ?_; refine x_next ?_; refine c_block ?_; rotate_left
  refine c_loopC (bL v20) (bH v20) (ι := Int × Value × List SV) (fun x => [(0, v), (1, v2), (2, .int .i64 k), (8, x.2.1), (9, .int .i64 x.1)])
    (fun x w' => SLL w' lo hi svs v xss ∧ SL w' l2 h2 v2 ps ∧ OwnD w' 26 w.heap.size w'.heap.size x.2.2 x.2.1 ((xss.take x.1.toNat).map (repF ps k)) ∧ ((bL x.2.1 = bL v20 ∧ bH x.2.1 = bH v20) ∨ w20.heap.size ≤ bL x.2.1) ∧ 0 ≤ x.1 ∧ x.1 ≤ xss.length) (fun x => (xss.length - x.1).toNat) (0, v20, [])
    (by repeat (first | exact trivial | refine ⟨rfl, ?_⟩)) ⟨by assumption, by assumption, OwnD.wide (ho20.low (by omega)) (by omega) (Nat.le_refl _), .inl ⟨rfl, rfl⟩, by omega, by omega⟩ ?_
  clear ho20
  rintro ⟨i, u, sus⟩ wL hxL EL ⟨g1, g2, g3, g4, hi0, hi1⟩
  dsimp only at *
  have hml : i ≤ xss.length → ((xss.take i.toNat).map (repF ps k)).length = i.toNat := fun hh => map_take_len _ (by omega)
  have hrg : i < xss.length → Rng (xss.getD i.toNat []) := fun hh => rng_of (okD_at hk _ (by omega)).1
  have hwd : i < xss.length → ((xss.getD i.toNat []).length : Int) = widD xss := fun hh => widD_at hk _ (by omega)
  have hz := rng_zero k.toNat
  have e1 : (i + 1).toNat = i.toNat + 1 := by omega
  have hrl : ((List.replicate k.toNat (0 : Int)).length : Int) = k := by simp; omega
  have hin : 0 < xss.length → lo ≤ sb v ∧ sb v < hi := fun hh => g1.out.block (by have := g1.len; omega)
  focus have ht_g1 := g1.top; have ht_g2 := g2.top; have hl_g3 := g3.lt; have hz_hxL := hxL.size; replace h := h.chg hxL (by omega); replace hl := hl.chg hxL (by omega); replace E := E.next hxL (by omega); refine c_seq ?_; refine c_seq ?_; refine c_region ?_; refine w_pure (y_move rfl) rfl ?_; refine w_pure (y_move rfl) rfl ?_; refine w_pure (y_lend rfl) rfl ?_; refine w_pure (y_lt rfl rfl) rfl ?_; refine w_nil ?_; refine x_next ?_; (refine c_dec rfl (fun hc24 => ?_) (fun hc24 => ?_) <;> try (first | exact absurd rfl hc24 | contradiction | exact Bool.noConfusion (show false = true from hc24.symm.trans (by assumption)) | exact Bool.noConfusion (show true = false from hc24.symm.trans (by assumption)) | (exfalso; omega) | (exfalso; simp only [*, Bool.not_true, Bool.not_false, reduceCtorEq] at hc24; done))); refine c_skip ?_; refine x_next ?_; refine c_seq ?_; refine c_block ?_; refine c_seq ?_; refine c_region ?_; refine w_pure (y_move rfl) rfl ?_; refine w_make (α := Int) rfl rfl (k := fun v28 w28 ho28 hx28 hl28 hh28 hs28 => ?_); have hl_ho28 := ho28.lt; have hz_hx28 := hx28.size; replace EL := EL.next hx28 (by omega); replace g1 := g1.ext hx28; replace g2 := g2.ext hx28; replace g3 := g3.ext hx28; replace h := h.ext hx28; replace hl := hl.ext hx28; replace E := E.trans hx28; refine w_pure (y_build rfl) rfl ?_; refine w_alloc (k := fun b10 w10 hb10 hx10 hl10 hs10 => ?_); have hz_hx10 := hx10.size; replace ho28 := ho28.ext hx10; replace EL := EL.next hx10 (by omega); replace g1 := g1.ext hx10; replace g2 := g2.ext hx10; replace g3 := g3.ext hx10; replace h := h.ext hx10; replace hl := hl.ext hx10; replace E := E.trans hx10; refine w_store_boxs rfl rfl (next := fun ws21 hbs21 hxs21 hss21 => ?_); (replace hb10 := hbs21; clear hbs21); have hz_hxs21 := hxs21.size; replace ho28 := ho28.chg hxs21 (by omega); replace EL := EL.next hxs21 (by omega); replace g1 := g1.chg hxs21 (by omega); replace g2 := g2.chg hxs21 (by omega); replace g3 := g3.chg hxs21 (by omega); replace h := h.chg hxs21 (by omega); replace hl := hl.chg hxs21 (by omega); replace E := E.next hxs21 (by omega); refine w_nil ?_; refine x_next ?_; refine c_seq ?_; refine c_region ?_; refine w_pure (y_move rfl) rfl ?_; refine w_pure (y_move rfl) rfl ?_; refine w_pure (y_indexd rfl rfl) rfl ?_; refine w_pure (y_move rfl) rfl ?_; (refine w_call rfl rfl rfl (l10Copy_c (hx := hrg (by omega)) (f := widD xss) (t := k)) rfl ?_; rintro _ w34 ⟨rfl, ⟨hp1_34, hx34⟩⟩); have hz_hx34 := hx34.size; replace hb10 := hb10.chg hx34 (by omega); replace EL := EL.next hx34 (by omega); replace g1 := g1.chg hx34 (by omega); replace g2 := g2.chg hx34 (by omega); replace g3 := g3.chg hx34 (by omega); replace h := h.chg hx34 (by omega); replace hl := hl.chg hx34 (by omega); replace E := E.next hx34 (by omega); refine w_nil ?_; refine x_next ?_; refine c_region ?_; refine w_pure (y_move rfl) rfl ?_; refine w_pure (y_load_boxs rfl) rfl ?_; refine w_lit_cd rfl rfl (k := fun v37 w37 ho37 hx37 hl37 hh37 hs37 => ?_); have hl_ho37 := ho37.lt; have hz_hx37 := hx37.size; replace hp1_34 := hp1_34.ext hx37; replace hb10 := hb10.ext hx37; replace EL := EL.next hx37 (by omega); replace g1 := g1.ext hx37; replace g2 := g2.ext hx37; replace g3 := g3.ext hx37; replace h := h.ext hx37; replace hl := hl.ext hx37; replace E := E.trans hx37; refine w_append_d rfl rfl (k := fun v38 w38 ho38 hx38 hr38 => ?_); have hl_ho38 := ho38.lt; have hz_hx38 := hx38.size; replace ho37 := ho37.chg hx38 (by omega); replace hp1_34 := hp1_34.chg hx38 (by omega); replace hb10 := hb10.chg hx38 (by omega); replace EL := EL.next hx38 (by omega); replace g1 := g1.chg hx38 (by omega); replace g2 := g2.chg hx38 (by omega); replace h := h.chg hx38 (by omega); replace hl := hl.chg hx38 (by omega); replace E := E.next hx38 (by omega); refine w_pure (y_assign rfl) rfl ?_; refine w_nil ?_; refine x_block_norm ?_; refine x_next ?_; refine c_region ?_; refine w_pure (y_move rfl) rfl ?_; refine w_pure (y_add rfl rfl) rfl ?_; refine w_pure (y_assign rfl) rfl ?_; refine w_nil ?_; rotate_left; refine c_exit ?_; refine x_then_exit ?_; refine x_then_exit ?_; refine x_block_hit ?_; refine x_next ?_; refine c_seq ?_; refine c_region ?_; refine w_pure (y_move rfl) rfl ?_; refine w_pure (y_assign rfl) rfl ?_; refine w_pure (y_assign rfl) rfl ?_; refine w_nil ?_; refine x_next ?_; refine c_ret ?_; rotate_left
  · refine x_again (i + 1, v38, sus ++ [svOf v28]) (by repeat (first | exact trivial | refine ⟨rfl, ?_⟩)) ⟨EL.go, by assumption, by assumption, ?_, by dsimp only; omega, by dsimp only; omega, by dsimp only; omega⟩ (by dsimp only; omega)
    dsimp only
    rw [e1, map_take_succ (d := []) _ (by omega)]
    exact OwnD.wide (by assumption) (by omega) (Nat.le_refl _)
  · refine x_retv [_, _] rfl ⟨rfl, rfl, trivial⟩ ⟨_, sus, by rw [cRep_0 hk hk2]; rfl, ?_, E.go⟩
    unfold resRep; rw [cRep_0 hk hk2, if_pos rfl, ← take_map_all _ (i := i.toNat) (by omega)]
    exact OwnD.wide (by assumption) (by omega) (Nat.le_refl _)
end
end Go.Proofs.YticnemjjjceiaaaGreatDoor
/- RepB -/
namespace Go.Proofs.YticnemjjjceiaaaGreatDoor
open Go Go.Gw
set_option linter.unusedVariables false
set_option linter.unusedSimpArgs false
def cGng (ms : List Int) (xss : List (List Int)) (ps : List (Int × Int)) : Int := if okK ms = true ∧ okD xss = true then (if okCp ps ms.length (widD xss) = true then 0 else 2) else 1
def gngF (ms : List Int) (ps : List (Int × Int)) (xs : List Int) : List Int := copyF ms ps xs ps.length
def resGng (ms : List Int) (xss : List (List Int)) (ps : List (Int × Int)) : List (List Int) := if cGng ms xss ps = 0 then xss.map (gngF ms ps) else []
theorem cGng_1 {ms : List Int} {xss : List (List Int)} {ps : List (Int × Int)} (h : okK ms = false ∨ okD xss = false) : cGng ms xss ps = 1 := by
  rw [cGng, if_neg]; rintro ⟨h1, h2⟩; simp [h1, h2] at h
theorem cGng_2 {ms : List Int} {xss : List (List Int)} {ps : List (Int × Int)} (h0 : okK ms = true) (h : okD xss = true) (h2 : okCp ps ms.length (widD xss) = false) : cGng ms xss ps = 2 := by simp [cGng, h, h2, h0]
theorem cGng_0 {ms : List Int} {xss : List (List Int)} {ps : List (Int × Int)} (h0 : okK ms = true) (h : okD xss = true) (h2 : okCp ps ms.length (widD xss) = true) : cGng ms xss ps = 0 := by simp [cGng, h, h2, h0]
theorem deck_bd {xss yss : List (List Int)} (hk : okD xss = true) (hl : yss.length = xss.length) (h : ∀ i, i < xss.length → (yss.getD i []).length = (xss.getD i []).length) : totD yss ≤ 800 ∧ yss.length ≤ 40 := by
  have hb2 := okD_len hk
  have h1 := totD_lem (xss := yss) 20 (fun i hi => by rw [h i (by omega)]; exact (okK_len (okD_at hk i (by omega)).1).2)
  omega
theorem resGng_bd (ms : List Int) (xss : List (List Int)) (ps : List (Int × Int)) : totD (resGng ms xss ps) ≤ 800 ∧ (resGng ms xss ps).length ≤ 40 := by
  unfold resGng
  split
  · rename_i h
    cases hk : okD xss
    · rw [cGng_1 (.inr hk)] at h; cases h
    exact deck_bd hk (by simp) (fun i hi => by rw [map_getD (d := []) _ hi, gngF, copyF_len])
  · simp [totD, tot]
section
variable {w : World} {lo hi lo' hi' l2 h2 e b b' o o' lo3 hi3 : Nat} {v v' v2 d vo : Value} {xs ys ms : List Int} {ps : List (Int × Int)} {xss yss : List (List Int)} {svs sus : List SV} {f t : Int}
theorem l02Copy_c (h : SLL w lo hi svs v xss := by repeat (first | assumption | exact Go.Gw.Own.sl (by assumption) | exact Go.Gw.Box.at (by assumption) | exact Go.Gw.SLL.el (by first | assumption | exact Go.Gw.OwnD.sll (by assumption)) _ (by omega) | exact Go.Gw.SLL.at (by first | assumption | exact Go.Gw.OwnD.sll (by assumption)) (by omega) | exact Go.Gw.OwnD.sll (by assumption) | (apply Go.Gw.SL.chg; case hx => assumption) | (apply Go.Gw.Own.chg; case hx => assumption) | (apply Go.Gw.Box.chg; case hx => assumption) | (apply Go.Gw.At.chg; case hx => assumption) | exact .inl (Nat.zero_le _) | exact .inr (Nat.zero_le _) | (show _ ∨ _; omega))) (hk : okD xss = true := by assumption) : Ret Tryz.prog 90 [v] w fun u w' => ∃ sus, OwnD w' 26 w.heap.size w'.heap.size sus u xss ∧ Ext w w' := by
  have hb2 := okD_len hk
  have E : Since 0 0 w w := Since.refl 0 0 w
  refine ret_enter Tryz.func90 rfl Tryz.ntmps90 rfl ?_
  focus have ht_h := h.top; refine c_seq ?_; refine c_region ?_; refine w_pure (y_assign rfl) rfl ?_; refine w_nil ?_; refine x_next ?_; refine c_seq ?_; refine c_region ?_; refine w_lit_d0 rfl (k := fun v5 w5 ho5 hx5 hl5 hh5 hs5 => ?_); have hl_ho5 := ho5.lt; have hz_hx5 := hx5.size; replace h := h.ext hx5; replace E := E.trans hx5; refine w_pure (y_assign rfl) rfl ?_; refine w_nil ?_; refine x_next ?_; refine c_seq ?_; refine c_seq ?_; refine c_region ?_; refine w_pure (y_assign rfl) rfl ?_; refine w_nil ?_; refine x_next ?_; refine c_block ?_; rotate_left
  refine c_loopC (bL v5) (bH v5) (ι := Int × Value × List SV) (fun x => [(0, v), (3, x.2.1), (4, .int .i64 x.1)])
    (fun x w' => SLL w' lo hi svs v xss ∧ OwnD w' 26 w.heap.size w'.heap.size x.2.2 x.2.1 (xss.take x.1.toNat) ∧ ((bL x.2.1 = bL v5 ∧ bH x.2.1 = bH v5) ∨ w5.heap.size ≤ bL x.2.1) ∧ 0 ≤ x.1 ∧ x.1 ≤ xss.length) (fun x => (xss.length - x.1).toNat) (0, v5, [])
    (by repeat (first | exact trivial | refine ⟨rfl, ?_⟩)) ⟨by assumption, OwnD.wide (ho5.low (by omega)) (by omega) (Nat.le_refl _), .inl ⟨rfl, rfl⟩, by omega, by omega⟩ ?_
  clear ho5
  rintro ⟨i, u, sus⟩ wL hxL EL ⟨g1, g3, g4, hi0, hi1⟩
  dsimp only at *
  have hml : i ≤ xss.length → (xss.take i.toNat).length = i.toNat := fun hh => by simp; omega
  have hwd : i < xss.length → (xss.getD i.toNat []).length ≤ 20 := fun hh => (okK_len (okD_at hk _ (by omega)).1).2
  have e1 : (i + 1).toNat = i.toNat + 1 := by omega
  focus have ht_g1 := g1.top; have hl_g3 := g3.lt; have hz_hxL := hxL.size; replace h := h.chg hxL (by omega); replace E := E.next hxL (by omega); refine c_seq ?_; refine c_seq ?_; refine c_region ?_; refine w_pure (y_move rfl) rfl ?_; refine w_pure (y_move rfl) rfl ?_; refine w_pure (y_lend rfl) rfl ?_; refine w_pure (y_lt rfl rfl) rfl ?_; refine w_nil ?_; refine x_next ?_; (refine c_dec rfl (fun hc9 => ?_) (fun hc9 => ?_) <;> try (first | exact absurd rfl hc9 | contradiction | exact Bool.noConfusion (show false = true from hc9.symm.trans (by assumption)) | exact Bool.noConfusion (show true = false from hc9.symm.trans (by assumption)) | (exfalso; omega) | (exfalso; simp only [*, Bool.not_true, Bool.not_false, reduceCtorEq] at hc9; done))); refine c_skip ?_; refine x_next ?_; refine c_seq ?_; refine c_block ?_; refine c_region ?_; refine w_pure (y_move rfl) rfl ?_; refine w_pure (y_move rfl) rfl ?_; refine w_pure (y_move rfl) rfl ?_; refine w_pure (y_indexd rfl rfl) rfl ?_; (refine w_call rfl rfl rfl (l02Own_c) rfl ?_; rintro _ w16 ⟨d16, ⟨rfl, ⟨hp1_16, hx16⟩⟩⟩); have hl_hp1_16 := hp1_16.lt; have hz_hx16 := hx16.size; replace EL := EL.next hx16 (by omega); replace g1 := g1.ext hx16; replace g3 := g3.ext hx16; replace h := h.ext hx16; replace E := E.trans hx16; refine w_lit_cd rfl rfl (k := fun v17 w17 ho17 hx17 hl17 hh17 hs17 => ?_); have hl_ho17 := ho17.lt; have hz_hx17 := hx17.size; replace hp1_16 := hp1_16.ext hx17; replace EL := EL.next hx17 (by omega); replace g1 := g1.ext hx17; replace g3 := g3.ext hx17; replace h := h.ext hx17; replace E := E.trans hx17; refine w_append_d rfl rfl (k := fun v18 w18 ho18 hx18 hr18 => ?_); have hl_ho18 := ho18.lt; have hz_hx18 := hx18.size; replace ho17 := ho17.chg hx18 (by omega); replace hp1_16 := hp1_16.chg hx18 (by omega); replace EL := EL.next hx18 (by omega); replace g1 := g1.chg hx18 (by omega); replace h := h.chg hx18 (by omega); replace E := E.next hx18 (by omega); refine w_pure (y_assign rfl) rfl ?_; refine w_nil ?_; refine x_block_norm ?_; refine x_next ?_; refine c_region ?_; refine w_pure (y_move rfl) rfl ?_; refine w_pure (y_add rfl rfl) rfl ?_; refine w_pure (y_assign rfl) rfl ?_; refine w_nil ?_; rotate_left; refine c_exit ?_; refine x_then_exit ?_; refine x_then_exit ?_; refine x_block_hit ?_; refine x_next ?_; refine c_seq ?_; refine c_region ?_; refine w_pure (y_move rfl) rfl ?_; refine w_pure (y_assign rfl) rfl ?_; refine w_nil ?_; refine x_next ?_; refine c_ret ?_; rotate_left
  · refine x_again (i + 1, v18, sus ++ [svOf d16]) (by repeat (first | exact trivial | refine ⟨rfl, ?_⟩)) ⟨EL.go, by assumption, ?_, by dsimp only; omega, by dsimp only; omega, by dsimp only; omega⟩ (by dsimp only; omega)
    dsimp only
    rw [e1, List.take_add_one, show xss[i.toNat]? = some (xss.getD i.toNat []) by rw [List.getD_eq_getElem?_getD, List.getElem?_eq_getElem (by omega)]; rfl]
    exact OwnD.wide (by assumption) (by omega) (Nat.le_refl _)
  · refine x_retv [_] rfl ⟨rfl, trivial⟩ ⟨sus, ?_, E.go⟩
    rw [List.take_of_length_le (by omega)] at g3
    exact OwnD.wide (by assumption) (by omega) (Nat.le_refl _)
theorem l10CopyEl_e {i : Nat} (g : OwnD w e lo3 hi3 sus vo yss := by assumption) (hlt : i < yss.length := by omega) (hp : At w b o [v'] := by repeat (first | assumption | exact Go.Gw.Own.sl (by assumption) | exact Go.Gw.Box.at (by assumption) | exact Go.Gw.SLL.el (by first | assumption | exact Go.Gw.OwnD.sll (by assumption)) _ (by omega) | exact Go.Gw.SLL.at (by first | assumption | exact Go.Gw.OwnD.sll (by assumption)) (by omega) | exact Go.Gw.OwnD.sll (by assumption) | (apply Go.Gw.SL.chg; case hx => assumption) | (apply Go.Gw.Own.chg; case hx => assumption) | (apply Go.Gw.Box.chg; case hx => assumption) | (apply Go.Gw.At.chg; case hx => assumption) | exact .inl (Nat.zero_le _) | exact .inr (Nat.zero_le _) | (show _ ∨ _; omega))) (h' : SL w lo' hi' v' xs := by repeat (first | assumption | exact Go.Gw.Own.sl (by assumption) | exact Go.Gw.Box.at (by assumption) | exact Go.Gw.SLL.el (by first | assumption | exact Go.Gw.OwnD.sll (by assumption)) _ (by omega) | exact Go.Gw.SLL.at (by first | assumption | exact Go.Gw.OwnD.sll (by assumption)) (by omega) | exact Go.Gw.OwnD.sll (by assumption) | (apply Go.Gw.SL.chg; case hx => assumption) | (apply Go.Gw.Own.chg; case hx => assumption) | (apply Go.Gw.Box.chg; case hx => assumption) | (apply Go.Gw.At.chg; case hx => assumption) | exact .inl (Nat.zero_le _) | exact .inr (Nat.zero_le _) | (show _ ∨ _; omega))) (hl : SL w l2 h2 v2 ps := by repeat (first | assumption | exact Go.Gw.Own.sl (by assumption) | exact Go.Gw.Box.at (by assumption) | exact Go.Gw.SLL.el (by first | assumption | exact Go.Gw.OwnD.sll (by assumption)) _ (by omega) | exact Go.Gw.SLL.at (by first | assumption | exact Go.Gw.OwnD.sll (by assumption)) (by omega) | exact Go.Gw.OwnD.sll (by assumption) | (apply Go.Gw.SL.chg; case hx => assumption) | (apply Go.Gw.Own.chg; case hx => assumption) | (apply Go.Gw.Box.chg; case hx => assumption) | (apply Go.Gw.At.chg; case hx => assumption) | exact .inl (Nat.zero_le _) | exact .inr (Nat.zero_le _) | (show _ ∨ _; omega))) (hx : Rng xs := by assumption) (hy : Rng (yss.getD i []) := by assumption) (hc : okCp ps f t = true := by assumption) (hf : f = xs.length := by first | assumption | omega) (ht : t = (yss.getD i []).length := by first | assumption | omega)
    (hd : (hi3 ≤ lo' ∨ hi' ≤ lo3) ∧ (hi3 ≤ l2 ∨ h2 ≤ lo3) ∧ (b < lo3 ∨ hi3 ≤ b) := by omega) :
    Ret Tryz.prog 57 [ptr b o, ptr (sb vo) (so vo + i * 1), v2] w fun u w' => u = .tuple #[] ∧ OwnD w' e lo3 hi3 sus vo (yss.set i (copyF xs ps (yss.getD i []) ps.length)) ∧ Chg lo3 hi3 w w' := by
  have hr := (g.plc i hlt).rng
  have ho := (g.plc i hlt).out
  have hv := g.lt
  have hln := g.len
  have hin := g.own.sl.inn (by omega)
  refine (l10Copy_c hp (g.sll.at hlt) (g.el i hlt) h' hl hx hy hc hf ht (by unfold Apart at ho; omega)).mono ?_
  rintro u w' ⟨rfl, hs, hch⟩
  exact ⟨rfl, g.upd hlt hch rfl rfl hs, hch.wide (by omega) (by omega)⟩
theorem iGangPunch_c (h0 : SL w lo' hi' v' ms := by repeat (first | assumption | exact Go.Gw.Own.sl (by assumption) | exact Go.Gw.Box.at (by assumption) | exact Go.Gw.SLL.el (by first | assumption | exact Go.Gw.OwnD.sll (by assumption)) _ (by omega) | exact Go.Gw.SLL.at (by first | assumption | exact Go.Gw.OwnD.sll (by assumption)) (by omega) | exact Go.Gw.OwnD.sll (by assumption) | (apply Go.Gw.SL.chg; case hx => assumption) | (apply Go.Gw.Own.chg; case hx => assumption) | (apply Go.Gw.Box.chg; case hx => assumption) | (apply Go.Gw.At.chg; case hx => assumption) | exact .inl (Nat.zero_le _) | exact .inr (Nat.zero_le _) | (show _ ∨ _; omega))) (h : SLL w lo hi svs v xss := by repeat (first | assumption | exact Go.Gw.Own.sl (by assumption) | exact Go.Gw.Box.at (by assumption) | exact Go.Gw.SLL.el (by first | assumption | exact Go.Gw.OwnD.sll (by assumption)) _ (by omega) | exact Go.Gw.SLL.at (by first | assumption | exact Go.Gw.OwnD.sll (by assumption)) (by omega) | exact Go.Gw.OwnD.sll (by assumption) | (apply Go.Gw.SL.chg; case hx => assumption) | (apply Go.Gw.Own.chg; case hx => assumption) | (apply Go.Gw.Box.chg; case hx => assumption) | (apply Go.Gw.At.chg; case hx => assumption) | exact .inl (Nat.zero_le _) | exact .inr (Nat.zero_le _) | (show _ ∨ _; omega))) (hl : SL w l2 h2 v2 ps := by repeat (first | assumption | exact Go.Gw.Own.sl (by assumption) | exact Go.Gw.Box.at (by assumption) | exact Go.Gw.SLL.el (by first | assumption | exact Go.Gw.OwnD.sll (by assumption)) _ (by omega) | exact Go.Gw.SLL.at (by first | assumption | exact Go.Gw.OwnD.sll (by assumption)) (by omega) | exact Go.Gw.OwnD.sll (by assumption) | (apply Go.Gw.SL.chg; case hx => assumption) | (apply Go.Gw.Own.chg; case hx => assumption) | (apply Go.Gw.Box.chg; case hx => assumption) | (apply Go.Gw.At.chg; case hx => assumption) | exact .inl (Nat.zero_le _) | exact .inr (Nat.zero_le _) | (show _ ∨ _; omega))) : Ret Tryz.prog 34 [.agg #[v'], v, v2] w fun u w' => ∃ d sus, u = .tuple #[d, .int .i64 (cGng ms xss ps)] ∧ OwnD w' 26 w.heap.size w'.heap.size sus d (resGng ms xss ps) ∧ Ext w w' := by
  have E : Since 0 0 w w := Since.refl 0 0 w
  cases hk0 : okK ms
  · refine ret_enter Tryz.func34 rfl Tryz.ntmps34 rfl ?_
    focus have ht_h0 := h0.top; have ht_h := h.top; have ht_hl := hl.top; refine c_seq ?_; refine c_region ?_; refine w_box rfl (k := fun b3 w3 hb3 hx3 hl3 hs3 => ?_); have hz_hx3 := hx3.size; replace h0 := h0.ext hx3; replace h := h.ext hx3; replace hl := hl.ext hx3; replace E := E.trans hx3; refine w_pure (y_assign rfl) rfl ?_; refine w_pure (y_assign rfl) rfl ?_; refine w_nil ?_; refine x_next ?_; refine c_seq ?_; refine c_block ?_; refine c_seq ?_; refine c_region ?_; refine w_pure (y_load_boxs rfl) rfl ?_; refine w_val rfl rfl rfl (iValidCard_c) rfl (fun w13 hx13 hz13 => ?_); have hz_hx13 := hx13.size; replace hb3 := hb3.ext hx13; replace h0 := h0.ext hx13; replace h := h.ext hx13; replace hl := hl.ext hx13; replace E := E.trans hx13; refine w_pure (y_not rfl) rfl ?_; refine w_pure (y_move rfl) rfl ?_; (refine w_part rfl rfl (fun hc16 => ?_) (fun hc16 => ?_) <;> try (first | exact absurd rfl hc16 | contradiction | exact Bool.noConfusion (show false = true from hc16.symm.trans (by assumption)) | exact Bool.noConfusion (show true = false from hc16.symm.trans (by assumption)) | (exfalso; omega) | (exfalso; simp only [*, Bool.not_true, Bool.not_false, reduceCtorEq] at hc16; done))); refine w_no rfl rfl rfl rfl ?_; refine w_no rfl rfl rfl rfl ?_; refine w_no rfl rfl rfl rfl ?_; refine w_pure (y_pick_t rfl rfl) rfl ?_; refine w_pure (y_assign rfl) rfl ?_; refine w_nil ?_; refine x_next ?_; refine c_true rfl ?_; refine c_seq ?_; refine c_region ?_; refine w_pure (y_assign rfl) rfl ?_; refine w_pure (y_assign rfl) rfl ?_; refine w_nil ?_; refine x_next ?_; refine c_ret ?_; refine x_block_ret ?_; refine x_then_ret ?_; rotate_left
    exact x_retv [_, _] rfl ⟨rfl, rfl, trivial⟩ ⟨_, [], by rw [cGng_1 (.inl hk0)]; rfl, by unfold resGng; rw [cGng_1 (.inl hk0), if_neg (by decide)]; exact OwnD.nil _ _ _ _ (Nat.le_refl _), E.go⟩
  cases hk : okD xss
  · refine ret_enter Tryz.func34 rfl Tryz.ntmps34 rfl ?_
    focus have ht_h0 := h0.top; have ht_h := h.top; have ht_hl := hl.top; refine c_seq ?_; refine c_region ?_; refine w_box rfl (k := fun b3 w3 hb3 hx3 hl3 hs3 => ?_); have hz_hx3 := hx3.size; replace h0 := h0.ext hx3; replace h := h.ext hx3; replace hl := hl.ext hx3; replace E := E.trans hx3; refine w_pure (y_assign rfl) rfl ?_; refine w_pure (y_assign rfl) rfl ?_; refine w_nil ?_; refine x_next ?_; refine c_seq ?_; refine c_block ?_; refine c_seq ?_; refine c_region ?_; refine w_pure (y_load_boxs rfl) rfl ?_; refine w_val rfl rfl rfl (iValidCard_c) rfl (fun w13 hx13 hz13 => ?_); have hz_hx13 := hx13.size; replace hb3 := hb3.ext hx13; replace h0 := h0.ext hx13; replace h := h.ext hx13; replace hl := hl.ext hx13; replace E := E.trans hx13; refine w_pure (y_not rfl) rfl ?_; refine w_pure (y_move rfl) rfl ?_; (refine w_part rfl rfl (fun hc16 => ?_) (fun hc16 => ?_) <;> try (first | exact absurd rfl hc16 | contradiction | exact Bool.noConfusion (show false = true from hc16.symm.trans (by assumption)) | exact Bool.noConfusion (show true = false from hc16.symm.trans (by assumption)) | (exfalso; omega) | (exfalso; simp only [*, Bool.not_true, Bool.not_false, reduceCtorEq] at hc16; done))); refine w_yes rfl rfl ?_; refine w_pure (y_move rfl) rfl ?_; refine w_yes rfl rfl ?_; refine w_val rfl rfl rfl (iValidDeck_c) rfl (fun w17 hx17 hz17 => ?_); have hz_hx17 := hx17.size; replace hb3 := hb3.ext hx17; replace h0 := h0.ext hx17; replace h := h.ext hx17; replace hl := hl.ext hx17; replace E := E.trans hx17; refine w_yes rfl rfl ?_; refine w_pure (y_not rfl) rfl ?_; refine w_pure (y_pick_f rfl rfl) rfl ?_; refine w_pure (y_assign rfl) rfl ?_; refine w_nil ?_; refine x_next ?_; (refine c_not rfl (fun hc11 => ?_) (fun hc11 => ?_) <;> try (first | exact absurd rfl hc11 | contradiction | exact Bool.noConfusion (show false = true from hc11.symm.trans (by assumption)) | exact Bool.noConfusion (show true = false from hc11.symm.trans (by assumption)) | (exfalso; omega) | (exfalso; simp only [*, Bool.not_true, Bool.not_false, reduceCtorEq] at hc11; done))); refine c_seq ?_; refine c_region ?_; refine w_pure (y_assign rfl) rfl ?_; refine w_pure (y_assign rfl) rfl ?_; refine w_nil ?_; refine x_next ?_; refine c_ret ?_; refine x_block_ret ?_; refine x_then_ret ?_; rotate_left
    exact x_retv [_, _] rfl ⟨rfl, rfl, trivial⟩ ⟨_, [], by rw [cGng_1 (.inr hk)]; rfl, by unfold resGng; rw [cGng_1 (.inr hk), if_neg (by decide)]; exact OwnD.nil _ _ _ _ (Nat.le_refl _), E.go⟩
  cases hk2 : okCp ps ms.length (widD xss)
  · refine ret_enter Tryz.func34 rfl Tryz.ntmps34 rfl ?_
    focus have ht_h0 := h0.top; have ht_h := h.top; have ht_hl := hl.top; refine c_seq ?_; refine c_region ?_; refine w_box rfl (k := fun b3 w3 hb3 hx3 hl3 hs3 => ?_); have hz_hx3 := hx3.size; replace h0 := h0.ext hx3; replace h := h.ext hx3; replace hl := hl.ext hx3; replace E := E.trans hx3; refine w_pure (y_assign rfl) rfl ?_; refine w_pure (y_assign rfl) rfl ?_; refine w_nil ?_; refine x_next ?_; refine c_seq ?_; refine c_block ?_; refine c_seq ?_; refine c_region ?_; refine w_pure (y_load_boxs rfl) rfl ?_; refine w_val rfl rfl rfl (iValidCard_c) rfl (fun w13 hx13 hz13 => ?_); have hz_hx13 := hx13.size; replace hb3 := hb3.ext hx13; replace h0 := h0.ext hx13; replace h := h.ext hx13; replace hl := hl.ext hx13; replace E := E.trans hx13; refine w_pure (y_not rfl) rfl ?_; refine w_pure (y_move rfl) rfl ?_; (refine w_part rfl rfl (fun hc16 => ?_) (fun hc16 => ?_) <;> try (first | exact absurd rfl hc16 | contradiction | exact Bool.noConfusion (show false = true from hc16.symm.trans (by assumption)) | exact Bool.noConfusion (show true = false from hc16.symm.trans (by assumption)) | (exfalso; omega) | (exfalso; simp only [*, Bool.not_true, Bool.not_false, reduceCtorEq] at hc16; done))); refine w_yes rfl rfl ?_; refine w_pure (y_move rfl) rfl ?_; refine w_yes rfl rfl ?_; refine w_val rfl rfl rfl (iValidDeck_c) rfl (fun w17 hx17 hz17 => ?_); have hz_hx17 := hx17.size; replace hb3 := hb3.ext hx17; replace h0 := h0.ext hx17; replace h := h.ext hx17; replace hl := hl.ext hx17; replace E := E.trans hx17; refine w_yes rfl rfl ?_; refine w_pure (y_not rfl) rfl ?_; refine w_pure (y_pick_f rfl rfl) rfl ?_; refine w_pure (y_assign rfl) rfl ?_; refine w_nil ?_; refine x_next ?_; (refine c_not rfl (fun hc11 => ?_) (fun hc11 => ?_) <;> try (first | exact absurd rfl hc11 | contradiction | exact Bool.noConfusion (show false = true from hc11.symm.trans (by assumption)) | exact Bool.noConfusion (show true = false from hc11.symm.trans (by assumption)) | (exfalso; omega) | (exfalso; simp only [*, Bool.not_true, Bool.not_false, reduceCtorEq] at hc11; done))); refine c_seq ?_; refine c_region ?_; refine w_pure (y_move rfl) rfl ?_; refine w_pure (y_load_boxs rfl) rfl ?_; refine w_val rfl rfl rfl (columns_c) rfl (fun w23 hx23 hz23 => ?_); have hz_hx23 := hx23.size; replace hb3 := hb3.ext hx23; replace h0 := h0.ext hx23; replace h := h.ext hx23; replace hl := hl.ext hx23; replace E := E.trans hx23; refine w_pure (y_move rfl) rfl ?_; refine w_val rfl rfl rfl (deckColumns_c) rfl (fun w25 hx25 hz25 => ?_); have hz_hx25 := hx25.size; replace hb3 := hb3.ext hx25; replace h0 := h0.ext hx25; replace h := h.ext hx25; replace hl := hl.ext hx25; replace E := E.trans hx25; refine w_val rfl rfl rfl (iValidCopies_c _ _) rfl (fun w26 hx26 hz26 => ?_); have hz_hx26 := hx26.size; replace hb3 := hb3.ext hx26; replace h0 := h0.ext hx26; replace h := h.ext hx26; replace hl := hl.ext hx26; replace E := E.trans hx26; refine w_pure (y_not rfl) rfl ?_; refine w_pure (y_assign rfl) rfl ?_; refine w_nil ?_; refine x_next ?_; (refine c_not rfl (fun hc20 => ?_) (fun hc20 => ?_) <;> try (first | exact absurd rfl hc20 | contradiction | exact Bool.noConfusion (show false = true from hc20.symm.trans (by assumption)) | exact Bool.noConfusion (show true = false from hc20.symm.trans (by assumption)) | (exfalso; omega) | (exfalso; simp only [*, Bool.not_true, Bool.not_false, reduceCtorEq] at hc20; done))); refine c_seq ?_; refine c_region ?_; refine w_pure (y_assign rfl) rfl ?_; refine w_pure (y_assign rfl) rfl ?_; refine w_nil ?_; refine x_next ?_; refine c_ret ?_; refine x_block_ret ?_; refine x_then_ret ?_; rotate_left
    exact x_retv [_, _] rfl ⟨rfl, rfl, trivial⟩ ⟨_, [], by rw [cGng_2 hk0 hk hk2]; rfl, by unfold resGng; rw [cGng_2 hk0 hk hk2, if_neg (by decide)]; exact OwnD.nil _ _ _ _ (Nat.le_refl _), E.go⟩
  have hb := okCp_bd hk2
  have hb2 := okD_len hk
  have hm := rng_of hk0
  refine ret_enter Tryz.func34 rfl Tryz.ntmps34 rfl ?_
  focus have ht_h0 := h0.top; have ht_h := h.top; have ht_hl := hl.top; refine c_seq ?_; refine c_region ?_; refine w_box rfl (k := fun b3 w3 hb3 hx3 hl3 hs3 => ?_); have hz_hx3 := hx3.size; replace h0 := h0.ext hx3; replace h := h.ext hx3; replace hl := hl.ext hx3; replace E := E.trans hx3; refine w_pure (y_assign rfl) rfl ?_; refine w_pure (y_assign rfl) rfl ?_; refine w_nil ?_; refine x_next ?_; refine c_seq ?_; refine c_block ?_; refine c_seq ?_; refine c_region ?_; refine w_pure (y_load_boxs rfl) rfl ?_; refine w_val rfl rfl rfl (iValidCard_c) rfl (fun w13 hx13 hz13 => ?_); have hz_hx13 := hx13.size; replace hb3 := hb3.ext hx13; replace h0 := h0.ext hx13; replace h := h.ext hx13; replace hl := hl.ext hx13; replace E := E.trans hx13; refine w_pure (y_not rfl) rfl ?_; refine w_pure (y_move rfl) rfl ?_; (refine w_part rfl rfl (fun hc16 => ?_) (fun hc16 => ?_) <;> try (first | exact absurd rfl hc16 | contradiction | exact Bool.noConfusion (show false = true from hc16.symm.trans (by assumption)) | exact Bool.noConfusion (show true = false from hc16.symm.trans (by assumption)) | (exfalso; omega) | (exfalso; simp only [*, Bool.not_true, Bool.not_false, reduceCtorEq] at hc16; done))); refine w_yes rfl rfl ?_; refine w_pure (y_move rfl) rfl ?_; refine w_yes rfl rfl ?_; refine w_val rfl rfl rfl (iValidDeck_c) rfl (fun w17 hx17 hz17 => ?_); have hz_hx17 := hx17.size; replace hb3 := hb3.ext hx17; replace h0 := h0.ext hx17; replace h := h.ext hx17; replace hl := hl.ext hx17; replace E := E.trans hx17; refine w_yes rfl rfl ?_; refine w_pure (y_not rfl) rfl ?_; refine w_pure (y_pick_f rfl rfl) rfl ?_; refine w_pure (y_assign rfl) rfl ?_; refine w_nil ?_; refine x_next ?_; (refine c_not rfl (fun hc11 => ?_) (fun hc11 => ?_) <;> try (first | exact absurd rfl hc11 | contradiction | exact Bool.noConfusion (show false = true from hc11.symm.trans (by assumption)) | exact Bool.noConfusion (show true = false from hc11.symm.trans (by assumption)) | (exfalso; omega) | (exfalso; simp only [*, Bool.not_true, Bool.not_false, reduceCtorEq] at hc11; done))); refine c_seq ?_; refine c_region ?_; refine w_pure (y_move rfl) rfl ?_; refine w_pure (y_load_boxs rfl) rfl ?_; refine w_val rfl rfl rfl (columns_c) rfl (fun w23 hx23 hz23 => ?_); have hz_hx23 := hx23.size; replace hb3 := hb3.ext hx23; replace h0 := h0.ext hx23; replace h := h.ext hx23; replace hl := hl.ext hx23; replace E := E.trans hx23; refine w_pure (y_move rfl) rfl ?_; refine w_val rfl rfl rfl (deckColumns_c) rfl (fun w25 hx25 hz25 => ?_); have hz_hx25 := hx25.size; replace hb3 := hb3.ext hx25; replace h0 := h0.ext hx25; replace h := h.ext hx25; replace hl := hl.ext hx25; replace E := E.trans hx25; refine w_val rfl rfl rfl (iValidCopies_c _ _) rfl (fun w26 hx26 hz26 => ?_); have hz_hx26 := hx26.size; replace hb3 := hb3.ext hx26; replace h0 := h0.ext hx26; replace h := h.ext hx26; replace hl := hl.ext hx26; replace E := E.trans hx26; refine w_pure (y_not rfl) rfl ?_; refine w_pure (y_assign rfl) rfl ?_; refine w_nil ?_; refine x_next ?_; (refine c_not rfl (fun hc20 => ?_) (fun hc20 => ?_) <;> try (first | exact absurd rfl hc20 | contradiction | exact Bool.noConfusion (show false = true from hc20.symm.trans (by assumption)) | exact Bool.noConfusion (show true = false from hc20.symm.trans (by assumption)) | (exfalso; omega) | (exfalso; simp only [*, Bool.not_true, Bool.not_false, reduceCtorEq] at hc20; done))); refine c_skip ?_; refine x_block_norm ?_; refine x_next ?_; refine c_seq ?_; refine c_region ?_; refine w_lit_d0 rfl (k := fun v28 w28 ho28 hx28 hl28 hh28 hs28 => ?_); have hl_ho28 := ho28.lt; have hz_hx28 := hx28.size; replace hb3 := hb3.ext hx28; replace h0 := h0.ext hx28; replace h := h.ext hx28; replace hl := hl.ext hx28; replace E := E.trans hx28; refine w_pure (y_assign rfl) rfl ?_; refine w_nil ?_; refine x_next ?_; refine c_seq ?_; refine c_seq ?_; refine c_region ?_; refine w_pure (y_move rfl) rfl ?_; refine w_pure (y_lend rfl) rfl ?_; refine w_pure (y_move rfl) rfl ?_; refine w_nil ?_; refine x_next ?_; refine c_block ?_; rotate_left
  refine c_loopC (bL v28) (bH v28) (ι := Int × Value × List SV) (fun x => [(2, v2), (3, ptr b3 0), (8, x.2.1), (29, v), (30, .int .i64 xss.length), (31, .int .i64 x.1)])
    (fun x w' => SLL w' lo hi svs v xss ∧ SL w' l2 h2 v2 ps ∧ SL w' lo' hi' v' ms ∧ Box w' b3 [v'] ∧ OwnD w' 26 w.heap.size w'.heap.size x.2.2 x.2.1 ((xss.take x.1.toNat).map (gngF ms ps)) ∧ ((bL x.2.1 = bL v28 ∧ bH x.2.1 = bH v28) ∨ w28.heap.size ≤ bL x.2.1) ∧ 0 ≤ x.1 ∧ x.1 ≤ xss.length) (fun x => (xss.length - x.1).toNat) (0, v28, [])
    (by repeat (first | exact trivial | refine ⟨rfl, ?_⟩)) ⟨by assumption, by assumption, by assumption, by assumption, OwnD.wide (ho28.low (by omega)) (by omega) (Nat.le_refl _), .inl ⟨rfl, rfl⟩, by omega, by omega⟩ ?_
  clear ho28 hb3
  rintro ⟨i, u, sus⟩ wL hxL EL ⟨g1, g2, g0, gb, g3, g4, hi0, hi1⟩
  dsimp only at *
  have hml : i ≤ xss.length → ((xss.take i.toNat).map (gngF ms ps)).length = i.toNat := fun hh => map_take_len _ (by omega)
  have hrg : i < xss.length → Rng (xss.getD i.toNat []) := fun hh => rng_of (okD_at hk _ (by omega)).1
  have hwd : i < xss.length → ((xss.getD i.toNat []).length : Int) = widD xss := fun hh => widD_at hk _ (by omega)
  have e1 : (i + 1).toNat = i.toNat + 1 := by omega
  focus have ht_g1 := g1.top; have ht_g2 := g2.top; have ht_g0 := g0.top; have hl_g3 := g3.lt; have hz_hxL := hxL.size; replace h0 := h0.chg hxL (by omega); replace h := h.chg hxL (by omega); replace hl := hl.chg hxL (by omega); replace E := E.next hxL (by omega); refine c_seq ?_; refine c_region ?_; refine w_pure (y_lt rfl rfl) rfl ?_; refine w_nil ?_; refine x_next ?_; refine c_seq ?_; (refine c_dec rfl (fun hc32 => ?_) (fun hc32 => ?_) <;> try (first | exact absurd rfl hc32 | contradiction | exact Bool.noConfusion (show false = true from hc32.symm.trans (by assumption)) | exact Bool.noConfusion (show true = false from hc32.symm.trans (by assumption)) | (exfalso; omega) | (exfalso; simp only [*, Bool.not_true, Bool.not_false, reduceCtorEq] at hc32; done))); refine c_skip ?_; refine x_next ?_; refine c_seq ?_; refine c_block ?_; refine c_seq ?_; refine c_region ?_; refine w_pure (y_indexd rfl rfl) rfl ?_; refine w_pure (y_loads rfl) rfl ?_; refine w_alloc (k := fun b10 w10 hb10 hx10 hl10 hs10 => ?_); have hz_hx10 := hx10.size; replace EL := EL.next hx10 (by omega); replace g1 := g1.ext hx10; replace g2 := g2.ext hx10; replace g0 := g0.ext hx10; replace gb := gb.ext hx10; replace g3 := g3.ext hx10; replace h0 := h0.ext hx10; replace h := h.ext hx10; replace hl := hl.ext hx10; replace E := E.trans hx10; refine w_store_boxs rfl rfl (next := fun ws17 hbs17 hxs17 hss17 => ?_); (replace hb10 := hbs17; clear hbs17); have hz_hxs17 := hxs17.size; replace EL := EL.next hxs17 (by omega); replace g1 := g1.chg hxs17 (by omega); replace g2 := g2.chg hxs17 (by omega); replace g0 := g0.chg hxs17 (by omega); replace gb := gb.chg hxs17 (by omega); replace g3 := g3.chg hxs17 (by omega); replace h0 := h0.chg hxs17 (by omega); replace h := h.chg hxs17 (by omega); replace hl := hl.chg hxs17 (by omega); replace E := E.next hxs17 (by omega); refine w_nil ?_; refine x_next ?_; refine c_region ?_; refine w_pure (y_move rfl) rfl ?_; refine w_pure (y_load_boxs rfl) rfl ?_; refine w_pure (y_load_boxs rfl) rfl ?_; refine w_pure (y_move rfl) rfl ?_; (refine w_call rfl rfl rfl (copied_c (hy := hrg (by omega)) (f := ms.length) (t := widD xss)) rfl ?_; rintro _ w39 ⟨d39, ⟨rfl, ⟨hp1_39, hx39⟩⟩⟩); have hl_hp1_39 := hp1_39.lt; have hz_hx39 := hx39.size; replace hb10 := hb10.ext hx39; replace EL := EL.next hx39 (by omega); replace g1 := g1.ext hx39; replace g2 := g2.ext hx39; replace g0 := g0.ext hx39; replace gb := gb.ext hx39; replace g3 := g3.ext hx39; replace h0 := h0.ext hx39; replace h := h.ext hx39; replace hl := hl.ext hx39; replace E := E.trans hx39; refine w_lit_cd rfl rfl (k := fun v40 w40 ho40 hx40 hl40 hh40 hs40 => ?_); have hl_ho40 := ho40.lt; have hz_hx40 := hx40.size; replace hp1_39 := hp1_39.ext hx40; replace hb10 := hb10.ext hx40; replace EL := EL.next hx40 (by omega); replace g1 := g1.ext hx40; replace g2 := g2.ext hx40; replace g0 := g0.ext hx40; replace gb := gb.ext hx40; replace g3 := g3.ext hx40; replace h0 := h0.ext hx40; replace h := h.ext hx40; replace hl := hl.ext hx40; replace E := E.trans hx40; refine w_append_d rfl rfl (k := fun v41 w41 ho41 hx41 hr41 => ?_); have hl_ho41 := ho41.lt; have hz_hx41 := hx41.size; replace ho40 := ho40.chg hx41 (by omega); replace hp1_39 := hp1_39.chg hx41 (by omega); replace hb10 := hb10.chg hx41 (by omega); replace EL := EL.next hx41 (by omega); replace g1 := g1.chg hx41 (by omega); replace g2 := g2.chg hx41 (by omega); replace g0 := g0.chg hx41 (by omega); replace gb := gb.chg hx41 (by omega); replace h0 := h0.chg hx41 (by omega); replace h := h.chg hx41 (by omega); replace hl := hl.chg hx41 (by omega); replace E := E.next hx41 (by omega); refine w_pure (y_assign rfl) rfl ?_; refine w_nil ?_; refine x_block_norm ?_; refine x_next ?_; refine c_region ?_; refine w_pure (y_add rfl rfl) rfl ?_; refine w_pure (y_move rfl) rfl ?_; refine w_nil ?_; rotate_left; refine c_exit ?_; refine x_then_exit ?_; refine x_then_exit ?_; refine x_block_hit ?_; refine x_next ?_; refine c_seq ?_; refine c_region ?_; refine w_pure (y_move rfl) rfl ?_; refine w_pure (y_assign rfl) rfl ?_; refine w_pure (y_assign rfl) rfl ?_; refine w_nil ?_; refine x_next ?_; refine c_ret ?_; rotate_left
  · refine x_again (i + 1, v41, sus ++ [svOf d39]) (by repeat (first | exact trivial | refine ⟨rfl, ?_⟩)) ⟨EL.go, by assumption, by assumption, by assumption, by assumption, ?_, by dsimp only; omega, by dsimp only; omega, by dsimp only; omega⟩ (by dsimp only; omega)
    dsimp only
    rw [e1, map_take_succ (d := []) _ (by omega)]
    exact OwnD.wide (by assumption) (by omega) (Nat.le_refl _)
  · refine x_retv [_, _] rfl ⟨rfl, rfl, trivial⟩ ⟨_, sus, by rw [cGng_0 hk0 hk hk2]; rfl, ?_, E.go⟩
    unfold resGng; rw [cGng_0 hk0 hk hk2, if_pos rfl, ← take_map_all _ (i := i.toNat) (by omega)]
    exact OwnD.wide (by assumption) (by omega) (Nat.le_refl _)
theorem sGangPunch_c (h0 : SL w lo' hi' v' ms := by repeat (first | assumption | exact Go.Gw.Own.sl (by assumption) | exact Go.Gw.Box.at (by assumption) | exact Go.Gw.SLL.el (by first | assumption | exact Go.Gw.OwnD.sll (by assumption)) _ (by omega) | exact Go.Gw.SLL.at (by first | assumption | exact Go.Gw.OwnD.sll (by assumption)) (by omega) | exact Go.Gw.OwnD.sll (by assumption) | (apply Go.Gw.SL.chg; case hx => assumption) | (apply Go.Gw.Own.chg; case hx => assumption) | (apply Go.Gw.Box.chg; case hx => assumption) | (apply Go.Gw.At.chg; case hx => assumption) | exact .inl (Nat.zero_le _) | exact .inr (Nat.zero_le _) | (show _ ∨ _; omega))) (h : SLL w lo hi svs v xss := by repeat (first | assumption | exact Go.Gw.Own.sl (by assumption) | exact Go.Gw.Box.at (by assumption) | exact Go.Gw.SLL.el (by first | assumption | exact Go.Gw.OwnD.sll (by assumption)) _ (by omega) | exact Go.Gw.SLL.at (by first | assumption | exact Go.Gw.OwnD.sll (by assumption)) (by omega) | exact Go.Gw.OwnD.sll (by assumption) | (apply Go.Gw.SL.chg; case hx => assumption) | (apply Go.Gw.Own.chg; case hx => assumption) | (apply Go.Gw.Box.chg; case hx => assumption) | (apply Go.Gw.At.chg; case hx => assumption) | exact .inl (Nat.zero_le _) | exact .inr (Nat.zero_le _) | (show _ ∨ _; omega))) (hl : SL w l2 h2 v2 ps := by repeat (first | assumption | exact Go.Gw.Own.sl (by assumption) | exact Go.Gw.Box.at (by assumption) | exact Go.Gw.SLL.el (by first | assumption | exact Go.Gw.OwnD.sll (by assumption)) _ (by omega) | exact Go.Gw.SLL.at (by first | assumption | exact Go.Gw.OwnD.sll (by assumption)) (by omega) | exact Go.Gw.OwnD.sll (by assumption) | (apply Go.Gw.SL.chg; case hx => assumption) | (apply Go.Gw.Own.chg; case hx => assumption) | (apply Go.Gw.Box.chg; case hx => assumption) | (apply Go.Gw.At.chg; case hx => assumption) | exact .inl (Nat.zero_le _) | exact .inr (Nat.zero_le _) | (show _ ∨ _; omega))) : Ret Tryz.prog 35 [.agg #[v'], v, v2] w fun u w' => ∃ d sus, u = .tuple #[d, .int .i64 (cGng ms xss ps)] ∧ OwnD w' 26 w.heap.size w'.heap.size sus d (resGng ms xss ps) ∧ Ext w w' := by
  have E : Since 0 0 w w := Since.refl 0 0 w
  cases hk0 : okK ms
  · refine ret_enter Tryz.func35 rfl Tryz.ntmps35 rfl ?_
    focus have ht_h0 := h0.top; have ht_h := h.top; have ht_hl := hl.top; refine c_seq ?_; refine c_region ?_; refine w_box rfl (k := fun b3 w3 hb3 hx3 hl3 hs3 => ?_); have hz_hx3 := hx3.size; replace h0 := h0.ext hx3; replace h := h.ext hx3; replace hl := hl.ext hx3; replace E := E.trans hx3; refine w_pure (y_assign rfl) rfl ?_; refine w_pure (y_assign rfl) rfl ?_; refine w_nil ?_; refine x_next ?_; refine c_seq ?_; refine c_seq ?_; refine c_region ?_; refine w_val rfl rfl rfl (l02Ok_c) rfl (fun w10 hx10 hz10 => ?_); have hz_hx10 := hx10.size; replace hb3 := hb3.ext hx10; replace h0 := h0.ext hx10; replace h := h.ext hx10; replace hl := hl.ext hx10; replace E := E.trans hx10; refine w_pure (y_not rfl) rfl ?_; refine w_pure (y_move rfl) rfl ?_; (refine w_part rfl rfl (fun hc13 => ?_) (fun hc13 => ?_) <;> try (first | exact absurd rfl hc13 | contradiction | exact Bool.noConfusion (show false = true from hc13.symm.trans (by assumption)) | exact Bool.noConfusion (show true = false from hc13.symm.trans (by assumption)) | (exfalso; omega) | (exfalso; simp only [*, Bool.not_true, Bool.not_false, reduceCtorEq] at hc13; done))); refine w_no rfl rfl rfl rfl ?_; refine w_no rfl rfl rfl rfl ?_; refine w_no rfl rfl rfl rfl ?_; refine w_pure (y_pick_t rfl rfl) rfl ?_; refine w_nil ?_; refine x_next ?_; refine c_true rfl ?_; refine c_seq ?_; refine c_region ?_; refine w_pure (y_assign rfl) rfl ?_; refine w_pure (y_assign rfl) rfl ?_; refine w_nil ?_; refine x_next ?_; refine c_ret ?_; refine x_then_ret ?_; rotate_left
    exact x_retv [_, _] rfl ⟨rfl, rfl, trivial⟩ ⟨_, [], by rw [cGng_1 (.inl hk0)]; rfl, by unfold resGng; rw [cGng_1 (.inl hk0), if_neg (by decide)]; exact OwnD.nil _ _ _ _ (Nat.le_refl _), E.go⟩
  cases hk : okD xss
  · refine ret_enter Tryz.func35 rfl Tryz.ntmps35 rfl ?_
    focus have ht_h0 := h0.top; have ht_h := h.top; have ht_hl := hl.top; refine c_seq ?_; refine c_region ?_; refine w_box rfl (k := fun b3 w3 hb3 hx3 hl3 hs3 => ?_); have hz_hx3 := hx3.size; replace h0 := h0.ext hx3; replace h := h.ext hx3; replace hl := hl.ext hx3; replace E := E.trans hx3; refine w_pure (y_assign rfl) rfl ?_; refine w_pure (y_assign rfl) rfl ?_; refine w_nil ?_; refine x_next ?_; refine c_seq ?_; refine c_seq ?_; refine c_region ?_; refine w_val rfl rfl rfl (l02Ok_c) rfl (fun w10 hx10 hz10 => ?_); have hz_hx10 := hx10.size; replace hb3 := hb3.ext hx10; replace h0 := h0.ext hx10; replace h := h.ext hx10; replace hl := hl.ext hx10; replace E := E.trans hx10; refine w_pure (y_not rfl) rfl ?_; refine w_pure (y_move rfl) rfl ?_; (refine w_part rfl rfl (fun hc13 => ?_) (fun hc13 => ?_) <;> try (first | exact absurd rfl hc13 | contradiction | exact Bool.noConfusion (show false = true from hc13.symm.trans (by assumption)) | exact Bool.noConfusion (show true = false from hc13.symm.trans (by assumption)) | (exfalso; omega) | (exfalso; simp only [*, Bool.not_true, Bool.not_false, reduceCtorEq] at hc13; done))); refine w_yes rfl rfl ?_; refine w_pure (y_move rfl) rfl ?_; refine w_yes rfl rfl ?_; refine w_val rfl rfl rfl (l02Deck_c) rfl (fun w14 hx14 hz14 => ?_); have hz_hx14 := hx14.size; replace hb3 := hb3.ext hx14; replace h0 := h0.ext hx14; replace h := h.ext hx14; replace hl := hl.ext hx14; replace E := E.trans hx14; refine w_yes rfl rfl ?_; refine w_pure (y_not rfl) rfl ?_; refine w_pure (y_pick_f rfl rfl) rfl ?_; refine w_nil ?_; refine x_next ?_; (refine c_not rfl (fun hc16 => ?_) (fun hc16 => ?_) <;> try (first | exact absurd rfl hc16 | contradiction | exact Bool.noConfusion (show false = true from hc16.symm.trans (by assumption)) | exact Bool.noConfusion (show true = false from hc16.symm.trans (by assumption)) | (exfalso; omega) | (exfalso; simp only [*, Bool.not_true, Bool.not_false, reduceCtorEq] at hc16; done))); refine c_seq ?_; refine c_region ?_; refine w_pure (y_assign rfl) rfl ?_; refine w_pure (y_assign rfl) rfl ?_; refine w_nil ?_; refine x_next ?_; refine c_ret ?_; refine x_then_ret ?_; rotate_left
    exact x_retv [_, _] rfl ⟨rfl, rfl, trivial⟩ ⟨_, [], by rw [cGng_1 (.inr hk)]; rfl, by unfold resGng; rw [cGng_1 (.inr hk), if_neg (by decide)]; exact OwnD.nil _ _ _ _ (Nat.le_refl _), E.go⟩
  cases hk2 : okCp ps ms.length (widD xss)
  · refine ret_enter Tryz.func35 rfl Tryz.ntmps35 rfl ?_
    focus have ht_h0 := h0.top; have ht_h := h.top; have ht_hl := hl.top; refine c_seq ?_; refine c_region ?_; refine w_box rfl (k := fun b3 w3 hb3 hx3 hl3 hs3 => ?_); have hz_hx3 := hx3.size; replace h0 := h0.ext hx3; replace h := h.ext hx3; replace hl := hl.ext hx3; replace E := E.trans hx3; refine w_pure (y_assign rfl) rfl ?_; refine w_pure (y_assign rfl) rfl ?_; refine w_nil ?_; refine x_next ?_; refine c_seq ?_; refine c_seq ?_; refine c_region ?_; refine w_val rfl rfl rfl (l02Ok_c) rfl (fun w10 hx10 hz10 => ?_); have hz_hx10 := hx10.size; replace hb3 := hb3.ext hx10; replace h0 := h0.ext hx10; replace h := h.ext hx10; replace hl := hl.ext hx10; replace E := E.trans hx10; refine w_pure (y_not rfl) rfl ?_; refine w_pure (y_move rfl) rfl ?_; (refine w_part rfl rfl (fun hc13 => ?_) (fun hc13 => ?_) <;> try (first | exact absurd rfl hc13 | contradiction | exact Bool.noConfusion (show false = true from hc13.symm.trans (by assumption)) | exact Bool.noConfusion (show true = false from hc13.symm.trans (by assumption)) | (exfalso; omega) | (exfalso; simp only [*, Bool.not_true, Bool.not_false, reduceCtorEq] at hc13; done))); refine w_yes rfl rfl ?_; refine w_pure (y_move rfl) rfl ?_; refine w_yes rfl rfl ?_; refine w_val rfl rfl rfl (l02Deck_c) rfl (fun w14 hx14 hz14 => ?_); have hz_hx14 := hx14.size; replace hb3 := hb3.ext hx14; replace h0 := h0.ext hx14; replace h := h.ext hx14; replace hl := hl.ext hx14; replace E := E.trans hx14; refine w_yes rfl rfl ?_; refine w_pure (y_not rfl) rfl ?_; refine w_pure (y_pick_f rfl rfl) rfl ?_; refine w_nil ?_; refine x_next ?_; (refine c_not rfl (fun hc16 => ?_) (fun hc16 => ?_) <;> try (first | exact absurd rfl hc16 | contradiction | exact Bool.noConfusion (show false = true from hc16.symm.trans (by assumption)) | exact Bool.noConfusion (show true = false from hc16.symm.trans (by assumption)) | (exfalso; omega) | (exfalso; simp only [*, Bool.not_true, Bool.not_false, reduceCtorEq] at hc16; done))); refine c_skip ?_; refine x_next ?_; refine c_seq ?_; refine c_seq ?_; refine c_region_held mixed (fun wr3 hxr3 hzr3 => ?_); have hz_hxr3 := hxr3.size; replace hb3 := hb3.ext hxr3; replace h0 := h0.ext hxr3; replace h := h.ext hxr3; replace hl := hl.ext hxr3; replace E := E.trans hxr3; refine h_pure rfl (y_move rfl) rfl ?_; refine h_pure rfl (y_field rfl) rfl ?_; refine h_pure rfl (y_load_box rfl) rfl ?_; refine h_pure rfl (y_len rfl) rfl ?_; refine h_pure rfl (y_move rfl) rfl ?_; refine h_one rfl ?_; refine w_val rfl rfl rfl (l07WidthOf_c) rfl (fun w22 hx22 hz22 => ?_); have hz_hx22 := hx22.size; replace hb3 := hb3.ext hx22; replace h0 := h0.ext hx22; replace h := h.ext hx22; replace hl := hl.ext hx22; replace E := E.trans hx22; refine w_nil ?_; refine x_held ?_; refine h_one rfl ?_; refine w_val rfl rfl rfl (sValidCopies_c _ _) rfl (fun w23 hx23 hz23 => ?_); have hz_hx23 := hx23.size; replace hb3 := hb3.ext hx23; replace h0 := h0.ext hx23; replace h := h.ext hx23; replace hl := hl.ext hx23; replace E := E.trans hx23; refine w_nil ?_; refine x_held ?_; refine h_pure rfl (y_not rfl) rfl ?_; refine h_nil ?_; refine x_next ?_; (refine c_not rfl (fun hc24 => ?_) (fun hc24 => ?_) <;> try (first | exact absurd rfl hc24 | contradiction | exact Bool.noConfusion (show false = true from hc24.symm.trans (by assumption)) | exact Bool.noConfusion (show true = false from hc24.symm.trans (by assumption)) | (exfalso; omega) | (exfalso; simp only [*, Bool.not_true, Bool.not_false, reduceCtorEq] at hc24; done))); refine c_seq ?_; refine c_region ?_; refine w_pure (y_assign rfl) rfl ?_; refine w_pure (y_assign rfl) rfl ?_; refine w_nil ?_; refine x_next ?_; refine c_ret ?_; refine x_then_ret ?_; rotate_left
    exact x_retv [_, _] rfl ⟨rfl, rfl, trivial⟩ ⟨_, [], by rw [cGng_2 hk0 hk hk2]; rfl, by unfold resGng; rw [cGng_2 hk0 hk hk2, if_neg (by decide)]; exact OwnD.nil _ _ _ _ (Nat.le_refl _), E.go⟩
  have hb := okCp_bd hk2
  have hb2 := okD_len hk
  have hm := rng_of hk0
  refine ret_enter Tryz.func35 rfl Tryz.ntmps35 rfl ?_
  focus have ht_h0 := h0.top; have ht_h := h.top; have ht_hl := hl.top; refine c_seq ?_; refine c_region ?_; refine w_box rfl (k := fun b3 w3 hb3 hx3 hl3 hs3 => ?_); have hz_hx3 := hx3.size; replace h0 := h0.ext hx3; replace h := h.ext hx3; replace hl := hl.ext hx3; replace E := E.trans hx3; refine w_pure (y_assign rfl) rfl ?_; refine w_pure (y_assign rfl) rfl ?_; refine w_nil ?_; refine x_next ?_; refine c_seq ?_; refine c_seq ?_; refine c_region ?_; refine w_val rfl rfl rfl (l02Ok_c) rfl (fun w10 hx10 hz10 => ?_); have hz_hx10 := hx10.size; replace hb3 := hb3.ext hx10; replace h0 := h0.ext hx10; replace h := h.ext hx10; replace hl := hl.ext hx10; replace E := E.trans hx10; refine w_pure (y_not rfl) rfl ?_; refine w_pure (y_move rfl) rfl ?_; (refine w_part rfl rfl (fun hc13 => ?_) (fun hc13 => ?_) <;> try (first | exact absurd rfl hc13 | contradiction | exact Bool.noConfusion (show false = true from hc13.symm.trans (by assumption)) | exact Bool.noConfusion (show true = false from hc13.symm.trans (by assumption)) | (exfalso; omega) | (exfalso; simp only [*, Bool.not_true, Bool.not_false, reduceCtorEq] at hc13; done))); refine w_yes rfl rfl ?_; refine w_pure (y_move rfl) rfl ?_; refine w_yes rfl rfl ?_; refine w_val rfl rfl rfl (l02Deck_c) rfl (fun w14 hx14 hz14 => ?_); have hz_hx14 := hx14.size; replace hb3 := hb3.ext hx14; replace h0 := h0.ext hx14; replace h := h.ext hx14; replace hl := hl.ext hx14; replace E := E.trans hx14; refine w_yes rfl rfl ?_; refine w_pure (y_not rfl) rfl ?_; refine w_pure (y_pick_f rfl rfl) rfl ?_; refine w_nil ?_; refine x_next ?_; (refine c_not rfl (fun hc16 => ?_) (fun hc16 => ?_) <;> try (first | exact absurd rfl hc16 | contradiction | exact Bool.noConfusion (show false = true from hc16.symm.trans (by assumption)) | exact Bool.noConfusion (show true = false from hc16.symm.trans (by assumption)) | (exfalso; omega) | (exfalso; simp only [*, Bool.not_true, Bool.not_false, reduceCtorEq] at hc16; done))); refine c_skip ?_; refine x_next ?_; refine c_seq ?_; refine c_seq ?_; refine c_region_held mixed (fun wr3 hxr3 hzr3 => ?_); have hz_hxr3 := hxr3.size; replace hb3 := hb3.ext hxr3; replace h0 := h0.ext hxr3; replace h := h.ext hxr3; replace hl := hl.ext hxr3; replace E := E.trans hxr3; refine h_pure rfl (y_move rfl) rfl ?_; refine h_pure rfl (y_field rfl) rfl ?_; refine h_pure rfl (y_load_box rfl) rfl ?_; refine h_pure rfl (y_len rfl) rfl ?_; refine h_pure rfl (y_move rfl) rfl ?_; refine h_one rfl ?_; refine w_val rfl rfl rfl (l07WidthOf_c) rfl (fun w22 hx22 hz22 => ?_); have hz_hx22 := hx22.size; replace hb3 := hb3.ext hx22; replace h0 := h0.ext hx22; replace h := h.ext hx22; replace hl := hl.ext hx22; replace E := E.trans hx22; refine w_nil ?_; refine x_held ?_; refine h_one rfl ?_; refine w_val rfl rfl rfl (sValidCopies_c _ _) rfl (fun w23 hx23 hz23 => ?_); have hz_hx23 := hx23.size; replace hb3 := hb3.ext hx23; replace h0 := h0.ext hx23; replace h := h.ext hx23; replace hl := hl.ext hx23; replace E := E.trans hx23; refine w_nil ?_; refine x_held ?_; refine h_pure rfl (y_not rfl) rfl ?_; refine h_nil ?_; refine x_next ?_; (refine c_not rfl (fun hc24 => ?_) (fun hc24 => ?_) <;> try (first | exact absurd rfl hc24 | contradiction | exact Bool.noConfusion (show false = true from hc24.symm.trans (by assumption)) | exact Bool.noConfusion (show true = false from hc24.symm.trans (by assumption)) | (exfalso; omega) | (exfalso; simp only [*, Bool.not_true, Bool.not_false, reduceCtorEq] at hc24; done))); refine c_skip ?_; refine x_next ?_; refine c_seq ?_; refine c_region ?_; refine w_pure (y_move rfl) rfl ?_; (refine w_call rfl rfl rfl (l02Copy_c) rfl ?_; rintro v26 w26 ⟨sus26, ⟨hp1_26, hx26⟩⟩); have hl_hp1_26 := hp1_26.lt; have hz_hx26 := hx26.size; replace hb3 := hb3.ext hx26; replace h0 := h0.ext hx26; replace h := h.ext hx26; replace hl := hl.ext hx26; replace E := E.trans hx26; refine w_pure (y_assign rfl) rfl ?_; refine w_nil ?_; refine x_next ?_; refine c_seq ?_; refine c_seq ?_; refine c_region ?_; refine w_pure (y_assign rfl) rfl ?_; refine w_nil ?_; refine x_next ?_; refine c_block ?_; rotate_left
  have hml : (xss.map (gngF ms ps)).length = xss.length := by simp
  refine c_loopC w23.heap.size w26.heap.size (ι := Int) (fun x => [(2, v2), (3, ptr b3 0), (8, v26), (9, .int .i64 x)])
    (fun x w' => SL w' l2 h2 v2 ps ∧ SL w' lo' hi' v' ms ∧ Box w' b3 [v'] ∧ OwnD w' 26 w23.heap.size w26.heap.size sus26 v26 ((xss.map (gngF ms ps)).take x.toNat ++ xss.drop x.toNat) ∧ 0 ≤ x ∧ x ≤ xss.length) (fun x => (xss.length - x).toNat) 0
    (by repeat (first | exact trivial | refine ⟨rfl, ?_⟩)) ⟨by assumption, by assumption, by assumption, by simpa using hp1_26, by omega, by omega⟩ ?_
  clear hp1_26 hb3
  rintro i wL hxL EL ⟨g2, g0, gb, g3, hi0, hi1⟩
  have hlen : ((xss.map (gngF ms ps)).take i.toNat ++ xss.drop i.toNat).length = xss.length := mix_len hml
  have hgd : i < xss.length → ((xss.map (gngF ms ps)).take i.toNat ++ xss.drop i.toNat).getD i.toNat [] = xss.getD i.toNat [] := fun hh => mix_getD hml (by omega)
  have hrg : i < xss.length → Rng (xss.getD i.toNat []) := fun hh => rng_of (okD_at hk _ (by omega)).1
  have hwd : i < xss.length → ((xss.getD i.toNat []).length : Int) = widD xss := fun hh => widD_at hk _ (by omega)
  have e1 : (i + 1).toNat = i.toNat + 1 := by omega
  focus have ht_g2 := g2.top; have ht_g0 := g0.top; have hl_g3 := g3.lt; have hz_hxL := hxL.size; replace h0 := h0.chg hxL (by omega); replace h := h.chg hxL (by omega); replace hl := hl.chg hxL (by omega); replace E := E.next hxL (by omega); refine c_seq ?_; refine c_seq ?_; refine c_region ?_; refine w_pure (y_move rfl) rfl ?_; refine w_pure (y_move rfl) rfl ?_; refine w_pure (y_lend rfl) rfl ?_; refine w_pure (y_lt rfl rfl) rfl ?_; refine w_nil ?_; refine x_next ?_; (refine c_dec rfl (fun hc30 => ?_) (fun hc30 => ?_) <;> try (first | exact absurd rfl hc30 | contradiction | exact Bool.noConfusion (show false = true from hc30.symm.trans (by assumption)) | exact Bool.noConfusion (show true = false from hc30.symm.trans (by assumption)) | (exfalso; omega) | (exfalso; simp only [*, Bool.not_true, Bool.not_false, reduceCtorEq] at hc30; done))); refine c_skip ?_; refine x_next ?_; refine c_seq ?_; refine c_block ?_; refine c_region ?_; refine w_pure (y_move rfl) rfl ?_; refine w_pure (y_move rfl) rfl ?_; refine w_pure (y_indexd rfl rfl) rfl ?_; refine w_pure (y_move rfl) rfl ?_; (refine w_call rfl rfl rfl (l10CopyEl_e (hy := by rw [hgd (by omega)]; exact hrg (by omega)) (f := ms.length) (t := widD xss) (ht := by rw [hgd (by omega)]; exact (hwd (by omega)).symm)) rfl ?_; rintro _ w37 ⟨rfl, ⟨hp1_37, hx37⟩⟩); have hl_hp1_37 := hp1_37.lt; have hz_hx37 := hx37.size; replace EL := EL.trans hx37; replace g2 := g2.chg hx37 (by omega); replace g0 := g0.chg hx37 (by omega); replace gb := gb.chg hx37 (by omega); replace h0 := h0.chg hx37 (by omega); replace h := h.chg hx37 (by omega); replace hl := hl.chg hx37 (by omega); replace E := E.next hx37 (by omega); refine w_nil ?_; refine x_block_norm ?_; refine x_next ?_; refine c_region ?_; refine w_pure (y_move rfl) rfl ?_; refine w_pure (y_add rfl rfl) rfl ?_; refine w_pure (y_assign rfl) rfl ?_; refine w_nil ?_; rotate_left; refine c_exit ?_; refine x_then_exit ?_; refine x_then_exit ?_; refine x_block_hit ?_; refine x_next ?_; refine c_seq ?_; refine c_region ?_; refine w_pure (y_move rfl) rfl ?_; refine w_pure (y_assign rfl) rfl ?_; refine w_pure (y_assign rfl) rfl ?_; refine w_nil ?_; refine x_next ?_; refine c_ret ?_; rotate_left
  · refine x_again (i + 1) (by repeat (first | exact trivial | refine ⟨rfl, ?_⟩)) ⟨EL.go, by assumption, by assumption, by assumption, ?_, by omega, by omega⟩ (by omega)
    rw [hgd (by omega)] at hp1_37
    rw [e1, ← upd_step hml (by omega) (y := gngF ms ps (xss.getD i.toNat [])) (by rw [List.getElem?_map, List.getD_eq_getElem?_getD, List.getElem?_eq_getElem (by omega)]; rfl)]
    exact hp1_37
  · rw [mix_all hml (by omega)] at g3
    refine x_retv [_, _] rfl ⟨rfl, rfl, trivial⟩ ⟨_, sus26, by rw [cGng_0 hk0 hk hk2]; rfl, ?_, E.go⟩
    unfold resGng; rw [cGng_0 hk0 hk hk2, if_pos rfl]
    exact OwnD.wide (g3.low (by omega)) (by omega) (Nat.le_refl _)
end
end Go.Proofs.YticnemjjjceiaaaGreatDoor
/- DigA -/
namespace Go.Proofs.YticnemjjjceiaaaGreatDoor
open Go Go.Gw
set_option linter.unusedVariables false
set_option linter.unusedSimpArgs false
/-- the punch of a row -/
def bitI (r : Int) : Int := if r = 12 then 1 else if r = 11 then 2 else if 0 ≤ r ∧ r ≤ 9 then 4 * 2 ^ r.toNat else 0
theorem shl_bd {r : Int} (h : 0 ≤ r ∧ r ≤ 9) : In64 (4 * 2 ^ r.toNat) := by
  have h1 : (2 : Int) ^ r.toNat ≤ 2 ^ 9 := by
    have : r.toNat ≤ 9 := by omega
    exact_mod_cast Nat.pow_le_pow_right (by decide) this
  have h2 : (0 : Int) < 2 ^ r.toNat := Int.pow_pos (by decide)
  have e : (2 : Int) ^ 9 = 512 := by decide
  exact ⟨by omega, by omega⟩
/-- the first digit from d on whose punch is m -/
def digFrom (m d : Int) : Int := if h : d ≤ 9 then (if bitI d = m then d else digFrom m (d + 1)) else -1
termination_by (10 - d).toNat
decreasing_by omega
theorem digFrom_hit {m d : Int} (h : d ≤ 9) (e : bitI d = m) : digFrom m d = d := by rw [digFrom, dif_pos h, if_pos e]
theorem digFrom_on {m d : Int} (h : d ≤ 9) (e : ¬ bitI d = m) : digFrom m d = digFrom m (d + 1) := by rw [digFrom, dif_pos h, if_neg e]
theorem digFrom_end {m d : Int} (h : ¬ d ≤ 9) : digFrom m d = -1 := by rw [digFrom, dif_neg h]
section
variable {w : World}
theorem bitOf_c (r : Int) : Pur Tryz.prog 91 [.int .i64 r] (.int .i64 (bitI r)) := by
  refine ⟨fun w => ?_⟩
  have hs := @shl_bd r
  refine ret_enter Tryz.func91 rfl Tryz.ntmps91 rfl ?_
  focus refine c_seq ?_; refine c_region ?_; refine w_pure (y_assign rfl) rfl ?_; refine w_nil ?_; refine x_next ?_; refine c_seq ?_; refine c_block ?_; refine c_seq ?_; refine c_region ?_; refine w_pure (y_move rfl) rfl ?_; refine w_pure (y_eq rfl rfl) rfl ?_; refine w_pure (y_assign rfl) rfl ?_; refine w_nil ?_; refine x_next ?_; (refine c_dec rfl (fun hc3 => ?_) (fun hc3 => ?_) <;> try (first | exact absurd rfl hc3 | contradiction | exact Bool.noConfusion (show false = true from hc3.symm.trans (by assumption)) | exact Bool.noConfusion (show true = false from hc3.symm.trans (by assumption)) | (exfalso; omega) | (exfalso; simp only [*, Bool.not_true, Bool.not_false, reduceCtorEq] at hc3; done))); refine c_seq ?_; refine c_region ?_; refine w_pure (y_assign rfl) rfl ?_; refine w_nil ?_; refine x_next ?_; refine c_ret ?_; refine x_block_ret ?_; refine x_then_ret ?_; rotate_left; refine c_seq ?_; refine c_region ?_; refine w_pure (y_move rfl) rfl ?_; refine w_pure (y_eq rfl rfl) rfl ?_; refine w_pure (y_assign rfl) rfl ?_; refine w_nil ?_; refine x_next ?_; (refine c_dec rfl (fun hc6 => ?_) (fun hc6 => ?_) <;> try (first | exact absurd rfl hc6 | contradiction | exact Bool.noConfusion (show false = true from hc6.symm.trans (by assumption)) | exact Bool.noConfusion (show true = false from hc6.symm.trans (by assumption)) | (exfalso; omega) | (exfalso; simp only [*, Bool.not_true, Bool.not_false, reduceCtorEq] at hc6; done))); refine c_seq ?_; refine c_region ?_; refine w_pure (y_assign rfl) rfl ?_; refine w_nil ?_; refine x_next ?_; refine c_ret ?_; refine x_block_ret ?_; refine x_then_ret ?_; rotate_left; refine c_seq ?_; refine c_region ?_; refine w_pure (y_move rfl) rfl ?_; refine w_pur rfl rfl rfl (inside_c _ _ _) rfl ?_; refine w_pure (y_assign rfl) rfl ?_; refine w_nil ?_; refine x_next ?_; (refine c_dec rfl (fun hc9 => ?_) (fun hc9 => ?_) <;> try (first | exact absurd rfl hc9 | contradiction | exact Bool.noConfusion (show false = true from hc9.symm.trans (by assumption)) | exact Bool.noConfusion (show true = false from hc9.symm.trans (by assumption)) | (exfalso; omega) | (exfalso; simp only [*, Bool.not_true, Bool.not_false, reduceCtorEq] at hc9; done))); refine c_seq ?_; refine c_region ?_; refine w_pure (y_move rfl) rfl ?_; refine w_pure (y_shl rfl rfl (by omega) (hs (by assumption))) rfl ?_; refine w_pure (y_assign rfl) rfl ?_; refine w_nil ?_; refine x_next ?_; refine c_ret ?_; refine x_block_ret ?_; refine x_then_ret ?_; rotate_left; refine c_skip ?_; refine x_block_norm ?_; refine x_next ?_; refine c_seq ?_; refine c_region ?_; refine w_pure (y_assign rfl) rfl ?_; refine w_nil ?_; refine x_next ?_; refine c_ret ?_; rotate_left
  all_goals exact x_retv [_] rfl ⟨rfl, trivial⟩ (by simp [bitI, ofResults, *] <;> omega)
theorem l02Bit_c (r : Int) : Pur Tryz.prog 133 [.int .i64 r] (.int .i64 (bitI r)) := by
  refine ⟨fun w => ?_⟩
  have hs := @shl_bd r
  refine ret_enter Tryz.func133 rfl Tryz.ntmps133 rfl ?_
  focus refine c_seq ?_; refine c_region ?_; refine w_pure (y_assign rfl) rfl ?_; refine w_nil ?_; refine x_next ?_; refine c_seq ?_; refine c_block ?_; refine c_seq ?_; refine c_region ?_; refine w_pure (y_move rfl) rfl ?_; refine w_pure (y_eq rfl rfl) rfl ?_; refine w_pure (y_assign rfl) rfl ?_; refine w_nil ?_; refine x_next ?_; (refine c_dec rfl (fun hc3 => ?_) (fun hc3 => ?_) <;> try (first | exact absurd rfl hc3 | contradiction | exact Bool.noConfusion (show false = true from hc3.symm.trans (by assumption)) | exact Bool.noConfusion (show true = false from hc3.symm.trans (by assumption)) | (exfalso; omega) | (exfalso; simp only [*, Bool.not_true, Bool.not_false, reduceCtorEq] at hc3; done))); refine c_seq ?_; refine c_region ?_; refine w_pure (y_assign rfl) rfl ?_; refine w_nil ?_; refine x_next ?_; refine c_ret ?_; refine x_block_ret ?_; refine x_then_ret ?_; rotate_left; refine c_seq ?_; refine c_region ?_; refine w_pure (y_move rfl) rfl ?_; refine w_pure (y_eq rfl rfl) rfl ?_; refine w_pure (y_assign rfl) rfl ?_; refine w_nil ?_; refine x_next ?_; (refine c_dec rfl (fun hc6 => ?_) (fun hc6 => ?_) <;> try (first | exact absurd rfl hc6 | contradiction | exact Bool.noConfusion (show false = true from hc6.symm.trans (by assumption)) | exact Bool.noConfusion (show true = false from hc6.symm.trans (by assumption)) | (exfalso; omega) | (exfalso; simp only [*, Bool.not_true, Bool.not_false, reduceCtorEq] at hc6; done))); refine c_seq ?_; refine c_region ?_; refine w_pure (y_assign rfl) rfl ?_; refine w_nil ?_; refine x_next ?_; refine c_ret ?_; refine x_block_ret ?_; refine x_then_ret ?_; rotate_left; refine c_seq ?_; refine c_region ?_; refine w_pure (y_move rfl) rfl ?_; refine w_pur rfl rfl rfl (l00In_c _ _ _) rfl ?_; refine w_pure (y_assign rfl) rfl ?_; refine w_nil ?_; refine x_next ?_; (refine c_dec rfl (fun hc9 => ?_) (fun hc9 => ?_) <;> try (first | exact absurd rfl hc9 | contradiction | exact Bool.noConfusion (show false = true from hc9.symm.trans (by assumption)) | exact Bool.noConfusion (show true = false from hc9.symm.trans (by assumption)) | (exfalso; omega) | (exfalso; simp only [*, Bool.not_true, Bool.not_false, reduceCtorEq] at hc9; done))); refine c_seq ?_; refine c_region ?_; refine w_pure (y_move rfl) rfl ?_; refine w_pure (y_convu rfl (by omega)) rfl ?_; refine w_pure (y_shl rfl rfl (by omega) (hs (by assumption))) rfl ?_; refine w_pure (y_assign rfl) rfl ?_; refine w_nil ?_; refine x_next ?_; refine c_ret ?_; refine x_block_ret ?_; refine x_then_ret ?_; rotate_left; refine c_skip ?_; refine x_block_norm ?_; refine x_next ?_; refine c_seq ?_; refine c_region ?_; refine w_pure (y_assign rfl) rfl ?_; refine w_nil ?_; refine x_next ?_; refine c_ret ?_; rotate_left
  all_goals exact x_retv [_] rfl ⟨rfl, trivial⟩ (by simp [bitI, ofResults, *] <;> omega)
theorem digitOf_c (m : Int) : Val Tryz.prog 135 [.int .i64 m] w (.int .i64 (digFrom m 0)) := by
  refine ⟨fun w1 hx1 => ?_⟩
  have E : Since 0 0 w1 w1 := Since.refl 0 0 w1
  refine ret_enter Tryz.func135 rfl Tryz.ntmps135 rfl ?_
  focus refine c_seq ?_; refine c_region ?_; refine w_pure (y_assign rfl) rfl ?_; refine w_nil ?_; refine x_next ?_; refine c_seq ?_; refine c_seq ?_; refine c_region ?_; refine w_pure (y_move rfl) rfl ?_; refine w_nil ?_; refine x_next ?_; refine c_block ?_; rotate_left
  refine c_loopC 0 0 (ι := Int) (fun d => [(0, .int .i64 m), (4, .int .i64 d)]) (fun d w' => 0 ≤ d ∧ d ≤ 10 ∧ digFrom m 0 = digFrom m d) (fun d => (10 - d).toNat) 0
    (by repeat (first | exact trivial | refine ⟨rfl, ?_⟩)) ⟨by omega, by omega, rfl⟩ ?_
  rintro d w2 hx2 E2 ⟨hd0, hd1, hd⟩
  focus have hz_hx2 := hx2.size; replace E := E.trans hx2; refine c_seq ?_; refine c_region ?_; refine w_pure (y_lt rfl rfl) rfl ?_; refine w_nil ?_; refine x_next ?_; refine c_seq ?_; (refine c_dec rfl (fun hc5 => ?_) (fun hc5 => ?_) <;> try (first | exact absurd rfl hc5 | contradiction | exact Bool.noConfusion (show false = true from hc5.symm.trans (by assumption)) | exact Bool.noConfusion (show true = false from hc5.symm.trans (by assumption)) | (exfalso; omega) | (exfalso; simp only [*, Bool.not_true, Bool.not_false, reduceCtorEq] at hc5; done))); refine c_skip ?_; refine x_next ?_; refine c_seq ?_; refine c_block ?_; refine c_seq ?_; refine c_region ?_; refine w_pure (y_move rfl) rfl ?_; refine w_pure (y_assign rfl) rfl ?_; refine w_nil ?_; refine x_next ?_; refine c_seq ?_; refine c_region ?_; refine w_pure (y_move rfl) rfl ?_; refine w_pur rfl rfl rfl (bitOf_c _) rfl ?_; refine w_pure (y_move rfl) rfl ?_; refine w_pure (y_eq rfl rfl) rfl ?_; refine w_nil ?_; refine x_next ?_; (refine c_dec rfl (fun hc10 => ?_) (fun hc10 => ?_) <;> try (first | exact absurd rfl hc10 | contradiction | exact Bool.noConfusion (show false = true from hc10.symm.trans (by assumption)) | exact Bool.noConfusion (show true = false from hc10.symm.trans (by assumption)) | (exfalso; omega) | (exfalso; simp only [*, Bool.not_true, Bool.not_false, reduceCtorEq] at hc10; done))); refine c_seq ?_; refine c_region ?_; refine w_pure (y_move rfl) rfl ?_; refine w_pure (y_assign rfl) rfl ?_; refine w_nil ?_; refine x_next ?_; refine c_ret ?_; refine x_block_ret ?_; refine x_then_ret ?_; refine x_then_ret ?_; refine x_block_ret ?_; refine x_then_ret ?_; rotate_left; refine c_skip ?_; refine x_block_norm ?_; refine x_next ?_; refine c_region ?_; refine w_pure (y_add rfl rfl) rfl ?_; refine w_pure (y_move rfl) rfl ?_; refine w_nil ?_; rotate_left; refine c_exit ?_; refine x_then_exit ?_; refine x_then_exit ?_; refine x_block_hit ?_; refine x_next ?_; refine c_seq ?_; refine c_region ?_; refine w_pure (y_assign rfl) rfl ?_; refine w_nil ?_; refine x_next ?_; refine c_ret ?_; rotate_left
  · exact x_retv [_] rfl ⟨rfl, trivial⟩ ⟨by rw [hd, digFrom_hit (by omega) hc10]; rfl, E.go⟩
  · exact x_again (d + 1) ⟨rfl, rfl, trivial⟩ ⟨E2.go, by omega, by omega, by rw [hd, digFrom_on (by omega) hc10]⟩ (by omega)
  · exact x_retv [_] rfl ⟨rfl, trivial⟩ ⟨by rw [hd, digFrom_end (by omega)]; rfl, E.go⟩
end
end Go.Proofs.YticnemjjjceiaaaGreatDoor
/- NmA -/
namespace Go.Proofs.YticnemjjjceiaaaGreatDoor
open Go Go.Gw
set_option linter.unusedVariables false
set_option linter.unusedSimpArgs false
theorem digFrom_bd (m : Int) : ∀ (k : Nat) (d : Int), 0 ≤ d → (10 - d).toNat ≤ k → -1 ≤ digFrom m d ∧ digFrom m d ≤ 9
  | 0, d, h, hk => by rw [digFrom_end (by omega)]; omega
  | k + 1, d, h, hk => by
    by_cases h9 : d ≤ 9
    · by_cases e : bitI d = m
      · rw [digFrom_hit h9 e]; omega
      · rw [digFrom_on h9 e]; exact digFrom_bd m k (d + 1) (by omega) (by omega)
    · rw [digFrom_end h9]; omega
theorem dig_bd (m : Int) : -1 ≤ digFrom m 0 ∧ digFrom m 0 ≤ 9 := digFrom_bd m 10 0 (by omega) (by omega)
theorem bitI_pos {d : Int} (h : 0 ≤ d ∧ d ≤ 9) : 0 < bitI d := by
  unfold bitI
  rw [if_neg (by omega), if_neg (by omega), if_pos h]
  have : (0 : Int) < 2 ^ d.toNat := Int.pow_pos (by decide)
  omega
theorem digFrom_zero : ∀ (k : Nat) (d : Int), 0 ≤ d → (10 - d).toNat ≤ k → digFrom 0 d = -1
  | 0, d, h, hk => digFrom_end (by omega)
  | k + 1, d, h, hk => by
    by_cases h9 : d ≤ 9
    · have := bitI_pos ⟨h, h9⟩
      rw [digFrom_on h9 (by omega)]; exact digFrom_zero k (d + 1) (by omega) (by omega)
    · exact digFrom_end h9
theorem dig_zero : digFrom 0 0 = -1 := digFrom_zero 10 0 (by omega) (by omega)
theorem and2 (a : Int) : andI a 2 = 0 ∨ andI a 2 = 2 := by
  have h : (a.toNat &&& 2) = 0 ∨ (a.toNat &&& 2) = 2 := by
    have e : a.toNat &&& 2 = 2 * ((a.toNat / 2) % 2) := by
      apply Nat.eq_of_testBit_eq
      intro i
      have h2 : (2 : Nat).testBit i = decide (i = 1) := by
        rw [show (2 : Nat) = 2 ^ 1 from rfl, Nat.testBit_two_pow]; congr 1; exact propext ⟨fun h => h.symm, fun h => h.symm⟩
      rw [Nat.testBit_and, h2]
      cases i with
      | zero => simp [Nat.testBit_zero]
      | succ i =>
        cases i with
        | zero => simp [Nat.testBit_succ, Nat.testBit_zero]
        | succ i =>
          have : (2 * (a.toNat / 2 % 2)).testBit (i + 1 + 1) = false := by
            rw [Nat.testBit_succ, Nat.testBit_succ]
            rw [show 2 * (a.toNat / 2 % 2) / 2 = a.toNat / 2 % 2 by omega, show a.toNat / 2 % 2 / 2 = 0 by omega]
            exact Nat.zero_testBit i
          rw [this]; simp
    omega
  rcases h with h | h
  · left; show ((a.toNat &&& (2 : Int).toNat : Nat) : Int) = 0; rw [show (2 : Int).toNat = 2 from rfl, h]; rfl
  · right; show ((a.toNat &&& (2 : Int).toNat : Nat) : Int) = 2; rw [show (2 : Int).toNat = 2 from rfl, h]; rfl
/-- the last column's step -/
def numE (L n : Int) (b : Bool) : Int × Bool :=
  if andI L 2 = 0 then (if L = 0 ∧ b = false then (n, true) else if digFrom L 0 < 0 then (0, false) else (10 * n + digFrom L 0, true))
  else if digFrom (L - 2) 0 < 0 then (0, false) else if 10 * n + digFrom (L - 2) 0 = 0 then (0, false) else (-(10 * n + digFrom (L - 2) 0), true)
/-- the number in columns, from n on; whether digits have come -/
def numS : List Int → Int → Bool → Int × Bool
  | [], n, _ => (n, true)
  | [L], n, b => numE L n b
  | m :: x :: r, n, b => if m = 0 ∧ b = false then numS (x :: r) n b else if digFrom m 0 < 0 then (0, false) else numS (x :: r) (10 * n + digFrom m 0) true
def numL (xs : List Int) : Int × Bool := numS xs 0 false
theorem numS_last {xs : List Int} {i : Nat} (h : i + 1 = xs.length) (n : Int) (b : Bool) : numS (xs.drop i) n b = numE (xs.getD i 0) n b := by
  rw [List.drop_eq_getElem_cons (by omega), List.drop_eq_nil_of_le (by omega), numS, List.getD_eq_getElem?_getD, List.getElem?_eq_getElem (by omega)]; rfl
theorem numS_step {xs : List Int} {i : Nat} (h : i + 1 < xs.length) (n : Int) (b : Bool) : numS (xs.drop i) n b = if xs.getD i 0 = 0 ∧ b = false then numS (xs.drop (i + 1)) n b else if digFrom (xs.getD i 0) 0 < 0 then (0, false) else numS (xs.drop (i + 1)) (10 * n + digFrom (xs.getD i 0) 0) true := by
  rw [List.drop_eq_getElem_cons (show i < xs.length by omega), List.drop_eq_getElem_cons (show i + 1 < xs.length by omega), numS, List.getD_eq_getElem?_getD, List.getElem?_eq_getElem (show i < xs.length by omega)]; rfl
/-- what the reference answers at its end -/
def numZ (n : Int) (m : Bool) : Int × Bool := if m = true then (-n, decide (¬ n = 0)) else (n, true)
theorem numE_bd (L n : Int) (b : Bool) (B : Int) (h0 : 0 ≤ n) (h1 : n < B) : -(10 * B) < (numE L n b).1 ∧ (numE L n b).1 < 10 * B := by
  have h3 := dig_bd L
  have h4 := dig_bd (L - 2)
  unfold numE
  split
  · split
    · dsimp only; omega
    · split <;> dsimp only <;> omega
  · split
    · dsimp only; omega
    · split <;> dsimp only <;> omega
theorem numS_bd : ∀ (xs : List Int) (n : Int) (b : Bool) (B : Int), 0 ≤ n → n < B → -(B * 10 ^ xs.length) < (numS xs n b).1 ∧ (numS xs n b).1 < B * 10 ^ xs.length
  | [], n, b, B, h0, h1 => by simp only [numS, List.length_nil, Int.pow_zero]; omega
  | [L], n, b, B, h0, h1 => by
    have := numE_bd L n b B h0 h1
    simp only [numS, List.length_cons, List.length_nil, Nat.zero_add, Int.pow_succ, Int.pow_zero]; omega
  | m :: x :: r, n, b, B, h0, h1 => by
    have h3 := dig_bd m
    have e : B * 10 ^ (m :: x :: r).length = (10 * B) * 10 ^ (x :: r).length := by
      rw [show (m :: x :: r).length = (x :: r).length + 1 from rfl, Int.pow_succ, Int.mul_comm (10 ^ _) 10, ← Int.mul_assoc, Int.mul_comm B 10]
    rw [e]
    unfold numS
    split
    · exact numS_bd (x :: r) n b (10 * B) h0 (by omega)
    · split
      · have h5 := pow10_pos (x :: r).length
        have := Int.mul_pos (show 0 < 10 * B by omega) h5
        dsimp only; omega
      · exact numS_bd (x :: r) _ _ (10 * B) (by omega) (by omega)
theorem numL_bd {xs : List Int} (h : xs.length ≤ 12) : -999999999999 ≤ (numL xs).1 ∧ (numL xs).1 ≤ 999999999999 := by
  have h1 := numS_bd xs 0 false 1 (by omega) (by omega)
  have h2 := pow10_12 h
  unfold numL; omega
theorem numL_in {xs : List Int} (h : xs.length ≤ 12) : In64 (numL xs).1 := by
  have := numL_bd h
  exact ⟨by omega, by omega⟩
/-- the same, the last column's minus taken off ahead -/
def numF : List Int → Int → Bool → Option (Int × Bool)
  | [], n, b => some (n, b)
  | m :: r, n, b => if m = 0 ∧ b = false then numF r n b else if digFrom m 0 < 0 then none else numF r (10 * n + digFrom m 0) true
theorem numF_drop {xs : List Int} {i : Nat} (h : i < xs.length) (n : Int) (b : Bool) : numF (xs.drop i) n b = if xs.getD i 0 = 0 ∧ b = false then numF (xs.drop (i + 1)) n b else if digFrom (xs.getD i 0) 0 < 0 then none else numF (xs.drop (i + 1)) (10 * n + digFrom (xs.getD i 0) 0) true := by
  rw [List.drop_eq_getElem_cons h, numF, List.getD_eq_getElem?_getD, List.getElem?_eq_getElem h]; rfl
/-- what the program answers behind its loop -/
def numR (g : Option (Int × Bool)) (L : Int) : Int × Bool :=
  match g with
  | none => (0, false)
  | some (n, b) => if b = false ∨ L - andI L 2 = 0 ∨ (¬ andI L 2 = 0 ∧ n = 0) then (0, false) else if ¬ andI L 2 = 0 then (-n, true) else (n, true)
theorem numR_end (L n : Int) (b : Bool) (h : b = true ∨ L ≠ 0) : numR (numF [L - andI L 2] n b) L = numE L n b := by
  have h3 := dig_zero
  unfold numE numF
  rcases and2 L with e | e <;> rw [e]
  · rw [if_pos rfl, Int.sub_zero]
    by_cases hz : L = 0 ∧ b = false
    · exfalso; rcases h with h | h
      · rw [h] at hz; exact absurd hz.2 (by decide)
      · exact h hz.1
    · rw [if_neg hz, if_neg hz]
      by_cases hd : digFrom L 0 < 0
      · rw [if_pos hd, if_pos hd]; rfl
      · rw [if_neg hd, if_neg hd]
        have hL : L ≠ 0 := fun hh => hd (by rw [hh, dig_zero]; omega)
        simp [numF, numR, e, hL]
  · rw [if_neg (show ¬ (2 : Int) = 0 by decide)]
    by_cases hz : L - 2 = 0 ∧ b = false
    · rw [if_pos hz, hz.1, dig_zero, if_pos (by omega)]
      simp [numF, numR, hz.2]
    · rw [if_neg hz]
      by_cases hd : digFrom (L - 2) 0 < 0
      · rw [if_pos hd, if_pos hd]; rfl
      · rw [if_neg hd, if_neg hd]
        have hL : L - 2 ≠ 0 := fun hh => hd (by rw [hh, dig_zero]; omega)
        by_cases hn : 10 * n + digFrom (L - 2) 0 = 0
        · simp [numF, numR, e, hn]
        · simp [numF, numR, e, hn, hL]
theorem numR_all : ∀ (xs : List Int) (L n : Int) (b : Bool), (b = true ∨ ∃ m ∈ xs ++ [L], m ≠ 0) → numR (numF (xs ++ [L - andI L 2]) n b) L = numS (xs ++ [L]) n b
  | [], L, n, b, h => numR_end L n b (by
    rcases h with h | ⟨m, hm, h⟩
    · exact .inl h
    · simp at hm; subst hm; exact .inr h)
  | m :: r, L, n, b, h => by
    have e : numS (m :: r ++ [L]) n b = if m = 0 ∧ b = false then numS (r ++ [L]) n b else if digFrom m 0 < 0 then (0, false) else numS (r ++ [L]) (10 * n + digFrom m 0) true := by
      cases r <;> rfl
    rw [e, List.cons_append, numF]
    by_cases hz : m = 0 ∧ b = false
    · rw [if_pos hz, if_pos hz]
      refine numR_all r L n b ?_
      rcases h with h | ⟨k, hk, h⟩
      · exact .inl h
      · refine .inr ⟨k, ?_, h⟩
        rw [List.cons_append, List.mem_cons] at hk
        rcases hk with rfl | hk
        · exact absurd hz.1 h
        · exact hk
    · rw [if_neg hz, if_neg hz]
      by_cases hd : digFrom m 0 < 0
      · rw [if_pos hd, if_pos hd]; rfl
      · rw [if_neg hd, if_neg hd]; exact numR_all r L _ true (.inl rfl)
theorem numS_zero : ∀ (xs : List Int), (∀ m ∈ xs, m = 0) → numS xs 0 false = (0, true)
  | [], h => rfl
  | [L], h => by have := h L (by simp); subst this; rfl
  | m :: x :: r, h => by
    have := h m (by simp)
    subst this
    rw [numS, if_pos ⟨rfl, rfl⟩]
    exact numS_zero (x :: r) (fun m hm => h m (by simp [hm]))
theorem set_last {xs : List Int} (h : 0 < xs.length) (y : Int) : xs.set (xs.length - 1) y = xs.take (xs.length - 1) ++ [y] := by
  rw [List.set_eq_take_append_cons_drop, if_pos (by omega), List.drop_eq_nil_of_le (by omega)]
theorem take_last {xs : List Int} (h : 0 < xs.length) : xs = xs.take (xs.length - 1) ++ [xs.getD (xs.length - 1) 0] := by
  conv => lhs; rw [← List.take_append_drop (xs.length - 1) xs]
  rw [List.drop_eq_getElem_cons (by omega), List.drop_eq_nil_of_le (by omega), List.getD_eq_getElem?_getD, List.getElem?_eq_getElem (by omega)]; rfl
/-- the program's way is the reference's -/
theorem numL_of {xs : List Int} (h : 0 < xs.length) (hz : ∃ m ∈ xs, m ≠ 0) : numR (numF (xs.set (xs.length - 1) (xs.getD (xs.length - 1) 0 - andI (xs.getD (xs.length - 1) 0) 2)) 0 false) (xs.getD (xs.length - 1) 0) = numL xs := by
  rw [set_last h]
  have e := take_last h
  unfold numL
  conv => rhs; rw [e]
  refine numR_all _ _ _ _ (.inr ?_)
  rw [← e]; exact hz
end Go.Proofs.YticnemjjjceiaaaGreatDoor
/- NmB -/
namespace Go.Proofs.YticnemjjjceiaaaGreatDoor
open Go Go.Gw
set_option linter.unusedVariables false
set_option linter.unusedSimpArgs false
/-- the columns of a field -/
abbrev prt (xs : List Int) (f t : Int) : List Int := (xs.take t.toNat).drop f.toNat
theorem prt_len {xs : List Int} {f t : Int} (h : 0 ≤ f ∧ f < t ∧ t ≤ xs.length) : ((prt xs f t).length : Int) = t - f := by
  simp only [prt, List.length_drop, List.length_take]; omega
theorem prt_get {xs : List Int} {f t : Int} (h : 0 ≤ f ∧ f < t ∧ t ≤ xs.length) {i : Nat} (hi : i < (prt xs f t).length) : (prt xs f t).getD i 0 = xs.getD (f.toNat + i) 0 := by
  have := prt_len h
  rw [List.getD_eq_getElem?_getD, List.getElem?_drop, List.getElem?_take_of_lt (by omega), List.getD_eq_getElem?_getD]
theorem prt_ok {xs : List Int} {f t : Int} (h : 0 ≤ f ∧ f < t ∧ t ≤ xs.length) (hk : okK xs = true) : ∀ i, i < (prt xs f t).length → 0 ≤ (prt xs f t).getD i 0 ∧ (prt xs f t).getD i 0 ≤ 4095 := fun i hi => by
  have := prt_len h
  rw [prt_get h hi]; exact okK_getD hk _ (by omega)
theorem numR_no {L n : Int} {b : Bool} (h : b = false ∨ L - andI L 2 = 0 ∨ (¬ andI L 2 = 0 ∧ n = 0)) : numR (some (n, b)) L = (0, false) := by
  simp only [numR, if_pos h]
theorem numR_neg {L n : Int} {b : Bool} (h : b = true) (h1 : ¬ L - andI L 2 = 0) (h2 : ¬ andI L 2 = 0) (h3 : ¬ n = 0) : numR (some (n, b)) L = (-n, true) := by
  subst h
  simp only [numR]
  rw [if_neg, if_pos h2]
  rintro (h | h | h)
  · cases h
  · exact h1 h
  · exact h3 h.2
theorem numR_pos {L n : Int} {b : Bool} (h : b = true) (h1 : ¬ L - andI L 2 = 0) (h2 : andI L 2 = 0) : numR (some (n, b)) L = (n, true) := by
  subst h
  simp only [numR]
  rw [if_neg, if_neg (fun h => h h2)]
  rintro (h | h | h)
  · cases h
  · exact h1 h
  · exact h.1 h2
theorem numE_1 {L n : Int} {b : Bool} (h : andI L 2 = 0) (h0 : L = 0) (hb : b = false) : numE L n b = numZ n false := by rw [numE, if_pos h, if_pos ⟨h0, hb⟩]; rfl
theorem numE_2 {L n : Int} {b : Bool} (h : andI L 2 = 0) (h0 : ¬ (L = 0 ∧ b = false)) (h1 : digFrom L 0 < 0) : numE L n b = (0, false) := by rw [numE, if_pos h, if_neg h0, if_pos h1]
theorem numE_3 {L n : Int} {b : Bool} (h : andI L 2 = 0) (h0 : ¬ (L = 0 ∧ b = false)) (h1 : ¬ digFrom L 0 < 0) : numE L n b = numZ (10 * n + digFrom L 0) false := by rw [numE, if_pos h, if_neg h0, if_neg h1]; rfl
theorem numE_4 {L n : Int} {b : Bool} (h : ¬ andI L 2 = 0) (h1 : digFrom (L - 2) 0 < 0) : numE L n b = (0, false) := by rw [numE, if_neg h, if_pos h1]
theorem numE_5 {L n : Int} {b : Bool} (h : ¬ andI L 2 = 0) (h1 : ¬ digFrom (L - 2) 0 < 0) : numE L n b = numZ (10 * n + digFrom (L - 2) 0) true := by
  rw [numE, if_neg h, if_neg h1, numZ, if_pos rfl]
  by_cases h0 : 10 * n + digFrom (L - 2) 0 = 0
  · rw [if_pos h0, h0]; rfl
  · rw [if_neg h0, decide_eq_true h0]
section
variable {w : World} {lo hi : Nat} {v : Value} {xs : List Int} {b o : Nat}
theorem bitOfM_c : Pur Tryz.prog 91 [.int .i64 11] (.int .i64 2) := bitOf_c 11
theorem numberIn1_c (x : Int) : Pur Tryz.prog 134 [.int .i64 x] (.bool (decide (¬ x = 0))) := by
  refine ⟨fun w => ?_⟩
  refine ret_enter Tryz.func134 rfl Tryz.ntmps134 rfl ?_
  focus refine c_seq ?_; refine c_region ?_; refine w_pure (y_assign rfl) rfl ?_; refine w_nil ?_; refine x_next ?_; refine c_seq ?_; refine c_region ?_; refine w_pure (y_move rfl) rfl ?_; refine w_pure (y_ne rfl rfl) rfl ?_; refine w_pure (y_assign rfl) rfl ?_; refine w_nil ?_; refine x_next ?_; refine c_ret ?_; rotate_left
  exact x_retv [_] rfl ⟨rfl, trivial⟩ ⟨rfl, rfl⟩
theorem numberIn_c (f t : Int) (h : SL w lo hi v xs := by repeat (first | assumption | exact Go.Gw.Own.sl (by assumption) | exact Go.Gw.Box.at (by assumption) | exact Go.Gw.SLL.el (by first | assumption | exact Go.Gw.OwnD.sll (by assumption)) _ (by omega) | exact Go.Gw.SLL.at (by first | assumption | exact Go.Gw.OwnD.sll (by assumption)) (by omega) | exact Go.Gw.OwnD.sll (by assumption) | (apply Go.Gw.SL.chg; case hx => assumption) | (apply Go.Gw.Own.chg; case hx => assumption) | (apply Go.Gw.Box.chg; case hx => assumption) | (apply Go.Gw.At.chg; case hx => assumption) | exact .inl (Nat.zero_le _) | exact .inr (Nat.zero_le _) | (show _ ∨ _; omega))) (hf : (0 ≤ f ∧ f < t ∧ t ≤ xs.length) ∧ t - f ≤ 12 := by omega) (hk : okK xs = true := by assumption) : Val Tryz.prog 105 [.agg #[v], .agg #[.int .i64 f, .int .i64 t]] w (.tuple #[.int .i64 (numL (prt xs f t)).1, .bool (numL (prt xs f t)).2]) := by
  refine ⟨fun w1 hx1 => ?_⟩
  replace h := h.ext hx1
  have hlen := prt_len hf.1
  have hrg := prt_ok hf.1 hk
  obtain ⟨ys, hys⟩ : ∃ ys, ys = prt xs f t := ⟨_, rfl⟩
  rw [← hys] at hlen hrg ⊢
  have hys2 : (xs.take t.toNat).drop f.toNat = ys := hys.symm
  clear hys
  have hrgl := hrg ((ys.length : Int) - 1).toNat (by omega)
  have hand := and2 (ys.getD ((ys.length : Int) - 1).toNat 0)
  have E : Since 0 0 w1 w1 := Since.refl 0 0 w1
  refine ret_enter Tryz.func105 rfl Tryz.ntmps105 rfl ?_
  focus have ht_h := h.top; refine c_seq ?_; refine c_region ?_; refine w_box rfl (k := fun b2 w2 hb2 hx2 hl2 hs2 => ?_); have hz_hx2 := hx2.size; replace h := h.ext hx2; replace E := E.trans hx2; refine w_box rfl (k := fun b3 w3 hb3 hx3 hl3 hs3 => ?_); have hz_hx3 := hx3.size; replace hb2 := hb2.ext hx3; replace h := h.ext hx3; replace E := E.trans hx3; refine w_pure (y_assign rfl) rfl ?_; refine w_pure (y_assign rfl) rfl ?_; refine w_nil ?_; refine x_next ?_; refine c_seq ?_; refine c_region ?_; refine w_pure (y_field rfl) rfl ?_; refine w_pure (y_load_box rfl) rfl ?_; refine w_pure (y_field rfl) rfl ?_; refine w_pure (y_load_box rfl) rfl ?_; refine w_pure (y_field rfl) rfl ?_; refine w_pure (y_load_box rfl) rfl ?_; (refine w_slice rfl (.inr ⟨_, _, rfl, rfl⟩) (.inr ⟨_, _, rfl, rfl⟩) rfl ?_; intro u20 hu20; rw [hys2] at hu20); (refine w_call rfl rfl rfl (copyInts_c _) rfl ?_; rintro v21 w21 ⟨hp1_21, hx21⟩); have hl_hp1_21 := hp1_21.lt; have hz_hx21 := hx21.size; replace hb3 := hb3.ext hx21; replace hb2 := hb2.ext hx21; replace h := h.ext hx21; replace E := E.trans hx21; replace hu20 := hu20.ext hx21; refine w_pure (y_assign rfl) rfl ?_; refine w_nil ?_; refine x_next ?_; refine c_seq ?_; refine c_seq ?_; refine c_region ?_; refine w_pure (y_move rfl) rfl ?_; refine w_val rfl rfl rfl (ContainsFunc_int (first := []) (cap := []) (p := fun x => decide (¬ x = 0)) (h := (by repeat (first | assumption | exact Go.Gw.Own.sl (by assumption) | exact Go.Gw.Box.at (by assumption) | exact Go.Gw.SLL.el (by first | assumption | exact Go.Gw.OwnD.sll (by assumption)) _ (by omega) | exact Go.Gw.SLL.at (by first | assumption | exact Go.Gw.OwnD.sll (by assumption)) (by omega) | exact Go.Gw.OwnD.sll (by assumption) | (apply Go.Gw.SL.chg; case hx => assumption) | (apply Go.Gw.Own.chg; case hx => assumption) | (apply Go.Gw.Box.chg; case hx => assumption) | (apply Go.Gw.At.chg; case hx => assumption) | exact .inl (Nat.zero_le _) | exact .inr (Nat.zero_le _) | (show _ ∨ _; omega)))) (hp := fun x _ => (numberIn1_c x).val)) rfl (fun w23 hx23 hz23 => ?_); have hz_hx23 := hx23.size; replace hp1_21 := hp1_21.ext hx23; replace hb3 := hb3.ext hx23; replace hb2 := hb2.ext hx23; replace h := h.ext hx23; replace E := E.trans hx23; replace hu20 := hu20.ext hx23; refine w_pure (y_not rfl) rfl ?_; refine w_nil ?_; refine x_next ?_; (refine c_not rfl (fun hc24 => ?_) (fun hc24 => ?_) <;> try (first | exact absurd rfl hc24 | contradiction | exact Bool.noConfusion (show false = true from hc24.symm.trans (by assumption)) | exact Bool.noConfusion (show true = false from hc24.symm.trans (by assumption)) | (exfalso; omega) | (exfalso; simp only [*, Bool.not_true, Bool.not_false, reduceCtorEq] at hc24; done))); refine c_seq ?_; refine c_region ?_; refine w_pure (y_assign rfl) rfl ?_; refine w_pure (y_assign rfl) rfl ?_; refine w_nil ?_; refine x_next ?_; refine c_ret ?_; refine x_then_ret ?_; rotate_left; refine c_skip ?_; refine x_next ?_; refine c_seq ?_; refine c_region ?_; refine w_pure (y_move rfl) rfl ?_; refine w_pure (y_len rfl) rfl ?_; refine w_pure (y_sub rfl rfl) rfl ?_; refine w_pure (y_assign rfl) rfl ?_; refine w_nil ?_; refine x_next ?_; refine c_seq ?_; refine c_region_base mixed (fun wr5 hxr5 hzr5 EBr5 => ?_); have hz_hxr5 := hxr5.size; replace hp1_21 := hp1_21.ext hxr5; replace hb3 := hb3.ext hxr5; replace hb2 := hb2.ext hxr5; replace h := h.ext hxr5; replace E := E.trans hxr5; replace hu20 := hu20.ext hxr5; refine b_pure rfl (y_move rfl) rfl ?_; refine b_pure rfl (y_move rfl) rfl ?_; refine b_pure rfl (y_index rfl rfl) rfl ?_; refine b_pure rfl (y_load_int rfl) rfl ?_; refine b_one rfl ?_; refine w_pur rfl rfl rfl (bitOfM_c) rfl ?_; refine w_nil ?_; refine x_hb ?_; refine b_pure rfl (y_and rfl rfl) rfl ?_; refine b_pure rfl (y_ne rfl rfl) rfl ?_; refine b_pure rfl (y_assign rfl) rfl ?_; refine b_nil ?_; refine x_next ?_; refine c_seq ?_; refine c_region_base mixed (fun wr6 hxr6 hzr6 EBr6 => ?_); have hz_hxr6 := hxr6.size; replace EBr5 := EBr5.trans hxr6; replace hp1_21 := hp1_21.ext hxr6; replace hb3 := hb3.ext hxr6; replace hb2 := hb2.ext hxr6; replace h := h.ext hxr6; replace E := E.trans hxr6; replace hu20 := hu20.ext hxr6; refine b_pure rfl (y_move rfl) rfl ?_; refine b_pure rfl (y_move rfl) rfl ?_; refine b_pure rfl (y_index rfl rfl) rfl ?_; refine b_pure rfl (y_load_int rfl) rfl ?_; refine b_one rfl ?_; refine w_pur rfl rfl rfl (bitOfM_c) rfl ?_; refine w_nil ?_; refine x_hb ?_; refine b_pure rfl (y_andNot2 rfl rfl) rfl ?_; refine b_pure rfl (y_index rfl rfl) rfl ?_; refine b_one rfl ?_; refine w_store_own rfl rfl (next := fun ws78 hos78 hxs78 hss78 => ?_); (replace hp1_21 := hos78; clear hos78); have hz_hxs78 := hxs78.size; replace hb3 := hb3.chg hxs78 (by omega); replace hb2 := hb2.chg hxs78 (by omega); replace h := h.chg hxs78 (by omega); replace E := E.next hxs78 (by omega); replace hu20 := hu20.chg hxs78 (by omega); refine w_nil ?_; refine x_hbk ?_; refine b_nil ?_; refine x_next ?_; refine c_seq ?_; refine c_region ?_; refine w_pure (y_assign rfl) rfl ?_; refine w_pure (y_assign rfl) rfl ?_; refine w_nil ?_; refine x_next ?_; refine c_seq ?_; refine c_seq ?_; refine c_region ?_; refine w_pure (y_move rfl) rfl ?_; refine w_pure (y_len rfl) rfl ?_; refine w_pure (y_move rfl) rfl ?_; refine w_nil ?_; refine x_next ?_; refine c_block ?_; rotate_left
  · have hz : numL ys = (0, true) := numS_zero ys (by simpa using hc24)
    exact x_retv [_, _] rfl ⟨rfl, rfl, trivial⟩ ⟨by rw [hz]; rfl, E.go⟩
  have hz : ∃ m ∈ ys, m ≠ 0 := by simpa using hc24
  have hnum := numL_of (xs := ys) (by omega) hz
  have el : ys.length - 1 = ((ys.length : Int) - 1).toNat := by omega
  rw [el] at hnum
  have hzg : (ys.set ((ys.length : Int) - 1).toNat (ys.getD ((ys.length : Int) - 1).toNat 0 - andI (ys.getD ((ys.length : Int) - 1).toNat 0) 2)).getD ((ys.length : Int) - 1).toNat 0 = (ys.getD ((ys.length : Int) - 1).toNat 0) - andI (ys.getD ((ys.length : Int) - 1).toNat 0) 2 := by
    rw [List.getD_eq_getElem?_getD, List.getElem?_set_self (by omega)]; rfl
  have hzl : (ys.set ((ys.length : Int) - 1).toNat (ys.getD ((ys.length : Int) - 1).toNat 0 - andI (ys.getD ((ys.length : Int) - 1).toNat 0) 2)).length = ys.length := List.length_set
  refine c_loopC 0 0 (ι := Int × Bool × Int) (fun x => [(6, v21), (7, .int .i64 ((ys.length : Int) - 1)), (8, .bool (decide (¬ andI (ys.getD ((ys.length : Int) - 1).toNat 0) 2 = 0))), (9, .int .i64 x.1), (10, .bool x.2.1), (42, v21), (43, .int .i64 ((ys.set ((ys.length : Int) - 1).toNat (ys.getD ((ys.length : Int) - 1).toNat 0 - andI (ys.getD ((ys.length : Int) - 1).toNat 0) 2)).length : Int)), (44, .int .i64 x.2.2)])
    (fun x w' => Own w' 2 w3.heap.size v21 (ys.set ((ys.length : Int) - 1).toNat (ys.getD ((ys.length : Int) - 1).toNat 0 - andI (ys.getD ((ys.length : Int) - 1).toNat 0) 2)) ∧ 0 ≤ x.2.2 ∧ x.2.2 ≤ ys.length ∧ 0 ≤ x.1 ∧ x.1 < 10 ^ x.2.2.toNat ∧ numF ((ys.set ((ys.length : Int) - 1).toNat (ys.getD ((ys.length : Int) - 1).toNat 0 - andI (ys.getD ((ys.length : Int) - 1).toNat 0) 2)).drop x.2.2.toNat) x.1 x.2.1 = numF (ys.set ((ys.length : Int) - 1).toNat (ys.getD ((ys.length : Int) - 1).toNat 0 - andI (ys.getD ((ys.length : Int) - 1).toNat 0) 2)) 0 false) (fun x => (ys.length - x.2.2).toNat) (0, false, 0)
    (by repeat (first | exact trivial | refine ⟨rfl, ?_⟩)) ⟨hp1_21, by dsimp only; omega, by dsimp only; omega, by dsimp only; omega, by dsimp only; decide, rfl⟩ ?_
  clear hp1_21
  generalize (ys.set ((ys.length : Int) - 1).toNat (ys.getD ((ys.length : Int) - 1).toNat 0 - andI (ys.getD ((ys.length : Int) - 1).toNat 0) 2)) = zs at *
  rintro ⟨n, b, i⟩ wL hxL EL ⟨g1, hi0, hi1, hn0, hn1, hF⟩
  dsimp only at *
  have hpw : (10 : Int) ^ (i + 1).toNat = 10 ^ i.toNat * 10 := pow10_succ _ (by omega)
  have hd1 := dig_bd (zs.getD i.toNat 0)
  have e1 : (i + 1).toNat = i.toNat + 1 := by omega
  have hn2 : n ≤ 999999999999 := by
    have h1 : (10 : Int) ^ i.toNat ≤ 10 ^ 12 := pow10_le (by omega)
    have e : (10 : Int) ^ 12 = 1000000000000 := by decide
    omega
  by_cases hlt : i < ys.length
  · have hp : n ≤ 99999999999 := by
      have h1 : (10 : Int) ^ i.toNat ≤ 10 ^ 11 := pow10_le (by omega)
      have e : (10 : Int) ^ 11 = 100000000000 := by decide
      omega
    cases b
    · focus have ht_hu20 := hu20.top; have hl_g1 := g1.lt; have hz_hxL := hxL.size; replace hb3 := hb3.ext hxL; replace hb2 := hb2.ext hxL; replace h := h.ext hxL; replace E := E.trans hxL; replace hu20 := hu20.ext hxL; refine c_seq ?_; refine c_region ?_; refine w_pure (y_lt rfl rfl) rfl ?_; refine w_nil ?_; refine x_next ?_; refine c_seq ?_; (refine c_dec rfl (fun hc45 => ?_) (fun hc45 => ?_) <;> try (first | exact absurd rfl hc45 | contradiction | exact Bool.noConfusion (show false = true from hc45.symm.trans (by assumption)) | exact Bool.noConfusion (show true = false from hc45.symm.trans (by assumption)) | (exfalso; omega) | (exfalso; simp only [*, Bool.not_true, Bool.not_false, reduceCtorEq] at hc45; done))); refine c_skip ?_; refine x_next ?_; refine c_seq ?_; refine c_block ?_; refine c_seq ?_; refine c_region ?_; refine w_pure (y_index rfl rfl) rfl ?_; refine w_pure (y_load_int rfl) rfl ?_; refine w_pure (y_assign rfl) rfl ?_; refine w_nil ?_; refine x_next ?_; refine c_seq ?_; refine c_region ?_; refine w_pure (y_move rfl) rfl ?_; refine w_val rfl rfl rfl (digitOf_c _) rfl (fun w49 hx49 hz49 => ?_); have hz_hx49 := hx49.size; replace EL := EL.trans hx49; replace g1 := g1.ext hx49; replace hb3 := hb3.ext hx49; replace hb2 := hb2.ext hx49; replace h := h.ext hx49; replace E := E.trans hx49; replace hu20 := hu20.ext hx49; refine w_pure (y_assign rfl) rfl ?_; refine w_nil ?_; refine x_next ?_; refine c_seq ?_; refine c_block ?_; refine c_seq ?_; refine c_region ?_; refine w_pure (y_move rfl) rfl ?_; refine w_pure (y_eq rfl rfl) rfl ?_; refine w_pure (y_move rfl) rfl ?_; (refine w_part_dec rfl rfl (fun hc54 => ?_) (fun hc54 => ?_) <;> try (first | exact absurd rfl hc54 | contradiction | exact Bool.noConfusion (show false = true from hc54.symm.trans (by assumption)) | exact Bool.noConfusion (show true = false from hc54.symm.trans (by assumption)) | (exfalso; omega) | (exfalso; simp only [*, Bool.not_true, Bool.not_false, reduceCtorEq] at hc54; done))); refine w_yes rfl rfl ?_; refine w_pure (y_move rfl) rfl ?_; refine w_yes rfl rfl ?_; refine w_pure (y_not rfl) rfl ?_; refine w_pure (y_pick_t rfl rfl) rfl ?_; refine w_pure (y_assign rfl) rfl ?_; refine w_nil ?_; refine x_next ?_; refine c_true rfl ?_; refine c_exit ?_; refine x_block_miss rfl ?_; refine x_then_exit ?_; refine x_block_hit ?_; refine x_next ?_; refine c_region ?_; refine w_pure (y_add rfl rfl) rfl ?_; refine w_pure (y_move rfl) rfl ?_; refine w_nil ?_; rotate_left; refine w_no rfl rfl rfl rfl ?_; refine w_no rfl rfl rfl rfl ?_; refine w_pure (y_pick_f rfl rfl) rfl ?_; refine w_pure (y_assign rfl) rfl ?_; refine w_nil ?_; refine x_next ?_; refine c_false rfl ?_; refine c_seq ?_; refine c_region ?_; refine w_pure (y_move rfl) rfl ?_; refine w_pure (y_lt rfl rfl) rfl ?_; refine w_pure (y_assign rfl) rfl ?_; refine w_nil ?_; refine x_next ?_; (refine c_dec rfl (fun hc57 => ?_) (fun hc57 => ?_) <;> try (first | exact absurd rfl hc57 | contradiction | exact Bool.noConfusion (show false = true from hc57.symm.trans (by assumption)) | exact Bool.noConfusion (show true = false from hc57.symm.trans (by assumption)) | (exfalso; omega) | (exfalso; simp only [*, Bool.not_true, Bool.not_false, reduceCtorEq] at hc57; done))); refine c_seq ?_; refine c_region ?_; refine w_pure (y_assign rfl) rfl ?_; refine w_pure (y_assign rfl) rfl ?_; refine w_nil ?_; refine x_next ?_; refine c_ret ?_; refine x_block_ret ?_; refine x_then_ret ?_; refine x_block_ret ?_; refine x_then_ret ?_; refine x_then_ret ?_; refine x_block_ret ?_; refine x_then_ret ?_; rotate_left; refine c_skip ?_; refine x_block_norm ?_; refine x_next ?_; refine c_seq ?_; refine c_region ?_; refine w_pure (y_assign rfl) rfl ?_; refine w_nil ?_; refine x_next ?_; refine c_region ?_; refine w_pure (y_move rfl) rfl ?_; refine w_pure (y_mul rfl rfl) rfl ?_; refine w_pure (y_move rfl) rfl ?_; refine w_pure (y_add rfl rfl) rfl ?_; refine w_pure (y_assign rfl) rfl ?_; refine w_nil ?_; refine x_block_norm ?_; refine x_next ?_; refine c_region ?_; refine w_pure (y_add rfl rfl) rfl ?_; refine w_pure (y_move rfl) rfl ?_; refine w_nil ?_; rotate_left
      all_goals first
        | (refine x_retv [_, _] rfl ⟨rfl, rfl, trivial⟩ ⟨?_, E.go⟩
           rw [numF_drop (by omega), if_neg (by first | exact fun h => absurd h.2 (by decide) | exact fun h => absurd h.1 (by assumption)), if_pos (by assumption)] at hF
           rw [← hnum, ← hF]; rfl)
        | (refine x_again (_, _, i + 1) (by repeat (first | exact trivial | refine ⟨rfl, ?_⟩)) ⟨EL.go, by assumption, by dsimp only; omega, by dsimp only; omega, by dsimp only; omega, by dsimp only; rw [hpw]; omega, ?_⟩ (by dsimp only; omega)
           dsimp only
           rw [← hF, numF_drop (i := i.toNat) (by omega), e1]
           first
             | rw [if_pos ⟨by assumption, rfl⟩]
             | rw [if_neg (by first | exact fun h => absurd h.2 (by decide) | exact fun h => absurd h.1 (by assumption)), if_neg (by assumption)])
    · focus have ht_hu20 := hu20.top; have hl_g1 := g1.lt; have hz_hxL := hxL.size; replace hb3 := hb3.ext hxL; replace hb2 := hb2.ext hxL; replace h := h.ext hxL; replace E := E.trans hxL; replace hu20 := hu20.ext hxL; refine c_seq ?_; refine c_region ?_; refine w_pure (y_lt rfl rfl) rfl ?_; refine w_nil ?_; refine x_next ?_; refine c_seq ?_; (refine c_dec rfl (fun hc45 => ?_) (fun hc45 => ?_) <;> try (first | exact absurd rfl hc45 | contradiction | exact Bool.noConfusion (show false = true from hc45.symm.trans (by assumption)) | exact Bool.noConfusion (show true = false from hc45.symm.trans (by assumption)) | (exfalso; omega) | (exfalso; simp only [*, Bool.not_true, Bool.not_false, reduceCtorEq] at hc45; done))); refine c_skip ?_; refine x_next ?_; refine c_seq ?_; refine c_block ?_; refine c_seq ?_; refine c_region ?_; refine w_pure (y_index rfl rfl) rfl ?_; refine w_pure (y_load_int rfl) rfl ?_; refine w_pure (y_assign rfl) rfl ?_; refine w_nil ?_; refine x_next ?_; refine c_seq ?_; refine c_region ?_; refine w_pure (y_move rfl) rfl ?_; refine w_val rfl rfl rfl (digitOf_c _) rfl (fun w49 hx49 hz49 => ?_); have hz_hx49 := hx49.size; replace EL := EL.trans hx49; replace g1 := g1.ext hx49; replace hb3 := hb3.ext hx49; replace hb2 := hb2.ext hx49; replace h := h.ext hx49; replace E := E.trans hx49; replace hu20 := hu20.ext hx49; refine w_pure (y_assign rfl) rfl ?_; refine w_nil ?_; refine x_next ?_; refine c_seq ?_; refine c_block ?_; refine c_seq ?_; refine c_region ?_; refine w_pure (y_move rfl) rfl ?_; refine w_pure (y_eq rfl rfl) rfl ?_; refine w_pure (y_move rfl) rfl ?_; (refine w_part_dec rfl rfl (fun hc54 => ?_) (fun hc54 => ?_) <;> try (first | exact absurd rfl hc54 | contradiction | exact Bool.noConfusion (show false = true from hc54.symm.trans (by assumption)) | exact Bool.noConfusion (show true = false from hc54.symm.trans (by assumption)) | (exfalso; omega) | (exfalso; simp only [*, Bool.not_true, Bool.not_false, reduceCtorEq] at hc54; done))); refine w_yes rfl rfl ?_; refine w_pure (y_move rfl) rfl ?_; refine w_yes rfl rfl ?_; refine w_pure (y_not rfl) rfl ?_; refine w_pure (y_pick_t rfl rfl) rfl ?_; refine w_pure (y_assign rfl) rfl ?_; refine w_nil ?_; refine x_next ?_; refine c_false rfl ?_; refine c_seq ?_; refine c_region ?_; refine w_pure (y_move rfl) rfl ?_; refine w_pure (y_lt rfl rfl) rfl ?_; refine w_pure (y_assign rfl) rfl ?_; refine w_nil ?_; refine x_next ?_; (refine c_dec rfl (fun hc57 => ?_) (fun hc57 => ?_) <;> try (first | exact absurd rfl hc57 | contradiction | exact Bool.noConfusion (show false = true from hc57.symm.trans (by assumption)) | exact Bool.noConfusion (show true = false from hc57.symm.trans (by assumption)) | (exfalso; omega) | (exfalso; simp only [*, Bool.not_true, Bool.not_false, reduceCtorEq] at hc57; done))); refine c_seq ?_; refine c_region ?_; refine w_pure (y_assign rfl) rfl ?_; refine w_pure (y_assign rfl) rfl ?_; refine w_nil ?_; refine x_next ?_; refine c_ret ?_; refine x_block_ret ?_; refine x_then_ret ?_; refine x_block_ret ?_; refine x_then_ret ?_; refine x_then_ret ?_; refine x_block_ret ?_; refine x_then_ret ?_; rotate_left; refine c_skip ?_; refine x_block_norm ?_; refine x_next ?_; refine c_seq ?_; refine c_region ?_; refine w_pure (y_assign rfl) rfl ?_; refine w_nil ?_; refine x_next ?_; refine c_region ?_; refine w_pure (y_move rfl) rfl ?_; refine w_pure (y_mul rfl rfl) rfl ?_; refine w_pure (y_move rfl) rfl ?_; refine w_pure (y_add rfl rfl) rfl ?_; refine w_pure (y_assign rfl) rfl ?_; refine w_nil ?_; refine x_block_norm ?_; refine x_next ?_; refine c_region ?_; refine w_pure (y_add rfl rfl) rfl ?_; refine w_pure (y_move rfl) rfl ?_; refine w_nil ?_; rotate_left; refine w_no rfl rfl rfl rfl ?_; refine w_no rfl rfl rfl rfl ?_; refine w_pure (y_pick_f rfl rfl) rfl ?_; refine w_pure (y_assign rfl) rfl ?_; refine w_nil ?_; refine x_next ?_; refine c_false rfl ?_; refine c_seq ?_; refine c_region ?_; refine w_pure (y_move rfl) rfl ?_; refine w_pure (y_lt rfl rfl) rfl ?_; refine w_pure (y_assign rfl) rfl ?_; refine w_nil ?_; refine x_next ?_; (refine c_dec rfl (fun hc57 => ?_) (fun hc57 => ?_) <;> try (first | exact absurd rfl hc57 | contradiction | exact Bool.noConfusion (show false = true from hc57.symm.trans (by assumption)) | exact Bool.noConfusion (show true = false from hc57.symm.trans (by assumption)) | (exfalso; omega) | (exfalso; simp only [*, Bool.not_true, Bool.not_false, reduceCtorEq] at hc57; done))); refine c_seq ?_; refine c_region ?_; refine w_pure (y_assign rfl) rfl ?_; refine w_pure (y_assign rfl) rfl ?_; refine w_nil ?_; refine x_next ?_; refine c_ret ?_; refine x_block_ret ?_; refine x_then_ret ?_; refine x_block_ret ?_; refine x_then_ret ?_; refine x_then_ret ?_; refine x_block_ret ?_; refine x_then_ret ?_; rotate_left; refine c_skip ?_; refine x_block_norm ?_; refine x_next ?_; refine c_seq ?_; refine c_region ?_; refine w_pure (y_assign rfl) rfl ?_; refine w_nil ?_; refine x_next ?_; refine c_region ?_; refine w_pure (y_move rfl) rfl ?_; refine w_pure (y_mul rfl rfl) rfl ?_; refine w_pure (y_move rfl) rfl ?_; refine w_pure (y_add rfl rfl) rfl ?_; refine w_pure (y_assign rfl) rfl ?_; refine w_nil ?_; refine x_block_norm ?_; refine x_next ?_; refine c_region ?_; refine w_pure (y_add rfl rfl) rfl ?_; refine w_pure (y_move rfl) rfl ?_; refine w_nil ?_; rotate_left
      all_goals first
        | (refine x_retv [_, _] rfl ⟨rfl, rfl, trivial⟩ ⟨?_, E.go⟩
           rw [numF_drop (by omega), if_neg (by first | exact fun h => absurd h.2 (by decide) | exact fun h => absurd h.1 (by assumption)), if_pos (by assumption)] at hF
           rw [← hnum, ← hF]; rfl)
        | (refine x_again (_, _, i + 1) (by repeat (first | exact trivial | refine ⟨rfl, ?_⟩)) ⟨EL.go, by assumption, by dsimp only; omega, by dsimp only; omega, by dsimp only; omega, by dsimp only; rw [hpw]; omega, ?_⟩ (by dsimp only; omega)
           dsimp only
           rw [← hF, numF_drop (i := i.toNat) (by omega), e1]
           first
             | rw [if_pos ⟨by assumption, rfl⟩]
             | rw [if_neg (by first | exact fun h => absurd h.2 (by decide) | exact fun h => absurd h.1 (by assumption)), if_neg (by assumption)])
  · rw [List.drop_eq_nil_of_le (by omega)] at hF
    rw [← hF, numF] at hnum
    cases b
    · focus have ht_hu20 := hu20.top; have hl_g1 := g1.lt; have hz_hxL := hxL.size; replace hb3 := hb3.ext hxL; replace hb2 := hb2.ext hxL; replace h := h.ext hxL; replace E := E.trans hxL; replace hu20 := hu20.ext hxL; refine c_seq ?_; refine c_region ?_; refine w_pure (y_lt rfl rfl) rfl ?_; refine w_nil ?_; refine x_next ?_; refine c_seq ?_; (refine c_dec rfl (fun hc45 => ?_) (fun hc45 => ?_) <;> try (first | exact absurd rfl hc45 | contradiction | exact Bool.noConfusion (show false = true from hc45.symm.trans (by assumption)) | exact Bool.noConfusion (show true = false from hc45.symm.trans (by assumption)) | (exfalso; omega) | (exfalso; simp only [*, Bool.not_true, Bool.not_false, reduceCtorEq] at hc45; done))); refine c_exit ?_; refine x_then_exit ?_; refine x_then_exit ?_; refine x_block_hit ?_; refine x_next ?_; refine c_seq ?_; refine c_seq ?_; refine c_region ?_; refine w_pure (y_move rfl) rfl ?_; refine w_pure (y_not rfl) rfl ?_; refine w_pure (y_move rfl) rfl ?_; refine w_no rfl rfl rfl rfl ?_; refine w_no rfl rfl rfl rfl ?_; refine w_no rfl rfl rfl rfl ?_; refine w_no rfl rfl rfl rfl ?_; refine w_no rfl rfl rfl rfl ?_; refine w_pure (y_pick_t rfl rfl) rfl ?_; refine w_pure (y_move rfl) rfl ?_; refine w_no rfl rfl rfl rfl ?_; refine w_no rfl rfl rfl rfl ?_; refine w_none rfl rfl rfl ?_; refine w_none rfl rfl rfl ?_; refine w_no rfl rfl rfl rfl ?_; refine w_pure (y_pick_t rfl rfl) rfl ?_; refine w_nil ?_; refine x_next ?_; refine c_true rfl ?_; refine c_seq ?_; refine c_region ?_; refine w_pure (y_assign rfl) rfl ?_; refine w_pure (y_assign rfl) rfl ?_; refine w_nil ?_; refine x_next ?_; refine c_ret ?_; refine x_then_ret ?_; rotate_left
      refine x_retv [_, _] rfl ⟨rfl, rfl, trivial⟩ ⟨?_, E.go⟩
      rw [← hnum, numR_no (.inl rfl)]; rfl
    · focus have ht_hu20 := hu20.top; have hl_g1 := g1.lt; have hz_hxL := hxL.size; replace hb3 := hb3.ext hxL; replace hb2 := hb2.ext hxL; replace h := h.ext hxL; replace E := E.trans hxL; replace hu20 := hu20.ext hxL; refine c_seq ?_; refine c_region ?_; refine w_pure (y_lt rfl rfl) rfl ?_; refine w_nil ?_; refine x_next ?_; refine c_seq ?_; (refine c_dec rfl (fun hc45 => ?_) (fun hc45 => ?_) <;> try (first | exact absurd rfl hc45 | contradiction | exact Bool.noConfusion (show false = true from hc45.symm.trans (by assumption)) | exact Bool.noConfusion (show true = false from hc45.symm.trans (by assumption)) | (exfalso; omega) | (exfalso; simp only [*, Bool.not_true, Bool.not_false, reduceCtorEq] at hc45; done))); refine c_exit ?_; refine x_then_exit ?_; refine x_then_exit ?_; refine x_block_hit ?_; refine x_next ?_; refine c_seq ?_; refine c_seq ?_; refine c_region ?_; refine w_pure (y_move rfl) rfl ?_; refine w_pure (y_not rfl) rfl ?_; refine w_pure (y_move rfl) rfl ?_; refine w_yes rfl rfl ?_; refine w_pure (y_move rfl) rfl ?_; refine w_yes rfl rfl ?_; refine w_pure (y_move rfl) rfl ?_; refine w_yes rfl rfl ?_; refine w_pure (y_index rfl rfl) rfl ?_; refine w_yes rfl rfl ?_; refine w_pure (y_load_int rfl) rfl ?_; refine w_yes rfl rfl ?_; refine w_pure (y_eq rfl rfl) rfl ?_; refine w_pure (y_pick_f rfl rfl) rfl ?_; refine w_pure (y_move rfl) rfl ?_; (refine w_part_dec rfl rfl (fun hc75 => ?_) (fun hc75 => ?_) <;> try (first | exact absurd rfl hc75 | contradiction | exact Bool.noConfusion (show false = true from hc75.symm.trans (by assumption)) | exact Bool.noConfusion (show true = false from hc75.symm.trans (by assumption)) | (exfalso; omega) | (exfalso; simp only [*, Bool.not_true, Bool.not_false, reduceCtorEq] at hc75; done))); refine w_no rfl rfl rfl rfl ?_; refine w_no rfl rfl rfl rfl ?_; refine w_none rfl rfl rfl ?_; refine w_none rfl rfl rfl ?_; refine w_no rfl rfl rfl rfl ?_; refine w_pure (y_pick_t rfl rfl) rfl ?_; refine w_nil ?_; refine x_next ?_; refine c_true rfl ?_; refine c_seq ?_; refine c_region ?_; refine w_pure (y_assign rfl) rfl ?_; refine w_pure (y_assign rfl) rfl ?_; refine w_nil ?_; refine x_next ?_; refine c_ret ?_; refine x_then_ret ?_; rotate_left; refine w_yes rfl rfl ?_; refine w_pure (y_move rfl) rfl ?_; refine w_yes rfl rfl ?_; refine w_pure (y_move rfl) rfl ?_; (refine w_part_dec rfl rfl (fun hc77 => ?_) (fun hc77 => ?_) <;> try (first | exact absurd rfl hc77 | contradiction | exact Bool.noConfusion (show false = true from hc77.symm.trans (by assumption)) | exact Bool.noConfusion (show true = false from hc77.symm.trans (by assumption)) | (exfalso; omega) | (exfalso; simp only [*, Bool.not_true, Bool.not_false, reduceCtorEq] at hc77; done))); refine w_yes rfl rfl ?_; refine w_pure (y_move rfl) rfl ?_; refine w_yes rfl rfl ?_; refine w_pure (y_eq rfl rfl) rfl ?_; refine w_yes rfl rfl ?_; refine w_pure (y_pick_t rfl rfl) rfl ?_; refine w_pure (y_pick_f rfl rfl) rfl ?_; refine w_nil ?_; refine x_next ?_; (refine c_dec rfl (fun hc80 => ?_) (fun hc80 => ?_) <;> try (first | exact absurd rfl hc80 | contradiction | exact Bool.noConfusion (show false = true from hc80.symm.trans (by assumption)) | exact Bool.noConfusion (show true = false from hc80.symm.trans (by assumption)) | (exfalso; omega) | (exfalso; simp only [*, Bool.not_true, Bool.not_false, reduceCtorEq] at hc80; done))); refine c_seq ?_; refine c_region ?_; refine w_pure (y_assign rfl) rfl ?_; refine w_pure (y_assign rfl) rfl ?_; refine w_nil ?_; refine x_next ?_; refine c_ret ?_; refine x_then_ret ?_; rotate_left; refine c_skip ?_; refine x_next ?_; refine c_seq ?_; refine c_seq ?_; refine c_region ?_; refine w_pure (y_move rfl) rfl ?_; refine w_nil ?_; refine x_next ?_; (refine c_dec rfl (fun hc81 => ?_) (fun hc81 => ?_) <;> try (first | exact absurd rfl hc81 | contradiction | exact Bool.noConfusion (show false = true from hc81.symm.trans (by assumption)) | exact Bool.noConfusion (show true = false from hc81.symm.trans (by assumption)) | (exfalso; omega) | (exfalso; simp only [*, Bool.not_true, Bool.not_false, reduceCtorEq] at hc81; done))); refine c_region ?_; refine w_pure (y_move rfl) rfl ?_; refine w_pure (y_neg rfl) rfl ?_; refine w_pure (y_assign rfl) rfl ?_; refine w_nil ?_; refine x_next ?_; refine c_seq ?_; refine c_region ?_; refine w_pure (y_move rfl) rfl ?_; refine w_pure (y_assign rfl) rfl ?_; refine w_pure (y_assign rfl) rfl ?_; refine w_nil ?_; refine x_next ?_; refine c_ret ?_; rotate_left; refine w_no rfl rfl rfl rfl ?_; refine w_no rfl rfl rfl rfl ?_; refine w_yes rfl rfl ?_; refine w_pure (y_pick_f rfl rfl) rfl ?_; refine w_pure (y_pick_f rfl rfl) rfl ?_; refine w_nil ?_; refine x_next ?_; refine c_false rfl ?_; refine c_skip ?_; refine x_next ?_; refine c_seq ?_; refine c_seq ?_; refine c_region ?_; refine w_pure (y_move rfl) rfl ?_; refine w_nil ?_; refine x_next ?_; (refine c_dec rfl (fun hc81 => ?_) (fun hc81 => ?_) <;> try (first | exact absurd rfl hc81 | contradiction | exact Bool.noConfusion (show false = true from hc81.symm.trans (by assumption)) | exact Bool.noConfusion (show true = false from hc81.symm.trans (by assumption)) | (exfalso; omega) | (exfalso; simp only [*, Bool.not_true, Bool.not_false, reduceCtorEq] at hc81; done))); refine c_skip ?_; refine x_next ?_; refine c_seq ?_; refine c_region ?_; refine w_pure (y_move rfl) rfl ?_; refine w_pure (y_assign rfl) rfl ?_; refine w_pure (y_assign rfl) rfl ?_; refine w_nil ?_; refine x_next ?_; refine c_ret ?_; rotate_left
      all_goals refine x_retv [_, _] rfl ⟨rfl, rfl, trivial⟩ ⟨?_, E.go⟩
      · rw [← hnum, numR_no (.inr (.inl (hzg.symm.trans hc75)))]; rfl
      · rw [← hnum, numR_no (.inr (.inr ⟨hc77, hc80⟩))]; rfl
      · rw [← hnum, numR_neg rfl (fun h => hc75 (hzg.trans h)) hc77 hc80]; rfl
      · rw [← hnum, numR_pos rfl (fun h => hc75 (hzg.trans h)) (Decidable.not_not.1 hc77)]; rfl
end
end Go.Proofs.YticnemjjjceiaaaGreatDoor
/- L18 -/
namespace Go.Gw
open Go
set_option linter.unusedVariables false
set_option linter.unusedSimpArgs false
/-- the room of a slice -/
def cp : Value → Nat
  | .slice _ _ c => c
  | _ => 0
section
variable {P : Program} {N : Nat} {Q : Post} {T e ty : TypeId} {s b d : Nat} {σ : Fm} {x y z m : Operand} {v u : Value} {w : World} {k k2 k3 : IntKind} {ops : Array Oper} {rest : List Oper} {pos : String} {af : Array Edge}
variable {α : Type} [E : Enc α]
theorem y_slice3 {lo hi : Nat} {xs : List α} {l h n : Int} [hT : TSli P T e s b] (hx : ev σ x = some v) (hl : ev σ y = some (.int k l)) (hh : ev σ z = some (.int k2 h)) (hm : ev σ m = some (.int k3 n))
    (H : SL w lo hi v xs := by repeat (first | assumption | exact Go.Gw.Own.sl (by assumption) | exact Go.Gw.Box.at (by assumption) | exact Go.Gw.SLL.el (by first | assumption | exact Go.Gw.OwnD.sll (by assumption)) _ (by omega) | exact Go.Gw.SLL.at (by first | assumption | exact Go.Gw.OwnD.sll (by assumption)) (by omega) | exact Go.Gw.OwnD.sll (by assumption) | (apply Go.Gw.SL.chg; case hx => assumption) | (apply Go.Gw.Own.chg; case hx => assumption) | (apply Go.Gw.Box.chg; case hx => assumption) | (apply Go.Gw.At.chg; case hx => assumption) | exact .inl (Nat.zero_le _) | exact .inr (Nat.zero_le _) | (show _ ∨ _; omega))) (hn : 0 ≤ l ∧ l ≤ h ∧ h ≤ n ∧ n ≤ xs.length := by omega) : ∃ u, YE P σ (.slice T x (some y) (some z) (some m)) ty w u := by
  obtain ⟨a, c, hv, hle, hcm, ha⟩ := H.form
  refine ⟨.slice (if n.toNat = l.toNat then a else a.map (·.add (l.toNat * s))) (h.toNat - l.toNat) (n.toNat - l.toNat), ⟨fun w' hw ρ hρ => ?_⟩⟩
  have e1 : ρ x = .slice a xs.length c := by rw [hρ _ _ hx, hv]
  have h1 : (Instr.sliceBound (.int k3 n) c .slice3Acap).run P w' = .ok n.toNat w' := by
    have h1 : 0 ≤ n ∧ n ≤ (c : Int) := by omega
    simp only [Instr.sliceBound, asIntOf, Sem.run_bind, Sem.run_pure, Result.andThen_ok, if_pos h1]
  have h2 : (Instr.sliceBound (.int k2 h) n.toNat .slice3B).run P w' = .ok h.toNat w' := by
    have h1 : 0 ≤ h ∧ h ≤ (n.toNat : Int) := by omega
    simp only [Instr.sliceBound, asIntOf, Sem.run_bind, Sem.run_pure, Result.andThen_ok, if_pos h1]
  have h3 : (Instr.sliceBound (.int k l) h.toNat .slice3C).run P w' = .ok l.toNat w' := by
    have h1 : 0 ≤ l ∧ l ≤ (h.toNat : Int) := by omega
    simp only [Instr.sliceBound, asIntOf, Sem.run_bind, Sem.run_pure, Result.andThen_ok, if_pos h1]
  have hsl : (Instr.sliceAt T (.slice a xs.length c) (some (ρ y)) (some (ρ z)) (some (ρ m))).run P w' = .ok (.slice (if n.toNat = l.toNat then a else a.map (·.add (l.toNat * s))) (h.toNat - l.toNat) (n.toNat - l.toNat)) w' := by
    simp [Instr.sliceAt, Instr.slice, Instr.sliceBounds, run_underlying hT.und, run_size w' hT.size, hρ _ _ hl, hρ _ _ hh, hρ _ _ hm, h1, h2, h3]
  simp only [execOp, e1, Option.map_some, Sem.run_bind, hsl, Result.andThen_ok, Sem.run_pure]
theorem y_slicep {B : Nat} {xs : List α} {h : Int} [hT : TSli P T e s b] (hx : ev σ x = some v) (hh : ev σ y = some (.int k h)) (H : Own w e B v xs := by repeat (first | assumption | exact Go.Gw.Own.sl (by assumption) | exact Go.Gw.Box.at (by assumption) | exact Go.Gw.SLL.el (by first | assumption | exact Go.Gw.OwnD.sll (by assumption)) _ (by omega) | exact Go.Gw.SLL.at (by first | assumption | exact Go.Gw.OwnD.sll (by assumption)) (by omega) | exact Go.Gw.OwnD.sll (by assumption) | (apply Go.Gw.SL.chg; case hx => assumption) | (apply Go.Gw.Own.chg; case hx => assumption) | (apply Go.Gw.Box.chg; case hx => assumption) | (apply Go.Gw.At.chg; case hx => assumption) | exact .inl (Nat.zero_le _) | exact .inr (Nat.zero_le _) | (show _ ∨ _; omega))) (hb : 0 ≤ h ∧ h ≤ xs.length := by omega) :
    ∃ u, YE P σ (.slice T x none (some y) none) ty w u ∧ Own w e B u (xs.take h.toNat) ∧ bL u = bL v ∧ bH u = bH v ∧ cp u = cp v := by
  have hlen : (xs.take h.toNat).length = h.toNat := by simp; omega
  have hy : ∀ {a : Option Addr} {c : Nat}, v = .slice a xs.length c → xs.length ≤ c → YE P σ (.slice T x none (some y) none) ty w (.slice (if c = 0 then a else a.map (·.add (0 * s))) h.toNat c) := fun {a c} hv hc => ⟨fun w' hw ρ hρ => by
    have e1 : ρ x = .slice a xs.length c := by rw [hρ _ _ hx, hv]
    have h2 : (Instr.sliceBound (.int k h) c .sliceAcap).run P w' = .ok h.toNat w' := by
      have h1 : 0 ≤ h ∧ h ≤ (c : Int) := by omega
      simp only [Instr.sliceBound, asIntOf, Sem.run_bind, Sem.run_pure, Result.andThen_ok, if_pos h1]
    have hsl : (Instr.sliceAt T (.slice a xs.length c) none (some (ρ y)) none).run P w' = .ok (.slice (if c = 0 then a else a.map (·.add (0 * s))) h.toNat c) w' := by
      simp [Instr.sliceAt, Instr.slice, Instr.sliceBounds, run_underlying hT.und, run_size w' hT.size, hρ _ _ hh, h2]
    simp only [execOp, e1, Option.map_some, Option.map_none, Sem.run_bind, hsl, Result.andThen_ok, Sem.run_pure]⟩
  rcases H.go with ⟨hl, ⟨rfl, hn⟩ | ⟨g, cap, cur, rfl, hb', hg, hnc, hcm, hcs, htk⟩⟩
  · have hx0 : xs = [] := List.eq_nil_of_length_eq_zero hn
    subst hx0
    have h0 : h.toNat = 0 := by simp at hb; omega
    refine ⟨_, hy rfl (Nat.le_refl _), ?_, rfl, rfl, rfl⟩
    rw [h0]
    exact Own.nil w e B
  · refine ⟨_, hy rfl hnc, ⟨?_⟩, ?_, ?_, rfl⟩
    · have ea : (if cap = 0 then (some ⟨g, 0, none⟩ : Option Addr) else (some (⟨g, 0, none⟩ : Addr)).map (·.add (0 * s))) = some ⟨g, 0, none⟩ := by
        split
        · rfl
        · rw [Nat.zero_mul, Option.map_some, Addr.add_lit]
      rw [ea, hlen]
      refine ⟨by rw [flat_len, hlen], .inr ⟨g, cap, cur, rfl, hb', hg, by omega, hcm, hcs, ?_⟩⟩
      have e2 : cur.toList.take (h.toNat * Enc.sz α) = (cur.toList.take (xs.length * Enc.sz α)).take (h.toNat * Enc.sz α) := by
        rw [List.take_take, Nat.min_eq_left (Nat.mul_le_mul_right _ (by omega))]
      rw [e2, htk]
      conv => lhs; rw [← List.take_append_drop h.toNat xs, List.flatMap_append]
      rw [List.take_left' (by rw [flat_len, hlen])]
    · split <;> simp [bL, sb, Addr.add_lit]
    · split <;> simp [bH, Addr.add_lit]
theorem chg_setRow (w : World) (g : Nat) (cs : Array Value) : Chg g (g + 1) w (w.setRow g cs) :=
  ⟨rfl, rfl, rfl, by simp, fun k hk ho => setRow_other w g k cs (by omega)⟩
theorem run_append_keep {lo hi B : Nat} {xs ys : List α} {t2 : TypeId} [hT : TSli P T e s b] (hs : s = Enc.sz α) (h : Own w e B v xs) (h2 : SL w lo hi u ys) (hc : xs.length + ys.length ≤ cp v) :
    ∃ v' w', (Builtin.append_ #[T, T] t2 #[v, u]).run P w = .ok v' w' ∧ Own w' e B v' (xs ++ ys) ∧ Chg (bL v) (bH v) w w' ∧ bL v' = bL v ∧ bH v' = bH v ∧ cp v' = cp v := by
  subst hs
  obtain ⟨i, z, hi, hz, his, hib, hzs⟩ := info_of (P := P) (T := T)
  obtain ⟨a, c, hu, hle, hcm, ha⟩ := h2.form
  rcases Nat.eq_zero_or_pos ys.length with h0 | h0
  · have : ys = [] := List.eq_nil_of_length_eq_zero h0
    subst this
    refine ⟨v, w, ?_, by simpa using h, Chg.refl _ _ _, rfl, rfl, rfl⟩
    rw [hu]
    obtain ⟨a', c', hv, hle', _⟩ := h.sl.form
    rw [hv]
    have hf : (Builtin.firstCells i.size 0 (.slice a 0 c)).run P w = .ok #[] w := by
      cases a <;> simp [Builtin.firstCells, loadCells, loadCellsFrom]
    have hlen : xs.length + 0 ≤ c' := by omega
    simp only [List.length_nil, Builtin.append_, run_underlying hT.und, sizeOf, typeInfo, hi, Builtin.lenOf]
    cases a' <;> simp [run_underlying hT.und, hi, hle', hf, storeCells]
  · have ha := ha h0
    subst ha
    rcases h.go with ⟨hl, ⟨rfl, hn⟩ | ⟨g, cap, cur, rfl, hbg, hg, hnc, hcm', hcs, htk⟩⟩
    · exact absurd hc (by simp only [cp]; omega)
    · have hroom : xs.length + ys.length ≤ cap := hc
      have hfit : xs.length * i.size + (ys.flatMap Enc.enc).length ≤ cur.size := by rw [flat_len, hcs, his, ← Nat.add_mul]; exact Nat.mul_le_mul_right _ hroom
      have hr2 := run_append_room (P := P) w T t2 e i hT.und hi g xs.length cap cur hg ⟨sb u, so u, none⟩ ys.length c (ys.flatMap Enc.enc) (by rw [his]; exact flat_len ys) (sl_cells h2 h0) (enc_all ys) hroom hfit
      have hlt := (Array.getElem?_eq_some_iff.1 hg).1
      refine ⟨.slice (some ⟨g, 0, none⟩) (xs.length + ys.length) cap, _, by rw [hu]; exact hr2, ⟨?_⟩, chg_setRow w g _, rfl, rfl, rfl⟩
      · refine ⟨flat_len _, .inr ⟨g, cap, _, by rw [List.length_append], hbg, setRow_heap w g cur _ e (0, 0) hg, by rw [List.length_append]; exact hc, hcm', ?_, ?_⟩⟩
        · simp only [List.size_toArray, List.length_append, List.length_take, List.length_drop, Array.length_toList]
          omega
        · rw [his, List.length_append, List.flatMap_append, htk]
          rw [List.take_left' (by rw [List.length_append, flat_len, flat_len, Nat.add_mul])]
theorem w_append_keep {lo hi B : Nat} {xs ys : List α} [hT : TSli P T e s b] (hx : ev σ x = some v) (hy : ev σ y = some u) (h : Own w e B v xs := by repeat (first | assumption | exact Go.Gw.Own.sl (by assumption) | exact Go.Gw.Box.at (by assumption) | exact Go.Gw.SLL.el (by first | assumption | exact Go.Gw.OwnD.sll (by assumption)) _ (by omega) | exact Go.Gw.SLL.at (by first | assumption | exact Go.Gw.OwnD.sll (by assumption)) (by omega) | exact Go.Gw.OwnD.sll (by assumption) | (apply Go.Gw.SL.chg; case hx => assumption) | (apply Go.Gw.Own.chg; case hx => assumption) | (apply Go.Gw.Box.chg; case hx => assumption) | (apply Go.Gw.At.chg; case hx => assumption) | exact .inl (Nat.zero_le _) | exact .inr (Nat.zero_le _) | (show _ ∨ _; omega))) (h2 : SL w lo hi u ys := by repeat (first | assumption | exact Go.Gw.Own.sl (by assumption) | exact Go.Gw.Box.at (by assumption) | exact Go.Gw.SLL.el (by first | assumption | exact Go.Gw.OwnD.sll (by assumption)) _ (by omega) | exact Go.Gw.SLL.at (by first | assumption | exact Go.Gw.OwnD.sll (by assumption)) (by omega) | exact Go.Gw.OwnD.sll (by assumption) | (apply Go.Gw.SL.chg; case hx => assumption) | (apply Go.Gw.Own.chg; case hx => assumption) | (apply Go.Gw.Box.chg; case hx => assumption) | (apply Go.Gw.At.chg; case hx => assumption) | exact .inl (Nat.zero_le _) | exact .inr (Nat.zero_le _) | (show _ ∨ _; omega))) (hc : xs.length + ys.length ≤ cp v) (hs : s = Enc.sz α := by rfl) (hd : Nat.blt d N = true := by rfl)
    (k : ∀ v' w', Own w' e B v' (xs ++ ys) → Chg (bL v) (bH v) w w' → (bL v' = bL v ∧ bH v' = bH v ∧ cp v' = cp v) → W P N ops Q rest ((d, v') :: σ) w') :
    W P N ops Q (⟨some d, .call { callee := .builtin .append, args := #[x, y], argTypes := #[T, T] }, ty, pos, af, none⟩ :: rest) σ w := by
  refine ⟨fun a ha => ?_⟩
  refine wpList_plain rfl fun K hK => ?_
  unfold Oper.wp
  obtain ⟨v', w', hr, h3, h4, h5⟩ := run_append_keep (P := P) (T := T) (t2 := ty) hs h h2 hc
  have : (execOp a.eval ⟨some d, .call { callee := .builtin .append, args := #[x, y], argTypes := #[T, T] }, ty, pos, af, none⟩).run P w = .ok (.value v') w' := by
    simp only [execOp, resolve, Sem.run_bind, Sem.run_pure, Result.andThen_ok, invoke, builtin, List.map_toArray, List.map_cons, List.map_nil, ha.eval hx, ha.eval hy, hr]
  rw [this]
  exact hK _ _ ((k v' w' h3 h4 h5).go _ (ha.put hd _))
/-- u is the part of v from its l-th element on, n elements long, within v's room -/
structure Past (sz : Nat) (v u : Value) (l n : Nat) : Prop where
  go : ∃ a c, u = .slice a n c ∧ (0 < n → a = some ⟨bL v, l * sz, none⟩)
  room : l + n ≤ cp v
theorem y_slicet {B : Nat} {xs : List α} {l h : Int} [hT : TSli P T e s b] (hx : ev σ x = some v) (hl : ev σ y = some (.int k l)) (hh : ev σ z = some (.int k2 h)) (H : Own w e B v xs := by repeat (first | assumption | exact Go.Gw.Own.sl (by assumption) | exact Go.Gw.Box.at (by assumption) | exact Go.Gw.SLL.el (by first | assumption | exact Go.Gw.OwnD.sll (by assumption)) _ (by omega) | exact Go.Gw.SLL.at (by first | assumption | exact Go.Gw.OwnD.sll (by assumption)) (by omega) | exact Go.Gw.OwnD.sll (by assumption) | (apply Go.Gw.SL.chg; case hx => assumption) | (apply Go.Gw.Own.chg; case hx => assumption) | (apply Go.Gw.Box.chg; case hx => assumption) | (apply Go.Gw.At.chg; case hx => assumption) | exact .inl (Nat.zero_le _) | exact .inr (Nat.zero_le _) | (show _ ∨ _; omega))) (hn : 0 ≤ l ∧ l ≤ h ∧ h ≤ cp v) :
    ∃ u, YE P σ (.slice T x (some y) (some z) none) ty w u ∧ Past s v u l.toNat (h.toNat - l.toNat) := by
  obtain ⟨a, c, hv, hle, hcm, ha⟩ := H.sl.form
  have hc : cp v = c := by rw [hv]; rfl
  refine ⟨.slice (if c = l.toNat then a else a.map (·.add (l.toNat * s))) (h.toNat - l.toNat) (c - l.toNat), ⟨fun w' hw ρ hρ => ?_⟩, ⟨⟨_, _, rfl, fun h0 => ?_⟩, by omega⟩⟩
  · have e1 : ρ x = .slice a xs.length c := by rw [hρ _ _ hx, hv]
    have h2 : (Instr.sliceBound (.int k2 h) c .sliceAcap).run P w' = .ok h.toNat w' := by
      have h1 : 0 ≤ h ∧ h ≤ (c : Int) := by omega
      simp only [Instr.sliceBound, asIntOf, Sem.run_bind, Sem.run_pure, Result.andThen_ok, if_pos h1]
    have h3 : (Instr.sliceBound (.int k l) h.toNat .sliceB).run P w' = .ok l.toNat w' := by
      have h1 : 0 ≤ l ∧ l ≤ (h.toNat : Int) := by omega
      simp only [Instr.sliceBound, asIntOf, Sem.run_bind, Sem.run_pure, Result.andThen_ok, if_pos h1]
    have hsl : (Instr.sliceAt T (.slice a xs.length c) (some (ρ y)) (some (ρ z)) none).run P w' = .ok (.slice (if c = l.toNat then a else a.map (·.add (l.toNat * s))) (h.toNat - l.toNat) (c - l.toNat)) w' := by
      simp [Instr.sliceAt, Instr.slice, Instr.sliceBounds, run_underlying hT.und, run_size w' hT.size, hρ _ _ hl, hρ _ _ hh, h2, h3]
    simp only [execOp, e1, Option.map_some, Option.map_none, Sem.run_bind, hsl, Result.andThen_ok, Sem.run_pure]
  · rcases H.go.2 with ⟨rfl, hz⟩ | ⟨g, cap, cur, rfl, _⟩
    · simp only [cp] at hn; omega
    · cases hv
      rw [if_neg (by omega), Option.map_some, Addr.add_lit, Nat.zero_add]; rfl
theorem w_clear {B n : Nat} {xs : List α} {zv : Value} {x0 : α} [hT : TSli P T e s b] [hz : TZero P e zv] (hx : ev σ x = some u) (hp : Past s v u xs.length n) (h : Own w e B v xs := by repeat (first | assumption | exact Go.Gw.Own.sl (by assumption) | exact Go.Gw.Box.at (by assumption) | exact Go.Gw.SLL.el (by first | assumption | exact Go.Gw.OwnD.sll (by assumption)) _ (by omega) | exact Go.Gw.SLL.at (by first | assumption | exact Go.Gw.OwnD.sll (by assumption)) (by omega) | exact Go.Gw.OwnD.sll (by assumption) | (apply Go.Gw.SL.chg; case hx => assumption) | (apply Go.Gw.Own.chg; case hx => assumption) | (apply Go.Gw.Box.chg; case hx => assumption) | (apply Go.Gw.At.chg; case hx => assumption) | exact .inl (Nat.zero_le _) | exact .inr (Nat.zero_le _) | (show _ ∨ _; omega))) (hs : s = Enc.sz α := by rfl) (hdec : E.dec zv = some x0 := by rfl)
    (k : ∀ w', Own w' e B v xs → Chg (bL v) (bH v) w w' → W P N ops Q rest σ w') :
    W P N ops Q (⟨none, .call { callee := .builtin .clear, args := #[x], argTypes := #[T] }, ty, pos, af, none⟩ :: rest) σ w := by
  subst hs
  refine ⟨fun a ha => ?_⟩
  refine wpList_plain rfl fun K hK => ?_
  unfold Oper.wp
  have hfl := made_flat (E.dec_ok _ _ hdec) n
  have hsz : zv.cells.size = Enc.sz α := by rw [← Array.length_toList, E.dec_ok _ _ hdec, Enc.len]
  have hzc : (Builtin.zeroCells zv.cells n).toList = (List.replicate n x0).flatMap Enc.enc := by
    rw [← hfl, ← hsz]; rfl
  obtain ⟨⟨a', c, hu, haa⟩, hroom⟩ := hp
  have hr : ∃ w', (Builtin.clear_ #[T] ty #[u]).run P w = .ok (.tuple #[]) w' ∧ Own w' e B v xs ∧ Chg (bL v) (bH v) w w' := by
    rcases Nat.eq_zero_or_pos n with h0 | h0
    · refine ⟨w, ?_, h, Chg.refl _ _ _⟩
      rw [hu, h0]
      cases a' <;> simp [Builtin.clear_, run_underlying hT.und]
    · have ha' := haa h0
      subst ha'
      rcases h.go with ⟨hl, ⟨rfl, hn⟩ | ⟨g, cap, cur, rfl, hbg, hg, hnc, hcm', hcs, htk⟩⟩
      · simp only [cp] at hroom; omega
      · have hroom' : xs.length + n ≤ cap := hroom
        have hm : xs.length * Enc.sz α + n * Enc.sz α ≤ cur.size := by rw [hcs, ← Nat.add_mul]; exact Nat.mul_le_mul_right _ hroom'
        have hst := run_storeCells_at P g (xs.length * Enc.sz α) e ((List.replicate n x0).flatMap Enc.enc) 0 cur w hg (by rw [flat_len, List.length_replicate]; exact hm) (enc_all _)
        rw [Nat.add_zero] at hst
        refine ⟨w.setRow g (cur.toList.take (xs.length * Enc.sz α) ++ (List.replicate n x0).flatMap Enc.enc ++ cur.toList.drop (xs.length * Enc.sz α + ((List.replicate n x0).flatMap Enc.enc).length)).toArray, ?_, ⟨?_⟩, chg_setRow w g _⟩
        · rw [hu]
          obtain ⟨m, rfl⟩ : ∃ m, n = m + 1 := ⟨n - 1, by omega⟩
          simp only [bL, sb]
          simp only [Builtin.clear_, Sem.run_bind, List.getElem?_toArray, List.getElem?_cons_zero, run_underlying hT.und, Result.andThen_ok, run_zero w (h := hz), hzc, hst, Sem.run_pure]
        · refine ⟨hl, .inr ⟨g, cap, _, rfl, hbg, setRow_heap w g cur _ e (0, 0) hg, hnc, hcm', ?_, ?_⟩⟩
          · simp only [List.size_toArray, List.length_append, List.length_take, List.length_drop, Array.length_toList, flat_len, List.length_replicate]
            omega
          · rw [List.append_assoc, List.take_left' (by rw [List.length_take]; have e : cur.toList.length = cur.size := Array.length_toList; omega), htk]
  obtain ⟨w', hr, h3, h4⟩ := hr
  have : (execOp a.eval ⟨none, .call { callee := .builtin .clear, args := #[x], argTypes := #[T] }, ty, pos, af, none⟩).run P w = .ok (.value (.tuple #[])) w' := by
    simp only [execOp, resolve, Sem.run_bind, Sem.run_pure, Result.andThen_ok, invoke, builtin, List.map_toArray, List.map_cons, List.map_nil, ha.eval hx, hr]
  rw [this]
  exact hK _ _ ((k w' h3 h4).go _ (ha.put_none _))
theorem w_slice3 {lo hi : Nat} {xs : List α} {l h n : Int} [hT : TSli P T e s b] (hx : ev σ x = some v) (hl : ev σ y = some (.int k l)) (hh : ev σ z = some (.int k2 h)) (hm : ev σ m = some (.int k3 n)) (hd : Nat.blt d N = true) (kk : ∀ u, W P N ops Q rest ((d, u) :: σ) w)
    (H : SL w lo hi v xs := by repeat (first | assumption | exact Go.Gw.Own.sl (by assumption) | exact Go.Gw.Box.at (by assumption) | exact Go.Gw.SLL.el (by first | assumption | exact Go.Gw.OwnD.sll (by assumption)) _ (by omega) | exact Go.Gw.SLL.at (by first | assumption | exact Go.Gw.OwnD.sll (by assumption)) (by omega) | exact Go.Gw.OwnD.sll (by assumption) | (apply Go.Gw.SL.chg; case hx => assumption) | (apply Go.Gw.Own.chg; case hx => assumption) | (apply Go.Gw.Box.chg; case hx => assumption) | (apply Go.Gw.At.chg; case hx => assumption) | exact .inl (Nat.zero_le _) | exact .inr (Nat.zero_le _) | (show _ ∨ _; omega))) (hn : 0 ≤ l ∧ l ≤ h ∧ h ≤ n ∧ n ≤ xs.length := by omega) : W P N ops Q (⟨some d, .slice T x (some y) (some z) (some m), ty, pos, af, none⟩ :: rest) σ w := by
  obtain ⟨u, hy⟩ := y_slice3 (P := P) (ty := ty) (T := T) hx hl hh hm H hn
  exact w_pure hy hd (kk u)
theorem w_slicet {B : Nat} {xs : List α} {l h : Int} [hT : TSli P T e s b] (hx : ev σ x = some v) (hl : ev σ y = some (.int k l)) (hh : ev σ z = some (.int k2 h)) (hd : Nat.blt d N = true) (kk : ∀ u, Past s v u l.toNat (h.toNat - l.toNat) → W P N ops Q rest ((d, u) :: σ) w)
    (H : Own w e B v xs := by repeat (first | assumption | exact Go.Gw.Own.sl (by assumption) | exact Go.Gw.Box.at (by assumption) | exact Go.Gw.SLL.el (by first | assumption | exact Go.Gw.OwnD.sll (by assumption)) _ (by omega) | exact Go.Gw.SLL.at (by first | assumption | exact Go.Gw.OwnD.sll (by assumption)) (by omega) | exact Go.Gw.OwnD.sll (by assumption) | (apply Go.Gw.SL.chg; case hx => assumption) | (apply Go.Gw.Own.chg; case hx => assumption) | (apply Go.Gw.Box.chg; case hx => assumption) | (apply Go.Gw.At.chg; case hx => assumption) | exact .inl (Nat.zero_le _) | exact .inr (Nat.zero_le _) | (show _ ∨ _; omega))) (hn : 0 ≤ l ∧ l ≤ h ∧ h ≤ cp v := by omega) : W P N ops Q (⟨some d, .slice T x (some y) (some z) none, ty, pos, af, none⟩ :: rest) σ w := by
  obtain ⟨u, hy, hp⟩ := y_slicet (P := P) (ty := ty) (T := T) hx hl hh H hn
  exact w_pure hy hd (kk u hp)
theorem h_slicep {B : Nat} {xs : List α} {h : Int} {i fuel n : Nat} {q : List (Nat × Oper)} {ls : List Bool} [hT : TSli P T e s b] (hi' : ops[i]? = some ⟨some d, .slice T x none (some y) none, ty, pos, af, none⟩) (hx : ev σ x = some v) (hh : ev σ y = some (.int k h))
    (hd : Nat.blt d N = true) (kk : ∀ u, Own w e B u (xs.take h.toNat) → bL u = bL v ∧ bH u = bH v ∧ cp u = cp v → WH P N ops Q fuel q.length q (ls.set i true) ((d, u) :: σ) w) (H : Own w e B v xs := by repeat (first | assumption | exact Go.Gw.Own.sl (by assumption) | exact Go.Gw.Box.at (by assumption) | exact Go.Gw.SLL.el (by first | assumption | exact Go.Gw.OwnD.sll (by assumption)) _ (by omega) | exact Go.Gw.SLL.at (by first | assumption | exact Go.Gw.OwnD.sll (by assumption)) (by omega) | exact Go.Gw.OwnD.sll (by assumption) | (apply Go.Gw.SL.chg; case hx => assumption) | (apply Go.Gw.Own.chg; case hx => assumption) | (apply Go.Gw.Box.chg; case hx => assumption) | (apply Go.Gw.At.chg; case hx => assumption) | exact .inl (Nat.zero_le _) | exact .inr (Nat.zero_le _) | (show _ ∨ _; omega))) (hb : 0 ≤ h ∧ h ≤ xs.length := by omega)
    (hm : mayTake ops (spoil ops) ls.toArray i = true := by decide +kernel) (hQ : ∀ c a u w, Q (.panic c) (a.put (some d) u) w → Q (.panic c) a w := by exact fun _ _ _ _ h => h) :
    WH P N ops Q (fuel + 1) n ((i, ⟨some d, .slice T x none (some y) none, ty, pos, af, none⟩) :: q) ls σ w := by
  obtain ⟨u, hy, hu, h3⟩ := y_slicep (P := P) (ty := ty) (T := T) hx hh H hb
  exact h_pure hi' hy hd (kk u hu h3) hm (fun c a w => hQ c a u w)
theorem Own.cp_le {B : Nat} {xs : List α} (h : Own w e B v xs) : xs.length ≤ cp v := by
  obtain ⟨a, c, hv, hle, _⟩ := h.sl.form
  rw [hv]; exact hle
end
end Go.Gw

namespace Go.Gw
open Go
set_option linter.unusedVariables false
set_option linter.unusedSimpArgs false
section
variable {P : Program} {N : Nat} {σ : Fm} {w : World} {ty t t' : TypeId} {x y : Operand} {a b : Int}
theorem wrap_u8 {a : Int} (h : 0 ≤ a ∧ a < 256) : IntKind.u8.wrap a = a := by
  simp only [IntKind.wrap, show IntKind.u8.signed = false from rfl, show IntKind.u8.bits = 8 from rfl, Bool.false_eq_true, false_and, Bool.false_and, if_false]
  omega
theorem y_sub8 (hx : ev σ x = some (.int .u8 a)) (hy : ev σ y = some (.int .u8 b)) (h : 0 ≤ a - b ∧ a - b < 256 := by omega) : YE P σ (.binOp .sub t x y t') ty w (.int .u8 (a - b)) := by
  have := y_sub_wrap (P := P) (w := w) (ty := ty) (t := t) (t' := t') hx hy
  rwa [wrap_u8 h] at this
end
end Go.Gw

namespace Go.Gw
open Go
set_option linter.unusedVariables false
set_option linter.unusedSimpArgs false
section
variable {P : Program} {N : Nat} {Q : Post} {σ : Fm} {w w' : World} {ops : Array Oper} {rest : List Oper} {T ty : TypeId} {x y z : Operand} {v u t : Value} {lo hi l k e s b d : Nat} {pos : String} {af : Array Edge} {svs gs : List SV} {xss : List (List Int)} {k1 k2 : IntKind}
theorem drop_take_getD {α : Type} {xs : List α} {a b i : Nat} {d : α} (h : i < ((xs.take b).drop a).length) : ((xs.take b).drop a).getD i d = xs.getD (a + i) d := by
  simp only [List.length_drop, List.length_take] at h
  rw [List.getD_eq_getElem?_getD, List.getElem?_drop, List.getElem?_take_of_lt (by omega), List.getD_eq_getElem?_getD]
theorem SLL.part {a c : Nat} (H : SLL w lo hi svs v xss) (hu : SL w lo hi u ((svs.take c).drop a)) : SLL w lo hi ((svs.take c).drop a) u ((xss.take c).drop a) := by
  have hl := H.len
  refine ⟨hu, by simp only [List.length_drop, List.length_take, hl], fun i hi => ?_⟩
  have h2 : i < ((svs.take c).drop a).length := by simp only [List.length_drop, List.length_take] at hi ⊢; omega
  rw [svD, drop_take_getD h2, drop_take_getD hi]
  exact H.el _ (by simp only [List.length_drop, List.length_take] at hi; omega)
theorem w_sliced {l h : Int} [hT : TSli P T e s b] (hx : ev σ x = some v) (hl : ev σ y = some (.int k1 l)) (hh : ev σ z = some (.int k2 h)) (hd : Nat.blt d N = true) (kk : ∀ u, SLL w lo hi ((svs.take h.toNat).drop l.toNat) u ((xss.take h.toNat).drop l.toNat) → W P N ops Q rest ((d, u) :: σ) w)
    (H : SLL w lo hi svs v xss := by first | assumption | exact Go.Gw.OwnD.sll (by assumption)) (hs : s = 1 := by rfl) (hb : 0 ≤ l ∧ l ≤ h ∧ h ≤ xss.length := by omega) :
    W P N ops Q (⟨some d, .slice T x (some y) (some z) none, ty, pos, af, none⟩ :: rest) σ w := by
  have hln := H.len
  obtain ⟨u, hy, hu⟩ := y_slice (P := P) (ty := ty) (T := T) hx (.inr ⟨y, _, rfl, hl⟩) (.inr ⟨z, _, rfl, hh⟩) H.out hs (by omega)
  exact w_pure hy hd (kk u (H.part hu))
theorem q_part_dec {op : Op} {Cl : World → Prop} {Q : Act → Prop} {o : Option Tmp} {j t : Nat} {b' : Bool} {p : Prop} {dp : Decidable p} (hj : (ops[j]?).bind (·.dst) = some t) (ht : look σ t = some (.bool (decide p)))
    (k1 : p → WQ P N ops Cl Q (⟨o, op, ty, pos, af, some (j, b')⟩ :: rest) ((t, .bool true) :: σ)) (k2 : ¬ p → WQ P N ops Cl Q (⟨o, op, ty, pos, af, some (j, b')⟩ :: rest) ((t, .bool false) :: σ)) : WQ P N ops Cl Q (⟨o, op, ty, pos, af, some (j, b')⟩ :: rest) σ :=
  q_part hj ht (fun h => k1 (of_decide_eq_true h)) (fun h => k2 (of_decide_eq_false h))
theorem q_slice {α : Type} {E : Enc α} {xs : List α} {l h : Int} {ol oh : Option Operand} {Q : Act → Prop} [hT : TSli P T e s b] (hx : ev σ x = some v) (hl : (ol = none ∧ l = 0) ∨ ∃ y k, ol = some y ∧ ev σ y = some (.int k l)) (hh : (oh = none ∧ h = xs.length) ∨ ∃ y k, oh = some y ∧ ev σ y = some (.int k h))
    (hd : Nat.blt d N = true) (k : ∀ u, SL w lo hi u ((xs.take h.toNat).drop l.toNat) → WQ P N ops (Ext w) Q rest ((d, u) :: σ)) (H : SL w lo hi v xs := by repeat (first | assumption | exact Go.Gw.Own.sl (by assumption) | exact Go.Gw.Box.at (by assumption) | exact Go.Gw.SLL.el (by first | assumption | exact Go.Gw.OwnD.sll (by assumption)) _ (by omega) | exact Go.Gw.SLL.at (by first | assumption | exact Go.Gw.OwnD.sll (by assumption)) (by omega) | exact Go.Gw.OwnD.sll (by assumption) | (apply Go.Gw.SL.chg; case hx => assumption) | (apply Go.Gw.Own.chg; case hx => assumption) | (apply Go.Gw.Box.chg; case hx => assumption) | (apply Go.Gw.At.chg; case hx => assumption) | exact .inl (Nat.zero_le _) | exact .inr (Nat.zero_le _) | (show _ ∨ _; omega))) (hs : s = Enc.sz α := by rfl) (hb : 0 ≤ l ∧ l ≤ h ∧ h ≤ xs.length := by omega) :
    WQ P N ops (Ext w) Q (⟨some d, .slice T x ol oh none, ty, pos, af, none⟩ :: rest) σ := by
  obtain ⟨u, hy, hu⟩ := y_slice (P := P) (ty := ty) (T := T) hx hl hh H hs hb
  exact q_pure hy hd (k u hu)
/-- an element that is a slice -/
theorem y_load_svo [TScal P T] {n : Nat} (hx : ev σ x = some (ptr (sb v) (so v + n * 1))) (h : SL w lo hi v gs := by repeat (first | assumption | exact Go.Gw.Own.sl (by assumption) | exact Go.Gw.Box.at (by assumption) | exact Go.Gw.SLL.el (by first | assumption | exact Go.Gw.OwnD.sll (by assumption)) _ (by omega) | exact Go.Gw.SLL.at (by first | assumption | exact Go.Gw.OwnD.sll (by assumption)) (by omega) | exact Go.Gw.OwnD.sll (by assumption) | (apply Go.Gw.SL.chg; case hx => assumption) | (apply Go.Gw.Own.chg; case hx => assumption) | (apply Go.Gw.Box.chg; case hx => assumption) | (apply Go.Gw.At.chg; case hx => assumption) | exact .inl (Nat.zero_le _) | exact .inr (Nat.zero_le _) | (show _ ∨ _; omega))) (hn : n < gs.length := by first | omega | (simp only [List.length_set]; omega) | (simp only [List.length_set, List.length_append, List.length_cons, List.length_nil]; omega)) : YE P σ (.load T x) ty w (svD gs n) := y_load_el hx h hn rfl
theorem w_lit_svl [hT : TSli P T e s b] (hs1 : s = 1) {h : Nat} (hx : ev σ x = some u) (hu : SLL w l h svs u xss := by first | assumption | exact Go.Gw.OwnD.sll (by assumption)) (hd : Nat.blt d N = true := by rfl)
    (k : ∀ v w', Own w' e w.heap.size v [svOf u] → Ext w w' → bL v = w.heap.size → bH v = w.heap.size + 1 → w'.heap.size = w.heap.size + 1 → W P N ops Q rest ((d, v) :: σ) w') : W P N ops Q (⟨some d, .buildSlice T 1 #[(0, x)], ty, pos, af, none⟩ :: rest) σ w :=
  w_lit' (n := 1) (parts := [(0, x)]) (vs := [u]) (xs := [svOf u]) hs1 (by simp [evp, hx, num]) rfl (by
    have h1 := cells_one hu.out.one
    simp only [List.flatMap_cons, List.flatMap_nil, List.append_nil, h1]
    show [u] = [(svOf u).v]; rw [svOf_v hu.out]) (fun v hv => by simp at hv; subst hv; rw [cells_one hu.out.one]; rfl) rfl (by omega) (by omega) hd k
end
end Go.Gw
/- L19 -/
namespace Go.Gw
open Go
set_option linter.unusedVariables false
set_option linter.unusedSimpArgs false
/-- a fresh row of zeros -/
structure Zed (w : World) (e : TypeId) (sz B : Nat) (v : Value) : Prop where
  go : ∃ (g n c : Nat) (cur : Array Value), v = .slice (some ⟨g, 0, none⟩) n c ∧ w.heap[g]? = some (.cells cur e (0, 0)) ∧ cur.size = c * sz ∧ B ≤ g ∧ n ≤ c ∧ c ≤ maxLen
section
variable {P : Program} {N : Nat} {Q : Post} {σ : Fm} {w : World} {ops : Array Oper} {rest : List Oper} {T T2 ty e : TypeId} {x y z : Operand} {v u : Value} {s b d : Nat} {pos : String} {af : Array Edge} {k : IntKind}
theorem y_cap0 [hT : TSli P T e s b] (hx : ev σ x = some (.slice none 0 0)) : YE P σ (.call { callee := .builtin .cap, args := #[x], argTypes := #[T] }) ty w (.int .i64 0) := ⟨fun w' hw ρ hρ => by
  simp [execOp, resolve, hρ _ _ hx, invoke, builtin, Builtin.cap_, run_underlying hT.und, goInt]⟩
theorem y_len0 [hT : TSli P T e s b] (hx : ev σ x = some (.slice none 0 0)) : YE P σ (.call { callee := .builtin .len, args := #[x], argTypes := #[T] }) ty w (.int .i64 0) := ⟨fun w' hw ρ hρ => by
  simp [execOp, resolve, hρ _ _ hx, invoke, builtin, Builtin.len_, run_underlying hT.und, goInt]⟩
theorem y_slice0n [hT : TSli P T e s b] (hx : ev σ x = some (.slice none 0 0)) (hh : ev σ y = some (.int k 0)) : YE P σ (.slice T x none (some y) none) ty w (.slice none 0 0) := ⟨fun w' hw ρ hρ => by
  have h2 : (Instr.sliceBound (.int k 0) 0 .sliceAcap).run P w' = .ok 0 w' := by
    simp [Instr.sliceBound, asIntOf]
  have hsl : (Instr.sliceAt T (.slice none 0 0) none (some (ρ y)) none).run P w' = .ok (.slice none 0 0) w' := by
    simp [Instr.sliceAt, Instr.slice, Instr.sliceBounds, run_underlying hT.und, run_size w' hT.size, hρ _ _ hh, h2]
  simp only [execOp, hρ _ _ hx, Option.map_some, Option.map_none, Sem.run_bind, hsl, Result.andThen_ok, Sem.run_pure]⟩
theorem w_append_zeros [hT : TSli P T e s b] [hT2 : TInt P T2 k] {n : Int} (hx : ev σ x = some (.slice none 0 0)) (hy : ev σ y = some (.int k n)) (h0 : 0 < n ∧ n ≤ 1000 := by omega) (hs : 0 < s := by decide) (hb : Nat.ble b 1000 = true := by rfl) (hd : Nat.blt d N = true := by rfl)
    (kk : ∀ v w', Zed w' e s w.heap.size v → Ext w w' → W P N ops Q rest ((d, v) :: σ) w') :
    W P N ops Q (⟨some d, .call { callee := .builtin .append, args := #[x, y], argTypes := #[T, T2] }, ty, pos, af, none⟩ :: rest) σ w := by
  refine ⟨fun a ha => ?_⟩
  obtain ⟨i, z, hi, hz, his, hib, hzs⟩ := info_of (P := P) (T := T)
  have hb' := Nat.le_of_ble_eq_true hb
  have hn : ((n.toNat : Nat) : Int) = n := by omega
  have h48 : n.toNat * i.bytes ≤ 281474976710656 := by
    rw [hib]
    have : n.toNat * b ≤ 1000 * 1000 := Nat.mul_le_mul (by omega) hb'
    omega
  have hr := Lib.run_append_nil_zeros (P := P) w T T2 ty e i z k k hT.und hT2.und hi hz n.toNat (by omega) (by rw [his]; exact hs) (by omega) h48
  rw [hn] at hr
  refine Lib.wpList_append_run w rfl x y T T2 rfl _ _ (ha.eval hx) (ha.eval hy) _ _ hr ?_
  have hge := grownCap_ge w n.toNat 0 e
  refine (kk _ _ ⟨w.heap.size, n.toNat, grownCap w n.toNat 0 e, Builtin.zeroCells z.cells n.toNat ++ Builtin.zeroCells z.cells (grownCap w n.toNat 0 e - n.toNat), rfl, ?_, ?_, Nat.le_refl _, hge, grownCap_le_maxLen w n.toNat 0 e (by unfold maxLen; omega)⟩ ((Chg.drew w).trans (Chg.alloc _ _))).go _ (ha.put hd _)
  · exact heap_alloc_new _ _
  · rw [Array.size_append, size_zeroCells, size_zeroCells, hzs, ← Nat.add_mul, Nat.add_sub_cancel' hge]
theorem w_slice_zed {α : Type} [E : Enc α] {B : Nat} [hT : TSli P T e s b] (hx : ev σ x = some v) (hh : ev σ y = some (.int k 0)) (hd : Nat.blt d N = true) (kk : ∀ u, Own (α := α) w e B u [] → W P N ops Q rest ((d, u) :: σ) w) (hz : Zed w e s B v := by assumption) (hs : s = Enc.sz α := by rfl) :
    W P N ops Q (⟨some d, .slice T x none (some y) none, ty, pos, af, none⟩ :: rest) σ w := by
  obtain ⟨g, n, c, cur, rfl, hg, hcs, hB, hnc, hcm⟩ := hz.go
  have hy : YE P σ (.slice T x none (some y) none) ty w (.slice (if c = 0 then (some ⟨g, 0, none⟩ : Option Addr) else (some (⟨g, 0, none⟩ : Addr)).map (·.add (0 * s))) 0 c) := ⟨fun w' hw ρ hρ => by
    have h2 : (Instr.sliceBound (.int k 0) c .sliceAcap).run P w' = .ok 0 w' := by
      have h1 : (0 : Int) ≤ 0 ∧ (0 : Int) ≤ (c : Int) := by omega
      simp only [Instr.sliceBound, asIntOf, Sem.run_bind, Sem.run_pure, Result.andThen_ok, if_pos h1]; rfl
    have hsl : (Instr.sliceAt T (.slice (some ⟨g, 0, none⟩) n c) none (some (ρ y)) none).run P w' = .ok (.slice (if c = 0 then (some ⟨g, 0, none⟩ : Option Addr) else (some (⟨g, 0, none⟩ : Addr)).map (·.add (0 * s))) 0 c) w' := by
      simp [Instr.sliceAt, Instr.slice, Instr.sliceBounds, run_underlying hT.und, run_size w' hT.size, hρ _ _ hh, h2]
    simp only [execOp, hρ _ _ hx, Option.map_some, Option.map_none, Sem.run_bind, hsl, Result.andThen_ok, Sem.run_pure]⟩
  refine w_pure hy hd (kk _ ?_)
  have ea : (if c = 0 then (some ⟨g, 0, none⟩ : Option Addr) else (some (⟨g, 0, none⟩ : Addr)).map (·.add (0 * s))) = some ⟨g, 0, none⟩ := by
    split
    · rfl
    · rw [Nat.zero_mul, Option.map_some, Addr.add_lit]
  rw [ea]
  refine ⟨⟨by simp, .inr ⟨g, c, cur, rfl, hB, hg, Nat.zero_le _, hcm, by rw [hcs, hs], by simp⟩⟩⟩
theorem w_lit_sv2 {α : Type} {E : Enc α} {l h l' h' : Nat} {ys zs : List α} [hT : TSli P T e s b] (hs1 : s = 1) (hx : ev σ x = some u) (hy : ev σ y = some v) (hu : SL w l h u ys := by repeat (first | assumption | exact Go.Gw.Own.sl (by assumption) | exact Go.Gw.Box.at (by assumption) | exact Go.Gw.SLL.el (by first | assumption | exact Go.Gw.OwnD.sll (by assumption)) _ (by omega) | exact Go.Gw.SLL.at (by first | assumption | exact Go.Gw.OwnD.sll (by assumption)) (by omega) | exact Go.Gw.OwnD.sll (by assumption) | (apply Go.Gw.SL.chg; case hx => assumption) | (apply Go.Gw.Own.chg; case hx => assumption) | (apply Go.Gw.Box.chg; case hx => assumption) | (apply Go.Gw.At.chg; case hx => assumption) | exact .inl (Nat.zero_le _) | exact .inr (Nat.zero_le _) | (show _ ∨ _; omega))) (hv : SL w l' h' v zs := by repeat (first | assumption | exact Go.Gw.Own.sl (by assumption) | exact Go.Gw.Box.at (by assumption) | exact Go.Gw.SLL.el (by first | assumption | exact Go.Gw.OwnD.sll (by assumption)) _ (by omega) | exact Go.Gw.SLL.at (by first | assumption | exact Go.Gw.OwnD.sll (by assumption)) (by omega) | exact Go.Gw.OwnD.sll (by assumption) | (apply Go.Gw.SL.chg; case hx => assumption) | (apply Go.Gw.Own.chg; case hx => assumption) | (apply Go.Gw.Box.chg; case hx => assumption) | (apply Go.Gw.At.chg; case hx => assumption) | exact .inl (Nat.zero_le _) | exact .inr (Nat.zero_le _) | (show _ ∨ _; omega))) (hd : Nat.blt d N = true := by rfl)
    (k : ∀ t w', Own w' e w.heap.size t [svOf u, svOf v] → Ext w w' → bL t = w.heap.size → bH t = w.heap.size + 1 → w'.heap.size = w.heap.size + 1 → W P N ops Q rest ((d, t) :: σ) w') : W P N ops Q (⟨some d, .buildSlice T 2 #[(0, x), (1, y)], ty, pos, af, none⟩ :: rest) σ w :=
  w_lit' (n := 2) (parts := [(0, x), (1, y)]) (vs := [u, v]) (xs := [svOf u, svOf v]) hs1 (by simp [evp, hx, hy, num]) rfl (by
    have h1 := cells_one hu.one
    have h2 := cells_one hv.one
    simp only [List.flatMap_cons, List.flatMap_nil, List.append_nil, h1, h2]
    show [u, v] = [(svOf u).v, (svOf v).v]; rw [svOf_v hu, svOf_v hv]) (fun t ht => by
    simp at ht
    rcases ht with rfl | rfl
    · rw [cells_one hu.one]; rfl
    · rw [cells_one hv.one]; rfl) rfl (by omega) (by omega) hd k
end
end Go.Gw
/- L22 -/
namespace Go.Gw
open Go
set_option linter.unusedVariables false
set_option linter.unusedSimpArgs false
section
variable {P : Program} {N : Nat} {Q : Post} {σ : Fm} {w : World} {ops : Array Oper} {rest : List Oper} {T ty : TypeId} {x y : Operand} {v : Value} {lo hi e : Nat} {pos : String} {af : Array Edge} {svs : List SV} {xss : List (List Int)} {a : Int}
theorem bL_sb {α : Type} {E : Enc α} {lo hi : Nat} {xs : List α} (h : SL w lo hi v xs) (h0 : 0 < xs.length) : bL v = sb v ∧ bH v = sb v + 1 := by
  obtain ⟨a, c, hv, _, _, h3⟩ := h.form
  have := h3 h0
  subst this
  rw [hv]
  exact ⟨rfl, rfl⟩
theorem w_store_eld [hT : TScal P T] {i n : Nat} (hx : ev σ x = some (ptr (sb (svD svs i)) (so (svD svs i) + n * 1))) (hy : ev σ y = some (.int .i64 a)) (h : OwnD w e lo hi svs v xss := by assumption) (hi' : i < xss.length := by omega) (hn : n < (xss.getD i []).length := by omega)
    (next : ∀ w', OwnD w' e lo hi svs v (xss.set i ((xss.getD i []).set n a)) → Chg lo hi w w' → w'.heap.size = w.heap.size → W P N ops Q rest σ w') : W P N ops Q (⟨none, .store T x y, ty, pos, af, none⟩ :: rest) σ w := by
  have hel := h.el i hi'
  have hb := bL_sb hel (by omega)
  have hr := (h.plc i hi').rng
  refine w_store_sl (α := Int) (x' := a) hx hy hel rfl hn rfl (fun w' hs hc hz => next w' ?_ (hc.wide (by omega) (by omega)) hz)
  refine h.upd hi' hc hb.1.symm hb.2.symm hs
end
end Go.Gw

namespace Go.Gw
open Go
set_option linter.unusedVariables false
set_option linter.unusedSimpArgs false
section
variable {P : Program} {N : Nat} {σ : Fm} {w : World} {ty t t' : TypeId} {x y : Operand} {a b : Int} {k : IntKind}
theorem wrap_u64 (a : Int) : 0 ≤ IntKind.u64.wrap a ∧ IntKind.u64.wrap a < 18446744073709551616 := by
  simp only [IntKind.wrap, show IntKind.u64.signed = false from rfl, show IntKind.u64.bits = 64 from rfl, Bool.false_eq_true, false_and, Bool.false_and, if_false]
  omega
theorem wrap_in64 {a : Int} (h : 0 ≤ a ∧ a < 18446744073709551616) : IntKind.u64.wrap a = a := by
  simp only [IntKind.wrap, show IntKind.u64.signed = false from rfl, show IntKind.u64.bits = 64 from rfl, Bool.false_eq_true, false_and, Bool.false_and, if_false]
  omega
theorem y_shr40 (hx : ev σ x = some (.int .u64 a)) (hy : ev σ y = some (.int .u64 40)) : YE P σ (.binOp .shr t x y t') ty w (.int .u64 (a / 1099511627776)) := ⟨fun w' _ ρ hρ => by
  have e : min (40 : Int).toNat IntKind.u64.bits = 40 := by decide
  have hf : a.fdiv (2 ^ 40) = a / 1099511627776 := by rw [Int.fdiv_eq_ediv_of_nonneg _ (by decide)]; rfl
  have hn : ¬ (40 : Int) < 0 := by decide
  simp only [execOp, hρ _ _ hx, hρ _ _ hy, eqGuard, binOp, Op.shift, hn, e, if_false, hf]
  rfl⟩
theorem y_and255 (hx : ev σ x = some (.int .u64 a)) (hy : ev σ y = some (.int .u64 255)) (ha : 0 ≤ a ∧ a ≤ 9223372036854775807 := by omega) : YE P σ (.binOp .and t x y t') ty w (.int .u64 (andI a 255)) := by
  have hw : IntKind.u64.wrap ((BitVec.ofInt 64 a &&& BitVec.ofInt 64 255).toNat : Int) = andI a 255 := by
    rw [BitVec.toNat_and, bits_of ha.1 ha.2, bits_of (by decide) (by decide)]
    have := andI_le (a := a) (b := 255) (by decide)
    exact wrap_in64 ⟨by unfold andI at this; omega, by unfold andI at this; omega⟩
  exact ⟨fun w' _ ρ hρ => by
    simp [execOp, hρ _ _ hx, hρ _ _ hy, eqGuard, binOp, Op.intBits]
    first
      | exact ⟨hw, by assumption⟩
      | exact hw
      | (intro; exact hw)
      | skip⟩
end
end Go.Gw

namespace Go.Gw
open Go
set_option linter.unusedVariables false
set_option linter.unusedSimpArgs false
section
variable {P : Program} {N : Nat} {σ : Fm} {w : World} {ty t t' : TypeId} {x y : Operand} {a b : Int} {k : IntKind}
theorem y_shru (hx : ev σ x = some (.int .u64 a)) (hy : ev σ y = some (.int .u64 b)) (n : Nat) (hb : b = n := by rfl) (hn : n ≤ 64 := by decide) : YE P σ (.binOp .shr t x y t') ty w (.int .u64 (a / 2 ^ n)) := ⟨fun w' _ ρ hρ => by
  subst hb
  have e : min (n : Int).toNat IntKind.u64.bits = n := by
    have : IntKind.u64.bits = 64 := by decide
    omega
  have hf : a.fdiv (2 ^ n) = a / 2 ^ n := by rw [Int.fdiv_eq_ediv_of_nonneg _ (Int.pow_nonneg (by decide))]
  have hn0 : ¬ (n : Int) < 0 := by omega
  simp only [execOp, hρ _ _ hx, hρ _ _ hy, eqGuard, binOp, Op.shift, hn0, e, if_false, hf]
  rfl⟩
theorem y_shri (hx : ev σ x = some (.int .i64 a)) (hy : ev σ y = some (.int k b)) (n : Nat) (hb : b = n := by rfl) (hn : n ≤ 64 := by omega) : YE P σ (.binOp .shr t x y t') ty w (.int .i64 (a / 2 ^ n)) := ⟨fun w' _ ρ hρ => by
  subst hb
  have e : min (n : Int).toNat IntKind.i64.bits = n := by
    have : IntKind.i64.bits = 64 := by decide
    omega
  have hf : a.fdiv (2 ^ n) = a / 2 ^ n := by rw [Int.fdiv_eq_ediv_of_nonneg _ (Int.pow_nonneg (by decide))]
  have hn0 : ¬ (n : Int) < 0 := by omega
  simp only [execOp, hρ _ _ hx, hρ _ _ hy, eqGuard, binOp, Op.shift, hn0, e, if_false, hf]
  rfl⟩
theorem y_andu (hx : ev σ x = some (.int .u64 a)) (hy : ev σ y = some (.int .u64 b)) (ha : 0 ≤ a ∧ a ≤ 9223372036854775807 := by omega) (hb : 0 ≤ b ∧ b ≤ 9223372036854775807 := by decide) : YE P σ (.binOp .and t x y t') ty w (.int .u64 (andI a b)) := by
  have hw : IntKind.u64.wrap ((BitVec.ofInt 64 a &&& BitVec.ofInt 64 b).toNat : Int) = andI a b := by
    rw [BitVec.toNat_and, bits_of ha.1 ha.2, bits_of hb.1 hb.2]
    have := andI_le (a := a) (b := b) hb.1
    exact wrap_in64 ⟨by unfold andI at this; omega, by unfold andI at this; omega⟩
  exact ⟨fun w' _ ρ hρ => by
    simp [execOp, hρ _ _ hx, hρ _ _ hy, eqGuard, binOp, Op.intBits]
    first
      | exact ⟨hw, by assumption⟩
      | exact hw
      | (intro; exact hw)
      | skip⟩
end
end Go.Gw
/- PutA -/
namespace Go.Proofs.YticnemjjjceiaaaGreatDoor
open Go Go.Gw
set_option linter.unusedVariables false
set_option linter.unusedSimpArgs false
/-- the columns of a number that is not negative -/
def pun (x : Int) : Nat → List Int
  | 0 => []
  | k + 1 => pun (x / 10) k ++ [bitI (x % 10)]
theorem pun_len : ∀ (k : Nat) (x : Int), (pun x k).length = k
  | 0, x => rfl
  | k + 1, x => by rw [pun, List.length_append, pun_len k]; rfl
/-- what is left of a number behind k digits -/
def sft (x : Int) : Nat → Int
  | 0 => x
  | k + 1 => sft (x / 10) k
theorem sft_zero : ∀ (k : Nat) (x : Int), 0 ≤ x → (sft x k = 0 ↔ x < 10 ^ k)
  | 0, x, h => by rw [sft, Int.pow_zero]; omega
  | k + 1, x, h => by
    have := sft_zero k (x / 10) (by omega)
    rw [sft, this, Int.pow_succ]; omega
theorem rep_set {m : Nat} {b : Int} {R : List Int} : (List.replicate (m + 1) (0 : Int) ++ R).set m b = List.replicate m 0 ++ ([b] ++ R) := by
  rw [List.replicate_succ', List.append_assoc, List.set_append_right _ _ (by simp), List.length_replicate, Nat.sub_self]; rfl
/-- the columns of a number below 0 -/
def punN (n : Int) (k : Int) : List Int := (pun (-n) k.toNat).set (k - 1).toNat (orI ((pun (-n) k.toNat).getD (k - 1).toNat 0) 2)
theorem bitI_rg (r : Int) : 0 ≤ bitI r ∧ bitI r ≤ 2048 := by
  unfold bitI
  split
  · omega
  · split
    · omega
    · split
      · rename_i h
        have h1 : (2 : Int) ^ r.toNat ≤ 2 ^ 9 := by
          have : r.toNat ≤ 9 := by omega
          exact_mod_cast Nat.pow_le_pow_right (by decide) this
        have h2 : (0 : Int) < 2 ^ r.toNat := Int.pow_pos (by decide)
        have e : (2 : Int) ^ 9 = 512 := by decide
        omega
      · omega
theorem pun_rg : ∀ (k : Nat) (x : Int), ∀ m ∈ pun x k, 0 ≤ m ∧ m ≤ 4095
  | 0, x, m, h => by simp [pun] at h
  | k + 1, x, m, h => by
    rw [pun, List.mem_append] at h
    rcases h with h | h
    · exact pun_rg k _ m h
    · simp only [List.mem_singleton] at h
      have := bitI_rg (x % 10)
      omega
section
variable {w : World} {lo hi B : Nat} {v : Value} {xs : List Int}
theorem l03Put_c (n k : Int) (hn : 0 ≤ n ∧ n ≤ 9223372036854775807 := by omega) (hk : 1 ≤ k ∧ k ≤ 1000 := by omega) : Ret Tryz.prog 103 [.int .i64 n, .int .i64 k] w fun u w' => ∃ d, u = .tuple #[d, .bool (decide (sft n k.toNat = 0))] ∧ Own w' 2 w.heap.size d (pun n k.toNat) ∧ Ext w w' := by
  have E : Since 0 0 w w := Since.refl 0 0 w
  refine ret_enter Tryz.func103 rfl Tryz.ntmps103 rfl ?_
  focus refine c_seq ?_; refine c_region ?_; refine w_pure (y_assign rfl) rfl ?_; refine w_pure (y_assign rfl) rfl ?_; refine w_nil ?_; refine x_next ?_; refine c_seq ?_; refine c_region ?_; refine w_pure (y_move rfl) rfl ?_; refine w_make (α := Int) rfl rfl (k := fun v10 w10 ho10 hx10 hl10 hh10 hs10 => ?_); have hl_ho10 := ho10.lt; have hz_hx10 := hx10.size; replace E := E.trans hx10; refine w_pure (y_assign rfl) rfl ?_; refine w_nil ?_; refine x_next ?_; refine c_seq ?_; refine c_region ?_; refine w_pure (y_move rfl) rfl ?_; refine w_pure (y_assign rfl) rfl ?_; refine w_nil ?_; refine x_next ?_; refine c_seq ?_; refine c_seq ?_; refine c_region ?_; refine w_pure (y_move rfl) rfl ?_; refine w_pure (y_lt rfl rfl) rfl ?_; refine w_nil ?_; refine x_next ?_; (refine c_dec rfl (fun hc13 => ?_) (fun hc13 => ?_) <;> try (first | exact absurd rfl hc13 | contradiction | exact Bool.noConfusion (show false = true from hc13.symm.trans (by assumption)) | exact Bool.noConfusion (show true = false from hc13.symm.trans (by assumption)) | (exfalso; omega) | (exfalso; simp only [*, Bool.not_true, Bool.not_false, reduceCtorEq] at hc13; done))); refine c_skip ?_; refine x_next ?_; refine c_seq ?_; refine c_seq ?_; refine c_region ?_; refine w_pure (y_move rfl) rfl ?_; refine w_pure (y_sub rfl rfl) rfl ?_; refine w_pure (y_assign rfl) rfl ?_; refine w_nil ?_; refine x_next ?_; refine c_block ?_; rotate_left
  refine c_loopC (bL v10) (bH v10) (ι := Int × Int × List Int) (fun x => [(0, .int .i64 n), (1, .int .i64 k), (6, v10), (7, .int .i64 x.1), (8, .int .i64 x.2.1)])
    (fun x w' => Own w' 2 w.heap.size v10 (List.replicate (x.2.1 + 1).toNat 0 ++ x.2.2) ∧ -1 ≤ x.2.1 ∧ x.2.1 ≤ k - 1 ∧ 0 ≤ x.1 ∧ x.1 ≤ n ∧ pun x.1 (x.2.1 + 1).toNat ++ x.2.2 = pun n k.toNat ∧ sft x.1 (x.2.1 + 1).toNat = sft n k.toNat) (fun x => (x.2.1 + 1).toNat) (n, k - 1, [])
    (by repeat (first | exact trivial | refine ⟨rfl, ?_⟩)) ⟨by dsimp only; rw [List.append_nil, show k - 1 + 1 = k by omega]; exact Own.base (by assumption) (by omega), by dsimp only; omega, by dsimp only; omega, by dsimp only; omega, by dsimp only; omega, by dsimp only; rw [List.append_nil, show k - 1 + 1 = k by omega], by dsimp only; rw [show k - 1 + 1 = k by omega]⟩ ?_
  clear ho10
  rintro ⟨x, j, R⟩ wL hxL EL ⟨g1, hj0, hj1, hx0, hx1, hp, hs⟩
  dsimp only at *
  by_cases hj : 0 ≤ j
  · have ej : (j + 1).toNat = j.toNat + 1 := by omega
    have hrl : (List.replicate (j + 1).toNat (0 : Int) ++ R).length = j.toNat + 1 + R.length := by rw [List.length_append, List.length_replicate, ej]
    focus have hl_g1 := g1.lt; have hz_hxL := hxL.size; replace E := E.next hxL (by omega); refine c_seq ?_; refine c_seq ?_; refine c_region ?_; refine w_pure (y_move rfl) rfl ?_; refine w_pure (y_ge rfl rfl) rfl ?_; refine w_nil ?_; refine x_next ?_; (refine c_dec rfl (fun hc19 => ?_) (fun hc19 => ?_) <;> try (first | exact absurd rfl hc19 | contradiction | exact Bool.noConfusion (show false = true from hc19.symm.trans (by assumption)) | exact Bool.noConfusion (show true = false from hc19.symm.trans (by assumption)) | (exfalso; omega) | (exfalso; simp only [*, Bool.not_true, Bool.not_false, reduceCtorEq] at hc19; done))); refine c_skip ?_; refine x_next ?_; refine c_seq ?_; refine c_block ?_; refine c_seq ?_; refine c_region ?_; refine w_pure (y_move rfl) rfl ?_; refine w_pure (y_move rfl) rfl ?_; refine w_pure (y_move rfl) rfl ?_; refine w_pure (y_rem rfl rfl) rfl ?_; refine w_pur rfl rfl rfl (l02Bit_c _) rfl ?_; refine w_pure (y_index rfl rfl) rfl ?_; refine w_store_own rfl rfl (next := fun ws21 hos21 hxs21 hss21 => ?_); (replace g1 := hos21; clear hos21); have hz_hxs21 := hxs21.size; replace EL := EL.trans hxs21; replace E := E.next hxs21 (by omega); refine w_nil ?_; refine x_next ?_; refine c_region ?_; refine w_pure (y_move rfl) rfl ?_; refine w_pure (y_quo rfl rfl) rfl ?_; refine w_pure (y_assign rfl) rfl ?_; refine w_nil ?_; refine x_block_norm ?_; refine x_next ?_; refine c_region ?_; refine w_pure (y_move rfl) rfl ?_; refine w_pure (y_sub rfl rfl) rfl ?_; refine w_pure (y_assign rfl) rfl ?_; refine w_nil ?_; rotate_left
    refine x_again (x / 10, j - 1, [bitI (x % 10)] ++ R) (by repeat (first | exact trivial | refine ⟨rfl, ?_⟩)) ⟨EL.go, ?_, by dsimp only; omega, by dsimp only; omega, by dsimp only; omega, by dsimp only; omega, ?_, ?_⟩ (by dsimp only; omega)
    · dsimp only
      rw [show (j - 1 + 1).toNat = j.toNat by omega, ← rep_set, ← ej]
      assumption
    · dsimp only
      rw [← hp, ej, pun, show (j - 1 + 1).toNat = j.toNat by omega, List.append_assoc]
    · dsimp only
      rw [← hs, ej, sft, show (j - 1 + 1).toNat = j.toNat by omega]
  · focus have hl_g1 := g1.lt; have hz_hxL := hxL.size; replace E := E.next hxL (by omega); refine c_seq ?_; refine c_seq ?_; refine c_region ?_; refine w_pure (y_move rfl) rfl ?_; refine w_pure (y_ge rfl rfl) rfl ?_; refine w_nil ?_; refine x_next ?_; (refine c_dec rfl (fun hc19 => ?_) (fun hc19 => ?_) <;> try (first | exact absurd rfl hc19 | contradiction | exact Bool.noConfusion (show false = true from hc19.symm.trans (by assumption)) | exact Bool.noConfusion (show true = false from hc19.symm.trans (by assumption)) | (exfalso; omega) | (exfalso; simp only [*, Bool.not_true, Bool.not_false, reduceCtorEq] at hc19; done))); refine c_exit ?_; refine x_then_exit ?_; refine x_then_exit ?_; refine x_block_hit ?_; refine x_next ?_; refine c_seq ?_; refine c_seq ?_; refine c_region ?_; refine w_pure (y_move rfl) rfl ?_; refine w_pure (y_lt rfl rfl) rfl ?_; refine w_nil ?_; refine x_next ?_; (refine c_dec rfl (fun hc31 => ?_) (fun hc31 => ?_) <;> try (first | exact absurd rfl hc31 | contradiction | exact Bool.noConfusion (show false = true from hc31.symm.trans (by assumption)) | exact Bool.noConfusion (show true = false from hc31.symm.trans (by assumption)) | (exfalso; omega) | (exfalso; simp only [*, Bool.not_true, Bool.not_false, reduceCtorEq] at hc31; done))); refine c_skip ?_; refine x_next ?_; refine c_seq ?_; refine c_region ?_; refine w_pure (y_move rfl) rfl ?_; refine w_pure (y_move rfl) rfl ?_; refine w_pure (y_eq rfl rfl) rfl ?_; refine w_pure (y_assign rfl) rfl ?_; refine w_pure (y_assign rfl) rfl ?_; refine w_nil ?_; refine x_next ?_; refine c_ret ?_; rotate_left
    rw [show (j + 1).toNat = 0 by omega] at g1 hp hs
    refine x_retv [_, _] rfl ⟨rfl, rfl, trivial⟩ ⟨_, by rw [← hs]; rfl, ?_, E.go⟩
    rw [← hp]; exact g1
theorem l03Put_n (n k : Int) (hn : -1000000000000 ≤ n ∧ n < 0 := by omega) (hk : 1 ≤ k ∧ k ≤ 1000 := by omega) : Ret Tryz.prog 103 [.int .i64 n, .int .i64 k] w fun u w' => ∃ d, u = .tuple #[d, .bool (decide (sft (-n) k.toNat = 0))] ∧ Own w' 2 w.heap.size d (punN n k) ∧ Ext w w' := by
  have E : Since 0 0 w w := Since.refl 0 0 w
  refine ret_enter Tryz.func103 rfl Tryz.ntmps103 rfl ?_
  focus refine c_seq ?_; refine c_region ?_; refine w_pure (y_assign rfl) rfl ?_; refine w_pure (y_assign rfl) rfl ?_; refine w_nil ?_; refine x_next ?_; refine c_seq ?_; refine c_region ?_; refine w_pure (y_move rfl) rfl ?_; refine w_make (α := Int) rfl rfl (k := fun v10 w10 ho10 hx10 hl10 hh10 hs10 => ?_); have hl_ho10 := ho10.lt; have hz_hx10 := hx10.size; replace E := E.trans hx10; refine w_pure (y_assign rfl) rfl ?_; refine w_nil ?_; refine x_next ?_; refine c_seq ?_; refine c_region ?_; refine w_pure (y_move rfl) rfl ?_; refine w_pure (y_assign rfl) rfl ?_; refine w_nil ?_; refine x_next ?_; refine c_seq ?_; refine c_seq ?_; refine c_region ?_; refine w_pure (y_move rfl) rfl ?_; refine w_pure (y_lt rfl rfl) rfl ?_; refine w_nil ?_; refine x_next ?_; (refine c_dec rfl (fun hc13 => ?_) (fun hc13 => ?_) <;> try (first | exact absurd rfl hc13 | contradiction | exact Bool.noConfusion (show false = true from hc13.symm.trans (by assumption)) | exact Bool.noConfusion (show true = false from hc13.symm.trans (by assumption)) | (exfalso; omega) | (exfalso; simp only [*, Bool.not_true, Bool.not_false, reduceCtorEq] at hc13; done))); refine c_region ?_; refine w_pure (y_move rfl) rfl ?_; refine w_pure (y_neg rfl) rfl ?_; refine w_pure (y_assign rfl) rfl ?_; refine w_nil ?_; refine x_next ?_; refine c_seq ?_; refine c_seq ?_; refine c_region ?_; refine w_pure (y_move rfl) rfl ?_; refine w_pure (y_sub rfl rfl) rfl ?_; refine w_pure (y_assign rfl) rfl ?_; refine w_nil ?_; refine x_next ?_; refine c_block ?_; rotate_left
  refine c_loopC (bL v10) (bH v10) (ι := Int × Int × List Int) (fun x => [(0, .int .i64 n), (1, .int .i64 k), (6, v10), (7, .int .i64 x.1), (8, .int .i64 x.2.1)])
    (fun x w' => Own w' 2 w.heap.size v10 (List.replicate (x.2.1 + 1).toNat 0 ++ x.2.2) ∧ -1 ≤ x.2.1 ∧ x.2.1 ≤ k - 1 ∧ 0 ≤ x.1 ∧ x.1 ≤ -n ∧ pun x.1 (x.2.1 + 1).toNat ++ x.2.2 = pun (-n) k.toNat ∧ sft x.1 (x.2.1 + 1).toNat = sft (-n) k.toNat) (fun x => (x.2.1 + 1).toNat) (-n, k - 1, [])
    (by repeat (first | exact trivial | refine ⟨rfl, ?_⟩)) ⟨by dsimp only; rw [List.append_nil, show k - 1 + 1 = k by omega]; exact Own.base (by assumption) (by omega), by dsimp only; omega, by dsimp only; omega, by dsimp only; omega, by dsimp only; omega, by dsimp only; rw [List.append_nil, show k - 1 + 1 = k by omega], by dsimp only; rw [show k - 1 + 1 = k by omega]⟩ ?_
  clear ho10
  rintro ⟨x, j, R⟩ wL hxL EL ⟨g1, hj0, hj1, hx0, hx1, hp, hs⟩
  dsimp only at *
  by_cases hj : 0 ≤ j
  · have ej : (j + 1).toNat = j.toNat + 1 := by omega
    have hrl : (List.replicate (j + 1).toNat (0 : Int) ++ R).length = j.toNat + 1 + R.length := by rw [List.length_append, List.length_replicate, ej]
    focus have hl_g1 := g1.lt; have hz_hxL := hxL.size; replace E := E.next hxL (by omega); refine c_seq ?_; refine c_seq ?_; refine c_region ?_; refine w_pure (y_move rfl) rfl ?_; refine w_pure (y_ge rfl rfl) rfl ?_; refine w_nil ?_; refine x_next ?_; (refine c_dec rfl (fun hc19 => ?_) (fun hc19 => ?_) <;> try (first | exact absurd rfl hc19 | contradiction | exact Bool.noConfusion (show false = true from hc19.symm.trans (by assumption)) | exact Bool.noConfusion (show true = false from hc19.symm.trans (by assumption)) | (exfalso; omega) | (exfalso; simp only [*, Bool.not_true, Bool.not_false, reduceCtorEq] at hc19; done))); refine c_skip ?_; refine x_next ?_; refine c_seq ?_; refine c_block ?_; refine c_seq ?_; refine c_region ?_; refine w_pure (y_move rfl) rfl ?_; refine w_pure (y_move rfl) rfl ?_; refine w_pure (y_move rfl) rfl ?_; refine w_pure (y_rem rfl rfl) rfl ?_; refine w_pur rfl rfl rfl (l02Bit_c _) rfl ?_; refine w_pure (y_index rfl rfl) rfl ?_; refine w_store_own rfl rfl (next := fun ws21 hos21 hxs21 hss21 => ?_); (replace g1 := hos21; clear hos21); have hz_hxs21 := hxs21.size; replace EL := EL.trans hxs21; replace E := E.next hxs21 (by omega); refine w_nil ?_; refine x_next ?_; refine c_region ?_; refine w_pure (y_move rfl) rfl ?_; refine w_pure (y_quo rfl rfl) rfl ?_; refine w_pure (y_assign rfl) rfl ?_; refine w_nil ?_; refine x_block_norm ?_; refine x_next ?_; refine c_region ?_; refine w_pure (y_move rfl) rfl ?_; refine w_pure (y_sub rfl rfl) rfl ?_; refine w_pure (y_assign rfl) rfl ?_; refine w_nil ?_; rotate_left
    refine x_again (x / 10, j - 1, [bitI (x % 10)] ++ R) (by repeat (first | exact trivial | refine ⟨rfl, ?_⟩)) ⟨EL.go, ?_, by dsimp only; omega, by dsimp only; omega, by dsimp only; omega, by dsimp only; omega, ?_, ?_⟩ (by dsimp only; omega)
    · dsimp only
      rw [show (j - 1 + 1).toNat = j.toNat by omega, ← rep_set, ← ej]
      assumption
    · dsimp only
      rw [← hp, ej, pun, show (j - 1 + 1).toNat = j.toNat by omega, List.append_assoc]
    · dsimp only
      rw [← hs, ej, sft, show (j - 1 + 1).toNat = j.toNat by omega]
  · rw [show (j + 1).toNat = 0 by omega] at g1 hp hs
    rw [show pun x 0 ++ R = R from rfl] at hp
    rw [show List.replicate 0 (0 : Int) ++ R = R from rfl, hp] at g1
    have hpl := pun_len k.toNat (-n)
    have hbd : 0 ≤ (pun (-n) k.toNat).getD (k - 1).toNat 0 ∧ (pun (-n) k.toNat).getD (k - 1).toNat 0 ≤ 4095 := by
      rw [List.getD_eq_getElem?_getD, List.getElem?_eq_getElem (by omega)]
      exact pun_rg _ _ _ (List.getElem_mem _)
    focus have hl_g1 := g1.lt; have hz_hxL := hxL.size; replace E := E.next hxL (by omega); refine c_seq ?_; refine c_seq ?_; refine c_region ?_; refine w_pure (y_move rfl) rfl ?_; refine w_pure (y_ge rfl rfl) rfl ?_; refine w_nil ?_; refine x_next ?_; (refine c_dec rfl (fun hc19 => ?_) (fun hc19 => ?_) <;> try (first | exact absurd rfl hc19 | contradiction | exact Bool.noConfusion (show false = true from hc19.symm.trans (by assumption)) | exact Bool.noConfusion (show true = false from hc19.symm.trans (by assumption)) | (exfalso; omega) | (exfalso; simp only [*, Bool.not_true, Bool.not_false, reduceCtorEq] at hc19; done))); refine c_exit ?_; refine x_then_exit ?_; refine x_then_exit ?_; refine x_block_hit ?_; refine x_next ?_; refine c_seq ?_; refine c_seq ?_; refine c_region ?_; refine w_pure (y_move rfl) rfl ?_; refine w_pure (y_lt rfl rfl) rfl ?_; refine w_nil ?_; refine x_next ?_; (refine c_dec rfl (fun hc31 => ?_) (fun hc31 => ?_) <;> try (first | exact absurd rfl hc31 | contradiction | exact Bool.noConfusion (show false = true from hc31.symm.trans (by assumption)) | exact Bool.noConfusion (show true = false from hc31.symm.trans (by assumption)) | (exfalso; omega) | (exfalso; simp only [*, Bool.not_true, Bool.not_false, reduceCtorEq] at hc31; done))); refine c_region ?_; refine w_pure (y_move rfl) rfl ?_; refine w_pure (y_move rfl) rfl ?_; refine w_pure (y_sub rfl rfl) rfl ?_; refine w_pure (y_index rfl rfl) rfl ?_; refine w_pure (y_load_int rfl) rfl ?_; refine w_pure (y_or rfl rfl) rfl ?_; refine w_pure (y_index rfl rfl) rfl ?_; refine w_store_own rfl rfl (next := fun ws30 hos30 hxs30 hss30 => ?_); (replace g1 := hos30; clear hos30); have hz_hxs30 := hxs30.size; replace EL := EL.trans hxs30; replace E := E.next hxs30 (by omega); refine w_nil ?_; refine x_next ?_; refine c_seq ?_; refine c_region ?_; refine w_pure (y_move rfl) rfl ?_; refine w_pure (y_move rfl) rfl ?_; refine w_pure (y_eq rfl rfl) rfl ?_; refine w_pure (y_assign rfl) rfl ?_; refine w_pure (y_assign rfl) rfl ?_; refine w_nil ?_; refine x_next ?_; refine c_ret ?_; rotate_left
    exact x_retv [_, _] rfl ⟨rfl, rfl, trivial⟩ ⟨_, by rw [← hs]; rfl, g1, E.go⟩
end
end Go.Proofs.YticnemjjjceiaaaGreatDoor
/- GngP -/
namespace Go.Proofs.YticnemjjjceiaaaGreatDoor
open Go Go.Gw
set_option linter.unusedVariables false
set_option linter.unusedSimpArgs false
theorem orI_assoc (a b c : Int) : orI a (orI b c) = orI (orI a b) c := by
  unfold orI
  rw [Int.toNat_natCast, Int.toNat_natCast, Nat.or_assoc]
theorem orI_self {a : Int} (h : 0 ≤ a) : orI a a = a := by
  unfold orI; rw [Nat.or_self]; omega
theorem orI_zero {a : Int} (h : 0 ≤ a) : orI 0 a = a := by
  unfold orI
  rw [show (0 : Int).toNat = 0 from rfl, Nat.zero_or]; omega
/-- what gang punching makes of a card holds the card's own holes -/
theorem over_copy {ms ys : List Int} {ps : List (Int × Int)} (hy : ∀ i, 0 ≤ ys.getD i 0) : ∀ n k, orI (ys.getD k 0) ((copyF ms ps ys n).getD k 0) = (copyF ms ps ys n).getD k 0
  | 0, k => orI_self (hy k)
  | n + 1, k => by
    have ih := over_copy (ms := ms) (ps := ps) hy n k
    rw [copyF]
    generalize hc : copyF ms ps ys n = c at *
    rw [List.getD_eq_getElem?_getD (l := c.set _ _), List.getElem?_set]
    split
    · rename_i e
      subst e
      split
      · show orI _ (orI _ _) = orI _ _
        rw [orI_assoc, ih]
      · rename_i hl
        have hcl := copyF_len ms ps ys n
        rw [hc] at hcl
        rw [List.getD_eq_getElem?_getD (l := ys), List.getElem?_eq_none (by omega)]
        exact orI_zero (a := 0) (by decide)
    · rw [← List.getD_eq_getElem?_getD]; exact ih
theorem getD_nn {ys : List Int} (h : ∀ i, i < ys.length → 0 ≤ ys.getD i 0 ∧ ys.getD i 0 ≤ 4095) (i : Nat) : 0 ≤ ys.getD i 0 := by
  by_cases hi : i < ys.length
  · exact (h i hi).1
  · rw [List.getD_eq_getElem?_getD, List.getElem?_eq_none (by omega)]; simp
theorem cpy_rise {ps : List (Int × Int)} (h : plainB ps = true) {i j : Nat} (hij : i < j) (hj : j < ps.length) : (ps.getD i (0, 0)).2 < (ps.getD j (0, 0)).2 := by
  have key : ∀ d : Nat, i + d + 1 < ps.length → (ps.getD i (0, 0)).2 < (ps.getD (i + d + 1) (0, 0)).2 := by
    intro d
    induction d with
    | zero => intro hi; have := (plainB_at h (i + 1) hi).2.2.2.2 (by omega); simpa using this
    | succ d ih =>
      intro hi
      have h1 := ih (by omega)
      have h2 := (plainB_at h (i + d + 1 + 1) (by omega)).2.2.2.2 (by omega)
      simp only [Nat.add_sub_cancel] at h2
      rw [show i + (d + 1) + 1 = i + d + 1 + 1 by omega]; omega
  have := key (j - i - 1) (by omega)
  rwa [show i + (j - i - 1) + 1 = j by omega] at this
/-- on a blank card each target has its source's holes -/
theorem copy_meets {xs : List Int} {ps : List (Int × Int)} {T : Nat} (hx : ∀ i, 0 ≤ xs.getD i 0) (h : plainB ps = true) (hT : ∀ i, i < ps.length → (ps.getD i (0, 0)).2.toNat < T) : ∀ n, n ≤ ps.length →
    (∀ i, i < n → (copyF xs ps (List.replicate T 0) n).getD (ps.getD i (0, 0)).2.toNat 0 = xs.getD (ps.getD i (0, 0)).1.toNat 0) ∧ (∀ k, (∀ i, i < n → (ps.getD i (0, 0)).2.toNat ≠ k) → (copyF xs ps (List.replicate T 0) n).getD k 0 = 0)
  | 0, _ => ⟨fun i hi => absurd hi (by omega), fun k _ => by
    rw [copyF, List.getD_eq_getElem?_getD, List.getElem?_replicate]; split <;> rfl⟩
  | n + 1, hn => by
    have ih := copy_meets hx h hT n (by omega)
    have hl := copyF_len xs ps (List.replicate T 0) n
    rw [List.length_replicate] at hl
    have hz := ih.2 (ps.getD n (0, 0)).2.toNat fun i hi e => by
      have h1 := cpy_rise h hi (show n < ps.length by omega)
      have h2 := (plainB_at h i (by omega)).2.2.1
      omega
    rw [copyF]
    generalize copyF xs ps (List.replicate T 0) n = c at *
    rw [hz, orI_zero (hx _)]
    refine ⟨fun i hi => ?_, fun k hk => ?_⟩
    · rw [List.getD_eq_getElem?_getD (l := c.set _ _), List.getElem?_set]
      by_cases e : i = n
      · subst e
        rw [if_pos rfl, if_pos (by rw [hl]; exact hT i (by omega))]; rfl
      · have h1 := cpy_rise h (show i < n by omega) (show n < ps.length by omega)
        have h2 := (plainB_at h i (by omega)).2.2.1
        rw [if_neg (by omega), ← List.getD_eq_getElem?_getD]
        exact ih.1 i (by omega)
    · rw [List.getD_eq_getElem?_getD (l := c.set _ _), List.getElem?_set, if_neg (hk n (by omega)), ← List.getD_eq_getElem?_getD]
      exact ih.2 k fun i hi => hk i (by omega)
/-- digits, the highest first -/
def dsg (x : Int) : Nat → List Int
  | 0 => []
  | k + 1 => dsg (x / 10) k ++ [x % 10]
theorem pun_dsg : ∀ (k : Nat) (x : Int), pun x k = (dsg x k).map bitI
  | 0, _ => rfl
  | k + 1, x => by rw [pun, dsg, List.map_append, pun_dsg k]; rfl
theorem dsg_bd : ∀ (k : Nat) (x : Int), ∀ d ∈ dsg x k, 0 ≤ d ∧ d ≤ 9
  | 0, _, d, h => by simp [dsg] at h
  | k + 1, x, d, h => by
    rw [dsg, List.mem_append, List.mem_singleton] at h
    rcases h with h | rfl
    · exact dsg_bd k _ d h
    · omega
theorem dsg_val : ∀ (k : Nat) (x n : Int), 0 ≤ x → x < 10 ^ k → (dsg x k).foldl (fun a d => 10 * a + d) n = n * 10 ^ k + x
  | 0, x, n, h0, h1 => by simp at h1; simp [dsg]; omega
  | k + 1, x, n, h0, h1 => by
    rw [dsg, List.foldl_append, dsg_val k (x / 10) n (by omega) (by rw [Int.pow_succ] at h1; omega)]
    show 10 * (n * 10 ^ k + x / 10) + x % 10 = _
    rw [Int.pow_succ, ← Int.mul_assoc]
    omega
theorem bit_fin : ∀ k : Fin 10, andI (bitI ((k.val : Nat) : Int)) 2 = 0 ∧ digFrom (bitI ((k.val : Nat) : Int)) 0 = ((k.val : Nat) : Int) ∧ ¬ bitI ((k.val : Nat) : Int) = 0 := by decide +kernel
theorem bit_law {d : Int} (h : 0 ≤ d ∧ d ≤ 9) : andI (bitI d) 2 = 0 ∧ digFrom (bitI d) 0 = d ∧ ¬ bitI d = 0 := by
  have := bit_fin ⟨d.toNat, by omega⟩
  have e : ((d.toNat : Nat) : Int) = d := by omega
  rwa [e] at this
theorem numS_bits : ∀ (ds : List Int) (n : Int) (b : Bool), (∀ d ∈ ds, 0 ≤ d ∧ d ≤ 9) → ds ≠ [] → numS (ds.map bitI) n b = (ds.foldl (fun a d => 10 * a + d) n, true)
  | [], _, _, _, h => absurd rfl h
  | [d], n, b, h, _ => by
    have h1 := bit_law (h d (by simp))
    have h2 := h d (by simp)
    show numE (bitI d) n b = _
    rw [numE, if_pos h1.1, if_neg (fun q => h1.2.2 q.1), h1.2.1, if_neg (by omega)]; rfl
  | d :: e :: r, n, b, h, _ => by
    have h1 := bit_law (h d (by simp))
    have h2 := h d (by simp)
    have ih := numS_bits (e :: r) (10 * n + d) true (fun x hx => h x (by simp [List.mem_cons.1 hx])) (by simp)
    show numS (bitI d :: bitI e :: r.map bitI) n b = _
    rw [numS, if_neg (fun q => h1.2.2 q.1), h1.2.1, if_neg (by omega)]
    exact ih
/-- a number that was punched is read back -/
theorem num_pun {x : Int} {k : Nat} (h0 : 0 ≤ x) (h1 : x < 10 ^ k) (hk : 1 ≤ k) : numL (pun x k) = (x, true) := by
  unfold numL
  rw [pun_dsg, numS_bits _ _ _ (dsg_bd k x) (fun e => by
    have := congrArg List.length (pun_dsg k x)
    rw [e, pun_len] at this; simp at this; omega), dsg_val k x 0 h0 h1]
  simp
end Go.Proofs.YticnemjjjceiaaaGreatDoor
/- GngA -/
namespace Go.Proofs.YticnemjjjceiaaaGreatDoor
open Go Go.Gw
set_option linter.unusedVariables false
set_option linter.unusedSimpArgs false
/-- two cards differ in the n-th copy -/
def difAt (xs ys : List Int) (ps : List (Int × Int)) (n : Nat) : Prop := ¬ xs.getD (ps.getD n (0, 0)).1.toNat 0 = ys.getD (ps.getD n (0, 0)).2.toNat 0
instance (xs ys : List Int) (ps : List (Int × Int)) (n : Nat) : Decidable (difAt xs ys ps n) := by unfold difAt; infer_instance
def difN (xs ys : List Int) (ps : List (Int × Int)) : Nat → List Int
  | 0 => []
  | n + 1 => difN xs ys ps n ++ (if difAt xs ys ps n then [(n : Int)] else [])
theorem difN_len (xs ys : List Int) (ps : List (Int × Int)) : ∀ n, (difN xs ys ps n).length ≤ n
  | 0 => Nat.le_refl _
  | n + 1 => by
    have := difN_len xs ys ps n
    rw [difN]; split <;> simp <;> omega
theorem difN_none {xs ys : List Int} {ps : List (Int × Int)} : ∀ n, (∀ i, i < n → ¬ difAt xs ys ps i) → difN xs ys ps n = []
  | 0, _ => rfl
  | n + 1, h => by rw [difN, difN_none n (fun i hi => h i (by omega)), if_neg (h n (by omega))]; rfl
theorem difN_yes {xs ys : List Int} {ps : List (Int × Int)} {i : Int} (h0 : 0 ≤ i) (h : ¬ xs.getD (ps.getD i.toNat (0, 0)).1.toNat 0 = ys.getD (ps.getD i.toNat (0, 0)).2.toNat 0) : difN xs ys ps (i + 1).toNat = difN xs ys ps i.toNat ++ [i] := by
  rw [show (i + 1).toNat = i.toNat + 1 by omega, difN, if_pos (show difAt xs ys ps i.toNat from h), show ((i.toNat : Nat) : Int) = i by omega]
theorem difN_no {xs ys : List Int} {ps : List (Int × Int)} {i : Int} (h0 : 0 ≤ i) (h : xs.getD (ps.getD i.toNat (0, 0)).1.toNat 0 = ys.getD (ps.getD i.toNat (0, 0)).2.toNat 0) : difN xs ys ps (i + 1).toNat = difN xs ys ps i.toNat := by
  rw [show (i + 1).toNat = i.toNat + 1 by omega, difN, if_neg (show ¬ difAt xs ys ps i.toNat from fun q => q h), List.append_nil]
section
variable {w : World} {lo hi lo' hi' l2 h2 b b' o o' : Nat} {v v' v2 : Value} {xs ys : List Int} {ps : List (Int × Int)} {f t : Int}
theorem compared_c (h : SL w lo hi v xs := by repeat (first | assumption | exact Go.Gw.Own.sl (by assumption) | exact Go.Gw.Box.at (by assumption) | exact Go.Gw.SLL.el (by first | assumption | exact Go.Gw.OwnD.sll (by assumption)) _ (by omega) | exact Go.Gw.SLL.at (by first | assumption | exact Go.Gw.OwnD.sll (by assumption)) (by omega) | exact Go.Gw.OwnD.sll (by assumption) | (apply Go.Gw.SL.chg; case hx => assumption) | (apply Go.Gw.Own.chg; case hx => assumption) | (apply Go.Gw.Box.chg; case hx => assumption) | (apply Go.Gw.At.chg; case hx => assumption) | exact .inl (Nat.zero_le _) | exact .inr (Nat.zero_le _) | (show _ ∨ _; omega))) (h' : SL w lo' hi' v' ys := by repeat (first | assumption | exact Go.Gw.Own.sl (by assumption) | exact Go.Gw.Box.at (by assumption) | exact Go.Gw.SLL.el (by first | assumption | exact Go.Gw.OwnD.sll (by assumption)) _ (by omega) | exact Go.Gw.SLL.at (by first | assumption | exact Go.Gw.OwnD.sll (by assumption)) (by omega) | exact Go.Gw.OwnD.sll (by assumption) | (apply Go.Gw.SL.chg; case hx => assumption) | (apply Go.Gw.Own.chg; case hx => assumption) | (apply Go.Gw.Box.chg; case hx => assumption) | (apply Go.Gw.At.chg; case hx => assumption) | exact .inl (Nat.zero_le _) | exact .inr (Nat.zero_le _) | (show _ ∨ _; omega))) (hl : SL w l2 h2 v2 ps := by repeat (first | assumption | exact Go.Gw.Own.sl (by assumption) | exact Go.Gw.Box.at (by assumption) | exact Go.Gw.SLL.el (by first | assumption | exact Go.Gw.OwnD.sll (by assumption)) _ (by omega) | exact Go.Gw.SLL.at (by first | assumption | exact Go.Gw.OwnD.sll (by assumption)) (by omega) | exact Go.Gw.OwnD.sll (by assumption) | (apply Go.Gw.SL.chg; case hx => assumption) | (apply Go.Gw.Own.chg; case hx => assumption) | (apply Go.Gw.Box.chg; case hx => assumption) | (apply Go.Gw.At.chg; case hx => assumption) | exact .inl (Nat.zero_le _) | exact .inr (Nat.zero_le _) | (show _ ∨ _; omega))) (hc : okCp ps f t = true := by assumption) (hf : f = xs.length := by first | assumption | omega) (ht : t = ys.length := by first | assumption | omega) : Ret Tryz.prog 62 [.agg #[v], .agg #[v'], v2] w fun u w' => Own w' 2 w.heap.size u (difN xs ys ps ps.length) ∧ Ext w w' := by
  have hb := okCp_bd hc
  have E : Since 0 0 w w := Since.refl 0 0 w
  refine ret_enter Tryz.func62 rfl Tryz.ntmps62 rfl ?_
  focus have ht_h := h.top; have ht_h' := h'.top; have ht_hl := hl.top; refine c_seq ?_; refine c_region ?_; refine w_box rfl (k := fun b3 w3 hb3 hx3 hl3 hs3 => ?_); have hz_hx3 := hx3.size; replace h := h.ext hx3; replace h' := h'.ext hx3; replace hl := hl.ext hx3; replace E := E.trans hx3; refine w_box rfl (k := fun b4 w4 hb4 hx4 hl4 hs4 => ?_); have hz_hx4 := hx4.size; replace hb3 := hb3.ext hx4; replace h := h.ext hx4; replace h' := h'.ext hx4; replace hl := hl.ext hx4; replace E := E.trans hx4; refine w_pure (y_assign rfl) rfl ?_; refine w_nil ?_; refine x_next ?_; refine c_seq ?_; refine c_region ?_; refine w_lit (α := Int) rfl rfl rfl rfl rfl rfl rfl rfl (fun v10 w10 ho10 hx10 hl10 hh10 hs10 => ?_); have hl_ho10 := ho10.lt; have hz_hx10 := hx10.size; replace hb4 := hb4.ext hx10; replace hb3 := hb3.ext hx10; replace h := h.ext hx10; replace h' := h'.ext hx10; replace hl := hl.ext hx10; replace E := E.trans hx10; refine w_pure (y_assign rfl) rfl ?_; refine w_nil ?_; refine x_next ?_; refine c_seq ?_; refine c_seq ?_; refine c_region ?_; refine w_pure (y_move rfl) rfl ?_; refine w_pure (y_len rfl) rfl ?_; refine w_pure (y_move rfl) rfl ?_; refine w_nil ?_; refine x_next ?_; refine c_block ?_; rotate_left
  refine c_loopC (bL v10) (bH v10) (ι := Int × Value) (fun x => [(3, ptr b3 0), (4, ptr b4 0), (7, x.2), (11, v2), (12, .int .i64 ps.length), (13, .int .i64 x.1)])
    (fun x w' => Own w' 2 w.heap.size x.2 (difN xs ys ps x.1.toNat) ∧ ((bL x.2 = bL v10 ∧ bH x.2 = bH v10) ∨ w10.heap.size ≤ bL x.2) ∧ (0 ≤ x.1 ∧ x.1 ≤ ps.length) ∧ Since 0 0 w w') (fun x => (ps.length - x.1).toNat) (0, v10)
    (by repeat (first | exact trivial | refine ⟨rfl, ?_⟩)) ⟨Own.base (by assumption) (by omega), .inl ⟨rfl, rfl⟩, by dsimp only; omega, by assumption⟩ ?_
  clear ho10 E
  rintro ⟨i, u⟩ wL hxL EL ⟨g1, g2, g3, E⟩
  dsimp only at *
  have hzL := hxL.size
  have hdl := difN_len xs ys ps i.toNat
  by_cases hlt : i < ps.length
  · have hat := okCp_at hc i.toNat (by omega)
    focus have hl_g1 := g1.lt; have hz_hxL := hxL.size; replace hb4 := hb4.chg hxL (by omega); replace hb3 := hb3.chg hxL (by omega); replace h := h.chg hxL (by omega); replace h' := h'.chg hxL (by omega); replace hl := hl.chg hxL (by omega); refine c_seq ?_; refine c_region ?_; refine w_pure (y_lt rfl rfl) rfl ?_; refine w_nil ?_; refine x_next ?_; refine c_seq ?_; (refine c_dec rfl (fun hc14 => ?_) (fun hc14 => ?_) <;> try (first | exact absurd rfl hc14 | contradiction | exact Bool.noConfusion (show false = true from hc14.symm.trans (by assumption)) | exact Bool.noConfusion (show true = false from hc14.symm.trans (by assumption)) | (exfalso; omega) | (exfalso; simp only [*, Bool.not_true, Bool.not_false, reduceCtorEq] at hc14; done))); refine c_skip ?_; refine x_next ?_; refine c_seq ?_; refine c_block ?_; refine c_seq ?_; refine c_region ?_; refine w_pure (y_move rfl) rfl ?_; refine w_pure (y_index rfl rfl) rfl ?_; refine w_pure (y_load_pair rfl) rfl ?_; refine w_alloc (k := fun b9 w9 hb9 hx9 hl9 hs9 => ?_); have hz_hx9 := hx9.size; replace EL := EL.next hx9 (by omega); replace g1 := g1.ext hx9; replace E := E.trans hx9; replace hb4 := hb4.ext hx9; replace hb3 := hb3.ext hx9; replace h := h.ext hx9; replace h' := h'.ext hx9; replace hl := hl.ext hx9; refine w_pure (y_assign rfl) rfl ?_; refine w_store_boxs rfl rfl (next := fun ws19 hbs19 hxs19 hss19 => ?_); (replace hb9 := hbs19; clear hbs19); have hz_hxs19 := hxs19.size; replace EL := EL.next hxs19 (by omega); replace g1 := g1.chg hxs19 (by omega); replace E := E.next hxs19 (by omega); replace hb4 := hb4.chg hxs19 (by omega); replace hb3 := hb3.chg hxs19 (by omega); replace h := h.chg hxs19 (by omega); replace h' := h'.chg hxs19 (by omega); replace hl := hl.chg hxs19 (by omega); refine w_nil ?_; refine x_next ?_; refine c_seq ?_; refine c_region_calm mixed (by decide +kernel) (by kernel_rfl) ?_; refine q_pure (y_field rfl) rfl ?_; refine q_pure (y_load_box rfl) rfl ?_; refine q_pure (y_field rfl) rfl ?_; refine q_pure (y_load_box rfl) rfl ?_; refine q_pure (y_index rfl rfl) rfl ?_; refine q_pure (y_load_int rfl) rfl ?_; refine q_pure (y_field rfl) rfl ?_; refine q_pure (y_load_box rfl) rfl ?_; refine q_pure (y_field rfl) rfl ?_; refine q_pure (y_load_box rfl) rfl ?_; refine q_pure (y_index rfl rfl) rfl ?_; refine q_pure (y_load_int rfl) rfl ?_; refine q_pure (y_ne rfl rfl) rfl ?_; refine q_nil (fun ws37 hxs37 hzs37 => ?_); have hz_hxs37 := hxs37.size; replace hb9 := hb9.ext hxs37; replace EL := EL.next hxs37 (by omega); replace g1 := g1.ext hxs37; replace E := E.trans hxs37; replace hb4 := hb4.ext hxs37; replace hb3 := hb3.ext hxs37; replace h := h.ext hxs37; replace h' := h'.ext hxs37; replace hl := hl.ext hxs37; refine x_next ?_; (refine c_dec rfl (fun hc30 => ?_) (fun hc30 => ?_) <;> try (first | exact absurd rfl hc30 | contradiction | exact Bool.noConfusion (show false = true from hc30.symm.trans (by assumption)) | exact Bool.noConfusion (show true = false from hc30.symm.trans (by assumption)) | (exfalso; omega) | (exfalso; simp only [*, Bool.not_true, Bool.not_false, reduceCtorEq] at hc30; done))); refine c_region ?_; refine w_pure (y_move rfl) rfl ?_; refine w_pure (y_move rfl) rfl ?_; refine w_lit (α := Int) rfl rfl rfl rfl rfl rfl rfl rfl (fun v33 w33 ho33 hx33 hl33 hh33 hs33 => ?_); have hl_ho33 := ho33.lt; have hz_hx33 := hx33.size; replace hb9 := hb9.ext hx33; replace EL := EL.next hx33 (by omega); replace g1 := g1.ext hx33; replace E := E.trans hx33; replace hb4 := hb4.ext hx33; replace hb3 := hb3.ext hx33; replace h := h.ext hx33; replace h' := h'.ext hx33; replace hl := hl.ext hx33; refine w_append rfl rfl (k := fun v34 w34 ho34 hx34 hr34 => ?_); have hl_ho34 := ho34.lt; have hz_hx34 := hx34.size; replace ho33 := ho33.chg hx34 (by omega); replace hb9 := hb9.chg hx34 (by omega); replace EL := EL.next hx34 (by omega); replace E := E.next hx34 (by omega); replace hb4 := hb4.chg hx34 (by omega); replace hb3 := hb3.chg hx34 (by omega); replace h := h.chg hx34 (by omega); replace h' := h'.chg hx34 (by omega); replace hl := hl.chg hx34 (by omega); refine w_pure (y_assign rfl) rfl ?_; refine w_nil ?_; refine x_block_norm ?_; refine x_next ?_; refine c_region ?_; refine w_pure (y_add rfl rfl) rfl ?_; refine w_pure (y_move rfl) rfl ?_; refine w_nil ?_; rotate_left; refine c_skip ?_; refine x_block_norm ?_; refine x_next ?_; refine c_region ?_; refine w_pure (y_add rfl rfl) rfl ?_; refine w_pure (y_move rfl) rfl ?_; refine w_nil ?_; rotate_left
    · have e := difN_yes g3.1 hc30
      exact x_again (i + 1, _) (by repeat (first | exact trivial | refine ⟨rfl, ?_⟩)) ⟨EL.go, by dsimp only; rw [e]; assumption, by dsimp only; omega, by dsimp only; omega, by assumption⟩ (by dsimp only; omega)
    · have e := difN_no g3.1 (Decidable.not_not.1 hc30)
      exact x_again (i + 1, u) (by repeat (first | exact trivial | refine ⟨rfl, ?_⟩)) ⟨EL.go, by dsimp only; rw [e]; assumption, by dsimp only; omega, by dsimp only; omega, by assumption⟩ (by dsimp only; omega)
  · focus have hl_g1 := g1.lt; have hz_hxL := hxL.size; replace hb4 := hb4.chg hxL (by omega); replace hb3 := hb3.chg hxL (by omega); replace h := h.chg hxL (by omega); replace h' := h'.chg hxL (by omega); replace hl := hl.chg hxL (by omega); refine c_seq ?_; refine c_region ?_; refine w_pure (y_lt rfl rfl) rfl ?_; refine w_nil ?_; refine x_next ?_; refine c_seq ?_; (refine c_dec rfl (fun hc14 => ?_) (fun hc14 => ?_) <;> try (first | exact absurd rfl hc14 | contradiction | exact Bool.noConfusion (show false = true from hc14.symm.trans (by assumption)) | exact Bool.noConfusion (show true = false from hc14.symm.trans (by assumption)) | (exfalso; omega) | (exfalso; simp only [*, Bool.not_true, Bool.not_false, reduceCtorEq] at hc14; done))); refine c_exit ?_; refine x_then_exit ?_; refine x_then_exit ?_; refine x_block_hit ?_; refine x_next ?_; refine c_seq ?_; refine c_region ?_; refine w_pure (y_move rfl) rfl ?_; refine w_pure (y_assign rfl) rfl ?_; refine w_nil ?_; refine x_next ?_; refine c_ret ?_; rotate_left
    rw [show i.toNat = ps.length by omega] at g1
    exact x_retv [_] rfl ⟨rfl, trivial⟩ ⟨by assumption, E.go⟩
theorem l10Differ_c (hp : At w b o [v] := by repeat (first | assumption | exact Go.Gw.Own.sl (by assumption) | exact Go.Gw.Box.at (by assumption) | exact Go.Gw.SLL.el (by first | assumption | exact Go.Gw.OwnD.sll (by assumption)) _ (by omega) | exact Go.Gw.SLL.at (by first | assumption | exact Go.Gw.OwnD.sll (by assumption)) (by omega) | exact Go.Gw.OwnD.sll (by assumption) | (apply Go.Gw.SL.chg; case hx => assumption) | (apply Go.Gw.Own.chg; case hx => assumption) | (apply Go.Gw.Box.chg; case hx => assumption) | (apply Go.Gw.At.chg; case hx => assumption) | exact .inl (Nat.zero_le _) | exact .inr (Nat.zero_le _) | (show _ ∨ _; omega))) (hp' : At w b' o' [v'] := by repeat (first | assumption | exact Go.Gw.Own.sl (by assumption) | exact Go.Gw.Box.at (by assumption) | exact Go.Gw.SLL.el (by first | assumption | exact Go.Gw.OwnD.sll (by assumption)) _ (by omega) | exact Go.Gw.SLL.at (by first | assumption | exact Go.Gw.OwnD.sll (by assumption)) (by omega) | exact Go.Gw.OwnD.sll (by assumption) | (apply Go.Gw.SL.chg; case hx => assumption) | (apply Go.Gw.Own.chg; case hx => assumption) | (apply Go.Gw.Box.chg; case hx => assumption) | (apply Go.Gw.At.chg; case hx => assumption) | exact .inl (Nat.zero_le _) | exact .inr (Nat.zero_le _) | (show _ ∨ _; omega))) (h : SL w lo hi v xs := by repeat (first | assumption | exact Go.Gw.Own.sl (by assumption) | exact Go.Gw.Box.at (by assumption) | exact Go.Gw.SLL.el (by first | assumption | exact Go.Gw.OwnD.sll (by assumption)) _ (by omega) | exact Go.Gw.SLL.at (by first | assumption | exact Go.Gw.OwnD.sll (by assumption)) (by omega) | exact Go.Gw.OwnD.sll (by assumption) | (apply Go.Gw.SL.chg; case hx => assumption) | (apply Go.Gw.Own.chg; case hx => assumption) | (apply Go.Gw.Box.chg; case hx => assumption) | (apply Go.Gw.At.chg; case hx => assumption) | exact .inl (Nat.zero_le _) | exact .inr (Nat.zero_le _) | (show _ ∨ _; omega))) (h' : SL w lo' hi' v' ys := by repeat (first | assumption | exact Go.Gw.Own.sl (by assumption) | exact Go.Gw.Box.at (by assumption) | exact Go.Gw.SLL.el (by first | assumption | exact Go.Gw.OwnD.sll (by assumption)) _ (by omega) | exact Go.Gw.SLL.at (by first | assumption | exact Go.Gw.OwnD.sll (by assumption)) (by omega) | exact Go.Gw.OwnD.sll (by assumption) | (apply Go.Gw.SL.chg; case hx => assumption) | (apply Go.Gw.Own.chg; case hx => assumption) | (apply Go.Gw.Box.chg; case hx => assumption) | (apply Go.Gw.At.chg; case hx => assumption) | exact .inl (Nat.zero_le _) | exact .inr (Nat.zero_le _) | (show _ ∨ _; omega))) (hl : SL w l2 h2 v2 ps := by repeat (first | assumption | exact Go.Gw.Own.sl (by assumption) | exact Go.Gw.Box.at (by assumption) | exact Go.Gw.SLL.el (by first | assumption | exact Go.Gw.OwnD.sll (by assumption)) _ (by omega) | exact Go.Gw.SLL.at (by first | assumption | exact Go.Gw.OwnD.sll (by assumption)) (by omega) | exact Go.Gw.OwnD.sll (by assumption) | (apply Go.Gw.SL.chg; case hx => assumption) | (apply Go.Gw.Own.chg; case hx => assumption) | (apply Go.Gw.Box.chg; case hx => assumption) | (apply Go.Gw.At.chg; case hx => assumption) | exact .inl (Nat.zero_le _) | exact .inr (Nat.zero_le _) | (show _ ∨ _; omega))) (hc : okCp ps f t = true := by assumption) (hf : f = xs.length := by first | assumption | omega) (ht : t = ys.length := by first | assumption | omega) : Ret Tryz.prog 64 [ptr b o, ptr b' o', v2] w fun u w' => Own w' 2 w.heap.size u (difN xs ys ps ps.length) ∧ Ext w w' := by
  have hb := okCp_bd hc
  have hbl := hp.lt
  have hbl' := hp'.lt
  have E : Since 0 0 w w := Since.refl 0 0 w
  refine ret_enter Tryz.func64 rfl Tryz.ntmps64 rfl ?_
  focus have ht_h := h.top; have ht_h' := h'.top; have ht_hl := hl.top; refine c_seq ?_; refine c_region ?_; refine w_pure (y_assign rfl) rfl ?_; refine w_nil ?_; refine x_next ?_; refine c_seq ?_; refine c_region ?_; refine w_lit (α := Int) rfl rfl rfl rfl rfl rfl rfl rfl (fun v9 w9 ho9 hx9 hl9 hh9 hs9 => ?_); have hl_ho9 := ho9.lt; have hz_hx9 := hx9.size; replace hp := hp.ext hx9; replace hp' := hp'.ext hx9; replace h := h.ext hx9; replace h' := h'.ext hx9; replace hl := hl.ext hx9; replace E := E.trans hx9; refine w_pure (y_assign rfl) rfl ?_; refine w_nil ?_; refine x_next ?_; refine c_seq ?_; refine c_seq ?_; refine c_region ?_; refine w_pure (y_assign rfl) rfl ?_; refine w_nil ?_; refine x_next ?_; refine c_block ?_; rotate_left
  refine c_loopC (bL v9) (bH v9) (ι := Int × Value) (fun x => [(0, ptr b o), (1, ptr b' o'), (2, v2), (7, x.2), (8, .int .i64 x.1)])
    (fun x w' => Own w' 2 w.heap.size x.2 (difN xs ys ps x.1.toNat) ∧ ((bL x.2 = bL v9 ∧ bH x.2 = bH v9) ∨ w9.heap.size ≤ bL x.2) ∧ (0 ≤ x.1 ∧ x.1 ≤ ps.length) ∧ Since 0 0 w w') (fun x => (ps.length - x.1).toNat) (0, v9)
    (by repeat (first | exact trivial | refine ⟨rfl, ?_⟩)) ⟨Own.base (by assumption) (by omega), .inl ⟨rfl, rfl⟩, by dsimp only; omega, by assumption⟩ ?_
  clear ho9 E
  rintro ⟨i, u⟩ wL hxL EL ⟨g1, g2, g3, E⟩
  dsimp only at *
  have hzL := hxL.size
  have hdl := difN_len xs ys ps i.toNat
  by_cases hlt : i < ps.length
  · have hat := okCp_at hc i.toNat (by omega)
    focus have hl_g1 := g1.lt; have hz_hxL := hxL.size; replace hp := hp.chg hxL (by omega); replace hp' := hp'.chg hxL (by omega); replace h := h.chg hxL (by omega); replace h' := h'.chg hxL (by omega); replace hl := hl.chg hxL (by omega); refine c_seq ?_; refine c_seq ?_; refine c_region ?_; refine w_pure (y_move rfl) rfl ?_; refine w_pure (y_move rfl) rfl ?_; refine w_pure (y_len rfl) rfl ?_; refine w_pure (y_lt rfl rfl) rfl ?_; refine w_nil ?_; refine x_next ?_; (refine c_dec rfl (fun hc13 => ?_) (fun hc13 => ?_) <;> try (first | exact absurd rfl hc13 | contradiction | exact Bool.noConfusion (show false = true from hc13.symm.trans (by assumption)) | exact Bool.noConfusion (show true = false from hc13.symm.trans (by assumption)) | (exfalso; omega) | (exfalso; simp only [*, Bool.not_true, Bool.not_false, reduceCtorEq] at hc13; done))); refine c_skip ?_; refine x_next ?_; refine c_seq ?_; refine c_block ?_; refine c_seq ?_; refine c_region_calm mixed (by decide +kernel) (by kernel_rfl) ?_; refine q_pure (y_move rfl) rfl ?_; refine q_pure (y_nil rfl) rfl ?_; refine q_pure (y_field rfl) rfl ?_; refine q_pure (y_loadk rfl) rfl ?_; refine q_pure (y_move rfl) rfl ?_; refine q_pure (y_move rfl) rfl ?_; refine q_pure (y_index rfl rfl) rfl ?_; refine q_pure (y_field rfl) rfl ?_; refine q_pure (y_load_p0 rfl) rfl ?_; refine q_pure (y_index rfl rfl) rfl ?_; refine q_pure (y_load_int rfl) rfl ?_; refine q_pure (y_move rfl) rfl ?_; refine q_pure (y_nil rfl) rfl ?_; refine q_pure (y_field rfl) rfl ?_; refine q_pure (y_loadk rfl) rfl ?_; refine q_pure (y_move rfl) rfl ?_; refine q_pure (y_move rfl) rfl ?_; refine q_pure (y_index rfl rfl) rfl ?_; refine q_pure (y_field rfl) rfl ?_; refine q_pure (y_load_p1 rfl) rfl ?_; refine q_pure (y_index rfl rfl) rfl ?_; refine q_pure (y_load_int rfl) rfl ?_; refine q_pure (y_ne rfl rfl) rfl ?_; refine q_nil (fun ws40 hxs40 hzs40 => ?_); have hz_hxs40 := hxs40.size; replace EL := EL.next hxs40 (by omega); replace g1 := g1.ext hxs40; replace E := E.trans hxs40; replace hp := hp.ext hxs40; replace hp' := hp'.ext hxs40; replace h := h.ext hxs40; replace h' := h'.ext hxs40; replace hl := hl.ext hxs40; refine x_next ?_; (refine c_dec rfl (fun hc38 => ?_) (fun hc38 => ?_) <;> try (first | exact absurd rfl hc38 | contradiction | exact Bool.noConfusion (show false = true from hc38.symm.trans (by assumption)) | exact Bool.noConfusion (show true = false from hc38.symm.trans (by assumption)) | (exfalso; omega) | (exfalso; simp only [*, Bool.not_true, Bool.not_false, reduceCtorEq] at hc38; done))); refine c_region ?_; refine w_pure (y_move rfl) rfl ?_; refine w_pure (y_move rfl) rfl ?_; refine w_lit (α := Int) rfl rfl rfl rfl rfl rfl rfl rfl (fun v41 w41 ho41 hx41 hl41 hh41 hs41 => ?_); have hl_ho41 := ho41.lt; have hz_hx41 := hx41.size; replace EL := EL.next hx41 (by omega); replace g1 := g1.ext hx41; replace E := E.trans hx41; replace hp := hp.ext hx41; replace hp' := hp'.ext hx41; replace h := h.ext hx41; replace h' := h'.ext hx41; replace hl := hl.ext hx41; refine w_append rfl rfl (k := fun v42 w42 ho42 hx42 hr42 => ?_); have hl_ho42 := ho42.lt; have hz_hx42 := hx42.size; replace ho41 := ho41.chg hx42 (by omega); replace EL := EL.next hx42 (by omega); replace E := E.next hx42 (by omega); replace hp := hp.chg hx42 (by omega); replace hp' := hp'.chg hx42 (by omega); replace h := h.chg hx42 (by omega); replace h' := h'.chg hx42 (by omega); replace hl := hl.chg hx42 (by omega); refine w_pure (y_assign rfl) rfl ?_; refine w_nil ?_; refine x_block_norm ?_; refine x_next ?_; refine c_region ?_; refine w_pure (y_move rfl) rfl ?_; refine w_pure (y_add rfl rfl) rfl ?_; refine w_pure (y_assign rfl) rfl ?_; refine w_nil ?_; rotate_left; refine c_skip ?_; refine x_block_norm ?_; refine x_next ?_; refine c_region ?_; refine w_pure (y_move rfl) rfl ?_; refine w_pure (y_add rfl rfl) rfl ?_; refine w_pure (y_assign rfl) rfl ?_; refine w_nil ?_; rotate_left
    · have e := difN_yes g3.1 hc38
      exact x_again (i + 1, _) (by repeat (first | exact trivial | refine ⟨rfl, ?_⟩)) ⟨EL.go, by dsimp only; rw [e]; assumption, by dsimp only; omega, by dsimp only; omega, by assumption⟩ (by dsimp only; omega)
    · have e := difN_no g3.1 (Decidable.not_not.1 hc38)
      exact x_again (i + 1, u) (by repeat (first | exact trivial | refine ⟨rfl, ?_⟩)) ⟨EL.go, by dsimp only; rw [e]; assumption, by dsimp only; omega, by dsimp only; omega, by assumption⟩ (by dsimp only; omega)
  · focus have hl_g1 := g1.lt; have hz_hxL := hxL.size; replace hp := hp.chg hxL (by omega); replace hp' := hp'.chg hxL (by omega); replace h := h.chg hxL (by omega); replace h' := h'.chg hxL (by omega); replace hl := hl.chg hxL (by omega); refine c_seq ?_; refine c_seq ?_; refine c_region ?_; refine w_pure (y_move rfl) rfl ?_; refine w_pure (y_move rfl) rfl ?_; refine w_pure (y_len rfl) rfl ?_; refine w_pure (y_lt rfl rfl) rfl ?_; refine w_nil ?_; refine x_next ?_; (refine c_dec rfl (fun hc13 => ?_) (fun hc13 => ?_) <;> try (first | exact absurd rfl hc13 | contradiction | exact Bool.noConfusion (show false = true from hc13.symm.trans (by assumption)) | exact Bool.noConfusion (show true = false from hc13.symm.trans (by assumption)) | (exfalso; omega) | (exfalso; simp only [*, Bool.not_true, Bool.not_false, reduceCtorEq] at hc13; done))); refine c_exit ?_; refine x_then_exit ?_; refine x_then_exit ?_; refine x_block_hit ?_; refine x_next ?_; refine c_seq ?_; refine c_region ?_; refine w_pure (y_move rfl) rfl ?_; refine w_pure (y_assign rfl) rfl ?_; refine w_nil ?_; refine x_next ?_; refine c_ret ?_; rotate_left
    rw [show i.toNat = ps.length by omega] at g1
    exact x_retv [_] rfl ⟨rfl, trivial⟩ ⟨by assumption, E.go⟩
end
end Go.Proofs.YticnemjjjceiaaaGreatDoor
/- SrcA -/
namespace Go.Proofs.YticnemjjjceiaaaGreatDoor
open Go Go.Gw
set_option linter.unusedVariables false
set_option linter.unusedSimpArgs false
/-- a source of choices in block b, at most B bytes on -/
structure Src (w : World) (lo hi b : Nat) (B : Int) : Prop where
  go : ∃ v xs a s, Box w b [v, .int .i64 a, .int .u64 s] ∧ SL (α := UInt8) w lo hi v xs ∧ (0 ≤ a ∧ a ≤ B) ∧ (0 ≤ s ∧ s < 18446744073709551616)
  out : b < lo ∨ hi ≤ b
  top : b < w.heap.size
theorem Src.chg {w w' : World} {lo hi b l k : Nat} {B : Int} (h : Src w lo hi b B) (hx : Chg l k w w') (ho : (k ≤ lo ∨ hi ≤ l) ∧ (b < l ∨ k ≤ b)) : Src w' lo hi b B := by
  obtain ⟨v, xs, a, s, h1, h2, h3, h4⟩ := h.go
  exact ⟨⟨v, xs, a, s, h1.chg hx ho.2, h2.chg hx ho.1, h3, h4⟩, h.out, Nat.lt_of_lt_of_le h.top hx.size⟩
theorem Src.ext {w w' : World} {lo hi b : Nat} {B : Int} (h : Src w lo hi b B) (hx : Ext w w') : Src w' lo hi b B := h.chg hx ⟨.inl (Nat.zero_le _), .inr (Nat.zero_le _)⟩
theorem Src.lim {w : World} {lo hi b : Nat} {B : Int} (h : Src w lo hi b B) : hi ≤ w.heap.size := by
  obtain ⟨v, xs, a, s, h1, h2, h3, h4⟩ := h.go
  exact h2.top
theorem Src.more {w : World} {lo hi b : Nat} {B C : Int} (h : Src w lo hi b B) (hc : B ≤ C) : Src w lo hi b C := by
  obtain ⟨v, xs, a, s, h1, h2, h3, h4⟩ := h.go
  exact ⟨⟨v, xs, a, s, h1, h2, ⟨h3.1, by omega⟩, h4⟩, h.out, h.top⟩
section
variable {w : World} {lo hi b : Nat} {B : Int}
theorem srcNext_c (h : Src w lo hi b B := by assumption) (hB : B ≤ 1000000000000 := by omega) : Ret Tryz.prog 109 [ptr b 0] w fun u w' => ∃ x, u = .int .i64 x ∧ (0 ≤ x ∧ x ≤ 255) ∧ Src w' lo hi b (B + 1) ∧ Chg b (b + 1) w w' := by
  obtain ⟨v, xs, a, s, h1, h2, h3, h4⟩ := h.go
  have hout := h.out
  have htop := h.top
  clear h
  have hsm := h2.small
  have hby := (xs.getD a.toNat 0).toNat_lt
  have hwr := wrap_u64 (IntKind.u64.wrap (IntKind.u64.wrap (s * 6364136223846793005) + 0) + 1442695040888963407)
  have E : Since b (b + 1) w w := Since.refl _ _ _
  refine ret_enter Tryz.func109 rfl Tryz.ntmps109 rfl ?_
  focus have ht_h2 := h2.top; refine c_seq ?_; refine c_region ?_; refine w_pure (y_assign rfl) rfl ?_; refine w_nil ?_; refine x_next ?_; refine c_seq ?_; refine c_region ?_; refine w_pure (y_assign rfl) rfl ?_; refine w_nil ?_; refine x_next ?_; refine c_seq ?_; refine c_seq ?_; refine c_region_base mixed (fun wr2 hxr2 hzr2 EBr2 => ?_); have hz_hxr2 := hxr2.size; replace h1 := h1.ext hxr2; replace h2 := h2.ext hxr2; replace E := E.next hxr2 (by omega); refine b_pure rfl (y_move rfl) rfl ?_; refine b_pure rfl (y_nil rfl) rfl ?_; refine b_pure rfl (y_field rfl) rfl ?_; refine b_pure rfl (y_load_box rfl) rfl ?_; refine b_pure rfl (y_move rfl) rfl ?_; refine b_pure rfl (y_nil rfl) rfl ?_; refine b_pure rfl (y_field rfl) rfl ?_; refine b_pure rfl (y_load_box rfl) rfl ?_; refine b_pure rfl (y_len rfl) rfl ?_; refine b_pure rfl (y_lt rfl rfl) rfl ?_; refine b_nil ?_; refine x_next ?_; (refine c_dec rfl (fun hc13 => ?_) (fun hc13 => ?_) <;> try (first | exact absurd rfl hc13 | contradiction | exact Bool.noConfusion (show false = true from hc13.symm.trans (by assumption)) | exact Bool.noConfusion (show true = false from hc13.symm.trans (by assumption)) | (exfalso; omega) | (exfalso; simp only [*, Bool.not_true, Bool.not_false, reduceCtorEq] at hc13; done))); refine c_region_base mixed (fun wr3 hxr3 hzr3 EBr3 => ?_); have hz_hxr3 := hxr3.size; replace EBr2 := EBr2.trans hxr3; replace h1 := h1.ext hxr3; replace h2 := h2.ext hxr3; replace E := E.next hxr3 (by omega); refine b_pure rfl (y_move rfl) rfl ?_; refine b_pure rfl (y_nil rfl) rfl ?_; refine b_pure rfl (y_field rfl) rfl ?_; refine b_pure rfl (y_load_box rfl) rfl ?_; refine b_pure rfl (y_move rfl) rfl ?_; refine b_pure rfl (y_nil rfl) rfl ?_; refine b_pure rfl (y_field rfl) rfl ?_; refine b_pure rfl (y_load_box rfl) rfl ?_; refine b_pure rfl (y_index rfl rfl) rfl ?_; refine b_pure rfl (y_load_u8 rfl) rfl ?_; refine b_pure rfl (y_conv64 rfl) rfl ?_; refine b_pure rfl (y_assign rfl) rfl ?_; refine b_nil ?_; refine x_next ?_; refine c_seq ?_; refine c_region ?_; refine w_pure (y_move rfl) rfl ?_; refine w_pure (y_nil rfl) rfl ?_; refine w_pure (y_field rfl) rfl ?_; refine w_pure (y_load_box rfl) rfl ?_; refine w_pure (y_add rfl rfl) rfl ?_; refine w_pure (y_nil rfl) rfl ?_; refine w_pure (y_field rfl) rfl ?_; refine w_store_box rfl rfl (next := fun ws51 hbs51 hxs51 hss51 => ?_); (replace h1 := hbs51; clear hbs51); have hz_hxs51 := hxs51.size; replace h2 := h2.chg hxs51 (by omega); replace E := E.trans hxs51; refine w_nil ?_; refine x_next ?_; refine c_seq ?_; refine c_region ?_; refine w_pure (y_move rfl) rfl ?_; refine w_pure (y_move rfl) rfl ?_; refine w_pure (y_nil rfl) rfl ?_; refine w_pure (y_field rfl) rfl ?_; refine w_pure (y_load_box rfl) rfl ?_; refine w_pure (y_mul_wrap (k := .u64) rfl rfl) rfl ?_; refine w_pure (y_move rfl) rfl ?_; refine w_pure (y_convu rfl (by omega)) rfl ?_; refine w_pure (y_add_wrap (k := .u64) rfl rfl) rfl ?_; refine w_pure (y_add_wrap (k := .u64) rfl rfl) rfl ?_; refine w_pure (y_nil rfl) rfl ?_; refine w_pure (y_field rfl) rfl ?_; refine w_store_box rfl rfl (next := fun ws68 hbs68 hxs68 hss68 => ?_); (replace h1 := hbs68; clear hbs68); have hz_hxs68 := hxs68.size; replace h2 := h2.chg hxs68 (by omega); replace E := E.trans hxs68; refine w_nil ?_; refine x_next ?_; refine c_seq ?_; refine c_seq ?_; refine c_region_base mixed (fun wr6 hxr6 hzr6 EBr6 => ?_); have hz_hxr6 := hxr6.size; replace h1 := h1.ext hxr6; replace h2 := h2.ext hxr6; replace E := E.next hxr6 (by omega); refine b_pure rfl (y_move rfl) rfl ?_; refine b_pure rfl (y_nil rfl) rfl ?_; refine b_pure rfl (y_field rfl) rfl ?_; refine b_pure rfl (y_load_box rfl) rfl ?_; refine b_pure rfl (y_move rfl) rfl ?_; refine b_pure rfl (y_nil rfl) rfl ?_; refine b_pure rfl (y_field rfl) rfl ?_; refine b_pure rfl (y_load_box rfl) rfl ?_; refine b_pure rfl (y_len rfl) rfl ?_; refine b_pure rfl (y_le rfl rfl) rfl ?_; refine b_nil ?_; refine x_next ?_; (refine c_dec rfl (fun hc53 => ?_) (fun hc53 => ?_) <;> try (first | exact absurd rfl hc53 | contradiction | exact Bool.noConfusion (show false = true from hc53.symm.trans (by assumption)) | exact Bool.noConfusion (show true = false from hc53.symm.trans (by assumption)) | (exfalso; omega) | (exfalso; simp only [*, Bool.not_true, Bool.not_false, reduceCtorEq] at hc53; done))); refine c_seq ?_; refine c_region ?_; refine w_pure (y_move rfl) rfl ?_; refine w_pure (y_assign rfl) rfl ?_; refine w_nil ?_; refine x_next ?_; refine c_ret ?_; refine x_then_ret ?_; rotate_left; refine c_skip ?_; refine x_next ?_; refine c_seq ?_; refine c_region ?_; refine w_pure (y_move rfl) rfl ?_; refine w_pure (y_nil rfl) rfl ?_; refine w_pure (y_field rfl) rfl ?_; refine w_pure (y_load_box rfl) rfl ?_; refine w_pure (y_add rfl rfl) rfl ?_; refine w_pure (y_nil rfl) rfl ?_; refine w_pure (y_field rfl) rfl ?_; refine w_store_box rfl rfl (next := fun ws107 hbs107 hxs107 hss107 => ?_); (replace h1 := hbs107; clear hbs107); have hz_hxs107 := hxs107.size; replace h2 := h2.chg hxs107 (by omega); replace E := E.trans hxs107; refine w_nil ?_; refine x_next ?_; refine c_seq ?_; refine c_region ?_; refine w_pure (y_move rfl) rfl ?_; refine w_pure (y_move rfl) rfl ?_; refine w_pure (y_nil rfl) rfl ?_; refine w_pure (y_field rfl) rfl ?_; refine w_pure (y_load_box rfl) rfl ?_; refine w_pure (y_mul_wrap (k := .u64) rfl rfl) rfl ?_; refine w_pure (y_move rfl) rfl ?_; refine w_pure (y_convu rfl (by omega)) rfl ?_; refine w_pure (y_add_wrap (k := .u64) rfl rfl) rfl ?_; refine w_pure (y_add_wrap (k := .u64) rfl rfl) rfl ?_; refine w_pure (y_nil rfl) rfl ?_; refine w_pure (y_field rfl) rfl ?_; refine w_store_box rfl rfl (next := fun ws124 hbs124 hxs124 hss124 => ?_); (replace h1 := hbs124; clear hbs124); have hz_hxs124 := hxs124.size; replace h2 := h2.chg hxs124 (by omega); replace E := E.trans hxs124; refine w_nil ?_; refine x_next ?_; refine c_seq ?_; refine c_seq ?_; refine c_region_base mixed (fun wr6 hxr6 hzr6 EBr6 => ?_); have hz_hxr6 := hxr6.size; replace h1 := h1.ext hxr6; replace h2 := h2.ext hxr6; replace E := E.next hxr6 (by omega); refine b_pure rfl (y_move rfl) rfl ?_; refine b_pure rfl (y_nil rfl) rfl ?_; refine b_pure rfl (y_field rfl) rfl ?_; refine b_pure rfl (y_load_box rfl) rfl ?_; refine b_pure rfl (y_move rfl) rfl ?_; refine b_pure rfl (y_nil rfl) rfl ?_; refine b_pure rfl (y_field rfl) rfl ?_; refine b_pure rfl (y_load_box rfl) rfl ?_; refine b_pure rfl (y_len rfl) rfl ?_; refine b_pure rfl (y_le rfl rfl) rfl ?_; refine b_nil ?_; refine x_next ?_; (refine c_dec rfl (fun hc53 => ?_) (fun hc53 => ?_) <;> try (first | exact absurd rfl hc53 | contradiction | exact Bool.noConfusion (show false = true from hc53.symm.trans (by assumption)) | exact Bool.noConfusion (show true = false from hc53.symm.trans (by assumption)) | (exfalso; omega) | (exfalso; simp only [*, Bool.not_true, Bool.not_false, reduceCtorEq] at hc53; done))); refine c_skip ?_; refine x_next ?_; refine c_seq ?_; refine c_region ?_; refine w_pure (y_move rfl) rfl ?_; refine w_pure (y_nil rfl) rfl ?_; refine w_pure (y_field rfl) rfl ?_; refine w_pure (y_load_box rfl) rfl ?_; refine w_pure (y_shr40 rfl rfl) rfl ?_; refine w_pure (y_and255 rfl rfl (by omega)) rfl ?_; refine w_pure (y_conv64 rfl (by have := andI_le (a := (IntKind.u64.wrap (IntKind.u64.wrap (IntKind.u64.wrap (s * 6364136223846793005) + 0) + 1442695040888963407)) / 1099511627776) (b := 255) (by decide); exact ⟨by omega, by omega⟩)) rfl ?_; refine w_pure (y_assign rfl) rfl ?_; refine w_nil ?_; refine x_next ?_; refine c_ret ?_; rotate_left
  · exact x_retv [_] rfl ⟨rfl, trivial⟩ ⟨_, rfl, by omega, ⟨⟨v, xs, _, _, h1, h2, by omega, wrap_u64 _⟩, hout, Nat.lt_of_lt_of_le htop E.go.size⟩, E.go⟩
  · have hx := andI_le (a := (IntKind.u64.wrap (IntKind.u64.wrap (IntKind.u64.wrap (s * 6364136223846793005) + 0) + 1442695040888963407)) / 1099511627776) (b := 255) (by decide)
    exact x_retv [_] rfl ⟨rfl, trivial⟩ ⟨_, rfl, hx, ⟨⟨v, xs, _, _, h1, h2, by omega, wrap_u64 _⟩, hout, Nat.lt_of_lt_of_le htop E.go.size⟩, E.go⟩
theorem srcPick_c (n : Int) (h : Src w lo hi b B := by assumption) (hB : B ≤ 100000000000 := by omega) (hn : n ≤ 1000000000000 := by omega) : Ret Tryz.prog 58 [ptr b 0, .int .i64 n] w fun u w' => ∃ x, u = .int .i64 x ∧ (0 ≤ x ∧ (x < n ∨ x = 0)) ∧ Src w' lo hi b (B + 2) ∧ Chg b (b + 1) w w' := by
  have hout := h.out
  have E : Since b (b + 1) w w := Since.refl _ _ _
  refine ret_enter Tryz.func58 rfl Tryz.ntmps58 rfl ?_
  focus have ht_h := h.top; refine c_seq ?_; refine c_region ?_; refine w_pure (y_assign rfl) rfl ?_; refine w_nil ?_; refine x_next ?_; refine c_seq ?_; refine c_seq ?_; refine c_region ?_; refine w_pure (y_move rfl) rfl ?_; refine w_pure (y_le rfl rfl) rfl ?_; refine w_nil ?_; refine x_next ?_; (refine c_dec rfl (fun hc7 => ?_) (fun hc7 => ?_) <;> try (first | exact absurd rfl hc7 | contradiction | exact Bool.noConfusion (show false = true from hc7.symm.trans (by assumption)) | exact Bool.noConfusion (show true = false from hc7.symm.trans (by assumption)) | (exfalso; omega) | (exfalso; simp only [*, Bool.not_true, Bool.not_false, reduceCtorEq] at hc7; done))); refine c_seq ?_; refine c_region ?_; refine w_pure (y_assign rfl) rfl ?_; refine w_nil ?_; refine x_next ?_; refine c_ret ?_; refine x_then_ret ?_; rotate_left; refine c_skip ?_; refine x_next ?_; refine c_seq ?_; refine c_region ?_; refine w_pure (y_move rfl) rfl ?_; (refine w_call rfl rfl rfl (srcNext_c) rfl ?_; rintro _ w9 ⟨x9, ⟨rfl, ⟨⟨hp1_9, hp2_9⟩, ⟨hp3_9, hx9⟩⟩⟩⟩); have hz_hx9 := hx9.size; replace E := E.trans hx9; refine w_pure (y_assign rfl) rfl ?_; refine w_nil ?_; refine x_next ?_; refine c_seq ?_; refine c_seq ?_; refine c_region ?_; refine w_pure (y_move rfl) rfl ?_; refine w_pure (y_gt rfl rfl) rfl ?_; refine w_nil ?_; refine x_next ?_; (refine c_dec rfl (fun hc11 => ?_) (fun hc11 => ?_) <;> try (first | exact absurd rfl hc11 | contradiction | exact Bool.noConfusion (show false = true from hc11.symm.trans (by assumption)) | exact Bool.noConfusion (show true = false from hc11.symm.trans (by assumption)) | (exfalso; omega) | (exfalso; simp only [*, Bool.not_true, Bool.not_false, reduceCtorEq] at hc11; done))); refine c_region ?_; refine w_pure (y_move rfl) rfl ?_; refine w_pure (y_mul rfl rfl) rfl ?_; refine w_pure (y_move rfl) rfl ?_; (refine w_call rfl rfl rfl (srcNext_c) rfl ?_; rintro _ w15 ⟨x15, ⟨rfl, ⟨⟨hp1_15, hp2_15⟩, ⟨hp3_15, hx15⟩⟩⟩⟩); have hz_hx15 := hx15.size; replace E := E.trans hx15; refine w_pure (y_add rfl rfl) rfl ?_; refine w_pure (y_assign rfl) rfl ?_; refine w_nil ?_; refine x_next ?_; refine c_seq ?_; refine c_region ?_; refine w_pure (y_move rfl) rfl ?_; refine w_pure (y_move rfl) rfl ?_; refine w_pure (y_rem rfl rfl) rfl ?_; refine w_pure (y_assign rfl) rfl ?_; refine w_nil ?_; refine x_next ?_; refine c_ret ?_; rotate_left; refine c_skip ?_; refine x_next ?_; refine c_seq ?_; refine c_region ?_; refine w_pure (y_move rfl) rfl ?_; refine w_pure (y_move rfl) rfl ?_; refine w_pure (y_rem rfl rfl) rfl ?_; refine w_pure (y_assign rfl) rfl ?_; refine w_nil ?_; refine x_next ?_; refine c_ret ?_; rotate_left
  · exact x_retv [_] rfl ⟨rfl, trivial⟩ ⟨0, rfl, by omega, (by assumption : Src _ _ _ _ _).more (by omega), E.go⟩
  · exact x_retv [_] rfl ⟨rfl, trivial⟩ ⟨_, rfl, ⟨Int.emod_nonneg _ (by omega), .inl (Int.emod_lt_of_pos _ (by omega))⟩, hp3_15.more (by omega), E.go⟩
  · exact x_retv [_] rfl ⟨rfl, trivial⟩ ⟨_, rfl, ⟨Int.emod_nonneg _ (by omega), .inl (Int.emod_lt_of_pos _ (by omega))⟩, hp3_9.more (by omega), E.go⟩
theorem srcPick_z (n : Int) (hn : 1 ≤ n ∧ n ≤ 1000000000000 := by omega) (h : Src w lo hi b B := by assumption) (hB : B ≤ 100000000000 := by omega) : Ret Tryz.prog 58 [ptr b 0, .int .i64 n] w fun u w' => ∃ x, u = .int .i64 x ∧ (0 ≤ x ∧ x < n) ∧ Src w' lo hi b (B + 2) ∧ Chg b (b + 1) w w' := by
  refine (srcPick_c n h hB hn.2).mono ?_
  rintro u w' ⟨x, h1, h2, h3⟩
  exact ⟨x, h1, by omega, h3⟩
theorem srcOne_c (n : Int) (h : Src w lo hi b B := by assumption) (hB : B ≤ 100000000000 := by omega) (hn : n ≤ 1000000000000 := by omega) : Ret Tryz.prog 59 [ptr b 0, .int .i64 n] w fun u w' => ∃ q, u = .bool q ∧ Src w' lo hi b (B + 2) ∧ Chg b (b + 1) w w' := by
  have E : Since b (b + 1) w w := Since.refl _ _ _
  refine ret_enter Tryz.func59 rfl Tryz.ntmps59 rfl ?_
  focus have ht_h := h.top; refine c_seq ?_; refine c_region ?_; refine w_pure (y_assign rfl) rfl ?_; refine w_nil ?_; refine x_next ?_; refine c_seq ?_; refine c_region ?_; refine w_pure (y_move rfl) rfl ?_; refine w_pure (y_move rfl) rfl ?_; (refine w_call rfl rfl rfl (srcPick_c _) rfl ?_; rintro _ w7 ⟨x7, ⟨rfl, ⟨⟨hp1_7, hp2_7⟩, ⟨hp3_7, hx7⟩⟩⟩⟩); have hz_hx7 := hx7.size; replace E := E.trans hx7; refine w_pure (y_eq rfl rfl) rfl ?_; refine w_pure (y_assign rfl) rfl ?_; refine w_nil ?_; refine x_next ?_; refine c_ret ?_; rotate_left
  exact x_retv [_] rfl ⟨rfl, trivial⟩ ⟨_, rfl, by assumption, E.go⟩
theorem srcFrom_c {v : Value} {xs : List UInt8} (h : SL w lo hi v xs := by repeat (first | assumption | exact Go.Gw.Own.sl (by assumption) | exact Go.Gw.Box.at (by assumption) | exact Go.Gw.SLL.el (by first | assumption | exact Go.Gw.OwnD.sll (by assumption)) _ (by omega) | exact Go.Gw.SLL.at (by first | assumption | exact Go.Gw.OwnD.sll (by assumption)) (by omega) | exact Go.Gw.OwnD.sll (by assumption) | (apply Go.Gw.SL.chg; case hx => assumption) | (apply Go.Gw.Own.chg; case hx => assumption) | (apply Go.Gw.Box.chg; case hx => assumption) | (apply Go.Gw.At.chg; case hx => assumption) | exact .inl (Nat.zero_le _) | exact .inr (Nat.zero_le _) | (show _ ∨ _; omega))) : Ret Tryz.prog 48 [v] w fun u w' => ∃ c, u = ptr c 0 ∧ w.heap.size ≤ c ∧ Src w' lo hi c 0 ∧ Ext w w' := by
  have ht := h.top
  have E : Since 0 0 w w := Since.refl 0 0 w
  refine ret_enter Tryz.func48 rfl Tryz.ntmps48 rfl ?_
  focus have ht_h := h.top; refine c_seq ?_; refine c_region ?_; refine w_pure (y_assign rfl) rfl ?_; refine w_nil ?_; refine x_next ?_; refine c_seq ?_; refine c_region ?_; refine w_pure (y_move rfl) rfl ?_; refine w_pure (y_build rfl) rfl ?_; refine w_box rfl (k := fun b5 w5 hb5 hx5 hl5 hs5 => ?_); have hz_hx5 := hx5.size; replace h := h.ext hx5; replace E := E.trans hx5; refine w_pure (y_assign rfl) rfl ?_; refine w_nil ?_; refine x_next ?_; refine c_ret ?_; rotate_left
  exact x_retv [_] rfl ⟨rfl, trivial⟩ ⟨b5, rfl, by omega, ⟨⟨v, xs, 0, 0, hb5, h, by omega, by omega⟩, by omega, hb5.lt⟩, E.go⟩
end
end Go.Proofs.YticnemjjjceiaaaGreatDoor
/- L23 -/
namespace Go.Gw
open Go
set_option linter.unusedVariables false
set_option linter.unusedSimpArgs false
section
variable {P : Program} {N : Nat} {Q : Post} {σ : Fm} {w : World} {ops : Array Oper} {op : Op} {ty : TypeId} {pos : String} {af : Array Edge} {d lo hi : Nat} {v : Value}
/-- the last operation, where it stores and all others come ahead of it: behind it nothing is asked of the world -/
def spI (ops : Array Oper) (k : Nat) : Bool := Nat.beq (k + 1) ops.size && ((match ops[k]? with
  | some o => match o.op with
    | .store _ _ _ => true
    | _ => false
  | none => false) && (List.range k).all fun j => waitsB ops ops.size k j)
theorem spI_lt {k : Nat} (h : spI ops k = true) : k < ops.size := by
  unfold spI at h
  simp only [Bool.and_eq_true] at h
  have := Nat.eq_of_beq_eq_true h.1
  omega
/-- while the last has not come up since 'ls', only lo..hi has changed -/
def SI (lo hi : Nat) (sp : Nat → Bool) (ls : Array Bool) (w : World) (listed : Array Bool) (w' : World) : Prop :=
  (∀ k, sp k = true → listed.getD k false = true → ls.getD k false = true) → Chg lo hi w w'
theorem wpAnyI_first {sp : Nat → Bool} {i : Nat} {oi : Oper} {L : Array Bool} {w0 : World} (hi' : ops[i]? = some oi) (hsel : ∀ (j : Nat) (o : Oper) cs b, ops[j]? = some o → o.op ≠ .select cs b)
    (hQ : ∀ c a w, Q (.panic c) (a.put oi.dst v) w → Q (.panic c) a w) (hsp : sp i = false) :
    ∀ (fuel : Nat) (listed : Array Bool) (a : Act) (w : World), Closed ops listed → (∀ k, sp k = true → listed.getD k false = true → L.getD k false = true) →
      (∀ k, sp k = true → listed.getD k false = false → waitsB ops ops.size k i = true) →
      (∀ j oj, ops[j]? = some oj → j ≠ i → listed.getD j true = false → (∀ e ∈ oj.after, Region.binds .any e = true → e.on ≠ i) → oi.apart ops oj = true) →
      i ∈ Region.ready .any ops listed → YieldsIf P ops (fun w' => Chg lo hi w0 w') oi v a → Chg lo hi w0 w →
      wpAnyS P ops Q (SI lo hi sp L w0) fuel (listed.setIfInBounds i true) (a.put oi.dst v) w → wpAnyS P ops Q (SI lo hi sp L w0) (fuel + 1) listed a w := by
  intro fuel
  induction fuel with
  | zero =>
    intro listed a w hcl hK hw _ hr hy hS H
    refine ⟨fun h => (by rw [h] at hr; cases hr), fun j hj => ?_⟩
    by_cases hji : j = i
    · subst hji; exact hy.wpOp hi' hS ⟨fun _ => hS, H⟩
    · have := ready_mono hj hji
      rw [H.1] at this
      cases this
  | succ fuel ih =>
    intro listed a w hcl hK hw hfree hr hy hS H
    refine ⟨fun h => (by rw [h] at hr; cases hr), fun j hj => ?_⟩
    by_cases hji : j = i
    · subst hji; exact hy.wpOp hi' hS ⟨fun _ => hS, H⟩
    · have h1 := H.2 j (ready_mono hj hji)
      obtain ⟨hjun, oj, hoj, hall⟩ := mem_ready.1 hj
      have hiun := unlisted (mem_ready.1 hr).1
      have hjs : sp j = false := by
        cases hs : sp j
        · rfl
        · have := waits_listed hcl _ j oj hoj hall (hw j hs (unlisted hjun))
          rw [hiun] at this; cases this
      have hnot : ∀ e ∈ oj.after, Region.binds .any e = true → e.on ≠ i := fun e he hb heq => by
        have h1 := hall e he hb
        rw [heq, hiun] at h1
        cases h1
      have h2 := wpOp_putIf hoj (hfree j oj hoj hji hjun hnot) (fun cs b => hsel i oi cs b hi') (fun cs b => hsel j oj cs b hoj) hQ hy h1
      have hfree' : ∀ k ok, ops[k]? = some ok → k ≠ i → (listed.setIfInBounds j true).getD k true = false →
          (∀ e ∈ ok.after, Region.binds .any e = true → e.on ≠ i) → oi.apart ops ok = true := fun k ok hk hki hun hno => by
        refine hfree k ok hk hki ?_ hno
        by_cases hjk : j = k
        · subst hjk; exact hjun
        · rw [getD_set_ne true hjk] at hun; exact hun
      have hcl' : Closed ops (listed.setIfInBounds j true) := fun k o hk hl e he hb => by
        rcases getD_set_or hl with rfl | hl
        · rw [hoj] at hk; cases hk; exact getD_set_true (hall e he hb)
        · exact getD_set_true (hcl k o hk hl e he hb)
      have hK' : ∀ k, sp k = true → (listed.setIfInBounds j true).getD k false = true → L.getD k false = true := fun k hs hl => by
        rcases getD_set_or hl with rfl | hl
        · rw [hjs] at hs; cases hs
        · exact hK k hs hl
      have hw' : ∀ k, sp k = true → (listed.setIfInBounds j true).getD k false = false → waitsB ops ops.size k i = true := fun k hs hl => by
        refine hw k hs ?_
        cases h : listed.getD k false
        · rfl
        · rw [getD_set_true h] at hl; cases hl
      refine wpOp_mono (fun a' w' h3 => ?_) h2
      obtain ⟨h3y, h3s, h3k⟩ := h3
      have hx : Chg lo hi w0 w' := h3s fun k hs hl => by
        rcases getD_set_or hl with rfl | hl
        · rw [hjs] at hs; cases hs
        · rcases getD_set_or hl with rfl | hl
          · rw [hsp] at hs; cases hs
          · exact hK k hs hl
      refine ⟨fun _ => hx, ih (listed.setIfInBounds j true) a' w' hcl' hK' hw' hfree' (ready_mono hr (Ne.symm hji)) h3y hx ?_⟩
      rw [Array.setIfInBounds_comm _ _ hji]
      exact h3k

def mayTakeI (ops : Array Oper) (ls : Array Bool) (i : Nat) : Bool :=
  (Region.ready .any ops ls).contains i && (Region.free .any ops ls i && (Region.noSelect ops && (!spI ops i && (closedB ops ls && (List.range ops.size).all fun k => !spI ops k || ls.getD k false || waitsB ops ops.size k i))))
theorem take_I {i fuel : Nat} {oi : Oper} {ls : Array Bool} {a : Act} (hi' : ops[i]? = some oi) (hm : mayTakeI ops ls i = true) (hQ : ∀ c a w, Q (.panic c) (a.put oi.dst v) w → Q (.panic c) a w)
    (hy : YieldsIf P ops (fun w' => Chg lo hi w w') oi v a) (h : wpAnyS P ops Q (SI lo hi (spI ops) (ls.setIfInBounds i true) w) fuel (ls.setIfInBounds i true) (a.put oi.dst v) w) : wpAnyS P ops Q (SI lo hi (spI ops) ls w) (fuel + 1) ls a w := by
  unfold mayTakeI at hm
  simp only [Bool.and_eq_true] at hm
  obtain ⟨h1, h2, h3, h4, h5, h6⟩ := hm
  have hsp : spI ops i = false := by simpa using h4
  refine wpAnyI_first hi' (Region.noSelect_spec h3) hQ hsp fuel ls a w (closedB_spec h5) (fun _ _ h => h) (fun k hk hl => ?_) (Region.free_spec hi' h2) (by simpa using h1) hy (Chg.refl _ _ _) ?_
  · have := List.all_eq_true.1 h6 k (List.mem_range.2 (spI_lt hk))
    rw [hk, hl] at this
    simpa using this
  · refine wpAnyS_mono (L := #[]) (fun l w' _ hs hk => hs fun k hsk hlk => ?_) _ _ _ _ (fun k hk => by simp at hk) h
    exact getD_set_true (hk k hsk hlk)
structure WI (P : Program) (N : Nat) (ops : Array Oper) (Q : Post) (lo hi : Nat) (fuel n : Nat) (q : List (Nat × Oper)) (ls : List Bool) (σ : Fm) (w : World) : Prop where
  go : ∀ a, Fr N σ a → wpAnyS P ops Q (SI lo hi (spI ops) ls.toArray w) fuel ls.toArray a w
def HI (P : Program) (N : Nat) (ops : Array Oper) (Q : Post) (lo hi : Nat) (fuel i : Nat) (q : List (Nat × Oper)) (ls : List Bool) (w : World) (a : Act) (w' : World) : Prop :=
  SI lo hi (spI ops) ls.toArray w (ls.set i true).toArray w' ∧ wpAnyS P ops Q (SI lo hi (spI ops) ls.toArray w) fuel (ls.set i true).toArray a w'
theorem c_region_inv {i : Nat} {l : List Oper} (lo hi : Nat) (hm : P.follows .mixedOrders = true)
    (h : ∀ wd, Ext w wd → wd.heap.size = w.heap.size → WI P N l.toArray Q lo hi l.length l.length (numb 0 l) (noes l) σ wd) : C P N (.region i l.toArray true) Q σ w := by
  refine ⟨fun a ha => wp_region_any hm (wpAny_of_S (S := SI lo hi (spI l.toArray) (List.replicate l.length false).toArray w.drew) _ _ _ _ ?_)⟩
  have := (h w.drew (Chg.drew w) rfl).go a ha
  rw [noes_eq] at this
  rw [List.size_toArray, ← List.toArray_replicate]
  exact this
theorem i_pure {i fuel n : Nat} {q : List (Nat × Oper)} {ls : List Bool} (hi' : ops[i]? = some ⟨some d, op, ty, pos, af, none⟩) (h : ∀ w', Chg lo hi w w' → YE P σ op ty w' v) (hd : Nat.blt d N = true)
    (k : WI P N ops Q lo hi fuel q.length q (ls.set i true) ((d, v) :: σ) w)
    (hm : mayTakeI ops ls.toArray i = true := by decide +kernel) (hQ : ∀ c a w, Q (.panic c) (a.put (some d) v) w → Q (.panic c) a w := by exact fun _ _ _ h => h) :
    WI P N ops Q lo hi (fuel + 1) n ((i, ⟨some d, op, ty, pos, af, none⟩) :: q) ls σ w := by
  refine ⟨fun a ha => take_I hi' hm hQ (.inl ⟨by simp [Region.wanted], fun w' hw' => ?_⟩) (by rw [set_arr]; exact k.go _ (ha.put hd v))⟩
  rw [execOp_eq]
  exact (h w' hw').go w' (Chg.refl _ _ _) _ fun x v hx => ha.eval hx
theorem i_yes {i fuel n : Nat} {q : List (Nat × Oper)} {ls : List Bool} {j t : Nat} {b : Bool} (hi' : ops[i]? = some ⟨some d, op, ty, pos, af, some (j, b)⟩) (hj : (ops[j]?).bind (·.dst) = some t) (ht : look σ t = some (.bool b)) (h : ∀ w', Chg lo hi w w' → YE P σ op ty w' v) (hd : Nat.blt d N = true)
    (k : WI P N ops Q lo hi fuel q.length q (ls.set i true) ((d, v) :: σ) w)
    (hm : mayTakeI ops ls.toArray i = true := by decide +kernel) (hQ : ∀ c a w, Q (.panic c) (a.put (some d) v) w → Q (.panic c) a w := by exact fun _ _ _ h => h) :
    WI P N ops Q lo hi (fuel + 1) n ((i, ⟨some d, op, ty, pos, af, some (j, b)⟩) :: q) ls σ w := by
  refine ⟨fun a ha => take_I hi' hm hQ (.inl ⟨by simp [Region.wanted, yielded_of ha hj ht], fun w' hw' => ?_⟩) (by rw [set_arr]; exact k.go _ (ha.put hd v))⟩
  rw [execOp_eq]
  exact (h w' hw').go w' (Chg.refl _ _ _) _ fun x v hx => ha.eval hx
theorem i_no {i fuel n : Nat} {q : List (Nat × Oper)} {ls : List Bool} {j t : Nat} {b b' : Bool} (hi' : ops[i]? = some ⟨some d, op, ty, pos, af, some (j, b')⟩) (hj : (ops[j]?).bind (·.dst) = some t) (ht : look σ t = some (.bool b)) (hb : (b == b') = false) (hd : Nat.blt d N = true)
    (k : WI P N ops Q lo hi fuel q.length q (ls.set i true) ((d, undef) :: σ) w)
    (hm : mayTakeI ops ls.toArray i = true := by decide +kernel) (hQ : ∀ c a w, Q (.panic c) (a.put (some d) undef) w → Q (.panic c) a w := by exact fun _ _ _ h => h) :
    WI P N ops Q lo hi (fuel + 1) n ((i, ⟨some d, op, ty, pos, af, some (j, b')⟩) :: q) ls σ w :=
  ⟨fun a ha => take_I hi' hm hQ (.inr ⟨by simp [Region.wanted, yielded_of ha hj ht, hb], rfl⟩) (by rw [set_arr]; exact k.go _ (ha.put hd _))⟩
theorem i_none {i fuel n : Nat} {q : List (Nat × Oper)} {ls : List Bool} {j t : Nat} {b' : Bool} (hi' : ops[i]? = some ⟨some d, op, ty, pos, af, some (j, b')⟩) (hj : (ops[j]?).bind (·.dst) = some t) (ht : look σ t = some undef) (hd : Nat.blt d N = true)
    (k : WI P N ops Q lo hi fuel q.length q (ls.set i true) ((d, undef) :: σ) w)
    (hm : mayTakeI ops ls.toArray i = true := by decide +kernel) (hQ : ∀ c a w, Q (.panic c) (a.put (some d) undef) w → Q (.panic c) a w := by exact fun _ _ _ h => h) :
    WI P N ops Q lo hi (fuel + 1) n ((i, ⟨some d, op, ty, pos, af, some (j, b')⟩) :: q) ls σ w :=
  ⟨fun a ha => take_I hi' hm hQ (.inr ⟨by simp [Region.wanted, yielded_undef ha hj ht], rfl⟩) (by rw [set_arr]; exact k.go _ (ha.put hd _))⟩
theorem i_part_dec {i fuel n : Nat} {o : Option Tmp} {q : List (Nat × Oper)} {ls : List Bool} {j t : Nat} {b' : Bool} {p : Prop} {dp : Decidable p} (hj : (ops[j]?).bind (·.dst) = some t) (ht : look σ t = some (.bool (decide p)))
    (k1 : p → WI P N ops Q lo hi fuel n ((i, ⟨o, op, ty, pos, af, some (j, b')⟩) :: q) ls ((t, .bool true) :: σ) w) (k2 : ¬ p → WI P N ops Q lo hi fuel n ((i, ⟨o, op, ty, pos, af, some (j, b')⟩) :: q) ls ((t, .bool false) :: σ) w) :
    WI P N ops Q lo hi fuel n ((i, ⟨o, op, ty, pos, af, some (j, b')⟩) :: q) ls σ w := by
  refine ⟨fun a ha => ?_⟩
  have hv := ha.val t _ ht
  have hf : Fr N ((t, .bool (decide p)) :: σ) a := ha.same hv
  by_cases hp : p
  · exact (k1 hp).go a (by simpa [hp] using hf)
  · exact (k2 hp).go a (by simpa [hp] using hf)
theorem i_part {i fuel n : Nat} {o : Option Tmp} {q : List (Nat × Oper)} {ls : List Bool} {j t : Nat} {b b' : Bool} (hj : (ops[j]?).bind (·.dst) = some t) (ht : look σ t = some (.bool b))
    (k1 : b = true → WI P N ops Q lo hi fuel n ((i, ⟨o, op, ty, pos, af, some (j, b')⟩) :: q) ls ((t, .bool true) :: σ) w) (k2 : b = false → WI P N ops Q lo hi fuel n ((i, ⟨o, op, ty, pos, af, some (j, b')⟩) :: q) ls ((t, .bool false) :: σ) w) :
    WI P N ops Q lo hi fuel n ((i, ⟨o, op, ty, pos, af, some (j, b')⟩) :: q) ls σ w := by
  refine ⟨fun a ha => ?_⟩
  have hv := ha.val t _ ht
  have hf : Fr N ((t, .bool b) :: σ) a := ha.same hv
  cases b
  · exact (k2 rfl).go a hf
  · exact (k1 rfl).go a hf
theorem i_turn {fuel n i : Nat} {o : Oper} {q : List (Nat × Oper)} {ls : List Bool} (k : WI P N ops Q lo hi fuel n (q ++ [(i, o)]) ls σ w) : WI P N ops Q lo hi fuel (n + 1) ((i, o) :: q) ls σ w := ⟨k.go⟩
theorem i_nil {fuel n : Nat} {ls : List Bool} (k : X N .normal Q σ w) (hr : Region.ready .any ops ls.toArray = [] := by decide +kernel) : WI P N ops Q lo hi fuel n [] ls σ w := ⟨fun a ha => wpAnyS_done hr (k.go a ha) fuel⟩
theorem i_one {i fuel n : Nat} {o : Oper} {q : List (Nat × Oper)} {ls : List Bool} (hi' : ops[i]? = some o) (k : W P N ops (Exit.then (HI P N ops Q lo hi fuel i q ls w) Q) [o] σ w)
    (hr : Region.ready .any ops ls.toArray = [i] := by decide +kernel) : WI P N ops Q lo hi (fuel + 1) n ((i, o) :: q) ls σ w :=
  ⟨fun a ha => ⟨fun h0 => (by rw [h0] at hr; cases hr), fun i' hii => by
    rw [hr] at hii
    obtain rfl : i' = i := by simpa using hii
    rw [set_arr]
    exact wpOp_of_list hi' (k.go a ha)⟩⟩
theorem i_two {i j fuel n : Nat} {o o' : Oper} {q : List (Nat × Oper)} {ls : List Bool} (hi' : ops[i]? = some o) (hj : ops[j]? = some o')
    (k : W P N ops (Exit.then (HI P N ops Q lo hi fuel i q ls w) Q) [o] σ w) (k' : W P N ops (Exit.then (HI P N ops Q lo hi fuel j (dropN [j] ((i, o) :: q)) ls w) Q) [o'] σ w)
    (hr : onlyB ops ls [i, j] = true := by decide +kernel) : WI P N ops Q lo hi (fuel + 1) n ((i, o) :: q) ls σ w :=
  ⟨fun a ha => ⟨fun h0 => absurd h0 (onlyB_ne hr), fun i' hii => by
    rcases (by simpa using onlyB_mem hr hii : i' = i ∨ i' = j) with rfl | rfl
    · rw [set_arr]; exact wpOp_of_list hi' (k.go a ha)
    · rw [set_arr]; exact wpOp_of_list hj (k'.go a ha)⟩⟩
theorem x_hi {fuel i : Nat} {q : List (Nat × Oper)} {ls : List Bool} {w' : World} (k : WI P N ops Q lo hi fuel q.length q (ls.set i true) σ w') (hx : Chg lo hi w w' := by repeat (first | exact Go.Gw.Chg.refl _ _ _ | assumption | refine Go.Gw.Chg.next ?_ (by assumption) (by omega))) : X N .normal (Exit.then (HI P N ops Q lo hi fuel i q ls w) Q) σ w' :=
  ⟨fun a ha => ⟨fun _ => hx, by
    refine wpAnyS_mono (L := #[]) (fun l w'' _ hk hp => hx.trans (hk fun k hsk hlk => ?_)) _ _ _ _ (fun k hk => by simp at hk) (k.go a ha)
    have := hp k hsk hlk
    rw [← set_arr]
    exact getD_set_true this⟩⟩
/-- on, behind the last one, which may turn what it likes -/
theorem x_hik {fuel i : Nat} {q : List (Nat × Oper)} {ls : List Bool} {w' : World} (k : WI P N ops Q lo hi fuel q.length q (ls.set i true) σ w') (hs : (spI ops i && !ls.toArray.getD i true) = true := by decide +kernel) : X N .normal (Exit.then (HI P N ops Q lo hi fuel i q ls w) Q) σ w' := by
  have hs : spI ops i = true ∧ ls.toArray.getD i true = false := by simpa only [Bool.and_eq_true, Bool.not_eq_true'] using hs
  have hlt : i < ls.toArray.size := by
    rcases Nat.lt_or_ge i ls.toArray.size with h' | h'
    · exact h'
    · have := hs.2; rw [Array.getD_eq_getD_getElem?, Array.getElem?_eq_none h'] at this; cases this
  have hin : (ls.toArray.setIfInBounds i true).getD i false = true := by rw [Array.getD_eq_getD_getElem?, Array.getElem?_setIfInBounds_self_of_lt hlt]; rfl
  have hno : ∀ l : Array Bool, l.getD i false = true → ∀ w'', SI lo hi (spI ops) ls.toArray w l w'' := fun l hl w'' hp => by
    have := hp i hs.1 hl
    rw [unlisted hs.2] at this; cases this
  rw [set_arr] at hin
  exact ⟨fun a ha => ⟨hno _ hin _, wpAnyS_mono (L := (ls.set i true).toArray) (fun l w'' hL _ => hno l (hL i hin) w'') _ _ _ _ (fun _ h => h) (k.go a ha)⟩⟩
theorem b_slice {α : Type} {E : Enc α} {e s b lo hi : Nat} {T : TypeId} {x : Operand} {v : Value} {xs : List α} {l h : Int} {ol oh : Option Operand} {i fuel n : Nat} {q : List (Nat × Oper)} {ls : List Bool} [hT : TSli P T e s b] (hi' : ops[i]? = some ⟨some d, .slice T x ol oh none, ty, pos, af, none⟩) (hx : ev σ x = some v) (hl : (ol = none ∧ l = 0) ∨ ∃ y k, ol = some y ∧ ev σ y = some (.int k l)) (hh : (oh = none ∧ h = xs.length) ∨ ∃ y k, oh = some y ∧ ev σ y = some (.int k h))
    (hd : Nat.blt d N = true) (k : ∀ u, SL w lo hi u ((xs.take h.toNat).drop l.toNat) → WB P N ops Q w fuel q.length q (ls.set i true) ((d, u) :: σ) w) (H : SL w lo hi v xs := by repeat (first | assumption | exact Go.Gw.Own.sl (by assumption) | exact Go.Gw.Box.at (by assumption) | exact Go.Gw.SLL.el (by first | assumption | exact Go.Gw.OwnD.sll (by assumption)) _ (by omega) | exact Go.Gw.SLL.at (by first | assumption | exact Go.Gw.OwnD.sll (by assumption)) (by omega) | exact Go.Gw.OwnD.sll (by assumption) | (apply Go.Gw.SL.chg; case hx => assumption) | (apply Go.Gw.Own.chg; case hx => assumption) | (apply Go.Gw.Box.chg; case hx => assumption) | (apply Go.Gw.At.chg; case hx => assumption) | exact .inl (Nat.zero_le _) | exact .inr (Nat.zero_le _) | (show _ ∨ _; omega))) (hs : s = Enc.sz α := by rfl) (hb : 0 ≤ l ∧ l ≤ h ∧ h ≤ xs.length := by omega)
    (hm : mayTake ops (spoilB ops) ls.toArray i = true := by decide +kernel) (hQ : ∀ c a u w, Q (.panic c) (a.put (some d) u) w → Q (.panic c) a w := by exact fun _ _ _ _ h => h) :
    WB P N ops Q w (fuel + 1) n ((i, ⟨some d, .slice T x ol oh none, ty, pos, af, none⟩) :: q) ls σ w := by
  obtain ⟨u, hy, hu⟩ := y_slice (P := P) (ty := ty) (T := T) hx hl hh H hs hb
  exact b_pure hi' hy hd (k u hu) hm (fun c a w => hQ c a u w)
end
end Go.Gw
/- L24 -/
namespace Go.Gw
open Go
set_option linter.unusedVariables false
set_option linter.unusedSimpArgs false
section
variable {P : Program} {N : Nat} {Q : Post} {σ : Fm} {w : World} {ops : Array Oper} {lo hi : Nat}
theorem b_twoQ {wb : World} {i j fuel n : Nat} {o o' : Oper} {q : List (Nat × Oper)} {ls : List Bool} (hi' : ops[i]? = some o) (hj : ops[j]? = some o')
    (k : W P N ops (Exit.then (HB P N ops Q wb fuel i (dropN [i] q) ls) Q) [o] σ w) (k' : W P N ops (Exit.then (HB P N ops Q wb fuel j (dropN [j] q) ls) Q) [o'] σ w)
    (hr : onlyB ops ls [i, j] = true := by decide +kernel) : WB P N ops Q wb (fuel + 1) n q ls σ w :=
  ⟨fun a ha => ⟨fun h0 => absurd h0 (onlyB_ne hr), fun i' hii => by
    rcases (by simpa using onlyB_mem hr hii : i' = i ∨ i' = j) with rfl | rfl
    · rw [set_arr]; exact wpOp_of_list hi' (k.go a ha)
    · rw [set_arr]; exact wpOp_of_list hj (k'.go a ha)⟩⟩
theorem i_twoQ {i j fuel n : Nat} {o o' : Oper} {q : List (Nat × Oper)} {ls : List Bool} (hi' : ops[i]? = some o) (hj : ops[j]? = some o')
    (k : W P N ops (Exit.then (HI P N ops Q lo hi fuel i (dropN [i] q) ls w) Q) [o] σ w) (k' : W P N ops (Exit.then (HI P N ops Q lo hi fuel j (dropN [j] q) ls w) Q) [o'] σ w)
    (hr : onlyB ops ls [i, j] = true := by decide +kernel) : WI P N ops Q lo hi (fuel + 1) n q ls σ w :=
  ⟨fun a ha => ⟨fun h0 => absurd h0 (onlyB_ne hr), fun i' hii => by
    rcases (by simpa using onlyB_mem hr hii : i' = i ∨ i' = j) with rfl | rfl
    · rw [set_arr]; exact wpOp_of_list hi' (k.go a ha)
    · rw [set_arr]; exact wpOp_of_list hj (k'.go a ha)⟩⟩
theorem h_twoQ {i j fuel n : Nat} {o o' : Oper} {q : List (Nat × Oper)} {ls : List Bool} (hi' : ops[i]? = some o) (hj : ops[j]? = some o')
    (k : W P N ops (Exit.then (HK P N ops Q fuel i (dropN [i] q) ls w) Q) [o] σ w) (k' : W P N ops (Exit.then (HK P N ops Q fuel j (dropN [j] q) ls w) Q) [o'] σ w)
    (hr : onlyB ops ls [i, j] = true := by decide +kernel) : WH P N ops Q (fuel + 1) n q ls σ w :=
  ⟨fun a ha => ⟨fun h0 => absurd h0 (onlyB_ne hr), fun i' hii => by
    rcases (by simpa using onlyB_mem hr hii : i' = i ∨ i' = j) with rfl | rfl
    · rw [set_arr]; exact wpOp_of_list hi' (k.go a ha)
    · rw [set_arr]; exact wpOp_of_list hj (k'.go a ha)⟩⟩
end
end Go.Gw
/- Cnt -/
namespace Go.Proofs.YticnemjjjceiaaaGreatDoor
open Go Go.Gw
set_option linter.unusedVariables false
set_option linter.unusedSimpArgs false

/-- the k lowest digits of a number, the lowest first -/
def digs : Nat → Int → List Int
  | 0, _ => []
  | k + 1, n => n % 10 :: digs k (n / 10)
theorem digs_snoc : ∀ (k : Nat) (n : Int), digs (k + 1) n = digs k n ++ [n / 10 ^ k % 10]
  | 0, n => by simp [digs]
  | k + 1, n => by
    rw [digs, digs_snoc k (n / 10), digs]
    simp only [List.cons_append]
    congr 2
    rw [Int.ediv_ediv_of_nonneg (by omega), Int.pow_succ, Int.mul_comm]
theorem digs_len : ∀ (k : Nat) (n : Int), (digs k n).length = k
  | 0, n => rfl
  | k + 1, n => by simp [digs, digs_len k]

end Go.Proofs.YticnemjjjceiaaaGreatDoor
/- CntD -/
namespace Go.Proofs.YticnemjjjceiaaaGreatDoor
open Go Go.Gw
set_option linter.unusedVariables false
set_option linter.unusedSimpArgs false

/-- the number of digits, the lowest first -/
def valD : List Int → Int
  | [] => 0
  | d :: r => d + 10 * valD r
theorem valD_drop {xs : List Int} {i : Nat} (h : i < xs.length) : valD (xs.drop i) = xs.getD i 0 + 10 * valD (xs.drop (i + 1)) := by
  rw [List.drop_eq_getElem_cons h, valD, List.getD_eq_getElem?_getD, List.getElem?_eq_getElem h]; rfl
theorem valD_bd : ∀ {xs : List Int}, (∀ d ∈ xs, 0 ≤ d ∧ d ≤ 9) → 0 ≤ valD xs ∧ valD xs < 10 ^ xs.length
  | [], _ => by simp [valD]
  | d :: r, h => by
    have h1 := valD_bd (xs := r) (fun d hd => h d (by simp [hd]))
    have h2 := h d (by simp)
    rw [valD, List.length_cons, Int.pow_succ]
    omega
theorem valD_drop_bd {xs : List Int} (h : okC xs = true) (i : Nat) : 0 ≤ valD (xs.drop i) ∧ valD (xs.drop i) < 1000000000000 := by
  have h1 := valD_bd (xs := xs.drop i) (fun d hd => okC_dig h d (List.mem_of_mem_drop hd))
  have h2 := okC_len h
  have h3 : (10 : Int) ^ (xs.drop i).length ≤ 10 ^ 12 := pow10_le (by simp; omega)
  have h4 : (10 : Int) ^ 12 = 1000000000000 := by decide
  omega
section
variable {w : World} {v : Value} {xs : List Int} {lo hi b : Nat}
end
end Go.Proofs.YticnemjjjceiaaaGreatDoor
/- Open -/
namespace Go.Proofs.YticnemjjjceiaaaGreatDoor
open Go Go.Gw Go.ChangeShapes Go.WideShapes
set_option linter.unusedVariables false
set_option maxRecDepth 100000
section
variable {w : World} {r : Reach} {b0 : Nat} {v : Value}
/-- a slice of numbers -/
structure OSl where
  v : Value
  xs : List Int
structure OSl.ok (w : World) (x : OSl) : Prop where
  sl : SL w 0 w.heap.size x.v x.xs
  in64 : ∀ n ∈ x.xs, In64 n
theorem rd_ints {cs : List Value} (h : Rd Tryz.prog w 24 cs) : ∃ v xs, cs = [v] ∧ SL w 0 w.heap.size v (xs : List Int) ∧ ∀ x ∈ xs, In64 x :=
  SL.of_rd Tryz.underlying24 (by kernel_rfl) (dec_int Tryz.underlying2) h
theorem open_Sl_int64 (hv : Value.okWide Tryz.prog w r b0 24 v) (h : Rd Tryz.prog w 24 v.cells.toList) : ∃ x : { x : OSl // x.ok w }, v = x.1.v := by
  obtain ⟨a, l, c, rfl⟩ := okWide_slice Tryz.underlying24 hv
  obtain ⟨u, xs, hu, hs, hq⟩ := rd_ints h
  simp only [Value.cells, List.cons.injEq, and_true] at hu
  subst hu
  exact ⟨⟨⟨_, xs⟩, hs, hq⟩, rfl⟩
/-- a slice of pairs of numbers -/
structure OPs where
  v : Value
  xs : List (Int × Int)
structure OPs.ok (w : World) (x : OPs) : Prop where
  sl : SL w 0 w.heap.size x.v x.xs
  in64 : ∀ p ∈ x.xs, In64 p.1 ∧ In64 p.2
end
end Go.Proofs.YticnemjjjceiaaaGreatDoor
/- CntE -/
namespace Go.Proofs.YticnemjjjceiaaaGreatDoor
open Go Go.Gw
set_option linter.unusedVariables false
set_option linter.unusedSimpArgs false

/-- the text of digits, the lowest first -/
def ctext (xs : List Int) : List UInt8 := xs.reverse.map fun d => UInt8.ofNat (48 + d).toNat
theorem ctext_drop {xs : List Int} {i : Nat} (h : i < xs.length) : ctext (xs.drop i) = ctext (xs.drop (i + 1)) ++ [UInt8.ofNat (48 + xs.getD i 0).toNat] := by
  rw [List.drop_eq_getElem_cons h, ctext, List.reverse_cons, List.map_append, List.getD_eq_getElem?_getD, List.getElem?_eq_getElem h]; rfl
section
variable {w : World} {v : Value} {xs : List Int} {lo hi b : Nat}
end
end Go.Proofs.YticnemjjjceiaaaGreatDoor
/- CntF -/
namespace Go.Proofs.YticnemjjjceiaaaGreatDoor
open Go Go.Gw
set_option linter.unusedVariables false
set_option linter.unusedSimpArgs false

def rdg (s : List UInt8) : List Int := s.reverse.map fun b => (b.toNat : Int) - 48
theorem rdg_drop {s : List UInt8} {i : Nat} (h : i < s.length) : rdg (s.drop i) = rdg (s.drop (i + 1)) ++ [((s.getD i 0).toNat : Int) - 48] := by
  rw [List.drop_eq_getElem_cons h, rdg, List.reverse_cons, List.map_append, List.getD_eq_getElem?_getD, List.getElem?_eq_getElem h]; rfl
theorem rdg_len (s : List UInt8) : (rdg s).length = s.length := by simp [rdg]
section
variable {w : World} {v : Value} {xs : List Int} {lo hi b : Nat}
end
end Go.Proofs.YticnemjjjceiaaaGreatDoor
/- CntH -/
namespace Go.Proofs.YticnemjjjceiaaaGreatDoor
open Go Go.Gw
set_option linter.unusedVariables false
set_option linter.unusedSimpArgs false
def joinC (xs ys : List Int) : Int := if okC xs = true ∧ okC ys = true then (if xs.length + ys.length ≤ 12 then 0 else 5) else 1
def resJoin (xs ys : List Int) : List Int := if joinC xs ys = 0 then xs ++ ys else []
theorem resJoin_len (xs ys : List Int) : (resJoin xs ys).length ≤ 12 := by
  by_cases h : okC xs = true ∧ okC ys = true
  · by_cases h2 : xs.length + ys.length ≤ 12
    · simp [resJoin, joinC, h, h2]
    · simp [resJoin, joinC, h, h2]
  · simp [resJoin, joinC, if_neg h]
section
variable {w : World} {v v' : Value} {xs ys : List Int} {lo hi lo' hi' b b' : Nat}
end
end Go.Proofs.YticnemjjjceiaaaGreatDoor
/- CntI -/
namespace Go.Proofs.YticnemjjjceiaaaGreatDoor
open Go Go.Gw
set_option linter.unusedVariables false
set_option linter.unusedSimpArgs false
/-- i wheels of a counter after a number has been added: the digits, the carries, the last one's carry -/
def addS (xs : List Int) (n : Int) : Nat → List Int × Int × Int
  | 0 => ([], 0, 0)
  | i + 1 => ((addS xs n i).1 ++ [(xs.getD i 0 + n / 10 ^ i % 10 + (addS xs n i).2.2) % 10], (addS xs n i).2.1 + (xs.getD i 0 + n / 10 ^ i % 10 + (addS xs n i).2.2) / 10, (xs.getD i 0 + n / 10 ^ i % 10 + (addS xs n i).2.2) / 10)
theorem addS_len (xs : List Int) (n : Int) : ∀ i, (addS xs n i).1.length = i
  | 0 => rfl
  | i + 1 => by rw [addS, List.length_append, addS_len xs n i]; rfl
def Digs (xs : List Int) : Prop := ∀ d ∈ xs, 0 ≤ d ∧ d ≤ 9
theorem Digs.getD {xs : List Int} (h : Digs xs) (i : Nat) : 0 ≤ xs.getD i 0 ∧ xs.getD i 0 ≤ 9 := by
  by_cases hi : i < xs.length
  · rw [List.getD_eq_getElem?_getD, List.getElem?_eq_getElem hi]; exact h _ (List.getElem_mem hi)
  · rw [List.getD_eq_getElem?_getD, List.getElem?_eq_none (by omega)]; simp
theorem addS_bd {xs : List Int} (h : Digs xs) (n : Int) : ∀ i, 0 ≤ (addS xs n i).2.2 ∧ (addS xs n i).2.2 ≤ 1 ∧ 0 ≤ (addS xs n i).2.1 ∧ (addS xs n i).2.1 ≤ i ∧ Digs (addS xs n i).1
  | 0 => ⟨by simp [addS], by simp [addS], by simp [addS], by simp [addS], fun d hd => by simp [addS] at hd⟩
  | i + 1 => by
    obtain ⟨h1, h2, h3, h4, h5⟩ := addS_bd h n i
    have h6 := h.getD i
    simp only [addS]
    refine ⟨by omega, by omega, by omega, by omega, fun d hd => ?_⟩
    rcases List.mem_append.1 hd with hd | hd
    · exact h5 d hd
    · simp only [List.mem_singleton] at hd
      omega
theorem digs_getD : ∀ (k : Nat) (n : Int) (i : Nat), i < k → (digs k n).getD i 0 = n / 10 ^ i % 10
  | 0, n, i, h => by omega
  | k + 1, n, 0, h => by simp [digs]
  | k + 1, n, i + 1, h => by
    rw [digs, List.getD_cons_succ, digs_getD k (n / 10) i (by omega), Int.ediv_ediv_of_nonneg (by omega), Int.pow_succ, Int.mul_comm]
theorem getD_app {a b : List Int} {i : Nat} (h : a.length = i) : (a ++ b.drop i).getD i 0 = b.getD i 0 := by
  rw [List.getD_eq_getElem?_getD, List.getD_eq_getElem?_getD, List.getElem?_append_right (by omega), h, Nat.sub_self, List.getElem?_drop, Nat.add_zero]
theorem set_app {a b : List Int} {i : Nat} {y : Int} (h : a.length = i) (hi : i < b.length) : (a ++ b.drop i).set i y = (a ++ [y]) ++ b.drop (i + 1) := by
  rw [List.set_append_right _ _ (by omega), h, Nat.sub_self, List.drop_eq_getElem_cons hi, List.set_cons_zero, List.append_assoc]; rfl
theorem dpow (n : Int) (i : Nat) : n / 10 ^ i / 10 = n / 10 ^ (i + 1) := by
  rw [Int.ediv_ediv_of_nonneg (Int.le_of_lt (pow10_pos _)), Int.pow_succ]
section
variable {w : World} {v v' : Value} {xs ys : List Int} {lo hi lo' hi' b b' : Nat}

/-! ### what the laws' functions answer -/
def codeN (xs : List Int) (n : Int) : Int := if okC xs = true then (if 0 ≤ n ∧ n ≤ 10 ^ xs.length - 1 then 0 else 2) else 1
theorem codeN_ok {xs : List Int} {n : Int} (h : codeN xs n = 0) : okC xs = true ∧ 0 ≤ n ∧ n ≤ 10 ^ xs.length - 1 ∧ n ≤ 999999999999 := by
  by_cases hk : okC xs = true
  · by_cases hn : 0 ≤ n ∧ n ≤ 10 ^ xs.length - 1
    · have h1 := pow10_12 (k := xs.length) (okC_len hk).2
      exact ⟨hk, hn.1, hn.2, by omega⟩
    · simp [codeN, hk, hn] at h
  · simp [codeN, hk] at h
def resAdd (xs : List Int) (n : Int) : List Int := if codeN xs n = 0 then (addS xs n xs.length).1 else []
def topAdd (xs : List Int) (n : Int) : Bool := decide (codeN xs n = 0 ∧ (addS xs n xs.length).2.2 = 1)
def carAdd (xs : List Int) (n : Int) : Int := if codeN xs n = 0 then (addS xs n xs.length).2.1 else 0
theorem resAdd_len (xs : List Int) (n : Int) : (resAdd xs n).length ≤ 12 := by
  unfold resAdd; split
  · rename_i h; rw [addS_len]; exact (okC_len (codeN_ok h).1).2
  · simp
end
end Go.Proofs.YticnemjjjceiaaaGreatDoor
/- CntJ -/
namespace Go.Proofs.YticnemjjjceiaaaGreatDoor
open Go Go.Gw
set_option linter.unusedVariables false
set_option linter.unusedSimpArgs false
/-- the digits after a number has been taken away, by its complement -/
def takeP (xs : List Int) (n : Int) : List Int × Int × Int := addS xs (10 ^ xs.length - 1 - n) xs.length
def takeD (xs : List Int) (n : Int) : List Int := if (takeP xs n).2.2 = 1 then (addS (takeP xs n).1 1 (takeP xs n).1.length).1 else (takeP xs n).1
def resTake (xs : List Int) (n : Int) : List Int := if codeN xs n = 0 then takeD xs n else []
def topTake (xs : List Int) (n : Int) : Bool := decide (codeN xs n = 0 ∧ (takeP xs n).2.2 = 1)
theorem takeP_len (xs : List Int) (n : Int) : (takeP xs n).1.length = xs.length := addS_len _ _ _
theorem takeD_len (xs : List Int) (n : Int) : (takeD xs n).length = xs.length := by
  unfold takeD; split
  · rw [addS_len, takeP_len]
  · rw [takeP_len]
theorem resTake_len (xs : List Int) (n : Int) : (resTake xs n).length ≤ 12 := by
  unfold resTake; split
  · rename_i h; rw [takeD_len]; exact (okC_len (codeN_ok h).1).2
  · simp
section
variable {w : World} {v v' : Value} {xs ys : List Int} {lo hi lo' hi' b b' : Nat}

/-! ### complements -/
def comp (xs : List Int) : List Int := (List.range xs.length).map fun j => 9 - xs.getD j 0
theorem comp_len (xs : List Int) : (comp xs).length = xs.length := by simp [comp]
theorem comp_map (xs : List Int) : comp xs = xs.map fun d => 9 - d := by
  apply List.ext_getElem (by simp [comp])
  intro i h1 h2
  have hi : i < xs.length := by simpa [comp] using h1
  simp [comp, List.getD_eq_getElem?_getD, hi]
theorem digs_comp : ∀ (xs : List Int), Digs xs → digs xs.length (10 ^ xs.length - 1 - valD xs) = xs.map fun d => 9 - d
  | [], _ => rfl
  | d :: r, h => by
    have h1 := h d (by simp)
    have h2 := valD_bd (xs := r) (fun x hx => h x (by simp [hx]))
    have ih := digs_comp r (fun x hx => h x (by simp [hx]))
    rw [List.length_cons, digs, valD, Int.pow_succ]
    rw [show (10 ^ r.length * 10 - 1 - (d + 10 * valD r)) % 10 = 9 - d by omega, show (10 ^ r.length * 10 - 1 - (d + 10 * valD r)) / 10 = 10 ^ r.length - 1 - valD r by omega, ih]
    rfl
def resComp (xs : List Int) : List Int := if okC xs = true then comp xs else []
def codeOk (xs : List Int) : Int := if okC xs = true then 0 else 1
theorem resComp_len (xs : List Int) : (resComp xs).length ≤ 12 := by
  unfold resComp; split
  · rename_i h; rw [comp_len]; exact (okC_len h).2
  · simp

/-! ### splitting -/
def splitC (xs : List Int) (k : Int) : Int := if okC xs = true then (if 1 ≤ k ∧ k ≤ xs.length - 1 then 0 else 2) else 1
def resLow (xs : List Int) (k : Int) : List Int := if splitC xs k = 0 then xs.take k.toNat else []
def resHigh (xs : List Int) (k : Int) : List Int := if splitC xs k = 0 then xs.drop k.toNat else []
theorem splitC_ok {xs : List Int} {k : Int} (h : splitC xs k = 0) : okC xs = true ∧ 1 ≤ k ∧ k ≤ xs.length - 1 := by
  by_cases hk : okC xs = true
  · by_cases hn : 1 ≤ k ∧ k ≤ xs.length - 1
    · exact ⟨hk, hn⟩
    · simp only [splitC, hk, if_true, if_neg hn] at h; omega
  · simp [splitC, hk] at h
theorem resSplit_len (xs : List Int) (k : Int) : (resLow xs k).length ≤ 12 ∧ (resHigh xs k).length ≤ 12 := by
  unfold resLow resHigh; split
  · rename_i h; have := okC_len (splitC_ok h).1; simp; omega
  · simp
end
end Go.Proofs.YticnemjjjceiaaaGreatDoor
/- OpB -/
namespace Go.Proofs.YticnemjjjceiaaaGreatDoor
open Go Go.Gw Go.ChangeShapes Go.WideShapes
set_option linter.unusedVariables false
set_option maxRecDepth 100000
section
variable {w : World} {r : Reach} {b0 : Nat} {v : Value}
/-- a slice of bytes -/
structure OBy where
  v : Value
  xs : List UInt8
structure OBy.ok (w : World) (x : OBy) : Prop where
  sl : SL w 0 w.heap.size x.v x.xs
theorem rd_bytes {cs : List Value} (h : Rd Tryz.prog w 22 cs) : ∃ v xs, cs = [v] ∧ SL w 0 w.heap.size v (xs : List UInt8) ∧ ∀ x ∈ xs, True :=
  SL.of_rd Tryz.underlying22 (by kernel_rfl) (dec_u8 Tryz.underlying5) h
theorem open_Sl_uint8 (hv : Value.okWide Tryz.prog w r b0 22 v) (h : Rd Tryz.prog w 22 v.cells.toList) : ∃ x : { x : OBy // x.ok w }, v = x.1.v := by
  obtain ⟨a, l, c, rfl⟩ := okWide_slice Tryz.underlying22 hv
  obtain ⟨u, xs, hu, hs, hq⟩ := rd_bytes h
  simp only [Value.cells, List.cons.injEq, and_true] at hu
  subst hu
  exact ⟨⟨⟨_, xs⟩, ⟨hs⟩⟩, rfl⟩
end
end Go.Proofs.YticnemjjjceiaaaGreatDoor
/- BalA -/
namespace Go.Proofs.YticnemjjjceiaaaGreatDoor
open Go Go.Gw
set_option linter.unusedVariables false
set_option linter.unusedSimpArgs false
theorem getD_in {xs : List Int} {i : Nat} (h : i < xs.length) : xs.getD i 0 ∈ xs := by rw [List.getD_eq_getElem?_getD, List.getElem?_eq_getElem h]; exact List.getElem_mem h
section
variable {w : World} {lo hi b l9 k9 : Nat} {B : Int} {v : Value} {p : List UInt8} {xs : List Int}
theorem f6big_c (h : SL w lo hi v p := by repeat (first | assumption | exact Go.Gw.Own.sl (by assumption) | exact Go.Gw.Box.at (by assumption) | exact Go.Gw.SLL.el (by first | assumption | exact Go.Gw.OwnD.sll (by assumption)) _ (by omega) | exact Go.Gw.SLL.at (by first | assumption | exact Go.Gw.OwnD.sll (by assumption)) (by omega) | exact Go.Gw.OwnD.sll (by assumption) | (apply Go.Gw.SL.chg; case hx => assumption) | (apply Go.Gw.Own.chg; case hx => assumption) | (apply Go.Gw.Box.chg; case hx => assumption) | (apply Go.Gw.At.chg; case hx => assumption) | exact .inl (Nat.zero_le _) | exact .inr (Nat.zero_le _) | (show _ ∨ _; omega))) : Ret Tryz.prog 5 [v] w fun u w' => ∃ z, u = .bool z ∧ Ext w w' := by
  have E : Since 0 0 w w := Since.refl 0 0 w
  refine ret_enter Tryz.func5 rfl Tryz.ntmps5 rfl ?_
  focus have ht_h := h.top; refine c_seq ?_; refine c_region ?_; refine w_pure (y_assign rfl) rfl ?_; refine w_nil ?_; refine x_next ?_; refine c_seq ?_; refine c_region ?_; refine w_pure (y_move rfl) rfl ?_; refine w_pure (y_len rfl) rfl ?_; refine w_pure (y_gt rfl rfl) rfl ?_; refine w_pure (y_assign rfl) rfl ?_; refine w_nil ?_; refine x_next ?_; refine c_ret ?_; rotate_left
  exact x_retv [_] rfl ⟨rfl, trivial⟩ ⟨_, rfl, E.go⟩
theorem srcFrom_z (h : SL w lo hi v p := by repeat (first | assumption | exact Go.Gw.Own.sl (by assumption) | exact Go.Gw.Box.at (by assumption) | exact Go.Gw.SLL.el (by first | assumption | exact Go.Gw.OwnD.sll (by assumption)) _ (by omega) | exact Go.Gw.SLL.at (by first | assumption | exact Go.Gw.OwnD.sll (by assumption)) (by omega) | exact Go.Gw.OwnD.sll (by assumption) | (apply Go.Gw.SL.chg; case hx => assumption) | (apply Go.Gw.Own.chg; case hx => assumption) | (apply Go.Gw.Box.chg; case hx => assumption) | (apply Go.Gw.At.chg; case hx => assumption) | exact .inl (Nat.zero_le _) | exact .inr (Nat.zero_le _) | (show _ ∨ _; omega))) : Ret Tryz.prog 48 [v] w fun u w' => ∃ c, u = ptr c 0 ∧ w.heap.size ≤ c ∧ Src w' lo hi c 0 ∧ c < w'.heap.size ∧ Ext w w' :=
  (srcFrom_c h).mono fun u w' ⟨c, h1, h2, h3, h4⟩ => ⟨c, h1, h2, h3, h3.top, h4⟩
theorem srcAmong_c (hs : SL w l9 k9 v xs := by repeat (first | assumption | exact Go.Gw.Own.sl (by assumption) | exact Go.Gw.Box.at (by assumption) | exact Go.Gw.SLL.el (by first | assumption | exact Go.Gw.OwnD.sll (by assumption)) _ (by omega) | exact Go.Gw.SLL.at (by first | assumption | exact Go.Gw.OwnD.sll (by assumption)) (by omega) | exact Go.Gw.OwnD.sll (by assumption) | (apply Go.Gw.SL.chg; case hx => assumption) | (apply Go.Gw.Own.chg; case hx => assumption) | (apply Go.Gw.Box.chg; case hx => assumption) | (apply Go.Gw.At.chg; case hx => assumption) | exact .inl (Nat.zero_le _) | exact .inr (Nat.zero_le _) | (show _ ∨ _; omega))) (h : Src w lo hi b B := by assumption) (hB : B ≤ 10000000000 := by omega) (hn : 1 ≤ xs.length ∧ xs.length ≤ 1000 := by first | omega | (simp only [List.length_cons, List.length_nil]; omega)) (hm : ∀ x ∈ xs, In64 x := by intro x hx; simp only [List.mem_cons, List.not_mem_nil, or_false] at hx; exact ⟨by omega, by omega⟩) (hd : b < l9 ∨ k9 ≤ b := by omega) : Ret Tryz.prog 97 [ptr b 0, v] w fun u w' => ∃ x, u = .int .i64 x ∧ In64 x ∧ Src w' lo hi b (B + 2) ∧ Chg b (b + 1) w w' := by
  have htop := h.top
  have E : Since b (b + 1) w w := Since.refl _ _ _
  refine ret_enter Tryz.func97 rfl Tryz.ntmps97 rfl ?_
  focus have ht_hs := hs.top; have ht_h := h.top; refine c_seq ?_; refine c_region ?_; refine w_pure (y_assign rfl) rfl ?_; refine w_nil ?_; refine x_next ?_; refine c_seq ?_; refine c_region ?_; refine w_pure (y_move rfl) rfl ?_; refine w_pure (y_move rfl) rfl ?_; refine w_pure (y_move rfl) rfl ?_; refine w_pure (y_len rfl) rfl ?_; (refine w_call rfl rfl rfl (srcPick_z _) rfl ?_; rintro _ w9 ⟨x9, ⟨rfl, ⟨⟨hp1_9, hp2_9⟩, ⟨hp3_9, hx9⟩⟩⟩⟩); have hz_hx9 := hx9.size; replace hs := hs.chg hx9 (by omega); replace E := E.trans hx9; refine w_pure (y_index rfl rfl) rfl ?_; refine w_pure (y_load_int rfl) rfl ?_; refine w_pure (y_assign rfl) rfl ?_; refine w_nil ?_; refine x_next ?_; refine c_ret ?_; rotate_left
  exact x_retv [_] rfl ⟨rfl, trivial⟩ ⟨_, rfl, hm _ (getD_in (by omega)), hp3_9, E.go⟩
end
end Go.Proofs.YticnemjjjceiaaaGreatDoor
/- BalD -/
namespace Go.Proofs.YticnemjjjceiaaaGreatDoor
open Go Go.Gw
set_option linter.unusedVariables false
set_option linter.unusedSimpArgs false
theorem powB {k : Nat} (h : k ≤ 4) : 1 ≤ (10 : Int) ^ k ∧ (10 : Int) ^ k ≤ 10000 := ⟨by have := pow10_pos k; omega, pow10_le h⟩
theorem last_bd {xs : List Int} (h : ∀ x ∈ xs, -10000 ≤ x ∧ x ≤ 10000) (i : Nat) : -10000 ≤ xs.getD i 0 ∧ xs.getD i 0 ≤ 10000 := by
  by_cases hi : i < xs.length
  · exact h _ (getD_in hi)
  · rw [List.getD_eq_getElem?_getD, List.getElem?_eq_none (by omega)]; simp
theorem snoc_bd {xs : List Int} {y : Int} (h : ∀ x ∈ xs, -10000 ≤ x ∧ x ≤ 10000) (hy : -10000 ≤ y ∧ y ≤ 10000) : ∀ x ∈ xs ++ [y], -10000 ≤ x ∧ x ≤ 10000 := fun x hx => by
  rw [List.mem_append, List.mem_singleton] at hx
  rcases hx with hx | rfl
  · exact h x hx
  · exact hy
section
variable {w : World} {lo hi b l9 k9 : Nat} {B : Int} {v : Value} {p : List UInt8} {xs : List Int}
theorem srcAmong_z (hs : SL w l9 k9 v xs := by repeat (first | assumption | exact Go.Gw.Own.sl (by assumption) | exact Go.Gw.Box.at (by assumption) | exact Go.Gw.SLL.el (by first | assumption | exact Go.Gw.OwnD.sll (by assumption)) _ (by omega) | exact Go.Gw.SLL.at (by first | assumption | exact Go.Gw.OwnD.sll (by assumption)) (by omega) | exact Go.Gw.OwnD.sll (by assumption) | (apply Go.Gw.SL.chg; case hx => assumption) | (apply Go.Gw.Own.chg; case hx => assumption) | (apply Go.Gw.Box.chg; case hx => assumption) | (apply Go.Gw.At.chg; case hx => assumption) | exact .inl (Nat.zero_le _) | exact .inr (Nat.zero_le _) | (show _ ∨ _; omega))) (h : Src w lo hi b B := by assumption) (hB : B ≤ 10000000000 := by omega) (hn : 1 ≤ xs.length ∧ xs.length ≤ 1000 := by first | omega | (simp only [List.length_cons, List.length_nil]; omega)) (hd : b < l9 ∨ k9 ≤ b := by omega) : Ret Tryz.prog 97 [ptr b 0, v] w fun u w' => ∃ x, u = .int .i64 x ∧ x ∈ xs ∧ Src w' lo hi b (B + 2) ∧ Chg b (b + 1) w w' := by
  have htop := h.top
  have E : Since b (b + 1) w w := Since.refl _ _ _
  refine ret_enter Tryz.func97 rfl Tryz.ntmps97 rfl ?_
  focus have ht_hs := hs.top; have ht_h := h.top; refine c_seq ?_; refine c_region ?_; refine w_pure (y_assign rfl) rfl ?_; refine w_nil ?_; refine x_next ?_; refine c_seq ?_; refine c_region ?_; refine w_pure (y_move rfl) rfl ?_; refine w_pure (y_move rfl) rfl ?_; refine w_pure (y_move rfl) rfl ?_; refine w_pure (y_len rfl) rfl ?_; (refine w_call rfl rfl rfl (srcPick_z _) rfl ?_; rintro _ w9 ⟨x9, ⟨rfl, ⟨⟨hp1_9, hp2_9⟩, ⟨hp3_9, hx9⟩⟩⟩⟩); have hz_hx9 := hx9.size; replace hs := hs.chg hx9 (by omega); replace E := E.trans hx9; refine w_pure (y_index rfl rfl) rfl ?_; refine w_pure (y_load_int rfl) rfl ?_; refine w_pure (y_assign rfl) rfl ?_; refine w_nil ?_; refine x_next ?_; refine c_ret ?_; rotate_left
  exact x_retv [_] rfl ⟨rfl, trivial⟩ ⟨_, rfl, getD_in (by omega), hp3_9, E.go⟩
theorem l00MinB_c (a b : Int) : Pur Tryz.prog 94 [.int .i64 a, .int .i64 b] (.int .i64 (min a b)) := by
  refine ⟨fun w => ?_⟩
  refine ret_enter Tryz.func94 rfl Tryz.ntmps94 rfl ?_
  focus refine c_seq ?_; refine c_region ?_; refine w_pure (y_assign rfl) rfl ?_; refine w_nil ?_; refine x_next ?_; refine c_seq ?_; refine c_seq ?_; refine c_region ?_; refine w_pure (y_move rfl) rfl ?_; refine w_pure (y_move rfl) rfl ?_; refine w_pure (y_lt rfl rfl) rfl ?_; refine w_nil ?_; refine x_next ?_; (refine c_dec rfl (fun hc7 => ?_) (fun hc7 => ?_) <;> try (first | exact absurd rfl hc7 | contradiction | exact Bool.noConfusion (show false = true from hc7.symm.trans (by assumption)) | exact Bool.noConfusion (show true = false from hc7.symm.trans (by assumption)) | (exfalso; omega) | (exfalso; simp only [*, Bool.not_true, Bool.not_false, reduceCtorEq] at hc7; done))); refine c_seq ?_; refine c_region ?_; refine w_pure (y_move rfl) rfl ?_; refine w_pure (y_assign rfl) rfl ?_; refine w_nil ?_; refine x_next ?_; refine c_ret ?_; refine x_then_ret ?_; rotate_left; refine c_skip ?_; refine x_next ?_; refine c_seq ?_; refine c_region ?_; refine w_pure (y_move rfl) rfl ?_; refine w_pure (y_assign rfl) rfl ?_; refine w_nil ?_; refine x_next ?_; refine c_ret ?_; rotate_left
  all_goals refine x_retv [_] rfl ⟨rfl, trivial⟩ ⟨?_, rfl⟩
  all_goals simp only [ofResults]; congr 1; omega
end
end Go.Proofs.YticnemjjjceiaaaGreatDoor

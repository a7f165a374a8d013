/- Contracts: decks that are valid; how many columns they have; copies of cards. -/
import Derived.Test.YtihnhelkfiaimaaGreatDoorCrdA
import Derived.Test.YtihnhelkfiaimaaGreatDoorDkA
namespace Go.Proofs.YtihnhelkfiaimaaGreatDoor
open Go Go.Gw
set_option linter.unusedVariables false
set_option linter.unusedSimpArgs false
/-- a card of a deck -/
def okAt (xss : List (List Int)) (i : Nat) : Prop := okK (xss.getD i []) = true ∧ (xss.getD i []).length = (xss.getD 0 []).length
instance (xss : List (List Int)) (i : Nat) : Decidable (okAt xss i) := by unfold okAt; infer_instance
def okD (xss : List (List Int)) : Bool := decide (∀ i, i < xss.length → okAt xss i) && decide (xss.length ≤ 40)
theorem okD_at {xss : List (List Int)} (h : okD xss = true) (i : Nat) (hi : i < xss.length) : okAt xss i := by
  simp only [okD, Bool.and_eq_true, decide_eq_true_eq] at h; exact h.1 i hi
theorem okD_len {xss : List (List Int)} (h : okD xss = true) : xss.length ≤ 40 := by
  simp only [okD, Bool.and_eq_true, decide_eq_true_eq] at h; exact h.2
theorem okD_no {xss : List (List Int)} (i : Nat) (hi : i < xss.length) (h : ¬ okAt xss i) : okD xss = false := by
  cases hk : okD xss
  · rfl
  · exact absurd (okD_at hk i hi) h
theorem okD_yes {xss : List (List Int)} (h : ∀ i, i < xss.length → okAt xss i) : okD xss = decide ((xss.length : Int) ≤ 40) := by
  have e : decide ((xss.length : Int) ≤ 40) = decide (xss.length ≤ 40) := by congr 1; simp; omega
  rw [okD, decide_eq_true h, Bool.true_and, e]
/-- how many columns the cards of a deck have -/
def widD (xss : List (List Int)) : Int := if xss.length = 0 then 20 else (xss.getD 0 []).length
theorem widD_bd {xss : List (List Int)} (h : okD xss = true) : 1 ≤ widD xss ∧ widD xss ≤ 20 := by
  unfold widD; split
  · omega
  · have := okK_len (okD_at h 0 (by omega)).1; omega
theorem widD_at {xss : List (List Int)} (h : okD xss = true) (i : Nat) (hi : i < xss.length) : ((xss.getD i []).length : Int) = widD xss := by
  unfold widD; rw [if_neg (by omega), (okD_at h i hi).2]
section
variable {w : World} {lo hi lo' hi' e : Nat} {v v' : Value} {xs ys : List Int} {xss yss : List (List Int)} {svs sus : List SV} {b o : Nat}
theorem iValidDeck_c (h : SLL w lo hi svs v xss := by repeat (first | assumption | exact Go.Gw.Own.sl (by assumption) | exact Go.Gw.Box.at (by assumption) | exact Go.Gw.SLL.el (by first | assumption | exact Go.Gw.OwnD.sll (by assumption)) _ (by omega) | exact Go.Gw.SLL.at (by first | assumption | exact Go.Gw.OwnD.sll (by assumption)) (by omega) | exact Go.Gw.OwnD.sll (by assumption) | (apply Go.Gw.SL.chg; case hx => assumption) | (apply Go.Gw.Own.chg; case hx => assumption) | (apply Go.Gw.Box.chg; case hx => assumption) | (apply Go.Gw.At.chg; case hx => assumption) | exact .inl (Nat.zero_le _) | exact .inr (Nat.zero_le _) | (show _ ∨ _; omega))) : Val Tryz.prog 106 [v] w (.bool (okD xss)) := by
  refine ⟨fun w1 hx1 => ?_⟩
  replace h := h.ext hx1
  have hsm := h.small
  have E : Since 0 0 w1 w1 := Since.refl 0 0 w1
  refine ret_enter Tryz.func106 rfl Tryz.ntmps106 rfl ?_
  focus
    have ht_h := h.top
    refine c_seq ?_
    refine c_region ?_
    refine w_pure (y_assign rfl) rfl ?_
    refine w_nil ?_
    refine x_next ?_
    refine c_seq ?_
    refine c_seq ?_
    refine c_region ?_
    refine w_pure (y_move rfl) rfl ?_
    refine w_pure (y_lend rfl) rfl ?_
    refine w_pure (y_move rfl) rfl ?_
    refine w_nil ?_
    refine x_next ?_
    refine c_block ?_
    rotate_left
  refine c_loopC 0 0 (ι := Int) (fun x => [(0, v), (5, v), (6, .int .i64 xss.length), (7, .int .i64 x)]) (fun x w' => SLL w' lo hi svs v xss ∧ 0 ≤ x ∧ x ≤ xss.length ∧ ∀ j : Nat, j < x.toNat → okAt xss j) (fun x => (xss.length - x).toNat) 0
    (by repeat (first | exact trivial | refine ⟨rfl, ?_⟩)) ⟨h, by omega, by omega, fun j hj => by simp at hj⟩ ?_
  rintro i w2 hx2 E2 ⟨h2, hi0, hi1, hall⟩
  focus
    have ht_h2 := h2.top
    have hz_hx2 := hx2.size
    replace h := h.ext hx2
    replace E := E.trans hx2
    refine c_seq ?_
    refine c_region ?_
    refine w_pure (y_lt rfl rfl) rfl ?_
    refine w_nil ?_
    refine x_next ?_
    refine c_seq ?_
    (refine c_dec rfl (fun hc8 => ?_) (fun hc8 => ?_) <;> try (first | exact absurd rfl hc8 | contradiction | exact Bool.noConfusion (show false = true from hc8.symm.trans (by assumption)) | exact Bool.noConfusion (show true = false from hc8.symm.trans (by assumption)) | (exfalso; omega) | (exfalso; simp only [*, Bool.not_true, Bool.not_false, reduceCtorEq] at hc8; done)))
    refine c_skip ?_
    refine x_next ?_
    refine c_seq ?_
    refine c_block ?_
    refine c_seq ?_
    refine c_region ?_
    refine w_pure (y_indexd rfl rfl) rfl ?_
    refine w_pure (y_loads rfl) rfl ?_
    refine w_alloc (k := fun b4 w4 hb4 hx4 hl4 hs4 => ?_)
    have hz_hx4 := hx4.size
    replace E2 := E2.trans hx4
    replace h2 := h2.ext hx4
    replace h := h.ext hx4
    replace E := E.trans hx4
    refine w_store_boxs rfl rfl (next := fun ws17 hbs17 hxs17 hss17 => ?_)
    (replace hb4 := hbs17; clear hbs17)
    have hz_hxs17 := hxs17.size
    replace E2 := E2.next hxs17 (by omega)
    replace h2 := h2.chg hxs17 (by omega)
    replace h := h.chg hxs17 (by omega)
    replace E := E.next hxs17 (by omega)
    refine w_nil ?_
    refine x_next ?_
    refine c_seq ?_
    refine c_region_held mixed (fun wr4 hxr4 hzr4 => ?_)
    have hz_hxr4 := hxr4.size
    replace hb4 := hb4.ext hxr4
    replace E2 := E2.trans hxr4
    replace h2 := h2.ext hxr4
    replace h := h.ext hxr4
    replace E := E.trans hxr4
    refine h_pure rfl (y_load_boxs rfl) rfl ?_
    refine h_one rfl ?_
    refine w_val rfl rfl rfl (iValidCard_c) rfl (fun w12 hx12 hz12 => ?_)
    have hz_hx12 := hx12.size
    replace hb4 := hb4.ext hx12
    replace E2 := E2.trans hx12
    replace h2 := h2.ext hx12
    replace h := h.ext hx12
    replace E := E.trans hx12
    refine w_nil ?_
    refine x_held ?_
    refine h_pure rfl (y_not rfl) rfl ?_
    refine h_pure rfl (y_move rfl) rfl ?_
    (refine h_part rfl rfl (fun hc15 => ?_) (fun hc15 => ?_) <;> try (first | exact absurd rfl hc15 | contradiction | exact Bool.noConfusion (show false = true from hc15.symm.trans (by assumption)) | exact Bool.noConfusion (show true = false from hc15.symm.trans (by assumption)) | (exfalso; omega) | (exfalso; simp only [*, Bool.not_true, Bool.not_false, reduceCtorEq] at hc15; done)))
    refine h_no rfl rfl rfl rfl rfl ?_
    refine h_no rfl rfl rfl rfl rfl ?_
    refine h_no rfl rfl rfl rfl rfl ?_
    refine h_no rfl rfl rfl rfl rfl ?_
    refine h_no rfl rfl rfl rfl rfl ?_
    refine h_no rfl rfl rfl rfl rfl ?_
    refine h_no rfl rfl rfl rfl rfl ?_
    refine h_pure rfl (y_pick_t rfl rfl) rfl ?_
    refine h_nil ?_
    refine x_next ?_
    refine c_true rfl ?_
    refine c_seq ?_
    refine c_region ?_
    refine w_pure (y_assign rfl) rfl ?_
    refine w_nil ?_
    refine x_next ?_
    refine c_ret ?_
    refine x_block_ret ?_
    refine x_then_ret ?_
    refine x_then_ret ?_
    refine x_block_ret ?_
    refine x_then_ret ?_
    rotate_left
    refine h_yes rfl rfl rfl (y_load_boxs rfl) rfl ?_
    (refine h_part rfl rfl (fun hc16 => ?_) (fun hc16 => ?_) <;> try (first | exact absurd rfl hc16 | contradiction | exact Bool.noConfusion (show false = true from hc16.symm.trans (by assumption)) | exact Bool.noConfusion (show true = false from hc16.symm.trans (by assumption)) | (exfalso; omega) | (exfalso; simp only [*, Bool.not_true, Bool.not_false, reduceCtorEq] at hc16; done)))
    refine h_turn ?_
    refine h_yes rfl rfl rfl (y_move rfl) rfl ?_
    refine h_yes rfl rfl rfl (y_indexd rfl rfl) rfl ?_
    refine h_yes rfl rfl rfl (y_loads rfl) rfl ?_
    (refine h_part rfl rfl (fun hc20 => ?_) (fun hc20 => ?_) <;> try (first | exact absurd rfl hc20 | contradiction | exact Bool.noConfusion (show false = true from hc20.symm.trans (by assumption)) | exact Bool.noConfusion (show true = false from hc20.symm.trans (by assumption)) | (exfalso; omega) | (exfalso; simp only [*, Bool.not_true, Bool.not_false, reduceCtorEq] at hc20; done)))
    refine h_turn ?_
    (refine h_part rfl rfl (fun hc21 => ?_) (fun hc21 => ?_) <;> try (first | exact absurd rfl hc21 | contradiction | exact Bool.noConfusion (show false = true from hc21.symm.trans (by assumption)) | exact Bool.noConfusion (show true = false from hc21.symm.trans (by assumption)) | (exfalso; omega) | (exfalso; simp only [*, Bool.not_true, Bool.not_false, reduceCtorEq] at hc21; done)))
    refine h_turn ?_
    refine h_turn ?_
    (refine h_part rfl rfl (fun hc16 => ?_) (fun hc16 => ?_) <;> try (first | exact absurd rfl hc16 | contradiction | exact Bool.noConfusion (show false = true from hc16.symm.trans (by assumption)) | exact Bool.noConfusion (show true = false from hc16.symm.trans (by assumption)) | (exfalso; omega) | (exfalso; simp only [*, Bool.not_true, Bool.not_false, reduceCtorEq] at hc16; done)))
    refine h_one rfl ?_
    refine w_yes rfl rfl ?_
    refine w_val rfl rfl rfl (columns_c) rfl (fun w16 hx16 hz16 => ?_)
    have hz_hx16 := hx16.size
    replace hb4 := hb4.ext hx16
    replace E2 := E2.trans hx16
    replace h2 := h2.ext hx16
    replace h := h.ext hx16
    replace E := E.trans hx16
    refine w_nil ?_
    refine x_held ?_
    (refine h_part rfl rfl (fun hc20 => ?_) (fun hc20 => ?_) <;> try (first | exact absurd rfl hc20 | contradiction | exact Bool.noConfusion (show false = true from hc20.symm.trans (by assumption)) | exact Bool.noConfusion (show true = false from hc20.symm.trans (by assumption)) | (exfalso; omega) | (exfalso; simp only [*, Bool.not_true, Bool.not_false, reduceCtorEq] at hc20; done)))
    refine h_one rfl ?_
    refine w_yes rfl rfl ?_
    refine w_val rfl rfl rfl (columns_c) rfl (fun w20 hx20 hz20 => ?_)
    have hz_hx20 := hx20.size
    replace hb4 := hb4.ext hx20
    replace E2 := E2.trans hx20
    replace h2 := h2.ext hx20
    replace h := h.ext hx20
    replace E := E.trans hx20
    refine w_nil ?_
    refine x_held ?_
    refine h_yes rfl rfl rfl (y_ne rfl rfl) rfl ?_
    refine h_pure rfl (y_pick_f rfl rfl) rfl ?_
    refine h_nil ?_
    refine x_next ?_
    (refine c_dec rfl (fun hc22 => ?_) (fun hc22 => ?_) <;> try (first | exact absurd rfl hc22 | contradiction | exact Bool.noConfusion (show false = true from hc22.symm.trans (by assumption)) | exact Bool.noConfusion (show true = false from hc22.symm.trans (by assumption)) | (exfalso; omega) | (exfalso; simp only [*, Bool.not_true, Bool.not_false, reduceCtorEq] at hc22; done)))
    refine c_seq ?_
    refine c_region ?_
    refine w_pure (y_assign rfl) rfl ?_
    refine w_nil ?_
    refine x_next ?_
    refine c_ret ?_
    refine x_block_ret ?_
    refine x_then_ret ?_
    refine x_then_ret ?_
    refine x_block_ret ?_
    refine x_then_ret ?_
    rotate_left
    refine c_skip ?_
    refine x_block_norm ?_
    refine x_next ?_
    refine c_region ?_
    refine w_pure (y_add rfl rfl) rfl ?_
    refine w_pure (y_move rfl) rfl ?_
    refine w_nil ?_
    rotate_left
    refine c_exit ?_
    refine x_then_exit ?_
    refine x_then_exit ?_
    refine x_block_hit ?_
    refine x_next ?_
    refine c_seq ?_
    refine c_region ?_
    refine w_pure (y_move rfl) rfl ?_
    refine w_pure (y_lend rfl) rfl ?_
    refine w_pure (y_le rfl rfl) rfl ?_
    refine w_pure (y_assign rfl) rfl ?_
    refine w_nil ?_
    refine x_next ?_
    refine c_ret ?_
    rotate_left
  · refine x_retv [_] rfl ⟨rfl, trivial⟩ ⟨?_, E.go⟩
    rw [okD_no i.toNat (by omega) (fun hh => by have := hh.1; rw [this] at hc15; cases hc15)]; rfl
  · refine x_retv [_] rfl ⟨rfl, trivial⟩ ⟨?_, E.go⟩
    rw [okD_no i.toNat (by omega) (fun hh => by have := hh.2; exact hc22 (by rw [this]; rfl))]; rfl
  · refine x_again (i + 1) (by repeat (first | exact trivial | refine ⟨rfl, ?_⟩)) ⟨E2.go, by assumption, by omega, by omega, fun j hj => ?_⟩ (by omega)
    by_cases ej : j = i.toNat
    · subst ej
      exact ⟨by simpa using hc15, by have e1 := Decidable.not_not.1 hc22; show _ = (xss.getD (Int.toNat 0) []).length; omega⟩
    · exact hall j (by omega)
  · refine x_retv [_] rfl ⟨rfl, trivial⟩ ⟨?_, E.go⟩
    rw [okD_yes (fun j hj => hall j (by omega))]; rfl
theorem l02Deck_c (h : SLL w lo hi svs v xss := by repeat (first | assumption | exact Go.Gw.Own.sl (by assumption) | exact Go.Gw.Box.at (by assumption) | exact Go.Gw.SLL.el (by first | assumption | exact Go.Gw.OwnD.sll (by assumption)) _ (by omega) | exact Go.Gw.SLL.at (by first | assumption | exact Go.Gw.OwnD.sll (by assumption)) (by omega) | exact Go.Gw.OwnD.sll (by assumption) | (apply Go.Gw.SL.chg; case hx => assumption) | (apply Go.Gw.Own.chg; case hx => assumption) | (apply Go.Gw.Box.chg; case hx => assumption) | (apply Go.Gw.At.chg; case hx => assumption) | exact .inl (Nat.zero_le _) | exact .inr (Nat.zero_le _) | (show _ ∨ _; omega))) : Val Tryz.prog 108 [v] w (.bool (okD xss)) := by
  refine ⟨fun w1 hx1 => ?_⟩
  replace h := h.ext hx1
  have hsm := h.small
  have E : Since 0 0 w1 w1 := Since.refl 0 0 w1
  refine ret_enter Tryz.func108 rfl Tryz.ntmps108 rfl ?_
  focus
    have ht_h := h.top
    refine c_seq ?_
    refine c_region ?_
    refine w_pure (y_assign rfl) rfl ?_
    refine w_nil ?_
    refine x_next ?_
    refine c_seq ?_
    refine c_seq ?_
    refine c_region ?_
    refine w_pure (y_assign rfl) rfl ?_
    refine w_nil ?_
    refine x_next ?_
    refine c_block ?_
    rotate_left
  refine c_loopC 0 0 (ι := Int) (fun x => [(0, v), (3, .int .i64 x)]) (fun x w' => SLL w' lo hi svs v xss ∧ 0 ≤ x ∧ x ≤ xss.length ∧ ∀ j : Nat, j < x.toNat → okAt xss j) (fun x => (xss.length - x).toNat) 0
    (by repeat (first | exact trivial | refine ⟨rfl, ?_⟩)) ⟨h, by omega, by omega, fun j hj => by simp at hj⟩ ?_
  rintro i w2 hx2 E2 ⟨h2, hi0, hi1, hall⟩
  focus
    have ht_h2 := h2.top
    have hz_hx2 := hx2.size
    replace h := h.ext hx2
    replace E := E.trans hx2
    refine c_seq ?_
    refine c_seq ?_
    refine c_region ?_
    refine w_pure (y_move rfl) rfl ?_
    refine w_pure (y_move rfl) rfl ?_
    refine w_pure (y_lend rfl) rfl ?_
    refine w_pure (y_lt rfl rfl) rfl ?_
    refine w_nil ?_
    refine x_next ?_
    (refine c_dec rfl (fun hc7 => ?_) (fun hc7 => ?_) <;> try (first | exact absurd rfl hc7 | contradiction | exact Bool.noConfusion (show false = true from hc7.symm.trans (by assumption)) | exact Bool.noConfusion (show true = false from hc7.symm.trans (by assumption)) | (exfalso; omega) | (exfalso; simp only [*, Bool.not_true, Bool.not_false, reduceCtorEq] at hc7; done)))
    refine c_skip ?_
    refine x_next ?_
    refine c_seq ?_
    refine c_block ?_
    refine c_seq ?_
    refine c_region_held mixed (fun wr4 hxr4 hzr4 => ?_)
    have hz_hxr4 := hxr4.size
    replace E2 := E2.trans hxr4
    replace h2 := h2.ext hxr4
    replace h := h.ext hxr4
    replace E := E.trans hxr4
    refine h_pure rfl (y_move rfl) rfl ?_
    refine h_pure rfl (y_move rfl) rfl ?_
    refine h_pure rfl (y_indexd rfl rfl) rfl ?_
    refine h_one rfl ?_
    refine w_val rfl rfl rfl (l02Ok_c) rfl (fun w13 hx13 hz13 => ?_)
    have hz_hx13 := hx13.size
    replace E2 := E2.trans hx13
    replace h2 := h2.ext hx13
    replace h := h.ext hx13
    replace E := E.trans hx13
    refine w_nil ?_
    refine x_held ?_
    refine h_pure rfl (y_not rfl) rfl ?_
    refine h_pure rfl (y_move rfl) rfl ?_
    (refine h_part rfl rfl (fun hc16 => ?_) (fun hc16 => ?_) <;> try (first | exact absurd rfl hc16 | contradiction | exact Bool.noConfusion (show false = true from hc16.symm.trans (by assumption)) | exact Bool.noConfusion (show true = false from hc16.symm.trans (by assumption)) | (exfalso; omega) | (exfalso; simp only [*, Bool.not_true, Bool.not_false, reduceCtorEq] at hc16; done)))
    refine h_no rfl rfl rfl rfl rfl ?_
    refine h_no rfl rfl rfl rfl rfl ?_
    refine h_no rfl rfl rfl rfl rfl ?_
    refine h_no rfl rfl rfl rfl rfl ?_
    refine h_no rfl rfl rfl rfl rfl ?_
    refine h_no rfl rfl rfl rfl rfl ?_
    refine h_no rfl rfl rfl rfl rfl ?_
    refine h_no rfl rfl rfl rfl rfl ?_
    refine h_no rfl rfl rfl rfl rfl ?_
    refine h_no rfl rfl rfl rfl rfl ?_
    refine h_no rfl rfl rfl rfl rfl ?_
    refine h_no rfl rfl rfl rfl rfl ?_
    refine h_pure rfl (y_pick_t rfl rfl) rfl ?_
    refine h_nil ?_
    refine x_next ?_
    refine c_true rfl ?_
    refine c_seq ?_
    refine c_region ?_
    refine w_pure (y_assign rfl) rfl ?_
    refine w_nil ?_
    refine x_next ?_
    refine c_ret ?_
    refine x_block_ret ?_
    refine x_then_ret ?_
    refine x_then_ret ?_
    refine x_block_ret ?_
    refine x_then_ret ?_
    rotate_left
    refine h_yes rfl rfl rfl (y_move rfl) rfl ?_
    refine h_yes rfl rfl rfl (y_move rfl) rfl ?_
    refine h_yes rfl rfl rfl (y_indexd rfl rfl) rfl ?_
    refine h_yes rfl rfl rfl (y_field rfl) rfl ?_
    refine h_yes rfl rfl rfl (y_loadk rfl) rfl ?_
    refine h_yes rfl rfl rfl (y_len rfl) rfl ?_
    refine h_yes rfl rfl rfl (y_move rfl) rfl ?_
    refine h_yes rfl rfl rfl (y_indexd rfl rfl) rfl ?_
    refine h_yes rfl rfl rfl (y_field rfl) rfl ?_
    refine h_yes rfl rfl rfl (y_loadk rfl) rfl ?_
    refine h_yes rfl rfl rfl (y_len rfl) rfl ?_
    refine h_yes rfl rfl rfl (y_ne rfl rfl) rfl ?_
    refine h_pure rfl (y_pick_f rfl rfl) rfl ?_
    refine h_nil ?_
    refine x_next ?_
    (refine c_dec rfl (fun hc28 => ?_) (fun hc28 => ?_) <;> try (first | exact absurd rfl hc28 | contradiction | exact Bool.noConfusion (show false = true from hc28.symm.trans (by assumption)) | exact Bool.noConfusion (show true = false from hc28.symm.trans (by assumption)) | (exfalso; omega) | (exfalso; simp only [*, Bool.not_true, Bool.not_false, reduceCtorEq] at hc28; done)))
    refine c_seq ?_
    refine c_region ?_
    refine w_pure (y_assign rfl) rfl ?_
    refine w_nil ?_
    refine x_next ?_
    refine c_ret ?_
    refine x_block_ret ?_
    refine x_then_ret ?_
    refine x_then_ret ?_
    refine x_block_ret ?_
    refine x_then_ret ?_
    rotate_left
    refine c_skip ?_
    refine x_block_norm ?_
    refine x_next ?_
    refine c_region ?_
    refine w_pure (y_move rfl) rfl ?_
    refine w_pure (y_add rfl rfl) rfl ?_
    refine w_pure (y_assign rfl) rfl ?_
    refine w_nil ?_
    rotate_left
    refine c_exit ?_
    refine x_then_exit ?_
    refine x_then_exit ?_
    refine x_block_hit ?_
    refine x_next ?_
    refine c_seq ?_
    refine c_region ?_
    refine w_pure (y_move rfl) rfl ?_
    refine w_pure (y_lend rfl) rfl ?_
    refine w_pure (y_le rfl rfl) rfl ?_
    refine w_pure (y_assign rfl) rfl ?_
    refine w_nil ?_
    refine x_next ?_
    refine c_ret ?_
    rotate_left
  · refine x_retv [_] rfl ⟨rfl, trivial⟩ ⟨?_, E.go⟩
    rw [okD_no i.toNat (by omega) (fun hh => by have := hh.1; rw [this] at hc16; cases hc16)]; rfl
  · refine x_retv [_] rfl ⟨rfl, trivial⟩ ⟨?_, E.go⟩
    rw [okD_no i.toNat (by omega) (fun hh => by have := hh.2; exact hc28 (by rw [this]; rfl))]; rfl
  · refine x_again (i + 1) (by repeat (first | exact trivial | refine ⟨rfl, ?_⟩)) ⟨E2.go, by assumption, by omega, by omega, fun j hj => ?_⟩ (by omega)
    by_cases ej : j = i.toNat
    · subst ej
      exact ⟨by simpa using hc16, by have e1 := Decidable.not_not.1 hc28; show _ = (xss.getD (Int.toNat 0) []).length; omega⟩
    · exact hall j (by omega)
  · refine x_retv [_] rfl ⟨rfl, trivial⟩ ⟨?_, E.go⟩
    rw [okD_yes (fun j hj => hall j (by omega))]; rfl
theorem deckColumns_c (h : SLL w lo hi svs v xss := by repeat (first | assumption | exact Go.Gw.Own.sl (by assumption) | exact Go.Gw.Box.at (by assumption) | exact Go.Gw.SLL.el (by first | assumption | exact Go.Gw.OwnD.sll (by assumption)) _ (by omega) | exact Go.Gw.SLL.at (by first | assumption | exact Go.Gw.OwnD.sll (by assumption)) (by omega) | exact Go.Gw.OwnD.sll (by assumption) | (apply Go.Gw.SL.chg; case hx => assumption) | (apply Go.Gw.Own.chg; case hx => assumption) | (apply Go.Gw.Box.chg; case hx => assumption) | (apply Go.Gw.At.chg; case hx => assumption) | exact .inl (Nat.zero_le _) | exact .inr (Nat.zero_le _) | (show _ ∨ _; omega))) : Val Tryz.prog 107 [v] w (.int .i64 (widD xss)) := by
  refine ⟨fun w1 hx1 => ?_⟩
  replace h := h.ext hx1
  have E : Since 0 0 w1 w1 := Since.refl 0 0 w1
  refine ret_enter Tryz.func107 rfl Tryz.ntmps107 rfl ?_
  focus
    have ht_h := h.top
    refine c_seq ?_
    refine c_region ?_
    refine w_pure (y_assign rfl) rfl ?_
    refine w_nil ?_
    refine x_next ?_
    refine c_seq ?_
    refine c_seq ?_
    refine c_region ?_
    refine w_pure (y_move rfl) rfl ?_
    refine w_pure (y_lend rfl) rfl ?_
    refine w_pure (y_eq rfl rfl) rfl ?_
    refine w_nil ?_
    refine x_next ?_
    (refine c_dec rfl (fun hc5 => ?_) (fun hc5 => ?_) <;> try (first | exact absurd rfl hc5 | contradiction | exact Bool.noConfusion (show false = true from hc5.symm.trans (by assumption)) | exact Bool.noConfusion (show true = false from hc5.symm.trans (by assumption)) | (exfalso; omega) | (exfalso; simp only [*, Bool.not_true, Bool.not_false, reduceCtorEq] at hc5; done)))
    refine c_seq ?_
    refine c_region ?_
    refine w_pure (y_assign rfl) rfl ?_
    refine w_nil ?_
    refine x_next ?_
    refine c_ret ?_
    refine x_then_ret ?_
    rotate_left
    refine c_skip ?_
    refine x_next ?_
    refine c_seq ?_
    refine c_region ?_
    refine w_pure (y_move rfl) rfl ?_
    refine w_pure (y_indexd rfl rfl) rfl ?_
    refine w_pure (y_loads rfl) rfl ?_
    refine w_val rfl rfl rfl (columns_c) rfl (fun w9 hx9 hz9 => ?_)
    have hz_hx9 := hx9.size
    replace h := h.ext hx9
    replace E := E.trans hx9
    refine w_pure (y_assign rfl) rfl ?_
    refine w_nil ?_
    refine x_next ?_
    refine c_ret ?_
    rotate_left
  · refine x_retv [_] rfl ⟨rfl, trivial⟩ ⟨?_, E.go⟩
    rw [widD, if_pos (by omega)]; rfl
  · refine x_retv [_] rfl ⟨rfl, trivial⟩ ⟨?_, E.go⟩
    rw [widD, if_neg (by omega)]; rfl
theorem l07Width_c (h : SLL w lo hi svs v xss := by repeat (first | assumption | exact Go.Gw.Own.sl (by assumption) | exact Go.Gw.Box.at (by assumption) | exact Go.Gw.SLL.el (by first | assumption | exact Go.Gw.OwnD.sll (by assumption)) _ (by omega) | exact Go.Gw.SLL.at (by first | assumption | exact Go.Gw.OwnD.sll (by assumption)) (by omega) | exact Go.Gw.OwnD.sll (by assumption) | (apply Go.Gw.SL.chg; case hx => assumption) | (apply Go.Gw.Own.chg; case hx => assumption) | (apply Go.Gw.Box.chg; case hx => assumption) | (apply Go.Gw.At.chg; case hx => assumption) | exact .inl (Nat.zero_le _) | exact .inr (Nat.zero_le _) | (show _ ∨ _; omega))) : Val Tryz.prog 132 [v] w (.int .i64 (widD xss)) := by
  refine ⟨fun w1 hx1 => ?_⟩
  replace h := h.ext hx1
  have hsm : 0 < xss.length → ((xss.getD 0 []).length : Int) ≤ 9223372036854775807 := fun hh => (h.el 0 hh).small
  have E : Since 0 0 w1 w1 := Since.refl 0 0 w1
  refine ret_enter Tryz.func132 rfl Tryz.ntmps132 rfl ?_
  focus
    have ht_h := h.top
    refine c_seq ?_
    refine c_region ?_
    refine w_pure (y_assign rfl) rfl ?_
    refine w_nil ?_
    refine x_next ?_
    refine c_seq ?_
    refine c_seq ?_
    refine c_region ?_
    refine w_pure (y_move rfl) rfl ?_
    refine w_pure (y_lend rfl) rfl ?_
    refine w_pure (y_eq rfl rfl) rfl ?_
    refine w_nil ?_
    refine x_next ?_
    (refine c_dec rfl (fun hc5 => ?_) (fun hc5 => ?_) <;> try (first | exact absurd rfl hc5 | contradiction | exact Bool.noConfusion (show false = true from hc5.symm.trans (by assumption)) | exact Bool.noConfusion (show true = false from hc5.symm.trans (by assumption)) | (exfalso; omega) | (exfalso; simp only [*, Bool.not_true, Bool.not_false, reduceCtorEq] at hc5; done)))
    refine c_seq ?_
    refine c_region ?_
    refine w_pure (y_assign rfl) rfl ?_
    refine w_nil ?_
    refine x_next ?_
    refine c_ret ?_
    refine x_then_ret ?_
    rotate_left
    refine c_skip ?_
    refine x_next ?_
    refine c_seq ?_
    refine c_region ?_
    refine w_pure (y_move rfl) rfl ?_
    refine w_pure (y_indexd rfl rfl) rfl ?_
    refine w_pure (y_field rfl) rfl ?_
    refine w_pure (y_loadk rfl) rfl ?_
    refine w_pure (y_len rfl) rfl ?_
    refine w_pure (y_assign rfl) rfl ?_
    refine w_nil ?_
    refine x_next ?_
    refine c_ret ?_
    rotate_left
  · refine x_retv [_] rfl ⟨rfl, trivial⟩ ⟨?_, E.go⟩
    rw [widD, if_pos (by omega)]; rfl
  · refine x_retv [_] rfl ⟨rfl, trivial⟩ ⟨?_, E.go⟩
    rw [widD, if_neg (by omega)]; rfl
theorem l07WidthOf_c (h : SLL w lo hi svs v xss := by repeat (first | assumption | exact Go.Gw.Own.sl (by assumption) | exact Go.Gw.Box.at (by assumption) | exact Go.Gw.SLL.el (by first | assumption | exact Go.Gw.OwnD.sll (by assumption)) _ (by omega) | exact Go.Gw.SLL.at (by first | assumption | exact Go.Gw.OwnD.sll (by assumption)) (by omega) | exact Go.Gw.OwnD.sll (by assumption) | (apply Go.Gw.SL.chg; case hx => assumption) | (apply Go.Gw.Own.chg; case hx => assumption) | (apply Go.Gw.Box.chg; case hx => assumption) | (apply Go.Gw.At.chg; case hx => assumption) | exact .inl (Nat.zero_le _) | exact .inr (Nat.zero_le _) | (show _ ∨ _; omega))) : Val Tryz.prog 109 [v] w (.int .i64 (widD xss)) := by
  refine ⟨fun w1 hx1 => ?_⟩
  replace h := h.ext hx1
  have hsm : 0 < xss.length → ((xss.getD 0 []).length : Int) ≤ 9223372036854775807 := fun hh => (h.el 0 hh).small
  have E : Since 0 0 w1 w1 := Since.refl 0 0 w1
  refine ret_enter Tryz.func109 rfl Tryz.ntmps109 rfl ?_
  focus
    have ht_h := h.top
    refine c_seq ?_
    refine c_region ?_
    refine w_pure (y_assign rfl) rfl ?_
    refine w_nil ?_
    refine x_next ?_
    refine c_seq ?_
    refine c_seq ?_
    refine c_region ?_
    refine w_pure (y_move rfl) rfl ?_
    refine w_pure (y_lend rfl) rfl ?_
    refine w_pure (y_eq rfl rfl) rfl ?_
    refine w_nil ?_
    refine x_next ?_
    (refine c_dec rfl (fun hc5 => ?_) (fun hc5 => ?_) <;> try (first | exact absurd rfl hc5 | contradiction | exact Bool.noConfusion (show false = true from hc5.symm.trans (by assumption)) | exact Bool.noConfusion (show true = false from hc5.symm.trans (by assumption)) | (exfalso; omega) | (exfalso; simp only [*, Bool.not_true, Bool.not_false, reduceCtorEq] at hc5; done)))
    refine c_seq ?_
    refine c_region ?_
    refine w_pure (y_assign rfl) rfl ?_
    refine w_nil ?_
    refine x_next ?_
    refine c_ret ?_
    refine x_then_ret ?_
    rotate_left
    refine c_skip ?_
    refine x_next ?_
    refine c_seq ?_
    refine c_region ?_
    refine w_pure (y_move rfl) rfl ?_
    refine w_pure (y_indexd rfl rfl) rfl ?_
    refine w_pure (y_field rfl) rfl ?_
    refine w_pure (y_loadk rfl) rfl ?_
    refine w_pure (y_len rfl) rfl ?_
    refine w_pure (y_assign rfl) rfl ?_
    refine w_nil ?_
    refine x_next ?_
    refine c_ret ?_
    rotate_left
  · refine x_retv [_] rfl ⟨rfl, trivial⟩ ⟨?_, E.go⟩
    rw [widD, if_pos (by omega)]; rfl
  · refine x_retv [_] rfl ⟨rfl, trivial⟩ ⟨?_, E.go⟩
    rw [widD, if_neg (by omega)]; rfl
theorem newCard_c (h : SL w lo hi v xs := by repeat (first | assumption | exact Go.Gw.Own.sl (by assumption) | exact Go.Gw.Box.at (by assumption) | exact Go.Gw.SLL.el (by first | assumption | exact Go.Gw.OwnD.sll (by assumption)) _ (by omega) | exact Go.Gw.SLL.at (by first | assumption | exact Go.Gw.OwnD.sll (by assumption)) (by omega) | exact Go.Gw.OwnD.sll (by assumption) | (apply Go.Gw.SL.chg; case hx => assumption) | (apply Go.Gw.Own.chg; case hx => assumption) | (apply Go.Gw.Box.chg; case hx => assumption) | (apply Go.Gw.At.chg; case hx => assumption) | exact .inl (Nat.zero_le _) | exact .inr (Nat.zero_le _) | (show _ ∨ _; omega))) (hl : xs.length ≤ 1048576 := by omega) : Ret Tryz.prog 112 [.agg #[v]] w fun u w' => ∃ d, u = .agg #[d] ∧ Own w' 2 w.heap.size d xs ∧ Ext w w' := by
  have E : Since 0 0 w w := Since.refl 0 0 w
  refine ret_enter Tryz.func112 rfl Tryz.ntmps112 rfl ?_
  focus
    have ht_h := h.top
    refine c_seq ?_
    refine c_region ?_
    refine w_box rfl (k := fun b1 w1 hb1 hx1 hl1 hs1 => ?_)
    have hz_hx1 := hx1.size
    replace h := h.ext hx1
    replace E := E.trans hx1
    refine w_alloc (k := fun b2 w2 hb2 hx2 hl2 hs2 => ?_)
    have hz_hx2 := hx2.size
    replace hb1 := hb1.ext hx2
    replace h := h.ext hx2
    replace E := E.trans hx2
    refine w_nil ?_
    refine x_next ?_
    refine c_seq ?_
    refine c_region ?_
    refine w_pure (y_field rfl) rfl ?_
    refine w_pure (y_load_box rfl) rfl ?_
    (refine w_call rfl rfl rfl (copyInts_c _) rfl ?_; rintro v5 w5 ⟨hp1_5, hx5⟩)
    have hl_hp1_5 := hp1_5.lt
    have hz_hx5 := hx5.size
    replace hb2 := hb2.ext hx5
    replace hb1 := hb1.ext hx5
    replace h := h.ext hx5
    replace E := E.trans hx5
    refine w_pure (y_build rfl) rfl ?_
    refine w_store_boxs rfl rfl (next := fun ws13 hbs13 hxs13 hss13 => ?_)
    (replace hb2 := hbs13; clear hbs13)
    have hz_hxs13 := hxs13.size
    replace hp1_5 := hp1_5.chg hxs13 (by omega)
    replace hb1 := hb1.chg hxs13 (by omega)
    replace h := h.chg hxs13 (by omega)
    replace E := E.next hxs13 (by omega)
    refine w_nil ?_
    refine x_next ?_
    refine c_ret ?_
    rotate_left
  exact x_retv [_] rfl ⟨⟨_, rfl, run_load_str (Box.at (by assumption)) (by rfl)⟩, trivial⟩ ⟨_, rfl, Own.base (by assumption) (by omega), E.go⟩
theorem l02Own_c (hp : At w b o [v] := by repeat (first | assumption | exact Go.Gw.Own.sl (by assumption) | exact Go.Gw.Box.at (by assumption) | exact Go.Gw.SLL.el (by first | assumption | exact Go.Gw.OwnD.sll (by assumption)) _ (by omega) | exact Go.Gw.SLL.at (by first | assumption | exact Go.Gw.OwnD.sll (by assumption)) (by omega) | exact Go.Gw.OwnD.sll (by assumption) | (apply Go.Gw.SL.chg; case hx => assumption) | (apply Go.Gw.Own.chg; case hx => assumption) | (apply Go.Gw.Box.chg; case hx => assumption) | (apply Go.Gw.At.chg; case hx => assumption) | exact .inl (Nat.zero_le _) | exact .inr (Nat.zero_le _) | (show _ ∨ _; omega))) (h : SL w lo hi v xs := by repeat (first | assumption | exact Go.Gw.Own.sl (by assumption) | exact Go.Gw.Box.at (by assumption) | exact Go.Gw.SLL.el (by first | assumption | exact Go.Gw.OwnD.sll (by assumption)) _ (by omega) | exact Go.Gw.SLL.at (by first | assumption | exact Go.Gw.OwnD.sll (by assumption)) (by omega) | exact Go.Gw.OwnD.sll (by assumption) | (apply Go.Gw.SL.chg; case hx => assumption) | (apply Go.Gw.Own.chg; case hx => assumption) | (apply Go.Gw.Box.chg; case hx => assumption) | (apply Go.Gw.At.chg; case hx => assumption) | exact .inl (Nat.zero_le _) | exact .inr (Nat.zero_le _) | (show _ ∨ _; omega))) (hl : xs.length ≤ 1048576 := by omega) : Ret Tryz.prog 148 [ptr b o] w fun u w' => ∃ d, u = .agg #[d] ∧ Own w' 2 w.heap.size d xs ∧ Ext w w' := by
  have E : Since 0 0 w w := Since.refl 0 0 w
  refine ret_enter Tryz.func148 rfl Tryz.ntmps148 rfl ?_
  focus
    have ht_h := h.top
    refine c_seq ?_
    refine c_region ?_
    refine w_alloc (k := fun b2 w2 hb2 hx2 hl2 hs2 => ?_)
    have hz_hx2 := hx2.size
    replace hp := hp.ext hx2
    replace h := h.ext hx2
    replace E := E.trans hx2
    refine w_nil ?_
    refine x_next ?_
    refine c_seq ?_
    refine c_region ?_
    refine w_pure (y_move rfl) rfl ?_
    refine w_pure (y_nil rfl) rfl ?_
    refine w_pure (y_field rfl) rfl ?_
    refine w_pure (y_loadk rfl) rfl ?_
    (refine w_call rfl rfl rfl (l00Own_c _) rfl ?_; rintro v7 w7 ⟨hp1_7, hx7⟩)
    have hl_hp1_7 := hp1_7.lt
    have hz_hx7 := hx7.size
    replace hb2 := hb2.ext hx7
    replace hp := hp.ext hx7
    replace h := h.ext hx7
    replace E := E.trans hx7
    refine w_pure (y_build rfl) rfl ?_
    refine w_store_boxs rfl rfl (next := fun ws14 hbs14 hxs14 hss14 => ?_)
    (replace hb2 := hbs14; clear hbs14)
    have hz_hxs14 := hxs14.size
    replace hp1_7 := hp1_7.chg hxs14 (by omega)
    replace h := h.chg hxs14 (by omega)
    replace E := E.next hxs14 (by omega)
    refine w_nil ?_
    refine x_next ?_
    refine c_ret ?_
    rotate_left
  exact x_retv [_] rfl ⟨⟨_, rfl, run_load_str (Box.at (by assumption)) (by rfl)⟩, trivial⟩ ⟨_, rfl, Own.base (by assumption) (by omega), E.go⟩
end
end Go.Proofs.YtihnhelkfiaimaaGreatDoor

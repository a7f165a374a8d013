/- Contracts: cards that are copied into, decks that are reproduced. -/
import Derived.Test.YtkkgkoibabbjoaaCpyA
namespace Go.Proofs.Ytkkgkoibabbjoaa
open Go Go.Gw
set_option linter.unusedVariables false
set_option linter.unusedSimpArgs false
theorem map_take_succ {α β : Type} {d : α} (g : α → β) {xs : List α} {i : Nat} (h : i < xs.length) : (xs.take (i + 1)).map g = (xs.take i).map g ++ [g (xs.getD i d)] := by
  rw [List.take_add_one, List.getD_eq_getElem?_getD, List.getElem?_eq_getElem h, List.map_append]; rfl
theorem map_take_len {α β : Type} (g : α → β) {xs : List α} {i : Nat} (h : i ≤ xs.length) : ((xs.take i).map g).length = i := by simp; omega
/-- a card's columns are in range -/
def Rng (xs : List Int) : Prop := ∀ i, i < xs.length → 0 ≤ xs.getD i 0 ∧ xs.getD i 0 ≤ 4095
theorem rng_of {xs : List Int} (h : okK xs = true) : Rng xs := okK_getD h
theorem rng_zero (k : Nat) : Rng (List.replicate k 0) := fun i hi => by
  simp only [List.length_replicate] at hi
  simp [List.getD_eq_getElem?_getD, List.getElem?_replicate, hi]
section
variable {w : World} {lo hi lo' hi' l2 h2 e b b' o o' : Nat} {v v' v2 d : Value} {xs ys : List Int} {ps : List (Int × Int)} {xss : List (List Int)} {svs : List SV} {f t : Int}
theorem copied_c (h : SL w lo hi v ys := by repeat (first | assumption | exact Go.Gw.Own.sl (by assumption) | exact Go.Gw.Box.at (by assumption) | exact Go.Gw.SLL.el (by first | assumption | exact Go.Gw.OwnD.sll (by assumption)) _ (by omega) | exact Go.Gw.SLL.at (by first | assumption | exact Go.Gw.OwnD.sll (by assumption)) (by omega) | exact Go.Gw.OwnD.sll (by assumption) | (apply Go.Gw.SL.chg; case hx => assumption) | (apply Go.Gw.Own.chg; case hx => assumption) | (apply Go.Gw.Box.chg; case hx => assumption) | (apply Go.Gw.At.chg; case hx => assumption) | exact .inl (Nat.zero_le _) | exact .inr (Nat.zero_le _) | (show _ ∨ _; omega))) (h' : SL w lo' hi' v' xs := by repeat (first | assumption | exact Go.Gw.Own.sl (by assumption) | exact Go.Gw.Box.at (by assumption) | exact Go.Gw.SLL.el (by first | assumption | exact Go.Gw.OwnD.sll (by assumption)) _ (by omega) | exact Go.Gw.SLL.at (by first | assumption | exact Go.Gw.OwnD.sll (by assumption)) (by omega) | exact Go.Gw.OwnD.sll (by assumption) | (apply Go.Gw.SL.chg; case hx => assumption) | (apply Go.Gw.Own.chg; case hx => assumption) | (apply Go.Gw.Box.chg; case hx => assumption) | (apply Go.Gw.At.chg; case hx => assumption) | exact .inl (Nat.zero_le _) | exact .inr (Nat.zero_le _) | (show _ ∨ _; omega))) (hl : SL w l2 h2 v2 ps := by repeat (first | assumption | exact Go.Gw.Own.sl (by assumption) | exact Go.Gw.Box.at (by assumption) | exact Go.Gw.SLL.el (by first | assumption | exact Go.Gw.OwnD.sll (by assumption)) _ (by omega) | exact Go.Gw.SLL.at (by first | assumption | exact Go.Gw.OwnD.sll (by assumption)) (by omega) | exact Go.Gw.OwnD.sll (by assumption) | (apply Go.Gw.SL.chg; case hx => assumption) | (apply Go.Gw.Own.chg; case hx => assumption) | (apply Go.Gw.Box.chg; case hx => assumption) | (apply Go.Gw.At.chg; case hx => assumption) | exact .inl (Nat.zero_le _) | exact .inr (Nat.zero_le _) | (show _ ∨ _; omega))) (hx : Rng xs := by assumption) (hy : Rng ys := by assumption) (hc : okCp ps f t = true := by assumption) (hf : f = xs.length := by first | assumption | omega) (ht : t = ys.length := by first | assumption | omega) :
    Ret Try.prog 37 [.agg #[v], .agg #[v'], v2] w fun u w' => ∃ d, u = .agg #[d] ∧ Own w' 2 w.heap.size d (copyF xs ps ys ps.length) ∧ Ext w w' := by
  have hb := okCp_bd hc
  have hsm := hl.small
  have E : Since 0 0 w w := Since.refl 0 0 w
  refine ret_enter Try.func37 rfl Try.ntmps37 rfl ?_
  focus
    have ht_h := h.top
    have ht_h' := h'.top
    have ht_hl := hl.top
    refine c_seq ?_
    refine c_region ?_
    refine w_box rfl (k := fun b3 w3 hb3 hx3 hl3 hs3 => ?_)
    have hz_hx3 := hx3.size
    replace h := h.ext hx3
    replace h' := h'.ext hx3
    replace hl := hl.ext hx3
    replace E := E.trans hx3
    refine w_box rfl (k := fun b4 w4 hb4 hx4 hl4 hs4 => ?_)
    have hz_hx4 := hx4.size
    replace hb3 := hb3.ext hx4
    replace h := h.ext hx4
    replace h' := h'.ext hx4
    replace hl := hl.ext hx4
    replace E := E.trans hx4
    refine w_alloc (k := fun b6 w6 hb6 hx6 hl6 hs6 => ?_)
    have hz_hx6 := hx6.size
    replace hb4 := hb4.ext hx6
    replace hb3 := hb3.ext hx6
    replace h := h.ext hx6
    replace h' := h'.ext hx6
    replace hl := hl.ext hx6
    replace E := E.trans hx6
    refine w_nil ?_
    refine x_next ?_
    refine c_seq ?_
    refine c_region ?_
    refine w_pure (y_load_boxs rfl) rfl ?_
    (refine w_call rfl rfl rfl (newCard_c) rfl ?_; rintro _ w11 ⟨d11, ⟨rfl, ⟨hp1_11, hx11⟩⟩⟩)
    have hl_hp1_11 := hp1_11.lt
    have hz_hx11 := hx11.size
    replace hb6 := hb6.ext hx11
    replace hb4 := hb4.ext hx11
    replace hb3 := hb3.ext hx11
    replace h := h.ext hx11
    replace h' := h'.ext hx11
    replace hl := hl.ext hx11
    replace E := E.trans hx11
    refine w_alloc (k := fun b7 w7 hb7 hx7 hl7 hs7 => ?_)
    have hz_hx7 := hx7.size
    replace hp1_11 := hp1_11.ext hx7
    replace hb6 := hb6.ext hx7
    replace hb4 := hb4.ext hx7
    replace hb3 := hb3.ext hx7
    replace h := h.ext hx7
    replace h' := h'.ext hx7
    replace hl := hl.ext hx7
    replace E := E.trans hx7
    refine w_store_boxs rfl rfl (next := fun ws13 hbs13 hxs13 hss13 => ?_)
    (replace hb7 := hbs13; clear hbs13)
    have hz_hxs13 := hxs13.size
    replace hp1_11 := hp1_11.chg hxs13 (by omega)
    replace hb6 := hb6.chg hxs13 (by omega)
    replace hb4 := hb4.chg hxs13 (by omega)
    replace hb3 := hb3.chg hxs13 (by omega)
    replace h := h.chg hxs13 (by omega)
    replace h' := h'.chg hxs13 (by omega)
    replace hl := hl.chg hxs13 (by omega)
    replace E := E.next hxs13 (by omega)
    refine w_nil ?_
    refine x_next ?_
    refine c_seq ?_
    refine c_seq ?_
    refine c_region ?_
    refine w_pure (y_move rfl) rfl ?_
    refine w_pure (y_len rfl) rfl ?_
    refine w_pure (y_move rfl) rfl ?_
    refine w_nil ?_
    refine x_next ?_
    refine c_block ?_
    rotate_left
  refine c_loopC (bL d11) (bH d11) (ι := Int) (fun x => [(4, ptr b4 0), (6, ptr b6 0), (7, ptr b7 0), (12, v2), (13, .int .i64 ps.length), (14, .int .i64 x)])
    (fun x w' => SL w' lo' hi' v' xs ∧ SL w' l2 h2 v2 ps ∧ Box w' b4 [v'] ∧ Box w' b6 [.slice none 0 0] ∧ Box w' b7 [d11] ∧ Own w' 2 w.heap.size d11 (copyF xs ps ys x.toNat) ∧ 0 ≤ x ∧ x ≤ ps.length) (fun x => (ps.length - x).toNat) 0
    (by repeat (first | exact trivial | refine ⟨rfl, ?_⟩)) ⟨by assumption, by assumption, by assumption, by assumption, by assumption, Own.base (by assumption) (by omega), by omega, by omega⟩ ?_
  clear hp1_11 hb4 hb6 hb7
  rintro i w2' hx2 E2 ⟨g1, g2, g3, g4, g5, g6, hi0, hi1⟩
  have hlen : (copyF xs ps ys i.toNat).length = ys.length := copyF_len _ _ _ _
  have hat : i < ps.length → 0 ≤ (ps.getD i.toNat (0, 0)).1 ∧ (ps.getD i.toNat (0, 0)).1 < xs.length ∧ 0 ≤ (ps.getD i.toNat (0, 0)).2 ∧ (ps.getD i.toNat (0, 0)).2 < ys.length := fun hh => by have := okCp_at hc i.toNat (by omega); omega
  have hv1 : i < ps.length → 0 ≤ (copyF xs ps ys i.toNat).getD (ps.getD i.toNat (0, 0)).2.toNat 0 ∧ (copyF xs ps ys i.toNat).getD (ps.getD i.toNat (0, 0)).2.toNat 0 ≤ 4095 := fun hh => copyF_bd hx hy f t hc hf i.toNat (by omega) _ (by have := hat hh; omega)
  have hv2 : i < ps.length → 0 ≤ xs.getD (ps.getD i.toNat (0, 0)).1.toNat 0 ∧ xs.getD (ps.getD i.toNat (0, 0)).1.toNat 0 ≤ 4095 := fun hh => hx _ (by have := hat hh; omega)
  have e1 : (i + 1).toNat = i.toNat + 1 := by omega
  focus
    have ht_g1 := g1.top
    have ht_g2 := g2.top
    have hl_g6 := g6.lt
    have hz_hx2 := hx2.size
    replace hb3 := hb3.chg hx2 (by omega)
    replace h := h.chg hx2 (by omega)
    replace h' := h'.chg hx2 (by omega)
    replace hl := hl.chg hx2 (by omega)
    replace E := E.next hx2 (by omega)
    refine c_seq ?_
    refine c_region ?_
    refine w_pure (y_lt rfl rfl) rfl ?_
    refine w_nil ?_
    refine x_next ?_
    refine c_seq ?_
    (refine c_dec rfl (fun hc15 => ?_) (fun hc15 => ?_) <;> try (first | exact absurd rfl hc15 | contradiction | exact Bool.noConfusion (show false = true from hc15.symm.trans (by assumption)) | exact Bool.noConfusion (show true = false from hc15.symm.trans (by assumption)) | (exfalso; omega) | (exfalso; simp only [*, Bool.not_true, Bool.not_false, reduceCtorEq] at hc15; done)))
    refine c_skip ?_
    refine x_next ?_
    refine c_seq ?_
    refine c_block ?_
    refine c_seq ?_
    refine c_region ?_
    refine w_pure (y_index rfl rfl) rfl ?_
    refine w_pure (y_load_pair rfl) rfl ?_
    refine w_alloc (k := fun b9 w9 hb9 hx9 hl9 hs9 => ?_)
    have hz_hx9 := hx9.size
    replace E2 := E2.next hx9 (by omega)
    replace g1 := g1.ext hx9
    replace g2 := g2.ext hx9
    replace g3 := g3.ext hx9
    replace g4 := g4.ext hx9
    replace g5 := g5.ext hx9
    replace g6 := g6.ext hx9
    replace hb3 := hb3.ext hx9
    replace h := h.ext hx9
    replace h' := h'.ext hx9
    replace hl := hl.ext hx9
    replace E := E.trans hx9
    refine w_store_boxs rfl rfl (next := fun ws17 hbs17 hxs17 hss17 => ?_)
    (replace hb9 := hbs17; clear hbs17)
    have hz_hxs17 := hxs17.size
    replace E2 := E2.next hxs17 (by omega)
    replace g1 := g1.chg hxs17 (by omega)
    replace g2 := g2.chg hxs17 (by omega)
    replace g3 := g3.chg hxs17 (by omega)
    replace g4 := g4.chg hxs17 (by omega)
    replace g5 := g5.chg hxs17 (by omega)
    replace g6 := g6.chg hxs17 (by omega)
    replace hb3 := hb3.chg hxs17 (by omega)
    replace h := h.chg hxs17 (by omega)
    replace h' := h'.chg hxs17 (by omega)
    replace hl := hl.chg hxs17 (by omega)
    replace E := E.next hxs17 (by omega)
    refine w_nil ?_
    refine x_next ?_
    refine c_region_held mixed (fun wr5 hxr5 hzr5 => ?_)
    have hz_hxr5 := hxr5.size
    replace hb9 := hb9.ext hxr5
    replace E2 := E2.next hxr5 (by omega)
    replace g1 := g1.ext hxr5
    replace g2 := g2.ext hxr5
    replace g3 := g3.ext hxr5
    replace g4 := g4.ext hxr5
    replace g5 := g5.ext hxr5
    replace g6 := g6.ext hxr5
    replace hb3 := hb3.ext hxr5
    replace h := h.ext hxr5
    replace h' := h'.ext hxr5
    replace hl := hl.ext hxr5
    replace E := E.trans hxr5
    refine h_pure rfl (y_field rfl) rfl ?_
    refine h_pure rfl (y_load_box rfl) rfl ?_
    refine h_pure rfl (y_field rfl) rfl ?_
    refine h_pure rfl (y_load_box rfl) rfl ?_
    refine h_pure rfl (y_index rfl rfl) rfl ?_
    refine h_pure rfl (y_load_int rfl) rfl ?_
    refine h_pure rfl (y_field rfl) rfl ?_
    refine h_pure rfl (y_load_box rfl) rfl ?_
    refine h_pure rfl (y_field rfl) rfl ?_
    refine h_pure rfl (y_load_box rfl) rfl ?_
    refine h_pure rfl (y_index rfl rfl) rfl ?_
    refine h_pure rfl (y_load_int rfl) rfl ?_
    refine h_pure rfl (y_or rfl rfl) rfl ?_
    refine h_pure rfl (y_index rfl rfl) rfl ?_
    refine h_one rfl ?_
    refine w_store_own rfl rfl (next := fun ws36 hos36 hxs36 hss36 => ?_)
    (replace g6 := hos36; clear hos36)
    have hz_hxs36 := hxs36.size
    replace hb9 := hb9.chg hxs36 (by omega)
    replace E2 := E2.trans hxs36
    replace g1 := g1.chg hxs36 (by omega)
    replace g2 := g2.chg hxs36 (by omega)
    replace g3 := g3.chg hxs36 (by omega)
    replace g4 := g4.chg hxs36 (by omega)
    replace g5 := g5.chg hxs36 (by omega)
    replace hb3 := hb3.chg hxs36 (by omega)
    replace h := h.chg hxs36 (by omega)
    replace h' := h'.chg hxs36 (by omega)
    replace hl := hl.chg hxs36 (by omega)
    replace E := E.next hxs36 (by omega)
    refine w_nil ?_
    refine x_heldk ?_
    refine h_nil ?_
    refine x_block_norm ?_
    refine x_next ?_
    refine c_region ?_
    refine w_pure (y_add rfl rfl) rfl ?_
    refine w_pure (y_move rfl) rfl ?_
    refine w_nil ?_
    rotate_left
    refine c_exit ?_
    refine x_then_exit ?_
    refine x_then_exit ?_
    refine x_block_hit ?_
    refine x_next ?_
    refine c_seq ?_
    refine c_region ?_
    refine w_pure (y_load_boxs rfl) rfl ?_
    refine w_store_boxs rfl rfl (next := fun ws55 hbs55 hxs55 hss55 => ?_)
    (replace g4 := hbs55; clear hbs55)
    have hz_hxs55 := hxs55.size
    replace g1 := g1.chg hxs55 (by omega)
    replace g2 := g2.chg hxs55 (by omega)
    replace g3 := g3.chg hxs55 (by omega)
    replace g5 := g5.chg hxs55 (by omega)
    replace g6 := g6.chg hxs55 (by omega)
    replace hb3 := hb3.chg hxs55 (by omega)
    replace h := h.chg hxs55 (by omega)
    replace h' := h'.chg hxs55 (by omega)
    replace hl := hl.chg hxs55 (by omega)
    replace E := E.next hxs55 (by omega)
    refine w_nil ?_
    refine x_next ?_
    refine c_ret ?_
    rotate_left
  · refine x_again (i + 1) (by repeat (first | exact trivial | refine ⟨rfl, ?_⟩)) ⟨E2.go, by assumption, by assumption, by assumption, by assumption, by assumption, ?_, by omega, by omega⟩ (by omega)
    rw [e1]; assumption
  · refine x_retv [_] rfl ⟨⟨_, rfl, run_load_str (Box.at (by assumption)) (by rfl)⟩, trivial⟩ ⟨_, rfl, ?_, E.go⟩
    rw [show i.toNat = ps.length by omega] at g6
    exact g6
theorem l10Copy_c (hp : At w b o [v'] := by repeat (first | assumption | exact Go.Gw.Own.sl (by assumption) | exact Go.Gw.Box.at (by assumption) | exact Go.Gw.SLL.el (by first | assumption | exact Go.Gw.OwnD.sll (by assumption)) _ (by omega) | exact Go.Gw.SLL.at (by first | assumption | exact Go.Gw.OwnD.sll (by assumption)) (by omega) | exact Go.Gw.OwnD.sll (by assumption) | (apply Go.Gw.SL.chg; case hx => assumption) | (apply Go.Gw.Own.chg; case hx => assumption) | (apply Go.Gw.Box.chg; case hx => assumption) | (apply Go.Gw.At.chg; case hx => assumption) | exact .inl (Nat.zero_le _) | exact .inr (Nat.zero_le _) | (show _ ∨ _; omega))) (hp' : At w b' o' [d] := by repeat (first | assumption | exact Go.Gw.Own.sl (by assumption) | exact Go.Gw.Box.at (by assumption) | exact Go.Gw.SLL.el (by first | assumption | exact Go.Gw.OwnD.sll (by assumption)) _ (by omega) | exact Go.Gw.SLL.at (by first | assumption | exact Go.Gw.OwnD.sll (by assumption)) (by omega) | exact Go.Gw.OwnD.sll (by assumption) | (apply Go.Gw.SL.chg; case hx => assumption) | (apply Go.Gw.Own.chg; case hx => assumption) | (apply Go.Gw.Box.chg; case hx => assumption) | (apply Go.Gw.At.chg; case hx => assumption) | exact .inl (Nat.zero_le _) | exact .inr (Nat.zero_le _) | (show _ ∨ _; omega))) (h : SL w (bL d) (bH d) d ys := by repeat (first | assumption | exact Go.Gw.Own.sl (by assumption) | exact Go.Gw.Box.at (by assumption) | exact Go.Gw.SLL.el (by first | assumption | exact Go.Gw.OwnD.sll (by assumption)) _ (by omega) | exact Go.Gw.SLL.at (by first | assumption | exact Go.Gw.OwnD.sll (by assumption)) (by omega) | exact Go.Gw.OwnD.sll (by assumption) | (apply Go.Gw.SL.chg; case hx => assumption) | (apply Go.Gw.Own.chg; case hx => assumption) | (apply Go.Gw.Box.chg; case hx => assumption) | (apply Go.Gw.At.chg; case hx => assumption) | exact .inl (Nat.zero_le _) | exact .inr (Nat.zero_le _) | (show _ ∨ _; omega))) (h' : SL w lo' hi' v' xs := by repeat (first | assumption | exact Go.Gw.Own.sl (by assumption) | exact Go.Gw.Box.at (by assumption) | exact Go.Gw.SLL.el (by first | assumption | exact Go.Gw.OwnD.sll (by assumption)) _ (by omega) | exact Go.Gw.SLL.at (by first | assumption | exact Go.Gw.OwnD.sll (by assumption)) (by omega) | exact Go.Gw.OwnD.sll (by assumption) | (apply Go.Gw.SL.chg; case hx => assumption) | (apply Go.Gw.Own.chg; case hx => assumption) | (apply Go.Gw.Box.chg; case hx => assumption) | (apply Go.Gw.At.chg; case hx => assumption) | exact .inl (Nat.zero_le _) | exact .inr (Nat.zero_le _) | (show _ ∨ _; omega))) (hl : SL w l2 h2 v2 ps := by repeat (first | assumption | exact Go.Gw.Own.sl (by assumption) | exact Go.Gw.Box.at (by assumption) | exact Go.Gw.SLL.el (by first | assumption | exact Go.Gw.OwnD.sll (by assumption)) _ (by omega) | exact Go.Gw.SLL.at (by first | assumption | exact Go.Gw.OwnD.sll (by assumption)) (by omega) | exact Go.Gw.OwnD.sll (by assumption) | (apply Go.Gw.SL.chg; case hx => assumption) | (apply Go.Gw.Own.chg; case hx => assumption) | (apply Go.Gw.Box.chg; case hx => assumption) | (apply Go.Gw.At.chg; case hx => assumption) | exact .inl (Nat.zero_le _) | exact .inr (Nat.zero_le _) | (show _ ∨ _; omega))) (hx : Rng xs := by assumption) (hy : Rng ys := by assumption) (hc : okCp ps f t = true := by assumption) (hf : f = xs.length := by first | assumption | omega) (ht : t = ys.length := by first | assumption | omega)
    (hd : (bH d ≤ lo' ∨ hi' ≤ bL d) ∧ (bH d ≤ l2 ∨ h2 ≤ bL d) ∧ (b < bL d ∨ bH d ≤ b) ∧ (b' < bL d ∨ bH d ≤ b') := by omega) :
    Ret Try.prog 32 [ptr b o, ptr b' o', v2] w fun u w' => u = .tuple #[] ∧ SL w' (bL d) (bH d) d (copyF xs ps ys ps.length) ∧ Chg (bL d) (bH d) w w' := by
  have hb := okCp_bd hc
  have hsm := hl.small
  refine ret_enter Try.func32 rfl Try.ntmps32 rfl ?_
  focus
    have ht_h := h.top
    have ht_h' := h'.top
    have ht_hl := hl.top
    refine c_seq ?_
    refine c_region ?_
    refine w_pure (y_assign rfl) rfl ?_
    refine w_nil ?_
    refine x_next ?_
    refine c_block ?_
    rotate_left
  refine c_loopC (bL d) (bH d) (ι := Int) (fun x => [(0, ptr b o), (1, ptr b' o'), (2, v2), (6, .int .i64 x)])
    (fun x w' => At w' b o [v'] ∧ At w' b' o' [d] ∧ SL w' lo' hi' v' xs ∧ SL w' l2 h2 v2 ps ∧ SL w' (bL d) (bH d) d (copyF xs ps ys x.toNat) ∧ 0 ≤ x ∧ x ≤ ps.length) (fun x => (ps.length - x).toNat) 0
    (by repeat (first | exact trivial | refine ⟨rfl, ?_⟩)) ⟨hp, hp', h', hl, h, by omega, by omega⟩ ?_
  rintro i w2' hx2 E2 ⟨g1, g2, g3, g4, g5, hi0, hi1⟩
  have hlen : (copyF xs ps ys i.toNat).length = ys.length := copyF_len _ _ _ _
  have hat : i < ps.length → 0 ≤ (ps.getD i.toNat (0, 0)).1 ∧ (ps.getD i.toNat (0, 0)).1 < xs.length ∧ 0 ≤ (ps.getD i.toNat (0, 0)).2 ∧ (ps.getD i.toNat (0, 0)).2 < ys.length := fun hh => by have := okCp_at hc i.toNat (by omega); omega
  have hv1 : i < ps.length → 0 ≤ (copyF xs ps ys i.toNat).getD (ps.getD i.toNat (0, 0)).2.toNat 0 ∧ (copyF xs ps ys i.toNat).getD (ps.getD i.toNat (0, 0)).2.toNat 0 ≤ 4095 := fun hh => copyF_bd hx hy f t hc hf i.toNat (by omega) _ (by have := hat hh; omega)
  have hv2 : i < ps.length → 0 ≤ xs.getD (ps.getD i.toNat (0, 0)).1.toNat 0 ∧ xs.getD (ps.getD i.toNat (0, 0)).1.toNat 0 ≤ 4095 := fun hh => hx _ (by have := hat hh; omega)
  have e1 : (i + 1).toNat = i.toNat + 1 := by omega
  have hin := g5.block (by omega)
  focus
    have ht_g3 := g3.top
    have ht_g4 := g4.top
    have ht_g5 := g5.top
    have hz_hx2 := hx2.size
    replace hp := hp.chg hx2 (by omega)
    replace hp' := hp'.chg hx2 (by omega)
    replace h' := h'.chg hx2 (by omega)
    replace hl := hl.chg hx2 (by omega)
    refine c_seq ?_
    refine c_seq ?_
    refine c_region ?_
    refine w_pure (y_move rfl) rfl ?_
    refine w_pure (y_move rfl) rfl ?_
    refine w_pure (y_len rfl) rfl ?_
    refine w_pure (y_lt rfl rfl) rfl ?_
    refine w_nil ?_
    refine x_next ?_
    (refine c_dec rfl (fun hc10 => ?_) (fun hc10 => ?_) <;> try (first | exact absurd rfl hc10 | contradiction | exact Bool.noConfusion (show false = true from hc10.symm.trans (by assumption)) | exact Bool.noConfusion (show true = false from hc10.symm.trans (by assumption)) | (exfalso; omega) | (exfalso; simp only [*, Bool.not_true, Bool.not_false, reduceCtorEq] at hc10; done)))
    refine c_skip ?_
    refine x_next ?_
    refine c_seq ?_
    refine c_block ?_
    refine c_region_held mixed (fun wr3 hxr3 hzr3 => ?_)
    have hz_hxr3 := hxr3.size
    replace E2 := E2.next hxr3 (by omega)
    replace g1 := g1.ext hxr3
    replace g2 := g2.ext hxr3
    replace g3 := g3.ext hxr3
    replace g4 := g4.ext hxr3
    replace g5 := g5.ext hxr3
    replace hp := hp.ext hxr3
    replace hp' := hp'.ext hxr3
    replace h' := h'.ext hxr3
    replace hl := hl.ext hxr3
    refine h_pure rfl (y_move rfl) rfl ?_
    refine h_pure rfl (y_nil rfl) rfl ?_
    refine h_pure rfl (y_field rfl) rfl ?_
    refine h_pure rfl (y_loadk rfl) rfl ?_
    refine h_pure rfl (y_move rfl) rfl ?_
    refine h_pure rfl (y_move rfl) rfl ?_
    refine h_pure rfl (y_index rfl rfl) rfl ?_
    refine h_pure rfl (y_field rfl) rfl ?_
    refine h_pure rfl (y_load_p1 rfl) rfl ?_
    refine h_pure rfl (y_index rfl rfl) rfl ?_
    refine h_pure rfl (y_load_int rfl) rfl ?_
    refine h_pure rfl (y_move rfl) rfl ?_
    refine h_pure rfl (y_nil rfl) rfl ?_
    refine h_pure rfl (y_field rfl) rfl ?_
    refine h_pure rfl (y_loadk rfl) rfl ?_
    refine h_pure rfl (y_move rfl) rfl ?_
    refine h_pure rfl (y_move rfl) rfl ?_
    refine h_pure rfl (y_index rfl rfl) rfl ?_
    refine h_pure rfl (y_field rfl) rfl ?_
    refine h_pure rfl (y_load_p0 rfl) rfl ?_
    refine h_pure rfl (y_index rfl rfl) rfl ?_
    refine h_pure rfl (y_load_int rfl) rfl ?_
    refine h_pure rfl (y_or rfl rfl) rfl ?_
    refine h_pure rfl (y_index rfl rfl) rfl ?_
    refine h_one rfl ?_
    refine w_store_sl rfl rfl (next := fun ws41 hos41 hxs41 hss41 => ?_)
    (replace h := hos41; clear hos41)
    have hz_hxs41 := hxs41.size
    replace E2 := E2.next hxs41 (by omega)
    replace g1 := g1.chg hxs41 (by omega)
    replace g2 := g2.chg hxs41 (by omega)
    replace g3 := g3.chg hxs41 (by omega)
    replace g4 := g4.chg hxs41 (by omega)
    replace hp := hp.chg hxs41 (by omega)
    replace hp' := hp'.chg hxs41 (by omega)
    replace h' := h'.chg hxs41 (by omega)
    replace hl := hl.chg hxs41 (by omega)
    refine w_nil ?_
    refine x_heldk ?_
    refine h_nil ?_
    refine x_block_norm ?_
    refine x_next ?_
    refine c_region ?_
    refine w_pure (y_move rfl) rfl ?_
    refine w_pure (y_add rfl rfl) rfl ?_
    refine w_pure (y_assign rfl) rfl ?_
    refine w_nil ?_
    rotate_left
    refine c_exit ?_
    refine x_then_exit ?_
    refine x_then_exit ?_
    refine x_block_hit ?_
    rotate_left
  · refine x_again (i + 1) (by repeat (first | exact trivial | refine ⟨rfl, ?_⟩)) ⟨E2.go, by assumption, by assumption, by assumption, by assumption, ?_, by omega, by omega⟩ (by omega)
    rw [e1]; assumption
  · refine x_end0 rfl ⟨_, rfl, rfl, ?_, E2.go⟩
    rw [show i.toNat = ps.length by omega] at g5
    exact g5
end
end Go.Proofs.Ytkkgkoibabbjoaa

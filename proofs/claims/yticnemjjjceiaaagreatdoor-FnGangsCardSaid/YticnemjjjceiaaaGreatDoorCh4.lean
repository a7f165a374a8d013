/- Rules, contracts and plain laws towards the law FnGangs, part 4. -/
import Derived.Test.YticnemjjjceiaaaGreatDoorCh3
/- GngB -/
namespace Go.Proofs.YticnemjjjceiaaaGreatDoor
open Go Go.Gw
set_option linter.unusedVariables false
set_option linter.unusedSimpArgs false
section
variable (xss yss : List (List Int)) (ps : List (Int × Int))
/-- the first card from i on that differs; -2 if there is none among m -/
def cmpD (m i : Nat) : Int := if h : i < m then (if (difN (xss.getD i []) (yss.getD i []) ps ps.length).length = 0 then cmpD m (i + 1) else i) else -2
termination_by m - i
theorem cmpD_end {m i : Nat} (h : ¬ i < m) : cmpD xss yss ps m i = -2 := by rw [cmpD, dif_neg h]
theorem cmpD_hit {m i : Nat} (h : i < m) (e : ¬ (difN (xss.getD i []) (yss.getD i []) ps ps.length).length = 0) : cmpD xss yss ps m i = i := by rw [cmpD, dif_pos h, if_neg e]
theorem cmpD_on {m i : Nat} (h : i < m) (e : (difN (xss.getD i []) (yss.getD i []) ps ps.length).length = 0) : cmpD xss yss ps m i = cmpD xss yss ps m (i + 1) := by
  conv => lhs; rw [cmpD, dif_pos h, if_pos e]
def cCmp : Int := if okD xss = true ∧ okD yss = true then (if okCp ps (widD xss) (widD yss) = true then 0 else 2) else 1
def resCmp : Int :=
  if cCmp xss yss ps = 0 then
    (if 0 ≤ cmpD xss yss ps (min xss.length yss.length) 0 then cmpD xss yss ps (min xss.length yss.length) 0 else if (xss.length : Int) = yss.length then -1 else min (xss.length : Int) yss.length)
  else 0
end
section
variable {w : World} {lo hi lo' hi' l2 h2 b b' o o' : Nat} {v v' v2 : Value} {svs sus : List SV} {xss yss : List (List Int)} {ps : List (Int × Int)} {f t : Int}
theorem cCmp_1 (h : okD xss = false ∨ okD yss = false) : cCmp xss yss ps = 1 := by
  rw [cCmp, if_neg]; rcases h with h | h <;> simp [h]
theorem cCmp_2 (h : okD xss = true) (h1 : okD yss = true) (h2 : okCp ps (widD xss) (widD yss) = false) : cCmp xss yss ps = 2 := by
  rw [cCmp, if_pos ⟨h, h1⟩, if_neg (by rw [h2]; decide)]
theorem cCmp_0 (h : okD xss = true) (h1 : okD yss = true) (h2 : okCp ps (widD xss) (widD yss) = true) : cCmp xss yss ps = 0 := by
  rw [cCmp, if_pos ⟨h, h1⟩, if_pos h2]
theorem resCmp_no (h : ¬ cCmp xss yss ps = 0) : resCmp xss yss ps = 0 := by rw [resCmp, if_neg h]
theorem resCmp_hit {i : Nat} (h : cCmp xss yss ps = 0) (e : cmpD xss yss ps (min xss.length yss.length) 0 = i) : resCmp xss yss ps = i := by
  rw [resCmp, if_pos h, e, if_pos (by omega)]
theorem resCmp_end (h : cCmp xss yss ps = 0) (e : cmpD xss yss ps (min xss.length yss.length) 0 = -2) : resCmp xss yss ps = if (xss.length : Int) = yss.length then -1 else min (xss.length : Int) yss.length := by
  rw [resCmp, if_pos h, e, if_neg (by decide)]
theorem iCompareDecks_c (h : SLL w lo hi svs v xss := by repeat (first | assumption | exact Go.Gw.Own.sl (by assumption) | exact Go.Gw.Box.at (by assumption) | exact Go.Gw.SLL.el (by first | assumption | exact Go.Gw.OwnD.sll (by assumption)) _ (by omega) | exact Go.Gw.SLL.at (by first | assumption | exact Go.Gw.OwnD.sll (by assumption)) (by omega) | exact Go.Gw.OwnD.sll (by assumption) | (apply Go.Gw.SL.chg; case hx => assumption) | (apply Go.Gw.Own.chg; case hx => assumption) | (apply Go.Gw.Box.chg; case hx => assumption) | (apply Go.Gw.At.chg; case hx => assumption) | exact .inl (Nat.zero_le _) | exact .inr (Nat.zero_le _) | (show _ ∨ _; omega))) (h' : SLL w lo' hi' sus v' yss := by repeat (first | assumption | exact Go.Gw.Own.sl (by assumption) | exact Go.Gw.Box.at (by assumption) | exact Go.Gw.SLL.el (by first | assumption | exact Go.Gw.OwnD.sll (by assumption)) _ (by omega) | exact Go.Gw.SLL.at (by first | assumption | exact Go.Gw.OwnD.sll (by assumption)) (by omega) | exact Go.Gw.OwnD.sll (by assumption) | (apply Go.Gw.SL.chg; case hx => assumption) | (apply Go.Gw.Own.chg; case hx => assumption) | (apply Go.Gw.Box.chg; case hx => assumption) | (apply Go.Gw.At.chg; case hx => assumption) | exact .inl (Nat.zero_le _) | exact .inr (Nat.zero_le _) | (show _ ∨ _; omega))) (hl : SL w l2 h2 v2 ps := by repeat (first | assumption | exact Go.Gw.Own.sl (by assumption) | exact Go.Gw.Box.at (by assumption) | exact Go.Gw.SLL.el (by first | assumption | exact Go.Gw.OwnD.sll (by assumption)) _ (by omega) | exact Go.Gw.SLL.at (by first | assumption | exact Go.Gw.OwnD.sll (by assumption)) (by omega) | exact Go.Gw.OwnD.sll (by assumption) | (apply Go.Gw.SL.chg; case hx => assumption) | (apply Go.Gw.Own.chg; case hx => assumption) | (apply Go.Gw.Box.chg; case hx => assumption) | (apply Go.Gw.At.chg; case hx => assumption) | exact .inl (Nat.zero_le _) | exact .inr (Nat.zero_le _) | (show _ ∨ _; omega))) : Ret Tryz.prog 40 [v, v', v2] w fun u w' => u = .tuple #[.int .i64 (resCmp xss yss ps), .int .i64 (cCmp xss yss ps)] ∧ Ext w w' := by
  have E : Since 0 0 w w := Since.refl 0 0 w
  refine ret_enter Tryz.func40 rfl Tryz.ntmps40 rfl ?_
  focus have ht_h := h.top; have ht_h' := h'.top; have ht_hl := hl.top; refine c_seq ?_; refine c_region ?_; refine w_pure (y_assign rfl) rfl ?_; refine w_pure (y_assign rfl) rfl ?_; refine w_nil ?_; refine x_next ?_; refine c_seq ?_; refine c_block ?_; refine c_seq ?_; refine c_region ?_; refine w_pure (y_move rfl) rfl ?_; refine w_val rfl rfl rfl (iValidDeck_c) rfl (fun w12 hx12 hz12 => ?_); have hz_hx12 := hx12.size; replace h := h.ext hx12; replace h' := h'.ext hx12; replace hl := hl.ext hx12; replace E := E.trans hx12; refine w_pure (y_not rfl) rfl ?_; refine w_pure (y_move rfl) rfl ?_; (refine w_part rfl rfl (fun hc15 => ?_) (fun hc15 => ?_) <;> try (first | exact absurd rfl hc15 | contradiction | exact Bool.noConfusion (show false = true from hc15.symm.trans (by assumption)) | exact Bool.noConfusion (show true = false from hc15.symm.trans (by assumption)) | (exfalso; omega) | (exfalso; simp only [*, Bool.not_true, Bool.not_false, reduceCtorEq] at hc15; done))); refine w_no rfl rfl rfl rfl ?_; refine w_no rfl rfl rfl rfl ?_; refine w_no rfl rfl rfl rfl ?_; refine w_pure (y_pick_t rfl rfl) rfl ?_; refine w_pure (y_assign rfl) rfl ?_; refine w_nil ?_; refine x_next ?_; refine c_true rfl ?_; refine c_seq ?_; refine c_region ?_; refine w_pure (y_assign rfl) rfl ?_; refine w_pure (y_assign rfl) rfl ?_; refine w_nil ?_; refine x_next ?_; refine c_ret ?_; refine x_block_ret ?_; refine x_then_ret ?_; rotate_left; refine w_yes rfl rfl ?_; refine w_pure (y_move rfl) rfl ?_; refine w_yes rfl rfl ?_; refine w_val rfl rfl rfl (iValidDeck_c) rfl (fun w16 hx16 hz16 => ?_); have hz_hx16 := hx16.size; replace h := h.ext hx16; replace h' := h'.ext hx16; replace hl := hl.ext hx16; replace E := E.trans hx16; refine w_yes rfl rfl ?_; refine w_pure (y_not rfl) rfl ?_; refine w_pure (y_pick_f rfl rfl) rfl ?_; refine w_pure (y_assign rfl) rfl ?_; refine w_nil ?_; refine x_next ?_; (refine c_not rfl (fun hc10 => ?_) (fun hc10 => ?_) <;> try (first | exact absurd rfl hc10 | contradiction | exact Bool.noConfusion (show false = true from hc10.symm.trans (by assumption)) | exact Bool.noConfusion (show true = false from hc10.symm.trans (by assumption)) | (exfalso; omega) | (exfalso; simp only [*, Bool.not_true, Bool.not_false, reduceCtorEq] at hc10; done))); refine c_seq ?_; refine c_region ?_; refine w_pure (y_assign rfl) rfl ?_; refine w_pure (y_assign rfl) rfl ?_; refine w_nil ?_; refine x_next ?_; refine c_ret ?_; refine x_block_ret ?_; refine x_then_ret ?_; rotate_left; refine c_seq ?_; refine c_region ?_; refine w_pure (y_move rfl) rfl ?_; refine w_pure (y_move rfl) rfl ?_; refine w_val rfl rfl rfl (deckColumns_c) rfl (fun w22 hx22 hz22 => ?_); have hz_hx22 := hx22.size; replace h := h.ext hx22; replace h' := h'.ext hx22; replace hl := hl.ext hx22; replace E := E.trans hx22; refine w_pure (y_move rfl) rfl ?_; refine w_val rfl rfl rfl (deckColumns_c) rfl (fun w24 hx24 hz24 => ?_); have hz_hx24 := hx24.size; replace h := h.ext hx24; replace h' := h'.ext hx24; replace hl := hl.ext hx24; replace E := E.trans hx24; refine w_val rfl rfl rfl (iValidCopies_c _ _) rfl (fun w25 hx25 hz25 => ?_); have hz_hx25 := hx25.size; replace h := h.ext hx25; replace h' := h'.ext hx25; replace hl := hl.ext hx25; replace E := E.trans hx25; refine w_pure (y_not rfl) rfl ?_; refine w_pure (y_assign rfl) rfl ?_; refine w_nil ?_; refine x_next ?_; (refine c_not rfl (fun hc19 => ?_) (fun hc19 => ?_) <;> try (first | exact absurd rfl hc19 | contradiction | exact Bool.noConfusion (show false = true from hc19.symm.trans (by assumption)) | exact Bool.noConfusion (show true = false from hc19.symm.trans (by assumption)) | (exfalso; omega) | (exfalso; simp only [*, Bool.not_true, Bool.not_false, reduceCtorEq] at hc19; done))); refine c_seq ?_; refine c_region ?_; refine w_pure (y_assign rfl) rfl ?_; refine w_pure (y_assign rfl) rfl ?_; refine w_nil ?_; refine x_next ?_; refine c_ret ?_; refine x_block_ret ?_; refine x_then_ret ?_; rotate_left; refine c_skip ?_; refine x_block_norm ?_; refine x_next ?_; refine c_seq ?_; refine c_region ?_; refine w_pure (y_move rfl) rfl ?_; refine w_pure (y_lend rfl) rfl ?_; refine w_pure (y_move rfl) rfl ?_; refine w_pure (y_lend rfl) rfl ?_; refine w_pure (y_min rfl rfl) rfl ?_; refine w_pure (y_assign rfl) rfl ?_; refine w_nil ?_; refine x_next ?_; refine c_seq ?_; refine c_seq ?_; refine c_region ?_; refine w_pure (y_move rfl) rfl ?_; refine w_pure (y_move rfl) rfl ?_; refine w_nil ?_; refine x_next ?_; refine c_block ?_; rotate_left
  · have hk1 : okD xss = false := by simpa using hc15
    exact x_retv [_, _] rfl ⟨rfl, rfl, trivial⟩ ⟨by rw [resCmp_no (by rw [cCmp_1 (.inl hk1)]; decide), cCmp_1 (.inl hk1)]; rfl, E.go⟩
  · exact x_retv [_, _] rfl ⟨rfl, rfl, trivial⟩ ⟨by rw [resCmp_no (by rw [cCmp_1 (.inr hc10)]; decide), cCmp_1 (.inr hc10)]; rfl, E.go⟩
  · have hk1 : okD xss = true := by simpa using hc15
    exact x_retv [_, _] rfl ⟨rfl, rfl, trivial⟩ ⟨by rw [resCmp_no (by rw [cCmp_2 hk1 hc10 hc19]; decide), cCmp_2 hk1 hc10 hc19]; rfl, E.go⟩
  · have hk1 : okD xss = true := by simpa using hc15
    have hm0 := cCmp_0 hk1 hc10 hc19
    have hw1 := widD_at hk1
    have hn1 := okD_len hk1
    have hw2 := widD_at hc10
    clear hc15
    refine c_loopC 0 0 (ι := Int) (fun x => [(0, v), (1, v'), (2, v2), (8, .int .i64 (min (xss.length : Int) yss.length)), (32, .int .i64 (min (xss.length : Int) yss.length)), (33, .int .i64 x)]) (fun x w' => (0 ≤ x ∧ x ≤ min (xss.length : Int) yss.length) ∧ cmpD xss yss ps (min xss.length yss.length) x.toNat = cmpD xss yss ps (min xss.length yss.length) 0 ∧ Since 0 0 w w') (fun x => (min (xss.length : Int) yss.length - x).toNat) 0 (by repeat (first | exact trivial | refine ⟨rfl, ?_⟩)) ⟨⟨by omega, by omega⟩, rfl, by assumption⟩ ?_
    clear E
    rintro i wL hxL EL ⟨g1, g2, E⟩
    have hzL := hxL.size
    by_cases hlt : i < min (xss.length : Int) yss.length
    · have hf1 := hw1 i.toNat (by omega)
      have hf2 := hw2 i.toNat (by omega)
      focus have hz_hxL := hxL.size; replace h := h.ext hxL; replace h' := h'.ext hxL; replace hl := hl.ext hxL; refine c_seq ?_; refine c_region ?_; refine w_pure (y_lt rfl rfl) rfl ?_; refine w_nil ?_; refine x_next ?_; refine c_seq ?_; (refine c_dec rfl (fun hc34 => ?_) (fun hc34 => ?_) <;> try (first | exact absurd rfl hc34 | contradiction | exact Bool.noConfusion (show false = true from hc34.symm.trans (by assumption)) | exact Bool.noConfusion (show true = false from hc34.symm.trans (by assumption)) | (exfalso; omega) | (exfalso; simp only [*, Bool.not_true, Bool.not_false, reduceCtorEq] at hc34; done))); refine c_skip ?_; refine x_next ?_; refine c_seq ?_; refine c_block ?_; refine c_seq ?_; refine c_region ?_; refine w_pure (y_move rfl) rfl ?_; refine w_pure (y_assign rfl) rfl ?_; refine w_nil ?_; refine x_next ?_; refine c_seq ?_; refine c_region_held mixed (fun wr9 hxr9 hzr9 => ?_); have hz_hxr9 := hxr9.size; replace EL := EL.trans hxr9; replace E := E.trans hxr9; replace h := h.ext hxr9; replace h' := h'.ext hxr9; replace hl := hl.ext hxr9; refine h_pure rfl (y_move rfl) rfl ?_; refine h_pure rfl (y_move rfl) rfl ?_; refine h_pure rfl (y_indexd rfl rfl) rfl ?_; refine h_pure rfl (y_loads rfl) rfl ?_; refine h_pure rfl (y_move rfl) rfl ?_; refine h_pure rfl (y_move rfl) rfl ?_; refine h_pure rfl (y_indexd rfl rfl) rfl ?_; refine h_pure rfl (y_loads rfl) rfl ?_; refine h_pure rfl (y_move rfl) rfl ?_; refine h_one rfl ?_; (refine w_call rfl rfl rfl (compared_c) rfl ?_; rintro v45 w45 ⟨hp1_45, hx45⟩); have hl_hp1_45 := hp1_45.lt; have hz_hx45 := hx45.size; replace EL := EL.trans hx45; replace E := E.trans hx45; replace h := h.ext hx45; replace h' := h'.ext hx45; replace hl := hl.ext hx45; refine w_nil ?_; refine x_held ?_; refine h_pure rfl (y_len rfl) rfl ?_; refine h_pure rfl (y_gt rfl rfl) rfl ?_; refine h_nil ?_; refine x_next ?_; (refine c_dec rfl (fun hc47 => ?_) (fun hc47 => ?_) <;> try (first | exact absurd rfl hc47 | contradiction | exact Bool.noConfusion (show false = true from hc47.symm.trans (by assumption)) | exact Bool.noConfusion (show true = false from hc47.symm.trans (by assumption)) | (exfalso; omega) | (exfalso; simp only [*, Bool.not_true, Bool.not_false, reduceCtorEq] at hc47; done))); refine c_seq ?_; refine c_region ?_; refine w_pure (y_move rfl) rfl ?_; refine w_pure (y_assign rfl) rfl ?_; refine w_pure (y_assign rfl) rfl ?_; refine w_nil ?_; refine x_next ?_; refine c_ret ?_; refine x_block_ret ?_; refine x_then_ret ?_; refine x_then_ret ?_; refine x_block_ret ?_; refine x_then_ret ?_; rotate_left; refine c_skip ?_; refine x_block_norm ?_; refine x_next ?_; refine c_region ?_; refine w_pure (y_add rfl rfl) rfl ?_; refine w_pure (y_move rfl) rfl ?_; refine w_nil ?_; rotate_left
      · have e := cmpD_hit xss yss ps (m := min xss.length yss.length) (i := i.toNat) (by omega) (by omega)
        rw [g2] at e
        exact x_retv [_, _] rfl ⟨rfl, rfl, trivial⟩ ⟨by rw [resCmp_hit hm0 e, hm0, show ((i.toNat : Nat) : Int) = i by omega]; rfl, E.go⟩
      · have e := cmpD_on xss yss ps (m := min xss.length yss.length) (i := i.toNat) (by omega) (by omega)
        exact x_again (i + 1) (by repeat (first | exact trivial | refine ⟨rfl, ?_⟩)) ⟨EL.go, ⟨by omega, by omega⟩, by rw [show (i + 1).toNat = i.toNat + 1 by omega, ← e, g2], by assumption⟩ (by omega)
    · have e := cmpD_end xss yss ps (m := min xss.length yss.length) (i := i.toNat) (by omega)
      rw [g2] at e
      have hr := resCmp_end hm0 e
      focus have hz_hxL := hxL.size; replace h := h.ext hxL; replace h' := h'.ext hxL; replace hl := hl.ext hxL; refine c_seq ?_; refine c_region ?_; refine w_pure (y_lt rfl rfl) rfl ?_; refine w_nil ?_; refine x_next ?_; refine c_seq ?_; (refine c_dec rfl (fun hc34 => ?_) (fun hc34 => ?_) <;> try (first | exact absurd rfl hc34 | contradiction | exact Bool.noConfusion (show false = true from hc34.symm.trans (by assumption)) | exact Bool.noConfusion (show true = false from hc34.symm.trans (by assumption)) | (exfalso; omega) | (exfalso; simp only [*, Bool.not_true, Bool.not_false, reduceCtorEq] at hc34; done))); refine c_exit ?_; refine x_then_exit ?_; refine x_then_exit ?_; refine x_block_hit ?_; refine x_next ?_; refine c_seq ?_; refine c_seq ?_; refine c_region ?_; refine w_pure (y_move rfl) rfl ?_; refine w_pure (y_lend rfl) rfl ?_; refine w_pure (y_move rfl) rfl ?_; refine w_pure (y_lend rfl) rfl ?_; refine w_pure (y_ne rfl rfl) rfl ?_; refine w_nil ?_; refine x_next ?_; (refine c_dec rfl (fun hc54 => ?_) (fun hc54 => ?_) <;> try (first | exact absurd rfl hc54 | contradiction | exact Bool.noConfusion (show false = true from hc54.symm.trans (by assumption)) | exact Bool.noConfusion (show true = false from hc54.symm.trans (by assumption)) | (exfalso; omega) | (exfalso; simp only [*, Bool.not_true, Bool.not_false, reduceCtorEq] at hc54; done))); refine c_seq ?_; refine c_region ?_; refine w_pure (y_move rfl) rfl ?_; refine w_pure (y_assign rfl) rfl ?_; refine w_pure (y_assign rfl) rfl ?_; refine w_nil ?_; refine x_next ?_; refine c_ret ?_; refine x_then_ret ?_; rotate_left; refine c_skip ?_; refine x_next ?_; refine c_seq ?_; refine c_region ?_; refine w_pure (y_assign rfl) rfl ?_; refine w_pure (y_assign rfl) rfl ?_; refine w_nil ?_; refine x_next ?_; refine c_ret ?_; rotate_left
      · exact x_retv [_, _] rfl ⟨rfl, rfl, trivial⟩ ⟨by rw [hr, hm0, if_neg (by omega)]; rfl, E.go⟩
      · exact x_retv [_, _] rfl ⟨rfl, rfl, trivial⟩ ⟨by rw [hr, hm0, if_pos (by omega)]; rfl, E.go⟩
theorem sCompareDecks_c (h : SLL w lo hi svs v xss := by repeat (first | assumption | exact Go.Gw.Own.sl (by assumption) | exact Go.Gw.Box.at (by assumption) | exact Go.Gw.SLL.el (by first | assumption | exact Go.Gw.OwnD.sll (by assumption)) _ (by omega) | exact Go.Gw.SLL.at (by first | assumption | exact Go.Gw.OwnD.sll (by assumption)) (by omega) | exact Go.Gw.OwnD.sll (by assumption) | (apply Go.Gw.SL.chg; case hx => assumption) | (apply Go.Gw.Own.chg; case hx => assumption) | (apply Go.Gw.Box.chg; case hx => assumption) | (apply Go.Gw.At.chg; case hx => assumption) | exact .inl (Nat.zero_le _) | exact .inr (Nat.zero_le _) | (show _ ∨ _; omega))) (h' : SLL w lo' hi' sus v' yss := by repeat (first | assumption | exact Go.Gw.Own.sl (by assumption) | exact Go.Gw.Box.at (by assumption) | exact Go.Gw.SLL.el (by first | assumption | exact Go.Gw.OwnD.sll (by assumption)) _ (by omega) | exact Go.Gw.SLL.at (by first | assumption | exact Go.Gw.OwnD.sll (by assumption)) (by omega) | exact Go.Gw.OwnD.sll (by assumption) | (apply Go.Gw.SL.chg; case hx => assumption) | (apply Go.Gw.Own.chg; case hx => assumption) | (apply Go.Gw.Box.chg; case hx => assumption) | (apply Go.Gw.At.chg; case hx => assumption) | exact .inl (Nat.zero_le _) | exact .inr (Nat.zero_le _) | (show _ ∨ _; omega))) (hl : SL w l2 h2 v2 ps := by repeat (first | assumption | exact Go.Gw.Own.sl (by assumption) | exact Go.Gw.Box.at (by assumption) | exact Go.Gw.SLL.el (by first | assumption | exact Go.Gw.OwnD.sll (by assumption)) _ (by omega) | exact Go.Gw.SLL.at (by first | assumption | exact Go.Gw.OwnD.sll (by assumption)) (by omega) | exact Go.Gw.OwnD.sll (by assumption) | (apply Go.Gw.SL.chg; case hx => assumption) | (apply Go.Gw.Own.chg; case hx => assumption) | (apply Go.Gw.Box.chg; case hx => assumption) | (apply Go.Gw.At.chg; case hx => assumption) | exact .inl (Nat.zero_le _) | exact .inr (Nat.zero_le _) | (show _ ∨ _; omega))) : Ret Tryz.prog 41 [v, v', v2] w fun u w' => u = .tuple #[.int .i64 (resCmp xss yss ps), .int .i64 (cCmp xss yss ps)] ∧ Ext w w' := by
  have E : Since 0 0 w w := Since.refl 0 0 w
  refine ret_enter Tryz.func41 rfl Tryz.ntmps41 rfl ?_
  focus have ht_h := h.top; have ht_h' := h'.top; have ht_hl := hl.top; refine c_seq ?_; refine c_region ?_; refine w_pure (y_assign rfl) rfl ?_; refine w_pure (y_assign rfl) rfl ?_; refine w_nil ?_; refine x_next ?_; refine c_seq ?_; refine c_seq ?_; refine c_region ?_; refine w_pure (y_move rfl) rfl ?_; refine w_val rfl rfl rfl (l02Deck_c) rfl (fun w10 hx10 hz10 => ?_); have hz_hx10 := hx10.size; replace h := h.ext hx10; replace h' := h'.ext hx10; replace hl := hl.ext hx10; replace E := E.trans hx10; refine w_pure (y_not rfl) rfl ?_; refine w_pure (y_move rfl) rfl ?_; (refine w_part rfl rfl (fun hc13 => ?_) (fun hc13 => ?_) <;> try (first | exact absurd rfl hc13 | contradiction | exact Bool.noConfusion (show false = true from hc13.symm.trans (by assumption)) | exact Bool.noConfusion (show true = false from hc13.symm.trans (by assumption)) | (exfalso; omega) | (exfalso; simp only [*, Bool.not_true, Bool.not_false, reduceCtorEq] at hc13; done))); refine w_no rfl rfl rfl rfl ?_; refine w_no rfl rfl rfl rfl ?_; refine w_no rfl rfl rfl rfl ?_; refine w_pure (y_pick_t rfl rfl) rfl ?_; refine w_nil ?_; refine x_next ?_; refine c_true rfl ?_; refine c_seq ?_; refine c_region ?_; refine w_pure (y_assign rfl) rfl ?_; refine w_pure (y_assign rfl) rfl ?_; refine w_nil ?_; refine x_next ?_; refine c_ret ?_; refine x_then_ret ?_; rotate_left; refine w_yes rfl rfl ?_; refine w_pure (y_move rfl) rfl ?_; refine w_yes rfl rfl ?_; refine w_val rfl rfl rfl (l02Deck_c) rfl (fun w14 hx14 hz14 => ?_); have hz_hx14 := hx14.size; replace h := h.ext hx14; replace h' := h'.ext hx14; replace hl := hl.ext hx14; replace E := E.trans hx14; refine w_yes rfl rfl ?_; refine w_pure (y_not rfl) rfl ?_; refine w_pure (y_pick_f rfl rfl) rfl ?_; refine w_nil ?_; refine x_next ?_; (refine c_not rfl (fun hc16 => ?_) (fun hc16 => ?_) <;> try (first | exact absurd rfl hc16 | contradiction | exact Bool.noConfusion (show false = true from hc16.symm.trans (by assumption)) | exact Bool.noConfusion (show true = false from hc16.symm.trans (by assumption)) | (exfalso; omega) | (exfalso; simp only [*, Bool.not_true, Bool.not_false, reduceCtorEq] at hc16; done))); refine c_seq ?_; refine c_region ?_; refine w_pure (y_assign rfl) rfl ?_; refine w_pure (y_assign rfl) rfl ?_; refine w_nil ?_; refine x_next ?_; refine c_ret ?_; refine x_then_ret ?_; rotate_left; refine c_skip ?_; refine x_next ?_; refine c_seq ?_; refine c_seq ?_; refine c_region ?_; refine w_pure (y_move rfl) rfl ?_; refine w_pure (y_move rfl) rfl ?_; refine w_val rfl rfl rfl (l07WidthOf_c) rfl (fun w19 hx19 hz19 => ?_); have hz_hx19 := hx19.size; replace h := h.ext hx19; replace h' := h'.ext hx19; replace hl := hl.ext hx19; replace E := E.trans hx19; refine w_pure (y_move rfl) rfl ?_; refine w_val rfl rfl rfl (l07WidthOf_c) rfl (fun w21 hx21 hz21 => ?_); have hz_hx21 := hx21.size; replace h := h.ext hx21; replace h' := h'.ext hx21; replace hl := hl.ext hx21; replace E := E.trans hx21; refine w_val rfl rfl rfl (sValidCopies_c _ _) rfl (fun w22 hx22 hz22 => ?_); have hz_hx22 := hx22.size; replace h := h.ext hx22; replace h' := h'.ext hx22; replace hl := hl.ext hx22; replace E := E.trans hx22; refine w_pure (y_not rfl) rfl ?_; refine w_nil ?_; refine x_next ?_; (refine c_not rfl (fun hc23 => ?_) (fun hc23 => ?_) <;> try (first | exact absurd rfl hc23 | contradiction | exact Bool.noConfusion (show false = true from hc23.symm.trans (by assumption)) | exact Bool.noConfusion (show true = false from hc23.symm.trans (by assumption)) | (exfalso; omega) | (exfalso; simp only [*, Bool.not_true, Bool.not_false, reduceCtorEq] at hc23; done))); refine c_seq ?_; refine c_region ?_; refine w_pure (y_assign rfl) rfl ?_; refine w_pure (y_assign rfl) rfl ?_; refine w_nil ?_; refine x_next ?_; refine c_ret ?_; refine x_then_ret ?_; rotate_left; refine c_skip ?_; refine x_next ?_; refine c_seq ?_; refine c_seq ?_; refine c_region ?_; refine w_pure (y_assign rfl) rfl ?_; refine w_nil ?_; refine x_next ?_; refine c_block ?_; rotate_left
  · have hk1 : okD xss = false := by simpa using hc13
    exact x_retv [_, _] rfl ⟨rfl, rfl, trivial⟩ ⟨by rw [resCmp_no (by rw [cCmp_1 (.inl hk1)]; decide), cCmp_1 (.inl hk1)]; rfl, E.go⟩
  · exact x_retv [_, _] rfl ⟨rfl, rfl, trivial⟩ ⟨by rw [resCmp_no (by rw [cCmp_1 (.inr hc16)]; decide), cCmp_1 (.inr hc16)]; rfl, E.go⟩
  · have hk1 : okD xss = true := by simpa using hc13
    exact x_retv [_, _] rfl ⟨rfl, rfl, trivial⟩ ⟨by rw [resCmp_no (by rw [cCmp_2 hk1 hc16 hc23]; decide), cCmp_2 hk1 hc16 hc23]; rfl, E.go⟩
  · have hk1 : okD xss = true := by simpa using hc13
    have hm0 := cCmp_0 hk1 hc16 hc23
    have hw1 := widD_at hk1
    have hn1 := okD_len hk1
    have hw2 := widD_at hc16
    clear hc13
    refine c_loopC 0 0 (ι := Int) (fun x => [(0, v), (1, v'), (2, v2), (8, .int .i64 x)]) (fun x w' => (0 ≤ x ∧ x ≤ min (xss.length : Int) yss.length) ∧ cmpD xss yss ps (min xss.length yss.length) x.toNat = cmpD xss yss ps (min xss.length yss.length) 0 ∧ Since 0 0 w w') (fun x => (min (xss.length : Int) yss.length - x).toNat) 0 (by repeat (first | exact trivial | refine ⟨rfl, ?_⟩)) ⟨⟨by omega, by omega⟩, rfl, by assumption⟩ ?_
    clear E
    rintro i wL hxL EL ⟨g1, g2, E⟩
    have hzL := hxL.size
    by_cases hlt : i < min (xss.length : Int) yss.length
    · have hf1 := hw1 i.toNat (by omega)
      have hf2 := hw2 i.toNat (by omega)
      focus have hz_hxL := hxL.size; replace h := h.ext hxL; replace h' := h'.ext hxL; replace hl := hl.ext hxL; refine c_seq ?_; refine c_seq ?_; refine c_region ?_; refine w_pure (y_move rfl) rfl ?_; refine w_pure (y_move rfl) rfl ?_; refine w_pure (y_lend rfl) rfl ?_; refine w_pure (y_lt rfl rfl) rfl ?_; refine w_pure (y_move rfl) rfl ?_; (refine w_part_dec rfl rfl (fun hc29 => ?_) (fun hc29 => ?_) <;> try (first | exact absurd rfl hc29 | contradiction | exact Bool.noConfusion (show false = true from hc29.symm.trans (by assumption)) | exact Bool.noConfusion (show true = false from hc29.symm.trans (by assumption)) | (exfalso; omega) | (exfalso; simp only [*, Bool.not_true, Bool.not_false, reduceCtorEq] at hc29; done))); refine w_yes rfl rfl ?_; refine w_pure (y_move rfl) rfl ?_; refine w_yes rfl rfl ?_; refine w_pure (y_move rfl) rfl ?_; refine w_yes rfl rfl ?_; refine w_pure (y_lend rfl) rfl ?_; refine w_yes rfl rfl ?_; refine w_pure (y_lt rfl rfl) rfl ?_; refine w_pure (y_pick_t rfl rfl) rfl ?_; refine w_nil ?_; refine x_next ?_; (refine c_dec rfl (fun hc33 => ?_) (fun hc33 => ?_) <;> try (first | exact absurd rfl hc33 | contradiction | exact Bool.noConfusion (show false = true from hc33.symm.trans (by assumption)) | exact Bool.noConfusion (show true = false from hc33.symm.trans (by assumption)) | (exfalso; omega) | (exfalso; simp only [*, Bool.not_true, Bool.not_false, reduceCtorEq] at hc33; done))); refine c_skip ?_; refine x_next ?_; refine c_seq ?_; refine c_block ?_; refine c_seq ?_; refine c_region_held mixed (fun wr8 hxr8 hzr8 => ?_); have hz_hxr8 := hxr8.size; replace EL := EL.trans hxr8; replace E := E.trans hxr8; replace h := h.ext hxr8; replace h' := h'.ext hxr8; replace hl := hl.ext hxr8; refine h_pure rfl (y_move rfl) rfl ?_; refine h_pure rfl (y_move rfl) rfl ?_; refine h_pure rfl (y_indexd rfl rfl) rfl ?_; refine h_pure rfl (y_move rfl) rfl ?_; refine h_pure rfl (y_move rfl) rfl ?_; refine h_pure rfl (y_indexd rfl rfl) rfl ?_; refine h_pure rfl (y_move rfl) rfl ?_; refine h_one rfl ?_; (refine w_call rfl rfl rfl (l10Differ_c) rfl ?_; rintro v43 w43 ⟨hp1_43, hx43⟩); have hl_hp1_43 := hp1_43.lt; have hz_hx43 := hx43.size; replace EL := EL.trans hx43; replace E := E.trans hx43; replace h := h.ext hx43; replace h' := h'.ext hx43; replace hl := hl.ext hx43; refine w_nil ?_; refine x_held ?_; refine h_pure rfl (y_len rfl) rfl ?_; refine h_pure rfl (y_gt rfl rfl) rfl ?_; refine h_nil ?_; refine x_next ?_; (refine c_dec rfl (fun hc45 => ?_) (fun hc45 => ?_) <;> try (first | exact absurd rfl hc45 | contradiction | exact Bool.noConfusion (show false = true from hc45.symm.trans (by assumption)) | exact Bool.noConfusion (show true = false from hc45.symm.trans (by assumption)) | (exfalso; omega) | (exfalso; simp only [*, Bool.not_true, Bool.not_false, reduceCtorEq] at hc45; done))); refine c_seq ?_; refine c_region ?_; refine w_pure (y_move rfl) rfl ?_; refine w_pure (y_assign rfl) rfl ?_; refine w_pure (y_assign rfl) rfl ?_; refine w_nil ?_; refine x_next ?_; refine c_ret ?_; refine x_block_ret ?_; refine x_then_ret ?_; refine x_then_ret ?_; refine x_block_ret ?_; refine x_then_ret ?_; rotate_left; refine c_skip ?_; refine x_block_norm ?_; refine x_next ?_; refine c_region ?_; refine w_pure (y_move rfl) rfl ?_; refine w_pure (y_add rfl rfl) rfl ?_; refine w_pure (y_assign rfl) rfl ?_; refine w_nil ?_; rotate_left
      · have e := cmpD_hit xss yss ps (m := min xss.length yss.length) (i := i.toNat) (by omega) (by omega)
        rw [g2] at e
        exact x_retv [_, _] rfl ⟨rfl, rfl, trivial⟩ ⟨by rw [resCmp_hit hm0 e, hm0, show ((i.toNat : Nat) : Int) = i by omega]; rfl, E.go⟩
      · have e := cmpD_on xss yss ps (m := min xss.length yss.length) (i := i.toNat) (by omega) (by omega)
        exact x_again (i + 1) (by repeat (first | exact trivial | refine ⟨rfl, ?_⟩)) ⟨EL.go, ⟨by omega, by omega⟩, by rw [show (i + 1).toNat = i.toNat + 1 by omega, ← e, g2], by assumption⟩ (by omega)
    · have e := cmpD_end xss yss ps (m := min xss.length yss.length) (i := i.toNat) (by omega)
      rw [g2] at e
      have hr := resCmp_end hm0 e
      focus have hz_hxL := hxL.size; replace h := h.ext hxL; replace h' := h'.ext hxL; replace hl := hl.ext hxL; refine c_seq ?_; refine c_seq ?_; refine c_region ?_; refine w_pure (y_move rfl) rfl ?_; refine w_pure (y_move rfl) rfl ?_; refine w_pure (y_lend rfl) rfl ?_; refine w_pure (y_lt rfl rfl) rfl ?_; refine w_pure (y_move rfl) rfl ?_; (refine w_part_dec rfl rfl (fun hc29 => ?_) (fun hc29 => ?_) <;> try (first | exact absurd rfl hc29 | contradiction | exact Bool.noConfusion (show false = true from hc29.symm.trans (by assumption)) | exact Bool.noConfusion (show true = false from hc29.symm.trans (by assumption)) | (exfalso; omega) | (exfalso; simp only [*, Bool.not_true, Bool.not_false, reduceCtorEq] at hc29; done))); refine w_yes rfl rfl ?_; refine w_pure (y_move rfl) rfl ?_; refine w_yes rfl rfl ?_; refine w_pure (y_move rfl) rfl ?_; refine w_yes rfl rfl ?_; refine w_pure (y_lend rfl) rfl ?_; refine w_yes rfl rfl ?_; refine w_pure (y_lt rfl rfl) rfl ?_; refine w_pure (y_pick_t rfl rfl) rfl ?_; refine w_nil ?_; refine x_next ?_; (refine c_dec rfl (fun hc33 => ?_) (fun hc33 => ?_) <;> try (first | exact absurd rfl hc33 | contradiction | exact Bool.noConfusion (show false = true from hc33.symm.trans (by assumption)) | exact Bool.noConfusion (show true = false from hc33.symm.trans (by assumption)) | (exfalso; omega) | (exfalso; simp only [*, Bool.not_true, Bool.not_false, reduceCtorEq] at hc33; done))); refine c_exit ?_; refine x_then_exit ?_; refine x_then_exit ?_; refine x_block_hit ?_; refine x_next ?_; refine c_seq ?_; refine c_seq ?_; refine c_region ?_; refine w_pure (y_move rfl) rfl ?_; refine w_pure (y_lend rfl) rfl ?_; refine w_pure (y_move rfl) rfl ?_; refine w_pure (y_lend rfl) rfl ?_; refine w_pure (y_ne rfl rfl) rfl ?_; refine w_nil ?_; refine x_next ?_; (refine c_dec rfl (fun hc51 => ?_) (fun hc51 => ?_) <;> try (first | exact absurd rfl hc51 | contradiction | exact Bool.noConfusion (show false = true from hc51.symm.trans (by assumption)) | exact Bool.noConfusion (show true = false from hc51.symm.trans (by assumption)) | (exfalso; omega) | (exfalso; simp only [*, Bool.not_true, Bool.not_false, reduceCtorEq] at hc51; done))); refine c_seq ?_; refine c_region ?_; refine w_pure (y_move rfl) rfl ?_; refine w_pure (y_lend rfl) rfl ?_; refine w_pure (y_move rfl) rfl ?_; refine w_pure (y_lend rfl) rfl ?_; refine w_pur rfl rfl rfl (l00MinB_c _ _) rfl ?_; refine w_pure (y_assign rfl) rfl ?_; refine w_pure (y_assign rfl) rfl ?_; refine w_nil ?_; refine x_next ?_; refine c_ret ?_; refine x_then_ret ?_; rotate_left; refine w_no rfl rfl rfl rfl ?_; refine w_no rfl rfl rfl rfl ?_; refine w_no rfl rfl rfl rfl ?_; refine w_no rfl rfl rfl rfl ?_; refine w_pure (y_pick_f rfl rfl) rfl ?_; refine w_nil ?_; refine x_next ?_; refine c_false rfl ?_; refine c_exit ?_; refine x_then_exit ?_; refine x_then_exit ?_; refine x_block_hit ?_; refine x_next ?_; refine c_seq ?_; refine c_seq ?_; refine c_region ?_; refine w_pure (y_move rfl) rfl ?_; refine w_pure (y_lend rfl) rfl ?_; refine w_pure (y_move rfl) rfl ?_; refine w_pure (y_lend rfl) rfl ?_; refine w_pure (y_ne rfl rfl) rfl ?_; refine w_nil ?_; refine x_next ?_; (refine c_dec rfl (fun hc51 => ?_) (fun hc51 => ?_) <;> try (first | exact absurd rfl hc51 | contradiction | exact Bool.noConfusion (show false = true from hc51.symm.trans (by assumption)) | exact Bool.noConfusion (show true = false from hc51.symm.trans (by assumption)) | (exfalso; omega) | (exfalso; simp only [*, Bool.not_true, Bool.not_false, reduceCtorEq] at hc51; done))); refine c_seq ?_; refine c_region ?_; refine w_pure (y_move rfl) rfl ?_; refine w_pure (y_lend rfl) rfl ?_; refine w_pure (y_move rfl) rfl ?_; refine w_pure (y_lend rfl) rfl ?_; refine w_pur rfl rfl rfl (l00MinB_c _ _) rfl ?_; refine w_pure (y_assign rfl) rfl ?_; refine w_pure (y_assign rfl) rfl ?_; refine w_nil ?_; refine x_next ?_; refine c_ret ?_; refine x_then_ret ?_; rotate_left; refine c_skip ?_; refine x_next ?_; refine c_seq ?_; refine c_region ?_; refine w_pure (y_assign rfl) rfl ?_; refine w_pure (y_assign rfl) rfl ?_; refine w_nil ?_; refine x_next ?_; refine c_ret ?_; rotate_left
      all_goals first
        | exact x_retv [_, _] rfl ⟨rfl, rfl, trivial⟩ ⟨by rw [hr, hm0, if_neg (by omega)]; rfl, E.go⟩
        | exact x_retv [_, _] rfl ⟨rfl, rfl, trivial⟩ ⟨by rw [hr, hm0, if_pos (by omega)]; rfl, E.go⟩
end
end Go.Proofs.YticnemjjjceiaaaGreatDoor
/- SetA -/
namespace Go.Proofs.YticnemjjjceiaaaGreatDoor
open Go Go.Gw Go.ChangeShapes Go.WideShapes
set_option linter.unusedVariables false
set_option linter.unusedSimpArgs false
/-- a field of so many columns -/
def fldB (a b W : Int) : Bool := decide (0 ≤ a ∧ a < b ∧ b ≤ W)
def numB (a b W : Int) : Bool := decide ((0 ≤ a ∧ a < b ∧ b ≤ W) ∧ b - a ≤ 12)
def okSet (g h : Int) (ps : List (Int × Int)) (W : Int) : Bool := decide ((1 ≤ W ∧ W ≤ 20) ∧ (0 ≤ g ∧ g < h ∧ h ≤ W) ∧ ps.length ≤ 4) && !ps.any fun p => !numB p.1 p.2 W
theorem okSet_no {g h W : Int} {ps : List (Int × Int)} (hn : ¬ ((1 ≤ W ∧ W ≤ 20) ∧ (0 ≤ g ∧ g < h ∧ h ≤ W) ∧ ps.length ≤ 4)) : okSet g h ps W = false := by unfold okSet; rw [decide_eq_false hn]; rfl
theorem okSet_yes {g h W : Int} {ps : List (Int × Int)} (hn : (1 ≤ W ∧ W ≤ 20) ∧ (0 ≤ g ∧ g < h ∧ h ≤ W) ∧ ps.length ≤ 4) : okSet g h ps W = !ps.any fun p => !numB p.1 p.2 W := by unfold okSet; rw [decide_eq_true hn]; rfl
theorem okSet_at {g h W : Int} {ps : List (Int × Int)} (hk : okSet g h ps W = true) : ((1 ≤ W ∧ W ≤ 20) ∧ (0 ≤ g ∧ g < h ∧ h ≤ W) ∧ ps.length ≤ 4) ∧ ∀ i, i < ps.length → (0 ≤ (ps.getD i (0, 0)).1 ∧ (ps.getD i (0, 0)).1 < (ps.getD i (0, 0)).2 ∧ (ps.getD i (0, 0)).2 ≤ W) ∧ (ps.getD i (0, 0)).2 - (ps.getD i (0, 0)).1 ≤ 12 := by
  by_cases hn : (1 ≤ W ∧ W ≤ 20) ∧ (0 ≤ g ∧ g < h ∧ h ≤ W) ∧ ps.length ≤ 4
  · refine ⟨hn, fun i hi => ?_⟩
    rw [okSet_yes hn] at hk
    simp only [Bool.not_eq_true', List.any_eq_false] at hk
    have := hk (ps.getD i (0, 0)) (by rw [List.getD_eq_getElem?_getD, List.getElem?_eq_getElem hi]; exact List.getElem_mem hi)
    have h2 : numB (ps.getD i (0, 0)).1 (ps.getD i (0, 0)).2 W = true := by
      rcases Bool.eq_false_or_eq_true (numB (ps.getD i (0, 0)).1 (ps.getD i (0, 0)).2 W) with hb | hb
      · exact hb
      · rw [hb] at this; exact absurd rfl this
    exact of_decide_eq_true h2
  · rw [okSet_no hn] at hk; cases hk
theorem okSet_no' {g h W : Int} {ps : List (Int × Int)} (i : Nat) (hi : i < ps.length) (hn : ¬ ((0 ≤ (ps.getD i (0, 0)).1 ∧ (ps.getD i (0, 0)).1 < (ps.getD i (0, 0)).2 ∧ (ps.getD i (0, 0)).2 ≤ W) ∧ (ps.getD i (0, 0)).2 - (ps.getD i (0, 0)).1 ≤ 12)) : okSet g h ps W = false := by
  cases hk : okSet g h ps W
  · rfl
  · exact absurd ((okSet_at hk).2 i hi) hn
theorem okSet_all {g h W : Int} {ps : List (Int × Int)} (h0 : (1 ≤ W ∧ W ≤ 20) ∧ (0 ≤ g ∧ g < h ∧ h ≤ W)) (ha : ∀ i, i < ps.length → ((0 ≤ (ps.getD i (0, 0)).1 ∧ (ps.getD i (0, 0)).1 < (ps.getD i (0, 0)).2 ∧ (ps.getD i (0, 0)).2 ≤ W) ∧ (ps.getD i (0, 0)).2 - (ps.getD i (0, 0)).1 ≤ 12)) : okSet g h ps W = decide ((ps.length : Int) ≤ 4) := by
  by_cases hn : (ps.length : Int) ≤ 4
  · rw [okSet_yes ⟨h0.1, h0.2, by omega⟩, decide_eq_true hn]
    simp only [Bool.not_eq_true', List.any_eq_false]
    intro p hp
    obtain ⟨j, hj, rfl⟩ := List.mem_iff_getElem.1 hp
    have := ha j hj
    rw [List.getD_eq_getElem?_getD, List.getElem?_eq_getElem hj] at this
    have h2 : numB ps[j].1 ps[j].2 W = true := decide_eq_true this
    rw [h2]; simp
  · rw [okSet_no (by omega), decide_eq_false hn]
section
variable {w : World} {lo hi lo' hi' b o : Nat} {v v' : Value} {ps qs : List (Int × Int)} {g h g' h' : Int} {dt dt' : Bool}
theorem isField_c (x y W : Int) : Val Tryz.prog 98 [.agg #[.int .i64 x, .int .i64 y], .int .i64 W] w (.bool (fldB x y W)) := by
  refine ⟨fun w1 hx1 => ?_⟩
  have E : Since 0 0 w1 w1 := Since.refl 0 0 w1
  refine ret_enter Tryz.func98 rfl Tryz.ntmps98 rfl ?_
  focus refine c_seq ?_; refine c_region ?_; refine w_box rfl (k := fun b2 w2 hb2 hx2 hl2 hs2 => ?_); have hz_hx2 := hx2.size; replace E := E.trans hx2; refine w_pure (y_assign rfl) rfl ?_; refine w_nil ?_; refine x_next ?_; refine c_seq ?_; refine c_region ?_; refine w_pure (y_field rfl) rfl ?_; refine w_pure (y_load_box rfl) rfl ?_; refine w_pure (y_le rfl rfl) rfl ?_; refine w_pure (y_move rfl) rfl ?_; (refine w_part_dec rfl rfl (fun hc9 => ?_) (fun hc9 => ?_) <;> try (first | exact absurd rfl hc9 | contradiction | exact Bool.noConfusion (show false = true from hc9.symm.trans (by assumption)) | exact Bool.noConfusion (show true = false from hc9.symm.trans (by assumption)) | (exfalso; omega) | (exfalso; simp only [*, Bool.not_true, Bool.not_false, reduceCtorEq] at hc9; done))); refine w_yes rfl rfl ?_; refine w_pure (y_field rfl) rfl ?_; refine w_yes rfl rfl ?_; refine w_pure (y_load_box rfl) rfl ?_; refine w_yes rfl rfl ?_; refine w_pure (y_field rfl) rfl ?_; refine w_yes rfl rfl ?_; refine w_pure (y_load_box rfl) rfl ?_; refine w_yes rfl rfl ?_; refine w_pure (y_lt rfl rfl) rfl ?_; refine w_pure (y_pick_t rfl rfl) rfl ?_; refine w_pure (y_move rfl) rfl ?_; (refine w_part_dec rfl rfl (fun hc16 => ?_) (fun hc16 => ?_) <;> try (first | exact absurd rfl hc16 | contradiction | exact Bool.noConfusion (show false = true from hc16.symm.trans (by assumption)) | exact Bool.noConfusion (show true = false from hc16.symm.trans (by assumption)) | (exfalso; omega) | (exfalso; simp only [*, Bool.not_true, Bool.not_false, reduceCtorEq] at hc16; done))); refine w_yes rfl rfl ?_; refine w_pure (y_field rfl) rfl ?_; refine w_yes rfl rfl ?_; refine w_pure (y_load_box rfl) rfl ?_; refine w_yes rfl rfl ?_; refine w_pure (y_move rfl) rfl ?_; refine w_yes rfl rfl ?_; refine w_pure (y_le rfl rfl) rfl ?_; refine w_pure (y_pick_t rfl rfl) rfl ?_; refine w_pure (y_assign rfl) rfl ?_; refine w_nil ?_; refine x_next ?_; refine c_ret ?_; rotate_left; refine w_no rfl rfl rfl rfl ?_; refine w_no rfl rfl rfl rfl ?_; refine w_no rfl rfl rfl rfl ?_; refine w_no rfl rfl rfl rfl ?_; refine w_pure (y_pick_f rfl rfl) rfl ?_; refine w_pure (y_assign rfl) rfl ?_; refine w_nil ?_; refine x_next ?_; refine c_ret ?_; rotate_left; refine w_no rfl rfl rfl rfl ?_; refine w_no rfl rfl rfl rfl ?_; refine w_no rfl rfl rfl rfl ?_; refine w_no rfl rfl rfl rfl ?_; refine w_no rfl rfl rfl rfl ?_; refine w_pure (y_pick_f rfl rfl) rfl ?_; refine w_pure (y_move rfl) rfl ?_; refine w_no rfl rfl rfl rfl ?_; refine w_no rfl rfl rfl rfl ?_; refine w_no rfl rfl rfl rfl ?_; refine w_no rfl rfl rfl rfl ?_; refine w_pure (y_pick_f rfl rfl) rfl ?_; refine w_pure (y_assign rfl) rfl ?_; refine w_nil ?_; refine x_next ?_; refine c_ret ?_; rotate_left
  all_goals refine x_retv [_] rfl ⟨rfl, trivial⟩ ⟨?_, E.go⟩
  all_goals first | exact congrArg Value.bool (decide_eq_decide.2 (by omega)) | exact congrArg Value.bool (decide_eq_false (by omega)).symm
theorem l02Field_c (x y W : Int) : Val Tryz.prog 96 [.agg #[.int .i64 x, .int .i64 y], .int .i64 W] w (.bool (fldB x y W)) := by
  refine ⟨fun w1 hx1 => ?_⟩
  have E : Since 0 0 w1 w1 := Since.refl 0 0 w1
  refine ret_enter Tryz.func96 rfl Tryz.ntmps96 rfl ?_
  focus refine c_seq ?_; refine c_region ?_; refine w_box rfl (k := fun b2 w2 hb2 hx2 hl2 hs2 => ?_); have hz_hx2 := hx2.size; replace E := E.trans hx2; refine w_pure (y_assign rfl) rfl ?_; refine w_nil ?_; refine x_next ?_; refine c_seq ?_; refine c_region ?_; refine w_pure (y_field rfl) rfl ?_; refine w_pure (y_load_box rfl) rfl ?_; refine w_pure (y_ge rfl rfl) rfl ?_; refine w_pure (y_move rfl) rfl ?_; (refine w_part_dec rfl rfl (fun hc9 => ?_) (fun hc9 => ?_) <;> try (first | exact absurd rfl hc9 | contradiction | exact Bool.noConfusion (show false = true from hc9.symm.trans (by assumption)) | exact Bool.noConfusion (show true = false from hc9.symm.trans (by assumption)) | (exfalso; omega) | (exfalso; simp only [*, Bool.not_true, Bool.not_false, reduceCtorEq] at hc9; done))); refine w_yes rfl rfl ?_; refine w_pure (y_field rfl) rfl ?_; refine w_yes rfl rfl ?_; refine w_pure (y_load_box rfl) rfl ?_; refine w_yes rfl rfl ?_; refine w_pure (y_field rfl) rfl ?_; refine w_yes rfl rfl ?_; refine w_pure (y_load_box rfl) rfl ?_; refine w_yes rfl rfl ?_; refine w_pure (y_lt rfl rfl) rfl ?_; refine w_pure (y_pick_t rfl rfl) rfl ?_; refine w_pure (y_move rfl) rfl ?_; (refine w_part_dec rfl rfl (fun hc16 => ?_) (fun hc16 => ?_) <;> try (first | exact absurd rfl hc16 | contradiction | exact Bool.noConfusion (show false = true from hc16.symm.trans (by assumption)) | exact Bool.noConfusion (show true = false from hc16.symm.trans (by assumption)) | (exfalso; omega) | (exfalso; simp only [*, Bool.not_true, Bool.not_false, reduceCtorEq] at hc16; done))); refine w_yes rfl rfl ?_; refine w_pure (y_field rfl) rfl ?_; refine w_yes rfl rfl ?_; refine w_pure (y_load_box rfl) rfl ?_; refine w_yes rfl rfl ?_; refine w_pure (y_move rfl) rfl ?_; refine w_yes rfl rfl ?_; refine w_pure (y_le rfl rfl) rfl ?_; refine w_pure (y_pick_t rfl rfl) rfl ?_; refine w_pure (y_assign rfl) rfl ?_; refine w_nil ?_; refine x_next ?_; refine c_ret ?_; rotate_left; refine w_no rfl rfl rfl rfl ?_; refine w_no rfl rfl rfl rfl ?_; refine w_no rfl rfl rfl rfl ?_; refine w_no rfl rfl rfl rfl ?_; refine w_pure (y_pick_f rfl rfl) rfl ?_; refine w_pure (y_assign rfl) rfl ?_; refine w_nil ?_; refine x_next ?_; refine c_ret ?_; rotate_left; refine w_no rfl rfl rfl rfl ?_; refine w_no rfl rfl rfl rfl ?_; refine w_no rfl rfl rfl rfl ?_; refine w_no rfl rfl rfl rfl ?_; refine w_no rfl rfl rfl rfl ?_; refine w_pure (y_pick_f rfl rfl) rfl ?_; refine w_pure (y_move rfl) rfl ?_; refine w_no rfl rfl rfl rfl ?_; refine w_no rfl rfl rfl rfl ?_; refine w_no rfl rfl rfl rfl ?_; refine w_no rfl rfl rfl rfl ?_; refine w_pure (y_pick_f rfl rfl) rfl ?_; refine w_pure (y_assign rfl) rfl ?_; refine w_nil ?_; refine x_next ?_; refine c_ret ?_; rotate_left
  all_goals refine x_retv [_] rfl ⟨rfl, trivial⟩ ⟨?_, E.go⟩
  all_goals first | exact congrArg Value.bool (decide_eq_decide.2 (by omega)) | exact congrArg Value.bool (decide_eq_false (by omega)).symm
end
end Go.Proofs.YticnemjjjceiaaaGreatDoor
/- Dec -/
namespace Go.Proofs.YticnemjjjceiaaaGreatDoor
open Go Go.Gw
set_option linter.unusedVariables false
set_option linter.unusedSimpArgs false
/-- the decimal digits of a number, none for 0 -/
def dec0 (u : Nat) : List UInt8 := if u = 0 then [] else Lib.decDigits u
theorem dec0_step {u : Nat} (h : u ≠ 0) : dec0 u = dec0 (u / 10) ++ [UInt8.ofNat (48 + u % 10)] := by
  unfold dec0
  rw [if_neg h, Lib.decDigits]
  by_cases h1 : u < 10
  · rw [dif_pos h1, if_pos (by omega), show u % 10 = u by omega]; rfl
  · rw [dif_neg h1, if_neg (by omega)]
theorem nDigits_pow : ∀ (k u : Nat), u < 10 ^ (k + 1) → Lib.nDigits u ≤ k + 1
  | 0, u, h => by rw [Lib.nDigits_small (by simpa using h)]; omega
  | k + 1, u, h => by
    by_cases h1 : u < 10
    · rw [Lib.nDigits_small h1]; omega
    · rw [Lib.nDigits_big h1]
      have := nDigits_pow k (u / 10) (by rw [Nat.pow_succ] at h; omega)
      omega
theorem nDigits_pos (u : Nat) : 1 ≤ Lib.nDigits u := by
  by_cases h : u < 10
  · rw [Lib.nDigits_small h]; omega
  · rw [Lib.nDigits_big h]; omega
theorem pow_nDigits : ∀ (k u : Nat), 10 ^ k ≤ u → k + 1 ≤ Lib.nDigits u
  | 0, u, h => nDigits_pos u
  | k + 1, u, h => by
    have h0 : 10 ^ 1 ≤ 10 ^ (k + 1) := Nat.pow_le_pow_right (by omega) (by omega)
    rw [Lib.nDigits_big (by omega)]
    have := pow_nDigits k (u / 10) (by rw [Nat.pow_succ] at h; omega)
    omega
theorem dec0_len (u : Nat) (h : u < 10 ^ 19) : (dec0 u).length ≤ 19 := by
  unfold dec0; split
  · simp
  · rw [Lib.decDigits_length]; exact nDigits_pow 18 u h
theorem itoa_len {n : Int} (h : In64 n) : (Lib.itoa n).length ≤ 20 := by
  unfold Lib.itoa In64 at *
  have e : (10 : Nat) ^ 19 = 10000000000000000000 := by decide
  split
  · rw [List.length_cons, Lib.decDigits_length]
    have := nDigits_pow 18 n.natAbs (by omega)
    omega
  · rw [Lib.decDigits_length]
    have := nDigits_pow 18 n.toNat (by omega)
    omega
theorem itoa_dec0 (n : Int) : Lib.itoa n = if n = 0 then [48] else if n < 0 then 45 :: dec0 n.natAbs else dec0 n.natAbs := by
  unfold Lib.itoa dec0
  by_cases h0 : n = 0
  · subst h0; simp [Lib.decDigits]
  · rw [if_neg h0, if_neg (show ¬ n.natAbs = 0 by omega)]
    split
    · rfl
    · rw [show n.toNat = n.natAbs by omega]
end Go.Proofs.YticnemjjjceiaaaGreatDoor
/- Shelf -/
namespace Go.Proofs
open Go.Shelf
def Tryz.laysM173_ren : Go.Shelf.Ren := ⟨fun | 173 => 116 | 246 => 149 | 283 => 164 | 284 => 165 | 285 => 166 | 286 => 167 | 129 => 148 | 317 => 184 | 318 => 185 | 319 => 186 | 320 => 187 | 337 => 196 | 338 => 197 | n => n, fun | 2 => 2 | 3 => 3 | 9 => 9 | 4 => 4 | 171 => 183 | 0 => 0 | 53 => 129 | 37 => 22 | 5 => 5 | 173 => 185 | 212 => 206 | 51 => 170 | 20 => 20 | 213 => 207 | 46 => 137 | 232 => 224 | 233 => 225 | n => n, fun | 17 => 1 | 18 => 6 | 19 => 7 | n => n⟩
theorem Tryz.laysM173 : Go.Proofs.LaysM.n173 Tryz.prog Tryz.laysM173_ren := {
  mixed := by kernel_rfl
  f129 := Tryz.func148.trans (congrArg some (by kernel_rfl))
  f173 := Tryz.func116.trans (congrArg some (by kernel_rfl))
  f246 := Tryz.func149.trans (congrArg some (by kernel_rfl))
  f283 := Tryz.func164.trans (congrArg some (by kernel_rfl))
  f284 := Tryz.func165.trans (congrArg some (by kernel_rfl))
  f285 := Tryz.func166.trans (congrArg some (by kernel_rfl))
  f286 := Tryz.func167.trans (congrArg some (by kernel_rfl))
  f317 := Tryz.func184.trans (congrArg some (by kernel_rfl))
  f318 := Tryz.func185.trans (congrArg some (by kernel_rfl))
  f319 := Tryz.func186.trans (congrArg some (by kernel_rfl))
  f320 := Tryz.func187.trans (congrArg some (by kernel_rfl))
  f337 := Tryz.func196.trans (congrArg some (by kernel_rfl))
  f338 := Tryz.func197.trans (congrArg some (by kernel_rfl))
  t0 := Tryz.underlying0
  a0 := Tryz.isAgg0
  z0 := Tryz.sizeOf0
  v0 := Tryz.zeroValue0
  t2 := Tryz.underlying2
  a2 := Tryz.isAgg2
  z2 := Tryz.sizeOf2
  v2 := Tryz.zeroValue2
  t3 := Tryz.underlying3
  a3 := Tryz.isAgg3
  z3 := Tryz.sizeOf3
  v3 := Tryz.zeroValue3
  t4 := Tryz.underlying4
  a4 := Tryz.isAgg4
  z4 := Tryz.sizeOf4
  v4 := Tryz.zeroValue4
  t5 := Tryz.underlying5
  a5 := Tryz.isAgg5
  z5 := Tryz.sizeOf5
  v5 := Tryz.zeroValue5
  t9 := Tryz.underlying9
  a9 := Tryz.isAgg9
  z9 := Tryz.sizeOf9
  v9 := Tryz.zeroValue9
  t20 := Tryz.underlying20
  a20 := Tryz.isAgg20
  z20 := Tryz.sizeOf20
  v20 := Tryz.zeroValue20
  t37 := Tryz.underlying22
  a37 := Tryz.isAgg22
  z37 := Tryz.sizeOf22
  v37 := Tryz.zeroValue22
  t46 := Tryz.underlying137
  a46 := Tryz.isAgg137
  z46 := Tryz.sizeOf137
  v46 := Tryz.zeroValue137
  t51 := Tryz.underlying170
  a51 := Tryz.isAgg170
  z51 := Tryz.sizeOf170
  v51 := Tryz.zeroValue170
  t53 := Tryz.underlying129
  a53 := Tryz.isAgg129
  z53 := Tryz.sizeOf129
  v53 := Tryz.zeroValue129
  t171 := Tryz.underlying183
  a171 := Tryz.isAgg183
  z171 := Tryz.sizeOf183
  v171 := Tryz.zeroValue183
  t173 := Tryz.underlying185
  a173 := Tryz.isAgg185
  z173 := Tryz.sizeOf185
  v173 := Tryz.zeroValue185
  t212 := Tryz.underlying206
  a212 := Tryz.isAgg206
  z212 := Tryz.sizeOf206
  v212 := Tryz.zeroValue206
  t213 := Tryz.underlying207
  a213 := Tryz.isAgg207
  z213 := Tryz.sizeOf207
  t232 := Tryz.underlying224
  a232 := Tryz.isAgg224
  z232 := Tryz.sizeOf224
  v232 := Tryz.zeroValue224
  t233 := Tryz.underlying225
  a233 := Tryz.isAgg225
  z233 := Tryz.sizeOf225
  v233 := Tryz.zeroValue225
  g17 := by kernel_rfl
  g18 := by kernel_rfl
  g19 := by kernel_rfl
  i0 := by kernel_rfl
  i2 := by kernel_rfl
  i3 := by kernel_rfl
  i4 := by kernel_rfl
  i5 := by kernel_rfl
  i9 := by kernel_rfl
  i20 := by kernel_rfl
  i37 := by kernel_rfl
  i46 := by kernel_rfl
  i51 := by kernel_rfl
  i53 := by kernel_rfl
  i171 := by kernel_rfl
  i173 := by kernel_rfl
  i212 := by kernel_rfl
  i232 := by kernel_rfl
  i233 := by kernel_rfl
  m17 := by kernel_rfl
  m18 := by kernel_rfl
  m19 := by kernel_rfl }
open Go.RowKit Go.Sort Go.Lib in
/-- strconv.FormatInt: "FormatInt returns the string representation of i in the given base": AT BASE 10: i's decimal numeral, for every int64. (LAID: no walk: one application.) -/
theorem Tryz.strconv_FormatInt_10 (n : Int) (h0 : -9223372036854775808 ≤ n) (h1 : n ≤ 9223372036854775807) (w : World) (htab : Lib.TabIs Tryz.prog w "internal/strconv.uint64pow10" .u64 Lib.pow10Tab) :
    Calls Tryz.prog 116 #[.int .i64 n, .int .i64 10] w fun e w' => e = .returned (.string ⟨(Lib.itoa n).toArray⟩) ∧ ∃ k os, w' = grow (w.drewN k) os := Any.strconv_FormatInt_10 Tryz.laysM173 n h0 h1 w htab

end Go.Proofs
/- TieA -/
namespace Go.Proofs.YticnemjjjceiaaaGreatDoor
open Go Go.Gw
set_option linter.unusedVariables false
set_option linter.unusedSimpArgs false
/-- the library's table of powers of ten stands, in a block below B -/
structure Tab (B : Nat) (w : World) : Prop where
  go : Lib.TabIs Tryz.prog w "internal/strconv.uint64pow10" .u64 Lib.pow10Tab
  low : 1 < B
  top : B ≤ w.heap.size
theorem gPow : Tryz.prog.globalNamed "internal/strconv.uint64pow10" = some 1 := by kernel_rfl
theorem Tab.chg {B l k : Nat} {w w' : World} (h : Tab B w) (hx : Chg l k w w') (ho : k = 0 ∨ B ≤ l) : Tab B w' := by
  have hl := h.low
  have ht := h.top
  refine ⟨?_, h.low, Nat.le_trans h.top hx.size⟩
  have h1 := h.go
  unfold Lib.TabIs World.var? at h1 ⊢
  rw [gPow] at h1 ⊢
  simp only [Option.bind_some] at h1 ⊢
  rw [hx.block _ (by omega) (by omega)]
  exact h1
theorem Tab.ext {B : Nat} {w w' : World} (h : Tab B w) (hx : Ext w w') : Tab B w' := h.chg hx (.inl rfl)
theorem tab_of {W : World} {rest : List (String × DataW Unit)} (h : laidMet Tryz.prog (("internal/strconv.uint64pow10", Rows.laid_internal_strconv_uint64pow10) :: rest) W) : Tab W.heap.size W := by
  have h1 : Lib.TabIs Tryz.prog W "internal/strconv.uint64pow10" .u64 Lib.pow10Tab :=
    Lib.tabIs_of_head (n := 20) (e := 129) (t := 206) gPow (by kernel_rfl) Tryz.underlying206 Tryz.underlying129 (by kernel_rfl) (by kernel_rfl) (show laidMet Tryz.prog (("internal/strconv.uint64pow10", Lib.tabData .u64 Lib.pow10Tab) :: rest) W from h)
  refine ⟨h1, ?_, Nat.le_refl _⟩
  unfold Lib.TabIs World.var? at h1
  rw [gPow] at h1
  simp only [Option.bind_some] at h1
  rcases Nat.lt_or_ge 1 W.heap.size with h2 | h2
  · exact h2
  · rw [Array.getElem?_eq_none h2] at h1; cases h1
theorem grow_ext (w : World) (k : Nat) (os : Array Obj) : Ext w (Sort.grow (w.drewN k) os) :=
  ⟨rfl, rfl, rfl, by simp [Sort.grow], fun i hi _ => by simp only [Sort.grow, World.heap_drewN]; rw [Array.getElem?_append_left hi]⟩
section
variable {w : World} {lo hi B : Nat} {v : Value} {xs : List Int}
theorem FormatInt_c (n : Int) (hT : Tab B w := by assumption) (hn : In64 n := by first | assumption | exact ⟨by omega, by omega⟩) : Val Tryz.prog 116 [.int .i64 n, .int .i64 10] w (str (Lib.itoa n)) := by
  refine ⟨fun w1 hx1 => ⟨?_⟩⟩
  refine Calls.mono (Tryz.strconv_FormatInt_10 n hn.1 hn.2 w1 (hT.ext hx1).go) ?_
  rintro e w' ⟨rfl, k, os, rfl⟩
  exact ⟨_, rfl, rfl, grow_ext _ _ _⟩
theorem iDecimal_c (n : Int) (hT : Tab B w := by assumption) (hn : In64 n := by first | assumption | exact ⟨by omega, by omega⟩) : Val Tryz.prog 70 [.int .i64 n] w (str (Lib.itoa n)) := by
  refine ⟨fun w1 hx1 => ?_⟩
  replace hT := hT.ext hx1
  have E : Since 0 0 w1 w1 := Since.refl 0 0 w1
  refine ret_enter Tryz.func70 rfl Tryz.ntmps70 rfl ?_
  focus have ht_hT := hT.top; refine c_seq ?_; refine c_region ?_; refine w_pure (y_assign rfl) rfl ?_; refine w_nil ?_; refine x_next ?_; refine c_seq ?_; refine c_region ?_; refine w_pure (y_move rfl) rfl ?_; refine w_val rfl rfl rfl (FormatInt_c _) rfl (fun w4 hx4 hz4 => ?_); have hz_hx4 := hx4.size; replace hT := hT.ext hx4; replace E := E.trans hx4; refine w_pure (y_assign rfl) rfl ?_; refine w_nil ?_; refine x_next ?_; refine c_ret ?_; rotate_left
  exact x_retv [_] rfl ⟨rfl, trivial⟩ ⟨rfl, E.go⟩
/-- how many digits a number has that is not negative -/
def nDig (n : Int) : Int := Lib.nDigits n.toNat
theorem nDig_bd {n : Int} (h : 0 ≤ n ∧ n ≤ 9223372036854775807) : 1 ≤ nDig n ∧ nDig n ≤ 19 := by
  have h1 := nDigits_pos n.toNat
  have e : (10 : Nat) ^ 19 = 10000000000000000000 := by decide
  have h2 := nDigits_pow 18 n.toNat (by omega)
  unfold nDig; omega
theorem nDig_le {n k : Int} (h : 0 ≤ n) (hk : 1 ≤ k) : nDig n ≤ k ↔ n < 10 ^ k.toNat := by
  obtain ⟨j, hj⟩ : ∃ j : Nat, k.toNat = j + 1 := ⟨k.toNat - 1, by omega⟩
  have e : ((10 ^ (j + 1) : Nat) : Int) = 10 ^ (j + 1) := by push_cast; rfl
  unfold nDig
  rw [hj, ← e]
  constructor
  · intro h1
    rcases Nat.lt_or_ge n.toNat (10 ^ (j + 1)) with h2 | h2
    · omega
    · have := pow_nDigits (j + 1) n.toNat h2; omega
  · intro h1
    have := nDigits_pow j n.toNat (by omega)
    omega
theorem digitsOf_c (n : Int) (h0 : 0 ≤ n ∧ n ≤ 9223372036854775807 := by first | assumption | omega) (hT : Tab B w := by assumption) : Val Tryz.prog 99 [.int .i64 n] w (.int .i64 (nDig n)) := by
  refine ⟨fun w1 hx1 => ?_⟩
  replace hT := hT.ext hx1
  have hl := itoa_len (n := n) ⟨by omega, by omega⟩
  have e : ((Lib.itoa n).length : Int) = nDig n := by unfold Lib.itoa nDig; rw [if_neg (by omega), Lib.decDigits_length]
  have E : Since 0 0 w1 w1 := Since.refl 0 0 w1
  refine ret_enter Tryz.func99 rfl Tryz.ntmps99 rfl ?_
  focus have ht_hT := hT.top; refine c_seq ?_; refine c_region ?_; refine w_pure (y_assign rfl) rfl ?_; refine w_nil ?_; refine x_next ?_; refine c_seq ?_; refine c_region ?_; refine w_pure (y_move rfl) rfl ?_; refine w_val rfl rfl rfl (iDecimal_c _) rfl (fun w4 hx4 hz4 => ?_); have hz_hx4 := hx4.size; replace hT := hT.ext hx4; replace E := E.trans hx4; refine w_pure (y_slen rfl) rfl ?_; refine w_pure (y_assign rfl) rfl ?_; refine w_nil ?_; refine x_next ?_; refine c_ret ?_; rotate_left
  exact x_retv [_] rfl ⟨rfl, trivial⟩ ⟨by rw [← e]; rfl, E.go⟩
end
end Go.Proofs.YticnemjjjceiaaaGreatDoor
/- SerA -/
namespace Go.Proofs.YticnemjjjceiaaaGreatDoor
open Go Go.Gw
set_option linter.unusedVariables false
set_option linter.unusedSimpArgs false
/-- a field of a card, its columns put in -/
def putF (xs : List Int) (f t : Int) (p : List Int) : List Int := xs.take f.toNat ++ p ++ xs.drop t.toNat
theorem putF_len {xs : List Int} {f t : Int} {p : List Int} (h : 0 ≤ f ∧ f < t ∧ t ≤ xs.length) (hp : (p.length : Int) = t - f) : (putF xs f t p).length = xs.length := by
  simp only [putF, List.length_append, List.length_take, List.length_drop]; omega
/-- no column of the field has a hole -/
def blkB (xs : List Int) (f t : Int) : Bool := !(prt xs f t).any fun m => decide (¬ m = 0)
theorem blkB_at {xs : List Int} {f t : Int} (h : blkB xs f t = true) {k : Nat} (hk : k < (prt xs f t).length) : (prt xs f t).getD k 0 = 0 := by
  simp only [blkB, Bool.not_eq_true', List.any_eq_false, decide_eq_true_eq, Decidable.not_not] at h
  rw [List.getD_eq_getElem?_getD, List.getElem?_eq_getElem hk]
  exact h _ (List.getElem_mem hk)
theorem blkB_no {xs : List Int} {f t : Int} {k : Nat} (hk : k < (prt xs f t).length) (h : ¬ (prt xs f t).getD k 0 = 0) : blkB xs f t = false := by
  cases hb : blkB xs f t
  · rfl
  · exact absurd (blkB_at hb hk) h
theorem blkB_yes {xs : List Int} {f t : Int} (h : ∀ k, k < (prt xs f t).length → (prt xs f t).getD k 0 = 0) : blkB xs f t = true := by
  simp only [blkB, Bool.not_eq_true', List.any_eq_false, decide_eq_true_eq, Decidable.not_not]
  intro m hm
  obtain ⟨j, hj, rfl⟩ := List.mem_iff_getElem.1 hm
  have := h j hj
  rwa [List.getD_eq_getElem?_getD, List.getElem?_eq_getElem hj] at this
/-- the code from card i on -/
def serF (xss : List (List Int)) (f t first : Int) (i : Nat) : Int :=
  if h : i < xss.length then (if first + i < 10 ^ (t - f).toNat then (if blkB (xss.getD i []) f t = true then serF xss f t first (i + 1) else 9) else 5) else 0
termination_by xss.length - i
section
variable {xss : List (List Int)} {f t first : Int} {i : Nat}
theorem serF_end (h : ¬ i < xss.length) : serF xss f t first i = 0 := by rw [serF, dif_neg h]
theorem serF_5 (h : i < xss.length) (h1 : ¬ first + i < 10 ^ (t - f).toNat) : serF xss f t first i = 5 := by rw [serF, dif_pos h, if_neg h1]
theorem serF_9 (h : i < xss.length) (h1 : first + i < 10 ^ (t - f).toNat) (h2 : blkB (xss.getD i []) f t = false) : serF xss f t first i = 9 := by rw [serF, dif_pos h, if_pos h1, if_neg (by rw [h2]; decide)]
theorem serF_on (h : i < xss.length) (h1 : first + i < 10 ^ (t - f).toNat) (h2 : blkB (xss.getD i []) f t = true) : serF xss f t first i = serF xss f t first (i + 1) := by
  conv => lhs; rw [serF, dif_pos h, if_pos h1, if_pos h2]
end
def serAt (xss : List (List Int)) (f t first : Int) (i : Nat) : List Int := putF (xss.getD i []) f t (pun (first + i) (t - f).toNat)
def serL (xss : List (List Int)) (f t first : Int) : List (List Int) := (List.range xss.length).map (serAt xss f t first)
theorem serL_len (xss : List (List Int)) (f t first : Int) : (serL xss f t first).length = xss.length := by simp [serL]
theorem serL_get {xss : List (List Int)} {f t first : Int} {i : Nat} (h : i < xss.length) : (serL xss f t first)[i]? = some (serAt xss f t first i) := by simp [serL, h]
def cSer (xss : List (List Int)) (f t first : Int) : Int :=
  if okD xss = true then (if (0 ≤ f ∧ f < t ∧ t ≤ widD xss) ∧ t - f ≤ 12 ∧ 0 ≤ first ∧ first ≤ 999999999999 then serF xss f t first 0 else 2) else 1
def resSer (xss : List (List Int)) (f t first : Int) : List (List Int) := if cSer xss f t first = 0 then serL xss f t first else []
end Go.Proofs.YticnemjjjceiaaaGreatDoor
/- SerB -/
namespace Go.Proofs.YticnemjjjceiaaaGreatDoor
open Go Go.Gw
set_option linter.unusedVariables false
set_option linter.unusedSimpArgs false
theorem take_put {xs D R : List Int} {c : Nat} {b : Int} (h : c < xs.length) : (xs.take (c + 1) ++ R ++ D).set c b = xs.take c ++ ([b] ++ R) ++ D := by
  have h1 : (xs.take c).length = c := by rw [List.length_take]; omega
  rw [List.take_add_one, List.getElem?_eq_getElem h, Option.toList_some, List.append_assoc, List.append_assoc, List.set_append_right _ _ (by omega), h1, Nat.sub_self]
  simp
section
variable {w : World} {lo hi B : Nat} {v : Value} {xs : List Int}
theorem punchNumber_c (f t n : Int) (h : SL w lo hi v xs := by repeat (first | assumption | exact Go.Gw.Own.sl (by assumption) | exact Go.Gw.Box.at (by assumption) | exact Go.Gw.SLL.el (by first | assumption | exact Go.Gw.OwnD.sll (by assumption)) _ (by omega) | exact Go.Gw.SLL.at (by first | assumption | exact Go.Gw.OwnD.sll (by assumption)) (by omega) | exact Go.Gw.OwnD.sll (by assumption) | (apply Go.Gw.SL.chg; case hx => assumption) | (apply Go.Gw.Own.chg; case hx => assumption) | (apply Go.Gw.Box.chg; case hx => assumption) | (apply Go.Gw.At.chg; case hx => assumption) | exact .inl (Nat.zero_le _) | exact .inr (Nat.zero_le _) | (show _ ∨ _; omega))) (hf : 0 ≤ f ∧ f < t ∧ t ≤ xs.length := by omega) (hl : xs.length ≤ 1000 := by omega) (hn : 0 ≤ n ∧ n ≤ 9223372036854775807 := by omega) : Ret Tryz.prog 102 [.agg #[v], .agg #[.int .i64 f, .int .i64 t], .int .i64 n] w fun u w' => ∃ d, u = .agg #[d] ∧ Own w' 2 w.heap.size d (putF xs f t (pun n (t - f).toNat)) ∧ Ext w w' := by
  have E : Since 0 0 w w := Since.refl 0 0 w
  refine ret_enter Tryz.func102 rfl Tryz.ntmps102 rfl ?_
  focus have ht_h := h.top; refine c_seq ?_; refine c_region ?_; refine w_box rfl (k := fun b3 w3 hb3 hx3 hl3 hs3 => ?_); have hz_hx3 := hx3.size; replace h := h.ext hx3; replace E := E.trans hx3; refine w_box rfl (k := fun b4 w4 hb4 hx4 hl4 hs4 => ?_); have hz_hx4 := hx4.size; replace hb3 := hb3.ext hx4; replace h := h.ext hx4; replace E := E.trans hx4; refine w_alloc (k := fun b6 w6 hb6 hx6 hl6 hs6 => ?_); have hz_hx6 := hx6.size; replace hb4 := hb4.ext hx6; replace hb3 := hb3.ext hx6; replace h := h.ext hx6; replace E := E.trans hx6; refine w_nil ?_; refine x_next ?_; refine c_seq ?_; refine c_region ?_; refine w_pure (y_load_boxs rfl) rfl ?_; (refine w_call rfl rfl rfl (newCard_c) rfl ?_; rintro _ w11 ⟨d11, ⟨rfl, ⟨hp1_11, hx11⟩⟩⟩); have hl_hp1_11 := hp1_11.lt; have hz_hx11 := hx11.size; replace hb6 := hb6.ext hx11; replace hb4 := hb4.ext hx11; replace hb3 := hb3.ext hx11; replace h := h.ext hx11; replace E := E.trans hx11; refine w_pure (y_move rfl) rfl ?_; refine w_pur rfl rfl rfl (absOf_c _ (by omega)) rfl ?_; refine w_alloc (k := fun b7 w7 hb7 hx7 hl7 hs7 => ?_); have hz_hx7 := hx7.size; replace hp1_11 := hp1_11.ext hx7; replace hb6 := hb6.ext hx7; replace hb4 := hb4.ext hx7; replace hb3 := hb3.ext hx7; replace h := h.ext hx7; replace E := E.trans hx7; refine w_store_boxs rfl rfl (next := fun ws15 hbs15 hxs15 hss15 => ?_); (replace hb7 := hbs15; clear hbs15); have hz_hxs15 := hxs15.size; replace hp1_11 := hp1_11.chg hxs15 (by omega); replace hb6 := hb6.chg hxs15 (by omega); replace hb4 := hb4.chg hxs15 (by omega); replace hb3 := hb3.chg hxs15 (by omega); replace h := h.chg hxs15 (by omega); replace E := E.next hxs15 (by omega); refine w_pure (y_assign rfl) rfl ?_; refine w_nil ?_; refine x_next ?_; refine c_seq ?_; refine c_seq ?_; refine c_region ?_; refine w_pure (y_field rfl) rfl ?_; refine w_pure (y_load_box rfl) rfl ?_; refine w_pure (y_sub rfl rfl) rfl ?_; refine w_pure (y_assign rfl) rfl ?_; refine w_nil ?_; refine x_next ?_; refine c_block ?_; rotate_left
  refine c_loopC (bL d11) (bH d11) (ι := Int × Int × List Int) (fun x => [(2, .int .i64 n), (4, ptr b4 0), (6, ptr b6 0), (7, ptr b7 0), (8, .int .i64 x.1), (9, .int .i64 x.2.1)])
    (fun x w' => Own w' 2 w6.heap.size d11 (xs.take (x.2.1 + 1).toNat ++ x.2.2 ++ xs.drop t.toNat) ∧ f - 1 ≤ x.2.1 ∧ x.2.1 ≤ t - 1 ∧ 0 ≤ x.1 ∧ x.1 ≤ n ∧ pun x.1 (x.2.1 + 1 - f).toNat ++ x.2.2 = pun n (t - f).toNat) (fun x => (x.2.1 + 1 - f).toNat) (max n (-n), t - 1, [])
    (by repeat (first | exact trivial | refine ⟨rfl, ?_⟩)) ⟨by dsimp only; rw [List.append_nil, show t - 1 + 1 = t by omega, List.take_append_drop]; assumption, by dsimp only; omega, by dsimp only; omega, by dsimp only; omega, by dsimp only; omega, by dsimp only; rw [List.append_nil, show t - 1 + 1 - f = t - f by omega, show max n (-n) = n by omega]⟩ ?_
  clear hp1_11
  rintro ⟨x, j, R⟩ wL hxL EL ⟨g1, hj0, hj1, hx0, hx1, hp⟩
  dsimp only at *
  by_cases hj : f ≤ j
  · have ej : (j + 1).toNat = j.toNat + 1 := by omega
    have ej2 : (j + 1 - f).toNat = (j - f).toNat + 1 := by omega
    have hrl : j.toNat < (xs.take (j + 1).toNat ++ R ++ xs.drop t.toNat).length := by rw [List.length_append, List.length_append, List.length_take]; omega
    focus have hl_g1 := g1.lt; have hz_hxL := hxL.size; replace hb7 := hb7.chg hxL (by omega); replace hb6 := hb6.chg hxL (by omega); replace hb4 := hb4.chg hxL (by omega); replace hb3 := hb3.chg hxL (by omega); replace h := h.chg hxL (by omega); replace E := E.next hxL (by omega); refine c_seq ?_; refine c_seq ?_; refine c_region ?_; refine w_pure (y_move rfl) rfl ?_; refine w_pure (y_field rfl) rfl ?_; refine w_pure (y_load_box rfl) rfl ?_; refine w_pure (y_ge rfl rfl) rfl ?_; refine w_nil ?_; refine x_next ?_; (refine c_dec rfl (fun hc20 => ?_) (fun hc20 => ?_) <;> try (first | exact absurd rfl hc20 | contradiction | exact Bool.noConfusion (show false = true from hc20.symm.trans (by assumption)) | exact Bool.noConfusion (show true = false from hc20.symm.trans (by assumption)) | (exfalso; omega) | (exfalso; simp only [*, Bool.not_true, Bool.not_false, reduceCtorEq] at hc20; done))); refine c_skip ?_; refine x_next ?_; refine c_seq ?_; refine c_block ?_; refine c_seq ?_; refine c_region_base mixed (fun wr5 hxr5 hzr5 EBr5 => ?_); have hz_hxr5 := hxr5.size; replace EL := EL.next hxr5 (by omega); replace g1 := g1.ext hxr5; replace hb7 := hb7.ext hxr5; replace hb6 := hb6.ext hxr5; replace hb4 := hb4.ext hxr5; replace hb3 := hb3.ext hxr5; replace h := h.ext hxr5; replace E := E.trans hxr5; refine b_pure rfl (y_field rfl) rfl ?_; refine b_pure rfl (y_load_box rfl) rfl ?_; refine b_pure rfl (y_move rfl) rfl ?_; refine b_pure rfl (y_move rfl) rfl ?_; refine b_pure rfl (y_rem rfl rfl) rfl ?_; refine b_one rfl ?_; refine w_pur rfl rfl rfl (bitOf_c _) rfl ?_; refine w_nil ?_; refine x_hb ?_; refine b_pure rfl (y_index rfl rfl) rfl ?_; refine b_one rfl ?_; refine w_store_own rfl rfl (next := fun ws28 hos28 hxs28 hss28 => ?_); (replace g1 := hos28; clear hos28); have hz_hxs28 := hxs28.size; replace EL := EL.trans hxs28; replace hb7 := hb7.chg hxs28 (by omega); replace hb6 := hb6.chg hxs28 (by omega); replace hb4 := hb4.chg hxs28 (by omega); replace hb3 := hb3.chg hxs28 (by omega); replace h := h.chg hxs28 (by omega); replace E := E.next hxs28 (by omega); refine w_nil ?_; refine x_hbk ?_; refine b_nil ?_; refine x_next ?_; refine c_region ?_; refine w_pure (y_move rfl) rfl ?_; refine w_pure (y_quo rfl rfl) rfl ?_; refine w_pure (y_assign rfl) rfl ?_; refine w_nil ?_; refine x_block_norm ?_; refine x_next ?_; refine c_region ?_; refine w_pure (y_move rfl) rfl ?_; refine w_pure (y_sub rfl rfl) rfl ?_; refine w_pure (y_assign rfl) rfl ?_; refine w_nil ?_; rotate_left
    refine x_again (x / 10, j - 1, [bitI (x % 10)] ++ R) (by repeat (first | exact trivial | refine ⟨rfl, ?_⟩)) ⟨EL.go, ?_, by dsimp only; omega, by dsimp only; omega, by dsimp only; omega, by dsimp only; omega, ?_⟩ (by dsimp only; omega)
    · dsimp only
      rw [show (j - 1 + 1).toNat = j.toNat by omega, ← take_put (by omega), ← ej]
      assumption
    · dsimp only
      rw [← hp, ej2, pun, show (j - 1 + 1 - f).toNat = (j - f).toNat by omega, List.append_assoc]
  · focus have hl_g1 := g1.lt; have hz_hxL := hxL.size; replace hb7 := hb7.chg hxL (by omega); replace hb6 := hb6.chg hxL (by omega); replace hb4 := hb4.chg hxL (by omega); replace hb3 := hb3.chg hxL (by omega); replace h := h.chg hxL (by omega); replace E := E.next hxL (by omega); refine c_seq ?_; refine c_seq ?_; refine c_region ?_; refine w_pure (y_move rfl) rfl ?_; refine w_pure (y_field rfl) rfl ?_; refine w_pure (y_load_box rfl) rfl ?_; refine w_pure (y_ge rfl rfl) rfl ?_; refine w_nil ?_; refine x_next ?_; (refine c_dec rfl (fun hc20 => ?_) (fun hc20 => ?_) <;> try (first | exact absurd rfl hc20 | contradiction | exact Bool.noConfusion (show false = true from hc20.symm.trans (by assumption)) | exact Bool.noConfusion (show true = false from hc20.symm.trans (by assumption)) | (exfalso; omega) | (exfalso; simp only [*, Bool.not_true, Bool.not_false, reduceCtorEq] at hc20; done))); refine c_exit ?_; refine x_then_exit ?_; refine x_then_exit ?_; refine x_block_hit ?_; refine x_next ?_; refine c_seq ?_; refine c_seq ?_; refine c_region ?_; refine w_pure (y_move rfl) rfl ?_; refine w_pure (y_lt rfl rfl) rfl ?_; refine w_nil ?_; refine x_next ?_; (refine c_dec rfl (fun hc33 => ?_) (fun hc33 => ?_) <;> try (first | exact absurd rfl hc33 | contradiction | exact Bool.noConfusion (show false = true from hc33.symm.trans (by assumption)) | exact Bool.noConfusion (show true = false from hc33.symm.trans (by assumption)) | (exfalso; omega) | (exfalso; simp only [*, Bool.not_true, Bool.not_false, reduceCtorEq] at hc33; done))); refine c_skip ?_; refine x_next ?_; refine c_seq ?_; refine c_region ?_; refine w_pure (y_load_boxs rfl) rfl ?_; refine w_store_boxs rfl rfl (next := fun ws29 hbs29 hxs29 hss29 => ?_); (replace hb6 := hbs29; clear hbs29); have hz_hxs29 := hxs29.size; replace g1 := g1.chg hxs29 (by omega); replace hb7 := hb7.chg hxs29 (by omega); replace hb4 := hb4.chg hxs29 (by omega); replace hb3 := hb3.chg hxs29 (by omega); replace h := h.chg hxs29 (by omega); replace E := E.next hxs29 (by omega); refine w_nil ?_; refine x_next ?_; refine c_ret ?_; rotate_left
    rw [show (j + 1 - f).toNat = 0 by omega] at hp
    rw [show (j + 1).toNat = f.toNat by omega] at g1
    refine x_retv [_] rfl ⟨⟨_, rfl, run_load_str (Box.at (by assumption)) (by rfl)⟩, trivial⟩ ⟨d11, rfl, ?_, E.go⟩
    rw [putF, ← hp]
    exact Own.base (by assumption) (by omega)
end
end Go.Proofs.YticnemjjjceiaaaGreatDoor
/- SerC -/
namespace Go.Proofs.YticnemjjjceiaaaGreatDoor
open Go Go.Gw
set_option linter.unusedVariables false
set_option linter.unusedSimpArgs false
theorem cSer_1 {xss : List (List Int)} {f t first : Int} (h : okD xss = false) : cSer xss f t first = 1 := by simp [cSer, h]
theorem cSer_2 {xss : List (List Int)} {f t first : Int} (h : okD xss = true) (h2 : ¬ ((0 ≤ f ∧ f < t ∧ t ≤ widD xss) ∧ t - f ≤ 12 ∧ 0 ≤ first ∧ first ≤ 999999999999)) : cSer xss f t first = 2 := by rw [cSer, if_pos h, if_neg h2]
theorem cSer_s {xss : List (List Int)} {f t first : Int} (h : okD xss = true) (h2 : (0 ≤ f ∧ f < t ∧ t ≤ widD xss) ∧ t - f ≤ 12 ∧ 0 ≤ first ∧ first ≤ 999999999999) : cSer xss f t first = serF xss f t first 0 := by rw [cSer, if_pos h, if_pos h2]
theorem serAt_len {xss : List (List Int)} {f t first : Int} (h : okD xss = true) (h2 : 0 ≤ f ∧ f < t ∧ t ≤ widD xss) {i : Nat} (hi : i < xss.length) : (serAt xss f t first i).length = (xss.getD i []).length := by
  have := widD_at h i hi
  exact putF_len (by omega) (by rw [pun_len]; omega)
theorem set_own {α : Type} {d : α} {xs : List α} {i : Nat} : xs.set i (xs.getD i d) = xs := by
  apply List.ext_getElem?
  intro j
  rw [List.getElem?_set]
  split
  · rename_i e
    subst e
    split
    · rename_i h; rw [List.getD_eq_getElem?_getD, List.getElem?_eq_getElem h]; rfl
    · rename_i h; rw [List.getElem?_eq_none (by omega)]
  · rfl
theorem put_step {c P : List Int} {f x : Int} (h0 : 0 ≤ f ∧ 0 ≤ x) (h1 : f + x < c.length) (h2 : x < P.length) : (putF c f (f + x) (P.take x.toNat)).set (f + x).toNat (P.getD x.toNat 0) = putF c f (f + (x + 1)) (P.take (x + 1).toNat) := by
  have a1 : (c.take f.toNat).length = f.toNat := by rw [List.length_take]; omega
  have a2 : (P.take x.toNat).length = x.toNat := by rw [List.length_take]; omega
  have a3 : (c.take f.toNat ++ P.take x.toNat).length = (f + x).toNat := by rw [List.length_append]; omega
  unfold putF
  rw [List.set_append_right _ _ (by omega), a3, Nat.sub_self, List.drop_eq_getElem_cons (show (f + x).toNat < c.length by omega), List.set_cons_zero, show (x + 1).toNat = x.toNat + 1 by omega, List.take_add_one, show P[x.toNat]? = some (P.getD x.toNat 0) by rw [List.getD_eq_getElem?_getD, List.getElem?_eq_getElem (by omega)]; rfl, show (f + (x + 1)).toNat = (f + x).toNat + 1 by omega]
  simp
theorem put_zero {c P : List Int} {f : Int} : putF c f (f + 0) (P.take (Int.toNat 0)) = c := by
  unfold putF
  rw [Int.add_zero, show Int.toNat 0 = 0 from rfl, List.take_zero, List.append_nil, List.take_append_drop]
theorem put_lenx {c P : List Int} {f x : Int} (h0 : 0 ≤ f ∧ 0 ≤ x) (h1 : f + x ≤ c.length) (h2 : x ≤ P.length) : (putF c f (f + x) (P.take x.toNat)).length = c.length := by
  simp only [putF, List.length_append, List.length_take, List.length_drop]; omega
theorem put_get {c P : List Int} {f x : Int} (h0 : 0 ≤ f ∧ 0 ≤ x) (h1 : f + x < c.length) (h2 : x ≤ P.length) : (putF c f (f + x) (P.take x.toNat)).getD (f + x).toNat 0 = c.getD (f + x).toNat 0 := by
  have a3 : (c.take f.toNat ++ P.take x.toNat).length = (f + x).toNat := by rw [List.length_append, List.length_take, List.length_take]; omega
  unfold putF
  rw [List.getD_eq_getElem?_getD, List.getElem?_append_right (by omega), a3, Nat.sub_self, List.getElem?_drop, Nat.add_zero, List.getD_eq_getElem?_getD]
theorem resSer_bd (xss : List (List Int)) (f t first : Int) : totD (resSer xss f t first) ≤ 800 ∧ (resSer xss f t first).length ≤ 40 := by
  unfold resSer
  split
  · rename_i h
    cases hk : okD xss
    · rw [cSer_1 hk] at h; cases h
    by_cases h2 : (0 ≤ f ∧ f < t ∧ t ≤ widD xss) ∧ t - f ≤ 12 ∧ 0 ≤ first ∧ first ≤ 999999999999
    · refine deck_bd hk (serL_len _ _ _ _) (fun i hi => ?_)
      rw [List.getD_eq_getElem?_getD, serL_get hi]
      exact serAt_len hk h2.1 hi
    · rw [cSer_2 hk h2] at h; cases h
  · simp [totD, tot]
section
variable {w : World} {lo hi B e : Nat} {v : Value} {xs : List Int} {xss : List (List Int)} {svs : List SV} {f t first : Int}
theorem SerialPunch1_c (x : Int) : Pur Tryz.prog 101 [.int .i64 x] (.bool (decide (¬ x = 0))) := by
  refine ⟨fun w => ?_⟩
  refine ret_enter Tryz.func101 rfl Tryz.ntmps101 rfl ?_
  focus refine c_seq ?_; refine c_region ?_; refine w_pure (y_assign rfl) rfl ?_; refine w_nil ?_; refine x_next ?_; refine c_seq ?_; refine c_region ?_; refine w_pure (y_move rfl) rfl ?_; refine w_pure (y_ne rfl rfl) rfl ?_; refine w_pure (y_assign rfl) rfl ?_; refine w_nil ?_; refine x_next ?_; refine c_ret ?_; rotate_left
  exact x_retv [_] rfl ⟨rfl, trivial⟩ ⟨rfl, rfl⟩
theorem iSerialPunch_c (hT : Tab B w := by assumption) (h : SLL w lo hi svs v xss := by repeat (first | assumption | exact Go.Gw.Own.sl (by assumption) | exact Go.Gw.Box.at (by assumption) | exact Go.Gw.SLL.el (by first | assumption | exact Go.Gw.OwnD.sll (by assumption)) _ (by omega) | exact Go.Gw.SLL.at (by first | assumption | exact Go.Gw.OwnD.sll (by assumption)) (by omega) | exact Go.Gw.OwnD.sll (by assumption) | (apply Go.Gw.SL.chg; case hx => assumption) | (apply Go.Gw.Own.chg; case hx => assumption) | (apply Go.Gw.Box.chg; case hx => assumption) | (apply Go.Gw.At.chg; case hx => assumption) | exact .inl (Nat.zero_le _) | exact .inr (Nat.zero_le _) | (show _ ∨ _; omega))) (hi64 : In64 f ∧ In64 t ∧ In64 first := by exact ⟨by assumption, by assumption, by assumption⟩) : Ret Tryz.prog 43 [v, .agg #[.int .i64 f, .int .i64 t], .int .i64 first] w fun u w' => ∃ d sus, u = .tuple #[d, .int .i64 (cSer xss f t first)] ∧ OwnD w' 26 w.heap.size w'.heap.size sus d (resSer xss f t first) ∧ Ext w w' := by
  obtain ⟨⟨f1, f2⟩, ⟨t1, t2⟩, ⟨n1, n2⟩⟩ := hi64
  have E : Since 0 0 w w := Since.refl 0 0 w
  cases hk : okD xss
  · refine ret_enter Tryz.func43 rfl Tryz.ntmps43 rfl ?_
    focus have ht_hT := hT.top; have ht_h := h.top; refine c_seq ?_; refine c_region ?_; refine w_box rfl (k := fun b4 w4 hb4 hx4 hl4 hs4 => ?_); have hz_hx4 := hx4.size; replace hT := hT.ext hx4; replace h := h.ext hx4; replace E := E.trans hx4; refine w_pure (y_assign rfl) rfl ?_; refine w_pure (y_assign rfl) rfl ?_; refine w_nil ?_; refine x_next ?_; refine c_seq ?_; refine c_block ?_; refine c_seq ?_; refine c_region ?_; refine w_pure (y_move rfl) rfl ?_; refine w_val rfl rfl rfl (iValidDeck_c) rfl (fun w14 hx14 hz14 => ?_); have hz_hx14 := hx14.size; replace hb4 := hb4.ext hx14; replace hT := hT.ext hx14; replace h := h.ext hx14; replace E := E.trans hx14; refine w_pure (y_not rfl) rfl ?_; refine w_pure (y_assign rfl) rfl ?_; refine w_nil ?_; refine x_next ?_; (refine c_not rfl (fun hc12 => ?_) (fun hc12 => ?_) <;> try (first | exact absurd rfl hc12 | contradiction | exact Bool.noConfusion (show false = true from hc12.symm.trans (by assumption)) | exact Bool.noConfusion (show true = false from hc12.symm.trans (by assumption)) | (exfalso; omega) | (exfalso; simp only [*, Bool.not_true, Bool.not_false, reduceCtorEq] at hc12; done))); refine c_seq ?_; refine c_region ?_; refine w_pure (y_assign rfl) rfl ?_; refine w_pure (y_assign rfl) rfl ?_; refine w_nil ?_; refine x_next ?_; refine c_ret ?_; refine x_block_ret ?_; refine x_then_ret ?_; rotate_left
    exact x_retv [_, _] rfl ⟨rfl, rfl, trivial⟩ ⟨_, [], by rw [cSer_1 hk]; rfl, by unfold resSer; rw [cSer_1 hk, if_neg (by decide)]; exact OwnD.nil _ _ _ _ (Nat.le_refl _), E.go⟩
  have hwb := widD_bd hk
  by_cases h2 : (0 ≤ f ∧ f < t ∧ t ≤ widD xss) ∧ t - f ≤ 12 ∧ 0 ≤ first ∧ first ≤ 999999999999
  case neg =>
    refine ret_enter Tryz.func43 rfl Tryz.ntmps43 rfl ?_
    focus have ht_hT := hT.top; have ht_h := h.top; refine c_seq ?_; refine c_region ?_; refine w_box rfl (k := fun b4 w4 hb4 hx4 hl4 hs4 => ?_); have hz_hx4 := hx4.size; replace hT := hT.ext hx4; replace h := h.ext hx4; replace E := E.trans hx4; refine w_pure (y_assign rfl) rfl ?_; refine w_pure (y_assign rfl) rfl ?_; refine w_nil ?_; refine x_next ?_; refine c_seq ?_; refine c_block ?_; refine c_seq ?_; refine c_region ?_; refine w_pure (y_move rfl) rfl ?_; refine w_val rfl rfl rfl (iValidDeck_c) rfl (fun w14 hx14 hz14 => ?_); have hz_hx14 := hx14.size; replace hb4 := hb4.ext hx14; replace hT := hT.ext hx14; replace h := h.ext hx14; replace E := E.trans hx14; refine w_pure (y_not rfl) rfl ?_; refine w_pure (y_assign rfl) rfl ?_; refine w_nil ?_; refine x_next ?_; (refine c_not rfl (fun hc12 => ?_) (fun hc12 => ?_) <;> try (first | exact absurd rfl hc12 | contradiction | exact Bool.noConfusion (show false = true from hc12.symm.trans (by assumption)) | exact Bool.noConfusion (show true = false from hc12.symm.trans (by assumption)) | (exfalso; omega) | (exfalso; simp only [*, Bool.not_true, Bool.not_false, reduceCtorEq] at hc12; done))); refine c_seq ?_; refine c_region_held mixed (fun wr3 hxr3 hzr3 => ?_); have hz_hxr3 := hxr3.size; replace hb4 := hb4.ext hxr3; replace hT := hT.ext hxr3; replace h := h.ext hxr3; replace E := E.trans hxr3; refine h_pure rfl (y_load_boxs rfl) rfl ?_; refine h_pure rfl (y_move rfl) rfl ?_; refine h_one rfl ?_; refine w_val rfl rfl rfl (deckColumns_c) rfl (fun w19 hx19 hz19 => ?_); have hz_hx19 := hx19.size; replace hb4 := hb4.ext hx19; replace hT := hT.ext hx19; replace h := h.ext hx19; replace E := E.trans hx19; refine w_nil ?_; refine x_held ?_; refine h_one rfl ?_; refine w_val rfl rfl rfl (isField_c _ _ _) rfl (fun w20 hx20 hz20 => ?_); have hz_hx20 := hx20.size; replace hb4 := hb4.ext hx20; replace hT := hT.ext hx20; replace h := h.ext hx20; replace E := E.trans hx20; refine w_nil ?_; refine x_held ?_; refine h_pure rfl (y_not_dec rfl) rfl ?_; refine h_pure rfl (y_move rfl) rfl ?_; (refine h_part_dec rfl rfl (fun hc23 => ?_) (fun hc23 => ?_) <;> try (first | exact absurd rfl hc23 | contradiction | exact Bool.noConfusion (show false = true from hc23.symm.trans (by assumption)) | exact Bool.noConfusion (show true = false from hc23.symm.trans (by assumption)) | (exfalso; omega) | (exfalso; simp only [*, Bool.not_true, Bool.not_false, reduceCtorEq] at hc23; done))); refine h_no rfl rfl rfl rfl rfl ?_; refine h_no rfl rfl rfl rfl rfl ?_; refine h_no rfl rfl rfl rfl rfl ?_; refine h_no rfl rfl rfl rfl rfl ?_; refine h_no rfl rfl rfl rfl rfl ?_; refine h_no rfl rfl rfl rfl rfl ?_; refine h_pure rfl (y_pick_t rfl rfl) rfl ?_; refine h_pure rfl (y_move rfl) rfl ?_; refine h_no rfl rfl rfl rfl rfl ?_; refine h_no rfl rfl rfl rfl rfl ?_; refine h_no rfl rfl rfl rfl rfl ?_; refine h_pure rfl (y_pick_t rfl rfl) rfl ?_; refine h_pure rfl (y_assign rfl) rfl ?_; refine h_nil ?_; refine x_next ?_; refine c_true rfl ?_; refine c_seq ?_; refine c_region ?_; refine w_pure (y_assign rfl) rfl ?_; refine w_pure (y_assign rfl) rfl ?_; refine w_nil ?_; refine x_next ?_; refine c_ret ?_; refine x_block_ret ?_; refine x_then_ret ?_; rotate_left; refine h_yes rfl rfl rfl (y_field rfl) rfl ?_; refine h_yes rfl rfl rfl (y_load_box rfl) rfl ?_; refine h_yes rfl rfl rfl (y_field rfl) rfl ?_; refine h_yes rfl rfl rfl (y_load_box rfl) rfl ?_; refine h_yes rfl rfl rfl (y_sub rfl rfl) rfl ?_; refine h_yes rfl rfl rfl (y_gt rfl rfl) rfl ?_; refine h_pure rfl (y_pick_f rfl rfl) rfl ?_; refine h_pure rfl (y_move rfl) rfl ?_; (refine h_part_dec rfl rfl (fun hc31 => ?_) (fun hc31 => ?_) <;> try (first | exact absurd rfl hc31 | contradiction | exact Bool.noConfusion (show false = true from hc31.symm.trans (by assumption)) | exact Bool.noConfusion (show true = false from hc31.symm.trans (by assumption)) | (exfalso; omega) | (exfalso; simp only [*, Bool.not_true, Bool.not_false, reduceCtorEq] at hc31; done))); refine h_no rfl rfl rfl rfl rfl ?_; refine h_no rfl rfl rfl rfl rfl ?_; refine h_no rfl rfl rfl rfl rfl ?_; refine h_pure rfl (y_pick_t rfl rfl) rfl ?_; refine h_pure rfl (y_assign rfl) rfl ?_; refine h_nil ?_; refine x_next ?_; refine c_true rfl ?_; refine c_seq ?_; refine c_region ?_; refine w_pure (y_assign rfl) rfl ?_; refine w_pure (y_assign rfl) rfl ?_; refine w_nil ?_; refine x_next ?_; refine c_ret ?_; refine x_block_ret ?_; refine x_then_ret ?_; rotate_left; refine h_yes rfl rfl rfl (y_move rfl) rfl ?_; (refine h_part rfl rfl (fun hc32 => ?_) (fun hc32 => ?_) <;> try (first | exact absurd rfl hc32 | contradiction | exact Bool.noConfusion (show false = true from hc32.symm.trans (by assumption)) | exact Bool.noConfusion (show true = false from hc32.symm.trans (by assumption)) | (exfalso; omega) | (exfalso; simp only [*, Bool.not_true, Bool.not_false, reduceCtorEq] at hc32; done))); refine h_one rfl ?_; refine w_yes rfl rfl ?_; refine w_pur rfl rfl rfl (inside_c _ _ _) rfl ?_; refine w_nil ?_; refine x_held ?_; refine h_yes rfl rfl rfl (y_not_dec rfl) rfl ?_; refine h_pure rfl (y_pick_f rfl rfl) rfl ?_; refine h_pure rfl (y_assign rfl) rfl ?_; refine h_nil ?_; refine x_next ?_; (refine c_dec rfl (fun hc16 => ?_) (fun hc16 => ?_) <;> try (first | exact absurd rfl hc16 | contradiction | exact Bool.noConfusion (show false = true from hc16.symm.trans (by assumption)) | exact Bool.noConfusion (show true = false from hc16.symm.trans (by assumption)) | (exfalso; omega) | (exfalso; simp only [*, Bool.not_true, Bool.not_false, reduceCtorEq] at hc16; done))); refine c_seq ?_; refine c_region ?_; refine w_pure (y_assign rfl) rfl ?_; refine w_pure (y_assign rfl) rfl ?_; refine w_nil ?_; refine x_next ?_; refine c_ret ?_; refine x_block_ret ?_; refine x_then_ret ?_; rotate_left
    all_goals exact x_retv [_, _] rfl ⟨rfl, rfl, trivial⟩ ⟨_, [], by rw [cSer_2 hk h2]; rfl, by unfold resSer; rw [cSer_2 hk h2, if_neg (by decide)]; exact OwnD.nil _ _ _ _ (Nat.le_refl _), E.go⟩
  have hcs := cSer_s hk h2
  have hd40 := okD_len hk
  have hsl := serL_len xss f t first
  refine ret_enter Tryz.func43 rfl Tryz.ntmps43 rfl ?_
  focus have ht_hT := hT.top; have ht_h := h.top; refine c_seq ?_; refine c_region ?_; refine w_box rfl (k := fun b4 w4 hb4 hx4 hl4 hs4 => ?_); have hz_hx4 := hx4.size; replace hT := hT.ext hx4; replace h := h.ext hx4; replace E := E.trans hx4; refine w_pure (y_assign rfl) rfl ?_; refine w_pure (y_assign rfl) rfl ?_; refine w_nil ?_; refine x_next ?_; refine c_seq ?_; refine c_block ?_; refine c_seq ?_; refine c_region ?_; refine w_pure (y_move rfl) rfl ?_; refine w_val rfl rfl rfl (iValidDeck_c) rfl (fun w14 hx14 hz14 => ?_); have hz_hx14 := hx14.size; replace hb4 := hb4.ext hx14; replace hT := hT.ext hx14; replace h := h.ext hx14; replace E := E.trans hx14; refine w_pure (y_not rfl) rfl ?_; refine w_pure (y_assign rfl) rfl ?_; refine w_nil ?_; refine x_next ?_; (refine c_not rfl (fun hc12 => ?_) (fun hc12 => ?_) <;> try (first | exact absurd rfl hc12 | contradiction | exact Bool.noConfusion (show false = true from hc12.symm.trans (by assumption)) | exact Bool.noConfusion (show true = false from hc12.symm.trans (by assumption)) | (exfalso; omega) | (exfalso; simp only [*, Bool.not_true, Bool.not_false, reduceCtorEq] at hc12; done))); refine c_seq ?_; refine c_region_held mixed (fun wr3 hxr3 hzr3 => ?_); have hz_hxr3 := hxr3.size; replace hb4 := hb4.ext hxr3; replace hT := hT.ext hxr3; replace h := h.ext hxr3; replace E := E.trans hxr3; refine h_pure rfl (y_load_boxs rfl) rfl ?_; refine h_pure rfl (y_move rfl) rfl ?_; refine h_one rfl ?_; refine w_val rfl rfl rfl (deckColumns_c) rfl (fun w19 hx19 hz19 => ?_); have hz_hx19 := hx19.size; replace hb4 := hb4.ext hx19; replace hT := hT.ext hx19; replace h := h.ext hx19; replace E := E.trans hx19; refine w_nil ?_; refine x_held ?_; refine h_one rfl ?_; refine w_val rfl rfl rfl (isField_c _ _ _) rfl (fun w20 hx20 hz20 => ?_); have hz_hx20 := hx20.size; replace hb4 := hb4.ext hx20; replace hT := hT.ext hx20; replace h := h.ext hx20; replace E := E.trans hx20; refine w_nil ?_; refine x_held ?_; refine h_pure rfl (y_not_dec rfl) rfl ?_; refine h_pure rfl (y_move rfl) rfl ?_; (refine h_part_dec rfl rfl (fun hc23 => ?_) (fun hc23 => ?_) <;> try (first | exact absurd rfl hc23 | contradiction | exact Bool.noConfusion (show false = true from hc23.symm.trans (by assumption)) | exact Bool.noConfusion (show true = false from hc23.symm.trans (by assumption)) | (exfalso; omega) | (exfalso; simp only [*, Bool.not_true, Bool.not_false, reduceCtorEq] at hc23; done))); refine h_yes rfl rfl rfl (y_field rfl) rfl ?_; refine h_yes rfl rfl rfl (y_load_box rfl) rfl ?_; refine h_yes rfl rfl rfl (y_field rfl) rfl ?_; refine h_yes rfl rfl rfl (y_load_box rfl) rfl ?_; refine h_yes rfl rfl rfl (y_sub rfl rfl) rfl ?_; refine h_yes rfl rfl rfl (y_gt rfl rfl) rfl ?_; refine h_pure rfl (y_pick_f rfl rfl) rfl ?_; refine h_pure rfl (y_move rfl) rfl ?_; (refine h_part_dec rfl rfl (fun hc31 => ?_) (fun hc31 => ?_) <;> try (first | exact absurd rfl hc31 | contradiction | exact Bool.noConfusion (show false = true from hc31.symm.trans (by assumption)) | exact Bool.noConfusion (show true = false from hc31.symm.trans (by assumption)) | (exfalso; omega) | (exfalso; simp only [*, Bool.not_true, Bool.not_false, reduceCtorEq] at hc31; done))); refine h_yes rfl rfl rfl (y_move rfl) rfl ?_; (refine h_part rfl rfl (fun hc32 => ?_) (fun hc32 => ?_) <;> try (first | exact absurd rfl hc32 | contradiction | exact Bool.noConfusion (show false = true from hc32.symm.trans (by assumption)) | exact Bool.noConfusion (show true = false from hc32.symm.trans (by assumption)) | (exfalso; omega) | (exfalso; simp only [*, Bool.not_true, Bool.not_false, reduceCtorEq] at hc32; done))); refine h_one rfl ?_; refine w_yes rfl rfl ?_; refine w_pur rfl rfl rfl (inside_c _ _ _) rfl ?_; refine w_nil ?_; refine x_held ?_; refine h_yes rfl rfl rfl (y_not_dec rfl) rfl ?_; refine h_pure rfl (y_pick_f rfl rfl) rfl ?_; refine h_pure rfl (y_assign rfl) rfl ?_; refine h_nil ?_; refine x_next ?_; (refine c_dec rfl (fun hc16 => ?_) (fun hc16 => ?_) <;> try (first | exact absurd rfl hc16 | contradiction | exact Bool.noConfusion (show false = true from hc16.symm.trans (by assumption)) | exact Bool.noConfusion (show true = false from hc16.symm.trans (by assumption)) | (exfalso; omega) | (exfalso; simp only [*, Bool.not_true, Bool.not_false, reduceCtorEq] at hc16; done))); refine c_skip ?_; refine x_block_norm ?_; refine x_next ?_; refine c_seq ?_; refine c_region ?_; refine w_lit_d0 rfl (k := fun v35 w35 ho35 hx35 hl35 hh35 hs35 => ?_); have hl_ho35 := ho35.lt; have hz_hx35 := hx35.size; replace hb4 := hb4.ext hx35; replace hT := hT.ext hx35; replace h := h.ext hx35; replace E := E.trans hx35; refine w_pure (y_assign rfl) rfl ?_; refine w_nil ?_; refine x_next ?_; refine c_seq ?_; refine c_seq ?_; refine c_region ?_; refine w_pure (y_move rfl) rfl ?_; refine w_pure (y_lend rfl) rfl ?_; refine w_pure (y_move rfl) rfl ?_; refine w_nil ?_; refine x_next ?_; refine c_block ?_; rotate_left
  refine c_loopC (bL v35) (bH v35) (ι := Int × Value × List SV) (fun x => [(2, .int .i64 first), (4, ptr b4 0), (8, x.2.1), (36, v), (37, .int .i64 xss.length), (38, .int .i64 x.1)])
    (fun x w' => OwnD w' 26 w.heap.size w'.heap.size x.2.2 x.2.1 ((serL xss f t first).take x.1.toNat) ∧ ((bL x.2.1 = bL v35 ∧ bH x.2.1 = bH v35) ∨ w35.heap.size ≤ bL x.2.1) ∧ 0 ≤ x.1 ∧ x.1 ≤ xss.length ∧ serF xss f t first x.1.toNat = serF xss f t first 0) (fun x => (xss.length - x.1).toNat) (0, v35, [])
    (by repeat (first | exact trivial | refine ⟨rfl, ?_⟩)) ⟨by show OwnD _ _ _ _ [] v35 (List.take 0 _); rw [List.take_zero]; exact OwnD.wide (ho35.low (by omega)) (by omega) (Nat.le_refl _), .inl ⟨rfl, rfl⟩, by dsimp only; omega, by dsimp only; omega, rfl⟩ ?_
  clear ho35
  rintro ⟨i, u, sus⟩ wL hxL EL ⟨g3, g4, hi0, hi1, hser⟩
  dsimp only at *
  have e1 : (i + 1).toNat = i.toNat + 1 := by omega
  have htl : ((serL xss f t first).take i.toNat).length = i.toNat := by rw [List.length_take]; omega
  by_cases hli : i < xss.length
  case neg =>
    rw [serF_end (by omega)] at hser
    have hc0 : cSer xss f t first = 0 := hcs.trans hser.symm
    focus have hl_g3 := g3.lt; have hz_hxL := hxL.size; replace hb4 := hb4.chg hxL (by omega); replace hT := hT.chg hxL (by omega); replace h := h.chg hxL (by omega); replace E := E.next hxL (by omega); refine c_seq ?_; refine c_region ?_; refine w_pure (y_lt rfl rfl) rfl ?_; refine w_nil ?_; refine x_next ?_; refine c_seq ?_; (refine c_dec rfl (fun hc39 => ?_) (fun hc39 => ?_) <;> try (first | exact absurd rfl hc39 | contradiction | exact Bool.noConfusion (show false = true from hc39.symm.trans (by assumption)) | exact Bool.noConfusion (show true = false from hc39.symm.trans (by assumption)) | (exfalso; omega) | (exfalso; simp only [*, Bool.not_true, Bool.not_false, reduceCtorEq] at hc39; done))); refine c_exit ?_; refine x_then_exit ?_; refine x_then_exit ?_; refine x_block_hit ?_; refine x_next ?_; refine c_seq ?_; refine c_region ?_; refine w_pure (y_move rfl) rfl ?_; refine w_pure (y_assign rfl) rfl ?_; refine w_pure (y_assign rfl) rfl ?_; refine w_nil ?_; refine x_next ?_; refine c_ret ?_; rotate_left
    rw [List.take_of_length_le (by omega)] at g3
    exact x_retv [_, _] rfl ⟨rfl, rfl, trivial⟩ ⟨_, sus, by rw [hc0]; rfl, by unfold resSer; rw [if_pos hc0]; exact OwnD.wide (by assumption) (by omega) (Nat.le_refl _), E.go⟩
  have hwi := widD_at hk i.toNat (by omega)
  have hnd := nDig_le (n := first + i) (k := t - f) (by omega) (by omega)
  have hi2 : ((i.toNat : Nat) : Int) = i := Int.toNat_of_nonneg hi0
  have eAt : serAt xss f t first i.toNat = putF (xss.getD i.toNat []) f t (pun (first + i) (t - f).toNat) := by unfold serAt; rw [hi2]
  have hlt5 : ¬ t - f < nDig (first + i) → first + (i.toNat : Nat) < 10 ^ (t - f).toNat := fun hh => by rw [hi2]; exact hnd.1 (by omega)
  have hge5 : t - f < nDig (first + i) → ¬ first + (i.toNat : Nat) < 10 ^ (t - f).toNat := fun hh h5 => by rw [hi2] at h5; have := hnd.2 h5; omega
  focus have hl_g3 := g3.lt; have hz_hxL := hxL.size; replace hb4 := hb4.chg hxL (by omega); replace hT := hT.chg hxL (by omega); replace h := h.chg hxL (by omega); replace E := E.next hxL (by omega); refine c_seq ?_; refine c_region ?_; refine w_pure (y_lt rfl rfl) rfl ?_; refine w_nil ?_; refine x_next ?_; refine c_seq ?_; (refine c_dec rfl (fun hc39 => ?_) (fun hc39 => ?_) <;> try (first | exact absurd rfl hc39 | contradiction | exact Bool.noConfusion (show false = true from hc39.symm.trans (by assumption)) | exact Bool.noConfusion (show true = false from hc39.symm.trans (by assumption)) | (exfalso; omega) | (exfalso; simp only [*, Bool.not_true, Bool.not_false, reduceCtorEq] at hc39; done))); refine c_skip ?_; refine x_next ?_; refine c_seq ?_; refine c_block ?_; refine c_seq ?_; refine c_region ?_; refine w_pure (y_move rfl) rfl ?_; refine w_pure (y_indexd rfl rfl) rfl ?_; refine w_pure (y_loads rfl) rfl ?_; refine w_alloc (k := fun b10 w10 hb10 hx10 hl10 hs10 => ?_); have hz_hx10 := hx10.size; replace EL := EL.next hx10 (by omega); replace g3 := g3.ext hx10; replace hb4 := hb4.ext hx10; replace hT := hT.ext hx10; replace h := h.ext hx10; replace E := E.trans hx10; refine w_pure (y_assign rfl) rfl ?_; refine w_store_boxs rfl rfl (next := fun ws19 hbs19 hxs19 hss19 => ?_); (replace hb10 := hbs19; clear hbs19); have hz_hxs19 := hxs19.size; replace EL := EL.next hxs19 (by omega); replace g3 := g3.chg hxs19 (by omega); replace hb4 := hb4.chg hxs19 (by omega); replace hT := hT.chg hxs19 (by omega); replace h := h.chg hxs19 (by omega); replace E := E.next hxs19 (by omega); refine w_nil ?_; refine x_next ?_; refine c_seq ?_; refine c_region ?_; refine w_pure (y_move rfl) rfl ?_; refine w_pure (y_move rfl) rfl ?_; refine w_pure (y_add rfl rfl) rfl ?_; refine w_pure (y_assign rfl) rfl ?_; refine w_nil ?_; refine x_next ?_; refine c_seq ?_; refine c_block ?_; refine c_seq ?_; refine c_region_held mixed (fun wr10 hxr10 hzr10 => ?_); have hz_hxr10 := hxr10.size; replace hb10 := hb10.ext hxr10; replace EL := EL.next hxr10 (by omega); replace g3 := g3.ext hxr10; replace hb4 := hb4.ext hxr10; replace hT := hT.ext hxr10; replace h := h.ext hxr10; replace E := E.trans hxr10; refine h_pure rfl (y_move rfl) rfl ?_; refine h_turn ?_; refine h_pure rfl (y_field rfl) rfl ?_; refine h_pure rfl (y_load_box rfl) rfl ?_; refine h_pure rfl (y_field rfl) rfl ?_; refine h_pure rfl (y_load_box rfl) rfl ?_; refine h_pure rfl (y_sub rfl rfl) rfl ?_; refine h_turn ?_; refine h_turn ?_; refine h_one rfl ?_; refine w_val rfl rfl rfl (digitsOf_c _) rfl (fun w48 hx48 hz48 => ?_); have hz_hx48 := hx48.size; replace hb10 := hb10.ext hx48; replace EL := EL.next hx48 (by omega); replace g3 := g3.ext hx48; replace hb4 := hb4.ext hx48; replace hT := hT.ext hx48; replace h := h.ext hx48; replace E := E.trans hx48; refine w_nil ?_; refine x_held ?_; refine h_pure rfl (y_gt rfl rfl) rfl ?_; refine h_pure rfl (y_assign rfl) rfl ?_; refine h_nil ?_; refine x_next ?_; (refine c_dec rfl (fun hc46 => ?_) (fun hc46 => ?_) <;> try (first | exact absurd rfl hc46 | contradiction | exact Bool.noConfusion (show false = true from hc46.symm.trans (by assumption)) | exact Bool.noConfusion (show true = false from hc46.symm.trans (by assumption)) | (exfalso; omega) | (exfalso; simp only [*, Bool.not_true, Bool.not_false, reduceCtorEq] at hc46; done))); refine c_seq ?_; refine c_region ?_; refine w_pure (y_assign rfl) rfl ?_; refine w_pure (y_assign rfl) rfl ?_; refine w_nil ?_; refine x_next ?_; refine c_ret ?_; refine x_block_ret ?_; refine x_then_ret ?_; refine x_block_ret ?_; refine x_then_ret ?_; refine x_then_ret ?_; refine x_block_ret ?_; refine x_then_ret ?_; rotate_left; refine c_seq ?_; refine c_region ?_; refine w_pure (y_field rfl) rfl ?_; refine w_pure (y_load_box rfl) rfl ?_; refine w_pure (y_field rfl) rfl ?_; refine w_pure (y_load_box rfl) rfl ?_; refine w_pure (y_field rfl) rfl ?_; refine w_pure (y_load_box rfl) rfl ?_; (refine w_slice rfl (.inr ⟨_, _, rfl, rfl⟩) (.inr ⟨_, _, rfl, rfl⟩) rfl ?_; intro u62 hu62); refine w_val rfl rfl rfl (ContainsFunc_int (first := []) (cap := []) (p := fun x => decide (¬ x = 0)) (h := (by repeat (first | assumption | exact Go.Gw.Own.sl (by assumption) | exact Go.Gw.Box.at (by assumption) | exact Go.Gw.SLL.el (by first | assumption | exact Go.Gw.OwnD.sll (by assumption)) _ (by omega) | exact Go.Gw.SLL.at (by first | assumption | exact Go.Gw.OwnD.sll (by assumption)) (by omega) | exact Go.Gw.OwnD.sll (by assumption) | (apply Go.Gw.SL.chg; case hx => assumption) | (apply Go.Gw.Own.chg; case hx => assumption) | (apply Go.Gw.Box.chg; case hx => assumption) | (apply Go.Gw.At.chg; case hx => assumption) | exact .inl (Nat.zero_le _) | exact .inr (Nat.zero_le _) | (show _ ∨ _; omega)))) (hp := fun x _ => (SerialPunch1_c x).val)) rfl (fun w63 hx63 hz63 => ?_); have hz_hx63 := hx63.size; replace hb10 := hb10.ext hx63; replace EL := EL.next hx63 (by omega); replace g3 := g3.ext hx63; replace hb4 := hb4.ext hx63; replace hT := hT.ext hx63; replace h := h.ext hx63; replace E := E.trans hx63; replace hu62 := hu62.ext hx63; refine w_pure (y_assign rfl) rfl ?_; refine w_nil ?_; refine x_next ?_; (refine c_if rfl (fun hc55 => ?_) (fun hc55 => ?_) <;> try (first | exact absurd rfl hc55 | contradiction | exact Bool.noConfusion (show false = true from hc55.symm.trans (by assumption)) | exact Bool.noConfusion (show true = false from hc55.symm.trans (by assumption)) | (exfalso; omega) | (exfalso; simp only [*, Bool.not_true, Bool.not_false, reduceCtorEq] at hc55; done))); refine c_seq ?_; refine c_region ?_; refine w_pure (y_assign rfl) rfl ?_; refine w_pure (y_assign rfl) rfl ?_; refine w_nil ?_; refine x_next ?_; refine c_ret ?_; refine x_block_ret ?_; refine x_then_ret ?_; refine x_block_ret ?_; refine x_then_ret ?_; refine x_then_ret ?_; refine x_block_ret ?_; refine x_then_ret ?_; rotate_left; refine c_skip ?_; refine x_block_norm ?_; refine x_next ?_; refine c_region ?_; refine w_pure (y_move rfl) rfl ?_; refine w_pure (y_load_boxs rfl) rfl ?_; refine w_pure (y_load_boxs rfl) rfl ?_; refine w_pure (y_move rfl) rfl ?_; (refine w_call rfl rfl rfl (punchNumber_c _ _ _) rfl ?_; rintro _ w68 ⟨d68, ⟨rfl, ⟨hp1_68, hx68⟩⟩⟩); have hl_hp1_68 := hp1_68.lt; have hz_hx68 := hx68.size; replace hb10 := hb10.ext hx68; replace EL := EL.next hx68 (by omega); replace g3 := g3.ext hx68; replace hb4 := hb4.ext hx68; replace hT := hT.ext hx68; replace h := h.ext hx68; replace E := E.trans hx68; replace hu62 := hu62.ext hx68; refine w_lit_cd rfl rfl (k := fun v69 w69 ho69 hx69 hl69 hh69 hs69 => ?_); have hl_ho69 := ho69.lt; have hz_hx69 := hx69.size; replace hp1_68 := hp1_68.ext hx69; replace hb10 := hb10.ext hx69; replace EL := EL.next hx69 (by omega); replace g3 := g3.ext hx69; replace hb4 := hb4.ext hx69; replace hT := hT.ext hx69; replace h := h.ext hx69; replace E := E.trans hx69; replace hu62 := hu62.ext hx69; refine w_append_d rfl rfl (k := fun v70 w70 ho70 hx70 hr70 => ?_); have hl_ho70 := ho70.lt; have hz_hx70 := hx70.size; replace ho69 := ho69.chg hx70 (by omega); replace hp1_68 := hp1_68.chg hx70 (by omega); replace hb10 := hb10.chg hx70 (by omega); replace EL := EL.next hx70 (by omega); replace hb4 := hb4.chg hx70 (by omega); replace hT := hT.chg hx70 (by omega); replace h := h.chg hx70 (by omega); replace E := E.next hx70 (by omega); replace hu62 := hu62.chg hx70 (by omega); refine w_pure (y_assign rfl) rfl ?_; refine w_nil ?_; refine x_block_norm ?_; refine x_next ?_; refine c_region ?_; refine w_pure (y_add rfl rfl) rfl ?_; refine w_pure (y_move rfl) rfl ?_; refine w_nil ?_; rotate_left
  · have hc5 : cSer xss f t first = 5 := by rw [hcs, ← hser, serF_5 (i := i.toNat) (by omega) (hge5 hc46)]
    exact x_retv [_, _] rfl ⟨rfl, rfl, trivial⟩ ⟨_, [], by rw [hc5]; rfl, by unfold resSer; rw [hc5, if_neg (by decide)]; exact OwnD.nil _ _ _ _ (Nat.le_refl _), E.go⟩
  · have hbk : blkB (xss.getD i.toNat []) f t = false := by show (!(((xss.getD i.toNat []).take t.toNat).drop f.toNat).any _) = false; rw [hc55]; rfl
    have hc9 : cSer xss f t first = 9 := by rw [hcs, ← hser, serF_9 (i := i.toNat) (by omega) (hlt5 hc46) hbk]
    exact x_retv [_, _] rfl ⟨rfl, rfl, trivial⟩ ⟨_, [], by rw [hc9]; rfl, by unfold resSer; rw [hc9, if_neg (by decide)]; exact OwnD.nil _ _ _ _ (Nat.le_refl _), E.go⟩
  · have hbk : blkB (xss.getD i.toNat []) f t = true := by show (!(((xss.getD i.toNat []).take t.toNat).drop f.toNat).any _) = true; rw [hc55]; rfl
    refine x_again (i + 1, v70, sus ++ [svOf d68]) (by repeat (first | exact trivial | refine ⟨rfl, ?_⟩)) ⟨EL.go, ?_, by dsimp only; omega, by dsimp only; omega, by dsimp only; omega, ?_⟩ (by dsimp only; omega)
    · dsimp only
      rw [e1, List.take_add_one, serL_get (by omega), eAt]
      exact OwnD.wide (by assumption) (by omega) (Nat.le_refl _)
    · dsimp only
      rw [← hser, serF_on (i := i.toNat) (by omega) (hlt5 hc46) hbk, e1]
theorem sSerialPunch_c (h : SLL w lo hi svs v xss := by repeat (first | assumption | exact Go.Gw.Own.sl (by assumption) | exact Go.Gw.Box.at (by assumption) | exact Go.Gw.SLL.el (by first | assumption | exact Go.Gw.OwnD.sll (by assumption)) _ (by omega) | exact Go.Gw.SLL.at (by first | assumption | exact Go.Gw.OwnD.sll (by assumption)) (by omega) | exact Go.Gw.OwnD.sll (by assumption) | (apply Go.Gw.SL.chg; case hx => assumption) | (apply Go.Gw.Own.chg; case hx => assumption) | (apply Go.Gw.Box.chg; case hx => assumption) | (apply Go.Gw.At.chg; case hx => assumption) | exact .inl (Nat.zero_le _) | exact .inr (Nat.zero_le _) | (show _ ∨ _; omega))) (hi64 : In64 f ∧ In64 t ∧ In64 first := by exact ⟨by assumption, by assumption, by assumption⟩) : Ret Tryz.prog 44 [v, .agg #[.int .i64 f, .int .i64 t], .int .i64 first] w fun u w' => ∃ d sus, u = .tuple #[d, .int .i64 (cSer xss f t first)] ∧ OwnD w' 26 w.heap.size w'.heap.size sus d (resSer xss f t first) ∧ Ext w w' := by
  obtain ⟨⟨f1, f2⟩, ⟨t1, t2⟩, ⟨n1, n2⟩⟩ := hi64
  have E : Since 0 0 w w := Since.refl 0 0 w
  cases hk : okD xss
  · refine ret_enter Tryz.func44 rfl Tryz.ntmps44 rfl ?_
    focus have ht_h := h.top; refine c_seq ?_; refine c_region ?_; refine w_box rfl (k := fun b4 w4 hb4 hx4 hl4 hs4 => ?_); have hz_hx4 := hx4.size; replace h := h.ext hx4; replace E := E.trans hx4; refine w_pure (y_assign rfl) rfl ?_; refine w_pure (y_assign rfl) rfl ?_; refine w_nil ?_; refine x_next ?_; refine c_seq ?_; refine c_seq ?_; refine c_region ?_; refine w_pure (y_move rfl) rfl ?_; refine w_val rfl rfl rfl (l02Deck_c) rfl (fun w15 hx15 hz15 => ?_); have hz_hx15 := hx15.size; replace hb4 := hb4.ext hx15; replace h := h.ext hx15; replace E := E.trans hx15; refine w_pure (y_not rfl) rfl ?_; refine w_nil ?_; refine x_next ?_; (refine c_not rfl (fun hc16 => ?_) (fun hc16 => ?_) <;> try (first | exact absurd rfl hc16 | contradiction | exact Bool.noConfusion (show false = true from hc16.symm.trans (by assumption)) | exact Bool.noConfusion (show true = false from hc16.symm.trans (by assumption)) | (exfalso; omega) | (exfalso; simp only [*, Bool.not_true, Bool.not_false, reduceCtorEq] at hc16; done))); refine c_seq ?_; refine c_region ?_; refine w_pure (y_assign rfl) rfl ?_; refine w_pure (y_assign rfl) rfl ?_; refine w_nil ?_; refine x_next ?_; refine c_ret ?_; refine x_then_ret ?_; rotate_left
    exact x_retv [_, _] rfl ⟨rfl, rfl, trivial⟩ ⟨_, [], by rw [cSer_1 hk]; rfl, by unfold resSer; rw [cSer_1 hk, if_neg (by decide)]; exact OwnD.nil _ _ _ _ (Nat.le_refl _), E.go⟩
  have hwb := widD_bd hk
  by_cases h2 : (0 ≤ f ∧ f < t ∧ t ≤ widD xss) ∧ t - f ≤ 12 ∧ 0 ≤ first ∧ first ≤ 999999999999
  case neg =>
    refine ret_enter Tryz.func44 rfl Tryz.ntmps44 rfl ?_
    focus have ht_h := h.top; refine c_seq ?_; refine c_region ?_; refine w_box rfl (k := fun b4 w4 hb4 hx4 hl4 hs4 => ?_); have hz_hx4 := hx4.size; replace h := h.ext hx4; replace E := E.trans hx4; refine w_pure (y_assign rfl) rfl ?_; refine w_pure (y_assign rfl) rfl ?_; refine w_nil ?_; refine x_next ?_; refine c_seq ?_; refine c_seq ?_; refine c_region ?_; refine w_pure (y_move rfl) rfl ?_; refine w_val rfl rfl rfl (l02Deck_c) rfl (fun w15 hx15 hz15 => ?_); have hz_hx15 := hx15.size; replace hb4 := hb4.ext hx15; replace h := h.ext hx15; replace E := E.trans hx15; refine w_pure (y_not rfl) rfl ?_; refine w_nil ?_; refine x_next ?_; (refine c_not rfl (fun hc16 => ?_) (fun hc16 => ?_) <;> try (first | exact absurd rfl hc16 | contradiction | exact Bool.noConfusion (show false = true from hc16.symm.trans (by assumption)) | exact Bool.noConfusion (show true = false from hc16.symm.trans (by assumption)) | (exfalso; omega) | (exfalso; simp only [*, Bool.not_true, Bool.not_false, reduceCtorEq] at hc16; done))); refine c_skip ?_; refine x_next ?_; refine c_seq ?_; refine c_seq ?_; refine c_region_held mixed (fun wr3 hxr3 hzr3 => ?_); have hz_hxr3 := hxr3.size; replace hb4 := hb4.ext hxr3; replace h := h.ext hxr3; replace E := E.trans hxr3; refine h_pure rfl (y_load_boxs rfl) rfl ?_; refine h_pure rfl (y_move rfl) rfl ?_; refine h_one rfl ?_; refine w_val rfl rfl rfl (l07WidthOf_c) rfl (fun w19 hx19 hz19 => ?_); have hz_hx19 := hx19.size; replace hb4 := hb4.ext hx19; replace h := h.ext hx19; replace E := E.trans hx19; refine w_nil ?_; refine x_held ?_; refine h_one rfl ?_; refine w_val rfl rfl rfl (l02Field_c _ _ _) rfl (fun w20 hx20 hz20 => ?_); have hz_hx20 := hx20.size; replace hb4 := hb4.ext hx20; replace h := h.ext hx20; replace E := E.trans hx20; refine w_nil ?_; refine x_held ?_; refine h_pure rfl (y_not_dec rfl) rfl ?_; refine h_pure rfl (y_move rfl) rfl ?_; (refine h_part_dec rfl rfl (fun hc23 => ?_) (fun hc23 => ?_) <;> try (first | exact absurd rfl hc23 | contradiction | exact Bool.noConfusion (show false = true from hc23.symm.trans (by assumption)) | exact Bool.noConfusion (show true = false from hc23.symm.trans (by assumption)) | (exfalso; omega) | (exfalso; simp only [*, Bool.not_true, Bool.not_false, reduceCtorEq] at hc23; done))); refine h_no rfl rfl rfl rfl rfl ?_; refine h_no rfl rfl rfl rfl rfl ?_; refine h_no rfl rfl rfl rfl rfl ?_; refine h_no rfl rfl rfl rfl rfl ?_; refine h_no rfl rfl rfl rfl rfl ?_; refine h_no rfl rfl rfl rfl rfl ?_; refine h_pure rfl (y_pick_t rfl rfl) rfl ?_; refine h_pure rfl (y_move rfl) rfl ?_; refine h_no rfl rfl rfl rfl rfl ?_; refine h_no rfl rfl rfl rfl rfl ?_; refine h_no rfl rfl rfl rfl rfl ?_; refine h_pure rfl (y_pick_t rfl rfl) rfl ?_; refine h_nil ?_; refine x_next ?_; refine c_true rfl ?_; refine c_seq ?_; refine c_region ?_; refine w_pure (y_assign rfl) rfl ?_; refine w_pure (y_assign rfl) rfl ?_; refine w_nil ?_; refine x_next ?_; refine c_ret ?_; refine x_then_ret ?_; rotate_left; refine h_yes rfl rfl rfl (y_field rfl) rfl ?_; refine h_yes rfl rfl rfl (y_load_box rfl) rfl ?_; refine h_yes rfl rfl rfl (y_field rfl) rfl ?_; refine h_yes rfl rfl rfl (y_load_box rfl) rfl ?_; refine h_yes rfl rfl rfl (y_sub rfl rfl) rfl ?_; refine h_yes rfl rfl rfl (y_gt rfl rfl) rfl ?_; refine h_pure rfl (y_pick_f rfl rfl) rfl ?_; refine h_pure rfl (y_move rfl) rfl ?_; (refine h_part_dec rfl rfl (fun hc31 => ?_) (fun hc31 => ?_) <;> try (first | exact absurd rfl hc31 | contradiction | exact Bool.noConfusion (show false = true from hc31.symm.trans (by assumption)) | exact Bool.noConfusion (show true = false from hc31.symm.trans (by assumption)) | (exfalso; omega) | (exfalso; simp only [*, Bool.not_true, Bool.not_false, reduceCtorEq] at hc31; done))); refine h_no rfl rfl rfl rfl rfl ?_; refine h_no rfl rfl rfl rfl rfl ?_; refine h_no rfl rfl rfl rfl rfl ?_; refine h_pure rfl (y_pick_t rfl rfl) rfl ?_; refine h_nil ?_; refine x_next ?_; refine c_true rfl ?_; refine c_seq ?_; refine c_region ?_; refine w_pure (y_assign rfl) rfl ?_; refine w_pure (y_assign rfl) rfl ?_; refine w_nil ?_; refine x_next ?_; refine c_ret ?_; refine x_then_ret ?_; rotate_left; refine h_yes rfl rfl rfl (y_move rfl) rfl ?_; (refine h_part rfl rfl (fun hc32 => ?_) (fun hc32 => ?_) <;> try (first | exact absurd rfl hc32 | contradiction | exact Bool.noConfusion (show false = true from hc32.symm.trans (by assumption)) | exact Bool.noConfusion (show true = false from hc32.symm.trans (by assumption)) | (exfalso; omega) | (exfalso; simp only [*, Bool.not_true, Bool.not_false, reduceCtorEq] at hc32; done))); refine h_one rfl ?_; refine w_yes rfl rfl ?_; refine w_pur rfl rfl rfl (l00In_c _ _ _) rfl ?_; refine w_nil ?_; refine x_held ?_; refine h_yes rfl rfl rfl (y_not_dec rfl) rfl ?_; refine h_pure rfl (y_pick_f rfl rfl) rfl ?_; refine h_nil ?_; refine x_next ?_; (refine c_dec rfl (fun hc34 => ?_) (fun hc34 => ?_) <;> try (first | exact absurd rfl hc34 | contradiction | exact Bool.noConfusion (show false = true from hc34.symm.trans (by assumption)) | exact Bool.noConfusion (show true = false from hc34.symm.trans (by assumption)) | (exfalso; omega) | (exfalso; simp only [*, Bool.not_true, Bool.not_false, reduceCtorEq] at hc34; done))); refine c_seq ?_; refine c_region ?_; refine w_pure (y_assign rfl) rfl ?_; refine w_pure (y_assign rfl) rfl ?_; refine w_nil ?_; refine x_next ?_; refine c_ret ?_; refine x_then_ret ?_; rotate_left
    all_goals exact x_retv [_, _] rfl ⟨rfl, rfl, trivial⟩ ⟨_, [], by rw [cSer_2 hk h2]; rfl, by unfold resSer; rw [cSer_2 hk h2, if_neg (by decide)]; exact OwnD.nil _ _ _ _ (Nat.le_refl _), E.go⟩
  have hcs := cSer_s hk h2
  have hd40 := okD_len hk
  have hsl := serL_len xss f t first
  refine ret_enter Tryz.func44 rfl Tryz.ntmps44 rfl ?_
  focus have ht_h := h.top; refine c_seq ?_; refine c_region ?_; refine w_box rfl (k := fun b4 w4 hb4 hx4 hl4 hs4 => ?_); have hz_hx4 := hx4.size; replace h := h.ext hx4; replace E := E.trans hx4; refine w_pure (y_assign rfl) rfl ?_; refine w_pure (y_assign rfl) rfl ?_; refine w_nil ?_; refine x_next ?_; refine c_seq ?_; refine c_seq ?_; refine c_region ?_; refine w_pure (y_move rfl) rfl ?_; refine w_val rfl rfl rfl (l02Deck_c) rfl (fun w15 hx15 hz15 => ?_); have hz_hx15 := hx15.size; replace hb4 := hb4.ext hx15; replace h := h.ext hx15; replace E := E.trans hx15; refine w_pure (y_not rfl) rfl ?_; refine w_nil ?_; refine x_next ?_; (refine c_not rfl (fun hc16 => ?_) (fun hc16 => ?_) <;> try (first | exact absurd rfl hc16 | contradiction | exact Bool.noConfusion (show false = true from hc16.symm.trans (by assumption)) | exact Bool.noConfusion (show true = false from hc16.symm.trans (by assumption)) | (exfalso; omega) | (exfalso; simp only [*, Bool.not_true, Bool.not_false, reduceCtorEq] at hc16; done))); refine c_skip ?_; refine x_next ?_; refine c_seq ?_; refine c_seq ?_; refine c_region_held mixed (fun wr3 hxr3 hzr3 => ?_); have hz_hxr3 := hxr3.size; replace hb4 := hb4.ext hxr3; replace h := h.ext hxr3; replace E := E.trans hxr3; refine h_pure rfl (y_load_boxs rfl) rfl ?_; refine h_pure rfl (y_move rfl) rfl ?_; refine h_one rfl ?_; refine w_val rfl rfl rfl (l07WidthOf_c) rfl (fun w19 hx19 hz19 => ?_); have hz_hx19 := hx19.size; replace hb4 := hb4.ext hx19; replace h := h.ext hx19; replace E := E.trans hx19; refine w_nil ?_; refine x_held ?_; refine h_one rfl ?_; refine w_val rfl rfl rfl (l02Field_c _ _ _) rfl (fun w20 hx20 hz20 => ?_); have hz_hx20 := hx20.size; replace hb4 := hb4.ext hx20; replace h := h.ext hx20; replace E := E.trans hx20; refine w_nil ?_; refine x_held ?_; refine h_pure rfl (y_not_dec rfl) rfl ?_; refine h_pure rfl (y_move rfl) rfl ?_; (refine h_part_dec rfl rfl (fun hc23 => ?_) (fun hc23 => ?_) <;> try (first | exact absurd rfl hc23 | contradiction | exact Bool.noConfusion (show false = true from hc23.symm.trans (by assumption)) | exact Bool.noConfusion (show true = false from hc23.symm.trans (by assumption)) | (exfalso; omega) | (exfalso; simp only [*, Bool.not_true, Bool.not_false, reduceCtorEq] at hc23; done))); refine h_yes rfl rfl rfl (y_field rfl) rfl ?_; refine h_yes rfl rfl rfl (y_load_box rfl) rfl ?_; refine h_yes rfl rfl rfl (y_field rfl) rfl ?_; refine h_yes rfl rfl rfl (y_load_box rfl) rfl ?_; refine h_yes rfl rfl rfl (y_sub rfl rfl) rfl ?_; refine h_yes rfl rfl rfl (y_gt rfl rfl) rfl ?_; refine h_pure rfl (y_pick_f rfl rfl) rfl ?_; refine h_pure rfl (y_move rfl) rfl ?_; (refine h_part_dec rfl rfl (fun hc31 => ?_) (fun hc31 => ?_) <;> try (first | exact absurd rfl hc31 | contradiction | exact Bool.noConfusion (show false = true from hc31.symm.trans (by assumption)) | exact Bool.noConfusion (show true = false from hc31.symm.trans (by assumption)) | (exfalso; omega) | (exfalso; simp only [*, Bool.not_true, Bool.not_false, reduceCtorEq] at hc31; done))); refine h_yes rfl rfl rfl (y_move rfl) rfl ?_; (refine h_part rfl rfl (fun hc32 => ?_) (fun hc32 => ?_) <;> try (first | exact absurd rfl hc32 | contradiction | exact Bool.noConfusion (show false = true from hc32.symm.trans (by assumption)) | exact Bool.noConfusion (show true = false from hc32.symm.trans (by assumption)) | (exfalso; omega) | (exfalso; simp only [*, Bool.not_true, Bool.not_false, reduceCtorEq] at hc32; done))); refine h_one rfl ?_; refine w_yes rfl rfl ?_; refine w_pur rfl rfl rfl (l00In_c _ _ _) rfl ?_; refine w_nil ?_; refine x_held ?_; refine h_yes rfl rfl rfl (y_not_dec rfl) rfl ?_; refine h_pure rfl (y_pick_f rfl rfl) rfl ?_; refine h_nil ?_; refine x_next ?_; (refine c_dec rfl (fun hc34 => ?_) (fun hc34 => ?_) <;> try (first | exact absurd rfl hc34 | contradiction | exact Bool.noConfusion (show false = true from hc34.symm.trans (by assumption)) | exact Bool.noConfusion (show true = false from hc34.symm.trans (by assumption)) | (exfalso; omega) | (exfalso; simp only [*, Bool.not_true, Bool.not_false, reduceCtorEq] at hc34; done))); refine c_skip ?_; refine x_next ?_; refine c_seq ?_; refine c_region ?_; refine w_pure (y_move rfl) rfl ?_; (refine w_call rfl rfl rfl (l02Copy_c) rfl ?_; rintro v36 w36 ⟨sus36, ⟨hp1_36, hx36⟩⟩); have hl_hp1_36 := hp1_36.lt; have hz_hx36 := hx36.size; replace hb4 := hb4.ext hx36; replace h := h.ext hx36; replace E := E.trans hx36; refine w_pure (y_assign rfl) rfl ?_; refine w_nil ?_; refine x_next ?_; refine c_seq ?_; refine c_seq ?_; refine c_region ?_; refine w_pure (y_assign rfl) rfl ?_; refine w_nil ?_; refine x_next ?_; refine c_block ?_; rotate_left
  refine c_loopC w20.heap.size w36.heap.size (ι := Int) (fun x => [(2, .int .i64 first), (4, ptr b4 0), (8, v36), (9, .int .i64 x)])
    (fun x w' => OwnD w' 26 w20.heap.size w36.heap.size sus36 v36 ((serL xss f t first).take x.toNat ++ xss.drop x.toNat) ∧ 0 ≤ x ∧ x ≤ xss.length ∧ serF xss f t first x.toNat = serF xss f t first 0) (fun x => (xss.length - x).toNat) 0
    (by repeat (first | exact trivial | refine ⟨rfl, ?_⟩)) ⟨by simpa using hp1_36, by omega, by omega, rfl⟩ ?_
  clear hp1_36
  rintro i wL hxL EL ⟨g3, hi0, hi1, hser⟩
  have e1 : (i + 1).toNat = i.toNat + 1 := by omega
  have hml : ((serL xss f t first).take i.toNat ++ xss.drop i.toNat).length = xss.length := mix_len hsl
  by_cases hli : i < xss.length
  case neg =>
    rw [serF_end (by omega)] at hser
    have hc0 : cSer xss f t first = 0 := hcs.trans hser.symm
    focus have hl_g3 := g3.lt; have hz_hxL := hxL.size; replace hb4 := hb4.chg hxL (by omega); replace h := h.chg hxL (by omega); replace E := E.next hxL (by omega); refine c_seq ?_; refine c_seq ?_; refine c_region ?_; refine w_pure (y_move rfl) rfl ?_; refine w_pure (y_move rfl) rfl ?_; refine w_pure (y_lend rfl) rfl ?_; refine w_pure (y_lt rfl rfl) rfl ?_; refine w_nil ?_; refine x_next ?_; (refine c_dec rfl (fun hc40 => ?_) (fun hc40 => ?_) <;> try (first | exact absurd rfl hc40 | contradiction | exact Bool.noConfusion (show false = true from hc40.symm.trans (by assumption)) | exact Bool.noConfusion (show true = false from hc40.symm.trans (by assumption)) | (exfalso; omega) | (exfalso; simp only [*, Bool.not_true, Bool.not_false, reduceCtorEq] at hc40; done))); refine c_exit ?_; refine x_then_exit ?_; refine x_then_exit ?_; refine x_block_hit ?_; refine x_next ?_; refine c_seq ?_; refine c_region ?_; refine w_pure (y_move rfl) rfl ?_; refine w_pure (y_assign rfl) rfl ?_; refine w_pure (y_assign rfl) rfl ?_; refine w_nil ?_; refine x_next ?_; refine c_ret ?_; rotate_left
    rw [mix_all hsl (by omega)] at g3
    exact x_retv [_, _] rfl ⟨rfl, rfl, trivial⟩ ⟨_, sus36, by rw [hc0]; rfl, by unfold resSer; rw [if_pos hc0]; exact OwnD.wide (g3.low (by omega)) (by omega) (Nat.le_refl _), E.go⟩
  have hwi := widD_at hk i.toNat (by omega)
  have hi2 : ((i.toNat : Nat) : Int) = i := Int.toNat_of_nonneg hi0
  have hz := sft_zero (t - f).toNat (first + i) (by omega)
  have eAt : serAt xss f t first i.toNat = putF (xss.getD i.toNat []) f t (pun (first + i) (t - f).toNat) := by unfold serAt; rw [hi2]
  have hpl : ((pun (first + i) (t - f).toNat).length : Int) = t - f := by rw [pun_len]; omega
  have hmg : ((serL xss f t first).take i.toNat ++ xss.drop i.toNat).getD i.toNat [] = xss.getD i.toNat [] := mix_getD hsl (by omega)
  have hst : ((serL xss f t first).take i.toNat ++ xss.drop i.toNat).set i.toNat (serAt xss f t first i.toNat) = (serL xss f t first).take (i + 1).toNat ++ xss.drop (i + 1).toNat := by rw [e1]; exact upd_step hsl (by omega) (serL_get (by omega))
  have hs0 : ((serL xss f t first).take i.toNat ++ xss.drop i.toNat).set i.toNat (xss.getD i.toNat []) = (serL xss f t first).take i.toNat ++ xss.drop i.toNat := by rw [← hmg]; exact set_own
  have hpg : ∀ k, k < (prt (xss.getD i.toNat []) f t).length → (prt (xss.getD i.toNat []) f t).getD k 0 = (xss.getD i.toNat []).getD (f.toNat + k) 0 := fun k hk => prt_get (by omega) hk
  have hprl := prt_len (xs := xss.getD i.toNat []) (f := f) (t := t) (by omega)
  generalize (serL xss f t first).take i.toNat ++ xss.drop i.toNat = M at *
  generalize hcd : xss.getD i.toNat [] = c at *
  focus have hl_g3 := g3.lt; have hz_hxL := hxL.size; replace hb4 := hb4.chg hxL (by omega); replace h := h.chg hxL (by omega); replace E := E.next hxL (by omega); refine c_seq ?_; refine c_seq ?_; refine c_region ?_; refine w_pure (y_move rfl) rfl ?_; refine w_pure (y_move rfl) rfl ?_; refine w_pure (y_lend rfl) rfl ?_; refine w_pure (y_lt rfl rfl) rfl ?_; refine w_nil ?_; refine x_next ?_; (refine c_dec rfl (fun hc40 => ?_) (fun hc40 => ?_) <;> try (first | exact absurd rfl hc40 | contradiction | exact Bool.noConfusion (show false = true from hc40.symm.trans (by assumption)) | exact Bool.noConfusion (show true = false from hc40.symm.trans (by assumption)) | (exfalso; omega) | (exfalso; simp only [*, Bool.not_true, Bool.not_false, reduceCtorEq] at hc40; done))); refine c_skip ?_; refine x_next ?_; refine c_seq ?_; refine c_block ?_; refine c_seq ?_; refine c_region ?_; refine w_pure (y_move rfl) rfl ?_; refine w_pure (y_move rfl) rfl ?_; refine w_pure (y_add rfl rfl) rfl ?_; refine w_pure (y_field rfl) rfl ?_; refine w_pure (y_load_box rfl) rfl ?_; refine w_pure (y_field rfl) rfl ?_; refine w_pure (y_load_box rfl) rfl ?_; refine w_pure (y_sub rfl rfl) rfl ?_; (refine w_call rfl rfl rfl (l03Put_c _ _) rfl ?_; rintro _ w52 ⟨d52, ⟨rfl, ⟨hp1_52, hx52⟩⟩⟩); have hl_hp1_52 := hp1_52.lt; have hz_hx52 := hx52.size; replace EL := EL.next hx52 (by omega); replace g3 := g3.ext hx52; replace hb4 := hb4.ext hx52; replace h := h.ext hx52; replace E := E.trans hx52; refine w_pure (y_move rfl) rfl ?_; refine w_pure (y_extract rfl rfl) rfl ?_; refine w_pure (y_extract rfl rfl) rfl ?_; refine w_pure (y_assign rfl) rfl ?_; refine w_pure (y_assign rfl) rfl ?_; refine w_nil ?_; refine x_next ?_; refine c_seq ?_; refine c_seq ?_; refine c_region ?_; refine w_pure (y_move rfl) rfl ?_; refine w_pure (y_not_dec rfl) rfl ?_; refine w_nil ?_; refine x_next ?_; (refine c_dec rfl (fun hc56 => ?_) (fun hc56 => ?_) <;> try (first | exact absurd rfl hc56 | contradiction | exact Bool.noConfusion (show false = true from hc56.symm.trans (by assumption)) | exact Bool.noConfusion (show true = false from hc56.symm.trans (by assumption)) | (exfalso; omega) | (exfalso; simp only [*, Bool.not_true, Bool.not_false, reduceCtorEq] at hc56; done))); refine c_seq ?_; refine c_region ?_; refine w_pure (y_assign rfl) rfl ?_; refine w_pure (y_assign rfl) rfl ?_; refine w_nil ?_; refine x_next ?_; refine c_ret ?_; refine x_then_ret ?_; refine x_block_ret ?_; refine x_then_ret ?_; refine x_then_ret ?_; refine x_block_ret ?_; refine x_then_ret ?_; rotate_left; refine c_skip ?_; refine x_next ?_; refine c_seq ?_; refine c_region ?_; refine w_pure (y_assign rfl) rfl ?_; refine w_nil ?_; refine x_next ?_; refine c_block ?_; rotate_left
  · have hc5 : cSer xss f t first = 5 := by rw [hcs, ← hser, serF_5 (i := i.toNat) (by omega) (by rw [hi2]; exact fun hh => hc56 (hz.2 hh))]
    exact x_retv [_, _] rfl ⟨rfl, rfl, trivial⟩ ⟨_, [], by rw [hc5]; rfl, by unfold resSer; rw [hc5, if_neg (by decide)]; exact OwnD.nil _ _ _ _ (Nat.le_refl _), E.go⟩
  have hlt5 : first + (i.toNat : Nat) < 10 ^ (t - f).toNat := by rw [hi2]; exact hz.1 (Decidable.not_not.1 hc56)
  generalize pun (first + i) (t - f).toNat = P at *
  refine c_loopC w20.heap.size w36.heap.size (ι := Int) (fun x => [(2, .int .i64 first), (4, ptr b4 0), (8, v36), (9, .int .i64 i), (10, d52), (12, .int .i64 x)])
    (fun x w' => OwnD w' 26 w20.heap.size w36.heap.size sus36 v36 (M.set i.toNat (putF c f (f + x) (P.take x.toNat))) ∧ 0 ≤ x ∧ x ≤ t - f ∧ ∀ k : Nat, k < x.toNat → c.getD (f.toNat + k) 0 = 0) (fun x => (t - f - x).toNat) 0
    (by repeat (first | exact trivial | refine ⟨rfl, ?_⟩)) ⟨by rw [put_zero, hs0]; assumption, by omega, by omega, fun k hk => by simp at hk⟩ ?_
  clear g3
  rintro x wM hxM EM ⟨g6, hx0, hx1, hall⟩
  have hMl : (M.set i.toNat (putF c f (f + x) (P.take x.toNat))).length = xss.length := by rw [List.length_set]; exact hml
  have hMg : (M.set i.toNat (putF c f (f + x) (P.take x.toNat))).getD i.toNat [] = putF c f (f + x) (P.take x.toNat) := by
    rw [List.getD_eq_getElem?_getD, List.getElem?_set_self (by omega)]; rfl
  have hpx := put_lenx (c := c) (P := P) (f := f) (x := x) (by omega) (by omega) (by omega)
  have hgl : ((M.set i.toNat (putF c f (f + x) (P.take x.toNat))).getD i.toNat []).length = c.length := by rw [hMg]; exact hpx
  by_cases hlx : x < t - f
  case neg =>
    have ex : x = t - f := by omega
    subst ex
    have hbk : blkB c f t = true := blkB_yes fun k hk => by rw [hpg k hk]; exact hall k (by omega)
    rw [show f + (t - f) = t by omega, List.take_of_length_le (by omega), ← eAt, hst] at g6
    focus have hl_g6 := g6.lt; have hz_hxM := hxM.size; replace EL := EL.trans hxM; replace hb4 := hb4.chg hxM (by omega); replace h := h.chg hxM (by omega); replace E := E.next hxM (by omega); replace hp1_52 := hp1_52.chg hxM (by omega); refine c_seq ?_; refine c_seq ?_; refine c_region ?_; refine w_pure (y_move rfl) rfl ?_; refine w_pure (y_move rfl) rfl ?_; refine w_pure (y_len rfl) rfl ?_; refine w_pure (y_lt rfl rfl) rfl ?_; refine w_nil ?_; refine x_next ?_; (refine c_dec rfl (fun hc60 => ?_) (fun hc60 => ?_) <;> try (first | exact absurd rfl hc60 | contradiction | exact Bool.noConfusion (show false = true from hc60.symm.trans (by assumption)) | exact Bool.noConfusion (show true = false from hc60.symm.trans (by assumption)) | (exfalso; omega) | (exfalso; simp only [*, Bool.not_true, Bool.not_false, reduceCtorEq] at hc60; done))); refine c_exit ?_; refine x_then_exit ?_; refine x_then_exit ?_; refine x_block_hit ?_; refine x_block_norm ?_; refine x_next ?_; refine c_region ?_; refine w_pure (y_move rfl) rfl ?_; refine w_pure (y_add rfl rfl) rfl ?_; refine w_pure (y_assign rfl) rfl ?_; refine w_nil ?_; rotate_left
    refine x_again (i + 1) (by repeat (first | exact trivial | refine ⟨rfl, ?_⟩)) ⟨EL.go, by assumption, by omega, by omega, ?_⟩ (by omega)
    rw [← hser, serF_on (i := i.toNat) (by omega) hlt5 (by rw [hcd]; exact hbk), e1]
  have hpgx := put_get (c := c) (P := P) (f := f) (x := x) (by omega) (by omega) (by omega)
  have hval : ((M.set i.toNat (putF c f (f + x) (P.take x.toNat))).getD i.toNat []).getD (f + x).toNat 0 = c.getD (f + x).toNat 0 := by rw [hMg]; exact hpgx
  have hpst := put_step (c := c) (P := P) (f := f) (x := x) (by omega) (by omega) (by omega)
  focus have hl_g6 := g6.lt; have hz_hxM := hxM.size; replace EL := EL.trans hxM; replace hb4 := hb4.chg hxM (by omega); replace h := h.chg hxM (by omega); replace E := E.next hxM (by omega); replace hp1_52 := hp1_52.chg hxM (by omega); refine c_seq ?_; refine c_seq ?_; refine c_region ?_; refine w_pure (y_move rfl) rfl ?_; refine w_pure (y_move rfl) rfl ?_; refine w_pure (y_len rfl) rfl ?_; refine w_pure (y_lt rfl rfl) rfl ?_; refine w_nil ?_; refine x_next ?_; (refine c_dec rfl (fun hc60 => ?_) (fun hc60 => ?_) <;> try (first | exact absurd rfl hc60 | contradiction | exact Bool.noConfusion (show false = true from hc60.symm.trans (by assumption)) | exact Bool.noConfusion (show true = false from hc60.symm.trans (by assumption)) | (exfalso; omega) | (exfalso; simp only [*, Bool.not_true, Bool.not_false, reduceCtorEq] at hc60; done))); refine c_skip ?_; refine x_next ?_; refine c_seq ?_; refine c_block ?_; refine c_seq ?_; refine c_region ?_; refine w_pure (y_field rfl) rfl ?_; refine w_pure (y_load_box rfl) rfl ?_; refine w_pure (y_move rfl) rfl ?_; refine w_pure (y_add rfl rfl) rfl ?_; refine w_pure (y_assign rfl) rfl ?_; refine w_nil ?_; refine x_next ?_; refine c_seq ?_; refine c_seq ?_; refine c_region ?_; refine w_pure (y_move rfl) rfl ?_; refine w_pure (y_move rfl) rfl ?_; refine w_pure (y_indexd rfl rfl) rfl ?_; refine w_pure (y_field rfl) rfl ?_; refine w_pure (y_loadk rfl) rfl ?_; refine w_pure (y_move rfl) rfl ?_; refine w_pure (y_index rfl rfl) rfl ?_; refine w_pure (y_load_int rfl) rfl ?_; refine w_pure (y_ne rfl rfl) rfl ?_; refine w_nil ?_; refine x_next ?_; (refine c_dec rfl (fun hc75 => ?_) (fun hc75 => ?_) <;> try (first | exact absurd rfl hc75 | contradiction | exact Bool.noConfusion (show false = true from hc75.symm.trans (by assumption)) | exact Bool.noConfusion (show true = false from hc75.symm.trans (by assumption)) | (exfalso; omega) | (exfalso; simp only [*, Bool.not_true, Bool.not_false, reduceCtorEq] at hc75; done))); refine c_seq ?_; refine c_region ?_; refine w_pure (y_assign rfl) rfl ?_; refine w_pure (y_assign rfl) rfl ?_; refine w_nil ?_; refine x_next ?_; refine c_ret ?_; refine x_then_ret ?_; refine x_block_ret ?_; refine x_then_ret ?_; refine x_then_ret ?_; refine x_block_ret ?_; refine x_block_ret ?_; refine x_then_ret ?_; refine x_then_ret ?_; refine x_block_ret ?_; refine x_then_ret ?_; rotate_left; refine c_skip ?_; refine x_next ?_; refine c_region_base mixed (fun wr18 hxr18 hzr18 EBr18 => ?_); have hz_hxr18 := hxr18.size; replace EM := EM.next hxr18 (by omega); replace g6 := g6.ext hxr18; replace EL := EL.next hxr18 (by omega); replace hb4 := hb4.ext hxr18; replace h := h.ext hxr18; replace E := E.trans hxr18; replace hp1_52 := hp1_52.ext hxr18; refine b_pure rfl (y_move rfl) rfl ?_; refine b_pure rfl (y_move rfl) rfl ?_; refine b_pure rfl (y_indexd rfl rfl) rfl ?_; refine b_pure rfl (y_field rfl) rfl ?_; refine b_pure rfl (y_loadk rfl) rfl ?_; refine b_pure rfl (y_move rfl) rfl ?_; refine b_pure rfl (y_move rfl) rfl ?_; refine b_pure rfl (y_move rfl) rfl ?_; refine b_pure rfl (y_index rfl rfl) rfl ?_; refine b_pure rfl (y_load_int rfl) rfl ?_; refine b_pure rfl (y_index rfl rfl) rfl ?_; refine b_one rfl ?_; refine w_store_eld rfl rfl (next := fun ws72 hos72 hxs72 hss72 => ?_); (replace g6 := hos72; clear hos72); have hz_hxs72 := hxs72.size; replace EM := EM.trans hxs72; replace EL := EL.trans hxs72; replace hb4 := hb4.chg hxs72 (by omega); replace h := h.chg hxs72 (by omega); replace E := E.next hxs72 (by omega); replace hp1_52 := hp1_52.chg hxs72 (by omega); refine w_nil ?_; refine x_hbk ?_; refine b_nil ?_; refine x_block_norm ?_; refine x_next ?_; refine c_region ?_; refine w_pure (y_move rfl) rfl ?_; refine w_pure (y_add rfl rfl) rfl ?_; refine w_pure (y_assign rfl) rfl ?_; refine w_nil ?_; rotate_left
  · have hnz : ¬ (prt c f t).getD x.toNat 0 = 0 := by
      rw [hpg x.toNat (by omega), show f.toNat + x.toNat = (f + x).toNat by omega, ← hval]; exact hc75
    have hbk : blkB c f t = false := blkB_no (by omega) hnz
    have hc9 : cSer xss f t first = 9 := by rw [hcs, ← hser, serF_9 (i := i.toNat) (by omega) hlt5 (by rw [hcd]; exact hbk)]
    exact x_retv [_, _] rfl ⟨rfl, rfl, trivial⟩ ⟨_, [], by rw [hc9]; rfl, by unfold resSer; rw [hc9, if_neg (by decide)]; exact OwnD.nil _ _ _ _ (Nat.le_refl _), E.go⟩
  · rw [hMg, List.set_set, hpst] at g6
    refine x_again (x + 1) (by repeat (first | exact trivial | refine ⟨rfl, ?_⟩)) ⟨EM.go, by assumption, by omega, by omega, fun k hk => ?_⟩ (by omega)
    by_cases ek : k = x.toNat
    · subst ek
      rw [show f.toNat + x.toNat = (f + x).toNat by omega, ← hval]; exact Decidable.not_not.1 hc75
    · exact hall k (by omega)
end
end Go.Proofs.YticnemjjjceiaaaGreatDoor
/- GngC -/
namespace Go.Proofs.YticnemjjjceiaaaGreatDoor
open Go Go.Gw
set_option linter.unusedVariables false
set_option linter.unusedSimpArgs false
/-- the first n columns of one card over another's -/
def ovlF (ys xs : List Int) : Nat → List Int
  | 0 => xs
  | n + 1 => (ovlF ys xs n).set n (orI ((ovlF ys xs n).getD n 0) (ys.getD n 0))
theorem ovlF_len (ys xs : List Int) : ∀ n, (ovlF ys xs n).length = xs.length
  | 0 => rfl
  | n + 1 => by rw [ovlF, List.length_set, ovlF_len ys xs n]
theorem ovlF_get (ys xs : List Int) : ∀ n k, (ovlF ys xs n).getD k 0 = if k < n ∧ k < xs.length then orI (xs.getD k 0) (ys.getD k 0) else xs.getD k 0
  | 0, k => by rw [if_neg (by omega)]; rfl
  | n + 1, k => by
    have ih := ovlF_get ys xs n
    have hl := ovlF_len ys xs n
    rw [ovlF, List.getD_eq_getElem?_getD, List.getElem?_set]
    by_cases e : n = k
    · subst e
      rw [if_pos rfl]
      by_cases h : n < xs.length
      · rw [if_pos (by omega), if_pos ⟨by omega, h⟩, ih n, if_neg (by omega)]; rfl
      · rw [if_neg (by omega), if_neg (by omega), List.getD_eq_getElem?_getD, List.getElem?_eq_none (by omega)]
    · rw [if_neg e, ← List.getD_eq_getElem?_getD, ih k]
      by_cases h : k < n ∧ k < xs.length
      · rw [if_pos h, if_pos ⟨by omega, h.2⟩]
      · rw [if_neg h, if_neg (by omega)]
section
variable {w : World} {lo hi lo' hi' b b' o o' : Nat} {v v' v2 : Value} {xs ys : List Int} {xss yss : List (List Int)} {svs sus : List SV} {f t : Int}
theorem sSameCard_c (h : SL w lo hi v xs := by repeat (first | assumption | exact Go.Gw.Own.sl (by assumption) | exact Go.Gw.Box.at (by assumption) | exact Go.Gw.SLL.el (by first | assumption | exact Go.Gw.OwnD.sll (by assumption)) _ (by omega) | exact Go.Gw.SLL.at (by first | assumption | exact Go.Gw.OwnD.sll (by assumption)) (by omega) | exact Go.Gw.OwnD.sll (by assumption) | (apply Go.Gw.SL.chg; case hx => assumption) | (apply Go.Gw.Own.chg; case hx => assumption) | (apply Go.Gw.Box.chg; case hx => assumption) | (apply Go.Gw.At.chg; case hx => assumption) | exact .inl (Nat.zero_le _) | exact .inr (Nat.zero_le _) | (show _ ∨ _; omega))) (h' : SL w lo' hi' v' ys := by repeat (first | assumption | exact Go.Gw.Own.sl (by assumption) | exact Go.Gw.Box.at (by assumption) | exact Go.Gw.SLL.el (by first | assumption | exact Go.Gw.OwnD.sll (by assumption)) _ (by omega) | exact Go.Gw.SLL.at (by first | assumption | exact Go.Gw.OwnD.sll (by assumption)) (by omega) | exact Go.Gw.OwnD.sll (by assumption) | (apply Go.Gw.SL.chg; case hx => assumption) | (apply Go.Gw.Own.chg; case hx => assumption) | (apply Go.Gw.Box.chg; case hx => assumption) | (apply Go.Gw.At.chg; case hx => assumption) | exact .inl (Nat.zero_le _) | exact .inr (Nat.zero_le _) | (show _ ∨ _; omega))) : Val Tryz.prog 24 [.agg #[v], .agg #[v']] w (.bool (decide (xs = ys))) := by
  refine ⟨fun w1 hx1 => ?_⟩
  replace h := h.ext hx1
  replace h' := h'.ext hx1
  have E : Since 0 0 w1 w1 := Since.refl 0 0 w1
  refine ret_enter Tryz.func24 rfl Tryz.ntmps24 rfl ?_
  focus have ht_h := h.top; have ht_h' := h'.top; refine c_seq ?_; refine c_region ?_; refine w_box rfl (k := fun b2 w2 hb2 hx2 hl2 hs2 => ?_); have hz_hx2 := hx2.size; replace h := h.ext hx2; replace h' := h'.ext hx2; replace E := E.trans hx2; refine w_box rfl (k := fun b3 w3 hb3 hx3 hl3 hs3 => ?_); have hz_hx3 := hx3.size; replace hb2 := hb2.ext hx3; replace h := h.ext hx3; replace h' := h'.ext hx3; replace E := E.trans hx3; refine w_pure (y_assign rfl) rfl ?_; refine w_nil ?_; refine x_next ?_; refine c_seq ?_; refine c_region ?_; refine w_pure (y_field rfl) rfl ?_; refine w_pure (y_load_box rfl) rfl ?_; refine w_pure (y_field rfl) rfl ?_; refine w_pure (y_load_box rfl) rfl ?_; refine w_val rfl rfl rfl (l00Same_c) rfl (fun w9 hx9 hz9 => ?_); have hz_hx9 := hx9.size; replace hb3 := hb3.ext hx9; replace hb2 := hb2.ext hx9; replace h := h.ext hx9; replace h' := h'.ext hx9; replace E := E.trans hx9; refine w_pure (y_assign rfl) rfl ?_; refine w_nil ?_; refine x_next ?_; refine c_ret ?_; rotate_left
  exact x_retv [_] rfl ⟨rfl, trivial⟩ ⟨rfl, E.go⟩
theorem sSameDeck_c (h : SLL w lo hi svs v xss := by repeat (first | assumption | exact Go.Gw.Own.sl (by assumption) | exact Go.Gw.Box.at (by assumption) | exact Go.Gw.SLL.el (by first | assumption | exact Go.Gw.OwnD.sll (by assumption)) _ (by omega) | exact Go.Gw.SLL.at (by first | assumption | exact Go.Gw.OwnD.sll (by assumption)) (by omega) | exact Go.Gw.OwnD.sll (by assumption) | (apply Go.Gw.SL.chg; case hx => assumption) | (apply Go.Gw.Own.chg; case hx => assumption) | (apply Go.Gw.Box.chg; case hx => assumption) | (apply Go.Gw.At.chg; case hx => assumption) | exact .inl (Nat.zero_le _) | exact .inr (Nat.zero_le _) | (show _ ∨ _; omega))) (h' : SLL w lo' hi' sus v' yss := by repeat (first | assumption | exact Go.Gw.Own.sl (by assumption) | exact Go.Gw.Box.at (by assumption) | exact Go.Gw.SLL.el (by first | assumption | exact Go.Gw.OwnD.sll (by assumption)) _ (by omega) | exact Go.Gw.SLL.at (by first | assumption | exact Go.Gw.OwnD.sll (by assumption)) (by omega) | exact Go.Gw.OwnD.sll (by assumption) | (apply Go.Gw.SL.chg; case hx => assumption) | (apply Go.Gw.Own.chg; case hx => assumption) | (apply Go.Gw.Box.chg; case hx => assumption) | (apply Go.Gw.At.chg; case hx => assumption) | exact .inl (Nat.zero_le _) | exact .inr (Nat.zero_le _) | (show _ ∨ _; omega))) : Val Tryz.prog 45 [v, v'] w (.bool (decide (xss = yss))) := by
  refine ⟨fun w1 hx1 => ?_⟩
  replace h := h.ext hx1
  replace h' := h'.ext hx1
  have hsm := h.small
  have E : Since 0 0 w1 w1 := Since.refl 0 0 w1
  refine ret_enter Tryz.func45 rfl Tryz.ntmps45 rfl ?_
  focus have ht_h := h.top; have ht_h' := h'.top; refine c_seq ?_; refine c_region ?_; refine w_pure (y_assign rfl) rfl ?_; refine w_nil ?_; refine x_next ?_; refine c_seq ?_; refine c_seq ?_; refine c_region ?_; refine w_pure (y_move rfl) rfl ?_; refine w_pure (y_lend rfl) rfl ?_; refine w_pure (y_move rfl) rfl ?_; refine w_pure (y_lend rfl) rfl ?_; refine w_pure (y_ne rfl rfl) rfl ?_; refine w_nil ?_; refine x_next ?_; (refine c_dec rfl (fun hc10 => ?_) (fun hc10 => ?_) <;> try (first | exact absurd rfl hc10 | contradiction | exact Bool.noConfusion (show false = true from hc10.symm.trans (by assumption)) | exact Bool.noConfusion (show true = false from hc10.symm.trans (by assumption)) | (exfalso; omega) | (exfalso; simp only [*, Bool.not_true, Bool.not_false, reduceCtorEq] at hc10; done))); refine c_seq ?_; refine c_region ?_; refine w_pure (y_assign rfl) rfl ?_; refine w_nil ?_; refine x_next ?_; refine c_ret ?_; refine x_then_ret ?_; rotate_left; refine c_skip ?_; refine x_next ?_; refine c_seq ?_; refine c_seq ?_; refine c_region ?_; refine w_pure (y_assign rfl) rfl ?_; refine w_nil ?_; refine x_next ?_; refine c_block ?_; rotate_left
  · refine x_retv [_] rfl ⟨rfl, trivial⟩ ⟨?_, E.go⟩
    rw [decide_eq_false (fun e => by subst e; omega)]; rfl
  · refine c_loopC 0 0 (ι := Int) (fun i => [(0, v), (1, v'), (5, .int .i64 i)]) (fun i w' => (0 ≤ i ∧ i ≤ xss.length) ∧ ∀ j, j < i.toNat → xss.getD j [] = yss.getD j []) (fun i => (xss.length - i).toNat) 0
      (by repeat (first | exact trivial | refine ⟨rfl, ?_⟩)) ⟨⟨by omega, by omega⟩, fun j hj => absurd hj (by simp)⟩ ?_
    rintro i w2 hx2 E2 ⟨⟨hi0, hi1⟩, hall⟩
    by_cases hlt : i < xss.length
    · focus have hz_hx2 := hx2.size; replace h := h.ext hx2; replace h' := h'.ext hx2; replace E := E.trans hx2; refine c_seq ?_; refine c_seq ?_; refine c_region ?_; refine w_pure (y_move rfl) rfl ?_; refine w_pure (y_move rfl) rfl ?_; refine w_pure (y_lend rfl) rfl ?_; refine w_pure (y_lt rfl rfl) rfl ?_; refine w_nil ?_; refine x_next ?_; (refine c_dec rfl (fun hc14 => ?_) (fun hc14 => ?_) <;> try (first | exact absurd rfl hc14 | contradiction | exact Bool.noConfusion (show false = true from hc14.symm.trans (by assumption)) | exact Bool.noConfusion (show true = false from hc14.symm.trans (by assumption)) | (exfalso; omega) | (exfalso; simp only [*, Bool.not_true, Bool.not_false, reduceCtorEq] at hc14; done))); refine c_skip ?_; refine x_next ?_; refine c_seq ?_; refine c_block ?_; refine c_seq ?_; refine c_region_held mixed (fun wr6 hxr6 hzr6 => ?_); have hz_hxr6 := hxr6.size; replace E2 := E2.trans hxr6; replace h := h.ext hxr6; replace h' := h'.ext hxr6; replace E := E.trans hxr6; refine h_pure rfl (y_move rfl) rfl ?_; refine h_pure rfl (y_move rfl) rfl ?_; refine h_pure rfl (y_indexd rfl rfl) rfl ?_; refine h_pure rfl (y_field rfl) rfl ?_; refine h_pure rfl (y_loadk rfl) rfl ?_; refine h_pure rfl (y_move rfl) rfl ?_; refine h_pure rfl (y_move rfl) rfl ?_; refine h_pure rfl (y_indexd rfl rfl) rfl ?_; refine h_pure rfl (y_field rfl) rfl ?_; refine h_pure rfl (y_loadk rfl) rfl ?_; refine h_one rfl ?_; refine w_val rfl rfl rfl (l00Same_c) rfl (fun w27 hx27 hz27 => ?_); have hz_hx27 := hx27.size; replace E2 := E2.trans hx27; replace h := h.ext hx27; replace h' := h'.ext hx27; replace E := E.trans hx27; refine w_nil ?_; refine x_held ?_; refine h_pure rfl (y_not_dec rfl) rfl ?_; refine h_nil ?_; refine x_next ?_; (refine c_dec rfl (fun hc28 => ?_) (fun hc28 => ?_) <;> try (first | exact absurd rfl hc28 | contradiction | exact Bool.noConfusion (show false = true from hc28.symm.trans (by assumption)) | exact Bool.noConfusion (show true = false from hc28.symm.trans (by assumption)) | (exfalso; omega) | (exfalso; simp only [*, Bool.not_true, Bool.not_false, reduceCtorEq] at hc28; done))); refine c_seq ?_; refine c_region ?_; refine w_pure (y_assign rfl) rfl ?_; refine w_nil ?_; refine x_next ?_; refine c_ret ?_; refine x_block_ret ?_; refine x_then_ret ?_; refine x_then_ret ?_; refine x_block_ret ?_; refine x_then_ret ?_; rotate_left; refine c_skip ?_; refine x_block_norm ?_; refine x_next ?_; refine c_region ?_; refine w_pure (y_move rfl) rfl ?_; refine w_pure (y_add rfl rfl) rfl ?_; refine w_pure (y_assign rfl) rfl ?_; refine w_nil ?_; rotate_left
      · exact x_retv [_] rfl ⟨rfl, trivial⟩ ⟨by rw [decide_eq_false]; rfl; intro e; subst e; simp at *, E.go⟩
      · exact x_again (i + 1) (by repeat (first | exact trivial | refine ⟨rfl, ?_⟩)) ⟨E2.go, ⟨by omega, by omega⟩, fun j hj => by
          by_cases hj2 : j < i.toNat
          · exact hall j hj2
          · obtain rfl : j = i.toNat := by omega
            exact Decidable.not_not.1 hc28⟩ (by omega)
    · focus have hz_hx2 := hx2.size; replace h := h.ext hx2; replace h' := h'.ext hx2; replace E := E.trans hx2; refine c_seq ?_; refine c_seq ?_; refine c_region ?_; refine w_pure (y_move rfl) rfl ?_; refine w_pure (y_move rfl) rfl ?_; refine w_pure (y_lend rfl) rfl ?_; refine w_pure (y_lt rfl rfl) rfl ?_; refine w_nil ?_; refine x_next ?_; (refine c_dec rfl (fun hc14 => ?_) (fun hc14 => ?_) <;> try (first | exact absurd rfl hc14 | contradiction | exact Bool.noConfusion (show false = true from hc14.symm.trans (by assumption)) | exact Bool.noConfusion (show true = false from hc14.symm.trans (by assumption)) | (exfalso; omega) | (exfalso; simp only [*, Bool.not_true, Bool.not_false, reduceCtorEq] at hc14; done))); refine c_exit ?_; refine x_then_exit ?_; refine x_then_exit ?_; refine x_block_hit ?_; refine x_next ?_; refine c_seq ?_; refine c_region ?_; refine w_pure (y_assign rfl) rfl ?_; refine w_nil ?_; refine x_next ?_; refine c_ret ?_; rotate_left
      refine x_retv [_] rfl ⟨rfl, trivial⟩ ⟨?_, E.go⟩
      rw [decide_eq_true]; rfl
      apply List.ext_getElem (by omega)
      intro j h1 h2
      have := hall j (by omega)
      rw [List.getD_eq_getElem?_getD, List.getD_eq_getElem?_getD, List.getElem?_eq_getElem h1, List.getElem?_eq_getElem h2] at this
      exact this
theorem fieldCode_z (f t : Int) (h : SL w lo hi v xs := by repeat (first | assumption | exact Go.Gw.Own.sl (by assumption) | exact Go.Gw.Box.at (by assumption) | exact Go.Gw.SLL.el (by first | assumption | exact Go.Gw.OwnD.sll (by assumption)) _ (by omega) | exact Go.Gw.SLL.at (by first | assumption | exact Go.Gw.OwnD.sll (by assumption)) (by omega) | exact Go.Gw.OwnD.sll (by assumption) | (apply Go.Gw.SL.chg; case hx => assumption) | (apply Go.Gw.Own.chg; case hx => assumption) | (apply Go.Gw.Box.chg; case hx => assumption) | (apply Go.Gw.At.chg; case hx => assumption) | exact .inl (Nat.zero_le _) | exact .inr (Nat.zero_le _) | (show _ ∨ _; omega))) (hk : okK xs = true := by assumption) (hf : fldB f t xs.length = true := by assumption) : Val Tryz.prog 104 [.agg #[v], .agg #[.int .i64 f, .int .i64 t]] w (.int .i64 0) := by
  refine ⟨fun w1 hx1 => ?_⟩
  replace h := h.ext hx1
  have E : Since 0 0 w1 w1 := Since.refl 0 0 w1
  refine ret_enter Tryz.func104 rfl Tryz.ntmps104 rfl ?_
  focus have ht_h := h.top; refine c_seq ?_; refine c_region ?_; refine w_box rfl (k := fun b2 w2 hb2 hx2 hl2 hs2 => ?_); have hz_hx2 := hx2.size; replace h := h.ext hx2; replace E := E.trans hx2; refine w_box rfl (k := fun b3 w3 hb3 hx3 hl3 hs3 => ?_); have hz_hx3 := hx3.size; replace hb2 := hb2.ext hx3; replace h := h.ext hx3; replace E := E.trans hx3; refine w_pure (y_assign rfl) rfl ?_; refine w_nil ?_; refine x_next ?_; refine c_seq ?_; refine c_block ?_; refine c_seq ?_; refine c_region ?_; refine w_pure (y_load_boxs rfl) rfl ?_; refine w_val rfl rfl rfl (iValidCard_c) rfl (fun w7 hx7 hz7 => ?_); have hz_hx7 := hx7.size; replace hb3 := hb3.ext hx7; replace hb2 := hb2.ext hx7; replace h := h.ext hx7; replace E := E.trans hx7; refine w_pure (y_not rfl) rfl ?_; refine w_pure (y_assign rfl) rfl ?_; refine w_nil ?_; refine x_next ?_; (refine c_not rfl (fun hc5 => ?_) (fun hc5 => ?_) <;> try (first | exact absurd rfl hc5 | contradiction | exact Bool.noConfusion (show false = true from hc5.symm.trans (by assumption)) | exact Bool.noConfusion (show true = false from hc5.symm.trans (by assumption)) | (exfalso; omega) | (exfalso; simp only [*, Bool.not_true, Bool.not_false, reduceCtorEq] at hc5; done))); refine c_seq ?_; refine c_region_held mixed (fun wr3 hxr3 hzr3 => ?_); have hz_hxr3 := hxr3.size; replace hb3 := hb3.ext hxr3; replace hb2 := hb2.ext hxr3; replace h := h.ext hxr3; replace E := E.trans hxr3; refine h_pure rfl (y_load_boxs rfl) rfl ?_; refine h_pure rfl (y_load_boxs rfl) rfl ?_; refine h_one rfl ?_; refine w_val rfl rfl rfl (columns_c) rfl (fun w12 hx12 hz12 => ?_); have hz_hx12 := hx12.size; replace hb3 := hb3.ext hx12; replace hb2 := hb2.ext hx12; replace h := h.ext hx12; replace E := E.trans hx12; refine w_nil ?_; refine x_held ?_; refine h_one rfl ?_; refine w_val rfl rfl rfl (isField_c _ _ _) rfl (fun w13 hx13 hz13 => ?_); have hz_hx13 := hx13.size; replace hb3 := hb3.ext hx13; replace hb2 := hb2.ext hx13; replace h := h.ext hx13; replace E := E.trans hx13; refine w_nil ?_; refine x_held ?_; refine h_pure rfl (y_not_dec rfl) rfl ?_; refine h_pure rfl (y_assign rfl) rfl ?_; refine h_nil ?_; refine x_next ?_; (refine c_dec rfl (fun hc9 => ?_) (fun hc9 => ?_) <;> try (first | exact absurd rfl hc9 | contradiction | exact Bool.noConfusion (show false = true from hc9.symm.trans (by assumption)) | exact Bool.noConfusion (show true = false from hc9.symm.trans (by assumption)) | (exfalso; omega) | (exfalso; simp only [*, Bool.not_true, Bool.not_false, reduceCtorEq] at hc9; done))); refine c_seq ?_; refine c_region ?_; refine w_pure (y_assign rfl) rfl ?_; refine w_nil ?_; refine x_next ?_; refine c_ret ?_; refine x_block_ret ?_; refine x_then_ret ?_; rotate_left; refine c_skip ?_; refine x_block_norm ?_; refine x_next ?_; refine c_seq ?_; refine c_region ?_; refine w_pure (y_assign rfl) rfl ?_; refine w_nil ?_; refine x_next ?_; refine c_ret ?_; rotate_left
  all_goals first | exact x_retv [_] rfl ⟨rfl, trivial⟩ ⟨rfl, E.go⟩ | (exfalso; simp only [fldB, decide_eq_true_eq] at hf; simp at *; omega) | (exfalso; simp_all; done)
theorem NumberIn_z (f t : Int) (h : SL w lo hi v xs := by repeat (first | assumption | exact Go.Gw.Own.sl (by assumption) | exact Go.Gw.Box.at (by assumption) | exact Go.Gw.SLL.el (by first | assumption | exact Go.Gw.OwnD.sll (by assumption)) _ (by omega) | exact Go.Gw.SLL.at (by first | assumption | exact Go.Gw.OwnD.sll (by assumption)) (by omega) | exact Go.Gw.OwnD.sll (by assumption) | (apply Go.Gw.SL.chg; case hx => assumption) | (apply Go.Gw.Own.chg; case hx => assumption) | (apply Go.Gw.Box.chg; case hx => assumption) | (apply Go.Gw.At.chg; case hx => assumption) | exact .inl (Nat.zero_le _) | exact .inr (Nat.zero_le _) | (show _ ∨ _; omega))) (hk : okK xs = true := by assumption) (hf : fldB f t xs.length = true := by assumption) (h12 : t - f ≤ 12 := by omega) (hn : (numL (prt xs f t)).2 = true := by assumption) : Val Tryz.prog 47 [.agg #[v], .agg #[.int .i64 f, .int .i64 t]] w (.tuple #[.int .i64 (numL (prt xs f t)).1, .int .i64 0]) := by
  refine ⟨fun w1 hx1 => ?_⟩
  replace h := h.ext hx1
  have E : Since 0 0 w1 w1 := Since.refl 0 0 w1
  have hfb : 0 ≤ f ∧ f < t ∧ t ≤ xs.length := by simpa [fldB] using hf
  refine ret_enter Tryz.func47 rfl Tryz.ntmps47 rfl ?_
  focus have ht_h := h.top; refine c_seq ?_; refine c_region ?_; refine w_box rfl (k := fun b2 w2 hb2 hx2 hl2 hs2 => ?_); have hz_hx2 := hx2.size; replace h := h.ext hx2; replace E := E.trans hx2; refine w_box rfl (k := fun b3 w3 hb3 hx3 hl3 hs3 => ?_); have hz_hx3 := hx3.size; replace hb2 := hb2.ext hx3; replace h := h.ext hx3; replace E := E.trans hx3; refine w_pure (y_assign rfl) rfl ?_; refine w_pure (y_assign rfl) rfl ?_; refine w_nil ?_; refine x_next ?_; refine c_seq ?_; refine c_region ?_; refine w_pure (y_load_boxs rfl) rfl ?_; refine w_pure (y_load_boxs rfl) rfl ?_; refine w_val rfl rfl rfl (fieldCode_z _ _) rfl (fun w11 hx11 hz11 => ?_); have hz_hx11 := hx11.size; replace hb3 := hb3.ext hx11; replace hb2 := hb2.ext hx11; replace h := h.ext hx11; replace E := E.trans hx11; refine w_pure (y_assign rfl) rfl ?_; refine w_nil ?_; refine x_next ?_; refine c_seq ?_; refine c_block ?_; refine c_seq ?_; refine c_region ?_; refine w_pure (y_move rfl) rfl ?_; refine w_pure (y_ne rfl rfl) rfl ?_; refine w_pure (y_assign rfl) rfl ?_; refine w_nil ?_; refine x_next ?_; refine c_false rfl ?_; refine c_seq ?_; refine c_region ?_; refine w_pure (y_field rfl) rfl ?_; refine w_pure (y_load_box rfl) rfl ?_; refine w_pure (y_field rfl) rfl ?_; refine w_pure (y_load_box rfl) rfl ?_; refine w_pure (y_sub rfl rfl) rfl ?_; refine w_pure (y_gt rfl rfl) rfl ?_; refine w_pure (y_assign rfl) rfl ?_; refine w_nil ?_; refine x_next ?_; (refine c_dec rfl (fun hc16 => ?_) (fun hc16 => ?_) <;> try (first | exact absurd rfl hc16 | contradiction | exact Bool.noConfusion (show false = true from hc16.symm.trans (by assumption)) | exact Bool.noConfusion (show true = false from hc16.symm.trans (by assumption)) | (exfalso; omega) | (exfalso; simp only [*, Bool.not_true, Bool.not_false, reduceCtorEq] at hc16; done))); refine c_skip ?_; refine x_block_norm ?_; refine x_next ?_; refine c_seq ?_; refine c_region ?_; refine w_pure (y_load_boxs rfl) rfl ?_; refine w_pure (y_load_boxs rfl) rfl ?_; refine w_val rfl rfl rfl (numberIn_c _ _) rfl (fun w26 hx26 hz26 => ?_); have hz_hx26 := hx26.size; replace hb3 := hb3.ext hx26; replace hb2 := hb2.ext hx26; replace h := h.ext hx26; replace E := E.trans hx26; refine w_pure (y_move rfl) rfl ?_; refine w_pure (y_extract rfl rfl) rfl ?_; refine w_pure (y_extract rfl rfl) rfl ?_; refine w_pure (y_assign rfl) rfl ?_; refine w_pure (y_assign rfl) rfl ?_; refine w_nil ?_; refine x_next ?_; refine c_seq ?_; refine c_seq ?_; refine c_region ?_; refine w_pure (y_move rfl) rfl ?_; refine w_pure (y_not rfl) rfl ?_; refine w_nil ?_; refine x_next ?_; (refine c_not rfl (fun hc30 => ?_) (fun hc30 => ?_) <;> try (first | exact absurd rfl hc30 | contradiction | exact Bool.noConfusion (show false = true from hc30.symm.trans (by assumption)) | exact Bool.noConfusion (show true = false from hc30.symm.trans (by assumption)) | (exfalso; omega) | (exfalso; simp only [*, Bool.not_true, Bool.not_false, reduceCtorEq] at hc30; done))); refine c_skip ?_; refine x_next ?_; refine c_seq ?_; refine c_region ?_; refine w_pure (y_move rfl) rfl ?_; refine w_pure (y_assign rfl) rfl ?_; refine w_pure (y_assign rfl) rfl ?_; refine w_nil ?_; refine x_next ?_; refine c_ret ?_; rotate_left
  all_goals first | exact x_retv [_, _] rfl ⟨rfl, rfl, trivial⟩ ⟨rfl, E.go⟩ | (exfalso; simp_all)
theorem Overlay_z (h : SL w lo hi v xs := by repeat (first | assumption | exact Go.Gw.Own.sl (by assumption) | exact Go.Gw.Box.at (by assumption) | exact Go.Gw.SLL.el (by first | assumption | exact Go.Gw.OwnD.sll (by assumption)) _ (by omega) | exact Go.Gw.SLL.at (by first | assumption | exact Go.Gw.OwnD.sll (by assumption)) (by omega) | exact Go.Gw.OwnD.sll (by assumption) | (apply Go.Gw.SL.chg; case hx => assumption) | (apply Go.Gw.Own.chg; case hx => assumption) | (apply Go.Gw.Box.chg; case hx => assumption) | (apply Go.Gw.At.chg; case hx => assumption) | exact .inl (Nat.zero_le _) | exact .inr (Nat.zero_le _) | (show _ ∨ _; omega))) (h' : SL w lo' hi' v' ys := by repeat (first | assumption | exact Go.Gw.Own.sl (by assumption) | exact Go.Gw.Box.at (by assumption) | exact Go.Gw.SLL.el (by first | assumption | exact Go.Gw.OwnD.sll (by assumption)) _ (by omega) | exact Go.Gw.SLL.at (by first | assumption | exact Go.Gw.OwnD.sll (by assumption)) (by omega) | exact Go.Gw.OwnD.sll (by assumption) | (apply Go.Gw.SL.chg; case hx => assumption) | (apply Go.Gw.Own.chg; case hx => assumption) | (apply Go.Gw.Box.chg; case hx => assumption) | (apply Go.Gw.At.chg; case hx => assumption) | exact .inl (Nat.zero_le _) | exact .inr (Nat.zero_le _) | (show _ ∨ _; omega))) (hk : okK xs = true := by assumption) (hk' : okK ys = true := by assumption) (hl : xs.length = ys.length := by omega) : Ret Tryz.prog 46 [.agg #[v], .agg #[v']] w fun u w' => ∃ d, u = .tuple #[.agg #[d], .int .i64 0] ∧ Own w' 2 w.heap.size d (ovlF ys xs xs.length) ∧ Ext w w' := by
  have hxl := okK_len hk
  have hyl := okK_len hk'
  have E : Since 0 0 w w := Since.refl 0 0 w
  refine ret_enter Tryz.func46 rfl Tryz.ntmps46 rfl ?_
  focus have ht_h := h.top; have ht_h' := h'.top; refine c_seq ?_; refine c_region ?_; refine w_box rfl (k := fun b2 w2 hb2 hx2 hl2 hs2 => ?_); have hz_hx2 := hx2.size; replace h := h.ext hx2; replace h' := h'.ext hx2; replace E := E.trans hx2; refine w_box rfl (k := fun b3 w3 hb3 hx3 hl3 hs3 => ?_); have hz_hx3 := hx3.size; replace hb2 := hb2.ext hx3; replace h := h.ext hx3; replace h' := h'.ext hx3; replace E := E.trans hx3; refine w_alloc (k := fun b4 w4 hb4 hx4 hl4 hs4 => ?_); have hz_hx4 := hx4.size; replace hb3 := hb3.ext hx4; replace hb2 := hb2.ext hx4; replace h := h.ext hx4; replace h' := h'.ext hx4; replace E := E.trans hx4; refine w_pure (y_assign rfl) rfl ?_; refine w_nil ?_; refine x_next ?_; refine c_seq ?_; refine c_block ?_; refine c_seq ?_; refine c_region ?_; refine w_pure (y_load_boxs rfl) rfl ?_; refine w_val rfl rfl rfl (iValidCard_c) rfl (fun w11 hx11 hz11 => ?_); have hz_hx11 := hx11.size; replace hb4 := hb4.ext hx11; replace hb3 := hb3.ext hx11; replace hb2 := hb2.ext hx11; replace h := h.ext hx11; replace h' := h'.ext hx11; replace E := E.trans hx11; refine w_pure (y_not rfl) rfl ?_; refine w_pure (y_move rfl) rfl ?_; (refine w_part rfl rfl (fun hc14 => ?_) (fun hc14 => ?_) <;> try (first | exact absurd rfl hc14 | contradiction | exact Bool.noConfusion (show false = true from hc14.symm.trans (by assumption)) | exact Bool.noConfusion (show true = false from hc14.symm.trans (by assumption)) | (exfalso; omega) | (exfalso; simp only [*, Bool.not_true, Bool.not_false, reduceCtorEq] at hc14; done))); refine w_yes rfl rfl ?_; refine w_pure (y_load_boxs rfl) rfl ?_; refine w_yes rfl rfl ?_; refine w_val rfl rfl rfl (iValidCard_c) rfl (fun w15 hx15 hz15 => ?_); have hz_hx15 := hx15.size; replace hb4 := hb4.ext hx15; replace hb3 := hb3.ext hx15; replace hb2 := hb2.ext hx15; replace h := h.ext hx15; replace h' := h'.ext hx15; replace E := E.trans hx15; refine w_yes rfl rfl ?_; refine w_pure (y_not rfl) rfl ?_; refine w_pure (y_pick_f rfl rfl) rfl ?_; refine w_pure (y_assign rfl) rfl ?_; refine w_nil ?_; refine x_next ?_; (refine c_not rfl (fun hc9 => ?_) (fun hc9 => ?_) <;> try (first | exact absurd rfl hc9 | contradiction | exact Bool.noConfusion (show false = true from hc9.symm.trans (by assumption)) | exact Bool.noConfusion (show true = false from hc9.symm.trans (by assumption)) | (exfalso; omega) | (exfalso; simp only [*, Bool.not_true, Bool.not_false, reduceCtorEq] at hc9; done))); refine c_seq ?_; refine c_region_held mixed (fun wr3 hxr3 hzr3 => ?_); have hz_hxr3 := hxr3.size; replace hb4 := hb4.ext hxr3; replace hb3 := hb3.ext hxr3; replace hb2 := hb2.ext hxr3; replace h := h.ext hxr3; replace h' := h'.ext hxr3; replace E := E.trans hxr3; refine h_pure rfl (y_load_boxs rfl) rfl ?_; refine h_turn ?_; refine h_pure rfl (y_load_boxs rfl) rfl ?_; refine h_turn ?_; refine h_turn ?_; refine h_turn ?_; refine h_one rfl ?_; refine w_val rfl rfl rfl (columns_c) rfl (fun w21 hx21 hz21 => ?_); have hz_hx21 := hx21.size; replace hb4 := hb4.ext hx21; replace hb3 := hb3.ext hx21; replace hb2 := hb2.ext hx21; replace h := h.ext hx21; replace h' := h'.ext hx21; replace E := E.trans hx21; refine w_nil ?_; refine x_held ?_; refine h_one rfl ?_; refine w_val rfl rfl rfl (columns_c) rfl (fun w23 hx23 hz23 => ?_); have hz_hx23 := hx23.size; replace hb4 := hb4.ext hx23; replace hb3 := hb3.ext hx23; replace hb2 := hb2.ext hx23; replace h := h.ext hx23; replace h' := h'.ext hx23; replace E := E.trans hx23; refine w_nil ?_; refine x_held ?_; refine h_pure rfl (y_ne rfl rfl) rfl ?_; refine h_pure rfl (y_assign rfl) rfl ?_; refine h_nil ?_; refine x_next ?_; (refine c_dec rfl (fun hc19 => ?_) (fun hc19 => ?_) <;> try (first | exact absurd rfl hc19 | contradiction | exact Bool.noConfusion (show false = true from hc19.symm.trans (by assumption)) | exact Bool.noConfusion (show true = false from hc19.symm.trans (by assumption)) | (exfalso; omega) | (exfalso; simp only [*, Bool.not_true, Bool.not_false, reduceCtorEq] at hc19; done))); refine c_skip ?_; refine x_block_norm ?_; refine x_next ?_; refine c_seq ?_; refine c_region ?_; refine w_pure (y_load_boxs rfl) rfl ?_; (refine w_call rfl rfl rfl (newCard_c) rfl ?_; rintro _ w27 ⟨d27, ⟨rfl, ⟨hp1_27, hx27⟩⟩⟩); have hl_hp1_27 := hp1_27.lt; have hz_hx27 := hx27.size; replace hb4 := hb4.ext hx27; replace hb3 := hb3.ext hx27; replace hb2 := hb2.ext hx27; replace h := h.ext hx27; replace h' := h'.ext hx27; replace E := E.trans hx27; refine w_alloc (k := fun b6 w6 hb6 hx6 hl6 hs6 => ?_); have hz_hx6 := hx6.size; replace hp1_27 := hp1_27.ext hx6; replace hb4 := hb4.ext hx6; replace hb3 := hb3.ext hx6; replace hb2 := hb2.ext hx6; replace h := h.ext hx6; replace h' := h'.ext hx6; replace E := E.trans hx6; refine w_store_boxs rfl rfl (next := fun ws58 hbs58 hxs58 hss58 => ?_); (replace hb6 := hbs58; clear hbs58); have hz_hxs58 := hxs58.size; replace hp1_27 := hp1_27.chg hxs58 (by omega); replace hb4 := hb4.chg hxs58 (by omega); replace hb3 := hb3.chg hxs58 (by omega); replace hb2 := hb2.chg hxs58 (by omega); replace h := h.chg hxs58 (by omega); replace h' := h'.chg hxs58 (by omega); replace E := E.next hxs58 (by omega); refine w_nil ?_; refine x_next ?_; refine c_seq ?_; refine c_seq ?_; refine c_region ?_; refine w_pure (y_field rfl) rfl ?_; refine w_pure (y_load_box rfl) rfl ?_; refine w_pure (y_len rfl) rfl ?_; refine w_pure (y_move rfl) rfl ?_; refine w_nil ?_; refine x_next ?_; refine c_block ?_; rotate_left
  all_goals first | (exfalso; simp_all; done) | skip
  refine c_loopC (bL d27) (bH d27) (ι := Int) (fun x => [(4, ptr b4 0), (6, ptr b6 0), (29, v'), (30, .int .i64 ys.length), (31, .int .i64 x)])
    (fun x w' => Own w' 2 w.heap.size d27 (ovlF ys xs x.toNat) ∧ (0 ≤ x ∧ x ≤ ys.length) ∧ Since 0 0 w w') (fun x => (ys.length - x).toNat) 0
    (by repeat (first | exact trivial | refine ⟨rfl, ?_⟩)) ⟨Own.base (by assumption) (by omega), ⟨by omega, by omega⟩, by assumption⟩ ?_
  clear hp1_27 E
  rintro i wL hxL EL ⟨g1, g2, E⟩
  have hzL := hxL.size
  have hol := ovlF_len ys xs i.toNat
  have e1 : (i + 1).toNat = i.toNat + 1 := by omega
  by_cases hlt : i < ys.length
  · have hA : 0 ≤ (ovlF ys xs i.toNat).getD i.toNat 0 ∧ (ovlF ys xs i.toNat).getD i.toNat 0 ≤ 4095 := by
      rw [ovlF_get, if_neg (by omega)]; exact okK_getD hk _ (by omega)
    have hB := okK_getD hk' i.toNat (by omega)
    focus have hl_g1 := g1.lt; have hz_hxL := hxL.size; replace hb6 := hb6.chg hxL (by omega); replace hb4 := hb4.chg hxL (by omega); replace hb3 := hb3.chg hxL (by omega); replace hb2 := hb2.chg hxL (by omega); replace h := h.chg hxL (by omega); replace h' := h'.chg hxL (by omega); refine c_seq ?_; refine c_region ?_; refine w_pure (y_lt rfl rfl) rfl ?_; refine w_nil ?_; refine x_next ?_; refine c_seq ?_; (refine c_dec rfl (fun hc32 => ?_) (fun hc32 => ?_) <;> try (first | exact absurd rfl hc32 | contradiction | exact Bool.noConfusion (show false = true from hc32.symm.trans (by assumption)) | exact Bool.noConfusion (show true = false from hc32.symm.trans (by assumption)) | (exfalso; omega) | (exfalso; simp only [*, Bool.not_true, Bool.not_false, reduceCtorEq] at hc32; done))); refine c_skip ?_; refine x_next ?_; refine c_seq ?_; refine c_block ?_; refine c_seq ?_; refine c_region ?_; refine w_pure (y_move rfl) rfl ?_; refine w_pure (y_index rfl rfl) rfl ?_; refine w_pure (y_load_int rfl) rfl ?_; refine w_pure (y_assign rfl) rfl ?_; refine w_pure (y_assign rfl) rfl ?_; refine w_nil ?_; refine x_next ?_; refine c_region ?_; refine w_pure (y_field rfl) rfl ?_; refine w_pure (y_load_box rfl) rfl ?_; refine w_pure (y_move rfl) rfl ?_; refine w_pure (y_index rfl rfl) rfl ?_; refine w_pure (y_load_int rfl) rfl ?_; refine w_pure (y_move rfl) rfl ?_; refine w_pure (y_or rfl rfl) rfl ?_; refine w_pure (y_index rfl rfl) rfl ?_; refine w_store_own rfl rfl (next := fun ws30 hos30 hxs30 hss30 => ?_); (replace g1 := hos30; clear hos30); have hz_hxs30 := hxs30.size; replace EL := EL.trans hxs30; replace E := E.next hxs30 (by omega); replace hb6 := hb6.chg hxs30 (by omega); replace hb4 := hb4.chg hxs30 (by omega); replace hb3 := hb3.chg hxs30 (by omega); replace hb2 := hb2.chg hxs30 (by omega); replace h := h.chg hxs30 (by omega); replace h' := h'.chg hxs30 (by omega); refine w_nil ?_; refine x_block_norm ?_; refine x_next ?_; refine c_region ?_; refine w_pure (y_add rfl rfl) rfl ?_; refine w_pure (y_move rfl) rfl ?_; refine w_nil ?_; rotate_left
    exact x_again (i + 1) (by repeat (first | exact trivial | refine ⟨rfl, ?_⟩)) ⟨EL.go, by rw [e1, ovlF]; assumption, ⟨by omega, by omega⟩, by assumption⟩ (by omega)
  · focus have hl_g1 := g1.lt; have hz_hxL := hxL.size; replace hb6 := hb6.chg hxL (by omega); replace hb4 := hb4.chg hxL (by omega); replace hb3 := hb3.chg hxL (by omega); replace hb2 := hb2.chg hxL (by omega); replace h := h.chg hxL (by omega); replace h' := h'.chg hxL (by omega); refine c_seq ?_; refine c_region ?_; refine w_pure (y_lt rfl rfl) rfl ?_; refine w_nil ?_; refine x_next ?_; refine c_seq ?_; (refine c_dec rfl (fun hc32 => ?_) (fun hc32 => ?_) <;> try (first | exact absurd rfl hc32 | contradiction | exact Bool.noConfusion (show false = true from hc32.symm.trans (by assumption)) | exact Bool.noConfusion (show true = false from hc32.symm.trans (by assumption)) | (exfalso; omega) | (exfalso; simp only [*, Bool.not_true, Bool.not_false, reduceCtorEq] at hc32; done))); refine c_exit ?_; refine x_then_exit ?_; refine x_then_exit ?_; refine x_block_hit ?_; refine x_next ?_; refine c_seq ?_; refine c_region ?_; refine w_pure (y_load_boxs rfl) rfl ?_; refine w_store_boxs rfl rfl (next := fun ws16 hbs16 hxs16 hss16 => ?_); (replace hb4 := hbs16; clear hbs16); have hz_hxs16 := hxs16.size; replace g1 := g1.chg hxs16 (by omega); replace E := E.next hxs16 (by omega); replace hb6 := hb6.chg hxs16 (by omega); replace hb3 := hb3.chg hxs16 (by omega); replace hb2 := hb2.chg hxs16 (by omega); replace h := h.chg hxs16 (by omega); replace h' := h'.chg hxs16 (by omega); refine w_pure (y_assign rfl) rfl ?_; refine w_nil ?_; refine x_next ?_; refine c_ret ?_; rotate_left
    exact x_retv [_, _] rfl ⟨⟨_, rfl, run_load_str (Box.at (by assumption)) (by rfl)⟩, rfl, trivial⟩ ⟨_, rfl, by rw [show i.toNat = xs.length by omega] at g1; assumption, E.go⟩
end
end Go.Proofs.YticnemjjjceiaaaGreatDoor
/- RepC -/
namespace Go.Proofs.YticnemjjjceiaaaGreatDoor
open Go Go.Gw
set_option linter.unusedVariables false
set_option linter.unusedSimpArgs false
/-- whether card i has a hole in row 11 of a column -/
def isMst (xss : List (List Int)) (k : Int) (i : Nat) : Prop := ¬ andI ((xss.getD i []).getD k.toNat 0) 2 = 0
instance (xss : List (List Int)) (k : Int) (i : Nat) : Decidable (isMst xss k i) := by unfold isMst; infer_instance
/-- the last master among the first i cards, -1 if there is none -/
def mstF (xss : List (List Int)) (k : Int) : Nat → Int
  | 0 => -1
  | i + 1 => if isMst xss k i then (i : Int) else mstF xss k i
theorem mstF_lt (xss : List (List Int)) (k : Int) : ∀ i, -1 ≤ mstF xss k i ∧ mstF xss k i < i
  | 0 => by simp [mstF]
  | i + 1 => by
    have := mstF_lt xss k i
    simp only [mstF]; split <;> omega
def intAt (xss : List (List Int)) (ps : List (Int × Int)) (k : Int) (i : Nat) : List Int := if isMst xss k i then xss.getD i [] else copyF (xss.getD (mstF xss k i).toNat []) ps (xss.getD i []) ps.length
def intL (xss : List (List Int)) (ps : List (Int × Int)) (k : Int) : List (List Int) := (List.range xss.length).map (intAt xss ps k)
def cInt (xss : List (List Int)) (ps : List (Int × Int)) (k : Int) : Int :=
  if okD xss = true then (if okCp ps (widD xss) (widD xss) = true ∧ 0 ≤ k ∧ k ≤ widD xss - 1 then (if 0 < xss.length ∧ ¬ isMst xss k 0 then 6 else 0) else 2) else 1
def resInt (xss : List (List Int)) (ps : List (Int × Int)) (k : Int) : List (List Int) := if cInt xss ps k = 0 then intL xss ps k else []
theorem cInt_1 {xss : List (List Int)} {ps : List (Int × Int)} {k : Int} (h : okD xss = false) : cInt xss ps k = 1 := by simp [cInt, h]
theorem cInt_2 {xss : List (List Int)} {ps : List (Int × Int)} {k : Int} (h : okD xss = true) (h2 : okCp ps (widD xss) (widD xss) = false ∨ ¬ (0 ≤ k ∧ k ≤ widD xss - 1)) : cInt xss ps k = 2 := by
  rw [cInt, if_pos h, if_neg]
  rintro ⟨h3, h4⟩
  rcases h2 with h2 | h2
  · rw [h2] at h3; cases h3
  · exact h2 h4
theorem cInt_6 {xss : List (List Int)} {ps : List (Int × Int)} {k : Int} (h : okD xss = true) (h2 : okCp ps (widD xss) (widD xss) = true) (h3 : 0 ≤ k ∧ k ≤ widD xss - 1) (h4 : 0 < xss.length) (h5 : ¬ isMst xss k 0) : cInt xss ps k = 6 := by
  rw [cInt, if_pos h, if_pos ⟨h2, h3⟩, if_pos ⟨h4, h5⟩]
theorem cInt_0 {xss : List (List Int)} {ps : List (Int × Int)} {k : Int} (h : okD xss = true) (h2 : okCp ps (widD xss) (widD xss) = true) (h3 : 0 ≤ k ∧ k ≤ widD xss - 1) (h4 : 0 < xss.length → isMst xss k 0) : cInt xss ps k = 0 := by
  rw [cInt, if_pos h, if_pos ⟨h2, h3⟩, if_neg (fun hh => hh.2 (h4 hh.1))]
/-- where there is no master yet the first card is none -/
theorem mst_none {xss : List (List Int)} {k : Int} : ∀ {i : Nat}, mstF xss k i < 0 → 0 < i → ¬ isMst xss k 0
  | 0, _, h0 => by omega
  | 1, h, _ => by
    simp only [mstF] at h
    split at h
    · omega
    · assumption
  | i + 2, h, _ => by
    simp only [mstF] at h
    split at h
    · omega
    · exact mst_none (i := i + 1) (by simp only [mstF]; exact h) (by omega)
theorem intL_len (xss : List (List Int)) (ps : List (Int × Int)) (k : Int) : (intL xss ps k).length = xss.length := by simp [intL]
theorem intL_get {xss : List (List Int)} {ps : List (Int × Int)} {k : Int} {i : Nat} (h : i < xss.length) : (intL xss ps k)[i]? = some (intAt xss ps k i) := by simp [intL, h]
theorem resInt_bd (xss : List (List Int)) (ps : List (Int × Int)) (k : Int) : totD (resInt xss ps k) ≤ 800 ∧ (resInt xss ps k).length ≤ 40 := by
  unfold resInt
  split
  · rename_i h
    cases hk : okD xss
    · rw [cInt_1 hk] at h; cases h
    refine deck_bd hk (intL_len _ _ _) (fun i hi => ?_)
    rw [List.getD_eq_getElem?_getD, intL_get hi]
    simp only [Option.getD_some, intAt]
    split
    · rfl
    · rw [copyF_len]
  · simp [totD, tot]
theorem set_same {α : Type} {d : α} {xs : List α} {i : Nat} : xs.set i (xs.getD i d) = xs := by
  apply List.ext_getElem?
  intro j
  rw [List.getElem?_set]
  split
  · rename_i e
    subst e
    split
    · rename_i h; rw [List.getD_eq_getElem?_getD, List.getElem?_eq_getElem h]; rfl
    · rename_i h; rw [List.getElem?_eq_none (by omega)]
  · rfl
theorem bitOf11_c : Pur Tryz.prog 91 [.int .i64 11] (.int .i64 2) := by
  refine ⟨fun w0 => ?_⟩
  refine ret_enter Tryz.func91 rfl Tryz.ntmps91 rfl ?_
  focus refine c_seq ?_; refine c_region ?_; refine w_pure (y_assign rfl) rfl ?_; refine w_nil ?_; refine x_next ?_; refine c_seq ?_; refine c_block ?_; refine c_seq ?_; refine c_region ?_; refine w_pure (y_move rfl) rfl ?_; refine w_pure (y_eq rfl rfl) rfl ?_; refine w_pure (y_assign rfl) rfl ?_; refine w_nil ?_; refine x_next ?_; refine c_false rfl ?_; refine c_seq ?_; refine c_region ?_; refine w_pure (y_move rfl) rfl ?_; refine w_pure (y_eq rfl rfl) rfl ?_; refine w_pure (y_assign rfl) rfl ?_; refine w_nil ?_; refine x_next ?_; refine c_true rfl ?_; refine c_seq ?_; refine c_region ?_; refine w_pure (y_assign rfl) rfl ?_; refine w_nil ?_; refine x_next ?_; refine c_ret ?_; refine x_block_ret ?_; refine x_then_ret ?_; rotate_left
  exact x_retv [_] rfl ⟨rfl, trivial⟩ ⟨rfl, rfl⟩
section
variable {w : World} {lo hi lo' hi' l2 h2 e b b' o o' lo3 hi3 : Nat} {v v' v2 d vo : Value} {xs ys ms : List Int} {ps : List (Int × Int)} {xss yss : List (List Int)} {svs sus : List SV} {f t : Int}
theorem impl_Interspersed_bad (k : Int) (h : SLL w lo hi svs v xss) (hl : SL w l2 h2 v2 ps) (hn : okD xss = false ∨ (okD xss = true ∧ (okCp ps (widD xss) (widD xss) = false ∨ ¬ (0 ≤ k ∧ k ≤ widD xss - 1)))) : Ret Tryz.prog 37 [v, .int .i64 k, v2] w fun u w' => ∃ d sus, u = .tuple #[d, .int .i64 (cInt xss ps k)] ∧ OwnD w' 26 w.heap.size w'.heap.size sus d (resInt xss ps k) ∧ Ext w w' := by
  have E : Since 0 0 w w := Since.refl 0 0 w
  rcases hn with hk | ⟨hk, hn⟩
  · refine ret_enter Tryz.func37 rfl Tryz.ntmps37 rfl ?_
    focus have ht_h := h.top; have ht_hl := hl.top; refine c_seq ?_; refine c_region ?_; refine w_pure (y_assign rfl) rfl ?_; refine w_pure (y_assign rfl) rfl ?_; refine w_nil ?_; refine x_next ?_; refine c_seq ?_; refine c_block ?_; refine c_seq ?_; refine c_region ?_; refine w_pure (y_move rfl) rfl ?_; refine w_val rfl rfl rfl (iValidDeck_c) rfl (fun w14 hx14 hz14 => ?_); have hz_hx14 := hx14.size; replace h := h.ext hx14; replace hl := hl.ext hx14; replace E := E.trans hx14; refine w_pure (y_not rfl) rfl ?_; refine w_pure (y_assign rfl) rfl ?_; refine w_nil ?_; refine x_next ?_; (refine c_not rfl (fun hc12 => ?_) (fun hc12 => ?_) <;> try (first | exact absurd rfl hc12 | contradiction | exact Bool.noConfusion (show false = true from hc12.symm.trans (by assumption)) | exact Bool.noConfusion (show true = false from hc12.symm.trans (by assumption)) | (exfalso; omega) | (exfalso; simp only [*, Bool.not_true, Bool.not_false, reduceCtorEq] at hc12; done))); refine c_seq ?_; refine c_region ?_; refine w_pure (y_assign rfl) rfl ?_; refine w_pure (y_assign rfl) rfl ?_; refine w_nil ?_; refine x_next ?_; refine c_ret ?_; refine x_block_ret ?_; refine x_then_ret ?_; rotate_left
    exact x_retv [_, _] rfl ⟨rfl, rfl, trivial⟩ ⟨_, [], by rw [cInt_1 hk]; rfl, by unfold resInt; rw [cInt_1 hk, if_neg (by decide)]; exact OwnD.nil _ _ _ _ (Nat.le_refl _), E.go⟩
  · have hc := cInt_2 hk hn
    have hw := widD_bd hk
    rcases hn with hn | hn
    · refine ret_enter Tryz.func37 rfl Tryz.ntmps37 rfl ?_
      focus have ht_h := h.top; have ht_hl := hl.top; refine c_seq ?_; refine c_region ?_; refine w_pure (y_assign rfl) rfl ?_; refine w_pure (y_assign rfl) rfl ?_; refine w_nil ?_; refine x_next ?_; refine c_seq ?_; refine c_block ?_; refine c_seq ?_; refine c_region ?_; refine w_pure (y_move rfl) rfl ?_; refine w_val rfl rfl rfl (iValidDeck_c) rfl (fun w14 hx14 hz14 => ?_); have hz_hx14 := hx14.size; replace h := h.ext hx14; replace hl := hl.ext hx14; replace E := E.trans hx14; refine w_pure (y_not rfl) rfl ?_; refine w_pure (y_assign rfl) rfl ?_; refine w_nil ?_; refine x_next ?_; (refine c_not rfl (fun hc12 => ?_) (fun hc12 => ?_) <;> try (first | exact absurd rfl hc12 | contradiction | exact Bool.noConfusion (show false = true from hc12.symm.trans (by assumption)) | exact Bool.noConfusion (show true = false from hc12.symm.trans (by assumption)) | (exfalso; omega) | (exfalso; simp only [*, Bool.not_true, Bool.not_false, reduceCtorEq] at hc12; done))); refine c_seq ?_; refine c_region ?_; refine w_pure (y_move rfl) rfl ?_; refine w_pure (y_move rfl) rfl ?_; refine w_val rfl rfl rfl (deckColumns_c) rfl (fun w19 hx19 hz19 => ?_); have hz_hx19 := hx19.size; replace h := h.ext hx19; replace hl := hl.ext hx19; replace E := E.trans hx19; refine w_pure (y_move rfl) rfl ?_; refine w_val rfl rfl rfl (deckColumns_c) rfl (fun w21 hx21 hz21 => ?_); have hz_hx21 := hx21.size; replace h := h.ext hx21; replace hl := hl.ext hx21; replace E := E.trans hx21; refine w_val rfl rfl rfl (iValidCopies_c _ _) rfl (fun w22 hx22 hz22 => ?_); have hz_hx22 := hx22.size; replace h := h.ext hx22; replace hl := hl.ext hx22; replace E := E.trans hx22; refine w_pure (y_not rfl) rfl ?_; refine w_pure (y_move rfl) rfl ?_; (refine w_part rfl rfl (fun hc25 => ?_) (fun hc25 => ?_) <;> try (first | exact absurd rfl hc25 | contradiction | exact Bool.noConfusion (show false = true from hc25.symm.trans (by assumption)) | exact Bool.noConfusion (show true = false from hc25.symm.trans (by assumption)) | (exfalso; omega) | (exfalso; simp only [*, Bool.not_true, Bool.not_false, reduceCtorEq] at hc25; done))); refine w_no rfl rfl rfl rfl ?_; refine w_no rfl rfl rfl rfl ?_; refine w_no rfl rfl rfl rfl ?_; refine w_no rfl rfl rfl rfl ?_; refine w_no rfl rfl rfl rfl ?_; refine w_no rfl rfl rfl rfl ?_; refine w_pure (y_pick_t rfl rfl) rfl ?_; refine w_pure (y_assign rfl) rfl ?_; refine w_nil ?_; refine x_next ?_; refine c_true rfl ?_; refine c_seq ?_; refine c_region ?_; refine w_pure (y_assign rfl) rfl ?_; refine w_pure (y_assign rfl) rfl ?_; refine w_nil ?_; refine x_next ?_; refine c_ret ?_; refine x_block_ret ?_; refine x_then_ret ?_; rotate_left
      all_goals exact x_retv [_, _] rfl ⟨rfl, rfl, trivial⟩ ⟨_, [], by rw [hc]; rfl, by unfold resInt; rw [hc, if_neg (by decide)]; exact OwnD.nil _ _ _ _ (Nat.le_refl _), E.go⟩
    · refine ret_enter Tryz.func37 rfl Tryz.ntmps37 rfl ?_
      focus have ht_h := h.top; have ht_hl := hl.top; refine c_seq ?_; refine c_region ?_; refine w_pure (y_assign rfl) rfl ?_; refine w_pure (y_assign rfl) rfl ?_; refine w_nil ?_; refine x_next ?_; refine c_seq ?_; refine c_block ?_; refine c_seq ?_; refine c_region ?_; refine w_pure (y_move rfl) rfl ?_; refine w_val rfl rfl rfl (iValidDeck_c) rfl (fun w14 hx14 hz14 => ?_); have hz_hx14 := hx14.size; replace h := h.ext hx14; replace hl := hl.ext hx14; replace E := E.trans hx14; refine w_pure (y_not rfl) rfl ?_; refine w_pure (y_assign rfl) rfl ?_; refine w_nil ?_; refine x_next ?_; (refine c_not rfl (fun hc12 => ?_) (fun hc12 => ?_) <;> try (first | exact absurd rfl hc12 | contradiction | exact Bool.noConfusion (show false = true from hc12.symm.trans (by assumption)) | exact Bool.noConfusion (show true = false from hc12.symm.trans (by assumption)) | (exfalso; omega) | (exfalso; simp only [*, Bool.not_true, Bool.not_false, reduceCtorEq] at hc12; done))); refine c_seq ?_; refine c_region ?_; refine w_pure (y_move rfl) rfl ?_; refine w_pure (y_move rfl) rfl ?_; refine w_val rfl rfl rfl (deckColumns_c) rfl (fun w19 hx19 hz19 => ?_); have hz_hx19 := hx19.size; replace h := h.ext hx19; replace hl := hl.ext hx19; replace E := E.trans hx19; refine w_pure (y_move rfl) rfl ?_; refine w_val rfl rfl rfl (deckColumns_c) rfl (fun w21 hx21 hz21 => ?_); have hz_hx21 := hx21.size; replace h := h.ext hx21; replace hl := hl.ext hx21; replace E := E.trans hx21; refine w_val rfl rfl rfl (iValidCopies_c _ _) rfl (fun w22 hx22 hz22 => ?_); have hz_hx22 := hx22.size; replace h := h.ext hx22; replace hl := hl.ext hx22; replace E := E.trans hx22; refine w_pure (y_not rfl) rfl ?_; refine w_pure (y_move rfl) rfl ?_; (refine w_part rfl rfl (fun hc25 => ?_) (fun hc25 => ?_) <;> try (first | exact absurd rfl hc25 | contradiction | exact Bool.noConfusion (show false = true from hc25.symm.trans (by assumption)) | exact Bool.noConfusion (show true = false from hc25.symm.trans (by assumption)) | (exfalso; omega) | (exfalso; simp only [*, Bool.not_true, Bool.not_false, reduceCtorEq] at hc25; done))); refine w_no rfl rfl rfl rfl ?_; refine w_no rfl rfl rfl rfl ?_; refine w_no rfl rfl rfl rfl ?_; refine w_no rfl rfl rfl rfl ?_; refine w_no rfl rfl rfl rfl ?_; refine w_no rfl rfl rfl rfl ?_; refine w_pure (y_pick_t rfl rfl) rfl ?_; refine w_pure (y_assign rfl) rfl ?_; refine w_nil ?_; refine x_next ?_; refine c_true rfl ?_; refine c_seq ?_; refine c_region ?_; refine w_pure (y_assign rfl) rfl ?_; refine w_pure (y_assign rfl) rfl ?_; refine w_nil ?_; refine x_next ?_; refine c_ret ?_; refine x_block_ret ?_; refine x_then_ret ?_; rotate_left; refine w_yes rfl rfl ?_; refine w_pure (y_move rfl) rfl ?_; refine w_yes rfl rfl ?_; refine w_pure (y_move rfl) rfl ?_; refine w_yes rfl rfl ?_; refine w_val rfl rfl rfl (deckColumns_c) rfl (fun w27 hx27 hz27 => ?_); have hz_hx27 := hx27.size; replace h := h.ext hx27; replace hl := hl.ext hx27; replace E := E.trans hx27; refine w_yes rfl rfl ?_; refine w_pure (y_sub rfl rfl) rfl ?_; refine w_yes rfl rfl ?_; refine w_pur rfl rfl rfl (inside_c _ _ _) rfl ?_; refine w_yes rfl rfl ?_; refine w_pure (y_not_dec rfl) rfl ?_; refine w_pure (y_pick_f rfl rfl) rfl ?_; refine w_pure (y_assign rfl) rfl ?_; refine w_nil ?_; refine x_next ?_; (refine c_dec rfl (fun hc16 => ?_) (fun hc16 => ?_) <;> try (first | exact absurd rfl hc16 | contradiction | exact Bool.noConfusion (show false = true from hc16.symm.trans (by assumption)) | exact Bool.noConfusion (show true = false from hc16.symm.trans (by assumption)) | (exfalso; omega) | (exfalso; simp only [*, Bool.not_true, Bool.not_false, reduceCtorEq] at hc16; done))); refine c_seq ?_; refine c_region ?_; refine w_pure (y_assign rfl) rfl ?_; refine w_pure (y_assign rfl) rfl ?_; refine w_nil ?_; refine x_next ?_; refine c_ret ?_; refine x_block_ret ?_; refine x_then_ret ?_; rotate_left
      all_goals exact x_retv [_, _] rfl ⟨rfl, rfl, trivial⟩ ⟨_, [], by rw [hc]; rfl, by unfold resInt; rw [hc, if_neg (by decide)]; exact OwnD.nil _ _ _ _ (Nat.le_refl _), E.go⟩
theorem spec_Interspersed_bad (k : Int) (h : SLL w lo hi svs v xss) (hl : SL w l2 h2 v2 ps) (hn : okD xss = false ∨ (okD xss = true ∧ (okCp ps (widD xss) (widD xss) = false ∨ ¬ (0 ≤ k ∧ k ≤ widD xss - 1)))) : Ret Tryz.prog 38 [v, .int .i64 k, v2] w fun u w' => ∃ d sus, u = .tuple #[d, .int .i64 (cInt xss ps k)] ∧ OwnD w' 26 w.heap.size w'.heap.size sus d (resInt xss ps k) ∧ Ext w w' := by
  have E : Since 0 0 w w := Since.refl 0 0 w
  rcases hn with hk | ⟨hk, hn⟩
  · refine ret_enter Tryz.func38 rfl Tryz.ntmps38 rfl ?_
    focus have ht_h := h.top; have ht_hl := hl.top; refine c_seq ?_; refine c_region ?_; refine w_pure (y_assign rfl) rfl ?_; refine w_pure (y_assign rfl) rfl ?_; refine w_nil ?_; refine x_next ?_; refine c_seq ?_; refine c_seq ?_; refine c_region ?_; refine w_pure (y_move rfl) rfl ?_; refine w_val rfl rfl rfl (l02Deck_c) rfl (fun w13 hx13 hz13 => ?_); have hz_hx13 := hx13.size; replace h := h.ext hx13; replace hl := hl.ext hx13; replace E := E.trans hx13; refine w_pure (y_not rfl) rfl ?_; refine w_nil ?_; refine x_next ?_; (refine c_not rfl (fun hc14 => ?_) (fun hc14 => ?_) <;> try (first | exact absurd rfl hc14 | contradiction | exact Bool.noConfusion (show false = true from hc14.symm.trans (by assumption)) | exact Bool.noConfusion (show true = false from hc14.symm.trans (by assumption)) | (exfalso; omega) | (exfalso; simp only [*, Bool.not_true, Bool.not_false, reduceCtorEq] at hc14; done))); refine c_seq ?_; refine c_region ?_; refine w_pure (y_assign rfl) rfl ?_; refine w_pure (y_assign rfl) rfl ?_; refine w_nil ?_; refine x_next ?_; refine c_ret ?_; refine x_then_ret ?_; rotate_left
    exact x_retv [_, _] rfl ⟨rfl, rfl, trivial⟩ ⟨_, [], by rw [cInt_1 hk]; rfl, by unfold resInt; rw [cInt_1 hk, if_neg (by decide)]; exact OwnD.nil _ _ _ _ (Nat.le_refl _), E.go⟩
  · have hc := cInt_2 hk hn
    have hw := widD_bd hk
    rcases hn with hn | hn
    · refine ret_enter Tryz.func38 rfl Tryz.ntmps38 rfl ?_
      focus have ht_h := h.top; have ht_hl := hl.top; refine c_seq ?_; refine c_region ?_; refine w_pure (y_assign rfl) rfl ?_; refine w_pure (y_assign rfl) rfl ?_; refine w_nil ?_; refine x_next ?_; refine c_seq ?_; refine c_seq ?_; refine c_region ?_; refine w_pure (y_move rfl) rfl ?_; refine w_val rfl rfl rfl (l02Deck_c) rfl (fun w13 hx13 hz13 => ?_); have hz_hx13 := hx13.size; replace h := h.ext hx13; replace hl := hl.ext hx13; replace E := E.trans hx13; refine w_pure (y_not rfl) rfl ?_; refine w_nil ?_; refine x_next ?_; (refine c_not rfl (fun hc14 => ?_) (fun hc14 => ?_) <;> try (first | exact absurd rfl hc14 | contradiction | exact Bool.noConfusion (show false = true from hc14.symm.trans (by assumption)) | exact Bool.noConfusion (show true = false from hc14.symm.trans (by assumption)) | (exfalso; omega) | (exfalso; simp only [*, Bool.not_true, Bool.not_false, reduceCtorEq] at hc14; done))); refine c_skip ?_; refine x_next ?_; refine c_seq ?_; refine c_region ?_; refine w_pure (y_move rfl) rfl ?_; refine w_val rfl rfl rfl (l07WidthOf_c) rfl (fun w16 hx16 hz16 => ?_); have hz_hx16 := hx16.size; replace h := h.ext hx16; replace hl := hl.ext hx16; replace E := E.trans hx16; refine w_pure (y_assign rfl) rfl ?_; refine w_nil ?_; refine x_next ?_; refine c_seq ?_; refine c_seq ?_; refine c_region ?_; refine w_pure (y_move rfl) rfl ?_; refine w_pure (y_move rfl) rfl ?_; refine w_pure (y_sub rfl rfl) rfl ?_; refine w_pur rfl rfl rfl (l00In_c _ _ _) rfl ?_; refine w_pure (y_not_dec rfl) rfl ?_; refine w_pure (y_move rfl) rfl ?_; (refine w_part_dec rfl rfl (fun hc23 => ?_) (fun hc23 => ?_) <;> try (first | exact absurd rfl hc23 | contradiction | exact Bool.noConfusion (show false = true from hc23.symm.trans (by assumption)) | exact Bool.noConfusion (show true = false from hc23.symm.trans (by assumption)) | (exfalso; omega) | (exfalso; simp only [*, Bool.not_true, Bool.not_false, reduceCtorEq] at hc23; done))); refine w_no rfl rfl rfl rfl ?_; refine w_no rfl rfl rfl rfl ?_; refine w_no rfl rfl rfl rfl ?_; refine w_no rfl rfl rfl rfl ?_; refine w_no rfl rfl rfl rfl ?_; refine w_pure (y_pick_t rfl rfl) rfl ?_; refine w_nil ?_; refine x_next ?_; refine c_true rfl ?_; refine c_seq ?_; refine c_region ?_; refine w_pure (y_assign rfl) rfl ?_; refine w_pure (y_assign rfl) rfl ?_; refine w_nil ?_; refine x_next ?_; refine c_ret ?_; refine x_then_ret ?_; rotate_left; refine w_yes rfl rfl ?_; refine w_pure (y_move rfl) rfl ?_; refine w_yes rfl rfl ?_; refine w_pure (y_move rfl) rfl ?_; refine w_yes rfl rfl ?_; refine w_pure (y_move rfl) rfl ?_; refine w_yes rfl rfl ?_; refine w_val rfl rfl rfl (sValidCopies_c _ _) rfl (fun w26 hx26 hz26 => ?_); have hz_hx26 := hx26.size; replace h := h.ext hx26; replace hl := hl.ext hx26; replace E := E.trans hx26; refine w_yes rfl rfl ?_; refine w_pure (y_not rfl) rfl ?_; refine w_pure (y_pick_f rfl rfl) rfl ?_; refine w_nil ?_; refine x_next ?_; (refine c_not rfl (fun hc28 => ?_) (fun hc28 => ?_) <;> try (first | exact absurd rfl hc28 | contradiction | exact Bool.noConfusion (show false = true from hc28.symm.trans (by assumption)) | exact Bool.noConfusion (show true = false from hc28.symm.trans (by assumption)) | (exfalso; omega) | (exfalso; simp only [*, Bool.not_true, Bool.not_false, reduceCtorEq] at hc28; done))); refine c_seq ?_; refine c_region ?_; refine w_pure (y_assign rfl) rfl ?_; refine w_pure (y_assign rfl) rfl ?_; refine w_nil ?_; refine x_next ?_; refine c_ret ?_; refine x_then_ret ?_; rotate_left
      all_goals exact x_retv [_, _] rfl ⟨rfl, rfl, trivial⟩ ⟨_, [], by rw [hc]; rfl, by unfold resInt; rw [hc, if_neg (by decide)]; exact OwnD.nil _ _ _ _ (Nat.le_refl _), E.go⟩
    · refine ret_enter Tryz.func38 rfl Tryz.ntmps38 rfl ?_
      focus have ht_h := h.top; have ht_hl := hl.top; refine c_seq ?_; refine c_region ?_; refine w_pure (y_assign rfl) rfl ?_; refine w_pure (y_assign rfl) rfl ?_; refine w_nil ?_; refine x_next ?_; refine c_seq ?_; refine c_seq ?_; refine c_region ?_; refine w_pure (y_move rfl) rfl ?_; refine w_val rfl rfl rfl (l02Deck_c) rfl (fun w13 hx13 hz13 => ?_); have hz_hx13 := hx13.size; replace h := h.ext hx13; replace hl := hl.ext hx13; replace E := E.trans hx13; refine w_pure (y_not rfl) rfl ?_; refine w_nil ?_; refine x_next ?_; (refine c_not rfl (fun hc14 => ?_) (fun hc14 => ?_) <;> try (first | exact absurd rfl hc14 | contradiction | exact Bool.noConfusion (show false = true from hc14.symm.trans (by assumption)) | exact Bool.noConfusion (show true = false from hc14.symm.trans (by assumption)) | (exfalso; omega) | (exfalso; simp only [*, Bool.not_true, Bool.not_false, reduceCtorEq] at hc14; done))); refine c_skip ?_; refine x_next ?_; refine c_seq ?_; refine c_region ?_; refine w_pure (y_move rfl) rfl ?_; refine w_val rfl rfl rfl (l07WidthOf_c) rfl (fun w16 hx16 hz16 => ?_); have hz_hx16 := hx16.size; replace h := h.ext hx16; replace hl := hl.ext hx16; replace E := E.trans hx16; refine w_pure (y_assign rfl) rfl ?_; refine w_nil ?_; refine x_next ?_; refine c_seq ?_; refine c_seq ?_; refine c_region ?_; refine w_pure (y_move rfl) rfl ?_; refine w_pure (y_move rfl) rfl ?_; refine w_pure (y_sub rfl rfl) rfl ?_; refine w_pur rfl rfl rfl (l00In_c _ _ _) rfl ?_; refine w_pure (y_not_dec rfl) rfl ?_; refine w_pure (y_move rfl) rfl ?_; (refine w_part_dec rfl rfl (fun hc23 => ?_) (fun hc23 => ?_) <;> try (first | exact absurd rfl hc23 | contradiction | exact Bool.noConfusion (show false = true from hc23.symm.trans (by assumption)) | exact Bool.noConfusion (show true = false from hc23.symm.trans (by assumption)) | (exfalso; omega) | (exfalso; simp only [*, Bool.not_true, Bool.not_false, reduceCtorEq] at hc23; done))); refine w_no rfl rfl rfl rfl ?_; refine w_no rfl rfl rfl rfl ?_; refine w_no rfl rfl rfl rfl ?_; refine w_no rfl rfl rfl rfl ?_; refine w_no rfl rfl rfl rfl ?_; refine w_pure (y_pick_t rfl rfl) rfl ?_; refine w_nil ?_; refine x_next ?_; refine c_true rfl ?_; refine c_seq ?_; refine c_region ?_; refine w_pure (y_assign rfl) rfl ?_; refine w_pure (y_assign rfl) rfl ?_; refine w_nil ?_; refine x_next ?_; refine c_ret ?_; refine x_then_ret ?_; rotate_left
      all_goals exact x_retv [_, _] rfl ⟨rfl, rfl, trivial⟩ ⟨_, [], by rw [hc]; rfl, by unfold resInt; rw [hc, if_neg (by decide)]; exact OwnD.nil _ _ _ _ (Nat.le_refl _), E.go⟩
set_option maxHeartbeats 4000000 in
theorem iInterspersedGang_c (k : Int) (h : SLL w lo hi svs v xss := by repeat (first | assumption | exact Go.Gw.Own.sl (by assumption) | exact Go.Gw.Box.at (by assumption) | exact Go.Gw.SLL.el (by first | assumption | exact Go.Gw.OwnD.sll (by assumption)) _ (by omega) | exact Go.Gw.SLL.at (by first | assumption | exact Go.Gw.OwnD.sll (by assumption)) (by omega) | exact Go.Gw.OwnD.sll (by assumption) | (apply Go.Gw.SL.chg; case hx => assumption) | (apply Go.Gw.Own.chg; case hx => assumption) | (apply Go.Gw.Box.chg; case hx => assumption) | (apply Go.Gw.At.chg; case hx => assumption) | exact .inl (Nat.zero_le _) | exact .inr (Nat.zero_le _) | (show _ ∨ _; omega))) (hl : SL w l2 h2 v2 ps := by repeat (first | assumption | exact Go.Gw.Own.sl (by assumption) | exact Go.Gw.Box.at (by assumption) | exact Go.Gw.SLL.el (by first | assumption | exact Go.Gw.OwnD.sll (by assumption)) _ (by omega) | exact Go.Gw.SLL.at (by first | assumption | exact Go.Gw.OwnD.sll (by assumption)) (by omega) | exact Go.Gw.OwnD.sll (by assumption) | (apply Go.Gw.SL.chg; case hx => assumption) | (apply Go.Gw.Own.chg; case hx => assumption) | (apply Go.Gw.Box.chg; case hx => assumption) | (apply Go.Gw.At.chg; case hx => assumption) | exact .inl (Nat.zero_le _) | exact .inr (Nat.zero_le _) | (show _ ∨ _; omega))) (hk64 : In64 k := by assumption) : Ret Tryz.prog 37 [v, .int .i64 k, v2] w fun u w' => ∃ d sus, u = .tuple #[d, .int .i64 (cInt xss ps k)] ∧ OwnD w' 26 w.heap.size w'.heap.size sus d (resInt xss ps k) ∧ Ext w w' := by
  cases hk : okD xss
  · exact impl_Interspersed_bad k h hl (.inl hk)
  cases hk2 : okCp ps (widD xss) (widD xss)
  · exact impl_Interspersed_bad k h hl (.inr ⟨hk, .inl hk2⟩)
  by_cases hk3 : 0 ≤ k ∧ k ≤ widD xss - 1
  case neg => exact impl_Interspersed_bad k h hl (.inr ⟨hk, .inr hk3⟩)
  have hb := okCp_bd hk2
  have hb2 := okD_len hk
  have hil := intL_len xss ps k
  have E : Since 0 0 w w := Since.refl 0 0 w
  refine ret_enter Tryz.func37 rfl Tryz.ntmps37 rfl ?_
  focus have ht_h := h.top; have ht_hl := hl.top; refine c_seq ?_; refine c_region ?_; refine w_pure (y_assign rfl) rfl ?_; refine w_pure (y_assign rfl) rfl ?_; refine w_nil ?_; refine x_next ?_; refine c_seq ?_; refine c_block ?_; refine c_seq ?_; refine c_region ?_; refine w_pure (y_move rfl) rfl ?_; refine w_val rfl rfl rfl (iValidDeck_c) rfl (fun w14 hx14 hz14 => ?_); have hz_hx14 := hx14.size; replace h := h.ext hx14; replace hl := hl.ext hx14; replace E := E.trans hx14; refine w_pure (y_not rfl) rfl ?_; refine w_pure (y_assign rfl) rfl ?_; refine w_nil ?_; refine x_next ?_; (refine c_not rfl (fun hc12 => ?_) (fun hc12 => ?_) <;> try (first | exact absurd rfl hc12 | contradiction | exact Bool.noConfusion (show false = true from hc12.symm.trans (by assumption)) | exact Bool.noConfusion (show true = false from hc12.symm.trans (by assumption)) | (exfalso; omega) | (exfalso; simp only [*, Bool.not_true, Bool.not_false, reduceCtorEq] at hc12; done))); refine c_seq ?_; refine c_region ?_; refine w_pure (y_move rfl) rfl ?_; refine w_pure (y_move rfl) rfl ?_; refine w_val rfl rfl rfl (deckColumns_c) rfl (fun w19 hx19 hz19 => ?_); have hz_hx19 := hx19.size; replace h := h.ext hx19; replace hl := hl.ext hx19; replace E := E.trans hx19; refine w_pure (y_move rfl) rfl ?_; refine w_val rfl rfl rfl (deckColumns_c) rfl (fun w21 hx21 hz21 => ?_); have hz_hx21 := hx21.size; replace h := h.ext hx21; replace hl := hl.ext hx21; replace E := E.trans hx21; refine w_val rfl rfl rfl (iValidCopies_c _ _) rfl (fun w22 hx22 hz22 => ?_); have hz_hx22 := hx22.size; replace h := h.ext hx22; replace hl := hl.ext hx22; replace E := E.trans hx22; refine w_pure (y_not rfl) rfl ?_; refine w_pure (y_move rfl) rfl ?_; (refine w_part rfl rfl (fun hc25 => ?_) (fun hc25 => ?_) <;> try (first | exact absurd rfl hc25 | contradiction | exact Bool.noConfusion (show false = true from hc25.symm.trans (by assumption)) | exact Bool.noConfusion (show true = false from hc25.symm.trans (by assumption)) | (exfalso; omega) | (exfalso; simp only [*, Bool.not_true, Bool.not_false, reduceCtorEq] at hc25; done))); refine w_yes rfl rfl ?_; refine w_pure (y_move rfl) rfl ?_; refine w_yes rfl rfl ?_; refine w_pure (y_move rfl) rfl ?_; refine w_yes rfl rfl ?_; refine w_val rfl rfl rfl (deckColumns_c) rfl (fun w27 hx27 hz27 => ?_); have hz_hx27 := hx27.size; replace h := h.ext hx27; replace hl := hl.ext hx27; replace E := E.trans hx27; refine w_yes rfl rfl ?_; refine w_pure (y_sub rfl rfl) rfl ?_; refine w_yes rfl rfl ?_; refine w_pur rfl rfl rfl (inside_c _ _ _) rfl ?_; refine w_yes rfl rfl ?_; refine w_pure (y_not_dec rfl) rfl ?_; refine w_pure (y_pick_f rfl rfl) rfl ?_; refine w_pure (y_assign rfl) rfl ?_; refine w_nil ?_; refine x_next ?_; (refine c_dec rfl (fun hc16 => ?_) (fun hc16 => ?_) <;> try (first | exact absurd rfl hc16 | contradiction | exact Bool.noConfusion (show false = true from hc16.symm.trans (by assumption)) | exact Bool.noConfusion (show true = false from hc16.symm.trans (by assumption)) | (exfalso; omega) | (exfalso; simp only [*, Bool.not_true, Bool.not_false, reduceCtorEq] at hc16; done))); refine c_skip ?_; refine x_block_norm ?_; refine x_next ?_; refine c_seq ?_; refine c_region ?_; refine w_lit_d0 rfl (k := fun v32 w32 ho32 hx32 hl32 hh32 hs32 => ?_); have hl_ho32 := ho32.lt; have hz_hx32 := hx32.size; replace h := h.ext hx32; replace hl := hl.ext hx32; replace E := E.trans hx32; refine w_pure (y_assign rfl) rfl ?_; refine w_pure (y_assign rfl) rfl ?_; refine w_nil ?_; refine x_next ?_; refine c_seq ?_; refine c_seq ?_; refine c_region ?_; refine w_pure (y_move rfl) rfl ?_; refine w_pure (y_lend rfl) rfl ?_; refine w_pure (y_move rfl) rfl ?_; refine w_nil ?_; refine x_next ?_; refine c_block ?_; rotate_left
  refine c_loopC (bL v32) (bH v32) (ι := Int × Value × List SV) (fun x => [(0, v), (1, .int .i64 k), (2, v2), (8, x.2.1), (9, .int .i64 (mstF xss k x.1.toNat)), (33, v), (34, .int .i64 xss.length), (35, .int .i64 x.1)])
    (fun x w' => SLL w' lo hi svs v xss ∧ SL w' l2 h2 v2 ps ∧ OwnD w' 26 w.heap.size w'.heap.size x.2.2 x.2.1 ((intL xss ps k).take x.1.toNat) ∧ ((bL x.2.1 = bL v32 ∧ bH x.2.1 = bH v32) ∨ w32.heap.size ≤ bL x.2.1) ∧ 0 ≤ x.1 ∧ x.1 ≤ xss.length ∧ (0 < x.1 → isMst xss k 0)) (fun x => (xss.length - x.1).toNat) (0, v32, [])
    (by repeat (first | exact trivial | refine ⟨rfl, ?_⟩)) ⟨by assumption, by assumption, OwnD.wide (ho32.low (by omega)) (by omega) (Nat.le_refl _), .inl ⟨rfl, rfl⟩, by omega, by omega, fun h => by omega⟩ ?_
  clear ho32
  rintro ⟨i, u, sus⟩ wL hxL EL ⟨g1, g2, g3, g4, hi0, hi1, h0m⟩
  dsimp only at *
  have hml : i ≤ xss.length → ((intL xss ps k).take i.toNat).length = i.toNat := fun hh => by simp [hil]; omega
  have hrg : ∀ j : Nat, j < xss.length → Rng (xss.getD j []) := fun j hh => rng_of (okD_at hk _ hh).1
  have hwd : ∀ j : Nat, j < xss.length → ((xss.getD j []).length : Int) = widD xss := fun j hh => widD_at hk _ hh
  have e1 : (i + 1).toNat = i.toNat + 1 := by omega
  have hwi : i < xss.length → ((xss.getD i.toNat []).length : Int) = widD xss := fun hh => hwd _ (by omega)
  have hvi : i < xss.length → 0 ≤ (xss.getD i.toNat []).getD k.toNat 0 ∧ (xss.getD i.toNat []).getD k.toNat 0 ≤ 4095 := fun hh => hrg _ (by omega) _ (by have := hwi hh; omega)
  have hms := mstF_lt xss k i.toNat
  have emY : isMst xss k i.toNat → mstF xss k (i + 1).toNat = i := fun h => by rw [e1, mstF, if_pos h]; omega
  have emN : ¬ isMst xss k i.toNat → mstF xss k (i + 1).toNat = mstF xss k i.toNat := fun h => by rw [e1, mstF, if_neg h]
  have hno : i < xss.length → ¬ isMst xss k i.toNat → mstF xss k i.toNat < 0 → cInt xss ps k = 6 := fun hh h1 h2 => cInt_6 hk hk2 hk3 (by omega) (by
    rcases Nat.eq_zero_or_pos i.toNat with h0 | h0
    · rw [h0] at h1; exact h1
    · exact mst_none h2 h0)
  focus have ht_g1 := g1.top; have ht_g2 := g2.top; have hl_g3 := g3.lt; have hz_hxL := hxL.size; replace h := h.chg hxL (by omega); replace hl := hl.chg hxL (by omega); replace E := E.next hxL (by omega); refine c_seq ?_; refine c_region ?_; refine w_pure (y_lt rfl rfl) rfl ?_; refine w_nil ?_; refine x_next ?_; refine c_seq ?_; (refine c_dec rfl (fun hc36 => ?_) (fun hc36 => ?_) <;> try (first | exact absurd rfl hc36 | contradiction | exact Bool.noConfusion (show false = true from hc36.symm.trans (by assumption)) | exact Bool.noConfusion (show true = false from hc36.symm.trans (by assumption)) | (exfalso; omega) | (exfalso; simp only [*, Bool.not_true, Bool.not_false, reduceCtorEq] at hc36; done))); refine c_skip ?_; refine x_next ?_; refine c_seq ?_; refine c_block ?_; refine c_seq ?_; refine c_region ?_; refine w_pure (y_move rfl) rfl ?_; refine w_pure (y_indexd rfl rfl) rfl ?_; refine w_pure (y_loads rfl) rfl ?_; refine w_alloc (k := fun b11 w11 hb11 hx11 hl11 hs11 => ?_); have hz_hx11 := hx11.size; replace EL := EL.next hx11 (by omega); replace g1 := g1.ext hx11; replace g2 := g2.ext hx11; replace g3 := g3.ext hx11; replace h := h.ext hx11; replace hl := hl.ext hx11; replace E := E.trans hx11; refine w_pure (y_assign rfl) rfl ?_; refine w_store_boxs rfl rfl (next := fun ws19 hbs19 hxs19 hss19 => ?_); (replace hb11 := hbs19; clear hbs19); have hz_hxs19 := hxs19.size; replace EL := EL.next hxs19 (by omega); replace g1 := g1.chg hxs19 (by omega); replace g2 := g2.chg hxs19 (by omega); replace g3 := g3.chg hxs19 (by omega); replace h := h.chg hxs19 (by omega); replace hl := hl.chg hxs19 (by omega); replace E := E.next hxs19 (by omega); refine w_nil ?_; refine x_next ?_; refine c_block ?_; refine c_seq ?_; refine c_region_held mixed (fun wr10 hxr10 hzr10 => ?_); have hz_hxr10 := hxr10.size; replace hb11 := hb11.ext hxr10; replace EL := EL.next hxr10 (by omega); replace g1 := g1.ext hxr10; replace g2 := g2.ext hxr10; replace g3 := g3.ext hxr10; replace h := h.ext hxr10; replace hl := hl.ext hxr10; replace E := E.trans hxr10; refine h_pure rfl (y_field rfl) rfl ?_; refine h_pure rfl (y_load_box rfl) rfl ?_; refine h_pure rfl (y_move rfl) rfl ?_; refine h_pure rfl (y_index rfl rfl) rfl ?_; refine h_pure rfl (y_load_int rfl) rfl ?_; refine h_one rfl ?_; refine w_pur rfl rfl rfl (bitOf11_c) rfl ?_; refine w_nil ?_; refine x_held ?_; refine h_pure rfl (y_and rfl rfl) rfl ?_; refine h_pure rfl (y_ne rfl rfl) rfl ?_; refine h_pure rfl (y_assign rfl) rfl ?_; refine h_nil ?_; refine x_next ?_; (refine c_dec rfl (fun hc50 => ?_) (fun hc50 => ?_) <;> try (first | exact absurd rfl hc50 | contradiction | exact Bool.noConfusion (show false = true from hc50.symm.trans (by assumption)) | exact Bool.noConfusion (show true = false from hc50.symm.trans (by assumption)) | (exfalso; omega) | (exfalso; simp only [*, Bool.not_true, Bool.not_false, reduceCtorEq] at hc50; done))); refine c_seq ?_; refine c_region ?_; refine w_pure (y_move rfl) rfl ?_; refine w_pure (y_assign rfl) rfl ?_; refine w_nil ?_; refine x_next ?_; refine c_region ?_; refine w_pure (y_move rfl) rfl ?_; refine w_pure (y_load_boxs rfl) rfl ?_; (refine w_call rfl rfl rfl (newCard_c) rfl ?_; rintro _ w62 ⟨d62, ⟨rfl, ⟨hp1_62, hx62⟩⟩⟩); have hl_hp1_62 := hp1_62.lt; have hz_hx62 := hx62.size; replace hb11 := hb11.ext hx62; replace EL := EL.next hx62 (by omega); replace g1 := g1.ext hx62; replace g2 := g2.ext hx62; replace g3 := g3.ext hx62; replace h := h.ext hx62; replace hl := hl.ext hx62; replace E := E.trans hx62; refine w_lit_cd rfl rfl (k := fun v63 w63 ho63 hx63 hl63 hh63 hs63 => ?_); have hl_ho63 := ho63.lt; have hz_hx63 := hx63.size; replace hp1_62 := hp1_62.ext hx63; replace hb11 := hb11.ext hx63; replace EL := EL.next hx63 (by omega); replace g1 := g1.ext hx63; replace g2 := g2.ext hx63; replace g3 := g3.ext hx63; replace h := h.ext hx63; replace hl := hl.ext hx63; replace E := E.trans hx63; refine w_append_d rfl rfl (k := fun v64 w64 ho64 hx64 hr64 => ?_); have hl_ho64 := ho64.lt; have hz_hx64 := hx64.size; replace ho63 := ho63.chg hx64 (by omega); replace hp1_62 := hp1_62.chg hx64 (by omega); replace hb11 := hb11.chg hx64 (by omega); replace EL := EL.next hx64 (by omega); replace g1 := g1.chg hx64 (by omega); replace g2 := g2.chg hx64 (by omega); replace h := h.chg hx64 (by omega); replace hl := hl.chg hx64 (by omega); replace E := E.next hx64 (by omega); refine w_pure (y_assign rfl) rfl ?_; refine w_nil ?_; refine x_block_norm ?_; refine x_block_norm ?_; refine x_next ?_; refine c_region ?_; refine w_pure (y_add rfl rfl) rfl ?_; refine w_pure (y_move rfl) rfl ?_; refine w_nil ?_; rotate_left; refine c_seq ?_; refine c_region ?_; refine w_pure (y_move rfl) rfl ?_; refine w_pure (y_lt rfl rfl) rfl ?_; refine w_pure (y_assign rfl) rfl ?_; refine w_nil ?_; refine x_next ?_; (refine c_dec rfl (fun hc65 => ?_) (fun hc65 => ?_) <;> try (first | exact absurd rfl hc65 | contradiction | exact Bool.noConfusion (show false = true from hc65.symm.trans (by assumption)) | exact Bool.noConfusion (show true = false from hc65.symm.trans (by assumption)) | (exfalso; omega) | (exfalso; simp only [*, Bool.not_true, Bool.not_false, reduceCtorEq] at hc65; done))); refine c_seq ?_; refine c_region ?_; refine w_pure (y_assign rfl) rfl ?_; refine w_pure (y_assign rfl) rfl ?_; refine w_nil ?_; refine x_next ?_; refine c_ret ?_; refine x_block_ret ?_; refine x_block_ret ?_; refine x_then_ret ?_; refine x_then_ret ?_; refine x_block_ret ?_; refine x_then_ret ?_; rotate_left; refine c_region_held mixed (fun wr9 hxr9 hzr9 => ?_); have hz_hxr9 := hxr9.size; replace hb11 := hb11.ext hxr9; replace EL := EL.next hxr9 (by omega); replace g1 := g1.ext hxr9; replace g2 := g2.ext hxr9; replace g3 := g3.ext hxr9; replace h := h.ext hxr9; replace hl := hl.ext hxr9; replace E := E.trans hxr9; refine h_pure rfl (y_move rfl) rfl ?_; refine h_pure rfl (y_load_boxs rfl) rfl ?_; refine h_pure rfl (y_move rfl) rfl ?_; refine h_pure rfl (y_move rfl) rfl ?_; refine h_pure rfl (y_indexd rfl rfl) rfl ?_; refine h_pure rfl (y_loads rfl) rfl ?_; refine h_pure rfl (y_move rfl) rfl ?_; refine h_one rfl ?_; (refine w_call rfl rfl rfl (copied_c (hx := hrg _ (by omega)) (hy := hrg _ (by omega)) (f := widD xss) (t := widD xss) (hf := (hwd _ (by omega)).symm) (ht := (hwd _ (by omega)).symm)) rfl ?_; rintro _ w47 ⟨d47, ⟨rfl, ⟨hp1_47, hx47⟩⟩⟩); have hl_hp1_47 := hp1_47.lt; have hz_hx47 := hx47.size; replace hb11 := hb11.ext hx47; replace EL := EL.next hx47 (by omega); replace g1 := g1.ext hx47; replace g2 := g2.ext hx47; replace g3 := g3.ext hx47; replace h := h.ext hx47; replace hl := hl.ext hx47; replace E := E.trans hx47; refine w_nil ?_; refine x_held ?_; refine h_one rfl ?_; refine w_lit_cd rfl rfl (k := fun v48 w48 ho48 hx48 hl48 hh48 hs48 => ?_); have hl_ho48 := ho48.lt; have hz_hx48 := hx48.size; replace hp1_47 := hp1_47.ext hx48; replace hb11 := hb11.ext hx48; replace EL := EL.next hx48 (by omega); replace g1 := g1.ext hx48; replace g2 := g2.ext hx48; replace g3 := g3.ext hx48; replace h := h.ext hx48; replace hl := hl.ext hx48; replace E := E.trans hx48; refine w_nil ?_; refine x_held ?_; refine h_one rfl ?_; refine w_append_d rfl rfl (k := fun v49 w49 ho49 hx49 hr49 => ?_); have hl_ho49 := ho49.lt; have hz_hx49 := hx49.size; replace ho48 := ho48.chg hx49 (by omega); replace hp1_47 := hp1_47.chg hx49 (by omega); replace hb11 := hb11.chg hx49 (by omega); replace EL := EL.next hx49 (by omega); replace g1 := g1.chg hx49 (by omega); replace g2 := g2.chg hx49 (by omega); replace h := h.chg hx49 (by omega); replace hl := hl.chg hx49 (by omega); replace E := E.next hx49 (by omega); refine w_nil ?_; refine x_heldk ?_; refine h_pure rfl (y_assign rfl) rfl ?_; refine h_nil ?_; refine x_block_norm ?_; refine x_block_norm ?_; refine x_next ?_; refine c_region ?_; refine w_pure (y_add rfl rfl) rfl ?_; refine w_pure (y_move rfl) rfl ?_; refine w_nil ?_; rotate_left; refine c_exit ?_; refine x_then_exit ?_; refine x_then_exit ?_; refine x_block_hit ?_; refine x_next ?_; refine c_seq ?_; refine c_region ?_; refine w_pure (y_move rfl) rfl ?_; refine w_pure (y_assign rfl) rfl ?_; refine w_pure (y_assign rfl) rfl ?_; refine w_nil ?_; refine x_next ?_; refine c_ret ?_; rotate_left
  · have hm : isMst xss k i.toNat := hc50
    refine x_again (i + 1, v64, sus ++ [svOf d62]) ⟨rfl, rfl, rfl, rfl, by show _ = some (Value.int .i64 (mstF xss k (i + 1).toNat)); rw [emY hm]; rfl, rfl, rfl, rfl, trivial⟩ ⟨EL.go, by assumption, by assumption, ?_, by dsimp only; omega, by dsimp only; omega, by dsimp only; omega, fun h1 => ?_⟩ (by dsimp only; omega)
    · dsimp only
      rw [e1, List.take_add_one, intL_get (by omega), intAt, if_pos hm]
      exact OwnD.wide (by assumption) (by omega) (Nat.le_refl _)
    · rcases Nat.eq_zero_or_pos i.toNat with h0 | h0
      · rw [h0] at hm; exact hm
      · exact h0m (by omega)
  · have hc6 := hno (by omega) hc50 hc65
    exact x_retv [_, _] rfl ⟨rfl, rfl, trivial⟩ ⟨_, [], by rw [hc6]; rfl, by unfold resInt; rw [hc6, if_neg (by decide)]; exact OwnD.nil _ _ _ _ (Nat.le_refl _), E.go⟩
  · have hm : ¬ isMst xss k i.toNat := hc50
    refine x_again (i + 1, v49, sus ++ [svOf d47]) ⟨rfl, rfl, rfl, rfl, by show _ = some (Value.int .i64 (mstF xss k (i + 1).toNat)); rw [emN hm]; rfl, rfl, rfl, rfl, trivial⟩ ⟨EL.go, by assumption, by assumption, ?_, by dsimp only; omega, by dsimp only; omega, by dsimp only; omega, fun h1 => h0m (by omega)⟩ (by dsimp only; omega)
    dsimp only
    rw [e1, List.take_add_one, intL_get (by omega), intAt, if_neg hm]
    exact OwnD.wide (by assumption) (by omega) (Nat.le_refl _)
  · have hc0 := cInt_0 hk hk2 hk3 (fun hh => h0m (by omega))
    refine x_retv [_, _] rfl ⟨rfl, rfl, trivial⟩ ⟨_, sus, by rw [hc0]; rfl, ?_, E.go⟩
    unfold resInt; rw [hc0, if_pos rfl]
    rw [List.take_of_length_le (by omega)] at g3
    exact OwnD.wide (by assumption) (by omega) (Nat.le_refl _)
set_option maxHeartbeats 4000000 in
theorem sInterspersedGang_c (k : Int) (h : SLL w lo hi svs v xss := by repeat (first | assumption | exact Go.Gw.Own.sl (by assumption) | exact Go.Gw.Box.at (by assumption) | exact Go.Gw.SLL.el (by first | assumption | exact Go.Gw.OwnD.sll (by assumption)) _ (by omega) | exact Go.Gw.SLL.at (by first | assumption | exact Go.Gw.OwnD.sll (by assumption)) (by omega) | exact Go.Gw.OwnD.sll (by assumption) | (apply Go.Gw.SL.chg; case hx => assumption) | (apply Go.Gw.Own.chg; case hx => assumption) | (apply Go.Gw.Box.chg; case hx => assumption) | (apply Go.Gw.At.chg; case hx => assumption) | exact .inl (Nat.zero_le _) | exact .inr (Nat.zero_le _) | (show _ ∨ _; omega))) (hl : SL w l2 h2 v2 ps := by repeat (first | assumption | exact Go.Gw.Own.sl (by assumption) | exact Go.Gw.Box.at (by assumption) | exact Go.Gw.SLL.el (by first | assumption | exact Go.Gw.OwnD.sll (by assumption)) _ (by omega) | exact Go.Gw.SLL.at (by first | assumption | exact Go.Gw.OwnD.sll (by assumption)) (by omega) | exact Go.Gw.OwnD.sll (by assumption) | (apply Go.Gw.SL.chg; case hx => assumption) | (apply Go.Gw.Own.chg; case hx => assumption) | (apply Go.Gw.Box.chg; case hx => assumption) | (apply Go.Gw.At.chg; case hx => assumption) | exact .inl (Nat.zero_le _) | exact .inr (Nat.zero_le _) | (show _ ∨ _; omega))) (hk64 : In64 k := by assumption) : Ret Tryz.prog 38 [v, .int .i64 k, v2] w fun u w' => ∃ d sus, u = .tuple #[d, .int .i64 (cInt xss ps k)] ∧ OwnD w' 26 w.heap.size w'.heap.size sus d (resInt xss ps k) ∧ Ext w w' := by
  cases hk : okD xss
  · exact spec_Interspersed_bad k h hl (.inl hk)
  cases hk2 : okCp ps (widD xss) (widD xss)
  · exact spec_Interspersed_bad k h hl (.inr ⟨hk, .inl hk2⟩)
  by_cases hk3 : 0 ≤ k ∧ k ≤ widD xss - 1
  case neg => exact spec_Interspersed_bad k h hl (.inr ⟨hk, .inr hk3⟩)
  have hb := okCp_bd hk2
  have hb2 := okD_len hk
  have hil := intL_len xss ps k
  have E : Since 0 0 w w := Since.refl 0 0 w
  refine ret_enter Tryz.func38 rfl Tryz.ntmps38 rfl ?_
  focus have ht_h := h.top; have ht_hl := hl.top; refine c_seq ?_; refine c_region ?_; refine w_pure (y_assign rfl) rfl ?_; refine w_pure (y_assign rfl) rfl ?_; refine w_nil ?_; refine x_next ?_; refine c_seq ?_; refine c_seq ?_; refine c_region ?_; refine w_pure (y_move rfl) rfl ?_; refine w_val rfl rfl rfl (l02Deck_c) rfl (fun w13 hx13 hz13 => ?_); have hz_hx13 := hx13.size; replace h := h.ext hx13; replace hl := hl.ext hx13; replace E := E.trans hx13; refine w_pure (y_not rfl) rfl ?_; refine w_nil ?_; refine x_next ?_; (refine c_not rfl (fun hc14 => ?_) (fun hc14 => ?_) <;> try (first | exact absurd rfl hc14 | contradiction | exact Bool.noConfusion (show false = true from hc14.symm.trans (by assumption)) | exact Bool.noConfusion (show true = false from hc14.symm.trans (by assumption)) | (exfalso; omega) | (exfalso; simp only [*, Bool.not_true, Bool.not_false, reduceCtorEq] at hc14; done))); refine c_skip ?_; refine x_next ?_; refine c_seq ?_; refine c_region ?_; refine w_pure (y_move rfl) rfl ?_; refine w_val rfl rfl rfl (l07WidthOf_c) rfl (fun w16 hx16 hz16 => ?_); have hz_hx16 := hx16.size; replace h := h.ext hx16; replace hl := hl.ext hx16; replace E := E.trans hx16; refine w_pure (y_assign rfl) rfl ?_; refine w_nil ?_; refine x_next ?_; refine c_seq ?_; refine c_seq ?_; refine c_region ?_; refine w_pure (y_move rfl) rfl ?_; refine w_pure (y_move rfl) rfl ?_; refine w_pure (y_sub rfl rfl) rfl ?_; refine w_pur rfl rfl rfl (l00In_c _ _ _) rfl ?_; refine w_pure (y_not_dec rfl) rfl ?_; refine w_pure (y_move rfl) rfl ?_; (refine w_part_dec rfl rfl (fun hc23 => ?_) (fun hc23 => ?_) <;> try (first | exact absurd rfl hc23 | contradiction | exact Bool.noConfusion (show false = true from hc23.symm.trans (by assumption)) | exact Bool.noConfusion (show true = false from hc23.symm.trans (by assumption)) | (exfalso; omega) | (exfalso; simp only [*, Bool.not_true, Bool.not_false, reduceCtorEq] at hc23; done))); refine w_yes rfl rfl ?_; refine w_pure (y_move rfl) rfl ?_; refine w_yes rfl rfl ?_; refine w_pure (y_move rfl) rfl ?_; refine w_yes rfl rfl ?_; refine w_pure (y_move rfl) rfl ?_; refine w_yes rfl rfl ?_; refine w_val rfl rfl rfl (sValidCopies_c _ _) rfl (fun w26 hx26 hz26 => ?_); have hz_hx26 := hx26.size; replace h := h.ext hx26; replace hl := hl.ext hx26; replace E := E.trans hx26; refine w_yes rfl rfl ?_; refine w_pure (y_not rfl) rfl ?_; refine w_pure (y_pick_f rfl rfl) rfl ?_; refine w_nil ?_; refine x_next ?_; (refine c_not rfl (fun hc28 => ?_) (fun hc28 => ?_) <;> try (first | exact absurd rfl hc28 | contradiction | exact Bool.noConfusion (show false = true from hc28.symm.trans (by assumption)) | exact Bool.noConfusion (show true = false from hc28.symm.trans (by assumption)) | (exfalso; omega) | (exfalso; simp only [*, Bool.not_true, Bool.not_false, reduceCtorEq] at hc28; done))); refine c_skip ?_; refine x_next ?_; refine c_seq ?_; refine c_region ?_; refine w_pure (y_move rfl) rfl ?_; (refine w_call rfl rfl rfl (l02Copy_c) rfl ?_; rintro v30 w30 ⟨sus30, ⟨hp1_30, hx30⟩⟩); have hl_hp1_30 := hp1_30.lt; have hz_hx30 := hx30.size; replace h := h.ext hx30; replace hl := hl.ext hx30; replace E := E.trans hx30; refine w_pure (y_assign rfl) rfl ?_; refine w_nil ?_; refine x_next ?_; refine c_seq ?_; refine c_region ?_; refine w_pure (y_assign rfl) rfl ?_; refine w_nil ?_; refine x_next ?_; refine c_seq ?_; refine c_seq ?_; refine c_region ?_; refine w_pure (y_assign rfl) rfl ?_; refine w_nil ?_; refine x_next ?_; refine c_block ?_; rotate_left
  refine c_loopC w26.heap.size w30.heap.size (ι := Int) (fun x => [(0, v), (1, .int .i64 k), (2, v2), (9, v30), (10, .int .i64 (mstF xss k x.toNat)), (11, .int .i64 x)])
    (fun x w' => SLL w' lo hi svs v xss ∧ SL w' l2 h2 v2 ps ∧ OwnD w' 26 w26.heap.size w30.heap.size sus30 v30 ((intL xss ps k).take x.toNat ++ xss.drop x.toNat) ∧ 0 ≤ x ∧ x ≤ xss.length ∧ (0 < x → isMst xss k 0)) (fun x => (xss.length - x).toNat) 0
    (by repeat (first | exact trivial | refine ⟨rfl, ?_⟩)) ⟨by assumption, by assumption, by simpa using hp1_30, by omega, by omega, fun h => by omega⟩ ?_
  clear hp1_30
  rintro i wL hxL EL ⟨g1, g2, g3, hi0, hi1, h0m⟩
  have hlen : ((intL xss ps k).take i.toNat ++ xss.drop i.toNat).length = xss.length := mix_len hil
  have hgd : i < xss.length → ((intL xss ps k).take i.toNat ++ xss.drop i.toNat).getD i.toNat [] = xss.getD i.toNat [] := fun hh => mix_getD hil (by omega)
  have hrg : ∀ j : Nat, j < xss.length → Rng (xss.getD j []) := fun j hh => rng_of (okD_at hk _ hh).1
  have hwd : ∀ j : Nat, j < xss.length → ((xss.getD j []).length : Int) = widD xss := fun j hh => widD_at hk _ hh
  have e1 : (i + 1).toNat = i.toNat + 1 := by omega
  have hwi : i < xss.length → ((xss.getD i.toNat []).length : Int) = widD xss := fun hh => hwd _ (by omega)
  have hvi : i < xss.length → 0 ≤ (xss.getD i.toNat []).getD k.toNat 0 ∧ (xss.getD i.toNat []).getD k.toNat 0 ≤ 4095 := fun hh => hrg _ (by omega) _ (by have := hwi hh; omega)
  have hms := mstF_lt xss k i.toNat
  have emY : isMst xss k i.toNat → mstF xss k (i + 1).toNat = i := fun h => by rw [e1, mstF, if_pos h]; omega
  have emN : ¬ isMst xss k i.toNat → mstF xss k (i + 1).toNat = mstF xss k i.toNat := fun h => by rw [e1, mstF, if_neg h]
  have hno : i < xss.length → ¬ isMst xss k i.toNat → mstF xss k i.toNat < 0 → cInt xss ps k = 6 := fun hh h1 h2 => cInt_6 hk hk2 hk3 (by omega) (by
    rcases Nat.eq_zero_or_pos i.toNat with h0 | h0
    · rw [h0] at h1; exact h1
    · exact mst_none h2 h0)
  have hin : 0 < xss.length → lo ≤ sb v ∧ sb v < hi := fun hh => g1.out.block (by have := g1.len; omega)
  focus have ht_g1 := g1.top; have ht_g2 := g2.top; have hl_g3 := g3.lt; have hz_hxL := hxL.size; replace h := h.chg hxL (by omega); replace hl := hl.chg hxL (by omega); replace E := E.next hxL (by omega); refine c_seq ?_; refine c_seq ?_; refine c_region ?_; refine w_pure (y_move rfl) rfl ?_; refine w_pure (y_move rfl) rfl ?_; refine w_pure (y_lend rfl) rfl ?_; refine w_pure (y_lt rfl rfl) rfl ?_; refine w_nil ?_; refine x_next ?_; (refine c_dec rfl (fun hc34 => ?_) (fun hc34 => ?_) <;> try (first | exact absurd rfl hc34 | contradiction | exact Bool.noConfusion (show false = true from hc34.symm.trans (by assumption)) | exact Bool.noConfusion (show true = false from hc34.symm.trans (by assumption)) | (exfalso; omega) | (exfalso; simp only [*, Bool.not_true, Bool.not_false, reduceCtorEq] at hc34; done))); refine c_skip ?_; refine x_next ?_; refine c_seq ?_; refine c_block ?_; refine c_seq ?_; refine c_seq ?_; refine c_region ?_; refine w_pure (y_move rfl) rfl ?_; refine w_pure (y_move rfl) rfl ?_; refine w_pure (y_indexd rfl rfl) rfl ?_; refine w_pure (y_field rfl) rfl ?_; refine w_pure (y_loadk rfl) rfl ?_; refine w_pure (y_move rfl) rfl ?_; refine w_pure (y_index rfl rfl) rfl ?_; refine w_pure (y_load_int rfl) rfl ?_; refine w_pure (y_and rfl rfl) rfl ?_; refine w_pure (y_ne rfl rfl) rfl ?_; refine w_nil ?_; refine x_next ?_; (refine c_dec rfl (fun hc46 => ?_) (fun hc46 => ?_) <;> try (first | exact absurd rfl hc46 | contradiction | exact Bool.noConfusion (show false = true from hc46.symm.trans (by assumption)) | exact Bool.noConfusion (show true = false from hc46.symm.trans (by assumption)) | (exfalso; omega) | (exfalso; simp only [*, Bool.not_true, Bool.not_false, reduceCtorEq] at hc46; done))); refine c_seq ?_; refine c_region ?_; refine w_pure (y_move rfl) rfl ?_; refine w_pure (y_assign rfl) rfl ?_; refine w_nil ?_; refine x_next ?_; refine c_exit ?_; refine x_then_exit ?_; refine x_block_hit ?_; refine x_next ?_; refine c_region ?_; refine w_pure (y_move rfl) rfl ?_; refine w_pure (y_add rfl rfl) rfl ?_; refine w_pure (y_assign rfl) rfl ?_; refine w_nil ?_; rotate_left; refine c_skip ?_; refine x_next ?_; refine c_seq ?_; refine c_seq ?_; refine c_region ?_; refine w_pure (y_move rfl) rfl ?_; refine w_pure (y_lt rfl rfl) rfl ?_; refine w_nil ?_; refine x_next ?_; (refine c_dec rfl (fun hc49 => ?_) (fun hc49 => ?_) <;> try (first | exact absurd rfl hc49 | contradiction | exact Bool.noConfusion (show false = true from hc49.symm.trans (by assumption)) | exact Bool.noConfusion (show true = false from hc49.symm.trans (by assumption)) | (exfalso; omega) | (exfalso; simp only [*, Bool.not_true, Bool.not_false, reduceCtorEq] at hc49; done))); refine c_seq ?_; refine c_region ?_; refine w_pure (y_assign rfl) rfl ?_; refine w_pure (y_assign rfl) rfl ?_; refine w_nil ?_; refine x_next ?_; refine c_ret ?_; refine x_then_ret ?_; refine x_block_ret ?_; refine x_then_ret ?_; refine x_then_ret ?_; refine x_block_ret ?_; refine x_then_ret ?_; rotate_left; refine c_skip ?_; refine x_next ?_; refine c_region_held mixed (fun wr15 hxr15 hzr15 => ?_); have hz_hxr15 := hxr15.size; replace EL := EL.next hxr15 (by omega); replace g1 := g1.ext hxr15; replace g2 := g2.ext hxr15; replace g3 := g3.ext hxr15; replace h := h.ext hxr15; replace hl := hl.ext hxr15; replace E := E.trans hxr15; refine h_pure rfl (y_move rfl) rfl ?_; refine h_pure rfl (y_move rfl) rfl ?_; refine h_pure rfl (y_indexd rfl rfl) rfl ?_; refine h_pure rfl (y_move rfl) rfl ?_; refine h_pure rfl (y_move rfl) rfl ?_; refine h_pure rfl (y_indexd rfl rfl) rfl ?_; refine h_pure rfl (y_move rfl) rfl ?_; refine h_one rfl ?_; (refine w_call rfl rfl rfl (l10CopyEl_e (hx := hrg _ (by omega)) (hy := by rw [hgd (by omega)]; exact hrg _ (by omega)) (f := widD xss) (t := widD xss) (hf := (hwd _ (by omega)).symm) (ht := by rw [hgd (by omega)]; exact (hwd _ (by omega)).symm)) rfl ?_; rintro _ w57 ⟨rfl, ⟨hp1_57, hx57⟩⟩); have hl_hp1_57 := hp1_57.lt; have hz_hx57 := hx57.size; replace EL := EL.trans hx57; replace g1 := g1.chg hx57 (by omega); replace g2 := g2.chg hx57 (by omega); replace h := h.chg hx57 (by omega); replace hl := hl.chg hx57 (by omega); replace E := E.next hx57 (by omega); refine w_nil ?_; refine x_heldk ?_; refine h_nil ?_; refine x_block_norm ?_; refine x_next ?_; refine c_region ?_; refine w_pure (y_move rfl) rfl ?_; refine w_pure (y_add rfl rfl) rfl ?_; refine w_pure (y_assign rfl) rfl ?_; refine w_nil ?_; rotate_left; refine c_exit ?_; refine x_then_exit ?_; refine x_then_exit ?_; refine x_block_hit ?_; refine x_next ?_; refine c_seq ?_; refine c_region ?_; refine w_pure (y_move rfl) rfl ?_; refine w_pure (y_assign rfl) rfl ?_; refine w_pure (y_assign rfl) rfl ?_; refine w_nil ?_; refine x_next ?_; refine c_ret ?_; rotate_left
  · have hm : isMst xss k i.toNat := hc46
    refine x_again (i + 1) ⟨rfl, rfl, rfl, rfl, by show _ = some (Value.int .i64 (mstF xss k (i + 1).toNat)); rw [emY hm]; rfl, rfl, trivial⟩ ⟨EL.go, by assumption, by assumption, ?_, by omega, by omega, fun h1 => ?_⟩ (by omega)
    · rw [e1, ← upd_step hil (by omega) (intL_get (by omega)), intAt, if_pos hm, ← hgd (by omega), set_same]
      assumption
    · rcases Nat.eq_zero_or_pos i.toNat with h0 | h0
      · rw [h0] at hc46; exact hc46
      · exact h0m (by omega)
  · have hc6 := hno (by omega) hc46 hc49
    exact x_retv [_, _] rfl ⟨rfl, rfl, trivial⟩ ⟨_, [], by rw [hc6]; rfl, by unfold resInt; rw [hc6, if_neg (by decide)]; exact OwnD.nil _ _ _ _ (Nat.le_refl _), E.go⟩
  · have hm : ¬ isMst xss k i.toNat := hc46
    refine x_again (i + 1) ⟨rfl, rfl, rfl, rfl, by show _ = some (Value.int .i64 (mstF xss k (i + 1).toNat)); rw [emN hm]; rfl, rfl, trivial⟩ ⟨EL.go, by assumption, by assumption, ?_, by omega, by omega, fun h1 => h0m (by omega)⟩ (by omega)
    rw [e1, ← upd_step hil (by omega) (intL_get (by omega)), intAt, if_neg hm]
    rw [hgd (by omega)] at hp1_57
    exact hp1_57
  · rw [mix_all hil (by omega)] at g3
    have hc0 := cInt_0 hk hk2 hk3 (fun hh => h0m (by omega))
    refine x_retv [_, _] rfl ⟨rfl, rfl, trivial⟩ ⟨_, sus30, by rw [hc0]; rfl, ?_, E.go⟩
    unfold resInt; rw [hc0, if_pos rfl]
    exact OwnD.wide (g3.low (by omega)) (by omega) (Nat.le_refl _)
end
end Go.Proofs.YticnemjjjceiaaaGreatDoor
/- GngQ -/
namespace Go.Proofs.YticnemjjjceiaaaGreatDoor
open Go Go.Gw
set_option linter.unusedVariables false
set_option linter.unusedSimpArgs false
theorem okK_rng {xs : List Int} (h : 1 ≤ xs.length ∧ xs.length ≤ 20) (hr : Rng xs) : okK xs = true := by
  unfold okK
  rw [decide_eq_true h, Bool.true_and, Bool.not_eq_true', List.any_eq_false]
  intro d hd
  obtain ⟨j, hj, rfl⟩ := List.mem_iff_getElem.1 hd
  have h1 := hr j hj
  rw [List.getD_eq_getElem?_getD, List.getElem?_eq_getElem hj] at h1
  have h2 : (0 ≤ xs[j] ∧ xs[j] ≤ 4095) := h1
  rw [decide_eq_true h2]; decide
theorem ext_getD {xs ys : List Int} (h : xs.length = ys.length) (he : ∀ k, k < xs.length → xs.getD k 0 = ys.getD k 0) : xs = ys := by
  apply List.ext_getElem h
  intro k h1 h2
  have := he k h1
  rw [List.getD_eq_getElem?_getD, List.getD_eq_getElem?_getD, List.getElem?_eq_getElem h1, List.getElem?_eq_getElem h2] at this
  exact this
theorem rng_copy' {xs ys : List Int} {ps : List (Int × Int)} (hx : Rng xs) (hy : Rng ys) : ∀ n, Rng (copyF xs ps ys n)
  | 0 => hy
  | n + 1 => by
    have ih := rng_copy' (ps := ps) hx hy n
    have hv : ∀ (l : List Int) (i : Nat), Rng l → 0 ≤ l.getD i 0 ∧ l.getD i 0 ≤ 4095 := fun l i h => by
      by_cases hi : i < l.length
      · exact h i hi
      · rw [List.getD_eq_getElem?_getD, List.getElem?_eq_none (by omega)]; simp
    rw [copyF]
    intro i hi
    rw [List.length_set] at hi
    rw [List.getD_eq_getElem?_getD, List.getElem?_set]
    split
    · split
      · exact orI_12 (hv _ _ ih).2 (hv _ _ hx).2
      · simp
    · rw [← List.getD_eq_getElem?_getD]; exact ih i hi
theorem gng_law {ms : List Int} {xss : List (List Int)} {ps : List (Int × Int)} (h : cGng ms xss ps = 0) : okD xss = true ∧ (resGng ms xss ps).length = xss.length ∧ ∀ i, i < xss.length → okK (xss.getD i []) = true ∧ okK ((resGng ms xss ps).getD i []) = true ∧ (xss.getD i []).length = ((resGng ms xss ps).getD i []).length ∧ ovlF ((resGng ms xss ps).getD i []) (xss.getD i []) (xss.getD i []).length = (resGng ms xss ps).getD i [] := by
  cases hk0 : okK ms
  · rw [cGng_1 (.inl hk0)] at h; cases h
  cases hk : okD xss
  · rw [cGng_1 (.inr hk)] at h; cases h
  have er : resGng ms xss ps = xss.map (gngF ms ps) := by rw [resGng, if_pos h]
  refine ⟨rfl, by rw [er, List.length_map], fun i hi => ?_⟩
  have hx := (okD_at hk i hi).1
  have eg : (resGng ms xss ps).getD i [] = copyF ms ps (xss.getD i []) ps.length := by rw [er, map_getD (d := []) _ hi]; rfl
  have hl : ((resGng ms xss ps).getD i []).length = (xss.getD i []).length := by rw [eg, copyF_len]
  have hb := okK_len hx
  have hr := rng_of hx
  refine ⟨hx, okK_rng (by rw [hl]; exact hb) (by rw [eg]; exact rng_copy' (rng_of hk0) hr _), hl.symm, ?_⟩
  refine ext_getD (by rw [ovlF_len, hl]) fun k hk => ?_
  rw [ovlF_len] at hk
  rw [ovlF_get, if_pos ⟨hk, hk⟩, eg]
  exact over_copy (getD_nn hr) _ _
theorem prt_put {xs p : List Int} {f t : Int} (h : 0 ≤ f ∧ f < t ∧ t ≤ xs.length) (hp : (p.length : Int) = t - f) : prt (putF xs f t p) f t = p := by
  have a1 : (xs.take f.toNat).length = f.toNat := by rw [List.length_take]; omega
  have a2 : (xs.take f.toNat ++ p).length = t.toNat := by rw [List.length_append]; omega
  unfold prt putF
  rw [List.take_left' a2, List.drop_left' a1]
theorem serF_at {xss : List (List Int)} {f t first : Int} {d : Nat} : ∀ i, xss.length - i = d → serF xss f t first i = 0 → ∀ j, i ≤ j → j < xss.length → first + j < 10 ^ (t - f).toNat := by
  induction d with
  | zero => intro i hd _ j h1 h2; omega
  | succ d ih =>
    intro i hd h j h1 h2
    have hi : i < xss.length := by omega
    by_cases hc : first + i < 10 ^ (t - f).toNat
    · cases hb : blkB (xss.getD i []) f t
      · rw [serF_9 hi hc hb] at h; cases h
      · rw [serF_on hi hc hb] at h
        rcases Nat.eq_or_lt_of_le h1 with rfl | h3
        · exact hc
        · exact ih (i + 1) (by omega) h j h3 h2
    · rw [serF_5 hi hc] at h; cases h
theorem ser_law {xss : List (List Int)} {f t first : Int} (h : cSer xss f t first = 0) : okD xss = true ∧ (0 ≤ f ∧ f < t ∧ t ≤ widD xss) ∧ t - f ≤ 12 ∧ (0 ≤ first ∧ first ≤ 999999999999) ∧ (resSer xss f t first).length = xss.length ∧ ∀ i, i < xss.length → okK ((resSer xss f t first).getD i []) = true ∧ fldB f t ((resSer xss f t first).getD i []).length = true ∧ numL (prt ((resSer xss f t first).getD i []) f t) = (first + i, true) := by
  cases hk : okD xss
  · rw [cSer_1 hk] at h; cases h
  by_cases h2 : (0 ≤ f ∧ f < t ∧ t ≤ widD xss) ∧ t - f ≤ 12 ∧ 0 ≤ first ∧ first ≤ 999999999999
  · have hs := h
    rw [cSer_s hk h2] at hs
    have hall := serF_at 0 rfl hs
    refine ⟨rfl, h2.1, h2.2.1, h2.2.2, by rw [resSer, if_pos h, serL_len], fun i hi => ?_⟩
    have eg : (resSer xss f t first).getD i [] = serAt xss f t first i := by rw [resSer, if_pos h, List.getD_eq_getElem?_getD, serL_get hi]; rfl
    have hl := serAt_len (f := f) (t := t) (first := first) hk h2.1 hi
    have hw := widD_at hk i hi
    have hx := (okD_at hk i hi).1
    have hb := okK_len hx
    rw [eg]
    have hpl : ((pun (first + i) (t - f).toNat).length : Int) = t - f := by rw [pun_len]; omega
    refine ⟨?_, by rw [fldB, hl]; exact decide_eq_true ⟨h2.1.1, h2.1.2.1, by omega⟩, ?_⟩
    · refine okK_rng (by rw [hl]; exact hb) fun j hj => ?_
      have hm : (serAt xss f t first i).getD j 0 ∈ serAt xss f t first i := by
        rw [List.getD_eq_getElem?_getD, List.getElem?_eq_getElem hj]; exact List.getElem_mem hj
      generalize (serAt xss f t first i).getD j 0 = m at hm
      unfold serAt putF at hm
      rcases List.mem_append.1 hm with hm | hm
      · rcases List.mem_append.1 hm with hm | hm
        · exact okK_dig hx _ (List.mem_of_mem_take hm)
        · exact pun_rg _ _ _ hm
      · exact okK_dig hx _ (List.mem_of_mem_drop hm)
    · unfold serAt
      rw [prt_put ⟨h2.1.1, h2.1.2.1, by omega⟩ hpl]
      exact num_pun (by omega) (hall i (Nat.zero_le _) hi) (by omega)
  · rw [cSer_2 hk h2] at h; cases h
theorem cmp_none {xss yss : List (List Int)} {ps : List (Int × Int)} {m : Nat} (h : ∀ i, i < m → (difN (xss.getD i []) (yss.getD i []) ps ps.length).length = 0) : ∀ (d i : Nat), m - i = d → cmpD xss yss ps m i = -2
  | 0, i, hd => cmpD_end xss yss ps (by omega)
  | d + 1, i, hd => by rw [cmpD_on xss yss ps (by omega) (h i (by omega)), cmp_none h d (i + 1) (by omega)]
theorem rep_law {xss : List (List Int)} {ps : List (Int × Int)} {k : Int} (h : cRep xss ps k = 0) (h0 : ¬ xss.length = 0) : cCmp xss (resRep xss ps k) ps = 0 ∧ resCmp xss (resRep xss ps k) ps = -1 := by
  cases hk : okD xss
  · rw [cRep_1 hk] at h; cases h
  cases hk2 : okCp ps (widD xss) k
  · rw [cRep_2 hk hk2] at h; cases h
  have er : resRep xss ps k = xss.map (repF ps k) := by rw [resRep, if_pos h]
  have hbd := okCp_bd hk2
  have hel : ∀ i, i < xss.length → (resRep xss ps k).getD i [] = copyF (xss.getD i []) ps (List.replicate k.toNat 0) ps.length := fun i hi => by rw [er, map_getD (d := []) _ hi]; rfl
  have hlen : (resRep xss ps k).length = xss.length := by rw [er, List.length_map]
  have hll : ∀ i, i < xss.length → (((resRep xss ps k).getD i []).length : Int) = k := fun i hi => by rw [hel i hi, copyF_len, List.length_replicate]; omega
  have hw : widD (resRep xss ps k) = k := by rw [widD, if_neg (by omega)]; exact hll 0 (by omega)
  have hok : okD (resRep xss ps k) = true := by
    rw [okD_yes (fun i hi => ?_)]
    · have := okD_len hk
      exact decide_eq_true (by rw [hlen]; omega)
    · rw [hlen] at hi
      have h1 := hll i hi
      have h2 := hll 0 (by omega)
      refine ⟨okK_rng (by omega) ?_, ?_⟩
      · rw [hel i hi]; exact rng_copy' (rng_of (okD_at hk i hi).1) (rng_zero _) _
      · show _ = _
        omega
  have hc : cCmp xss (resRep xss ps k) ps = 0 := cCmp_0 hk hok (by rw [hw]; exact hk2)
  refine ⟨hc, ?_⟩
  have hpl : plainB ps = true := by
    cases hp : plainB ps
    · rw [okCp_no2 hp] at hk2; cases hk2
    · rfl
  have hd : ∀ i, i < min xss.length (resRep xss ps k).length → (difN (xss.getD i []) ((resRep xss ps k).getD i []) ps ps.length).length = 0 := fun i hi => by
    have hi' : i < xss.length := by omega
    rw [hel i hi']
    have hr := rng_of (okD_at hk i hi').1
    have hm := copy_meets (xs := xss.getD i []) (T := k.toNat) (getD_nn hr) hpl (fun j hj => by have := okCp_at hk2 j hj; omega) ps.length (Nat.le_refl _)
    rw [difN_none]
    · rfl
    · intro j hj hdf
      exact hdf (hm.1 j hj).symm
  rw [resCmp_end hc (cmp_none hd _ 0 rfl), if_pos (by rw [hlen])]
end Go.Proofs.YticnemjjjceiaaaGreatDoor
/- KeyA -/
namespace Go.Proofs.YticnemjjjceiaaaGreatDoor
open Go Go.Gw
set_option linter.unusedVariables false
set_option linter.unusedSimpArgs false
/-- the characters in the order of their ranks -/
def chL : List UInt8 := [32, 38, 65, 66, 67, 68, 69, 70, 71, 72, 73, 45, 74, 75, 76, 77, 78, 79, 80, 81, 82, 47, 83, 84, 85, 86, 87, 88, 89, 90, 48, 49, 50, 51, 52, 53, 54, 55, 56, 57]
/-- the holes of a character -/
def codI (c : Int) : Int :=
  if c = 32 then 0 else if c = 38 then bitI 12 else if c = 45 then bitI 11 else if 48 ≤ c ∧ c ≤ 57 then bitI (c - 48)
  else if 65 ≤ c ∧ c ≤ 73 then orI (bitI 12) (bitI (c - 65 + 1)) else if 74 ≤ c ∧ c ≤ 82 then orI (bitI 11) (bitI (c - 74 + 1))
  else if c = 47 then orI (bitI 0) (bitI 1) else if 83 ≤ c ∧ c ≤ 90 then orI (bitI 0) (bitI (c - 83 + 2)) else 0
def isChr (c : Int) : Bool := decide (c = 32 ∨ c = 38 ∨ c = 45 ∨ c = 47 ∨ (48 ≤ c ∧ c ≤ 57) ∨ (65 ≤ c ∧ c ≤ 90))
def chr (i : Int) : Int := ((chL.getD i.toNat 0).toNat : Int)
theorem chr_all : ∀ i : Fin 40, isChr (chr (i.val : Int)) = true ∧ ∀ j : Fin 40, chL.getD i.val 0 = chL.getD j.val 0 → i = j := by decide +kernel
theorem chr_ok {i : Int} (h : 0 ≤ i ∧ i < 40) : isChr (chr i) = true := by
  have := (chr_all ⟨i.toNat, by omega⟩).1
  simpa [show ((i.toNat : Nat) : Int) = i by omega] using this
theorem chr_inj {i j : Int} (hi : 0 ≤ i ∧ i < 40) (hj : 0 ≤ j ∧ j < 40) (h : chL.getD i.toNat 0 = chL.getD j.toNat 0) : i = j := by
  have := (chr_all ⟨i.toNat, by omega⟩).2 ⟨j.toNat, by omega⟩ h
  have := congrArg Fin.val this
  dsimp only at this
  omega
theorem chr_bd (i : Int) : 0 ≤ chr i ∧ chr i < 256 := by
  unfold chr
  have := (chL.getD i.toNat 0).toNat_lt
  omega
/-- the first rank from i on whose character has the holes m -/
def rnkF (m i : Int) : Int := if h : i < 40 then (if codI (chr i) = m then i else rnkF m (i + 1)) else -1
termination_by (40 - i).toNat
decreasing_by omega
theorem rnkF_hit {m i : Int} (h : i < 40) (e : codI (chr i) = m) : rnkF m i = i := by rw [rnkF, dif_pos h, if_pos e]
theorem rnkF_on {m i : Int} (h : i < 40) (e : ¬ codI (chr i) = m) : rnkF m i = rnkF m (i + 1) := by rw [rnkF, dif_pos h, if_neg e]
theorem rnkF_end {m i : Int} (h : ¬ i < 40) : rnkF m i = -1 := by rw [rnkF, dif_neg h]
theorem rnkF_bd (m : Int) : ∀ (k : Nat) (i : Int), 0 ≤ i → (40 - i).toNat ≤ k → -1 ≤ rnkF m i ∧ rnkF m i < 40 ∧ (0 ≤ rnkF m i → codI (chr (rnkF m i)) = m)
  | 0, i, h, hk => by rw [rnkF_end (by omega)]; omega
  | k + 1, i, h, hk => by
    by_cases h9 : i < 40
    · by_cases e : codI (chr i) = m
      · rw [rnkF_hit h9 e]; exact ⟨by omega, h9, fun _ => e⟩
      · rw [rnkF_on h9 e]; exact rnkF_bd m k (i + 1) (by omega) (by omega)
    · rw [rnkF_end h9]; omega
def rnk (m : Int) : Int := rnkF m 0
theorem rnk_bd (m : Int) : -1 ≤ rnk m ∧ rnk m < 40 := by have := rnkF_bd m 40 0 (by omega) (by omega); exact ⟨this.1, this.2.1⟩
theorem rnk_cod {m : Int} (h : 0 ≤ rnk m) : codI (chr (rnk m)) = m := (rnkF_bd m 40 0 (by omega) (by omega)).2.2 h
theorem rnk_inj {m n : Int} (h : 0 ≤ rnk m) (e : rnk m = rnk n) : m = n := by
  rw [← rnk_cod h, e, rnk_cod (by omega)]
/-- all columns have characters -/
def okT (xs : List Int) : Bool := !xs.any fun m => decide (rnk m < 0)
theorem okT_at {xs : List Int} (h : okT xs = true) (i : Nat) (hi : i < xs.length) : 0 ≤ rnk (xs.getD i 0) := by
  simp only [okT, Bool.not_eq_true', List.any_eq_false, decide_eq_true_eq] at h
  have := h (xs.getD i 0) (by rw [List.getD_eq_getElem?_getD, List.getElem?_eq_getElem hi]; exact List.getElem_mem hi)
  omega
theorem okT_no {xs : List Int} (i : Nat) (hi : i < xs.length) (h : rnk (xs.getD i 0) < 0) : okT xs = false := by
  cases hk : okT xs
  · rfl
  · have := okT_at hk i hi; omega
theorem okT_yes {xs : List Int} (h : ∀ i, i < xs.length → 0 ≤ rnk (xs.getD i 0)) : okT xs = true := by
  simp only [okT, Bool.not_eq_true', List.any_eq_false, decide_eq_true_eq]
  intro m hm
  obtain ⟨j, hj, rfl⟩ := List.mem_iff_getElem.1 hm
  have := h j hj
  rw [List.getD_eq_getElem?_getD, List.getElem?_eq_getElem hj] at this
  simp only [Option.getD_some] at this
  omega
/-- the characters of columns -/
def textL (xs : List Int) : List UInt8 := xs.map fun m => chL.getD (rnk m).toNat 0
theorem textL_len (xs : List Int) : (textL xs).length = xs.length := by simp [textL]
theorem textL_get {xs : List Int} {i : Nat} (h : i < xs.length) : (textL xs)[i]? = some (chL.getD (rnk (xs.getD i 0)).toNat 0) := by
  simp [textL, List.getD_eq_getElem?_getD, h]
theorem textL_inj : ∀ {xs ys : List Int}, okT xs = true → okT ys = true → textL xs = textL ys → xs = ys := by
  intro xs ys hx hy h
  have hl : xs.length = ys.length := by have := congrArg List.length h; simpa [textL_len] using this
  refine list_ext hl fun j hj => ?_
  have h1 := textL_get (xs := xs) hj
  have h2 := textL_get (xs := ys) (i := j) (by omega)
  rw [h, h2] at h1
  have a1 := okT_at hx j hj
  have a2 := okT_at hy j (by omega)
  have b1 := rnk_bd (xs.getD j 0)
  have b2 := rnk_bd (ys.getD j 0)
  exact rnk_inj a1 (chr_inj (by omega) (by omega) (Option.some.inj h1).symm)
/-- columns compared by their ranks, from i on -/
def cmpF (xs ys : List Int) (i : Nat) : Int :=
  if h : i < xs.length then (if rnk (xs.getD i 0) < rnk (ys.getD i 0) then -1 else if rnk (ys.getD i 0) < rnk (xs.getD i 0) then 1 else cmpF xs ys (i + 1)) else 0
termination_by xs.length - i
theorem cmpF_lt {xs ys : List Int} {i : Nat} (h : i < xs.length) (e : rnk (xs.getD i 0) < rnk (ys.getD i 0)) : cmpF xs ys i = -1 := by rw [cmpF, dif_pos h, if_pos e]
theorem cmpF_gt {xs ys : List Int} {i : Nat} (h : i < xs.length) (e : rnk (ys.getD i 0) < rnk (xs.getD i 0)) : cmpF xs ys i = 1 := by rw [cmpF, dif_pos h, if_neg (by omega), if_pos e]
theorem cmpF_on {xs ys : List Int} {i : Nat} (h : i < xs.length) (e : rnk (xs.getD i 0) = rnk (ys.getD i 0)) : cmpF xs ys i = cmpF xs ys (i + 1) := by rw [cmpF, dif_pos h, if_neg (by omega), if_neg (by omega)]
theorem cmpF_end {xs ys : List Int} {i : Nat} (h : ¬ i < xs.length) : cmpF xs ys i = 0 := by rw [cmpF, dif_neg h]
theorem cmpF_zero {xs ys : List Int} : ∀ (k i : Nat), xs.length - i ≤ k → (cmpF xs ys i = 0 ↔ ∀ j, i ≤ j → j < xs.length → rnk (xs.getD j 0) = rnk (ys.getD j 0))
  | 0, i, hk => by rw [cmpF_end (by omega)]; exact ⟨fun _ j h1 h2 => by omega, fun _ => rfl⟩
  | k + 1, i, hk => by
    by_cases h : i < xs.length
    · rcases Int.lt_trichotomy (rnk (xs.getD i 0)) (rnk (ys.getD i 0)) with e | e | e
      · rw [cmpF_lt h e]; exact ⟨fun h => by omega, fun hh => by have := hh i (Nat.le_refl _) h; omega⟩
      · rw [cmpF_on h e, cmpF_zero k (i + 1) (by omega)]
        refine ⟨fun hh j h1 h2 => ?_, fun hh j h1 h2 => hh j (by omega) h2⟩
        by_cases ej : j = i
        · subst ej; exact e
        · exact hh j (by omega) h2
      · rw [cmpF_gt h e]; exact ⟨fun h => by omega, fun hh => by have := hh i (Nat.le_refl _) h; omega⟩
    · rw [cmpF_end h]; exact ⟨fun _ j h1 h2 => by omega, fun _ => rfl⟩
theorem cmp_eq {xs ys : List Int} (hl : xs.length = ys.length) (hx : okT xs = true) : cmpF xs ys 0 = 0 ↔ xs = ys := by
  rw [cmpF_zero xs.length 0 (by omega)]
  refine ⟨fun h => list_ext hl fun j hj => rnk_inj (okT_at hx j hj) (h j (Nat.zero_le _) hj), fun h j _ _ => by rw [h]⟩
/-- the reference's number of the holes of a character -/
def codS (c : Int) : Int :=
  if c = 32 then 0 else if c = 38 then 1 else if c = 45 then 2 else if c = 47 then orI 4 (bitI 1) else if 48 ≤ c ∧ c ≤ 57 then bitI (c - 48)
  else if 65 ≤ c ∧ c ≤ 73 then orI 1 (bitI (c - 65 + 1)) else if 74 ≤ c ∧ c ≤ 82 then orI 2 (bitI (c - 74 + 1))
  else if 83 ≤ c ∧ c ≤ 90 then orI 4 (bitI (c - 83 + 2)) else -1
theorem cod_all : ∀ i : Fin 40, codS (chr (i.val : Int)) = codI (chr (i.val : Int)) := by decide +kernel
theorem cod_eq {i : Int} (h : 0 ≤ i ∧ i < 40) : codS (chr i) = codI (chr i) := by
  have := cod_all ⟨i.toNat, by omega⟩
  simpa [show ((i.toNat : Nat) : Int) = i by omega] using this
theorem bitI_bd (r : Int) : 0 ≤ bitI r ∧ bitI r ≤ 2048 := by
  unfold bitI
  split
  · omega
  · split
    · omega
    · split
      · rename_i h
        have h1 : (2 : Int) ^ r.toNat ≤ 2 ^ 9 := by
          have : r.toNat ≤ 9 := by omega
          exact_mod_cast Nat.pow_le_pow_right (by decide) this
        have h2 : (0 : Int) < 2 ^ r.toNat := Int.pow_pos (by decide)
        have e : (2 : Int) ^ 9 = 512 := by decide
        omega
      · omega
end Go.Proofs.YticnemjjjceiaaaGreatDoor
/- KeyB -/
namespace Go.Proofs.YticnemjjjceiaaaGreatDoor
open Go Go.Gw
set_option linter.unusedVariables false
set_option linter.unusedSimpArgs false
theorem tup2 {k : IntKind} {a b : Int} {p q : Bool} (h1 : a = b) (h2 : p = q) : Value.tuple #[.int k a, .bool p] = Value.tuple #[.int k b, .bool q] := by rw [h1, h2]
/-- the character of a column, 0 if it has none -/
def chB (m : Int) : UInt8 := if 0 ≤ rnk m then chL.getD (rnk m).toNat 0 else 0
section
variable {w : World} {lo hi lo' hi' : Nat} {v v' : Value} {xs ys : List Int} {b o : Nat}
theorem l01Digit_c (c : Int) : Pur Tryz.prog 127 [.int .u8 c] (.bool (decide (48 ≤ c ∧ c ≤ 57))) := by
  refine ⟨fun w => ?_⟩
  refine ret_enter Tryz.func127 rfl Tryz.ntmps127 rfl ?_
  focus refine c_seq ?_; refine c_region ?_; refine w_pure (y_assign rfl) rfl ?_; refine w_nil ?_; refine x_next ?_; refine c_seq ?_; refine c_region ?_; refine w_pure (y_move rfl) rfl ?_; refine w_pure (y_ge rfl rfl) rfl ?_; refine w_pure (y_move rfl) rfl ?_; (refine w_part_dec rfl rfl (fun hc6 => ?_) (fun hc6 => ?_) <;> try (first | exact absurd rfl hc6 | contradiction | exact Bool.noConfusion (show false = true from hc6.symm.trans (by assumption)) | exact Bool.noConfusion (show true = false from hc6.symm.trans (by assumption)) | (exfalso; omega) | (exfalso; simp only [*, Bool.not_true, Bool.not_false, reduceCtorEq] at hc6; done))); refine w_yes rfl rfl ?_; refine w_pure (y_move rfl) rfl ?_; refine w_yes rfl rfl ?_; refine w_pure (y_le rfl rfl) rfl ?_; refine w_pure (y_pick_t rfl rfl) rfl ?_; refine w_pure (y_assign rfl) rfl ?_; refine w_nil ?_; refine x_next ?_; refine c_ret ?_; rotate_left; refine w_no rfl rfl rfl rfl ?_; refine w_no rfl rfl rfl rfl ?_; refine w_pure (y_pick_f rfl rfl) rfl ?_; refine w_pure (y_assign rfl) rfl ?_; refine w_nil ?_; refine x_next ?_; refine c_ret ?_; rotate_left
  all_goals refine x_retv [_] rfl ⟨rfl, trivial⟩ ⟨?_, rfl⟩
  all_goals simp [ofResults, *]
theorem l03Code_c (c : Int) (hc : 0 ≤ c ∧ c < 256 := by first | assumption | omega | exact chr_bd _) : Pur Tryz.prog 136 [.int .u8 c] (.int .i64 (codS c)) := by
  refine ⟨fun w => ?_⟩
  have hb := bitI_bd
  have hb4 := hb 1
  have hb5 := hb (c - 65 + 1)
  have hb6 := hb (c - 74 + 1)
  have hb7 := hb (c - 83 + 2)
  refine ret_enter Tryz.func136 rfl Tryz.ntmps136 rfl ?_
  focus refine c_seq ?_; refine c_region ?_; refine w_pure (y_assign rfl) rfl ?_; refine w_nil ?_; refine x_next ?_; refine c_seq ?_; refine c_region ?_; refine w_pure (y_move rfl) rfl ?_; refine w_pure (y_conv64 rfl) rfl ?_; refine w_pure (y_assign rfl) rfl ?_; refine w_nil ?_; refine x_next ?_; refine c_seq ?_; refine c_block ?_; refine c_seq ?_; refine c_region ?_; refine w_pure (y_move rfl) rfl ?_; refine w_pure (y_eq rfl rfl) rfl ?_; refine w_pure (y_assign rfl) rfl ?_; refine w_nil ?_; refine x_next ?_; (refine c_dec rfl (fun hc6 => ?_) (fun hc6 => ?_) <;> try (first | exact absurd rfl hc6 | contradiction | exact Bool.noConfusion (show false = true from hc6.symm.trans (by assumption)) | exact Bool.noConfusion (show true = false from hc6.symm.trans (by assumption)) | (exfalso; omega) | (exfalso; simp only [*, Bool.not_true, Bool.not_false, reduceCtorEq] at hc6; done))); refine c_seq ?_; refine c_region ?_; refine w_pure (y_assign rfl) rfl ?_; refine w_nil ?_; refine x_next ?_; refine c_ret ?_; refine x_block_ret ?_; refine x_then_ret ?_; rotate_left; refine c_seq ?_; refine c_region ?_; refine w_pure (y_move rfl) rfl ?_; refine w_pure (y_eq rfl rfl) rfl ?_; refine w_pure (y_assign rfl) rfl ?_; refine w_nil ?_; refine x_next ?_; (refine c_dec rfl (fun hc9 => ?_) (fun hc9 => ?_) <;> try (first | exact absurd rfl hc9 | contradiction | exact Bool.noConfusion (show false = true from hc9.symm.trans (by assumption)) | exact Bool.noConfusion (show true = false from hc9.symm.trans (by assumption)) | (exfalso; omega) | (exfalso; simp only [*, Bool.not_true, Bool.not_false, reduceCtorEq] at hc9; done))); refine c_seq ?_; refine c_region ?_; refine w_pure (y_assign rfl) rfl ?_; refine w_nil ?_; refine x_next ?_; refine c_ret ?_; refine x_block_ret ?_; refine x_then_ret ?_; rotate_left; refine c_seq ?_; refine c_region ?_; refine w_pure (y_move rfl) rfl ?_; refine w_pure (y_eq rfl rfl) rfl ?_; refine w_pure (y_assign rfl) rfl ?_; refine w_nil ?_; refine x_next ?_; (refine c_dec rfl (fun hc12 => ?_) (fun hc12 => ?_) <;> try (first | exact absurd rfl hc12 | contradiction | exact Bool.noConfusion (show false = true from hc12.symm.trans (by assumption)) | exact Bool.noConfusion (show true = false from hc12.symm.trans (by assumption)) | (exfalso; omega) | (exfalso; simp only [*, Bool.not_true, Bool.not_false, reduceCtorEq] at hc12; done))); refine c_seq ?_; refine c_region ?_; refine w_pure (y_assign rfl) rfl ?_; refine w_nil ?_; refine x_next ?_; refine c_ret ?_; refine x_block_ret ?_; refine x_then_ret ?_; rotate_left; refine c_seq ?_; refine c_region ?_; refine w_pure (y_move rfl) rfl ?_; refine w_pure (y_eq rfl rfl) rfl ?_; refine w_pure (y_assign rfl) rfl ?_; refine w_nil ?_; refine x_next ?_; (refine c_dec rfl (fun hc15 => ?_) (fun hc15 => ?_) <;> try (first | exact absurd rfl hc15 | contradiction | exact Bool.noConfusion (show false = true from hc15.symm.trans (by assumption)) | exact Bool.noConfusion (show true = false from hc15.symm.trans (by assumption)) | (exfalso; omega) | (exfalso; simp only [*, Bool.not_true, Bool.not_false, reduceCtorEq] at hc15; done))); refine c_seq ?_; refine c_region ?_; refine w_pur rfl rfl rfl (l02Bit_c _) rfl ?_; refine w_pure (y_or rfl rfl) rfl ?_; refine w_pure (y_assign rfl) rfl ?_; refine w_nil ?_; refine x_next ?_; refine c_ret ?_; refine x_block_ret ?_; refine x_then_ret ?_; rotate_left; refine c_seq ?_; refine c_region ?_; refine w_pure (y_move rfl) rfl ?_; refine w_pur rfl rfl rfl (l01Digit_c _) rfl ?_; refine w_pure (y_assign rfl) rfl ?_; refine w_nil ?_; refine x_next ?_; (refine c_dec rfl (fun hc20 => ?_) (fun hc20 => ?_) <;> try (first | exact absurd rfl hc20 | contradiction | exact Bool.noConfusion (show false = true from hc20.symm.trans (by assumption)) | exact Bool.noConfusion (show true = false from hc20.symm.trans (by assumption)) | (exfalso; omega) | (exfalso; simp only [*, Bool.not_true, Bool.not_false, reduceCtorEq] at hc20; done))); refine c_seq ?_; refine c_region ?_; refine w_pure (y_move rfl) rfl ?_; refine w_pure (y_sub rfl rfl) rfl ?_; refine w_pur rfl rfl rfl (l02Bit_c _) rfl ?_; refine w_pure (y_assign rfl) rfl ?_; refine w_nil ?_; refine x_next ?_; refine c_ret ?_; refine x_block_ret ?_; refine x_then_ret ?_; rotate_left; refine c_seq ?_; refine c_region ?_; refine w_pure (y_move rfl) rfl ?_; refine w_pure (y_ge rfl rfl) rfl ?_; refine w_pure (y_move rfl) rfl ?_; (refine w_part_dec rfl rfl (fun hc30 => ?_) (fun hc30 => ?_) <;> try (first | exact absurd rfl hc30 | contradiction | exact Bool.noConfusion (show false = true from hc30.symm.trans (by assumption)) | exact Bool.noConfusion (show true = false from hc30.symm.trans (by assumption)) | (exfalso; omega) | (exfalso; simp only [*, Bool.not_true, Bool.not_false, reduceCtorEq] at hc30; done))); refine w_yes rfl rfl ?_; refine w_pure (y_move rfl) rfl ?_; refine w_yes rfl rfl ?_; refine w_pure (y_le rfl rfl) rfl ?_; refine w_pure (y_pick_t rfl rfl) rfl ?_; refine w_pure (y_assign rfl) rfl ?_; refine w_nil ?_; refine x_next ?_; (refine c_dec rfl (fun hc26 => ?_) (fun hc26 => ?_) <;> try (first | exact absurd rfl hc26 | contradiction | exact Bool.noConfusion (show false = true from hc26.symm.trans (by assumption)) | exact Bool.noConfusion (show true = false from hc26.symm.trans (by assumption)) | (exfalso; omega) | (exfalso; simp only [*, Bool.not_true, Bool.not_false, reduceCtorEq] at hc26; done))); refine c_seq ?_; refine c_region ?_; refine w_pure (y_move rfl) rfl ?_; refine w_pure (y_sub rfl rfl) rfl ?_; refine w_pure (y_add rfl rfl) rfl ?_; refine w_pur rfl rfl rfl (l02Bit_c _) rfl ?_; refine w_pure (y_or rfl rfl) rfl ?_; refine w_pure (y_assign rfl) rfl ?_; refine w_nil ?_; refine x_next ?_; refine c_ret ?_; refine x_block_ret ?_; refine x_then_ret ?_; rotate_left; refine c_seq ?_; refine c_region ?_; refine w_pure (y_move rfl) rfl ?_; refine w_pure (y_ge rfl rfl) rfl ?_; refine w_pure (y_move rfl) rfl ?_; (refine w_part_dec rfl rfl (fun hc42 => ?_) (fun hc42 => ?_) <;> try (first | exact absurd rfl hc42 | contradiction | exact Bool.noConfusion (show false = true from hc42.symm.trans (by assumption)) | exact Bool.noConfusion (show true = false from hc42.symm.trans (by assumption)) | (exfalso; omega) | (exfalso; simp only [*, Bool.not_true, Bool.not_false, reduceCtorEq] at hc42; done))); refine w_yes rfl rfl ?_; refine w_pure (y_move rfl) rfl ?_; refine w_yes rfl rfl ?_; refine w_pure (y_le rfl rfl) rfl ?_; refine w_pure (y_pick_t rfl rfl) rfl ?_; refine w_pure (y_assign rfl) rfl ?_; refine w_nil ?_; refine x_next ?_; (refine c_dec rfl (fun hc38 => ?_) (fun hc38 => ?_) <;> try (first | exact absurd rfl hc38 | contradiction | exact Bool.noConfusion (show false = true from hc38.symm.trans (by assumption)) | exact Bool.noConfusion (show true = false from hc38.symm.trans (by assumption)) | (exfalso; omega) | (exfalso; simp only [*, Bool.not_true, Bool.not_false, reduceCtorEq] at hc38; done))); refine c_seq ?_; refine c_region ?_; refine w_pure (y_move rfl) rfl ?_; refine w_pure (y_sub rfl rfl) rfl ?_; refine w_pure (y_add rfl rfl) rfl ?_; refine w_pur rfl rfl rfl (l02Bit_c _) rfl ?_; refine w_pure (y_or rfl rfl) rfl ?_; refine w_pure (y_assign rfl) rfl ?_; refine w_nil ?_; refine x_next ?_; refine c_ret ?_; refine x_block_ret ?_; refine x_then_ret ?_; rotate_left; refine c_seq ?_; refine c_region ?_; refine w_pure (y_move rfl) rfl ?_; refine w_pure (y_ge rfl rfl) rfl ?_; refine w_pure (y_move rfl) rfl ?_; (refine w_part_dec rfl rfl (fun hc54 => ?_) (fun hc54 => ?_) <;> try (first | exact absurd rfl hc54 | contradiction | exact Bool.noConfusion (show false = true from hc54.symm.trans (by assumption)) | exact Bool.noConfusion (show true = false from hc54.symm.trans (by assumption)) | (exfalso; omega) | (exfalso; simp only [*, Bool.not_true, Bool.not_false, reduceCtorEq] at hc54; done))); refine w_yes rfl rfl ?_; refine w_pure (y_move rfl) rfl ?_; refine w_yes rfl rfl ?_; refine w_pure (y_le rfl rfl) rfl ?_; refine w_pure (y_pick_t rfl rfl) rfl ?_; refine w_pure (y_assign rfl) rfl ?_; refine w_nil ?_; refine x_next ?_; (refine c_dec rfl (fun hc50 => ?_) (fun hc50 => ?_) <;> try (first | exact absurd rfl hc50 | contradiction | exact Bool.noConfusion (show false = true from hc50.symm.trans (by assumption)) | exact Bool.noConfusion (show true = false from hc50.symm.trans (by assumption)) | (exfalso; omega) | (exfalso; simp only [*, Bool.not_true, Bool.not_false, reduceCtorEq] at hc50; done))); refine c_seq ?_; refine c_region ?_; refine w_pure (y_move rfl) rfl ?_; refine w_pure (y_sub rfl rfl) rfl ?_; refine w_pure (y_add rfl rfl) rfl ?_; refine w_pur rfl rfl rfl (l02Bit_c _) rfl ?_; refine w_pure (y_or rfl rfl) rfl ?_; refine w_pure (y_assign rfl) rfl ?_; refine w_nil ?_; refine x_next ?_; refine c_ret ?_; refine x_block_ret ?_; refine x_then_ret ?_; rotate_left; refine c_skip ?_; refine x_block_norm ?_; refine x_next ?_; refine c_seq ?_; refine c_region ?_; refine w_pure (y_assign rfl) rfl ?_; refine w_nil ?_; refine x_next ?_; refine c_ret ?_; rotate_left; refine w_no rfl rfl rfl rfl ?_; refine w_no rfl rfl rfl rfl ?_; refine w_pure (y_pick_f rfl rfl) rfl ?_; refine w_pure (y_assign rfl) rfl ?_; refine w_nil ?_; refine x_next ?_; refine c_false rfl ?_; refine c_seq ?_; refine c_region ?_; refine w_pure (y_move rfl) rfl ?_; refine w_pure (y_ge rfl rfl) rfl ?_; refine w_pure (y_move rfl) rfl ?_; (refine w_part_dec rfl rfl (fun hc42 => ?_) (fun hc42 => ?_) <;> try (first | exact absurd rfl hc42 | contradiction | exact Bool.noConfusion (show false = true from hc42.symm.trans (by assumption)) | exact Bool.noConfusion (show true = false from hc42.symm.trans (by assumption)) | (exfalso; omega) | (exfalso; simp only [*, Bool.not_true, Bool.not_false, reduceCtorEq] at hc42; done))); refine w_no rfl rfl rfl rfl ?_; refine w_no rfl rfl rfl rfl ?_; refine w_pure (y_pick_f rfl rfl) rfl ?_; refine w_pure (y_assign rfl) rfl ?_; refine w_nil ?_; refine x_next ?_; refine c_false rfl ?_; refine c_seq ?_; refine c_region ?_; refine w_pure (y_move rfl) rfl ?_; refine w_pure (y_ge rfl rfl) rfl ?_; refine w_pure (y_move rfl) rfl ?_; (refine w_part_dec rfl rfl (fun hc54 => ?_) (fun hc54 => ?_) <;> try (first | exact absurd rfl hc54 | contradiction | exact Bool.noConfusion (show false = true from hc54.symm.trans (by assumption)) | exact Bool.noConfusion (show true = false from hc54.symm.trans (by assumption)) | (exfalso; omega) | (exfalso; simp only [*, Bool.not_true, Bool.not_false, reduceCtorEq] at hc54; done))); refine w_no rfl rfl rfl rfl ?_; refine w_no rfl rfl rfl rfl ?_; refine w_pure (y_pick_f rfl rfl) rfl ?_; refine w_pure (y_assign rfl) rfl ?_; refine w_nil ?_; refine x_next ?_; refine c_false rfl ?_; refine c_skip ?_; refine x_block_norm ?_; refine x_next ?_; refine c_seq ?_; refine c_region ?_; refine w_pure (y_assign rfl) rfl ?_; refine w_nil ?_; refine x_next ?_; refine c_ret ?_; rotate_left
  all_goals refine x_retv [_] rfl ⟨rfl, trivial⟩ ⟨?_, rfl⟩
  all_goals (refine congrArg (Value.int .i64) ?_; unfold codS; repeat (first | rw [if_pos (by omega)] | rw [if_neg (by omega)]))
theorem l03Order_c : Pur Tryz.prog 137 [] (str chL) := by
  refine ⟨fun w => ?_⟩
  refine ret_enter Tryz.func137 rfl Tryz.ntmps137 rfl ?_
  focus refine c_seq ?_; refine c_region ?_; refine w_pure (y_assign rfl) rfl ?_; refine w_nil ?_; refine x_next ?_; refine c_seq ?_; refine c_region ?_; refine w_pure (y_assign rfl) rfl ?_; refine w_nil ?_; refine x_next ?_; refine c_ret ?_; rotate_left
  exact x_retv [_] rfl ⟨rfl, trivial⟩ ⟨rfl, rfl⟩
end
end Go.Proofs.YticnemjjjceiaaaGreatDoor
/- TabA -/
namespace Go.Proofs.YticnemjjjceiaaaGreatDoor
open Go Go.Gw
set_option linter.unusedVariables false
set_option linter.unusedSimpArgs false
/-- the number of card i in a field -/
def nmF (xss : List (List Int)) (p : Int × Int) (i : Nat) : Int × Bool := numL (prt (xss.getD i []) p.1 p.2)
/-- the sum of the first i cards -/
def sumC (xss : List (List Int)) (p : Int × Int) : Nat → Int
  | 0 => 0
  | i + 1 => sumC xss p i + (nmF xss p i).1
def okN (xss : List (List Int)) (ps : List (Int × Int)) : Bool := decide (∀ k, k < ps.length → ∀ i, i < xss.length → (nmF xss (ps.getD k (0, 0)) i).2 = true)
theorem okN_at {xss : List (List Int)} {ps : List (Int × Int)} (h : okN xss ps = true) {k i : Nat} (hk : k < ps.length) (hi : i < xss.length) : (nmF xss (ps.getD k (0, 0)) i).2 = true := of_decide_eq_true h k hk i hi
theorem okN_no {xss : List (List Int)} {ps : List (Int × Int)} {k i : Nat} (hk : k < ps.length) (hi : i < xss.length) (h : (nmF xss (ps.getD k (0, 0)) i).2 = false) : okN xss ps = false := by
  cases hh : okN xss ps
  · rfl
  · rw [okN_at hh hk hi] at h; cases h
theorem okN_yes {xss : List (List Int)} {ps : List (Int × Int)} (h : ∀ k, k < ps.length → ∀ i, i < xss.length → (nmF xss (ps.getD k (0, 0)) i).2 = true) : okN xss ps = true := decide_eq_true h
attribute [irreducible] okN
def sumL (xss : List (List Int)) (ps : List (Int × Int)) : List Int := ps.map fun p => sumC xss p xss.length
def sumR (xss : List (List Int)) (ps : List (Int × Int)) (a b : Int) : List Int := ps.map fun p => sumC xss p b.toNat - sumC xss p a.toNat
theorem sumL_len (xss : List (List Int)) (ps : List (Int × Int)) : (sumL xss ps).length = ps.length := by simp [sumL]
theorem sumR_len (xss : List (List Int)) (ps : List (Int × Int)) (a b : Int) : (sumR xss ps a b).length = ps.length := by simp [sumR]
theorem sumL_get {xss : List (List Int)} {ps : List (Int × Int)} {k : Nat} (h : k < ps.length) : (sumL xss ps)[k]? = some (sumC xss (ps.getD k (0, 0)) xss.length) := by simp [sumL, List.getD_eq_getElem?_getD, h]
theorem sumR_get {xss : List (List Int)} {ps : List (Int × Int)} {a b : Int} {k : Nat} (h : k < ps.length) : (sumR xss ps a b)[k]? = some (sumC xss (ps.getD k (0, 0)) b.toNat - sumC xss (ps.getD k (0, 0)) a.toNat) := by simp [sumR, List.getD_eq_getElem?_getD, h]
theorem sumL_R (xss : List (List Int)) (ps : List (Int × Int)) : sumR xss ps 0 xss.length = sumL xss ps := by
  simp [sumR, sumL, sumC]
/-- cards of so many columns, and fields for numbers among these -/
structure TabOK (xss : List (List Int)) (ps : List (Int × Int)) (W : Int) : Prop where
  wid : 1 ≤ W ∧ W ≤ 20
  len : xss.length ≤ 40
  pl : ps.length ≤ 4
  cd : ∀ i, i < xss.length → okK (xss.getD i []) = true ∧ ((xss.getD i []).length : Int) = W
  fd : ∀ k, k < ps.length → (0 ≤ (ps.getD k (0, 0)).1 ∧ (ps.getD k (0, 0)).1 < (ps.getD k (0, 0)).2 ∧ (ps.getD k (0, 0)).2 ≤ W) ∧ (ps.getD k (0, 0)).2 - (ps.getD k (0, 0)).1 ≤ 12
theorem TabOK.of {xss : List (List Int)} {ps : List (Int × Int)} {g h : Int} (hd : okD xss = true) (hs : okSet g h ps (widD xss) = true) : TabOK xss ps (widD xss) :=
  ⟨widD_bd hd, okD_len hd, (okSet_at hs).1.2.2, fun i hi => ⟨(okD_at hd i hi).1, widD_at hd i hi⟩, (okSet_at hs).2⟩
section
variable {xss : List (List Int)} {ps : List (Int × Int)} {W : Int}
theorem TabOK.sub (h : TabOK xss ps W) (a b : Nat) : TabOK ((xss.take b).drop a) ps W :=
  ⟨h.wid, by have := h.len; simp only [List.length_drop, List.length_take]; omega, h.pl, fun i hi => by
    rw [drop_take_getD hi]
    exact h.cd _ (by simp only [List.length_drop, List.length_take] at hi; omega), h.fd⟩
theorem TabOK.one (h : TabOK xss ps W) {i : Nat} (hi : i < xss.length) : TabOK [xss.getD i []] ps W :=
  ⟨h.wid, by simp, h.pl, fun j hj => by
    obtain rfl : j = 0 := by simpa using hj
    exact h.cd i hi, h.fd⟩
theorem TabOK.nm (h : TabOK xss ps W) {k i : Nat} (hk : k < ps.length) (hi : i < xss.length) : -999999999999 ≤ (nmF xss (ps.getD k (0, 0)) i).1 ∧ (nmF xss (ps.getD k (0, 0)) i).1 ≤ 999999999999 := by
  refine numL_bd ?_
  have h1 := h.fd k hk
  have h2 := h.cd i hi
  have := prt_len (xs := xss.getD i []) (f := (ps.getD k (0, 0)).1) (t := (ps.getD k (0, 0)).2) (by omega)
  omega
theorem TabOK.sum (h : TabOK xss ps W) {k : Nat} (hk : k < ps.length) : ∀ i, i ≤ xss.length → -(999999999999 * i) ≤ sumC xss (ps.getD k (0, 0)) i ∧ sumC xss (ps.getD k (0, 0)) i ≤ 999999999999 * i
  | 0, _ => by simp [sumC]
  | i + 1, hi => by
    have h1 := h.sum hk i (by omega)
    have h2 := h.nm hk (i := i) (by omega)
    simp only [sumC]; omega
theorem TabOK.sum64 (h : TabOK xss ps W) {k : Nat} (hk : k < ps.length) {i : Nat} (hi : i ≤ xss.length) : -40000000000000 ≤ sumC xss (ps.getD k (0, 0)) i ∧ sumC xss (ps.getD k (0, 0)) i ≤ 40000000000000 := by
  have h1 := h.sum hk i hi
  have h2 := h.len
  omega
theorem TabOK.in64 (h : TabOK xss ps W) : ∀ n ∈ sumL xss ps, In64 n := fun n hn => by
  obtain ⟨p, hp, rfl⟩ := List.mem_map.1 hn
  obtain ⟨j, hj, rfl⟩ := List.mem_iff_getElem.1 hp
  have := h.sum64 hj (Nat.le_refl _)
  rw [List.getD_eq_getElem?_getD, List.getElem?_eq_getElem hj] at this
  exact ⟨by simp only [Option.getD_some] at this; omega, by simp only [Option.getD_some] at this; omega⟩
theorem sumC_sub (p : Int × Int) {a b : Nat} (hb : b ≤ xss.length) : ∀ j, a + j ≤ b → sumC ((xss.take b).drop a) p j = sumC xss p (a + j) - sumC xss p a
  | 0, _ => by simp [sumC]
  | j + 1, hj => by
    have h1 := sumC_sub (a := a) p hb j (by omega)
    have e : nmF ((xss.take b).drop a) p j = nmF xss p (a + j) := by
      unfold nmF; rw [drop_take_getD (xs := xss) (a := a) (b := b) (i := j) (by simp only [List.length_drop, List.length_take]; omega)]
    rw [← Nat.add_assoc, sumC, sumC, h1, e]; omega
theorem sumL_sub {a b : Int} (h : 0 ≤ a ∧ a ≤ b ∧ b ≤ xss.length) : sumL ((xss.take b.toNat).drop a.toNat) ps = sumR xss ps a b := by
  have e : ((xss.take b.toNat).drop a.toNat).length = b.toNat - a.toNat := by simp only [List.length_drop, List.length_take]; omega
  unfold sumL sumR
  refine List.map_congr_left fun p _ => ?_
  rw [e, sumC_sub p (by omega) _ (by omega), show a.toNat + (b.toNat - a.toNat) = b.toNat by omega]
theorem okN_sub {a b : Nat} (h : okN xss ps = true) : okN ((xss.take b).drop a) ps = true := okN_yes fun k hk i hi => by
  have := okN_at h hk (i := a + i) (by simp only [List.length_drop, List.length_take] at hi; omega)
  unfold nmF at this ⊢
  rwa [drop_take_getD hi]
theorem okN_one {i : Nat} (h : okN xss ps = true) (hi : i < xss.length) : okN [xss.getD i []] ps = true := okN_yes fun k hk j hj => by
  obtain rfl : j = 0 := by simpa using hj
  exact okN_at h hk hi
end
/-! ### Groups -/
/-- the places up to n at which p holds -/
def hdG (p : Nat → Bool) : Nat → List Int
  | 0 => []
  | i + 1 => if p i = true then hdG p i ++ [(i : Int)] else hdG p i
theorem hdG_congr {p q : Nat → Bool} : ∀ n, (∀ i, i < n → p i = q i) → hdG p n = hdG q n
  | 0, _ => rfl
  | n + 1, h => by rw [hdG, hdG, hdG_congr n (fun i hi => h i (by omega)), h n (by omega)]
theorem hdG_len (p : Nat → Bool) : ∀ n, (hdG p n).length ≤ n
  | 0 => Nat.le_refl _
  | n + 1 => by
    have := hdG_len p n
    rw [hdG]; split
    · simp; omega
    · omega
theorem hdG_bd (p : Nat → Bool) : ∀ n i, i < (hdG p n).length → 0 ≤ (hdG p n).getD i 0 ∧ (hdG p n).getD i 0 < n ∧ (i + 1 < (hdG p n).length → (hdG p n).getD i 0 < (hdG p n).getD (i + 1) 0)
  | 0, i, h => by simp [hdG] at h
  | n + 1, i, h => by
    have ih := hdG_bd p n
    rw [hdG] at h ⊢
    split at h
    · rename_i hp
      rw [if_pos hp]
      by_cases hi : i < (hdG p n).length
      · rw [getD_append_lt hi]
        have h1 := ih i hi
        refine ⟨h1.1, by omega, fun h2 => ?_⟩
        by_cases h3 : i + 1 < (hdG p n).length
        · rw [getD_append_lt h3]; exact h1.2.2 h3
        · rw [getD_append_eq (by simp at h2; omega)]; omega
      · have e : i = (hdG p n).length := by simp at h; omega
        rw [getD_append_eq e]
        exact ⟨by omega, by omega, fun h2 => by simp at h2; omega⟩
    · rename_i hp
      rw [if_neg hp]
      have h1 := ih i h
      exact ⟨h1.1, by omega, h1.2.2⟩
/-- where the first element is marked it comes first -/
theorem hdG_zero {p : Nat → Bool} (h : p 0 = true) : ∀ n, 0 < n → 0 < (hdG p n).length ∧ (hdG p n).getD 0 0 = 0
  | 1, _ => by simp [hdG, h]
  | n + 2, _ => by
    have ih := hdG_zero h (n + 1) (by omega)
    rw [hdG]; split
    · exact ⟨by simp, by rw [getD_append_lt ih.1]; exact ih.2⟩
    · exact ih
/-- card i begins a group -/
def isHd (xss : List (List Int)) (f t : Int) (i : Nat) : Bool := decide (i = 0 ∨ ¬ prt (xss.getD (i - 1) []) f t = prt (xss.getD i []) f t)
def hdL (xss : List (List Int)) (f t : Int) : List Int := hdG (isHd xss f t) xss.length
theorem hdL_len (xss : List (List Int)) (f t : Int) : (hdL xss f t).length ≤ xss.length := hdG_len _ _
/-- the index behind the last card of group i -/
def toI (n : Nat) (hs : List Int) (i : Nat) : Int := if i + 1 < hs.length then hs.getD (i + 1) 0 else n
theorem hdL_bd {xss : List (List Int)} {f t : Int} {i : Nat} (h : i < (hdL xss f t).length) : 0 ≤ (hdL xss f t).getD i 0 ∧ (hdL xss f t).getD i 0 < toI xss.length (hdL xss f t) i ∧ toI xss.length (hdL xss f t) i ≤ xss.length := by
  have h1 := hdG_bd (isHd xss f t) xss.length i h
  have h2 := hdG_bd (isHd xss f t) xss.length (i + 1)
  unfold toI
  split
  · rename_i hh
    have h3 := h2 hh
    exact ⟨h1.1, h1.2.2 hh, Int.le_of_lt h3.2.1⟩
  · exact ⟨h1.1, h1.2.1, by omega⟩
/-- the fields' texts -/
def keysL (xss : List (List Int)) (f t : Int) : List (List UInt8) := xss.map fun c => textL (prt c f t)
theorem keysL_len (xss : List (List Int)) (f t : Int) : (keysL xss f t).length = xss.length := by simp [keysL]
theorem keysL_get {xss : List (List Int)} {f t : Int} {i : Nat} (h : i < xss.length) : (keysL xss f t)[i]? = some (textL (prt (xss.getD i []) f t)) := by simp [keysL, List.getD_eq_getElem?_getD, h]
theorem keysL_getD {xss : List (List Int)} {f t : Int} {i : Nat} (h : i < xss.length) : (keysL xss f t).getD i [] = textL (prt (xss.getD i []) f t) := by rw [List.getD_eq_getElem?_getD, keysL_get h]; rfl
/-- all fields have characters -/
def okF (xss : List (List Int)) (f t : Int) : Bool := decide (∀ i, i < xss.length → okT (prt (xss.getD i []) f t) = true)
theorem okF_at {xss : List (List Int)} {f t : Int} (h : okF xss f t = true) {i : Nat} (hi : i < xss.length) : okT (prt (xss.getD i []) f t) = true := of_decide_eq_true h i hi
theorem okF_no {xss : List (List Int)} {f t : Int} {i : Nat} (hi : i < xss.length) (h : okT (prt (xss.getD i []) f t) = false) : okF xss f t = false := by
  cases hh : okF xss f t
  · rfl
  · rw [okF_at hh hi] at h; cases h
theorem okF_yes {xss : List (List Int)} {f t : Int} (h : ∀ i, i < xss.length → okT (prt (xss.getD i []) f t) = true) : okF xss f t = true := decide_eq_true h
theorem okF_def (xss : List (List Int)) (f t : Int) : okF xss f t = decide (∀ i, i < xss.length → okT (prt (xss.getD i []) f t) = true) := rfl
attribute [irreducible] okF
/-- a text begins a group -/
def isHk (ks : List (List UInt8)) (i : Nat) : Bool := decide (i = 0 ∨ ¬ ks.getD i [] = ks.getD (i - 1) [])
theorem hdL_keys {xss : List (List Int)} {f t : Int} (h : okF xss f t = true) : hdG (isHk (keysL xss f t)) xss.length = hdL xss f t := by
  refine hdG_congr _ fun i hi => ?_
  unfold isHk isHd
  refine decide_eq_decide.2 ?_
  rcases Nat.eq_zero_or_pos i with h0 | h0
  · exact ⟨fun _ => .inl h0, fun _ => .inl h0⟩
  · rw [keysL_getD hi, keysL_getD (by omega)]
    have a1 := okF_at h hi
    have a2 := okF_at h (i := i - 1) (by omega)
    constructor
    · rintro (h1 | h1)
      · exact .inl h1
      · exact .inr fun e => h1 (by rw [e])
    · rintro (h1 | h1)
      · exact .inl h1
      · exact .inr fun e => h1 (textL_inj a1 a2 e).symm
/-- the code of a setup and a deck -/
def cTab (g h : Int) (ps : List (Int × Int)) (xss : List (List Int)) : Int :=
  if okD xss = true then (if okSet g h ps (widD xss) = true then (if okN xss ps = true ∧ okF xss g h = true then 0 else 8) else 2) else 1
section
variable {g h : Int} {ps : List (Int × Int)} {xss : List (List Int)}
theorem cTab_1 (h1 : okD xss = false) : cTab g h ps xss = 1 := by simp [cTab, h1]
theorem cTab_2 (h1 : okD xss = true) (h2 : okSet g h ps (widD xss) = false) : cTab g h ps xss = 2 := by simp [cTab, h1, h2]
theorem cTab_8 (h1 : okD xss = true) (h2 : okSet g h ps (widD xss) = true) (h3 : okN xss ps = false ∨ okF xss g h = false) : cTab g h ps xss = 8 := by
  rw [cTab, if_pos h1, if_pos h2, if_neg]
  rintro ⟨a, b⟩
  rcases h3 with h3 | h3
  · rw [h3] at a; cases a
  · rw [h3] at b; cases b
theorem cTab_0 (h1 : okD xss = true) (h2 : okSet g h ps (widD xss) = true) (h3 : okN xss ps = true) (h4 : okF xss g h = true) : cTab g h ps xss = 0 := by
  rw [cTab, if_pos h1, if_pos h2, if_pos ⟨h3, h4⟩]
theorem cTab_ok (h0 : cTab g h ps xss = 0) : okD xss = true ∧ okSet g h ps (widD xss) = true ∧ okN xss ps = true ∧ okF xss g h = true := by
  cases h1 : okD xss
  · rw [cTab_1 h1] at h0; cases h0
  cases h2 : okSet g h ps (widD xss)
  · rw [cTab_2 h1 h2] at h0; cases h0
  cases h3 : okN xss ps
  · rw [cTab_8 h1 h2 (.inl h3)] at h0; cases h0
  cases h4 : okF xss g h
  · rw [cTab_8 h1 h2 (.inr h4)] at h0; cases h0
  exact ⟨rfl, rfl, rfl, rfl⟩
end
end Go.Proofs.YticnemjjjceiaaaGreatDoor
/- TabB -/
namespace Go.Proofs.YticnemjjjceiaaaGreatDoor
open Go Go.Gw
set_option linter.unusedVariables false
set_option linter.unusedSimpArgs false
def idxN (p : Nat → Bool) (n i : Nat) : Int := if h : i < n then (if p i = true then (i : Int) else idxN p n (i + 1)) else -1
termination_by n - i
theorem idxN_hit {p : Nat → Bool} {n i : Nat} (h : i < n) (e : p i = true) : idxN p n i = i := by rw [idxN, dif_pos h, if_pos e]
theorem idxN_on {p : Nat → Bool} {n i : Nat} (h : i < n) (e : p i = false) : idxN p n i = idxN p n (i + 1) := by rw [idxN, dif_pos h, if_neg (by rw [e]; decide)]
theorem idxN_end {p : Nat → Bool} {n i : Nat} (h : ¬ i < n) : idxN p n i = -1 := by rw [idxN, dif_neg h]
theorem idxN_all (p : Nat → Bool) (n : Nat) : ∀ (k i : Nat), n - i ≤ k → (0 ≤ idxN p n i ↔ ¬ ∀ j, i ≤ j → j < n → p j = false)
  | 0, i, hk => by
    rw [idxN_end (by omega)]
    exact ⟨fun h => absurd h (by omega), fun h => absurd (fun j h1 h2 => by omega) h⟩
  | k + 1, i, hk => by
    by_cases h : i < n
    · cases e : p i
      · rw [idxN_on h e, idxN_all p n k (i + 1) (by omega)]
        refine not_congr ⟨fun hh j h1 h2 => ?_, fun hh j h1 h2 => hh j (by omega) h2⟩
        by_cases ej : j = i
        · subst ej; exact e
        · exact hh j (by omega) h2
      · rw [idxN_hit h e]
        exact ⟨fun _ hh => (by have h9 := hh i (Nat.le_refl _) h; rw [e] at h9; exact absurd h9 (by decide)), fun _ => by omega⟩
    · rw [idxN_end h]
      exact ⟨fun h => absurd h (by omega), fun hh => absurd (fun j h1 h2 => by omega) hh⟩
theorem idxN_any (p : Nat → Bool) (n : Nat) : decide (0 ≤ idxN p n 0) = !decide (∀ j, j < n → p j = false) := by
  rw [← decide_not]
  refine decide_eq_decide.2 ((idxN_all p n n 0 (by omega)).trans (not_congr ⟨fun h j hj => h j (Nat.zero_le _) hj, fun h j _ hj => h j hj⟩))
theorem isHd_iff {xss : List (List Int)} {f t i : Int} (h0 : 0 ≤ i) (h1 : 0 ≤ f ∧ f < t ∧ t ≤ (xss.getD i.toNat []).length) (h2 : 0 ≤ f ∧ f < t ∧ t ≤ (xss.getD (i - 1).toNat []).length) (hk : okT (prt (xss.getD (i - 1).toNat []) f t) = true) :
    isHd xss f t i.toNat = decide (i = 0 ∨ ¬ cmpF (prt (xss.getD (i - 1).toNat []) f t) (prt (xss.getD i.toNat []) f t) 0 = 0) := by
  have a1 := prt_len h1
  have a2 := prt_len h2
  have e := cmp_eq (xs := prt (xss.getD (i - 1).toNat []) f t) (ys := prt (xss.getD i.toNat []) f t) (by omega) hk
  unfold isHd
  refine decide_eq_decide.2 ?_
  rw [e, show i.toNat - 1 = (i - 1).toNat by omega, show i.toNat = 0 ↔ i = 0 by omega]
theorem isHk_iff {ks : List (List UInt8)} {i : Int} (h0 : 0 ≤ i) : isHk ks i.toNat = decide (i = 0 ∨ ¬ ks.getD i.toNat [] = ks.getD (i - 1).toNat []) := by
  unfold isHk
  refine decide_eq_decide.2 ?_
  rw [show i.toNat - 1 = (i - 1).toNat by omega, show i.toNat = 0 ↔ i = 0 by omega]
theorem hdG_put {p : Nat → Bool} {i : Nat} (h : p i = true) : hdG p (i + 1) = hdG p i ++ [(i : Int)] := by rw [hdG, if_pos h]
theorem hdG_pass {p : Nat → Bool} {i : Nat} (h : p i = false) : hdG p (i + 1) = hdG p i := by rw [hdG, if_neg (by rw [h]; decide)]
section
variable {w : World} {lo hi lo' hi' l2 h2 e b o : Nat} {v v' v2 : Value} {xs ys : List Int} {ps : List (Int × Int)} {xss : List (List Int)} {svs gs : List SV} {f t W : Int}
end
end Go.Proofs.YticnemjjjceiaaaGreatDoor
/- TabC -/
namespace Go.Proofs.YticnemjjjceiaaaGreatDoor
open Go Go.Gw
set_option linter.unusedVariables false
set_option linter.unusedSimpArgs false
/-- the numbers of all cards -/
def rowAt (xss : List (List Int)) (ps : List (Int × Int)) (i : Nat) : List Int := ps.map fun p => (nmF xss p i).1
def rowsL (xss : List (List Int)) (ps : List (Int × Int)) : List (List Int) := (List.range xss.length).map (rowAt xss ps)
theorem rowAt_len (xss : List (List Int)) (ps : List (Int × Int)) (i : Nat) : (rowAt xss ps i).length = ps.length := by simp [rowAt]
theorem rowAt_get {xss : List (List Int)} {ps : List (Int × Int)} {i k : Nat} (h : k < ps.length) : (rowAt xss ps i)[k]? = some (nmF xss (ps.getD k (0, 0)) i).1 := by simp [rowAt, List.getD_eq_getElem?_getD, h]
theorem rowAt_getD {xss : List (List Int)} {ps : List (Int × Int)} {i k : Nat} (h : k < ps.length) : (rowAt xss ps i).getD k 0 = (nmF xss (ps.getD k (0, 0)) i).1 := by rw [List.getD_eq_getElem?_getD, rowAt_get h]; rfl
theorem rowsL_len (xss : List (List Int)) (ps : List (Int × Int)) : (rowsL xss ps).length = xss.length := by simp [rowsL]
theorem rowsL_get {xss : List (List Int)} {ps : List (Int × Int)} {i : Nat} (h : i < xss.length) : (rowsL xss ps)[i]? = some (rowAt xss ps i) := by simp [rowsL, h]
theorem rowsL_getD {xss : List (List Int)} {ps : List (Int × Int)} {i : Nat} (h : i < xss.length) : (rowsL xss ps).getD i [] = rowAt xss ps i := by rw [List.getD_eq_getElem?_getD, rowsL_get h]; rfl
theorem sumR_same (xss : List (List Int)) (ps : List (Int × Int)) (a : Int) : sumR xss ps a a = List.replicate ps.length 0 := by
  unfold sumR
  rw [List.eq_replicate_iff]
  refine ⟨by simp, fun x hx => ?_⟩
  obtain ⟨p, _, rfl⟩ := List.mem_map.1 hx
  omega
/-- groups that are parts of a deck -/
structure GrE (w : World) (lo hi : Nat) (svs : List SV) (xss : List (List Int)) (hs : List Int) (gs : List SV) : Prop where
  len : gs.length ≤ hs.length
  el : ∀ i, i < gs.length → SLL w lo hi ((svs.take (toI xss.length hs i).toNat).drop (hs.getD i 0).toNat) (svD gs i) ((xss.take (toI xss.length hs i).toNat).drop (hs.getD i 0).toNat)
section
variable {w w' : World} {lo hi l2 h2 b o e : Nat} {v v2 u : Value} {ps : List (Int × Int)} {xss : List (List Int)} {svs gs : List SV} {g h W : Int} {dt : Bool} {hs : List Int}
theorem GrE.chg {l k : Nat} (h : GrE w lo hi svs xss hs gs) (hx : Chg l k w w') (ho : k ≤ lo ∨ hi ≤ l) : GrE w' lo hi svs xss hs gs := ⟨h.len, fun i hi => (h.el i hi).chg hx ho⟩
theorem GrE.ext (h : GrE w lo hi svs xss hs gs) (hx : Ext w w') : GrE w' lo hi svs xss hs gs := h.chg hx (.inl (Nat.zero_le _))
theorem GrE.nil (w : World) (lo hi : Nat) (svs : List SV) (xss : List (List Int)) (hs : List Int) : GrE w lo hi svs xss hs [] := ⟨Nat.zero_le _, fun i hi => by simp at hi⟩
theorem GrE.push {a c : Int} (h : GrE w lo hi svs xss hs gs) (hg : gs.length < hs.length) (ha : a = hs.getD gs.length 0) (hc : c = toI xss.length hs gs.length) (hu : SLL w lo hi ((svs.take c.toNat).drop a.toNat) u ((xss.take c.toNat).drop a.toNat)) : GrE w lo hi svs xss hs (gs ++ [svOf u]) := by
  subst ha; subst hc
  refine ⟨by simp; omega, fun i hi => ?_⟩
  by_cases hi' : i < gs.length
  · rw [svD_append_lt hi']; exact h.el i hi'
  · have e : i = gs.length := by simp at hi; omega
    rw [svD_append_eq e, svOf_v hu.out, e]; exact hu
end
end Go.Proofs.YticnemjjjceiaaaGreatDoor
/- TabD -/
namespace Go.Proofs.YticnemjjjceiaaaGreatDoor
open Go Go.Gw
set_option linter.unusedVariables false
set_option linter.unusedSimpArgs false
def resCyc (g h : Int) (ps : List (Int × Int)) (xss : List (List Int)) : Int := if cTab g h ps xss = 0 then (xss.length : Int) + (hdL xss g h).length + 1 else 0
def resBrk (g h : Int) (ps : List (Int × Int)) (xss : List (List Int)) : Int := if cTab g h ps xss = 0 then max (((hdL xss g h).length : Int) - 1) 0 else 0
def resGra (g h : Int) (ps : List (Int × Int)) (xss : List (List Int)) : List Int := if cTab g h ps xss = 0 then sumL xss ps else []
theorem resGra_len (g h : Int) (ps : List (Int × Int)) (xss : List (List Int)) : (resGra g h ps xss).length ≤ ps.length := by
  unfold resGra; split
  · rw [sumL_len]; exact Nat.le_refl _
  · simp
/-- the names of the first n groups -/
def namG (xss : List (List Int)) (g h : Int) : List (List UInt8) := (List.range (hdL xss g h).length).map fun i => textL (prt (xss.getD ((hdL xss g h).getD i 0).toNat []) g h)
theorem namG_len (xss : List (List Int)) (g h : Int) : (namG xss g h).length = (hdL xss g h).length := by simp [namG]
theorem namG_get {xss : List (List Int)} {g h : Int} {i : Nat} (hi : i < (hdL xss g h).length) : (namG xss g h)[i]? = some (textL (prt (xss.getD ((hdL xss g h).getD i 0).toNat []) g h)) := by simp [namG, hi]
def resNam (g h : Int) (ps : List (Int × Int)) (xss : List (List Int)) : List (List UInt8) := if cTab g h ps xss = 0 then namG xss g h else []
theorem resNam_len (g h : Int) (ps : List (Int × Int)) (xss : List (List Int)) : (resNam g h ps xss).length ≤ 40 := by
  unfold resNam; split
  · rename_i hc
    have := okD_len (cTab_ok hc).1
    have := hdL_len xss g h
    rw [namG_len]; omega
  · simp
/-- the sums of all groups -/
def sumG (xss : List (List Int)) (ps : List (Int × Int)) (g h : Int) : List (List Int) := (List.range (hdL xss g h).length).map fun i => sumR xss ps ((hdL xss g h).getD i 0) (toI xss.length (hdL xss g h) i)
theorem sumG_len (xss : List (List Int)) (ps : List (Int × Int)) (g h : Int) : (sumG xss ps g h).length = (hdL xss g h).length := by simp [sumG]
theorem sumG_get {xss : List (List Int)} {ps : List (Int × Int)} {g h : Int} {i : Nat} (hi : i < (hdL xss g h).length) : (sumG xss ps g h)[i]? = some (sumR xss ps ((hdL xss g h).getD i 0) (toI xss.length (hdL xss g h) i)) := by simp [sumG, hi]
def resGrp (g h : Int) (ps : List (Int × Int)) (xss : List (List Int)) : List (List Int) := if cTab g h ps xss = 0 then sumG xss ps g h else []
theorem totD_le {xss : List (List Int)} (m : Nat) (h : ∀ i, i < xss.length → (xss.getD i []).length ≤ m) : ∀ i, i ≤ xss.length → tot xss i ≤ m * i
  | 0, _ => by simp [tot_zero]
  | i + 1, hi => by
    have h1 := totD_le m h i (by omega)
    have hp2 := h i (by omega)
    rw [tot_succ (by omega), Nat.mul_succ]; omega
theorem resGrp_bd (g h : Int) (ps : List (Int × Int)) (xss : List (List Int)) : (resGrp g h ps xss).length ≤ 40 ∧ totD (resGrp g h ps xss) ≤ 160 := by
  unfold resGrp; split
  · rename_i hc
    have h1 := okD_len (cTab_ok hc).1
    have h2 := hdL_len xss g h
    have h3 := (okSet_at (cTab_ok hc).2.1).1.2.2
    have h4 := totD_le (xss := sumG xss ps g h) 4 (fun i hi => by
      rw [sumG_len] at hi
      rw [List.getD_eq_getElem?_getD, sumG_get hi]
      simp only [Option.getD_some, sumR_len]; omega) _ (Nat.le_refl _)
    rw [sumG_len] at h4 ⊢
    unfold totD; rw [sumG_len]; omega
  · simp [totD, tot]
section
variable {w : World} {lo hi lp hp b o e : Nat} {v vp u : Value} {ps : List (Int × Int)} {xss : List (List Int)} {svs gs : List SV} {g h W : Int} {dt : Bool}
end
end Go.Proofs.YticnemjjjceiaaaGreatDoor
/- SmpA -/
namespace Go.Proofs.YticnemjjjceiaaaGreatDoor
open Go Go.Gw
set_option linter.unusedVariables false
set_option linter.unusedSimpArgs false
def codL (p : List UInt8) : List Int := p.map fun c => codS (c.toNat : Int)
theorem codL_len (p : List UInt8) : (codL p).length = p.length := by simp [codL]
theorem codL_get {p : List UInt8} {i : Nat} (h : i < p.length) : (codL p)[i]? = some (codS ((p.getD i 0).toNat : Int)) := by simp [codL, List.getD_eq_getElem?_getD, h]
section
variable {w : World} {lo hi b : Nat} {B : Int}
theorem l03Card_c (p : List UInt8) (hl : p.length ≤ 20 := by first | omega | (simp only [List.length_append, List.length_cons, List.length_nil]; omega)) : Ret Tryz.prog 111 [str p] w fun u w' => ∃ d, u = .agg #[d] ∧ Own w' 2 w.heap.size d (codL p) ∧ Ext w w' := by
  have hcl := codL_len p
  have E : Since 0 0 w w := Since.refl 0 0 w
  refine ret_enter Tryz.func111 rfl Tryz.ntmps111 rfl ?_
  focus refine c_seq ?_; refine c_region ?_; refine w_alloc (k := fun b2 w2 hb2 hx2 hl2 hs2 => ?_); have hz_hx2 := hx2.size; replace E := E.trans hx2; refine w_nil ?_; refine x_next ?_; refine c_seq ?_; refine c_region ?_; refine w_pure (y_build rfl) rfl ?_; refine w_alloc (k := fun b3 w3 hb3 hx3 hl3 hs3 => ?_); have hz_hx3 := hx3.size; replace hb2 := hb2.ext hx3; replace E := E.trans hx3; refine w_store_boxs rfl rfl (next := fun ws10 hbs10 hxs10 hss10 => ?_); (replace hb3 := hbs10; clear hbs10); have hz_hxs10 := hxs10.size; replace hb2 := hb2.chg hxs10 (by omega); replace E := E.next hxs10 (by omega); refine w_nil ?_; refine x_next ?_; refine c_seq ?_; refine c_seq ?_; refine c_region ?_; refine w_pure (y_assign rfl) rfl ?_; refine w_nil ?_; refine x_next ?_; refine c_block ?_; rotate_left
  refine c_loopC b3 (b3 + 1) (ι := Int × Value) (fun x => [(0, str p), (2, ptr b2 0), (3, ptr b3 0), (4, .int .i64 x.1)])
    (fun x w' => Box w' b3 [x.2] ∧ Own w' 2 w3.heap.size x.2 ((codL p).take x.1.toNat) ∧ 0 ≤ x.1 ∧ x.1 ≤ p.length) (fun x => (p.length - x.1).toNat) (0, .slice none 0 0)
    (by repeat (first | exact trivial | refine ⟨rfl, ?_⟩)) ⟨by assumption, by show Own _ _ _ _ (List.take 0 _); rw [List.take_zero]; exact Own.nil _ _ _, by dsimp only; omega, by dsimp only; omega⟩ ?_
  clear hb3
  rintro ⟨i, u⟩ wL hxL EL ⟨hb3, g1, hi0, hi1⟩
  dsimp only at *
  have e1 : (i + 1).toNat = i.toNat + 1 := by omega
  have htl : ((codL p).take i.toNat).length = i.toNat := by rw [List.length_take]; omega
  have hby := (p.getD i.toNat 0).toNat_lt
  by_cases hli : i < p.length
  · focus have hl_g1 := g1.lt; have hz_hxL := hxL.size; replace hb2 := hb2.chg hxL (by omega); replace E := E.next hxL (by omega); refine c_seq ?_; refine c_seq ?_; refine c_region ?_; refine w_pure (y_move rfl) rfl ?_; refine w_pure (y_move rfl) rfl ?_; refine w_pure (y_slen rfl) rfl ?_; refine w_pure (y_lt rfl rfl) rfl ?_; refine w_nil ?_; refine x_next ?_; (refine c_dec rfl (fun hc9 => ?_) (fun hc9 => ?_) <;> try (first | exact absurd rfl hc9 | contradiction | exact Bool.noConfusion (show false = true from hc9.symm.trans (by assumption)) | exact Bool.noConfusion (show true = false from hc9.symm.trans (by assumption)) | (exfalso; omega) | (exfalso; simp only [*, Bool.not_true, Bool.not_false, reduceCtorEq] at hc9; done))); refine c_skip ?_; refine x_next ?_; refine c_seq ?_; refine c_block ?_; refine c_region_held mixed (fun wr5 hxr5 hzr5 => ?_); have hz_hxr5 := hxr5.size; replace EL := EL.next hxr5 (by omega); replace hb3 := hb3.ext hxr5; replace g1 := g1.ext hxr5; replace hb2 := hb2.ext hxr5; replace E := E.trans hxr5; refine h_pure rfl (y_field rfl) rfl ?_; refine h_pure rfl (y_load_box rfl) rfl ?_; refine h_pure rfl (y_move rfl) rfl ?_; refine h_pure rfl (y_move rfl) rfl ?_; refine h_pure rfl (y_at_str rfl rfl) rfl ?_; refine h_one rfl ?_; refine w_pur rfl rfl rfl (l03Code_c _) rfl ?_; refine w_nil ?_; refine x_held ?_; refine h_one rfl ?_; refine w_lit (α := Int) rfl rfl rfl rfl rfl rfl rfl rfl (fun v18 w18 ho18 hx18 hl18 hh18 hs18 => ?_); have hl_ho18 := ho18.lt; have hz_hx18 := hx18.size; replace EL := EL.next hx18 (by omega); replace hb3 := hb3.ext hx18; replace g1 := g1.ext hx18; replace hb2 := hb2.ext hx18; replace E := E.trans hx18; refine w_nil ?_; refine x_held ?_; refine h_one rfl ?_; refine w_append rfl rfl (k := fun v19 w19 ho19 hx19 hr19 => ?_); have hl_ho19 := ho19.lt; have hz_hx19 := hx19.size; replace ho18 := ho18.chg hx19 (by omega); replace EL := EL.next hx19 (by omega); replace hb3 := hb3.chg hx19 (by omega); replace hb2 := hb2.chg hx19 (by omega); replace E := E.next hx19 (by omega); refine w_nil ?_; refine x_heldk ?_; refine h_pure rfl (y_field rfl) rfl ?_; refine h_one rfl ?_; refine w_store_box rfl rfl (next := fun ws35 hbs35 hxs35 hss35 => ?_); (replace hb3 := hbs35; clear hbs35); have hz_hxs35 := hxs35.size; replace ho19 := ho19.chg hxs35 (by omega); replace ho18 := ho18.chg hxs35 (by omega); replace EL := EL.trans hxs35; replace hb2 := hb2.chg hxs35 (by omega); replace E := E.next hxs35 (by omega); refine w_nil ?_; refine x_heldk ?_; refine h_nil ?_; refine x_block_norm ?_; refine x_next ?_; refine c_region ?_; refine w_pure (y_move rfl) rfl ?_; refine w_pure (y_add rfl rfl) rfl ?_; refine w_pure (y_assign rfl) rfl ?_; refine w_nil ?_; rotate_left
    refine x_again (i + 1, v19) (by repeat (first | exact trivial | refine ⟨rfl, ?_⟩)) ⟨EL.go, by assumption, ?_, by dsimp only; omega, by dsimp only; omega⟩ (by dsimp only; omega)
    dsimp only
    rw [e1, List.take_add_one, codL_get (by omega)]
    exact Own.base (by assumption) (by omega)
  · focus have hl_g1 := g1.lt; have hz_hxL := hxL.size; replace hb2 := hb2.chg hxL (by omega); replace E := E.next hxL (by omega); refine c_seq ?_; refine c_seq ?_; refine c_region ?_; refine w_pure (y_move rfl) rfl ?_; refine w_pure (y_move rfl) rfl ?_; refine w_pure (y_slen rfl) rfl ?_; refine w_pure (y_lt rfl rfl) rfl ?_; refine w_nil ?_; refine x_next ?_; (refine c_dec rfl (fun hc9 => ?_) (fun hc9 => ?_) <;> try (first | exact absurd rfl hc9 | contradiction | exact Bool.noConfusion (show false = true from hc9.symm.trans (by assumption)) | exact Bool.noConfusion (show true = false from hc9.symm.trans (by assumption)) | (exfalso; omega) | (exfalso; simp only [*, Bool.not_true, Bool.not_false, reduceCtorEq] at hc9; done))); refine c_exit ?_; refine x_then_exit ?_; refine x_then_exit ?_; refine x_block_hit ?_; refine x_next ?_; refine c_seq ?_; refine c_region ?_; refine w_pure (y_load_boxs rfl) rfl ?_; refine w_store_boxs rfl rfl (next := fun ws19 hbs19 hxs19 hss19 => ?_); (replace hb2 := hbs19; clear hbs19); have hz_hxs19 := hxs19.size; replace hb3 := hb3.chg hxs19 (by omega); replace g1 := g1.chg hxs19 (by omega); replace E := E.next hxs19 (by omega); refine w_nil ?_; refine x_next ?_; refine c_ret ?_; rotate_left
    rw [List.take_of_length_le (by omega)] at g1
    exact x_retv [_] rfl ⟨⟨_, rfl, run_load_str (Box.at (by assumption)) (by rfl)⟩, trivial⟩ ⟨u, rfl, Own.base (by assumption) (by omega), E.go⟩
/-- the columns of a letter and four noughts -/
def chC (x : Int) : List Int := codL (List.drop (Int.toNat 0) (List.take (Int.toNat 1) (List.drop x.toNat (List.take ((([65, 66, 49] : List UInt8).length : Int)).toNat [65, 66, 49]))) ++ [48, 48, 48, 48])
theorem chC_len {x : Int} (h : 0 ≤ x ∧ x < 3) : (chC x).length = 5 := by
  unfold chC
  simp only [codL_len, List.length_append, List.length_cons, List.length_nil, List.length_take, List.length_drop]; omega
/-- a card's columns with the first k of two numbers' columns put in -/
def crdK (c pa pb : List Int) : Nat → List Int
  | 0 => c
  | k + 1 => ((crdK c pa pb k).set (k + 1) (pa.getD k 0)).set (k + 3) (pb.getD k 0)
theorem crdK_len (c pa pb : List Int) : ∀ k, (crdK c pa pb k).length = c.length
  | 0 => rfl
  | k + 1 => by rw [crdK, List.length_set, List.length_set, crdK_len c pa pb k]
def putZ (n k : Int) : List Int := if n < 0 then punN n k else pun n k.toNat
theorem putZ_len {n k : Int} (h : 1 ≤ k) : ((putZ n k).length : Int) = k := by
  unfold putZ punN; split
  · rw [List.length_set, pun_len]; omega
  · rw [pun_len]; omega
theorem l03Put_e (n k : Int) (hn : -1000000000000 ≤ n ∧ n ≤ 1000000000000 := by omega) (hk : 1 ≤ k ∧ k ≤ 1000 := by omega) : Ret Tryz.prog 103 [.int .i64 n, .int .i64 k] w fun u w' => ∃ d q, u = .tuple #[d, .bool q] ∧ Own w' 2 w.heap.size d (putZ n k) ∧ Ext w w' := by
  by_cases h : n < 0
  · refine (l03Put_n n k (by omega) hk).mono ?_
    rintro u w' ⟨d, h1, h2, h3⟩
    exact ⟨d, _, h1, by rw [putZ, if_pos h]; exact h2, h3⟩
  · refine (l03Put_c n k (by omega) hk).mono ?_
    rintro u w' ⟨d, h1, h2, h3⟩
    exact ⟨d, _, h1, by rw [putZ, if_neg h]; exact h2, h3⟩
end
end Go.Proofs.YticnemjjjceiaaaGreatDoor

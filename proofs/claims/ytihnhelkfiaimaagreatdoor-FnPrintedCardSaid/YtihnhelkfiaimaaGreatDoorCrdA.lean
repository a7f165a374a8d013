/- Contracts: cards. -/
import Derived.Test.YtihnhelkfiaimaaGreatDoorCntC
import Derived.Test.YtihnhelkfiaimaaGreatDoorLawA
import Derived.Test.YtihnhelkfiaimaaGreatDoorL15
namespace Go.Proofs.YtihnhelkfiaimaaGreatDoor
open Go Go.Gw
set_option linter.unusedVariables false
set_option linter.unusedSimpArgs false
section
variable {w : World} {lo hi lo' hi' : Nat} {v v' v2 : Value} {xs ys : List Int} {ws us : List (Int × Int)} {b b' b2 b3 : Nat} {e n j : Int}
/-- a card that is valid -/
def okK (xs : List Int) : Bool := decide (1 ≤ xs.length ∧ xs.length ≤ 20) && !xs.any fun d => !decide (0 ≤ d ∧ d ≤ 4095)
theorem okK_len {xs : List Int} (h : okK xs = true) : 1 ≤ xs.length ∧ xs.length ≤ 20 := by simp [okK] at h; exact h.1
theorem okK_dig {xs : List Int} (h : okK xs = true) : ∀ d ∈ xs, 0 ≤ d ∧ d ≤ 4095 := by simp [okK] at h; exact h.2
theorem okK_getD {xs : List Int} (h : okK xs = true) (i : Nat) (hi : i < xs.length) : 0 ≤ xs.getD i 0 ∧ xs.getD i 0 ≤ 4095 := by
  rw [List.getD_eq_getElem?_getD, List.getElem?_eq_getElem hi]
  exact okK_dig h _ (List.getElem_mem hi)

theorem columns_c (h : SL w lo hi v xs := by repeat (first | assumption | exact Go.Gw.Own.sl (by assumption) | exact Go.Gw.Box.at (by assumption) | exact Go.Gw.SLL.el (by first | assumption | exact Go.Gw.OwnD.sll (by assumption)) _ (by omega) | exact Go.Gw.SLL.at (by first | assumption | exact Go.Gw.OwnD.sll (by assumption)) (by omega) | exact Go.Gw.OwnD.sll (by assumption) | (apply Go.Gw.SL.chg; case hx => assumption) | (apply Go.Gw.Own.chg; case hx => assumption) | (apply Go.Gw.Box.chg; case hx => assumption) | (apply Go.Gw.At.chg; case hx => assumption) | exact .inl (Nat.zero_le _) | exact .inr (Nat.zero_le _) | (show _ ∨ _; omega))) : Val Tryz.prog 75 [.agg #[v]] w (.int .i64 xs.length) := by
  refine ⟨fun w1 hx1 => ?_⟩
  have E : Since 0 0 w1 w1 := Since.refl 0 0 w1
  refine ret_enter Tryz.func75 rfl Tryz.ntmps75 rfl ?_
  focus
    have ht_h := h.top
    have hz_hx1 := hx1.size
    replace h := h.ext hx1
    refine c_seq ?_
    refine c_region ?_
    refine w_box rfl (k := fun b1x1_3 w1x1_3 hb1x1_3 hx1x1_3 hl1x1_3 hs1x1_3 => ?_)
    have hz_hx1x1_3 := hx1x1_3.size
    replace E := E.trans hx1x1_3
    replace h := h.ext hx1x1_3
    refine w_pure (y_assign rfl) rfl ?_
    refine w_nil ?_
    refine x_next ?_
    refine c_seq ?_
    refine c_region ?_
    refine w_pure (y_field rfl) rfl ?_
    refine w_pure (y_load_box rfl) rfl ?_
    refine w_val rfl rfl rfl (size_c) rfl (fun w5 hx5 hz5 => ?_)
    have hz_hx5 := hx5.size
    replace hb1x1_3 := hb1x1_3.ext hx5
    replace E := E.trans hx5
    replace h := h.ext hx5
    refine w_pure (y_assign rfl) rfl ?_
    refine w_nil ?_
    refine x_next ?_
    refine c_ret ?_
    rotate_left
  exact x_retv [_] rfl ⟨rfl, trivial⟩ ⟨rfl, E.go⟩
theorem ValidCard1_c (x : Int) : Pur Tryz.prog 143 [.int .i64 x] (.bool (!decide (0 ≤ x ∧ x ≤ 4095))) := by
  refine ⟨fun w => ?_⟩
  refine ret_enter Tryz.func143 rfl Tryz.ntmps143 rfl ?_
  focus
    refine c_seq ?_
    refine c_region ?_
    refine w_pure (y_assign rfl) rfl ?_
    refine w_nil ?_
    refine x_next ?_
    refine c_seq ?_
    refine c_region ?_
    refine w_pure (y_move rfl) rfl ?_
    refine w_pur rfl rfl rfl (inside_c _ _ _) rfl ?_
    refine w_pure (y_not_dec rfl) rfl ?_
    refine w_pure (y_assign rfl) rfl ?_
    refine w_nil ?_
    refine x_next ?_
    refine c_ret ?_
    rotate_left
  refine x_retv [_] rfl ⟨rfl, trivial⟩ ⟨?_, rfl⟩
  simp only [ofResults, decide_not]
theorem iValidCard_c (h : SL w lo hi v xs := by repeat (first | assumption | exact Go.Gw.Own.sl (by assumption) | exact Go.Gw.Box.at (by assumption) | exact Go.Gw.SLL.el (by first | assumption | exact Go.Gw.OwnD.sll (by assumption)) _ (by omega) | exact Go.Gw.SLL.at (by first | assumption | exact Go.Gw.OwnD.sll (by assumption)) (by omega) | exact Go.Gw.OwnD.sll (by assumption) | (apply Go.Gw.SL.chg; case hx => assumption) | (apply Go.Gw.Own.chg; case hx => assumption) | (apply Go.Gw.Box.chg; case hx => assumption) | (apply Go.Gw.At.chg; case hx => assumption) | exact .inl (Nat.zero_le _) | exact .inr (Nat.zero_le _) | (show _ ∨ _; omega))) : Val Tryz.prog 74 [.agg #[v]] w (.bool (okK xs)) := by
  refine ⟨fun w1 hx1 => ?_⟩
  have hcf : ∀ w2, Ext w w2 → Val Tryz.prog 120 [v, .func (.func 143) #[] #[]] w2 (.bool (xs.any fun x => !decide (0 ≤ x ∧ x ≤ 4095))) := fun w2 h2 =>
    ContainsFunc_int (first := []) (cap := []) (h.ext h2) (fun x _ => (ValidCard1_c x).val)
  refine ret_enter Tryz.func74 rfl Tryz.ntmps74 rfl ?_
  focus
    have ht_h := h.top
    have hz_hx1 := hx1.size
    replace h := h.ext hx1
    refine c_seq ?_
    refine c_region ?_
    refine w_box rfl (k := fun b1x1_3 w1x1_3 hb1x1_3 hx1x1_3 hl1x1_3 hs1x1_3 => ?_)
    have hz_hx1x1_3 := hx1x1_3.size
    replace h := h.ext hx1x1_3
    refine w_pure (y_assign rfl) rfl ?_
    refine w_nil ?_
    refine x_next ?_
    refine c_seq ?_
    refine c_region ?_
    refine w_pure (y_load_boxs rfl) rfl ?_
    refine w_val rfl rfl rfl (columns_c) rfl (fun w4 hx4 hz4 => ?_)
    have hz_hx4 := hx4.size
    replace hb1x1_3 := hb1x1_3.ext hx4
    replace h := h.ext hx4
    refine w_pur rfl rfl rfl (inside_c _ _ _) rfl ?_
    refine w_pure (y_move rfl) rfl ?_
    (refine w_part_dec rfl rfl (fun hc7 => ?_) (fun hc7 => ?_) <;> try (first | exact absurd rfl hc7 | contradiction | exact Bool.noConfusion (show false = true from hc7.symm.trans (by assumption)) | exact Bool.noConfusion (show true = false from hc7.symm.trans (by assumption)) | (exfalso; omega) | (exfalso; simp only [*, Bool.not_true, Bool.not_false, reduceCtorEq] at hc7; done)))
    refine w_yes rfl rfl ?_
    refine w_pure (y_field rfl) rfl ?_
    refine w_yes rfl rfl ?_
    refine w_pure (y_load_box rfl) rfl ?_
    refine w_yes rfl rfl ?_
    rotate_left
    refine w_no rfl rfl rfl rfl ?_
    refine w_no rfl rfl rfl rfl ?_
    refine w_no rfl rfl rfl rfl ?_
    refine w_no rfl rfl rfl rfl ?_
    refine w_pure (y_pick_f rfl rfl) rfl ?_
    refine w_pure (y_assign rfl) rfl ?_
    refine w_nil ?_
    refine x_next ?_
    refine c_ret ?_
    rotate_left
  · refine w_val rfl rfl rfl (hcf _ (by (repeat (first | exact Chg.refl _ _ _ | assumption | refine Chg.next ?_ (by assumption) (by omega))))) rfl (fun w5 hx5 hz5 => ?_)
    focus
      have hz_hx5 := hx5.size
      replace hb1x1_3 := hb1x1_3.ext hx5
      replace h := h.ext hx5
      refine w_yes rfl rfl ?_
      refine w_pure (y_not rfl) rfl ?_
      refine w_pure (y_pick_t rfl rfl) rfl ?_
      refine w_pure (y_assign rfl) rfl ?_
      refine w_nil ?_
      refine x_next ?_
      refine c_ret ?_
      rotate_left
    refine x_retv [_] rfl ⟨rfl, trivial⟩ ⟨?_, by (repeat (first | exact Chg.refl _ _ _ | assumption | refine Chg.next ?_ (by assumption) (by omega)))⟩
    have : decide (1 ≤ xs.length ∧ xs.length ≤ 20) = true := by simp; omega
    simp only [ofResults, okK, this, Bool.true_and]
  · refine x_retv [_] rfl ⟨rfl, trivial⟩ ⟨?_, by (repeat (first | exact Chg.refl _ _ _ | assumption | refine Chg.next ?_ (by assumption) (by omega)))⟩
    have : decide (1 ≤ xs.length ∧ xs.length ≤ 20) = false := by simp; omega
    simp only [ofResults, okK, this, Bool.false_and]
theorem l02Ok_c {o : Nat} (hp : At w b o [v] := by repeat (first | assumption | exact Go.Gw.Own.sl (by assumption) | exact Go.Gw.Box.at (by assumption) | exact Go.Gw.SLL.el (by first | assumption | exact Go.Gw.OwnD.sll (by assumption)) _ (by omega) | exact Go.Gw.SLL.at (by first | assumption | exact Go.Gw.OwnD.sll (by assumption)) (by omega) | exact Go.Gw.OwnD.sll (by assumption) | (apply Go.Gw.SL.chg; case hx => assumption) | (apply Go.Gw.Own.chg; case hx => assumption) | (apply Go.Gw.Box.chg; case hx => assumption) | (apply Go.Gw.At.chg; case hx => assumption) | exact .inl (Nat.zero_le _) | exact .inr (Nat.zero_le _) | (show _ ∨ _; omega))) (h : SL w lo hi v xs := by repeat (first | assumption | exact Go.Gw.Own.sl (by assumption) | exact Go.Gw.Box.at (by assumption) | exact Go.Gw.SLL.el (by first | assumption | exact Go.Gw.OwnD.sll (by assumption)) _ (by omega) | exact Go.Gw.SLL.at (by first | assumption | exact Go.Gw.OwnD.sll (by assumption)) (by omega) | exact Go.Gw.OwnD.sll (by assumption) | (apply Go.Gw.SL.chg; case hx => assumption) | (apply Go.Gw.Own.chg; case hx => assumption) | (apply Go.Gw.Box.chg; case hx => assumption) | (apply Go.Gw.At.chg; case hx => assumption) | exact .inl (Nat.zero_le _) | exact .inr (Nat.zero_le _) | (show _ ∨ _; omega))) : Val Tryz.prog 78 [ptr b o] w (.bool (okK xs)) := by
  refine ⟨fun w1 hx1 => ?_⟩
  have hsm := h.small
  refine ret_enter Tryz.func78 rfl Tryz.ntmps78 rfl ?_
  focus
    have ht_h := h.top
    have hz_hx1 := hx1.size
    replace hp := hp.ext hx1
    replace h := h.ext hx1
    refine c_seq ?_
    refine c_region ?_
    refine w_pure (y_assign rfl) rfl ?_
    refine w_nil ?_
    refine x_next ?_
    refine c_seq ?_
    refine c_seq ?_
    refine c_region ?_
    refine w_pure (y_assign rfl) rfl ?_
    refine w_nil ?_
    refine x_next ?_
    refine c_block ?_
    rotate_left
  refine c_loop (ι := Int) (fun x => [(0, ptr b o), (3, .int .i64 x)]) (fun x w' => Ext w1 w' ∧ 0 ≤ x ∧ x ≤ xs.length ∧ ∀ j : Nat, j < x.toNat → 0 ≤ xs.getD j 0 ∧ xs.getD j 0 ≤ 4095) (fun x => (xs.length - x).toNat) 0
    ⟨rfl, rfl, trivial⟩ ⟨Chg.refl _ _ _, by omega, by omega, fun j hj => by simp at hj⟩ ?_
  rintro i w2 ⟨hx2, hi0, hi1, hall⟩
  focus
    have hz_hx2 := hx2.size
    replace hp := hp.ext hx2
    replace h := h.ext hx2
    refine c_seq ?_
    refine c_seq ?_
    refine c_region ?_
    refine w_pure (y_move rfl) rfl ?_
    refine w_pure (y_move rfl) rfl ?_
    refine w_pure (y_nil rfl) rfl ?_
    refine w_pure (y_field rfl) rfl ?_
    refine w_pure (y_loadk rfl) rfl ?_
    refine w_pure (y_len rfl) rfl ?_
    refine w_pure (y_lt rfl rfl) rfl ?_
    refine w_nil ?_
    refine x_next ?_
    (refine c_dec rfl (fun hc10 => ?_) (fun hc10 => ?_) <;> try (first | exact absurd rfl hc10 | contradiction | exact Bool.noConfusion (show false = true from hc10.symm.trans (by assumption)) | exact Bool.noConfusion (show true = false from hc10.symm.trans (by assumption)) | (exfalso; omega) | (exfalso; simp only [*, Bool.not_true, Bool.not_false, reduceCtorEq] at hc10; done)))
    refine c_skip ?_
    refine x_next ?_
    refine c_seq ?_
    refine c_block ?_
    refine c_seq ?_
    refine c_region ?_
    refine w_pure (y_move rfl) rfl ?_
    refine w_pure (y_nil rfl) rfl ?_
    refine w_pure (y_field rfl) rfl ?_
    refine w_pure (y_loadk rfl) rfl ?_
    refine w_pure (y_move rfl) rfl ?_
    refine w_pure (y_index rfl rfl) rfl ?_
    refine w_pure (y_load_int rfl) rfl ?_
    refine w_pur rfl rfl rfl (l00In_c _ _ _) rfl ?_
    refine w_pure (y_not_dec rfl) rfl ?_
    refine w_nil ?_
    refine x_next ?_
    (refine c_dec rfl (fun hc21 => ?_) (fun hc21 => ?_) <;> try (first | exact absurd rfl hc21 | contradiction | exact Bool.noConfusion (show false = true from hc21.symm.trans (by assumption)) | exact Bool.noConfusion (show true = false from hc21.symm.trans (by assumption)) | (exfalso; omega) | (exfalso; simp only [*, Bool.not_true, Bool.not_false, reduceCtorEq] at hc21; done)))
    refine c_seq ?_
    refine c_region ?_
    refine w_pure (y_assign rfl) rfl ?_
    refine w_nil ?_
    refine x_next ?_
    refine c_ret ?_
    refine x_block_ret ?_
    refine x_then_ret ?_
    refine x_then_ret ?_
    refine x_block_ret ?_
    refine x_then_ret ?_
    rotate_left
    refine c_skip ?_
    refine x_block_norm ?_
    refine x_next ?_
    refine c_region ?_
    refine w_pure (y_move rfl) rfl ?_
    refine w_pure (y_add rfl rfl) rfl ?_
    refine w_pure (y_assign rfl) rfl ?_
    refine w_nil ?_
    rotate_left
    refine c_exit ?_
    refine x_then_exit ?_
    refine x_then_exit ?_
    refine x_block_hit ?_
    refine x_next ?_
    refine c_seq ?_
    refine c_region ?_
    refine w_pure (y_move rfl) rfl ?_
    refine w_pure (y_nil rfl) rfl ?_
    refine w_pure (y_field rfl) rfl ?_
    refine w_pure (y_loadk rfl) rfl ?_
    refine w_pure (y_len rfl) rfl ?_
    refine w_pur rfl rfl rfl (l00In_c _ _ _) rfl ?_
    refine w_pure (y_assign rfl) rfl ?_
    refine w_nil ?_
    refine x_next ?_
    refine c_ret ?_
    rotate_left
  · refine x_retv [_] rfl ⟨rfl, trivial⟩ ⟨?_, by (repeat (first | exact Chg.refl _ _ _ | assumption | refine Chg.next ?_ (by assumption) (by omega)))⟩
    have : okK xs = false := by
      cases hk : okK xs
      · rfl
      · exact absurd (okK_getD hk i.toNat (by omega)) hc21
    rw [this]; rfl
  · refine x_again (i + 1) ⟨rfl, rfl, trivial⟩ ⟨by (repeat (first | exact Chg.refl _ _ _ | assumption | refine Chg.next ?_ (by assumption) (by omega))), by omega, by omega, fun j hj => ?_⟩ (by omega)
    by_cases e : j = i.toNat
    · subst e; exact Decidable.not_not.1 hc21
    · exact hall j (by omega)
  · refine x_retv [_] rfl ⟨rfl, trivial⟩ ⟨?_, by (repeat (first | exact Chg.refl _ _ _ | assumption | refine Chg.next ?_ (by assumption) (by omega)))⟩
    have hd : xs.any (fun d => !decide (0 ≤ d ∧ d ≤ 4095)) = false := by
      rw [List.any_eq_false]
      intro d hd
      obtain ⟨j, hj, rfl⟩ := List.mem_iff_getElem.1 hd
      have := hall j (by omega)
      rw [List.getD_eq_getElem?_getD, List.getElem?_eq_getElem hj] at this
      simpa using this
    have : decide (1 ≤ (xs.length : Int) ∧ (xs.length : Int) ≤ 20) = decide (1 ≤ xs.length ∧ xs.length ≤ 20) := by congr 1; simp; omega
    simp only [ofResults, okK, hd, this, Bool.not_false, Bool.and_true]
theorem blank_c (k : Int) (hk : 0 ≤ k ∧ k ≤ 1000 := by omega) : Ret Tryz.prog 77 [.int .i64 k] w fun u w' => ∃ d, u = .agg #[d] ∧ Own w' 2 w.heap.size d (List.replicate k.toNat (0 : Int)) ∧ Ext w w' := by
  have E : Since 0 0 w w := Since.refl 0 0 w
  refine ret_enter Tryz.func77 rfl Tryz.ntmps77 rfl ?_
  focus
    refine c_seq ?_
    refine c_region ?_
    refine w_alloc (k := fun b2 w2 hb2 hx2 hl2 hs2 => ?_)
    have hz_hx2 := hx2.size
    replace E := E.trans hx2
    refine w_nil ?_
    refine x_next ?_
    refine c_seq ?_
    refine c_region ?_
    refine w_pure (y_move rfl) rfl ?_
    refine w_make (α := Int) rfl rfl (k := fun v4 w4 ho4 hx4 hl4 hh4 hs4 => ?_)
    have hl_ho4 := ho4.lt
    have hz_hx4 := hx4.size
    replace hb2 := hb2.ext hx4
    replace E := E.trans hx4
    refine w_pure (y_build rfl) rfl ?_
    refine w_store_boxs rfl rfl (next := fun ws11 hbs11 hxs11 hss11 => ?_)
    (replace hb2 := hbs11; clear hbs11)
    have hz_hxs11 := hxs11.size
    replace ho4 := ho4.chg hxs11 (by omega)
    replace E := E.next hxs11 (by omega)
    refine w_nil ?_
    refine x_next ?_
    refine c_ret ?_
    rotate_left
  exact x_retv [_] rfl ⟨⟨_, rfl, run_load_str (Box.at (by assumption)) (by rfl)⟩, trivial⟩ ⟨_, rfl, Own.base (by assumption) (by omega), E.go⟩
end
end Go.Proofs.YtihnhelkfiaimaaGreatDoor

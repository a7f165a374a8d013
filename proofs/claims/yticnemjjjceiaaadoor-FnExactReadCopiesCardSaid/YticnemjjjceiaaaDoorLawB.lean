/- The laws' helpers: slices of pairs of numbers, boards. -/
import Derived.Test.YticnemjjjceiaaaDoorLawA
namespace Go.Proofs.YticnemjjjceiaaaDoor
open Go Go.Gw
set_option linter.unusedVariables false
set_option linter.unusedSimpArgs false
theorem listP_ext {xs ys : List (Int × Int)} (hl : xs.length = ys.length) (h : ∀ j : Nat, j < xs.length → xs.getD j (0, 0) = ys.getD j (0, 0)) : xs = ys := by
  apply List.ext_getElem hl
  intro i h1 h2
  have := h i h1
  rw [List.getD_eq_getElem?_getD, List.getD_eq_getElem?_getD, List.getElem?_eq_getElem h1, List.getElem?_eq_getElem h2] at this
  exact this
def marksP (k : Int) (n : Nat) : List (Int × Int) := (List.range n).map fun i => (k + 2 * (i : Nat), k + 2 * (i : Nat) + 1)
theorem marksP_len (k : Int) (n : Nat) : (marksP k n).length = n := by simp [marksP]
theorem marksP_get (k : Int) (n i : Nat) (h : i < n) : (marksP k n)[i]? = some (k + 2 * i, k + 2 * i + 1) := by simp [marksP, h]
theorem marksP_getD (k : Int) (n i : Nat) (h : i < n) : (marksP k n).getD i (0, 0) = (k + 2 * i, k + 2 * i + 1) := by simp [List.getD_eq_getElem?_getD, marksP_get k n i h]
section
variable {w : World} {lo hi lo' hi' : Nat} {v v' : Value} {xs ys : List (Int × Int)}
theorem eqCopy_c (a b c d : Int) : Val Tryd.prog 17 [.agg #[.int .i64 a, .int .i64 b], .agg #[.int .i64 c, .int .i64 d]] w (.bool (decide ((a, b) = (c, d)))) := by
  refine ⟨fun w1 hx1 => ?_⟩
  have E : Since 0 0 w1 w1 := Since.refl 0 0 w1
  refine ret_enter Tryd.func17 rfl Tryd.ntmps17 rfl ?_
  focus
    refine c_seq ?_
    refine c_region ?_
    refine w_box rfl (k := fun b2 w2 hb2 hx2 hl2 hs2 => ?_)
    have hz_hx2 := hx2.size
    replace E := E.trans hx2
    refine w_box rfl (k := fun b3 w3 hb3 hx3 hl3 hs3 => ?_)
    have hz_hx3 := hx3.size
    replace hb2 := hb2.ext hx3
    replace E := E.trans hx3
    refine w_pure (y_assign rfl) rfl ?_
    refine w_nil ?_
    refine x_next ?_
    refine c_seq ?_
    refine c_seq ?_
    refine c_region ?_
    refine w_pure (y_field rfl) rfl ?_
    refine w_pure (y_load_box rfl) rfl ?_
    refine w_pure (y_field rfl) rfl ?_
    refine w_pure (y_load_box rfl) rfl ?_
    refine w_pure (y_ne rfl rfl) rfl ?_
    refine w_nil ?_
    refine x_next ?_
    (refine c_dec rfl (fun hc9 => ?_) (fun hc9 => ?_) <;> try (first | exact absurd rfl hc9 | contradiction | exact Bool.noConfusion (show false = true from hc9.symm.trans (by assumption)) | exact Bool.noConfusion (show true = false from hc9.symm.trans (by assumption)) | (exfalso; omega) | (exfalso; simp only [*, Bool.not_true, Bool.not_false, reduceCtorEq] at hc9; done)))
    refine c_seq ?_
    refine c_region ?_
    refine w_pure (y_assign rfl) rfl ?_
    refine w_nil ?_
    refine x_next ?_
    refine c_ret ?_
    refine x_then_ret ?_
    rotate_left
    refine c_skip ?_
    refine x_next ?_
    refine c_seq ?_
    refine c_seq ?_
    refine c_region ?_
    refine w_pure (y_field rfl) rfl ?_
    refine w_pure (y_load_box rfl) rfl ?_
    refine w_pure (y_field rfl) rfl ?_
    refine w_pure (y_load_box rfl) rfl ?_
    refine w_pure (y_ne rfl rfl) rfl ?_
    refine w_nil ?_
    refine x_next ?_
    (refine c_dec rfl (fun hc14 => ?_) (fun hc14 => ?_) <;> try (first | exact absurd rfl hc14 | contradiction | exact Bool.noConfusion (show false = true from hc14.symm.trans (by assumption)) | exact Bool.noConfusion (show true = false from hc14.symm.trans (by assumption)) | (exfalso; omega) | (exfalso; simp only [*, Bool.not_true, Bool.not_false, reduceCtorEq] at hc14; done)))
    refine c_seq ?_
    refine c_region ?_
    refine w_pure (y_assign rfl) rfl ?_
    refine w_nil ?_
    refine x_next ?_
    refine c_ret ?_
    refine x_then_ret ?_
    rotate_left
    refine c_skip ?_
    refine x_next ?_
    refine c_seq ?_
    refine c_region ?_
    refine w_pure (y_assign rfl) rfl ?_
    refine w_nil ?_
    refine x_next ?_
    refine c_ret ?_
    rotate_left
  all_goals refine x_retv [_] rfl ⟨rfl, trivial⟩ ⟨?_, E.go⟩
  · simp only [ofResults, Prod.mk.injEq]; congr 1; simp; omega
  · simp only [ofResults, Prod.mk.injEq]; congr 1; simp; omega
  · simp only [ofResults, Prod.mk.injEq]; congr 1; simp; omega
theorem eqCopyS_c (h : SL w lo hi v xs := by repeat (first | assumption | exact Go.Gw.Own.sl (by assumption) | exact Go.Gw.Box.at (by assumption) | exact Go.Gw.SLL.el (by first | assumption | exact Go.Gw.OwnD.sll (by assumption)) _ (by omega) | exact Go.Gw.SLL.at (by first | assumption | exact Go.Gw.OwnD.sll (by assumption)) (by omega) | exact Go.Gw.OwnD.sll (by assumption) | (apply Go.Gw.SL.chg; case hx => assumption) | (apply Go.Gw.Own.chg; case hx => assumption) | (apply Go.Gw.Box.chg; case hx => assumption) | (apply Go.Gw.At.chg; case hx => assumption) | exact .inl (Nat.zero_le _) | exact .inr (Nat.zero_le _) | (show _ ∨ _; omega))) (h' : SL w lo' hi' v' ys := by repeat (first | assumption | exact Go.Gw.Own.sl (by assumption) | exact Go.Gw.Box.at (by assumption) | exact Go.Gw.SLL.el (by first | assumption | exact Go.Gw.OwnD.sll (by assumption)) _ (by omega) | exact Go.Gw.SLL.at (by first | assumption | exact Go.Gw.OwnD.sll (by assumption)) (by omega) | exact Go.Gw.OwnD.sll (by assumption) | (apply Go.Gw.SL.chg; case hx => assumption) | (apply Go.Gw.Own.chg; case hx => assumption) | (apply Go.Gw.Box.chg; case hx => assumption) | (apply Go.Gw.At.chg; case hx => assumption) | exact .inl (Nat.zero_le _) | exact .inr (Nat.zero_le _) | (show _ ∨ _; omega))) : Val Tryd.prog 6 [v, v'] w (.bool (decide (xs = ys))) := by
  refine ⟨fun w1 hx1 => ?_⟩
  have E : Since 0 0 w1 w1 := Since.refl 0 0 w1
  have hsm := h.small
  have hsm' := h'.small
  by_cases hl : xs.length = ys.length
  · refine ret_enter Tryd.func6 rfl Tryd.ntmps6 rfl ?_
    focus
      have ht_h := h.top
      have ht_h' := h'.top
      have hz_hx1 := hx1.size
      replace h := h.ext hx1
      replace h' := h'.ext hx1
      refine c_seq ?_
      refine c_region ?_
      refine w_pure (y_assign rfl) rfl ?_
      refine w_nil ?_
      refine x_next ?_
      refine c_seq ?_
      refine c_seq ?_
      refine c_region ?_
      refine w_pure (y_move rfl) rfl ?_
      refine w_pure (y_len rfl) rfl ?_
      refine w_pure (y_move rfl) rfl ?_
      refine w_pure (y_len rfl) rfl ?_
      refine w_pure (y_ne rfl rfl) rfl ?_
      refine w_nil ?_
      refine x_next ?_
      (refine c_dec rfl (fun hc10 => ?_) (fun hc10 => ?_) <;> try (first | exact absurd rfl hc10 | contradiction | exact Bool.noConfusion (show false = true from hc10.symm.trans (by assumption)) | exact Bool.noConfusion (show true = false from hc10.symm.trans (by assumption)) | (exfalso; omega) | (exfalso; simp only [*, Bool.not_true, Bool.not_false, reduceCtorEq] at hc10; done)))
      refine c_skip ?_
      refine x_next ?_
      refine c_seq ?_
      refine c_seq ?_
      refine c_region ?_
      refine w_pure (y_assign rfl) rfl ?_
      refine w_nil ?_
      refine x_next ?_
      refine c_block ?_
      rotate_left
    refine c_loopC 0 0 (ι := Nat) (fun x => [(0, v), (1, v'), (5, .int .i64 x)]) (fun x w' => x ≤ xs.length ∧ ∀ j : Nat, j < x → xs.getD j (0, 0) = ys.getD j (0, 0)) (fun x => xs.length - x) 0
      (by repeat (first | exact trivial | refine ⟨rfl, ?_⟩)) ⟨by omega, fun j hj => by omega⟩ ?_
    rintro i wL hxL EL ⟨hi, hall⟩
    focus
      have hz_hxL := hxL.size
      replace E := E.trans hxL
      replace h := h.ext hxL
      replace h' := h'.ext hxL
      refine c_seq ?_
      refine c_seq ?_
      refine c_region ?_
      refine w_pure (y_move rfl) rfl ?_
      refine w_pure (y_move rfl) rfl ?_
      refine w_pure (y_len rfl) rfl ?_
      refine w_pure (y_lt rfl rfl) rfl ?_
      refine w_nil ?_
      refine x_next ?_
      (refine c_dec rfl (fun hc14 => ?_) (fun hc14 => ?_) <;> try (first | exact absurd rfl hc14 | contradiction | exact Bool.noConfusion (show false = true from hc14.symm.trans (by assumption)) | exact Bool.noConfusion (show true = false from hc14.symm.trans (by assumption)) | (exfalso; omega) | (exfalso; simp only [*, Bool.not_true, Bool.not_false, reduceCtorEq] at hc14; done)))
      refine c_skip ?_
      refine x_next ?_
      refine c_seq ?_
      refine c_block ?_
      refine c_seq ?_
      refine c_region_held mixed (fun wr6 hxr6 hzr6 => ?_)
      have hz_hxr6 := hxr6.size
      replace EL := EL.trans hxr6
      replace E := E.trans hxr6
      replace h := h.ext hxr6
      replace h' := h'.ext hxr6
      refine h_pure rfl (y_move rfl) rfl ?_
      refine h_pure rfl (y_move rfl) rfl ?_
      refine h_pure rfl (y_index rfl rfl) rfl ?_
      refine h_pure rfl (y_load_pair rfl) rfl ?_
      refine h_pure rfl (y_move rfl) rfl ?_
      refine h_pure rfl (y_move rfl) rfl ?_
      refine h_pure rfl (y_index rfl rfl) rfl ?_
      refine h_pure rfl (y_load_pair rfl) rfl ?_
      refine h_one rfl ?_
      refine w_val rfl rfl rfl (eqCopy_c _ _ _ _) rfl (fun w25 hx25 hz25 => ?_)
      have hz_hx25 := hx25.size
      replace EL := EL.trans hx25
      replace E := E.trans hx25
      replace h := h.ext hx25
      replace h' := h'.ext hx25
      refine w_nil ?_
      refine x_held ?_
      refine h_pure rfl (y_not_dec rfl) rfl ?_
      refine h_nil ?_
      refine x_next ?_
      (refine c_dec rfl (fun hc26 => ?_) (fun hc26 => ?_) <;> try (first | exact absurd rfl hc26 | contradiction | exact Bool.noConfusion (show false = true from hc26.symm.trans (by assumption)) | exact Bool.noConfusion (show true = false from hc26.symm.trans (by assumption)) | (exfalso; omega) | (exfalso; simp only [*, Bool.not_true, Bool.not_false, reduceCtorEq] at hc26; done)))
      refine c_seq ?_
      refine c_region ?_
      refine w_pure (y_assign rfl) rfl ?_
      refine w_nil ?_
      refine x_next ?_
      refine c_ret ?_
      refine x_block_ret ?_
      refine x_then_ret ?_
      refine x_then_ret ?_
      refine x_block_ret ?_
      refine x_then_ret ?_
      rotate_left
      refine c_skip ?_
      refine x_block_norm ?_
      refine x_next ?_
      refine c_region ?_
      refine w_pure (y_move rfl) rfl ?_
      refine w_pure (y_add rfl rfl) rfl ?_
      refine w_pure (y_assign rfl) rfl ?_
      refine w_nil ?_
      rotate_left
      refine c_exit ?_
      refine x_then_exit ?_
      refine x_then_exit ?_
      refine x_block_hit ?_
      refine x_next ?_
      refine c_seq ?_
      refine c_region ?_
      refine w_pure (y_assign rfl) rfl ?_
      refine w_nil ?_
      refine x_next ?_
      refine c_ret ?_
      rotate_left
    · refine x_retv [_] rfl ⟨rfl, trivial⟩ ⟨?_, E.go⟩
      have : ¬ xs = ys := fun e => hc26 (by subst e; rfl)
      simp [ofResults, this]
    · refine x_again (i + 1) (by repeat (first | exact trivial | refine ⟨rfl, ?_⟩)) ⟨EL.go, by omega, fun j hj => ?_⟩ (by omega)
      by_cases e : j = i
      · subst e; have := Decidable.not_not.1 hc26; exact Prod.ext (congrArg Prod.fst this) (congrArg Prod.snd this)
      · exact hall j (by omega)
    · refine x_retv [_] rfl ⟨rfl, trivial⟩ ⟨?_, E.go⟩
      have : xs = ys := listP_ext hl fun j hj => hall j (by omega)
      simp [ofResults, this]
  · refine ret_enter Tryd.func6 rfl Tryd.ntmps6 rfl ?_
    focus
      have ht_h := h.top
      have ht_h' := h'.top
      have hz_hx1 := hx1.size
      replace h := h.ext hx1
      replace h' := h'.ext hx1
      refine c_seq ?_
      refine c_region ?_
      refine w_pure (y_assign rfl) rfl ?_
      refine w_nil ?_
      refine x_next ?_
      refine c_seq ?_
      refine c_seq ?_
      refine c_region ?_
      refine w_pure (y_move rfl) rfl ?_
      refine w_pure (y_len rfl) rfl ?_
      refine w_pure (y_move rfl) rfl ?_
      refine w_pure (y_len rfl) rfl ?_
      refine w_pure (y_ne rfl rfl) rfl ?_
      refine w_nil ?_
      refine x_next ?_
      (refine c_dec rfl (fun hc10 => ?_) (fun hc10 => ?_) <;> try (first | exact absurd rfl hc10 | contradiction | exact Bool.noConfusion (show false = true from hc10.symm.trans (by assumption)) | exact Bool.noConfusion (show true = false from hc10.symm.trans (by assumption)) | (exfalso; omega) | (exfalso; simp only [*, Bool.not_true, Bool.not_false, reduceCtorEq] at hc10; done)))
      refine c_seq ?_
      refine c_region ?_
      refine w_pure (y_assign rfl) rfl ?_
      refine w_nil ?_
      refine x_next ?_
      refine c_ret ?_
      refine x_then_ret ?_
      rotate_left
    refine x_retv [_] rfl ⟨rfl, trivial⟩ ⟨?_, E.go⟩
    have : ¬ xs = ys := fun e => hl (by rw [e])
    simp [ofResults, this]
theorem markCopyS_c (w0 : World) {k : Int} (h : SL w0 lo hi v xs := by repeat (first | assumption | exact Go.Gw.Own.sl (by assumption) | exact Go.Gw.Box.at (by assumption) | exact Go.Gw.SLL.el (by first | assumption | exact Go.Gw.OwnD.sll (by assumption)) _ (by omega) | exact Go.Gw.SLL.at (by first | assumption | exact Go.Gw.OwnD.sll (by assumption)) (by omega) | exact Go.Gw.OwnD.sll (by assumption) | (apply Go.Gw.SL.chg; case hx => assumption) | (apply Go.Gw.Own.chg; case hx => assumption) | (apply Go.Gw.Box.chg; case hx => assumption) | (apply Go.Gw.At.chg; case hx => assumption) | exact .inl (Nat.zero_le _) | exact .inr (Nat.zero_le _) | (show _ ∨ _; omega))) (hk : 0 ≤ k := by omega) (hm : k + 2 * xs.length ≤ 9223372036854775806 := by omega) : Ret Tryd.prog 7 [v, .int .i64 k] w0 fun u w' => u = .int .i64 (k + 2 * xs.length) ∧ SL w' lo hi v (marksP k xs.length) ∧ Chg lo hi w0 w' := by
  have hsm := h.small
  refine ret_enter Tryd.func7 rfl Tryd.ntmps7 rfl ?_
  focus
    have ht_h := h.top
    refine c_seq ?_
    refine c_region ?_
    refine w_pure (y_assign rfl) rfl ?_
    refine w_nil ?_
    refine x_next ?_
    refine c_seq ?_
    refine c_seq ?_
    refine c_region ?_
    refine w_pure (y_assign rfl) rfl ?_
    refine w_nil ?_
    refine x_next ?_
    refine c_block ?_
    rotate_left
  refine c_loopC lo hi (ι := Nat) (fun x => [(0, v), (1, .int .i64 (k + 2 * x)), (5, .int .i64 x)]) (fun x w => SL w lo hi v ((marksP k xs.length).take x ++ xs.drop x) ∧ x ≤ xs.length) (fun x => xs.length - x) 0
    ⟨rfl, by simp; rfl, rfl, trivial⟩ ⟨by simpa using h, by omega⟩ ?_
  rintro i wL hxL EL ⟨ho, hi⟩
  have hlen : ((marksP k xs.length).take i ++ xs.drop i).length = xs.length := by simp [marksP_len]; omega
  have hin := fun h0 => ho.block h0
  have hg : i < xs.length → ((marksP k xs.length).take i ++ xs.drop i)[i]? = some (xs.getD i (0, 0)) := fun hlt => by
    rw [List.getElem?_append_right (by simp [marksP_len]; omega), List.length_take, marksP_len, Nat.min_eq_left hi, Nat.sub_self, List.getElem?_drop, Nat.add_zero, List.getElem?_eq_getElem hlt, List.getD_eq_getElem?_getD, List.getElem?_eq_getElem hlt]; rfl
  clear h
  by_cases hlt : i < xs.length
  · have hin := hin (by omega)
    focus
      have ht_ho := ho.top
      refine c_seq ?_
      refine c_seq ?_
      refine c_region ?_
      refine w_pure (y_move rfl) rfl ?_
      refine w_pure (y_move rfl) rfl ?_
      refine w_pure (y_len rfl) rfl ?_
      refine w_pure (y_lt rfl rfl) rfl ?_
      refine w_nil ?_
      refine x_next ?_
      (refine c_dec rfl (fun hc9 => ?_) (fun hc9 => ?_) <;> try (first | exact absurd rfl hc9 | contradiction | exact Bool.noConfusion (show false = true from hc9.symm.trans (by assumption)) | exact Bool.noConfusion (show true = false from hc9.symm.trans (by assumption)) | (exfalso; omega) | (exfalso; simp only [*, Bool.not_true, Bool.not_false, reduceCtorEq] at hc9; done)))
      refine c_skip ?_
      refine x_next ?_
      refine c_seq ?_
      refine c_block ?_
      refine c_seq ?_
      refine c_region ?_
      refine w_pure (y_move rfl) rfl ?_
      refine w_pure (y_move rfl) rfl ?_
      refine w_pure (y_move rfl) rfl ?_
      refine w_pure (y_index rfl rfl) rfl ?_
      refine w_pure (y_field rfl) rfl ?_
      refine w_store_p0 rfl rfl (next := fun ws22 hos22 hxs22 hss22 => ?_)
      (replace ho := hos22; clear hos22)
      have hz_hxs22 := hxs22.size
      replace EL := EL.next hxs22 (by omega)
      refine w_nil ?_
      refine x_next ?_
      refine c_seq ?_
      refine c_region ?_
      refine w_pure (y_move rfl) rfl ?_
      refine w_pure (y_add rfl rfl) rfl ?_
      refine w_pure (y_assign rfl) rfl ?_
      refine w_nil ?_
      refine x_next ?_
      refine c_seq ?_
      refine c_region ?_
      refine w_pure (y_move rfl) rfl ?_
      refine w_pure (y_move rfl) rfl ?_
      refine w_pure (y_move rfl) rfl ?_
      refine w_pure (y_index rfl rfl) rfl ?_
      refine w_pure (y_field rfl) rfl ?_
      refine w_store_p1 rfl rfl (next := fun ws39 hos39 hxs39 hss39 => ?_)
      (replace ho := hos39; clear hos39)
      have hz_hxs39 := hxs39.size
      replace EL := EL.next hxs39 (by omega)
      refine w_nil ?_
      refine x_next ?_
      refine c_region ?_
      refine w_pure (y_move rfl) rfl ?_
      refine w_pure (y_add rfl rfl) rfl ?_
      refine w_pure (y_assign rfl) rfl ?_
      refine w_nil ?_
      refine x_block_norm ?_
      refine x_next ?_
      refine c_region ?_
      refine w_pure (y_move rfl) rfl ?_
      refine w_pure (y_add rfl rfl) rfl ?_
      refine w_pure (y_assign rfl) rfl ?_
      refine w_nil ?_
      rotate_left
    refine x_again (i + 1) ⟨rfl, ?_, rfl, trivial⟩ ⟨EL.go, ?_, by omega⟩ (by omega)
    · show some (Value.int .i64 (k + 2 * (i : Int) + 1 + 1)) = some (Value.int .i64 (k + 2 * ((i + 1 : Nat) : Int))); congr 2; omega
    · have e := upd_step (f := marksP k xs.length) (xs := xs) (i := i) (by simp [marksP_len]) hlt (marksP_get k _ _ hlt)
      rw [← e]
      simp only [List.set_set, show ((i : Int)).toNat = i from rfl] at ho
      rw [List.getD_eq_getElem?_getD, List.getElem?_set_self (by omega)] at ho
      exact ho
  · focus
      have ht_ho := ho.top
      refine c_seq ?_
      refine c_seq ?_
      refine c_region ?_
      refine w_pure (y_move rfl) rfl ?_
      refine w_pure (y_move rfl) rfl ?_
      refine w_pure (y_len rfl) rfl ?_
      refine w_pure (y_lt rfl rfl) rfl ?_
      refine w_nil ?_
      refine x_next ?_
      (refine c_dec rfl (fun hc9 => ?_) (fun hc9 => ?_) <;> try (first | exact absurd rfl hc9 | contradiction | exact Bool.noConfusion (show false = true from hc9.symm.trans (by assumption)) | exact Bool.noConfusion (show true = false from hc9.symm.trans (by assumption)) | (exfalso; omega) | (exfalso; simp only [*, Bool.not_true, Bool.not_false, reduceCtorEq] at hc9; done)))
      refine c_exit ?_
      refine x_then_exit ?_
      refine x_then_exit ?_
      refine x_block_hit ?_
      refine x_next ?_
      refine c_seq ?_
      refine c_region ?_
      refine w_pure (y_move rfl) rfl ?_
      refine w_pure (y_assign rfl) rfl ?_
      refine w_nil ?_
      refine x_next ?_
      refine c_ret ?_
      rotate_left
    refine x_retv [_] rfl ⟨rfl, trivial⟩ ⟨?_, ?_, EL.go⟩
    · rw [show i = xs.length by omega]; rfl
    · have : (marksP k xs.length).take i ++ xs.drop i = marksP k xs.length := by
        rw [List.take_of_length_le (by rw [marksP_len]; omega), List.drop_eq_nil_of_le (by omega), List.append_nil]
      rw [this] at ho
      exact ho
theorem heldCopyS_c {k : Int} (h : SL w lo hi v (marksP k xs.length) := by repeat (first | assumption | exact Go.Gw.Own.sl (by assumption) | exact Go.Gw.Box.at (by assumption) | exact Go.Gw.SLL.el (by first | assumption | exact Go.Gw.OwnD.sll (by assumption)) _ (by omega) | exact Go.Gw.SLL.at (by first | assumption | exact Go.Gw.OwnD.sll (by assumption)) (by omega) | exact Go.Gw.OwnD.sll (by assumption) | (apply Go.Gw.SL.chg; case hx => assumption) | (apply Go.Gw.Own.chg; case hx => assumption) | (apply Go.Gw.Box.chg; case hx => assumption) | (apply Go.Gw.At.chg; case hx => assumption) | exact .inl (Nat.zero_le _) | exact .inr (Nat.zero_le _) | (show _ ∨ _; omega))) (hk : 0 ≤ k := by omega) (hm : k + 2 * xs.length ≤ 9223372036854775806 := by omega) : Val Tryd.prog 8 [v, .int .i64 k] w (.int .i64 (k + 2 * xs.length)) := by
  refine ⟨fun w1 hx1 => ?_⟩
  have E : Since 0 0 w1 w1 := Since.refl 0 0 w1
  have hsm := h.small
  have hml := marksP_len k xs.length
  refine ret_enter Tryd.func8 rfl Tryd.ntmps8 rfl ?_
  focus
    have ht_h := h.top
    have hz_hx1 := hx1.size
    replace h := h.ext hx1
    refine c_seq ?_
    refine c_region ?_
    refine w_pure (y_assign rfl) rfl ?_
    refine w_nil ?_
    refine x_next ?_
    refine c_seq ?_
    refine c_seq ?_
    refine c_region ?_
    refine w_pure (y_assign rfl) rfl ?_
    refine w_nil ?_
    refine x_next ?_
    refine c_block ?_
    rotate_left
  refine c_loopC 0 0 (ι := Nat) (fun x => [(0, v), (1, .int .i64 (k + 2 * x)), (5, .int .i64 x)]) (fun x w => x ≤ xs.length) (fun x => xs.length - x) 0
    ⟨rfl, by simp; rfl, rfl, trivial⟩ (by omega) ?_
  rintro i wL hxL EL hi
  have hg : i < xs.length → (marksP k xs.length).getD i (0, 0) = (k + 2 * i, k + 2 * i + 1) := marksP_getD k _ _
  have hg1 : i < xs.length → ((marksP k xs.length).getD (i : Int).toNat (0, 0)).1 = k + 2 * i := fun hlt => by rw [show ((i : Int)).toNat = i from rfl, hg hlt]
  have hg2 : i < xs.length → ((marksP k xs.length).getD (i : Int).toNat (0, 0)).2 = k + 2 * i + 1 := fun hlt => by rw [show ((i : Int)).toNat = i from rfl, hg hlt]
  focus
    have hz_hxL := hxL.size
    replace E := E.trans hxL
    replace h := h.ext hxL
    refine c_seq ?_
    refine c_seq ?_
    refine c_region ?_
    refine w_pure (y_move rfl) rfl ?_
    refine w_pure (y_move rfl) rfl ?_
    refine w_pure (y_len rfl) rfl ?_
    refine w_pure (y_lt rfl rfl) rfl ?_
    refine w_nil ?_
    refine x_next ?_
    (refine c_dec rfl (fun hc9 => ?_) (fun hc9 => ?_) <;> try (first | exact absurd rfl hc9 | contradiction | exact Bool.noConfusion (show false = true from hc9.symm.trans (by assumption)) | exact Bool.noConfusion (show true = false from hc9.symm.trans (by assumption)) | (exfalso; omega) | (exfalso; simp only [*, Bool.not_true, Bool.not_false, reduceCtorEq] at hc9; done)))
    refine c_skip ?_
    refine x_next ?_
    refine c_seq ?_
    refine c_block ?_
    refine c_seq ?_
    refine c_seq ?_
    refine c_region ?_
    refine w_pure (y_move rfl) rfl ?_
    refine w_pure (y_move rfl) rfl ?_
    refine w_pure (y_index rfl rfl) rfl ?_
    refine w_pure (y_field rfl) rfl ?_
    refine w_pure (y_load_p0 rfl) rfl ?_
    refine w_pure (y_move rfl) rfl ?_
    refine w_pure (y_ne rfl rfl) rfl ?_
    refine w_nil ?_
    refine x_next ?_
    (refine c_dec rfl (fun hc18 => ?_) (fun hc18 => ?_) <;> try (first | exact absurd rfl hc18 | contradiction | exact Bool.noConfusion (show false = true from hc18.symm.trans (by assumption)) | exact Bool.noConfusion (show true = false from hc18.symm.trans (by assumption)) | (exfalso; omega) | (exfalso; simp only [*, Bool.not_true, Bool.not_false, reduceCtorEq] at hc18; done)))
    refine c_skip ?_
    refine x_next ?_
    refine c_seq ?_
    refine c_region ?_
    refine w_pure (y_move rfl) rfl ?_
    refine w_pure (y_add rfl rfl) rfl ?_
    refine w_pure (y_assign rfl) rfl ?_
    refine w_nil ?_
    refine x_next ?_
    refine c_seq ?_
    refine c_seq ?_
    refine c_region ?_
    refine w_pure (y_move rfl) rfl ?_
    refine w_pure (y_move rfl) rfl ?_
    refine w_pure (y_index rfl rfl) rfl ?_
    refine w_pure (y_field rfl) rfl ?_
    refine w_pure (y_load_p1 rfl) rfl ?_
    refine w_pure (y_move rfl) rfl ?_
    refine w_pure (y_ne rfl rfl) rfl ?_
    refine w_nil ?_
    refine x_next ?_
    (refine c_dec rfl (fun hc27 => ?_) (fun hc27 => ?_) <;> try (first | exact absurd rfl hc27 | contradiction | exact Bool.noConfusion (show false = true from hc27.symm.trans (by assumption)) | exact Bool.noConfusion (show true = false from hc27.symm.trans (by assumption)) | (exfalso; omega) | (exfalso; simp only [*, Bool.not_true, Bool.not_false, reduceCtorEq] at hc27; done)))
    refine c_skip ?_
    refine x_next ?_
    refine c_region ?_
    refine w_pure (y_move rfl) rfl ?_
    refine w_pure (y_add rfl rfl) rfl ?_
    refine w_pure (y_assign rfl) rfl ?_
    refine w_nil ?_
    refine x_block_norm ?_
    refine x_next ?_
    refine c_region ?_
    refine w_pure (y_move rfl) rfl ?_
    refine w_pure (y_add rfl rfl) rfl ?_
    refine w_pure (y_assign rfl) rfl ?_
    refine w_nil ?_
    rotate_left
    refine c_exit ?_
    refine x_then_exit ?_
    refine x_then_exit ?_
    refine x_block_hit ?_
    refine x_next ?_
    refine c_seq ?_
    refine c_region ?_
    refine w_pure (y_move rfl) rfl ?_
    refine w_pure (y_assign rfl) rfl ?_
    refine w_nil ?_
    refine x_next ?_
    refine c_ret ?_
    rotate_left
  · refine x_again (i + 1) ⟨rfl, ?_, rfl, trivial⟩ ⟨EL.go, by omega⟩ (by omega)
    show some (Value.int .i64 (k + 2 * (i : Int) + 1 + 1)) = some (Value.int .i64 (k + 2 * ((i + 1 : Nat) : Int))); congr 2; omega
  · refine x_retv [_] rfl ⟨rfl, trivial⟩ ⟨?_, E.go⟩
    rw [show i = xs.length by omega]; rfl
variable {e n j e' n' j' : Int}
end
end Go.Proofs.YticnemjjjceiaaaDoor

/- Contracts: the text of copies. -/
import Derived.Test.YticnemjjjceiaaaDoorJoA
import Derived.Test.YticnemjjjceiaaaDoorLawB
namespace Go.Proofs.YticnemjjjceiaaaDoor
open Go Go.Gw
set_option linter.unusedVariables false
set_option linter.unusedSimpArgs false
def plnAt (ps : List (Int × Int)) (i : Nat) : Prop :=
  (0 ≤ (ps.getD i (0, 0)).1 ∧ (ps.getD i (0, 0)).1 ≤ 19) ∧ (0 ≤ (ps.getD i (0, 0)).2 ∧ (ps.getD i (0, 0)).2 ≤ 19) ∧ (0 < i → (ps.getD (i - 1) (0, 0)).2 < (ps.getD i (0, 0)).2)
instance (ps : List (Int × Int)) (i : Nat) : Decidable (plnAt ps i) := by unfold plnAt; infer_instance
def plnB (ps : List (Int × Int)) : Bool := decide (∀ i, i < ps.length → plnAt ps i)
def word (p : Int × Int) : List UInt8 := Lib.itoa p.1 ++ [62] ++ Lib.itoa p.2
def textTo (ps : List (Int × Int)) (i : Nat) : List UInt8 := Lib.join ((ps.take i).map word) [32]
def cpText (ps : List (Int × Int)) : List UInt8 := if plnB ps = true then textTo ps ps.length else []
theorem pln_no {ps : List (Int × Int)} {i : Nat} (h : i < ps.length) (hn : ¬ plnAt ps i) : plnB ps = false := decide_eq_false fun g => hn (g i h)
theorem pln_yes {ps : List (Int × Int)} (h : ∀ i, i < ps.length → plnAt ps i) : plnB ps = true := decide_eq_true h
attribute [irreducible] plnB
theorem takeP_snoc {ps : List (Int × Int)} {i : Nat} (h : i < ps.length) : ps.take (i + 1) = ps.take i ++ [ps.getD i (0, 0)] := by
  rw [List.take_add_one, List.getD_eq_getElem?_getD, List.getElem?_eq_getElem h]; rfl
theorem textTo_one {ps : List (Int × Int)} (h : 0 < ps.length) : textTo ps 1 = word (ps.getD 0 (0, 0)) := by
  rw [textTo, takeP_snoc h]; exact Lib.join_one _ _
theorem textTo_succ {ps : List (Int × Int)} {i : Nat} (h : i < ps.length) (h0 : 0 < i) : textTo ps (i + 1) = textTo ps i ++ [32] ++ word (ps.getD i (0, 0)) := by
  rw [textTo, takeP_snoc h, List.map_append]
  exact join_snoc _ _ _ (by
    intro e
    have h2 := congrArg List.length e
    rw [List.length_map, List.length_take, List.length_nil] at h2; omega)
theorem in64_getP {ps : List (Int × Int)} (h : ∀ p ∈ ps, In64 p.1 ∧ In64 p.2) {i : Nat} (hi : i < ps.length) : In64 (ps.getD i (0, 0)).1 ∧ In64 (ps.getD i (0, 0)).2 := by
  rw [List.getD_eq_getElem?_getD, List.getElem?_eq_getElem hi]; exact h _ (List.getElem_mem hi)
theorem word_len {p : Int × Int} (h : In64 p.1 ∧ In64 p.2) : (word p).length ≤ 41 := by
  have h1 := itoa_len h.1
  have h2 := itoa_len h.2
  simp only [word, List.length_append, List.length_cons, List.length_nil]; omega
theorem textTo_len {ps : List (Int × Int)} (h : ∀ p ∈ ps, In64 p.1 ∧ In64 p.2) : ∀ i, i ≤ ps.length → (textTo ps i).length ≤ 42 * i
  | 0, _ => by simp [textTo, Lib.join_nil]
  | i + 1, hi => by
    have h1 := textTo_len h i (by omega)
    have h2 := word_len (in64_getP h (i := i) (by omega))
    rcases Nat.eq_zero_or_pos i with rfl | h0
    · rw [textTo_one (by omega)]; omega
    · rw [textTo_succ (by omega) h0]; simp only [List.length_append, List.length_cons, List.length_nil]; omega
section
variable {w : World} {lo hi B : Nat} {v : Value} {ps : List (Int × Int)}
theorem isPlainT_c (h : SL w lo hi v ps := by repeat (first | assumption | exact Go.Gw.Own.sl (by assumption) | exact Go.Gw.Box.at (by assumption) | exact Go.Gw.SLL.el (by first | assumption | exact Go.Gw.OwnD.sll (by assumption)) _ (by omega) | exact Go.Gw.SLL.at (by first | assumption | exact Go.Gw.OwnD.sll (by assumption)) (by omega) | exact Go.Gw.OwnD.sll (by assumption) | (apply Go.Gw.SL.chg; case hx => assumption) | (apply Go.Gw.Own.chg; case hx => assumption) | (apply Go.Gw.Box.chg; case hx => assumption) | (apply Go.Gw.At.chg; case hx => assumption) | exact .inl (Nat.zero_le _) | exact .inr (Nat.zero_le _) | (show _ ∨ _; omega))) (hq : ∀ p ∈ ps, In64 p.1 ∧ In64 p.2 := by assumption) : Val Tryd.prog 15 [v] w (.bool (plnB ps)) := by
  refine ⟨fun w1 hx1 => ?_⟩
  replace h := h.ext hx1
  have hsm := h.small
  have E : Since 0 0 w1 w1 := Since.refl 0 0 w1
  refine ret_enter Tryd.func15 rfl Tryd.ntmps15 rfl ?_
  focus
    have ht_h := h.top
    refine c_seq ?_
    refine c_region ?_
    refine w_pure (y_assign rfl) rfl ?_
    refine w_nil ?_
    refine x_next ?_
    refine c_seq ?_
    refine c_seq ?_
    refine c_region ?_
    refine w_pure (y_move rfl) rfl ?_
    refine w_pure (y_len rfl) rfl ?_
    refine w_pure (y_move rfl) rfl ?_
    refine w_nil ?_
    refine x_next ?_
    refine c_block ?_
    rotate_left
  refine c_loopC 0 0 (ι := Int) (fun i => [(0, v), (5, v), (6, .int .i64 ps.length), (7, .int .i64 i)]) (fun i w' => 0 ≤ i ∧ i ≤ ps.length ∧ ∀ j, j < i.toNat → plnAt ps j) (fun i => (ps.length - i).toNat) 0
    (by repeat (first | exact trivial | refine ⟨rfl, ?_⟩)) ⟨by omega, by omega, fun j hj => absurd hj (by simp)⟩ ?_
  rintro i w2 hx2 E2 ⟨hi0, hi1, hall⟩
  have hq1 := fun h => in64_getP hq (i := i.toNat) h
  have ep : i.toNat - 1 = (i - 1).toNat := by omega
  have hpl : plnAt ps i.toNat ↔ ((0 ≤ (ps.getD i.toNat (0, 0)).1 ∧ (ps.getD i.toNat (0, 0)).1 ≤ 19) ∧ (0 ≤ (ps.getD i.toNat (0, 0)).2 ∧ (ps.getD i.toNat (0, 0)).2 ≤ 19) ∧ (0 < i → (ps.getD (i - 1).toNat (0, 0)).2 < (ps.getD i.toNat (0, 0)).2)) := by
    unfold plnAt; rw [ep, show (0 < i.toNat) = (0 < i) from propext ⟨fun _ => by omega, fun _ => by omega⟩]
  have hno : i < ps.length → ¬ plnAt ps i.toNat → plnB ps = false := fun h hn => pln_no (by omega) hn
  have hyes : plnAt ps i.toNat → ∀ j, j < (i + 1).toNat → plnAt ps j := fun hp j hj => if h : j < i.toNat then hall j h else by rw [show j = i.toNat by omega]; exact hp
  focus
    have hz_hx2 := hx2.size
    replace h := h.ext hx2
    replace E := E.trans hx2
    refine c_seq ?_
    refine c_region ?_
    refine w_pure (y_lt rfl rfl) rfl ?_
    refine w_nil ?_
    refine x_next ?_
    refine c_seq ?_
    (refine c_dec rfl (fun hc8 => ?_) (fun hc8 => ?_) <;> try (first | exact absurd rfl hc8 | contradiction | exact Bool.noConfusion (show false = true from hc8.symm.trans (by assumption)) | exact Bool.noConfusion (show true = false from hc8.symm.trans (by assumption)) | (exfalso; omega) | (exfalso; simp only [*, Bool.not_true, Bool.not_false, reduceCtorEq] at hc8; done)))
    refine c_skip ?_
    refine x_next ?_
    refine c_seq ?_
    refine c_block ?_
    refine c_seq ?_
    refine c_region ?_
    refine w_pure (y_move rfl) rfl ?_
    refine w_pure (y_index rfl rfl) rfl ?_
    refine w_pure (y_load_paire rfl (show ps.getD i.toNat (0, 0) = ((ps.getD i.toNat (0, 0)).1, (ps.getD i.toNat (0, 0)).2) from rfl)) rfl ?_
    refine w_alloc (k := fun b4 w4 hb4 hx4 hl4 hs4 => ?_)
    have hz_hx4 := hx4.size
    replace E2 := E2.trans hx4
    replace h := h.ext hx4
    replace E := E.trans hx4
    refine w_pure (y_assign rfl) rfl ?_
    refine w_store_boxs rfl rfl (next := fun ws19 hbs19 hxs19 hss19 => ?_)
    (replace hb4 := hbs19; clear hbs19)
    have hz_hxs19 := hxs19.size
    replace E2 := E2.next hxs19 (by omega)
    replace h := h.chg hxs19 (by omega)
    replace E := E.next hxs19 (by omega)
    refine w_nil ?_
    refine x_next ?_
    refine c_seq ?_
    refine c_region_held mixed (fun wr4 hxr4 hzr4 => ?_)
    have hz_hxr4 := hxr4.size
    replace hb4 := hb4.ext hxr4
    replace E2 := E2.trans hxr4
    replace h := h.ext hxr4
    replace E := E.trans hxr4
    refine h_pure rfl (y_field rfl) rfl ?_
    refine h_pure rfl (y_load_box rfl) rfl ?_
    refine h_one rfl ?_
    refine w_pur rfl rfl rfl (inside_c _ _ _) rfl ?_
    refine w_nil ?_
    refine x_held ?_
    refine h_pure rfl (y_not_dec rfl) rfl ?_
    refine h_pure rfl (y_move rfl) rfl ?_
    (refine h_part_dec rfl rfl (fun hc17 => ?_) (fun hc17 => ?_) <;> try (first | exact absurd rfl hc17 | contradiction | exact Bool.noConfusion (show false = true from hc17.symm.trans (by assumption)) | exact Bool.noConfusion (show true = false from hc17.symm.trans (by assumption)) | (exfalso; omega) | (exfalso; simp only [*, Bool.not_true, Bool.not_false, reduceCtorEq] at hc17; done)))
    refine h_no rfl rfl rfl rfl rfl ?_
    refine h_no rfl rfl rfl rfl rfl ?_
    refine h_no rfl rfl rfl rfl rfl ?_
    refine h_no rfl rfl rfl rfl rfl ?_
    refine h_pure rfl (y_pick_t rfl rfl) rfl ?_
    refine h_pure rfl (y_move rfl) rfl ?_
    refine h_no rfl rfl rfl rfl rfl ?_
    refine h_no rfl rfl rfl rfl rfl ?_
    refine h_no rfl rfl rfl rfl rfl ?_
    refine h_none rfl rfl rfl rfl ?_
    refine h_none rfl rfl rfl rfl ?_
    refine h_none rfl rfl rfl rfl ?_
    refine h_none rfl rfl rfl rfl ?_
    refine h_none rfl rfl rfl rfl ?_
    refine h_none rfl rfl rfl rfl ?_
    refine h_none rfl rfl rfl rfl ?_
    refine h_none rfl rfl rfl rfl ?_
    refine h_none rfl rfl rfl rfl ?_
    refine h_no rfl rfl rfl rfl rfl ?_
    refine h_pure rfl (y_pick_t rfl rfl) rfl ?_
    refine h_nil ?_
    refine x_next ?_
    refine c_true rfl ?_
    refine c_seq ?_
    refine c_region ?_
    refine w_pure (y_assign rfl) rfl ?_
    refine w_nil ?_
    refine x_next ?_
    refine c_ret ?_
    refine x_block_ret ?_
    refine x_then_ret ?_
    refine x_then_ret ?_
    refine x_block_ret ?_
    refine x_then_ret ?_
    rotate_left
    refine h_yes rfl rfl rfl (y_field rfl) rfl ?_
    refine h_yes rfl rfl rfl (y_load_box rfl) rfl ?_
    (refine h_part rfl rfl (fun hc19 => ?_) (fun hc19 => ?_) <;> try (first | exact absurd rfl hc19 | contradiction | exact Bool.noConfusion (show false = true from hc19.symm.trans (by assumption)) | exact Bool.noConfusion (show true = false from hc19.symm.trans (by assumption)) | (exfalso; omega) | (exfalso; simp only [*, Bool.not_true, Bool.not_false, reduceCtorEq] at hc19; done)))
    refine h_one rfl ?_
    refine w_yes rfl rfl ?_
    refine w_pur rfl rfl rfl (inside_c _ _ _) rfl ?_
    refine w_nil ?_
    refine x_held ?_
    refine h_yes rfl rfl rfl (y_not_dec rfl) rfl ?_
    refine h_pure rfl (y_pick_f rfl rfl) rfl ?_
    refine h_pure rfl (y_move rfl) rfl ?_
    (refine h_part_dec rfl rfl (fun hc23 => ?_) (fun hc23 => ?_) <;> try (first | exact absurd rfl hc23 | contradiction | exact Bool.noConfusion (show false = true from hc23.symm.trans (by assumption)) | exact Bool.noConfusion (show true = false from hc23.symm.trans (by assumption)) | (exfalso; omega) | (exfalso; simp only [*, Bool.not_true, Bool.not_false, reduceCtorEq] at hc23; done)))
    refine h_no rfl rfl rfl rfl rfl ?_
    refine h_no rfl rfl rfl rfl rfl ?_
    refine h_no rfl rfl rfl rfl rfl ?_
    refine h_none rfl rfl rfl rfl ?_
    refine h_none rfl rfl rfl rfl ?_
    refine h_none rfl rfl rfl rfl ?_
    refine h_none rfl rfl rfl rfl ?_
    refine h_none rfl rfl rfl rfl ?_
    refine h_none rfl rfl rfl rfl ?_
    refine h_none rfl rfl rfl rfl ?_
    refine h_none rfl rfl rfl rfl ?_
    refine h_none rfl rfl rfl rfl ?_
    refine h_no rfl rfl rfl rfl rfl ?_
    refine h_pure rfl (y_pick_t rfl rfl) rfl ?_
    refine h_nil ?_
    refine x_next ?_
    refine c_true rfl ?_
    refine c_seq ?_
    refine c_region ?_
    refine w_pure (y_assign rfl) rfl ?_
    refine w_nil ?_
    refine x_next ?_
    refine c_ret ?_
    refine x_block_ret ?_
    refine x_then_ret ?_
    refine x_then_ret ?_
    refine x_block_ret ?_
    refine x_then_ret ?_
    rotate_left
    refine h_yes rfl rfl rfl (y_move rfl) rfl ?_
    refine h_yes rfl rfl rfl (y_gt rfl rfl) rfl ?_
    refine h_yes rfl rfl rfl (y_move rfl) rfl ?_
    (refine h_part_dec rfl rfl (fun hc26 => ?_) (fun hc26 => ?_) <;> try (first | exact absurd rfl hc26 | contradiction | exact Bool.noConfusion (show false = true from hc26.symm.trans (by assumption)) | exact Bool.noConfusion (show true = false from hc26.symm.trans (by assumption)) | (exfalso; omega) | (exfalso; simp only [*, Bool.not_true, Bool.not_false, reduceCtorEq] at hc26; done)))
    refine h_yes rfl rfl rfl (y_move rfl) rfl ?_
    refine h_yes rfl rfl rfl (y_move rfl) rfl ?_
    refine h_yes rfl rfl rfl (y_sub rfl rfl) rfl ?_
    refine h_yes rfl rfl rfl (y_index rfl rfl) rfl ?_
    refine h_yes rfl rfl rfl (y_field rfl) rfl ?_
    refine h_yes rfl rfl rfl (y_load_p1 rfl) rfl ?_
    refine h_yes rfl rfl rfl (y_field rfl) rfl ?_
    refine h_yes rfl rfl rfl (y_load_box rfl) rfl ?_
    refine h_yes rfl rfl rfl (y_ge rfl rfl) rfl ?_
    refine h_yes rfl rfl rfl (y_pick_t rfl rfl) rfl ?_
    refine h_pure rfl (y_pick_f rfl rfl) rfl ?_
    refine h_nil ?_
    refine x_next ?_
    (refine c_dec rfl (fun hc36 => ?_) (fun hc36 => ?_) <;> try (first | exact absurd rfl hc36 | contradiction | exact Bool.noConfusion (show false = true from hc36.symm.trans (by assumption)) | exact Bool.noConfusion (show true = false from hc36.symm.trans (by assumption)) | (exfalso; omega) | (exfalso; simp only [*, Bool.not_true, Bool.not_false, reduceCtorEq] at hc36; done)))
    refine c_seq ?_
    refine c_region ?_
    refine w_pure (y_assign rfl) rfl ?_
    refine w_nil ?_
    refine x_next ?_
    refine c_ret ?_
    refine x_block_ret ?_
    refine x_then_ret ?_
    refine x_then_ret ?_
    refine x_block_ret ?_
    refine x_then_ret ?_
    rotate_left
    refine c_skip ?_
    refine x_block_norm ?_
    refine x_next ?_
    refine c_region ?_
    refine w_pure (y_add rfl rfl) rfl ?_
    refine w_pure (y_move rfl) rfl ?_
    refine w_nil ?_
    rotate_left
    refine h_no rfl rfl rfl rfl rfl ?_
    refine h_no rfl rfl rfl rfl rfl ?_
    refine h_no rfl rfl rfl rfl rfl ?_
    refine h_no rfl rfl rfl rfl rfl ?_
    refine h_no rfl rfl rfl rfl rfl ?_
    refine h_no rfl rfl rfl rfl rfl ?_
    refine h_no rfl rfl rfl rfl rfl ?_
    refine h_no rfl rfl rfl rfl rfl ?_
    refine h_no rfl rfl rfl rfl rfl ?_
    refine h_yes rfl rfl rfl (y_pick_f rfl rfl) rfl ?_
    refine h_pure rfl (y_pick_f rfl rfl) rfl ?_
    refine h_nil ?_
    refine x_next ?_
    refine c_false rfl ?_
    refine c_skip ?_
    refine x_block_norm ?_
    refine x_next ?_
    refine c_region ?_
    refine w_pure (y_add rfl rfl) rfl ?_
    refine w_pure (y_move rfl) rfl ?_
    refine w_nil ?_
    rotate_left
    refine c_exit ?_
    refine x_then_exit ?_
    refine x_then_exit ?_
    refine x_block_hit ?_
    refine x_next ?_
    refine c_seq ?_
    refine c_region ?_
    refine w_pure (y_assign rfl) rfl ?_
    refine w_nil ?_
    refine x_next ?_
    refine c_ret ?_
    rotate_left
  · exact x_retv [_] rfl ⟨rfl, trivial⟩ ⟨by rw [hno hc8 (fun g => by have := hpl.1 g; omega)]; rfl, E.go⟩
  · exact x_retv [_] rfl ⟨rfl, trivial⟩ ⟨by rw [hno hc8 (fun g => by have := hpl.1 g; omega)]; rfl, E.go⟩
  · exact x_retv [_] rfl ⟨rfl, trivial⟩ ⟨by rw [hno hc8 (fun g => by have := hpl.1 g; omega)]; rfl, E.go⟩
  · exact x_again (i + 1) ⟨rfl, rfl, rfl, rfl, trivial⟩ ⟨E2.go, by omega, by omega, hyes (hpl.2 ⟨by omega, by omega, fun _ => by omega⟩)⟩ (by omega)
  · exact x_again (i + 1) ⟨rfl, rfl, rfl, rfl, trivial⟩ ⟨E2.go, by omega, by omega, hyes (hpl.2 ⟨by omega, by omega, fun _ => by omega⟩)⟩ (by omega)
  · exact x_retv [_] rfl ⟨rfl, trivial⟩ ⟨by rw [pln_yes fun j hj => hall j (by omega)]; rfl, E.go⟩
theorem l10PlainT_c (h : SL w lo hi v ps := by repeat (first | assumption | exact Go.Gw.Own.sl (by assumption) | exact Go.Gw.Box.at (by assumption) | exact Go.Gw.SLL.el (by first | assumption | exact Go.Gw.OwnD.sll (by assumption)) _ (by omega) | exact Go.Gw.SLL.at (by first | assumption | exact Go.Gw.OwnD.sll (by assumption)) (by omega) | exact Go.Gw.OwnD.sll (by assumption) | (apply Go.Gw.SL.chg; case hx => assumption) | (apply Go.Gw.Own.chg; case hx => assumption) | (apply Go.Gw.Box.chg; case hx => assumption) | (apply Go.Gw.At.chg; case hx => assumption) | exact .inl (Nat.zero_le _) | exact .inr (Nat.zero_le _) | (show _ ∨ _; omega))) (hq : ∀ p ∈ ps, In64 p.1 ∧ In64 p.2 := by assumption) : Val Tryd.prog 11 [v] w (.bool (plnB ps)) := by
  refine ⟨fun w1 hx1 => ?_⟩
  replace h := h.ext hx1
  have hsm := h.small
  have E : Since 0 0 w1 w1 := Since.refl 0 0 w1
  refine ret_enter Tryd.func11 rfl Tryd.ntmps11 rfl ?_
  focus
    have ht_h := h.top
    refine c_seq ?_
    refine c_region ?_
    refine w_pure (y_assign rfl) rfl ?_
    refine w_nil ?_
    refine x_next ?_
    refine c_seq ?_
    refine c_seq ?_
    refine c_region ?_
    refine w_pure (y_assign rfl) rfl ?_
    refine w_nil ?_
    refine x_next ?_
    refine c_block ?_
    rotate_left
  refine c_loopC 0 0 (ι := Int) (fun i => [(0, v), (3, .int .i64 i)]) (fun i w' => 0 ≤ i ∧ i ≤ ps.length ∧ ∀ j, j < i.toNat → plnAt ps j) (fun i => (ps.length - i).toNat) 0
    (by repeat (first | exact trivial | refine ⟨rfl, ?_⟩)) ⟨by omega, by omega, fun j hj => absurd hj (by simp)⟩ ?_
  rintro i w2 hx2 E2 ⟨hi0, hi1, hall⟩
  have hq1 := fun h => in64_getP hq (i := i.toNat) h
  have ep : i.toNat - 1 = (i - 1).toNat := by omega
  have hpl : plnAt ps i.toNat ↔ ((0 ≤ (ps.getD i.toNat (0, 0)).1 ∧ (ps.getD i.toNat (0, 0)).1 ≤ 19) ∧ (0 ≤ (ps.getD i.toNat (0, 0)).2 ∧ (ps.getD i.toNat (0, 0)).2 ≤ 19) ∧ (0 < i → (ps.getD (i - 1).toNat (0, 0)).2 < (ps.getD i.toNat (0, 0)).2)) := by
    unfold plnAt; rw [ep, show (0 < i.toNat) = (0 < i) from propext ⟨fun _ => by omega, fun _ => by omega⟩]
  have hno : i < ps.length → ¬ plnAt ps i.toNat → plnB ps = false := fun h hn => pln_no (by omega) hn
  have hyes : plnAt ps i.toNat → ∀ j, j < (i + 1).toNat → plnAt ps j := fun hp j hj => if h : j < i.toNat then hall j h else by rw [show j = i.toNat by omega]; exact hp
  focus
    have hz_hx2 := hx2.size
    replace h := h.ext hx2
    replace E := E.trans hx2
    refine c_seq ?_
    refine c_seq ?_
    refine c_region ?_
    refine w_pure (y_move rfl) rfl ?_
    refine w_pure (y_move rfl) rfl ?_
    refine w_pure (y_len rfl) rfl ?_
    refine w_pure (y_lt rfl rfl) rfl ?_
    refine w_nil ?_
    refine x_next ?_
    (refine c_dec rfl (fun hc7 => ?_) (fun hc7 => ?_) <;> try (first | exact absurd rfl hc7 | contradiction | exact Bool.noConfusion (show false = true from hc7.symm.trans (by assumption)) | exact Bool.noConfusion (show true = false from hc7.symm.trans (by assumption)) | (exfalso; omega) | (exfalso; simp only [*, Bool.not_true, Bool.not_false, reduceCtorEq] at hc7; done)))
    refine c_skip ?_
    refine x_next ?_
    refine c_seq ?_
    refine c_block ?_
    refine c_seq ?_
    refine c_region_held mixed (fun wr4 hxr4 hzr4 => ?_)
    have hz_hxr4 := hxr4.size
    replace E2 := E2.trans hxr4
    replace h := h.ext hxr4
    replace E := E.trans hxr4
    refine h_pure rfl (y_move rfl) rfl ?_
    refine h_pure rfl (y_move rfl) rfl ?_
    refine h_pure rfl (y_index rfl rfl) rfl ?_
    refine h_pure rfl (y_field rfl) rfl ?_
    refine h_pure rfl (y_load_p0 rfl) rfl ?_
    refine h_one rfl ?_
    refine w_pur rfl rfl rfl (l00In_c _ _ _) rfl ?_
    refine w_nil ?_
    refine x_held ?_
    refine h_pure rfl (y_not_dec rfl) rfl ?_
    refine h_pure rfl (y_move rfl) rfl ?_
    (refine h_part_dec rfl rfl (fun hc18 => ?_) (fun hc18 => ?_) <;> try (first | exact absurd rfl hc18 | contradiction | exact Bool.noConfusion (show false = true from hc18.symm.trans (by assumption)) | exact Bool.noConfusion (show true = false from hc18.symm.trans (by assumption)) | (exfalso; omega) | (exfalso; simp only [*, Bool.not_true, Bool.not_false, reduceCtorEq] at hc18; done)))
    refine h_no rfl rfl rfl rfl rfl ?_
    refine h_no rfl rfl rfl rfl rfl ?_
    refine h_no rfl rfl rfl rfl rfl ?_
    refine h_no rfl rfl rfl rfl rfl ?_
    refine h_no rfl rfl rfl rfl rfl ?_
    refine h_no rfl rfl rfl rfl rfl ?_
    refine h_no rfl rfl rfl rfl rfl ?_
    refine h_pure rfl (y_pick_t rfl rfl) rfl ?_
    refine h_pure rfl (y_move rfl) rfl ?_
    refine h_no rfl rfl rfl rfl rfl ?_
    refine h_no rfl rfl rfl rfl rfl ?_
    refine h_no rfl rfl rfl rfl rfl ?_
    refine h_none rfl rfl rfl rfl ?_
    refine h_none rfl rfl rfl rfl ?_
    refine h_none rfl rfl rfl rfl ?_
    refine h_none rfl rfl rfl rfl ?_
    refine h_none rfl rfl rfl rfl ?_
    refine h_none rfl rfl rfl rfl ?_
    refine h_none rfl rfl rfl rfl ?_
    refine h_none rfl rfl rfl rfl ?_
    refine h_none rfl rfl rfl rfl ?_
    refine h_none rfl rfl rfl rfl ?_
    refine h_none rfl rfl rfl rfl ?_
    refine h_none rfl rfl rfl rfl ?_
    refine h_no rfl rfl rfl rfl rfl ?_
    refine h_pure rfl (y_pick_t rfl rfl) rfl ?_
    refine h_nil ?_
    refine x_next ?_
    refine c_true rfl ?_
    refine c_seq ?_
    refine c_region ?_
    refine w_pure (y_assign rfl) rfl ?_
    refine w_nil ?_
    refine x_next ?_
    refine c_ret ?_
    refine x_block_ret ?_
    refine x_then_ret ?_
    refine x_then_ret ?_
    refine x_block_ret ?_
    refine x_then_ret ?_
    rotate_left
    refine h_yes rfl rfl rfl (y_move rfl) rfl ?_
    refine h_yes rfl rfl rfl (y_move rfl) rfl ?_
    refine h_yes rfl rfl rfl (y_index rfl rfl) rfl ?_
    refine h_yes rfl rfl rfl (y_field rfl) rfl ?_
    refine h_yes rfl rfl rfl (y_load_p1 rfl) rfl ?_
    (refine h_part rfl rfl (fun hc23 => ?_) (fun hc23 => ?_) <;> try (first | exact absurd rfl hc23 | contradiction | exact Bool.noConfusion (show false = true from hc23.symm.trans (by assumption)) | exact Bool.noConfusion (show true = false from hc23.symm.trans (by assumption)) | (exfalso; omega) | (exfalso; simp only [*, Bool.not_true, Bool.not_false, reduceCtorEq] at hc23; done)))
    refine h_one rfl ?_
    refine w_yes rfl rfl ?_
    refine w_pur rfl rfl rfl (l00In_c _ _ _) rfl ?_
    refine w_nil ?_
    refine x_held ?_
    refine h_yes rfl rfl rfl (y_not_dec rfl) rfl ?_
    refine h_pure rfl (y_pick_f rfl rfl) rfl ?_
    refine h_pure rfl (y_move rfl) rfl ?_
    (refine h_part_dec rfl rfl (fun hc27 => ?_) (fun hc27 => ?_) <;> try (first | exact absurd rfl hc27 | contradiction | exact Bool.noConfusion (show false = true from hc27.symm.trans (by assumption)) | exact Bool.noConfusion (show true = false from hc27.symm.trans (by assumption)) | (exfalso; omega) | (exfalso; simp only [*, Bool.not_true, Bool.not_false, reduceCtorEq] at hc27; done)))
    refine h_no rfl rfl rfl rfl rfl ?_
    refine h_no rfl rfl rfl rfl rfl ?_
    refine h_no rfl rfl rfl rfl rfl ?_
    refine h_none rfl rfl rfl rfl ?_
    refine h_none rfl rfl rfl rfl ?_
    refine h_none rfl rfl rfl rfl ?_
    refine h_none rfl rfl rfl rfl ?_
    refine h_none rfl rfl rfl rfl ?_
    refine h_none rfl rfl rfl rfl ?_
    refine h_none rfl rfl rfl rfl ?_
    refine h_none rfl rfl rfl rfl ?_
    refine h_none rfl rfl rfl rfl ?_
    refine h_none rfl rfl rfl rfl ?_
    refine h_none rfl rfl rfl rfl ?_
    refine h_none rfl rfl rfl rfl ?_
    refine h_no rfl rfl rfl rfl rfl ?_
    refine h_pure rfl (y_pick_t rfl rfl) rfl ?_
    refine h_nil ?_
    refine x_next ?_
    refine c_true rfl ?_
    refine c_seq ?_
    refine c_region ?_
    refine w_pure (y_assign rfl) rfl ?_
    refine w_nil ?_
    refine x_next ?_
    refine c_ret ?_
    refine x_block_ret ?_
    refine x_then_ret ?_
    refine x_then_ret ?_
    refine x_block_ret ?_
    refine x_then_ret ?_
    rotate_left
    refine h_yes rfl rfl rfl (y_move rfl) rfl ?_
    refine h_yes rfl rfl rfl (y_gt rfl rfl) rfl ?_
    refine h_yes rfl rfl rfl (y_move rfl) rfl ?_
    (refine h_part_dec rfl rfl (fun hc30 => ?_) (fun hc30 => ?_) <;> try (first | exact absurd rfl hc30 | contradiction | exact Bool.noConfusion (show false = true from hc30.symm.trans (by assumption)) | exact Bool.noConfusion (show true = false from hc30.symm.trans (by assumption)) | (exfalso; omega) | (exfalso; simp only [*, Bool.not_true, Bool.not_false, reduceCtorEq] at hc30; done)))
    refine h_yes rfl rfl rfl (y_move rfl) rfl ?_
    refine h_yes rfl rfl rfl (y_move rfl) rfl ?_
    refine h_yes rfl rfl rfl (y_sub rfl rfl) rfl ?_
    refine h_yes rfl rfl rfl (y_index rfl rfl) rfl ?_
    refine h_yes rfl rfl rfl (y_field rfl) rfl ?_
    refine h_yes rfl rfl rfl (y_load_p1 rfl) rfl ?_
    refine h_yes rfl rfl rfl (y_move rfl) rfl ?_
    refine h_yes rfl rfl rfl (y_move rfl) rfl ?_
    refine h_yes rfl rfl rfl (y_index rfl rfl) rfl ?_
    refine h_yes rfl rfl rfl (y_field rfl) rfl ?_
    refine h_yes rfl rfl rfl (y_load_p1 rfl) rfl ?_
    refine h_yes rfl rfl rfl (y_ge rfl rfl) rfl ?_
    refine h_yes rfl rfl rfl (y_pick_t rfl rfl) rfl ?_
    refine h_pure rfl (y_pick_f rfl rfl) rfl ?_
    refine h_nil ?_
    refine x_next ?_
    (refine c_dec rfl (fun hc43 => ?_) (fun hc43 => ?_) <;> try (first | exact absurd rfl hc43 | contradiction | exact Bool.noConfusion (show false = true from hc43.symm.trans (by assumption)) | exact Bool.noConfusion (show true = false from hc43.symm.trans (by assumption)) | (exfalso; omega) | (exfalso; simp only [*, Bool.not_true, Bool.not_false, reduceCtorEq] at hc43; done)))
    refine c_seq ?_
    refine c_region ?_
    refine w_pure (y_assign rfl) rfl ?_
    refine w_nil ?_
    refine x_next ?_
    refine c_ret ?_
    refine x_block_ret ?_
    refine x_then_ret ?_
    refine x_then_ret ?_
    refine x_block_ret ?_
    refine x_then_ret ?_
    rotate_left
    refine c_skip ?_
    refine x_block_norm ?_
    refine x_next ?_
    refine c_region ?_
    refine w_pure (y_move rfl) rfl ?_
    refine w_pure (y_add rfl rfl) rfl ?_
    refine w_pure (y_assign rfl) rfl ?_
    refine w_nil ?_
    rotate_left
    refine h_no rfl rfl rfl rfl rfl ?_
    refine h_no rfl rfl rfl rfl rfl ?_
    refine h_no rfl rfl rfl rfl rfl ?_
    refine h_no rfl rfl rfl rfl rfl ?_
    refine h_no rfl rfl rfl rfl rfl ?_
    refine h_no rfl rfl rfl rfl rfl ?_
    refine h_no rfl rfl rfl rfl rfl ?_
    refine h_no rfl rfl rfl rfl rfl ?_
    refine h_no rfl rfl rfl rfl rfl ?_
    refine h_no rfl rfl rfl rfl rfl ?_
    refine h_no rfl rfl rfl rfl rfl ?_
    refine h_no rfl rfl rfl rfl rfl ?_
    refine h_yes rfl rfl rfl (y_pick_f rfl rfl) rfl ?_
    refine h_pure rfl (y_pick_f rfl rfl) rfl ?_
    refine h_nil ?_
    refine x_next ?_
    refine c_false rfl ?_
    refine c_skip ?_
    refine x_block_norm ?_
    refine x_next ?_
    refine c_region ?_
    refine w_pure (y_move rfl) rfl ?_
    refine w_pure (y_add rfl rfl) rfl ?_
    refine w_pure (y_assign rfl) rfl ?_
    refine w_nil ?_
    rotate_left
    refine c_exit ?_
    refine x_then_exit ?_
    refine x_then_exit ?_
    refine x_block_hit ?_
    refine x_next ?_
    refine c_seq ?_
    refine c_region ?_
    refine w_pure (y_assign rfl) rfl ?_
    refine w_nil ?_
    refine x_next ?_
    refine c_ret ?_
    rotate_left
  · exact x_retv [_] rfl ⟨rfl, trivial⟩ ⟨by rw [hno hc7 (fun g => by have := hpl.1 g; omega)]; rfl, E.go⟩
  · exact x_retv [_] rfl ⟨rfl, trivial⟩ ⟨by rw [hno hc7 (fun g => by have := hpl.1 g; omega)]; rfl, E.go⟩
  · exact x_retv [_] rfl ⟨rfl, trivial⟩ ⟨by rw [hno hc7 (fun g => by have := hpl.1 g; omega)]; rfl, E.go⟩
  · exact x_again (i + 1) ⟨rfl, rfl, trivial⟩ ⟨E2.go, by omega, by omega, hyes (hpl.2 ⟨by omega, by omega, fun _ => by omega⟩)⟩ (by omega)
  · exact x_again (i + 1) ⟨rfl, rfl, trivial⟩ ⟨E2.go, by omega, by omega, hyes (hpl.2 ⟨by omega, by omega, fun _ => by omega⟩)⟩ (by omega)
  · exact x_retv [_] rfl ⟨rfl, trivial⟩ ⟨by rw [pln_yes fun j hj => hall j (by omega)]; rfl, E.go⟩
theorem iCopiesText_c (hT : Tab B w := by assumption) (h : SL w lo hi v ps := by repeat (first | assumption | exact Go.Gw.Own.sl (by assumption) | exact Go.Gw.Box.at (by assumption) | exact Go.Gw.SLL.el (by first | assumption | exact Go.Gw.OwnD.sll (by assumption)) _ (by omega) | exact Go.Gw.SLL.at (by first | assumption | exact Go.Gw.OwnD.sll (by assumption)) (by omega) | exact Go.Gw.OwnD.sll (by assumption) | (apply Go.Gw.SL.chg; case hx => assumption) | (apply Go.Gw.Own.chg; case hx => assumption) | (apply Go.Gw.Box.chg; case hx => assumption) | (apply Go.Gw.At.chg; case hx => assumption) | exact .inl (Nat.zero_le _) | exact .inr (Nat.zero_le _) | (show _ ∨ _; omega))) (hl : ps.length ≤ 1048576 := by omega) (hq : ∀ p ∈ ps, In64 p.1 ∧ In64 p.2 := by assumption) : Val Tryd.prog 16 [v] w (str (cpText ps)) := by
  refine ⟨fun w1 hx1 => ?_⟩
  replace h := h.ext hx1
  replace hT := hT.ext hx1
  have hsm := h.small
  by_cases hk : plnB ps = true
  · have E : Since 0 0 w1 w1 := Since.refl 0 0 w1
    refine ret_enter Tryd.func16 rfl Tryd.ntmps16 rfl ?_
    focus
      have ht_h := h.top
      have ht_hT := hT.top
      refine c_seq ?_
      refine c_region ?_
      refine w_pure (y_assign rfl) rfl ?_
      refine w_nil ?_
      refine x_next ?_
      refine c_seq ?_
      refine c_seq ?_
      refine c_region ?_
      refine w_pure (y_move rfl) rfl ?_
      refine w_val rfl rfl rfl (isPlainT_c) rfl (fun w7 hx7 hz7 => ?_)
      have hz_hx7 := hx7.size
      replace h := h.ext hx7
      replace hT := hT.ext hx7
      replace E := E.trans hx7
      refine w_pure (y_not rfl) rfl ?_
      refine w_nil ?_
      refine x_next ?_
      (refine c_not rfl (fun hc8 => ?_) (fun hc8 => ?_) <;> try (first | exact absurd rfl hc8 | contradiction | exact Bool.noConfusion (show false = true from hc8.symm.trans (by assumption)) | exact Bool.noConfusion (show true = false from hc8.symm.trans (by assumption)) | (exfalso; omega) | (exfalso; simp only [*, Bool.not_true, Bool.not_false, reduceCtorEq] at hc8; done)))
      refine c_skip ?_
      refine x_next ?_
      refine c_seq ?_
      refine c_region ?_
      refine w_lit_s0 rfl (k := fun v9 w9 ho9 hx9 hl9 hh9 hs9 => ?_)
      have hl_ho9 := ho9.lt
      have hz_hx9 := hx9.size
      replace h := h.ext hx9
      replace hT := hT.ext hx9
      replace E := E.trans hx9
      refine w_pure (y_assign rfl) rfl ?_
      refine w_nil ?_
      refine x_next ?_
      refine c_seq ?_
      refine c_seq ?_
      refine c_region ?_
      refine w_pure (y_move rfl) rfl ?_
      refine w_pure (y_len rfl) rfl ?_
      refine w_pure (y_move rfl) rfl ?_
      refine w_nil ?_
      refine x_next ?_
      refine c_block ?_
      rotate_left
    refine c_loopC (bL v9) (bH v9) (ι := Int × Value) (fun x => [(3, x.2), (10, v), (11, .int .i64 ps.length), (12, .int .i64 x.1)]) (fun x w' => Own w' 9 w1.heap.size x.2 ((ps.take x.1.toNat).map word) ∧ ((bL x.2 = bL v9 ∧ bH x.2 = bH v9) ∨ w9.heap.size ≤ bL x.2) ∧ 0 ≤ x.1 ∧ x.1 ≤ ps.length) (fun x => (ps.length - x.1).toNat) (0, v9)
      (by repeat (first | exact trivial | refine ⟨rfl, ?_⟩)) ⟨Own.base (by assumption) (by omega), .inl ⟨rfl, rfl⟩, by dsimp only; omega, by dsimp only; omega⟩ ?_
    clear ho9
    rintro ⟨i, u⟩ w2 hx2 E2 ⟨h2, h4, hi0, hi1⟩
    dsimp only at *
    have hml : ((ps.take i.toNat).map word).length = i.toNat := by rw [List.length_map, List.length_take]; omega
    have hq1 : i < ps.length → In64 (ps.getD i.toNat (0, 0)).1 ∧ In64 (ps.getD i.toNat (0, 0)).2 := fun h => in64_getP hq (i := i.toNat) (by omega)
    have hw1 : i < ps.length → (Lib.itoa (ps.getD i.toNat (0, 0)).1).length ≤ 20 := fun h => itoa_len (hq1 h).1
    have hw2 : i < ps.length → (Lib.itoa (ps.getD i.toNat (0, 0)).2).length ≤ 20 := fun h => itoa_len (hq1 h).2
    have e1 : (i + 1).toNat = i.toNat + 1 := by omega
    have hll : (Lib.join ((ps.take i.toNat).map word) [32]).length ≤ 140737488355328 := by
      have := textTo_len hq i.toNat (by omega)
      rw [textTo] at this; omega
    focus
      have hl_h2 := h2.lt
      have hz_hx2 := hx2.size
      replace h := h.chg hx2 (by omega)
      replace hT := hT.chg hx2 (by omega)
      replace E := E.next hx2 (by omega)
      refine c_seq ?_
      refine c_region ?_
      refine w_pure (y_lt rfl rfl) rfl ?_
      refine w_nil ?_
      refine x_next ?_
      refine c_seq ?_
      (refine c_dec rfl (fun hc13 => ?_) (fun hc13 => ?_) <;> try (first | exact absurd rfl hc13 | contradiction | exact Bool.noConfusion (show false = true from hc13.symm.trans (by assumption)) | exact Bool.noConfusion (show true = false from hc13.symm.trans (by assumption)) | (exfalso; omega) | (exfalso; simp only [*, Bool.not_true, Bool.not_false, reduceCtorEq] at hc13; done)))
      refine c_skip ?_
      refine x_next ?_
      refine c_seq ?_
      refine c_block ?_
      refine c_seq ?_
      refine c_region ?_
      refine w_pure (y_index rfl rfl) rfl ?_
      refine w_pure (y_load_paire rfl (show ps.getD i.toNat (0, 0) = ((ps.getD i.toNat (0, 0)).1, (ps.getD i.toNat (0, 0)).2) from rfl)) rfl ?_
      refine w_alloc (k := fun b5 w5 hb5 hx5 hl5 hs5 => ?_)
      have hz_hx5 := hx5.size
      replace E2 := E2.next hx5 (by omega)
      replace h2 := h2.ext hx5
      replace h := h.ext hx5
      replace hT := hT.ext hx5
      replace E := E.trans hx5
      refine w_store_boxs rfl rfl (next := fun ws17 hbs17 hxs17 hss17 => ?_)
      (replace hb5 := hbs17; clear hbs17)
      have hz_hxs17 := hxs17.size
      replace E2 := E2.next hxs17 (by omega)
      replace h2 := h2.chg hxs17 (by omega)
      replace h := h.chg hxs17 (by omega)
      replace hT := hT.chg hxs17 (by omega)
      replace E := E.next hxs17 (by omega)
      refine w_nil ?_
      refine x_next ?_
      refine c_region_held mixed (fun wr7 hxr7 hzr7 => ?_)
      have hz_hxr7 := hxr7.size
      replace hb5 := hb5.ext hxr7
      replace E2 := E2.next hxr7 (by omega)
      replace h2 := h2.ext hxr7
      replace h := h.ext hxr7
      replace hT := hT.ext hxr7
      replace E := E.trans hxr7
      refine h_pure rfl (y_move rfl) rfl ?_
      refine h_pure rfl (y_field rfl) rfl ?_
      refine h_pure rfl (y_load_box rfl) rfl ?_
      refine h_turn ?_
      refine h_turn ?_
      refine h_pure rfl (y_field rfl) rfl ?_
      refine h_pure rfl (y_load_box rfl) rfl ?_
      refine h_turn ?_
      refine h_turn ?_
      refine h_turn ?_
      refine h_turn ?_
      refine h_turn ?_
      refine h_one rfl ?_
      refine w_val rfl rfl rfl (iDecimal_c _) rfl (fun w19 hx19 hz19 => ?_)
      have hz_hx19 := hx19.size
      replace hb5 := hb5.ext hx19
      replace E2 := E2.next hx19 (by omega)
      replace h2 := h2.ext hx19
      replace h := h.ext hx19
      replace hT := hT.ext hx19
      replace E := E.trans hx19
      refine w_nil ?_
      refine x_held ?_
      refine h_turn ?_
      refine h_turn ?_
      refine h_turn ?_
      refine h_turn ?_
      refine h_turn ?_
      refine h_turn ?_
      refine h_twoX (j := 7) rfl rfl ?_ ?_
      refine w_pure (y_scat rfl rfl (by simp only [List.length_append, List.length_cons, List.length_nil]; omega)) rfl ?_
      refine w_nil ?_
      refine x_held ?_
      refine h_one rfl ?_
      refine w_val rfl rfl rfl (iDecimal_c _) rfl (fun w23 hx23 hz23 => ?_)
      have hz_hx23 := hx23.size
      replace hb5 := hb5.ext hx23
      replace E2 := E2.next hx23 (by omega)
      replace h2 := h2.ext hx23
      replace h := h.ext hx23
      replace hT := hT.ext hx23
      replace E := E.trans hx23
      refine w_nil ?_
      refine x_held ?_
      refine h_one rfl ?_
      refine w_pure (y_scat rfl rfl (by simp only [List.length_append, List.length_cons, List.length_nil]; omega)) rfl ?_
      refine w_nil ?_
      refine x_held ?_
      refine h_one rfl ?_
      refine w_lit (α := (List UInt8)) rfl rfl rfl rfl rfl rfl rfl rfl (fun v25 w25 ho25 hx25 hl25 hh25 hs25 => ?_)
      have hl_ho25 := ho25.lt
      have hz_hx25 := hx25.size
      replace hb5 := hb5.ext hx25
      replace E2 := E2.next hx25 (by omega)
      replace h2 := h2.ext hx25
      replace h := h.ext hx25
      replace hT := hT.ext hx25
      replace E := E.trans hx25
      refine w_nil ?_
      refine x_held ?_
      refine h_one rfl ?_
      refine w_append rfl rfl (k := fun v26 w26 ho26 hx26 hr26 => ?_)
      have hl_ho26 := ho26.lt
      have hz_hx26 := hx26.size
      replace ho25 := ho25.chg hx26 (by omega)
      replace hb5 := hb5.chg hx26 (by omega)
      replace E2 := E2.next hx26 (by omega)
      replace h := h.chg hx26 (by omega)
      replace hT := hT.chg hx26 (by omega)
      replace E := E.next hx26 (by omega)
      refine w_nil ?_
      refine x_heldk ?_
      refine h_pure rfl (y_assign rfl) rfl ?_
      refine h_nil ?_
      refine x_block_norm ?_
      refine x_next ?_
      refine c_region ?_
      refine w_pure (y_add rfl rfl) rfl ?_
      refine w_pure (y_move rfl) rfl ?_
      refine w_nil ?_
      rotate_left
      refine w_val rfl rfl rfl (iDecimal_c _) rfl (fun w23 hx23 hz23 => ?_)
      have hz_hx23 := hx23.size
      replace hb5 := hb5.ext hx23
      replace E2 := E2.next hx23 (by omega)
      replace h2 := h2.ext hx23
      replace h := h.ext hx23
      replace hT := hT.ext hx23
      replace E := E.trans hx23
      refine w_nil ?_
      refine x_held ?_
      refine h_one rfl ?_
      refine w_pure (y_scat rfl rfl (by simp only [List.length_append, List.length_cons, List.length_nil]; omega)) rfl ?_
      refine w_nil ?_
      refine x_held ?_
      refine h_one rfl ?_
      refine w_pure (y_scat rfl rfl (by simp only [List.length_append, List.length_cons, List.length_nil]; omega)) rfl ?_
      refine w_nil ?_
      refine x_held ?_
      refine h_one rfl ?_
      refine w_lit (α := (List UInt8)) rfl rfl rfl rfl rfl rfl rfl rfl (fun v25 w25 ho25 hx25 hl25 hh25 hs25 => ?_)
      have hl_ho25 := ho25.lt
      have hz_hx25 := hx25.size
      replace hb5 := hb5.ext hx25
      replace E2 := E2.next hx25 (by omega)
      replace h2 := h2.ext hx25
      replace h := h.ext hx25
      replace hT := hT.ext hx25
      replace E := E.trans hx25
      refine w_nil ?_
      refine x_held ?_
      refine h_one rfl ?_
      refine w_append rfl rfl (k := fun v26 w26 ho26 hx26 hr26 => ?_)
      have hl_ho26 := ho26.lt
      have hz_hx26 := hx26.size
      replace ho25 := ho25.chg hx26 (by omega)
      replace hb5 := hb5.chg hx26 (by omega)
      replace E2 := E2.next hx26 (by omega)
      replace h := h.chg hx26 (by omega)
      replace hT := hT.chg hx26 (by omega)
      replace E := E.next hx26 (by omega)
      refine w_nil ?_
      refine x_heldk ?_
      refine h_pure rfl (y_assign rfl) rfl ?_
      refine h_nil ?_
      refine x_block_norm ?_
      refine x_next ?_
      refine c_region ?_
      refine w_pure (y_add rfl rfl) rfl ?_
      refine w_pure (y_move rfl) rfl ?_
      refine w_nil ?_
      rotate_left
      refine c_exit ?_
      refine x_then_exit ?_
      refine x_then_exit ?_
      refine x_block_hit ?_
      refine x_next ?_
      refine c_seq ?_
      refine c_region ?_
      refine w_pure (y_move rfl) rfl ?_
      refine w_val rfl rfl rfl (Join_c) rfl (fun w29 hx29 hz29 => ?_)
      have hz_hx29 := hx29.size
      replace E2 := E2.next hx29 (by omega)
      replace h2 := h2.ext hx29
      replace h := h.ext hx29
      replace hT := hT.ext hx29
      replace E := E.trans hx29
      refine w_pure (y_assign rfl) rfl ?_
      refine w_nil ?_
      refine x_next ?_
      refine c_ret ?_
      rotate_left
    all_goals first
      | (refine x_again (i + 1, v26) (by repeat (first | exact trivial | refine ⟨rfl, ?_⟩)) ⟨E2.go, ?_, by dsimp only; omega, by dsimp only; omega, by dsimp only; omega⟩ (by dsimp only; omega)
         dsimp only
         rw [e1, takeP_snoc (by omega), List.map_append]
         exact Own.base (by assumption) (by omega))
      | (refine x_retv [_] rfl ⟨rfl, trivial⟩ ⟨?_, E.go⟩
         rw [cpText, if_pos hk, textTo, ← show i.toNat = ps.length by omega]; rfl)
  · have E : Since 0 0 w1 w1 := Since.refl 0 0 w1
    refine ret_enter Tryd.func16 rfl Tryd.ntmps16 rfl ?_
    focus
      have ht_h := h.top
      have ht_hT := hT.top
      refine c_seq ?_
      refine c_region ?_
      refine w_pure (y_assign rfl) rfl ?_
      refine w_nil ?_
      refine x_next ?_
      refine c_seq ?_
      refine c_seq ?_
      refine c_region ?_
      refine w_pure (y_move rfl) rfl ?_
      refine w_val rfl rfl rfl (isPlainT_c) rfl (fun w7 hx7 hz7 => ?_)
      have hz_hx7 := hx7.size
      replace h := h.ext hx7
      replace hT := hT.ext hx7
      replace E := E.trans hx7
      refine w_pure (y_not rfl) rfl ?_
      refine w_nil ?_
      refine x_next ?_
      (refine c_not rfl (fun hc8 => ?_) (fun hc8 => ?_) <;> try (first | exact absurd rfl hc8 | contradiction | exact Bool.noConfusion (show false = true from hc8.symm.trans (by assumption)) | exact Bool.noConfusion (show true = false from hc8.symm.trans (by assumption)) | (exfalso; omega) | (exfalso; simp only [*, Bool.not_true, Bool.not_false, reduceCtorEq] at hc8; done)))
      refine c_seq ?_
      refine c_region ?_
      refine w_pure (y_assign rfl) rfl ?_
      refine w_nil ?_
      refine x_next ?_
      refine c_ret ?_
      refine x_then_ret ?_
      rotate_left
    exact x_retv [_] rfl ⟨rfl, trivial⟩ ⟨by rw [cpText, if_neg hk]; rfl, E.go⟩
end
end Go.Proofs.YticnemjjjceiaaaDoor

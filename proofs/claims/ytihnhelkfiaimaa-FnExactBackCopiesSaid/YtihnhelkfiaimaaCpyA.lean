/- Contracts: lists of copies; cards that are copied into. -/
import Derived.Test.YtihnhelkfiaimaaPairA
import Derived.Test.YtihnhelkfiaimaaDkB
namespace Go.Proofs.Ytihnhelkfiaimaa
open Go Go.Gw
set_option linter.unusedVariables false
set_option linter.unusedSimpArgs false
/-- copies in the ranges of all cards, whose targets rise -/
def plainAt (ps : List (Int × Int)) (i : Nat) : Prop := 0 ≤ (ps.getD i (0, 0)).1 ∧ (ps.getD i (0, 0)).1 ≤ 19 ∧ 0 ≤ (ps.getD i (0, 0)).2 ∧ (ps.getD i (0, 0)).2 ≤ 19 ∧ (0 < i → (ps.getD (i - 1) (0, 0)).2 < (ps.getD i (0, 0)).2)
instance (ps : List (Int × Int)) (i : Nat) : Decidable (plainAt ps i) := by unfold plainAt; infer_instance
def plainB (ps : List (Int × Int)) : Bool := decide (∀ i, i < ps.length → plainAt ps i)
theorem plainB_yes {ps : List (Int × Int)} (h : ∀ i, i < ps.length → plainAt ps i) : plainB ps = true := by simpa [plainB] using h
theorem plainB_no {ps : List (Int × Int)} (i : Nat) (hi : i < ps.length) (h : ¬ plainAt ps i) : plainB ps = false := by
  cases hp : plainB ps
  · rfl
  · exact absurd ((by simpa [plainB] using hp : ∀ i, i < ps.length → plainAt ps i) i hi) h
theorem plainB_at {ps : List (Int × Int)} (h : plainB ps = true) (i : Nat) (hi : i < ps.length) : plainAt ps i := (by simpa [plainB] using h : ∀ i, i < ps.length → plainAt ps i) i hi
theorem plainB_rise {ps : List (Int × Int)} (h : plainB ps = true) : ∀ i, i < ps.length → (i : Int) ≤ (ps.getD i (0, 0)).2
  | 0, hi => (plainB_at h 0 hi).2.2.1
  | i + 1, hi => by
    have h1 := plainB_rise h i (by omega)
    have h2 := (plainB_at h (i + 1) hi).2.2.2.2 (by omega)
    simp only [Nat.add_sub_cancel] at h2
    push_cast; omega
theorem plainB_len {ps : List (Int × Int)} (h : plainB ps = true) : ps.length ≤ 20 := by
  rcases Nat.eq_zero_or_pos ps.length with h0 | h0
  · omega
  · have h1 := plainB_rise h (ps.length - 1) (by omega)
    have h2 := (plainB_at h (ps.length - 1) (by omega)).2.2.2.1
    omega
/-- copies for cards with so many columns -/
def okCp (ps : List (Int × Int)) (f t : Int) : Bool := decide (1 ≤ f ∧ f ≤ 20 ∧ 1 ≤ t ∧ t ≤ 20) && plainB ps && !ps.any fun p => decide (f ≤ p.1 ∨ t ≤ p.2)
theorem okCp_at {ps : List (Int × Int)} {f t : Int} (h : okCp ps f t = true) (i : Nat) (hi : i < ps.length) : 0 ≤ (ps.getD i (0, 0)).1 ∧ (ps.getD i (0, 0)).1 < f ∧ 0 ≤ (ps.getD i (0, 0)).2 ∧ (ps.getD i (0, 0)).2 < t := by
  simp only [okCp, Bool.and_eq_true, decide_eq_true_eq, Bool.not_eq_true', List.any_eq_false] at h
  have h1 := plainB_at h.1.2 i hi
  have h2 := h.2 (ps.getD i (0, 0)) (by rw [List.getD_eq_getElem?_getD, List.getElem?_eq_getElem hi]; exact List.getElem_mem hi)
  unfold plainAt at h1
  omega
theorem okCp_bd {ps : List (Int × Int)} {f t : Int} (h : okCp ps f t = true) : 1 ≤ f ∧ f ≤ 20 ∧ 1 ≤ t ∧ t ≤ 20 ∧ ps.length ≤ 20 := by
  simp only [okCp, Bool.and_eq_true, decide_eq_true_eq] at h
  have := plainB_len h.1.2
  have := h.1.1
  omega
theorem okCp_no1 {ps : List (Int × Int)} {f t : Int} (h : ¬ (1 ≤ f ∧ f ≤ 20 ∧ 1 ≤ t ∧ t ≤ 20)) : okCp ps f t = false := by
  unfold okCp; rw [decide_eq_false h]; rfl
theorem okCp_no2 {ps : List (Int × Int)} {f t : Int} (h : plainB ps = false) : okCp ps f t = false := by
  unfold okCp; rw [h]; simp
theorem okCp_no3 {ps : List (Int × Int)} {f t : Int} (i : Nat) (hi : i < ps.length) (h : f ≤ (ps.getD i (0, 0)).1 ∨ t ≤ (ps.getD i (0, 0)).2) : okCp ps f t = false := by
  cases hk : okCp ps f t
  · rfl
  · have := okCp_at hk i hi; omega
theorem okCp_yes {ps : List (Int × Int)} {f t : Int} (h : 1 ≤ f ∧ f ≤ 20 ∧ 1 ≤ t ∧ t ≤ 20) (h2 : plainB ps = true) : okCp ps f t = !ps.any fun p => decide (f ≤ p.1 ∨ t ≤ p.2) := by
  unfold okCp; rw [decide_eq_true h, h2]; rfl
theorem okCp_yes' {ps : List (Int × Int)} {f t : Int} (h : 1 ≤ f ∧ f ≤ 20 ∧ 1 ≤ t ∧ t ≤ 20) (h2 : plainB ps = true) (h3 : ∀ j : Nat, j < ps.length → ¬ (f ≤ (ps.getD j (0, 0)).1 ∨ t ≤ (ps.getD j (0, 0)).2)) : okCp ps f t = true := by
  rw [okCp_yes h h2]
  simp only [Bool.not_eq_true', List.any_eq_false, decide_eq_true_eq]
  intro p hp
  obtain ⟨j, hj, rfl⟩ := List.mem_iff_getElem.1 hp
  have := h3 j hj
  rwa [List.getD_eq_getElem?_getD, List.getElem?_eq_getElem hj] at this
/-- columns after the first n copies -/
def copyF (xs : List Int) (ps : List (Int × Int)) (ys : List Int) : Nat → List Int
  | 0 => ys
  | n + 1 => (copyF xs ps ys n).set (ps.getD n (0, 0)).2.toNat (orI ((copyF xs ps ys n).getD (ps.getD n (0, 0)).2.toNat 0) (xs.getD (ps.getD n (0, 0)).1.toNat 0))
theorem copyF_len (xs : List Int) (ps : List (Int × Int)) (ys : List Int) : ∀ n, (copyF xs ps ys n).length = ys.length
  | 0 => rfl
  | n + 1 => by simp [copyF, copyF_len xs ps ys n]
theorem copyF_bd {xs : List Int} {ps : List (Int × Int)} {ys : List Int} (hx : ∀ i, i < xs.length → 0 ≤ xs.getD i 0 ∧ xs.getD i 0 ≤ 4095) (hy : ∀ i, i < ys.length → 0 ≤ ys.getD i 0 ∧ ys.getD i 0 ≤ 4095) (f t : Int) (h : okCp ps f t = true) (hf : f = xs.length) : ∀ n, n ≤ ps.length → ∀ i, i < ys.length → 0 ≤ (copyF xs ps ys n).getD i 0 ∧ (copyF xs ps ys n).getD i 0 ≤ 4095
  | 0, _, i, hi => hy i hi
  | n + 1, hn, i, hi => by
    have ih := copyF_bd hx hy f t h hf n (by omega)
    have hl := copyF_len xs ps ys n
    have ha := okCp_at h n (by omega)
    simp only [copyF]
    rw [List.getD_eq_getElem?_getD, List.getElem?_set]
    split
    · rename_i e
      rw [if_pos (by omega)]
      have h1 := ih _ (show i < ys.length from hi)
      have h2 := hx (ps.getD n (0, 0)).1.toNat (by omega)
      rw [e]
      exact orI_12 h1.2 h2.2
    · rw [← List.getD_eq_getElem?_getD]; exact ih i hi
section
variable {w : World} {lo hi lo' hi' l2 h2 e b b' o o' : Nat} {v v' v2 : Value} {xs ys : List Int} {ps : List (Int × Int)} {xss : List (List Int)} {svs : List SV}
theorem isPlain_c (h : SL w lo hi v ps := by repeat (first | assumption | exact Go.Gw.Own.sl (by assumption) | exact Go.Gw.Box.at (by assumption) | exact Go.Gw.SLL.el (by first | assumption | exact Go.Gw.OwnD.sll (by assumption)) _ (by omega) | exact Go.Gw.SLL.at (by first | assumption | exact Go.Gw.OwnD.sll (by assumption)) (by omega) | exact Go.Gw.OwnD.sll (by assumption) | (apply Go.Gw.SL.chg; case hx => assumption) | (apply Go.Gw.Own.chg; case hx => assumption) | (apply Go.Gw.Box.chg; case hx => assumption) | (apply Go.Gw.At.chg; case hx => assumption) | exact .inl (Nat.zero_le _) | exact .inr (Nat.zero_le _) | (show _ ∨ _; omega))) : Val Try.prog 14 [v] w (.bool (plainB ps)) := by
  refine ⟨fun w1 hx1 => ?_⟩
  replace h := h.ext hx1
  have hsm := h.small
  have E : Since 0 0 w1 w1 := Since.refl 0 0 w1
  refine ret_enter Try.func14 rfl Try.ntmps14 rfl ?_
  focus
    have ht_h := h.top
    refine c_seq ?_
    refine c_region ?_
    refine w_pure (y_assign rfl) rfl ?_
    refine w_nil ?_
    refine x_next ?_
    refine c_seq ?_
    refine c_seq ?_
    refine c_region ?_
    refine w_pure (y_move rfl) rfl ?_
    refine w_pure (y_len rfl) rfl ?_
    refine w_pure (y_move rfl) rfl ?_
    refine w_nil ?_
    refine x_next ?_
    refine c_block ?_
    rotate_left
  refine c_loopC 0 0 (ι := Int) (fun x => [(0, v), (5, v), (6, .int .i64 ps.length), (7, .int .i64 x)]) (fun x w' => SL w' lo hi v ps ∧ 0 ≤ x ∧ x ≤ ps.length ∧ ∀ j : Nat, j < x.toNat → plainAt ps j) (fun x => (ps.length - x).toNat) 0
    (by repeat (first | exact trivial | refine ⟨rfl, ?_⟩)) ⟨h, by omega, by omega, fun j hj => by simp at hj⟩ ?_
  rintro i w2 hx2 E2 ⟨h2, hi0, hi1, hall⟩
  focus
    have ht_h2 := h2.top
    have hz_hx2 := hx2.size
    replace h := h.ext hx2
    replace E := E.trans hx2
    refine c_seq ?_
    refine c_region ?_
    refine w_pure (y_lt rfl rfl) rfl ?_
    refine w_nil ?_
    refine x_next ?_
    refine c_seq ?_
    (refine c_dec rfl (fun hc8 => ?_) (fun hc8 => ?_) <;> try (first | exact absurd rfl hc8 | contradiction | exact Bool.noConfusion (show false = true from hc8.symm.trans (by assumption)) | exact Bool.noConfusion (show true = false from hc8.symm.trans (by assumption)) | (exfalso; omega) | (exfalso; simp only [*, Bool.not_true, Bool.not_false, reduceCtorEq] at hc8; done)))
    refine c_skip ?_
    refine x_next ?_
    refine c_seq ?_
    refine c_block ?_
    refine c_seq ?_
    refine c_region ?_
    refine w_pure (y_move rfl) rfl ?_
    refine w_pure (y_index rfl rfl) rfl ?_
    refine w_pure (y_load_pair rfl) rfl ?_
    refine w_alloc (k := fun b4 w4 hb4 hx4 hl4 hs4 => ?_)
    have hz_hx4 := hx4.size
    replace E2 := E2.trans hx4
    replace h2 := h2.ext hx4
    replace h := h.ext hx4
    replace E := E.trans hx4
    refine w_pure (y_assign rfl) rfl ?_
    refine w_store_boxs rfl rfl (next := fun ws19 hbs19 hxs19 hss19 => ?_)
    (replace hb4 := hbs19; clear hbs19)
    have hz_hxs19 := hxs19.size
    replace E2 := E2.next hxs19 (by omega)
    replace h2 := h2.chg hxs19 (by omega)
    replace h := h.chg hxs19 (by omega)
    replace E := E.next hxs19 (by omega)
    refine w_nil ?_
    refine x_next ?_
    refine c_seq ?_
    refine c_region_held mixed (fun wr4 hxr4 hzr4 => ?_)
    have hz_hxr4 := hxr4.size
    replace hb4 := hb4.ext hxr4
    replace E2 := E2.trans hxr4
    replace h2 := h2.ext hxr4
    replace h := h.ext hxr4
    replace E := E.trans hxr4
    refine h_pure rfl (y_field rfl) rfl ?_
    refine h_pure rfl (y_load_box rfl) rfl ?_
    refine h_one rfl ?_
    refine w_pur rfl rfl rfl (inside_c _ _ _) rfl ?_
    refine w_nil ?_
    refine x_held ?_
    refine h_pure rfl (y_not_dec rfl) rfl ?_
    refine h_pure rfl (y_move rfl) rfl ?_
    (refine h_part_dec rfl rfl (fun hc17 => ?_) (fun hc17 => ?_) <;> try (first | exact absurd rfl hc17 | contradiction | exact Bool.noConfusion (show false = true from hc17.symm.trans (by assumption)) | exact Bool.noConfusion (show true = false from hc17.symm.trans (by assumption)) | (exfalso; omega) | (exfalso; simp only [*, Bool.not_true, Bool.not_false, reduceCtorEq] at hc17; done)))
    refine h_no rfl rfl rfl rfl rfl ?_
    refine h_no rfl rfl rfl rfl rfl ?_
    refine h_no rfl rfl rfl rfl rfl ?_
    refine h_no rfl rfl rfl rfl rfl ?_
    refine h_pure rfl (y_pick_t rfl rfl) rfl ?_
    refine h_pure rfl (y_move rfl) rfl ?_
    refine h_no rfl rfl rfl rfl rfl ?_
    refine h_no rfl rfl rfl rfl rfl ?_
    refine h_no rfl rfl rfl rfl rfl ?_
    refine h_none rfl rfl rfl rfl ?_
    refine h_none rfl rfl rfl rfl ?_
    refine h_none rfl rfl rfl rfl ?_
    refine h_none rfl rfl rfl rfl ?_
    refine h_none rfl rfl rfl rfl ?_
    refine h_none rfl rfl rfl rfl ?_
    refine h_none rfl rfl rfl rfl ?_
    refine h_none rfl rfl rfl rfl ?_
    refine h_none rfl rfl rfl rfl ?_
    refine h_no rfl rfl rfl rfl rfl ?_
    refine h_pure rfl (y_pick_t rfl rfl) rfl ?_
    refine h_nil ?_
    refine x_next ?_
    refine c_true rfl ?_
    refine c_seq ?_
    refine c_region ?_
    refine w_pure (y_assign rfl) rfl ?_
    refine w_nil ?_
    refine x_next ?_
    refine c_ret ?_
    refine x_block_ret ?_
    refine x_then_ret ?_
    refine x_then_ret ?_
    refine x_block_ret ?_
    refine x_then_ret ?_
    rotate_left
    refine h_yes rfl rfl rfl (y_field rfl) rfl ?_
    refine h_yes rfl rfl rfl (y_load_box rfl) rfl ?_
    (refine h_part rfl rfl (fun hc19 => ?_) (fun hc19 => ?_) <;> try (first | exact absurd rfl hc19 | contradiction | exact Bool.noConfusion (show false = true from hc19.symm.trans (by assumption)) | exact Bool.noConfusion (show true = false from hc19.symm.trans (by assumption)) | (exfalso; omega) | (exfalso; simp only [*, Bool.not_true, Bool.not_false, reduceCtorEq] at hc19; done)))
    refine h_one rfl ?_
    refine w_yes rfl rfl ?_
    refine w_pur rfl rfl rfl (inside_c _ _ _) rfl ?_
    refine w_nil ?_
    refine x_held ?_
    refine h_yes rfl rfl rfl (y_not_dec rfl) rfl ?_
    refine h_pure rfl (y_pick_f rfl rfl) rfl ?_
    refine h_pure rfl (y_move rfl) rfl ?_
    (refine h_part_dec rfl rfl (fun hc23 => ?_) (fun hc23 => ?_) <;> try (first | exact absurd rfl hc23 | contradiction | exact Bool.noConfusion (show false = true from hc23.symm.trans (by assumption)) | exact Bool.noConfusion (show true = false from hc23.symm.trans (by assumption)) | (exfalso; omega) | (exfalso; simp only [*, Bool.not_true, Bool.not_false, reduceCtorEq] at hc23; done)))
    refine h_no rfl rfl rfl rfl rfl ?_
    refine h_no rfl rfl rfl rfl rfl ?_
    refine h_no rfl rfl rfl rfl rfl ?_
    refine h_none rfl rfl rfl rfl ?_
    refine h_none rfl rfl rfl rfl ?_
    refine h_none rfl rfl rfl rfl ?_
    refine h_none rfl rfl rfl rfl ?_
    refine h_none rfl rfl rfl rfl ?_
    refine h_none rfl rfl rfl rfl ?_
    refine h_none rfl rfl rfl rfl ?_
    refine h_none rfl rfl rfl rfl ?_
    refine h_none rfl rfl rfl rfl ?_
    refine h_no rfl rfl rfl rfl rfl ?_
    refine h_pure rfl (y_pick_t rfl rfl) rfl ?_
    refine h_nil ?_
    refine x_next ?_
    refine c_true rfl ?_
    refine c_seq ?_
    refine c_region ?_
    refine w_pure (y_assign rfl) rfl ?_
    refine w_nil ?_
    refine x_next ?_
    refine c_ret ?_
    refine x_block_ret ?_
    refine x_then_ret ?_
    refine x_then_ret ?_
    refine x_block_ret ?_
    refine x_then_ret ?_
    rotate_left
    refine h_yes rfl rfl rfl (y_move rfl) rfl ?_
    refine h_yes rfl rfl rfl (y_gt rfl rfl) rfl ?_
    refine h_yes rfl rfl rfl (y_move rfl) rfl ?_
    (refine h_part_dec rfl rfl (fun hc26 => ?_) (fun hc26 => ?_) <;> try (first | exact absurd rfl hc26 | contradiction | exact Bool.noConfusion (show false = true from hc26.symm.trans (by assumption)) | exact Bool.noConfusion (show true = false from hc26.symm.trans (by assumption)) | (exfalso; omega) | (exfalso; simp only [*, Bool.not_true, Bool.not_false, reduceCtorEq] at hc26; done)))
    refine h_yes rfl rfl rfl (y_move rfl) rfl ?_
    refine h_yes rfl rfl rfl (y_move rfl) rfl ?_
    refine h_yes rfl rfl rfl (y_sub rfl rfl) rfl ?_
    refine h_yes rfl rfl rfl (y_index rfl rfl) rfl ?_
    refine h_yes rfl rfl rfl (y_field rfl) rfl ?_
    refine h_yes rfl rfl rfl (y_load_p1 rfl) rfl ?_
    refine h_yes rfl rfl rfl (y_field rfl) rfl ?_
    refine h_yes rfl rfl rfl (y_load_box rfl) rfl ?_
    refine h_yes rfl rfl rfl (y_ge rfl rfl) rfl ?_
    refine h_yes rfl rfl rfl (y_pick_t rfl rfl) rfl ?_
    refine h_pure rfl (y_pick_f rfl rfl) rfl ?_
    refine h_nil ?_
    refine x_next ?_
    (refine c_dec rfl (fun hc36 => ?_) (fun hc36 => ?_) <;> try (first | exact absurd rfl hc36 | contradiction | exact Bool.noConfusion (show false = true from hc36.symm.trans (by assumption)) | exact Bool.noConfusion (show true = false from hc36.symm.trans (by assumption)) | (exfalso; omega) | (exfalso; simp only [*, Bool.not_true, Bool.not_false, reduceCtorEq] at hc36; done)))
    refine c_seq ?_
    refine c_region ?_
    refine w_pure (y_assign rfl) rfl ?_
    refine w_nil ?_
    refine x_next ?_
    refine c_ret ?_
    refine x_block_ret ?_
    refine x_then_ret ?_
    refine x_then_ret ?_
    refine x_block_ret ?_
    refine x_then_ret ?_
    rotate_left
    refine c_skip ?_
    refine x_block_norm ?_
    refine x_next ?_
    refine c_region ?_
    refine w_pure (y_add rfl rfl) rfl ?_
    refine w_pure (y_move rfl) rfl ?_
    refine w_nil ?_
    rotate_left
    refine h_no rfl rfl rfl rfl rfl ?_
    refine h_no rfl rfl rfl rfl rfl ?_
    refine h_no rfl rfl rfl rfl rfl ?_
    refine h_no rfl rfl rfl rfl rfl ?_
    refine h_no rfl rfl rfl rfl rfl ?_
    refine h_no rfl rfl rfl rfl rfl ?_
    refine h_no rfl rfl rfl rfl rfl ?_
    refine h_no rfl rfl rfl rfl rfl ?_
    refine h_no rfl rfl rfl rfl rfl ?_
    refine h_yes rfl rfl rfl (y_pick_f rfl rfl) rfl ?_
    refine h_pure rfl (y_pick_f rfl rfl) rfl ?_
    refine h_nil ?_
    refine x_next ?_
    refine c_false rfl ?_
    refine c_skip ?_
    refine x_block_norm ?_
    refine x_next ?_
    refine c_region ?_
    refine w_pure (y_add rfl rfl) rfl ?_
    refine w_pure (y_move rfl) rfl ?_
    refine w_nil ?_
    rotate_left
    refine c_exit ?_
    refine x_then_exit ?_
    refine x_then_exit ?_
    refine x_block_hit ?_
    refine x_next ?_
    refine c_seq ?_
    refine c_region ?_
    refine w_pure (y_assign rfl) rfl ?_
    refine w_nil ?_
    refine x_next ?_
    refine c_ret ?_
    rotate_left
  · exact x_retv [_] rfl ⟨rfl, trivial⟩ ⟨by rw [plainB_no i.toNat (by omega) (fun hh => by have := hh.1; have := hh.2.1; omega)]; rfl, E.go⟩
  · exact x_retv [_] rfl ⟨rfl, trivial⟩ ⟨by rw [plainB_no i.toNat (by omega) (fun hh => by have := hh.2.2.1; have := hh.2.2.2.1; omega)]; rfl, E.go⟩
  · exact x_retv [_] rfl ⟨rfl, trivial⟩ ⟨by rw [plainB_no i.toNat (by omega) (fun hh => by have := hh.2.2.2.2 (by omega); rw [show (i - 1).toNat = i.toNat - 1 by omega] at *; omega)]; rfl, E.go⟩
  · refine x_again (i + 1) (by repeat (first | exact trivial | refine ⟨rfl, ?_⟩)) ⟨E2.go, by assumption, by omega, by omega, fun j hj => ?_⟩ (by omega)
    by_cases ej : j = i.toNat
    · subst ej
      rw [show (i - 1).toNat = i.toNat - 1 by omega] at *
      exact ⟨by omega, by omega, by omega, by omega, fun _ => by omega⟩
    · exact hall j (by omega)
  · refine x_again (i + 1) (by repeat (first | exact trivial | refine ⟨rfl, ?_⟩)) ⟨E2.go, by assumption, by omega, by omega, fun j hj => ?_⟩ (by omega)
    by_cases ej : j = i.toNat
    · subst ej
      exact ⟨by omega, by omega, by omega, by omega, fun _ => by omega⟩
    · exact hall j (by omega)
  · exact x_retv [_] rfl ⟨rfl, trivial⟩ ⟨by rw [plainB_yes (fun j hj => hall j (by omega))]; rfl, E.go⟩
theorem l10Plain_c (h : SL w lo hi v ps := by repeat (first | assumption | exact Go.Gw.Own.sl (by assumption) | exact Go.Gw.Box.at (by assumption) | exact Go.Gw.SLL.el (by first | assumption | exact Go.Gw.OwnD.sll (by assumption)) _ (by omega) | exact Go.Gw.SLL.at (by first | assumption | exact Go.Gw.OwnD.sll (by assumption)) (by omega) | exact Go.Gw.OwnD.sll (by assumption) | (apply Go.Gw.SL.chg; case hx => assumption) | (apply Go.Gw.Own.chg; case hx => assumption) | (apply Go.Gw.Box.chg; case hx => assumption) | (apply Go.Gw.At.chg; case hx => assumption) | exact .inl (Nat.zero_le _) | exact .inr (Nat.zero_le _) | (show _ ∨ _; omega))) : Val Try.prog 11 [v] w (.bool (plainB ps)) := by
  refine ⟨fun w1 hx1 => ?_⟩
  replace h := h.ext hx1
  have hsm := h.small
  have E : Since 0 0 w1 w1 := Since.refl 0 0 w1
  refine ret_enter Try.func11 rfl Try.ntmps11 rfl ?_
  focus
    have ht_h := h.top
    refine c_seq ?_
    refine c_region ?_
    refine w_pure (y_assign rfl) rfl ?_
    refine w_nil ?_
    refine x_next ?_
    refine c_seq ?_
    refine c_seq ?_
    refine c_region ?_
    refine w_pure (y_assign rfl) rfl ?_
    refine w_nil ?_
    refine x_next ?_
    refine c_block ?_
    rotate_left
  refine c_loopC 0 0 (ι := Int) (fun x => [(0, v), (3, .int .i64 x)]) (fun x w' => SL w' lo hi v ps ∧ 0 ≤ x ∧ x ≤ ps.length ∧ ∀ j : Nat, j < x.toNat → plainAt ps j) (fun x => (ps.length - x).toNat) 0
    (by repeat (first | exact trivial | refine ⟨rfl, ?_⟩)) ⟨h, by omega, by omega, fun j hj => by simp at hj⟩ ?_
  rintro i w2 hx2 E2 ⟨h2, hi0, hi1, hall⟩
  focus
    have ht_h2 := h2.top
    have hz_hx2 := hx2.size
    replace h := h.ext hx2
    replace E := E.trans hx2
    refine c_seq ?_
    refine c_seq ?_
    refine c_region ?_
    refine w_pure (y_move rfl) rfl ?_
    refine w_pure (y_move rfl) rfl ?_
    refine w_pure (y_len rfl) rfl ?_
    refine w_pure (y_lt rfl rfl) rfl ?_
    refine w_nil ?_
    refine x_next ?_
    (refine c_dec rfl (fun hc7 => ?_) (fun hc7 => ?_) <;> try (first | exact absurd rfl hc7 | contradiction | exact Bool.noConfusion (show false = true from hc7.symm.trans (by assumption)) | exact Bool.noConfusion (show true = false from hc7.symm.trans (by assumption)) | (exfalso; omega) | (exfalso; simp only [*, Bool.not_true, Bool.not_false, reduceCtorEq] at hc7; done)))
    refine c_skip ?_
    refine x_next ?_
    refine c_seq ?_
    refine c_block ?_
    refine c_seq ?_
    refine c_region_held mixed (fun wr4 hxr4 hzr4 => ?_)
    have hz_hxr4 := hxr4.size
    replace E2 := E2.trans hxr4
    replace h2 := h2.ext hxr4
    replace h := h.ext hxr4
    replace E := E.trans hxr4
    refine h_pure rfl (y_move rfl) rfl ?_
    refine h_pure rfl (y_move rfl) rfl ?_
    refine h_pure rfl (y_index rfl rfl) rfl ?_
    refine h_pure rfl (y_field rfl) rfl ?_
    refine h_pure rfl (y_load_p0 rfl) rfl ?_
    refine h_one rfl ?_
    refine w_pur rfl rfl rfl (l00In_c _ _ _) rfl ?_
    refine w_nil ?_
    refine x_held ?_
    refine h_pure rfl (y_not_dec rfl) rfl ?_
    refine h_pure rfl (y_move rfl) rfl ?_
    (refine h_part_dec rfl rfl (fun hc18 => ?_) (fun hc18 => ?_) <;> try (first | exact absurd rfl hc18 | contradiction | exact Bool.noConfusion (show false = true from hc18.symm.trans (by assumption)) | exact Bool.noConfusion (show true = false from hc18.symm.trans (by assumption)) | (exfalso; omega) | (exfalso; simp only [*, Bool.not_true, Bool.not_false, reduceCtorEq] at hc18; done)))
    refine h_no rfl rfl rfl rfl rfl ?_
    refine h_no rfl rfl rfl rfl rfl ?_
    refine h_no rfl rfl rfl rfl rfl ?_
    refine h_no rfl rfl rfl rfl rfl ?_
    refine h_no rfl rfl rfl rfl rfl ?_
    refine h_no rfl rfl rfl rfl rfl ?_
    refine h_no rfl rfl rfl rfl rfl ?_
    refine h_pure rfl (y_pick_t rfl rfl) rfl ?_
    refine h_pure rfl (y_move rfl) rfl ?_
    refine h_no rfl rfl rfl rfl rfl ?_
    refine h_no rfl rfl rfl rfl rfl ?_
    refine h_no rfl rfl rfl rfl rfl ?_
    refine h_none rfl rfl rfl rfl ?_
    refine h_none rfl rfl rfl rfl ?_
    refine h_none rfl rfl rfl rfl ?_
    refine h_none rfl rfl rfl rfl ?_
    refine h_none rfl rfl rfl rfl ?_
    refine h_none rfl rfl rfl rfl ?_
    refine h_none rfl rfl rfl rfl ?_
    refine h_none rfl rfl rfl rfl ?_
    refine h_none rfl rfl rfl rfl ?_
    refine h_none rfl rfl rfl rfl ?_
    refine h_none rfl rfl rfl rfl ?_
    refine h_none rfl rfl rfl rfl ?_
    refine h_no rfl rfl rfl rfl rfl ?_
    refine h_pure rfl (y_pick_t rfl rfl) rfl ?_
    refine h_nil ?_
    refine x_next ?_
    refine c_true rfl ?_
    refine c_seq ?_
    refine c_region ?_
    refine w_pure (y_assign rfl) rfl ?_
    refine w_nil ?_
    refine x_next ?_
    refine c_ret ?_
    refine x_block_ret ?_
    refine x_then_ret ?_
    refine x_then_ret ?_
    refine x_block_ret ?_
    refine x_then_ret ?_
    rotate_left
    refine h_yes rfl rfl rfl (y_move rfl) rfl ?_
    refine h_yes rfl rfl rfl (y_move rfl) rfl ?_
    refine h_yes rfl rfl rfl (y_index rfl rfl) rfl ?_
    refine h_yes rfl rfl rfl (y_field rfl) rfl ?_
    refine h_yes rfl rfl rfl (y_load_p1 rfl) rfl ?_
    (refine h_part rfl rfl (fun hc23 => ?_) (fun hc23 => ?_) <;> try (first | exact absurd rfl hc23 | contradiction | exact Bool.noConfusion (show false = true from hc23.symm.trans (by assumption)) | exact Bool.noConfusion (show true = false from hc23.symm.trans (by assumption)) | (exfalso; omega) | (exfalso; simp only [*, Bool.not_true, Bool.not_false, reduceCtorEq] at hc23; done)))
    refine h_one rfl ?_
    refine w_yes rfl rfl ?_
    refine w_pur rfl rfl rfl (l00In_c _ _ _) rfl ?_
    refine w_nil ?_
    refine x_held ?_
    refine h_yes rfl rfl rfl (y_not_dec rfl) rfl ?_
    refine h_pure rfl (y_pick_f rfl rfl) rfl ?_
    refine h_pure rfl (y_move rfl) rfl ?_
    (refine h_part_dec rfl rfl (fun hc27 => ?_) (fun hc27 => ?_) <;> try (first | exact absurd rfl hc27 | contradiction | exact Bool.noConfusion (show false = true from hc27.symm.trans (by assumption)) | exact Bool.noConfusion (show true = false from hc27.symm.trans (by assumption)) | (exfalso; omega) | (exfalso; simp only [*, Bool.not_true, Bool.not_false, reduceCtorEq] at hc27; done)))
    refine h_no rfl rfl rfl rfl rfl ?_
    refine h_no rfl rfl rfl rfl rfl ?_
    refine h_no rfl rfl rfl rfl rfl ?_
    refine h_none rfl rfl rfl rfl ?_
    refine h_none rfl rfl rfl rfl ?_
    refine h_none rfl rfl rfl rfl ?_
    refine h_none rfl rfl rfl rfl ?_
    refine h_none rfl rfl rfl rfl ?_
    refine h_none rfl rfl rfl rfl ?_
    refine h_none rfl rfl rfl rfl ?_
    refine h_none rfl rfl rfl rfl ?_
    refine h_none rfl rfl rfl rfl ?_
    refine h_none rfl rfl rfl rfl ?_
    refine h_none rfl rfl rfl rfl ?_
    refine h_none rfl rfl rfl rfl ?_
    refine h_no rfl rfl rfl rfl rfl ?_
    refine h_pure rfl (y_pick_t rfl rfl) rfl ?_
    refine h_nil ?_
    refine x_next ?_
    refine c_true rfl ?_
    refine c_seq ?_
    refine c_region ?_
    refine w_pure (y_assign rfl) rfl ?_
    refine w_nil ?_
    refine x_next ?_
    refine c_ret ?_
    refine x_block_ret ?_
    refine x_then_ret ?_
    refine x_then_ret ?_
    refine x_block_ret ?_
    refine x_then_ret ?_
    rotate_left
    refine h_yes rfl rfl rfl (y_move rfl) rfl ?_
    refine h_yes rfl rfl rfl (y_gt rfl rfl) rfl ?_
    refine h_yes rfl rfl rfl (y_move rfl) rfl ?_
    (refine h_part_dec rfl rfl (fun hc30 => ?_) (fun hc30 => ?_) <;> try (first | exact absurd rfl hc30 | contradiction | exact Bool.noConfusion (show false = true from hc30.symm.trans (by assumption)) | exact Bool.noConfusion (show true = false from hc30.symm.trans (by assumption)) | (exfalso; omega) | (exfalso; simp only [*, Bool.not_true, Bool.not_false, reduceCtorEq] at hc30; done)))
    refine h_yes rfl rfl rfl (y_move rfl) rfl ?_
    refine h_yes rfl rfl rfl (y_move rfl) rfl ?_
    refine h_yes rfl rfl rfl (y_sub rfl rfl) rfl ?_
    refine h_yes rfl rfl rfl (y_index rfl rfl) rfl ?_
    refine h_yes rfl rfl rfl (y_field rfl) rfl ?_
    refine h_yes rfl rfl rfl (y_load_p1 rfl) rfl ?_
    refine h_yes rfl rfl rfl (y_move rfl) rfl ?_
    refine h_yes rfl rfl rfl (y_move rfl) rfl ?_
    refine h_yes rfl rfl rfl (y_index rfl rfl) rfl ?_
    refine h_yes rfl rfl rfl (y_field rfl) rfl ?_
    refine h_yes rfl rfl rfl (y_load_p1 rfl) rfl ?_
    refine h_yes rfl rfl rfl (y_ge rfl rfl) rfl ?_
    refine h_yes rfl rfl rfl (y_pick_t rfl rfl) rfl ?_
    refine h_pure rfl (y_pick_f rfl rfl) rfl ?_
    refine h_nil ?_
    refine x_next ?_
    (refine c_dec rfl (fun hc43 => ?_) (fun hc43 => ?_) <;> try (first | exact absurd rfl hc43 | contradiction | exact Bool.noConfusion (show false = true from hc43.symm.trans (by assumption)) | exact Bool.noConfusion (show true = false from hc43.symm.trans (by assumption)) | (exfalso; omega) | (exfalso; simp only [*, Bool.not_true, Bool.not_false, reduceCtorEq] at hc43; done)))
    refine c_seq ?_
    refine c_region ?_
    refine w_pure (y_assign rfl) rfl ?_
    refine w_nil ?_
    refine x_next ?_
    refine c_ret ?_
    refine x_block_ret ?_
    refine x_then_ret ?_
    refine x_then_ret ?_
    refine x_block_ret ?_
    refine x_then_ret ?_
    rotate_left
    refine c_skip ?_
    refine x_block_norm ?_
    refine x_next ?_
    refine c_region ?_
    refine w_pure (y_move rfl) rfl ?_
    refine w_pure (y_add rfl rfl) rfl ?_
    refine w_pure (y_assign rfl) rfl ?_
    refine w_nil ?_
    rotate_left
    refine h_no rfl rfl rfl rfl rfl ?_
    refine h_no rfl rfl rfl rfl rfl ?_
    refine h_no rfl rfl rfl rfl rfl ?_
    refine h_no rfl rfl rfl rfl rfl ?_
    refine h_no rfl rfl rfl rfl rfl ?_
    refine h_no rfl rfl rfl rfl rfl ?_
    refine h_no rfl rfl rfl rfl rfl ?_
    refine h_no rfl rfl rfl rfl rfl ?_
    refine h_no rfl rfl rfl rfl rfl ?_
    refine h_no rfl rfl rfl rfl rfl ?_
    refine h_no rfl rfl rfl rfl rfl ?_
    refine h_no rfl rfl rfl rfl rfl ?_
    refine h_yes rfl rfl rfl (y_pick_f rfl rfl) rfl ?_
    refine h_pure rfl (y_pick_f rfl rfl) rfl ?_
    refine h_nil ?_
    refine x_next ?_
    refine c_false rfl ?_
    refine c_skip ?_
    refine x_block_norm ?_
    refine x_next ?_
    refine c_region ?_
    refine w_pure (y_move rfl) rfl ?_
    refine w_pure (y_add rfl rfl) rfl ?_
    refine w_pure (y_assign rfl) rfl ?_
    refine w_nil ?_
    rotate_left
    refine c_exit ?_
    refine x_then_exit ?_
    refine x_then_exit ?_
    refine x_block_hit ?_
    refine x_next ?_
    refine c_seq ?_
    refine c_region ?_
    refine w_pure (y_assign rfl) rfl ?_
    refine w_nil ?_
    refine x_next ?_
    refine c_ret ?_
    rotate_left
  · exact x_retv [_] rfl ⟨rfl, trivial⟩ ⟨by rw [plainB_no i.toNat (by omega) (fun hh => by have := hh.1; have := hh.2.1; omega)]; rfl, E.go⟩
  · exact x_retv [_] rfl ⟨rfl, trivial⟩ ⟨by rw [plainB_no i.toNat (by omega) (fun hh => by have := hh.2.2.1; have := hh.2.2.2.1; omega)]; rfl, E.go⟩
  · exact x_retv [_] rfl ⟨rfl, trivial⟩ ⟨by rw [plainB_no i.toNat (by omega) (fun hh => by have := hh.2.2.2.2 (by omega); rw [show (i - 1).toNat = i.toNat - 1 by omega] at *; omega)]; rfl, E.go⟩
  · refine x_again (i + 1) (by repeat (first | exact trivial | refine ⟨rfl, ?_⟩)) ⟨E2.go, by assumption, by omega, by omega, fun j hj => ?_⟩ (by omega)
    by_cases ej : j = i.toNat
    · subst ej
      rw [show (i - 1).toNat = i.toNat - 1 by omega] at *
      exact ⟨by omega, by omega, by omega, by omega, fun _ => by omega⟩
    · exact hall j (by omega)
  · refine x_again (i + 1) (by repeat (first | exact trivial | refine ⟨rfl, ?_⟩)) ⟨E2.go, by assumption, by omega, by omega, fun j hj => ?_⟩ (by omega)
    by_cases ej : j = i.toNat
    · subst ej
      exact ⟨by omega, by omega, by omega, by omega, fun _ => by omega⟩
    · exact hall j (by omega)
  · exact x_retv [_] rfl ⟨rfl, trivial⟩ ⟨by rw [plainB_yes (fun j hj => hall j (by omega))]; rfl, E.go⟩
end
end Go.Proofs.Ytihnhelkfiaimaa

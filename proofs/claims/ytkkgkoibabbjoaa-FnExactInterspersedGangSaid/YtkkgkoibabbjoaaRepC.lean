/- Contracts: decks that are punched by masters among them. -/
import Derived.Test.YtkkgkoibabbjoaaRepB
namespace Go.Proofs.Ytkkgkoibabbjoaa
open Go Go.Gw
set_option linter.unusedVariables false
set_option linter.unusedSimpArgs false
/-- whether card i has a hole in row 11 of a column -/
def isMst (xss : List (List Int)) (k : Int) (i : Nat) : Prop := ¬ andI ((xss.getD i []).getD k.toNat 0) 2 = 0
instance (xss : List (List Int)) (k : Int) (i : Nat) : Decidable (isMst xss k i) := by unfold isMst; infer_instance
/-- the last master among the first i cards, -1 if there is none -/
def mstF (xss : List (List Int)) (k : Int) : Nat → Int
  | 0 => -1
  | i + 1 => if isMst xss k i then (i : Int) else mstF xss k i
theorem mstF_lt (xss : List (List Int)) (k : Int) : ∀ i, -1 ≤ mstF xss k i ∧ mstF xss k i < i
  | 0 => by simp [mstF]
  | i + 1 => by
    have := mstF_lt xss k i
    simp only [mstF]; split <;> omega
def intAt (xss : List (List Int)) (ps : List (Int × Int)) (k : Int) (i : Nat) : List Int := if isMst xss k i then xss.getD i [] else copyF (xss.getD (mstF xss k i).toNat []) ps (xss.getD i []) ps.length
def intL (xss : List (List Int)) (ps : List (Int × Int)) (k : Int) : List (List Int) := (List.range xss.length).map (intAt xss ps k)
def cInt (xss : List (List Int)) (ps : List (Int × Int)) (k : Int) : Int :=
  if okD xss = true then (if okCp ps (widD xss) (widD xss) = true ∧ 0 ≤ k ∧ k ≤ widD xss - 1 then (if 0 < xss.length ∧ ¬ isMst xss k 0 then 6 else 0) else 2) else 1
def resInt (xss : List (List Int)) (ps : List (Int × Int)) (k : Int) : List (List Int) := if cInt xss ps k = 0 then intL xss ps k else []
theorem cInt_1 {xss : List (List Int)} {ps : List (Int × Int)} {k : Int} (h : okD xss = false) : cInt xss ps k = 1 := by simp [cInt, h]
theorem cInt_2 {xss : List (List Int)} {ps : List (Int × Int)} {k : Int} (h : okD xss = true) (h2 : okCp ps (widD xss) (widD xss) = false ∨ ¬ (0 ≤ k ∧ k ≤ widD xss - 1)) : cInt xss ps k = 2 := by
  rw [cInt, if_pos h, if_neg]
  rintro ⟨h3, h4⟩
  rcases h2 with h2 | h2
  · rw [h2] at h3; cases h3
  · exact h2 h4
theorem cInt_6 {xss : List (List Int)} {ps : List (Int × Int)} {k : Int} (h : okD xss = true) (h2 : okCp ps (widD xss) (widD xss) = true) (h3 : 0 ≤ k ∧ k ≤ widD xss - 1) (h4 : 0 < xss.length) (h5 : ¬ isMst xss k 0) : cInt xss ps k = 6 := by
  rw [cInt, if_pos h, if_pos ⟨h2, h3⟩, if_pos ⟨h4, h5⟩]
theorem cInt_0 {xss : List (List Int)} {ps : List (Int × Int)} {k : Int} (h : okD xss = true) (h2 : okCp ps (widD xss) (widD xss) = true) (h3 : 0 ≤ k ∧ k ≤ widD xss - 1) (h4 : 0 < xss.length → isMst xss k 0) : cInt xss ps k = 0 := by
  rw [cInt, if_pos h, if_pos ⟨h2, h3⟩, if_neg (fun hh => hh.2 (h4 hh.1))]
/-- where there is no master yet the first card is none -/
theorem mst_none {xss : List (List Int)} {k : Int} : ∀ {i : Nat}, mstF xss k i < 0 → 0 < i → ¬ isMst xss k 0
  | 0, _, h0 => by omega
  | 1, h, _ => by
    simp only [mstF] at h
    split at h
    · omega
    · assumption
  | i + 2, h, _ => by
    simp only [mstF] at h
    split at h
    · omega
    · exact mst_none (i := i + 1) (by simp only [mstF]; exact h) (by omega)
theorem intL_len (xss : List (List Int)) (ps : List (Int × Int)) (k : Int) : (intL xss ps k).length = xss.length := by simp [intL]
theorem intL_get {xss : List (List Int)} {ps : List (Int × Int)} {k : Int} {i : Nat} (h : i < xss.length) : (intL xss ps k)[i]? = some (intAt xss ps k i) := by simp [intL, h]
theorem resInt_bd (xss : List (List Int)) (ps : List (Int × Int)) (k : Int) : totD (resInt xss ps k) ≤ 800 ∧ (resInt xss ps k).length ≤ 40 := by
  unfold resInt
  split
  · rename_i h
    cases hk : okD xss
    · rw [cInt_1 hk] at h; cases h
    refine deck_bd hk (intL_len _ _ _) (fun i hi => ?_)
    rw [List.getD_eq_getElem?_getD, intL_get hi]
    simp only [Option.getD_some, intAt]
    split
    · rfl
    · rw [copyF_len]
  · simp [totD, tot]
theorem set_same {α : Type} {d : α} {xs : List α} {i : Nat} : xs.set i (xs.getD i d) = xs := by
  apply List.ext_getElem?
  intro j
  rw [List.getElem?_set]
  split
  · rename_i e
    subst e
    split
    · rename_i h; rw [List.getD_eq_getElem?_getD, List.getElem?_eq_getElem h]; rfl
    · rename_i h; rw [List.getElem?_eq_none (by omega)]
  · rfl
theorem bitOf11_c : Pur Try.prog 51 [.int .i64 11] (.int .i64 2) := by
  refine ⟨fun w0 => ?_⟩
  refine ret_enter Try.func51 rfl Try.ntmps51 rfl ?_
  focus
    refine c_seq ?_
    refine c_region ?_
    refine w_pure (y_assign rfl) rfl ?_
    refine w_nil ?_
    refine x_next ?_
    refine c_seq ?_
    refine c_block ?_
    refine c_seq ?_
    refine c_region ?_
    refine w_pure (y_move rfl) rfl ?_
    refine w_pure (y_eq rfl rfl) rfl ?_
    refine w_pure (y_assign rfl) rfl ?_
    refine w_nil ?_
    refine x_next ?_
    refine c_false rfl ?_
    refine c_seq ?_
    refine c_region ?_
    refine w_pure (y_move rfl) rfl ?_
    refine w_pure (y_eq rfl rfl) rfl ?_
    refine w_pure (y_assign rfl) rfl ?_
    refine w_nil ?_
    refine x_next ?_
    refine c_true rfl ?_
    refine c_seq ?_
    refine c_region ?_
    refine w_pure (y_assign rfl) rfl ?_
    refine w_nil ?_
    refine x_next ?_
    refine c_ret ?_
    refine x_block_ret ?_
    refine x_then_ret ?_
    rotate_left
  exact x_retv [_] rfl ⟨rfl, trivial⟩ ⟨rfl, rfl⟩
section
variable {w : World} {lo hi lo' hi' l2 h2 e b b' o o' lo3 hi3 : Nat} {v v' v2 d vo : Value} {xs ys ms : List Int} {ps : List (Int × Int)} {xss yss : List (List Int)} {svs sus : List SV} {f t : Int}
theorem impl_Interspersed_bad (k : Int) (h : SLL w lo hi svs v xss) (hl : SL w l2 h2 v2 ps) (hn : okD xss = false ∨ (okD xss = true ∧ (okCp ps (widD xss) (widD xss) = false ∨ ¬ (0 ≤ k ∧ k ≤ widD xss - 1)))) : Ret Try.prog 25 [v, .int .i64 k, v2] w fun u w' => ∃ d sus, u = .tuple #[d, .int .i64 (cInt xss ps k)] ∧ OwnD w' 42 w.heap.size w'.heap.size sus d (resInt xss ps k) ∧ Ext w w' := by
  have E : Since 0 0 w w := Since.refl 0 0 w
  rcases hn with hk | ⟨hk, hn⟩
  · refine ret_enter Try.func25 rfl Try.ntmps25 rfl ?_
    focus
      have ht_h := h.top
      have ht_hl := hl.top
      refine c_seq ?_
      refine c_region ?_
      refine w_pure (y_assign rfl) rfl ?_
      refine w_pure (y_assign rfl) rfl ?_
      refine w_nil ?_
      refine x_next ?_
      refine c_seq ?_
      refine c_block ?_
      refine c_seq ?_
      refine c_region ?_
      refine w_pure (y_move rfl) rfl ?_
      refine w_val rfl rfl rfl (iValidDeck_c) rfl (fun w14 hx14 hz14 => ?_)
      have hz_hx14 := hx14.size
      replace h := h.ext hx14
      replace hl := hl.ext hx14
      replace E := E.trans hx14
      refine w_pure (y_not rfl) rfl ?_
      refine w_pure (y_assign rfl) rfl ?_
      refine w_nil ?_
      refine x_next ?_
      (refine c_not rfl (fun hc12 => ?_) (fun hc12 => ?_) <;> try (first | exact absurd rfl hc12 | contradiction | exact Bool.noConfusion (show false = true from hc12.symm.trans (by assumption)) | exact Bool.noConfusion (show true = false from hc12.symm.trans (by assumption)) | (exfalso; omega) | (exfalso; simp only [*, Bool.not_true, Bool.not_false, reduceCtorEq] at hc12; done)))
      refine c_seq ?_
      refine c_region ?_
      refine w_pure (y_assign rfl) rfl ?_
      refine w_pure (y_assign rfl) rfl ?_
      refine w_nil ?_
      refine x_next ?_
      refine c_ret ?_
      refine x_block_ret ?_
      refine x_then_ret ?_
      rotate_left
    exact x_retv [_, _] rfl ⟨rfl, rfl, trivial⟩ ⟨_, [], by rw [cInt_1 hk]; rfl, by unfold resInt; rw [cInt_1 hk, if_neg (by decide)]; exact OwnD.nil _ _ _ _ (Nat.le_refl _), E.go⟩
  · have hc := cInt_2 hk hn
    have hw := widD_bd hk
    rcases hn with hn | hn
    · refine ret_enter Try.func25 rfl Try.ntmps25 rfl ?_
      focus
        have ht_h := h.top
        have ht_hl := hl.top
        refine c_seq ?_
        refine c_region ?_
        refine w_pure (y_assign rfl) rfl ?_
        refine w_pure (y_assign rfl) rfl ?_
        refine w_nil ?_
        refine x_next ?_
        refine c_seq ?_
        refine c_block ?_
        refine c_seq ?_
        refine c_region ?_
        refine w_pure (y_move rfl) rfl ?_
        refine w_val rfl rfl rfl (iValidDeck_c) rfl (fun w14 hx14 hz14 => ?_)
        have hz_hx14 := hx14.size
        replace h := h.ext hx14
        replace hl := hl.ext hx14
        replace E := E.trans hx14
        refine w_pure (y_not rfl) rfl ?_
        refine w_pure (y_assign rfl) rfl ?_
        refine w_nil ?_
        refine x_next ?_
        (refine c_not rfl (fun hc12 => ?_) (fun hc12 => ?_) <;> try (first | exact absurd rfl hc12 | contradiction | exact Bool.noConfusion (show false = true from hc12.symm.trans (by assumption)) | exact Bool.noConfusion (show true = false from hc12.symm.trans (by assumption)) | (exfalso; omega) | (exfalso; simp only [*, Bool.not_true, Bool.not_false, reduceCtorEq] at hc12; done)))
        refine c_seq ?_
        refine c_region ?_
        refine w_pure (y_move rfl) rfl ?_
        refine w_pure (y_move rfl) rfl ?_
        refine w_val rfl rfl rfl (deckColumns_c) rfl (fun w19 hx19 hz19 => ?_)
        have hz_hx19 := hx19.size
        replace h := h.ext hx19
        replace hl := hl.ext hx19
        replace E := E.trans hx19
        refine w_pure (y_move rfl) rfl ?_
        refine w_val rfl rfl rfl (deckColumns_c) rfl (fun w21 hx21 hz21 => ?_)
        have hz_hx21 := hx21.size
        replace h := h.ext hx21
        replace hl := hl.ext hx21
        replace E := E.trans hx21
        refine w_val rfl rfl rfl (iValidCopies_c _ _) rfl (fun w22 hx22 hz22 => ?_)
        have hz_hx22 := hx22.size
        replace h := h.ext hx22
        replace hl := hl.ext hx22
        replace E := E.trans hx22
        refine w_pure (y_not rfl) rfl ?_
        refine w_pure (y_move rfl) rfl ?_
        (refine w_part rfl rfl (fun hc25 => ?_) (fun hc25 => ?_) <;> try (first | exact absurd rfl hc25 | contradiction | exact Bool.noConfusion (show false = true from hc25.symm.trans (by assumption)) | exact Bool.noConfusion (show true = false from hc25.symm.trans (by assumption)) | (exfalso; omega) | (exfalso; simp only [*, Bool.not_true, Bool.not_false, reduceCtorEq] at hc25; done)))
        refine w_no rfl rfl rfl rfl ?_
        refine w_no rfl rfl rfl rfl ?_
        refine w_no rfl rfl rfl rfl ?_
        refine w_no rfl rfl rfl rfl ?_
        refine w_no rfl rfl rfl rfl ?_
        refine w_no rfl rfl rfl rfl ?_
        refine w_pure (y_pick_t rfl rfl) rfl ?_
        refine w_pure (y_assign rfl) rfl ?_
        refine w_nil ?_
        refine x_next ?_
        refine c_true rfl ?_
        refine c_seq ?_
        refine c_region ?_
        refine w_pure (y_assign rfl) rfl ?_
        refine w_pure (y_assign rfl) rfl ?_
        refine w_nil ?_
        refine x_next ?_
        refine c_ret ?_
        refine x_block_ret ?_
        refine x_then_ret ?_
        rotate_left
      all_goals exact x_retv [_, _] rfl ⟨rfl, rfl, trivial⟩ ⟨_, [], by rw [hc]; rfl, by unfold resInt; rw [hc, if_neg (by decide)]; exact OwnD.nil _ _ _ _ (Nat.le_refl _), E.go⟩
    · refine ret_enter Try.func25 rfl Try.ntmps25 rfl ?_
      focus
        have ht_h := h.top
        have ht_hl := hl.top
        refine c_seq ?_
        refine c_region ?_
        refine w_pure (y_assign rfl) rfl ?_
        refine w_pure (y_assign rfl) rfl ?_
        refine w_nil ?_
        refine x_next ?_
        refine c_seq ?_
        refine c_block ?_
        refine c_seq ?_
        refine c_region ?_
        refine w_pure (y_move rfl) rfl ?_
        refine w_val rfl rfl rfl (iValidDeck_c) rfl (fun w14 hx14 hz14 => ?_)
        have hz_hx14 := hx14.size
        replace h := h.ext hx14
        replace hl := hl.ext hx14
        replace E := E.trans hx14
        refine w_pure (y_not rfl) rfl ?_
        refine w_pure (y_assign rfl) rfl ?_
        refine w_nil ?_
        refine x_next ?_
        (refine c_not rfl (fun hc12 => ?_) (fun hc12 => ?_) <;> try (first | exact absurd rfl hc12 | contradiction | exact Bool.noConfusion (show false = true from hc12.symm.trans (by assumption)) | exact Bool.noConfusion (show true = false from hc12.symm.trans (by assumption)) | (exfalso; omega) | (exfalso; simp only [*, Bool.not_true, Bool.not_false, reduceCtorEq] at hc12; done)))
        refine c_seq ?_
        refine c_region ?_
        refine w_pure (y_move rfl) rfl ?_
        refine w_pure (y_move rfl) rfl ?_
        refine w_val rfl rfl rfl (deckColumns_c) rfl (fun w19 hx19 hz19 => ?_)
        have hz_hx19 := hx19.size
        replace h := h.ext hx19
        replace hl := hl.ext hx19
        replace E := E.trans hx19
        refine w_pure (y_move rfl) rfl ?_
        refine w_val rfl rfl rfl (deckColumns_c) rfl (fun w21 hx21 hz21 => ?_)
        have hz_hx21 := hx21.size
        replace h := h.ext hx21
        replace hl := hl.ext hx21
        replace E := E.trans hx21
        refine w_val rfl rfl rfl (iValidCopies_c _ _) rfl (fun w22 hx22 hz22 => ?_)
        have hz_hx22 := hx22.size
        replace h := h.ext hx22
        replace hl := hl.ext hx22
        replace E := E.trans hx22
        refine w_pure (y_not rfl) rfl ?_
        refine w_pure (y_move rfl) rfl ?_
        (refine w_part rfl rfl (fun hc25 => ?_) (fun hc25 => ?_) <;> try (first | exact absurd rfl hc25 | contradiction | exact Bool.noConfusion (show false = true from hc25.symm.trans (by assumption)) | exact Bool.noConfusion (show true = false from hc25.symm.trans (by assumption)) | (exfalso; omega) | (exfalso; simp only [*, Bool.not_true, Bool.not_false, reduceCtorEq] at hc25; done)))
        refine w_no rfl rfl rfl rfl ?_
        refine w_no rfl rfl rfl rfl ?_
        refine w_no rfl rfl rfl rfl ?_
        refine w_no rfl rfl rfl rfl ?_
        refine w_no rfl rfl rfl rfl ?_
        refine w_no rfl rfl rfl rfl ?_
        refine w_pure (y_pick_t rfl rfl) rfl ?_
        refine w_pure (y_assign rfl) rfl ?_
        refine w_nil ?_
        refine x_next ?_
        refine c_true rfl ?_
        refine c_seq ?_
        refine c_region ?_
        refine w_pure (y_assign rfl) rfl ?_
        refine w_pure (y_assign rfl) rfl ?_
        refine w_nil ?_
        refine x_next ?_
        refine c_ret ?_
        refine x_block_ret ?_
        refine x_then_ret ?_
        rotate_left
        refine w_yes rfl rfl ?_
        refine w_pure (y_move rfl) rfl ?_
        refine w_yes rfl rfl ?_
        refine w_pure (y_move rfl) rfl ?_
        refine w_yes rfl rfl ?_
        refine w_val rfl rfl rfl (deckColumns_c) rfl (fun w27 hx27 hz27 => ?_)
        have hz_hx27 := hx27.size
        replace h := h.ext hx27
        replace hl := hl.ext hx27
        replace E := E.trans hx27
        refine w_yes rfl rfl ?_
        refine w_pure (y_sub rfl rfl) rfl ?_
        refine w_yes rfl rfl ?_
        refine w_pur rfl rfl rfl (inside_c _ _ _) rfl ?_
        refine w_yes rfl rfl ?_
        refine w_pure (y_not_dec rfl) rfl ?_
        refine w_pure (y_pick_f rfl rfl) rfl ?_
        refine w_pure (y_assign rfl) rfl ?_
        refine w_nil ?_
        refine x_next ?_
        (refine c_dec rfl (fun hc16 => ?_) (fun hc16 => ?_) <;> try (first | exact absurd rfl hc16 | contradiction | exact Bool.noConfusion (show false = true from hc16.symm.trans (by assumption)) | exact Bool.noConfusion (show true = false from hc16.symm.trans (by assumption)) | (exfalso; omega) | (exfalso; simp only [*, Bool.not_true, Bool.not_false, reduceCtorEq] at hc16; done)))
        refine c_seq ?_
        refine c_region ?_
        refine w_pure (y_assign rfl) rfl ?_
        refine w_pure (y_assign rfl) rfl ?_
        refine w_nil ?_
        refine x_next ?_
        refine c_ret ?_
        refine x_block_ret ?_
        refine x_then_ret ?_
        rotate_left
      all_goals exact x_retv [_, _] rfl ⟨rfl, rfl, trivial⟩ ⟨_, [], by rw [hc]; rfl, by unfold resInt; rw [hc, if_neg (by decide)]; exact OwnD.nil _ _ _ _ (Nat.le_refl _), E.go⟩
theorem spec_Interspersed_bad (k : Int) (h : SLL w lo hi svs v xss) (hl : SL w l2 h2 v2 ps) (hn : okD xss = false ∨ (okD xss = true ∧ (okCp ps (widD xss) (widD xss) = false ∨ ¬ (0 ≤ k ∧ k ≤ widD xss - 1)))) : Ret Try.prog 24 [v, .int .i64 k, v2] w fun u w' => ∃ d sus, u = .tuple #[d, .int .i64 (cInt xss ps k)] ∧ OwnD w' 42 w.heap.size w'.heap.size sus d (resInt xss ps k) ∧ Ext w w' := by
  have E : Since 0 0 w w := Since.refl 0 0 w
  rcases hn with hk | ⟨hk, hn⟩
  · refine ret_enter Try.func24 rfl Try.ntmps24 rfl ?_
    focus
      have ht_h := h.top
      have ht_hl := hl.top
      refine c_seq ?_
      refine c_region ?_
      refine w_pure (y_assign rfl) rfl ?_
      refine w_pure (y_assign rfl) rfl ?_
      refine w_nil ?_
      refine x_next ?_
      refine c_seq ?_
      refine c_seq ?_
      refine c_region ?_
      refine w_pure (y_move rfl) rfl ?_
      refine w_val rfl rfl rfl (l02Deck_c) rfl (fun w13 hx13 hz13 => ?_)
      have hz_hx13 := hx13.size
      replace h := h.ext hx13
      replace hl := hl.ext hx13
      replace E := E.trans hx13
      refine w_pure (y_not rfl) rfl ?_
      refine w_nil ?_
      refine x_next ?_
      (refine c_not rfl (fun hc14 => ?_) (fun hc14 => ?_) <;> try (first | exact absurd rfl hc14 | contradiction | exact Bool.noConfusion (show false = true from hc14.symm.trans (by assumption)) | exact Bool.noConfusion (show true = false from hc14.symm.trans (by assumption)) | (exfalso; omega) | (exfalso; simp only [*, Bool.not_true, Bool.not_false, reduceCtorEq] at hc14; done)))
      refine c_seq ?_
      refine c_region ?_
      refine w_pure (y_assign rfl) rfl ?_
      refine w_pure (y_assign rfl) rfl ?_
      refine w_nil ?_
      refine x_next ?_
      refine c_ret ?_
      refine x_then_ret ?_
      rotate_left
    exact x_retv [_, _] rfl ⟨rfl, rfl, trivial⟩ ⟨_, [], by rw [cInt_1 hk]; rfl, by unfold resInt; rw [cInt_1 hk, if_neg (by decide)]; exact OwnD.nil _ _ _ _ (Nat.le_refl _), E.go⟩
  · have hc := cInt_2 hk hn
    have hw := widD_bd hk
    rcases hn with hn | hn
    · refine ret_enter Try.func24 rfl Try.ntmps24 rfl ?_
      focus
        have ht_h := h.top
        have ht_hl := hl.top
        refine c_seq ?_
        refine c_region ?_
        refine w_pure (y_assign rfl) rfl ?_
        refine w_pure (y_assign rfl) rfl ?_
        refine w_nil ?_
        refine x_next ?_
        refine c_seq ?_
        refine c_seq ?_
        refine c_region ?_
        refine w_pure (y_move rfl) rfl ?_
        refine w_val rfl rfl rfl (l02Deck_c) rfl (fun w13 hx13 hz13 => ?_)
        have hz_hx13 := hx13.size
        replace h := h.ext hx13
        replace hl := hl.ext hx13
        replace E := E.trans hx13
        refine w_pure (y_not rfl) rfl ?_
        refine w_nil ?_
        refine x_next ?_
        (refine c_not rfl (fun hc14 => ?_) (fun hc14 => ?_) <;> try (first | exact absurd rfl hc14 | contradiction | exact Bool.noConfusion (show false = true from hc14.symm.trans (by assumption)) | exact Bool.noConfusion (show true = false from hc14.symm.trans (by assumption)) | (exfalso; omega) | (exfalso; simp only [*, Bool.not_true, Bool.not_false, reduceCtorEq] at hc14; done)))
        refine c_skip ?_
        refine x_next ?_
        refine c_seq ?_
        refine c_region ?_
        refine w_pure (y_move rfl) rfl ?_
        refine w_val rfl rfl rfl (l07WidthOf_c) rfl (fun w16 hx16 hz16 => ?_)
        have hz_hx16 := hx16.size
        replace h := h.ext hx16
        replace hl := hl.ext hx16
        replace E := E.trans hx16
        refine w_pure (y_assign rfl) rfl ?_
        refine w_nil ?_
        refine x_next ?_
        refine c_seq ?_
        refine c_seq ?_
        refine c_region ?_
        refine w_pure (y_move rfl) rfl ?_
        refine w_pure (y_move rfl) rfl ?_
        refine w_pure (y_sub rfl rfl) rfl ?_
        refine w_pur rfl rfl rfl (l00In_c _ _ _) rfl ?_
        refine w_pure (y_not_dec rfl) rfl ?_
        refine w_pure (y_move rfl) rfl ?_
        (refine w_part_dec rfl rfl (fun hc23 => ?_) (fun hc23 => ?_) <;> try (first | exact absurd rfl hc23 | contradiction | exact Bool.noConfusion (show false = true from hc23.symm.trans (by assumption)) | exact Bool.noConfusion (show true = false from hc23.symm.trans (by assumption)) | (exfalso; omega) | (exfalso; simp only [*, Bool.not_true, Bool.not_false, reduceCtorEq] at hc23; done)))
        refine w_no rfl rfl rfl rfl ?_
        refine w_no rfl rfl rfl rfl ?_
        refine w_no rfl rfl rfl rfl ?_
        refine w_no rfl rfl rfl rfl ?_
        refine w_no rfl rfl rfl rfl ?_
        refine w_pure (y_pick_t rfl rfl) rfl ?_
        refine w_nil ?_
        refine x_next ?_
        refine c_true rfl ?_
        refine c_seq ?_
        refine c_region ?_
        refine w_pure (y_assign rfl) rfl ?_
        refine w_pure (y_assign rfl) rfl ?_
        refine w_nil ?_
        refine x_next ?_
        refine c_ret ?_
        refine x_then_ret ?_
        rotate_left
        refine w_yes rfl rfl ?_
        refine w_pure (y_move rfl) rfl ?_
        refine w_yes rfl rfl ?_
        refine w_pure (y_move rfl) rfl ?_
        refine w_yes rfl rfl ?_
        refine w_pure (y_move rfl) rfl ?_
        refine w_yes rfl rfl ?_
        refine w_val rfl rfl rfl (sValidCopies_c _ _) rfl (fun w26 hx26 hz26 => ?_)
        have hz_hx26 := hx26.size
        replace h := h.ext hx26
        replace hl := hl.ext hx26
        replace E := E.trans hx26
        refine w_yes rfl rfl ?_
        refine w_pure (y_not rfl) rfl ?_
        refine w_pure (y_pick_f rfl rfl) rfl ?_
        refine w_nil ?_
        refine x_next ?_
        (refine c_not rfl (fun hc28 => ?_) (fun hc28 => ?_) <;> try (first | exact absurd rfl hc28 | contradiction | exact Bool.noConfusion (show false = true from hc28.symm.trans (by assumption)) | exact Bool.noConfusion (show true = false from hc28.symm.trans (by assumption)) | (exfalso; omega) | (exfalso; simp only [*, Bool.not_true, Bool.not_false, reduceCtorEq] at hc28; done)))
        refine c_seq ?_
        refine c_region ?_
        refine w_pure (y_assign rfl) rfl ?_
        refine w_pure (y_assign rfl) rfl ?_
        refine w_nil ?_
        refine x_next ?_
        refine c_ret ?_
        refine x_then_ret ?_
        rotate_left
      all_goals exact x_retv [_, _] rfl ⟨rfl, rfl, trivial⟩ ⟨_, [], by rw [hc]; rfl, by unfold resInt; rw [hc, if_neg (by decide)]; exact OwnD.nil _ _ _ _ (Nat.le_refl _), E.go⟩
    · refine ret_enter Try.func24 rfl Try.ntmps24 rfl ?_
      focus
        have ht_h := h.top
        have ht_hl := hl.top
        refine c_seq ?_
        refine c_region ?_
        refine w_pure (y_assign rfl) rfl ?_
        refine w_pure (y_assign rfl) rfl ?_
        refine w_nil ?_
        refine x_next ?_
        refine c_seq ?_
        refine c_seq ?_
        refine c_region ?_
        refine w_pure (y_move rfl) rfl ?_
        refine w_val rfl rfl rfl (l02Deck_c) rfl (fun w13 hx13 hz13 => ?_)
        have hz_hx13 := hx13.size
        replace h := h.ext hx13
        replace hl := hl.ext hx13
        replace E := E.trans hx13
        refine w_pure (y_not rfl) rfl ?_
        refine w_nil ?_
        refine x_next ?_
        (refine c_not rfl (fun hc14 => ?_) (fun hc14 => ?_) <;> try (first | exact absurd rfl hc14 | contradiction | exact Bool.noConfusion (show false = true from hc14.symm.trans (by assumption)) | exact Bool.noConfusion (show true = false from hc14.symm.trans (by assumption)) | (exfalso; omega) | (exfalso; simp only [*, Bool.not_true, Bool.not_false, reduceCtorEq] at hc14; done)))
        refine c_skip ?_
        refine x_next ?_
        refine c_seq ?_
        refine c_region ?_
        refine w_pure (y_move rfl) rfl ?_
        refine w_val rfl rfl rfl (l07WidthOf_c) rfl (fun w16 hx16 hz16 => ?_)
        have hz_hx16 := hx16.size
        replace h := h.ext hx16
        replace hl := hl.ext hx16
        replace E := E.trans hx16
        refine w_pure (y_assign rfl) rfl ?_
        refine w_nil ?_
        refine x_next ?_
        refine c_seq ?_
        refine c_seq ?_
        refine c_region ?_
        refine w_pure (y_move rfl) rfl ?_
        refine w_pure (y_move rfl) rfl ?_
        refine w_pure (y_sub rfl rfl) rfl ?_
        refine w_pur rfl rfl rfl (l00In_c _ _ _) rfl ?_
        refine w_pure (y_not_dec rfl) rfl ?_
        refine w_pure (y_move rfl) rfl ?_
        (refine w_part_dec rfl rfl (fun hc23 => ?_) (fun hc23 => ?_) <;> try (first | exact absurd rfl hc23 | contradiction | exact Bool.noConfusion (show false = true from hc23.symm.trans (by assumption)) | exact Bool.noConfusion (show true = false from hc23.symm.trans (by assumption)) | (exfalso; omega) | (exfalso; simp only [*, Bool.not_true, Bool.not_false, reduceCtorEq] at hc23; done)))
        refine w_no rfl rfl rfl rfl ?_
        refine w_no rfl rfl rfl rfl ?_
        refine w_no rfl rfl rfl rfl ?_
        refine w_no rfl rfl rfl rfl ?_
        refine w_no rfl rfl rfl rfl ?_
        refine w_pure (y_pick_t rfl rfl) rfl ?_
        refine w_nil ?_
        refine x_next ?_
        refine c_true rfl ?_
        refine c_seq ?_
        refine c_region ?_
        refine w_pure (y_assign rfl) rfl ?_
        refine w_pure (y_assign rfl) rfl ?_
        refine w_nil ?_
        refine x_next ?_
        refine c_ret ?_
        refine x_then_ret ?_
        rotate_left
      all_goals exact x_retv [_, _] rfl ⟨rfl, rfl, trivial⟩ ⟨_, [], by rw [hc]; rfl, by unfold resInt; rw [hc, if_neg (by decide)]; exact OwnD.nil _ _ _ _ (Nat.le_refl _), E.go⟩
set_option maxHeartbeats 4000000 in
theorem iInterspersedGang_c (k : Int) (h : SLL w lo hi svs v xss := by repeat (first | assumption | exact Go.Gw.Own.sl (by assumption) | exact Go.Gw.Box.at (by assumption) | exact Go.Gw.SLL.el (by first | assumption | exact Go.Gw.OwnD.sll (by assumption)) _ (by omega) | exact Go.Gw.SLL.at (by first | assumption | exact Go.Gw.OwnD.sll (by assumption)) (by omega) | exact Go.Gw.OwnD.sll (by assumption) | (apply Go.Gw.SL.chg; case hx => assumption) | (apply Go.Gw.Own.chg; case hx => assumption) | (apply Go.Gw.Box.chg; case hx => assumption) | (apply Go.Gw.At.chg; case hx => assumption) | exact .inl (Nat.zero_le _) | exact .inr (Nat.zero_le _) | (show _ ∨ _; omega))) (hl : SL w l2 h2 v2 ps := by repeat (first | assumption | exact Go.Gw.Own.sl (by assumption) | exact Go.Gw.Box.at (by assumption) | exact Go.Gw.SLL.el (by first | assumption | exact Go.Gw.OwnD.sll (by assumption)) _ (by omega) | exact Go.Gw.SLL.at (by first | assumption | exact Go.Gw.OwnD.sll (by assumption)) (by omega) | exact Go.Gw.OwnD.sll (by assumption) | (apply Go.Gw.SL.chg; case hx => assumption) | (apply Go.Gw.Own.chg; case hx => assumption) | (apply Go.Gw.Box.chg; case hx => assumption) | (apply Go.Gw.At.chg; case hx => assumption) | exact .inl (Nat.zero_le _) | exact .inr (Nat.zero_le _) | (show _ ∨ _; omega))) (hk64 : In64 k := by assumption) : Ret Try.prog 25 [v, .int .i64 k, v2] w fun u w' => ∃ d sus, u = .tuple #[d, .int .i64 (cInt xss ps k)] ∧ OwnD w' 42 w.heap.size w'.heap.size sus d (resInt xss ps k) ∧ Ext w w' := by
  cases hk : okD xss
  · exact impl_Interspersed_bad k h hl (.inl hk)
  cases hk2 : okCp ps (widD xss) (widD xss)
  · exact impl_Interspersed_bad k h hl (.inr ⟨hk, .inl hk2⟩)
  by_cases hk3 : 0 ≤ k ∧ k ≤ widD xss - 1
  case neg => exact impl_Interspersed_bad k h hl (.inr ⟨hk, .inr hk3⟩)
  have hb := okCp_bd hk2
  have hb2 := okD_len hk
  have hil := intL_len xss ps k
  have E : Since 0 0 w w := Since.refl 0 0 w
  refine ret_enter Try.func25 rfl Try.ntmps25 rfl ?_
  focus
    have ht_h := h.top
    have ht_hl := hl.top
    refine c_seq ?_
    refine c_region ?_
    refine w_pure (y_assign rfl) rfl ?_
    refine w_pure (y_assign rfl) rfl ?_
    refine w_nil ?_
    refine x_next ?_
    refine c_seq ?_
    refine c_block ?_
    refine c_seq ?_
    refine c_region ?_
    refine w_pure (y_move rfl) rfl ?_
    refine w_val rfl rfl rfl (iValidDeck_c) rfl (fun w14 hx14 hz14 => ?_)
    have hz_hx14 := hx14.size
    replace h := h.ext hx14
    replace hl := hl.ext hx14
    replace E := E.trans hx14
    refine w_pure (y_not rfl) rfl ?_
    refine w_pure (y_assign rfl) rfl ?_
    refine w_nil ?_
    refine x_next ?_
    (refine c_not rfl (fun hc12 => ?_) (fun hc12 => ?_) <;> try (first | exact absurd rfl hc12 | contradiction | exact Bool.noConfusion (show false = true from hc12.symm.trans (by assumption)) | exact Bool.noConfusion (show true = false from hc12.symm.trans (by assumption)) | (exfalso; omega) | (exfalso; simp only [*, Bool.not_true, Bool.not_false, reduceCtorEq] at hc12; done)))
    refine c_seq ?_
    refine c_region ?_
    refine w_pure (y_move rfl) rfl ?_
    refine w_pure (y_move rfl) rfl ?_
    refine w_val rfl rfl rfl (deckColumns_c) rfl (fun w19 hx19 hz19 => ?_)
    have hz_hx19 := hx19.size
    replace h := h.ext hx19
    replace hl := hl.ext hx19
    replace E := E.trans hx19
    refine w_pure (y_move rfl) rfl ?_
    refine w_val rfl rfl rfl (deckColumns_c) rfl (fun w21 hx21 hz21 => ?_)
    have hz_hx21 := hx21.size
    replace h := h.ext hx21
    replace hl := hl.ext hx21
    replace E := E.trans hx21
    refine w_val rfl rfl rfl (iValidCopies_c _ _) rfl (fun w22 hx22 hz22 => ?_)
    have hz_hx22 := hx22.size
    replace h := h.ext hx22
    replace hl := hl.ext hx22
    replace E := E.trans hx22
    refine w_pure (y_not rfl) rfl ?_
    refine w_pure (y_move rfl) rfl ?_
    (refine w_part rfl rfl (fun hc25 => ?_) (fun hc25 => ?_) <;> try (first | exact absurd rfl hc25 | contradiction | exact Bool.noConfusion (show false = true from hc25.symm.trans (by assumption)) | exact Bool.noConfusion (show true = false from hc25.symm.trans (by assumption)) | (exfalso; omega) | (exfalso; simp only [*, Bool.not_true, Bool.not_false, reduceCtorEq] at hc25; done)))
    refine w_yes rfl rfl ?_
    refine w_pure (y_move rfl) rfl ?_
    refine w_yes rfl rfl ?_
    refine w_pure (y_move rfl) rfl ?_
    refine w_yes rfl rfl ?_
    refine w_val rfl rfl rfl (deckColumns_c) rfl (fun w27 hx27 hz27 => ?_)
    have hz_hx27 := hx27.size
    replace h := h.ext hx27
    replace hl := hl.ext hx27
    replace E := E.trans hx27
    refine w_yes rfl rfl ?_
    refine w_pure (y_sub rfl rfl) rfl ?_
    refine w_yes rfl rfl ?_
    refine w_pur rfl rfl rfl (inside_c _ _ _) rfl ?_
    refine w_yes rfl rfl ?_
    refine w_pure (y_not_dec rfl) rfl ?_
    refine w_pure (y_pick_f rfl rfl) rfl ?_
    refine w_pure (y_assign rfl) rfl ?_
    refine w_nil ?_
    refine x_next ?_
    (refine c_dec rfl (fun hc16 => ?_) (fun hc16 => ?_) <;> try (first | exact absurd rfl hc16 | contradiction | exact Bool.noConfusion (show false = true from hc16.symm.trans (by assumption)) | exact Bool.noConfusion (show true = false from hc16.symm.trans (by assumption)) | (exfalso; omega) | (exfalso; simp only [*, Bool.not_true, Bool.not_false, reduceCtorEq] at hc16; done)))
    refine c_skip ?_
    refine x_block_norm ?_
    refine x_next ?_
    refine c_seq ?_
    refine c_region ?_
    refine w_lit_d0 rfl (k := fun v32 w32 ho32 hx32 hl32 hh32 hs32 => ?_)
    have hl_ho32 := ho32.lt
    have hz_hx32 := hx32.size
    replace h := h.ext hx32
    replace hl := hl.ext hx32
    replace E := E.trans hx32
    refine w_pure (y_assign rfl) rfl ?_
    refine w_pure (y_assign rfl) rfl ?_
    refine w_nil ?_
    refine x_next ?_
    refine c_seq ?_
    refine c_seq ?_
    refine c_region ?_
    refine w_pure (y_move rfl) rfl ?_
    refine w_pure (y_lend rfl) rfl ?_
    refine w_pure (y_move rfl) rfl ?_
    refine w_nil ?_
    refine x_next ?_
    refine c_block ?_
    rotate_left
  refine c_loopC (bL v32) (bH v32) (ι := Int × Value × List SV) (fun x => [(0, v), (1, .int .i64 k), (2, v2), (8, x.2.1), (9, .int .i64 (mstF xss k x.1.toNat)), (33, v), (34, .int .i64 xss.length), (35, .int .i64 x.1)])
    (fun x w' => SLL w' lo hi svs v xss ∧ SL w' l2 h2 v2 ps ∧ OwnD w' 42 w.heap.size w'.heap.size x.2.2 x.2.1 ((intL xss ps k).take x.1.toNat) ∧ ((bL x.2.1 = bL v32 ∧ bH x.2.1 = bH v32) ∨ w32.heap.size ≤ bL x.2.1) ∧ 0 ≤ x.1 ∧ x.1 ≤ xss.length ∧ (0 < x.1 → isMst xss k 0)) (fun x => (xss.length - x.1).toNat) (0, v32, [])
    (by repeat (first | exact trivial | refine ⟨rfl, ?_⟩)) ⟨by assumption, by assumption, OwnD.wide (ho32.low (by omega)) (by omega) (Nat.le_refl _), .inl ⟨rfl, rfl⟩, by omega, by omega, fun h => by omega⟩ ?_
  clear ho32
  rintro ⟨i, u, sus⟩ wL hxL EL ⟨g1, g2, g3, g4, hi0, hi1, h0m⟩
  dsimp only at *
  have hml : i ≤ xss.length → ((intL xss ps k).take i.toNat).length = i.toNat := fun hh => by simp [hil]; omega
  have hrg : ∀ j : Nat, j < xss.length → Rng (xss.getD j []) := fun j hh => rng_of (okD_at hk _ hh).1
  have hwd : ∀ j : Nat, j < xss.length → ((xss.getD j []).length : Int) = widD xss := fun j hh => widD_at hk _ hh
  have e1 : (i + 1).toNat = i.toNat + 1 := by omega
  have hwi : i < xss.length → ((xss.getD i.toNat []).length : Int) = widD xss := fun hh => hwd _ (by omega)
  have hvi : i < xss.length → 0 ≤ (xss.getD i.toNat []).getD k.toNat 0 ∧ (xss.getD i.toNat []).getD k.toNat 0 ≤ 4095 := fun hh => hrg _ (by omega) _ (by have := hwi hh; omega)
  have hms := mstF_lt xss k i.toNat
  have emY : isMst xss k i.toNat → mstF xss k (i + 1).toNat = i := fun h => by rw [e1, mstF, if_pos h]; omega
  have emN : ¬ isMst xss k i.toNat → mstF xss k (i + 1).toNat = mstF xss k i.toNat := fun h => by rw [e1, mstF, if_neg h]
  have hno : i < xss.length → ¬ isMst xss k i.toNat → mstF xss k i.toNat < 0 → cInt xss ps k = 6 := fun hh h1 h2 => cInt_6 hk hk2 hk3 (by omega) (by
    rcases Nat.eq_zero_or_pos i.toNat with h0 | h0
    · rw [h0] at h1; exact h1
    · exact mst_none h2 h0)
  focus
    have ht_g1 := g1.top
    have ht_g2 := g2.top
    have hl_g3 := g3.lt
    have hz_hxL := hxL.size
    replace h := h.chg hxL (by omega)
    replace hl := hl.chg hxL (by omega)
    replace E := E.next hxL (by omega)
    refine c_seq ?_
    refine c_region ?_
    refine w_pure (y_lt rfl rfl) rfl ?_
    refine w_nil ?_
    refine x_next ?_
    refine c_seq ?_
    (refine c_dec rfl (fun hc36 => ?_) (fun hc36 => ?_) <;> try (first | exact absurd rfl hc36 | contradiction | exact Bool.noConfusion (show false = true from hc36.symm.trans (by assumption)) | exact Bool.noConfusion (show true = false from hc36.symm.trans (by assumption)) | (exfalso; omega) | (exfalso; simp only [*, Bool.not_true, Bool.not_false, reduceCtorEq] at hc36; done)))
    refine c_skip ?_
    refine x_next ?_
    refine c_seq ?_
    refine c_block ?_
    refine c_seq ?_
    refine c_region ?_
    refine w_pure (y_move rfl) rfl ?_
    refine w_pure (y_indexd rfl rfl) rfl ?_
    refine w_pure (y_loads rfl) rfl ?_
    refine w_alloc (k := fun b11 w11 hb11 hx11 hl11 hs11 => ?_)
    have hz_hx11 := hx11.size
    replace EL := EL.next hx11 (by omega)
    replace g1 := g1.ext hx11
    replace g2 := g2.ext hx11
    replace g3 := g3.ext hx11
    replace h := h.ext hx11
    replace hl := hl.ext hx11
    replace E := E.trans hx11
    refine w_pure (y_assign rfl) rfl ?_
    refine w_store_boxs rfl rfl (next := fun ws19 hbs19 hxs19 hss19 => ?_)
    (replace hb11 := hbs19; clear hbs19)
    have hz_hxs19 := hxs19.size
    replace EL := EL.next hxs19 (by omega)
    replace g1 := g1.chg hxs19 (by omega)
    replace g2 := g2.chg hxs19 (by omega)
    replace g3 := g3.chg hxs19 (by omega)
    replace h := h.chg hxs19 (by omega)
    replace hl := hl.chg hxs19 (by omega)
    replace E := E.next hxs19 (by omega)
    refine w_nil ?_
    refine x_next ?_
    refine c_block ?_
    refine c_seq ?_
    refine c_region_held mixed (fun wr10 hxr10 hzr10 => ?_)
    have hz_hxr10 := hxr10.size
    replace hb11 := hb11.ext hxr10
    replace EL := EL.next hxr10 (by omega)
    replace g1 := g1.ext hxr10
    replace g2 := g2.ext hxr10
    replace g3 := g3.ext hxr10
    replace h := h.ext hxr10
    replace hl := hl.ext hxr10
    replace E := E.trans hxr10
    refine h_pure rfl (y_field rfl) rfl ?_
    refine h_pure rfl (y_load_box rfl) rfl ?_
    refine h_pure rfl (y_move rfl) rfl ?_
    refine h_pure rfl (y_index rfl rfl) rfl ?_
    refine h_pure rfl (y_load_int rfl) rfl ?_
    refine h_one rfl ?_
    refine w_pur rfl rfl rfl (bitOf11_c) rfl ?_
    refine w_nil ?_
    refine x_held ?_
    refine h_pure rfl (y_and rfl rfl) rfl ?_
    refine h_pure rfl (y_ne rfl rfl) rfl ?_
    refine h_pure rfl (y_assign rfl) rfl ?_
    refine h_nil ?_
    refine x_next ?_
    (refine c_dec rfl (fun hc50 => ?_) (fun hc50 => ?_) <;> try (first | exact absurd rfl hc50 | contradiction | exact Bool.noConfusion (show false = true from hc50.symm.trans (by assumption)) | exact Bool.noConfusion (show true = false from hc50.symm.trans (by assumption)) | (exfalso; omega) | (exfalso; simp only [*, Bool.not_true, Bool.not_false, reduceCtorEq] at hc50; done)))
    refine c_seq ?_
    refine c_region ?_
    refine w_pure (y_move rfl) rfl ?_
    refine w_pure (y_assign rfl) rfl ?_
    refine w_nil ?_
    refine x_next ?_
    refine c_region ?_
    refine w_pure (y_move rfl) rfl ?_
    refine w_pure (y_load_boxs rfl) rfl ?_
    (refine w_call rfl rfl rfl (newCard_c) rfl ?_; rintro _ w62 ⟨d62, ⟨rfl, ⟨hp1_62, hx62⟩⟩⟩)
    have hl_hp1_62 := hp1_62.lt
    have hz_hx62 := hx62.size
    replace hb11 := hb11.ext hx62
    replace EL := EL.next hx62 (by omega)
    replace g1 := g1.ext hx62
    replace g2 := g2.ext hx62
    replace g3 := g3.ext hx62
    replace h := h.ext hx62
    replace hl := hl.ext hx62
    replace E := E.trans hx62
    refine w_lit_cd rfl rfl (k := fun v63 w63 ho63 hx63 hl63 hh63 hs63 => ?_)
    have hl_ho63 := ho63.lt
    have hz_hx63 := hx63.size
    replace hp1_62 := hp1_62.ext hx63
    replace hb11 := hb11.ext hx63
    replace EL := EL.next hx63 (by omega)
    replace g1 := g1.ext hx63
    replace g2 := g2.ext hx63
    replace g3 := g3.ext hx63
    replace h := h.ext hx63
    replace hl := hl.ext hx63
    replace E := E.trans hx63
    refine w_append_d rfl rfl (k := fun v64 w64 ho64 hx64 hr64 => ?_)
    have hl_ho64 := ho64.lt
    have hz_hx64 := hx64.size
    replace ho63 := ho63.chg hx64 (by omega)
    replace hp1_62 := hp1_62.chg hx64 (by omega)
    replace hb11 := hb11.chg hx64 (by omega)
    replace EL := EL.next hx64 (by omega)
    replace g1 := g1.chg hx64 (by omega)
    replace g2 := g2.chg hx64 (by omega)
    replace h := h.chg hx64 (by omega)
    replace hl := hl.chg hx64 (by omega)
    replace E := E.next hx64 (by omega)
    refine w_pure (y_assign rfl) rfl ?_
    refine w_nil ?_
    refine x_block_norm ?_
    refine x_block_norm ?_
    refine x_next ?_
    refine c_region ?_
    refine w_pure (y_add rfl rfl) rfl ?_
    refine w_pure (y_move rfl) rfl ?_
    refine w_nil ?_
    rotate_left
    refine c_seq ?_
    refine c_region ?_
    refine w_pure (y_move rfl) rfl ?_
    refine w_pure (y_lt rfl rfl) rfl ?_
    refine w_pure (y_assign rfl) rfl ?_
    refine w_nil ?_
    refine x_next ?_
    (refine c_dec rfl (fun hc65 => ?_) (fun hc65 => ?_) <;> try (first | exact absurd rfl hc65 | contradiction | exact Bool.noConfusion (show false = true from hc65.symm.trans (by assumption)) | exact Bool.noConfusion (show true = false from hc65.symm.trans (by assumption)) | (exfalso; omega) | (exfalso; simp only [*, Bool.not_true, Bool.not_false, reduceCtorEq] at hc65; done)))
    refine c_seq ?_
    refine c_region ?_
    refine w_pure (y_assign rfl) rfl ?_
    refine w_pure (y_assign rfl) rfl ?_
    refine w_nil ?_
    refine x_next ?_
    refine c_ret ?_
    refine x_block_ret ?_
    refine x_block_ret ?_
    refine x_then_ret ?_
    refine x_then_ret ?_
    refine x_block_ret ?_
    refine x_then_ret ?_
    rotate_left
    refine c_region_held mixed (fun wr9 hxr9 hzr9 => ?_)
    have hz_hxr9 := hxr9.size
    replace hb11 := hb11.ext hxr9
    replace EL := EL.next hxr9 (by omega)
    replace g1 := g1.ext hxr9
    replace g2 := g2.ext hxr9
    replace g3 := g3.ext hxr9
    replace h := h.ext hxr9
    replace hl := hl.ext hxr9
    replace E := E.trans hxr9
    refine h_pure rfl (y_move rfl) rfl ?_
    refine h_pure rfl (y_load_boxs rfl) rfl ?_
    refine h_pure rfl (y_move rfl) rfl ?_
    refine h_pure rfl (y_move rfl) rfl ?_
    refine h_pure rfl (y_indexd rfl rfl) rfl ?_
    refine h_pure rfl (y_loads rfl) rfl ?_
    refine h_pure rfl (y_move rfl) rfl ?_
    refine h_one rfl ?_
    (refine w_call rfl rfl rfl (copied_c (hx := hrg _ (by omega)) (hy := hrg _ (by omega)) (f := widD xss) (t := widD xss) (hf := (hwd _ (by omega)).symm) (ht := (hwd _ (by omega)).symm)) rfl ?_; rintro _ w47 ⟨d47, ⟨rfl, ⟨hp1_47, hx47⟩⟩⟩)
    have hl_hp1_47 := hp1_47.lt
    have hz_hx47 := hx47.size
    replace hb11 := hb11.ext hx47
    replace EL := EL.next hx47 (by omega)
    replace g1 := g1.ext hx47
    replace g2 := g2.ext hx47
    replace g3 := g3.ext hx47
    replace h := h.ext hx47
    replace hl := hl.ext hx47
    replace E := E.trans hx47
    refine w_nil ?_
    refine x_held ?_
    refine h_one rfl ?_
    refine w_lit_cd rfl rfl (k := fun v48 w48 ho48 hx48 hl48 hh48 hs48 => ?_)
    have hl_ho48 := ho48.lt
    have hz_hx48 := hx48.size
    replace hp1_47 := hp1_47.ext hx48
    replace hb11 := hb11.ext hx48
    replace EL := EL.next hx48 (by omega)
    replace g1 := g1.ext hx48
    replace g2 := g2.ext hx48
    replace g3 := g3.ext hx48
    replace h := h.ext hx48
    replace hl := hl.ext hx48
    replace E := E.trans hx48
    refine w_nil ?_
    refine x_held ?_
    refine h_one rfl ?_
    refine w_append_d rfl rfl (k := fun v49 w49 ho49 hx49 hr49 => ?_)
    have hl_ho49 := ho49.lt
    have hz_hx49 := hx49.size
    replace ho48 := ho48.chg hx49 (by omega)
    replace hp1_47 := hp1_47.chg hx49 (by omega)
    replace hb11 := hb11.chg hx49 (by omega)
    replace EL := EL.next hx49 (by omega)
    replace g1 := g1.chg hx49 (by omega)
    replace g2 := g2.chg hx49 (by omega)
    replace h := h.chg hx49 (by omega)
    replace hl := hl.chg hx49 (by omega)
    replace E := E.next hx49 (by omega)
    refine w_nil ?_
    refine x_heldk ?_
    refine h_pure rfl (y_assign rfl) rfl ?_
    refine h_nil ?_
    refine x_block_norm ?_
    refine x_block_norm ?_
    refine x_next ?_
    refine c_region ?_
    refine w_pure (y_add rfl rfl) rfl ?_
    refine w_pure (y_move rfl) rfl ?_
    refine w_nil ?_
    rotate_left
    refine c_exit ?_
    refine x_then_exit ?_
    refine x_then_exit ?_
    refine x_block_hit ?_
    refine x_next ?_
    refine c_seq ?_
    refine c_region ?_
    refine w_pure (y_move rfl) rfl ?_
    refine w_pure (y_assign rfl) rfl ?_
    refine w_pure (y_assign rfl) rfl ?_
    refine w_nil ?_
    refine x_next ?_
    refine c_ret ?_
    rotate_left
  · have hm : isMst xss k i.toNat := hc50
    refine x_again (i + 1, v64, sus ++ [svOf d62]) ⟨rfl, rfl, rfl, rfl, by show _ = some (Value.int .i64 (mstF xss k (i + 1).toNat)); rw [emY hm]; rfl, rfl, rfl, rfl, trivial⟩ ⟨EL.go, by assumption, by assumption, ?_, by dsimp only; omega, by dsimp only; omega, by dsimp only; omega, fun h1 => ?_⟩ (by dsimp only; omega)
    · dsimp only
      rw [e1, List.take_add_one, intL_get (by omega), intAt, if_pos hm]
      exact OwnD.wide (by assumption) (by omega) (Nat.le_refl _)
    · rcases Nat.eq_zero_or_pos i.toNat with h0 | h0
      · rw [h0] at hm; exact hm
      · exact h0m (by omega)
  · have hc6 := hno (by omega) hc50 hc65
    exact x_retv [_, _] rfl ⟨rfl, rfl, trivial⟩ ⟨_, [], by rw [hc6]; rfl, by unfold resInt; rw [hc6, if_neg (by decide)]; exact OwnD.nil _ _ _ _ (Nat.le_refl _), E.go⟩
  · have hm : ¬ isMst xss k i.toNat := hc50
    refine x_again (i + 1, v49, sus ++ [svOf d47]) ⟨rfl, rfl, rfl, rfl, by show _ = some (Value.int .i64 (mstF xss k (i + 1).toNat)); rw [emN hm]; rfl, rfl, rfl, rfl, trivial⟩ ⟨EL.go, by assumption, by assumption, ?_, by dsimp only; omega, by dsimp only; omega, by dsimp only; omega, fun h1 => h0m (by omega)⟩ (by dsimp only; omega)
    dsimp only
    rw [e1, List.take_add_one, intL_get (by omega), intAt, if_neg hm]
    exact OwnD.wide (by assumption) (by omega) (Nat.le_refl _)
  · have hc0 := cInt_0 hk hk2 hk3 (fun hh => h0m (by omega))
    refine x_retv [_, _] rfl ⟨rfl, rfl, trivial⟩ ⟨_, sus, by rw [hc0]; rfl, ?_, E.go⟩
    unfold resInt; rw [hc0, if_pos rfl]
    rw [List.take_of_length_le (by omega)] at g3
    exact OwnD.wide (by assumption) (by omega) (Nat.le_refl _)
set_option maxHeartbeats 4000000 in
theorem sInterspersedGang_c (k : Int) (h : SLL w lo hi svs v xss := by repeat (first | assumption | exact Go.Gw.Own.sl (by assumption) | exact Go.Gw.Box.at (by assumption) | exact Go.Gw.SLL.el (by first | assumption | exact Go.Gw.OwnD.sll (by assumption)) _ (by omega) | exact Go.Gw.SLL.at (by first | assumption | exact Go.Gw.OwnD.sll (by assumption)) (by omega) | exact Go.Gw.OwnD.sll (by assumption) | (apply Go.Gw.SL.chg; case hx => assumption) | (apply Go.Gw.Own.chg; case hx => assumption) | (apply Go.Gw.Box.chg; case hx => assumption) | (apply Go.Gw.At.chg; case hx => assumption) | exact .inl (Nat.zero_le _) | exact .inr (Nat.zero_le _) | (show _ ∨ _; omega))) (hl : SL w l2 h2 v2 ps := by repeat (first | assumption | exact Go.Gw.Own.sl (by assumption) | exact Go.Gw.Box.at (by assumption) | exact Go.Gw.SLL.el (by first | assumption | exact Go.Gw.OwnD.sll (by assumption)) _ (by omega) | exact Go.Gw.SLL.at (by first | assumption | exact Go.Gw.OwnD.sll (by assumption)) (by omega) | exact Go.Gw.OwnD.sll (by assumption) | (apply Go.Gw.SL.chg; case hx => assumption) | (apply Go.Gw.Own.chg; case hx => assumption) | (apply Go.Gw.Box.chg; case hx => assumption) | (apply Go.Gw.At.chg; case hx => assumption) | exact .inl (Nat.zero_le _) | exact .inr (Nat.zero_le _) | (show _ ∨ _; omega))) (hk64 : In64 k := by assumption) : Ret Try.prog 24 [v, .int .i64 k, v2] w fun u w' => ∃ d sus, u = .tuple #[d, .int .i64 (cInt xss ps k)] ∧ OwnD w' 42 w.heap.size w'.heap.size sus d (resInt xss ps k) ∧ Ext w w' := by
  cases hk : okD xss
  · exact spec_Interspersed_bad k h hl (.inl hk)
  cases hk2 : okCp ps (widD xss) (widD xss)
  · exact spec_Interspersed_bad k h hl (.inr ⟨hk, .inl hk2⟩)
  by_cases hk3 : 0 ≤ k ∧ k ≤ widD xss - 1
  case neg => exact spec_Interspersed_bad k h hl (.inr ⟨hk, .inr hk3⟩)
  have hb := okCp_bd hk2
  have hb2 := okD_len hk
  have hil := intL_len xss ps k
  have E : Since 0 0 w w := Since.refl 0 0 w
  refine ret_enter Try.func24 rfl Try.ntmps24 rfl ?_
  focus
    have ht_h := h.top
    have ht_hl := hl.top
    refine c_seq ?_
    refine c_region ?_
    refine w_pure (y_assign rfl) rfl ?_
    refine w_pure (y_assign rfl) rfl ?_
    refine w_nil ?_
    refine x_next ?_
    refine c_seq ?_
    refine c_seq ?_
    refine c_region ?_
    refine w_pure (y_move rfl) rfl ?_
    refine w_val rfl rfl rfl (l02Deck_c) rfl (fun w13 hx13 hz13 => ?_)
    have hz_hx13 := hx13.size
    replace h := h.ext hx13
    replace hl := hl.ext hx13
    replace E := E.trans hx13
    refine w_pure (y_not rfl) rfl ?_
    refine w_nil ?_
    refine x_next ?_
    (refine c_not rfl (fun hc14 => ?_) (fun hc14 => ?_) <;> try (first | exact absurd rfl hc14 | contradiction | exact Bool.noConfusion (show false = true from hc14.symm.trans (by assumption)) | exact Bool.noConfusion (show true = false from hc14.symm.trans (by assumption)) | (exfalso; omega) | (exfalso; simp only [*, Bool.not_true, Bool.not_false, reduceCtorEq] at hc14; done)))
    refine c_skip ?_
    refine x_next ?_
    refine c_seq ?_
    refine c_region ?_
    refine w_pure (y_move rfl) rfl ?_
    refine w_val rfl rfl rfl (l07WidthOf_c) rfl (fun w16 hx16 hz16 => ?_)
    have hz_hx16 := hx16.size
    replace h := h.ext hx16
    replace hl := hl.ext hx16
    replace E := E.trans hx16
    refine w_pure (y_assign rfl) rfl ?_
    refine w_nil ?_
    refine x_next ?_
    refine c_seq ?_
    refine c_seq ?_
    refine c_region ?_
    refine w_pure (y_move rfl) rfl ?_
    refine w_pure (y_move rfl) rfl ?_
    refine w_pure (y_sub rfl rfl) rfl ?_
    refine w_pur rfl rfl rfl (l00In_c _ _ _) rfl ?_
    refine w_pure (y_not_dec rfl) rfl ?_
    refine w_pure (y_move rfl) rfl ?_
    (refine w_part_dec rfl rfl (fun hc23 => ?_) (fun hc23 => ?_) <;> try (first | exact absurd rfl hc23 | contradiction | exact Bool.noConfusion (show false = true from hc23.symm.trans (by assumption)) | exact Bool.noConfusion (show true = false from hc23.symm.trans (by assumption)) | (exfalso; omega) | (exfalso; simp only [*, Bool.not_true, Bool.not_false, reduceCtorEq] at hc23; done)))
    refine w_yes rfl rfl ?_
    refine w_pure (y_move rfl) rfl ?_
    refine w_yes rfl rfl ?_
    refine w_pure (y_move rfl) rfl ?_
    refine w_yes rfl rfl ?_
    refine w_pure (y_move rfl) rfl ?_
    refine w_yes rfl rfl ?_
    refine w_val rfl rfl rfl (sValidCopies_c _ _) rfl (fun w26 hx26 hz26 => ?_)
    have hz_hx26 := hx26.size
    replace h := h.ext hx26
    replace hl := hl.ext hx26
    replace E := E.trans hx26
    refine w_yes rfl rfl ?_
    refine w_pure (y_not rfl) rfl ?_
    refine w_pure (y_pick_f rfl rfl) rfl ?_
    refine w_nil ?_
    refine x_next ?_
    (refine c_not rfl (fun hc28 => ?_) (fun hc28 => ?_) <;> try (first | exact absurd rfl hc28 | contradiction | exact Bool.noConfusion (show false = true from hc28.symm.trans (by assumption)) | exact Bool.noConfusion (show true = false from hc28.symm.trans (by assumption)) | (exfalso; omega) | (exfalso; simp only [*, Bool.not_true, Bool.not_false, reduceCtorEq] at hc28; done)))
    refine c_skip ?_
    refine x_next ?_
    refine c_seq ?_
    refine c_region ?_
    refine w_pure (y_move rfl) rfl ?_
    (refine w_call rfl rfl rfl (l02Copy_c) rfl ?_; rintro v30 w30 ⟨sus30, ⟨hp1_30, hx30⟩⟩)
    have hl_hp1_30 := hp1_30.lt
    have hz_hx30 := hx30.size
    replace h := h.ext hx30
    replace hl := hl.ext hx30
    replace E := E.trans hx30
    refine w_pure (y_assign rfl) rfl ?_
    refine w_nil ?_
    refine x_next ?_
    refine c_seq ?_
    refine c_region ?_
    refine w_pure (y_assign rfl) rfl ?_
    refine w_nil ?_
    refine x_next ?_
    refine c_seq ?_
    refine c_seq ?_
    refine c_region ?_
    refine w_pure (y_assign rfl) rfl ?_
    refine w_nil ?_
    refine x_next ?_
    refine c_block ?_
    rotate_left
  refine c_loopC w26.heap.size w30.heap.size (ι := Int) (fun x => [(0, v), (1, .int .i64 k), (2, v2), (9, v30), (10, .int .i64 (mstF xss k x.toNat)), (11, .int .i64 x)])
    (fun x w' => SLL w' lo hi svs v xss ∧ SL w' l2 h2 v2 ps ∧ OwnD w' 42 w26.heap.size w30.heap.size sus30 v30 ((intL xss ps k).take x.toNat ++ xss.drop x.toNat) ∧ 0 ≤ x ∧ x ≤ xss.length ∧ (0 < x → isMst xss k 0)) (fun x => (xss.length - x).toNat) 0
    (by repeat (first | exact trivial | refine ⟨rfl, ?_⟩)) ⟨by assumption, by assumption, by simpa using hp1_30, by omega, by omega, fun h => by omega⟩ ?_
  clear hp1_30
  rintro i wL hxL EL ⟨g1, g2, g3, hi0, hi1, h0m⟩
  have hlen : ((intL xss ps k).take i.toNat ++ xss.drop i.toNat).length = xss.length := mix_len hil
  have hgd : i < xss.length → ((intL xss ps k).take i.toNat ++ xss.drop i.toNat).getD i.toNat [] = xss.getD i.toNat [] := fun hh => mix_getD hil (by omega)
  have hrg : ∀ j : Nat, j < xss.length → Rng (xss.getD j []) := fun j hh => rng_of (okD_at hk _ hh).1
  have hwd : ∀ j : Nat, j < xss.length → ((xss.getD j []).length : Int) = widD xss := fun j hh => widD_at hk _ hh
  have e1 : (i + 1).toNat = i.toNat + 1 := by omega
  have hwi : i < xss.length → ((xss.getD i.toNat []).length : Int) = widD xss := fun hh => hwd _ (by omega)
  have hvi : i < xss.length → 0 ≤ (xss.getD i.toNat []).getD k.toNat 0 ∧ (xss.getD i.toNat []).getD k.toNat 0 ≤ 4095 := fun hh => hrg _ (by omega) _ (by have := hwi hh; omega)
  have hms := mstF_lt xss k i.toNat
  have emY : isMst xss k i.toNat → mstF xss k (i + 1).toNat = i := fun h => by rw [e1, mstF, if_pos h]; omega
  have emN : ¬ isMst xss k i.toNat → mstF xss k (i + 1).toNat = mstF xss k i.toNat := fun h => by rw [e1, mstF, if_neg h]
  have hno : i < xss.length → ¬ isMst xss k i.toNat → mstF xss k i.toNat < 0 → cInt xss ps k = 6 := fun hh h1 h2 => cInt_6 hk hk2 hk3 (by omega) (by
    rcases Nat.eq_zero_or_pos i.toNat with h0 | h0
    · rw [h0] at h1; exact h1
    · exact mst_none h2 h0)
  have hin : 0 < xss.length → lo ≤ sb v ∧ sb v < hi := fun hh => g1.out.block (by have := g1.len; omega)
  focus
    have ht_g1 := g1.top
    have ht_g2 := g2.top
    have hl_g3 := g3.lt
    have hz_hxL := hxL.size
    replace h := h.chg hxL (by omega)
    replace hl := hl.chg hxL (by omega)
    replace E := E.next hxL (by omega)
    refine c_seq ?_
    refine c_seq ?_
    refine c_region ?_
    refine w_pure (y_move rfl) rfl ?_
    refine w_pure (y_move rfl) rfl ?_
    refine w_pure (y_lend rfl) rfl ?_
    refine w_pure (y_lt rfl rfl) rfl ?_
    refine w_nil ?_
    refine x_next ?_
    (refine c_dec rfl (fun hc34 => ?_) (fun hc34 => ?_) <;> try (first | exact absurd rfl hc34 | contradiction | exact Bool.noConfusion (show false = true from hc34.symm.trans (by assumption)) | exact Bool.noConfusion (show true = false from hc34.symm.trans (by assumption)) | (exfalso; omega) | (exfalso; simp only [*, Bool.not_true, Bool.not_false, reduceCtorEq] at hc34; done)))
    refine c_skip ?_
    refine x_next ?_
    refine c_seq ?_
    refine c_block ?_
    refine c_seq ?_
    refine c_seq ?_
    refine c_region ?_
    refine w_pure (y_move rfl) rfl ?_
    refine w_pure (y_move rfl) rfl ?_
    refine w_pure (y_indexd rfl rfl) rfl ?_
    refine w_pure (y_field rfl) rfl ?_
    refine w_pure (y_loadk rfl) rfl ?_
    refine w_pure (y_move rfl) rfl ?_
    refine w_pure (y_index rfl rfl) rfl ?_
    refine w_pure (y_load_int rfl) rfl ?_
    refine w_pure (y_and rfl rfl) rfl ?_
    refine w_pure (y_ne rfl rfl) rfl ?_
    refine w_nil ?_
    refine x_next ?_
    (refine c_dec rfl (fun hc46 => ?_) (fun hc46 => ?_) <;> try (first | exact absurd rfl hc46 | contradiction | exact Bool.noConfusion (show false = true from hc46.symm.trans (by assumption)) | exact Bool.noConfusion (show true = false from hc46.symm.trans (by assumption)) | (exfalso; omega) | (exfalso; simp only [*, Bool.not_true, Bool.not_false, reduceCtorEq] at hc46; done)))
    refine c_seq ?_
    refine c_region ?_
    refine w_pure (y_move rfl) rfl ?_
    refine w_pure (y_assign rfl) rfl ?_
    refine w_nil ?_
    refine x_next ?_
    refine c_exit ?_
    refine x_then_exit ?_
    refine x_block_hit ?_
    refine x_next ?_
    refine c_region ?_
    refine w_pure (y_move rfl) rfl ?_
    refine w_pure (y_add rfl rfl) rfl ?_
    refine w_pure (y_assign rfl) rfl ?_
    refine w_nil ?_
    rotate_left
    refine c_skip ?_
    refine x_next ?_
    refine c_seq ?_
    refine c_seq ?_
    refine c_region ?_
    refine w_pure (y_move rfl) rfl ?_
    refine w_pure (y_lt rfl rfl) rfl ?_
    refine w_nil ?_
    refine x_next ?_
    (refine c_dec rfl (fun hc49 => ?_) (fun hc49 => ?_) <;> try (first | exact absurd rfl hc49 | contradiction | exact Bool.noConfusion (show false = true from hc49.symm.trans (by assumption)) | exact Bool.noConfusion (show true = false from hc49.symm.trans (by assumption)) | (exfalso; omega) | (exfalso; simp only [*, Bool.not_true, Bool.not_false, reduceCtorEq] at hc49; done)))
    refine c_seq ?_
    refine c_region ?_
    refine w_pure (y_assign rfl) rfl ?_
    refine w_pure (y_assign rfl) rfl ?_
    refine w_nil ?_
    refine x_next ?_
    refine c_ret ?_
    refine x_then_ret ?_
    refine x_block_ret ?_
    refine x_then_ret ?_
    refine x_then_ret ?_
    refine x_block_ret ?_
    refine x_then_ret ?_
    rotate_left
    refine c_skip ?_
    refine x_next ?_
    refine c_region_held mixed (fun wr15 hxr15 hzr15 => ?_)
    have hz_hxr15 := hxr15.size
    replace EL := EL.next hxr15 (by omega)
    replace g1 := g1.ext hxr15
    replace g2 := g2.ext hxr15
    replace g3 := g3.ext hxr15
    replace h := h.ext hxr15
    replace hl := hl.ext hxr15
    replace E := E.trans hxr15
    refine h_pure rfl (y_move rfl) rfl ?_
    refine h_pure rfl (y_move rfl) rfl ?_
    refine h_pure rfl (y_indexd rfl rfl) rfl ?_
    refine h_pure rfl (y_move rfl) rfl ?_
    refine h_pure rfl (y_move rfl) rfl ?_
    refine h_pure rfl (y_indexd rfl rfl) rfl ?_
    refine h_pure rfl (y_move rfl) rfl ?_
    refine h_one rfl ?_
    (refine w_call rfl rfl rfl (l10CopyEl_e (hx := hrg _ (by omega)) (hy := by rw [hgd (by omega)]; exact hrg _ (by omega)) (f := widD xss) (t := widD xss) (hf := (hwd _ (by omega)).symm) (ht := by rw [hgd (by omega)]; exact (hwd _ (by omega)).symm)) rfl ?_; rintro _ w57 ⟨rfl, ⟨hp1_57, hx57⟩⟩)
    have hl_hp1_57 := hp1_57.lt
    have hz_hx57 := hx57.size
    replace EL := EL.trans hx57
    replace g1 := g1.chg hx57 (by omega)
    replace g2 := g2.chg hx57 (by omega)
    replace h := h.chg hx57 (by omega)
    replace hl := hl.chg hx57 (by omega)
    replace E := E.next hx57 (by omega)
    refine w_nil ?_
    refine x_heldk ?_
    refine h_nil ?_
    refine x_block_norm ?_
    refine x_next ?_
    refine c_region ?_
    refine w_pure (y_move rfl) rfl ?_
    refine w_pure (y_add rfl rfl) rfl ?_
    refine w_pure (y_assign rfl) rfl ?_
    refine w_nil ?_
    rotate_left
    refine c_exit ?_
    refine x_then_exit ?_
    refine x_then_exit ?_
    refine x_block_hit ?_
    refine x_next ?_
    refine c_seq ?_
    refine c_region ?_
    refine w_pure (y_move rfl) rfl ?_
    refine w_pure (y_assign rfl) rfl ?_
    refine w_pure (y_assign rfl) rfl ?_
    refine w_nil ?_
    refine x_next ?_
    refine c_ret ?_
    rotate_left
  · have hm : isMst xss k i.toNat := hc46
    refine x_again (i + 1) ⟨rfl, rfl, rfl, rfl, by show _ = some (Value.int .i64 (mstF xss k (i + 1).toNat)); rw [emY hm]; rfl, rfl, trivial⟩ ⟨EL.go, by assumption, by assumption, ?_, by omega, by omega, fun h1 => ?_⟩ (by omega)
    · rw [e1, ← upd_step hil (by omega) (intL_get (by omega)), intAt, if_pos hm, ← hgd (by omega), set_same]
      assumption
    · rcases Nat.eq_zero_or_pos i.toNat with h0 | h0
      · rw [h0] at hc46; exact hc46
      · exact h0m (by omega)
  · have hc6 := hno (by omega) hc46 hc49
    exact x_retv [_, _] rfl ⟨rfl, rfl, trivial⟩ ⟨_, [], by rw [hc6]; rfl, by unfold resInt; rw [hc6, if_neg (by decide)]; exact OwnD.nil _ _ _ _ (Nat.le_refl _), E.go⟩
  · have hm : ¬ isMst xss k i.toNat := hc46
    refine x_again (i + 1) ⟨rfl, rfl, rfl, rfl, by show _ = some (Value.int .i64 (mstF xss k (i + 1).toNat)); rw [emN hm]; rfl, rfl, trivial⟩ ⟨EL.go, by assumption, by assumption, ?_, by omega, by omega, fun h1 => h0m (by omega)⟩ (by omega)
    rw [e1, ← upd_step hil (by omega) (intL_get (by omega)), intAt, if_neg hm]
    rw [hgd (by omega)] at hp1_57
    exact hp1_57
  · rw [mix_all hil (by omega)] at g3
    have hc0 := cInt_0 hk hk2 hk3 (fun hh => h0m (by omega))
    refine x_retv [_, _] rfl ⟨rfl, rfl, trivial⟩ ⟨_, sus30, by rw [hc0]; rfl, ?_, E.go⟩
    unfold resInt; rw [hc0, if_pos rfl]
    exact OwnD.wide (g3.low (by omega)) (by omega) (Nat.le_refl _)
end
end Go.Proofs.Ytkkgkoibabbjoaa

/- Contracts: sums of columns, groups of cards. -/
import Derived.Test.YtihnhelkfiaimaaGreatDoorTabA
namespace Go.Proofs.YtihnhelkfiaimaaGreatDoor
open Go Go.Gw
set_option linter.unusedVariables false
set_option linter.unusedSimpArgs false
def idxN (p : Nat → Bool) (n i : Nat) : Int := if h : i < n then (if p i = true then (i : Int) else idxN p n (i + 1)) else -1
termination_by n - i
theorem idxN_hit {p : Nat → Bool} {n i : Nat} (h : i < n) (e : p i = true) : idxN p n i = i := by rw [idxN, dif_pos h, if_pos e]
theorem idxN_on {p : Nat → Bool} {n i : Nat} (h : i < n) (e : p i = false) : idxN p n i = idxN p n (i + 1) := by rw [idxN, dif_pos h, if_neg (by rw [e]; decide)]
theorem idxN_end {p : Nat → Bool} {n i : Nat} (h : ¬ i < n) : idxN p n i = -1 := by rw [idxN, dif_neg h]
theorem idxN_all (p : Nat → Bool) (n : Nat) : ∀ (k i : Nat), n - i ≤ k → (0 ≤ idxN p n i ↔ ¬ ∀ j, i ≤ j → j < n → p j = false)
  | 0, i, hk => by
    rw [idxN_end (by omega)]
    exact ⟨fun h => absurd h (by omega), fun h => absurd (fun j h1 h2 => by omega) h⟩
  | k + 1, i, hk => by
    by_cases h : i < n
    · cases e : p i
      · rw [idxN_on h e, idxN_all p n k (i + 1) (by omega)]
        refine not_congr ⟨fun hh j h1 h2 => ?_, fun hh j h1 h2 => hh j (by omega) h2⟩
        by_cases ej : j = i
        · subst ej; exact e
        · exact hh j (by omega) h2
      · rw [idxN_hit h e]
        exact ⟨fun _ hh => (by have h9 := hh i (Nat.le_refl _) h; rw [e] at h9; exact absurd h9 (by decide)), fun _ => by omega⟩
    · rw [idxN_end h]
      exact ⟨fun h => absurd h (by omega), fun hh => absurd (fun j h1 h2 => by omega) hh⟩
theorem idxN_any (p : Nat → Bool) (n : Nat) : decide (0 ≤ idxN p n 0) = !decide (∀ j, j < n → p j = false) := by
  rw [← decide_not]
  refine decide_eq_decide.2 ((idxN_all p n n 0 (by omega)).trans (not_congr ⟨fun h j hj => h j (Nat.zero_le _) hj, fun h j _ hj => h j hj⟩))
theorem isHd_iff {xss : List (List Int)} {f t i : Int} (h0 : 0 ≤ i) (h1 : 0 ≤ f ∧ f < t ∧ t ≤ (xss.getD i.toNat []).length) (h2 : 0 ≤ f ∧ f < t ∧ t ≤ (xss.getD (i - 1).toNat []).length) (hk : okT (prt (xss.getD (i - 1).toNat []) f t) = true) :
    isHd xss f t i.toNat = decide (i = 0 ∨ ¬ cmpF (prt (xss.getD (i - 1).toNat []) f t) (prt (xss.getD i.toNat []) f t) 0 = 0) := by
  have a1 := prt_len h1
  have a2 := prt_len h2
  have e := cmp_eq (xs := prt (xss.getD (i - 1).toNat []) f t) (ys := prt (xss.getD i.toNat []) f t) (by omega) hk
  unfold isHd
  refine decide_eq_decide.2 ?_
  rw [e, show i.toNat - 1 = (i - 1).toNat by omega, show i.toNat = 0 ↔ i = 0 by omega]
theorem isHk_iff {ks : List (List UInt8)} {i : Int} (h0 : 0 ≤ i) : isHk ks i.toNat = decide (i = 0 ∨ ¬ ks.getD i.toNat [] = ks.getD (i - 1).toNat []) := by
  unfold isHk
  refine decide_eq_decide.2 ?_
  rw [show i.toNat - 1 = (i - 1).toNat by omega, show i.toNat = 0 ↔ i = 0 by omega]
theorem hdG_put {p : Nat → Bool} {i : Nat} (h : p i = true) : hdG p (i + 1) = hdG p i ++ [(i : Int)] := by rw [hdG, if_pos h]
theorem hdG_pass {p : Nat → Bool} {i : Nat} (h : p i = false) : hdG p (i + 1) = hdG p i := by rw [hdG, if_neg (by rw [h]; decide)]
section
variable {w : World} {lo hi lo' hi' l2 h2 e b o : Nat} {v v' v2 : Value} {xs ys : List Int} {ps : List (Int × Int)} {xss : List (List Int)} {svs gs : List SV} {f t W : Int}
theorem IndexFuncCard {f : FuncId} [Callable Tryz.prog f] {first cap : List Value} {p : Nat → Bool} (h : SLL w lo hi svs v xss) (hp : ∀ i, i < xss.length → Val Tryz.prog f (first ++ [.agg #[svD svs i]] ++ cap) w (.bool (p i))) :
    Val Tryz.prog 201 [v, .func (.func f) first.toArray cap.toArray] w (.int .i64 (idxN p xss.length 0)) := by
  refine ⟨fun w1 hx1 => ?_⟩
  replace h := h.ext hx1
  have hsm := h.small
  have hp1 : ∀ i, i < xss.length → Val Tryz.prog f (first ++ [.agg #[svD svs i]] ++ cap) w1 (.bool (p i)) := fun x hx => ⟨fun w3 hx3 => (hp x hx).go w3 (hx1.trans hx3)⟩
  have E : Since 0 0 w1 w1 := Since.refl 0 0 w1
  refine ret_enter Tryz.func201 rfl Tryz.ntmps201 rfl ?_
  focus
    have ht_h := h.top
    refine c_seq ?_
    refine c_region ?_
    refine w_pure (y_assign rfl) rfl ?_
    refine w_nil ?_
    refine x_next ?_
    refine c_seq ?_
    refine c_seq ?_
    refine c_region ?_
    refine w_pure (y_move rfl) rfl ?_
    refine w_pure (y_lend rfl) rfl ?_
    refine w_pure (y_move rfl) rfl ?_
    refine w_nil ?_
    refine x_next ?_
    refine c_block ?_
    rotate_left
  refine c_loopC 0 0 (ι := Int) (fun x => [(0, v), (1, .func (.func f) first.toArray cap.toArray), (7, .int .i64 xss.length), (8, .int .i64 x)]) (fun x w => SLL w lo hi svs v xss ∧ 0 ≤ x ∧ x ≤ xss.length ∧ idxN p xss.length x.toNat = idxN p xss.length 0) (fun x => (xss.length - x).toNat) 0
    (by repeat (first | exact trivial | refine ⟨rfl, ?_⟩)) ⟨h, by omega, by omega, rfl⟩ ?_
  rintro i wL hxL EL ⟨hL, hi0, hi1, hidx⟩
  have e1 : (i + 1).toNat = i.toNat + 1 := by omega
  focus
    have ht_hL := hL.top
    have hz_hxL := hxL.size
    replace h := h.ext hxL
    replace E := E.trans hxL
    refine c_seq ?_
    refine c_region ?_
    refine w_pure (y_lt rfl rfl) rfl ?_
    refine w_nil ?_
    refine x_next ?_
    refine c_seq ?_
    (refine c_dec rfl (fun hc9 => ?_) (fun hc9 => ?_) <;> try (first | exact absurd rfl hc9 | contradiction | exact Bool.noConfusion (show false = true from hc9.symm.trans (by assumption)) | exact Bool.noConfusion (show true = false from hc9.symm.trans (by assumption)) | (exfalso; omega) | (exfalso; simp only [*, Bool.not_true, Bool.not_false, reduceCtorEq] at hc9; done)))
    refine c_skip ?_
    refine x_next ?_
    refine c_seq ?_
    refine c_block ?_
    refine c_seq ?_
    refine c_region ?_
    refine w_pure (y_move rfl) rfl ?_
    refine w_pure (y_assign rfl) rfl ?_
    refine w_nil ?_
    refine x_next ?_
    refine c_seq ?_
    refine c_region ?_
    refine w_pure (y_move rfl) rfl ?_
    refine w_pure (y_move rfl) rfl ?_
    refine w_pure (y_move rfl) rfl ?_
    refine w_pure (y_indexd rfl rfl) rfl ?_
    refine w_pure (y_loads rfl) rfl ?_
    rotate_left
    refine c_exit ?_
    refine x_then_exit ?_
    refine x_then_exit ?_
    refine x_block_hit ?_
    refine x_next ?_
    refine c_seq ?_
    refine c_region ?_
    refine w_pure (y_assign rfl) rfl ?_
    refine w_nil ?_
    refine x_next ?_
    refine c_ret ?_
    rotate_left
  · refine w_val rfl rfl rfl ⟨fun w3 hx3 => (hp1 i.toNat (by omega)).go w3 (EL.go.trans hx3)⟩ rfl (fun w9a hx9a hz9a => ?_)
    focus
      have hz_hx9a := hx9a.size
      replace EL := EL.trans hx9a
      replace hL := hL.ext hx9a
      replace h := h.ext hx9a
      replace E := E.trans hx9a
      refine w_nil ?_
      refine x_next ?_
      (refine c_if rfl (fun hc16 => ?_) (fun hc16 => ?_) <;> try (first | exact absurd rfl hc16 | contradiction | exact Bool.noConfusion (show false = true from hc16.symm.trans (by assumption)) | exact Bool.noConfusion (show true = false from hc16.symm.trans (by assumption)) | (exfalso; omega) | (exfalso; simp only [*, Bool.not_true, Bool.not_false, reduceCtorEq] at hc16; done)))
      refine c_seq ?_
      refine c_region ?_
      refine w_pure (y_move rfl) rfl ?_
      refine w_pure (y_assign rfl) rfl ?_
      refine w_nil ?_
      refine x_next ?_
      refine c_ret ?_
      refine x_block_ret ?_
      refine x_then_ret ?_
      refine x_then_ret ?_
      refine x_block_ret ?_
      refine x_then_ret ?_
      rotate_left
      refine c_skip ?_
      refine x_block_norm ?_
      refine x_next ?_
      refine c_region ?_
      refine w_pure (y_add rfl rfl) rfl ?_
      refine w_pure (y_move rfl) rfl ?_
      refine w_nil ?_
      rotate_left
    · refine x_retv [_] rfl ⟨rfl, trivial⟩ ⟨?_, E.go⟩
      rw [← hidx, idxN_hit (by omega) hc16, Int.toNat_of_nonneg hi0]; rfl
    · exact x_again (i + 1) (by repeat (first | exact trivial | refine ⟨rfl, ?_⟩)) ⟨EL.go, by assumption, by omega, by omega, by rw [← hidx, idxN_on (by omega) hc16, e1]⟩ (by omega)
  · refine x_retv [_] rfl ⟨rfl, trivial⟩ ⟨?_, E.go⟩
    rw [← hidx, idxN_end (by omega)]; rfl
theorem ContainsFuncCard {f : FuncId} [Callable Tryz.prog f] {first cap : List Value} {p : Nat → Bool} (h : SLL w lo hi svs v xss := by repeat (first | assumption | exact Go.Gw.Own.sl (by assumption) | exact Go.Gw.Box.at (by assumption) | exact Go.Gw.SLL.el (by first | assumption | exact Go.Gw.OwnD.sll (by assumption)) _ (by omega) | exact Go.Gw.SLL.at (by first | assumption | exact Go.Gw.OwnD.sll (by assumption)) (by omega) | exact Go.Gw.OwnD.sll (by assumption) | (apply Go.Gw.SL.chg; case hx => assumption) | (apply Go.Gw.Own.chg; case hx => assumption) | (apply Go.Gw.Box.chg; case hx => assumption) | (apply Go.Gw.At.chg; case hx => assumption) | exact .inl (Nat.zero_le _) | exact .inr (Nat.zero_le _) | (show _ ∨ _; omega))) (hp : ∀ i, i < xss.length → Val Tryz.prog f (first ++ [.agg #[svD svs i]] ++ cap) w (.bool (p i))) :
    Val Tryz.prog 170 [v, .func (.func f) first.toArray cap.toArray] w (.bool (!decide (∀ j, j < xss.length → p j = false))) := by
  refine ⟨fun w1 hx1 => ?_⟩
  have h2 := IndexFuncCard (w := w) h hp
  have h3 : Val Tryz.prog 201 [v, .func (.func f) first.toArray cap.toArray] w1 (.int .i64 (idxN p xss.length 0)) := ⟨fun w3 hx3 => h2.go w3 (hx1.trans hx3)⟩
  have E : Since 0 0 w1 w1 := Since.refl 0 0 w1
  refine ret_enter Tryz.func170 rfl Tryz.ntmps170 rfl ?_
  focus
    have ht_h := h.top
    have hz_hx1 := hx1.size
    replace h := h.ext hx1
    refine c_seq ?_
    refine c_region ?_
    refine w_pure (y_assign rfl) rfl ?_
    refine w_nil ?_
    refine x_next ?_
    refine c_seq ?_
    refine c_region ?_
    refine w_pure (y_move rfl) rfl ?_
    refine w_pure (y_move rfl) rfl ?_
    refine w_val rfl rfl rfl (h3) rfl (fun w7 hx7 hz7 => ?_)
    have hz_hx7 := hx7.size
    replace E := E.trans hx7
    replace h := h.ext hx7
    refine w_pure (y_ge rfl rfl) rfl ?_
    refine w_pure (y_assign rfl) rfl ?_
    refine w_nil ?_
    refine x_next ?_
    refine c_ret ?_
    rotate_left
  exact x_retv [_] rfl ⟨rfl, trivial⟩ ⟨by rw [← idxN_any]; rfl, E.go⟩
theorem sizeCard_c (h : SLL w lo hi svs v xss := by repeat (first | assumption | exact Go.Gw.Own.sl (by assumption) | exact Go.Gw.Box.at (by assumption) | exact Go.Gw.SLL.el (by first | assumption | exact Go.Gw.OwnD.sll (by assumption)) _ (by omega) | exact Go.Gw.SLL.at (by first | assumption | exact Go.Gw.OwnD.sll (by assumption)) (by omega) | exact Go.Gw.OwnD.sll (by assumption) | (apply Go.Gw.SL.chg; case hx => assumption) | (apply Go.Gw.Own.chg; case hx => assumption) | (apply Go.Gw.Box.chg; case hx => assumption) | (apply Go.Gw.At.chg; case hx => assumption) | exact .inl (Nat.zero_le _) | exact .inr (Nat.zero_le _) | (show _ ∨ _; omega))) : Val Tryz.prog 65 [v] w (.int .i64 xss.length) := by
  refine ⟨fun w1 hx1 => ?_⟩
  replace h := h.ext hx1
  have E : Since 0 0 w1 w1 := Since.refl 0 0 w1
  refine ret_enter Tryz.func65 rfl Tryz.ntmps65 rfl ?_
  focus
    have ht_h := h.top
    refine c_seq ?_
    refine c_region ?_
    refine w_pure (y_assign rfl) rfl ?_
    refine w_nil ?_
    refine x_next ?_
    refine c_seq ?_
    refine c_region ?_
    refine w_pure (y_move rfl) rfl ?_
    refine w_pure (y_lend rfl) rfl ?_
    refine w_pure (y_assign rfl) rfl ?_
    refine w_nil ?_
    refine x_next ?_
    refine c_ret ?_
    rotate_left
  exact x_retv [_] rfl ⟨rfl, trivial⟩ ⟨rfl, E.go⟩
theorem haveField1_c (f t : Int) (hb : At w b 0 [.int .i64 f, .int .i64 t] := by repeat (first | assumption | exact Go.Gw.Own.sl (by assumption) | exact Go.Gw.Box.at (by assumption) | exact Go.Gw.SLL.el (by first | assumption | exact Go.Gw.OwnD.sll (by assumption)) _ (by omega) | exact Go.Gw.SLL.at (by first | assumption | exact Go.Gw.OwnD.sll (by assumption)) (by omega) | exact Go.Gw.OwnD.sll (by assumption) | (apply Go.Gw.SL.chg; case hx => assumption) | (apply Go.Gw.Own.chg; case hx => assumption) | (apply Go.Gw.Box.chg; case hx => assumption) | (apply Go.Gw.At.chg; case hx => assumption) | exact .inl (Nat.zero_le _) | exact .inr (Nat.zero_le _) | (show _ ∨ _; omega))) (h : SL w lo hi v xs := by repeat (first | assumption | exact Go.Gw.Own.sl (by assumption) | exact Go.Gw.Box.at (by assumption) | exact Go.Gw.SLL.el (by first | assumption | exact Go.Gw.OwnD.sll (by assumption)) _ (by omega) | exact Go.Gw.SLL.at (by first | assumption | exact Go.Gw.OwnD.sll (by assumption)) (by omega) | exact Go.Gw.OwnD.sll (by assumption) | (apply Go.Gw.SL.chg; case hx => assumption) | (apply Go.Gw.Own.chg; case hx => assumption) | (apply Go.Gw.Box.chg; case hx => assumption) | (apply Go.Gw.At.chg; case hx => assumption) | exact .inl (Nat.zero_le _) | exact .inr (Nat.zero_le _) | (show _ ∨ _; omega))) (hf : 0 ≤ f ∧ f < t ∧ t ≤ xs.length := by omega) : Val Tryz.prog 171 [.agg #[v], ptr b 0] w (.bool (!okT (prt xs f t))) := by
  refine ⟨fun w1 hx1 => ?_⟩
  replace h := h.ext hx1
  replace hb := hb.ext hx1
  have E : Since 0 0 w1 w1 := Since.refl 0 0 w1
  refine ret_enter Tryz.func171 rfl Tryz.ntmps171 rfl ?_
  focus
    have ht_h := h.top
    refine c_seq ?_
    refine c_region ?_
    refine w_box rfl (k := fun b2 w2 hb2 hx2 hl2 hs2 => ?_)
    have hz_hx2 := hx2.size
    replace h := h.ext hx2
    replace hb := hb.ext hx2
    replace E := E.trans hx2
    refine w_pure (y_assign rfl) rfl ?_
    refine w_nil ?_
    refine x_next ?_
    refine c_seq ?_
    refine c_region ?_
    refine w_pure (y_load_boxs rfl) rfl ?_
    refine w_pure (y_loads rfl) rfl ?_
    refine w_val rfl rfl rfl (hasField_c _ _) rfl (fun w6 hx6 hz6 => ?_)
    have hz_hx6 := hx6.size
    replace hb2 := hb2.ext hx6
    replace h := h.ext hx6
    replace hb := hb.ext hx6
    replace E := E.trans hx6
    refine w_pure (y_not rfl) rfl ?_
    refine w_pure (y_assign rfl) rfl ?_
    refine w_nil ?_
    refine x_next ?_
    refine c_ret ?_
    rotate_left
  exact x_retv [_] rfl ⟨rfl, trivial⟩ ⟨rfl, E.go⟩
theorem haveField_c (f t : Int) (h : SLL w lo hi svs v xss := by repeat (first | assumption | exact Go.Gw.Own.sl (by assumption) | exact Go.Gw.Box.at (by assumption) | exact Go.Gw.SLL.el (by first | assumption | exact Go.Gw.OwnD.sll (by assumption)) _ (by omega) | exact Go.Gw.SLL.at (by first | assumption | exact Go.Gw.OwnD.sll (by assumption)) (by omega) | exact Go.Gw.OwnD.sll (by assumption) | (apply Go.Gw.SL.chg; case hx => assumption) | (apply Go.Gw.Own.chg; case hx => assumption) | (apply Go.Gw.Box.chg; case hx => assumption) | (apply Go.Gw.At.chg; case hx => assumption) | exact .inl (Nat.zero_le _) | exact .inr (Nat.zero_le _) | (show _ ∨ _; omega))) (hf : ∀ i, i < xss.length → 0 ≤ f ∧ f < t ∧ t ≤ (xss.getD i []).length := by assumption) : Val Tryz.prog 129 [v, .agg #[.int .i64 f, .int .i64 t]] w (.bool (okF xss f t)) := by
  refine ⟨fun w1 hx1 => ?_⟩
  replace h := h.ext hx1
  have E : Since 0 0 w1 w1 := Since.refl 0 0 w1
  refine ret_enter Tryz.func129 rfl Tryz.ntmps129 rfl ?_
  focus
    have ht_h := h.top
    refine c_seq ?_
    refine c_region ?_
    refine w_box rfl (k := fun b3 w3 hb3 hx3 hl3 hs3 => ?_)
    have hz_hx3 := hx3.size
    replace h := h.ext hx3
    replace E := E.trans hx3
    refine w_pure (y_assign rfl) rfl ?_
    refine w_nil ?_
    refine x_next ?_
    refine c_seq ?_
    refine c_region ?_
    refine w_pure (y_move rfl) rfl ?_
    refine w_pure (y_func rfl) rfl ?_
    refine w_val rfl rfl rfl (ContainsFuncCard (first := []) (cap := [ptr b3 0]) (p := fun i => !okT (prt (xss.getD i []) f t)) (hp := fun i hi => haveField1_c f t (by repeat (first | assumption | exact Go.Gw.Own.sl (by assumption) | exact Go.Gw.Box.at (by assumption) | exact Go.Gw.SLL.el (by first | assumption | exact Go.Gw.OwnD.sll (by assumption)) _ (by omega) | exact Go.Gw.SLL.at (by first | assumption | exact Go.Gw.OwnD.sll (by assumption)) (by omega) | exact Go.Gw.OwnD.sll (by assumption) | (apply Go.Gw.SL.chg; case hx => assumption) | (apply Go.Gw.Own.chg; case hx => assumption) | (apply Go.Gw.Box.chg; case hx => assumption) | (apply Go.Gw.At.chg; case hx => assumption) | exact .inl (Nat.zero_le _) | exact .inr (Nat.zero_le _) | (show _ ∨ _; omega))) ((by assumption : SLL _ _ _ _ _ _).el i hi) (hf i hi))) rfl (fun w7 hx7 hz7 => ?_)
    have hz_hx7 := hx7.size
    replace hb3 := hb3.ext hx7
    replace h := h.ext hx7
    replace E := E.trans hx7
    refine w_pure (y_not rfl) rfl ?_
    refine w_pure (y_assign rfl) rfl ?_
    refine w_nil ?_
    refine x_next ?_
    refine c_ret ?_
    rotate_left
  exact x_retv [_] rfl ⟨rfl, trivial⟩ ⟨by rw [okF_def]; simp only [ofResults, Bool.not_not, Bool.not_eq_false'], E.go⟩
theorem sumsOf_c (hp : SL w l2 h2 v2 ps := by repeat (first | assumption | exact Go.Gw.Own.sl (by assumption) | exact Go.Gw.Box.at (by assumption) | exact Go.Gw.SLL.el (by first | assumption | exact Go.Gw.OwnD.sll (by assumption)) _ (by omega) | exact Go.Gw.SLL.at (by first | assumption | exact Go.Gw.OwnD.sll (by assumption)) (by omega) | exact Go.Gw.OwnD.sll (by assumption) | (apply Go.Gw.SL.chg; case hx => assumption) | (apply Go.Gw.Own.chg; case hx => assumption) | (apply Go.Gw.Box.chg; case hx => assumption) | (apply Go.Gw.At.chg; case hx => assumption) | exact .inl (Nat.zero_le _) | exact .inr (Nat.zero_le _) | (show _ ∨ _; omega))) (h : SLL w lo hi svs v xss := by repeat (first | assumption | exact Go.Gw.Own.sl (by assumption) | exact Go.Gw.Box.at (by assumption) | exact Go.Gw.SLL.el (by first | assumption | exact Go.Gw.OwnD.sll (by assumption)) _ (by omega) | exact Go.Gw.SLL.at (by first | assumption | exact Go.Gw.OwnD.sll (by assumption)) (by omega) | exact Go.Gw.OwnD.sll (by assumption) | (apply Go.Gw.SL.chg; case hx => assumption) | (apply Go.Gw.Own.chg; case hx => assumption) | (apply Go.Gw.Box.chg; case hx => assumption) | (apply Go.Gw.At.chg; case hx => assumption) | exact .inl (Nat.zero_le _) | exact .inr (Nat.zero_le _) | (show _ ∨ _; omega))) (hk : TabOK xss ps W := by assumption) : Ret Tryz.prog 128 [v2, v] w fun u w' => ∃ d, u = .tuple #[d, .bool (okN xss ps)] ∧ Own w' 2 w.heap.size d (if okN xss ps = true then sumL xss ps else []) ∧ Ext w w' := by
  have E : Since 0 0 w w := Since.refl 0 0 w
  have hlen := hk.len
  have hpl := hk.pl
  have hsl := sumL_len xss ps
  refine ret_enter Tryz.func128 rfl Tryz.ntmps128 rfl ?_
  focus
    have ht_hp := hp.top
    have ht_h := h.top
    refine c_seq ?_
    refine c_region ?_
    refine w_pure (y_assign rfl) rfl ?_
    refine w_pure (y_assign rfl) rfl ?_
    refine w_nil ?_
    refine x_next ?_
    refine c_seq ?_
    refine c_region ?_
    refine w_lit (α := Int) rfl rfl rfl rfl rfl rfl rfl rfl (fun v14 w14 ho14 hx14 hl14 hh14 hs14 => ?_)
    have hl_ho14 := ho14.lt
    have hz_hx14 := hx14.size
    replace hp := hp.ext hx14
    replace h := h.ext hx14
    replace E := E.trans hx14
    refine w_pure (y_assign rfl) rfl ?_
    refine w_nil ?_
    refine x_next ?_
    refine c_seq ?_
    refine c_seq ?_
    refine c_region ?_
    refine w_pure (y_move rfl) rfl ?_
    refine w_pure (y_len rfl) rfl ?_
    refine w_pure (y_move rfl) rfl ?_
    refine w_nil ?_
    refine x_next ?_
    refine c_block ?_
    rotate_left
  refine c_loopC (bL v14) (bH v14) (ι := Int × Value) (fun x => [(1, v), (6, x.2), (15, v2), (16, .int .i64 ps.length), (17, .int .i64 x.1)])
    (fun x w' => SL w' l2 h2 v2 ps ∧ SLL w' lo hi svs v xss ∧ Own w' 2 w.heap.size x.2 ((sumL xss ps).take x.1.toNat) ∧ ((bL x.2 = bL v14 ∧ bH x.2 = bH v14) ∨ w14.heap.size ≤ bL x.2) ∧ 0 ≤ x.1 ∧ x.1 ≤ ps.length ∧ (∀ k, k < x.1.toNat → ∀ i, i < xss.length → (nmF xss (ps.getD k (0, 0)) i).2 = true)) (fun x => (ps.length - x.1).toNat) (0, v14)
    (by repeat (first | exact trivial | refine ⟨rfl, ?_⟩)) ⟨by assumption, by assumption, by show Own _ _ _ v14 (List.take 0 _); rw [List.take_zero]; exact Own.base (by assumption) (by omega), .inl ⟨rfl, rfl⟩, by dsimp only; omega, by dsimp only; omega, fun k hk => by simp at hk⟩ ?_
  clear ho14
  rintro ⟨k, u⟩ wL hxL EL ⟨g1, g2, g3, g4, hk0, hk1, hall⟩
  dsimp only at *
  have htl : k ≤ ps.length → ((sumL xss ps).take k.toNat).length = k.toNat := fun _ => by rw [List.length_take]; omega
  by_cases hlt : k < ps.length
  case neg =>
    have hY := okN_yes (xss := xss) (ps := ps) (fun k' hk' i' hi' => hall k' (by omega) i' hi')
    focus
      have ht_g1 := g1.top
      have ht_g2 := g2.top
      have hl_g3 := g3.lt
      have hz_hxL := hxL.size
      replace hp := hp.chg hxL (by omega)
      replace h := h.chg hxL (by omega)
      replace E := E.next hxL (by omega)
      refine c_seq ?_
      refine c_region ?_
      refine w_pure (y_lt rfl rfl) rfl ?_
      refine w_nil ?_
      refine x_next ?_
      refine c_seq ?_
      (refine c_dec rfl (fun hc18 => ?_) (fun hc18 => ?_) <;> try (first | exact absurd rfl hc18 | contradiction | exact Bool.noConfusion (show false = true from hc18.symm.trans (by assumption)) | exact Bool.noConfusion (show true = false from hc18.symm.trans (by assumption)) | (exfalso; omega) | (exfalso; simp only [*, Bool.not_true, Bool.not_false, reduceCtorEq] at hc18; done)))
      refine c_exit ?_
      refine x_then_exit ?_
      refine x_then_exit ?_
      refine x_block_hit ?_
      refine x_next ?_
      refine c_seq ?_
      refine c_region ?_
      refine w_pure (y_move rfl) rfl ?_
      refine w_pure (y_assign rfl) rfl ?_
      refine w_pure (y_assign rfl) rfl ?_
      refine w_nil ?_
      refine x_next ?_
      refine c_ret ?_
      rotate_left
    refine x_retv [_, _] rfl ⟨rfl, rfl, trivial⟩ ⟨_, by rw [hY]; rfl, ?_, E.go⟩
    rw [hY, if_pos rfl]
    rw [List.take_of_length_le (by omega)] at g3
    exact g3
  have hfd := hk.fd k.toNat (by omega)
  have hwid := hk.wid
  have e1 : (k + 1).toNat = k.toNat + 1 := by omega
  focus
    have ht_g1 := g1.top
    have ht_g2 := g2.top
    have hl_g3 := g3.lt
    have hz_hxL := hxL.size
    replace hp := hp.chg hxL (by omega)
    replace h := h.chg hxL (by omega)
    replace E := E.next hxL (by omega)
    refine c_seq ?_
    refine c_region ?_
    refine w_pure (y_lt rfl rfl) rfl ?_
    refine w_nil ?_
    refine x_next ?_
    refine c_seq ?_
    (refine c_dec rfl (fun hc18 => ?_) (fun hc18 => ?_) <;> try (first | exact absurd rfl hc18 | contradiction | exact Bool.noConfusion (show false = true from hc18.symm.trans (by assumption)) | exact Bool.noConfusion (show true = false from hc18.symm.trans (by assumption)) | (exfalso; omega) | (exfalso; simp only [*, Bool.not_true, Bool.not_false, reduceCtorEq] at hc18; done)))
    refine c_skip ?_
    refine x_next ?_
    refine c_seq ?_
    refine c_block ?_
    refine c_seq ?_
    refine c_region ?_
    refine w_pure (y_index rfl rfl) rfl ?_
    refine w_pure (y_load_pair rfl) rfl ?_
    refine w_alloc (k := fun b8 w8 hb8 hx8 hl8 hs8 => ?_)
    have hz_hx8 := hx8.size
    replace EL := EL.next hx8 (by omega)
    replace g1 := g1.ext hx8
    replace g2 := g2.ext hx8
    replace g3 := g3.ext hx8
    replace hp := hp.ext hx8
    replace h := h.ext hx8
    replace E := E.trans hx8
    refine w_store_boxs rfl rfl (next := fun ws17 hbs17 hxs17 hss17 => ?_)
    (replace hb8 := hbs17; clear hbs17)
    have hz_hxs17 := hxs17.size
    replace EL := EL.next hxs17 (by omega)
    replace g1 := g1.chg hxs17 (by omega)
    replace g2 := g2.chg hxs17 (by omega)
    replace g3 := g3.chg hxs17 (by omega)
    replace hp := hp.chg hxs17 (by omega)
    replace h := h.chg hxs17 (by omega)
    replace E := E.next hxs17 (by omega)
    refine w_nil ?_
    refine x_next ?_
    refine c_seq ?_
    refine c_region ?_
    refine w_pure (y_assign rfl) rfl ?_
    refine w_nil ?_
    refine x_next ?_
    refine c_seq ?_
    refine c_seq ?_
    refine c_region ?_
    refine w_pure (y_move rfl) rfl ?_
    refine w_pure (y_lend rfl) rfl ?_
    refine w_pure (y_move rfl) rfl ?_
    refine w_nil ?_
    refine x_next ?_
    refine c_block ?_
    rotate_left
  refine c_loopC 0 0 (ι := Int × Int) (fun x => [(1, v), (6, u), (8, ptr b8 0), (9, .int .i64 x.2), (15, v2), (16, .int .i64 ps.length), (17, .int .i64 k), (21, v), (22, .int .i64 xss.length), (23, .int .i64 x.1)])
    (fun x w' => SL w' l2 h2 v2 ps ∧ SLL w' lo hi svs v xss ∧ Own w' 2 w.heap.size u ((sumL xss ps).take k.toNat) ∧ Box w' b8 [.int .i64 (ps.getD k.toNat (0, 0)).1, .int .i64 (ps.getD k.toNat (0, 0)).2] ∧ 0 ≤ x.1 ∧ x.1 ≤ xss.length ∧ x.2 = sumC xss (ps.getD k.toNat (0, 0)) x.1.toNat ∧ (∀ i, i < x.1.toNat → (nmF xss (ps.getD k.toNat (0, 0)) i).2 = true)) (fun x => (xss.length - x.1).toNat) (0, 0)
    (by repeat (first | exact trivial | refine ⟨rfl, ?_⟩)) ⟨by assumption, by assumption, by assumption, by assumption, by dsimp only; omega, by dsimp only; omega, rfl, fun i hi => by simp at hi⟩ ?_
  clear g1 g2 g3 hb8
  rintro ⟨i, s⟩ wM hxM EM ⟨g1, g2, g3, g5, hi0, hi1, hs, hal2⟩
  dsimp only at *
  have hs64 := hk.sum64 (k := k.toNat) (by omega) (i := i.toNat) (by omega)
  have e2 : (i + 1).toNat = i.toNat + 1 := by omega
  by_cases hli : i < xss.length
  · obtain ⟨hc1, hc2⟩ := hk.cd i.toNat (by omega)
    have hnm : -999999999999 ≤ (numL (prt (xss.getD i.toNat []) (ps.getD k.toNat (0, 0)).1 (ps.getD k.toNat (0, 0)).2)).1 ∧ (numL (prt (xss.getD i.toNat []) (ps.getD k.toNat (0, 0)).1 (ps.getD k.toNat (0, 0)).2)).1 ≤ 999999999999 := hk.nm (k := k.toNat) (by omega) (i := i.toNat) (by omega)
    focus
      have hz_hxM := hxM.size
      replace EL := EL.next hxM (by omega)
      replace hp := hp.ext hxM
      replace h := h.ext hxM
      replace E := E.trans hxM
      refine c_seq ?_
      refine c_region ?_
      refine w_pure (y_lt rfl rfl) rfl ?_
      refine w_nil ?_
      refine x_next ?_
      refine c_seq ?_
      (refine c_dec rfl (fun hc24 => ?_) (fun hc24 => ?_) <;> try (first | exact absurd rfl hc24 | contradiction | exact Bool.noConfusion (show false = true from hc24.symm.trans (by assumption)) | exact Bool.noConfusion (show true = false from hc24.symm.trans (by assumption)) | (exfalso; omega) | (exfalso; simp only [*, Bool.not_true, Bool.not_false, reduceCtorEq] at hc24; done)))
      refine c_skip ?_
      refine x_next ?_
      refine c_seq ?_
      refine c_block ?_
      refine c_seq ?_
      refine c_region ?_
      refine w_pure (y_indexd rfl rfl) rfl ?_
      refine w_pure (y_loads rfl) rfl ?_
      refine w_alloc (k := fun b11 w11 hb11 hx11 hl11 hs11 => ?_)
      have hz_hx11 := hx11.size
      replace EM := EM.trans hx11
      replace g1 := g1.ext hx11
      replace g2 := g2.ext hx11
      replace g3 := g3.ext hx11
      replace g5 := g5.ext hx11
      replace EL := EL.next hx11 (by omega)
      replace hp := hp.ext hx11
      replace h := h.ext hx11
      replace E := E.trans hx11
      refine w_store_boxs rfl rfl (next := fun ws17x4_17 hbs17x4_17 hxs17x4_17 hss17x4_17 => ?_)
      (replace hb11 := hbs17x4_17; clear hbs17x4_17)
      have hz_hxs17x4_17 := hxs17x4_17.size
      replace EM := EM.next hxs17x4_17 (by omega)
      replace g1 := g1.chg hxs17x4_17 (by omega)
      replace g2 := g2.chg hxs17x4_17 (by omega)
      replace g3 := g3.chg hxs17x4_17 (by omega)
      replace g5 := g5.chg hxs17x4_17 (by omega)
      replace EL := EL.next hxs17x4_17 (by omega)
      replace hp := hp.chg hxs17x4_17 (by omega)
      replace h := h.chg hxs17x4_17 (by omega)
      replace E := E.next hxs17x4_17 (by omega)
      refine w_nil ?_
      refine x_next ?_
      refine c_seq ?_
      refine c_region ?_
      refine w_pure (y_load_boxs rfl) rfl ?_
      refine w_pure (y_load_boxs rfl) rfl ?_
      refine w_val rfl rfl rfl (numberIn_c _ _) rfl (fun w30 hx30 hz30 => ?_)
      have hz_hx30 := hx30.size
      replace hb11 := hb11.ext hx30
      replace EM := EM.trans hx30
      replace g1 := g1.ext hx30
      replace g2 := g2.ext hx30
      replace g3 := g3.ext hx30
      replace g5 := g5.ext hx30
      replace EL := EL.next hx30 (by omega)
      replace hp := hp.ext hx30
      replace h := h.ext hx30
      replace E := E.trans hx30
      refine w_pure (y_move rfl) rfl ?_
      refine w_pure (y_extract rfl rfl) rfl ?_
      refine w_pure (y_extract rfl rfl) rfl ?_
      refine w_pure (y_assign rfl) rfl ?_
      refine w_pure (y_assign rfl) rfl ?_
      refine w_nil ?_
      refine x_next ?_
      refine c_seq ?_
      refine c_seq ?_
      refine c_region ?_
      refine w_pure (y_move rfl) rfl ?_
      refine w_pure (y_not rfl) rfl ?_
      refine w_nil ?_
      refine x_next ?_
      (refine c_not rfl (fun hc34 => ?_) (fun hc34 => ?_) <;> try (first | exact absurd rfl hc34 | contradiction | exact Bool.noConfusion (show false = true from hc34.symm.trans (by assumption)) | exact Bool.noConfusion (show true = false from hc34.symm.trans (by assumption)) | (exfalso; omega) | (exfalso; simp only [*, Bool.not_true, Bool.not_false, reduceCtorEq] at hc34; done)))
      refine c_seq ?_
      refine c_region ?_
      refine w_pure (y_assign rfl) rfl ?_
      refine w_pure (y_assign rfl) rfl ?_
      refine w_nil ?_
      refine x_next ?_
      refine c_ret ?_
      refine x_then_ret ?_
      refine x_block_ret ?_
      refine x_then_ret ?_
      refine x_then_ret ?_
      refine x_block_ret ?_
      refine x_then_ret ?_
      refine x_block_ret ?_
      refine x_then_ret ?_
      refine x_then_ret ?_
      refine x_block_ret ?_
      refine x_then_ret ?_
      rotate_left
      refine c_skip ?_
      refine x_next ?_
      refine c_region ?_
      refine w_pure (y_move rfl) rfl ?_
      refine w_pure (y_move rfl) rfl ?_
      refine w_pure (y_add rfl rfl) rfl ?_
      refine w_pure (y_assign rfl) rfl ?_
      refine w_nil ?_
      refine x_block_norm ?_
      refine x_next ?_
      refine c_region ?_
      refine w_pure (y_add rfl rfl) rfl ?_
      refine w_pure (y_move rfl) rfl ?_
      refine w_nil ?_
      rotate_left
    · have hN := okN_no (xss := xss) (ps := ps) (k := k.toNat) (i := i.toNat) (by omega) (by omega) hc34
      refine x_retv [_, _] rfl ⟨rfl, rfl, trivial⟩ ⟨_, by rw [hN]; rfl, ?_, E.go⟩
      rw [hN, if_neg (by decide)]; exact Own.nil _ _ _
    · refine x_again (i + 1, _) (by repeat (first | exact trivial | refine ⟨rfl, ?_⟩)) ⟨EM.go, by assumption, by assumption, by assumption, by assumption, by dsimp only; omega, by dsimp only; omega, by dsimp only; rw [e2, sumC, hs]; rfl, fun j hj => ?_⟩ (by dsimp only; omega)
      dsimp only at hj
      by_cases ej : j = i.toNat
      · subst ej; exact hc34
      · exact hal2 j (by omega)
  · focus
      have hz_hxM := hxM.size
      replace EL := EL.next hxM (by omega)
      replace hp := hp.ext hxM
      replace h := h.ext hxM
      replace E := E.trans hxM
      refine c_seq ?_
      refine c_region ?_
      refine w_pure (y_lt rfl rfl) rfl ?_
      refine w_nil ?_
      refine x_next ?_
      refine c_seq ?_
      (refine c_dec rfl (fun hc24 => ?_) (fun hc24 => ?_) <;> try (first | exact absurd rfl hc24 | contradiction | exact Bool.noConfusion (show false = true from hc24.symm.trans (by assumption)) | exact Bool.noConfusion (show true = false from hc24.symm.trans (by assumption)) | (exfalso; omega) | (exfalso; simp only [*, Bool.not_true, Bool.not_false, reduceCtorEq] at hc24; done)))
      refine c_exit ?_
      refine x_then_exit ?_
      refine x_then_exit ?_
      refine x_block_hit ?_
      refine x_next ?_
      refine c_region ?_
      refine w_pure (y_move rfl) rfl ?_
      refine w_pure (y_move rfl) rfl ?_
      refine w_lit (α := Int) rfl rfl rfl rfl rfl rfl rfl rfl (fun v41 w41 ho41 hx41 hl41 hh41 hs41 => ?_)
      have hl_ho41 := ho41.lt
      have hz_hx41 := hx41.size
      replace EM := EM.trans hx41
      replace g1 := g1.ext hx41
      replace g2 := g2.ext hx41
      replace g3 := g3.ext hx41
      replace g5 := g5.ext hx41
      replace EL := EL.next hx41 (by omega)
      replace hp := hp.ext hx41
      replace h := h.ext hx41
      replace E := E.trans hx41
      refine w_append rfl rfl (k := fun v42 w42 ho42 hx42 hr42 => ?_)
      have hl_ho42 := ho42.lt
      have hz_hx42 := hx42.size
      replace ho41 := ho41.chg hx42 (by omega)
      replace g1 := g1.chg hx42 (by omega)
      replace g2 := g2.chg hx42 (by omega)
      replace g5 := g5.chg hx42 (by omega)
      replace EL := EL.next hx42 (by omega)
      replace hp := hp.chg hx42 (by omega)
      replace h := h.chg hx42 (by omega)
      replace E := E.next hx42 (by omega)
      refine w_pure (y_assign rfl) rfl ?_
      refine w_nil ?_
      refine x_block_norm ?_
      refine x_next ?_
      refine c_region ?_
      refine w_pure (y_add rfl rfl) rfl ?_
      refine w_pure (y_move rfl) rfl ?_
      refine w_nil ?_
      rotate_left
    have ei : i.toNat = xss.length := by omega
    rw [ei] at hs hal2
    refine x_again (k + 1, v42) (by repeat (first | exact trivial | refine ⟨rfl, ?_⟩)) ⟨EL.go, by assumption, by assumption, ?_, by dsimp only; omega, by dsimp only; omega, by dsimp only; omega, fun j hj => ?_⟩ (by dsimp only; omega)
    · dsimp only
      rw [e1, List.take_add_one, sumL_get (by omega), ← hs]
      exact Own.base (by assumption) (by omega)
    · dsimp only at hj
      by_cases ej : j = k.toNat
      · subst ej; exact hal2
      · exact hall j (by omega)
theorem groupsOf_c (f t : Int) (h : SLL w lo hi svs v xss := by repeat (first | assumption | exact Go.Gw.Own.sl (by assumption) | exact Go.Gw.Box.at (by assumption) | exact Go.Gw.SLL.el (by first | assumption | exact Go.Gw.OwnD.sll (by assumption)) _ (by omega) | exact Go.Gw.SLL.at (by first | assumption | exact Go.Gw.OwnD.sll (by assumption)) (by omega) | exact Go.Gw.OwnD.sll (by assumption) | (apply Go.Gw.SL.chg; case hx => assumption) | (apply Go.Gw.Own.chg; case hx => assumption) | (apply Go.Gw.Box.chg; case hx => assumption) | (apply Go.Gw.At.chg; case hx => assumption) | exact .inl (Nat.zero_le _) | exact .inr (Nat.zero_le _) | (show _ ∨ _; omega))) (hl : xss.length ≤ 40 := by omega) (hf : ∀ i, i < xss.length → 0 ≤ f ∧ f < t ∧ t ≤ (xss.getD i []).length := by assumption) (hk : okF xss f t = true := by assumption) : Ret Tryz.prog 67 [v, .agg #[.int .i64 f, .int .i64 t]] w fun u w' => Own w' 2 w.heap.size u (hdL xss f t) ∧ Ext w w' := by
  have E : Since 0 0 w w := Since.refl 0 0 w
  refine ret_enter Tryz.func67 rfl Tryz.ntmps67 rfl ?_
  focus
    have ht_h := h.top
    refine c_seq ?_
    refine c_region ?_
    refine w_box rfl (k := fun b3 w3 hb3 hx3 hl3 hs3 => ?_)
    have hz_hx3 := hx3.size
    replace h := h.ext hx3
    replace E := E.trans hx3
    refine w_pure (y_assign rfl) rfl ?_
    refine w_nil ?_
    refine x_next ?_
    refine c_seq ?_
    refine c_region ?_
    refine w_lit (α := Int) rfl rfl rfl rfl rfl rfl rfl rfl (fun v8 w8 ho8 hx8 hl8 hh8 hs8 => ?_)
    have hl_ho8 := ho8.lt
    have hz_hx8 := hx8.size
    replace hb3 := hb3.ext hx8
    replace h := h.ext hx8
    replace E := E.trans hx8
    refine w_pure (y_assign rfl) rfl ?_
    refine w_nil ?_
    refine x_next ?_
    refine c_seq ?_
    refine c_seq ?_
    refine c_region ?_
    refine w_pure (y_move rfl) rfl ?_
    refine w_pure (y_lend rfl) rfl ?_
    refine w_pure (y_move rfl) rfl ?_
    refine w_nil ?_
    refine x_next ?_
    refine c_block ?_
    rotate_left
  refine c_loopC (bL v8) (bH v8) (ι := Int × Value) (fun x => [(0, v), (3, ptr b3 0), (5, x.2), (9, v), (10, .int .i64 xss.length), (11, .int .i64 x.1)])
    (fun x w' => SLL w' lo hi svs v xss ∧ Box w' b3 [.int .i64 f, .int .i64 t] ∧ Own w' 2 w.heap.size x.2 (hdG (isHd xss f t) x.1.toNat) ∧ ((bL x.2 = bL v8 ∧ bH x.2 = bH v8) ∨ w8.heap.size ≤ bL x.2) ∧ 0 ≤ x.1 ∧ x.1 ≤ xss.length) (fun x => (xss.length - x.1).toNat) (0, v8)
    (by repeat (first | exact trivial | refine ⟨rfl, ?_⟩)) ⟨by assumption, by assumption, Own.base (by assumption) (by omega), .inl ⟨rfl, rfl⟩, by dsimp only; omega, by dsimp only; omega⟩ ?_
  clear ho8 hb3
  rintro ⟨i, u⟩ wL hxL EL ⟨g1, g2, g3, g4, hi0, hi1⟩
  dsimp only at *
  have hgl := hdG_len (isHd xss f t) i.toNat
  have e1 : (i + 1).toNat = i.toNat + 1 := by omega
  by_cases hli : i < xss.length
  case neg =>
    focus
      have ht_g1 := g1.top
      have hl_g3 := g3.lt
      have hz_hxL := hxL.size
      replace h := h.chg hxL (by omega)
      replace E := E.next hxL (by omega)
      refine c_seq ?_
      refine c_region ?_
      refine w_pure (y_lt rfl rfl) rfl ?_
      refine w_nil ?_
      refine x_next ?_
      refine c_seq ?_
      (refine c_dec rfl (fun hc12 => ?_) (fun hc12 => ?_) <;> try (first | exact absurd rfl hc12 | contradiction | exact Bool.noConfusion (show false = true from hc12.symm.trans (by assumption)) | exact Bool.noConfusion (show true = false from hc12.symm.trans (by assumption)) | (exfalso; omega) | (exfalso; simp only [*, Bool.not_true, Bool.not_false, reduceCtorEq] at hc12; done)))
      refine c_exit ?_
      refine x_then_exit ?_
      refine x_then_exit ?_
      refine x_block_hit ?_
      refine x_next ?_
      refine c_seq ?_
      refine c_region ?_
      refine w_pure (y_move rfl) rfl ?_
      refine w_pure (y_assign rfl) rfl ?_
      refine w_nil ?_
      refine x_next ?_
      refine c_ret ?_
      rotate_left
    refine x_retv [_] rfl ⟨rfl, trivial⟩ ⟨?_, E.go⟩
    rw [show i.toNat = xss.length by omega] at g3
    exact g3
  have hf1 := hf i.toNat (by omega)
  have hf2 := hf (i - 1).toNat (by omega)
  have hp := isHd_iff (xss := xss) (f := f) (t := t) (i := i) hi0 hf1 hf2 (okF_at hk (i := (i - 1).toNat) (by omega))
  focus
    have ht_g1 := g1.top
    have hl_g3 := g3.lt
    have hz_hxL := hxL.size
    replace h := h.chg hxL (by omega)
    replace E := E.next hxL (by omega)
    refine c_seq ?_
    refine c_region ?_
    refine w_pure (y_lt rfl rfl) rfl ?_
    refine w_nil ?_
    refine x_next ?_
    refine c_seq ?_
    (refine c_dec rfl (fun hc12 => ?_) (fun hc12 => ?_) <;> try (first | exact absurd rfl hc12 | contradiction | exact Bool.noConfusion (show false = true from hc12.symm.trans (by assumption)) | exact Bool.noConfusion (show true = false from hc12.symm.trans (by assumption)) | (exfalso; omega) | (exfalso; simp only [*, Bool.not_true, Bool.not_false, reduceCtorEq] at hc12; done)))
    refine c_skip ?_
    refine x_next ?_
    refine c_seq ?_
    refine c_block ?_
    refine c_seq ?_
    refine c_region ?_
    refine w_pure (y_move rfl) rfl ?_
    refine w_pure (y_indexd rfl rfl) rfl ?_
    refine w_pure (y_loads rfl) rfl ?_
    refine w_alloc (k := fun b7 w7 hb7 hx7 hl7 hs7 => ?_)
    have hz_hx7 := hx7.size
    replace EL := EL.next hx7 (by omega)
    replace g1 := g1.ext hx7
    replace g2 := g2.ext hx7
    replace g3 := g3.ext hx7
    replace h := h.ext hx7
    replace E := E.trans hx7
    refine w_pure (y_assign rfl) rfl ?_
    refine w_store_boxs rfl rfl (next := fun ws19 hbs19 hxs19 hss19 => ?_)
    (replace hb7 := hbs19; clear hbs19)
    have hz_hxs19 := hxs19.size
    replace EL := EL.next hxs19 (by omega)
    replace g1 := g1.chg hxs19 (by omega)
    replace g2 := g2.chg hxs19 (by omega)
    replace g3 := g3.chg hxs19 (by omega)
    replace h := h.chg hxs19 (by omega)
    replace E := E.next hxs19 (by omega)
    refine w_nil ?_
    refine x_next ?_
    refine c_seq ?_
    refine c_region_held mixed (fun wr5 hxr5 hzr5 => ?_)
    have hz_hxr5 := hxr5.size
    replace hb7 := hb7.ext hxr5
    replace EL := EL.next hxr5 (by omega)
    replace g1 := g1.ext hxr5
    replace g2 := g2.ext hxr5
    replace g3 := g3.ext hxr5
    replace h := h.ext hxr5
    replace E := E.trans hxr5
    refine h_pure rfl (y_move rfl) rfl ?_
    refine h_pure rfl (y_eq rfl rfl) rfl ?_
    refine h_pure rfl (y_move rfl) rfl ?_
    (refine h_part_dec rfl rfl (fun hc19 => ?_) (fun hc19 => ?_) <;> try (first | exact absurd rfl hc19 | contradiction | exact Bool.noConfusion (show false = true from hc19.symm.trans (by assumption)) | exact Bool.noConfusion (show true = false from hc19.symm.trans (by assumption)) | (exfalso; omega) | (exfalso; simp only [*, Bool.not_true, Bool.not_false, reduceCtorEq] at hc19; done)))
    refine h_no rfl rfl rfl rfl rfl ?_
    refine h_no rfl rfl rfl rfl rfl ?_
    refine h_no rfl rfl rfl rfl rfl ?_
    refine h_no rfl rfl rfl rfl rfl ?_
    refine h_no rfl rfl rfl rfl rfl ?_
    refine h_no rfl rfl rfl rfl rfl ?_
    refine h_no rfl rfl rfl rfl rfl ?_
    refine h_no rfl rfl rfl rfl rfl ?_
    refine h_no rfl rfl rfl rfl rfl ?_
    refine h_pure rfl (y_pick_t rfl rfl) rfl ?_
    refine h_nil ?_
    refine x_next ?_
    refine c_true rfl ?_
    refine c_region ?_
    refine w_pure (y_move rfl) rfl ?_
    refine w_pure (y_move rfl) rfl ?_
    refine w_lit (α := Int) rfl rfl rfl rfl rfl rfl rfl rfl (fun v31 w31 ho31 hx31 hl31 hh31 hs31 => ?_)
    have hl_ho31 := ho31.lt
    have hz_hx31 := hx31.size
    replace hb7 := hb7.ext hx31
    replace EL := EL.next hx31 (by omega)
    replace g1 := g1.ext hx31
    replace g2 := g2.ext hx31
    replace g3 := g3.ext hx31
    replace h := h.ext hx31
    replace E := E.trans hx31
    refine w_append rfl rfl (k := fun v32 w32 ho32 hx32 hr32 => ?_)
    have hl_ho32 := ho32.lt
    have hz_hx32 := hx32.size
    replace ho31 := ho31.chg hx32 (by omega)
    replace hb7 := hb7.chg hx32 (by omega)
    replace EL := EL.next hx32 (by omega)
    replace g1 := g1.chg hx32 (by omega)
    replace g2 := g2.chg hx32 (by omega)
    replace h := h.chg hx32 (by omega)
    replace E := E.next hx32 (by omega)
    refine w_pure (y_assign rfl) rfl ?_
    refine w_nil ?_
    refine x_block_norm ?_
    refine x_next ?_
    refine c_region ?_
    refine w_pure (y_add rfl rfl) rfl ?_
    refine w_pure (y_move rfl) rfl ?_
    refine w_nil ?_
    rotate_left
    refine h_yes rfl rfl rfl (y_move rfl) rfl ?_
    refine h_yes rfl rfl rfl (y_move rfl) rfl ?_
    refine h_yes rfl rfl rfl (y_sub rfl rfl) rfl ?_
    refine h_yes rfl rfl rfl (y_indexd rfl rfl) rfl ?_
    refine h_yes rfl rfl rfl (y_loads rfl) rfl ?_
    refine h_yes rfl rfl rfl (y_load_boxs rfl) rfl ?_
    refine h_yes rfl rfl rfl (y_load_boxs rfl) rfl ?_
    (refine h_part rfl rfl (fun hc26 => ?_) (fun hc26 => ?_) <;> try (first | exact absurd rfl hc26 | contradiction | exact Bool.noConfusion (show false = true from hc26.symm.trans (by assumption)) | exact Bool.noConfusion (show true = false from hc26.symm.trans (by assumption)) | (exfalso; omega) | (exfalso; simp only [*, Bool.not_true, Bool.not_false, reduceCtorEq] at hc26; done)))
    refine h_one rfl ?_
    refine w_yes rfl rfl ?_
    refine w_val rfl rfl rfl (compareFields_c _ _) rfl (fun w26 hx26 hz26 => ?_)
    have hz_hx26 := hx26.size
    replace hb7 := hb7.ext hx26
    replace EL := EL.next hx26 (by omega)
    replace g1 := g1.ext hx26
    replace g2 := g2.ext hx26
    replace g3 := g3.ext hx26
    replace h := h.ext hx26
    replace E := E.trans hx26
    refine w_nil ?_
    refine x_held ?_
    refine h_yes rfl rfl rfl (y_ne rfl rfl) rfl ?_
    refine h_pure rfl (y_pick_f rfl rfl) rfl ?_
    refine h_nil ?_
    refine x_next ?_
    (refine c_dec rfl (fun hc28 => ?_) (fun hc28 => ?_) <;> try (first | exact absurd rfl hc28 | contradiction | exact Bool.noConfusion (show false = true from hc28.symm.trans (by assumption)) | exact Bool.noConfusion (show true = false from hc28.symm.trans (by assumption)) | (exfalso; omega) | (exfalso; simp only [*, Bool.not_true, Bool.not_false, reduceCtorEq] at hc28; done)))
    refine c_region ?_
    refine w_pure (y_move rfl) rfl ?_
    refine w_pure (y_move rfl) rfl ?_
    refine w_lit (α := Int) rfl rfl rfl rfl rfl rfl rfl rfl (fun v31 w31 ho31 hx31 hl31 hh31 hs31 => ?_)
    have hl_ho31 := ho31.lt
    have hz_hx31 := hx31.size
    replace hb7 := hb7.ext hx31
    replace EL := EL.next hx31 (by omega)
    replace g1 := g1.ext hx31
    replace g2 := g2.ext hx31
    replace g3 := g3.ext hx31
    replace h := h.ext hx31
    replace E := E.trans hx31
    refine w_append rfl rfl (k := fun v32 w32 ho32 hx32 hr32 => ?_)
    have hl_ho32 := ho32.lt
    have hz_hx32 := hx32.size
    replace ho31 := ho31.chg hx32 (by omega)
    replace hb7 := hb7.chg hx32 (by omega)
    replace EL := EL.next hx32 (by omega)
    replace g1 := g1.chg hx32 (by omega)
    replace g2 := g2.chg hx32 (by omega)
    replace h := h.chg hx32 (by omega)
    replace E := E.next hx32 (by omega)
    refine w_pure (y_assign rfl) rfl ?_
    refine w_nil ?_
    refine x_block_norm ?_
    refine x_next ?_
    refine c_region ?_
    refine w_pure (y_add rfl rfl) rfl ?_
    refine w_pure (y_move rfl) rfl ?_
    refine w_nil ?_
    rotate_left
    refine c_skip ?_
    refine x_block_norm ?_
    refine x_next ?_
    refine c_region ?_
    refine w_pure (y_add rfl rfl) rfl ?_
    refine w_pure (y_move rfl) rfl ?_
    refine w_nil ?_
    rotate_left
  · refine x_again (i + 1, v32) (by repeat (first | exact trivial | refine ⟨rfl, ?_⟩)) ⟨EL.go, by assumption, by assumption, ?_, by dsimp only; omega, by dsimp only; omega, by dsimp only; omega⟩ (by dsimp only; omega)
    dsimp only
    rw [e1, hdG_put (hp.trans (decide_eq_true (.inl hc19))), Int.toNat_of_nonneg hi0]
    exact Own.base (by assumption) (by omega)
  · refine x_again (i + 1, v32) (by repeat (first | exact trivial | refine ⟨rfl, ?_⟩)) ⟨EL.go, by assumption, by assumption, ?_, by dsimp only; omega, by dsimp only; omega, by dsimp only; omega⟩ (by dsimp only; omega)
    dsimp only
    rw [e1, hdG_put (hp.trans (decide_eq_true (.inr hc28))), Int.toNat_of_nonneg hi0]
    exact Own.base (by assumption) (by omega)
  · refine x_again (i + 1, u) (by repeat (first | exact trivial | refine ⟨rfl, ?_⟩)) ⟨EL.go, by assumption, by assumption, ?_, by dsimp only; omega, by dsimp only; omega, by dsimp only; omega⟩ (by dsimp only; omega)
    dsimp only
    rw [e1, hdG_pass (hp.trans (decide_eq_false (fun h1 => h1.elim hc19 hc28)))]
    exact Own.base (by assumption) (by omega)
theorem l09Groups_c {ks : List (List UInt8)} (h : SL w lo hi v ks := by repeat (first | assumption | exact Go.Gw.Own.sl (by assumption) | exact Go.Gw.Box.at (by assumption) | exact Go.Gw.SLL.el (by first | assumption | exact Go.Gw.OwnD.sll (by assumption)) _ (by omega) | exact Go.Gw.SLL.at (by first | assumption | exact Go.Gw.OwnD.sll (by assumption)) (by omega) | exact Go.Gw.OwnD.sll (by assumption) | (apply Go.Gw.SL.chg; case hx => assumption) | (apply Go.Gw.Own.chg; case hx => assumption) | (apply Go.Gw.Box.chg; case hx => assumption) | (apply Go.Gw.At.chg; case hx => assumption) | exact .inl (Nat.zero_le _) | exact .inr (Nat.zero_le _) | (show _ ∨ _; omega))) (hl : ks.length ≤ 40 := by omega) : Ret Tryz.prog 136 [v] w fun u w' => Own w' 2 w.heap.size u (hdG (isHk ks) ks.length) ∧ Ext w w' := by
  have E : Since 0 0 w w := Since.refl 0 0 w
  refine ret_enter Tryz.func136 rfl Tryz.ntmps136 rfl ?_
  focus
    have ht_h := h.top
    refine c_seq ?_
    refine c_region ?_
    refine w_pure (y_assign rfl) rfl ?_
    refine w_nil ?_
    refine x_next ?_
    refine c_seq ?_
    refine c_region ?_
    refine w_lit (α := Int) rfl rfl rfl rfl rfl rfl rfl rfl (fun v5 w5 ho5 hx5 hl5 hh5 hs5 => ?_)
    have hl_ho5 := ho5.lt
    have hz_hx5 := hx5.size
    replace h := h.ext hx5
    replace E := E.trans hx5
    refine w_pure (y_assign rfl) rfl ?_
    refine w_nil ?_
    refine x_next ?_
    refine c_seq ?_
    refine c_seq ?_
    refine c_region ?_
    refine w_pure (y_assign rfl) rfl ?_
    refine w_nil ?_
    refine x_next ?_
    refine c_block ?_
    rotate_left
  refine c_loopC (bL v5) (bH v5) (ι := Int × Value) (fun x => [(0, v), (3, x.2), (4, .int .i64 x.1)])
    (fun x w' => SL w' lo hi v ks ∧ Own w' 2 w.heap.size x.2 (hdG (isHk ks) x.1.toNat) ∧ ((bL x.2 = bL v5 ∧ bH x.2 = bH v5) ∨ w5.heap.size ≤ bL x.2) ∧ 0 ≤ x.1 ∧ x.1 ≤ ks.length) (fun x => (ks.length - x.1).toNat) (0, v5)
    (by repeat (first | exact trivial | refine ⟨rfl, ?_⟩)) ⟨by assumption, Own.base (by assumption) (by omega), .inl ⟨rfl, rfl⟩, by dsimp only; omega, by dsimp only; omega⟩ ?_
  clear ho5
  rintro ⟨i, u⟩ wL hxL EL ⟨g1, g3, g4, hi0, hi1⟩
  dsimp only at *
  have hgl := hdG_len (isHk ks) i.toNat
  have e1 : (i + 1).toNat = i.toNat + 1 := by omega
  by_cases hli : i < ks.length
  case neg =>
    focus
      have ht_g1 := g1.top
      have hl_g3 := g3.lt
      have hz_hxL := hxL.size
      replace h := h.chg hxL (by omega)
      replace E := E.next hxL (by omega)
      refine c_seq ?_
      refine c_seq ?_
      refine c_region ?_
      refine w_pure (y_move rfl) rfl ?_
      refine w_pure (y_move rfl) rfl ?_
      refine w_pure (y_len rfl) rfl ?_
      refine w_pure (y_lt rfl rfl) rfl ?_
      refine w_nil ?_
      refine x_next ?_
      (refine c_dec rfl (fun hc9 => ?_) (fun hc9 => ?_) <;> try (first | exact absurd rfl hc9 | contradiction | exact Bool.noConfusion (show false = true from hc9.symm.trans (by assumption)) | exact Bool.noConfusion (show true = false from hc9.symm.trans (by assumption)) | (exfalso; omega) | (exfalso; simp only [*, Bool.not_true, Bool.not_false, reduceCtorEq] at hc9; done)))
      refine c_exit ?_
      refine x_then_exit ?_
      refine x_then_exit ?_
      refine x_block_hit ?_
      refine x_next ?_
      refine c_seq ?_
      refine c_region ?_
      refine w_pure (y_move rfl) rfl ?_
      refine w_pure (y_assign rfl) rfl ?_
      refine w_nil ?_
      refine x_next ?_
      refine c_ret ?_
      rotate_left
    refine x_retv [_] rfl ⟨rfl, trivial⟩ ⟨?_, E.go⟩
    rw [show i.toNat = ks.length by omega] at g3
    exact g3
  have hp := isHk_iff (ks := ks) (i := i) hi0
  focus
    have ht_g1 := g1.top
    have hl_g3 := g3.lt
    have hz_hxL := hxL.size
    replace h := h.chg hxL (by omega)
    replace E := E.next hxL (by omega)
    refine c_seq ?_
    refine c_seq ?_
    refine c_region ?_
    refine w_pure (y_move rfl) rfl ?_
    refine w_pure (y_move rfl) rfl ?_
    refine w_pure (y_len rfl) rfl ?_
    refine w_pure (y_lt rfl rfl) rfl ?_
    refine w_nil ?_
    refine x_next ?_
    (refine c_dec rfl (fun hc9 => ?_) (fun hc9 => ?_) <;> try (first | exact absurd rfl hc9 | contradiction | exact Bool.noConfusion (show false = true from hc9.symm.trans (by assumption)) | exact Bool.noConfusion (show true = false from hc9.symm.trans (by assumption)) | (exfalso; omega) | (exfalso; simp only [*, Bool.not_true, Bool.not_false, reduceCtorEq] at hc9; done)))
    refine c_skip ?_
    refine x_next ?_
    refine c_seq ?_
    refine c_block ?_
    refine c_seq ?_
    refine c_region_calm mixed (by decide +kernel) (by kernel_rfl) ?_
    refine q_pure (y_move rfl) rfl ?_
    refine q_pure (y_eq rfl rfl) rfl ?_
    refine q_pure (y_move rfl) rfl ?_
    (refine q_part_dec rfl rfl (fun hc15 => ?_) (fun hc15 => ?_) <;> try (first | exact absurd rfl hc15 | contradiction | exact Bool.noConfusion (show false = true from hc15.symm.trans (by assumption)) | exact Bool.noConfusion (show true = false from hc15.symm.trans (by assumption)) | (exfalso; omega) | (exfalso; simp only [*, Bool.not_true, Bool.not_false, reduceCtorEq] at hc15; done)))
    refine q_no rfl rfl rfl rfl ?_
    refine q_no rfl rfl rfl rfl ?_
    refine q_no rfl rfl rfl rfl ?_
    refine q_no rfl rfl rfl rfl ?_
    refine q_no rfl rfl rfl rfl ?_
    refine q_no rfl rfl rfl rfl ?_
    refine q_no rfl rfl rfl rfl ?_
    refine q_no rfl rfl rfl rfl ?_
    refine q_no rfl rfl rfl rfl ?_
    refine q_no rfl rfl rfl rfl ?_
    refine q_pure (y_pick_t rfl rfl) rfl ?_
    refine q_nil (fun ws32 hxs32 hzs32 => ?_)
    have hz_hxs32 := hxs32.size
    replace EL := EL.next hxs32 (by omega)
    replace g1 := g1.ext hxs32
    replace g3 := g3.ext hxs32
    replace h := h.ext hxs32
    replace E := E.trans hxs32
    refine x_next ?_
    refine c_true rfl ?_
    refine c_region ?_
    refine w_pure (y_move rfl) rfl ?_
    refine w_pure (y_move rfl) rfl ?_
    refine w_lit (α := Int) rfl rfl rfl rfl rfl rfl rfl rfl (fun v28 w28 ho28 hx28 hl28 hh28 hs28 => ?_)
    have hl_ho28 := ho28.lt
    have hz_hx28 := hx28.size
    replace EL := EL.next hx28 (by omega)
    replace g1 := g1.ext hx28
    replace g3 := g3.ext hx28
    replace h := h.ext hx28
    replace E := E.trans hx28
    refine w_append rfl rfl (k := fun v29 w29 ho29 hx29 hr29 => ?_)
    have hl_ho29 := ho29.lt
    have hz_hx29 := hx29.size
    replace ho28 := ho28.chg hx29 (by omega)
    replace EL := EL.next hx29 (by omega)
    replace g1 := g1.chg hx29 (by omega)
    replace h := h.chg hx29 (by omega)
    replace E := E.next hx29 (by omega)
    refine w_pure (y_assign rfl) rfl ?_
    refine w_nil ?_
    refine x_block_norm ?_
    refine x_next ?_
    refine c_region ?_
    refine w_pure (y_move rfl) rfl ?_
    refine w_pure (y_add rfl rfl) rfl ?_
    refine w_pure (y_assign rfl) rfl ?_
    refine w_nil ?_
    rotate_left
    refine q_yes rfl rfl ?_
    refine q_pure (y_move rfl) rfl ?_
    refine q_yes rfl rfl ?_
    refine q_pure (y_move rfl) rfl ?_
    refine q_yes rfl rfl ?_
    refine q_pure (y_index rfl rfl) rfl ?_
    refine q_yes rfl rfl ?_
    refine q_pure (y_load_str rfl) rfl ?_
    refine q_yes rfl rfl ?_
    refine q_pure (y_move rfl) rfl ?_
    refine q_yes rfl rfl ?_
    refine q_pure (y_move rfl) rfl ?_
    refine q_yes rfl rfl ?_
    refine q_pure (y_sub rfl rfl) rfl ?_
    refine q_yes rfl rfl ?_
    refine q_pure (y_index rfl rfl) rfl ?_
    refine q_yes rfl rfl ?_
    refine q_pure (y_load_str rfl) rfl ?_
    refine q_yes rfl rfl ?_
    refine q_pure (y_sne rfl rfl) rfl ?_
    refine q_pure (y_pick_f rfl rfl) rfl ?_
    refine q_nil (fun ws71 hxs71 hzs71 => ?_)
    have hz_hxs71 := hxs71.size
    replace EL := EL.next hxs71 (by omega)
    replace g1 := g1.ext hxs71
    replace g3 := g3.ext hxs71
    replace h := h.ext hxs71
    replace E := E.trans hxs71
    refine x_next ?_
    (refine c_dec rfl (fun hc25 => ?_) (fun hc25 => ?_) <;> try (first | exact absurd rfl hc25 | contradiction | exact Bool.noConfusion (show false = true from hc25.symm.trans (by assumption)) | exact Bool.noConfusion (show true = false from hc25.symm.trans (by assumption)) | (exfalso; omega) | (exfalso; simp only [*, Bool.not_true, Bool.not_false, reduceCtorEq] at hc25; done)))
    refine c_region ?_
    refine w_pure (y_move rfl) rfl ?_
    refine w_pure (y_move rfl) rfl ?_
    refine w_lit (α := Int) rfl rfl rfl rfl rfl rfl rfl rfl (fun v28 w28 ho28 hx28 hl28 hh28 hs28 => ?_)
    have hl_ho28 := ho28.lt
    have hz_hx28 := hx28.size
    replace EL := EL.next hx28 (by omega)
    replace g1 := g1.ext hx28
    replace g3 := g3.ext hx28
    replace h := h.ext hx28
    replace E := E.trans hx28
    refine w_append rfl rfl (k := fun v29 w29 ho29 hx29 hr29 => ?_)
    have hl_ho29 := ho29.lt
    have hz_hx29 := hx29.size
    replace ho28 := ho28.chg hx29 (by omega)
    replace EL := EL.next hx29 (by omega)
    replace g1 := g1.chg hx29 (by omega)
    replace h := h.chg hx29 (by omega)
    replace E := E.next hx29 (by omega)
    refine w_pure (y_assign rfl) rfl ?_
    refine w_nil ?_
    refine x_block_norm ?_
    refine x_next ?_
    refine c_region ?_
    refine w_pure (y_move rfl) rfl ?_
    refine w_pure (y_add rfl rfl) rfl ?_
    refine w_pure (y_assign rfl) rfl ?_
    refine w_nil ?_
    rotate_left
    refine c_skip ?_
    refine x_block_norm ?_
    refine x_next ?_
    refine c_region ?_
    refine w_pure (y_move rfl) rfl ?_
    refine w_pure (y_add rfl rfl) rfl ?_
    refine w_pure (y_assign rfl) rfl ?_
    refine w_nil ?_
    rotate_left
  · refine x_again (i + 1, v29) (by repeat (first | exact trivial | refine ⟨rfl, ?_⟩)) ⟨EL.go, by assumption, ?_, by dsimp only; omega, by dsimp only; omega, by dsimp only; omega⟩ (by dsimp only; omega)
    dsimp only
    rw [e1, hdG_put (hp.trans (decide_eq_true (.inl hc15))), Int.toNat_of_nonneg hi0]
    exact Own.base (by assumption) (by omega)
  · refine x_again (i + 1, v29) (by repeat (first | exact trivial | refine ⟨rfl, ?_⟩)) ⟨EL.go, by assumption, ?_, by dsimp only; omega, by dsimp only; omega, by dsimp only; omega⟩ (by dsimp only; omega)
    dsimp only
    rw [e1, hdG_put (hp.trans (decide_eq_true (.inr hc25))), Int.toNat_of_nonneg hi0]
    exact Own.base (by assumption) (by omega)
  · refine x_again (i + 1, u) (by repeat (first | exact trivial | refine ⟨rfl, ?_⟩)) ⟨EL.go, by assumption, ?_, by dsimp only; omega, by dsimp only; omega, by dsimp only; omega⟩ (by dsimp only; omega)
    dsimp only
    rw [e1, hdG_pass (hp.trans (decide_eq_false (fun h1 => h1.elim hc15 hc25)))]
    exact Own.base (by assumption) (by omega)
theorem l07Keys_c (f t : Int) (h : SLL w lo hi svs v xss := by repeat (first | assumption | exact Go.Gw.Own.sl (by assumption) | exact Go.Gw.Box.at (by assumption) | exact Go.Gw.SLL.el (by first | assumption | exact Go.Gw.OwnD.sll (by assumption)) _ (by omega) | exact Go.Gw.SLL.at (by first | assumption | exact Go.Gw.OwnD.sll (by assumption)) (by omega) | exact Go.Gw.OwnD.sll (by assumption) | (apply Go.Gw.SL.chg; case hx => assumption) | (apply Go.Gw.Own.chg; case hx => assumption) | (apply Go.Gw.Box.chg; case hx => assumption) | (apply Go.Gw.At.chg; case hx => assumption) | exact .inl (Nat.zero_le _) | exact .inr (Nat.zero_le _) | (show _ ∨ _; omega))) (hk : okD xss = true := by assumption) (hf : 0 ≤ f ∧ f < t ∧ t ≤ widD xss := by omega) : Ret Tryz.prog 133 [v, .agg #[.int .i64 f, .int .i64 t]] w fun u w' => ∃ d, u = .tuple #[d, .int .i64 (if okF xss f t = true then 0 else 8)] ∧ Own w' 9 w.heap.size d (if okF xss f t = true then keysL xss f t else []) ∧ Ext w w' := by
  have E : Since 0 0 w w := Since.refl 0 0 w
  refine ret_enter Tryz.func133 rfl Tryz.ntmps133 rfl ?_
  focus
    have ht_h := h.top
    refine c_seq ?_
    refine c_region ?_
    refine w_box rfl (k := fun b3 w3 hb3 hx3 hl3 hs3 => ?_)
    have hz_hx3 := hx3.size
    replace h := h.ext hx3
    replace E := E.trans hx3
    refine w_pure (y_assign rfl) rfl ?_
    refine w_pure (y_assign rfl) rfl ?_
    refine w_nil ?_
    refine x_next ?_
    refine c_seq ?_
    refine c_seq ?_
    refine c_region ?_
    refine w_pure (y_move rfl) rfl ?_
    refine w_val rfl rfl rfl (l02Deck_c) rfl (fun w11 hx11 hz11 => ?_)
    have hz_hx11 := hx11.size
    replace hb3 := hb3.ext hx11
    replace h := h.ext hx11
    replace E := E.trans hx11
    refine w_pure (y_not rfl) rfl ?_
    refine w_nil ?_
    refine x_next ?_
    (refine c_not rfl (fun hc12 => ?_) (fun hc12 => ?_) <;> try (first | exact absurd rfl hc12 | contradiction | exact Bool.noConfusion (show false = true from hc12.symm.trans (by assumption)) | exact Bool.noConfusion (show true = false from hc12.symm.trans (by assumption)) | (exfalso; omega) | (exfalso; simp only [*, Bool.not_true, Bool.not_false, reduceCtorEq] at hc12; done)))
    refine c_skip ?_
    refine x_next ?_
    refine c_seq ?_
    refine c_seq ?_
    refine c_region_held mixed (fun wr3 hxr3 hzr3 => ?_)
    have hz_hxr3 := hxr3.size
    replace hb3 := hb3.ext hxr3
    replace h := h.ext hxr3
    replace E := E.trans hxr3
    refine h_pure rfl (y_load_boxs rfl) rfl ?_
    refine h_pure rfl (y_move rfl) rfl ?_
    refine h_one rfl ?_
    refine w_val rfl rfl rfl (l07Width_c) rfl (fun w15 hx15 hz15 => ?_)
    have hz_hx15 := hx15.size
    replace hb3 := hb3.ext hx15
    replace h := h.ext hx15
    replace E := E.trans hx15
    refine w_nil ?_
    refine x_held ?_
    refine h_one rfl ?_
    refine w_val rfl rfl rfl (l02Field_c _ _ _) rfl (fun w16 hx16 hz16 => ?_)
    have hz_hx16 := hx16.size
    replace hb3 := hb3.ext hx16
    replace h := h.ext hx16
    replace E := E.trans hx16
    refine w_nil ?_
    refine x_held ?_
    refine h_pure rfl (y_not_dec rfl) rfl ?_
    refine h_nil ?_
    refine x_next ?_
    (refine c_dec rfl (fun hc17 => ?_) (fun hc17 => ?_) <;> try (first | exact absurd rfl hc17 | contradiction | exact Bool.noConfusion (show false = true from hc17.symm.trans (by assumption)) | exact Bool.noConfusion (show true = false from hc17.symm.trans (by assumption)) | (exfalso; omega) | (exfalso; simp only [*, Bool.not_true, Bool.not_false, reduceCtorEq] at hc17; done)))
    refine c_skip ?_
    refine x_next ?_
    refine c_seq ?_
    refine c_region ?_
    refine w_lit_s0 rfl (k := fun v18 w18 ho18 hx18 hl18 hh18 hs18 => ?_)
    have hl_ho18 := ho18.lt
    have hz_hx18 := hx18.size
    replace hb3 := hb3.ext hx18
    replace h := h.ext hx18
    replace E := E.trans hx18
    refine w_pure (y_assign rfl) rfl ?_
    refine w_nil ?_
    refine x_next ?_
    refine c_seq ?_
    refine c_seq ?_
    refine c_region ?_
    refine w_pure (y_assign rfl) rfl ?_
    refine w_nil ?_
    refine x_next ?_
    refine c_block ?_
    rotate_left
  refine c_loopC (bL v18) (bH v18) (ι := Int × Value) (fun x => [(0, v), (3, ptr b3 0), (6, x.2), (7, .int .i64 x.1)])
    (fun x w' => SLL w' lo hi svs v xss ∧ Box w' b3 [.int .i64 f, .int .i64 t] ∧ Own w' 9 w.heap.size x.2 ((keysL xss f t).take x.1.toNat) ∧ ((bL x.2 = bL v18 ∧ bH x.2 = bH v18) ∨ w18.heap.size ≤ bL x.2) ∧ 0 ≤ x.1 ∧ x.1 ≤ xss.length ∧ (∀ i, i < x.1.toNat → okT (prt (xss.getD i []) f t) = true)) (fun x => (xss.length - x.1).toNat) (0, v18)
    (by repeat (first | exact trivial | refine ⟨rfl, ?_⟩)) ⟨by assumption, by assumption, by show Own _ _ _ v18 (List.take 0 _); rw [List.take_zero]; exact Own.base (by assumption) (by omega), .inl ⟨rfl, rfl⟩, by dsimp only; omega, by dsimp only; omega, fun i hi => by simp at hi⟩ ?_
  clear ho18 hb3
  rintro ⟨i, u⟩ wL hxL EL ⟨g1, g2, g3, g4, hi0, hi1, hall⟩
  dsimp only at *
  have hkl := keysL_len xss f t
  have hd40 := okD_len hk
  have htl : i ≤ xss.length → ((keysL xss f t).take i.toNat).length = i.toNat := fun _ => by rw [List.length_take]; omega
  have e1 : (i + 1).toNat = i.toNat + 1 := by omega
  by_cases hli : i < xss.length
  case neg =>
    have hY := okF_yes (xss := xss) (f := f) (t := t) (fun i' hi' => hall i' (by omega))
    focus
      have ht_g1 := g1.top
      have hl_g3 := g3.lt
      have hz_hxL := hxL.size
      replace h := h.chg hxL (by omega)
      replace E := E.next hxL (by omega)
      refine c_seq ?_
      refine c_seq ?_
      refine c_region ?_
      refine w_pure (y_move rfl) rfl ?_
      refine w_pure (y_move rfl) rfl ?_
      refine w_pure (y_lend rfl) rfl ?_
      refine w_pure (y_lt rfl rfl) rfl ?_
      refine w_nil ?_
      refine x_next ?_
      (refine c_dec rfl (fun hc22 => ?_) (fun hc22 => ?_) <;> try (first | exact absurd rfl hc22 | contradiction | exact Bool.noConfusion (show false = true from hc22.symm.trans (by assumption)) | exact Bool.noConfusion (show true = false from hc22.symm.trans (by assumption)) | (exfalso; omega) | (exfalso; simp only [*, Bool.not_true, Bool.not_false, reduceCtorEq] at hc22; done)))
      refine c_exit ?_
      refine x_then_exit ?_
      refine x_then_exit ?_
      refine x_block_hit ?_
      refine x_next ?_
      refine c_seq ?_
      refine c_region ?_
      refine w_pure (y_move rfl) rfl ?_
      refine w_pure (y_assign rfl) rfl ?_
      refine w_pure (y_assign rfl) rfl ?_
      refine w_nil ?_
      refine x_next ?_
      refine c_ret ?_
      rotate_left
    refine x_retv [_, _] rfl ⟨rfl, rfl, trivial⟩ ⟨_, by rw [hY]; rfl, ?_, E.go⟩
    rw [hY, if_pos rfl]
    rw [List.take_of_length_le (by omega)] at g3
    exact g3
  have hwi := widD_at hk i.toNat (by omega)
  have hwb := widD_bd hk
  focus
    have ht_g1 := g1.top
    have hl_g3 := g3.lt
    have hz_hxL := hxL.size
    replace h := h.chg hxL (by omega)
    replace E := E.next hxL (by omega)
    refine c_seq ?_
    refine c_seq ?_
    refine c_region ?_
    refine w_pure (y_move rfl) rfl ?_
    refine w_pure (y_move rfl) rfl ?_
    refine w_pure (y_lend rfl) rfl ?_
    refine w_pure (y_lt rfl rfl) rfl ?_
    refine w_nil ?_
    refine x_next ?_
    (refine c_dec rfl (fun hc22 => ?_) (fun hc22 => ?_) <;> try (first | exact absurd rfl hc22 | contradiction | exact Bool.noConfusion (show false = true from hc22.symm.trans (by assumption)) | exact Bool.noConfusion (show true = false from hc22.symm.trans (by assumption)) | (exfalso; omega) | (exfalso; simp only [*, Bool.not_true, Bool.not_false, reduceCtorEq] at hc22; done)))
    refine c_skip ?_
    refine x_next ?_
    refine c_seq ?_
    refine c_block ?_
    refine c_seq ?_
    refine c_region_held mixed (fun wr9 hxr9 hzr9 => ?_)
    have hz_hxr9 := hxr9.size
    replace EL := EL.next hxr9 (by omega)
    replace g1 := g1.ext hxr9
    replace g2 := g2.ext hxr9
    replace g3 := g3.ext hxr9
    replace h := h.ext hxr9
    replace E := E.trans hxr9
    refine h_pure rfl (y_move rfl) rfl ?_
    refine h_pure rfl (y_move rfl) rfl ?_
    refine h_pure rfl (y_indexd rfl rfl) rfl ?_
    refine h_pure rfl (y_load_boxs rfl) rfl ?_
    refine h_one rfl ?_
    refine w_val rfl rfl rfl (l03Key_c _ _) rfl (fun w30 hx30 hz30 => ?_)
    have hz_hx30 := hx30.size
    replace EL := EL.next hx30 (by omega)
    replace g1 := g1.ext hx30
    replace g2 := g2.ext hx30
    replace g3 := g3.ext hx30
    replace h := h.ext hx30
    replace E := E.trans hx30
    refine w_nil ?_
    refine x_held ?_
    refine h_pure rfl (y_move rfl) rfl ?_
    refine h_pure rfl (y_extract rfl rfl) rfl ?_
    refine h_pure rfl (y_extract rfl rfl) rfl ?_
    refine h_pure rfl (y_assign rfl) rfl ?_
    refine h_pure rfl (y_assign rfl) rfl ?_
    refine h_nil ?_
    refine x_next ?_
    refine c_seq ?_
    refine c_seq ?_
    refine c_region ?_
    refine w_pure (y_move rfl) rfl ?_
    refine w_pure (y_not rfl) rfl ?_
    refine w_nil ?_
    refine x_next ?_
    (refine c_not rfl (fun hc34 => ?_) (fun hc34 => ?_) <;> try (first | exact absurd rfl hc34 | contradiction | exact Bool.noConfusion (show false = true from hc34.symm.trans (by assumption)) | exact Bool.noConfusion (show true = false from hc34.symm.trans (by assumption)) | (exfalso; omega) | (exfalso; simp only [*, Bool.not_true, Bool.not_false, reduceCtorEq] at hc34; done)))
    refine c_seq ?_
    refine c_region ?_
    refine w_pure (y_assign rfl) rfl ?_
    refine w_pure (y_assign rfl) rfl ?_
    refine w_nil ?_
    refine x_next ?_
    refine c_ret ?_
    refine x_then_ret ?_
    refine x_block_ret ?_
    refine x_then_ret ?_
    refine x_then_ret ?_
    refine x_block_ret ?_
    refine x_then_ret ?_
    rotate_left
    refine c_skip ?_
    refine x_next ?_
    refine c_region ?_
    refine w_pure (y_move rfl) rfl ?_
    refine w_pure (y_move rfl) rfl ?_
    refine w_lit (α := (List UInt8)) rfl rfl rfl rfl rfl rfl rfl rfl (fun v37 w37 ho37 hx37 hl37 hh37 hs37 => ?_)
    have hl_ho37 := ho37.lt
    have hz_hx37 := hx37.size
    replace EL := EL.next hx37 (by omega)
    replace g1 := g1.ext hx37
    replace g2 := g2.ext hx37
    replace g3 := g3.ext hx37
    replace h := h.ext hx37
    replace E := E.trans hx37
    refine w_append rfl rfl (k := fun v38 w38 ho38 hx38 hr38 => ?_)
    have hl_ho38 := ho38.lt
    have hz_hx38 := hx38.size
    replace ho37 := ho37.chg hx38 (by omega)
    replace EL := EL.next hx38 (by omega)
    replace g1 := g1.chg hx38 (by omega)
    replace g2 := g2.chg hx38 (by omega)
    replace h := h.chg hx38 (by omega)
    replace E := E.next hx38 (by omega)
    refine w_pure (y_assign rfl) rfl ?_
    refine w_nil ?_
    refine x_block_norm ?_
    refine x_next ?_
    refine c_region ?_
    refine w_pure (y_move rfl) rfl ?_
    refine w_pure (y_add rfl rfl) rfl ?_
    refine w_pure (y_assign rfl) rfl ?_
    refine w_nil ?_
    rotate_left
  · have hN := okF_no (xss := xss) (f := f) (t := t) (i := i.toNat) (by omega) hc34
    refine x_retv [_, _] rfl ⟨rfl, rfl, trivial⟩ ⟨_, by rw [hN]; rfl, ?_, E.go⟩
    rw [hN, if_neg (by decide)]; exact Own.nil _ _ _
  · refine x_again (i + 1, v38) (by repeat (first | exact trivial | refine ⟨rfl, ?_⟩)) ⟨EL.go, by assumption, by assumption, ?_, by dsimp only; omega, by dsimp only; omega, by dsimp only; omega, fun j hj => ?_⟩ (by dsimp only; omega)
    · dsimp only
      rw [e1, List.take_add_one, keysL_get (by omega)]
      rw [if_pos hc34] at ho38
      exact Own.base (by assumption) (by omega)
    · dsimp only at hj
      by_cases ej : j = i.toNat
      · subst ej; exact hc34
      · exact hall j (by omega)
end
end Go.Proofs.YtihnhelkfiaimaaGreatDoor

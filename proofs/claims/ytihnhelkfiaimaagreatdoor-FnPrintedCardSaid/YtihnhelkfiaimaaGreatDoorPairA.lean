/- Contracts: a test on the elements of a slice of pairs. -/
import Derived.Test.YtihnhelkfiaimaaGreatDoorLawB
namespace Go.Proofs.YtihnhelkfiaimaaGreatDoor
open Go Go.Gw
set_option linter.unusedVariables false
set_option linter.unusedSimpArgs false
section
variable {w : World} {lo hi : Nat} {v : Value} {xs : List (Int × Int)}
def idxQ (p : Int × Int → Bool) : List (Int × Int) → Int → Int
  | [], _ => -1
  | x :: r, i => if p x then i else idxQ p r (i + 1)
theorem idxQ_any (p : Int × Int → Bool) : ∀ (xs : List (Int × Int)) (i : Int), 0 ≤ i → (decide (0 ≤ idxQ p xs i) = xs.any p)
  | [], i, h => by simp [idxQ]
  | x :: r, i, h => by
    cases hp : p x
    · simp [idxQ, hp, idxQ_any p r (i + 1) (by omega)]
    · simp [idxQ, hp, h]
theorem idxQ_drop (p : Int × Int → Bool) (xs : List (Int × Int)) (i : Nat) (h : i < xs.length) : idxQ p (xs.drop i) i = if p (xs.getD i (0, 0)) then (i : Int) else idxQ p (xs.drop (i + 1)) (i + 1) := by
  rw [List.drop_eq_getElem_cons h, idxQ, List.getD_eq_getElem?_getD, List.getElem?_eq_getElem h]; rfl
theorem IndexFuncCopy {f : FuncId} [Callable Tryz.prog f] {first cap : List Value} {p : Int × Int → Bool} (h : SL w lo hi v xs) (hp : ∀ x ∈ xs, Val Tryz.prog f (first ++ [.agg #[.int .i64 x.1, .int .i64 x.2]] ++ cap) w (.bool (p x))) :
    Val Tryz.prog 159 [v, .func (.func f) first.toArray cap.toArray] w (.int .i64 (idxQ p xs 0)) := by
  refine ⟨fun w1 hx1 => ?_⟩
  have hsm := h.small
  have hp1 : ∀ x ∈ xs, Val Tryz.prog f (first ++ [.agg #[.int .i64 x.1, .int .i64 x.2]] ++ cap) w1 (.bool (p x)) := fun x hx => ⟨fun w3 hx3 => (hp x hx).go w3 (hx1.trans hx3)⟩
  have E : Since 0 0 w1 w1 := Since.refl 0 0 w1
  refine ret_enter Tryz.func159 rfl Tryz.ntmps159 rfl ?_
  focus
    have ht_h := h.top
    have hz_hx1 := hx1.size
    replace h := h.ext hx1
    refine c_seq ?_
    refine c_region ?_
    refine w_pure (y_assign rfl) rfl ?_
    refine w_nil ?_
    refine x_next ?_
    refine c_seq ?_
    refine c_seq ?_
    refine c_region ?_
    refine w_pure (y_move rfl) rfl ?_
    refine w_pure (y_len rfl) rfl ?_
    refine w_pure (y_move rfl) rfl ?_
    refine w_nil ?_
    refine x_next ?_
    refine c_block ?_
    rotate_left
  refine c_loopC 0 0 (ι := Nat) (fun x => [(0, v), (1, .func (.func f) first.toArray cap.toArray), (7, .int .i64 xs.length), (8, .int .i64 x)]) (fun x w => x ≤ xs.length ∧ idxQ p (xs.drop x) x = idxQ p xs 0) (fun x => xs.length - x) 0
    (by repeat (first | exact trivial | refine ⟨rfl, ?_⟩)) ⟨by omega, rfl⟩ ?_
  rintro i wL hxL EL ⟨hi, hidx⟩
  have hstep := idxQ_drop p xs i
  focus
    have hz_hxL := hxL.size
    replace E := E.trans hxL
    replace h := h.ext hxL
    refine c_seq ?_
    refine c_region ?_
    refine w_pure (y_lt rfl rfl) rfl ?_
    refine w_nil ?_
    refine x_next ?_
    refine c_seq ?_
    (refine c_dec rfl (fun hc9 => ?_) (fun hc9 => ?_) <;> try (first | exact absurd rfl hc9 | contradiction | exact Bool.noConfusion (show false = true from hc9.symm.trans (by assumption)) | exact Bool.noConfusion (show true = false from hc9.symm.trans (by assumption)) | (exfalso; omega) | (exfalso; simp only [*, Bool.not_true, Bool.not_false, reduceCtorEq] at hc9; done)))
    refine c_skip ?_
    refine x_next ?_
    refine c_seq ?_
    refine c_block ?_
    refine c_seq ?_
    refine c_region ?_
    refine w_pure (y_move rfl) rfl ?_
    refine w_pure (y_assign rfl) rfl ?_
    refine w_nil ?_
    refine x_next ?_
    refine c_seq ?_
    refine c_region ?_
    refine w_pure (y_move rfl) rfl ?_
    refine w_pure (y_move rfl) rfl ?_
    refine w_pure (y_move rfl) rfl ?_
    refine w_pure (y_index rfl rfl) rfl ?_
    refine w_pure (y_load_pair rfl) rfl ?_
    rotate_left
    refine c_exit ?_
    refine x_then_exit ?_
    refine x_then_exit ?_
    refine x_block_hit ?_
    refine x_next ?_
    refine c_seq ?_
    refine c_region ?_
    refine w_pure (y_assign rfl) rfl ?_
    refine w_nil ?_
    refine x_next ?_
    refine c_ret ?_
    rotate_left
  · have hlt : i < xs.length := by omega
    have hmem : xs.getD i (0, 0) ∈ xs := by rw [List.getD_eq_getElem?_getD, List.getElem?_eq_getElem hlt]; simp
    refine w_val rfl rfl rfl ⟨fun w3 hx3 => (hp1 _ hmem).go w3 (EL.go.trans hx3)⟩ rfl (fun w9a hx9a hz9a => ?_)
    have hs := (hstep hlt).symm.trans hidx
    focus
      have hz_hx9a := hx9a.size
      replace EL := EL.trans hx9a
      replace E := E.trans hx9a
      replace h := h.ext hx9a
      refine w_nil ?_
      refine x_next ?_
      (refine c_if rfl (fun hc16 => ?_) (fun hc16 => ?_) <;> try (first | exact absurd rfl hc16 | contradiction | exact Bool.noConfusion (show false = true from hc16.symm.trans (by assumption)) | exact Bool.noConfusion (show true = false from hc16.symm.trans (by assumption)) | (exfalso; omega) | (exfalso; simp only [*, Bool.not_true, Bool.not_false, reduceCtorEq] at hc16; done)))
      refine c_seq ?_
      refine c_region ?_
      refine w_pure (y_move rfl) rfl ?_
      refine w_pure (y_assign rfl) rfl ?_
      refine w_nil ?_
      refine x_next ?_
      refine c_ret ?_
      refine x_block_ret ?_
      refine x_then_ret ?_
      refine x_then_ret ?_
      refine x_block_ret ?_
      refine x_then_ret ?_
      rotate_left
      refine c_skip ?_
      refine x_block_norm ?_
      refine x_next ?_
      refine c_region ?_
      refine w_pure (y_add rfl rfl) rfl ?_
      refine w_pure (y_move rfl) rfl ?_
      refine w_nil ?_
      rotate_left
    · refine x_retv [_] rfl ⟨rfl, trivial⟩ ⟨?_, E.go⟩
      rw [if_pos hc16] at hs
      rw [← hs]; rfl
    · refine x_again (i + 1) (by repeat (first | exact trivial | refine ⟨rfl, ?_⟩)) ⟨EL.go, by omega, ?_⟩ (by omega)
      rw [hc16] at hs
      simpa using hs
  · refine x_retv [_] rfl ⟨rfl, trivial⟩ ⟨?_, E.go⟩
    rw [List.drop_eq_nil_of_le (by omega)] at hidx
    rw [← hidx]; rfl
theorem ContainsFuncCopy {f : FuncId} [Callable Tryz.prog f] {first cap : List Value} {p : Int × Int → Bool} (h : SL w lo hi v xs := by repeat (first | assumption | exact Go.Gw.Own.sl (by assumption) | exact Go.Gw.Box.at (by assumption) | exact Go.Gw.SLL.el (by first | assumption | exact Go.Gw.OwnD.sll (by assumption)) _ (by omega) | exact Go.Gw.SLL.at (by first | assumption | exact Go.Gw.OwnD.sll (by assumption)) (by omega) | exact Go.Gw.OwnD.sll (by assumption) | (apply Go.Gw.SL.chg; case hx => assumption) | (apply Go.Gw.Own.chg; case hx => assumption) | (apply Go.Gw.Box.chg; case hx => assumption) | (apply Go.Gw.At.chg; case hx => assumption) | exact .inl (Nat.zero_le _) | exact .inr (Nat.zero_le _) | (show _ ∨ _; omega))) (hp : ∀ x ∈ xs, Val Tryz.prog f (first ++ [.agg #[.int .i64 x.1, .int .i64 x.2]] ++ cap) w (.bool (p x))) :
    Val Tryz.prog 102 [v, .func (.func f) first.toArray cap.toArray] w (.bool (xs.any p)) := by
  refine ⟨fun w1 hx1 => ?_⟩
  have h2 := IndexFuncCopy (w := w) h hp
  have h3 : Val Tryz.prog 159 [v, .func (.func f) first.toArray cap.toArray] w1 (.int .i64 (idxQ p xs 0)) := ⟨fun w3 hx3 => h2.go w3 (hx1.trans hx3)⟩
  have E : Since 0 0 w1 w1 := Since.refl 0 0 w1
  refine ret_enter Tryz.func102 rfl Tryz.ntmps102 rfl ?_
  focus
    have ht_h := h.top
    have hz_hx1 := hx1.size
    replace h := h.ext hx1
    refine c_seq ?_
    refine c_region ?_
    refine w_pure (y_assign rfl) rfl ?_
    refine w_nil ?_
    refine x_next ?_
    refine c_seq ?_
    refine c_region ?_
    refine w_pure (y_move rfl) rfl ?_
    refine w_pure (y_move rfl) rfl ?_
    refine w_val rfl rfl rfl (h3) rfl (fun w7 hx7 hz7 => ?_)
    have hz_hx7 := hx7.size
    replace E := E.trans hx7
    replace h := h.ext hx7
    refine w_pure (y_ge rfl rfl) rfl ?_
    refine w_pure (y_assign rfl) rfl ?_
    refine w_nil ?_
    refine x_next ?_
    refine c_ret ?_
    rotate_left
  refine x_retv [_] rfl ⟨rfl, trivial⟩ ⟨?_, E.go⟩
  rw [idxQ_any p xs 0 (by omega)]; rfl
theorem IndexFuncField {f : FuncId} [Callable Tryz.prog f] {first cap : List Value} {p : Int × Int → Bool} (h : SL w lo hi v xs) (hp : ∀ x ∈ xs, Val Tryz.prog f (first ++ [.agg #[.int .i64 x.1, .int .i64 x.2]] ++ cap) w (.bool (p x))) :
    Val Tryz.prog 200 [v, .func (.func f) first.toArray cap.toArray] w (.int .i64 (idxQ p xs 0)) := by
  refine ⟨fun w1 hx1 => ?_⟩
  have hsm := h.small
  have hp1 : ∀ x ∈ xs, Val Tryz.prog f (first ++ [.agg #[.int .i64 x.1, .int .i64 x.2]] ++ cap) w1 (.bool (p x)) := fun x hx => ⟨fun w3 hx3 => (hp x hx).go w3 (hx1.trans hx3)⟩
  have E : Since 0 0 w1 w1 := Since.refl 0 0 w1
  refine ret_enter Tryz.func200 rfl Tryz.ntmps200 rfl ?_
  focus
    have ht_h := h.top
    have hz_hx1 := hx1.size
    replace h := h.ext hx1
    refine c_seq ?_
    refine c_region ?_
    refine w_pure (y_assign rfl) rfl ?_
    refine w_nil ?_
    refine x_next ?_
    refine c_seq ?_
    refine c_seq ?_
    refine c_region ?_
    refine w_pure (y_move rfl) rfl ?_
    refine w_pure (y_len rfl) rfl ?_
    refine w_pure (y_move rfl) rfl ?_
    refine w_nil ?_
    refine x_next ?_
    refine c_block ?_
    rotate_left
  refine c_loopC 0 0 (ι := Nat) (fun x => [(0, v), (1, .func (.func f) first.toArray cap.toArray), (7, .int .i64 xs.length), (8, .int .i64 x)]) (fun x w => x ≤ xs.length ∧ idxQ p (xs.drop x) x = idxQ p xs 0) (fun x => xs.length - x) 0
    (by repeat (first | exact trivial | refine ⟨rfl, ?_⟩)) ⟨by omega, rfl⟩ ?_
  rintro i wL hxL EL ⟨hi, hidx⟩
  have hstep := idxQ_drop p xs i
  focus
    have hz_hxL := hxL.size
    replace E := E.trans hxL
    replace h := h.ext hxL
    refine c_seq ?_
    refine c_region ?_
    refine w_pure (y_lt rfl rfl) rfl ?_
    refine w_nil ?_
    refine x_next ?_
    refine c_seq ?_
    (refine c_dec rfl (fun hc9 => ?_) (fun hc9 => ?_) <;> try (first | exact absurd rfl hc9 | contradiction | exact Bool.noConfusion (show false = true from hc9.symm.trans (by assumption)) | exact Bool.noConfusion (show true = false from hc9.symm.trans (by assumption)) | (exfalso; omega) | (exfalso; simp only [*, Bool.not_true, Bool.not_false, reduceCtorEq] at hc9; done)))
    refine c_skip ?_
    refine x_next ?_
    refine c_seq ?_
    refine c_block ?_
    refine c_seq ?_
    refine c_region ?_
    refine w_pure (y_move rfl) rfl ?_
    refine w_pure (y_assign rfl) rfl ?_
    refine w_nil ?_
    refine x_next ?_
    refine c_seq ?_
    refine c_region ?_
    refine w_pure (y_move rfl) rfl ?_
    refine w_pure (y_move rfl) rfl ?_
    refine w_pure (y_move rfl) rfl ?_
    refine w_pure (y_index rfl rfl) rfl ?_
    refine w_pure (y_load_pair rfl) rfl ?_
    rotate_left
    refine c_exit ?_
    refine x_then_exit ?_
    refine x_then_exit ?_
    refine x_block_hit ?_
    refine x_next ?_
    refine c_seq ?_
    refine c_region ?_
    refine w_pure (y_assign rfl) rfl ?_
    refine w_nil ?_
    refine x_next ?_
    refine c_ret ?_
    rotate_left
  · have hlt : i < xs.length := by omega
    have hmem : xs.getD i (0, 0) ∈ xs := by rw [List.getD_eq_getElem?_getD, List.getElem?_eq_getElem hlt]; simp
    refine w_val rfl rfl rfl ⟨fun w3 hx3 => (hp1 _ hmem).go w3 (EL.go.trans hx3)⟩ rfl (fun w9a hx9a hz9a => ?_)
    have hs := (hstep hlt).symm.trans hidx
    focus
      have hz_hx9a := hx9a.size
      replace EL := EL.trans hx9a
      replace E := E.trans hx9a
      replace h := h.ext hx9a
      refine w_nil ?_
      refine x_next ?_
      (refine c_if rfl (fun hc16 => ?_) (fun hc16 => ?_) <;> try (first | exact absurd rfl hc16 | contradiction | exact Bool.noConfusion (show false = true from hc16.symm.trans (by assumption)) | exact Bool.noConfusion (show true = false from hc16.symm.trans (by assumption)) | (exfalso; omega) | (exfalso; simp only [*, Bool.not_true, Bool.not_false, reduceCtorEq] at hc16; done)))
      refine c_seq ?_
      refine c_region ?_
      refine w_pure (y_move rfl) rfl ?_
      refine w_pure (y_assign rfl) rfl ?_
      refine w_nil ?_
      refine x_next ?_
      refine c_ret ?_
      refine x_block_ret ?_
      refine x_then_ret ?_
      refine x_then_ret ?_
      refine x_block_ret ?_
      refine x_then_ret ?_
      rotate_left
      refine c_skip ?_
      refine x_block_norm ?_
      refine x_next ?_
      refine c_region ?_
      refine w_pure (y_add rfl rfl) rfl ?_
      refine w_pure (y_move rfl) rfl ?_
      refine w_nil ?_
      rotate_left
    · refine x_retv [_] rfl ⟨rfl, trivial⟩ ⟨?_, E.go⟩
      rw [if_pos hc16] at hs
      rw [← hs]; rfl
    · refine x_again (i + 1) (by repeat (first | exact trivial | refine ⟨rfl, ?_⟩)) ⟨EL.go, by omega, ?_⟩ (by omega)
      rw [hc16] at hs
      simpa using hs
  · refine x_retv [_] rfl ⟨rfl, trivial⟩ ⟨?_, E.go⟩
    rw [List.drop_eq_nil_of_le (by omega)] at hidx
    rw [← hidx]; rfl
theorem ContainsFuncField {f : FuncId} [Callable Tryz.prog f] {first cap : List Value} {p : Int × Int → Bool} (h : SL w lo hi v xs := by repeat (first | assumption | exact Go.Gw.Own.sl (by assumption) | exact Go.Gw.Box.at (by assumption) | exact Go.Gw.SLL.el (by first | assumption | exact Go.Gw.OwnD.sll (by assumption)) _ (by omega) | exact Go.Gw.SLL.at (by first | assumption | exact Go.Gw.OwnD.sll (by assumption)) (by omega) | exact Go.Gw.OwnD.sll (by assumption) | (apply Go.Gw.SL.chg; case hx => assumption) | (apply Go.Gw.Own.chg; case hx => assumption) | (apply Go.Gw.Box.chg; case hx => assumption) | (apply Go.Gw.At.chg; case hx => assumption) | exact .inl (Nat.zero_le _) | exact .inr (Nat.zero_le _) | (show _ ∨ _; omega))) (hp : ∀ x ∈ xs, Val Tryz.prog f (first ++ [.agg #[.int .i64 x.1, .int .i64 x.2]] ++ cap) w (.bool (p x))) :
    Val Tryz.prog 167 [v, .func (.func f) first.toArray cap.toArray] w (.bool (xs.any p)) := by
  refine ⟨fun w1 hx1 => ?_⟩
  have h2 := IndexFuncField (w := w) h hp
  have h3 : Val Tryz.prog 200 [v, .func (.func f) first.toArray cap.toArray] w1 (.int .i64 (idxQ p xs 0)) := ⟨fun w3 hx3 => h2.go w3 (hx1.trans hx3)⟩
  have E : Since 0 0 w1 w1 := Since.refl 0 0 w1
  refine ret_enter Tryz.func167 rfl Tryz.ntmps167 rfl ?_
  focus
    have ht_h := h.top
    have hz_hx1 := hx1.size
    replace h := h.ext hx1
    refine c_seq ?_
    refine c_region ?_
    refine w_pure (y_assign rfl) rfl ?_
    refine w_nil ?_
    refine x_next ?_
    refine c_seq ?_
    refine c_region ?_
    refine w_pure (y_move rfl) rfl ?_
    refine w_pure (y_move rfl) rfl ?_
    refine w_val rfl rfl rfl (h3) rfl (fun w7 hx7 hz7 => ?_)
    have hz_hx7 := hx7.size
    replace E := E.trans hx7
    replace h := h.ext hx7
    refine w_pure (y_ge rfl rfl) rfl ?_
    refine w_pure (y_assign rfl) rfl ?_
    refine w_nil ?_
    refine x_next ?_
    refine c_ret ?_
    rotate_left
  refine x_retv [_] rfl ⟨rfl, trivial⟩ ⟨?_, E.go⟩
  rw [idxQ_any p xs 0 (by omega)]; rfl
end
end Go.Proofs.YtihnhelkfiaimaaGreatDoor

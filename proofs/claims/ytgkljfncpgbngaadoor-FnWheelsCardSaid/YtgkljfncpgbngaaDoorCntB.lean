/- Contracts: counters, the laws' helpers on them, whether a counter is valid. -/
import Derived.Test.YtgkljfncpgbngaaDoorCntA
namespace Go.Proofs.YtgkljfncpgbngaaDoor
open Go Go.Gw
set_option linter.unusedVariables false
set_option linter.unusedSimpArgs false

section
variable {w : World} {lo hi lo' hi' : Nat} {v v' : Value} {xs ys : List Int}

theorem copyInts_c (w0 : World) (h : SL w0 lo hi v xs := by repeat (first | assumption | exact Go.Gw.Own.sl (by assumption) | exact Go.Gw.Box.at (by assumption) | exact Go.Gw.SLL.el (by first | assumption | exact Go.Gw.OwnD.sll (by assumption)) _ (by omega) | exact Go.Gw.SLL.at (by first | assumption | exact Go.Gw.OwnD.sll (by assumption)) (by omega) | exact Go.Gw.OwnD.sll (by assumption) | (apply Go.Gw.SL.chg; case hx => assumption) | (apply Go.Gw.Own.chg; case hx => assumption) | (apply Go.Gw.Box.chg; case hx => assumption) | (apply Go.Gw.At.chg; case hx => assumption) | exact .inl (Nat.zero_le _) | exact .inr (Nat.zero_le _) | (show _ ∨ _; omega))) (hl : xs.length ≤ 1048576 := by omega) : Ret Tryd.prog 104 [v] w0 fun u w' => Own w' 2 w0.heap.size u xs ∧ Ext w0 w' := by
  refine ret_enter Tryd.func104 rfl Tryd.ntmps104 rfl ?_
  focus
    refine c_seq ?_
    refine c_region ?_
    refine w_pure (y_assign rfl) rfl ?_
    refine w_nil ?_
    refine x_next ?_
    refine c_seq ?_
    refine c_region ?_
    rotate_left
  refine w_lit (α := Int) rfl rfl rfl rfl rfl rfl rfl rfl (fun v1 w1 ho1 hx1 hl1 hh1 hs1 => ?_)
  focus
    refine w_pure (y_move rfl) rfl ?_
    rotate_left
  have hol := ho1.lt
  refine w_append rfl rfl (k := fun v2 w2 ho2 hx2 hr2 => ?_)
  focus
    refine w_pure (y_assign rfl) rfl ?_
    refine w_nil ?_
    refine x_next ?_
    refine c_ret ?_
    rotate_left
  refine x_retv [_] rfl ⟨rfl, trivial⟩ ⟨ho2, by (repeat (first | exact Chg.refl _ _ _ | assumption | refine Chg.next ?_ (by assumption) (by omega)))⟩
theorem l00Own_c (w0 : World) (h : SL w0 lo hi v xs := by repeat (first | assumption | exact Go.Gw.Own.sl (by assumption) | exact Go.Gw.Box.at (by assumption) | exact Go.Gw.SLL.el (by first | assumption | exact Go.Gw.OwnD.sll (by assumption)) _ (by omega) | exact Go.Gw.SLL.at (by first | assumption | exact Go.Gw.OwnD.sll (by assumption)) (by omega) | exact Go.Gw.OwnD.sll (by assumption) | (apply Go.Gw.SL.chg; case hx => assumption) | (apply Go.Gw.Own.chg; case hx => assumption) | (apply Go.Gw.Box.chg; case hx => assumption) | (apply Go.Gw.At.chg; case hx => assumption) | exact .inl (Nat.zero_le _) | exact .inr (Nat.zero_le _) | (show _ ∨ _; omega))) (hl : xs.length ≤ 1048576 := by omega) : Ret Tryd.prog 96 [v] w0 fun u w' => Own w' 2 w0.heap.size u xs ∧ Ext w0 w' := by
  refine ret_enter Tryd.func96 rfl Tryd.ntmps96 rfl ?_
  focus
    refine c_seq ?_
    refine c_region ?_
    refine w_pure (y_assign rfl) rfl ?_
    refine w_nil ?_
    refine x_next ?_
    refine c_seq ?_
    refine c_region ?_
    rotate_left
  refine w_lit (α := Int) rfl rfl rfl rfl rfl rfl rfl rfl (fun v1 w1 ho1 hx1 hl1 hh1 hs1 => ?_)
  focus
    refine w_pure (y_move rfl) rfl ?_
    rotate_left
  have hol := ho1.lt
  refine w_append rfl rfl (k := fun v2 w2 ho2 hx2 hr2 => ?_)
  focus
    refine w_pure (y_assign rfl) rfl ?_
    refine w_nil ?_
    refine x_next ?_
    refine c_ret ?_
    rotate_left
  refine x_retv [_] rfl ⟨rfl, trivial⟩ ⟨ho2, by (repeat (first | exact Chg.refl _ _ _ | assumption | refine Chg.next ?_ (by assumption) (by omega)))⟩
theorem size_c (h : SL w lo hi v xs := by repeat (first | assumption | exact Go.Gw.Own.sl (by assumption) | exact Go.Gw.Box.at (by assumption) | exact Go.Gw.SLL.el (by first | assumption | exact Go.Gw.OwnD.sll (by assumption)) _ (by omega) | exact Go.Gw.SLL.at (by first | assumption | exact Go.Gw.OwnD.sll (by assumption)) (by omega) | exact Go.Gw.OwnD.sll (by assumption) | (apply Go.Gw.SL.chg; case hx => assumption) | (apply Go.Gw.Own.chg; case hx => assumption) | (apply Go.Gw.Box.chg; case hx => assumption) | (apply Go.Gw.At.chg; case hx => assumption) | exact .inl (Nat.zero_le _) | exact .inr (Nat.zero_le _) | (show _ ∨ _; omega))) : Val Tryd.prog 68 [v] w (.int .i64 xs.length) := by
  refine ⟨fun w1 hx1 => ?_⟩
  refine ret_enter Tryd.func68 rfl Tryd.ntmps68 rfl ?_
  focus
    refine c_seq ?_
    refine c_region ?_
    refine w_pure (y_assign rfl) rfl ?_
    refine w_nil ?_
    refine x_next ?_
    refine c_seq ?_
    refine c_region ?_
    refine w_pure (y_move rfl) rfl ?_
    refine w_pure (y_len rfl) rfl ?_
    refine w_pure (y_assign rfl) rfl ?_
    refine w_nil ?_
    refine x_next ?_
    refine c_ret ?_
    rotate_left
  exact x_retv [_] rfl ⟨rfl, trivial⟩ ⟨rfl, by (repeat (first | exact Chg.refl _ _ _ | assumption | refine Chg.next ?_ (by assumption) (by omega)))⟩
def idxI (p : Int → Bool) : List Int → Int → Int
  | [], _ => -1
  | x :: r, i => if p x then i else idxI p r (i + 1)
theorem idxI_any (p : Int → Bool) : ∀ (xs : List Int) (i : Int), 0 ≤ i → (decide (0 ≤ idxI p xs i) = xs.any p)
  | [], i, h => by simp [idxI]
  | x :: r, i, h => by
    cases hp : p x
    · simp [idxI, hp, idxI_any p r (i + 1) (by omega)]
    · simp [idxI, hp, h]
theorem idxI_drop (p : Int → Bool) (xs : List Int) (i : Nat) (h : i < xs.length) : idxI p (xs.drop i) i = if p (xs.getD i 0) then (i : Int) else idxI p (xs.drop (i + 1)) (i + 1) := by
  rw [List.drop_eq_getElem_cons h, idxI, List.getD_eq_getElem?_getD, List.getElem?_eq_getElem h]; rfl
theorem IndexFunc_int {f : FuncId} [Callable Tryd.prog f] {first cap : List Value} {p : Int → Bool} (h : SL w lo hi v xs) (hp : ∀ x ∈ xs, Val Tryd.prog f (first ++ [.int .i64 x] ++ cap) w (.bool (p x))) :
    Val Tryd.prog 107 [v, .func (.func f) first.toArray cap.toArray] w (.int .i64 (idxI p xs 0)) := by
  refine ⟨fun w1 hx1 => ?_⟩
  have hsm := h.small
  refine ret_enter Tryd.func107 rfl Tryd.ntmps107 rfl ?_
  focus
    refine c_seq ?_
    refine c_region ?_
    refine w_pure (y_assign rfl) rfl ?_
    refine w_nil ?_
    refine x_next ?_
    refine c_seq ?_
    refine c_seq ?_
    refine c_region ?_
    refine w_pure (y_move rfl) rfl ?_
    refine w_pure (y_len rfl) rfl ?_
    refine w_pure (y_move rfl) rfl ?_
    refine w_nil ?_
    refine x_next ?_
    refine c_block ?_
    rotate_left
  refine c_loop (ι := Int) (fun x => [(0, v), (1, .func (.func f) first.toArray cap.toArray), (7, .int .i64 xs.length), (8, .int .i64 x)]) (fun x w => Ext w1 w ∧ 0 ≤ x ∧ x ≤ xs.length ∧ idxI p (xs.drop x.toNat) x = idxI p xs 0) (fun x => (xs.length - x).toNat) 0
    ⟨rfl, rfl, rfl, rfl, trivial⟩ ⟨Chg.refl _ _ _, by omega, by omega, by simp⟩ ?_
  rintro i w2 ⟨hx2, hi0, hi1, hidx⟩
  have hstep : i < xs.length → (if p (xs.getD i.toNat 0) then i else idxI p (xs.drop (i + 1).toNat) (i + 1)) = idxI p xs 0 := fun hlt => by
    have := idxI_drop p xs i.toNat (by omega)
    rw [Int.toNat_of_nonneg hi0] at this
    rw [show (i + 1).toNat = i.toNat + 1 by omega, ← this, hidx]
  focus
    refine c_seq ?_
    refine c_region ?_
    refine w_pure (y_lt rfl rfl) rfl ?_
    refine w_nil ?_
    refine x_next ?_
    refine c_seq ?_
    (refine c_dec rfl (fun hc => ?_) (fun hc => ?_) <;> try (exfalso; omega))
    refine c_skip ?_
    refine x_next ?_
    refine c_seq ?_
    refine c_block ?_
    refine c_seq ?_
    refine c_region ?_
    refine w_pure (y_move rfl) rfl ?_
    refine w_pure (y_assign rfl) rfl ?_
    refine w_nil ?_
    refine x_next ?_
    refine c_seq ?_
    refine c_region ?_
    refine w_pure (y_move rfl) rfl ?_
    refine w_pure (y_move rfl) rfl ?_
    refine w_pure (y_move rfl) rfl ?_
    refine w_pure (y_index rfl rfl) rfl ?_
    refine w_pure (y_load_int rfl) rfl ?_
    rotate_left
    refine c_exit ?_
    refine x_then_exit ?_
    refine x_then_exit ?_
    refine x_block_hit ?_
    refine x_next ?_
    refine c_seq ?_
    refine c_region ?_
    refine w_pure (y_assign rfl) rfl ?_
    refine w_nil ?_
    refine x_next ?_
    refine c_ret ?_
    rotate_left
  · have hmem : xs.getD i.toNat 0 ∈ xs := by rw [List.getD_eq_getElem?_getD, List.getElem?_eq_getElem (by omega)]; simp
    have hpx := hp _ hmem
    refine w_val rfl rfl rfl ⟨fun w3 hx3 => hpx.go w3 ((hx1.trans hx2).trans hx3)⟩ rfl (fun w3 hx3 hz3 => ?_)
    have hs := hstep (by omega)
    focus
      refine w_nil ?_
      refine x_next ?_
      (refine c_if rfl (fun hc => ?_) (fun hc => ?_))
      refine c_seq ?_
      refine c_region ?_
      refine w_pure (y_move rfl) rfl ?_
      refine w_pure (y_assign rfl) rfl ?_
      refine w_nil ?_
      refine x_next ?_
      refine c_ret ?_
      refine x_block_ret ?_
      refine x_then_ret ?_
      refine x_then_ret ?_
      refine x_block_ret ?_
      refine x_then_ret ?_
      rotate_left
      refine c_skip ?_
      refine x_block_norm ?_
      refine x_next ?_
      refine c_region ?_
      refine w_pure (y_add rfl rfl) rfl ?_
      refine w_pure (y_move rfl) rfl ?_
      refine w_nil ?_
      rotate_left
    · refine x_retv [_] rfl ⟨rfl, trivial⟩ ⟨?_, by (repeat (first | exact Chg.refl _ _ _ | assumption | refine Chg.next ?_ (by assumption) (by omega)))⟩
      rw [if_pos hc] at hs
      rw [← hs]; rfl
    · refine x_again (i + 1) ⟨rfl, rfl, rfl, rfl, trivial⟩ ⟨by (repeat (first | exact Chg.refl _ _ _ | assumption | refine Chg.next ?_ (by assumption) (by omega))), by omega, by omega, ?_⟩ (by omega)
      rw [hc] at hs
      simpa using hs
  · refine x_retv [_] rfl ⟨rfl, trivial⟩ ⟨?_, by (repeat (first | exact Chg.refl _ _ _ | assumption | refine Chg.next ?_ (by assumption) (by omega)))⟩
    rw [List.drop_eq_nil_of_le (by omega)] at hidx
    rw [← hidx]; rfl
theorem ContainsFunc_int {f : FuncId} [Callable Tryd.prog f] {first cap : List Value} {p : Int → Bool} (h : SL w lo hi v xs) (hp : ∀ x ∈ xs, Val Tryd.prog f (first ++ [.int .i64 x] ++ cap) w (.bool (p x))) :
    Val Tryd.prog 99 [v, .func (.func f) first.toArray cap.toArray] w (.bool (xs.any p)) := by
  refine ⟨fun w1 hx1 => ?_⟩
  refine ret_enter Tryd.func99 rfl Tryd.ntmps99 rfl ?_
  have h2 := IndexFunc_int (w := w) h hp
  focus
    refine c_seq ?_
    refine c_region ?_
    refine w_pure (y_assign rfl) rfl ?_
    refine w_nil ?_
    refine x_next ?_
    refine c_seq ?_
    refine c_region ?_
    refine w_pure (y_move rfl) rfl ?_
    refine w_pure (y_move rfl) rfl ?_
    refine w_val rfl rfl rfl ⟨fun w3 hx3 => h2.go w3 (hx1.trans hx3)⟩ rfl (fun w3 hx3 hz3 => ?_)
    refine w_pure (y_ge rfl rfl) rfl ?_
    refine w_pure (y_assign rfl) rfl ?_
    refine w_nil ?_
    refine x_next ?_
    refine c_ret ?_
    rotate_left
  refine x_retv [_] rfl ⟨rfl, trivial⟩ ⟨?_, by (repeat (first | exact Chg.refl _ _ _ | assumption | refine Chg.next ?_ (by assumption) (by omega)))⟩
  rw [idxI_any p xs 0 (by omega)]; rfl
end
end Go.Proofs.YtgkljfncpgbngaaDoor

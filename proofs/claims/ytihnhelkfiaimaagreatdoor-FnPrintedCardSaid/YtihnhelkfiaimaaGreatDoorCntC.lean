/- Contracts: equality of counters, whether a counter is valid. -/
import Derived.Test.YtihnhelkfiaimaaGreatDoorCntB
namespace Go.Proofs.YtihnhelkfiaimaaGreatDoor
open Go Go.Gw
set_option linter.unusedVariables false
set_option linter.unusedSimpArgs false

section
variable {w : World} {lo hi lo' hi' : Nat} {v v' : Value} {xs ys : List Int} {b : Nat}

/-- a counter that is valid -/
def okC (xs : List Int) : Bool := decide (1 ≤ xs.length ∧ xs.length ≤ 12) && !xs.any fun d => !decide (0 ≤ d ∧ d ≤ 9)
theorem okC_len {xs : List Int} (h : okC xs = true) : 1 ≤ xs.length ∧ xs.length ≤ 12 := by simp [okC] at h; exact h.1
theorem okC_dig {xs : List Int} (h : okC xs = true) : ∀ d ∈ xs, 0 ≤ d ∧ d ≤ 9 := by simp [okC] at h; exact h.2
theorem okC_getD {xs : List Int} (h : okC xs = true) (i : Nat) (hi : i < xs.length) : 0 ≤ xs.getD i 0 ∧ xs.getD i 0 ≤ 9 := by
  rw [List.getD_eq_getElem?_getD, List.getElem?_eq_getElem hi]
  exact okC_dig h _ (List.getElem_mem hi)

theorem l00Same_c (h : SL w lo hi v xs := by repeat (first | assumption | exact Go.Gw.Own.sl (by assumption) | exact Go.Gw.Box.at (by assumption) | exact Go.Gw.SLL.el (by first | assumption | exact Go.Gw.OwnD.sll (by assumption)) _ (by omega) | exact Go.Gw.SLL.at (by first | assumption | exact Go.Gw.OwnD.sll (by assumption)) (by omega) | exact Go.Gw.OwnD.sll (by assumption) | (apply Go.Gw.SL.chg; case hx => assumption) | (apply Go.Gw.Own.chg; case hx => assumption) | (apply Go.Gw.Box.chg; case hx => assumption) | (apply Go.Gw.At.chg; case hx => assumption) | exact .inl (Nat.zero_le _) | exact .inr (Nat.zero_le _) | (show _ ∨ _; omega))) (h' : SL w lo' hi' v' ys := by repeat (first | assumption | exact Go.Gw.Own.sl (by assumption) | exact Go.Gw.Box.at (by assumption) | exact Go.Gw.SLL.el (by first | assumption | exact Go.Gw.OwnD.sll (by assumption)) _ (by omega) | exact Go.Gw.SLL.at (by first | assumption | exact Go.Gw.OwnD.sll (by assumption)) (by omega) | exact Go.Gw.OwnD.sll (by assumption) | (apply Go.Gw.SL.chg; case hx => assumption) | (apply Go.Gw.Own.chg; case hx => assumption) | (apply Go.Gw.Box.chg; case hx => assumption) | (apply Go.Gw.At.chg; case hx => assumption) | exact .inl (Nat.zero_le _) | exact .inr (Nat.zero_le _) | (show _ ∨ _; omega))) : Val Tryz.prog 100 [v, v'] w (.bool (decide (xs = ys))) := by
  refine ⟨fun w1 hx1 => ?_⟩
  have hsm := h.small
  have hsm' := h'.small
  by_cases hl : xs.length = ys.length
  · refine ret_enter Tryz.func100 rfl Tryz.ntmps100 rfl ?_
    focus
      refine c_seq ?_
      refine c_region ?_
      refine w_pure (y_assign rfl) rfl ?_
      refine w_nil ?_
      refine x_next ?_
      refine c_seq ?_
      refine c_seq ?_
      refine c_region ?_
      refine w_pure (y_move rfl) rfl ?_
      refine w_pure (y_len rfl) rfl ?_
      refine w_pure (y_move rfl) rfl ?_
      refine w_pure (y_len rfl) rfl ?_
      refine w_pure (y_ne rfl rfl) rfl ?_
      refine w_nil ?_
      refine x_next ?_
      (refine c_dec rfl (fun hc => ?_) (fun hc => ?_) <;> try (exfalso; omega))
      refine c_skip ?_
      refine x_next ?_
      refine c_seq ?_
      refine c_seq ?_
      refine c_region ?_
      refine w_pure (y_assign rfl) rfl ?_
      refine w_nil ?_
      refine x_next ?_
      refine c_block ?_
      rotate_left
    refine c_loop (ι := Int) (fun x => [(0, v), (1, v'), (5, .int .i64 x)]) (fun x w' => Ext w1 w' ∧ 0 ≤ x ∧ x ≤ xs.length ∧ ∀ j : Nat, j < x.toNat → xs.getD j 0 = ys.getD j 0) (fun x => (xs.length - x).toNat) 0
      ⟨rfl, rfl, rfl, trivial⟩ ⟨Chg.refl _ _ _, by omega, by omega, fun j hj => by simp at hj⟩ ?_
    rintro i w2 ⟨hx2, hi0, hi1, hall⟩
    focus
      refine c_seq ?_
      refine c_seq ?_
      refine c_region ?_
      refine w_pure (y_move rfl) rfl ?_
      refine w_pure (y_move rfl) rfl ?_
      refine w_pure (y_len rfl) rfl ?_
      refine w_pure (y_lt rfl rfl) rfl ?_
      refine w_nil ?_
      refine x_next ?_
      (refine c_dec rfl (fun hc => ?_) (fun hc => ?_) <;> try (exfalso; omega))
      refine c_skip ?_
      refine x_next ?_
      refine c_seq ?_
      refine c_block ?_
      refine c_seq ?_
      refine c_region_quiet mixed (by kernel_rfl) ?_
      refine q_pure (y_move rfl) rfl ?_
      refine q_pure (y_move rfl) rfl ?_
      refine q_pure (y_index rfl rfl) rfl ?_
      refine q_pure (y_load_int rfl) rfl ?_
      refine q_pure (y_move rfl) rfl ?_
      refine q_pure (y_move rfl) rfl ?_
      refine q_pure (y_index rfl rfl) rfl ?_
      refine q_pure (y_load_int rfl) rfl ?_
      refine q_pure (y_ne rfl rfl) rfl ?_
      refine q_nil (fun wq hxq hzq => ?_)
      refine x_next ?_
      (refine c_dec rfl (fun hc => ?_) (fun hc => ?_) <;> try (exfalso; omega))
      refine c_seq ?_
      refine c_region ?_
      refine w_pure (y_assign rfl) rfl ?_
      refine w_nil ?_
      refine x_next ?_
      refine c_ret ?_
      refine x_block_ret ?_
      refine x_then_ret ?_
      refine x_then_ret ?_
      refine x_block_ret ?_
      refine x_then_ret ?_
      rotate_left
      refine c_skip ?_
      refine x_block_norm ?_
      refine x_next ?_
      refine c_region ?_
      refine w_pure (y_move rfl) rfl ?_
      refine w_pure (y_add rfl rfl) rfl ?_
      refine w_pure (y_assign rfl) rfl ?_
      refine w_nil ?_
      rotate_left
      refine c_exit ?_
      refine x_then_exit ?_
      refine x_then_exit ?_
      refine x_block_hit ?_
      refine x_next ?_
      refine c_seq ?_
      refine c_region ?_
      refine w_pure (y_assign rfl) rfl ?_
      refine w_nil ?_
      refine x_next ?_
      refine c_ret ?_
      rotate_left
    · refine x_retv [_] rfl ⟨rfl, trivial⟩ ⟨?_, by (repeat (first | exact Chg.refl _ _ _ | assumption | refine Chg.next ?_ (by assumption) (by omega)))⟩
      have : ¬ xs = ys := fun e => hc (by rw [e])
      simp [ofResults, this]
    · refine x_again (i + 1) ⟨rfl, rfl, rfl, trivial⟩ ⟨by (repeat (first | exact Chg.refl _ _ _ | assumption | refine Chg.next ?_ (by assumption) (by omega))), by omega, by omega, fun j hj => ?_⟩ (by omega)
      by_cases e : j = i.toNat
      · subst e; exact Decidable.not_not.1 hc
      · exact hall j (by omega)
    · refine x_retv [_] rfl ⟨rfl, trivial⟩ ⟨?_, by (repeat (first | exact Chg.refl _ _ _ | assumption | refine Chg.next ?_ (by assumption) (by omega)))⟩
      have : xs = ys := list_ext hl fun j hj => hall j (by omega)
      simp [ofResults, this]
  · refine ret_enter Tryz.func100 rfl Tryz.ntmps100 rfl ?_
    focus
      refine c_seq ?_
      refine c_region ?_
      refine w_pure (y_assign rfl) rfl ?_
      refine w_nil ?_
      refine x_next ?_
      refine c_seq ?_
      refine c_seq ?_
      refine c_region ?_
      refine w_pure (y_move rfl) rfl ?_
      refine w_pure (y_len rfl) rfl ?_
      refine w_pure (y_move rfl) rfl ?_
      refine w_pure (y_len rfl) rfl ?_
      refine w_pure (y_ne rfl rfl) rfl ?_
      refine w_nil ?_
      refine x_next ?_
      (refine c_dec rfl (fun hc => ?_) (fun hc => ?_) <;> try (exfalso; omega))
      refine c_seq ?_
      refine c_region ?_
      refine w_pure (y_assign rfl) rfl ?_
      refine w_nil ?_
      refine x_next ?_
      refine c_ret ?_
      refine x_then_ret ?_
      rotate_left
    refine x_retv [_] rfl ⟨rfl, trivial⟩ ⟨?_, by (repeat (first | exact Chg.refl _ _ _ | assumption | refine Chg.next ?_ (by assumption) (by omega)))⟩
    have : ¬ xs = ys := fun e => hl (by rw [e])
    simp [ofResults, this]
end
end Go.Proofs.YtihnhelkfiaimaaGreatDoor

/- Contracts: counters that the laws draw. -/
import Derived.Test.YtgkljfncpgbngaaDoorBalA
namespace Go.Proofs.YtgkljfncpgbngaaDoor
open Go Go.Gw
set_option linter.unusedVariables false
set_option linter.unusedSimpArgs false
theorem powB {k : Nat} (h : k ≤ 4) : 1 ≤ (10 : Int) ^ k ∧ (10 : Int) ^ k ≤ 10000 := ⟨by have := pow10_pos k; omega, pow10_le h⟩
theorem last_bd {xs : List Int} (h : ∀ x ∈ xs, -10000 ≤ x ∧ x ≤ 10000) (i : Nat) : -10000 ≤ xs.getD i 0 ∧ xs.getD i 0 ≤ 10000 := by
  by_cases hi : i < xs.length
  · exact h _ (getD_in hi)
  · rw [List.getD_eq_getElem?_getD, List.getElem?_eq_none (by omega)]; simp
theorem snoc_bd {xs : List Int} {y : Int} (h : ∀ x ∈ xs, -10000 ≤ x ∧ x ≤ 10000) (hy : -10000 ≤ y ∧ y ≤ 10000) : ∀ x ∈ xs ++ [y], -10000 ≤ x ∧ x ≤ 10000 := fun x hx => by
  rw [List.mem_append, List.mem_singleton] at hx
  rcases hx with hx | rfl
  · exact h x hx
  · exact hy
section
variable {w : World} {lo hi b l9 k9 : Nat} {B : Int} {v : Value} {p : List UInt8} {xs : List Int}
theorem srcAmong_z (hs : SL w l9 k9 v xs := by repeat (first | assumption | exact Go.Gw.Own.sl (by assumption) | exact Go.Gw.Box.at (by assumption) | exact Go.Gw.SLL.el (by first | assumption | exact Go.Gw.OwnD.sll (by assumption)) _ (by omega) | exact Go.Gw.SLL.at (by first | assumption | exact Go.Gw.OwnD.sll (by assumption)) (by omega) | exact Go.Gw.OwnD.sll (by assumption) | (apply Go.Gw.SL.chg; case hx => assumption) | (apply Go.Gw.Own.chg; case hx => assumption) | (apply Go.Gw.Box.chg; case hx => assumption) | (apply Go.Gw.At.chg; case hx => assumption) | exact .inl (Nat.zero_le _) | exact .inr (Nat.zero_le _) | (show _ ∨ _; omega))) (h : Src w lo hi b B := by assumption) (hB : B ≤ 10000000000 := by omega) (hn : 1 ≤ xs.length ∧ xs.length ≤ 1000 := by first | omega | (simp only [List.length_cons, List.length_nil]; omega)) (hd : b < l9 ∨ k9 ≤ b := by omega) : Ret Tryd.prog 71 [ptr b 0, v] w fun u w' => ∃ x, u = .int .i64 x ∧ x ∈ xs ∧ Src w' lo hi b (B + 2) ∧ Chg b (b + 1) w w' := by
  have htop := h.top
  have E : Since b (b + 1) w w := Since.refl _ _ _
  refine ret_enter Tryd.func71 rfl Tryd.ntmps71 rfl ?_
  focus
    have ht_hs := hs.top
    have ht_h := h.top
    refine c_seq ?_
    refine c_region ?_
    refine w_pure (y_assign rfl) rfl ?_
    refine w_nil ?_
    refine x_next ?_
    refine c_seq ?_
    refine c_region ?_
    refine w_pure (y_move rfl) rfl ?_
    refine w_pure (y_move rfl) rfl ?_
    refine w_pure (y_move rfl) rfl ?_
    refine w_pure (y_len rfl) rfl ?_
    (refine w_call rfl rfl rfl (srcPick_z _) rfl ?_; rintro _ w9 ⟨x9, ⟨rfl, ⟨⟨hp1_9, hp2_9⟩, ⟨hp3_9, hx9⟩⟩⟩⟩)
    have hz_hx9 := hx9.size
    replace hs := hs.chg hx9 (by omega)
    replace E := E.trans hx9
    refine w_pure (y_index rfl rfl) rfl ?_
    refine w_pure (y_load_int rfl) rfl ?_
    refine w_pure (y_assign rfl) rfl ?_
    refine w_nil ?_
    refine x_next ?_
    refine c_ret ?_
    rotate_left
  exact x_retv [_] rfl ⟨rfl, trivial⟩ ⟨_, rfl, getD_in (by omega), hp3_9, E.go⟩
theorem l00MinB_c (a b : Int) : Pur Tryd.prog 103 [.int .i64 a, .int .i64 b] (.int .i64 (min a b)) := by
  refine ⟨fun w => ?_⟩
  refine ret_enter Tryd.func103 rfl Tryd.ntmps103 rfl ?_
  focus
    refine c_seq ?_
    refine c_region ?_
    refine w_pure (y_assign rfl) rfl ?_
    refine w_nil ?_
    refine x_next ?_
    refine c_seq ?_
    refine c_seq ?_
    refine c_region ?_
    refine w_pure (y_move rfl) rfl ?_
    refine w_pure (y_move rfl) rfl ?_
    refine w_pure (y_lt rfl rfl) rfl ?_
    refine w_nil ?_
    refine x_next ?_
    (refine c_dec rfl (fun hc7 => ?_) (fun hc7 => ?_) <;> try (first | exact absurd rfl hc7 | contradiction | exact Bool.noConfusion (show false = true from hc7.symm.trans (by assumption)) | exact Bool.noConfusion (show true = false from hc7.symm.trans (by assumption)) | (exfalso; omega) | (exfalso; simp only [*, Bool.not_true, Bool.not_false, reduceCtorEq] at hc7; done)))
    refine c_seq ?_
    refine c_region ?_
    refine w_pure (y_move rfl) rfl ?_
    refine w_pure (y_assign rfl) rfl ?_
    refine w_nil ?_
    refine x_next ?_
    refine c_ret ?_
    refine x_then_ret ?_
    rotate_left
    refine c_skip ?_
    refine x_next ?_
    refine c_seq ?_
    refine c_region ?_
    refine w_pure (y_move rfl) rfl ?_
    refine w_pure (y_assign rfl) rfl ?_
    refine w_nil ?_
    refine x_next ?_
    refine c_ret ?_
    rotate_left
  all_goals refine x_retv [_] rfl ⟨rfl, trivial⟩ ⟨?_, rfl⟩
  all_goals simp only [ofResults]; congr 1; omega
end
end Go.Proofs.YtgkljfncpgbngaaDoor

/- Contracts: reading a counter from its text; the number that it shows. -/
import Derived.Test.YtgkljfncpgbngaaDoorCntE
namespace Go.Proofs.YtgkljfncpgbngaaDoor
open Go Go.Gw
set_option linter.unusedVariables false
set_option linter.unusedSimpArgs false

def rdg (s : List UInt8) : List Int := s.reverse.map fun b => (b.toNat : Int) - 48
theorem rdg_drop {s : List UInt8} {i : Nat} (h : i < s.length) : rdg (s.drop i) = rdg (s.drop (i + 1)) ++ [((s.getD i 0).toNat : Int) - 48] := by
  rw [List.drop_eq_getElem_cons h, rdg, List.reverse_cons, List.map_append, List.getD_eq_getElem?_getD, List.getElem?_eq_getElem h]; rfl
theorem rdg_len (s : List UInt8) : (rdg s).length = s.length := by simp [rdg]
section
variable {w : World} {v : Value} {xs : List Int} {lo hi b : Nat}
theorem iNumberShown_c (h : SL w lo hi v xs := by repeat (first | assumption | exact Go.Gw.Own.sl (by assumption) | exact Go.Gw.Box.at (by assumption) | exact Go.Gw.SLL.el (by first | assumption | exact Go.Gw.OwnD.sll (by assumption)) _ (by omega) | exact Go.Gw.SLL.at (by first | assumption | exact Go.Gw.OwnD.sll (by assumption)) (by omega) | exact Go.Gw.OwnD.sll (by assumption) | (apply Go.Gw.SL.chg; case hx => assumption) | (apply Go.Gw.Own.chg; case hx => assumption) | (apply Go.Gw.Box.chg; case hx => assumption) | (apply Go.Gw.At.chg; case hx => assumption) | exact .inl (Nat.zero_le _) | exact .inr (Nat.zero_le _) | (show _ ∨ _; omega))) : Val Tryd.prog 52 [.agg #[v]] w (.tuple #[.int .i64 (if okC xs then valD xs else 0), .int .i64 (if okC xs then 0 else 1)]) := by
  refine ⟨fun w1 hx1 => ?_⟩
  by_cases hk : okC xs = true
  · refine ret_enter Tryd.func52 rfl Tryd.ntmps52 rfl ?_
    focus
      refine c_seq ?_
      refine c_region ?_
      refine w_box rfl (k := fun bb wb hbb hxb hlb hsb => ?_)
      refine w_pure (y_assign rfl) rfl ?_
      refine w_pure (y_assign rfl) rfl ?_
      refine w_nil ?_
      refine x_next ?_
      refine c_seq ?_
      refine c_seq ?_
      refine c_region ?_
      refine w_pure (y_load_boxs rfl) rfl ?_
      refine w_val rfl rfl rfl (iValidCounter_c (xs := xs)) rfl (fun w4 hx4 hz4 => ?_)
      refine w_pure (y_not rfl) rfl ?_
      refine w_nil ?_
      refine x_next ?_
      (refine c_not rfl (fun hc => ?_) (fun hc => ?_))
      refine c_seq ?_
      refine c_region ?_
      refine w_pure (y_assign rfl) rfl ?_
      refine w_pure (y_assign rfl) rfl ?_
      refine w_nil ?_
      refine x_next ?_
      refine c_ret ?_
      refine x_then_ret ?_
      rotate_left
      refine c_skip ?_
      refine x_next ?_
      refine c_seq ?_
      refine c_region ?_
      refine w_pure (y_load_boxs rfl) rfl ?_
      refine w_val rfl rfl rfl (shown_c hk) rfl (fun w4 hx4 hz4 => ?_)
      refine w_pure (y_assign rfl) rfl ?_
      refine w_pure (y_assign rfl) rfl ?_
      refine w_nil ?_
      refine x_next ?_
      refine c_ret ?_
      rotate_left
    · exact absurd hk (by simpa using hc)
    · exact x_retv [_, _] rfl ⟨rfl, rfl, trivial⟩ ⟨by rw [if_pos hk, if_pos hk]; rfl, by (repeat (first | exact Chg.refl _ _ _ | assumption | refine Chg.next ?_ (by assumption) (by omega)))⟩
  · refine ret_enter Tryd.func52 rfl Tryd.ntmps52 rfl ?_
    focus
      refine c_seq ?_
      refine c_region ?_
      refine w_box rfl (k := fun bb wb hbb hxb hlb hsb => ?_)
      refine w_pure (y_assign rfl) rfl ?_
      refine w_pure (y_assign rfl) rfl ?_
      refine w_nil ?_
      refine x_next ?_
      refine c_seq ?_
      refine c_seq ?_
      refine c_region ?_
      refine w_pure (y_load_boxs rfl) rfl ?_
      refine w_val rfl rfl rfl (iValidCounter_c (xs := xs)) rfl (fun w4 hx4 hz4 => ?_)
      refine w_pure (y_not rfl) rfl ?_
      refine w_nil ?_
      refine x_next ?_
      (refine c_not rfl (fun hc => ?_) (fun hc => ?_))
      refine c_seq ?_
      refine c_region ?_
      refine w_pure (y_assign rfl) rfl ?_
      refine w_pure (y_assign rfl) rfl ?_
      refine w_nil ?_
      refine x_next ?_
      refine c_ret ?_
      refine x_then_ret ?_
      rotate_left
      refine c_skip ?_
      refine x_next ?_
      refine c_seq ?_
      refine c_region ?_
      refine w_pure (y_load_boxs rfl) rfl ?_
      rotate_left
    · exact x_retv [_, _] rfl ⟨rfl, rfl, trivial⟩ ⟨by rw [if_neg hk, if_neg hk]; rfl, by (repeat (first | exact Chg.refl _ _ _ | assumption | refine Chg.next ?_ (by assumption) (by omega)))⟩
    · exact absurd hc hk
end
end Go.Proofs.YtgkljfncpgbngaaDoor

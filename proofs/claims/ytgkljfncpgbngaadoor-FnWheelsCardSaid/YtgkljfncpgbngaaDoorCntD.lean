/- Contracts: the number that a counter shows; its text. -/
import Derived.Test.YtgkljfncpgbngaaDoorCnt
namespace Go.Proofs.YtgkljfncpgbngaaDoor
open Go Go.Gw
set_option linter.unusedVariables false
set_option linter.unusedSimpArgs false

/-- the number of digits, the lowest first -/
def valD : List Int → Int
  | [] => 0
  | d :: r => d + 10 * valD r
theorem valD_drop {xs : List Int} {i : Nat} (h : i < xs.length) : valD (xs.drop i) = xs.getD i 0 + 10 * valD (xs.drop (i + 1)) := by
  rw [List.drop_eq_getElem_cons h, valD, List.getD_eq_getElem?_getD, List.getElem?_eq_getElem h]; rfl
theorem valD_bd : ∀ {xs : List Int}, (∀ d ∈ xs, 0 ≤ d ∧ d ≤ 9) → 0 ≤ valD xs ∧ valD xs < 10 ^ xs.length
  | [], _ => by simp [valD]
  | d :: r, h => by
    have h1 := valD_bd (xs := r) (fun d hd => h d (by simp [hd]))
    have h2 := h d (by simp)
    rw [valD, List.length_cons, Int.pow_succ]
    omega
theorem valD_drop_bd {xs : List Int} (h : okC xs = true) (i : Nat) : 0 ≤ valD (xs.drop i) ∧ valD (xs.drop i) < 1000000000000 := by
  have h1 := valD_bd (xs := xs.drop i) (fun d hd => okC_dig h d (List.mem_of_mem_drop hd))
  have h2 := okC_len h
  have h3 : (10 : Int) ^ (xs.drop i).length ≤ 10 ^ 12 := pow10_le (by simp; omega)
  have h4 : (10 : Int) ^ 12 = 1000000000000 := by decide
  omega
section
variable {w : World} {v : Value} {xs : List Int} {lo hi b : Nat}
theorem shown_c (hk : okC xs = true) (h : SL w lo hi v xs := by repeat (first | assumption | exact Go.Gw.Own.sl (by assumption) | exact Go.Gw.Box.at (by assumption) | exact Go.Gw.SLL.el (by first | assumption | exact Go.Gw.OwnD.sll (by assumption)) _ (by omega) | exact Go.Gw.SLL.at (by first | assumption | exact Go.Gw.OwnD.sll (by assumption)) (by omega) | exact Go.Gw.OwnD.sll (by assumption) | (apply Go.Gw.SL.chg; case hx => assumption) | (apply Go.Gw.Own.chg; case hx => assumption) | (apply Go.Gw.Box.chg; case hx => assumption) | (apply Go.Gw.At.chg; case hx => assumption) | exact .inl (Nat.zero_le _) | exact .inr (Nat.zero_le _) | (show _ ∨ _; omega))) : Val Tryd.prog 89 [.agg #[v]] w (.int .i64 (valD xs)) := by
  refine ⟨fun w1 hx1 => ?_⟩
  have hlen := okC_len hk
  refine ret_enter Tryd.func89 rfl Tryd.ntmps89 rfl ?_
  focus
    refine c_seq ?_
    refine c_region ?_
    refine w_box rfl (k := fun bb wb hbb hxb hlb hsb => ?_)
    refine w_pure (y_assign rfl) rfl ?_
    refine w_nil ?_
    refine x_next ?_
    refine c_seq ?_
    refine c_region ?_
    refine w_pure (y_assign rfl) rfl ?_
    refine w_nil ?_
    refine x_next ?_
    refine c_seq ?_
    refine c_seq ?_
    refine c_region ?_
    refine w_pure (y_field rfl) rfl ?_
    refine w_pure (y_load_box rfl) rfl ?_
    refine w_pure (y_len rfl) rfl ?_
    refine w_pure (y_sub rfl rfl) rfl ?_
    refine w_pure (y_assign rfl) rfl ?_
    refine w_nil ?_
    refine x_next ?_
    refine c_block ?_
    rotate_left
  refine c_loop (ι := Int × Int) (fun x => [(1, ptr bb 0), (3, .int .i64 x.2), (4, .int .i64 x.1)]) (fun x w' => Ext wb w' ∧ -1 ≤ x.1 ∧ x.1 < xs.length ∧ x.2 = valD (xs.drop (x.1 + 1).toNat)) (fun x => (x.1 + 1).toNat) (xs.length - 1, 0)
    ⟨rfl, rfl, rfl, trivial⟩ ⟨Chg.refl _ _ _, by dsimp only; omega, by dsimp only; omega, by dsimp only; rw [show ((xs.length : Int) - 1 + 1).toNat = xs.length by omega, List.drop_length]; rfl⟩ ?_
  rintro ⟨i, n⟩ w2 ⟨hx2, hi0, hi1, hn⟩
  dsimp only at *
  have hb1 := valD_drop_bd hk (i + 1).toNat
  have hd := fun h => okC_getD hk i.toNat h
  focus
    refine c_seq ?_
    refine c_seq ?_
    refine c_region ?_
    refine w_pure (y_move rfl) rfl ?_
    refine w_pure (y_ge rfl rfl) rfl ?_
    refine w_nil ?_
    refine x_next ?_
    (refine c_dec rfl (fun hc => ?_) (fun hc => ?_) <;> try (first | (exfalso; omega) | exact absurd rfl hc))
    refine c_skip ?_
    refine x_next ?_
    refine c_seq ?_
    refine c_block ?_
    refine c_region ?_
    refine w_pure (y_move rfl) rfl ?_
    refine w_pure (y_mul rfl rfl) rfl ?_
    refine w_pure (y_field rfl) rfl ?_
    refine w_pure (y_load_box rfl) rfl ?_
    refine w_pure (y_move rfl) rfl ?_
    refine w_pure (y_index rfl rfl) rfl ?_
    refine w_pure (y_load_int rfl) rfl ?_
    refine w_pure (y_add rfl rfl) rfl ?_
    refine w_pure (y_assign rfl) rfl ?_
    refine w_nil ?_
    refine x_block_norm ?_
    refine x_next ?_
    refine c_region ?_
    refine w_pure (y_move rfl) rfl ?_
    refine w_pure (y_sub rfl rfl) rfl ?_
    refine w_pure (y_assign rfl) rfl ?_
    refine w_nil ?_
    rotate_left
    refine c_exit ?_
    refine x_then_exit ?_
    refine x_then_exit ?_
    refine x_block_hit ?_
    refine x_next ?_
    refine c_seq ?_
    refine c_region ?_
    refine w_pure (y_move rfl) rfl ?_
    refine w_pure (y_assign rfl) rfl ?_
    refine w_nil ?_
    refine x_next ?_
    refine c_ret ?_
    rotate_left
  · have hd' := hd (by omega)
    refine x_again (i - 1, 10 * n + xs.getD i.toNat 0) ⟨rfl, rfl, rfl, trivial⟩ ⟨by (repeat (first | exact Chg.refl _ _ _ | assumption | refine Chg.next ?_ (by assumption) (by omega))), by dsimp only; omega, by dsimp only; omega, ?_⟩ (by dsimp only; omega)
    dsimp only
    rw [show (i - 1 + 1).toNat = i.toNat by omega, valD_drop (by omega), hn, show (i + 1).toNat = i.toNat + 1 by omega]
    omega
  · refine x_retv [_] rfl ⟨rfl, trivial⟩ ⟨?_, by (repeat (first | exact Chg.refl _ _ _ | assumption | refine Chg.next ?_ (by assumption) (by omega)))⟩
    rw [hn, show (i + 1).toNat = 0 by omega]
    rfl
theorem l11Value_c (hk : okC xs = true) (h : SL w lo hi v xs := by repeat (first | assumption | exact Go.Gw.Own.sl (by assumption) | exact Go.Gw.Box.at (by assumption) | exact Go.Gw.SLL.el (by first | assumption | exact Go.Gw.OwnD.sll (by assumption)) _ (by omega) | exact Go.Gw.SLL.at (by first | assumption | exact Go.Gw.OwnD.sll (by assumption)) (by omega) | exact Go.Gw.OwnD.sll (by assumption) | (apply Go.Gw.SL.chg; case hx => assumption) | (apply Go.Gw.Own.chg; case hx => assumption) | (apply Go.Gw.Box.chg; case hx => assumption) | (apply Go.Gw.At.chg; case hx => assumption) | exact .inl (Nat.zero_le _) | exact .inr (Nat.zero_le _) | (show _ ∨ _; omega))) (hp : At w b 0 [v] := by repeat (first | assumption | exact Go.Gw.Own.sl (by assumption) | exact Go.Gw.Box.at (by assumption) | exact Go.Gw.SLL.el (by first | assumption | exact Go.Gw.OwnD.sll (by assumption)) _ (by omega) | exact Go.Gw.SLL.at (by first | assumption | exact Go.Gw.OwnD.sll (by assumption)) (by omega) | exact Go.Gw.OwnD.sll (by assumption) | (apply Go.Gw.SL.chg; case hx => assumption) | (apply Go.Gw.Own.chg; case hx => assumption) | (apply Go.Gw.Box.chg; case hx => assumption) | (apply Go.Gw.At.chg; case hx => assumption) | exact .inl (Nat.zero_le _) | exact .inr (Nat.zero_le _) | (show _ ∨ _; omega))) : Val Tryd.prog 85 [ptr b 0] w (.int .i64 (valD xs)) := by
  refine ⟨fun w1 hx1 => ?_⟩
  have hlen := okC_len hk
  refine ret_enter Tryd.func85 rfl Tryd.ntmps85 rfl ?_
  focus
    refine c_seq ?_
    refine c_region ?_
    refine w_pure (y_assign rfl) rfl ?_
    refine w_nil ?_
    refine x_next ?_
    refine c_seq ?_
    refine c_region ?_
    refine w_pure (y_assign rfl) rfl ?_
    refine w_nil ?_
    refine x_next ?_
    refine c_seq ?_
    refine c_seq ?_
    refine c_region ?_
    refine w_pure (y_move rfl) rfl ?_
    refine w_pure (y_nil rfl) rfl ?_
    refine w_pure (y_field rfl) rfl ?_
    refine w_pure (y_loadk rfl) rfl ?_
    refine w_pure (y_len rfl) rfl ?_
    refine w_pure (y_sub rfl rfl) rfl ?_
    refine w_pure (y_assign rfl) rfl ?_
    refine w_nil ?_
    refine x_next ?_
    refine c_block ?_
    rotate_left
  refine c_loop (ι := Int × Int) (fun x => [(0, ptr b 0), (3, .int .i64 x.2), (4, .int .i64 x.1)]) (fun x w' => Ext w1 w' ∧ -1 ≤ x.1 ∧ x.1 < xs.length ∧ x.2 = valD (xs.drop (x.1 + 1).toNat)) (fun x => (x.1 + 1).toNat) (xs.length - 1, 0)
    ⟨rfl, rfl, rfl, trivial⟩ ⟨Chg.refl _ _ _, by dsimp only; omega, by dsimp only; omega, by dsimp only; rw [show ((xs.length : Int) - 1 + 1).toNat = xs.length by omega, List.drop_length]; rfl⟩ ?_
  rintro ⟨i, n⟩ w2 ⟨hx2, hi0, hi1, hn⟩
  dsimp only at *
  have hb1 := valD_drop_bd hk (i + 1).toNat
  have hd := fun h => okC_getD hk i.toNat h
  focus
    refine c_seq ?_
    refine c_seq ?_
    refine c_region ?_
    refine w_pure (y_move rfl) rfl ?_
    refine w_pure (y_ge rfl rfl) rfl ?_
    refine w_nil ?_
    refine x_next ?_
    (refine c_dec rfl (fun hc => ?_) (fun hc => ?_) <;> try (first | (exfalso; omega) | exact absurd rfl hc))
    refine c_skip ?_
    refine x_next ?_
    refine c_seq ?_
    refine c_block ?_
    refine c_region ?_
    refine w_pure (y_move rfl) rfl ?_
    refine w_pure (y_mul rfl rfl) rfl ?_
    refine w_pure (y_move rfl) rfl ?_
    refine w_pure (y_nil rfl) rfl ?_
    refine w_pure (y_field rfl) rfl ?_
    refine w_pure (y_loadk rfl) rfl ?_
    refine w_pure (y_move rfl) rfl ?_
    refine w_pure (y_index rfl rfl) rfl ?_
    refine w_pure (y_load_int rfl) rfl ?_
    refine w_pure (y_add rfl rfl) rfl ?_
    refine w_pure (y_assign rfl) rfl ?_
    refine w_nil ?_
    refine x_block_norm ?_
    refine x_next ?_
    refine c_region ?_
    refine w_pure (y_move rfl) rfl ?_
    refine w_pure (y_sub rfl rfl) rfl ?_
    refine w_pure (y_assign rfl) rfl ?_
    refine w_nil ?_
    rotate_left
    refine c_exit ?_
    refine x_then_exit ?_
    refine x_then_exit ?_
    refine x_block_hit ?_
    refine x_next ?_
    refine c_seq ?_
    refine c_region ?_
    refine w_pure (y_move rfl) rfl ?_
    refine w_pure (y_assign rfl) rfl ?_
    refine w_nil ?_
    refine x_next ?_
    refine c_ret ?_
    rotate_left
  · have hd' := hd (by omega)
    refine x_again (i - 1, 10 * n + xs.getD i.toNat 0) ⟨rfl, rfl, rfl, trivial⟩ ⟨by (repeat (first | exact Chg.refl _ _ _ | assumption | refine Chg.next ?_ (by assumption) (by omega))), by dsimp only; omega, by dsimp only; omega, ?_⟩ (by dsimp only; omega)
    dsimp only
    rw [show (i - 1 + 1).toNat = i.toNat by omega, valD_drop (by omega), hn, show (i + 1).toNat = i.toNat + 1 by omega]
    omega
  · refine x_retv [_] rfl ⟨rfl, trivial⟩ ⟨?_, by (repeat (first | exact Chg.refl _ _ _ | assumption | refine Chg.next ?_ (by assumption) (by omega)))⟩
    rw [hn, show (i + 1).toNat = 0 by omega]
    rfl
end
end Go.Proofs.YtgkljfncpgbngaaDoor

/- Contracts: joining and splitting. -/
import Derived.Test.YtgkljfncpgbngaaDoorCntF
import Derived.Test.YtgkljfncpgbngaaDoorLawA
namespace Go.Proofs.YtgkljfncpgbngaaDoor
open Go Go.Gw
set_option linter.unusedVariables false
set_option linter.unusedSimpArgs false
def joinC (xs ys : List Int) : Int := if okC xs = true ∧ okC ys = true then (if xs.length + ys.length ≤ 12 then 0 else 5) else 1
def resJoin (xs ys : List Int) : List Int := if joinC xs ys = 0 then xs ++ ys else []
theorem resJoin_len (xs ys : List Int) : (resJoin xs ys).length ≤ 12 := by
  by_cases h : okC xs = true ∧ okC ys = true
  · by_cases h2 : xs.length + ys.length ≤ 12
    · simp [resJoin, joinC, h, h2]
    · simp [resJoin, joinC, h, h2]
  · simp [resJoin, joinC, if_neg h]
theorem nines_c (k : Int) (h0 : 0 ≤ k) (h1 : k ≤ 18) : Pur Tryd.prog 86 [.int .i64 k] (.int .i64 (10 ^ k.toNat - 1)) := by
  refine ⟨fun w => ?_⟩
  refine ret_enter Tryd.func86 rfl Tryd.ntmps86 rfl ?_
  focus
    refine c_seq ?_
    refine c_region ?_
    refine w_pure (y_assign rfl) rfl ?_
    refine w_nil ?_
    refine x_next ?_
    refine c_seq ?_
    refine c_region ?_
    refine w_pure (y_assign rfl) rfl ?_
    refine w_nil ?_
    refine x_next ?_
    refine c_seq ?_
    refine c_seq ?_
    refine c_region ?_
    refine w_pure (y_move rfl) rfl ?_
    refine w_pure (y_move rfl) rfl ?_
    refine w_nil ?_
    refine x_next ?_
    refine c_block ?_
    rotate_left
  refine c_loop (ι := Int × Int) (fun x => [(3, .int .i64 x.2), (4, .int .i64 k), (5, .int .i64 x.1)]) (fun x w' => w' = w ∧ 0 ≤ x.1 ∧ x.1 ≤ k ∧ x.2 = 10 ^ x.1.toNat - 1) (fun x => (k - x.1).toNat) (0, 0)
    ⟨rfl, rfl, rfl, trivial⟩ ⟨rfl, by simp, by simp; omega, by simp⟩ ?_
  rintro ⟨i, n⟩ w2 ⟨rfl, hi0, hi1, hn⟩
  dsimp only at *
  have hp1 := pow10_pos i.toNat
  have hp2 := fun h => pow10_18 (k := i.toNat + 1) h
  rw [Int.pow_succ] at hp2
  by_cases hik : i < k
  · have := hp2 (by omega)
    focus
      refine c_seq ?_
      refine c_region ?_
      refine w_pure (y_lt rfl rfl) rfl ?_
      refine w_nil ?_
      refine x_next ?_
      refine c_seq ?_
      (refine c_dec rfl (fun hc6 => ?_) (fun hc6 => ?_) <;> try (first | exact absurd rfl hc6 | contradiction | exact Bool.noConfusion (show false = true from hc6.symm.trans (by assumption)) | exact Bool.noConfusion (show true = false from hc6.symm.trans (by assumption)) | (exfalso; omega) | (exfalso; simp only [*, Bool.not_true, Bool.not_false, reduceCtorEq] at hc6; done)))
      refine c_skip ?_
      refine x_next ?_
      refine c_seq ?_
      refine c_block ?_
      refine c_region ?_
      refine w_pure (y_move rfl) rfl ?_
      refine w_pure (y_mul rfl rfl) rfl ?_
      refine w_pure (y_add rfl rfl) rfl ?_
      refine w_pure (y_assign rfl) rfl ?_
      refine w_nil ?_
      refine x_block_norm ?_
      refine x_next ?_
      refine c_region ?_
      refine w_pure (y_add rfl rfl) rfl ?_
      refine w_pure (y_move rfl) rfl ?_
      refine w_nil ?_
      rotate_left
    refine x_again (i + 1, 10 * n + 9) ⟨rfl, rfl, rfl, trivial⟩ ⟨rfl, by dsimp only; omega, by dsimp only; omega, ?_⟩ (by dsimp only; omega)
    dsimp only
    rw [pow10_succ _ hi0, hn]; omega
  · focus
      refine c_seq ?_
      refine c_region ?_
      refine w_pure (y_lt rfl rfl) rfl ?_
      refine w_nil ?_
      refine x_next ?_
      refine c_seq ?_
      (refine c_dec rfl (fun hc6 => ?_) (fun hc6 => ?_) <;> try (first | exact absurd rfl hc6 | contradiction | exact Bool.noConfusion (show false = true from hc6.symm.trans (by assumption)) | exact Bool.noConfusion (show true = false from hc6.symm.trans (by assumption)) | (exfalso; omega) | (exfalso; simp only [*, Bool.not_true, Bool.not_false, reduceCtorEq] at hc6; done)))
      refine c_exit ?_
      refine x_then_exit ?_
      refine x_then_exit ?_
      refine x_block_hit ?_
      refine x_next ?_
      refine c_seq ?_
      refine c_region ?_
      refine w_pure (y_move rfl) rfl ?_
      refine w_pure (y_assign rfl) rfl ?_
      refine w_nil ?_
      refine x_next ?_
      refine c_ret ?_
      rotate_left
    refine x_retv [_] rfl ⟨rfl, trivial⟩ ⟨?_, rfl⟩
    rw [hn, show i = k by omega]; rfl
section
variable {w : World} {v v' : Value} {xs ys : List Int} {lo hi lo' hi' b b' : Nat}
theorem l11Ok_z (hp : At w b 0 [v] := by repeat (first | assumption | exact Go.Gw.Own.sl (by assumption) | exact Go.Gw.Box.at (by assumption) | exact Go.Gw.SLL.el (by first | assumption | exact Go.Gw.OwnD.sll (by assumption)) _ (by omega) | exact Go.Gw.SLL.at (by first | assumption | exact Go.Gw.OwnD.sll (by assumption)) (by omega) | exact Go.Gw.OwnD.sll (by assumption) | (apply Go.Gw.SL.chg; case hx => assumption) | (apply Go.Gw.Own.chg; case hx => assumption) | (apply Go.Gw.Box.chg; case hx => assumption) | (apply Go.Gw.At.chg; case hx => assumption) | exact .inl (Nat.zero_le _) | exact .inr (Nat.zero_le _) | (show _ ∨ _; omega))) (h : SL w lo hi v xs := by repeat (first | assumption | exact Go.Gw.Own.sl (by assumption) | exact Go.Gw.Box.at (by assumption) | exact Go.Gw.SLL.el (by first | assumption | exact Go.Gw.OwnD.sll (by assumption)) _ (by omega) | exact Go.Gw.SLL.at (by first | assumption | exact Go.Gw.OwnD.sll (by assumption)) (by omega) | exact Go.Gw.OwnD.sll (by assumption) | (apply Go.Gw.SL.chg; case hx => assumption) | (apply Go.Gw.Own.chg; case hx => assumption) | (apply Go.Gw.Box.chg; case hx => assumption) | (apply Go.Gw.At.chg; case hx => assumption) | exact .inl (Nat.zero_le _) | exact .inr (Nat.zero_le _) | (show _ ∨ _; omega))) : Val Tryd.prog 84 [ptr b 0] w (.bool (okC xs)) := l11Ok_c (h := h) (hp := hp)
theorem l11Value_z (hp : At w b 0 [v] := by repeat (first | assumption | exact Go.Gw.Own.sl (by assumption) | exact Go.Gw.Box.at (by assumption) | exact Go.Gw.SLL.el (by first | assumption | exact Go.Gw.OwnD.sll (by assumption)) _ (by omega) | exact Go.Gw.SLL.at (by first | assumption | exact Go.Gw.OwnD.sll (by assumption)) (by omega) | exact Go.Gw.OwnD.sll (by assumption) | (apply Go.Gw.SL.chg; case hx => assumption) | (apply Go.Gw.Own.chg; case hx => assumption) | (apply Go.Gw.Box.chg; case hx => assumption) | (apply Go.Gw.At.chg; case hx => assumption) | exact .inl (Nat.zero_le _) | exact .inr (Nat.zero_le _) | (show _ ∨ _; omega))) (h : SL w lo hi v xs := by repeat (first | assumption | exact Go.Gw.Own.sl (by assumption) | exact Go.Gw.Box.at (by assumption) | exact Go.Gw.SLL.el (by first | assumption | exact Go.Gw.OwnD.sll (by assumption)) _ (by omega) | exact Go.Gw.SLL.at (by first | assumption | exact Go.Gw.OwnD.sll (by assumption)) (by omega) | exact Go.Gw.OwnD.sll (by assumption) | (apply Go.Gw.SL.chg; case hx => assumption) | (apply Go.Gw.Own.chg; case hx => assumption) | (apply Go.Gw.Box.chg; case hx => assumption) | (apply Go.Gw.At.chg; case hx => assumption) | exact .inl (Nat.zero_le _) | exact .inr (Nat.zero_le _) | (show _ ∨ _; omega))) (hk : okC xs = true := by assumption) : Val Tryd.prog 85 [ptr b 0] w (.int .i64 (valD xs)) := l11Value_c hk (h := h) (hp := hp)
end
end Go.Proofs.YtgkljfncpgbngaaDoor

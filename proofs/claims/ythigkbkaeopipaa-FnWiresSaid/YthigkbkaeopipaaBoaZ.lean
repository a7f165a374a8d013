/- Contracts: what the boards' functions answer where the board is valid. -/
import Derived.Test.YthigkbkaeopipaaBoaB
import Derived.Test.YthigkbkaeopipaaBoaP
import Derived.Test.YthigkbkaeopipaaBrdI
import Derived.Test.YthigkbkaeopipaaBrdJ
import Derived.Test.YthigkbkaeopipaaBrdH
namespace Go.Proofs.Ythigkbkaeopipaa
open Go Go.Gw
set_option linter.unusedVariables false
set_option linter.unusedSimpArgs false
section
variable {w : World} {v v' : Value} {ws us : List (Int × Int)} {lo hi lo' hi' b : Nat} {e n j : Int}
theorem iAddWire_z (x y : Int) (h : SL w lo hi v ws := by repeat (first | assumption | exact Go.Gw.Own.sl (by assumption) | exact Go.Gw.Box.at (by assumption) | exact Go.Gw.SLL.el (by first | assumption | exact Go.Gw.OwnD.sll (by assumption)) _ (by omega) | exact Go.Gw.SLL.at (by first | assumption | exact Go.Gw.OwnD.sll (by assumption)) (by omega) | exact Go.Gw.OwnD.sll (by assumption) | (apply Go.Gw.SL.chg; case hx => assumption) | (apply Go.Gw.Own.chg; case hx => assumption) | (apply Go.Gw.Box.chg; case hx => assumption) | (apply Go.Gw.At.chg; case hx => assumption) | exact .inl (Nat.zero_le _) | exact .inr (Nat.zero_le _) | (show _ ∨ _; omega))) (hk : okB e n j ws = true := by assumption) (hl : ws.length < 40 := by omega) (hr : 0 ≤ x ∧ x < y ∧ y < e + n + j := by omega) : Ret Try.prog 40 [.agg #[.int .i64 e, .int .i64 n, .int .i64 j, v], .agg #[.int .i64 x, .int .i64 y]] w fun u w' =>
    ∃ d, u = .tuple #[.agg #[.int .i64 e, .int .i64 n, .int .i64 j, d], .int .i64 0] ∧ Own w' 76 w.heap.size d (ws ++ [(x, y)]) ∧ Ext w w' := by
  have hc : cAdd e n j ws (x, y) = 0 := by rw [cAdd, if_pos hk, if_neg (by omega), if_pos (by simp [wireB]; omega)]
  refine (iAddWire_c x y h).mono ?_
  rintro u w' ⟨d, h1, h2, h3⟩
  rw [hc] at h1
  rw [resAddW, if_pos hc] at h2
  exact ⟨d, h1, h2, h3⟩
theorem iRemoveWire_z (k : Int) (h : SL w lo hi v ws := by repeat (first | assumption | exact Go.Gw.Own.sl (by assumption) | exact Go.Gw.Box.at (by assumption) | exact Go.Gw.SLL.el (by first | assumption | exact Go.Gw.OwnD.sll (by assumption)) _ (by omega) | exact Go.Gw.SLL.at (by first | assumption | exact Go.Gw.OwnD.sll (by assumption)) (by omega) | exact Go.Gw.OwnD.sll (by assumption) | (apply Go.Gw.SL.chg; case hx => assumption) | (apply Go.Gw.Own.chg; case hx => assumption) | (apply Go.Gw.Box.chg; case hx => assumption) | (apply Go.Gw.At.chg; case hx => assumption) | exact .inl (Nat.zero_le _) | exact .inr (Nat.zero_le _) | (show _ ∨ _; omega))) (hk : okB e n j ws = true := by assumption) (hr : 0 ≤ k ∧ k < ws.length := by first | omega | (simp only [List.length_append, List.length_singleton, List.length_cons, List.length_nil]; omega)) : Ret Try.prog 42 [.agg #[.int .i64 e, .int .i64 n, .int .i64 j, v], .int .i64 k] w fun u w' =>
    ∃ d, u = .tuple #[.agg #[.int .i64 e, .int .i64 n, .int .i64 j, d], .int .i64 0] ∧ Own w' 76 w.heap.size d (remW ws k.toNat) ∧ Ext w w' := by
  have hc : cRem e n j ws k = 0 := by rw [cRem, if_pos hk, if_pos hr]
  have hn := okB_num hk
  refine (iRemoveWire_c (e := e) (n := n) (j := j) k h ⟨by omega, by omega⟩).mono ?_
  rintro u w' ⟨d, h1, h2, h3⟩
  rw [hc] at h1
  rw [resRem, if_pos hc, show (k + 1).toNat = k.toNat + 1 by omega] at h2
  exact ⟨d, h1, h2, h3⟩
theorem sRemoveWire_z (k : Int) (h : SL w lo hi v ws := by repeat (first | assumption | exact Go.Gw.Own.sl (by assumption) | exact Go.Gw.Box.at (by assumption) | exact Go.Gw.SLL.el (by first | assumption | exact Go.Gw.OwnD.sll (by assumption)) _ (by omega) | exact Go.Gw.SLL.at (by first | assumption | exact Go.Gw.OwnD.sll (by assumption)) (by omega) | exact Go.Gw.OwnD.sll (by assumption) | (apply Go.Gw.SL.chg; case hx => assumption) | (apply Go.Gw.Own.chg; case hx => assumption) | (apply Go.Gw.Box.chg; case hx => assumption) | (apply Go.Gw.At.chg; case hx => assumption) | exact .inl (Nat.zero_le _) | exact .inr (Nat.zero_le _) | (show _ ∨ _; omega))) (hk : okB e n j ws = true := by assumption) (hr : 0 ≤ k ∧ k < ws.length := by omega) : Ret Try.prog 32 [.agg #[.int .i64 e, .int .i64 n, .int .i64 j, v], .int .i64 k] w fun u w' =>
    ∃ d, u = .tuple #[.agg #[.int .i64 e, .int .i64 n, .int .i64 j, d], .int .i64 0] ∧ Own w' 76 w.heap.size d (remW ws k.toNat) ∧ Ext w w' := by
  have hc : cRem e n j ws k = 0 := by rw [cRem, if_pos hk, if_pos hr]
  have hn := okB_num hk
  refine (sRemoveWire_c (e := e) (n := n) (j := j) k h ⟨by omega, by omega⟩).mono ?_
  rintro u w' ⟨d, h1, h2, h3⟩
  rw [hc] at h1
  rw [resRem, if_pos hc, show (k + 1).toNat = k.toNat + 1 by omega] at h2
  exact ⟨d, h1, h2, h3⟩
theorem iNetsOf_z (h : SL w lo hi v ws := by repeat (first | assumption | exact Go.Gw.Own.sl (by assumption) | exact Go.Gw.Box.at (by assumption) | exact Go.Gw.SLL.el (by first | assumption | exact Go.Gw.OwnD.sll (by assumption)) _ (by omega) | exact Go.Gw.SLL.at (by first | assumption | exact Go.Gw.OwnD.sll (by assumption)) (by omega) | exact Go.Gw.OwnD.sll (by assumption) | (apply Go.Gw.SL.chg; case hx => assumption) | (apply Go.Gw.Own.chg; case hx => assumption) | (apply Go.Gw.Box.chg; case hx => assumption) | (apply Go.Gw.At.chg; case hx => assumption) | exact .inl (Nat.zero_le _) | exact .inr (Nat.zero_le _) | (show _ ∨ _; omega))) (hk : okB e n j ws = true := by assumption) : Ret Try.prog 45 [.agg #[.int .i64 e, .int .i64 n, .int .i64 j, v]] w fun u w' => ∃ d sus, u = .tuple #[d, .int .i64 0] ∧ OwnD w' 38 w.heap.size w'.heap.size sus d (resNets e n j ws) ∧ Ext w w' := by
  have hc : cBrd e n j ws = 0 := by rw [cBrd, if_pos hk]
  have := iNetsOf_c (e := e) (n := n) (j := j) h
  rwa [hc] at this
theorem sNetsOf_z (h : SL w lo hi v ws := by repeat (first | assumption | exact Go.Gw.Own.sl (by assumption) | exact Go.Gw.Box.at (by assumption) | exact Go.Gw.SLL.el (by first | assumption | exact Go.Gw.OwnD.sll (by assumption)) _ (by omega) | exact Go.Gw.SLL.at (by first | assumption | exact Go.Gw.OwnD.sll (by assumption)) (by omega) | exact Go.Gw.OwnD.sll (by assumption) | (apply Go.Gw.SL.chg; case hx => assumption) | (apply Go.Gw.Own.chg; case hx => assumption) | (apply Go.Gw.Box.chg; case hx => assumption) | (apply Go.Gw.At.chg; case hx => assumption) | exact .inl (Nat.zero_le _) | exact .inr (Nat.zero_le _) | (show _ ∨ _; omega))) (hk : okB e n j ws = true := by assumption) : Ret Try.prog 47 [.agg #[.int .i64 e, .int .i64 n, .int .i64 j, v]] w fun u w' => ∃ d sus, u = .tuple #[d, .int .i64 0] ∧ OwnD w' 38 w.heap.size w'.heap.size sus d (resNets e n j ws) ∧ Ext w w' := by
  have hc : cBrd e n j ws = 0 := by rw [cBrd, if_pos hk]
  have := sNetsOf_c (e := e) (n := n) (j := j) h
  rwa [hc] at this
theorem iSpareWires_z (h : SL w lo hi v ws := by repeat (first | assumption | exact Go.Gw.Own.sl (by assumption) | exact Go.Gw.Box.at (by assumption) | exact Go.Gw.SLL.el (by first | assumption | exact Go.Gw.OwnD.sll (by assumption)) _ (by omega) | exact Go.Gw.SLL.at (by first | assumption | exact Go.Gw.OwnD.sll (by assumption)) (by omega) | exact Go.Gw.OwnD.sll (by assumption) | (apply Go.Gw.SL.chg; case hx => assumption) | (apply Go.Gw.Own.chg; case hx => assumption) | (apply Go.Gw.Box.chg; case hx => assumption) | (apply Go.Gw.At.chg; case hx => assumption) | exact .inl (Nat.zero_le _) | exact .inr (Nat.zero_le _) | (show _ ∨ _; omega))) (hk : okB e n j ws = true := by assumption) : Ret Try.prog 46 [.agg #[.int .i64 e, .int .i64 n, .int .i64 j, v]] w fun u w' => ∃ d, u = .tuple #[d, .int .i64 0] ∧ Own w' 2 w.heap.size d (resSpare e n j ws) ∧ Ext w w' := by
  have hc : cBrd e n j ws = 0 := by rw [cBrd, if_pos hk]
  have := iSpareWires_c (e := e) (n := n) (j := j) h
  rwa [hc] at this
theorem iSneakPairs_z (h : SL w lo hi v ws := by repeat (first | assumption | exact Go.Gw.Own.sl (by assumption) | exact Go.Gw.Box.at (by assumption) | exact Go.Gw.SLL.el (by first | assumption | exact Go.Gw.OwnD.sll (by assumption)) _ (by omega) | exact Go.Gw.SLL.at (by first | assumption | exact Go.Gw.OwnD.sll (by assumption)) (by omega) | exact Go.Gw.OwnD.sll (by assumption) | (apply Go.Gw.SL.chg; case hx => assumption) | (apply Go.Gw.Own.chg; case hx => assumption) | (apply Go.Gw.Box.chg; case hx => assumption) | (apply Go.Gw.At.chg; case hx => assumption) | exact .inl (Nat.zero_le _) | exact .inr (Nat.zero_le _) | (show _ ∨ _; omega))) (hk : okB e n j ws = true := by assumption) : Ret Try.prog 31 [.agg #[.int .i64 e, .int .i64 n, .int .i64 j, v]] w fun u w' => ∃ d sus, u = .tuple #[d, .int .i64 0] ∧ OwnD w' 38 w.heap.size w'.heap.size sus d (resPair e n j ws) ∧ Ext w w' := by
  have hc : cBrd e n j ws = 0 := by rw [cBrd, if_pos hk]
  have := iSneakPairs_c (e := e) (n := n) (j := j) h
  rwa [hc] at this
theorem sSneakPairs_z (h : SL w lo hi v ws := by repeat (first | assumption | exact Go.Gw.Own.sl (by assumption) | exact Go.Gw.Box.at (by assumption) | exact Go.Gw.SLL.el (by first | assumption | exact Go.Gw.OwnD.sll (by assumption)) _ (by omega) | exact Go.Gw.SLL.at (by first | assumption | exact Go.Gw.OwnD.sll (by assumption)) (by omega) | exact Go.Gw.OwnD.sll (by assumption) | (apply Go.Gw.SL.chg; case hx => assumption) | (apply Go.Gw.Own.chg; case hx => assumption) | (apply Go.Gw.Box.chg; case hx => assumption) | (apply Go.Gw.At.chg; case hx => assumption) | exact .inl (Nat.zero_le _) | exact .inr (Nat.zero_le _) | (show _ ∨ _; omega))) (hk : okB e n j ws = true := by assumption) : Ret Try.prog 33 [.agg #[.int .i64 e, .int .i64 n, .int .i64 j, v]] w fun u w' => ∃ d sus, u = .tuple #[d, .int .i64 0] ∧ OwnD w' 38 w.heap.size w'.heap.size sus d (resPair e n j ws) ∧ Ext w w' := by
  have hc : cBrd e n j ws = 0 := by rw [cBrd, if_pos hk]
  have := sSneakPairs_c (e := e) (n := n) (j := j) h
  rwa [hc] at this
end
theorem remW_snoc (ws : List (Int × Int)) (p : Int × Int) : remW (ws ++ [p]) ws.length = ws := by
  rw [remW, List.take_left' rfl, List.drop_eq_nil_of_le (by simp), List.append_nil]
end Go.Proofs.Ythigkbkaeopipaa

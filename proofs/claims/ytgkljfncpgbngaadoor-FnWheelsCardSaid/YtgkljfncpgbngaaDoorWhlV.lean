/- Contracts: counters and their texts, as the law on wheels calls them. -/
import Derived.Test.YtgkljfncpgbngaaDoorWhlB
namespace Go.Proofs.YtgkljfncpgbngaaDoor
open Go Go.Gw
set_option linter.unusedVariables false
set_option linter.unusedSimpArgs false
theorem nf {p : Prop} {a : Bool} (h : a = false) (h' : a = true) : p := by rw [h] at h'; cases h'
theorem nt {p : Prop} {a : Bool} (h : a = true) (h' : a = false) : p := by rw [h] at h'; cases h'
section
variable {w : World} {lo hi : Nat} {v : Value} {xs : List Int} {s : List UInt8}
theorem iCounterText_e {q : List UInt8} (he : txtC xs = q := by assumption) (h : SL w lo hi v xs := by repeat (first | assumption | exact Go.Gw.Own.sl (by assumption) | exact Go.Gw.Box.at (by assumption) | exact Go.Gw.SLL.el (by first | assumption | exact Go.Gw.OwnD.sll (by assumption)) _ (by omega) | exact Go.Gw.SLL.at (by first | assumption | exact Go.Gw.OwnD.sll (by assumption)) (by omega) | exact Go.Gw.OwnD.sll (by assumption) | (apply Go.Gw.SL.chg; case hx => assumption) | (apply Go.Gw.Own.chg; case hx => assumption) | (apply Go.Gw.Box.chg; case hx => assumption) | (apply Go.Gw.At.chg; case hx => assumption) | exact .inl (Nat.zero_le _) | exact .inr (Nat.zero_le _) | (show _ ∨ _; omega))) : Val Tryd.prog 42 [.agg #[v]] w (str q) := by rw [← he]; unfold txtC; exact iCounterText_c
theorem sCounterText_e {q : List UInt8} (he : txtC xs = q := by assumption) (h : SL w lo hi v xs := by repeat (first | assumption | exact Go.Gw.Own.sl (by assumption) | exact Go.Gw.Box.at (by assumption) | exact Go.Gw.SLL.el (by first | assumption | exact Go.Gw.OwnD.sll (by assumption)) _ (by omega) | exact Go.Gw.SLL.at (by first | assumption | exact Go.Gw.OwnD.sll (by assumption)) (by omega) | exact Go.Gw.OwnD.sll (by assumption) | (apply Go.Gw.SL.chg; case hx => assumption) | (apply Go.Gw.Own.chg; case hx => assumption) | (apply Go.Gw.Box.chg; case hx => assumption) | (apply Go.Gw.At.chg; case hx => assumption) | exact .inl (Nat.zero_le _) | exact .inr (Nat.zero_le _) | (show _ ∨ _; omega))) : Val Tryd.prog 48 [.agg #[v]] w (str q) := by rw [← he]; unfold txtC; exact sCounterText_c
theorem iReadCounter_z (hs : s.length ≤ 1048576 := by omega) : Ret Tryd.prog 43 [str s] w fun u w' => ∃ d, u = .tuple #[.agg #[d], .bool (okC (rdg s))] ∧ Own w' 2 w.heap.size d (if okC (rdg s) then rdg s else []) ∧ Ext w w' := iReadCounter_c w s hs
theorem iReadTxt_d {q : List UInt8} (he : txtC xs = q := by assumption) : Ret Tryd.prog 43 [str q] w fun u w' => ∃ d, u = .tuple #[.agg #[d], .bool (decide (¬ q = []))] ∧ Own w' 2 w.heap.size d (if q = [] then [] else xs) ∧ Ext w w' := by
  have hl := txt_law xs
  have h := iReadCounter_c w (txtC xs) (by omega)
  cases hk : okC xs
  · have e := txt_f hk
    rw [e] at h he
    subst he
    rw [if_pos rfl]
    exact h
  · obtain ⟨c, r, e⟩ := txt_t hk
    rw [hl.1, hl.2.1 hk, hk] at h
    rw [← he, if_neg (by rw [e]; simp), decide_eq_true (by rw [e]; simp)]
    exact h
theorem iReadTxt_t {q : List UInt8} (he : txtC xs = q := by assumption) (hk : okC xs = true := by assumption) : Ret Tryd.prog 43 [str q] w fun u w' => ∃ d, u = .tuple #[.agg #[d], .bool true] ∧ Own w' 2 w.heap.size d xs ∧ Ext w w' := by
  have hl := txt_law xs
  have h := iReadCounter_c w (txtC xs) (by omega)
  rw [hl.1, hl.2.1 hk, hk] at h
  rw [← he]; exact h
theorem iReadTxt_f : Ret Tryd.prog 43 [str []] w fun u w' => ∃ d, u = .tuple #[.agg #[d], .bool false] ∧ Own w' 2 w.heap.size d ([] : List Int) ∧ Ext w w' := iReadCounter_c w [] (by decide)
theorem iNumberShown_v {n : Int} (h : SL w lo hi v xs := by repeat (first | assumption | exact Go.Gw.Own.sl (by assumption) | exact Go.Gw.Box.at (by assumption) | exact Go.Gw.SLL.el (by first | assumption | exact Go.Gw.OwnD.sll (by assumption)) _ (by omega) | exact Go.Gw.SLL.at (by first | assumption | exact Go.Gw.OwnD.sll (by assumption)) (by omega) | exact Go.Gw.OwnD.sll (by assumption) | (apply Go.Gw.SL.chg; case hx => assumption) | (apply Go.Gw.Own.chg; case hx => assumption) | (apply Go.Gw.Box.chg; case hx => assumption) | (apply Go.Gw.At.chg; case hx => assumption) | exact .inl (Nat.zero_le _) | exact .inr (Nat.zero_le _) | (show _ ∨ _; omega))) (hk : okC xs = true := by assumption) (hv : valD xs = n := by assumption) : Val Tryd.prog 52 [.agg #[v]] w (.tuple #[.int .i64 n, .int .i64 0]) := by
  have := iNumberShown_c (h := h)
  rwa [hk, if_pos rfl, if_pos rfl, hv] at this
theorem iAdd_t {n : Int} {ys : List Int} (h : SL w lo hi v xs := by repeat (first | assumption | exact Go.Gw.Own.sl (by assumption) | exact Go.Gw.Box.at (by assumption) | exact Go.Gw.SLL.el (by first | assumption | exact Go.Gw.OwnD.sll (by assumption)) _ (by omega) | exact Go.Gw.SLL.at (by first | assumption | exact Go.Gw.OwnD.sll (by assumption)) (by omega) | exact Go.Gw.OwnD.sll (by assumption) | (apply Go.Gw.SL.chg; case hx => assumption) | (apply Go.Gw.Own.chg; case hx => assumption) | (apply Go.Gw.Box.chg; case hx => assumption) | (apply Go.Gw.At.chg; case hx => assumption) | exact .inl (Nat.zero_le _) | exact .inr (Nat.zero_le _) | (show _ ∨ _; omega))) (hn : In64 n := by assumption) (hT : codeN xs n = 0 ∧ resAdd xs n = ys := by assumption) : Ret Tryd.prog 28 [.agg #[v], .int .i64 n] w fun u w' => ∃ d t, u = .tuple #[.agg #[d], .bool t, .int .i64 0] ∧ Own w' 2 w.heap.size d ys ∧ Ext w w' := by
  refine (iAddToCounter_c n (h := h) (hn := hn)).mono ?_
  rintro u w' ⟨d, rfl, h1, h2⟩
  rw [hT.2] at h1
  exact ⟨d, _, by rw [hT.1], h1, h2⟩
theorem sReadCounter_z (hs : s.length ≤ 1048576 := by omega) : Ret Tryd.prog 45 [str s] w fun u w' => ∃ d, u = .tuple #[.agg #[d], .bool (okC (rdg s))] ∧ Own w' 2 w.heap.size d (if okC (rdg s) then rdg s else []) ∧ Ext w w' := sReadCounter_c w s hs
end
section
end
end Go.Proofs.YtgkljfncpgbngaaDoor

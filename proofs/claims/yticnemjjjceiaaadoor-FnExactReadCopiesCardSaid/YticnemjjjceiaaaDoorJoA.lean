/- Contracts: numbers joined. -/
import Derived.Test.YticnemjjjceiaaaDoorTieA
import Derived.Test.YticnemjjjceiaaaDoorDecB
import Derived.Lib.Join
namespace Go.Proofs.YticnemjjjceiaaaDoor
open Go Go.Gw
set_option linter.unusedVariables false
set_option linter.unusedSimpArgs false
/-- the first i numbers, a blank between -/
def lineTo (xs : List Int) (i : Nat) : List UInt8 := Lib.join ((xs.take i).map Lib.itoa) [32]
def sline (xs : List Int) : List UInt8 := if xs.length = 0 then [45] else lineTo xs xs.length
theorem join_snoc (sep y : List UInt8) : ∀ (l : List (List UInt8)), l ≠ [] → Lib.join (l ++ [y]) sep = Lib.join l sep ++ sep ++ y
  | [], h => absurd rfl h
  | x :: r, _ => by
    rw [List.cons_append, Lib.join_cons, Lib.join_cons]
    simp [Lib.joinTail, List.append_assoc]
theorem take_snoc {xs : List Int} {i : Nat} (h : i < xs.length) : xs.take (i + 1) = xs.take i ++ [xs.getD i 0] := by
  rw [List.take_add_one, List.getD_eq_getElem?_getD, List.getElem?_eq_getElem h]; rfl
theorem lineTo_zero (xs : List Int) : lineTo xs 0 = [] := rfl
theorem lineTo_one {xs : List Int} (h : 0 < xs.length) : lineTo xs 1 = Lib.itoa (xs.getD 0 0) := by
  rw [lineTo, take_snoc h]; exact Lib.join_one _ _
theorem lineTo_succ {xs : List Int} {i : Nat} (h : i < xs.length) (h0 : 0 < i) : lineTo xs (i + 1) = lineTo xs i ++ [32] ++ Lib.itoa (xs.getD i 0) := by
  rw [lineTo, take_snoc h, List.map_append]
  exact join_snoc _ _ _ (by
    intro e
    have h2 := congrArg List.length e
    rw [List.length_map, List.length_take, List.length_nil] at h2; omega)
theorem in64_getD {xs : List Int} (h : ∀ n ∈ xs, In64 n) {i : Nat} (hi : i < xs.length) : In64 (xs.getD i 0) := by
  rw [List.getD_eq_getElem?_getD, List.getElem?_eq_getElem hi]; exact h _ (List.getElem_mem hi)
theorem itoa_pos (n : Int) : 1 ≤ (Lib.itoa n).length := by
  unfold Lib.itoa
  split
  · simp
  · rw [Lib.decDigits_length]; exact nDigits_pos _
theorem lineTo_len {xs : List Int} (h : ∀ n ∈ xs, In64 n) : ∀ i, i ≤ xs.length → (lineTo xs i).length ≤ 21 * i ∧ i ≤ (lineTo xs i).length
  | 0, _ => by simp [lineTo_zero]
  | i + 1, hi => by
    have h1 := lineTo_len h i (by omega)
    have h2 := itoa_len (in64_getD h (i := i) (by omega))
    have h3 := itoa_pos (xs.getD i 0)
    rcases Nat.eq_zero_or_pos i with rfl | h0
    · rw [lineTo_one (by omega)]; omega
    · rw [lineTo_succ (by omega) h0]; simp only [List.length_append, List.length_cons, List.length_nil]; omega
section
variable {w : World} {lo hi B : Nat} {v : Value}
theorem Join_c {xs : List (List UInt8)} {sep : List UInt8} (h : SL w lo hi v xs := by repeat (first | assumption | exact Go.Gw.Own.sl (by assumption) | exact Go.Gw.Box.at (by assumption) | exact Go.Gw.SLL.el (by first | assumption | exact Go.Gw.OwnD.sll (by assumption)) _ (by omega) | exact Go.Gw.SLL.at (by first | assumption | exact Go.Gw.OwnD.sll (by assumption)) (by omega) | exact Go.Gw.OwnD.sll (by assumption) | (apply Go.Gw.SL.chg; case hx => assumption) | (apply Go.Gw.Own.chg; case hx => assumption) | (apply Go.Gw.Box.chg; case hx => assumption) | (apply Go.Gw.At.chg; case hx => assumption) | exact .inl (Nat.zero_le _) | exact .inr (Nat.zero_le _) | (show _ ∨ _; omega))) (hN : xs.length ≤ 140737488355328 := by first | assumption | omega) (hl : (Lib.join xs sep).length ≤ 140737488355328 := by first | assumption | omega) : Val Tryd.prog 27 [v, str sep] w (str (Lib.join xs sep)) := by
  refine ⟨fun w1 hx1 => ⟨?_⟩⟩
  replace h := h.ext hx1
  obtain ⟨a, c, hv, h1, h2, h3⟩ := h.form
  have e : (xs.map fun x => (⟨x.toArray⟩ : ByteArray)).map (·.data.toList) = xs := by
    rw [List.map_map]; simp [Function.comp_def]
  rcases Nat.eq_zero_or_pos xs.length with h0 | h0
  · obtain rfl := List.eq_nil_of_length_eq_zero h0
    rw [hv]
    refine Calls.mono (Tryd.strings_Join_none a c ⟨sep.toArray⟩ w1) ?_
    rintro e w' ⟨rfl, rfl⟩
    exact ⟨_, rfl, rfl, ⟨rfl, rfl, rfl, Nat.le_refl _, fun _ _ _ => rfl⟩⟩
  · have hi := h.inn h0
    have ht := h.top
    have hs := Tryd.strings_Join (sb v) (so v) c (xs.map fun x => ⟨x.toArray⟩) ⟨sep.toArray⟩ w1 (fun j x hj => by
      rw [List.getElem?_map] at hj
      obtain ⟨y, hy, rfl⟩ := Option.map_eq_some_iff.1 hj
      have := (h.el j y hy).go 0 _ rfl
      rw [show Enc.sz (List UInt8) = 1 from rfl, Nat.mul_one, Nat.add_zero] at this
      exact this) (by omega) (by rw [List.length_map]; exact hN) (by rw [List.length_map]; exact h1) (by rw [e]; exact hl)
    rw [List.length_map, e] at hs
    have hv' : v = .slice (some ⟨sb v, so v, none⟩) xs.length c := by rw [← h3 h0]; exact hv
    show Calls Tryd.prog 27 #[v, str sep] w1 _
    rw [show (#[v, str sep] : Array Value) = #[.slice (some ⟨sb v, so v, none⟩) xs.length c, str sep] from congrArg (fun z => #[z, str sep]) hv']
    refine Calls.mono hs ?_
    rintro e w' ⟨rfl, hb⟩
    exact ⟨_, rfl, rfl, Chg.of_below hb⟩
end
end Go.Proofs.YticnemjjjceiaaaDoor

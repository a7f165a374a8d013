/- Contracts: numbers joined. -/
import Derived.Test.YtihnhelkfiaimaaGreatDoorTieA
import Derived.Test.YtihnhelkfiaimaaGreatDoorDecB
import Derived.Lib.Join
namespace Go.Proofs.YtihnhelkfiaimaaGreatDoor
open Go Go.Gw
set_option linter.unusedVariables false
set_option linter.unusedSimpArgs false
/-- the first i numbers, a blank between -/
def lineTo (xs : List Int) (i : Nat) : List UInt8 := Lib.join ((xs.take i).map Lib.itoa) [32]
def sline (xs : List Int) : List UInt8 := if xs.length = 0 then [45] else lineTo xs xs.length
theorem join_snoc (sep y : List UInt8) : ∀ (l : List (List UInt8)), l ≠ [] → Lib.join (l ++ [y]) sep = Lib.join l sep ++ sep ++ y
  | [], h => absurd rfl h
  | x :: r, _ => by
    rw [List.cons_append, Lib.join_cons, Lib.join_cons]
    simp [Lib.joinTail, List.append_assoc]
theorem take_snoc {xs : List Int} {i : Nat} (h : i < xs.length) : xs.take (i + 1) = xs.take i ++ [xs.getD i 0] := by
  rw [List.take_add_one, List.getD_eq_getElem?_getD, List.getElem?_eq_getElem h]; rfl
theorem lineTo_zero (xs : List Int) : lineTo xs 0 = [] := rfl
theorem lineTo_one {xs : List Int} (h : 0 < xs.length) : lineTo xs 1 = Lib.itoa (xs.getD 0 0) := by
  rw [lineTo, take_snoc h]; exact Lib.join_one _ _
theorem lineTo_succ {xs : List Int} {i : Nat} (h : i < xs.length) (h0 : 0 < i) : lineTo xs (i + 1) = lineTo xs i ++ [32] ++ Lib.itoa (xs.getD i 0) := by
  rw [lineTo, take_snoc h, List.map_append]
  exact join_snoc _ _ _ (by
    intro e
    have h2 := congrArg List.length e
    rw [List.length_map, List.length_take, List.length_nil] at h2; omega)
theorem in64_getD {xs : List Int} (h : ∀ n ∈ xs, In64 n) {i : Nat} (hi : i < xs.length) : In64 (xs.getD i 0) := by
  rw [List.getD_eq_getElem?_getD, List.getElem?_eq_getElem hi]; exact h _ (List.getElem_mem hi)
theorem itoa_pos (n : Int) : 1 ≤ (Lib.itoa n).length := by
  unfold Lib.itoa
  split
  · simp
  · rw [Lib.decDigits_length]; exact nDigits_pos _
theorem lineTo_len {xs : List Int} (h : ∀ n ∈ xs, In64 n) : ∀ i, i ≤ xs.length → (lineTo xs i).length ≤ 21 * i ∧ i ≤ (lineTo xs i).length
  | 0, _ => by simp [lineTo_zero]
  | i + 1, hi => by
    have h1 := lineTo_len h i (by omega)
    have h2 := itoa_len (in64_getD h (i := i) (by omega))
    have h3 := itoa_pos (xs.getD i 0)
    rcases Nat.eq_zero_or_pos i with rfl | h0
    · rw [lineTo_one (by omega)]; omega
    · rw [lineTo_succ (by omega) h0]; simp only [List.length_append, List.length_cons, List.length_nil]; omega
section
variable {w : World} {lo hi B : Nat} {v : Value}
theorem Join_c {xs : List (List UInt8)} {sep : List UInt8} (h : SL w lo hi v xs := by repeat (first | assumption | exact Go.Gw.Own.sl (by assumption) | exact Go.Gw.Box.at (by assumption) | exact Go.Gw.SLL.el (by first | assumption | exact Go.Gw.OwnD.sll (by assumption)) _ (by omega) | exact Go.Gw.SLL.at (by first | assumption | exact Go.Gw.OwnD.sll (by assumption)) (by omega) | exact Go.Gw.OwnD.sll (by assumption) | (apply Go.Gw.SL.chg; case hx => assumption) | (apply Go.Gw.Own.chg; case hx => assumption) | (apply Go.Gw.Box.chg; case hx => assumption) | (apply Go.Gw.At.chg; case hx => assumption) | exact .inl (Nat.zero_le _) | exact .inr (Nat.zero_le _) | (show _ ∨ _; omega))) (hN : xs.length ≤ 140737488355328 := by first | assumption | omega) (hl : (Lib.join xs sep).length ≤ 140737488355328 := by first | assumption | omega) : Val Tryz.prog 70 [v, str sep] w (str (Lib.join xs sep)) := by
  refine ⟨fun w1 hx1 => ⟨?_⟩⟩
  replace h := h.ext hx1
  obtain ⟨a, c, hv, h1, h2, h3⟩ := h.form
  have e : (xs.map fun x => (⟨x.toArray⟩ : ByteArray)).map (·.data.toList) = xs := by
    rw [List.map_map]; simp [Function.comp_def]
  rcases Nat.eq_zero_or_pos xs.length with h0 | h0
  · obtain rfl := List.eq_nil_of_length_eq_zero h0
    rw [hv]
    refine Calls.mono (Tryz.strings_Join_none a c ⟨sep.toArray⟩ w1) ?_
    rintro e w' ⟨rfl, rfl⟩
    exact ⟨_, rfl, rfl, ⟨rfl, rfl, rfl, Nat.le_refl _, fun _ _ _ => rfl⟩⟩
  · have hi := h.inn h0
    have ht := h.top
    have hs := Tryz.strings_Join (sb v) (so v) c (xs.map fun x => ⟨x.toArray⟩) ⟨sep.toArray⟩ w1 (fun j x hj => by
      rw [List.getElem?_map] at hj
      obtain ⟨y, hy, rfl⟩ := Option.map_eq_some_iff.1 hj
      have := (h.el j y hy).go 0 _ rfl
      rw [show Enc.sz (List UInt8) = 1 from rfl, Nat.mul_one, Nat.add_zero] at this
      exact this) (by omega) (by rw [List.length_map]; exact hN) (by rw [List.length_map]; exact h1) (by rw [e]; exact hl)
    rw [List.length_map, e] at hs
    have hv' : v = .slice (some ⟨sb v, so v, none⟩) xs.length c := by rw [← h3 h0]; exact hv
    show Calls Tryz.prog 70 #[v, str sep] w1 _
    rw [show (#[v, str sep] : Array Value) = #[.slice (some ⟨sb v, so v, none⟩) xs.length c, str sep] from congrArg (fun z => #[z, str sep]) hv']
    refine Calls.mono hs ?_
    rintro e w' ⟨rfl, hb⟩
    exact ⟨_, rfl, rfl, Chg.of_below hb⟩
theorem iSumLine_c {xs : List Int} (hT : Tab B w := by assumption) (h : SL w lo hi v xs := by repeat (first | assumption | exact Go.Gw.Own.sl (by assumption) | exact Go.Gw.Box.at (by assumption) | exact Go.Gw.SLL.el (by first | assumption | exact Go.Gw.OwnD.sll (by assumption)) _ (by omega) | exact Go.Gw.SLL.at (by first | assumption | exact Go.Gw.OwnD.sll (by assumption)) (by omega) | exact Go.Gw.OwnD.sll (by assumption) | (apply Go.Gw.SL.chg; case hx => assumption) | (apply Go.Gw.Own.chg; case hx => assumption) | (apply Go.Gw.Box.chg; case hx => assumption) | (apply Go.Gw.At.chg; case hx => assumption) | exact .inl (Nat.zero_le _) | exact .inr (Nat.zero_le _) | (show _ ∨ _; omega))) (hl : xs.length ≤ 1048576 := by omega) (hq : ∀ n ∈ xs, In64 n := by assumption) : Val Tryz.prog 13 [v] w (str (sline xs)) := by
  refine ⟨fun w1 hx1 => ?_⟩
  replace h := h.ext hx1
  replace hT := hT.ext hx1
  have hsm := h.small
  have E : Since 0 0 w1 w1 := Since.refl 0 0 w1
  refine ret_enter Tryz.func13 rfl Tryz.ntmps13 rfl ?_
  focus
    have ht_h := h.top
    have ht_hT := hT.top
    refine c_seq ?_
    refine c_region ?_
    refine w_pure (y_assign rfl) rfl ?_
    refine w_nil ?_
    refine x_next ?_
    refine c_seq ?_
    refine c_seq ?_
    refine c_region ?_
    refine w_pure (y_move rfl) rfl ?_
    refine w_pure (y_len rfl) rfl ?_
    refine w_pure (y_eq rfl rfl) rfl ?_
    refine w_nil ?_
    refine x_next ?_
    (refine c_dec rfl (fun hc8 => ?_) (fun hc8 => ?_) <;> try (first | exact absurd rfl hc8 | contradiction | exact Bool.noConfusion (show false = true from hc8.symm.trans (by assumption)) | exact Bool.noConfusion (show true = false from hc8.symm.trans (by assumption)) | (exfalso; omega) | (exfalso; simp only [*, Bool.not_true, Bool.not_false, reduceCtorEq] at hc8; done)))
    refine c_seq ?_
    refine c_region ?_
    refine w_pure (y_assign rfl) rfl ?_
    refine w_nil ?_
    refine x_next ?_
    refine c_ret ?_
    refine x_then_ret ?_
    rotate_left
    refine c_skip ?_
    refine x_next ?_
    refine c_seq ?_
    refine c_region ?_
    refine w_lit_s0 rfl (k := fun v9 w9 ho9 hx9 hl9 hh9 hs9 => ?_)
    have hl_ho9 := ho9.lt
    have hz_hx9 := hx9.size
    replace h := h.ext hx9
    replace hT := hT.ext hx9
    replace E := E.trans hx9
    refine w_pure (y_assign rfl) rfl ?_
    refine w_nil ?_
    refine x_next ?_
    refine c_seq ?_
    refine c_seq ?_
    refine c_region ?_
    refine w_pure (y_move rfl) rfl ?_
    refine w_pure (y_len rfl) rfl ?_
    refine w_pure (y_move rfl) rfl ?_
    refine w_nil ?_
    refine x_next ?_
    refine c_block ?_
    rotate_left
  · exact x_retv [_] rfl ⟨rfl, trivial⟩ ⟨by rw [sline, if_pos (by omega)]; rfl, E.go⟩
  refine c_loopC (bL v9) (bH v9) (ι := Int × Value) (fun x => [(3, x.2), (10, v), (11, .int .i64 xs.length), (12, .int .i64 x.1)]) (fun x w' => Own w' 9 w1.heap.size x.2 ((xs.take x.1.toNat).map Lib.itoa) ∧ ((bL x.2 = bL v9 ∧ bH x.2 = bH v9) ∨ w9.heap.size ≤ bL x.2) ∧ 0 ≤ x.1 ∧ x.1 ≤ xs.length) (fun x => (xs.length - x.1).toNat) (0, v9)
    (by repeat (first | exact trivial | refine ⟨rfl, ?_⟩)) ⟨Own.base (by assumption) (by omega), .inl ⟨rfl, rfl⟩, by dsimp only; omega, by dsimp only; omega⟩ ?_
  clear ho9
  rintro ⟨i, u⟩ w2 hx2 E2 ⟨h2, h4, hi0, hi1⟩
  dsimp only at *
  have hml : ((xs.take i.toNat).map Lib.itoa).length = i.toNat := by rw [List.length_map, List.length_take]; omega
  have hq2 : i < xs.length → In64 (xs.getD i.toNat 0) := fun h => in64_getD hq (by omega)
  have e1 : (i + 1).toNat = i.toNat + 1 := by omega
  have hll : (Lib.join ((xs.take i.toNat).map Lib.itoa) [32]).length ≤ 140737488355328 := by
    have := (lineTo_len hq i.toNat (by omega)).1
    rw [lineTo] at this; omega
  focus
    have hl_h2 := h2.lt
    have hz_hx2 := hx2.size
    replace h := h.chg hx2 (by omega)
    replace hT := hT.chg hx2 (by omega)
    replace E := E.next hx2 (by omega)
    refine c_seq ?_
    refine c_region ?_
    refine w_pure (y_lt rfl rfl) rfl ?_
    refine w_nil ?_
    refine x_next ?_
    refine c_seq ?_
    (refine c_dec rfl (fun hc13 => ?_) (fun hc13 => ?_) <;> try (first | exact absurd rfl hc13 | contradiction | exact Bool.noConfusion (show false = true from hc13.symm.trans (by assumption)) | exact Bool.noConfusion (show true = false from hc13.symm.trans (by assumption)) | (exfalso; omega) | (exfalso; simp only [*, Bool.not_true, Bool.not_false, reduceCtorEq] at hc13; done)))
    refine c_skip ?_
    refine x_next ?_
    refine c_seq ?_
    refine c_block ?_
    refine c_seq ?_
    refine c_region ?_
    refine w_pure (y_index rfl rfl) rfl ?_
    refine w_pure (y_load_int rfl) rfl ?_
    refine w_pure (y_assign rfl) rfl ?_
    refine w_nil ?_
    refine x_next ?_
    refine c_region ?_
    refine w_pure (y_move rfl) rfl ?_
    refine w_pure (y_move rfl) rfl ?_
    refine w_val rfl rfl rfl (iDecimal_c _) rfl (fun w18 hx18 hz18 => ?_)
    have hz_hx18 := hx18.size
    replace E2 := E2.next hx18 (by omega)
    replace h2 := h2.ext hx18
    replace h := h.ext hx18
    replace hT := hT.ext hx18
    replace E := E.trans hx18
    refine w_lit (α := (List UInt8)) rfl rfl rfl rfl rfl rfl rfl rfl (fun v19 w19 ho19 hx19 hl19 hh19 hs19 => ?_)
    have hl_ho19 := ho19.lt
    have hz_hx19 := hx19.size
    replace E2 := E2.next hx19 (by omega)
    replace h2 := h2.ext hx19
    replace h := h.ext hx19
    replace hT := hT.ext hx19
    replace E := E.trans hx19
    refine w_append rfl rfl (k := fun v20 w20 ho20 hx20 hr20 => ?_)
    have hl_ho20 := ho20.lt
    have hz_hx20 := hx20.size
    replace ho19 := ho19.chg hx20 (by omega)
    replace E2 := E2.next hx20 (by omega)
    replace h := h.chg hx20 (by omega)
    replace hT := hT.chg hx20 (by omega)
    replace E := E.next hx20 (by omega)
    refine w_pure (y_assign rfl) rfl ?_
    refine w_nil ?_
    refine x_block_norm ?_
    refine x_next ?_
    refine c_region ?_
    refine w_pure (y_add rfl rfl) rfl ?_
    refine w_pure (y_move rfl) rfl ?_
    refine w_nil ?_
    rotate_left
    refine c_exit ?_
    refine x_then_exit ?_
    refine x_then_exit ?_
    refine x_block_hit ?_
    refine x_next ?_
    refine c_seq ?_
    refine c_region ?_
    refine w_pure (y_move rfl) rfl ?_
    refine w_val rfl rfl rfl (Join_c) rfl (fun w23 hx23 hz23 => ?_)
    have hz_hx23 := hx23.size
    replace E2 := E2.next hx23 (by omega)
    replace h2 := h2.ext hx23
    replace h := h.ext hx23
    replace hT := hT.ext hx23
    replace E := E.trans hx23
    refine w_pure (y_assign rfl) rfl ?_
    refine w_nil ?_
    refine x_next ?_
    refine c_ret ?_
    rotate_left
  · refine x_again (i + 1, v20) (by repeat (first | exact trivial | refine ⟨rfl, ?_⟩)) ⟨E2.go, ?_, by dsimp only; omega, by dsimp only; omega, by dsimp only; omega⟩ (by dsimp only; omega)
    dsimp only
    rw [e1, take_snoc (by omega), List.map_append]
    exact Own.base (by assumption) (by omega)
  · refine x_retv [_] rfl ⟨rfl, trivial⟩ ⟨?_, E.go⟩
    rw [sline, if_neg (by omega), lineTo, ← show i.toNat = xs.length by omega]; rfl
end
end Go.Proofs.YtihnhelkfiaimaaGreatDoor

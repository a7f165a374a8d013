/- Rules, contracts and plain laws towards the law FnReproduced, part 5. -/
import Derived.Test.YtcbpiaehkodliaaGreatDoorCh4
/- DecB -/
namespace Go.Proofs.YtcbpiaehkodliaaGreatDoor
open Go Go.Gw
set_option linter.unusedVariables false
set_option linter.unusedSimpArgs false
section
variable {w : World} {lo hi : Nat} {v : Value} {xs : List Int}
theorem l01Dec_c (n : Int) (hn : In64 n := by first | assumption | exact ⟨by omega, by omega⟩) : Val Tryz.prog 87 [.int .i64 n] w (str (Lib.itoa n)) := by
  refine ⟨fun w1 hx1 => ?_⟩
  have E : Since 0 0 w1 w1 := Since.refl 0 0 w1
  refine ret_enter Tryz.func87 rfl Tryz.ntmps87 rfl ?_
  focus refine c_seq ?_; refine c_region ?_; refine w_pure (y_assign rfl) rfl ?_; refine w_nil ?_; refine x_next ?_; refine c_seq ?_; refine c_region ?_; refine w_lit (α := UInt8) rfl rfl rfl rfl rfl rfl rfl rfl (fun v6 w6 ho6 hx6 hl6 hh6 hs6 => ?_); have hl_ho6 := ho6.lt; have hz_hx6 := hx6.size; replace E := E.trans hx6; refine w_pure (y_assign rfl) rfl ?_; refine w_nil ?_; refine x_next ?_; refine c_seq ?_; refine c_seq ?_; refine c_region ?_; refine w_pure (y_move rfl) rfl ?_; refine w_pure (y_assign rfl) rfl ?_; refine w_nil ?_; refine x_next ?_; refine c_block ?_; rotate_left
  refine c_loopC (bL v6) (bH v6) (ι := Int × Value × List UInt8) (fun x => [(0, .int .i64 n), (3, x.2.1), (4, .int .i64 x.1)]) (fun x w' => Own w' 5 w1.heap.size x.2.1 x.2.2 ∧ ((bL x.2.1 = bL v6 ∧ bH x.2.1 = bH v6) ∨ w6.heap.size ≤ bL x.2.1) ∧ In64 x.1 ∧ dec0 x.1.natAbs ++ x.2.2 = dec0 n.natAbs) (fun x => x.1.natAbs) (n, v6, [])
    (by repeat (first | exact trivial | refine ⟨rfl, ?_⟩)) ⟨Own.base (by assumption) (by omega), .inl ⟨rfl, rfl⟩, hn, by dsimp only; rw [List.append_nil]⟩ ?_
  clear ho6
  rintro ⟨k, u, l⟩ w2 hx2 E2 ⟨h2, h4, hk, hd⟩
  dsimp only at *
  have hdl := dec0_len n.natAbs (by have e : (10 : Nat) ^ 19 = 10000000000000000000 := by decide
                                    omega)
  have hll : l.length ≤ 19 := by rw [← hd, List.length_append] at hdl; omega
  have hm : (k.tmod 10).natAbs = k.natAbs % 10 := by rw [Int.natAbs_tmod]; rfl
  have hdv : (k.tdiv 10).natAbs = k.natAbs / 10 := by rw [Int.natAbs_tdiv]; rfl
  have hmb : -9 ≤ k.tmod 10 ∧ k.tmod 10 ≤ 9 := by omega
  have hkd : In64 (k.tdiv 10) := tdiv_in hk (by omega)
  have hst : k ≠ 0 → dec0 (k.tdiv 10).natAbs ++ ([UInt8.ofNat (48 + k.natAbs % 10)] ++ l) = dec0 n.natAbs := fun h => by
    rw [hdv, ← hd, dec0_step (u := k.natAbs) (by omega), List.append_assoc]
  focus have hl_h2 := h2.lt; have hz_hx2 := hx2.size; replace E := E.next hx2 (by omega); refine c_seq ?_; refine c_seq ?_; refine c_region ?_; refine w_pure (y_move rfl) rfl ?_; refine w_pure (y_ne rfl rfl) rfl ?_; refine w_nil ?_; refine x_next ?_; (refine c_dec rfl (fun hc9 => ?_) (fun hc9 => ?_) <;> try (first | exact absurd rfl hc9 | contradiction | exact Bool.noConfusion (show false = true from hc9.symm.trans (by assumption)) | exact Bool.noConfusion (show true = false from hc9.symm.trans (by assumption)) | (exfalso; omega) | (exfalso; simp only [*, Bool.not_true, Bool.not_false, reduceCtorEq] at hc9; done))); refine c_skip ?_; refine x_next ?_; refine c_seq ?_; refine c_block ?_; refine c_seq ?_; refine c_region ?_; refine w_pure (y_move rfl) rfl ?_; refine w_pure (y_remt rfl rfl) rfl ?_; refine w_pure (y_assign rfl) rfl ?_; refine w_nil ?_; refine x_next ?_; refine c_seq ?_; refine c_seq ?_; refine c_region ?_; refine w_pure (y_move rfl) rfl ?_; refine w_pure (y_lt rfl rfl) rfl ?_; refine w_nil ?_; refine x_next ?_; (refine c_dec rfl (fun hc15 => ?_) (fun hc15 => ?_) <;> try (first | exact absurd rfl hc15 | contradiction | exact Bool.noConfusion (show false = true from hc15.symm.trans (by assumption)) | exact Bool.noConfusion (show true = false from hc15.symm.trans (by assumption)) | (exfalso; omega) | (exfalso; simp only [*, Bool.not_true, Bool.not_false, reduceCtorEq] at hc15; done))); refine c_region ?_; refine w_pure (y_move rfl) rfl ?_; refine w_pure (y_neg rfl) rfl ?_; refine w_pure (y_assign rfl) rfl ?_; refine w_nil ?_; refine x_next ?_; refine c_region ?_; refine w_pure (y_move rfl) rfl ?_; refine w_pure (y_add rfl rfl) rfl ?_; refine w_pure (y_conv8 rfl) rfl ?_; refine w_litb1 rfl rfl rfl (fun v21 w21 ho21 hx21 hl21 hh21 hs21 => ?_); have hl_ho21 := ho21.lt; have hz_hx21 := hx21.size; replace E2 := E2.next hx21 (by omega); replace h2 := h2.ext hx21; replace E := E.trans hx21; refine w_pure (y_move rfl) rfl ?_; refine w_append rfl rfl (k := fun v23 w23 ho23 hx23 hr23 => ?_); have hl_ho23 := ho23.lt; have hz_hx23 := hx23.size; replace E2 := E2.next hx23 (by omega); replace h2 := h2.chg hx23 (by omega); replace E := E.next hx23 (by omega); refine w_pure (y_assign rfl) rfl ?_; refine w_nil ?_; refine x_block_norm ?_; refine x_next ?_; refine c_region ?_; refine w_pure (y_move rfl) rfl ?_; refine w_pure (y_quot rfl rfl) rfl ?_; refine w_pure (y_assign rfl) rfl ?_; refine w_nil ?_; rotate_left; refine c_skip ?_; refine x_next ?_; refine c_region ?_; refine w_pure (y_move rfl) rfl ?_; refine w_pure (y_add rfl rfl) rfl ?_; refine w_pure (y_conv8 rfl) rfl ?_; refine w_litb1 rfl rfl rfl (fun v21 w21 ho21 hx21 hl21 hh21 hs21 => ?_); have hl_ho21 := ho21.lt; have hz_hx21 := hx21.size; replace E2 := E2.next hx21 (by omega); replace h2 := h2.ext hx21; replace E := E.trans hx21; refine w_pure (y_move rfl) rfl ?_; refine w_append rfl rfl (k := fun v23 w23 ho23 hx23 hr23 => ?_); have hl_ho23 := ho23.lt; have hz_hx23 := hx23.size; replace E2 := E2.next hx23 (by omega); replace h2 := h2.chg hx23 (by omega); replace E := E.next hx23 (by omega); refine w_pure (y_assign rfl) rfl ?_; refine w_nil ?_; refine x_block_norm ?_; refine x_next ?_; refine c_region ?_; refine w_pure (y_move rfl) rfl ?_; refine w_pure (y_quot rfl rfl) rfl ?_; refine w_pure (y_assign rfl) rfl ?_; refine w_nil ?_; rotate_left; refine c_exit ?_; refine x_then_exit ?_; refine x_then_exit ?_; refine x_block_hit ?_; refine x_next ?_; refine c_seq ?_; refine c_seq ?_; refine c_region ?_; refine w_pure (y_move rfl) rfl ?_; refine w_pure (y_len rfl) rfl ?_; refine w_pure (y_eq rfl rfl) rfl ?_; refine w_nil ?_; refine x_next ?_; (refine c_dec rfl (fun hc26 => ?_) (fun hc26 => ?_) <;> try (first | exact absurd rfl hc26 | contradiction | exact Bool.noConfusion (show false = true from hc26.symm.trans (by assumption)) | exact Bool.noConfusion (show true = false from hc26.symm.trans (by assumption)) | (exfalso; omega) | (exfalso; simp only [*, Bool.not_true, Bool.not_false, reduceCtorEq] at hc26; done))); refine c_seq ?_; refine c_region ?_; refine w_pure (y_assign rfl) rfl ?_; refine w_nil ?_; refine x_next ?_; refine c_ret ?_; refine x_then_ret ?_; rotate_left; refine c_skip ?_; refine x_next ?_; refine c_seq ?_; refine c_seq ?_; refine c_region ?_; refine w_pure (y_move rfl) rfl ?_; refine w_pure (y_lt rfl rfl) rfl ?_; refine w_nil ?_; refine x_next ?_; (refine c_dec rfl (fun hc28 => ?_) (fun hc28 => ?_) <;> try (first | exact absurd rfl hc28 | contradiction | exact Bool.noConfusion (show false = true from hc28.symm.trans (by assumption)) | exact Bool.noConfusion (show true = false from hc28.symm.trans (by assumption)) | (exfalso; omega) | (exfalso; simp only [*, Bool.not_true, Bool.not_false, reduceCtorEq] at hc28; done))); refine c_seq ?_; refine c_region ?_; refine w_pure (y_move rfl) rfl ?_; refine w_pure (y_str8 rfl) rfl ?_; refine w_pure (y_scat (p := [45]) (q := l) rfl rfl (by simp; omega)) rfl ?_; refine w_pure (y_assign rfl) rfl ?_; refine w_nil ?_; refine x_next ?_; refine c_ret ?_; refine x_then_ret ?_; rotate_left; refine c_skip ?_; refine x_next ?_; refine c_seq ?_; refine c_region ?_; refine w_pure (y_move rfl) rfl ?_; refine w_pure (y_str8 rfl) rfl ?_; refine w_pure (y_assign rfl) rfl ?_; refine w_nil ?_; refine x_next ?_; refine c_ret ?_; rotate_left
  · have eb : (48 + -(k.tmod 10)).toNat = 48 + k.natAbs % 10 := by omega
    refine x_again (k.tdiv 10, v23, [UInt8.ofNat (48 + k.natAbs % 10)] ++ l) (by repeat (first | exact trivial | refine ⟨rfl, ?_⟩)) ⟨E2.go, ?_, by dsimp only; omega, hkd, hst hc9⟩ (by dsimp only; omega)
    dsimp only; rw [← eb]; exact Own.base (by assumption) (by omega)
  · have eb : (48 + k.tmod 10).toNat = 48 + k.natAbs % 10 := by omega
    refine x_again (k.tdiv 10, v23, [UInt8.ofNat (48 + k.natAbs % 10)] ++ l) (by repeat (first | exact trivial | refine ⟨rfl, ?_⟩)) ⟨E2.go, ?_, by dsimp only; omega, hkd, hst hc9⟩ (by dsimp only; omega)
    dsimp only; rw [← eb]; exact Own.base (by assumption) (by omega)
  all_goals
    have hk0 : k = 0 := Decidable.not_not.1 hc9
    rw [hk0] at hd
    have hl : l = dec0 n.natAbs := by rw [← hd]; rfl
    have hz : n ≠ 0 → 1 ≤ l.length := fun h => by
      rw [hl, dec0, if_neg (by omega), Lib.decDigits_length]; exact nDigits_pos _
  · refine x_retv [_] rfl ⟨rfl, trivial⟩ ⟨?_, E.go⟩
    have h0 : n = 0 := Decidable.byContradiction fun h => by have := hz h; omega
    rw [itoa_dec0, if_pos h0]; rfl
  · refine x_retv [_] rfl ⟨rfl, trivial⟩ ⟨?_, E.go⟩
    rw [itoa_dec0, if_neg (by omega), if_pos hc28, ← hl]; rfl
  · have h0 : n ≠ 0 := fun h => by rw [h] at hl; rw [hl] at hc26; exact hc26 rfl
    refine x_retv [_] rfl ⟨rfl, trivial⟩ ⟨?_, E.go⟩
    rw [itoa_dec0, if_neg h0, if_neg hc28, ← hl]; rfl
end
end Go.Proofs.YtcbpiaehkodliaaGreatDoor
/- JoA -/
namespace Go.Proofs.YtcbpiaehkodliaaGreatDoor
open Go Go.Gw
set_option linter.unusedVariables false
set_option linter.unusedSimpArgs false
/-- the first i numbers, a blank between -/
def lineTo (xs : List Int) (i : Nat) : List UInt8 := Lib.join ((xs.take i).map Lib.itoa) [32]
def sline (xs : List Int) : List UInt8 := if xs.length = 0 then [45] else lineTo xs xs.length
theorem join_snoc (sep y : List UInt8) : ∀ (l : List (List UInt8)), l ≠ [] → Lib.join (l ++ [y]) sep = Lib.join l sep ++ sep ++ y
  | [], h => absurd rfl h
  | x :: r, _ => by
    rw [List.cons_append, Lib.join_cons, Lib.join_cons]
    simp [Lib.joinTail, List.append_assoc]
theorem take_snoc {xs : List Int} {i : Nat} (h : i < xs.length) : xs.take (i + 1) = xs.take i ++ [xs.getD i 0] := by
  rw [List.take_add_one, List.getD_eq_getElem?_getD, List.getElem?_eq_getElem h]; rfl
theorem lineTo_zero (xs : List Int) : lineTo xs 0 = [] := rfl
theorem lineTo_one {xs : List Int} (h : 0 < xs.length) : lineTo xs 1 = Lib.itoa (xs.getD 0 0) := by
  rw [lineTo, take_snoc h]; exact Lib.join_one _ _
theorem lineTo_succ {xs : List Int} {i : Nat} (h : i < xs.length) (h0 : 0 < i) : lineTo xs (i + 1) = lineTo xs i ++ [32] ++ Lib.itoa (xs.getD i 0) := by
  rw [lineTo, take_snoc h, List.map_append]
  exact join_snoc _ _ _ (by
    intro e
    have h2 := congrArg List.length e
    rw [List.length_map, List.length_take, List.length_nil] at h2; omega)
theorem in64_getD {xs : List Int} (h : ∀ n ∈ xs, In64 n) {i : Nat} (hi : i < xs.length) : In64 (xs.getD i 0) := by
  rw [List.getD_eq_getElem?_getD, List.getElem?_eq_getElem hi]; exact h _ (List.getElem_mem hi)
theorem itoa_pos (n : Int) : 1 ≤ (Lib.itoa n).length := by
  unfold Lib.itoa
  split
  · simp
  · rw [Lib.decDigits_length]; exact nDigits_pos _
theorem lineTo_len {xs : List Int} (h : ∀ n ∈ xs, In64 n) : ∀ i, i ≤ xs.length → (lineTo xs i).length ≤ 21 * i ∧ i ≤ (lineTo xs i).length
  | 0, _ => by simp [lineTo_zero]
  | i + 1, hi => by
    have h1 := lineTo_len h i (by omega)
    have h2 := itoa_len (in64_getD h (i := i) (by omega))
    have h3 := itoa_pos (xs.getD i 0)
    rcases Nat.eq_zero_or_pos i with rfl | h0
    · rw [lineTo_one (by omega)]; omega
    · rw [lineTo_succ (by omega) h0]; simp only [List.length_append, List.length_cons, List.length_nil]; omega
section
variable {w : World} {lo hi B : Nat} {v : Value}
theorem Join_c {xs : List (List UInt8)} {sep : List UInt8} (h : SL w lo hi v xs := by repeat (first | assumption | exact Go.Gw.Own.sl (by assumption) | exact Go.Gw.Box.at (by assumption) | exact Go.Gw.SLL.el (by first | assumption | exact Go.Gw.OwnD.sll (by assumption)) _ (by omega) | exact Go.Gw.SLL.at (by first | assumption | exact Go.Gw.OwnD.sll (by assumption)) (by omega) | exact Go.Gw.OwnD.sll (by assumption) | (apply Go.Gw.SL.chg; case hx => assumption) | (apply Go.Gw.Own.chg; case hx => assumption) | (apply Go.Gw.Box.chg; case hx => assumption) | (apply Go.Gw.At.chg; case hx => assumption) | exact .inl (Nat.zero_le _) | exact .inr (Nat.zero_le _) | (show _ ∨ _; omega))) (hN : xs.length ≤ 140737488355328 := by first | assumption | omega) (hl : (Lib.join xs sep).length ≤ 140737488355328 := by first | assumption | omega) : Val Tryz.prog 52 [v, str sep] w (str (Lib.join xs sep)) := by
  refine ⟨fun w1 hx1 => ⟨?_⟩⟩
  replace h := h.ext hx1
  obtain ⟨a, c, hv, h1, h2, h3⟩ := h.form
  have e : (xs.map fun x => (⟨x.toArray⟩ : ByteArray)).map (·.data.toList) = xs := by
    rw [List.map_map]; simp [Function.comp_def]
  rcases Nat.eq_zero_or_pos xs.length with h0 | h0
  · obtain rfl := List.eq_nil_of_length_eq_zero h0
    rw [hv]
    refine Calls.mono (Tryz.strings_Join_none a c ⟨sep.toArray⟩ w1) ?_
    rintro e w' ⟨rfl, rfl⟩
    exact ⟨_, rfl, rfl, ⟨rfl, rfl, rfl, Nat.le_refl _, fun _ _ _ => rfl⟩⟩
  · have hi := h.inn h0
    have ht := h.top
    have hs := Tryz.strings_Join (sb v) (so v) c (xs.map fun x => ⟨x.toArray⟩) ⟨sep.toArray⟩ w1 (fun j x hj => by
      rw [List.getElem?_map] at hj
      obtain ⟨y, hy, rfl⟩ := Option.map_eq_some_iff.1 hj
      have := (h.el j y hy).go 0 _ rfl
      rw [show Enc.sz (List UInt8) = 1 from rfl, Nat.mul_one, Nat.add_zero] at this
      exact this) (by omega) (by rw [List.length_map]; exact hN) (by rw [List.length_map]; exact h1) (by rw [e]; exact hl)
    rw [List.length_map, e] at hs
    have hv' : v = .slice (some ⟨sb v, so v, none⟩) xs.length c := by rw [← h3 h0]; exact hv
    show Calls Tryz.prog 52 #[v, str sep] w1 _
    rw [show (#[v, str sep] : Array Value) = #[.slice (some ⟨sb v, so v, none⟩) xs.length c, str sep] from congrArg (fun z => #[z, str sep]) hv']
    refine Calls.mono hs ?_
    rintro e w' ⟨rfl, hb⟩
    exact ⟨_, rfl, rfl, Chg.of_below hb⟩
end
end Go.Proofs.YtcbpiaehkodliaaGreatDoor
/- CptA -/
namespace Go.Proofs.YtcbpiaehkodliaaGreatDoor
open Go Go.Gw
set_option linter.unusedVariables false
set_option linter.unusedSimpArgs false
def plnAt (ps : List (Int × Int)) (i : Nat) : Prop :=
  (0 ≤ (ps.getD i (0, 0)).1 ∧ (ps.getD i (0, 0)).1 ≤ 19) ∧ (0 ≤ (ps.getD i (0, 0)).2 ∧ (ps.getD i (0, 0)).2 ≤ 19) ∧ (0 < i → (ps.getD (i - 1) (0, 0)).2 < (ps.getD i (0, 0)).2)
instance (ps : List (Int × Int)) (i : Nat) : Decidable (plnAt ps i) := by unfold plnAt; infer_instance
def plnB (ps : List (Int × Int)) : Bool := decide (∀ i, i < ps.length → plnAt ps i)
def word (p : Int × Int) : List UInt8 := Lib.itoa p.1 ++ [62] ++ Lib.itoa p.2
def textTo (ps : List (Int × Int)) (i : Nat) : List UInt8 := Lib.join ((ps.take i).map word) [32]
def cpText (ps : List (Int × Int)) : List UInt8 := if plnB ps = true then textTo ps ps.length else []
theorem pln_no {ps : List (Int × Int)} {i : Nat} (h : i < ps.length) (hn : ¬ plnAt ps i) : plnB ps = false := decide_eq_false fun g => hn (g i h)
theorem pln_yes {ps : List (Int × Int)} (h : ∀ i, i < ps.length → plnAt ps i) : plnB ps = true := decide_eq_true h
attribute [irreducible] plnB
theorem takeP_snoc {ps : List (Int × Int)} {i : Nat} (h : i < ps.length) : ps.take (i + 1) = ps.take i ++ [ps.getD i (0, 0)] := by
  rw [List.take_add_one, List.getD_eq_getElem?_getD, List.getElem?_eq_getElem h]; rfl
theorem textTo_one {ps : List (Int × Int)} (h : 0 < ps.length) : textTo ps 1 = word (ps.getD 0 (0, 0)) := by
  rw [textTo, takeP_snoc h]; exact Lib.join_one _ _
theorem textTo_succ {ps : List (Int × Int)} {i : Nat} (h : i < ps.length) (h0 : 0 < i) : textTo ps (i + 1) = textTo ps i ++ [32] ++ word (ps.getD i (0, 0)) := by
  rw [textTo, takeP_snoc h, List.map_append]
  exact join_snoc _ _ _ (by
    intro e
    have h2 := congrArg List.length e
    rw [List.length_map, List.length_take, List.length_nil] at h2; omega)
theorem in64_getP {ps : List (Int × Int)} (h : ∀ p ∈ ps, In64 p.1 ∧ In64 p.2) {i : Nat} (hi : i < ps.length) : In64 (ps.getD i (0, 0)).1 ∧ In64 (ps.getD i (0, 0)).2 := by
  rw [List.getD_eq_getElem?_getD, List.getElem?_eq_getElem hi]; exact h _ (List.getElem_mem hi)
theorem word_len {p : Int × Int} (h : In64 p.1 ∧ In64 p.2) : (word p).length ≤ 41 := by
  have h1 := itoa_len h.1
  have h2 := itoa_len h.2
  simp only [word, List.length_append, List.length_cons, List.length_nil]; omega
theorem textTo_len {ps : List (Int × Int)} (h : ∀ p ∈ ps, In64 p.1 ∧ In64 p.2) : ∀ i, i ≤ ps.length → (textTo ps i).length ≤ 42 * i
  | 0, _ => by simp [textTo, Lib.join_nil]
  | i + 1, hi => by
    have h1 := textTo_len h i (by omega)
    have h2 := word_len (in64_getP h (i := i) (by omega))
    rcases Nat.eq_zero_or_pos i with rfl | h0
    · rw [textTo_one (by omega)]; omega
    · rw [textTo_succ (by omega) h0]; simp only [List.length_append, List.length_cons, List.length_nil]; omega
section
variable {w : World} {lo hi B : Nat} {v : Value} {ps : List (Int × Int)}
theorem isPlainT_c (h : SL w lo hi v ps := by repeat (first | assumption | exact Go.Gw.Own.sl (by assumption) | exact Go.Gw.Box.at (by assumption) | exact Go.Gw.SLL.el (by first | assumption | exact Go.Gw.OwnD.sll (by assumption)) _ (by omega) | exact Go.Gw.SLL.at (by first | assumption | exact Go.Gw.OwnD.sll (by assumption)) (by omega) | exact Go.Gw.OwnD.sll (by assumption) | (apply Go.Gw.SL.chg; case hx => assumption) | (apply Go.Gw.Own.chg; case hx => assumption) | (apply Go.Gw.Box.chg; case hx => assumption) | (apply Go.Gw.At.chg; case hx => assumption) | exact .inl (Nat.zero_le _) | exact .inr (Nat.zero_le _) | (show _ ∨ _; omega))) (hq : ∀ p ∈ ps, In64 p.1 ∧ In64 p.2 := by assumption) : Val Tryz.prog 46 [v] w (.bool (plnB ps)) := by
  refine ⟨fun w1 hx1 => ?_⟩
  replace h := h.ext hx1
  have hsm := h.small
  have E : Since 0 0 w1 w1 := Since.refl 0 0 w1
  refine ret_enter Tryz.func46 rfl Tryz.ntmps46 rfl ?_
  focus have ht_h := h.top; refine c_seq ?_; refine c_region ?_; refine w_pure (y_assign rfl) rfl ?_; refine w_nil ?_; refine x_next ?_; refine c_seq ?_; refine c_seq ?_; refine c_region ?_; refine w_pure (y_move rfl) rfl ?_; refine w_pure (y_len rfl) rfl ?_; refine w_pure (y_move rfl) rfl ?_; refine w_nil ?_; refine x_next ?_; refine c_block ?_; rotate_left
  refine c_loopC 0 0 (ι := Int) (fun i => [(0, v), (5, v), (6, .int .i64 ps.length), (7, .int .i64 i)]) (fun i w' => 0 ≤ i ∧ i ≤ ps.length ∧ ∀ j, j < i.toNat → plnAt ps j) (fun i => (ps.length - i).toNat) 0
    (by repeat (first | exact trivial | refine ⟨rfl, ?_⟩)) ⟨by omega, by omega, fun j hj => absurd hj (by simp)⟩ ?_
  rintro i w2 hx2 E2 ⟨hi0, hi1, hall⟩
  have hq1 := fun h => in64_getP hq (i := i.toNat) h
  have ep : i.toNat - 1 = (i - 1).toNat := by omega
  have hpl : plnAt ps i.toNat ↔ ((0 ≤ (ps.getD i.toNat (0, 0)).1 ∧ (ps.getD i.toNat (0, 0)).1 ≤ 19) ∧ (0 ≤ (ps.getD i.toNat (0, 0)).2 ∧ (ps.getD i.toNat (0, 0)).2 ≤ 19) ∧ (0 < i → (ps.getD (i - 1).toNat (0, 0)).2 < (ps.getD i.toNat (0, 0)).2)) := by
    unfold plnAt; rw [ep, show (0 < i.toNat) = (0 < i) from propext ⟨fun _ => by omega, fun _ => by omega⟩]
  have hno : i < ps.length → ¬ plnAt ps i.toNat → plnB ps = false := fun h hn => pln_no (by omega) hn
  have hyes : plnAt ps i.toNat → ∀ j, j < (i + 1).toNat → plnAt ps j := fun hp j hj => if h : j < i.toNat then hall j h else by rw [show j = i.toNat by omega]; exact hp
  focus have hz_hx2 := hx2.size; replace h := h.ext hx2; replace E := E.trans hx2; refine c_seq ?_; refine c_region ?_; refine w_pure (y_lt rfl rfl) rfl ?_; refine w_nil ?_; refine x_next ?_; refine c_seq ?_; (refine c_dec rfl (fun hc8 => ?_) (fun hc8 => ?_) <;> try (first | exact absurd rfl hc8 | contradiction | exact Bool.noConfusion (show false = true from hc8.symm.trans (by assumption)) | exact Bool.noConfusion (show true = false from hc8.symm.trans (by assumption)) | (exfalso; omega) | (exfalso; simp only [*, Bool.not_true, Bool.not_false, reduceCtorEq] at hc8; done))); refine c_skip ?_; refine x_next ?_; refine c_seq ?_; refine c_block ?_; refine c_seq ?_; refine c_region ?_; refine w_pure (y_move rfl) rfl ?_; refine w_pure (y_index rfl rfl) rfl ?_; refine w_pure (y_load_paire rfl (show ps.getD i.toNat (0, 0) = ((ps.getD i.toNat (0, 0)).1, (ps.getD i.toNat (0, 0)).2) from rfl)) rfl ?_; refine w_alloc (k := fun b4 w4 hb4 hx4 hl4 hs4 => ?_); have hz_hx4 := hx4.size; replace E2 := E2.trans hx4; replace h := h.ext hx4; replace E := E.trans hx4; refine w_pure (y_assign rfl) rfl ?_; refine w_store_boxs rfl rfl (next := fun ws19 hbs19 hxs19 hss19 => ?_); (replace hb4 := hbs19; clear hbs19); have hz_hxs19 := hxs19.size; replace E2 := E2.next hxs19 (by omega); replace h := h.chg hxs19 (by omega); replace E := E.next hxs19 (by omega); refine w_nil ?_; refine x_next ?_; refine c_seq ?_; refine c_region_held mixed (fun wr4 hxr4 hzr4 => ?_); have hz_hxr4 := hxr4.size; replace hb4 := hb4.ext hxr4; replace E2 := E2.trans hxr4; replace h := h.ext hxr4; replace E := E.trans hxr4; refine h_pure rfl (y_field rfl) rfl ?_; refine h_pure rfl (y_load_box rfl) rfl ?_; refine h_one rfl ?_; refine w_pur rfl rfl rfl (inside_c _ _ _) rfl ?_; refine w_nil ?_; refine x_held ?_; refine h_pure rfl (y_not_dec rfl) rfl ?_; refine h_pure rfl (y_move rfl) rfl ?_; (refine h_part_dec rfl rfl (fun hc17 => ?_) (fun hc17 => ?_) <;> try (first | exact absurd rfl hc17 | contradiction | exact Bool.noConfusion (show false = true from hc17.symm.trans (by assumption)) | exact Bool.noConfusion (show true = false from hc17.symm.trans (by assumption)) | (exfalso; omega) | (exfalso; simp only [*, Bool.not_true, Bool.not_false, reduceCtorEq] at hc17; done))); refine h_no rfl rfl rfl rfl rfl ?_; refine h_no rfl rfl rfl rfl rfl ?_; refine h_no rfl rfl rfl rfl rfl ?_; refine h_no rfl rfl rfl rfl rfl ?_; refine h_pure rfl (y_pick_t rfl rfl) rfl ?_; refine h_pure rfl (y_move rfl) rfl ?_; refine h_no rfl rfl rfl rfl rfl ?_; refine h_no rfl rfl rfl rfl rfl ?_; refine h_no rfl rfl rfl rfl rfl ?_; refine h_none rfl rfl rfl rfl ?_; refine h_none rfl rfl rfl rfl ?_; refine h_none rfl rfl rfl rfl ?_; refine h_none rfl rfl rfl rfl ?_; refine h_none rfl rfl rfl rfl ?_; refine h_none rfl rfl rfl rfl ?_; refine h_none rfl rfl rfl rfl ?_; refine h_none rfl rfl rfl rfl ?_; refine h_none rfl rfl rfl rfl ?_; refine h_no rfl rfl rfl rfl rfl ?_; refine h_pure rfl (y_pick_t rfl rfl) rfl ?_; refine h_nil ?_; refine x_next ?_; refine c_true rfl ?_; refine c_seq ?_; refine c_region ?_; refine w_pure (y_assign rfl) rfl ?_; refine w_nil ?_; refine x_next ?_; refine c_ret ?_; refine x_block_ret ?_; refine x_then_ret ?_; refine x_then_ret ?_; refine x_block_ret ?_; refine x_then_ret ?_; rotate_left; refine h_yes rfl rfl rfl (y_field rfl) rfl ?_; refine h_yes rfl rfl rfl (y_load_box rfl) rfl ?_; (refine h_part rfl rfl (fun hc19 => ?_) (fun hc19 => ?_) <;> try (first | exact absurd rfl hc19 | contradiction | exact Bool.noConfusion (show false = true from hc19.symm.trans (by assumption)) | exact Bool.noConfusion (show true = false from hc19.symm.trans (by assumption)) | (exfalso; omega) | (exfalso; simp only [*, Bool.not_true, Bool.not_false, reduceCtorEq] at hc19; done))); refine h_one rfl ?_; refine w_yes rfl rfl ?_; refine w_pur rfl rfl rfl (inside_c _ _ _) rfl ?_; refine w_nil ?_; refine x_held ?_; refine h_yes rfl rfl rfl (y_not_dec rfl) rfl ?_; refine h_pure rfl (y_pick_f rfl rfl) rfl ?_; refine h_pure rfl (y_move rfl) rfl ?_; (refine h_part_dec rfl rfl (fun hc23 => ?_) (fun hc23 => ?_) <;> try (first | exact absurd rfl hc23 | contradiction | exact Bool.noConfusion (show false = true from hc23.symm.trans (by assumption)) | exact Bool.noConfusion (show true = false from hc23.symm.trans (by assumption)) | (exfalso; omega) | (exfalso; simp only [*, Bool.not_true, Bool.not_false, reduceCtorEq] at hc23; done))); refine h_no rfl rfl rfl rfl rfl ?_; refine h_no rfl rfl rfl rfl rfl ?_; refine h_no rfl rfl rfl rfl rfl ?_; refine h_none rfl rfl rfl rfl ?_; refine h_none rfl rfl rfl rfl ?_; refine h_none rfl rfl rfl rfl ?_; refine h_none rfl rfl rfl rfl ?_; refine h_none rfl rfl rfl rfl ?_; refine h_none rfl rfl rfl rfl ?_; refine h_none rfl rfl rfl rfl ?_; refine h_none rfl rfl rfl rfl ?_; refine h_none rfl rfl rfl rfl ?_; refine h_no rfl rfl rfl rfl rfl ?_; refine h_pure rfl (y_pick_t rfl rfl) rfl ?_; refine h_nil ?_; refine x_next ?_; refine c_true rfl ?_; refine c_seq ?_; refine c_region ?_; refine w_pure (y_assign rfl) rfl ?_; refine w_nil ?_; refine x_next ?_; refine c_ret ?_; refine x_block_ret ?_; refine x_then_ret ?_; refine x_then_ret ?_; refine x_block_ret ?_; refine x_then_ret ?_; rotate_left; refine h_yes rfl rfl rfl (y_move rfl) rfl ?_; refine h_yes rfl rfl rfl (y_gt rfl rfl) rfl ?_; refine h_yes rfl rfl rfl (y_move rfl) rfl ?_; (refine h_part_dec rfl rfl (fun hc26 => ?_) (fun hc26 => ?_) <;> try (first | exact absurd rfl hc26 | contradiction | exact Bool.noConfusion (show false = true from hc26.symm.trans (by assumption)) | exact Bool.noConfusion (show true = false from hc26.symm.trans (by assumption)) | (exfalso; omega) | (exfalso; simp only [*, Bool.not_true, Bool.not_false, reduceCtorEq] at hc26; done))); refine h_yes rfl rfl rfl (y_move rfl) rfl ?_; refine h_yes rfl rfl rfl (y_move rfl) rfl ?_; refine h_yes rfl rfl rfl (y_sub rfl rfl) rfl ?_; refine h_yes rfl rfl rfl (y_index rfl rfl) rfl ?_; refine h_yes rfl rfl rfl (y_field rfl) rfl ?_; refine h_yes rfl rfl rfl (y_load_p1 rfl) rfl ?_; refine h_yes rfl rfl rfl (y_field rfl) rfl ?_; refine h_yes rfl rfl rfl (y_load_box rfl) rfl ?_; refine h_yes rfl rfl rfl (y_ge rfl rfl) rfl ?_; refine h_yes rfl rfl rfl (y_pick_t rfl rfl) rfl ?_; refine h_pure rfl (y_pick_f rfl rfl) rfl ?_; refine h_nil ?_; refine x_next ?_; (refine c_dec rfl (fun hc36 => ?_) (fun hc36 => ?_) <;> try (first | exact absurd rfl hc36 | contradiction | exact Bool.noConfusion (show false = true from hc36.symm.trans (by assumption)) | exact Bool.noConfusion (show true = false from hc36.symm.trans (by assumption)) | (exfalso; omega) | (exfalso; simp only [*, Bool.not_true, Bool.not_false, reduceCtorEq] at hc36; done))); refine c_seq ?_; refine c_region ?_; refine w_pure (y_assign rfl) rfl ?_; refine w_nil ?_; refine x_next ?_; refine c_ret ?_; refine x_block_ret ?_; refine x_then_ret ?_; refine x_then_ret ?_; refine x_block_ret ?_; refine x_then_ret ?_; rotate_left; refine c_skip ?_; refine x_block_norm ?_; refine x_next ?_; refine c_region ?_; refine w_pure (y_add rfl rfl) rfl ?_; refine w_pure (y_move rfl) rfl ?_; refine w_nil ?_; rotate_left; refine h_no rfl rfl rfl rfl rfl ?_; refine h_no rfl rfl rfl rfl rfl ?_; refine h_no rfl rfl rfl rfl rfl ?_; refine h_no rfl rfl rfl rfl rfl ?_; refine h_no rfl rfl rfl rfl rfl ?_; refine h_no rfl rfl rfl rfl rfl ?_; refine h_no rfl rfl rfl rfl rfl ?_; refine h_no rfl rfl rfl rfl rfl ?_; refine h_no rfl rfl rfl rfl rfl ?_; refine h_yes rfl rfl rfl (y_pick_f rfl rfl) rfl ?_; refine h_pure rfl (y_pick_f rfl rfl) rfl ?_; refine h_nil ?_; refine x_next ?_; refine c_false rfl ?_; refine c_skip ?_; refine x_block_norm ?_; refine x_next ?_; refine c_region ?_; refine w_pure (y_add rfl rfl) rfl ?_; refine w_pure (y_move rfl) rfl ?_; refine w_nil ?_; rotate_left; refine c_exit ?_; refine x_then_exit ?_; refine x_then_exit ?_; refine x_block_hit ?_; refine x_next ?_; refine c_seq ?_; refine c_region ?_; refine w_pure (y_assign rfl) rfl ?_; refine w_nil ?_; refine x_next ?_; refine c_ret ?_; rotate_left
  · exact x_retv [_] rfl ⟨rfl, trivial⟩ ⟨by rw [hno hc8 (fun g => by have := hpl.1 g; omega)]; rfl, E.go⟩
  · exact x_retv [_] rfl ⟨rfl, trivial⟩ ⟨by rw [hno hc8 (fun g => by have := hpl.1 g; omega)]; rfl, E.go⟩
  · exact x_retv [_] rfl ⟨rfl, trivial⟩ ⟨by rw [hno hc8 (fun g => by have := hpl.1 g; omega)]; rfl, E.go⟩
  · exact x_again (i + 1) ⟨rfl, rfl, rfl, rfl, trivial⟩ ⟨E2.go, by omega, by omega, hyes (hpl.2 ⟨by omega, by omega, fun _ => by omega⟩)⟩ (by omega)
  · exact x_again (i + 1) ⟨rfl, rfl, rfl, rfl, trivial⟩ ⟨E2.go, by omega, by omega, hyes (hpl.2 ⟨by omega, by omega, fun _ => by omega⟩)⟩ (by omega)
  · exact x_retv [_] rfl ⟨rfl, trivial⟩ ⟨by rw [pln_yes fun j hj => hall j (by omega)]; rfl, E.go⟩
theorem l10PlainT_c (h : SL w lo hi v ps := by repeat (first | assumption | exact Go.Gw.Own.sl (by assumption) | exact Go.Gw.Box.at (by assumption) | exact Go.Gw.SLL.el (by first | assumption | exact Go.Gw.OwnD.sll (by assumption)) _ (by omega) | exact Go.Gw.SLL.at (by first | assumption | exact Go.Gw.OwnD.sll (by assumption)) (by omega) | exact Go.Gw.OwnD.sll (by assumption) | (apply Go.Gw.SL.chg; case hx => assumption) | (apply Go.Gw.Own.chg; case hx => assumption) | (apply Go.Gw.Box.chg; case hx => assumption) | (apply Go.Gw.At.chg; case hx => assumption) | exact .inl (Nat.zero_le _) | exact .inr (Nat.zero_le _) | (show _ ∨ _; omega))) (hq : ∀ p ∈ ps, In64 p.1 ∧ In64 p.2 := by assumption) : Val Tryz.prog 47 [v] w (.bool (plnB ps)) := by
  refine ⟨fun w1 hx1 => ?_⟩
  replace h := h.ext hx1
  have hsm := h.small
  have E : Since 0 0 w1 w1 := Since.refl 0 0 w1
  refine ret_enter Tryz.func47 rfl Tryz.ntmps47 rfl ?_
  focus have ht_h := h.top; refine c_seq ?_; refine c_region ?_; refine w_pure (y_assign rfl) rfl ?_; refine w_nil ?_; refine x_next ?_; refine c_seq ?_; refine c_seq ?_; refine c_region ?_; refine w_pure (y_assign rfl) rfl ?_; refine w_nil ?_; refine x_next ?_; refine c_block ?_; rotate_left
  refine c_loopC 0 0 (ι := Int) (fun i => [(0, v), (3, .int .i64 i)]) (fun i w' => 0 ≤ i ∧ i ≤ ps.length ∧ ∀ j, j < i.toNat → plnAt ps j) (fun i => (ps.length - i).toNat) 0
    (by repeat (first | exact trivial | refine ⟨rfl, ?_⟩)) ⟨by omega, by omega, fun j hj => absurd hj (by simp)⟩ ?_
  rintro i w2 hx2 E2 ⟨hi0, hi1, hall⟩
  have hq1 := fun h => in64_getP hq (i := i.toNat) h
  have ep : i.toNat - 1 = (i - 1).toNat := by omega
  have hpl : plnAt ps i.toNat ↔ ((0 ≤ (ps.getD i.toNat (0, 0)).1 ∧ (ps.getD i.toNat (0, 0)).1 ≤ 19) ∧ (0 ≤ (ps.getD i.toNat (0, 0)).2 ∧ (ps.getD i.toNat (0, 0)).2 ≤ 19) ∧ (0 < i → (ps.getD (i - 1).toNat (0, 0)).2 < (ps.getD i.toNat (0, 0)).2)) := by
    unfold plnAt; rw [ep, show (0 < i.toNat) = (0 < i) from propext ⟨fun _ => by omega, fun _ => by omega⟩]
  have hno : i < ps.length → ¬ plnAt ps i.toNat → plnB ps = false := fun h hn => pln_no (by omega) hn
  have hyes : plnAt ps i.toNat → ∀ j, j < (i + 1).toNat → plnAt ps j := fun hp j hj => if h : j < i.toNat then hall j h else by rw [show j = i.toNat by omega]; exact hp
  focus have hz_hx2 := hx2.size; replace h := h.ext hx2; replace E := E.trans hx2; refine c_seq ?_; refine c_seq ?_; refine c_region ?_; refine w_pure (y_move rfl) rfl ?_; refine w_pure (y_move rfl) rfl ?_; refine w_pure (y_len rfl) rfl ?_; refine w_pure (y_lt rfl rfl) rfl ?_; refine w_nil ?_; refine x_next ?_; (refine c_dec rfl (fun hc7 => ?_) (fun hc7 => ?_) <;> try (first | exact absurd rfl hc7 | contradiction | exact Bool.noConfusion (show false = true from hc7.symm.trans (by assumption)) | exact Bool.noConfusion (show true = false from hc7.symm.trans (by assumption)) | (exfalso; omega) | (exfalso; simp only [*, Bool.not_true, Bool.not_false, reduceCtorEq] at hc7; done))); refine c_skip ?_; refine x_next ?_; refine c_seq ?_; refine c_block ?_; refine c_seq ?_; refine c_region_held mixed (fun wr4 hxr4 hzr4 => ?_); have hz_hxr4 := hxr4.size; replace E2 := E2.trans hxr4; replace h := h.ext hxr4; replace E := E.trans hxr4; refine h_pure rfl (y_move rfl) rfl ?_; refine h_pure rfl (y_move rfl) rfl ?_; refine h_pure rfl (y_index rfl rfl) rfl ?_; refine h_pure rfl (y_field rfl) rfl ?_; refine h_pure rfl (y_load_p0 rfl) rfl ?_; refine h_one rfl ?_; refine w_pur rfl rfl rfl (l00In_c _ _ _) rfl ?_; refine w_nil ?_; refine x_held ?_; refine h_pure rfl (y_not_dec rfl) rfl ?_; refine h_pure rfl (y_move rfl) rfl ?_; (refine h_part_dec rfl rfl (fun hc18 => ?_) (fun hc18 => ?_) <;> try (first | exact absurd rfl hc18 | contradiction | exact Bool.noConfusion (show false = true from hc18.symm.trans (by assumption)) | exact Bool.noConfusion (show true = false from hc18.symm.trans (by assumption)) | (exfalso; omega) | (exfalso; simp only [*, Bool.not_true, Bool.not_false, reduceCtorEq] at hc18; done))); refine h_no rfl rfl rfl rfl rfl ?_; refine h_no rfl rfl rfl rfl rfl ?_; refine h_no rfl rfl rfl rfl rfl ?_; refine h_no rfl rfl rfl rfl rfl ?_; refine h_no rfl rfl rfl rfl rfl ?_; refine h_no rfl rfl rfl rfl rfl ?_; refine h_no rfl rfl rfl rfl rfl ?_; refine h_pure rfl (y_pick_t rfl rfl) rfl ?_; refine h_pure rfl (y_move rfl) rfl ?_; refine h_no rfl rfl rfl rfl rfl ?_; refine h_no rfl rfl rfl rfl rfl ?_; refine h_no rfl rfl rfl rfl rfl ?_; refine h_none rfl rfl rfl rfl ?_; refine h_none rfl rfl rfl rfl ?_; refine h_none rfl rfl rfl rfl ?_; refine h_none rfl rfl rfl rfl ?_; refine h_none rfl rfl rfl rfl ?_; refine h_none rfl rfl rfl rfl ?_; refine h_none rfl rfl rfl rfl ?_; refine h_none rfl rfl rfl rfl ?_; refine h_none rfl rfl rfl rfl ?_; refine h_none rfl rfl rfl rfl ?_; refine h_none rfl rfl rfl rfl ?_; refine h_none rfl rfl rfl rfl ?_; refine h_no rfl rfl rfl rfl rfl ?_; refine h_pure rfl (y_pick_t rfl rfl) rfl ?_; refine h_nil ?_; refine x_next ?_; refine c_true rfl ?_; refine c_seq ?_; refine c_region ?_; refine w_pure (y_assign rfl) rfl ?_; refine w_nil ?_; refine x_next ?_; refine c_ret ?_; refine x_block_ret ?_; refine x_then_ret ?_; refine x_then_ret ?_; refine x_block_ret ?_; refine x_then_ret ?_; rotate_left; refine h_yes rfl rfl rfl (y_move rfl) rfl ?_; refine h_yes rfl rfl rfl (y_move rfl) rfl ?_; refine h_yes rfl rfl rfl (y_index rfl rfl) rfl ?_; refine h_yes rfl rfl rfl (y_field rfl) rfl ?_; refine h_yes rfl rfl rfl (y_load_p1 rfl) rfl ?_; (refine h_part rfl rfl (fun hc23 => ?_) (fun hc23 => ?_) <;> try (first | exact absurd rfl hc23 | contradiction | exact Bool.noConfusion (show false = true from hc23.symm.trans (by assumption)) | exact Bool.noConfusion (show true = false from hc23.symm.trans (by assumption)) | (exfalso; omega) | (exfalso; simp only [*, Bool.not_true, Bool.not_false, reduceCtorEq] at hc23; done))); refine h_one rfl ?_; refine w_yes rfl rfl ?_; refine w_pur rfl rfl rfl (l00In_c _ _ _) rfl ?_; refine w_nil ?_; refine x_held ?_; refine h_yes rfl rfl rfl (y_not_dec rfl) rfl ?_; refine h_pure rfl (y_pick_f rfl rfl) rfl ?_; refine h_pure rfl (y_move rfl) rfl ?_; (refine h_part_dec rfl rfl (fun hc27 => ?_) (fun hc27 => ?_) <;> try (first | exact absurd rfl hc27 | contradiction | exact Bool.noConfusion (show false = true from hc27.symm.trans (by assumption)) | exact Bool.noConfusion (show true = false from hc27.symm.trans (by assumption)) | (exfalso; omega) | (exfalso; simp only [*, Bool.not_true, Bool.not_false, reduceCtorEq] at hc27; done))); refine h_no rfl rfl rfl rfl rfl ?_; refine h_no rfl rfl rfl rfl rfl ?_; refine h_no rfl rfl rfl rfl rfl ?_; refine h_none rfl rfl rfl rfl ?_; refine h_none rfl rfl rfl rfl ?_; refine h_none rfl rfl rfl rfl ?_; refine h_none rfl rfl rfl rfl ?_; refine h_none rfl rfl rfl rfl ?_; refine h_none rfl rfl rfl rfl ?_; refine h_none rfl rfl rfl rfl ?_; refine h_none rfl rfl rfl rfl ?_; refine h_none rfl rfl rfl rfl ?_; refine h_none rfl rfl rfl rfl ?_; refine h_none rfl rfl rfl rfl ?_; refine h_none rfl rfl rfl rfl ?_; refine h_no rfl rfl rfl rfl rfl ?_; refine h_pure rfl (y_pick_t rfl rfl) rfl ?_; refine h_nil ?_; refine x_next ?_; refine c_true rfl ?_; refine c_seq ?_; refine c_region ?_; refine w_pure (y_assign rfl) rfl ?_; refine w_nil ?_; refine x_next ?_; refine c_ret ?_; refine x_block_ret ?_; refine x_then_ret ?_; refine x_then_ret ?_; refine x_block_ret ?_; refine x_then_ret ?_; rotate_left; refine h_yes rfl rfl rfl (y_move rfl) rfl ?_; refine h_yes rfl rfl rfl (y_gt rfl rfl) rfl ?_; refine h_yes rfl rfl rfl (y_move rfl) rfl ?_; (refine h_part_dec rfl rfl (fun hc30 => ?_) (fun hc30 => ?_) <;> try (first | exact absurd rfl hc30 | contradiction | exact Bool.noConfusion (show false = true from hc30.symm.trans (by assumption)) | exact Bool.noConfusion (show true = false from hc30.symm.trans (by assumption)) | (exfalso; omega) | (exfalso; simp only [*, Bool.not_true, Bool.not_false, reduceCtorEq] at hc30; done))); refine h_yes rfl rfl rfl (y_move rfl) rfl ?_; refine h_yes rfl rfl rfl (y_move rfl) rfl ?_; refine h_yes rfl rfl rfl (y_sub rfl rfl) rfl ?_; refine h_yes rfl rfl rfl (y_index rfl rfl) rfl ?_; refine h_yes rfl rfl rfl (y_field rfl) rfl ?_; refine h_yes rfl rfl rfl (y_load_p1 rfl) rfl ?_; refine h_yes rfl rfl rfl (y_move rfl) rfl ?_; refine h_yes rfl rfl rfl (y_move rfl) rfl ?_; refine h_yes rfl rfl rfl (y_index rfl rfl) rfl ?_; refine h_yes rfl rfl rfl (y_field rfl) rfl ?_; refine h_yes rfl rfl rfl (y_load_p1 rfl) rfl ?_; refine h_yes rfl rfl rfl (y_ge rfl rfl) rfl ?_; refine h_yes rfl rfl rfl (y_pick_t rfl rfl) rfl ?_; refine h_pure rfl (y_pick_f rfl rfl) rfl ?_; refine h_nil ?_; refine x_next ?_; (refine c_dec rfl (fun hc43 => ?_) (fun hc43 => ?_) <;> try (first | exact absurd rfl hc43 | contradiction | exact Bool.noConfusion (show false = true from hc43.symm.trans (by assumption)) | exact Bool.noConfusion (show true = false from hc43.symm.trans (by assumption)) | (exfalso; omega) | (exfalso; simp only [*, Bool.not_true, Bool.not_false, reduceCtorEq] at hc43; done))); refine c_seq ?_; refine c_region ?_; refine w_pure (y_assign rfl) rfl ?_; refine w_nil ?_; refine x_next ?_; refine c_ret ?_; refine x_block_ret ?_; refine x_then_ret ?_; refine x_then_ret ?_; refine x_block_ret ?_; refine x_then_ret ?_; rotate_left; refine c_skip ?_; refine x_block_norm ?_; refine x_next ?_; refine c_region ?_; refine w_pure (y_move rfl) rfl ?_; refine w_pure (y_add rfl rfl) rfl ?_; refine w_pure (y_assign rfl) rfl ?_; refine w_nil ?_; rotate_left; refine h_no rfl rfl rfl rfl rfl ?_; refine h_no rfl rfl rfl rfl rfl ?_; refine h_no rfl rfl rfl rfl rfl ?_; refine h_no rfl rfl rfl rfl rfl ?_; refine h_no rfl rfl rfl rfl rfl ?_; refine h_no rfl rfl rfl rfl rfl ?_; refine h_no rfl rfl rfl rfl rfl ?_; refine h_no rfl rfl rfl rfl rfl ?_; refine h_no rfl rfl rfl rfl rfl ?_; refine h_no rfl rfl rfl rfl rfl ?_; refine h_no rfl rfl rfl rfl rfl ?_; refine h_no rfl rfl rfl rfl rfl ?_; refine h_yes rfl rfl rfl (y_pick_f rfl rfl) rfl ?_; refine h_pure rfl (y_pick_f rfl rfl) rfl ?_; refine h_nil ?_; refine x_next ?_; refine c_false rfl ?_; refine c_skip ?_; refine x_block_norm ?_; refine x_next ?_; refine c_region ?_; refine w_pure (y_move rfl) rfl ?_; refine w_pure (y_add rfl rfl) rfl ?_; refine w_pure (y_assign rfl) rfl ?_; refine w_nil ?_; rotate_left; refine c_exit ?_; refine x_then_exit ?_; refine x_then_exit ?_; refine x_block_hit ?_; refine x_next ?_; refine c_seq ?_; refine c_region ?_; refine w_pure (y_assign rfl) rfl ?_; refine w_nil ?_; refine x_next ?_; refine c_ret ?_; rotate_left
  · exact x_retv [_] rfl ⟨rfl, trivial⟩ ⟨by rw [hno hc7 (fun g => by have := hpl.1 g; omega)]; rfl, E.go⟩
  · exact x_retv [_] rfl ⟨rfl, trivial⟩ ⟨by rw [hno hc7 (fun g => by have := hpl.1 g; omega)]; rfl, E.go⟩
  · exact x_retv [_] rfl ⟨rfl, trivial⟩ ⟨by rw [hno hc7 (fun g => by have := hpl.1 g; omega)]; rfl, E.go⟩
  · exact x_again (i + 1) ⟨rfl, rfl, trivial⟩ ⟨E2.go, by omega, by omega, hyes (hpl.2 ⟨by omega, by omega, fun _ => by omega⟩)⟩ (by omega)
  · exact x_again (i + 1) ⟨rfl, rfl, trivial⟩ ⟨E2.go, by omega, by omega, hyes (hpl.2 ⟨by omega, by omega, fun _ => by omega⟩)⟩ (by omega)
  · exact x_retv [_] rfl ⟨rfl, trivial⟩ ⟨by rw [pln_yes fun j hj => hall j (by omega)]; rfl, E.go⟩
theorem l10Text_c (h : SL w lo hi v ps := by repeat (first | assumption | exact Go.Gw.Own.sl (by assumption) | exact Go.Gw.Box.at (by assumption) | exact Go.Gw.SLL.el (by first | assumption | exact Go.Gw.OwnD.sll (by assumption)) _ (by omega) | exact Go.Gw.SLL.at (by first | assumption | exact Go.Gw.OwnD.sll (by assumption)) (by omega) | exact Go.Gw.OwnD.sll (by assumption) | (apply Go.Gw.SL.chg; case hx => assumption) | (apply Go.Gw.Own.chg; case hx => assumption) | (apply Go.Gw.Box.chg; case hx => assumption) | (apply Go.Gw.At.chg; case hx => assumption) | exact .inl (Nat.zero_le _) | exact .inr (Nat.zero_le _) | (show _ ∨ _; omega))) (hl : ps.length ≤ 1048576 := by omega) (hq : ∀ p ∈ ps, In64 p.1 ∧ In64 p.2 := by assumption) : Val Tryz.prog 56 [v] w (str (textTo ps ps.length)) := by
  refine ⟨fun w1 hx1 => ?_⟩
  replace h := h.ext hx1
  have hsm := h.small
  have E : Since 0 0 w1 w1 := Since.refl 0 0 w1
  refine ret_enter Tryz.func56 rfl Tryz.ntmps56 rfl ?_
  focus have ht_h := h.top; refine c_seq ?_; refine c_region ?_; refine w_pure (y_assign rfl) rfl ?_; refine w_nil ?_; refine x_next ?_; refine c_seq ?_; refine c_region ?_; refine w_pure (y_assign rfl) rfl ?_; refine w_nil ?_; refine x_next ?_; refine c_seq ?_; refine c_seq ?_; refine c_region ?_; refine w_pure (y_assign rfl) rfl ?_; refine w_nil ?_; refine x_next ?_; refine c_block ?_; rotate_left
  refine c_loopC 0 0 (ι := Int) (fun i => [(0, v), (3, str (textTo ps i.toNat)), (4, .int .i64 i)]) (fun i w' => 0 ≤ i ∧ i ≤ ps.length) (fun i => (ps.length - i).toNat) 0
    (by repeat (first | exact trivial | refine ⟨rfl, ?_⟩)) ⟨by omega, by omega⟩ ?_
  rintro i w2 hx2 E2 hi
  have hll := textTo_len hq i.toNat (by omega)
  have hq1 : i < ps.length → In64 (ps.getD i.toNat (0, 0)).1 ∧ In64 (ps.getD i.toNat (0, 0)).2 := fun h => in64_getP hq (i := i.toNat) (by omega)
  have hw1 : i < ps.length → (Lib.itoa (ps.getD i.toNat (0, 0)).1).length ≤ 20 := fun h => itoa_len (hq1 h).1
  have hw2 : i < ps.length → (Lib.itoa (ps.getD i.toNat (0, 0)).2).length ≤ 20 := fun h => itoa_len (hq1 h).2
  have e1 : (i + 1).toNat = i.toNat + 1 := by omega
  focus have hz_hx2 := hx2.size; replace h := h.ext hx2; replace E := E.trans hx2; refine c_seq ?_; refine c_seq ?_; refine c_region ?_; refine w_pure (y_move rfl) rfl ?_; refine w_pure (y_move rfl) rfl ?_; refine w_pure (y_len rfl) rfl ?_; refine w_pure (y_lt rfl rfl) rfl ?_; refine w_nil ?_; refine x_next ?_; (refine c_dec rfl (fun hc8 => ?_) (fun hc8 => ?_) <;> try (first | exact absurd rfl hc8 | contradiction | exact Bool.noConfusion (show false = true from hc8.symm.trans (by assumption)) | exact Bool.noConfusion (show true = false from hc8.symm.trans (by assumption)) | (exfalso; omega) | (exfalso; simp only [*, Bool.not_true, Bool.not_false, reduceCtorEq] at hc8; done))); refine c_skip ?_; refine x_next ?_; refine c_seq ?_; refine c_block ?_; refine c_seq ?_; refine c_seq ?_; refine c_region ?_; refine w_pure (y_move rfl) rfl ?_; refine w_pure (y_gt rfl rfl) rfl ?_; refine w_nil ?_; refine x_next ?_; (refine c_dec rfl (fun hc12 => ?_) (fun hc12 => ?_) <;> try (first | exact absurd rfl hc12 | contradiction | exact Bool.noConfusion (show false = true from hc12.symm.trans (by assumption)) | exact Bool.noConfusion (show true = false from hc12.symm.trans (by assumption)) | (exfalso; omega) | (exfalso; simp only [*, Bool.not_true, Bool.not_false, reduceCtorEq] at hc12; done))); refine c_region ?_; refine w_pure (y_move rfl) rfl ?_; refine w_pure (y_scat (p := textTo ps i.toNat) (q := [32]) rfl rfl (by simp only [List.length_cons, List.length_nil]; omega)) rfl ?_; refine w_pure (y_assign rfl) rfl ?_; refine w_nil ?_; refine x_next ?_; refine c_region_held mixed (fun wr7 hxr7 hzr7 => ?_); have hz_hxr7 := hxr7.size; replace E2 := E2.trans hxr7; replace h := h.ext hxr7; replace E := E.trans hxr7; refine h_pure rfl (y_move rfl) rfl ?_; refine h_pure rfl (y_move rfl) rfl ?_; refine h_pure rfl (y_move rfl) rfl ?_; refine h_pure rfl (y_index rfl rfl) rfl ?_; refine h_pure rfl (y_field rfl) rfl ?_; refine h_pure rfl (y_load_p0 rfl) rfl ?_; refine h_turn ?_; refine h_turn ?_; refine h_pure rfl (y_move rfl) rfl ?_; refine h_pure rfl (y_move rfl) rfl ?_; refine h_pure rfl (y_index rfl rfl) rfl ?_; refine h_pure rfl (y_field rfl) rfl ?_; refine h_pure rfl (y_load_p1 rfl) rfl ?_; refine h_turn ?_; refine h_turn ?_; refine h_turn ?_; refine h_turn ?_; refine h_one rfl ?_; refine w_val rfl rfl rfl (l01Dec_c _) rfl (fun w21 hx21 hz21 => ?_); have hz_hx21 := hx21.size; replace E2 := E2.trans hx21; replace h := h.ext hx21; replace E := E.trans hx21; refine w_nil ?_; refine x_held ?_; refine h_turn ?_; refine h_turn ?_; refine h_turn ?_; refine h_turn ?_; refine h_turn ?_; refine h_twoX (j := 13) rfl rfl ?_ ?_; refine w_pure (y_scat rfl rfl (by simp only [List.length_append, List.length_cons, List.length_nil]; omega)) rfl ?_; refine w_nil ?_; refine x_held ?_; refine h_one rfl ?_; refine w_val rfl rfl rfl (l01Dec_c _) rfl (fun w28 hx28 hz28 => ?_); have hz_hx28 := hx28.size; replace E2 := E2.trans hx28; replace h := h.ext hx28; replace E := E.trans hx28; refine w_nil ?_; refine x_held ?_; refine h_one rfl ?_; refine w_pure (y_scat rfl rfl (by simp only [List.length_append, List.length_cons, List.length_nil]; omega)) rfl ?_; refine w_nil ?_; refine x_held ?_; refine h_one rfl ?_; refine w_pure (y_scat rfl rfl (by simp only [List.length_append, List.length_cons, List.length_nil]; omega)) rfl ?_; refine w_nil ?_; refine x_held ?_; refine h_pure rfl (y_assign rfl) rfl ?_; refine h_nil ?_; refine x_block_norm ?_; refine x_next ?_; refine c_region ?_; refine w_pure (y_move rfl) rfl ?_; refine w_pure (y_add rfl rfl) rfl ?_; refine w_pure (y_assign rfl) rfl ?_; refine w_nil ?_; rotate_left; refine w_val rfl rfl rfl (l01Dec_c _) rfl (fun w28 hx28 hz28 => ?_); have hz_hx28 := hx28.size; replace E2 := E2.trans hx28; replace h := h.ext hx28; replace E := E.trans hx28; refine w_nil ?_; refine x_held ?_; refine h_one rfl ?_; refine w_pure (y_scat rfl rfl (by simp only [List.length_append, List.length_cons, List.length_nil]; omega)) rfl ?_; refine w_nil ?_; refine x_held ?_; refine h_one rfl ?_; refine w_pure (y_scat rfl rfl (by simp only [List.length_append, List.length_cons, List.length_nil]; omega)) rfl ?_; refine w_nil ?_; refine x_held ?_; refine h_one rfl ?_; refine w_pure (y_scat rfl rfl (by simp only [List.length_append, List.length_cons, List.length_nil]; omega)) rfl ?_; refine w_nil ?_; refine x_held ?_; refine h_pure rfl (y_assign rfl) rfl ?_; refine h_nil ?_; refine x_block_norm ?_; refine x_next ?_; refine c_region ?_; refine w_pure (y_move rfl) rfl ?_; refine w_pure (y_add rfl rfl) rfl ?_; refine w_pure (y_assign rfl) rfl ?_; refine w_nil ?_; rotate_left; refine c_skip ?_; refine x_next ?_; refine c_region_held mixed (fun wr7 hxr7 hzr7 => ?_); have hz_hxr7 := hxr7.size; replace E2 := E2.trans hxr7; replace h := h.ext hxr7; replace E := E.trans hxr7; refine h_pure rfl (y_move rfl) rfl ?_; refine h_pure rfl (y_move rfl) rfl ?_; refine h_pure rfl (y_move rfl) rfl ?_; refine h_pure rfl (y_index rfl rfl) rfl ?_; refine h_pure rfl (y_field rfl) rfl ?_; refine h_pure rfl (y_load_p0 rfl) rfl ?_; refine h_turn ?_; refine h_turn ?_; refine h_pure rfl (y_move rfl) rfl ?_; refine h_pure rfl (y_move rfl) rfl ?_; refine h_pure rfl (y_index rfl rfl) rfl ?_; refine h_pure rfl (y_field rfl) rfl ?_; refine h_pure rfl (y_load_p1 rfl) rfl ?_; refine h_turn ?_; refine h_turn ?_; refine h_turn ?_; refine h_turn ?_; refine h_one rfl ?_; refine w_val rfl rfl rfl (l01Dec_c _) rfl (fun w21 hx21 hz21 => ?_); have hz_hx21 := hx21.size; replace E2 := E2.trans hx21; replace h := h.ext hx21; replace E := E.trans hx21; refine w_nil ?_; refine x_held ?_; refine h_turn ?_; refine h_turn ?_; refine h_turn ?_; refine h_turn ?_; refine h_turn ?_; refine h_twoX (j := 13) rfl rfl ?_ ?_; refine w_pure (y_scat rfl rfl (by simp only [List.length_append, List.length_cons, List.length_nil]; omega)) rfl ?_; refine w_nil ?_; refine x_held ?_; refine h_one rfl ?_; refine w_val rfl rfl rfl (l01Dec_c _) rfl (fun w28 hx28 hz28 => ?_); have hz_hx28 := hx28.size; replace E2 := E2.trans hx28; replace h := h.ext hx28; replace E := E.trans hx28; refine w_nil ?_; refine x_held ?_; refine h_one rfl ?_; refine w_pure (y_scat rfl rfl (by simp only [List.length_append, List.length_cons, List.length_nil]; omega)) rfl ?_; refine w_nil ?_; refine x_held ?_; refine h_one rfl ?_; refine w_pure (y_scat rfl rfl (by simp only [List.length_append, List.length_cons, List.length_nil]; omega)) rfl ?_; refine w_nil ?_; refine x_held ?_; refine h_pure rfl (y_assign rfl) rfl ?_; refine h_nil ?_; refine x_block_norm ?_; refine x_next ?_; refine c_region ?_; refine w_pure (y_move rfl) rfl ?_; refine w_pure (y_add rfl rfl) rfl ?_; refine w_pure (y_assign rfl) rfl ?_; refine w_nil ?_; rotate_left; refine w_val rfl rfl rfl (l01Dec_c _) rfl (fun w28 hx28 hz28 => ?_); have hz_hx28 := hx28.size; replace E2 := E2.trans hx28; replace h := h.ext hx28; replace E := E.trans hx28; refine w_nil ?_; refine x_held ?_; refine h_one rfl ?_; refine w_pure (y_scat rfl rfl (by simp only [List.length_append, List.length_cons, List.length_nil]; omega)) rfl ?_; refine w_nil ?_; refine x_held ?_; refine h_one rfl ?_; refine w_pure (y_scat rfl rfl (by simp only [List.length_append, List.length_cons, List.length_nil]; omega)) rfl ?_; refine w_nil ?_; refine x_held ?_; refine h_one rfl ?_; refine w_pure (y_scat rfl rfl (by simp only [List.length_append, List.length_cons, List.length_nil]; omega)) rfl ?_; refine w_nil ?_; refine x_held ?_; refine h_pure rfl (y_assign rfl) rfl ?_; refine h_nil ?_; refine x_block_norm ?_; refine x_next ?_; refine c_region ?_; refine w_pure (y_move rfl) rfl ?_; refine w_pure (y_add rfl rfl) rfl ?_; refine w_pure (y_assign rfl) rfl ?_; refine w_nil ?_; rotate_left; refine c_exit ?_; refine x_then_exit ?_; refine x_then_exit ?_; refine x_block_hit ?_; refine x_next ?_; refine c_seq ?_; refine c_region ?_; refine w_pure (y_move rfl) rfl ?_; refine w_pure (y_assign rfl) rfl ?_; refine w_nil ?_; refine x_next ?_; refine c_ret ?_; rotate_left
  all_goals first
    | exact x_retv [_] rfl ⟨rfl, trivial⟩ ⟨by rw [show i.toNat = ps.length by omega]; rfl, E.go⟩
    | exact x_again (i + 1) ⟨rfl, by rw [e1, textTo_succ (by omega) (by omega)]; rfl, rfl, trivial⟩ ⟨E2.go, by omega, by omega⟩ (by omega)
    | (obtain rfl : i = 0 := by omega
       exact x_again (0 + 1) ⟨rfl, by rw [e1, show (0 : Int).toNat + 1 = 1 from rfl, textTo_one (by omega)]; rfl, rfl, trivial⟩ ⟨E2.go, by omega, by omega⟩ (by omega))
theorem sCopiesText_c (h : SL w lo hi v ps := by repeat (first | assumption | exact Go.Gw.Own.sl (by assumption) | exact Go.Gw.Box.at (by assumption) | exact Go.Gw.SLL.el (by first | assumption | exact Go.Gw.OwnD.sll (by assumption)) _ (by omega) | exact Go.Gw.SLL.at (by first | assumption | exact Go.Gw.OwnD.sll (by assumption)) (by omega) | exact Go.Gw.OwnD.sll (by assumption) | (apply Go.Gw.SL.chg; case hx => assumption) | (apply Go.Gw.Own.chg; case hx => assumption) | (apply Go.Gw.Box.chg; case hx => assumption) | (apply Go.Gw.At.chg; case hx => assumption) | exact .inl (Nat.zero_le _) | exact .inr (Nat.zero_le _) | (show _ ∨ _; omega))) (hl : ps.length ≤ 1048576 := by omega) (hq : ∀ p ∈ ps, In64 p.1 ∧ In64 p.2 := by assumption) : Val Tryz.prog 26 [v] w (str (cpText ps)) := by
  refine ⟨fun w1 hx1 => ?_⟩
  replace h := h.ext hx1
  by_cases hk : plnB ps = true
  · have E : Since 0 0 w1 w1 := Since.refl 0 0 w1
    refine ret_enter Tryz.func26 rfl Tryz.ntmps26 rfl ?_
    focus have ht_h := h.top; refine c_seq ?_; refine c_region ?_; refine w_pure (y_assign rfl) rfl ?_; refine w_nil ?_; refine x_next ?_; refine c_seq ?_; refine c_seq ?_; refine c_region ?_; refine w_pure (y_move rfl) rfl ?_; refine w_val rfl rfl rfl (l10PlainT_c) rfl (fun w4 hx4 hz4 => ?_); have hz_hx4 := hx4.size; replace h := h.ext hx4; replace E := E.trans hx4; refine w_pure (y_not rfl) rfl ?_; refine w_nil ?_; refine x_next ?_; (refine c_not rfl (fun hc5 => ?_) (fun hc5 => ?_) <;> try (first | exact absurd rfl hc5 | contradiction | exact Bool.noConfusion (show false = true from hc5.symm.trans (by assumption)) | exact Bool.noConfusion (show true = false from hc5.symm.trans (by assumption)) | (exfalso; omega) | (exfalso; simp only [*, Bool.not_true, Bool.not_false, reduceCtorEq] at hc5; done))); refine c_skip ?_; refine x_next ?_; refine c_seq ?_; refine c_region ?_; refine w_pure (y_move rfl) rfl ?_; refine w_val rfl rfl rfl (l10Text_c) rfl (fun w7 hx7 hz7 => ?_); have hz_hx7 := hx7.size; replace h := h.ext hx7; replace E := E.trans hx7; refine w_pure (y_assign rfl) rfl ?_; refine w_nil ?_; refine x_next ?_; refine c_ret ?_; rotate_left
    exact x_retv [_] rfl ⟨rfl, trivial⟩ ⟨by rw [cpText, if_pos hk]; rfl, E.go⟩
  · have E : Since 0 0 w1 w1 := Since.refl 0 0 w1
    refine ret_enter Tryz.func26 rfl Tryz.ntmps26 rfl ?_
    focus have ht_h := h.top; refine c_seq ?_; refine c_region ?_; refine w_pure (y_assign rfl) rfl ?_; refine w_nil ?_; refine x_next ?_; refine c_seq ?_; refine c_seq ?_; refine c_region ?_; refine w_pure (y_move rfl) rfl ?_; refine w_val rfl rfl rfl (l10PlainT_c) rfl (fun w4 hx4 hz4 => ?_); have hz_hx4 := hx4.size; replace h := h.ext hx4; replace E := E.trans hx4; refine w_pure (y_not rfl) rfl ?_; refine w_nil ?_; refine x_next ?_; (refine c_not rfl (fun hc5 => ?_) (fun hc5 => ?_) <;> try (first | exact absurd rfl hc5 | contradiction | exact Bool.noConfusion (show false = true from hc5.symm.trans (by assumption)) | exact Bool.noConfusion (show true = false from hc5.symm.trans (by assumption)) | (exfalso; omega) | (exfalso; simp only [*, Bool.not_true, Bool.not_false, reduceCtorEq] at hc5; done))); refine c_seq ?_; refine c_region ?_; refine w_pure (y_assign rfl) rfl ?_; refine w_nil ?_; refine x_next ?_; refine c_ret ?_; refine x_then_ret ?_; rotate_left
    exact x_retv [_] rfl ⟨rfl, trivial⟩ ⟨by rw [cpText, if_neg hk]; rfl, E.go⟩
theorem iCopiesText_c (hT : Tab B w := by assumption) (h : SL w lo hi v ps := by repeat (first | assumption | exact Go.Gw.Own.sl (by assumption) | exact Go.Gw.Box.at (by assumption) | exact Go.Gw.SLL.el (by first | assumption | exact Go.Gw.OwnD.sll (by assumption)) _ (by omega) | exact Go.Gw.SLL.at (by first | assumption | exact Go.Gw.OwnD.sll (by assumption)) (by omega) | exact Go.Gw.OwnD.sll (by assumption) | (apply Go.Gw.SL.chg; case hx => assumption) | (apply Go.Gw.Own.chg; case hx => assumption) | (apply Go.Gw.Box.chg; case hx => assumption) | (apply Go.Gw.At.chg; case hx => assumption) | exact .inl (Nat.zero_le _) | exact .inr (Nat.zero_le _) | (show _ ∨ _; omega))) (hl : ps.length ≤ 1048576 := by omega) (hq : ∀ p ∈ ps, In64 p.1 ∧ In64 p.2 := by assumption) : Val Tryz.prog 18 [v] w (str (cpText ps)) := by
  refine ⟨fun w1 hx1 => ?_⟩
  replace h := h.ext hx1
  replace hT := hT.ext hx1
  have hsm := h.small
  by_cases hk : plnB ps = true
  · have E : Since 0 0 w1 w1 := Since.refl 0 0 w1
    refine ret_enter Tryz.func18 rfl Tryz.ntmps18 rfl ?_
    focus have ht_h := h.top; have ht_hT := hT.top; refine c_seq ?_; refine c_region ?_; refine w_pure (y_assign rfl) rfl ?_; refine w_nil ?_; refine x_next ?_; refine c_seq ?_; refine c_seq ?_; refine c_region ?_; refine w_pure (y_move rfl) rfl ?_; refine w_val rfl rfl rfl (isPlainT_c) rfl (fun w7 hx7 hz7 => ?_); have hz_hx7 := hx7.size; replace h := h.ext hx7; replace hT := hT.ext hx7; replace E := E.trans hx7; refine w_pure (y_not rfl) rfl ?_; refine w_nil ?_; refine x_next ?_; (refine c_not rfl (fun hc8 => ?_) (fun hc8 => ?_) <;> try (first | exact absurd rfl hc8 | contradiction | exact Bool.noConfusion (show false = true from hc8.symm.trans (by assumption)) | exact Bool.noConfusion (show true = false from hc8.symm.trans (by assumption)) | (exfalso; omega) | (exfalso; simp only [*, Bool.not_true, Bool.not_false, reduceCtorEq] at hc8; done))); refine c_skip ?_; refine x_next ?_; refine c_seq ?_; refine c_region ?_; refine w_lit_s0 rfl (k := fun v9 w9 ho9 hx9 hl9 hh9 hs9 => ?_); have hl_ho9 := ho9.lt; have hz_hx9 := hx9.size; replace h := h.ext hx9; replace hT := hT.ext hx9; replace E := E.trans hx9; refine w_pure (y_assign rfl) rfl ?_; refine w_nil ?_; refine x_next ?_; refine c_seq ?_; refine c_seq ?_; refine c_region ?_; refine w_pure (y_move rfl) rfl ?_; refine w_pure (y_len rfl) rfl ?_; refine w_pure (y_move rfl) rfl ?_; refine w_nil ?_; refine x_next ?_; refine c_block ?_; rotate_left
    refine c_loopC (bL v9) (bH v9) (ι := Int × Value) (fun x => [(3, x.2), (10, v), (11, .int .i64 ps.length), (12, .int .i64 x.1)]) (fun x w' => Own w' 9 w1.heap.size x.2 ((ps.take x.1.toNat).map word) ∧ ((bL x.2 = bL v9 ∧ bH x.2 = bH v9) ∨ w9.heap.size ≤ bL x.2) ∧ 0 ≤ x.1 ∧ x.1 ≤ ps.length) (fun x => (ps.length - x.1).toNat) (0, v9)
      (by repeat (first | exact trivial | refine ⟨rfl, ?_⟩)) ⟨Own.base (by assumption) (by omega), .inl ⟨rfl, rfl⟩, by dsimp only; omega, by dsimp only; omega⟩ ?_
    clear ho9
    rintro ⟨i, u⟩ w2 hx2 E2 ⟨h2, h4, hi0, hi1⟩
    dsimp only at *
    have hml : ((ps.take i.toNat).map word).length = i.toNat := by rw [List.length_map, List.length_take]; omega
    have hq1 : i < ps.length → In64 (ps.getD i.toNat (0, 0)).1 ∧ In64 (ps.getD i.toNat (0, 0)).2 := fun h => in64_getP hq (i := i.toNat) (by omega)
    have hw1 : i < ps.length → (Lib.itoa (ps.getD i.toNat (0, 0)).1).length ≤ 20 := fun h => itoa_len (hq1 h).1
    have hw2 : i < ps.length → (Lib.itoa (ps.getD i.toNat (0, 0)).2).length ≤ 20 := fun h => itoa_len (hq1 h).2
    have e1 : (i + 1).toNat = i.toNat + 1 := by omega
    have hll : (Lib.join ((ps.take i.toNat).map word) [32]).length ≤ 140737488355328 := by
      have := textTo_len hq i.toNat (by omega)
      rw [textTo] at this; omega
    focus have hl_h2 := h2.lt; have hz_hx2 := hx2.size; replace h := h.chg hx2 (by omega); replace hT := hT.chg hx2 (by omega); replace E := E.next hx2 (by omega); refine c_seq ?_; refine c_region ?_; refine w_pure (y_lt rfl rfl) rfl ?_; refine w_nil ?_; refine x_next ?_; refine c_seq ?_; (refine c_dec rfl (fun hc13 => ?_) (fun hc13 => ?_) <;> try (first | exact absurd rfl hc13 | contradiction | exact Bool.noConfusion (show false = true from hc13.symm.trans (by assumption)) | exact Bool.noConfusion (show true = false from hc13.symm.trans (by assumption)) | (exfalso; omega) | (exfalso; simp only [*, Bool.not_true, Bool.not_false, reduceCtorEq] at hc13; done))); refine c_skip ?_; refine x_next ?_; refine c_seq ?_; refine c_block ?_; refine c_seq ?_; refine c_region ?_; refine w_pure (y_index rfl rfl) rfl ?_; refine w_pure (y_load_paire rfl (show ps.getD i.toNat (0, 0) = ((ps.getD i.toNat (0, 0)).1, (ps.getD i.toNat (0, 0)).2) from rfl)) rfl ?_; refine w_alloc (k := fun b5 w5 hb5 hx5 hl5 hs5 => ?_); have hz_hx5 := hx5.size; replace E2 := E2.next hx5 (by omega); replace h2 := h2.ext hx5; replace h := h.ext hx5; replace hT := hT.ext hx5; replace E := E.trans hx5; refine w_store_boxs rfl rfl (next := fun ws17 hbs17 hxs17 hss17 => ?_); (replace hb5 := hbs17; clear hbs17); have hz_hxs17 := hxs17.size; replace E2 := E2.next hxs17 (by omega); replace h2 := h2.chg hxs17 (by omega); replace h := h.chg hxs17 (by omega); replace hT := hT.chg hxs17 (by omega); replace E := E.next hxs17 (by omega); refine w_nil ?_; refine x_next ?_; refine c_region_held mixed (fun wr7 hxr7 hzr7 => ?_); have hz_hxr7 := hxr7.size; replace hb5 := hb5.ext hxr7; replace E2 := E2.next hxr7 (by omega); replace h2 := h2.ext hxr7; replace h := h.ext hxr7; replace hT := hT.ext hxr7; replace E := E.trans hxr7; refine h_pure rfl (y_move rfl) rfl ?_; refine h_pure rfl (y_field rfl) rfl ?_; refine h_pure rfl (y_load_box rfl) rfl ?_; refine h_turn ?_; refine h_turn ?_; refine h_pure rfl (y_field rfl) rfl ?_; refine h_pure rfl (y_load_box rfl) rfl ?_; refine h_turn ?_; refine h_turn ?_; refine h_turn ?_; refine h_turn ?_; refine h_turn ?_; refine h_one rfl ?_; refine w_val rfl rfl rfl (iDecimal_c _) rfl (fun w19 hx19 hz19 => ?_); have hz_hx19 := hx19.size; replace hb5 := hb5.ext hx19; replace E2 := E2.next hx19 (by omega); replace h2 := h2.ext hx19; replace h := h.ext hx19; replace hT := hT.ext hx19; replace E := E.trans hx19; refine w_nil ?_; refine x_held ?_; refine h_turn ?_; refine h_turn ?_; refine h_turn ?_; refine h_turn ?_; refine h_turn ?_; refine h_turn ?_; refine h_twoX (j := 7) rfl rfl ?_ ?_; refine w_pure (y_scat rfl rfl (by simp only [List.length_append, List.length_cons, List.length_nil]; omega)) rfl ?_; refine w_nil ?_; refine x_held ?_; refine h_one rfl ?_; refine w_val rfl rfl rfl (iDecimal_c _) rfl (fun w23 hx23 hz23 => ?_); have hz_hx23 := hx23.size; replace hb5 := hb5.ext hx23; replace E2 := E2.next hx23 (by omega); replace h2 := h2.ext hx23; replace h := h.ext hx23; replace hT := hT.ext hx23; replace E := E.trans hx23; refine w_nil ?_; refine x_held ?_; refine h_one rfl ?_; refine w_pure (y_scat rfl rfl (by simp only [List.length_append, List.length_cons, List.length_nil]; omega)) rfl ?_; refine w_nil ?_; refine x_held ?_; refine h_one rfl ?_; refine w_lit (α := (List UInt8)) rfl rfl rfl rfl rfl rfl rfl rfl (fun v25 w25 ho25 hx25 hl25 hh25 hs25 => ?_); have hl_ho25 := ho25.lt; have hz_hx25 := hx25.size; replace hb5 := hb5.ext hx25; replace E2 := E2.next hx25 (by omega); replace h2 := h2.ext hx25; replace h := h.ext hx25; replace hT := hT.ext hx25; replace E := E.trans hx25; refine w_nil ?_; refine x_held ?_; refine h_one rfl ?_; refine w_append rfl rfl (k := fun v26 w26 ho26 hx26 hr26 => ?_); have hl_ho26 := ho26.lt; have hz_hx26 := hx26.size; replace ho25 := ho25.chg hx26 (by omega); replace hb5 := hb5.chg hx26 (by omega); replace E2 := E2.next hx26 (by omega); replace h := h.chg hx26 (by omega); replace hT := hT.chg hx26 (by omega); replace E := E.next hx26 (by omega); refine w_nil ?_; refine x_heldk ?_; refine h_pure rfl (y_assign rfl) rfl ?_; refine h_nil ?_; refine x_block_norm ?_; refine x_next ?_; refine c_region ?_; refine w_pure (y_add rfl rfl) rfl ?_; refine w_pure (y_move rfl) rfl ?_; refine w_nil ?_; rotate_left; refine w_val rfl rfl rfl (iDecimal_c _) rfl (fun w23 hx23 hz23 => ?_); have hz_hx23 := hx23.size; replace hb5 := hb5.ext hx23; replace E2 := E2.next hx23 (by omega); replace h2 := h2.ext hx23; replace h := h.ext hx23; replace hT := hT.ext hx23; replace E := E.trans hx23; refine w_nil ?_; refine x_held ?_; refine h_one rfl ?_; refine w_pure (y_scat rfl rfl (by simp only [List.length_append, List.length_cons, List.length_nil]; omega)) rfl ?_; refine w_nil ?_; refine x_held ?_; refine h_one rfl ?_; refine w_pure (y_scat rfl rfl (by simp only [List.length_append, List.length_cons, List.length_nil]; omega)) rfl ?_; refine w_nil ?_; refine x_held ?_; refine h_one rfl ?_; refine w_lit (α := (List UInt8)) rfl rfl rfl rfl rfl rfl rfl rfl (fun v25 w25 ho25 hx25 hl25 hh25 hs25 => ?_); have hl_ho25 := ho25.lt; have hz_hx25 := hx25.size; replace hb5 := hb5.ext hx25; replace E2 := E2.next hx25 (by omega); replace h2 := h2.ext hx25; replace h := h.ext hx25; replace hT := hT.ext hx25; replace E := E.trans hx25; refine w_nil ?_; refine x_held ?_; refine h_one rfl ?_; refine w_append rfl rfl (k := fun v26 w26 ho26 hx26 hr26 => ?_); have hl_ho26 := ho26.lt; have hz_hx26 := hx26.size; replace ho25 := ho25.chg hx26 (by omega); replace hb5 := hb5.chg hx26 (by omega); replace E2 := E2.next hx26 (by omega); replace h := h.chg hx26 (by omega); replace hT := hT.chg hx26 (by omega); replace E := E.next hx26 (by omega); refine w_nil ?_; refine x_heldk ?_; refine h_pure rfl (y_assign rfl) rfl ?_; refine h_nil ?_; refine x_block_norm ?_; refine x_next ?_; refine c_region ?_; refine w_pure (y_add rfl rfl) rfl ?_; refine w_pure (y_move rfl) rfl ?_; refine w_nil ?_; rotate_left; refine c_exit ?_; refine x_then_exit ?_; refine x_then_exit ?_; refine x_block_hit ?_; refine x_next ?_; refine c_seq ?_; refine c_region ?_; refine w_pure (y_move rfl) rfl ?_; refine w_val rfl rfl rfl (Join_c) rfl (fun w29 hx29 hz29 => ?_); have hz_hx29 := hx29.size; replace E2 := E2.next hx29 (by omega); replace h2 := h2.ext hx29; replace h := h.ext hx29; replace hT := hT.ext hx29; replace E := E.trans hx29; refine w_pure (y_assign rfl) rfl ?_; refine w_nil ?_; refine x_next ?_; refine c_ret ?_; rotate_left
    all_goals first
      | (refine x_again (i + 1, v26) (by repeat (first | exact trivial | refine ⟨rfl, ?_⟩)) ⟨E2.go, ?_, by dsimp only; omega, by dsimp only; omega, by dsimp only; omega⟩ (by dsimp only; omega)
         dsimp only
         rw [e1, takeP_snoc (by omega), List.map_append]
         exact Own.base (by assumption) (by omega))
      | (refine x_retv [_] rfl ⟨rfl, trivial⟩ ⟨?_, E.go⟩
         rw [cpText, if_pos hk, textTo, ← show i.toNat = ps.length by omega]; rfl)
  · have E : Since 0 0 w1 w1 := Since.refl 0 0 w1
    refine ret_enter Tryz.func18 rfl Tryz.ntmps18 rfl ?_
    focus have ht_h := h.top; have ht_hT := hT.top; refine c_seq ?_; refine c_region ?_; refine w_pure (y_assign rfl) rfl ?_; refine w_nil ?_; refine x_next ?_; refine c_seq ?_; refine c_seq ?_; refine c_region ?_; refine w_pure (y_move rfl) rfl ?_; refine w_val rfl rfl rfl (isPlainT_c) rfl (fun w7 hx7 hz7 => ?_); have hz_hx7 := hx7.size; replace h := h.ext hx7; replace hT := hT.ext hx7; replace E := E.trans hx7; refine w_pure (y_not rfl) rfl ?_; refine w_nil ?_; refine x_next ?_; (refine c_not rfl (fun hc8 => ?_) (fun hc8 => ?_) <;> try (first | exact absurd rfl hc8 | contradiction | exact Bool.noConfusion (show false = true from hc8.symm.trans (by assumption)) | exact Bool.noConfusion (show true = false from hc8.symm.trans (by assumption)) | (exfalso; omega) | (exfalso; simp only [*, Bool.not_true, Bool.not_false, reduceCtorEq] at hc8; done))); refine c_seq ?_; refine c_region ?_; refine w_pure (y_assign rfl) rfl ?_; refine w_nil ?_; refine x_next ?_; refine c_ret ?_; refine x_then_ret ?_; rotate_left
    exact x_retv [_] rfl ⟨rfl, trivial⟩ ⟨by rw [cpText, if_neg hk]; rfl, E.go⟩
end
end Go.Proofs.YtcbpiaehkodliaaGreatDoor
/- RprB -/
namespace Go.Proofs.YtcbpiaehkodliaaGreatDoor
open Go Go.Gw
set_option linter.unusedVariables false
set_option linter.unusedSimpArgs false
section
variable {w : World} {lo hi b l9 k9 c o lo3 hi3 : Nat} {B : Int} {v vo : Value} {p : List UInt8} {xs : List Int}
theorem DrawReproduceCard_c (h : SL w lo hi v p := by repeat (first | assumption | exact Go.Gw.Own.sl (by assumption) | exact Go.Gw.Box.at (by assumption) | exact Go.Gw.SLL.el (by first | assumption | exact Go.Gw.OwnD.sll (by assumption)) _ (by omega) | exact Go.Gw.SLL.at (by first | assumption | exact Go.Gw.OwnD.sll (by assumption)) (by omega) | exact Go.Gw.OwnD.sll (by assumption) | (apply Go.Gw.SL.chg; case hx => assumption) | (apply Go.Gw.Own.chg; case hx => assumption) | (apply Go.Gw.Box.chg; case hx => assumption) | (apply Go.Gw.At.chg; case hx => assumption) | exact .inl (Nat.zero_le _) | exact .inr (Nat.zero_le _) | (show _ ∨ _; omega))) : Ret Tryz.prog 5 [v] w fun u w' => ∃ m, ∃ ms : List Int, ∃ e, ∃ ps : List (Int × Int), ∃ k : Int, u = .tuple #[.agg #[m], e, .int .i64 k] ∧ Own w' 2 w.heap.size m ms ∧ Own w' 73 w.heap.size e ps ∧ (-1 ≤ k ∧ k ≤ 21) ∧ Ext w w' := by
  have E : Since 0 0 w w := Since.refl 0 0 w
  refine ret_enter Tryz.func5 rfl Tryz.ntmps5 rfl ?_
  focus have ht_h := h.top; refine c_seq ?_; refine c_region ?_; refine w_alloc (k := fun b2 w2 hb2 hx2 hl2 hs2 => ?_); have hz_hx2 := hx2.size; replace h := h.ext hx2; replace E := E.trans hx2; refine w_pure (y_assign rfl) rfl ?_; refine w_pure (y_assign rfl) rfl ?_; refine w_nil ?_; refine x_next ?_; refine c_seq ?_; refine c_region ?_; refine w_pure (y_move rfl) rfl ?_; (refine w_call rfl rfl rfl (srcFrom_z) rfl ?_; rintro _ w9 ⟨c9, ⟨rfl, ⟨hp1_9, ⟨hp2_9, ⟨hp3_9, hx9⟩⟩⟩⟩⟩); have hz_hx9 := hx9.size; replace hb2 := hb2.ext hx9; replace h := h.ext hx9; replace E := E.trans hx9; refine w_pure (y_assign rfl) rfl ?_; refine w_nil ?_; refine x_next ?_; refine c_seq ?_; refine c_region ?_; refine w_pure (y_move rfl) rfl ?_; (refine w_call rfl rfl rfl (l03Bent_c) rfl ?_; rintro _ w11 ⟨d11, ⟨xs11, ⟨rfl, ⟨hp1_11, ⟨hp2_11, ⟨hp3_11, hx11⟩⟩⟩⟩⟩⟩); have hl_hp1_11 := hp1_11.lt; have hz_hx11 := hx11.size; replace hb2 := hb2.chg hx11 (by omega); replace h := h.chg hx11 (by omega); replace E := E.next hx11 (by omega); refine w_alloc (k := fun b6 w6 hb6 hx6 hl6 hs6 => ?_); have hz_hx6 := hx6.size; replace hp1_11 := hp1_11.ext hx6; replace hp3_11 := hp3_11.ext hx6; replace hb2 := hb2.ext hx6; replace h := h.ext hx6; replace E := E.trans hx6; refine w_store_boxs rfl rfl (next := fun ws20 hbs20 hxs20 hss20 => ?_); (replace hb6 := hbs20; clear hbs20); have hz_hxs20 := hxs20.size; replace hp1_11 := hp1_11.chg hxs20 (by omega); replace hp3_11 := hp3_11.chg hxs20 (by omega); replace hb2 := hb2.chg hxs20 (by omega); replace h := h.chg hxs20 (by omega); replace E := E.next hxs20 (by omega); refine w_nil ?_; refine x_next ?_; refine c_seq ?_; refine c_region ?_; refine w_pure (y_move rfl) rfl ?_; (refine w_call rfl rfl rfl (l10Width_c) rfl ?_; rintro _ w13 ⟨k13, ⟨rfl, ⟨⟨hp1_13, hp2_13⟩, ⟨hp3_13, hx13⟩⟩⟩⟩); have hz_hx13 := hx13.size; replace hb6 := hb6.chg hx13 (by omega); replace hp1_11 := hp1_11.chg hx13 (by omega); replace hb2 := hb2.chg hx13 (by omega); replace h := h.chg hx13 (by omega); replace E := E.next hx13 (by omega); refine w_pure (y_assign rfl) rfl ?_; refine w_nil ?_; refine x_next ?_; refine c_seq ?_; refine c_region_inv (i := 4) (b2) (c9 + 1) mixed (fun wr4 hxr4 hzr4 => ?_); have hz_hxr4 := hxr4.size; replace hp3_13 := hp3_13.ext hxr4; replace hb6 := hb6.ext hxr4; replace hp1_11 := hp1_11.ext hxr4; replace hb2 := hb2.ext hxr4; replace h := h.ext hxr4; replace E := E.trans hxr4; refine i_pure rfl (fun w14i hx14i => y_load_boxs rfl) rfl ?_; refine i_pure rfl (fun w15i hx15i => y_move rfl) rfl ?_; refine i_pure rfl (fun w16i hx16i => y_field rfl) rfl ?_; refine i_pure rfl (fun w17i hx17i => y_load_box rfl) rfl ?_; refine i_pure rfl (fun w18i hx18i => y_len rfl) rfl ?_; refine i_pure rfl (fun w19i hx19i => y_move rfl) rfl ?_; refine i_turn ?_; refine i_pure rfl (fun w21i hx21i => y_move rfl) rfl ?_; refine i_turn ?_; refine i_turn ?_; refine i_turn ?_; refine i_one rfl ?_; (refine w_call rfl rfl rfl (l10Bent_c _ _) rfl ?_; rintro v20 w20 ⟨ps20, ⟨hp1_20, ⟨⟨hp2_20, hp3_20⟩, ⟨hp4_20, hx20⟩⟩⟩⟩); have hl_hp1_20 := hp1_20.lt; have hz_hx20 := hx20.size; replace hb6 := hb6.chg hx20 (by omega); replace hp1_11 := hp1_11.chg hx20 (by omega); replace hb2 := hb2.chg hx20 (by omega); replace h := h.chg hx20 (by omega); replace E := E.next hx20 (by omega); refine w_nil ?_; refine x_hi ?_; refine i_one rfl ?_; refine w_store_boxs rfl rfl (next := fun ws48 hbs48 hxs48 hss48 => ?_); (replace hb2 := hbs48; clear hbs48); have hz_hxs48 := hxs48.size; replace hp1_20 := hp1_20.chg hxs48 (by omega); replace hp4_20 := hp4_20.chg hxs48 (by omega); replace hb6 := hb6.chg hxs48 (by omega); replace hp1_11 := hp1_11.chg hxs48 (by omega); replace h := h.chg hxs48 (by omega); replace E := E.next hxs48 (by omega); refine w_nil ?_; refine x_hi ?_; refine i_pure rfl (fun w3i hx3i => y_assign rfl) rfl ?_; refine i_pure rfl (fun w4i hx4i => y_assign rfl) rfl ?_; refine i_nil ?_; refine x_next ?_; refine c_ret ?_; rotate_left
  exact x_retv [_, _, _] rfl ⟨⟨_, rfl, run_load_str (Box.at (by assumption)) (by rfl)⟩, rfl, rfl, trivial⟩ ⟨_, _, _, _, _, rfl, Own.base (by assumption) (by omega), Own.base (by assumption) (by omega), by omega, E.go⟩
theorem DrawJoinCopies_c (h : SL w lo hi v p := by repeat (first | assumption | exact Go.Gw.Own.sl (by assumption) | exact Go.Gw.Box.at (by assumption) | exact Go.Gw.SLL.el (by first | assumption | exact Go.Gw.OwnD.sll (by assumption)) _ (by omega) | exact Go.Gw.SLL.at (by first | assumption | exact Go.Gw.OwnD.sll (by assumption)) (by omega) | exact Go.Gw.OwnD.sll (by assumption) | (apply Go.Gw.SL.chg; case hx => assumption) | (apply Go.Gw.Own.chg; case hx => assumption) | (apply Go.Gw.Box.chg; case hx => assumption) | (apply Go.Gw.At.chg; case hx => assumption) | exact .inl (Nat.zero_le _) | exact .inr (Nat.zero_le _) | (show _ ∨ _; omega))) : Ret Tryz.prog 11 [v] w fun u w' => ∃ d, ∃ ps : List (Int × Int), ∃ e, ∃ qs : List (Int × Int), u = .tuple #[d, e] ∧ Own w' 73 w.heap.size d ps ∧ Own w' 73 w.heap.size e qs ∧ Ext w w' := by
  have E : Since 0 0 w w := Since.refl 0 0 w
  refine ret_enter Tryz.func11 rfl Tryz.ntmps11 rfl ?_
  focus have ht_h := h.top; refine c_seq ?_; refine c_region ?_; refine w_pure (y_assign rfl) rfl ?_; refine w_pure (y_assign rfl) rfl ?_; refine w_nil ?_; refine x_next ?_; refine c_seq ?_; refine c_region ?_; refine w_pure (y_move rfl) rfl ?_; (refine w_call rfl rfl rfl (srcFrom_z) rfl ?_; rintro _ w7 ⟨c7, ⟨rfl, ⟨hp1_7, ⟨hp2_7, ⟨hp3_7, hx7⟩⟩⟩⟩⟩); have hz_hx7 := hx7.size; replace h := h.ext hx7; replace E := E.trans hx7; refine w_pure (y_assign rfl) rfl ?_; refine w_nil ?_; refine x_next ?_; refine c_seq ?_; refine c_region ?_; refine w_pure (y_move rfl) rfl ?_; (refine w_call rfl rfl rfl (l10Bent_c _ _) rfl ?_; rintro v9 w9 ⟨ps9, ⟨hp1_9, ⟨⟨hp2_9, hp3_9⟩, ⟨hp4_9, hx9⟩⟩⟩⟩); have hl_hp1_9 := hp1_9.lt; have hz_hx9 := hx9.size; replace h := h.chg hx9 (by omega); replace E := E.next hx9 (by omega); refine w_pure (y_assign rfl) rfl ?_; refine w_nil ?_; refine x_next ?_; refine c_seq ?_; refine c_region ?_; refine w_pure (y_move rfl) rfl ?_; refine w_pure (y_move rfl) rfl ?_; (refine w_call rfl rfl rfl (l10Bent_c _ _) rfl ?_; rintro v12 w12 ⟨ps12, ⟨hp1_12, ⟨⟨hp2_12, hp3_12⟩, ⟨hp4_12, hx12⟩⟩⟩⟩); have hl_hp1_12 := hp1_12.lt; have hz_hx12 := hx12.size; replace hp1_9 := hp1_9.chg hx12 (by omega); replace h := h.chg hx12 (by omega); replace E := E.next hx12 (by omega); refine w_pure (y_assign rfl) rfl ?_; refine w_pure (y_assign rfl) rfl ?_; refine w_nil ?_; refine x_next ?_; refine c_ret ?_; rotate_left
  exact x_retv [_, _] rfl ⟨rfl, rfl, trivial⟩ ⟨_, _, _, _, rfl, Own.base (by assumption) (by omega), Own.base (by assumption) (by omega), E.go⟩
theorem DrawBackCopies_c (h : SL w lo hi v p := by repeat (first | assumption | exact Go.Gw.Own.sl (by assumption) | exact Go.Gw.Box.at (by assumption) | exact Go.Gw.SLL.el (by first | assumption | exact Go.Gw.OwnD.sll (by assumption)) _ (by omega) | exact Go.Gw.SLL.at (by first | assumption | exact Go.Gw.OwnD.sll (by assumption)) (by omega) | exact Go.Gw.OwnD.sll (by assumption) | (apply Go.Gw.SL.chg; case hx => assumption) | (apply Go.Gw.Own.chg; case hx => assumption) | (apply Go.Gw.Box.chg; case hx => assumption) | (apply Go.Gw.At.chg; case hx => assumption) | exact .inl (Nat.zero_le _) | exact .inr (Nat.zero_le _) | (show _ ∨ _; omega))) : Ret Tryz.prog 14 [v] w fun u w' => ∃ ps : List (Int × Int), Own w' 73 w.heap.size u ps ∧ (ps.length ≤ 50 ∧ ∀ p ∈ ps, In64 p.1 ∧ In64 p.2) ∧ Ext w w' := by
  have E : Since 0 0 w w := Since.refl 0 0 w
  refine ret_enter Tryz.func14 rfl Tryz.ntmps14 rfl ?_
  focus have ht_h := h.top; refine c_seq ?_; refine c_region ?_; refine w_pure (y_assign rfl) rfl ?_; refine w_nil ?_; refine x_next ?_; refine c_seq ?_; refine c_region ?_; refine w_pure (y_move rfl) rfl ?_; (refine w_call rfl rfl rfl (srcFrom_z) rfl ?_; rintro _ w5 ⟨c5, ⟨rfl, ⟨hp1_5, ⟨hp2_5, ⟨hp3_5, hx5⟩⟩⟩⟩⟩); have hz_hx5 := hx5.size; replace h := h.ext hx5; replace E := E.trans hx5; refine w_pure (y_assign rfl) rfl ?_; refine w_nil ?_; refine x_next ?_; refine c_seq ?_; refine c_region ?_; refine w_pure (y_move rfl) rfl ?_; (refine w_call rfl rfl rfl (l10Bent_c _ _) rfl ?_; rintro v7 w7 ⟨ps7, ⟨hp1_7, ⟨⟨hp2_7, hp3_7⟩, ⟨hp4_7, hx7⟩⟩⟩⟩); have hl_hp1_7 := hp1_7.lt; have hz_hx7 := hx7.size; replace h := h.chg hx7 (by omega); replace E := E.next hx7 (by omega); refine w_pure (y_assign rfl) rfl ?_; refine w_nil ?_; refine x_next ?_; refine c_ret ?_; rotate_left
  exact x_retv [_] rfl ⟨rfl, trivial⟩ ⟨_, Own.base (by assumption) (by omega), ⟨by assumption, by assumption⟩, E.go⟩
theorem DrawCopiesText_c (h : SL w lo hi v p := by repeat (first | assumption | exact Go.Gw.Own.sl (by assumption) | exact Go.Gw.Box.at (by assumption) | exact Go.Gw.SLL.el (by first | assumption | exact Go.Gw.OwnD.sll (by assumption)) _ (by omega) | exact Go.Gw.SLL.at (by first | assumption | exact Go.Gw.OwnD.sll (by assumption)) (by omega) | exact Go.Gw.OwnD.sll (by assumption) | (apply Go.Gw.SL.chg; case hx => assumption) | (apply Go.Gw.Own.chg; case hx => assumption) | (apply Go.Gw.Box.chg; case hx => assumption) | (apply Go.Gw.At.chg; case hx => assumption) | exact .inl (Nat.zero_le _) | exact .inr (Nat.zero_le _) | (show _ ∨ _; omega))) : Ret Tryz.prog 17 [v] w fun u w' => ∃ ps : List (Int × Int), Own w' 73 w.heap.size u ps ∧ (ps.length ≤ 50 ∧ ∀ p ∈ ps, In64 p.1 ∧ In64 p.2) ∧ Ext w w' := by
  have E : Since 0 0 w w := Since.refl 0 0 w
  refine ret_enter Tryz.func17 rfl Tryz.ntmps17 rfl ?_
  focus have ht_h := h.top; refine c_seq ?_; refine c_region ?_; refine w_pure (y_assign rfl) rfl ?_; refine w_nil ?_; refine x_next ?_; refine c_seq ?_; refine c_region ?_; refine w_pure (y_move rfl) rfl ?_; (refine w_call rfl rfl rfl (srcFrom_z) rfl ?_; rintro _ w5 ⟨c5, ⟨rfl, ⟨hp1_5, ⟨hp2_5, ⟨hp3_5, hx5⟩⟩⟩⟩⟩); have hz_hx5 := hx5.size; replace h := h.ext hx5; replace E := E.trans hx5; refine w_pure (y_assign rfl) rfl ?_; refine w_nil ?_; refine x_next ?_; refine c_seq ?_; refine c_region ?_; refine w_pure (y_move rfl) rfl ?_; (refine w_call rfl rfl rfl (l10Bent_c _ _) rfl ?_; rintro v7 w7 ⟨ps7, ⟨hp1_7, ⟨⟨hp2_7, hp3_7⟩, ⟨hp4_7, hx7⟩⟩⟩⟩); have hl_hp1_7 := hp1_7.lt; have hz_hx7 := hx7.size; replace h := h.chg hx7 (by omega); replace E := E.next hx7 (by omega); refine w_pure (y_assign rfl) rfl ?_; refine w_nil ?_; refine x_next ?_; refine c_ret ?_; rotate_left
  exact x_retv [_] rfl ⟨rfl, trivial⟩ ⟨_, Own.base (by assumption) (by omega), ⟨by assumption, by assumption⟩, E.go⟩
theorem DrawValidCopies_c (h : SL w lo hi v p := by repeat (first | assumption | exact Go.Gw.Own.sl (by assumption) | exact Go.Gw.Box.at (by assumption) | exact Go.Gw.SLL.el (by first | assumption | exact Go.Gw.OwnD.sll (by assumption)) _ (by omega) | exact Go.Gw.SLL.at (by first | assumption | exact Go.Gw.OwnD.sll (by assumption)) (by omega) | exact Go.Gw.OwnD.sll (by assumption) | (apply Go.Gw.SL.chg; case hx => assumption) | (apply Go.Gw.Own.chg; case hx => assumption) | (apply Go.Gw.Box.chg; case hx => assumption) | (apply Go.Gw.At.chg; case hx => assumption) | exact .inl (Nat.zero_le _) | exact .inr (Nat.zero_le _) | (show _ ∨ _; omega))) : Ret Tryz.prog 22 [v] w fun u w' => ∃ d, ∃ ps : List (Int × Int), ∃ f t : Int, u = .tuple #[d, .int .i64 f, .int .i64 t] ∧ Own w' 73 w.heap.size d ps ∧ Ext w w' := by
  have E : Since 0 0 w w := Since.refl 0 0 w
  refine ret_enter Tryz.func22 rfl Tryz.ntmps22 rfl ?_
  focus have ht_h := h.top; refine c_seq ?_; refine c_region ?_; refine w_pure (y_assign rfl) rfl ?_; refine w_pure (y_assign rfl) rfl ?_; refine w_pure (y_assign rfl) rfl ?_; refine w_nil ?_; refine x_next ?_; refine c_seq ?_; refine c_region ?_; refine w_pure (y_move rfl) rfl ?_; (refine w_call rfl rfl rfl (srcFrom_z) rfl ?_; rintro _ w9 ⟨c9, ⟨rfl, ⟨hp1_9, ⟨hp2_9, ⟨hp3_9, hx9⟩⟩⟩⟩⟩); have hz_hx9 := hx9.size; replace h := h.ext hx9; replace E := E.trans hx9; refine w_pure (y_assign rfl) rfl ?_; refine w_nil ?_; refine x_next ?_; refine c_seq ?_; refine c_region ?_; refine w_pure (y_move rfl) rfl ?_; (refine w_call rfl rfl rfl (l10Width_c) rfl ?_; rintro _ w11 ⟨k11, ⟨rfl, ⟨⟨hp1_11, hp2_11⟩, ⟨hp3_11, hx11⟩⟩⟩⟩); have hz_hx11 := hx11.size; replace h := h.chg hx11 (by omega); replace E := E.next hx11 (by omega); refine w_pure (y_assign rfl) rfl ?_; refine w_nil ?_; refine x_next ?_; refine c_seq ?_; refine c_region ?_; refine w_pure (y_move rfl) rfl ?_; (refine w_call rfl rfl rfl (l10Width_c) rfl ?_; rintro _ w13 ⟨k13, ⟨rfl, ⟨⟨hp1_13, hp2_13⟩, ⟨hp3_13, hx13⟩⟩⟩⟩); have hz_hx13 := hx13.size; replace h := h.chg hx13 (by omega); replace E := E.next hx13 (by omega); refine w_pure (y_assign rfl) rfl ?_; refine w_nil ?_; refine x_next ?_; refine c_seq ?_; refine c_region ?_; refine w_pure (y_move rfl) rfl ?_; refine w_pure (y_move rfl) rfl ?_; refine w_pure (y_move rfl) rfl ?_; (refine w_call rfl rfl rfl (l10Bent_c _ _) rfl ?_; rintro v17 w17 ⟨ps17, ⟨hp1_17, ⟨⟨hp2_17, hp3_17⟩, ⟨hp4_17, hx17⟩⟩⟩⟩); have hl_hp1_17 := hp1_17.lt; have hz_hx17 := hx17.size; replace h := h.chg hx17 (by omega); replace E := E.next hx17 (by omega); refine w_pure (y_move rfl) rfl ?_; refine w_pure (y_move rfl) rfl ?_; refine w_pure (y_assign rfl) rfl ?_; refine w_pure (y_assign rfl) rfl ?_; refine w_pure (y_assign rfl) rfl ?_; refine w_nil ?_; refine x_next ?_; refine c_ret ?_; rotate_left
  all_goals exact x_retv [_, _, _] rfl ⟨rfl, rfl, rfl, trivial⟩ ⟨_, _, _, _, rfl, Own.base (by assumption) (by omega), E.go⟩
theorem DrawReadCopies_c (h : SL w lo hi v p := by repeat (first | assumption | exact Go.Gw.Own.sl (by assumption) | exact Go.Gw.Box.at (by assumption) | exact Go.Gw.SLL.el (by first | assumption | exact Go.Gw.OwnD.sll (by assumption)) _ (by omega) | exact Go.Gw.SLL.at (by first | assumption | exact Go.Gw.OwnD.sll (by assumption)) (by omega) | exact Go.Gw.OwnD.sll (by assumption) | (apply Go.Gw.SL.chg; case hx => assumption) | (apply Go.Gw.Own.chg; case hx => assumption) | (apply Go.Gw.Box.chg; case hx => assumption) | (apply Go.Gw.At.chg; case hx => assumption) | exact .inl (Nat.zero_le _) | exact .inr (Nat.zero_le _) | (show _ ∨ _; omega))) : Ret Tryz.prog 20 [v] w fun u w' => ∃ q : List UInt8, u = str q ∧ q.length ≤ 10000 ∧ Ext w w' := by
  have E : Since 0 0 w w := Since.refl 0 0 w
  refine ret_enter Tryz.func20 rfl Tryz.ntmps20 rfl ?_
  focus have ht_h := h.top; refine c_seq ?_; refine c_region ?_; refine w_pure (y_assign rfl) rfl ?_; refine w_nil ?_; refine x_next ?_; refine c_seq ?_; refine c_region ?_; refine w_pure (y_move rfl) rfl ?_; (refine w_call rfl rfl rfl (srcFrom_c) rfl ?_; rintro _ w6 ⟨c6, ⟨rfl, ⟨hp1_6, ⟨hp2_6, hx6⟩⟩⟩⟩); have hz_hx6 := hx6.size; replace h := h.ext hx6; replace E := E.trans hx6; refine w_pure (y_assign rfl) rfl ?_; refine w_nil ?_; refine x_next ?_; refine c_seq ?_; refine c_region ?_; refine w_pure (y_move rfl) rfl ?_; (refine w_call rfl rfl rfl (l10Draw_c _ _) rfl ?_; rintro v8 w8 ⟨ps8, ⟨hp1_8, ⟨⟨hp2_8, hp3_8⟩, ⟨hp4_8, hx8⟩⟩⟩⟩); have hl_hp1_8 := hp1_8.lt; have hz_hx8 := hx8.size; replace h := h.chg hx8 (by omega); replace E := E.next hx8 (by omega); refine w_val rfl rfl rfl (l10Text_c) rfl (fun w9 hx9 hz9 => ?_); have hz_hx9 := hx9.size; replace hp1_8 := hp1_8.ext hx9; replace hp4_8 := hp4_8.ext hx9; replace h := h.ext hx9; replace E := E.trans hx9; refine w_pure (y_assign rfl) rfl ?_; refine w_nil ?_; refine x_next ?_; refine c_seq ?_; refine c_seq ?_; refine c_region ?_; refine w_pure (y_move rfl) rfl ?_; rotate_left
  have htl := textTo_len hp3_8 ps8.length (Nat.le_refl _)
  focus have ht_hp2_6 := hp2_6.top; have ht_hp4_8 := hp4_8.top; (refine w_call rfl rfl rfl (srcOne_c _) rfl ?_; rintro _ w11 ⟨q11, ⟨rfl, ⟨hp1_11, hx11⟩⟩⟩); have hz_hx11 := hx11.size; replace hp1_8 := hp1_8.chg hx11 (by omega); replace h := h.chg hx11 (by omega); replace E := E.next hx11 (by omega); refine w_nil ?_; refine x_next ?_; (refine c_if rfl (fun hc11 => ?_) (fun hc11 => ?_) <;> try (first | exact absurd rfl hc11 | contradiction | exact Bool.noConfusion (show false = true from hc11.symm.trans (by assumption)) | exact Bool.noConfusion (show true = false from hc11.symm.trans (by assumption)) | (exfalso; omega) | (exfalso; simp only [*, Bool.not_true, Bool.not_false, reduceCtorEq] at hc11; done))); refine c_seq ?_; refine c_region ?_; refine w_pure (y_move rfl) rfl ?_; refine w_pure (y_move rfl) rfl ?_; (refine w_call rfl rfl rfl (l01SpoilR_c) rfl ?_; rintro _ w14 ⟨q14, ⟨rfl, ⟨hp1_14, ⟨hp2_14, hx14⟩⟩⟩⟩); have hz_hx14 := hx14.size; replace hp1_8 := hp1_8.chg hx14 (by omega); replace h := h.chg hx14 (by omega); replace E := E.next hx14 (by omega); refine w_pure (y_assign rfl) rfl ?_; refine w_nil ?_; refine x_next ?_; refine c_ret ?_; refine x_then_ret ?_; rotate_left; refine c_skip ?_; refine x_next ?_; refine c_seq ?_; refine c_region ?_; refine w_pure (y_move rfl) rfl ?_; refine w_pure (y_assign rfl) rfl ?_; refine w_nil ?_; refine x_next ?_; refine c_ret ?_; rotate_left
  all_goals exact x_retv [_] rfl ⟨rfl, trivial⟩ ⟨_, rfl, by omega, E.go⟩
theorem DrawCompareCards_c (h : SL w lo hi v p := by repeat (first | assumption | exact Go.Gw.Own.sl (by assumption) | exact Go.Gw.Box.at (by assumption) | exact Go.Gw.SLL.el (by first | assumption | exact Go.Gw.OwnD.sll (by assumption)) _ (by omega) | exact Go.Gw.SLL.at (by first | assumption | exact Go.Gw.OwnD.sll (by assumption)) (by omega) | exact Go.Gw.OwnD.sll (by assumption) | (apply Go.Gw.SL.chg; case hx => assumption) | (apply Go.Gw.Own.chg; case hx => assumption) | (apply Go.Gw.Box.chg; case hx => assumption) | (apply Go.Gw.At.chg; case hx => assumption) | exact .inl (Nat.zero_le _) | exact .inr (Nat.zero_le _) | (show _ ∨ _; omega))) : Ret Tryz.prog 8 [v] w fun u w' => ∃ l1 h1 l2 h2 l3 h3 : Nat, ∃ d, ∃ xs : List Int, ∃ d', ∃ ys : List Int, ∃ e, ∃ ps : List (Int × Int), u = .tuple #[.agg #[d], .agg #[d'], e] ∧ SL w' l1 h1 d xs ∧ SL w' l2 h2 d' ys ∧ SL w' l3 h3 e ps ∧ (h1 ≤ w'.heap.size ∧ h2 ≤ w'.heap.size ∧ h3 ≤ w'.heap.size) ∧ Ext w w' := by
  have E : Since 0 0 w w := Since.refl 0 0 w
  refine ret_enter Tryz.func8 rfl Tryz.ntmps8 rfl ?_
  focus have ht_h := h.top; refine c_seq ?_; refine c_region ?_; refine w_alloc (k := fun b2 w2 hb2 hx2 hl2 hs2 => ?_); have hz_hx2 := hx2.size; replace h := h.ext hx2; replace E := E.trans hx2; refine w_alloc (k := fun b3 w3 hb3 hx3 hl3 hs3 => ?_); have hz_hx3 := hx3.size; replace hb2 := hb2.ext hx3; replace h := h.ext hx3; replace E := E.trans hx3; refine w_pure (y_assign rfl) rfl ?_; refine w_nil ?_; refine x_next ?_; refine c_seq ?_; refine c_region ?_; refine w_pure (y_move rfl) rfl ?_; (refine w_call rfl rfl rfl (srcFrom_z) rfl ?_; rintro _ w12 ⟨c12, ⟨rfl, ⟨hp1_12, ⟨hp2_12, ⟨hp3_12, hx12⟩⟩⟩⟩⟩); have hz_hx12 := hx12.size; replace hb3 := hb3.ext hx12; replace hb2 := hb2.ext hx12; replace h := h.ext hx12; replace E := E.trans hx12; refine w_pure (y_assign rfl) rfl ?_; refine w_nil ?_; refine x_next ?_; refine c_seq ?_; refine c_region ?_; refine w_pure (y_move rfl) rfl ?_; (refine w_call rfl rfl rfl (l03Bent_c) rfl ?_; rintro _ w14 ⟨d14, ⟨xs14, ⟨rfl, ⟨hp1_14, ⟨hp2_14, ⟨hp3_14, hx14⟩⟩⟩⟩⟩⟩); have hl_hp1_14 := hp1_14.lt; have hz_hx14 := hx14.size; replace hb3 := hb3.chg hx14 (by omega); replace hb2 := hb2.chg hx14 (by omega); replace h := h.chg hx14 (by omega); replace E := E.next hx14 (by omega); refine w_alloc (k := fun b6 w6 hb6 hx6 hl6 hs6 => ?_); have hz_hx6 := hx6.size; replace hp1_14 := hp1_14.ext hx6; replace hp3_14 := hp3_14.ext hx6; replace hb3 := hb3.ext hx6; replace hb2 := hb2.ext hx6; replace h := h.ext hx6; replace E := E.trans hx6; refine w_store_boxs rfl rfl (next := fun ws20 hbs20 hxs20 hss20 => ?_); (replace hb6 := hbs20; clear hbs20); have hz_hxs20 := hxs20.size; replace hp1_14 := hp1_14.chg hxs20 (by omega); replace hp3_14 := hp3_14.chg hxs20 (by omega); replace hb3 := hb3.chg hxs20 (by omega); replace hb2 := hb2.chg hxs20 (by omega); replace h := h.chg hxs20 (by omega); replace E := E.next hxs20 (by omega); refine w_nil ?_; refine x_next ?_; refine c_seq ?_; refine c_region ?_; refine w_pure (y_move rfl) rfl ?_; (refine w_call rfl rfl rfl (srcPick_z _) rfl ?_; rintro _ w16 ⟨x16, ⟨rfl, ⟨⟨hp1_16, hp2_16⟩, ⟨hp3_16, hx16⟩⟩⟩⟩); have hz_hx16 := hx16.size; replace hb6 := hb6.chg hx16 (by omega); replace hp1_14 := hp1_14.chg hx16 (by omega); replace hb3 := hb3.chg hx16 (by omega); replace hb2 := hb2.chg hx16 (by omega); replace h := h.chg hx16 (by omega); replace E := E.next hx16 (by omega); refine w_pure (y_add rfl rfl) rfl ?_; refine w_pure (y_assign rfl) rfl ?_; refine w_nil ?_; refine x_next ?_; refine c_seq ?_; refine c_region ?_; refine w_pure (y_move rfl) rfl ?_; refine w_pure (y_field rfl) rfl ?_; refine w_pure (y_load_box rfl) rfl ?_; refine w_pure (y_len rfl) rfl ?_; refine w_pure (y_move rfl) rfl ?_; (refine w_call rfl rfl rfl (l10Bent_c _ _) rfl ?_; rintro v23 w23 ⟨ps23, ⟨hp1_23, ⟨⟨hp2_23, hp3_23⟩, ⟨hp4_23, hx23⟩⟩⟩⟩); have hl_hp1_23 := hp1_23.lt; have hz_hx23 := hx23.size; replace hb6 := hb6.chg hx23 (by omega); replace hp1_14 := hp1_14.chg hx23 (by omega); replace hb3 := hb3.chg hx23 (by omega); replace hb2 := hb2.chg hx23 (by omega); replace h := h.chg hx23 (by omega); replace E := E.next hx23 (by omega); refine w_pure (y_assign rfl) rfl ?_; refine w_nil ?_; refine x_next ?_; refine c_seq ?_; refine c_region ?_; refine w_pure (y_load_boxs rfl) rfl ?_; refine w_pure (y_move rfl) rfl ?_; refine w_pure (y_move rfl) rfl ?_; (refine w_call rfl rfl rfl (specReproduceCard_z _) rfl ?_; rintro _ w28 ⟨l28, ⟨h28, ⟨d28, ⟨rfl, ⟨hp1_28, ⟨hp2_28, ⟨hp3_28, hx28⟩⟩⟩⟩⟩⟩⟩); have hz_hx28 := hx28.size; replace hp1_23 := hp1_23.ext hx28; replace hp4_23 := hp4_23.ext hx28; replace hb6 := hb6.ext hx28; replace hp1_14 := hp1_14.ext hx28; replace hb3 := hb3.ext hx28; replace hb2 := hb2.ext hx28; replace h := h.ext hx28; replace E := E.trans hx28; refine w_pure (y_move rfl) rfl ?_; refine w_pure (y_extract rfl rfl) rfl ?_; refine w_pure (y_extract rfl rfl) rfl ?_; refine w_alloc (k := fun b9 w9 hb9 hx9 hl9 hs9 => ?_); have hz_hx9 := hx9.size; replace hp1_28 := hp1_28.ext hx9; replace hp1_23 := hp1_23.ext hx9; replace hp4_23 := hp4_23.ext hx9; replace hb6 := hb6.ext hx9; replace hp1_14 := hp1_14.ext hx9; replace hb3 := hb3.ext hx9; replace hb2 := hb2.ext hx9; replace h := h.ext hx9; replace E := E.trans hx9; refine w_store_boxs rfl rfl (next := fun ws52 hbs52 hxs52 hss52 => ?_); (replace hb9 := hbs52; clear hbs52); have hz_hxs52 := hxs52.size; replace hp1_28 := hp1_28.chg hxs52 (by omega); replace hp1_23 := hp1_23.chg hxs52 (by omega); replace hp4_23 := hp4_23.chg hxs52 (by omega); replace hb6 := hb6.chg hxs52 (by omega); replace hp1_14 := hp1_14.chg hxs52 (by omega); replace hb3 := hb3.chg hxs52 (by omega); replace hb2 := hb2.chg hxs52 (by omega); replace h := h.chg hxs52 (by omega); replace E := E.next hxs52 (by omega); refine w_pure (y_assign rfl) rfl ?_; refine w_nil ?_; refine x_next ?_; refine c_seq ?_; refine c_seq ?_; refine c_region ?_; refine w_pure (y_move rfl) rfl ?_; refine w_pure (y_ne rfl rfl) rfl ?_; refine w_pure (y_move rfl) rfl ?_; (refine w_part_dec rfl rfl (fun hc34 => ?_) (fun hc34 => ?_) <;> try (first | exact absurd rfl hc34 | contradiction | exact Bool.noConfusion (show false = true from hc34.symm.trans (by assumption)) | exact Bool.noConfusion (show true = false from hc34.symm.trans (by assumption)) | (exfalso; omega) | (exfalso; simp only [*, Bool.not_true, Bool.not_false, reduceCtorEq] at hc34; done))); refine w_no rfl rfl rfl rfl ?_; refine w_no rfl rfl rfl rfl ?_; refine w_pure (y_pick_t rfl rfl) rfl ?_; refine w_nil ?_; refine x_next ?_; refine c_true rfl ?_; refine c_seq ?_; refine c_region_inv (i := 7) (b2) (c12 + 1) mixed (fun wr7 hxr7 hzr7 => ?_); have hz_hxr7 := hxr7.size; replace hb9 := hb9.ext hxr7; replace hp1_28 := hp1_28.ext hxr7; replace hp1_23 := hp1_23.ext hxr7; replace hp4_23 := hp4_23.ext hxr7; replace hb6 := hb6.ext hxr7; replace hp1_14 := hp1_14.ext hxr7; replace hb3 := hb3.ext hxr7; replace hb2 := hb2.ext hxr7; replace h := h.ext hxr7; replace E := E.trans hxr7; refine i_pure rfl (fun w37i hx37i => y_load_boxs rfl) rfl ?_; refine i_pure rfl (fun w38i hx38i => y_move rfl) rfl ?_; refine i_pure rfl (fun w39i hx39i => y_move rfl) rfl ?_; refine i_turn ?_; refine i_pure rfl (fun w41i hx41i => y_move rfl) rfl ?_; refine i_turn ?_; refine i_turn ?_; refine i_turn ?_; refine i_one rfl ?_; (refine w_call rfl rfl rfl (l03Draw_c _) rfl ?_; rintro _ w40 ⟨d40, ⟨xs40, ⟨rfl, ⟨hp1_40, ⟨hp2_40, ⟨hp3_40, hx40⟩⟩⟩⟩⟩⟩); have hl_hp1_40 := hp1_40.lt; have hz_hx40 := hx40.size; replace hb9 := hb9.chg hx40 (by omega); replace hp1_28 := hp1_28.chg hx40 (by omega); replace hp1_23 := hp1_23.chg hx40 (by omega); replace hb6 := hb6.chg hx40 (by omega); replace hp1_14 := hp1_14.chg hx40 (by omega); replace hb3 := hb3.chg hx40 (by omega); replace hb2 := hb2.chg hx40 (by omega); replace h := h.chg hx40 (by omega); replace E := E.next hx40 (by omega); refine w_nil ?_; refine x_hi ?_; refine i_one rfl ?_; refine w_store_boxs rfl rfl (next := fun ws84 hbs84 hxs84 hss84 => ?_); (replace hb2 := hbs84; clear hbs84); have hz_hxs84 := hxs84.size; replace hp1_40 := hp1_40.chg hxs84 (by omega); replace hp3_40 := hp3_40.chg hxs84 (by omega); replace hb9 := hb9.chg hxs84 (by omega); replace hp1_28 := hp1_28.chg hxs84 (by omega); replace hp1_23 := hp1_23.chg hxs84 (by omega); replace hb6 := hb6.chg hxs84 (by omega); replace hp1_14 := hp1_14.chg hxs84 (by omega); replace hb3 := hb3.chg hxs84 (by omega); replace h := h.chg hxs84 (by omega); replace E := E.next hxs84 (by omega); refine w_nil ?_; refine x_hi ?_; refine i_one rfl ?_; refine w_store_boxs rfl rfl (next := fun ws88 hbs88 hxs88 hss88 => ?_); (replace hb3 := hbs88; clear hbs88); have hz_hxs88 := hxs88.size; replace hb2 := hb2.chg hxs88 (by omega); replace hp1_40 := hp1_40.chg hxs88 (by omega); replace hp3_40 := hp3_40.chg hxs88 (by omega); replace hb9 := hb9.chg hxs88 (by omega); replace hp1_28 := hp1_28.chg hxs88 (by omega); replace hp1_23 := hp1_23.chg hxs88 (by omega); replace hb6 := hb6.chg hxs88 (by omega); replace hp1_14 := hp1_14.chg hxs88 (by omega); replace h := h.chg hxs88 (by omega); replace E := E.next hxs88 (by omega); refine w_nil ?_; refine x_hi ?_; refine i_pure rfl (fun w4i hx4i => y_assign rfl) rfl ?_; refine i_nil ?_; refine x_next ?_; refine c_ret ?_; refine x_then_ret ?_; rotate_left; refine w_yes rfl rfl ?_; refine w_pure (y_move rfl) rfl ?_; refine w_yes rfl rfl ?_; (refine w_call rfl rfl rfl (srcOne_c _) rfl ?_; rintro _ w35 ⟨q35, ⟨rfl, ⟨hp1_35, hx35⟩⟩⟩); have hz_hx35 := hx35.size; replace hb9 := hb9.chg hx35 (by omega); replace hp1_28 := hp1_28.chg hx35 (by omega); replace hp1_23 := hp1_23.chg hx35 (by omega); replace hb6 := hb6.chg hx35 (by omega); replace hp1_14 := hp1_14.chg hx35 (by omega); replace hb3 := hb3.chg hx35 (by omega); replace hb2 := hb2.chg hx35 (by omega); replace h := h.chg hx35 (by omega); replace E := E.next hx35 (by omega); refine w_pure (y_pick_f rfl rfl) rfl ?_; refine w_nil ?_; refine x_next ?_; (refine c_if rfl (fun hc36 => ?_) (fun hc36 => ?_) <;> try (first | exact absurd rfl hc36 | contradiction | exact Bool.noConfusion (show false = true from hc36.symm.trans (by assumption)) | exact Bool.noConfusion (show true = false from hc36.symm.trans (by assumption)) | (exfalso; omega) | (exfalso; simp only [*, Bool.not_true, Bool.not_false, reduceCtorEq] at hc36; done))); refine c_seq ?_; refine c_region_inv (i := 7) (b2) (c12 + 1) mixed (fun wr7 hxr7 hzr7 => ?_); have hz_hxr7 := hxr7.size; replace hp1_35 := hp1_35.ext hxr7; replace hb9 := hb9.ext hxr7; replace hp1_28 := hp1_28.ext hxr7; replace hp1_23 := hp1_23.ext hxr7; replace hb6 := hb6.ext hxr7; replace hp1_14 := hp1_14.ext hxr7; replace hb3 := hb3.ext hxr7; replace hb2 := hb2.ext hxr7; replace h := h.ext hxr7; replace E := E.trans hxr7; refine i_pure rfl (fun w37i hx37i => y_load_boxs rfl) rfl ?_; refine i_pure rfl (fun w38i hx38i => y_move rfl) rfl ?_; refine i_pure rfl (fun w39i hx39i => y_move rfl) rfl ?_; refine i_turn ?_; refine i_pure rfl (fun w41i hx41i => y_move rfl) rfl ?_; refine i_turn ?_; refine i_turn ?_; refine i_turn ?_; refine i_one rfl ?_; (refine w_call rfl rfl rfl (l03Draw_c _) rfl ?_; rintro _ w40 ⟨d40, ⟨xs40, ⟨rfl, ⟨hp1_40, ⟨hp2_40, ⟨hp3_40, hx40⟩⟩⟩⟩⟩⟩); have hl_hp1_40 := hp1_40.lt; have hz_hx40 := hx40.size; replace hb9 := hb9.chg hx40 (by omega); replace hp1_28 := hp1_28.chg hx40 (by omega); replace hp1_23 := hp1_23.chg hx40 (by omega); replace hb6 := hb6.chg hx40 (by omega); replace hp1_14 := hp1_14.chg hx40 (by omega); replace hb3 := hb3.chg hx40 (by omega); replace hb2 := hb2.chg hx40 (by omega); replace h := h.chg hx40 (by omega); replace E := E.next hx40 (by omega); refine w_nil ?_; refine x_hi ?_; refine i_one rfl ?_; refine w_store_boxs rfl rfl (next := fun ws120 hbs120 hxs120 hss120 => ?_); (replace hb2 := hbs120; clear hbs120); have hz_hxs120 := hxs120.size; replace hp1_40 := hp1_40.chg hxs120 (by omega); replace hp3_40 := hp3_40.chg hxs120 (by omega); replace hb9 := hb9.chg hxs120 (by omega); replace hp1_28 := hp1_28.chg hxs120 (by omega); replace hp1_23 := hp1_23.chg hxs120 (by omega); replace hb6 := hb6.chg hxs120 (by omega); replace hp1_14 := hp1_14.chg hxs120 (by omega); replace hb3 := hb3.chg hxs120 (by omega); replace h := h.chg hxs120 (by omega); replace E := E.next hxs120 (by omega); refine w_nil ?_; refine x_hi ?_; refine i_one rfl ?_; refine w_store_boxs rfl rfl (next := fun ws124 hbs124 hxs124 hss124 => ?_); (replace hb3 := hbs124; clear hbs124); have hz_hxs124 := hxs124.size; replace hb2 := hb2.chg hxs124 (by omega); replace hp1_40 := hp1_40.chg hxs124 (by omega); replace hp3_40 := hp3_40.chg hxs124 (by omega); replace hb9 := hb9.chg hxs124 (by omega); replace hp1_28 := hp1_28.chg hxs124 (by omega); replace hp1_23 := hp1_23.chg hxs124 (by omega); replace hb6 := hb6.chg hxs124 (by omega); replace hp1_14 := hp1_14.chg hxs124 (by omega); replace h := h.chg hxs124 (by omega); replace E := E.next hxs124 (by omega); refine w_nil ?_; refine x_hi ?_; refine i_pure rfl (fun w4i hx4i => y_assign rfl) rfl ?_; refine i_nil ?_; refine x_next ?_; refine c_ret ?_; refine x_then_ret ?_; rotate_left; refine c_skip ?_; refine x_next ?_; refine c_seq ?_; refine c_region_inv (i := 8) (b2) (c12 + 1) mixed (fun wr8 hxr8 hzr8 => ?_); have hz_hxr8 := hxr8.size; replace hp1_35 := hp1_35.ext hxr8; replace hb9 := hb9.ext hxr8; replace hp1_28 := hp1_28.ext hxr8; replace hp1_23 := hp1_23.ext hxr8; replace hb6 := hb6.ext hxr8; replace hp1_14 := hp1_14.ext hxr8; replace hb3 := hb3.ext hxr8; replace hb2 := hb2.ext hxr8; replace h := h.ext hxr8; replace E := E.trans hxr8; refine i_pure rfl (fun w42i hx42i => y_load_boxs rfl) rfl ?_; refine i_pure rfl (fun w43i hx43i => y_move rfl) rfl ?_; refine i_turn ?_; refine i_pure rfl (fun w45i hx45i => y_move rfl) rfl ?_; refine i_turn ?_; refine i_turn ?_; refine i_turn ?_; refine i_one rfl ?_; (refine w_call rfl rfl rfl (l06Damaged_c (hr := (resRpc_bd _ _ _).2) (hl := Nat.le_trans (resRpc_bd _ _ _).1 (by decide))) rfl ?_; rintro _ w44 ⟨d44, ⟨ys44, ⟨rfl, ⟨hp1_44, ⟨hp2_44, ⟨hp3_44, hx44⟩⟩⟩⟩⟩⟩); have hl_hp1_44 := hp1_44.lt; have hz_hx44 := hx44.size; replace hb9 := hb9.chg hx44 (by omega); replace hp1_28 := hp1_28.chg hx44 (by omega); replace hp1_23 := hp1_23.chg hx44 (by omega); replace hb6 := hb6.chg hx44 (by omega); replace hp1_14 := hp1_14.chg hx44 (by omega); replace hb3 := hb3.chg hx44 (by omega); replace hb2 := hb2.chg hx44 (by omega); replace h := h.chg hx44 (by omega); replace E := E.next hx44 (by omega); refine w_nil ?_; refine x_hi ?_; refine i_one rfl ?_; refine w_store_boxs rfl rfl (next := fun ws149 hbs149 hxs149 hss149 => ?_); (replace hb2 := hbs149; clear hbs149); have hz_hxs149 := hxs149.size; replace hp1_44 := hp1_44.chg hxs149 (by omega); replace hp3_44 := hp3_44.chg hxs149 (by omega); replace hb9 := hb9.chg hxs149 (by omega); replace hp1_28 := hp1_28.chg hxs149 (by omega); replace hp1_23 := hp1_23.chg hxs149 (by omega); replace hb6 := hb6.chg hxs149 (by omega); replace hp1_14 := hp1_14.chg hxs149 (by omega); replace hb3 := hb3.chg hxs149 (by omega); replace h := h.chg hxs149 (by omega); replace E := E.next hxs149 (by omega); refine w_nil ?_; refine x_hi ?_; refine i_one rfl ?_; refine w_store_boxs rfl rfl (next := fun ws153 hbs153 hxs153 hss153 => ?_); (replace hb3 := hbs153; clear hbs153); have hz_hxs153 := hxs153.size; replace hb2 := hb2.chg hxs153 (by omega); replace hp1_44 := hp1_44.chg hxs153 (by omega); replace hp3_44 := hp3_44.chg hxs153 (by omega); replace hb9 := hb9.chg hxs153 (by omega); replace hp1_28 := hp1_28.chg hxs153 (by omega); replace hp1_23 := hp1_23.chg hxs153 (by omega); replace hb6 := hb6.chg hxs153 (by omega); replace hp1_14 := hp1_14.chg hxs153 (by omega); replace h := h.chg hxs153 (by omega); replace E := E.next hxs153 (by omega); refine w_nil ?_; refine x_hi ?_; refine i_pure rfl (fun w4i hx4i => y_assign rfl) rfl ?_; refine i_nil ?_; refine x_next ?_; refine c_ret ?_; rotate_left
  · exact x_retv [_, _, _] rfl ⟨⟨_, rfl, run_load_str (Box.at (by assumption)) (by rfl)⟩, ⟨_, rfl, run_load_str (Box.at (by assumption)) (by rfl)⟩, rfl, trivial⟩ ⟨_, _, _, _, _, _, _, _, _, _, _, _, rfl, hp1_14.sl, hp1_40.sl, hp1_23.sl, ⟨hp1_14.sl.top, hp1_40.sl.top, hp1_23.sl.top⟩, E.go⟩
  · exact x_retv [_, _, _] rfl ⟨⟨_, rfl, run_load_str (Box.at (by assumption)) (by rfl)⟩, ⟨_, rfl, run_load_str (Box.at (by assumption)) (by rfl)⟩, rfl, trivial⟩ ⟨_, _, _, _, _, _, _, _, _, _, _, _, rfl, hp1_14.sl, hp1_40.sl, hp1_23.sl, ⟨hp1_14.sl.top, hp1_40.sl.top, hp1_23.sl.top⟩, E.go⟩
  · exact x_retv [_, _, _] rfl ⟨⟨_, rfl, run_load_str (Box.at (by assumption)) (by rfl)⟩, ⟨_, rfl, run_load_str (Box.at (by assumption)) (by rfl)⟩, rfl, trivial⟩ ⟨_, _, _, _, _, _, _, _, _, _, _, _, rfl, hp1_14.sl, hp1_44.sl, hp1_23.sl, ⟨hp1_14.sl.top, hp1_44.sl.top, hp1_23.sl.top⟩, E.go⟩
end
end Go.Proofs.YtcbpiaehkodliaaGreatDoor
/- RdcP -/
namespace Go.Proofs.YtcbpiaehkodliaaGreatDoor
open Go Go.Gw
set_option linter.unusedVariables false
set_option linter.unusedSimpArgs false
/-- digits -/
def isDig (c : UInt8) : Prop := 48 ≤ c.toNat ∧ c.toNat ≤ 57
instance (c : UInt8) : Decidable (isDig c) := by unfold isDig; infer_instance
theorem dig_of {k : Nat} (h : k < 10) : isDig (UInt8.ofNat (48 + k)) ∧ (UInt8.ofNat (48 + k)).toNat = 48 + k := by
  have : ∀ k : Fin 10, isDig (UInt8.ofNat (48 + k.val)) ∧ (UInt8.ofNat (48 + k.val)).toNat = 48 + k.val := by decide
  exact this ⟨k, h⟩
/-- the number that digits spell -/
def valU (l : List UInt8) : Int := l.foldl (fun a c => 10 * a + ((c.toNat : Int) - 48)) 0
theorem valU_snoc (l : List UInt8) (c : UInt8) : valU (l ++ [c]) = 10 * valU l + ((c.toNat : Int) - 48) := by
  unfold valU; rw [List.foldl_append]; rfl
theorem decDigits_step {u : Nat} (h : ¬ u < 10) : Lib.decDigits u = Lib.decDigits (u / 10) ++ [UInt8.ofNat (48 + u % 10)] := by
  rw [Lib.decDigits, dif_neg h]
theorem dec_all (u : Nat) : (∀ c ∈ Lib.decDigits u, isDig c) ∧ valU (Lib.decDigits u) = u := by
  induction u using Nat.strongRecOn with
  | _ u ih =>
    by_cases h : u < 10
    · have := dig_of h
      rw [Lib.decDigits_one h]
      refine ⟨fun c hc => by rw [List.mem_singleton] at hc; rw [hc]; exact this.1, ?_⟩
      rw [show [UInt8.ofNat (48 + u)] = [] ++ [UInt8.ofNat (48 + u)] from rfl, valU_snoc, this.2]
      show 10 * 0 + _ = _
      omega
    · have h1 := ih (u / 10) (by omega)
      have h2 := dig_of (k := u % 10) (by omega)
      rw [decDigits_step h]
      refine ⟨fun c hc => ?_, ?_⟩
      · rw [List.mem_append, List.mem_singleton] at hc
        rcases hc with hc | rfl
        · exact h1.1 c hc
        · exact h2.1
      · rw [valU_snoc, h1.2, h2.2]; omega
/-- without its sign -/
def bodyU (s : List UInt8) : List UInt8 := if s.head? = some 45 then s.drop 1 else s
theorem dec_head (u : Nat) : (Lib.decDigits u).head? ≠ some 45 := by
  intro h
  have h1 : (45 : UInt8) ∈ Lib.decDigits u := List.mem_of_head? h
  have := (dec_all u).1 45 h1
  revert this; decide
def numU (s : List UInt8) : Int := if (bodyU s).length < s.length then -(valU (bodyU s)) else valU (bodyU s)
theorem body_itoa (n : Int) : bodyU (Lib.itoa n) = Lib.decDigits n.natAbs ∧ numU (Lib.itoa n) = n := by
  by_cases h : n < 0
  · have e : Lib.itoa n = 45 :: Lib.decDigits n.natAbs := by rw [Lib.itoa, if_pos h]
    have eb : bodyU (45 :: Lib.decDigits n.natAbs) = Lib.decDigits n.natAbs := by simp [bodyU]
    refine ⟨by rw [e, eb], ?_⟩
    rw [e, numU, eb, if_pos (by simp), (dec_all _).2]; omega
  · have e : Lib.itoa n = Lib.decDigits n.natAbs := by rw [Lib.itoa, if_neg h, show n.toNat = n.natAbs by omega]
    have eb : bodyU (Lib.decDigits n.natAbs) = Lib.decDigits n.natAbs := by rw [bodyU, if_neg (dec_head _)]
    refine ⟨by rw [e, eb], ?_⟩
    rw [e, numU, eb, if_neg (by omega), (dec_all _).2]; omega
theorem itoa_inj {a b : Int} (h : Lib.itoa a = Lib.itoa b) : a = b := by
  have h1 := (body_itoa a).2
  have h2 := (body_itoa b).2
  rw [h, h2] at h1; exact h1.symm
theorem len18 (n : Int) : (bodyU (Lib.itoa n)).length ≤ 18 ↔ n.natAbs < 1000000000000000000 := by
  rw [(body_itoa n).1, Lib.decDigits_length]
  have e : (10 : Nat) ^ (17 + 1) = 1000000000000000000 := by decide
  constructor
  · intro h
    apply Decidable.byContradiction
    intro hn
    have := pow_nDigits 18 n.natAbs (by rw [show (18 : Nat) = 17 + 1 from rfl, e]; omega)
    omega
  · intro h
    exact nDigits_pow 17 _ (by rw [e]; exact h)
open Classical in
/-- the number with this decimal form of at most 18 digits -/
noncomputable def rdN (s : List UInt8) : Int × Bool := if h : ∃ n : Int, n.natAbs < 1000000000000000000 ∧ s = Lib.itoa n then (h.choose, true) else (0, false)
theorem rdN_yes {n : Int} (h : n.natAbs < 1000000000000000000) : rdN (Lib.itoa n) = (n, true) := by
  have hx : ∃ m : Int, m.natAbs < 1000000000000000000 ∧ Lib.itoa n = Lib.itoa m := ⟨n, h, rfl⟩
  unfold rdN
  rw [dif_pos hx, ← itoa_inj hx.choose_spec.2]
theorem rdN_of {s : List UInt8} {n : Int} (h : n.natAbs < 1000000000000000000) (e : Lib.itoa n = s) : rdN s = (n, true) := by rw [← e]; exact rdN_yes h
theorem rdN_no {s : List UInt8} (h : ∀ n : Int, n.natAbs < 1000000000000000000 → s ≠ Lib.itoa n) : rdN s = (0, false) := by
  unfold rdN
  rw [dif_neg (fun ⟨n, h1, h2⟩ => h n h1 h2)]
theorem rdN_get {s : List UInt8} (h : (rdN s).2 = true) : (rdN s).1.natAbs < 1000000000000000000 ∧ s = Lib.itoa (rdN s).1 := by
  unfold rdN at h ⊢
  split at h
  · rename_i hx
    rw [dif_pos hx]; exact hx.choose_spec
  · cases h
theorem rdN_bd (s : List UInt8) : In64 (rdN s).1 := by
  cases h : (rdN s).2
  · have : rdN s = (0, false) := by
      refine rdN_no fun n hn e => ?_
      rw [rdN_of hn e.symm] at h; cases h
    rw [this]; exact ⟨by decide, by decide⟩
  · have := (rdN_get h).1
    exact ⟨by omega, by omega⟩
/-- what a text that is read looks like -/
theorem rd_len {s : List UInt8} (h : ¬ (1 ≤ (bodyU s).length ∧ (bodyU s).length ≤ 18)) : rdN s = (0, false) := rdN_no fun n hn e => h (by
  rw [e]
  have h1 := (len18 n).2 hn
  have h2 := nDigits_pos n.natAbs
  rw [(body_itoa n).1, Lib.decDigits_length] at *
  exact ⟨h2, h1⟩)
theorem rd_dig {s : List UInt8} {c : UInt8} (h : c ∈ bodyU s) (hc : ¬ isDig c) : rdN s = (0, false) := rdN_no fun n hn e => hc (by
  rw [e, (body_itoa n).1] at h
  exact (dec_all _).1 c h)
theorem rd_val {s : List UInt8} (h : Lib.itoa (numU s) ≠ s) : rdN s = (0, false) := rdN_no fun n hn e => h (by rw [e, (body_itoa n).2])
theorem rd_nil : rdN [] = (0, false) := rd_len (by decide)
theorem rd_chr {s : List UInt8} {c : UInt8} (h : c ∈ s) (h1 : ¬ isDig c) (h2 : c ≠ 45) : rdN s = (0, false) := by
  refine rd_dig (c := c) ?_ h1
  unfold bodyU
  split
  · rename_i hh
    cases s with
    | nil => cases h
    | cons x r =>
      rcases List.mem_cons.1 h with rfl | h
      · exact absurd (Option.some.inj hh) h2
      · exact h
  · exact h
theorem valU_bd : ∀ (k : Nat) (l : List UInt8), l.length ≤ k → (∀ c ∈ l, isDig c) → 0 ≤ valU l ∧ valU l < 10 ^ k
  | 0, l, hl, _ => by
    obtain rfl : l = [] := List.eq_nil_of_length_eq_zero (by omega)
    decide
  | k + 1, l, hl, hd => by
    rcases List.eq_nil_or_concat l with rfl | ⟨r, c, rfl⟩
    · have : (0 : Int) < 10 ^ (k + 1) := Int.pow_pos (by decide)
      exact ⟨by decide, this⟩
    · rw [List.concat_eq_append] at *
      rw [List.length_append] at hl
      have ih := valU_bd k r (by simp at hl; omega) (fun x hx => hd x (by simp [hx]))
      have hc := hd c (by simp)
      unfold isDig at hc
      rw [valU_snoc, Int.pow_succ]
      omega
/-- the library's reading, and ours -/
theorem p10_snoc {c : UInt8} (hc : isDig c) : ∀ (l : List UInt8) (a u : Nat), Lib.parseUint10 a l = .ok u → u * 10 + (c.toNat - 48) < 18446744073709551616 → Lib.parseUint10 a (l ++ [c]) = .ok (u * 10 + (c.toNat - 48))
  | [], a, u, h, hb => by
    simp only [Lib.parseUint10] at h
    injection h with h
    subst h
    unfold isDig at hc
    simp only [List.nil_append, Lib.parseUint10]
    rw [if_pos hc, if_neg (by omega), if_neg (by omega)]
  | x :: r, a, u, h, hb => by
    simp only [Lib.parseUint10] at h
    split at h
    · rename_i h1
      split at h
      · cases h
      · rename_i h2
        split at h
        · cases h
        · rename_i h3
          simp only [List.cons_append, Lib.parseUint10]
          rw [if_pos h1, if_neg h2, if_neg h3]
          exact p10_snoc hc r _ u h hb
    · cases h
theorem p10_dec (u : Nat) (hu : u < 18446744073709551616) : Lib.parseUint10 0 (Lib.decDigits u) = .ok u := by
  induction u using Nat.strongRecOn with
  | _ u ih =>
    by_cases h : u < 10
    · have h1 := dig_of h
      have := p10_snoc h1.1 [] 0 0 rfl (by rw [h1.2]; omega)
      rw [h1.2] at this
      rw [Lib.decDigits_one h]
      rw [show 0 * 10 + (48 + u - 48) = u by omega] at this
      exact this
    · have h1 := dig_of (k := u % 10) (by omega)
      have h2 := p10_snoc h1.1 _ 0 _ (ih (u / 10) (by omega) (by omega)) (by rw [h1.2]; omega)
      rw [decDigits_step h, h2, h1.2]
      congr 1; omega
theorem dec_ne (u : Nat) : Lib.decDigits u ≠ [] := fun e => by
  have := nDigits_pos u
  rw [← Lib.decDigits_length, e] at this; simp at this
theorem parse_itoa {n : Int} (h : n.natAbs < 1000000000000000000) : Lib.parseIntB 64 (Lib.itoa n) = .ok n := by
  have hp := p10_dec n.natAbs (by omega)
  have hm : Lib.parseMag (Lib.decDigits n.natAbs) = .ok n.natAbs := by rw [Lib.parseMag, if_neg (dec_ne _)]; exact hp
  rw [Lib.parseIntB_64]
  by_cases h0 : n < 0
  · rw [show Lib.itoa n = 45 :: Lib.decDigits n.natAbs by rw [Lib.itoa, if_pos h0]]
    simp only [Lib.atoiAll]
    rw [if_pos (by decide), hm]
    simp only
    rw [if_neg (by simp), if_neg (by omega), if_pos (by decide)]
    congr 1; omega
  · rw [show Lib.itoa n = Lib.decDigits n.natAbs by rw [Lib.itoa, if_neg h0, show n.toNat = n.natAbs by omega]]
    have hd := (dec_all n.natAbs).1
    have hne := dec_ne n.natAbs
    cases hl : Lib.decDigits n.natAbs with
    | nil => exact absurd hl hne
    | cons c r =>
      have hc := hd c (by rw [hl]; simp)
      unfold isDig at hc
      rw [hl] at hm
      simp only [Lib.atoiAll]
      rw [if_neg (by omega), hm]
      simp only
      rw [if_neg (by omega), if_neg (by omega), if_neg (by omega)]
      congr 1; omega
/-- no number of ours is what the library does not read -/
theorem rd_lib {s : List UInt8} (h : ∀ n : Int, n.natAbs < 1000000000000000000 → Lib.parseIntB 64 s ≠ .ok n) : rdN s = (0, false) := rdN_no fun n hn e => h n hn (by rw [e]; exact parse_itoa hn)
/-- the parts of a text between bytes -/
def spl (c : UInt8) : List UInt8 → List (List UInt8)
  | [] => [[]]
  | x :: r => if x = c then [] :: spl c r else match spl c r with
    | [] => [[x]]
    | y :: ys => (x :: y) :: ys
theorem spl_ne (c : UInt8) : ∀ s, spl c s ≠ []
  | [] => by simp [spl]
  | x :: r => by
    rw [spl]; split
    · simp
    · split <;> simp
/-- parts with more ahead of the first -/
def glue (a : List UInt8) : List (List UInt8) → List (List UInt8)
  | [] => [a]
  | y :: ys => (a ++ y) :: ys
theorem spl_cons_ne {c x : UInt8} (r : List UInt8) (h : x ≠ c) : spl c (x :: r) = glue [x] (spl c r) := by
  rw [spl, if_neg h]
  cases spl c r <;> rfl
theorem spl_cons_eq {c : UInt8} (r : List UInt8) : spl c (c :: r) = [] :: spl c r := by rw [spl, if_pos rfl]
theorem glue_glue (a b : List UInt8) (l : List (List UInt8)) (h : l ≠ []) : glue a (glue b l) = glue (a ++ b) l := by
  cases l with
  | nil => exact absurd rfl h
  | cons y ys => simp [glue]
theorem glue_nil (l : List (List UInt8)) (h : l ≠ []) : glue [] l = l := by
  cases l with
  | nil => exact absurd rfl h
  | cons y ys => simp [glue]
theorem spl_clear {c : UInt8} (r : List UInt8) : ∀ a : List UInt8, c ∉ a → spl c (a ++ r) = glue a (spl c r)
  | [], _ => (glue_nil _ (spl_ne c r)).symm
  | x :: a, h => by
    have hx : x ≠ c := fun e => h (by rw [e]; simp)
    rw [List.cons_append, spl_cons_ne _ hx, spl_clear r a (fun hm => h (by simp [hm])), glue_glue _ _ _ (spl_ne c r)]; rfl
theorem spl_hit {c : UInt8} {a : List UInt8} (r : List UInt8) (h : c ∉ a) : spl c (a ++ c :: r) = a :: spl c r := by
  rw [spl_clear _ a h, spl_cons_eq]; simp [glue]
theorem spl_miss {c : UInt8} {a : List UInt8} (h : c ∉ a) : spl c a = [a] := by
  have := spl_clear (c := c) [] a h
  rw [List.append_nil] at this
  rw [this]; simp [spl, glue]
theorem spl_join (c : UInt8) : ∀ s, Lib.join (spl c s) [c] = s
  | [] => Lib.join_one _ _
  | x :: r => by
    have ih := spl_join c r
    by_cases h : x = c
    · subst h
      rw [spl_cons_eq, Lib.join_cons]
      cases hs : spl x r with
      | nil => exact absurd hs (spl_ne x r)
      | cons y ys =>
        rw [hs, Lib.join_cons] at ih
        rw [show Lib.joinTail [x] (y :: ys) = [x] ++ y ++ Lib.joinTail [x] ys by simp [Lib.joinTail]]
        rw [List.nil_append, List.append_assoc, ih]; rfl
    · rw [spl_cons_ne _ h]
      cases hs : spl c r with
      | nil => exact absurd hs (spl_ne c r)
      | cons y ys =>
        rw [hs, Lib.join_cons] at ih
        rw [show glue [x] (y :: ys) = ([x] ++ y) :: ys from rfl, Lib.join_cons, List.append_assoc, ih]; rfl
theorem spl_len (c : UInt8) : ∀ s, (spl c s).length = s.count c + 1
  | [] => rfl
  | x :: r => by
    have ih := spl_len c r
    by_cases h : x = c
    · subst h; rw [spl_cons_eq, List.length_cons, ih, List.count_cons_self]
    · rw [spl_cons_ne _ h, List.count_cons_of_ne (by simpa using h)]
      cases hs : spl c r with
      | nil => exact absurd hs (spl_ne c r)
      | cons y ys => rw [hs] at ih; exact ih
/-- a word: two numbers -/
noncomputable def wrd (x : List UInt8) : Option (Int × Int) := match spl 62 x with
  | [a, b] => if (rdN a).2 = true ∧ (rdN b).2 = true then some ((rdN a).1, (rdN b).1) else none
  | _ => none
theorem wrd_two {x a b : List UInt8} (h : spl 62 x = [a, b]) : wrd x = if (rdN a).2 = true ∧ (rdN b).2 = true then some ((rdN a).1, (rdN b).1) else none := by
  unfold wrd; rw [h]
theorem wrd_not {x : List UInt8} (h : (spl 62 x).length ≠ 2) : wrd x = none := by
  unfold wrd
  split
  · rename_i a b e; rw [e] at h; exact absurd rfl h
  · rfl
theorem two_of {l : List (List UInt8)} (h : l.length = 2) : l = [l.getD 0 [], l.getD 1 []] := by
  match l, h with
  | [a, b], _ => rfl
theorem wrd_some {x : List UInt8} {p : Int × Int} (h : wrd x = some p) : Lib.itoa p.1 ++ [62] ++ Lib.itoa p.2 = x ∧ p.1.natAbs < 1000000000000000000 ∧ p.2.natAbs < 1000000000000000000 := by
  by_cases hl : (spl 62 x).length = 2
  · have e := two_of hl
    rw [wrd_two e] at h
    split at h
    · rename_i hc
      have h1 := rdN_get hc.1
      have h2 := rdN_get hc.2
      have e1 := Option.some.inj h
      rw [← e1]
      refine ⟨?_, h1.1, h2.1⟩
      have ej := spl_join 62 x
      rw [e, Lib.join_cons] at ej
      simp only
      rw [← h1.2, ← h2.2]
      simpa [Lib.joinTail, List.append_assoc] using ej
    · cases h
  · rw [wrd_not hl] at h; cases h
/-- a word cut at its first mark -/
theorem wrd_cut {a b : List UInt8} (h : (62 : UInt8) ∉ a) : wrd (a ++ 62 :: b) = if (rdN a).2 = true ∧ (rdN b).2 = true then some ((rdN a).1, (rdN b).1) else none := by
  by_cases hb : (62 : UInt8) ∈ b
  · have h1 : rdN b = (0, false) := rd_chr hb (by decide) (by decide)
    rw [wrd_not (by rw [spl_hit _ h, List.length_cons, spl_len]; have := List.count_pos_iff.2 hb; omega), if_neg (by rw [h1]; simp)]
  · rw [wrd_two (a := a) (b := b) (by rw [spl_hit _ h, spl_miss hb])]
theorem wrd_uncut {a : List UInt8} (h : (62 : UInt8) ∉ a) : wrd a = none := wrd_not (by rw [spl_miss h]; simp)
end Go.Proofs.YtcbpiaehkodliaaGreatDoor
/- RdcA -/
namespace Go.Proofs.YtcbpiaehkodliaaGreatDoor
open Go Go.Gw
set_option linter.unusedVariables false
set_option linter.unusedSimpArgs false
instance : Callable Tryz.prog 83 := callable Tryz.func83 (by kernel_rfl) rfl   -- strings.genSplit
instance : Callable Tryz.prog 84 := callable Tryz.func84 (by kernel_rfl) rfl   -- internal/stringslite.Cut
instance : Callable Tryz.prog 111 := callable Tryz.func111 (by kernel_rfl) rfl   -- strings.Count
instance : Callable Tryz.prog 112 := callable Tryz.func112 (by kernel_rfl) rfl   -- strings.Index
instance : Callable Tryz.prog 113 := callable Tryz.func113 (by kernel_rfl) rfl   -- internal/stringslite.Index
theorem y_nen {P : Program} {σ : Fm} {w : World} {ty t t' : TypeId} {x : Operand} (h : P.underlying t = some (.interface (P.methodsAt t))) (hx : ev σ x = some .nilIface) : YE P σ (.binOp .neq t x (.const .nilIface) t') ty w (.bool false) := ⟨fun w' _ ρ hρ => by
  simp [execOp, hρ _ _ hx, hρ (.const .nilIface) .nilIface rfl, eqGuard, run_neq_nil_nil w' t h]⟩
theorem y_nei {P : Program} {σ : Fm} {w : World} {ty t t' u : TypeId} {x y : Operand} {v : Value} (h : P.underlying t = some (.interface (P.methodsAt t))) (hx : ev σ x = some (.iface u v)) (hy : ev σ y = some .nilIface) : YE P σ (.binOp .neq t x y t') ty w (.bool true) := ⟨fun w' _ ρ hρ => by
  simp [execOp, hρ _ _ hx, hρ _ _ hy, eqGuard, run_neq_held_nil w' t u v h]⟩
/-- the library's two errors stand, in blocks below B -/
structure Ers (B : Nat) (w : World) : Prop where
  syn : ∃ e, w.cell? ⟨2, 0, none⟩ = some e ∧ (e = .nilIface ∨ ∃ te pe, e = .iface te pe)
  rng : ∃ e, w.cell? ⟨3, 0, none⟩ = some e ∧ (e = .nilIface ∨ ∃ te pe, e = .iface te pe)
  low : 2 < B ∧ 3 < B
  top : B ≤ w.heap.size
theorem Ers.chg {B l k : Nat} {w w' : World} (h : Ers B w) (hx : Chg l k w w') (ho : k = 0 ∨ B ≤ l) : Ers B w' := by
  obtain ⟨⟨e, h1, h2⟩, ⟨e', h3, h4⟩, h5, h6⟩ := h
  exact ⟨⟨e, hx.cell h1 (by show 2 < l ∨ k ≤ 2; omega), h2⟩, ⟨e', hx.cell h3 (by show 3 < l ∨ k ≤ 3; omega), h4⟩, h5, Nat.le_trans h6 hx.size⟩
theorem Ers.ext {B : Nat} {w w' : World} (h : Ers B w) (hx : Ext w w') : Ers B w' := h.chg hx (.inl rfl)
/-- what the library's reading answers -/
structure PI (s : List UInt8) (x : Int) (e : Value) : Prop where
  go : (e = .nilIface ∧ Lib.parseIntB 64 s = .ok x) ∨ (∃ t p, e = .iface t p ∧ ∀ n, Lib.parseIntB 64 s ≠ .ok n)
section
variable {w : World} {lo hi B : Nat} {v : Value} {s : List UInt8}
theorem Index_c (s : List UInt8) (c : UInt8) : Pur Tryz.prog 112 [str s, str [c]] (.int .i64 (Lib.indexByte s c)) := by
  refine ⟨fun w => ⟨?_⟩⟩
  refine Calls.mono (Tryz.strings_Index_one ⟨s.toArray⟩ c w) ?_
  rintro e w' ⟨rfl, rfl⟩
  exact ⟨_, rfl, rfl, rfl⟩
theorem IndexLite_c (s : List UInt8) (c : UInt8) : Pur Tryz.prog 113 [str s, str [c]] (.int .i64 (Lib.indexByte s c)) := by
  refine ⟨fun w => ⟨?_⟩⟩
  refine Calls.mono (Tryz.stringslite_Index_one ⟨s.toArray⟩ c w) ?_
  rintro e w' ⟨rfl, rfl⟩
  exact ⟨_, rfl, rfl, rfl⟩
theorem Count_c (s : List UInt8) (c : UInt8) : Pur Tryz.prog 111 [str s, str [c]] (.int .i64 (s.count c)) := by
  refine ⟨fun w => ⟨?_⟩⟩
  refine Calls.mono (Tryz.strings_Count_one ⟨s.toArray⟩ c w) ?_
  rintro e w' ⟨rfl, rfl⟩
  exact ⟨_, rfl, rfl, rfl⟩
theorem TrimPrefix_c (s p : List UInt8) : Pur Tryz.prog 86 [str s, str p] (str (Lib.trimPrefix s p)) := by
  refine ⟨fun w => ⟨?_⟩⟩
  refine Calls.mono (Tryz.strings_TrimPrefix ⟨s.toArray⟩ ⟨p.toArray⟩ w) ?_
  rintro e w' ⟨rfl, rfl⟩
  exact ⟨_, rfl, rfl, rfl⟩
theorem ParseInt_c (hE : Ers B w := by assumption) (hs : s.length ≤ 281474976710656 := by omega) : Ret Tryz.prog 85 [str s, .int .i64 10, .int .i64 64] w fun u w' => ∃ x e, u = .tuple #[.int .i64 x, e] ∧ PI s x e ∧ In64 x ∧ Ext w w' := by
  have hsz : (⟨s.toArray⟩ : ByteArray).size = s.length := by simp [ByteArray.size]
  have hb : ∀ (t : TypeId) (q : ByteArray), Ext w (Lib.bytesWorld w t q) := fun t q => Chg.of_below (Lib.bytesWorld_below w t q)
  match h : Lib.parseIntB 64 s with
  | .ok n =>
    have hn := Lib.parseIntB_bounds h
    refine ⟨Calls.mono (Tryz.strconv_ParseInt_10_at64_ok ⟨s.toArray⟩ (by omega) n h w) ?_⟩
    rintro e w' ⟨rfl, hw⟩
    refine ⟨_, rfl, n, _, rfl, ⟨.inl ⟨rfl, h⟩⟩, ?_, ?_⟩
    · have e1 : (2 : Nat) ^ (64 - 1) = 9223372036854775808 := by decide
      rw [e1] at hn
      exact ⟨by omega, by omega⟩
    · rcases hw with rfl | ⟨t, rfl⟩
      · exact Chg.refl _ _ _
      · exact hb _ _
  | Lib.NumEnd.syntax =>
    obtain ⟨ev, h1, h2⟩ := hE.syn
    refine ⟨Calls.mono (Tryz.strconv_ParseInt_10_at64_syntax ⟨s.toArray⟩ (by omega) h ev w h1 h2) ?_⟩
    rintro e w' ⟨N, rfl, _, _, hw⟩
    exact ⟨_, rfl, 0, _, rfl, ⟨.inr ⟨_, _, rfl, fun n hn => by rw [h] at hn; cases hn⟩⟩, ⟨by decide, by decide⟩, Chg.of_below hw⟩
  | .range =>
    obtain ⟨ev, h1, h2⟩ := hE.rng
    refine ⟨Calls.mono (Tryz.strconv_ParseInt_10_at64_range ⟨s.toArray⟩ (by omega) h ev w h1 h2) ?_⟩
    rintro e w' ⟨N, rfl, _, _, hw⟩
    refine ⟨_, rfl, _, _, rfl, ⟨.inr ⟨_, _, rfl, fun n hn => by rw [h] at hn; cases hn⟩⟩, ?_, Chg.of_below hw⟩
    rw [show (⟨s.toArray⟩ : ByteArray).data.toList = s from rfl, Lib.intSat_64]
    unfold Lib.atoiSat
    split <;> exact ⟨by decide, by decide⟩
end
end Go.Proofs.YtcbpiaehkodliaaGreatDoor
/- RdcB -/
namespace Go.Proofs.YtcbpiaehkodliaaGreatDoor
open Go Go.Gw
set_option linter.unusedVariables false
set_option linter.unusedSimpArgs false
theorem idxB : ∀ (s : List UInt8) (c : UInt8), (Lib.indexByte s c = -1 ∧ c ∉ s) ∨ ∃ i : Nat, Lib.indexByte s c = i ∧ i < s.length ∧ s = s.take i ++ c :: s.drop (i + 1) ∧ c ∉ s.take i
  | [], c => .inl ⟨rfl, by simp⟩
  | b :: l, c => by
    by_cases h : b = c
    · subst h
      exact .inr ⟨0, by simp [Lib.indexByte], by simp, by simp, by simp⟩
    · have hb : (b == c) = false := by simpa using h
      rcases idxB l c with ⟨h1, h2⟩ | ⟨i, h1, h2, h3, h4⟩
      · refine .inl ⟨by simp [Lib.indexByte, hb, h1], fun hm => ?_⟩
        rcases List.mem_cons.1 hm with e | e
        · exact h e.symm
        · exact h2 e
      · refine .inr ⟨i + 1, ?_, by simp; omega, ?_, fun hm => ?_⟩
        · have h5 : ((i : Int) == -1) = false := by rw [beq_eq_false_iff_ne]; omega
          unfold Lib.indexByte
          rw [hb, h1, h5]; simp
        · rw [List.take_succ_cons, List.drop_succ_cons, List.cons_append, ← h3]
        · simp only [List.take_succ_cons] at hm
          rcases List.mem_cons.1 hm with e | e
          · exact h e.symm
          · exact h4 e
def cutA (s : List UInt8) (c : UInt8) : List UInt8 := if 0 ≤ Lib.indexByte s c then s.take (Lib.indexByte s c).toNat else s
def cutB (s : List UInt8) (c : UInt8) : List UInt8 := if 0 ≤ Lib.indexByte s c then s.drop (Lib.indexByte s c + 1).toNat else []
theorem cut_yes {s : List UInt8} {c : UInt8} (h : 0 ≤ Lib.indexByte s c) : cutA s c = s.take (Lib.indexByte s c).toNat ∧ cutB s c = s.drop (Lib.indexByte s c + 1).toNat ∧ Lib.indexByte s c < s.length := by
  refine ⟨by rw [cutA, if_pos h], by rw [cutB, if_pos h], ?_⟩
  rcases idxB s c with ⟨h1, _⟩ | ⟨i, h1, h2, _⟩ <;> omega
theorem cut_no {s : List UInt8} {c : UInt8} (h : ¬ 0 ≤ Lib.indexByte s c) : cutA s c = s ∧ cutB s c = [] := ⟨by rw [cutA, if_neg h], by rw [cutB, if_neg h]⟩
theorem cut_len (s : List UInt8) (c : UInt8) : (cutA s c).length ≤ s.length ∧ (cutB s c).length ≤ s.length := by
  unfold cutA cutB
  split
  · simp only [List.length_take, List.length_drop]; omega
  · simp
theorem spl_idx {s : List UInt8} {c : UInt8} (h : 0 ≤ Lib.indexByte s c) : spl c s = s.take (Lib.indexByte s c).toNat :: spl c (s.drop (Lib.indexByte s c + 1).toNat) := by
  rcases idxB s c with ⟨h1, _⟩ | ⟨i, h1, h2, h3, h4⟩
  · omega
  · rw [h1, show ((i : Int)).toNat = i by omega, show ((i : Int) + 1).toNat = i + 1 by omega]
    conv => lhs; rw [h3]
    exact spl_hit _ h4
theorem spl_none {s : List UInt8} {c : UInt8} (h : Lib.indexByte s c < 0) : spl c s = [s] := by
  rcases idxB s c with ⟨_, h2⟩ | ⟨i, h1, _⟩
  · exact spl_miss h2
  · omega
theorem wrd_cutAB (x : List UInt8) : wrd x = if (rdN (cutA x 62)).2 = true ∧ (rdN (cutB x 62)).2 = true then some ((rdN (cutA x 62)).1, (rdN (cutB x 62)).1) else none := by
  by_cases h : 0 ≤ Lib.indexByte x 62
  · rcases idxB x 62 with ⟨h1, _⟩ | ⟨i, h1, h2, h3, h4⟩
    · omega
    · have e := cut_yes h
      rw [e.1, e.2.1, h1, show ((i : Int)).toNat = i by omega, show ((i : Int) + 1).toNat = i + 1 by omega]
      conv => lhs; rw [h3]
      exact wrd_cut h4
  · have e := cut_no h
    rcases idxB x 62 with ⟨_, h2⟩ | ⟨i, h1, _⟩
    · rw [e.1, e.2, rd_nil, wrd_uncut h2, if_neg (by simp)]
    · omega
theorem dropAt {s : List UInt8} {i : Nat} (h : i < s.length) : s.drop i = s.getD i 0 :: s.drop (i + 1) := by
  rw [List.drop_eq_getElem_cons h, List.getD_eq_getElem?_getD, List.getElem?_eq_getElem h]; rfl
theorem takeDrop {s : List UInt8} {i f : Nat} (h : i < s.length) (hf : f ≤ i) : (s.take (i + 1)).drop f = (s.take i).drop f ++ [s.getD i 0] := by
  rw [List.take_add_one, List.getElem?_eq_getElem h, List.drop_append_of_le_length (by rw [List.length_take]; omega), List.getD_eq_getElem?_getD, List.getElem?_eq_getElem h]; rfl
theorem glue_cons (a b : List UInt8) (l : List (List UInt8)) : glue a (b :: l) = (a ++ b) :: l := rfl
/-- the next byte is the mark -/
theorem spl_go {s : List UInt8} {c : UInt8} {i f : Nat} {D : List (List UInt8)} (h : i < s.length) (hf : f ≤ i) (hc : s.getD i 0 = c) (hD : D ++ glue ((s.take i).drop f) (spl c (s.drop i)) = spl c s) : (D ++ [(s.take i).drop f]) ++ glue ((s.take (i + 1)).drop (i + 1)) (spl c (s.drop (i + 1))) = spl c s := by
  rw [dropAt h, hc, spl_cons_eq, glue_cons, List.append_nil] at hD
  rw [show (s.take (i + 1)).drop (i + 1) = [] by rw [List.drop_eq_nil_of_le (by rw [List.length_take]; omega)], glue_nil _ (spl_ne _ _), ← hD, List.append_assoc]; rfl
theorem spl_on {s : List UInt8} {c : UInt8} {i f : Nat} {D : List (List UInt8)} (h : i < s.length) (hf : f ≤ i) (hc : s.getD i 0 ≠ c) (hD : D ++ glue ((s.take i).drop f) (spl c (s.drop i)) = spl c s) : D ++ glue ((s.take (i + 1)).drop f) (spl c (s.drop (i + 1))) = spl c s := by
  rw [dropAt h, spl_cons_ne _ hc, glue_glue _ _ _ (spl_ne _ _)] at hD
  rw [takeDrop h hf]; exact hD
theorem spl_end {s : List UInt8} {c : UInt8} {i f : Nat} {D : List (List UInt8)} (h : s.length ≤ i) (hD : D ++ glue ((s.take i).drop f) (spl c (s.drop i)) = spl c s) : D ++ [s.drop f] = spl c s := by
  have e1 : s.drop i = [] := List.drop_eq_nil_of_le h
  rw [e1, List.take_of_length_le h] at hD
  rw [← hD]; simp [spl, glue]
section
variable {w : World} {lo hi B : Nat} {v : Value} {s : List UInt8}
theorem CutLite_c (s : List UInt8) (hs : s.length ≤ 9000000000000000000 := by omega) : Val Tryz.prog 84 [str s, str [62]] w (.tuple #[str (cutA s 62), str (cutB s 62), .bool (decide (0 ≤ Lib.indexByte s 62))]) := by
  refine ⟨fun w1 hx1 => ?_⟩
  have E : Since 0 0 w1 w1 := Since.refl 0 0 w1
  have h62 : ([62] : List UInt8).length = 1 := rfl
  by_cases h0 : 0 ≤ Lib.indexByte s 62
  · have e := cut_yes h0
    refine ret_enter Tryz.func84 rfl Tryz.ntmps84 rfl ?_
    focus refine c_seq ?_; refine c_region ?_; refine w_pure (y_assign rfl) rfl ?_; refine w_pure (y_assign rfl) rfl ?_; refine w_pure (y_assign rfl) rfl ?_; refine w_nil ?_; refine x_next ?_; refine c_seq ?_; refine c_seq ?_; refine c_region ?_; refine w_pure (y_move rfl) rfl ?_; refine w_pure (y_move rfl) rfl ?_; refine w_pur rfl rfl rfl (IndexLite_c _ _) rfl ?_; refine w_pure (y_assign rfl) rfl ?_; refine w_nil ?_; refine x_next ?_; refine c_seq ?_; refine c_region ?_; refine w_pure (y_move rfl) rfl ?_; refine w_pure (y_ge rfl rfl) rfl ?_; refine w_nil ?_; refine x_next ?_; (refine c_dec rfl (fun hc12 => ?_) (fun hc12 => ?_) <;> try (first | exact absurd rfl hc12 | contradiction | exact Bool.noConfusion (show false = true from hc12.symm.trans (by assumption)) | exact Bool.noConfusion (show true = false from hc12.symm.trans (by assumption)) | (exfalso; omega) | (exfalso; simp only [*, Bool.not_true, Bool.not_false, reduceCtorEq] at hc12; done))); refine c_seq ?_; refine c_region_calm mixed (by decide +kernel) (by kernel_rfl) ?_; refine q_pure (y_move rfl) rfl ?_; refine q_pure (y_move rfl) rfl ?_; refine q_pure (y_part_str rfl (.inl ⟨rfl, rfl⟩) (.inr ⟨_, _, rfl, rfl⟩)) rfl ?_; refine q_pure (y_move rfl) rfl ?_; refine q_pure (y_move rfl) rfl ?_; refine q_pure (y_move rfl) rfl ?_; refine q_pure (y_slen rfl) rfl ?_; refine q_pure (y_add rfl rfl) rfl ?_; refine q_pure (y_part_str rfl (.inr ⟨_, _, rfl, rfl⟩) (.inl ⟨rfl, rfl⟩)) rfl ?_; refine q_pure (y_assign rfl) rfl ?_; refine q_pure (y_assign rfl) rfl ?_; refine q_pure (y_assign rfl) rfl ?_; refine q_nil (fun ws38 hxs38 hzs38 => ?_); have hz_hxs38 := hxs38.size; replace E := E.trans hxs38; refine x_next ?_; refine c_ret ?_; refine x_then_ret ?_; rotate_left
    all_goals first
      | exact x_retv [_, _, _] rfl ⟨rfl, rfl, rfl, trivial⟩ ⟨by rw [e.1, e.2.1, decide_eq_true h0]; first | rfl | (simp; rfl), E.go⟩
  · have e := cut_no h0
    refine ret_enter Tryz.func84 rfl Tryz.ntmps84 rfl ?_
    focus refine c_seq ?_; refine c_region ?_; refine w_pure (y_assign rfl) rfl ?_; refine w_pure (y_assign rfl) rfl ?_; refine w_pure (y_assign rfl) rfl ?_; refine w_nil ?_; refine x_next ?_; refine c_seq ?_; refine c_seq ?_; refine c_region ?_; refine w_pure (y_move rfl) rfl ?_; refine w_pure (y_move rfl) rfl ?_; refine w_pur rfl rfl rfl (IndexLite_c _ _) rfl ?_; refine w_pure (y_assign rfl) rfl ?_; refine w_nil ?_; refine x_next ?_; refine c_seq ?_; refine c_region ?_; refine w_pure (y_move rfl) rfl ?_; refine w_pure (y_ge rfl rfl) rfl ?_; refine w_nil ?_; refine x_next ?_; (refine c_dec rfl (fun hc12 => ?_) (fun hc12 => ?_) <;> try (first | exact absurd rfl hc12 | contradiction | exact Bool.noConfusion (show false = true from hc12.symm.trans (by assumption)) | exact Bool.noConfusion (show true = false from hc12.symm.trans (by assumption)) | (exfalso; omega) | (exfalso; simp only [*, Bool.not_true, Bool.not_false, reduceCtorEq] at hc12; done))); refine c_skip ?_; refine x_next ?_; refine c_seq ?_; refine c_region ?_; refine w_pure (y_move rfl) rfl ?_; refine w_pure (y_assign rfl) rfl ?_; refine w_pure (y_assign rfl) rfl ?_; refine w_pure (y_assign rfl) rfl ?_; refine w_nil ?_; refine x_next ?_; refine c_ret ?_; rotate_left
    all_goals first
      | exact x_retv [_, _, _] rfl ⟨rfl, rfl, rfl, trivial⟩ ⟨by rw [e.1, e.2, decide_eq_false h0]; rfl, E.go⟩
theorem Cut_c (s : List UInt8) (hs : s.length ≤ 9000000000000000000 := by omega) : Val Tryz.prog 54 [str s, str [62]] w (.tuple #[str (cutA s 62), str (cutB s 62), .bool (decide (0 ≤ Lib.indexByte s 62))]) := by
  refine ⟨fun w1 hx1 => ?_⟩
  have E : Since 0 0 w1 w1 := Since.refl 0 0 w1
  refine ret_enter Tryz.func54 rfl Tryz.ntmps54 rfl ?_
  focus refine c_seq ?_; refine c_region ?_; refine w_pure (y_assign rfl) rfl ?_; refine w_pure (y_assign rfl) rfl ?_; refine w_pure (y_assign rfl) rfl ?_; refine w_nil ?_; refine x_next ?_; refine c_seq ?_; refine c_region ?_; refine w_pure (y_move rfl) rfl ?_; refine w_pure (y_move rfl) rfl ?_; refine w_val rfl rfl rfl (CutLite_c _) rfl (fun w9 hx9 hz9 => ?_); have hz_hx9 := hx9.size; replace E := E.trans hx9; refine w_pure (y_extract rfl rfl) rfl ?_; refine w_pure (y_extract rfl rfl) rfl ?_; refine w_pure (y_extract rfl rfl) rfl ?_; refine w_pure (y_assign rfl) rfl ?_; refine w_pure (y_assign rfl) rfl ?_; refine w_pure (y_assign rfl) rfl ?_; refine w_nil ?_; refine x_next ?_; refine c_ret ?_; rotate_left
  all_goals first | exact x_retv [_, _, _] rfl ⟨rfl, rfl, rfl, trivial⟩ ⟨rfl, E.go⟩
theorem l01Split32_c (s : List UInt8) (hs : s.length ≤ 1048576 := by omega) : Ret Tryz.prog 59 [str s, .int .u8 32] w fun u w' => Own w' 9 w.heap.size u (spl 32 s) ∧ Ext w w' := by
  have E : Since 0 0 w w := Since.refl 0 0 w
  refine ret_enter Tryz.func59 rfl Tryz.ntmps59 rfl ?_
  focus refine c_seq ?_; refine c_region ?_; refine w_pure (y_assign rfl) rfl ?_; refine w_nil ?_; refine x_next ?_; refine c_seq ?_; refine c_region ?_; refine w_lit_s0 rfl (k := fun v8 w8 ho8 hx8 hl8 hh8 hs8 => ?_); have hl_ho8 := ho8.lt; have hz_hx8 := hx8.size; replace E := E.trans hx8; refine w_pure (y_assign rfl) rfl ?_; refine w_nil ?_; refine x_next ?_; refine c_seq ?_; refine c_region ?_; refine w_pure (y_assign rfl) rfl ?_; refine w_nil ?_; refine x_next ?_; refine c_seq ?_; refine c_seq ?_; refine c_region ?_; refine w_pure (y_assign rfl) rfl ?_; refine w_nil ?_; refine x_next ?_; refine c_block ?_; rotate_left
  refine c_loopC (bL v8) (bH v8) (ι := Value × List (List UInt8) × Int × Int) (fun x => [(0, str s), (1, .int .u8 32), (5, x.1), (6, .int .i64 x.2.2.1), (7, .int .i64 x.2.2.2)])
    (fun x w' => Own w' 9 w.heap.size x.1 x.2.1 ∧ ((bL x.1 = bL v8 ∧ bH x.1 = bH v8) ∨ w8.heap.size ≤ bL x.1) ∧ (0 ≤ x.2.2.1 ∧ x.2.2.1 ≤ x.2.2.2 ∧ x.2.2.2 ≤ s.length) ∧ x.2.1.length ≤ x.2.2.2 ∧ x.2.1 ++ glue ((s.take x.2.2.2.toNat).drop x.2.2.1.toNat) (spl 32 (s.drop x.2.2.2.toNat)) = spl 32 s ∧ Since 0 0 w w') (fun x => (s.length - x.2.2.2).toNat) (v8, [], 0, 0)
    (by repeat (first | exact trivial | refine ⟨rfl, ?_⟩)) ⟨Own.base (by assumption) (by omega), .inl ⟨rfl, rfl⟩, by dsimp only; omega, by simp, by simpa using glue_nil _ (spl_ne _ _), by assumption⟩ ?_
  clear ho8 E
  rintro ⟨u, D, f, i⟩ wL hxL EL ⟨g1, g2, g3, g4, g5, E⟩
  dsimp only at *
  have hzL := hxL.size
  focus have hl_g1 := g1.lt; refine c_seq ?_; refine c_seq ?_; refine c_region ?_; refine w_pure (y_move rfl) rfl ?_; refine w_pure (y_move rfl) rfl ?_; refine w_pure (y_slen rfl) rfl ?_; refine w_pure (y_lt rfl rfl) rfl ?_; refine w_nil ?_; refine x_next ?_; (refine c_dec rfl (fun hc12 => ?_) (fun hc12 => ?_) <;> try (first | exact absurd rfl hc12 | contradiction | exact Bool.noConfusion (show false = true from hc12.symm.trans (by assumption)) | exact Bool.noConfusion (show true = false from hc12.symm.trans (by assumption)) | (exfalso; omega) | (exfalso; simp only [*, Bool.not_true, Bool.not_false, reduceCtorEq] at hc12; done))); refine c_skip ?_; refine x_next ?_; refine c_seq ?_; refine c_block ?_; refine c_seq ?_; refine c_region ?_; refine w_pure (y_move rfl) rfl ?_; refine w_pure (y_move rfl) rfl ?_; refine w_pure (y_at_str rfl rfl) rfl ?_; refine w_pure (y_move rfl) rfl ?_; refine w_pure (y_eq rfl rfl) rfl ?_; refine w_nil ?_; refine x_next ?_; (refine c_dec rfl (fun hc19 => ?_) (fun hc19 => ?_) <;> try (first | exact absurd rfl hc19 | contradiction | exact Bool.noConfusion (show false = true from hc19.symm.trans (by assumption)) | exact Bool.noConfusion (show true = false from hc19.symm.trans (by assumption)) | (exfalso; omega) | (exfalso; simp only [*, Bool.not_true, Bool.not_false, reduceCtorEq] at hc19; done))); refine c_seq ?_; refine c_region ?_; refine w_pure (y_move rfl) rfl ?_; refine w_pure (y_move rfl) rfl ?_; refine w_pure (y_move rfl) rfl ?_; refine w_pure (y_move rfl) rfl ?_; refine w_pure (y_part_str rfl (.inr ⟨_, _, rfl, rfl⟩) (.inr ⟨_, _, rfl, rfl⟩)) rfl ?_; refine w_lit (α := (List UInt8)) rfl rfl rfl rfl rfl rfl rfl rfl (fun v25 w25 ho25 hx25 hl25 hh25 hs25 => ?_); have hl_ho25 := ho25.lt; have hz_hx25 := hx25.size; replace EL := EL.next hx25 (by omega); replace g1 := g1.ext hx25; replace E := E.trans hx25; refine w_append rfl rfl (k := fun v26 w26 ho26 hx26 hr26 => ?_); have hl_ho26 := ho26.lt; have hz_hx26 := hx26.size; replace ho25 := ho25.chg hx26 (by omega); replace EL := EL.next hx26 (by omega); replace E := E.next hx26 (by omega); refine w_pure (y_assign rfl) rfl ?_; refine w_nil ?_; refine x_next ?_; refine c_region ?_; refine w_pure (y_move rfl) rfl ?_; refine w_pure (y_add rfl rfl) rfl ?_; refine w_pure (y_assign rfl) rfl ?_; refine w_nil ?_; refine x_block_norm ?_; refine x_next ?_; refine c_region ?_; refine w_pure (y_move rfl) rfl ?_; refine w_pure (y_add rfl rfl) rfl ?_; refine w_pure (y_assign rfl) rfl ?_; refine w_nil ?_; rotate_left; refine c_skip ?_; refine x_block_norm ?_; refine x_next ?_; refine c_region ?_; refine w_pure (y_move rfl) rfl ?_; refine w_pure (y_add rfl rfl) rfl ?_; refine w_pure (y_assign rfl) rfl ?_; refine w_nil ?_; rotate_left; refine c_exit ?_; refine x_then_exit ?_; refine x_then_exit ?_; refine x_block_hit ?_; refine x_next ?_; refine c_seq ?_; refine c_region ?_; refine w_pure (y_move rfl) rfl ?_; refine w_pure (y_move rfl) rfl ?_; refine w_pure (y_move rfl) rfl ?_; refine w_pure (y_part_str rfl (.inr ⟨_, _, rfl, rfl⟩) (.inl ⟨rfl, rfl⟩)) rfl ?_; refine w_lit (α := (List UInt8)) rfl rfl rfl rfl rfl rfl rfl rfl (fun v33 w33 ho33 hx33 hl33 hh33 hs33 => ?_); have hl_ho33 := ho33.lt; have hz_hx33 := hx33.size; replace EL := EL.next hx33 (by omega); replace g1 := g1.ext hx33; replace E := E.trans hx33; refine w_append rfl rfl (k := fun v34 w34 ho34 hx34 hr34 => ?_); have hl_ho34 := ho34.lt; have hz_hx34 := hx34.size; replace ho33 := ho33.chg hx34 (by omega); replace EL := EL.next hx34 (by omega); replace E := E.next hx34 (by omega); refine w_pure (y_assign rfl) rfl ?_; refine w_nil ?_; refine x_next ?_; refine c_ret ?_; rotate_left
  · have hb : s.getD i.toNat 0 = 32 := by
      have := hc19
      apply UInt8.toNat_inj.1
      show _ = 32
      omega
    have e := spl_go (D := D) (i := i.toNat) (f := f.toNat) (by omega) (by omega) hb g5
    exact x_again (v26, D ++ [_], i + 1, i + 1) (by repeat (first | exact trivial | refine ⟨rfl, ?_⟩)) ⟨EL.go, by assumption, by dsimp only; omega, by dsimp only; omega, by dsimp only; rw [List.length_append, List.length_singleton]; omega, by dsimp only; rw [show (i + 1).toNat = i.toNat + 1 by omega]; exact e, by assumption⟩ (by dsimp only; omega)
  · have hb : s.getD i.toNat 0 ≠ 32 := fun e => hc19 (by rw [e]; rfl)
    have e := spl_on (D := D) (i := i.toNat) (f := f.toNat) (by omega) (by omega) hb g5
    exact x_again (u, D, f, i + 1) (by repeat (first | exact trivial | refine ⟨rfl, ?_⟩)) ⟨EL.go, by assumption, by dsimp only; omega, by dsimp only; omega, by dsimp only; omega, by dsimp only; rw [show (i + 1).toNat = i.toNat + 1 by omega]; exact e, by assumption⟩ (by dsimp only; omega)
  · have e := spl_end (D := D) (i := i.toNat) (f := f.toNat) (by omega) g5
    refine x_retv [_] rfl ⟨rfl, trivial⟩ ⟨?_, E.go⟩
    rw [← e]
    have e2 : List.drop f.toNat (List.take (s.length : Int).toNat s) = s.drop f.toNat := by rw [List.take_of_length_le (by omega)]
    rw [← e2]; assumption
theorem l01Split62_c (s : List UInt8) (hs : s.length ≤ 1048576 := by omega) : Ret Tryz.prog 59 [str s, .int .u8 62] w fun u w' => Own w' 9 w.heap.size u (spl 62 s) ∧ Ext w w' := by
  have E : Since 0 0 w w := Since.refl 0 0 w
  refine ret_enter Tryz.func59 rfl Tryz.ntmps59 rfl ?_
  focus refine c_seq ?_; refine c_region ?_; refine w_pure (y_assign rfl) rfl ?_; refine w_nil ?_; refine x_next ?_; refine c_seq ?_; refine c_region ?_; refine w_lit_s0 rfl (k := fun v8 w8 ho8 hx8 hl8 hh8 hs8 => ?_); have hl_ho8 := ho8.lt; have hz_hx8 := hx8.size; replace E := E.trans hx8; refine w_pure (y_assign rfl) rfl ?_; refine w_nil ?_; refine x_next ?_; refine c_seq ?_; refine c_region ?_; refine w_pure (y_assign rfl) rfl ?_; refine w_nil ?_; refine x_next ?_; refine c_seq ?_; refine c_seq ?_; refine c_region ?_; refine w_pure (y_assign rfl) rfl ?_; refine w_nil ?_; refine x_next ?_; refine c_block ?_; rotate_left
  refine c_loopC (bL v8) (bH v8) (ι := Value × List (List UInt8) × Int × Int) (fun x => [(0, str s), (1, .int .u8 62), (5, x.1), (6, .int .i64 x.2.2.1), (7, .int .i64 x.2.2.2)])
    (fun x w' => Own w' 9 w.heap.size x.1 x.2.1 ∧ ((bL x.1 = bL v8 ∧ bH x.1 = bH v8) ∨ w8.heap.size ≤ bL x.1) ∧ (0 ≤ x.2.2.1 ∧ x.2.2.1 ≤ x.2.2.2 ∧ x.2.2.2 ≤ s.length) ∧ x.2.1.length ≤ x.2.2.2 ∧ x.2.1 ++ glue ((s.take x.2.2.2.toNat).drop x.2.2.1.toNat) (spl 62 (s.drop x.2.2.2.toNat)) = spl 62 s ∧ Since 0 0 w w') (fun x => (s.length - x.2.2.2).toNat) (v8, [], 0, 0)
    (by repeat (first | exact trivial | refine ⟨rfl, ?_⟩)) ⟨Own.base (by assumption) (by omega), .inl ⟨rfl, rfl⟩, by dsimp only; omega, by simp, by simpa using glue_nil _ (spl_ne _ _), by assumption⟩ ?_
  clear ho8 E
  rintro ⟨u, D, f, i⟩ wL hxL EL ⟨g1, g2, g3, g4, g5, E⟩
  dsimp only at *
  have hzL := hxL.size
  focus have hl_g1 := g1.lt; refine c_seq ?_; refine c_seq ?_; refine c_region ?_; refine w_pure (y_move rfl) rfl ?_; refine w_pure (y_move rfl) rfl ?_; refine w_pure (y_slen rfl) rfl ?_; refine w_pure (y_lt rfl rfl) rfl ?_; refine w_nil ?_; refine x_next ?_; (refine c_dec rfl (fun hc12 => ?_) (fun hc12 => ?_) <;> try (first | exact absurd rfl hc12 | contradiction | exact Bool.noConfusion (show false = true from hc12.symm.trans (by assumption)) | exact Bool.noConfusion (show true = false from hc12.symm.trans (by assumption)) | (exfalso; omega) | (exfalso; simp only [*, Bool.not_true, Bool.not_false, reduceCtorEq] at hc12; done))); refine c_skip ?_; refine x_next ?_; refine c_seq ?_; refine c_block ?_; refine c_seq ?_; refine c_region ?_; refine w_pure (y_move rfl) rfl ?_; refine w_pure (y_move rfl) rfl ?_; refine w_pure (y_at_str rfl rfl) rfl ?_; refine w_pure (y_move rfl) rfl ?_; refine w_pure (y_eq rfl rfl) rfl ?_; refine w_nil ?_; refine x_next ?_; (refine c_dec rfl (fun hc19 => ?_) (fun hc19 => ?_) <;> try (first | exact absurd rfl hc19 | contradiction | exact Bool.noConfusion (show false = true from hc19.symm.trans (by assumption)) | exact Bool.noConfusion (show true = false from hc19.symm.trans (by assumption)) | (exfalso; omega) | (exfalso; simp only [*, Bool.not_true, Bool.not_false, reduceCtorEq] at hc19; done))); refine c_seq ?_; refine c_region ?_; refine w_pure (y_move rfl) rfl ?_; refine w_pure (y_move rfl) rfl ?_; refine w_pure (y_move rfl) rfl ?_; refine w_pure (y_move rfl) rfl ?_; refine w_pure (y_part_str rfl (.inr ⟨_, _, rfl, rfl⟩) (.inr ⟨_, _, rfl, rfl⟩)) rfl ?_; refine w_lit (α := (List UInt8)) rfl rfl rfl rfl rfl rfl rfl rfl (fun v25 w25 ho25 hx25 hl25 hh25 hs25 => ?_); have hl_ho25 := ho25.lt; have hz_hx25 := hx25.size; replace EL := EL.next hx25 (by omega); replace g1 := g1.ext hx25; replace E := E.trans hx25; refine w_append rfl rfl (k := fun v26 w26 ho26 hx26 hr26 => ?_); have hl_ho26 := ho26.lt; have hz_hx26 := hx26.size; replace ho25 := ho25.chg hx26 (by omega); replace EL := EL.next hx26 (by omega); replace E := E.next hx26 (by omega); refine w_pure (y_assign rfl) rfl ?_; refine w_nil ?_; refine x_next ?_; refine c_region ?_; refine w_pure (y_move rfl) rfl ?_; refine w_pure (y_add rfl rfl) rfl ?_; refine w_pure (y_assign rfl) rfl ?_; refine w_nil ?_; refine x_block_norm ?_; refine x_next ?_; refine c_region ?_; refine w_pure (y_move rfl) rfl ?_; refine w_pure (y_add rfl rfl) rfl ?_; refine w_pure (y_assign rfl) rfl ?_; refine w_nil ?_; rotate_left; refine c_skip ?_; refine x_block_norm ?_; refine x_next ?_; refine c_region ?_; refine w_pure (y_move rfl) rfl ?_; refine w_pure (y_add rfl rfl) rfl ?_; refine w_pure (y_assign rfl) rfl ?_; refine w_nil ?_; rotate_left; refine c_exit ?_; refine x_then_exit ?_; refine x_then_exit ?_; refine x_block_hit ?_; refine x_next ?_; refine c_seq ?_; refine c_region ?_; refine w_pure (y_move rfl) rfl ?_; refine w_pure (y_move rfl) rfl ?_; refine w_pure (y_move rfl) rfl ?_; refine w_pure (y_part_str rfl (.inr ⟨_, _, rfl, rfl⟩) (.inl ⟨rfl, rfl⟩)) rfl ?_; refine w_lit (α := (List UInt8)) rfl rfl rfl rfl rfl rfl rfl rfl (fun v33 w33 ho33 hx33 hl33 hh33 hs33 => ?_); have hl_ho33 := ho33.lt; have hz_hx33 := hx33.size; replace EL := EL.next hx33 (by omega); replace g1 := g1.ext hx33; replace E := E.trans hx33; refine w_append rfl rfl (k := fun v34 w34 ho34 hx34 hr34 => ?_); have hl_ho34 := ho34.lt; have hz_hx34 := hx34.size; replace ho33 := ho33.chg hx34 (by omega); replace EL := EL.next hx34 (by omega); replace E := E.next hx34 (by omega); refine w_pure (y_assign rfl) rfl ?_; refine w_nil ?_; refine x_next ?_; refine c_ret ?_; rotate_left
  · have hb : s.getD i.toNat 0 = 62 := by
      have := hc19
      apply UInt8.toNat_inj.1
      show _ = 62
      omega
    have e := spl_go (D := D) (i := i.toNat) (f := f.toNat) (by omega) (by omega) hb g5
    exact x_again (v26, D ++ [_], i + 1, i + 1) (by repeat (first | exact trivial | refine ⟨rfl, ?_⟩)) ⟨EL.go, by assumption, by dsimp only; omega, by dsimp only; omega, by dsimp only; rw [List.length_append, List.length_singleton]; omega, by dsimp only; rw [show (i + 1).toNat = i.toNat + 1 by omega]; exact e, by assumption⟩ (by dsimp only; omega)
  · have hb : s.getD i.toNat 0 ≠ 62 := fun e => hc19 (by rw [e]; rfl)
    have e := spl_on (D := D) (i := i.toNat) (f := f.toNat) (by omega) (by omega) hb g5
    exact x_again (u, D, f, i + 1) (by repeat (first | exact trivial | refine ⟨rfl, ?_⟩)) ⟨EL.go, by assumption, by dsimp only; omega, by dsimp only; omega, by dsimp only; omega, by dsimp only; rw [show (i + 1).toNat = i.toNat + 1 by omega]; exact e, by assumption⟩ (by dsimp only; omega)
  · have e := spl_end (D := D) (i := i.toNat) (f := f.toNat) (by omega) g5
    refine x_retv [_] rfl ⟨rfl, trivial⟩ ⟨?_, E.go⟩
    rw [← e]
    have e2 : List.drop f.toNat (List.take (s.length : Int).toNat s) = s.drop f.toNat := by rw [List.take_of_length_le (by omega)]
    rw [← e2]; assumption
theorem set_rep {D : List (List UInt8)} {k i : Nat} {y : List UInt8} (hi : D.length = i) (hk : i < k) : (D ++ List.replicate (k - i) []).set i y = (D ++ [y]) ++ List.replicate (k - (i + 1)) [] := by
  subst hi
  rw [List.set_append_right _ _ (Nat.le_refl _), Nat.sub_self, show k - D.length = (k - (D.length + 1)) + 1 by omega, List.replicate_succ, List.set_cons_zero, List.append_assoc]; rfl
theorem genSplit_c (s : List UInt8) (hs : s.length ≤ 1048576 := by omega) : Ret Tryz.prog 83 [str s, str [32], .int .i64 0, .int .i64 (-1)] w fun u w' => ∃ l h, SL w' l h u (spl 32 s) ∧ w.heap.size ≤ l ∧ Ext w w' := by
  have h32 : ([32] : List UInt8).length = 1 := rfl
  have hct := List.count_le_length (a := (32 : UInt8)) (l := s)
  have hsl := spl_len 32 s
  have E : Since 0 0 w w := Since.refl 0 0 w
  refine ret_enter Tryz.func83 rfl Tryz.ntmps83 rfl ?_
  focus refine c_seq ?_; refine c_region ?_; refine w_pure (y_assign rfl) rfl ?_; refine w_nil ?_; refine x_next ?_; refine c_seq ?_; refine c_seq ?_; refine c_region ?_; refine w_pure (y_move rfl) rfl ?_; refine w_pure (y_eq rfl rfl) rfl ?_; refine w_nil ?_; refine x_next ?_; refine c_false rfl ?_; refine c_skip ?_; refine x_next ?_; refine c_seq ?_; refine c_seq ?_; refine c_region ?_; refine w_pure (y_move rfl) rfl ?_; refine w_pure (y_seq rfl rfl) rfl ?_; refine w_nil ?_; refine x_next ?_; refine c_false rfl ?_; refine c_skip ?_; refine x_next ?_; refine c_seq ?_; refine c_seq ?_; refine c_region ?_; refine w_pure (y_move rfl) rfl ?_; refine w_pure (y_lt rfl rfl) rfl ?_; refine w_nil ?_; refine x_next ?_; refine c_true rfl ?_; refine c_region ?_; refine w_pure (y_move rfl) rfl ?_; refine w_pure (y_move rfl) rfl ?_; refine w_pur rfl rfl rfl (Count_c _ _) rfl ?_; refine w_pure (y_add rfl rfl) rfl ?_; refine w_pure (y_assign rfl) rfl ?_; refine w_nil ?_; refine x_next ?_; refine c_seq ?_; refine c_region ?_; refine w_pure (y_move rfl) rfl ?_; refine w_pure (y_move rfl) rfl ?_; refine w_pure (y_slen rfl) rfl ?_; refine w_pure (y_add rfl rfl) rfl ?_; refine w_pure (y_min rfl rfl) rfl ?_; refine w_pure (y_assign rfl) rfl ?_; refine w_nil ?_; refine x_next ?_; refine c_seq ?_; refine c_region ?_; refine w_pure (y_move rfl) rfl ?_; refine w_make (α := List UInt8) rfl rfl (k := fun v31 w31 ho31 hx31 hl31 hh31 hs31 => ?_); have hl_ho31 := ho31.lt; have hz_hx31 := hx31.size; replace E := E.trans hx31; refine w_pure (y_assign rfl) rfl ?_; refine w_nil ?_; refine x_next ?_; refine c_seq ?_; refine c_region ?_; refine w_pure (y_move rfl) rfl ?_; refine w_pure (y_sub rfl rfl) rfl ?_; refine w_pure (y_assign rfl) rfl ?_; refine w_nil ?_; refine x_next ?_; refine c_seq ?_; refine c_region ?_; refine w_pure (y_assign rfl) rfl ?_; refine w_nil ?_; refine x_next ?_; refine c_seq ?_; refine c_block ?_; rotate_left
  have hK : (min ((s.count 32 : Int) + 1) ((s.length : Int) + 1)).toNat = s.count 32 + 1 := by omega
  rw [hK] at ho31
  refine c_loopC (bL v31) (bH v31) (ι := List UInt8 × List (List UInt8) × Int) (fun x => [(0, str x.1), (1, str [32]), (2, .int .i64 0), (3, .int .i64 (min ((s.count 32 : Int) + 1) ((s.length : Int) + 1) - 1)), (9, v31), (10, .int .i64 x.2.2)])
    (fun x w' => Own w' 9 w.heap.size v31 (x.2.1 ++ List.replicate (s.count 32 + 1 - x.2.1.length) []) ∧ x.2.1 ++ spl 32 x.1 = spl 32 s ∧ x.1.length ≤ s.length ∧ (x.2.1.length : Int) = x.2.2 ∧ Since 0 0 w w') (fun x => s.count 32 - x.2.1.length) (s, [], 0)
    (by repeat (first | exact trivial | refine ⟨rfl, ?_⟩)) ⟨Own.base ho31 (by omega), rfl, Nat.le_refl _, rfl, by assumption⟩ ?_
  clear ho31 E
  rintro ⟨r, D, i⟩ wL hxL EL ⟨g1, g2, g3, g4, E⟩
  dsimp only at *
  have hzL := hxL.size
  have hl := congrArg List.length g2
  rw [List.length_append, spl_len, spl_len] at hl
  have hlr : (D ++ List.replicate (s.count 32 + 1 - D.length) ([] : List UInt8)).length = s.count 32 + 1 := by rw [List.length_append, List.length_replicate]; omega
  by_cases hlt : D.length < s.count 32
  · have hi0 : 0 ≤ Lib.indexByte r 32 := by
      apply Decidable.byContradiction
      intro hn
      have e := congrArg List.length (spl_none (s := r) (c := 32) (by omega))
      rw [spl_len] at e
      simp at e; omega
    have hi1 := cut_yes hi0
    have hi2 := hi1.2.2
    clear hi1
    have hst := set_rep (y := r.take (Lib.indexByte r 32 + 0).toNat) (D := D) (k := s.count 32 + 1) (i := i.toNat) (by omega) (by omega)
    have hsp := spl_idx hi0
    focus have hl_g1 := g1.lt; refine c_seq ?_; refine c_seq ?_; refine c_region ?_; refine w_pure (y_move rfl) rfl ?_; refine w_pure (y_move rfl) rfl ?_; refine w_pure (y_lt rfl rfl) rfl ?_; refine w_nil ?_; refine x_next ?_; (refine c_dec rfl (fun hc36 => ?_) (fun hc36 => ?_) <;> try (first | exact absurd rfl hc36 | contradiction | exact Bool.noConfusion (show false = true from hc36.symm.trans (by assumption)) | exact Bool.noConfusion (show true = false from hc36.symm.trans (by assumption)) | (exfalso; omega) | (exfalso; simp only [*, Bool.not_true, Bool.not_false, reduceCtorEq] at hc36; done))); refine c_skip ?_; refine x_next ?_; refine c_block ?_; refine c_seq ?_; refine c_region ?_; refine w_pure (y_move rfl) rfl ?_; refine w_pure (y_move rfl) rfl ?_; refine w_pur rfl rfl rfl (Index_c _ _) rfl ?_; refine w_pure (y_assign rfl) rfl ?_; refine w_nil ?_; refine x_next ?_; refine c_seq ?_; refine c_seq ?_; refine c_region ?_; refine w_pure (y_move rfl) rfl ?_; refine w_pure (y_lt rfl rfl) rfl ?_; refine w_nil ?_; refine x_next ?_; (refine c_dec rfl (fun hc41 => ?_) (fun hc41 => ?_) <;> try (first | exact absurd rfl hc41 | contradiction | exact Bool.noConfusion (show false = true from hc41.symm.trans (by assumption)) | exact Bool.noConfusion (show true = false from hc41.symm.trans (by assumption)) | (exfalso; omega) | (exfalso; simp only [*, Bool.not_true, Bool.not_false, reduceCtorEq] at hc41; done))); refine c_skip ?_; refine x_next ?_; refine c_seq ?_; refine c_region ?_; refine w_pure (y_move rfl) rfl ?_; refine w_pure (y_move rfl) rfl ?_; refine w_pure (y_move rfl) rfl ?_; refine w_pure (y_move rfl) rfl ?_; refine w_pure (y_move rfl) rfl ?_; refine w_pure (y_add rfl rfl) rfl ?_; refine w_pure (y_part_str rfl (.inl ⟨rfl, rfl⟩) (.inr ⟨_, _, rfl, rfl⟩)) rfl ?_; refine w_pure (y_index rfl rfl) rfl ?_; refine w_store_own rfl rfl (next := fun ws41 hos41 hxs41 hss41 => ?_); (replace g1 := hos41; clear hos41); have hz_hxs41 := hxs41.size; replace EL := EL.trans hxs41; replace E := E.next hxs41 (by omega); refine w_nil ?_; refine x_next ?_; refine c_seq ?_; refine c_region ?_; refine w_pure (y_move rfl) rfl ?_; refine w_pure (y_move rfl) rfl ?_; refine w_pure (y_move rfl) rfl ?_; refine w_pure (y_slen rfl) rfl ?_; refine w_pure (y_add rfl rfl) rfl ?_; refine w_pure (y_part_str rfl (.inr ⟨_, _, rfl, rfl⟩) (.inl ⟨rfl, rfl⟩)) rfl ?_; refine w_pure (y_assign rfl) rfl ?_; refine w_nil ?_; refine x_next ?_; refine c_region ?_; refine w_pure (y_move rfl) rfl ?_; refine w_pure (y_add rfl rfl) rfl ?_; refine w_pure (y_assign rfl) rfl ?_; refine w_nil ?_; refine x_block_norm ?_; rotate_left
    have e1 : List.drop (Lib.indexByte r 32 + (([32] : List UInt8).length : Int)).toNat (List.take (r.length : Int).toNat r) = r.drop (Lib.indexByte r 32 + 1).toNat := by rw [List.take_of_length_le (by omega)]; rfl
    refine x_again (List.drop (Lib.indexByte r 32 + (([32] : List UInt8).length : Int)).toNat (List.take (r.length : Int).toNat r), D ++ [r.take (Lib.indexByte r 32 + 0).toNat], i + 1) (by repeat (first | exact trivial | refine ⟨rfl, ?_⟩)) ⟨EL.go, ?_, ?_, ?_, ?_, by assumption⟩ ?_
    · dsimp only
      rw [List.length_append, List.length_singleton, show D.length + 1 = i.toNat + 1 by omega, ← hst]; rw [show D.length = i.toNat by omega] at g1; exact g1
    · dsimp only
      rw [e1, List.append_assoc, ← g2, hsp, Int.add_zero]; rfl
    · dsimp only; rw [e1, List.length_drop]; omega
    · dsimp only; rw [List.length_append, List.length_singleton]; omega
    · dsimp only; rw [List.length_append, List.length_singleton]; omega
  · have hst := set_rep (y := r) (D := D) (k := s.count 32 + 1) (i := i.toNat) (by omega) (by omega)
    have hni : Lib.indexByte r 32 < 0 := by
      apply Decidable.byContradiction
      intro hn
      have e := congrArg List.length (spl_idx (s := r) (c := 32) (by omega))
      rw [List.length_cons, spl_len, spl_len] at e
      omega
    have hsp := spl_none hni
    focus have hl_g1 := g1.lt; refine c_seq ?_; refine c_seq ?_; refine c_region ?_; refine w_pure (y_move rfl) rfl ?_; refine w_pure (y_move rfl) rfl ?_; refine w_pure (y_lt rfl rfl) rfl ?_; refine w_nil ?_; refine x_next ?_; (refine c_dec rfl (fun hc36 => ?_) (fun hc36 => ?_) <;> try (first | exact absurd rfl hc36 | contradiction | exact Bool.noConfusion (show false = true from hc36.symm.trans (by assumption)) | exact Bool.noConfusion (show true = false from hc36.symm.trans (by assumption)) | (exfalso; omega) | (exfalso; simp only [*, Bool.not_true, Bool.not_false, reduceCtorEq] at hc36; done))); refine c_exit ?_; refine x_then_exit ?_; refine x_then_exit ?_; refine x_block_hit ?_; refine x_next ?_; refine c_seq ?_; refine c_region ?_; refine w_pure (y_move rfl) rfl ?_; refine w_pure (y_move rfl) rfl ?_; refine w_pure (y_move rfl) rfl ?_; refine w_pure (y_index rfl rfl) rfl ?_; refine w_store_own rfl rfl (next := fun ws21 hos21 hxs21 hss21 => ?_); (replace g1 := hos21; clear hos21); have hz_hxs21 := hxs21.size; replace EL := EL.trans hxs21; replace E := E.next hxs21 (by omega); refine w_nil ?_; refine x_next ?_; refine c_seq ?_; refine c_region ?_; refine w_pure (y_move rfl) rfl ?_; refine w_pure (y_move rfl) rfl ?_; refine w_pure (y_add rfl rfl) rfl ?_; rotate_left
    rw [show D.length = i.toNat by omega, hst, show s.count 32 + 1 - (i.toNat + 1) = 0 by omega, List.replicate_zero, List.append_nil] at g1
    have hlg : (D ++ [r]).length = D.length + 1 := by rw [List.length_append, List.length_singleton]
    focus (refine w_slice rfl (.inl ⟨rfl, rfl⟩) (.inr ⟨_, _, rfl, rfl⟩) rfl ?_; intro u65 hu65); refine w_pure (y_assign rfl) rfl ?_; refine w_nil ?_; refine x_next ?_; refine c_ret ?_; rotate_left
    rw [hsp] at g2
    have e2 : List.drop (Int.toNat 0) (List.take (i + 1).toNat (D ++ [r])) = spl 32 s := by rw [← g2, List.take_of_length_le (by omega)]; rfl
    rw [e2] at hu65
    exact x_retv [_] rfl ⟨rfl, trivial⟩ ⟨_, _, hu65, by omega, E.go⟩
theorem Split_c (s : List UInt8) (hs : s.length ≤ 1048576 := by omega) : Ret Tryz.prog 53 [str s, str [32]] w fun u w' => ∃ l h, SL w' l h u (spl 32 s) ∧ w.heap.size ≤ l ∧ Ext w w' := by
  have E : Since 0 0 w w := Since.refl 0 0 w
  refine ret_enter Tryz.func53 rfl Tryz.ntmps53 rfl ?_
  focus refine c_seq ?_; refine c_region ?_; refine w_pure (y_assign rfl) rfl ?_; refine w_nil ?_; refine x_next ?_; refine c_seq ?_; refine c_region ?_; refine w_pure (y_move rfl) rfl ?_; refine w_pure (y_move rfl) rfl ?_; (refine w_call rfl rfl rfl (genSplit_c _) rfl ?_; rintro v7 w7 ⟨l7, ⟨h7, ⟨hp1_7, ⟨hp2_7, hx7⟩⟩⟩⟩); have hz_hx7 := hx7.size; replace E := E.trans hx7; refine w_pure (y_assign rfl) rfl ?_; refine w_nil ?_; refine x_next ?_; refine c_ret ?_; rotate_left
  exact x_retv [_] rfl ⟨rfl, trivial⟩ ⟨_, _, by assumption, by omega, E.go⟩
end
end Go.Proofs.YtcbpiaehkodliaaGreatDoor
/- RdcC -/
namespace Go.Proofs.YtcbpiaehkodliaaGreatDoor
open Go Go.Gw
set_option linter.unusedVariables false
set_option linter.unusedSimpArgs false
theorem take_one {T : List UInt8} {i : Nat} (h : i < T.length) : T.take (i + 1) = T.take i ++ [T.getD i 0] := by
  rw [List.take_add_one, List.getElem?_eq_getElem h, List.getD_eq_getElem?_getD, List.getElem?_eq_getElem h]; rfl
theorem getD_inC {T : List UInt8} {i : Nat} (h : i < T.length) : T.getD i 0 ∈ T := by
  rw [List.getD_eq_getElem?_getD, List.getElem?_eq_getElem h]; exact List.getElem_mem h
/-- a number's first digits -/
structure NumTo (T : List UInt8) (i : Nat) (n : Int) : Prop where
  val : n = valU (T.take i)
  dig : ∀ c ∈ T.take i, isDig c
theorem NumTo.bd {T : List UInt8} {i : Nat} {n : Int} (h : NumTo T i n) (hi : i ≤ 17) : 0 ≤ n ∧ n < 100000000000000000 := by
  have := valU_bd 17 (T.take i) (by rw [List.length_take]; omega) h.dig
  rw [← h.val] at this
  have e : (10 : Int) ^ 17 = 100000000000000000 := by decide
  omega
theorem NumTo.bd18 {T : List UInt8} {i : Nat} {n : Int} (h : NumTo T i n) (hi : T.length ≤ 18) : 0 ≤ n ∧ n < 1000000000000000000 := by
  have := valU_bd 18 (T.take i) (by rw [List.length_take]; omega) h.dig
  rw [← h.val] at this
  have e : (10 : Int) ^ 18 = 1000000000000000000 := by decide
  omega
theorem NumTo.zero (T : List UInt8) : NumTo T 0 0 := ⟨by simp [valU], fun c hc => by simp at hc⟩
theorem NumTo.step {T : List UInt8} {i : Nat} {n : Int} (h : NumTo T i n) (hi : i < T.length) (hd : 48 ≤ ((T.getD i 0).toNat : Int) ∧ ((T.getD i 0).toNat : Int) ≤ 57) : NumTo T (i + 1) (10 * n + (((T.getD i 0).toNat : Int) - 48)) := by
  refine ⟨by rw [take_one hi, valU_snoc, ← h.val], fun c hc => ?_⟩
  rw [take_one hi, List.mem_append, List.mem_singleton] at hc
  rcases hc with hc | rfl
  · exact h.dig c hc
  · unfold isDig; omega
theorem body_neg (r : List UInt8) : bodyU (45 :: r) = r := by simp [bodyU]
theorem body_pos {s : List UInt8} (h : s.head? ≠ some 45) : bodyU s = s := by simp [bodyU, h]
theorem num_neg {r : List UInt8} {n : Int} (h : NumTo r r.length n) : numU (45 :: r) = -n := by
  rw [numU, body_neg, if_pos (by simp), h.val, List.take_length]
theorem num_pos {s : List UInt8} {n : Int} (hs : s.head? ≠ some 45) (h : NumTo s s.length n) : numU s = n := by
  rw [numU, body_pos hs, if_neg (by omega), h.val, List.take_length]
section
variable {w : World} {lo hi B : Nat} {v : Value} {s : List UInt8}
theorem l01DigitR_c (c : Int) : Pur Tryz.prog 90 [.int .u8 c] (.bool (decide (48 ≤ c ∧ c ≤ 57))) := by
  refine ⟨fun w => ?_⟩
  refine ret_enter Tryz.func90 rfl Tryz.ntmps90 rfl ?_
  focus refine c_seq ?_; refine c_region ?_; refine w_pure (y_assign rfl) rfl ?_; refine w_nil ?_; refine x_next ?_; refine c_seq ?_; refine c_region ?_; refine w_pure (y_move rfl) rfl ?_; refine w_pure (y_ge rfl rfl) rfl ?_; refine w_pure (y_move rfl) rfl ?_; (refine w_part_dec rfl rfl (fun hc6 => ?_) (fun hc6 => ?_) <;> try (first | exact absurd rfl hc6 | contradiction | exact Bool.noConfusion (show false = true from hc6.symm.trans (by assumption)) | exact Bool.noConfusion (show true = false from hc6.symm.trans (by assumption)) | (exfalso; omega) | (exfalso; simp only [*, Bool.not_true, Bool.not_false, reduceCtorEq] at hc6; done))); refine w_yes rfl rfl ?_; refine w_pure (y_move rfl) rfl ?_; refine w_yes rfl rfl ?_; refine w_pure (y_le rfl rfl) rfl ?_; refine w_pure (y_pick_t rfl rfl) rfl ?_; refine w_pure (y_assign rfl) rfl ?_; refine w_nil ?_; refine x_next ?_; refine c_ret ?_; rotate_left; refine w_no rfl rfl rfl rfl ?_; refine w_no rfl rfl rfl rfl ?_; refine w_pure (y_pick_f rfl rfl) rfl ?_; refine w_pure (y_assign rfl) rfl ?_; refine w_nil ?_; refine x_next ?_; refine c_ret ?_; rotate_left
  all_goals refine x_retv [_] rfl ⟨rfl, trivial⟩ ⟨?_, rfl⟩
  all_goals simp [ofResults, *]
theorem l01NumberA (r : List UInt8) (hs : r.length ≤ 2000000 := by omega) : Ret Tryz.prog 60 [str (45 :: r)] w fun u w' => u = .tuple #[.int .i64 (rdN (45 :: r)).1, .bool (rdN (45 :: r)).2] ∧ Ext w w' := by
  have hb := body_neg r
  have hlr : (45 :: r).length = r.length + 1 := rfl
  have hT : List.drop (Int.toNat 1) (List.take ((45 :: r).length : Int).toNat (45 :: r)) = r := by rw [List.take_of_length_le (by omega)]; rfl
  have E : Since 0 0 w w := Since.refl 0 0 w
  refine ret_enter Tryz.func60 rfl Tryz.ntmps60 rfl ?_
  focus refine c_seq ?_; refine c_region ?_; refine w_pure (y_assign rfl) rfl ?_; refine w_pure (y_assign rfl) rfl ?_; refine w_nil ?_; refine x_next ?_; refine c_seq ?_; refine c_region ?_; refine w_pure (y_move rfl) rfl ?_; refine w_pure (y_assign rfl) rfl ?_; refine w_nil ?_; refine x_next ?_; refine c_seq ?_; refine c_seq ?_; refine c_region ?_; refine w_pure (y_move rfl) rfl ?_; refine w_pure (y_sne rfl rfl) rfl ?_; refine w_pure (y_move rfl) rfl ?_; refine w_yes rfl rfl ?_; refine w_pure (y_move rfl) rfl ?_; refine w_yes rfl rfl ?_; refine w_pure (y_at_str rfl rfl) rfl ?_; refine w_yes rfl rfl ?_; refine w_pure (y_eq rfl rfl) rfl ?_; refine w_pure (y_pick_t rfl rfl) rfl ?_; refine w_nil ?_; refine x_next ?_; refine c_true rfl ?_; refine c_region ?_; refine w_pure (y_move rfl) rfl ?_; refine w_pure (y_part_str rfl (.inr ⟨_, _, rfl, rfl⟩) (.inl ⟨rfl, rfl⟩)) rfl ?_; refine w_pure (y_assign rfl) rfl ?_; refine w_nil ?_; refine x_next ?_; refine c_seq ?_; refine c_seq ?_; refine c_region ?_; refine w_pure (y_move rfl) rfl ?_; refine w_pure (y_slen rfl) rfl ?_; refine w_pure (y_lt rfl rfl) rfl ?_; refine w_pure (y_move rfl) rfl ?_; (refine w_part_dec rfl rfl (fun hc21 => ?_) (fun hc21 => ?_) <;> try (first | exact absurd rfl hc21 | contradiction | exact Bool.noConfusion (show false = true from hc21.symm.trans (by assumption)) | exact Bool.noConfusion (show true = false from hc21.symm.trans (by assumption)) | (exfalso; omega) | (exfalso; simp only [*, Bool.not_true, Bool.not_false, reduceCtorEq] at hc21; done))); refine w_no rfl rfl rfl rfl ?_; refine w_no rfl rfl rfl rfl ?_; refine w_no rfl rfl rfl rfl ?_; refine w_pure (y_pick_t rfl rfl) rfl ?_; refine w_nil ?_; refine x_next ?_; refine c_true rfl ?_; refine c_seq ?_; refine c_region ?_; refine w_pure (y_assign rfl) rfl ?_; refine w_pure (y_assign rfl) rfl ?_; refine w_nil ?_; refine x_next ?_; refine c_ret ?_; refine x_then_ret ?_; rotate_left; refine w_yes rfl rfl ?_; refine w_pure (y_move rfl) rfl ?_; refine w_yes rfl rfl ?_; refine w_pure (y_slen rfl) rfl ?_; refine w_yes rfl rfl ?_; refine w_pure (y_gt rfl rfl) rfl ?_; refine w_pure (y_pick_f rfl rfl) rfl ?_; refine w_nil ?_; refine x_next ?_; (refine c_dec rfl (fun hc24 => ?_) (fun hc24 => ?_) <;> try (first | exact absurd rfl hc24 | contradiction | exact Bool.noConfusion (show false = true from hc24.symm.trans (by assumption)) | exact Bool.noConfusion (show true = false from hc24.symm.trans (by assumption)) | (exfalso; omega) | (exfalso; simp only [*, Bool.not_true, Bool.not_false, reduceCtorEq] at hc24; done))); refine c_seq ?_; refine c_region ?_; refine w_pure (y_assign rfl) rfl ?_; refine w_pure (y_assign rfl) rfl ?_; refine w_nil ?_; refine x_next ?_; refine c_ret ?_; refine x_then_ret ?_; rotate_left; refine c_skip ?_; refine x_next ?_; refine c_seq ?_; refine c_region ?_; refine w_pure (y_assign rfl) rfl ?_; refine w_nil ?_; refine x_next ?_; refine c_seq ?_; refine c_seq ?_; refine c_region ?_; refine w_pure (y_assign rfl) rfl ?_; refine w_nil ?_; refine x_next ?_; refine c_block ?_; rotate_left
  · rw [hT] at hc21
    have e := rd_len (s := 45 :: r) (by rw [hb]; omega)
    exact x_retv [_, _] rfl ⟨rfl, rfl, trivial⟩ ⟨by rw [e]; rfl, E.go⟩
  · rw [hT] at hc24
    have e := rd_len (s := 45 :: r) (by rw [hb]; omega)
    exact x_retv [_, _] rfl ⟨rfl, rfl, trivial⟩ ⟨by rw [e]; rfl, E.go⟩
  · rw [hT] at hc21 hc24
    refine c_loopC 0 0 (ι := Int × Int) (fun x => [(0, str (45 :: r)), (4, str r), (5, .int .i64 x.1), (6, .int .i64 x.2)]) (fun x w' => NumTo r x.2.toNat x.1 ∧ (0 ≤ x.2 ∧ x.2 ≤ r.length)) (fun x => (r.length - x.2).toNat) (0, 0)
      ⟨rfl, congrArg (fun q => some (str q)) hT, rfl, rfl, trivial⟩ ⟨NumTo.zero _, by dsimp only; omega⟩ ?_
    rintro ⟨n, i⟩ wL hxL EL ⟨g1, g2⟩
    dsimp only at *
    have hzL := hxL.size
    have h18 := g1.bd18 (by omega)
    by_cases hlt : i < r.length
    · have hbd := g1.bd (by omega)
      focus have hz_hxL := hxL.size; replace E := E.trans hxL; refine c_seq ?_; refine c_seq ?_; refine c_region ?_; refine w_pure (y_move rfl) rfl ?_; refine w_pure (y_move rfl) rfl ?_; refine w_pure (y_slen rfl) rfl ?_; refine w_pure (y_lt rfl rfl) rfl ?_; refine w_nil ?_; refine x_next ?_; (refine c_dec rfl (fun hc28 => ?_) (fun hc28 => ?_) <;> try (first | exact absurd rfl hc28 | contradiction | exact Bool.noConfusion (show false = true from hc28.symm.trans (by assumption)) | exact Bool.noConfusion (show true = false from hc28.symm.trans (by assumption)) | (exfalso; omega) | (exfalso; simp only [*, Bool.not_true, Bool.not_false, reduceCtorEq] at hc28; done))); refine c_skip ?_; refine x_next ?_; refine c_seq ?_; refine c_block ?_; refine c_seq ?_; refine c_seq ?_; refine c_region ?_; refine w_pure (y_move rfl) rfl ?_; refine w_pure (y_move rfl) rfl ?_; refine w_pure (y_at_str rfl rfl) rfl ?_; refine w_pur rfl rfl rfl (l01DigitR_c _) rfl ?_; refine w_pure (y_not_dec rfl) rfl ?_; refine w_nil ?_; refine x_next ?_; (refine c_dec rfl (fun hc35 => ?_) (fun hc35 => ?_) <;> try (first | exact absurd rfl hc35 | contradiction | exact Bool.noConfusion (show false = true from hc35.symm.trans (by assumption)) | exact Bool.noConfusion (show true = false from hc35.symm.trans (by assumption)) | (exfalso; omega) | (exfalso; simp only [*, Bool.not_true, Bool.not_false, reduceCtorEq] at hc35; done))); refine c_seq ?_; refine c_region ?_; refine w_pure (y_assign rfl) rfl ?_; refine w_pure (y_assign rfl) rfl ?_; refine w_nil ?_; refine x_next ?_; refine c_ret ?_; refine x_then_ret ?_; refine x_block_ret ?_; refine x_then_ret ?_; refine x_then_ret ?_; refine x_block_ret ?_; refine x_then_ret ?_; rotate_left; refine c_skip ?_; refine x_next ?_; refine c_region ?_; refine w_pure (y_move rfl) rfl ?_; refine w_pure (y_mul rfl rfl) rfl ?_; refine w_pure (y_move rfl) rfl ?_; refine w_pure (y_move rfl) rfl ?_; refine w_pure (y_at_str rfl rfl) rfl ?_; refine w_pure (y_sub8 rfl rfl) rfl ?_; refine w_pure (y_conv64 rfl) rfl ?_; refine w_pure (y_add rfl rfl) rfl ?_; refine w_pure (y_assign rfl) rfl ?_; refine w_nil ?_; refine x_block_norm ?_; refine x_next ?_; refine c_region ?_; refine w_pure (y_move rfl) rfl ?_; refine w_pure (y_add rfl rfl) rfl ?_; refine w_pure (y_assign rfl) rfl ?_; refine w_nil ?_; rotate_left
      · have hd : ¬ isDig (r.getD i.toNat 0) := by unfold isDig; omega
        have e := rd_dig (s := 45 :: r) (c := r.getD i.toNat 0) (by rw [hb]; exact getD_inC (by omega)) hd
        exact x_retv [_, _] rfl ⟨rfl, rfl, trivial⟩ ⟨by rw [e]; rfl, E.go⟩
      · have h2 := g1.step (by omega) (by omega)
        exact x_again (_, i + 1) (by repeat (first | exact trivial | refine ⟨rfl, ?_⟩)) ⟨EL.go, by dsimp only; rw [show (i + 1).toNat = i.toNat + 1 by omega]; exact h2, by dsimp only; omega⟩ (by dsimp only; omega)
    · rw [show i.toNat = r.length by omega] at g1
      have hnu := num_neg g1
      focus have hz_hxL := hxL.size; replace E := E.trans hxL; refine c_seq ?_; refine c_seq ?_; refine c_region ?_; refine w_pure (y_move rfl) rfl ?_; refine w_pure (y_move rfl) rfl ?_; refine w_pure (y_slen rfl) rfl ?_; refine w_pure (y_lt rfl rfl) rfl ?_; refine w_nil ?_; refine x_next ?_; (refine c_dec rfl (fun hc28 => ?_) (fun hc28 => ?_) <;> try (first | exact absurd rfl hc28 | contradiction | exact Bool.noConfusion (show false = true from hc28.symm.trans (by assumption)) | exact Bool.noConfusion (show true = false from hc28.symm.trans (by assumption)) | (exfalso; omega) | (exfalso; simp only [*, Bool.not_true, Bool.not_false, reduceCtorEq] at hc28; done))); refine c_exit ?_; refine x_then_exit ?_; refine x_then_exit ?_; refine x_block_hit ?_; refine x_next ?_; refine c_seq ?_; refine c_seq ?_; refine c_region ?_; refine w_pure (y_move rfl) rfl ?_; refine w_pure (y_slen rfl) rfl ?_; refine w_pure (y_move rfl) rfl ?_; refine w_pure (y_slen rfl) rfl ?_; refine w_pure (y_lt rfl rfl) rfl ?_; refine w_nil ?_; refine x_next ?_; (refine c_dec rfl (fun hc48 => ?_) (fun hc48 => ?_) <;> try (first | exact absurd rfl hc48 | contradiction | exact Bool.noConfusion (show false = true from hc48.symm.trans (by assumption)) | exact Bool.noConfusion (show true = false from hc48.symm.trans (by assumption)) | (exfalso; omega) | (exfalso; simp only [*, Bool.not_true, Bool.not_false, reduceCtorEq] at hc48; done))); refine c_region ?_; refine w_pure (y_move rfl) rfl ?_; refine w_pure (y_neg rfl) rfl ?_; refine w_pure (y_assign rfl) rfl ?_; refine w_nil ?_; refine x_next ?_; refine c_seq ?_; refine c_seq ?_; refine c_region ?_; refine w_pure (y_move rfl) rfl ?_; refine w_val rfl rfl rfl (l01Dec_c _) rfl (fun w52 hx52 hz52 => ?_); have hz_hx52 := hx52.size; replace EL := EL.trans hx52; replace E := E.trans hx52; refine w_pure (y_move rfl) rfl ?_; refine w_pure (y_sne rfl rfl) rfl ?_; refine w_nil ?_; refine x_next ?_; (refine c_dec rfl (fun hc54 => ?_) (fun hc54 => ?_) <;> try (first | exact absurd rfl hc54 | contradiction | exact Bool.noConfusion (show false = true from hc54.symm.trans (by assumption)) | exact Bool.noConfusion (show true = false from hc54.symm.trans (by assumption)) | (exfalso; omega) | (exfalso; simp only [*, Bool.not_true, Bool.not_false, reduceCtorEq] at hc54; done))); refine c_seq ?_; refine c_region ?_; refine w_pure (y_assign rfl) rfl ?_; refine w_pure (y_assign rfl) rfl ?_; refine w_nil ?_; refine x_next ?_; refine c_ret ?_; refine x_then_ret ?_; rotate_left; refine c_skip ?_; refine x_next ?_; refine c_seq ?_; refine c_region ?_; refine w_pure (y_move rfl) rfl ?_; refine w_pure (y_assign rfl) rfl ?_; refine w_pure (y_assign rfl) rfl ?_; refine w_nil ?_; refine x_next ?_; refine c_ret ?_; rotate_left
      · have e := rd_val (s := 45 :: r) (by rw [hnu]; assumption)
        exact x_retv [_, _] rfl ⟨rfl, rfl, trivial⟩ ⟨by rw [e]; rfl, E.go⟩
      · have e := rdN_of (s := 45 :: r) (n := -n) (by omega) (by first | assumption | (apply Decidable.not_not.1; assumption))
        exact x_retv [_, _] rfl ⟨rfl, rfl, trivial⟩ ⟨by rw [e]; rfl, E.go⟩
theorem l01NumberB (s : List UInt8) (h45 : s.head? ≠ some 45) (hs : s.length ≤ 2000000 := by omega) : Ret Tryz.prog 60 [str s] w fun u w' => u = .tuple #[.int .i64 (rdN s).1, .bool (rdN s).2] ∧ Ext w w' := by
  have hb := body_pos h45
  have hne : s ≠ [] → ¬ ((s.getD (Int.toNat 0) 0).toNat : Int) = 45 := fun hn e => by
    cases s with
    | nil => exact hn rfl
    | cons c r =>
      apply h45
      have e1 : c.toNat = 45 := by have : ((c.toNat : Nat) : Int) = 45 := e; omega
      show some c = some 45
      rw [UInt8.toNat_inj.1 (show c.toNat = (45 : UInt8).toNat from e1)]
  by_cases hs0 : s = []
  · subst hs0
    have E : Since 0 0 w w := Since.refl 0 0 w
    refine ret_enter Tryz.func60 rfl Tryz.ntmps60 rfl ?_
    focus refine c_seq ?_; refine c_region ?_; refine w_pure (y_assign rfl) rfl ?_; refine w_pure (y_assign rfl) rfl ?_; refine w_nil ?_; refine x_next ?_; refine c_seq ?_; refine c_region ?_; refine w_pure (y_move rfl) rfl ?_; refine w_pure (y_assign rfl) rfl ?_; refine w_nil ?_; refine x_next ?_; refine c_seq ?_; refine c_seq ?_; refine c_region ?_; refine w_pure (y_move rfl) rfl ?_; refine w_pure (y_sne rfl rfl) rfl ?_; refine w_pure (y_move rfl) rfl ?_; refine w_no rfl rfl rfl rfl ?_; refine w_no rfl rfl rfl rfl ?_; refine w_no rfl rfl rfl rfl ?_; refine w_pure (y_pick_f rfl rfl) rfl ?_; refine w_nil ?_; refine x_next ?_; refine c_false rfl ?_; refine c_skip ?_; refine x_next ?_; refine c_seq ?_; refine c_seq ?_; refine c_region ?_; refine w_pure (y_move rfl) rfl ?_; refine w_pure (y_slen rfl) rfl ?_; refine w_pure (y_lt rfl rfl) rfl ?_; refine w_pure (y_move rfl) rfl ?_; refine w_no rfl rfl rfl rfl ?_; refine w_no rfl rfl rfl rfl ?_; refine w_no rfl rfl rfl rfl ?_; refine w_pure (y_pick_t rfl rfl) rfl ?_; refine w_nil ?_; refine x_next ?_; refine c_true rfl ?_; refine c_seq ?_; refine c_region ?_; refine w_pure (y_assign rfl) rfl ?_; refine w_pure (y_assign rfl) rfl ?_; refine w_nil ?_; refine x_next ?_; refine c_ret ?_; refine x_then_ret ?_; rotate_left
    all_goals exact x_retv [_, _] rfl ⟨rfl, rfl, trivial⟩ ⟨by rw [rd_nil]; rfl, E.go⟩
  have hl0 : 0 < s.length := List.length_pos_iff.2 hs0
  have hn0 := hne hs0
  clear hne
  have E : Since 0 0 w w := Since.refl 0 0 w
  refine ret_enter Tryz.func60 rfl Tryz.ntmps60 rfl ?_
  focus refine c_seq ?_; refine c_region ?_; refine w_pure (y_assign rfl) rfl ?_; refine w_pure (y_assign rfl) rfl ?_; refine w_nil ?_; refine x_next ?_; refine c_seq ?_; refine c_region ?_; refine w_pure (y_move rfl) rfl ?_; refine w_pure (y_assign rfl) rfl ?_; refine w_nil ?_; refine x_next ?_; refine c_seq ?_; refine c_seq ?_; refine c_region ?_; refine w_pure (y_move rfl) rfl ?_; refine w_pure (y_sne rfl rfl) rfl ?_; refine w_pure (y_move rfl) rfl ?_; (refine w_part_dec rfl rfl (fun hc11 => ?_) (fun hc11 => ?_) <;> try (first | exact absurd rfl hc11 | contradiction | exact Bool.noConfusion (show false = true from hc11.symm.trans (by assumption)) | exact Bool.noConfusion (show true = false from hc11.symm.trans (by assumption)) | (exfalso; omega) | (exfalso; simp only [*, Bool.not_true, Bool.not_false, reduceCtorEq] at hc11; done))); refine w_yes rfl rfl ?_; refine w_pure (y_move rfl) rfl ?_; refine w_yes rfl rfl ?_; refine w_pure (y_at_str rfl rfl) rfl ?_; refine w_yes rfl rfl ?_; refine w_pure (y_eq rfl rfl) rfl ?_; refine w_pure (y_pick_t rfl rfl) rfl ?_; refine w_nil ?_; refine x_next ?_; (refine c_dec rfl (fun hc14 => ?_) (fun hc14 => ?_) <;> try (first | exact absurd rfl hc14 | contradiction | exact Bool.noConfusion (show false = true from hc14.symm.trans (by assumption)) | exact Bool.noConfusion (show true = false from hc14.symm.trans (by assumption)) | (exfalso; omega) | (exfalso; simp only [*, Bool.not_true, Bool.not_false, reduceCtorEq] at hc14; done))); refine c_skip ?_; refine x_next ?_; refine c_seq ?_; refine c_seq ?_; refine c_region ?_; refine w_pure (y_move rfl) rfl ?_; refine w_pure (y_slen rfl) rfl ?_; refine w_pure (y_lt rfl rfl) rfl ?_; refine w_pure (y_move rfl) rfl ?_; (refine w_part_dec rfl rfl (fun hc21 => ?_) (fun hc21 => ?_) <;> try (first | exact absurd rfl hc21 | contradiction | exact Bool.noConfusion (show false = true from hc21.symm.trans (by assumption)) | exact Bool.noConfusion (show true = false from hc21.symm.trans (by assumption)) | (exfalso; omega) | (exfalso; simp only [*, Bool.not_true, Bool.not_false, reduceCtorEq] at hc21; done))); refine w_yes rfl rfl ?_; refine w_pure (y_move rfl) rfl ?_; refine w_yes rfl rfl ?_; refine w_pure (y_slen rfl) rfl ?_; refine w_yes rfl rfl ?_; refine w_pure (y_gt rfl rfl) rfl ?_; refine w_pure (y_pick_f rfl rfl) rfl ?_; refine w_nil ?_; refine x_next ?_; (refine c_dec rfl (fun hc24 => ?_) (fun hc24 => ?_) <;> try (first | exact absurd rfl hc24 | contradiction | exact Bool.noConfusion (show false = true from hc24.symm.trans (by assumption)) | exact Bool.noConfusion (show true = false from hc24.symm.trans (by assumption)) | (exfalso; omega) | (exfalso; simp only [*, Bool.not_true, Bool.not_false, reduceCtorEq] at hc24; done))); refine c_seq ?_; refine c_region ?_; refine w_pure (y_assign rfl) rfl ?_; refine w_pure (y_assign rfl) rfl ?_; refine w_nil ?_; refine x_next ?_; refine c_ret ?_; refine x_then_ret ?_; rotate_left; refine c_skip ?_; refine x_next ?_; refine c_seq ?_; refine c_region ?_; refine w_pure (y_assign rfl) rfl ?_; refine w_nil ?_; refine x_next ?_; refine c_seq ?_; refine c_seq ?_; refine c_region ?_; refine w_pure (y_assign rfl) rfl ?_; refine w_nil ?_; refine x_next ?_; refine c_block ?_; rotate_left
  all_goals try (have e := rd_len (s := s) (by rw [hb]; omega); exact x_retv [_, _] rfl ⟨rfl, rfl, trivial⟩ ⟨by rw [e]; rfl, E.go⟩)
  · skip
    refine c_loopC 0 0 (ι := Int × Int) (fun x => [(0, str (s)), (4, str s), (5, .int .i64 x.1), (6, .int .i64 x.2)]) (fun x w' => NumTo s x.2.toNat x.1 ∧ (0 ≤ x.2 ∧ x.2 ≤ s.length)) (fun x => (s.length - x.2).toNat) (0, 0)
      (by repeat (first | exact trivial | refine ⟨rfl, ?_⟩)) ⟨NumTo.zero _, by dsimp only; omega⟩ ?_
    rintro ⟨n, i⟩ wL hxL EL ⟨g1, g2⟩
    dsimp only at *
    have hzL := hxL.size
    have h18 := g1.bd18 (by omega)
    by_cases hlt : i < s.length
    · have hbd := g1.bd (by omega)
      focus have hz_hxL := hxL.size; replace E := E.trans hxL; refine c_seq ?_; refine c_seq ?_; refine c_region ?_; refine w_pure (y_move rfl) rfl ?_; refine w_pure (y_move rfl) rfl ?_; refine w_pure (y_slen rfl) rfl ?_; refine w_pure (y_lt rfl rfl) rfl ?_; refine w_nil ?_; refine x_next ?_; (refine c_dec rfl (fun hc28 => ?_) (fun hc28 => ?_) <;> try (first | exact absurd rfl hc28 | contradiction | exact Bool.noConfusion (show false = true from hc28.symm.trans (by assumption)) | exact Bool.noConfusion (show true = false from hc28.symm.trans (by assumption)) | (exfalso; omega) | (exfalso; simp only [*, Bool.not_true, Bool.not_false, reduceCtorEq] at hc28; done))); refine c_skip ?_; refine x_next ?_; refine c_seq ?_; refine c_block ?_; refine c_seq ?_; refine c_seq ?_; refine c_region ?_; refine w_pure (y_move rfl) rfl ?_; refine w_pure (y_move rfl) rfl ?_; refine w_pure (y_at_str rfl rfl) rfl ?_; refine w_pur rfl rfl rfl (l01DigitR_c _) rfl ?_; refine w_pure (y_not_dec rfl) rfl ?_; refine w_nil ?_; refine x_next ?_; (refine c_dec rfl (fun hc35 => ?_) (fun hc35 => ?_) <;> try (first | exact absurd rfl hc35 | contradiction | exact Bool.noConfusion (show false = true from hc35.symm.trans (by assumption)) | exact Bool.noConfusion (show true = false from hc35.symm.trans (by assumption)) | (exfalso; omega) | (exfalso; simp only [*, Bool.not_true, Bool.not_false, reduceCtorEq] at hc35; done))); refine c_seq ?_; refine c_region ?_; refine w_pure (y_assign rfl) rfl ?_; refine w_pure (y_assign rfl) rfl ?_; refine w_nil ?_; refine x_next ?_; refine c_ret ?_; refine x_then_ret ?_; refine x_block_ret ?_; refine x_then_ret ?_; refine x_then_ret ?_; refine x_block_ret ?_; refine x_then_ret ?_; rotate_left; refine c_skip ?_; refine x_next ?_; refine c_region ?_; refine w_pure (y_move rfl) rfl ?_; refine w_pure (y_mul rfl rfl) rfl ?_; refine w_pure (y_move rfl) rfl ?_; refine w_pure (y_move rfl) rfl ?_; refine w_pure (y_at_str rfl rfl) rfl ?_; refine w_pure (y_sub8 rfl rfl) rfl ?_; refine w_pure (y_conv64 rfl) rfl ?_; refine w_pure (y_add rfl rfl) rfl ?_; refine w_pure (y_assign rfl) rfl ?_; refine w_nil ?_; refine x_block_norm ?_; refine x_next ?_; refine c_region ?_; refine w_pure (y_move rfl) rfl ?_; refine w_pure (y_add rfl rfl) rfl ?_; refine w_pure (y_assign rfl) rfl ?_; refine w_nil ?_; rotate_left
      · have hd : ¬ isDig (s.getD i.toNat 0) := by unfold isDig; omega
        have e := rd_dig (s := s) (c := s.getD i.toNat 0) (by rw [hb]; exact getD_inC (by omega)) hd
        exact x_retv [_, _] rfl ⟨rfl, rfl, trivial⟩ ⟨by rw [e]; rfl, E.go⟩
      · have h2 := g1.step (by omega) (by omega)
        exact x_again (_, i + 1) (by repeat (first | exact trivial | refine ⟨rfl, ?_⟩)) ⟨EL.go, by dsimp only; rw [show (i + 1).toNat = i.toNat + 1 by omega]; exact h2, by dsimp only; omega⟩ (by dsimp only; omega)
    · rw [show i.toNat = s.length by omega] at g1
      have hnu := num_pos h45 g1
      focus have hz_hxL := hxL.size; replace E := E.trans hxL; refine c_seq ?_; refine c_seq ?_; refine c_region ?_; refine w_pure (y_move rfl) rfl ?_; refine w_pure (y_move rfl) rfl ?_; refine w_pure (y_slen rfl) rfl ?_; refine w_pure (y_lt rfl rfl) rfl ?_; refine w_nil ?_; refine x_next ?_; (refine c_dec rfl (fun hc28 => ?_) (fun hc28 => ?_) <;> try (first | exact absurd rfl hc28 | contradiction | exact Bool.noConfusion (show false = true from hc28.symm.trans (by assumption)) | exact Bool.noConfusion (show true = false from hc28.symm.trans (by assumption)) | (exfalso; omega) | (exfalso; simp only [*, Bool.not_true, Bool.not_false, reduceCtorEq] at hc28; done))); refine c_exit ?_; refine x_then_exit ?_; refine x_then_exit ?_; refine x_block_hit ?_; refine x_next ?_; refine c_seq ?_; refine c_seq ?_; refine c_region ?_; refine w_pure (y_move rfl) rfl ?_; refine w_pure (y_slen rfl) rfl ?_; refine w_pure (y_move rfl) rfl ?_; refine w_pure (y_slen rfl) rfl ?_; refine w_pure (y_lt rfl rfl) rfl ?_; refine w_nil ?_; refine x_next ?_; (refine c_dec rfl (fun hc48 => ?_) (fun hc48 => ?_) <;> try (first | exact absurd rfl hc48 | contradiction | exact Bool.noConfusion (show false = true from hc48.symm.trans (by assumption)) | exact Bool.noConfusion (show true = false from hc48.symm.trans (by assumption)) | (exfalso; omega) | (exfalso; simp only [*, Bool.not_true, Bool.not_false, reduceCtorEq] at hc48; done))); refine c_skip ?_; refine x_next ?_; refine c_seq ?_; refine c_seq ?_; refine c_region ?_; refine w_pure (y_move rfl) rfl ?_; refine w_val rfl rfl rfl (l01Dec_c _) rfl (fun w52 hx52 hz52 => ?_); have hz_hx52 := hx52.size; replace EL := EL.trans hx52; replace E := E.trans hx52; refine w_pure (y_move rfl) rfl ?_; refine w_pure (y_sne rfl rfl) rfl ?_; refine w_nil ?_; refine x_next ?_; (refine c_dec rfl (fun hc54 => ?_) (fun hc54 => ?_) <;> try (first | exact absurd rfl hc54 | contradiction | exact Bool.noConfusion (show false = true from hc54.symm.trans (by assumption)) | exact Bool.noConfusion (show true = false from hc54.symm.trans (by assumption)) | (exfalso; omega) | (exfalso; simp only [*, Bool.not_true, Bool.not_false, reduceCtorEq] at hc54; done))); refine c_seq ?_; refine c_region ?_; refine w_pure (y_assign rfl) rfl ?_; refine w_pure (y_assign rfl) rfl ?_; refine w_nil ?_; refine x_next ?_; refine c_ret ?_; refine x_then_ret ?_; rotate_left; refine c_skip ?_; refine x_next ?_; refine c_seq ?_; refine c_region ?_; refine w_pure (y_move rfl) rfl ?_; refine w_pure (y_assign rfl) rfl ?_; refine w_pure (y_assign rfl) rfl ?_; refine w_nil ?_; refine x_next ?_; refine c_ret ?_; rotate_left
      · have e := rd_val (s := s) (by rw [hnu]; assumption)
        exact x_retv [_, _] rfl ⟨rfl, rfl, trivial⟩ ⟨by rw [e]; rfl, E.go⟩
      · have e := rdN_of (s := s) (n := n) (by omega) (by first | assumption | (apply Decidable.not_not.1; assumption))
        exact x_retv [_, _] rfl ⟨rfl, rfl, trivial⟩ ⟨by rw [e]; rfl, E.go⟩
theorem l01Number_c (s : List UInt8) (hs : s.length ≤ 2000000 := by omega) : Val Tryz.prog 60 [str s] w (.tuple #[.int .i64 (rdN s).1, .bool (rdN s).2]) := by
  refine ⟨fun w1 hx1 => ?_⟩
  by_cases h : s.head? = some 45
  · cases s with
    | nil => cases h
    | cons c r =>
      obtain rfl : c = 45 := Option.some.inj h
      exact l01NumberA r (by simp at hs; omega)
  · exact l01NumberB s h hs
end
end Go.Proofs.YtcbpiaehkodliaaGreatDoor
/- RdcD -/
namespace Go.Proofs.YtcbpiaehkodliaaGreatDoor
open Go Go.Gw
set_option linter.unusedVariables false
set_option linter.unusedSimpArgs false
theorem trim_body (s : List UInt8) : Lib.trimPrefix s [45] = bodyU s := by
  cases s with
  | nil => rfl
  | cons c r =>
    by_cases h : c = 45
    · subst h; rw [body_neg]; simp [Lib.trimPrefix, Lib.hasPrefix]
    · rw [body_pos (by simpa using h)]
      have h' : ¬ (45 : UInt8) = c := fun e => h e.symm
      simp [Lib.trimPrefix, Lib.hasPrefix, h']
theorem rd_ne {s : List UInt8} {x : Int} (h : Lib.parseIntB 64 s = .ok x) (hne : Lib.itoa x ≠ s) : rdN s = (0, false) := rdN_no fun m hm e2 => by
  have h1 := parse_itoa hm
  rw [← e2, h] at h1
  injection h1 with h1
  exact hne (by rw [h1]; exact e2.symm)
theorem nb1 {a b : Bool} (h : (!a) = true) : ¬ (a = true ∧ b = true) := by rintro ⟨h1, _⟩; rw [h1] at h; cases h
theorem nb2 {a b : Bool} (h : b = false) : ¬ (a = true ∧ b = true) := by rintro ⟨_, h1⟩; rw [h] at h1; cases h1
theorem nb3 {a : Bool} (h : (!a) = false) : a = true := by cases a <;> first | rfl | cases h
/-- the first words' numbers -/
noncomputable def rdW (ws : List (List UInt8)) : Nat → Option (List (Int × Int))
  | 0 => some []
  | i + 1 => match rdW ws i, wrd (ws.getD i []) with
    | some l, some p => some (l ++ [p])
    | _, _ => none
theorem rdW_step {ws : List (List UInt8)} {i : Nat} {l : List (Int × Int)} {p : Int × Int} (h : rdW ws i = some l) (hp : wrd (ws.getD i []) = some p) : rdW ws (i + 1) = some (l ++ [p]) := by
  rw [rdW, h, hp]
theorem rdW_stop {ws : List (List UInt8)} {i : Nat} (hp : wrd (ws.getD i []) = none) : ∀ j, i < j → rdW ws j = none
  | 0, h => absurd h (by omega)
  | j + 1, h => by
    rcases Nat.lt_or_ge i j with h1 | h1
    · rw [rdW, rdW_stop hp j h1]
    · obtain rfl : i = j := by omega
      rw [rdW, hp]
      cases rdW ws i <;> rfl
theorem rdW_facts {ws : List (List UInt8)} : ∀ (i : Nat) (l : List (Int × Int)), rdW ws i = some l → i ≤ ws.length → l.length = i ∧ (∀ p ∈ l, In64 p.1 ∧ In64 p.2) ∧ l.map word = ws.take i
  | 0, l, h, _ => by
    simp only [rdW, Option.some.injEq] at h
    subst h
    exact ⟨rfl, fun p hp => by simp at hp, by simp⟩
  | i + 1, l, h, hi => by
    rw [rdW] at h
    split at h
    · rename_i l' p h1 h2
      have e := Option.some.inj h
      subst e
      have ih := rdW_facts i l' h1 (by omega)
      have hw := wrd_some h2
      refine ⟨by rw [List.length_append, List.length_singleton, ih.1], fun q hq => ?_, ?_⟩
      · rcases List.mem_append.1 hq with hq | hq
        · exact ih.2.1 q hq
        · rw [List.mem_singleton] at hq
          subst hq
          exact ⟨⟨by omega, by omega⟩, by omega, by omega⟩
      · rw [List.map_append, ih.2.2, List.take_add_one, List.getElem?_eq_getElem (by omega)]
        rw [List.getD_eq_getElem?_getD, List.getElem?_eq_getElem (by omega)] at hw
        show _ ++ [word p] = _ ++ [_]
        rw [show word p = ws[i] from hw.1]
    · cases h
noncomputable def resRd (s : List UInt8) : List (Int × Int) × Bool :=
  if s = [] then ([], true) else match rdW (spl 32 s) (spl 32 s).length with
    | some l => if plnB l = true then (l, true) else ([], false)
    | none => ([], false)
theorem resRd_nil : resRd [] = ([], true) := by rw [resRd, if_pos rfl]
theorem resRd_no1 {s : List UInt8} {i : Nat} (hs : s ≠ []) (hi : i < (spl 32 s).length) (h : wrd ((spl 32 s).getD i []) = none) : resRd s = ([], false) := by
  rw [resRd, if_neg hs, rdW_stop h _ hi]
theorem resRd_no2 {s : List UInt8} {l : List (Int × Int)} (hs : s ≠ []) (h : rdW (spl 32 s) (spl 32 s).length = some l) (hp : plnB l = false) : resRd s = ([], false) := by
  rw [resRd, if_neg hs, h]; simp [hp]
theorem resRd_yes {s : List UInt8} {l : List (Int × Int)} (hs : s ≠ []) (h : rdW (spl 32 s) (spl 32 s).length = some l) (hp : plnB l = true) : resRd s = (l, true) := by
  rw [resRd, if_neg hs, h]; simp [hp]
theorem pln_at {l : List (Int × Int)} (h : plnB l = true) {i : Nat} (hi : i < l.length) : plnAt l i := by
  unfold plnB at h
  exact of_decide_eq_true h i hi
theorem pln_rise {l : List (Int × Int)} (h : plnB l = true) : ∀ i, i < l.length → (i : Int) ≤ (l.getD i (0, 0)).2
  | 0, hi => by have := pln_at h hi; unfold plnAt at this; omega
  | i + 1, hi => by
    have h1 := pln_rise h i (by omega)
    have h2 := (pln_at h hi).2.2 (by omega)
    rw [Nat.add_sub_cancel] at h2
    omega
theorem pln_len {l : List (Int × Int)} (h : plnB l = true) : l.length ≤ 20 := by
  rcases Nat.lt_or_ge 20 l.length with h1 | h1
  · have h2 := pln_rise h 20 h1
    have h3 := pln_at h h1
    unfold plnAt at h3
    omega
  · exact h1
theorem cpText_eq {s : List UInt8} {l : List (Int × Int)} (h : rdW (spl 32 s) (spl 32 s).length = some l) (hp : plnB l = true) : cpText l = s := by
  have hf := rdW_facts _ _ h (Nat.le_refl _)
  rw [cpText, if_pos hp, textTo, List.take_length, hf.2.2, List.take_length]
  exact spl_join 32 s
theorem spl_el : ∀ (s : List UInt8) (c : UInt8), ∀ y ∈ spl c s, y.length ≤ s.length
  | [], c, y, h => by simp [spl] at h; rw [h]; simp
  | x :: r, c, y, h => by
    have ih := spl_el r c
    by_cases e : x = c
    · subst e
      rw [spl_cons_eq] at h
      rcases List.mem_cons.1 h with rfl | h
      · simp
      · have := ih y h; simp; omega
    · rw [spl_cons_ne _ e] at h
      cases hs : spl c r with
      | nil => exact absurd hs (spl_ne c r)
      | cons z zs =>
        rw [hs] at h ih
        rcases List.mem_cons.1 h with rfl | h
        · have := ih z (by simp)
          simp; omega
        · have := ih y (by simp [h]); simp; omega
theorem spl_elD (s : List UInt8) (c : UInt8) (i : Nat) : ((spl c s).getD i []).length ≤ s.length := by
  by_cases hi : i < (spl c s).length
  · rw [List.getD_eq_getElem?_getD, List.getElem?_eq_getElem hi]; exact spl_el s c _ (List.getElem_mem hi)
  · rw [List.getD_eq_getElem?_getD, List.getElem?_eq_none (by omega)]; simp
section
variable {w : World} {lo hi B B' : Nat} {v : Value} {s : List UInt8}
theorem ReadDecimal_c (s : List UInt8) (hT : Tab B w := by assumption) (hE : Ers B' w := by assumption) (hs : s.length ≤ 2000000 := by omega) : Val Tryz.prog 55 [str s] w (.tuple #[.int .i64 (rdN s).1, .bool (rdN s).2]) := by
  refine ⟨fun w1 hx1 => ?_⟩
  replace hT := hT.ext hx1
  replace hE := hE.ext hx1
  have htb := trim_body s
  have E : Since 0 0 w1 w1 := Since.refl 0 0 w1
  refine ret_enter Tryz.func55 rfl Tryz.ntmps55 rfl ?_
  focus have ht_hT := hT.top; have ht_hE := hE.top; refine c_seq ?_; refine c_region ?_; refine w_pure (y_assign rfl) rfl ?_; refine w_pure (y_assign rfl) rfl ?_; refine w_nil ?_; refine x_next ?_; refine c_seq ?_; refine c_region ?_; refine w_pure (y_move rfl) rfl ?_; (refine w_call rfl rfl rfl (ParseInt_c) rfl ?_; rintro _ w8 ⟨x8, ⟨e8, ⟨rfl, ⟨hp1_8, ⟨hp2_8, hx8⟩⟩⟩⟩⟩); have hz_hx8 := hx8.size; replace hT := hT.ext hx8; replace hE := hE.ext hx8; replace E := E.trans hx8; refine w_pure (y_move rfl) rfl ?_; refine w_pure (y_extract rfl rfl) rfl ?_; refine w_pure (y_extract rfl rfl) rfl ?_; refine w_pure (y_assign rfl) rfl ?_; refine w_pure (y_assign rfl) rfl ?_; refine w_nil ?_; refine x_next ?_; refine c_seq ?_; refine c_seq ?_; refine c_region ?_; refine w_pure (y_move rfl) rfl ?_; rotate_left
  rcases hp1_8.go with ⟨rfl, hok⟩ | ⟨tt, pp, rfl, hno⟩
  · focus refine w_pure (y_nen (by kernel_rfl) rfl) rfl ?_; refine w_pure (y_move rfl) rfl ?_; refine w_yes rfl rfl ?_; refine w_pure (y_move rfl) rfl ?_; refine w_yes rfl rfl ?_; refine w_val rfl rfl rfl (iDecimal_c _) rfl (fun w15 hx15 hz15 => ?_); have hz_hx15 := hx15.size; replace hT := hT.ext hx15; replace hE := hE.ext hx15; replace E := E.trans hx15; refine w_yes rfl rfl ?_; refine w_pure (y_move rfl) rfl ?_; refine w_yes rfl rfl ?_; refine w_pure (y_sne rfl rfl) rfl ?_; refine w_pure (y_pick_f rfl rfl) rfl ?_; refine w_pure (y_move rfl) rfl ?_; (refine w_part_dec rfl rfl (fun hc20 => ?_) (fun hc20 => ?_) <;> try (first | exact absurd rfl hc20 | contradiction | exact Bool.noConfusion (show false = true from hc20.symm.trans (by assumption)) | exact Bool.noConfusion (show true = false from hc20.symm.trans (by assumption)) | (exfalso; omega) | (exfalso; simp only [*, Bool.not_true, Bool.not_false, reduceCtorEq] at hc20; done))); refine w_no rfl rfl rfl rfl ?_; refine w_no rfl rfl rfl rfl ?_; refine w_no rfl rfl rfl rfl ?_; refine w_no rfl rfl rfl rfl ?_; refine w_pure (y_pick_t rfl rfl) rfl ?_; refine w_nil ?_; refine x_next ?_; refine c_true rfl ?_; refine c_seq ?_; refine c_region ?_; refine w_pure (y_assign rfl) rfl ?_; refine w_pure (y_assign rfl) rfl ?_; refine w_nil ?_; refine x_next ?_; refine c_ret ?_; refine x_then_ret ?_; rotate_left; refine w_yes rfl rfl ?_; refine w_pure (y_move rfl) rfl ?_; refine w_yes rfl rfl ?_; refine w_pur rfl rfl rfl (TrimPrefix_c _ _) rfl ?_; refine w_yes rfl rfl ?_; refine w_pure (y_slen rfl) rfl ?_; refine w_yes rfl rfl ?_; refine w_pure (y_gt rfl rfl) rfl ?_; refine w_pure (y_pick_f rfl rfl) rfl ?_; refine w_nil ?_; refine x_next ?_; (refine c_dec rfl (fun hc24 => ?_) (fun hc24 => ?_) <;> try (first | exact absurd rfl hc24 | contradiction | exact Bool.noConfusion (show false = true from hc24.symm.trans (by assumption)) | exact Bool.noConfusion (show true = false from hc24.symm.trans (by assumption)) | (exfalso; omega) | (exfalso; simp only [*, Bool.not_true, Bool.not_false, reduceCtorEq] at hc24; done))); refine c_seq ?_; refine c_region ?_; refine w_pure (y_assign rfl) rfl ?_; refine w_pure (y_assign rfl) rfl ?_; refine w_nil ?_; refine x_next ?_; refine c_ret ?_; refine x_then_ret ?_; rotate_left; refine c_skip ?_; refine x_next ?_; refine c_seq ?_; refine c_region ?_; refine w_pure (y_move rfl) rfl ?_; refine w_pure (y_assign rfl) rfl ?_; refine w_pure (y_assign rfl) rfl ?_; refine w_nil ?_; refine x_next ?_; refine c_ret ?_; rotate_left
    · exact x_retv [_, _] rfl ⟨rfl, rfl, trivial⟩ ⟨by rw [rd_ne hok hc20]; rfl, E.go⟩
    · exact x_retv [_, _] rfl ⟨rfl, rfl, trivial⟩ ⟨by rw [rd_len (s := s) (by rw [← htb]; omega)]; rfl, E.go⟩
    · have e := Decidable.not_not.1 hc20
      exact x_retv [_, _] rfl ⟨rfl, rfl, trivial⟩ ⟨by rw [rdN_of (s := s) (n := x8) ((len18 x8).1 (by rw [e, ← htb]; omega)) e]; rfl, E.go⟩
  · focus refine w_pure (y_nei (by kernel_rfl) rfl rfl) rfl ?_; refine w_pure (y_move rfl) rfl ?_; refine w_no rfl rfl rfl rfl ?_; refine w_no rfl rfl rfl rfl ?_; refine w_no rfl rfl rfl rfl ?_; refine w_no rfl rfl rfl rfl ?_; refine w_pure (y_pick_t rfl rfl) rfl ?_; refine w_pure (y_move rfl) rfl ?_; refine w_no rfl rfl rfl rfl ?_; refine w_no rfl rfl rfl rfl ?_; refine w_no rfl rfl rfl rfl ?_; refine w_no rfl rfl rfl rfl ?_; refine w_pure (y_pick_t rfl rfl) rfl ?_; refine w_nil ?_; refine x_next ?_; refine c_true rfl ?_; refine c_seq ?_; refine c_region ?_; refine w_pure (y_assign rfl) rfl ?_; refine w_pure (y_assign rfl) rfl ?_; refine w_nil ?_; refine x_next ?_; refine c_ret ?_; refine x_then_ret ?_; rotate_left
    exact x_retv [_, _] rfl ⟨rfl, rfl, trivial⟩ ⟨by rw [rd_lib fun n _ => hno n]; rfl, E.go⟩
theorem sReadCopies_c (s : List UInt8) (hs : s.length ≤ 1048576 := by omega) : Ret Tryz.prog 21 [str s] w fun u w' => ∃ d, u = .tuple #[d, .bool (resRd s).2] ∧ Own w' 73 w.heap.size d (resRd s).1 ∧ Ext w w' := by
  have hln := spl_len 32 s
  have hct := List.count_le_length (a := (32 : UInt8)) (l := s)
  have E : Since 0 0 w w := Since.refl 0 0 w
  by_cases hs0 : s = []
  · subst hs0
    refine ret_enter Tryz.func21 rfl Tryz.ntmps21 rfl ?_
    focus refine c_seq ?_; refine c_region ?_; refine w_pure (y_assign rfl) rfl ?_; refine w_pure (y_assign rfl) rfl ?_; refine w_nil ?_; refine x_next ?_; refine c_seq ?_; refine c_region ?_; refine w_lit (α := (Int × Int)) rfl rfl rfl rfl rfl rfl rfl rfl (fun v12 w12 ho12 hx12 hl12 hh12 hs12 => ?_); have hl_ho12 := ho12.lt; have hz_hx12 := hx12.size; replace E := E.trans hx12; refine w_pure (y_assign rfl) rfl ?_; refine w_nil ?_; refine x_next ?_; refine c_seq ?_; refine c_seq ?_; refine c_region ?_; refine w_pure (y_move rfl) rfl ?_; refine w_pure (y_seq rfl rfl) rfl ?_; refine w_nil ?_; refine x_next ?_; refine c_true rfl ?_; refine c_seq ?_; refine c_region ?_; refine w_pure (y_move rfl) rfl ?_; refine w_pure (y_assign rfl) rfl ?_; refine w_pure (y_assign rfl) rfl ?_; refine w_nil ?_; refine x_next ?_; refine c_ret ?_; refine x_then_ret ?_; rotate_left
    exact x_retv [_, _] rfl ⟨rfl, rfl, trivial⟩ ⟨v12, by rw [resRd_nil]; rfl, by rw [resRd_nil]; exact Own.base ho12 (by omega), E.go⟩
  refine ret_enter Tryz.func21 rfl Tryz.ntmps21 rfl ?_
  focus refine c_seq ?_; refine c_region ?_; refine w_pure (y_assign rfl) rfl ?_; refine w_pure (y_assign rfl) rfl ?_; refine w_nil ?_; refine x_next ?_; refine c_seq ?_; refine c_region ?_; refine w_lit (α := (Int × Int)) rfl rfl rfl rfl rfl rfl rfl rfl (fun v12 w12 ho12 hx12 hl12 hh12 hs12 => ?_); have hl_ho12 := ho12.lt; have hz_hx12 := hx12.size; replace E := E.trans hx12; refine w_pure (y_assign rfl) rfl ?_; refine w_nil ?_; refine x_next ?_; refine c_seq ?_; refine c_seq ?_; refine c_region ?_; refine w_pure (y_move rfl) rfl ?_; refine w_pure (y_seq rfl rfl) rfl ?_; refine w_nil ?_; refine x_next ?_; (refine c_dec rfl (fun hc14 => ?_) (fun hc14 => ?_) <;> try (first | exact absurd rfl hc14 | contradiction | exact Bool.noConfusion (show false = true from hc14.symm.trans (by assumption)) | exact Bool.noConfusion (show true = false from hc14.symm.trans (by assumption)) | (exfalso; omega) | (exfalso; simp only [*, Bool.not_true, Bool.not_false, reduceCtorEq] at hc14; done))); refine c_skip ?_; refine x_next ?_; refine c_seq ?_; refine c_region ?_; refine w_pure (y_move rfl) rfl ?_; (refine w_call rfl rfl rfl (l01Split32_c _) rfl ?_; rintro v17 w17 ⟨hp1_17, hx17⟩); have hl_hp1_17 := hp1_17.lt; have hz_hx17 := hx17.size; replace ho12 := ho12.ext hx17; replace E := E.trans hx17; refine w_pure (y_assign rfl) rfl ?_; refine w_nil ?_; refine x_next ?_; refine c_seq ?_; refine c_seq ?_; refine c_region ?_; refine w_pure (y_assign rfl) rfl ?_; refine w_nil ?_; refine x_next ?_; refine c_block ?_; rotate_left
  refine c_loopC (bL v12) (bH v12) (ι := Value × List (Int × Int) × Int) (fun x => [(4, x.1), (5, v17), (6, .int .i64 x.2.2)])
    (fun x w' => Own w' 73 w.heap.size x.1 x.2.1 ∧ ((bL x.1 = bL v12 ∧ bH x.1 = bH v12) ∨ w17.heap.size ≤ bL x.1) ∧ rdW (spl 32 s) x.2.2.toNat = some x.2.1 ∧ (0 ≤ x.2.2 ∧ x.2.2 ≤ (spl 32 s).length) ∧ Since 0 0 w w') (fun x => ((spl 32 s).length - x.2.2).toNat) (v12, [], 0)
    (by repeat (first | exact trivial | refine ⟨rfl, ?_⟩)) ⟨Own.base (by assumption) (by omega), .inl ⟨rfl, rfl⟩, rfl, by dsimp only; omega, by assumption⟩ ?_
  clear ho12 E
  rintro ⟨u, l, i⟩ wL hxL EL ⟨g1, g2, g3, g4, E⟩
  dsimp only at *
  have hzL := hxL.size
  have hf := rdW_facts _ _ g3 (by omega)
  have hf1 := hf.1
  have hf2 := hf.2.1
  clear hf
  have e1 : (i + 1).toNat = i.toNat + 1 := by omega
  by_cases hlt : i < (spl 32 s).length
  · have hel := spl_elD s 32 i.toNat
    have hl0 := spl_elD ((spl 32 s).getD i.toNat []) 62 (Int.toNat 0)
    have hl1 := spl_elD ((spl 32 s).getD i.toNat []) 62 (Int.toNat 1)
    by_cases h2 : (spl 62 ((spl 32 s).getD i.toNat [])).length = 2
    · have ew := wrd_two (two_of h2)
      focus have hl_g1 := g1.lt; have hz_hxL := hxL.size; replace hp1_17 := hp1_17.chg hxL (by omega); refine c_seq ?_; refine c_seq ?_; refine c_region ?_; refine w_pure (y_move rfl) rfl ?_; refine w_pure (y_move rfl) rfl ?_; refine w_pure (y_len rfl) rfl ?_; refine w_pure (y_lt rfl rfl) rfl ?_; refine w_nil ?_; refine x_next ?_; (refine c_dec rfl (fun hc21 => ?_) (fun hc21 => ?_) <;> try (first | exact absurd rfl hc21 | contradiction | exact Bool.noConfusion (show false = true from hc21.symm.trans (by assumption)) | exact Bool.noConfusion (show true = false from hc21.symm.trans (by assumption)) | (exfalso; omega) | (exfalso; simp only [*, Bool.not_true, Bool.not_false, reduceCtorEq] at hc21; done))); refine c_skip ?_; refine x_next ?_; refine c_seq ?_; refine c_block ?_; refine c_seq ?_; refine c_region ?_; refine w_pure (y_move rfl) rfl ?_; refine w_pure (y_move rfl) rfl ?_; refine w_pure (y_index rfl rfl) rfl ?_; refine w_pure (y_load_str rfl) rfl ?_; (refine w_call rfl rfl rfl (l01Split62_c _) rfl ?_; rintro v28 w28 ⟨hp1_28, hx28⟩); have hl_hp1_28 := hp1_28.lt; have hz_hx28 := hx28.size; replace EL := EL.next hx28 (by omega); replace g1 := g1.ext hx28; replace E := E.trans hx28; replace hp1_17 := hp1_17.ext hx28; refine w_pure (y_assign rfl) rfl ?_; refine w_nil ?_; refine x_next ?_; refine c_seq ?_; refine c_seq ?_; refine c_region ?_; refine w_pure (y_move rfl) rfl ?_; refine w_pure (y_len rfl) rfl ?_; refine w_pure (y_ne rfl rfl) rfl ?_; refine w_nil ?_; refine x_next ?_; (refine c_dec rfl (fun hc31 => ?_) (fun hc31 => ?_) <;> try (first | exact absurd rfl hc31 | contradiction | exact Bool.noConfusion (show false = true from hc31.symm.trans (by assumption)) | exact Bool.noConfusion (show true = false from hc31.symm.trans (by assumption)) | (exfalso; omega) | (exfalso; simp only [*, Bool.not_true, Bool.not_false, reduceCtorEq] at hc31; done))); refine c_skip ?_; refine x_next ?_; refine c_seq ?_; refine c_region ?_; refine w_pure (y_move rfl) rfl ?_; refine w_pure (y_index rfl rfl) rfl ?_; refine w_pure (y_load_str rfl) rfl ?_; refine w_val rfl rfl rfl (l01Number_c _) rfl (fun w36 hx36 hz36 => ?_); have hz_hx36 := hx36.size; replace hp1_28 := hp1_28.ext hx36; replace EL := EL.next hx36 (by omega); replace g1 := g1.ext hx36; replace E := E.trans hx36; replace hp1_17 := hp1_17.ext hx36; refine w_pure (y_move rfl) rfl ?_; refine w_pure (y_extract rfl rfl) rfl ?_; refine w_pure (y_extract rfl rfl) rfl ?_; refine w_pure (y_assign rfl) rfl ?_; refine w_pure (y_assign rfl) rfl ?_; refine w_nil ?_; refine x_next ?_; refine c_seq ?_; refine c_region ?_; refine w_pure (y_move rfl) rfl ?_; refine w_pure (y_index rfl rfl) rfl ?_; refine w_pure (y_load_str rfl) rfl ?_; refine w_val rfl rfl rfl (l01Number_c _) rfl (fun w43 hx43 hz43 => ?_); have hz_hx43 := hx43.size; replace hp1_28 := hp1_28.ext hx43; replace EL := EL.next hx43 (by omega); replace g1 := g1.ext hx43; replace E := E.trans hx43; replace hp1_17 := hp1_17.ext hx43; refine w_pure (y_move rfl) rfl ?_; refine w_pure (y_extract rfl rfl) rfl ?_; refine w_pure (y_extract rfl rfl) rfl ?_; refine w_pure (y_assign rfl) rfl ?_; refine w_pure (y_assign rfl) rfl ?_; refine w_nil ?_; refine x_next ?_; refine c_seq ?_; refine c_seq ?_; refine c_region ?_; refine w_pure (y_move rfl) rfl ?_; refine w_pure (y_not rfl) rfl ?_; refine w_pure (y_move rfl) rfl ?_; (refine w_part rfl rfl (fun hc49 => ?_) (fun hc49 => ?_) <;> try (first | exact absurd rfl hc49 | contradiction | exact Bool.noConfusion (show false = true from hc49.symm.trans (by assumption)) | exact Bool.noConfusion (show true = false from hc49.symm.trans (by assumption)) | (exfalso; omega) | (exfalso; simp only [*, Bool.not_true, Bool.not_false, reduceCtorEq] at hc49; done))); refine w_no rfl rfl rfl rfl ?_; refine w_no rfl rfl rfl rfl ?_; refine w_pure (y_pick_t rfl rfl) rfl ?_; refine w_nil ?_; refine x_next ?_; refine c_true rfl ?_; refine c_seq ?_; refine c_region ?_; refine w_pure (y_assign rfl) rfl ?_; refine w_pure (y_assign rfl) rfl ?_; refine w_nil ?_; refine x_next ?_; refine c_ret ?_; refine x_then_ret ?_; refine x_block_ret ?_; refine x_then_ret ?_; refine x_then_ret ?_; refine x_block_ret ?_; refine x_then_ret ?_; rotate_left; refine w_yes rfl rfl ?_; refine w_pure (y_move rfl) rfl ?_; refine w_yes rfl rfl ?_; refine w_pure (y_not rfl) rfl ?_; refine w_pure (y_pick_f rfl rfl) rfl ?_; refine w_nil ?_; refine x_next ?_; (refine c_not rfl (fun hc51 => ?_) (fun hc51 => ?_) <;> try (first | exact absurd rfl hc51 | contradiction | exact Bool.noConfusion (show false = true from hc51.symm.trans (by assumption)) | exact Bool.noConfusion (show true = false from hc51.symm.trans (by assumption)) | (exfalso; omega) | (exfalso; simp only [*, Bool.not_true, Bool.not_false, reduceCtorEq] at hc51; done))); refine c_seq ?_; refine c_region ?_; refine w_pure (y_assign rfl) rfl ?_; refine w_pure (y_assign rfl) rfl ?_; refine w_nil ?_; refine x_next ?_; refine c_ret ?_; refine x_then_ret ?_; refine x_block_ret ?_; refine x_then_ret ?_; refine x_then_ret ?_; refine x_block_ret ?_; refine x_then_ret ?_; rotate_left; refine c_skip ?_; refine x_next ?_; refine c_region ?_; refine w_pure (y_move rfl) rfl ?_; refine w_pure (y_move rfl) rfl ?_; refine w_pure (y_move rfl) rfl ?_; refine w_pure (y_build rfl) rfl ?_; refine w_lit (α := (Int × Int)) rfl rfl rfl rfl rfl rfl rfl rfl (fun v56 w56 ho56 hx56 hl56 hh56 hs56 => ?_); have hl_ho56 := ho56.lt; have hz_hx56 := hx56.size; replace hp1_28 := hp1_28.ext hx56; replace EL := EL.next hx56 (by omega); replace g1 := g1.ext hx56; replace E := E.trans hx56; replace hp1_17 := hp1_17.ext hx56; refine w_append rfl rfl (k := fun v57 w57 ho57 hx57 hr57 => ?_); have hl_ho57 := ho57.lt; have hz_hx57 := hx57.size; replace ho56 := ho56.chg hx57 (by omega); replace hp1_28 := hp1_28.chg hx57 (by omega); replace EL := EL.next hx57 (by omega); replace E := E.next hx57 (by omega); replace hp1_17 := hp1_17.chg hx57 (by omega); refine w_pure (y_assign rfl) rfl ?_; refine w_nil ?_; refine x_block_norm ?_; refine x_next ?_; refine c_region ?_; refine w_pure (y_move rfl) rfl ?_; refine w_pure (y_add rfl rfl) rfl ?_; refine w_pure (y_assign rfl) rfl ?_; refine w_nil ?_; rotate_left
      · have ew' := resRd_no1 hs0 (i := i.toNat) (by omega) (ew.trans (if_neg (nb1 hc49)))
        exact x_retv [_, _] rfl ⟨rfl, rfl, trivial⟩ ⟨_, by rw [ew']; rfl, by rw [ew']; exact Own.nil _ _ _, E.go⟩
      · have ew' := resRd_no1 hs0 (i := i.toNat) (by omega) (ew.trans (if_neg (nb2 hc51)))
        exact x_retv [_, _] rfl ⟨rfl, rfl, trivial⟩ ⟨_, by rw [ew']; rfl, by rw [ew']; exact Own.nil _ _ _, E.go⟩
      · have ew' := rdW_step g3 (ew.trans (if_pos ⟨nb3 hc49, hc51⟩))
        exact x_again (v57, _, i + 1) (by repeat (first | exact trivial | refine ⟨rfl, ?_⟩)) ⟨EL.go, by assumption, by dsimp only; omega, by dsimp only; rw [e1]; exact ew', by dsimp only; omega, by assumption⟩ (by dsimp only; omega)
    · have ew' := resRd_no1 hs0 (i := i.toNat) (by omega) (wrd_not h2)
      focus have hl_g1 := g1.lt; have hz_hxL := hxL.size; replace hp1_17 := hp1_17.chg hxL (by omega); refine c_seq ?_; refine c_seq ?_; refine c_region ?_; refine w_pure (y_move rfl) rfl ?_; refine w_pure (y_move rfl) rfl ?_; refine w_pure (y_len rfl) rfl ?_; refine w_pure (y_lt rfl rfl) rfl ?_; refine w_nil ?_; refine x_next ?_; (refine c_dec rfl (fun hc21 => ?_) (fun hc21 => ?_) <;> try (first | exact absurd rfl hc21 | contradiction | exact Bool.noConfusion (show false = true from hc21.symm.trans (by assumption)) | exact Bool.noConfusion (show true = false from hc21.symm.trans (by assumption)) | (exfalso; omega) | (exfalso; simp only [*, Bool.not_true, Bool.not_false, reduceCtorEq] at hc21; done))); refine c_skip ?_; refine x_next ?_; refine c_seq ?_; refine c_block ?_; refine c_seq ?_; refine c_region ?_; refine w_pure (y_move rfl) rfl ?_; refine w_pure (y_move rfl) rfl ?_; refine w_pure (y_index rfl rfl) rfl ?_; refine w_pure (y_load_str rfl) rfl ?_; (refine w_call rfl rfl rfl (l01Split62_c _) rfl ?_; rintro v28 w28 ⟨hp1_28, hx28⟩); have hl_hp1_28 := hp1_28.lt; have hz_hx28 := hx28.size; replace EL := EL.next hx28 (by omega); replace g1 := g1.ext hx28; replace E := E.trans hx28; replace hp1_17 := hp1_17.ext hx28; refine w_pure (y_assign rfl) rfl ?_; refine w_nil ?_; refine x_next ?_; refine c_seq ?_; refine c_seq ?_; refine c_region ?_; refine w_pure (y_move rfl) rfl ?_; refine w_pure (y_len rfl) rfl ?_; refine w_pure (y_ne rfl rfl) rfl ?_; refine w_nil ?_; refine x_next ?_; (refine c_dec rfl (fun hc31 => ?_) (fun hc31 => ?_) <;> try (first | exact absurd rfl hc31 | contradiction | exact Bool.noConfusion (show false = true from hc31.symm.trans (by assumption)) | exact Bool.noConfusion (show true = false from hc31.symm.trans (by assumption)) | (exfalso; omega) | (exfalso; simp only [*, Bool.not_true, Bool.not_false, reduceCtorEq] at hc31; done))); refine c_seq ?_; refine c_region ?_; refine w_pure (y_assign rfl) rfl ?_; refine w_pure (y_assign rfl) rfl ?_; refine w_nil ?_; refine x_next ?_; refine c_ret ?_; refine x_then_ret ?_; refine x_block_ret ?_; refine x_then_ret ?_; refine x_then_ret ?_; refine x_block_ret ?_; refine x_then_ret ?_; rotate_left
      all_goals exact x_retv [_, _] rfl ⟨rfl, rfl, trivial⟩ ⟨_, by rw [ew']; rfl, by rw [ew']; exact Own.nil _ _ _, E.go⟩
  · rw [show i.toNat = (spl 32 s).length by omega] at g3
    focus have hl_g1 := g1.lt; have hz_hxL := hxL.size; replace hp1_17 := hp1_17.chg hxL (by omega); refine c_seq ?_; refine c_seq ?_; refine c_region ?_; refine w_pure (y_move rfl) rfl ?_; refine w_pure (y_move rfl) rfl ?_; refine w_pure (y_len rfl) rfl ?_; refine w_pure (y_lt rfl rfl) rfl ?_; refine w_nil ?_; refine x_next ?_; (refine c_dec rfl (fun hc21 => ?_) (fun hc21 => ?_) <;> try (first | exact absurd rfl hc21 | contradiction | exact Bool.noConfusion (show false = true from hc21.symm.trans (by assumption)) | exact Bool.noConfusion (show true = false from hc21.symm.trans (by assumption)) | (exfalso; omega) | (exfalso; simp only [*, Bool.not_true, Bool.not_false, reduceCtorEq] at hc21; done))); refine c_exit ?_; refine x_then_exit ?_; refine x_then_exit ?_; refine x_block_hit ?_; refine x_next ?_; refine c_seq ?_; refine c_seq ?_; refine c_region ?_; refine w_pure (y_move rfl) rfl ?_; refine w_val rfl rfl rfl (l10PlainT_c) rfl (fun w59 hx59 hz59 => ?_); have hz_hx59 := hx59.size; replace EL := EL.next hx59 (by omega); replace g1 := g1.ext hx59; replace E := E.trans hx59; replace hp1_17 := hp1_17.ext hx59; refine w_pure (y_not rfl) rfl ?_; refine w_nil ?_; refine x_next ?_; (refine c_not rfl (fun hc60 => ?_) (fun hc60 => ?_) <;> try (first | exact absurd rfl hc60 | contradiction | exact Bool.noConfusion (show false = true from hc60.symm.trans (by assumption)) | exact Bool.noConfusion (show true = false from hc60.symm.trans (by assumption)) | (exfalso; omega) | (exfalso; simp only [*, Bool.not_true, Bool.not_false, reduceCtorEq] at hc60; done))); refine c_seq ?_; refine c_region ?_; refine w_pure (y_assign rfl) rfl ?_; refine w_pure (y_assign rfl) rfl ?_; refine w_nil ?_; refine x_next ?_; refine c_ret ?_; refine x_then_ret ?_; rotate_left; refine c_skip ?_; refine x_next ?_; refine c_seq ?_; refine c_region ?_; refine w_pure (y_move rfl) rfl ?_; refine w_pure (y_assign rfl) rfl ?_; refine w_pure (y_assign rfl) rfl ?_; refine w_nil ?_; refine x_next ?_; refine c_ret ?_; rotate_left
    · have ew' := resRd_no2 hs0 g3 hc60
      exact x_retv [_, _] rfl ⟨rfl, rfl, trivial⟩ ⟨_, by rw [ew']; rfl, by rw [ew']; exact Own.nil _ _ _, E.go⟩
    · have ew' := resRd_yes hs0 g3 hc60
      exact x_retv [_, _] rfl ⟨rfl, rfl, trivial⟩ ⟨u, by rw [ew']; rfl, by rw [ew']; exact g1, E.go⟩
theorem iReadCopies_c (s : List UInt8) (hT : Tab B w := by assumption) (hE : Ers B' w := by assumption) (hs : s.length ≤ 1048576 := by omega) : Ret Tryz.prog 19 [str s] w fun u w' => ∃ d, u = .tuple #[d, .bool (resRd s).2] ∧ Own w' 73 w.heap.size d (resRd s).1 ∧ Ext w w' := by
  have hln := spl_len 32 s
  have hct := List.count_le_length (a := (32 : UInt8)) (l := s)
  have E : Since 0 0 w w := Since.refl 0 0 w
  by_cases hs0 : s = []
  · subst hs0
    refine ret_enter Tryz.func19 rfl Tryz.ntmps19 rfl ?_
    focus have ht_hT := hT.top; have ht_hE := hE.top; refine c_seq ?_; refine c_region ?_; refine w_pure (y_assign rfl) rfl ?_; refine w_pure (y_assign rfl) rfl ?_; refine w_nil ?_; refine x_next ?_; refine c_seq ?_; refine c_region ?_; refine w_lit (α := (Int × Int)) rfl rfl rfl rfl rfl rfl rfl rfl (fun v14 w14 ho14 hx14 hl14 hh14 hs14 => ?_); have hl_ho14 := ho14.lt; have hz_hx14 := hx14.size; replace hT := hT.ext hx14; replace hE := hE.ext hx14; replace E := E.trans hx14; refine w_pure (y_assign rfl) rfl ?_; refine w_nil ?_; refine x_next ?_; refine c_seq ?_; refine c_seq ?_; refine c_region ?_; refine w_pure (y_move rfl) rfl ?_; refine w_pure (y_seq rfl rfl) rfl ?_; refine w_nil ?_; refine x_next ?_; refine c_true rfl ?_; refine c_seq ?_; refine c_region ?_; refine w_pure (y_move rfl) rfl ?_; refine w_pure (y_assign rfl) rfl ?_; refine w_pure (y_assign rfl) rfl ?_; refine w_nil ?_; refine x_next ?_; refine c_ret ?_; refine x_then_ret ?_; rotate_left
    exact x_retv [_, _] rfl ⟨rfl, rfl, trivial⟩ ⟨v14, by rw [resRd_nil]; rfl, by rw [resRd_nil]; exact Own.base ho14 (by omega), E.go⟩
  refine ret_enter Tryz.func19 rfl Tryz.ntmps19 rfl ?_
  focus have ht_hT := hT.top; have ht_hE := hE.top; refine c_seq ?_; refine c_region ?_; refine w_pure (y_assign rfl) rfl ?_; refine w_pure (y_assign rfl) rfl ?_; refine w_nil ?_; refine x_next ?_; refine c_seq ?_; refine c_region ?_; refine w_lit (α := (Int × Int)) rfl rfl rfl rfl rfl rfl rfl rfl (fun v14 w14 ho14 hx14 hl14 hh14 hs14 => ?_); have hl_ho14 := ho14.lt; have hz_hx14 := hx14.size; replace hT := hT.ext hx14; replace hE := hE.ext hx14; replace E := E.trans hx14; refine w_pure (y_assign rfl) rfl ?_; refine w_nil ?_; refine x_next ?_; refine c_seq ?_; refine c_seq ?_; refine c_region ?_; refine w_pure (y_move rfl) rfl ?_; refine w_pure (y_seq rfl rfl) rfl ?_; refine w_nil ?_; refine x_next ?_; (refine c_dec rfl (fun hc16 => ?_) (fun hc16 => ?_) <;> try (first | exact absurd rfl hc16 | contradiction | exact Bool.noConfusion (show false = true from hc16.symm.trans (by assumption)) | exact Bool.noConfusion (show true = false from hc16.symm.trans (by assumption)) | (exfalso; omega) | (exfalso; simp only [*, Bool.not_true, Bool.not_false, reduceCtorEq] at hc16; done))); refine c_skip ?_; refine x_next ?_; refine c_seq ?_; refine c_seq ?_; refine c_region ?_; refine w_pure (y_move rfl) rfl ?_; (refine w_call rfl rfl rfl (Split_c _) rfl ?_; rintro v19 w19 ⟨l19, ⟨h19, ⟨hp1_19, ⟨hp2_19, hx19⟩⟩⟩⟩); have hz_hx19 := hx19.size; replace ho14 := ho14.ext hx19; replace hT := hT.ext hx19; replace hE := hE.ext hx19; replace E := E.trans hx19; refine w_pure (y_len rfl) rfl ?_; refine w_pure (y_move rfl) rfl ?_; refine w_nil ?_; refine x_next ?_; refine c_block ?_; rotate_left
  refine c_loopC (bL v14) (bH v14) (ι := Value × List (Int × Int) × Int) (fun x => [(0, str s), (4, x.1), (19, v19), (20, .int .i64 (spl 32 s).length), (21, .int .i64 x.2.2)])
    (fun x w' => Own w' 73 w.heap.size x.1 x.2.1 ∧ ((bL x.1 = bL v14 ∧ bH x.1 = bH v14) ∨ w19.heap.size ≤ bL x.1) ∧ rdW (spl 32 s) x.2.2.toNat = some x.2.1 ∧ (0 ≤ x.2.2 ∧ x.2.2 ≤ (spl 32 s).length) ∧ Since 0 0 w w') (fun x => ((spl 32 s).length - x.2.2).toNat) (v14, [], 0)
    (by repeat (first | exact trivial | refine ⟨rfl, ?_⟩)) ⟨Own.base (by assumption) (by omega), .inl ⟨rfl, rfl⟩, rfl, by dsimp only; omega, by assumption⟩ ?_
  clear ho14 E
  rintro ⟨u, l, i⟩ wL hxL EL ⟨g1, g2, g3, g4, E⟩
  dsimp only at *
  have hzL := hxL.size
  have hf := rdW_facts _ _ g3 (by omega)
  have hf1 := hf.1
  have hf2 := hf.2.1
  clear hf
  have e1 : (i + 1).toNat = i.toNat + 1 := by omega
  by_cases hlt : i < (spl 32 s).length
  · have hel := spl_elD s 32 i.toNat
    have hcl := cut_len ((spl 32 s).getD i.toNat []) 62
    have ew := wrd_cutAB ((spl 32 s).getD i.toNat [])
    focus have ht_hp1_19 := hp1_19.top; have hl_g1 := g1.lt; have hz_hxL := hxL.size; replace hp1_19 := hp1_19.chg hxL (by omega); replace hT := hT.chg hxL (by omega); replace hE := hE.chg hxL (by omega); refine c_seq ?_; refine c_region ?_; refine w_pure (y_lt rfl rfl) rfl ?_; refine w_nil ?_; refine x_next ?_; refine c_seq ?_; (refine c_dec rfl (fun hc22 => ?_) (fun hc22 => ?_) <;> try (first | exact absurd rfl hc22 | contradiction | exact Bool.noConfusion (show false = true from hc22.symm.trans (by assumption)) | exact Bool.noConfusion (show true = false from hc22.symm.trans (by assumption)) | (exfalso; omega) | (exfalso; simp only [*, Bool.not_true, Bool.not_false, reduceCtorEq] at hc22; done))); refine c_skip ?_; refine x_next ?_; refine c_seq ?_; refine c_block ?_; refine c_seq ?_; refine c_region ?_; refine w_pure (y_index rfl rfl) rfl ?_; refine w_pure (y_load_str rfl) rfl ?_; refine w_pure (y_assign rfl) rfl ?_; refine w_nil ?_; refine x_next ?_; refine c_seq ?_; refine c_region ?_; refine w_pure (y_move rfl) rfl ?_; refine w_val rfl rfl rfl (Cut_c _) rfl (fun w27 hx27 hz27 => ?_); have hz_hx27 := hx27.size; replace EL := EL.next hx27 (by omega); replace g1 := g1.ext hx27; replace E := E.trans hx27; replace hp1_19 := hp1_19.ext hx27; replace hT := hT.ext hx27; replace hE := hE.ext hx27; refine w_pure (y_move rfl) rfl ?_; refine w_pure (y_extract rfl rfl) rfl ?_; refine w_pure (y_extract rfl rfl) rfl ?_; refine w_pure (y_extract rfl rfl) rfl ?_; refine w_pure (y_assign rfl) rfl ?_; refine w_pure (y_assign rfl) rfl ?_; refine w_pure (y_assign rfl) rfl ?_; refine w_nil ?_; refine x_next ?_; refine c_seq ?_; refine c_region ?_; refine w_pure (y_move rfl) rfl ?_; refine w_val rfl rfl rfl (ReadDecimal_c _) rfl (fun w33 hx33 hz33 => ?_); have hz_hx33 := hx33.size; replace EL := EL.next hx33 (by omega); replace g1 := g1.ext hx33; replace E := E.trans hx33; replace hp1_19 := hp1_19.ext hx33; replace hT := hT.ext hx33; replace hE := hE.ext hx33; refine w_pure (y_move rfl) rfl ?_; refine w_pure (y_extract rfl rfl) rfl ?_; refine w_pure (y_extract rfl rfl) rfl ?_; refine w_pure (y_assign rfl) rfl ?_; refine w_pure (y_assign rfl) rfl ?_; refine w_nil ?_; refine x_next ?_; refine c_seq ?_; refine c_region ?_; refine w_pure (y_move rfl) rfl ?_; refine w_val rfl rfl rfl (ReadDecimal_c _) rfl (fun w38 hx38 hz38 => ?_); have hz_hx38 := hx38.size; replace EL := EL.next hx38 (by omega); replace g1 := g1.ext hx38; replace E := E.trans hx38; replace hp1_19 := hp1_19.ext hx38; replace hT := hT.ext hx38; replace hE := hE.ext hx38; refine w_pure (y_move rfl) rfl ?_; refine w_pure (y_extract rfl rfl) rfl ?_; refine w_pure (y_extract rfl rfl) rfl ?_; refine w_pure (y_assign rfl) rfl ?_; refine w_pure (y_assign rfl) rfl ?_; refine w_nil ?_; refine x_next ?_; refine c_seq ?_; refine c_seq ?_; refine c_region ?_; refine w_pure (y_move rfl) rfl ?_; refine w_pure (y_not rfl) rfl ?_; refine w_pure (y_move rfl) rfl ?_; (refine w_part rfl rfl (fun hc44 => ?_) (fun hc44 => ?_) <;> try (first | exact absurd rfl hc44 | contradiction | exact Bool.noConfusion (show false = true from hc44.symm.trans (by assumption)) | exact Bool.noConfusion (show true = false from hc44.symm.trans (by assumption)) | (exfalso; omega) | (exfalso; simp only [*, Bool.not_true, Bool.not_false, reduceCtorEq] at hc44; done))); refine w_no rfl rfl rfl rfl ?_; refine w_no rfl rfl rfl rfl ?_; refine w_pure (y_pick_t rfl rfl) rfl ?_; refine w_nil ?_; refine x_next ?_; refine c_true rfl ?_; refine c_seq ?_; refine c_region ?_; refine w_pure (y_assign rfl) rfl ?_; refine w_pure (y_assign rfl) rfl ?_; refine w_nil ?_; refine x_next ?_; refine c_ret ?_; refine x_then_ret ?_; refine x_block_ret ?_; refine x_then_ret ?_; refine x_then_ret ?_; refine x_block_ret ?_; refine x_then_ret ?_; rotate_left; refine w_yes rfl rfl ?_; refine w_pure (y_move rfl) rfl ?_; refine w_yes rfl rfl ?_; refine w_pure (y_not rfl) rfl ?_; refine w_pure (y_pick_f rfl rfl) rfl ?_; refine w_nil ?_; refine x_next ?_; (refine c_not rfl (fun hc46 => ?_) (fun hc46 => ?_) <;> try (first | exact absurd rfl hc46 | contradiction | exact Bool.noConfusion (show false = true from hc46.symm.trans (by assumption)) | exact Bool.noConfusion (show true = false from hc46.symm.trans (by assumption)) | (exfalso; omega) | (exfalso; simp only [*, Bool.not_true, Bool.not_false, reduceCtorEq] at hc46; done))); refine c_seq ?_; refine c_region ?_; refine w_pure (y_assign rfl) rfl ?_; refine w_pure (y_assign rfl) rfl ?_; refine w_nil ?_; refine x_next ?_; refine c_ret ?_; refine x_then_ret ?_; refine x_block_ret ?_; refine x_then_ret ?_; refine x_then_ret ?_; refine x_block_ret ?_; refine x_then_ret ?_; rotate_left; refine c_skip ?_; refine x_next ?_; refine c_region ?_; refine w_pure (y_move rfl) rfl ?_; refine w_pure (y_move rfl) rfl ?_; refine w_pure (y_move rfl) rfl ?_; refine w_pure (y_build rfl) rfl ?_; refine w_lit (α := (Int × Int)) rfl rfl rfl rfl rfl rfl rfl rfl (fun v51 w51 ho51 hx51 hl51 hh51 hs51 => ?_); have hl_ho51 := ho51.lt; have hz_hx51 := hx51.size; replace EL := EL.next hx51 (by omega); replace g1 := g1.ext hx51; replace E := E.trans hx51; replace hp1_19 := hp1_19.ext hx51; replace hT := hT.ext hx51; replace hE := hE.ext hx51; refine w_append rfl rfl (k := fun v52 w52 ho52 hx52 hr52 => ?_); have hl_ho52 := ho52.lt; have hz_hx52 := hx52.size; replace ho51 := ho51.chg hx52 (by omega); replace EL := EL.next hx52 (by omega); replace E := E.next hx52 (by omega); replace hp1_19 := hp1_19.chg hx52 (by omega); replace hT := hT.chg hx52 (by omega); replace hE := hE.chg hx52 (by omega); refine w_pure (y_assign rfl) rfl ?_; refine w_nil ?_; refine x_block_norm ?_; refine x_next ?_; refine c_region ?_; refine w_pure (y_add rfl rfl) rfl ?_; refine w_pure (y_move rfl) rfl ?_; refine w_nil ?_; rotate_left
    · have ew' := resRd_no1 hs0 (i := i.toNat) (by omega) (ew.trans (if_neg (nb1 hc44)))
      exact x_retv [_, _] rfl ⟨rfl, rfl, trivial⟩ ⟨_, by rw [ew']; rfl, by rw [ew']; exact Own.nil _ _ _, E.go⟩
    · have ew' := resRd_no1 hs0 (i := i.toNat) (by omega) (ew.trans (if_neg (nb2 hc46)))
      exact x_retv [_, _] rfl ⟨rfl, rfl, trivial⟩ ⟨_, by rw [ew']; rfl, by rw [ew']; exact Own.nil _ _ _, E.go⟩
    · have ew' := rdW_step g3 (ew.trans (if_pos ⟨nb3 hc44, hc46⟩))
      exact x_again (v52, _, i + 1) (by repeat (first | exact trivial | refine ⟨rfl, ?_⟩)) ⟨EL.go, by assumption, by dsimp only; omega, by dsimp only; rw [e1]; exact ew', by dsimp only; omega, by assumption⟩ (by dsimp only; omega)
  · rw [show i.toNat = (spl 32 s).length by omega] at g3
    by_cases hp : plnB l = true
    · have hpl := pln_len hp
      have hct2 := cpText_eq g3 hp
      have ew' := resRd_yes hs0 g3 hp
      focus have ht_hp1_19 := hp1_19.top; have hl_g1 := g1.lt; have hz_hxL := hxL.size; replace hp1_19 := hp1_19.chg hxL (by omega); replace hT := hT.chg hxL (by omega); replace hE := hE.chg hxL (by omega); refine c_seq ?_; refine c_region ?_; refine w_pure (y_lt rfl rfl) rfl ?_; refine w_nil ?_; refine x_next ?_; refine c_seq ?_; (refine c_dec rfl (fun hc22 => ?_) (fun hc22 => ?_) <;> try (first | exact absurd rfl hc22 | contradiction | exact Bool.noConfusion (show false = true from hc22.symm.trans (by assumption)) | exact Bool.noConfusion (show true = false from hc22.symm.trans (by assumption)) | (exfalso; omega) | (exfalso; simp only [*, Bool.not_true, Bool.not_false, reduceCtorEq] at hc22; done))); refine c_exit ?_; refine x_then_exit ?_; refine x_then_exit ?_; refine x_block_hit ?_; refine x_next ?_; refine c_seq ?_; refine c_seq ?_; refine c_region ?_; refine w_pure (y_move rfl) rfl ?_; refine w_val rfl rfl rfl (isPlainT_c) rfl (fun w55 hx55 hz55 => ?_); have hz_hx55 := hx55.size; replace EL := EL.next hx55 (by omega); replace g1 := g1.ext hx55; replace E := E.trans hx55; replace hp1_19 := hp1_19.ext hx55; replace hT := hT.ext hx55; replace hE := hE.ext hx55; refine w_pure (y_not rfl) rfl ?_; refine w_pure (y_move rfl) rfl ?_; (refine w_part rfl rfl (fun hc58 => ?_) (fun hc58 => ?_) <;> try (first | exact absurd rfl hc58 | contradiction | exact Bool.noConfusion (show false = true from hc58.symm.trans (by assumption)) | exact Bool.noConfusion (show true = false from hc58.symm.trans (by assumption)) | (exfalso; omega) | (exfalso; simp only [*, Bool.not_true, Bool.not_false, reduceCtorEq] at hc58; done))); refine w_yes rfl rfl ?_; refine w_pure (y_move rfl) rfl ?_; refine w_yes rfl rfl ?_; refine w_val rfl rfl rfl (iCopiesText_c) rfl (fun w59 hx59 hz59 => ?_); have hz_hx59 := hx59.size; replace EL := EL.next hx59 (by omega); replace g1 := g1.ext hx59; replace E := E.trans hx59; replace hp1_19 := hp1_19.ext hx59; replace hT := hT.ext hx59; replace hE := hE.ext hx59; refine w_yes rfl rfl ?_; refine w_pure (y_move rfl) rfl ?_; refine w_yes rfl rfl ?_; refine w_pure (y_sne rfl rfl) rfl ?_; refine w_pure (y_pick_f rfl rfl) rfl ?_; refine w_nil ?_; refine x_next ?_; (refine c_dec rfl (fun hc62 => ?_) (fun hc62 => ?_) <;> try (first | exact absurd rfl hc62 | contradiction | exact Bool.noConfusion (show false = true from hc62.symm.trans (by assumption)) | exact Bool.noConfusion (show true = false from hc62.symm.trans (by assumption)) | (exfalso; omega) | (exfalso; simp only [*, Bool.not_true, Bool.not_false, reduceCtorEq] at hc62; done))); refine c_skip ?_; refine x_next ?_; refine c_seq ?_; refine c_region ?_; refine w_pure (y_move rfl) rfl ?_; refine w_pure (y_assign rfl) rfl ?_; refine w_pure (y_assign rfl) rfl ?_; refine w_nil ?_; refine x_next ?_; refine c_ret ?_; rotate_left
      all_goals first
        | exact x_retv [_, _] rfl ⟨rfl, rfl, trivial⟩ ⟨u, by rw [ew']; rfl, by rw [ew']; exact g1, E.go⟩
        | (exfalso; simp_all; done)
    · have hp2 : plnB l = false := by simpa using hp
      have ew' := resRd_no2 hs0 g3 hp2
      focus have ht_hp1_19 := hp1_19.top; have hl_g1 := g1.lt; have hz_hxL := hxL.size; replace hp1_19 := hp1_19.chg hxL (by omega); replace hT := hT.chg hxL (by omega); replace hE := hE.chg hxL (by omega); refine c_seq ?_; refine c_region ?_; refine w_pure (y_lt rfl rfl) rfl ?_; refine w_nil ?_; refine x_next ?_; refine c_seq ?_; (refine c_dec rfl (fun hc22 => ?_) (fun hc22 => ?_) <;> try (first | exact absurd rfl hc22 | contradiction | exact Bool.noConfusion (show false = true from hc22.symm.trans (by assumption)) | exact Bool.noConfusion (show true = false from hc22.symm.trans (by assumption)) | (exfalso; omega) | (exfalso; simp only [*, Bool.not_true, Bool.not_false, reduceCtorEq] at hc22; done))); refine c_exit ?_; refine x_then_exit ?_; refine x_then_exit ?_; refine x_block_hit ?_; refine x_next ?_; refine c_seq ?_; refine c_seq ?_; refine c_region ?_; refine w_pure (y_move rfl) rfl ?_; refine w_val rfl rfl rfl (isPlainT_c) rfl (fun w55 hx55 hz55 => ?_); have hz_hx55 := hx55.size; replace EL := EL.next hx55 (by omega); replace g1 := g1.ext hx55; replace E := E.trans hx55; replace hp1_19 := hp1_19.ext hx55; replace hT := hT.ext hx55; replace hE := hE.ext hx55; refine w_pure (y_not rfl) rfl ?_; refine w_pure (y_move rfl) rfl ?_; (refine w_part rfl rfl (fun hc58 => ?_) (fun hc58 => ?_) <;> try (first | exact absurd rfl hc58 | contradiction | exact Bool.noConfusion (show false = true from hc58.symm.trans (by assumption)) | exact Bool.noConfusion (show true = false from hc58.symm.trans (by assumption)) | (exfalso; omega) | (exfalso; simp only [*, Bool.not_true, Bool.not_false, reduceCtorEq] at hc58; done))); refine w_no rfl rfl rfl rfl ?_; refine w_no rfl rfl rfl rfl ?_; refine w_no rfl rfl rfl rfl ?_; refine w_no rfl rfl rfl rfl ?_; refine w_pure (y_pick_t rfl rfl) rfl ?_; refine w_nil ?_; refine x_next ?_; refine c_true rfl ?_; refine c_seq ?_; refine c_region ?_; refine w_pure (y_assign rfl) rfl ?_; refine w_pure (y_assign rfl) rfl ?_; refine w_nil ?_; refine x_next ?_; refine c_ret ?_; refine x_then_ret ?_; rotate_left
      all_goals first
        | exact x_retv [_, _] rfl ⟨rfl, rfl, trivial⟩ ⟨_, by rw [ew']; rfl, by rw [ew']; exact Own.nil _ _ _, E.go⟩
        | (exfalso; simp_all; done)
end
end Go.Proofs.YtcbpiaehkodliaaGreatDoor
/- RprQ -/
namespace Go.Proofs.YtcbpiaehkodliaaGreatDoor
open Go Go.Gw
set_option linter.unusedVariables false
set_option linter.unusedSimpArgs false
theorem spl_tail (c : UInt8) : ∀ (ys : List (List UInt8)) (y : List UInt8), c ∉ y → (∀ z ∈ ys, c ∉ z) → spl c (y ++ Lib.joinTail [c] ys) = y :: ys
  | [], y, h, _ => by
    rw [show Lib.joinTail [c] [] = [] by simp [Lib.joinTail], List.append_nil]; exact spl_miss h
  | z :: zs, y, h, hz => by
    have ih := spl_tail c zs z (hz z (by simp)) (fun x hx => hz x (by simp [hx]))
    rw [show Lib.joinTail [c] (z :: zs) = c :: (z ++ Lib.joinTail [c] zs) by simp [Lib.joinTail], spl_hit _ h, ih]
theorem spl_back {c : UInt8} {ws : List (List UInt8)} (h0 : ws ≠ []) (h : ∀ z ∈ ws, c ∉ z) : spl c (Lib.join ws [c]) = ws := by
  cases ws with
  | nil => exact absurd rfl h0
  | cons y ys => rw [Lib.join_cons]; exact spl_tail c ys y (h y (by simp)) (fun z hz => h z (by simp [hz]))
theorem itoa_not {n : Int} {c : UInt8} (h : 0 ≤ n) (hc : ¬ isDig c) : c ∉ Lib.itoa n := fun hm => by
  rw [Lib.itoa, if_neg (by omega)] at hm
  exact hc ((dec_all _).1 c hm)
theorem word_not {p : Int × Int} (h1 : 0 ≤ p.1) (h2 : 0 ≤ p.2) : (32 : UInt8) ∉ word p := fun hm => by
  rw [word, List.mem_append, List.mem_append, List.mem_singleton] at hm
  rcases hm with (hm | hm) | hm
  · exact itoa_not h1 (by decide) hm
  · revert hm; decide
  · exact itoa_not h2 (by decide) hm
theorem wrd_word {p : Int × Int} (h1 : 0 ≤ p.1 ∧ p.1 ≤ 19) (h2 : 0 ≤ p.2 ∧ p.2 ≤ 19) : wrd (word p) = some p := by
  have e1 := rdN_yes (n := p.1) (by omega)
  have e2 := rdN_yes (n := p.2) (by omega)
  rw [show word p = Lib.itoa p.1 ++ 62 :: Lib.itoa p.2 by simp [word, List.append_assoc], wrd_cut (itoa_not h1.1 (by decide)), e1, e2]
  rfl
theorem pln_mem {t : List (Int × Int)} (h : plnB t = true) : ∀ p ∈ t, (0 ≤ p.1 ∧ p.1 ≤ 19) ∧ (0 ≤ p.2 ∧ p.2 ≤ 19) := fun p hp => by
  obtain ⟨i, hi, rfl⟩ := List.mem_iff_getElem.1 hp
  have := pln_at h hi
  unfold plnAt at this
  rw [List.getD_eq_getElem?_getD, List.getElem?_eq_getElem hi] at this
  exact ⟨this.1, this.2.1⟩
theorem rdW_back {t : List (Int × Int)} (h : plnB t = true) : ∀ i, i ≤ t.length → rdW (t.map word) i = some (t.take i)
  | 0, _ => rfl
  | i + 1, hi => by
    have ih := rdW_back h i (by omega)
    have hm := pln_mem h _ (List.getElem_mem (show i < t.length by omega))
    have e : (t.map word).getD i [] = word t[i] := by
      rw [List.getD_eq_getElem?_getD, List.getElem?_eq_getElem (by rw [List.length_map]; omega)]; simp
    rw [rdW_step ih (p := t[i]) (by rw [e]; exact wrd_word hm.1 hm.2), List.take_add_one, List.getElem?_eq_getElem (by omega)]; rfl
theorem rd_back {t : List (Int × Int)} (h : cpText t ≠ []) : resRd (cpText t) = (t, true) := by
  cases hp : plnB t
  · exact absurd (by rw [cpText, hp]; rfl) h
  have e : cpText t = Lib.join (t.map word) [32] := by rw [cpText, if_pos hp, textTo, List.take_length]
  have h0 : t ≠ [] := fun e0 => h (by rw [e, e0]; exact Lib.join_nil _)
  have es : spl 32 (cpText t) = t.map word := by
    rw [e]
    refine spl_back (by simpa using h0) fun z hz => ?_
    obtain ⟨p, hq, rfl⟩ := List.mem_map.1 hz
    have := pln_mem hp p hq
    exact word_not this.1.1 this.2.1
  refine resRd_yes h ?_ hp
  rw [es, List.length_map, rdW_back hp _ (Nat.le_refl _), List.take_length]
theorem rd_back1 {t : List (Int × Int)} (h : cpText t ≠ []) : (resRd (cpText t)).1 = t := by rw [rd_back h]
theorem rd_back2 {t : List (Int × Int)} (h : cpText t ≠ []) : (resRd (cpText t)).2 = true := by rw [rd_back h]
end Go.Proofs.YtcbpiaehkodliaaGreatDoor
/- SrtA -/
namespace Go.Proofs.YtcbpiaehkodliaaGreatDoor
open Go Go.Gw
open Go.Sort (HoldsK putRowK putRow flatK PermIn SortedIn SWO grow putCells mapBlock onCells)
set_option linter.unusedVariables false
set_option linter.unusedSimpArgs false
/-- a pair whose second number is a column -/
abbrev PC := { p : Int × Int // 0 ≤ p.2 ∧ p.2 ≤ 19 }
instance : Inhabited PC := ⟨⟨(0, 0), by decide⟩⟩
def encC (p : PC) : List Value := [.int .i64 p.1.1, .int .i64 p.1.2]
def cfC (x y : PC) : Int := x.1.2 - y.1.2
theorem ltC (x y : PC) : Go.Proofs.ltOf cfC x y = decide (x.1.2 < y.1.2) := by
  unfold Go.Proofs.ltOf cfC
  congr 1
  exact propext ⟨fun h => by omega, fun h => by omega⟩
theorem swoC : SWO (Go.Proofs.ltOf cfC) where
  irrefl x := by rw [ltC]; simp
  trans x y z h1 h2 := by rw [ltC] at *; simp at *; omega
  ntrans x y z h1 h2 := by rw [ltC] at *; simp at *; omega
theorem take_putC {cur F : Array Value} (hm : F.size ≤ cur.size) : (putCells id 0 F cur).toList.take F.size = F.toList := by
  apply List.ext_getElem?
  intro t
  rw [List.getElem?_take]
  split
  · rename_i ht
    rw [Array.getElem?_toList, Array.getElem?_toList, putCells, Array.getElem?_mapIdx, Array.getElem?_eq_getElem (by omega), Array.getElem?_eq_getElem ht]
    simp [ht]
  · rename_i ht
    rw [Array.getElem?_toList, Array.getElem?_eq_none (by omega)]
theorem flat_list (d : Array PC) : (flatK encC 2 d).toList = (d.toList.map Subtype.val).flatMap Enc.enc := by
  have hl : ((d.toList.map Subtype.val).flatMap Enc.enc).length = (d.toList.map Subtype.val).length * Enc.sz (Int × Int) := flat_len (α := Int × Int) (E := inferInstance) (d.toList.map Subtype.val)
  apply List.ext_getElem?
  intro t
  by_cases ht : t < d.size * 2
  · have h1 := Go.Sort.get_flatK encC 2 d t ht
    have hi : t / 2 < d.size := by omega
    have h2 : (d.toList.map Subtype.val)[t / 2]? = some (d[t / 2]!).1 := by
      rw [List.getElem?_map, Array.getElem?_toList, Array.getElem?_eq_getElem hi, getElem!_pos d (t / 2) hi]; rfl
    have h3 : (Enc.enc (d[t / 2]!).1)[t % 2]? = some ((encC d[t / 2]!)[t % 2]!) := by
      show [Value.int .i64 _, Value.int .i64 _][t % 2]? = some ([Value.int .i64 _, Value.int .i64 _][t % 2]!)
      rcases (show t % 2 = 0 ∨ t % 2 = 1 by omega) with e | e <;> rw [e] <;> rfl
    have h4 := flat_get (α := Int × Int) (d.toList.map Subtype.val) (t / 2) _ (t % 2) _ h2 h3
    rw [show t / 2 * Enc.sz (Int × Int) + t % 2 = t by show t / 2 * 2 + t % 2 = t; omega] at h4
    rw [h4, Array.getElem?_toList, Array.getElem?_eq_getElem (by rw [Go.Sort.size_flatK]; exact ht), ← h1, getElem!_pos _ t (by rw [Go.Sort.size_flatK]; exact ht)]
  · rw [List.getElem?_eq_none (by rw [Array.length_toList, Go.Sort.size_flatK]; omega), List.getElem?_eq_none (by rw [hl, List.length_map, Array.length_toList]; show d.size * 2 ≤ t; omega)]
def toPC (ps : List (Int × Int)) (hq : ∀ p ∈ ps, 0 ≤ p.2 ∧ p.2 ≤ 19) : Array PC := (ps.pmap (fun p h => (⟨p, h⟩ : PC)) hq).toArray
theorem toPC_val (ps : List (Int × Int)) (hq : ∀ p ∈ ps, 0 ≤ p.2 ∧ p.2 ≤ 19) : (toPC ps hq).toList.map Subtype.val = ps := by
  show (ps.pmap _ hq).map _ = ps
  rw [List.map_pmap, List.pmap_eq_map, List.map_id']
theorem toPC_size (ps : List (Int × Int)) (hq : ∀ p ∈ ps, 0 ≤ p.2 ∧ p.2 ≤ 19) : (toPC ps hq).size = ps.length := by simp [toPC]
section
variable {w : World} {lo : Nat} {v : Value} {ps : List (Int × Int)}
theorem cmpC (x y : PC) (W : World) : Calls Tryz.prog 49 #[.agg #[.int .i64 x.1.1, .int .i64 x.1.2], .agg #[.int .i64 y.1.1, .int .i64 y.1.2]] W fun e w' => e = .returned (.int .i64 (cfC x y)) ∧ ∃ q os', w' = grow (W.drewN q) os' := by
  have hx := x.2
  have hy := y.2
  have hw : IntKind.i64.wrap (x.1.2 - y.1.2) = x.1.2 - y.1.2 := by simp [IntKind.wrap, IntKind.bits, IntKind.signed]; omega
  unfold cfC
  go_enter Tryz.func49, Tryz.ntmps49
  go_wp2
  go_ret
  exact ⟨rfl, 0, _, by rw [Go.Sort.alloc_eq_grow, Go.Sort.alloc_eq_grow, Go.Sort.grow_grow]; rfl⟩
theorem SortFunc_c (hq : ∀ p ∈ ps, 0 ≤ p.2 ∧ p.2 ≤ 19) (h : Own w 73 lo v ps) (hl : ps.length ≤ 1048576 := by omega) : Ret Tryz.prog 48 [v, .func (.func 49) #[] #[]] w fun u w' => u = .tuple #[] ∧ ∃ qs : List (Int × Int), qs.Perm ps ∧ (qs.Pairwise fun a b => a.2 ≤ b.2) ∧ Own w' 73 lo v qs ∧ Chg (bL v) (bH v) w w' := by
  rcases h.go with ⟨hlen, ⟨rfl, hn⟩ | ⟨g, cap, cur, rfl, hb, hg, hnc, hcm, hcs, htk⟩⟩
  · obtain rfl := List.eq_nil_of_length_eq_zero hn
    refine ⟨Calls.mono (Tryz.slices_SortFunc_none (α := PC) none 0 _ w) ?_⟩
    rintro e w' ⟨rfl, rfl⟩
    exact ⟨_, rfl, rfl, [], .refl _, .nil, h, Chg.refl _ _ _⟩
  · have hF := (flat_list (toPC ps hq)).trans (show _ = cur.toList.take (ps.length * 2) by rw [toPC_val]; exact htk.symm)
    have hH : HoldsK encC 2 w g 0 (toPC ps hq) := fun t ht => by
      refine ⟨?_, by simp [World.frozen?, hg]⟩
      have h1 := congrArg (fun l : List Value => l[t]?) hF
      have ht2 : t < ps.length * 2 := by rw [Go.Sort.size_flatK, toPC_size] at ht; exact ht
      simp only [List.getElem?_take, if_pos ht2, Array.getElem?_toList] at h1
      rw [Array.getElem?_eq_getElem ht] at h1
      rw [getElem!_pos (flatK encC 2 (toPC ps hq)) t ht]
      simp only [World.cell?, hg, Nat.zero_add, id]
      simpa using h1.symm
    have eg : ∀ args w, (callFunc 49 args).run Tryz.prog w = .ok (.enter 49 args) w := enters_of Tryz.func49 (by kernel_rfl) rfl
    have hs := Tryz.slices_SortFunc 2 Tryz.isAgg73 Tryz.sizeOf73 encC (fun _ => rfl) (fun x v hv => by simp [encC] at hv; rcases hv with rfl | rfl <;> rfl) cfC swoC 49 #[] g 0 cap (toPC ps hq) w eg (fun _ _ _ _ x y => cmpC x y _) hH (Array.getElem?_eq_some_iff.1 hg).1 (by rw [toPC_size]; omega)
    rw [toPC_size] at hs
    refine ⟨Calls.mono hs ?_⟩
    rintro e w' ⟨rfl, d', n, os, hp, hso, rfl⟩
    obtain ⟨hp1, _, hp3⟩ := hp
    have e1 : d'.extract 0 ps.length = d' := by rw [← toPC_size ps hq, ← hp1, Array.extract_size]
    have e2 : (toPC ps hq).extract 0 ps.length = toPC ps hq := by rw [← toPC_size ps hq, Array.extract_size]
    rw [e1, e2] at hp3
    rw [toPC_size] at hp1
    have hql : (d'.toList.map Subtype.val).length = ps.length := by rw [List.length_map, Array.length_toList, hp1]
    have hFs : (flatK encC 2 d').size = ps.length * 2 := by rw [Go.Sort.size_flatK, hp1]
    have hgl := (Array.getElem?_eq_some_iff.1 hg).1
    refine ⟨_, rfl, rfl, d'.toList.map Subtype.val, ?_, ?_, ⟨?_, .inr ⟨g, cap, putCells id 0 (flatK encC 2 d') cur, by rw [hql], hb, ?_, by rw [hql]; exact hnc, hcm, by simp [putCells]; exact hcs, ?_⟩⟩, ⟨rfl, rfl, rfl, ?_, fun k hk ho => ?_⟩⟩
    · have := hp3.map Subtype.val
      rwa [toPC_val] at this
    · rw [List.pairwise_map]
      refine List.pairwise_iff_getElem.2 fun i j hi hj hij => ?_
      have := hso i j (Nat.zero_le _) hij (by rw [Array.length_toList] at hj; omega)
      rw [ltC, decide_eq_false_iff_not] at this
      rw [Array.length_toList] at hi hj
      rw [getElem!_pos d' i hi, getElem!_pos d' j hj] at this
      rw [Array.getElem_toList, Array.getElem_toList]
      omega
    · rw [flat_len]
    · show ((w.heap.modify g (onCells (putCells id 0 (flatK encC 2 d')))) ++ os)[g]? = _
      rw [Array.getElem?_append_left (by simpa using hgl), Array.getElem?_modify, if_pos rfl, hg]; rfl
    · rw [hql, ← flat_list]
      have := take_putC (cur := cur) (F := flatK encC 2 d') (by rw [hFs, hcs]; exact Nat.mul_le_mul_right 2 hnc)
      rw [hFs] at this
      exact this
    · show w.heap.size ≤ ((w.heap.modify g (onCells (putCells id 0 (flatK encC 2 d')))) ++ os).size
      simp
    · show ((w.heap.modify g (onCells (putCells id 0 (flatK encC 2 d')))) ++ os)[k]? = _
      have : ¬ g = k := by simp only [bL, bH, sb] at ho; omega
      rw [Array.getElem?_append_left (by simpa using hk), Array.getElem?_modify, if_neg this]
end
end Go.Proofs.YtcbpiaehkodliaaGreatDoor
/- BckA -/
namespace Go.Proofs.YtcbpiaehkodliaaGreatDoor
open Go Go.Gw
set_option linter.unusedVariables false
set_option linter.unusedSimpArgs false
theorem plain64 {ps : List (Int × Int)} (h : plainB ps = true) (i : Nat) (hi : i < ps.length) : (0 ≤ (ps.getD i (0, 0)).1 ∧ (ps.getD i (0, 0)).1 ≤ 19) ∧ (0 ≤ (ps.getD i (0, 0)).2 ∧ (ps.getD i (0, 0)).2 ≤ 19) := by
  have := plainB_at h i hi
  unfold plainAt at this
  omega
theorem srt_lt {ys : List (Int × Int)} (h : Srt ys) {i j : Nat} (hij : i < j) (hj : j < ys.length) : (ys.getD i (0, 0)).2 < (ys.getD j (0, 0)).2 := by
  have := List.pairwise_iff_getElem.1 h i j (by omega) hj hij
  rw [List.getD_eq_getElem?_getD, List.getD_eq_getElem?_getD, List.getElem?_eq_getElem hj, List.getElem?_eq_getElem (show i < ys.length by omega)]
  exact this
/-- a pair put to its place among sorted ones -/
theorem put_srt {ys : List (Int × Int)} {x : Int × Int} (h : Srt ys) {k : Nat} (hk : k ≤ ys.length) (h1 : ∀ j, k ≤ j → j < ys.length → x.2 < (ys.getD j (0, 0)).2) (h2 : 0 < k → (ys.getD (k - 1) (0, 0)).2 < x.2) : Srt (ys.take k ++ [x] ++ ys.drop k) ∧ (ys.take k ++ [x] ++ ys.drop k).Perm (ys ++ [x]) := by
  have ht : ∀ a ∈ ys.take k, a.2 < x.2 := fun a ha => by
    obtain ⟨i, hi, rfl⟩ := List.mem_iff_getElem.1 ha
    rw [List.length_take] at hi
    have h3 := h2 (by omega)
    have e : (ys.take k)[i] = ys.getD i (0, 0) := by rw [List.getElem_take, List.getD_eq_getElem?_getD, List.getElem?_eq_getElem (show i < ys.length by omega)]; rfl
    rw [e]
    by_cases hik : i = k - 1
    · rw [hik]; exact h3
    · have := srt_lt h (show i < k - 1 by omega) (by omega); omega
  have hd : ∀ a ∈ ys.drop k, x.2 < a.2 := fun a ha => by
    obtain ⟨i, hi, rfl⟩ := List.mem_iff_getElem.1 ha
    rw [List.length_drop] at hi
    have e : (ys.drop k)[i] = ys.getD (k + i) (0, 0) := by rw [List.getElem_drop, List.getD_eq_getElem?_getD, List.getElem?_eq_getElem (show k + i < ys.length by omega)]; rfl
    rw [e]; exact h1 _ (by omega) (by omega)
  refine ⟨?_, ?_⟩
  · unfold Srt
    rw [List.append_assoc, List.pairwise_append]
    refine ⟨h.sublist (List.take_sublist _ _), ?_, fun a ha b hb => ?_⟩
    · rw [List.singleton_append, List.pairwise_cons]
      exact ⟨hd, h.sublist (List.drop_sublist _ _)⟩
    · rcases List.mem_append.1 hb with hb | hb
      · rw [List.mem_singleton] at hb; subst hb; exact ht a ha
      · have := ht a ha; have := hd b hb; omega
  · have e : ys ++ [x] = ys.take k ++ (ys.drop k ++ [x]) := by rw [← List.append_assoc, List.take_append_drop]
    rw [e, List.append_assoc]
    exact (List.perm_append_comm).append_left _
/-- no pair has the target t -/
def freeT (ys : List (Int × Int)) (t : Int) : Bool := decide (∀ y ∈ ys, ¬ y.2 = t)
theorem put_all {ys : List (Int × Int)} {a c k : Int} (hs : Srt ys) (hk : 0 ≤ k ∧ k ≤ ys.length) (h1 : ∀ j : Nat, k ≤ j → j < ys.length → c < (ys.getD j (0, 0)).2) (h2 : 0 < k → (ys.getD (k - 1).toNat (0, 0)).2 < c) :
    freeT ys c = true ∧ ((([] ++ List.drop (Int.toNat 0) (List.take k.toNat ys)) ++ [(a, c)]) ++ List.drop k.toNat (List.take ((ys.length : Int)).toNat ys)).Perm (ys ++ [(a, c)]) ∧ Srt ((([] ++ List.drop (Int.toNat 0) (List.take k.toNat ys)) ++ [(a, c)]) ++ List.drop k.toNat (List.take ((ys.length : Int)).toNat ys)) := by
  have e : (([] ++ List.drop (Int.toNat 0) (List.take k.toNat ys)) ++ [(a, c)]) ++ List.drop k.toNat (List.take ((ys.length : Int)).toNat ys) = ys.take k.toNat ++ [(a, c)] ++ ys.drop k.toNat := by simp
  rw [e]
  have h := put_srt (x := (a, c)) hs (k := k.toNat) (by omega) (fun j q1 q2 => h1 j (by omega) q2) (fun q => by rw [show k.toNat - 1 = (k - 1).toNat by omega]; exact h2 (by omega))
  refine ⟨decide_eq_true fun y hy q => ?_, h.2, h.1⟩
  obtain ⟨j, hj, rfl⟩ := List.mem_iff_getElem.1 hy
  have e2 : ys[j] = ys.getD j (0, 0) := by rw [List.getD_eq_getElem?_getD, List.getElem?_eq_getElem hj]; rfl
  rw [e2] at q
  by_cases hjk : k ≤ j
  · have := h1 j hjk hj; omega
  · have h3 := h2 (by omega)
    by_cases hj1 : j = (k - 1).toNat
    · rw [← hj1] at h3; omega
    · have := srt_lt hs (show j < (k - 1).toNat by omega) (by omega); omega
theorem dup_no {ps zs : List (Int × Int)} {i : Nat} (hi : i < ps.length) (hz : zs.Perm ((ps.take i).map swapP)) (hn : ¬ ∀ y ∈ zs, ¬ y.2 = (ps.getD i (0, 0)).1) : ¬ (ps.map Prod.fst).Nodup := fun nd => hn fun y hy he => by
  obtain ⟨q, hq, rfl⟩ := List.mem_map.1 (hz.mem_iff.1 hy)
  obtain ⟨j, hj, rfl⟩ := List.mem_iff_getElem.1 hq
  rw [List.length_take] at hj
  unfold List.Nodup at nd
  rw [List.pairwise_map] at nd
  have := List.pairwise_iff_getElem.1 nd j i (by omega) hi (by omega)
  rw [List.getElem_take, List.getD_eq_getElem?_getD, List.getElem?_eq_getElem hi] at he
  exact this he
theorem swap_snoc {ps : List (Int × Int)} {i : Int} (h0 : 0 ≤ i) (hi : i < ps.length) : (ps.take (i + 1).toNat).map swapP = (ps.take i.toNat).map swapP ++ [((ps.getD i.toNat (0, 0)).2, (ps.getD i.toNat (0, 0)).1)] := by
  rw [show (i + 1).toNat = i.toNat + 1 by omega, List.take_add_one, List.getD_eq_getElem?_getD, List.getElem?_eq_getElem (by omega), Option.toList_some, List.map_append]; rfl
section
variable {w : World} {lo hi : Nat} {v : Value} {ps ys : List (Int × Int)}
theorem l10Put_c (a c : Int) (h : SL w lo hi v ys := by repeat (first | assumption | exact Go.Gw.Own.sl (by assumption) | exact Go.Gw.Box.at (by assumption) | exact Go.Gw.SLL.el (by first | assumption | exact Go.Gw.OwnD.sll (by assumption)) _ (by omega) | exact Go.Gw.SLL.at (by first | assumption | exact Go.Gw.OwnD.sll (by assumption)) (by omega) | exact Go.Gw.OwnD.sll (by assumption) | (apply Go.Gw.SL.chg; case hx => assumption) | (apply Go.Gw.Own.chg; case hx => assumption) | (apply Go.Gw.Box.chg; case hx => assumption) | (apply Go.Gw.At.chg; case hx => assumption) | exact .inl (Nat.zero_le _) | exact .inr (Nat.zero_le _) | (show _ ∨ _; omega))) (hs : Srt ys := by assumption) (hl : ys.length ≤ 1048576 := by omega) : Ret Tryz.prog 50 [v, .agg #[.int .i64 a, .int .i64 c]] w fun u w' => ∃ d, ∃ zs : List (Int × Int), u = .tuple #[d, .bool (freeT ys c)] ∧ Own w' 73 w.heap.size d zs ∧ (freeT ys c = true → zs.Perm (ys ++ [(a, c)]) ∧ Srt zs) ∧ Ext w w' := by
  have E : Since 0 0 w w := Since.refl 0 0 w
  refine ret_enter Tryz.func50 rfl Tryz.ntmps50 rfl ?_
  focus have ht_h := h.top; refine c_seq ?_; refine c_region ?_; refine w_box rfl (k := fun b3 w3 hb3 hx3 hl3 hs3 => ?_); have hz_hx3 := hx3.size; replace h := h.ext hx3; replace E := E.trans hx3; refine w_pure (y_assign rfl) rfl ?_; refine w_pure (y_assign rfl) rfl ?_; refine w_nil ?_; refine x_next ?_; refine c_seq ?_; refine c_region ?_; refine w_pure (y_move rfl) rfl ?_; refine w_pure (y_len rfl) rfl ?_; refine w_pure (y_assign rfl) rfl ?_; refine w_nil ?_; refine x_next ?_; refine c_seq ?_; refine c_block ?_; rotate_left
  refine c_loopC 0 0 (ι := Int) (fun k => [(0, v), (3, ptr b3 0), (6, .int .i64 k)]) (fun k w' => (0 ≤ k ∧ k ≤ ys.length) ∧ ∀ j : Nat, k ≤ j → j < ys.length → c < (ys.getD j (0, 0)).2) (fun k => k.toNat) ys.length (by repeat (first | exact trivial | refine ⟨rfl, ?_⟩)) ⟨⟨by omega, by omega⟩, fun j h1 h2 => by omega⟩ ?_
  rintro k wL hxL EL ⟨hk, hall⟩
  have hzL := hxL.size
  focus have hz_hxL := hxL.size; replace hb3 := hb3.ext hxL; replace h := h.ext hxL; replace E := E.trans hxL; refine c_seq ?_; refine c_seq ?_; refine c_region_calm mixed (by decide +kernel) (by kernel_rfl) ?_; refine q_pure (y_move rfl) rfl ?_; refine q_pure (y_gt rfl rfl) rfl ?_; refine q_pure (y_move rfl) rfl ?_; (refine q_part_dec rfl rfl (fun hc13 => ?_) (fun hc13 => ?_) <;> try (first | exact absurd rfl hc13 | contradiction | exact Bool.noConfusion (show false = true from hc13.symm.trans (by assumption)) | exact Bool.noConfusion (show true = false from hc13.symm.trans (by assumption)) | (exfalso; omega) | (exfalso; simp only [*, Bool.not_true, Bool.not_false, reduceCtorEq] at hc13; done))); refine q_yes rfl rfl ?_; refine q_pure (y_move rfl) rfl ?_; refine q_yes rfl rfl ?_; refine q_pure (y_move rfl) rfl ?_; refine q_yes rfl rfl ?_; refine q_pure (y_sub rfl rfl) rfl ?_; refine q_yes rfl rfl ?_; refine q_pure (y_index rfl rfl) rfl ?_; refine q_yes rfl rfl ?_; refine q_pure (y_field rfl) rfl ?_; refine q_yes rfl rfl ?_; refine q_pure (y_load_p1 rfl) rfl ?_; refine q_yes rfl rfl ?_; refine q_pure (y_field rfl) rfl ?_; refine q_yes rfl rfl ?_; refine q_pure (y_load_box rfl) rfl ?_; refine q_yes rfl rfl ?_; refine q_pure (y_gt rfl rfl) rfl ?_; refine q_pure (y_pick_t rfl rfl) rfl ?_; refine q_nil (fun ws27 hxs27 hzs27 => ?_); have hz_hxs27 := hxs27.size; replace EL := EL.trans hxs27; replace hb3 := hb3.ext hxs27; replace h := h.ext hxs27; replace E := E.trans hxs27; refine x_next ?_; (refine c_dec rfl (fun hc22 => ?_) (fun hc22 => ?_) <;> try (first | exact absurd rfl hc22 | contradiction | exact Bool.noConfusion (show false = true from hc22.symm.trans (by assumption)) | exact Bool.noConfusion (show true = false from hc22.symm.trans (by assumption)) | (exfalso; omega) | (exfalso; simp only [*, Bool.not_true, Bool.not_false, reduceCtorEq] at hc22; done))); refine c_skip ?_; refine x_next ?_; refine c_block ?_; refine c_region ?_; refine w_pure (y_move rfl) rfl ?_; refine w_pure (y_sub rfl rfl) rfl ?_; refine w_pure (y_assign rfl) rfl ?_; refine w_nil ?_; refine x_block_norm ?_; rotate_left; refine c_exit ?_; refine x_then_exit ?_; refine x_then_exit ?_; refine x_block_hit ?_; refine x_next ?_; refine c_seq ?_; refine c_seq ?_; refine c_region_calm mixed (by decide +kernel) (by kernel_rfl) ?_; refine q_pure (y_move rfl) rfl ?_; refine q_pure (y_gt rfl rfl) rfl ?_; refine q_pure (y_move rfl) rfl ?_; (refine q_part_dec rfl rfl (fun hc28 => ?_) (fun hc28 => ?_) <;> try (first | exact absurd rfl hc28 | contradiction | exact Bool.noConfusion (show false = true from hc28.symm.trans (by assumption)) | exact Bool.noConfusion (show true = false from hc28.symm.trans (by assumption)) | (exfalso; omega) | (exfalso; simp only [*, Bool.not_true, Bool.not_false, reduceCtorEq] at hc28; done))); refine q_yes rfl rfl ?_; refine q_pure (y_move rfl) rfl ?_; refine q_yes rfl rfl ?_; refine q_pure (y_move rfl) rfl ?_; refine q_yes rfl rfl ?_; refine q_pure (y_sub rfl rfl) rfl ?_; refine q_yes rfl rfl ?_; refine q_pure (y_index rfl rfl) rfl ?_; refine q_yes rfl rfl ?_; refine q_pure (y_field rfl) rfl ?_; refine q_yes rfl rfl ?_; refine q_pure (y_load_p1 rfl) rfl ?_; refine q_yes rfl rfl ?_; refine q_pure (y_field rfl) rfl ?_; refine q_yes rfl rfl ?_; refine q_pure (y_load_box rfl) rfl ?_; refine q_yes rfl rfl ?_; refine q_pure (y_eq rfl rfl) rfl ?_; refine q_pure (y_pick_t rfl rfl) rfl ?_; refine q_nil (fun ws71 hxs71 hzs71 => ?_); have hz_hxs71 := hxs71.size; replace EL := EL.trans hxs71; replace hb3 := hb3.ext hxs71; replace h := h.ext hxs71; replace E := E.trans hxs71; refine x_next ?_; (refine c_dec rfl (fun hc37 => ?_) (fun hc37 => ?_) <;> try (first | exact absurd rfl hc37 | contradiction | exact Bool.noConfusion (show false = true from hc37.symm.trans (by assumption)) | exact Bool.noConfusion (show true = false from hc37.symm.trans (by assumption)) | (exfalso; omega) | (exfalso; simp only [*, Bool.not_true, Bool.not_false, reduceCtorEq] at hc37; done))); refine c_seq ?_; refine c_region ?_; refine w_pure (y_assign rfl) rfl ?_; refine w_pure (y_assign rfl) rfl ?_; refine w_nil ?_; refine x_next ?_; refine c_ret ?_; refine x_then_ret ?_; rotate_left; refine c_skip ?_; refine x_next ?_; refine c_seq ?_; refine c_region ?_; refine w_lit (α := (Int × Int)) rfl rfl rfl rfl rfl rfl rfl rfl (fun v38 w38 ho38 hx38 hl38 hh38 hs38 => ?_); have hl_ho38 := ho38.lt; have hz_hx38 := hx38.size; replace EL := EL.trans hx38; replace hb3 := hb3.ext hx38; replace h := h.ext hx38; replace E := E.trans hx38; refine w_pure (y_move rfl) rfl ?_; refine w_pure (y_move rfl) rfl ?_; (refine w_slice rfl (.inl ⟨rfl, rfl⟩) (.inr ⟨_, _, rfl, rfl⟩) rfl ?_; intro u41 hu41); refine w_append rfl rfl (hb := by simp only [List.length_append, List.length_drop, List.length_take, List.length_map, List.length_cons, List.length_nil]; omega) (hm := by simp only [List.length_append, List.length_drop, List.length_take, List.length_map, List.length_cons, List.length_nil]; omega) (k := fun v42 w42 ho42 hx42 hr42 => ?_); have hl_ho42 := ho42.lt; have hz_hx42 := hx42.size; replace EL := EL.next hx42 (by omega); replace hb3 := hb3.chg hx42 (by omega); replace h := h.chg hx42 (by omega); replace E := E.next hx42 (by omega); replace hu41 := hu41.chg hx42 (by omega); refine w_pure (y_assign rfl) rfl ?_; refine w_nil ?_; refine x_next ?_; refine c_seq ?_; refine c_region ?_; refine w_pure (y_move rfl) rfl ?_; refine w_pure (y_load_boxs rfl) rfl ?_; refine w_lit (α := (Int × Int)) rfl rfl rfl rfl rfl rfl rfl rfl (fun v45 w45 ho45 hx45 hl45 hh45 hs45 => ?_); have hl_ho45 := ho45.lt; have hz_hx45 := hx45.size; replace ho42 := ho42.ext hx45; replace EL := EL.trans hx45; replace hb3 := hb3.ext hx45; replace h := h.ext hx45; replace E := E.trans hx45; replace hu41 := hu41.ext hx45; refine w_append rfl rfl (hb := by simp only [List.length_append, List.length_drop, List.length_take, List.length_map, List.length_cons, List.length_nil]; omega) (hm := by simp only [List.length_append, List.length_drop, List.length_take, List.length_map, List.length_cons, List.length_nil]; omega) (k := fun v46 w46 ho46 hx46 hr46 => ?_); have hl_ho46 := ho46.lt; have hz_hx46 := hx46.size; replace ho45 := ho45.chg hx46 (by omega); replace EL := EL.next hx46 (by omega); replace hb3 := hb3.chg hx46 (by omega); replace h := h.chg hx46 (by omega); replace E := E.next hx46 (by omega); replace hu41 := hu41.chg hx46 (by omega); refine w_pure (y_assign rfl) rfl ?_; refine w_nil ?_; refine x_next ?_; refine c_seq ?_; refine c_region ?_; refine w_pure (y_move rfl) rfl ?_; refine w_pure (y_move rfl) rfl ?_; refine w_pure (y_move rfl) rfl ?_; (refine w_slice rfl (.inr ⟨_, _, rfl, rfl⟩) (.inl ⟨rfl, rfl⟩) rfl ?_; intro u50 hu50); refine w_append rfl rfl (hb := by simp only [List.length_append, List.length_drop, List.length_take, List.length_map, List.length_cons, List.length_nil]; omega) (hm := by simp only [List.length_append, List.length_drop, List.length_take, List.length_map, List.length_cons, List.length_nil]; omega) (k := fun v51 w51 ho51 hx51 hr51 => ?_); have hl_ho51 := ho51.lt; have hz_hx51 := hx51.size; replace ho45 := ho45.chg hx51 (by omega); replace EL := EL.next hx51 (by omega); replace hb3 := hb3.chg hx51 (by omega); replace h := h.chg hx51 (by omega); replace E := E.next hx51 (by omega); replace hu41 := hu41.chg hx51 (by omega); replace hu50 := hu50.chg hx51 (by omega); refine w_pure (y_assign rfl) rfl ?_; refine w_pure (y_assign rfl) rfl ?_; refine w_nil ?_; refine x_next ?_; refine c_ret ?_; rotate_left; refine q_no rfl rfl rfl rfl ?_; refine q_no rfl rfl rfl rfl ?_; refine q_no rfl rfl rfl rfl ?_; refine q_no rfl rfl rfl rfl ?_; refine q_no rfl rfl rfl rfl ?_; refine q_no rfl rfl rfl rfl ?_; refine q_no rfl rfl rfl rfl ?_; refine q_no rfl rfl rfl rfl ?_; refine q_no rfl rfl rfl rfl ?_; refine q_pure (y_pick_f rfl rfl) rfl ?_; refine q_nil (fun ws127 hxs127 hzs127 => ?_); have hz_hxs127 := hxs127.size; replace EL := EL.trans hxs127; replace hb3 := hb3.ext hxs127; replace h := h.ext hxs127; replace E := E.trans hxs127; refine x_next ?_; refine c_false rfl ?_; refine c_exit ?_; refine x_then_exit ?_; refine x_then_exit ?_; refine x_block_hit ?_; refine x_next ?_; refine c_seq ?_; refine c_seq ?_; refine c_region_calm mixed (by decide +kernel) (by kernel_rfl) ?_; refine q_pure (y_move rfl) rfl ?_; refine q_pure (y_gt rfl rfl) rfl ?_; refine q_pure (y_move rfl) rfl ?_; (refine q_part_dec rfl rfl (fun hc28 => ?_) (fun hc28 => ?_) <;> try (first | exact absurd rfl hc28 | contradiction | exact Bool.noConfusion (show false = true from hc28.symm.trans (by assumption)) | exact Bool.noConfusion (show true = false from hc28.symm.trans (by assumption)) | (exfalso; omega) | (exfalso; simp only [*, Bool.not_true, Bool.not_false, reduceCtorEq] at hc28; done))); refine q_no rfl rfl rfl rfl ?_; refine q_no rfl rfl rfl rfl ?_; refine q_no rfl rfl rfl rfl ?_; refine q_no rfl rfl rfl rfl ?_; refine q_no rfl rfl rfl rfl ?_; refine q_no rfl rfl rfl rfl ?_; refine q_no rfl rfl rfl rfl ?_; refine q_no rfl rfl rfl rfl ?_; refine q_no rfl rfl rfl rfl ?_; refine q_pure (y_pick_f rfl rfl) rfl ?_; refine q_nil (fun ws152 hxs152 hzs152 => ?_); have hz_hxs152 := hxs152.size; replace EL := EL.trans hxs152; replace hb3 := hb3.ext hxs152; replace h := h.ext hxs152; replace E := E.trans hxs152; refine x_next ?_; refine c_false rfl ?_; refine c_skip ?_; refine x_next ?_; refine c_seq ?_; refine c_region ?_; refine w_lit (α := (Int × Int)) rfl rfl rfl rfl rfl rfl rfl rfl (fun v38 w38 ho38 hx38 hl38 hh38 hs38 => ?_); have hl_ho38 := ho38.lt; have hz_hx38 := hx38.size; replace EL := EL.trans hx38; replace hb3 := hb3.ext hx38; replace h := h.ext hx38; replace E := E.trans hx38; refine w_pure (y_move rfl) rfl ?_; refine w_pure (y_move rfl) rfl ?_; (refine w_slice rfl (.inl ⟨rfl, rfl⟩) (.inr ⟨_, _, rfl, rfl⟩) rfl ?_; intro u41 hu41); refine w_append rfl rfl (hb := by simp only [List.length_append, List.length_drop, List.length_take, List.length_map, List.length_cons, List.length_nil]; omega) (hm := by simp only [List.length_append, List.length_drop, List.length_take, List.length_map, List.length_cons, List.length_nil]; omega) (k := fun v42 w42 ho42 hx42 hr42 => ?_); have hl_ho42 := ho42.lt; have hz_hx42 := hx42.size; replace EL := EL.next hx42 (by omega); replace hb3 := hb3.chg hx42 (by omega); replace h := h.chg hx42 (by omega); replace E := E.next hx42 (by omega); replace hu41 := hu41.chg hx42 (by omega); refine w_pure (y_assign rfl) rfl ?_; refine w_nil ?_; refine x_next ?_; refine c_seq ?_; refine c_region ?_; refine w_pure (y_move rfl) rfl ?_; refine w_pure (y_load_boxs rfl) rfl ?_; refine w_lit (α := (Int × Int)) rfl rfl rfl rfl rfl rfl rfl rfl (fun v45 w45 ho45 hx45 hl45 hh45 hs45 => ?_); have hl_ho45 := ho45.lt; have hz_hx45 := hx45.size; replace ho42 := ho42.ext hx45; replace EL := EL.trans hx45; replace hb3 := hb3.ext hx45; replace h := h.ext hx45; replace E := E.trans hx45; replace hu41 := hu41.ext hx45; refine w_append rfl rfl (hb := by simp only [List.length_append, List.length_drop, List.length_take, List.length_map, List.length_cons, List.length_nil]; omega) (hm := by simp only [List.length_append, List.length_drop, List.length_take, List.length_map, List.length_cons, List.length_nil]; omega) (k := fun v46 w46 ho46 hx46 hr46 => ?_); have hl_ho46 := ho46.lt; have hz_hx46 := hx46.size; replace ho45 := ho45.chg hx46 (by omega); replace EL := EL.next hx46 (by omega); replace hb3 := hb3.chg hx46 (by omega); replace h := h.chg hx46 (by omega); replace E := E.next hx46 (by omega); replace hu41 := hu41.chg hx46 (by omega); refine w_pure (y_assign rfl) rfl ?_; refine w_nil ?_; refine x_next ?_; refine c_seq ?_; refine c_region ?_; refine w_pure (y_move rfl) rfl ?_; refine w_pure (y_move rfl) rfl ?_; refine w_pure (y_move rfl) rfl ?_; (refine w_slice rfl (.inr ⟨_, _, rfl, rfl⟩) (.inl ⟨rfl, rfl⟩) rfl ?_; intro u50 hu50); refine w_append rfl rfl (hb := by simp only [List.length_append, List.length_drop, List.length_take, List.length_map, List.length_cons, List.length_nil]; omega) (hm := by simp only [List.length_append, List.length_drop, List.length_take, List.length_map, List.length_cons, List.length_nil]; omega) (k := fun v51 w51 ho51 hx51 hr51 => ?_); have hl_ho51 := ho51.lt; have hz_hx51 := hx51.size; replace ho45 := ho45.chg hx51 (by omega); replace EL := EL.next hx51 (by omega); replace hb3 := hb3.chg hx51 (by omega); replace h := h.chg hx51 (by omega); replace E := E.next hx51 (by omega); replace hu41 := hu41.chg hx51 (by omega); replace hu50 := hu50.chg hx51 (by omega); refine w_pure (y_assign rfl) rfl ?_; refine w_pure (y_assign rfl) rfl ?_; refine w_nil ?_; refine x_next ?_; refine c_ret ?_; rotate_left
  · exact x_again (k - 1) (by repeat (first | exact trivial | refine ⟨rfl, ?_⟩)) ⟨EL.go, ⟨by omega, by omega⟩, fun j q1 q2 => if hj : j = (k - 1).toNat then by rw [hj]; exact hc22 else hall j (by omega) q2⟩ (by omega)
  · have hf : freeT ys c = false := decide_eq_false fun g => g _ (by rw [List.getD_eq_getElem?_getD, List.getElem?_eq_getElem (show (k - 1).toNat < ys.length by omega)]; exact List.getElem_mem _) hc37
    exact x_retv [_, _] rfl ⟨rfl, rfl, trivial⟩ ⟨_, [], by rw [hf]; rfl, Own.nil _ _ _, fun q => by (rw [hf] at q; cases q), E.go⟩
  · have hA := put_all (a := a) hs hk hall (fun _ => by omega)
    exact x_retv [_, _] rfl ⟨rfl, rfl, trivial⟩ ⟨_, _, by rw [hA.1]; rfl, Own.base (by assumption) (by omega), fun _ => hA.2, E.go⟩
  · have hA := put_all (a := a) hs hk hall (fun _ => by omega)
    exact x_retv [_, _] rfl ⟨rfl, rfl, trivial⟩ ⟨_, _, by rw [hA.1]; rfl, Own.base (by assumption) (by omega), fun _ => hA.2, E.go⟩
theorem sBackCopies_c (h : SL w lo hi v ps := by repeat (first | assumption | exact Go.Gw.Own.sl (by assumption) | exact Go.Gw.Box.at (by assumption) | exact Go.Gw.SLL.el (by first | assumption | exact Go.Gw.OwnD.sll (by assumption)) _ (by omega) | exact Go.Gw.SLL.at (by first | assumption | exact Go.Gw.OwnD.sll (by assumption)) (by omega) | exact Go.Gw.OwnD.sll (by assumption) | (apply Go.Gw.SL.chg; case hx => assumption) | (apply Go.Gw.Own.chg; case hx => assumption) | (apply Go.Gw.Box.chg; case hx => assumption) | (apply Go.Gw.At.chg; case hx => assumption) | exact .inl (Nat.zero_le _) | exact .inr (Nat.zero_le _) | (show _ ∨ _; omega))) : Ret Tryz.prog 16 [v] w fun u w' => ∃ d, u = .tuple #[d, .int .i64 (cBck ps)] ∧ Own w' 73 w.heap.size d (resBck ps) ∧ Ext w w' := by
  have E : Since 0 0 w w := Since.refl 0 0 w
  refine ret_enter Tryz.func16 rfl Tryz.ntmps16 rfl ?_
  focus have ht_h := h.top; refine c_seq ?_; refine c_region ?_; refine w_pure (y_assign rfl) rfl ?_; refine w_pure (y_assign rfl) rfl ?_; refine w_nil ?_; refine x_next ?_; refine c_seq ?_; refine c_seq ?_; refine c_region ?_; refine w_pure (y_move rfl) rfl ?_; refine w_val rfl rfl rfl (l10Plain_z) rfl (fun w9 hx9 hz9 => ?_); have hz_hx9 := hx9.size; replace h := h.ext hx9; replace E := E.trans hx9; refine w_pure (y_not rfl) rfl ?_; refine w_nil ?_; refine x_next ?_; (refine c_not rfl (fun hc10 => ?_) (fun hc10 => ?_) <;> try (first | exact absurd rfl hc10 | contradiction | exact Bool.noConfusion (show false = true from hc10.symm.trans (by assumption)) | exact Bool.noConfusion (show true = false from hc10.symm.trans (by assumption)) | (exfalso; omega) | (exfalso; simp only [*, Bool.not_true, Bool.not_false, reduceCtorEq] at hc10; done))); refine c_seq ?_; refine c_region ?_; refine w_pure (y_assign rfl) rfl ?_; refine w_pure (y_assign rfl) rfl ?_; refine w_nil ?_; refine x_next ?_; refine c_ret ?_; refine x_then_ret ?_; rotate_left; refine c_skip ?_; refine x_next ?_; refine c_seq ?_; refine c_region ?_; refine w_lit (α := (Int × Int)) rfl rfl rfl rfl rfl rfl rfl rfl (fun v11 w11 ho11 hx11 hl11 hh11 hs11 => ?_); have hl_ho11 := ho11.lt; have hz_hx11 := hx11.size; replace h := h.ext hx11; replace E := E.trans hx11; refine w_pure (y_assign rfl) rfl ?_; refine w_nil ?_; refine x_next ?_; refine c_seq ?_; refine c_seq ?_; refine c_region ?_; refine w_pure (y_assign rfl) rfl ?_; refine w_nil ?_; refine x_next ?_; refine c_block ?_; rotate_left
  · exact x_retv [_, _] rfl ⟨rfl, rfl, trivial⟩ ⟨_, by rw [cBck_2 (by rw [← plB_eq]; exact hc10)]; rfl, by rw [resBck_no (by rw [cBck_2 (by rw [← plB_eq]; exact hc10)]; decide)]; exact Own.nil _ _ _, E.go⟩
  rw [plB_eq] at hc10
  have hpl := plainB_len hc10
  have hb := plain64 hc10
  refine c_loopC 0 0 (ι := Int × Value × List (Int × Int)) (fun x => [(0, v), (4, x.2.1), (5, .int .i64 x.1)])
    (fun x w' => (0 ≤ x.1 ∧ x.1 ≤ ps.length) ∧ Own w' 73 w.heap.size x.2.1 x.2.2 ∧ x.2.2.Perm ((ps.take x.1.toNat).map swapP) ∧ Srt x.2.2 ∧ Since 0 0 w w') (fun x => (ps.length - x.1).toNat) (0, v11, [])
    (by repeat (first | exact trivial | refine ⟨rfl, ?_⟩)) ⟨⟨by omega, by omega⟩, Own.base (by assumption) (by omega), .refl _, .nil, by assumption⟩ ?_
  clear ho11 E
  rintro ⟨i, u, zs⟩ wL hxL EL ⟨g1, g2, g3, g4, E⟩
  dsimp only at *
  have hzL := hxL.size
  have hzl := g3.length_eq
  rw [List.length_map, List.length_take] at hzl
  focus have hl_g2 := g2.lt; have hz_hxL := hxL.size; replace h := h.ext hxL; refine c_seq ?_; refine c_seq ?_; refine c_region ?_; refine w_pure (y_move rfl) rfl ?_; refine w_pure (y_move rfl) rfl ?_; refine w_pure (y_len rfl) rfl ?_; refine w_pure (y_lt rfl rfl) rfl ?_; refine w_nil ?_; refine x_next ?_; (refine c_dec rfl (fun hc15 => ?_) (fun hc15 => ?_) <;> try (first | exact absurd rfl hc15 | contradiction | exact Bool.noConfusion (show false = true from hc15.symm.trans (by assumption)) | exact Bool.noConfusion (show true = false from hc15.symm.trans (by assumption)) | (exfalso; omega) | (exfalso; simp only [*, Bool.not_true, Bool.not_false, reduceCtorEq] at hc15; done))); refine c_skip ?_; refine x_next ?_; refine c_seq ?_; refine c_block ?_; refine c_seq ?_; refine c_region_held mixed (fun wr7 hxr7 hzr7 => ?_); have hz_hxr7 := hxr7.size; replace EL := EL.trans hxr7; replace g2 := g2.ext hxr7; replace E := E.trans hxr7; replace h := h.ext hxr7; refine h_pure rfl (y_move rfl) rfl ?_; refine h_pure rfl (y_move rfl) rfl ?_; refine h_pure rfl (y_move rfl) rfl ?_; refine h_pure rfl (y_index rfl rfl) rfl ?_; refine h_pure rfl (y_field rfl) rfl ?_; refine h_pure rfl (y_load_p1 rfl) rfl ?_; refine h_pure rfl (y_move rfl) rfl ?_; refine h_pure rfl (y_move rfl) rfl ?_; refine h_pure rfl (y_index rfl rfl) rfl ?_; refine h_pure rfl (y_field rfl) rfl ?_; refine h_pure rfl (y_load_p0 rfl) rfl ?_; refine h_pure rfl (y_build rfl) rfl ?_; refine h_one rfl ?_; (refine w_call rfl rfl rfl (l10Put_c _ _) rfl ?_; rintro _ w31 ⟨d31, ⟨zs31, ⟨rfl, ⟨hp1_31, ⟨hp2_31, hx31⟩⟩⟩⟩⟩); have hl_hp1_31 := hp1_31.lt; have hz_hx31 := hx31.size; replace EL := EL.trans hx31; replace g2 := g2.ext hx31; replace E := E.trans hx31; replace h := h.ext hx31; refine w_nil ?_; refine x_held ?_; refine h_pure rfl (y_move rfl) rfl ?_; refine h_pure rfl (y_extract rfl rfl) rfl ?_; refine h_pure rfl (y_extract rfl rfl) rfl ?_; refine h_pure rfl (y_assign rfl) rfl ?_; refine h_pure rfl (y_assign rfl) rfl ?_; refine h_nil ?_; refine x_next ?_; refine c_seq ?_; refine c_seq ?_; refine c_region ?_; refine w_pure (y_move rfl) rfl ?_; refine w_pure (y_not_dec rfl) rfl ?_; refine w_nil ?_; refine x_next ?_; (refine c_dec rfl (fun hc35 => ?_) (fun hc35 => ?_) <;> try (first | exact absurd rfl hc35 | contradiction | exact Bool.noConfusion (show false = true from hc35.symm.trans (by assumption)) | exact Bool.noConfusion (show true = false from hc35.symm.trans (by assumption)) | (exfalso; omega) | (exfalso; simp only [*, Bool.not_true, Bool.not_false, reduceCtorEq] at hc35; done))); refine c_seq ?_; refine c_region ?_; refine w_pure (y_assign rfl) rfl ?_; refine w_pure (y_assign rfl) rfl ?_; refine w_nil ?_; refine x_next ?_; refine c_ret ?_; refine x_then_ret ?_; refine x_block_ret ?_; refine x_then_ret ?_; refine x_then_ret ?_; refine x_block_ret ?_; refine x_then_ret ?_; rotate_left; refine c_skip ?_; refine x_next ?_; refine c_region ?_; refine w_pure (y_move rfl) rfl ?_; refine w_pure (y_assign rfl) rfl ?_; refine w_nil ?_; refine x_block_norm ?_; refine x_next ?_; refine c_region ?_; refine w_pure (y_move rfl) rfl ?_; refine w_pure (y_add rfl rfl) rfl ?_; refine w_pure (y_assign rfl) rfl ?_; refine w_nil ?_; rotate_left; refine c_exit ?_; refine x_then_exit ?_; refine x_then_exit ?_; refine x_block_hit ?_; refine x_next ?_; refine c_seq ?_; refine c_region ?_; refine w_pure (y_move rfl) rfl ?_; refine w_pure (y_assign rfl) rfl ?_; refine w_pure (y_assign rfl) rfl ?_; refine w_nil ?_; refine x_next ?_; refine c_ret ?_; rotate_left
  · have h9 := cBck_9 hc10 (dup_no (i := i.toNat) (by omega) g3 hc35)
    exact x_retv [_, _] rfl ⟨rfl, rfl, trivial⟩ ⟨_, by rw [h9]; rfl, by rw [resBck_no (by rw [h9]; decide)]; exact Own.nil _ _ _, E.go⟩
  · have hf := hp2_31 (decide_eq_true (Decidable.not_not.1 hc35))
    exact x_again (i + 1, d31, zs31) (by repeat (first | exact trivial | refine ⟨rfl, ?_⟩)) ⟨EL.go, ⟨by dsimp only; omega, by dsimp only; omega⟩, Own.base (by assumption) (by omega), by dsimp only; rw [swap_snoc g1.1 hc15]; exact hf.1.trans (g3.append_right _), hf.2, by assumption⟩ (by dsimp only; omega)
  · have e1 : ps.take i.toNat = ps := List.take_of_length_le (by omega)
    rw [e1] at g3
    have h0 := bck_of hc10 g3 g4
    exact x_retv [_, _] rfl ⟨rfl, rfl, trivial⟩ ⟨_, by rw [h0.1]; rfl, by rw [h0.2]; exact Own.base (by assumption) (by omega), E.go⟩
theorem iBackCopies_c (h : SL w lo hi v ps := by repeat (first | assumption | exact Go.Gw.Own.sl (by assumption) | exact Go.Gw.Box.at (by assumption) | exact Go.Gw.SLL.el (by first | assumption | exact Go.Gw.OwnD.sll (by assumption)) _ (by omega) | exact Go.Gw.SLL.at (by first | assumption | exact Go.Gw.OwnD.sll (by assumption)) (by omega) | exact Go.Gw.OwnD.sll (by assumption) | (apply Go.Gw.SL.chg; case hx => assumption) | (apply Go.Gw.Own.chg; case hx => assumption) | (apply Go.Gw.Box.chg; case hx => assumption) | (apply Go.Gw.At.chg; case hx => assumption) | exact .inl (Nat.zero_le _) | exact .inr (Nat.zero_le _) | (show _ ∨ _; omega))) : Ret Tryz.prog 15 [v] w fun u w' => ∃ d, u = .tuple #[d, .int .i64 (cBck ps)] ∧ Own w' 73 w.heap.size d (resBck ps) ∧ Ext w w' := by
  have E : Since 0 0 w w := Since.refl 0 0 w
  refine ret_enter Tryz.func15 rfl Tryz.ntmps15 rfl ?_
  focus have ht_h := h.top; refine c_seq ?_; refine c_region ?_; refine w_pure (y_assign rfl) rfl ?_; refine w_pure (y_assign rfl) rfl ?_; refine w_nil ?_; refine x_next ?_; refine c_seq ?_; refine c_seq ?_; refine c_region ?_; refine w_pure (y_move rfl) rfl ?_; refine w_val rfl rfl rfl (isPlain_z) rfl (fun w8 hx8 hz8 => ?_); have hz_hx8 := hx8.size; replace h := h.ext hx8; replace E := E.trans hx8; refine w_pure (y_not rfl) rfl ?_; refine w_nil ?_; refine x_next ?_; (refine c_not rfl (fun hc9 => ?_) (fun hc9 => ?_) <;> try (first | exact absurd rfl hc9 | contradiction | exact Bool.noConfusion (show false = true from hc9.symm.trans (by assumption)) | exact Bool.noConfusion (show true = false from hc9.symm.trans (by assumption)) | (exfalso; omega) | (exfalso; simp only [*, Bool.not_true, Bool.not_false, reduceCtorEq] at hc9; done))); refine c_seq ?_; refine c_region ?_; refine w_pure (y_assign rfl) rfl ?_; refine w_pure (y_assign rfl) rfl ?_; refine w_nil ?_; refine x_next ?_; refine c_ret ?_; refine x_then_ret ?_; rotate_left; refine c_skip ?_; refine x_next ?_; refine c_seq ?_; refine c_region ?_; refine w_lit (α := (Int × Int)) rfl rfl rfl rfl rfl rfl rfl rfl (fun v10 w10 ho10 hx10 hl10 hh10 hs10 => ?_); have hl_ho10 := ho10.lt; have hz_hx10 := hx10.size; replace h := h.ext hx10; replace E := E.trans hx10; refine w_pure (y_assign rfl) rfl ?_; refine w_nil ?_; refine x_next ?_; refine c_seq ?_; refine c_seq ?_; refine c_region ?_; refine w_pure (y_move rfl) rfl ?_; refine w_pure (y_len rfl) rfl ?_; refine w_pure (y_move rfl) rfl ?_; refine w_nil ?_; refine x_next ?_; refine c_block ?_; rotate_left
  · exact x_retv [_, _] rfl ⟨rfl, rfl, trivial⟩ ⟨_, by rw [cBck_2 (by rw [← plB_eq]; exact hc9)]; rfl, by rw [resBck_no (by rw [cBck_2 (by rw [← plB_eq]; exact hc9)]; decide)]; exact Own.nil _ _ _, E.go⟩
  rw [plB_eq] at hc9
  have hpl := plainB_len hc9
  have hb := plain64 hc9
  skip
  refine c_loopC (bL v10) (bH v10) (ι := Int × Value) (fun x => [(4, x.2), (11, v), (12, .int .i64 ps.length), (13, .int .i64 x.1)])
    (fun x w' => (0 ≤ x.1 ∧ x.1 ≤ ps.length) ∧ Own w' 73 w.heap.size x.2 ((ps.take x.1.toNat).map swapP) ∧ ((bL x.2 = bL v10 ∧ bH x.2 = bH v10) ∨ w10.heap.size ≤ bL x.2) ∧ Since 0 0 w w') (fun x => (ps.length - x.1).toNat) (0, v10)
    (by repeat (first | exact trivial | refine ⟨rfl, ?_⟩)) ⟨⟨by omega, by omega⟩, Own.base (by assumption) (by omega), .inl ⟨rfl, rfl⟩, by assumption⟩ ?_
  clear ho10 E
  rintro ⟨i, u⟩ wL hxL EL ⟨g1, g2, g3, E⟩
  dsimp only at *
  have hzL := hxL.size
  by_cases hlt : i < ps.length
  · focus have hl_g2 := g2.lt; have hz_hxL := hxL.size; replace h := h.chg hxL (by omega); refine c_seq ?_; refine c_region ?_; refine w_pure (y_lt rfl rfl) rfl ?_; refine w_nil ?_; refine x_next ?_; refine c_seq ?_; (refine c_dec rfl (fun hc14 => ?_) (fun hc14 => ?_) <;> try (first | exact absurd rfl hc14 | contradiction | exact Bool.noConfusion (show false = true from hc14.symm.trans (by assumption)) | exact Bool.noConfusion (show true = false from hc14.symm.trans (by assumption)) | (exfalso; omega) | (exfalso; simp only [*, Bool.not_true, Bool.not_false, reduceCtorEq] at hc14; done))); refine c_skip ?_; refine x_next ?_; refine c_seq ?_; refine c_block ?_; refine c_seq ?_; refine c_region ?_; refine w_pure (y_index rfl rfl) rfl ?_; refine w_pure (y_load_pair rfl) rfl ?_; refine w_alloc (k := fun b6 w6 hb6 hx6 hl6 hs6 => ?_); have hz_hx6 := hx6.size; replace EL := EL.next hx6 (by omega); replace g2 := g2.ext hx6; replace E := E.trans hx6; replace h := h.ext hx6; refine w_store_boxs rfl rfl (next := fun ws17 hbs17 hxs17 hss17 => ?_); (replace hb6 := hbs17; clear hbs17); have hz_hxs17 := hxs17.size; replace EL := EL.next hxs17 (by omega); replace g2 := g2.chg hxs17 (by omega); replace E := E.next hxs17 (by omega); replace h := h.chg hxs17 (by omega); refine w_nil ?_; refine x_next ?_; refine c_region ?_; refine w_pure (y_move rfl) rfl ?_; refine w_pure (y_field rfl) rfl ?_; refine w_pure (y_load_box rfl) rfl ?_; refine w_pure (y_field rfl) rfl ?_; refine w_pure (y_load_box rfl) rfl ?_; refine w_pure (y_build rfl) rfl ?_; refine w_lit (α := (Int × Int)) rfl rfl rfl rfl rfl rfl rfl rfl (fun v23 w23 ho23 hx23 hl23 hh23 hs23 => ?_); have hl_ho23 := ho23.lt; have hz_hx23 := hx23.size; replace hb6 := hb6.ext hx23; replace EL := EL.next hx23 (by omega); replace g2 := g2.ext hx23; replace E := E.trans hx23; replace h := h.ext hx23; refine w_append rfl rfl (hb := by simp only [List.length_append, List.length_drop, List.length_take, List.length_map, List.length_cons, List.length_nil]; omega) (hm := by simp only [List.length_append, List.length_drop, List.length_take, List.length_map, List.length_cons, List.length_nil]; omega) (k := fun v24 w24 ho24 hx24 hr24 => ?_); have hl_ho24 := ho24.lt; have hz_hx24 := hx24.size; replace ho23 := ho23.chg hx24 (by omega); replace hb6 := hb6.chg hx24 (by omega); replace EL := EL.next hx24 (by omega); replace E := E.next hx24 (by omega); replace h := h.chg hx24 (by omega); refine w_pure (y_assign rfl) rfl ?_; refine w_nil ?_; refine x_block_norm ?_; refine x_next ?_; refine c_region ?_; refine w_pure (y_add rfl rfl) rfl ?_; refine w_pure (y_move rfl) rfl ?_; refine w_nil ?_; rotate_left
    exact x_again (i + 1, v24) (by repeat (first | exact trivial | refine ⟨rfl, ?_⟩)) ⟨EL.go, ⟨by dsimp only; omega, by dsimp only; omega⟩, by dsimp only; rw [swap_snoc g1.1 hlt]; assumption, by dsimp only; omega, by assumption⟩ (by dsimp only; omega)
  · have e1 : ps.take i.toNat = ps := List.take_of_length_le (by omega)
    rw [e1] at g2
    have hq : ∀ p ∈ ps.map swapP, 0 ≤ p.2 ∧ p.2 ≤ 19 := fun p hp => (swap_rng hc9 (.refl _) p hp).2
    have hql : (ps.map swapP).length ≤ 20 := by rw [List.length_map]; exact hpl
    focus have hl_g2 := g2.lt; have hz_hxL := hxL.size; replace h := h.chg hxL (by omega); refine c_seq ?_; refine c_region ?_; refine w_pure (y_lt rfl rfl) rfl ?_; refine w_nil ?_; refine x_next ?_; refine c_seq ?_; (refine c_dec rfl (fun hc14 => ?_) (fun hc14 => ?_) <;> try (first | exact absurd rfl hc14 | contradiction | exact Bool.noConfusion (show false = true from hc14.symm.trans (by assumption)) | exact Bool.noConfusion (show true = false from hc14.symm.trans (by assumption)) | (exfalso; omega) | (exfalso; simp only [*, Bool.not_true, Bool.not_false, reduceCtorEq] at hc14; done))); refine c_exit ?_; refine x_then_exit ?_; refine x_then_exit ?_; refine x_block_hit ?_; refine x_next ?_; refine c_seq ?_; refine c_region ?_; refine w_pure (y_move rfl) rfl ?_; (refine w_call rfl rfl rfl (SortFunc_c (by omega) (by omega)) rfl ?_; rintro _ w27 ⟨rfl, ⟨qs27, ⟨hp1_27, ⟨hp2_27, ⟨hp3_27, hx27⟩⟩⟩⟩⟩); have hl_hp3_27 := hp3_27.lt; have hz_hx27 := hx27.size; replace EL := EL.next hx27 (by omega); replace E := E.next hx27 (by omega); replace h := h.chg hx27 (by omega); refine w_nil ?_; refine x_next ?_; refine c_seq ?_; refine c_seq ?_; refine c_region ?_; refine w_pure (y_move rfl) rfl ?_; refine w_val rfl rfl rfl (isPlain_z) rfl (fun w29 hx29 hz29 => ?_); have hz_hx29 := hx29.size; replace hp3_27 := hp3_27.ext hx29; replace EL := EL.next hx29 (by omega); replace E := E.trans hx29; replace h := h.ext hx29; refine w_pure (y_not rfl) rfl ?_; refine w_nil ?_; refine x_next ?_; (refine c_not rfl (fun hc30 => ?_) (fun hc30 => ?_) <;> try (first | exact absurd rfl hc30 | contradiction | exact Bool.noConfusion (show false = true from hc30.symm.trans (by assumption)) | exact Bool.noConfusion (show true = false from hc30.symm.trans (by assumption)) | (exfalso; omega) | (exfalso; simp only [*, Bool.not_true, Bool.not_false, reduceCtorEq] at hc30; done))); refine c_seq ?_; refine c_region ?_; refine w_pure (y_assign rfl) rfl ?_; refine w_pure (y_assign rfl) rfl ?_; refine w_nil ?_; refine x_next ?_; refine c_ret ?_; refine x_then_ret ?_; rotate_left; refine c_skip ?_; refine x_next ?_; refine c_seq ?_; refine c_region ?_; refine w_pure (y_move rfl) rfl ?_; refine w_pure (y_assign rfl) rfl ?_; refine w_pure (y_assign rfl) rfl ?_; refine w_nil ?_; refine x_next ?_; refine c_ret ?_; rotate_left
    · have h9 := (bck_sorted hc9 hp1_27 hp2_27).2 (by rw [← plB_eq]; exact hc30)
      exact x_retv [_, _] rfl ⟨rfl, rfl, trivial⟩ ⟨_, by rw [h9]; rfl, by rw [resBck_no (by rw [h9]; decide)]; exact Own.nil _ _ _, E.go⟩
    · have h0 := (bck_sorted hc9 hp1_27 hp2_27).1 (by rw [← plB_eq]; exact hc30)
      exact x_retv [_, _] rfl ⟨rfl, rfl, trivial⟩ ⟨_, by rw [h0.1]; rfl, by rw [h0.2]; exact Own.base (by assumption) (by omega), E.go⟩
end
end Go.Proofs.YtcbpiaehkodliaaGreatDoor
/- RdcE -/
namespace Go.Proofs.YtcbpiaehkodliaaGreatDoor
open Go Go.Gw
set_option linter.unusedVariables false
set_option linter.unusedSimpArgs false
theorem starErr : "*" ++ "errors.errorString" = "*errors.errorString" := by decide
theorem rowErr (u : TypeId) (h : Tryz.prog.typeName? 3 u = some "*errors.errorString") : u = 185 :=
  typeName_ptr_named (nm := "errors.errorString") (by rw [starErr]; kernel_rfl) (by kernel_rfl) (by decide) u (by rw [starErr]; exact h)
theorem gRng : Tryz.prog.globalNamed "strconv.ErrRange" = some 3 := by kernel_rfl
theorem gSyn : Tryz.prog.globalNamed "strconv.ErrSyntax" = some 2 := by kernel_rfl
theorem ers_of {W : World} {r1 r2 : List (String × DataW Unit)} (h1 : laidMet Tryz.prog (("strconv.ErrRange", Rows.laid_strconv_ErrRange) :: r1) W) (h2 : laidMet Tryz.prog (("strconv.ErrSyntax", Rows.laid_strconv_ErrSyntax) :: r2) W) : Ers W.heap.size W := by
  obtain ⟨a, s, hv, _⟩ := laid_sentinel h1 gRng (by kernel_rfl) Tryz.underlying110 rowErr Tryz.underlying185 Tryz.underlying187 rfl rfl Tryz.underlying9 (by kernel_rfl) (by kernel_rfl)
  obtain ⟨a', s', hv', _⟩ := laid_sentinel h2 gSyn (by kernel_rfl) Tryz.underlying110 rowErr Tryz.underlying185 Tryz.underlying187 rfl rfl Tryz.underlying9 (by kernel_rfl) (by kernel_rfl)
  have c1 : W.cell? ⟨3, 0, none⟩ = some (.iface 185 (.pointer (some a))) := by simpa using World.var?_cell gRng hv 0
  have c2 : W.cell? ⟨2, 0, none⟩ = some (.iface 185 (.pointer (some a'))) := by simpa using World.var?_cell gSyn hv' 0
  exact ⟨⟨_, c2, .inr ⟨_, _, rfl⟩⟩, ⟨_, c1, .inr ⟨_, _, rfl⟩⟩, ⟨World.block_lt_of_cell? W _ c2, World.block_lt_of_cell? W _ c1⟩, Nat.le_refl _⟩
theorem resRd_len (s : List UInt8) : (resRd s).1.length ≤ 20 := by
  unfold resRd
  split
  · simp
  · split
    · split
      · rename_i h; exact pln_len h
      · simp
    · simp
section
end
end Go.Proofs.YtcbpiaehkodliaaGreatDoor

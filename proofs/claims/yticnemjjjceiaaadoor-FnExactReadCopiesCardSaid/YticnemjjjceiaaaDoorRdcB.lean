/- Contracts: texts cut and split at a byte. -/
import Derived.Test.YticnemjjjceiaaaDoorRdcA
namespace Go.Proofs.YticnemjjjceiaaaDoor
open Go Go.Gw
set_option linter.unusedVariables false
set_option linter.unusedSimpArgs false
theorem idxB : ∀ (s : List UInt8) (c : UInt8), (Lib.indexByte s c = -1 ∧ c ∉ s) ∨ ∃ i : Nat, Lib.indexByte s c = i ∧ i < s.length ∧ s = s.take i ++ c :: s.drop (i + 1) ∧ c ∉ s.take i
  | [], c => .inl ⟨rfl, by simp⟩
  | b :: l, c => by
    by_cases h : b = c
    · subst h
      exact .inr ⟨0, by simp [Lib.indexByte], by simp, by simp, by simp⟩
    · have hb : (b == c) = false := by simpa using h
      rcases idxB l c with ⟨h1, h2⟩ | ⟨i, h1, h2, h3, h4⟩
      · refine .inl ⟨by simp [Lib.indexByte, hb, h1], fun hm => ?_⟩
        rcases List.mem_cons.1 hm with e | e
        · exact h e.symm
        · exact h2 e
      · refine .inr ⟨i + 1, ?_, by simp; omega, ?_, fun hm => ?_⟩
        · have h5 : ((i : Int) == -1) = false := by rw [beq_eq_false_iff_ne]; omega
          unfold Lib.indexByte
          rw [hb, h1, h5]; simp
        · rw [List.take_succ_cons, List.drop_succ_cons, List.cons_append, ← h3]
        · simp only [List.take_succ_cons] at hm
          rcases List.mem_cons.1 hm with e | e
          · exact h e.symm
          · exact h4 e
def cutA (s : List UInt8) (c : UInt8) : List UInt8 := if 0 ≤ Lib.indexByte s c then s.take (Lib.indexByte s c).toNat else s
def cutB (s : List UInt8) (c : UInt8) : List UInt8 := if 0 ≤ Lib.indexByte s c then s.drop (Lib.indexByte s c + 1).toNat else []
theorem cut_yes {s : List UInt8} {c : UInt8} (h : 0 ≤ Lib.indexByte s c) : cutA s c = s.take (Lib.indexByte s c).toNat ∧ cutB s c = s.drop (Lib.indexByte s c + 1).toNat ∧ Lib.indexByte s c < s.length := by
  refine ⟨by rw [cutA, if_pos h], by rw [cutB, if_pos h], ?_⟩
  rcases idxB s c with ⟨h1, _⟩ | ⟨i, h1, h2, _⟩ <;> omega
theorem cut_no {s : List UInt8} {c : UInt8} (h : ¬ 0 ≤ Lib.indexByte s c) : cutA s c = s ∧ cutB s c = [] := ⟨by rw [cutA, if_neg h], by rw [cutB, if_neg h]⟩
theorem cut_len (s : List UInt8) (c : UInt8) : (cutA s c).length ≤ s.length ∧ (cutB s c).length ≤ s.length := by
  unfold cutA cutB
  split
  · simp only [List.length_take, List.length_drop]; omega
  · simp
theorem spl_idx {s : List UInt8} {c : UInt8} (h : 0 ≤ Lib.indexByte s c) : spl c s = s.take (Lib.indexByte s c).toNat :: spl c (s.drop (Lib.indexByte s c + 1).toNat) := by
  rcases idxB s c with ⟨h1, _⟩ | ⟨i, h1, h2, h3, h4⟩
  · omega
  · rw [h1, show ((i : Int)).toNat = i by omega, show ((i : Int) + 1).toNat = i + 1 by omega]
    conv => lhs; rw [h3]
    exact spl_hit _ h4
theorem spl_none {s : List UInt8} {c : UInt8} (h : Lib.indexByte s c < 0) : spl c s = [s] := by
  rcases idxB s c with ⟨_, h2⟩ | ⟨i, h1, _⟩
  · exact spl_miss h2
  · omega
theorem wrd_cutAB (x : List UInt8) : wrd x = if (rdN (cutA x 62)).2 = true ∧ (rdN (cutB x 62)).2 = true then some ((rdN (cutA x 62)).1, (rdN (cutB x 62)).1) else none := by
  by_cases h : 0 ≤ Lib.indexByte x 62
  · rcases idxB x 62 with ⟨h1, _⟩ | ⟨i, h1, h2, h3, h4⟩
    · omega
    · have e := cut_yes h
      rw [e.1, e.2.1, h1, show ((i : Int)).toNat = i by omega, show ((i : Int) + 1).toNat = i + 1 by omega]
      conv => lhs; rw [h3]
      exact wrd_cut h4
  · have e := cut_no h
    rcases idxB x 62 with ⟨_, h2⟩ | ⟨i, h1, _⟩
    · rw [e.1, e.2, rd_nil, wrd_uncut h2, if_neg (by simp)]
    · omega
theorem dropAt {s : List UInt8} {i : Nat} (h : i < s.length) : s.drop i = s.getD i 0 :: s.drop (i + 1) := by
  rw [List.drop_eq_getElem_cons h, List.getD_eq_getElem?_getD, List.getElem?_eq_getElem h]; rfl
theorem takeDrop {s : List UInt8} {i f : Nat} (h : i < s.length) (hf : f ≤ i) : (s.take (i + 1)).drop f = (s.take i).drop f ++ [s.getD i 0] := by
  rw [List.take_add_one, List.getElem?_eq_getElem h, List.drop_append_of_le_length (by rw [List.length_take]; omega), List.getD_eq_getElem?_getD, List.getElem?_eq_getElem h]; rfl
theorem glue_cons (a b : List UInt8) (l : List (List UInt8)) : glue a (b :: l) = (a ++ b) :: l := rfl
/-- the next byte is the mark -/
theorem spl_go {s : List UInt8} {c : UInt8} {i f : Nat} {D : List (List UInt8)} (h : i < s.length) (hf : f ≤ i) (hc : s.getD i 0 = c) (hD : D ++ glue ((s.take i).drop f) (spl c (s.drop i)) = spl c s) : (D ++ [(s.take i).drop f]) ++ glue ((s.take (i + 1)).drop (i + 1)) (spl c (s.drop (i + 1))) = spl c s := by
  rw [dropAt h, hc, spl_cons_eq, glue_cons, List.append_nil] at hD
  rw [show (s.take (i + 1)).drop (i + 1) = [] by rw [List.drop_eq_nil_of_le (by rw [List.length_take]; omega)], glue_nil _ (spl_ne _ _), ← hD, List.append_assoc]; rfl
theorem spl_on {s : List UInt8} {c : UInt8} {i f : Nat} {D : List (List UInt8)} (h : i < s.length) (hf : f ≤ i) (hc : s.getD i 0 ≠ c) (hD : D ++ glue ((s.take i).drop f) (spl c (s.drop i)) = spl c s) : D ++ glue ((s.take (i + 1)).drop f) (spl c (s.drop (i + 1))) = spl c s := by
  rw [dropAt h, spl_cons_ne _ hc, glue_glue _ _ _ (spl_ne _ _)] at hD
  rw [takeDrop h hf]; exact hD
theorem spl_end {s : List UInt8} {c : UInt8} {i f : Nat} {D : List (List UInt8)} (h : s.length ≤ i) (hD : D ++ glue ((s.take i).drop f) (spl c (s.drop i)) = spl c s) : D ++ [s.drop f] = spl c s := by
  have e1 : s.drop i = [] := List.drop_eq_nil_of_le h
  rw [e1, List.take_of_length_le h] at hD
  rw [← hD]; simp [spl, glue]
section
variable {w : World} {lo hi B : Nat} {v : Value} {s : List UInt8}
theorem CutLite_c (s : List UInt8) (hs : s.length ≤ 9000000000000000000 := by omega) : Val Tryd.prog 22 [str s, str [62]] w (.tuple #[str (cutA s 62), str (cutB s 62), .bool (decide (0 ≤ Lib.indexByte s 62))]) := by
  refine ⟨fun w1 hx1 => ?_⟩
  have E : Since 0 0 w1 w1 := Since.refl 0 0 w1
  have h62 : ([62] : List UInt8).length = 1 := rfl
  by_cases h0 : 0 ≤ Lib.indexByte s 62
  · have e := cut_yes h0
    refine ret_enter Tryd.func22 rfl Tryd.ntmps22 rfl ?_
    focus
      refine c_seq ?_
      refine c_region ?_
      refine w_pure (y_assign rfl) rfl ?_
      refine w_pure (y_assign rfl) rfl ?_
      refine w_pure (y_assign rfl) rfl ?_
      refine w_nil ?_
      refine x_next ?_
      refine c_seq ?_
      refine c_seq ?_
      refine c_region ?_
      refine w_pure (y_move rfl) rfl ?_
      refine w_pure (y_move rfl) rfl ?_
      refine w_pur rfl rfl rfl (IndexLite_c _ _) rfl ?_
      refine w_pure (y_assign rfl) rfl ?_
      refine w_nil ?_
      refine x_next ?_
      refine c_seq ?_
      refine c_region ?_
      refine w_pure (y_move rfl) rfl ?_
      refine w_pure (y_ge rfl rfl) rfl ?_
      refine w_nil ?_
      refine x_next ?_
      (refine c_dec rfl (fun hc12 => ?_) (fun hc12 => ?_) <;> try (first | exact absurd rfl hc12 | contradiction | exact Bool.noConfusion (show false = true from hc12.symm.trans (by assumption)) | exact Bool.noConfusion (show true = false from hc12.symm.trans (by assumption)) | (exfalso; omega) | (exfalso; simp only [*, Bool.not_true, Bool.not_false, reduceCtorEq] at hc12; done)))
      refine c_seq ?_
      refine c_region_calm mixed (by decide +kernel) (by kernel_rfl) ?_
      refine q_pure (y_move rfl) rfl ?_
      refine q_pure (y_move rfl) rfl ?_
      refine q_pure (y_part_str rfl (.inl ⟨rfl, rfl⟩) (.inr ⟨_, _, rfl, rfl⟩)) rfl ?_
      refine q_pure (y_move rfl) rfl ?_
      refine q_pure (y_move rfl) rfl ?_
      refine q_pure (y_move rfl) rfl ?_
      refine q_pure (y_slen rfl) rfl ?_
      refine q_pure (y_add rfl rfl) rfl ?_
      refine q_pure (y_part_str rfl (.inr ⟨_, _, rfl, rfl⟩) (.inl ⟨rfl, rfl⟩)) rfl ?_
      refine q_pure (y_assign rfl) rfl ?_
      refine q_pure (y_assign rfl) rfl ?_
      refine q_pure (y_assign rfl) rfl ?_
      refine q_nil (fun ws38 hxs38 hzs38 => ?_)
      have hz_hxs38 := hxs38.size
      replace E := E.trans hxs38
      refine x_next ?_
      refine c_ret ?_
      refine x_then_ret ?_
      rotate_left
    all_goals first
      | exact x_retv [_, _, _] rfl ⟨rfl, rfl, rfl, trivial⟩ ⟨by rw [e.1, e.2.1, decide_eq_true h0]; first | rfl | (simp; rfl), E.go⟩
  · have e := cut_no h0
    refine ret_enter Tryd.func22 rfl Tryd.ntmps22 rfl ?_
    focus
      refine c_seq ?_
      refine c_region ?_
      refine w_pure (y_assign rfl) rfl ?_
      refine w_pure (y_assign rfl) rfl ?_
      refine w_pure (y_assign rfl) rfl ?_
      refine w_nil ?_
      refine x_next ?_
      refine c_seq ?_
      refine c_seq ?_
      refine c_region ?_
      refine w_pure (y_move rfl) rfl ?_
      refine w_pure (y_move rfl) rfl ?_
      refine w_pur rfl rfl rfl (IndexLite_c _ _) rfl ?_
      refine w_pure (y_assign rfl) rfl ?_
      refine w_nil ?_
      refine x_next ?_
      refine c_seq ?_
      refine c_region ?_
      refine w_pure (y_move rfl) rfl ?_
      refine w_pure (y_ge rfl rfl) rfl ?_
      refine w_nil ?_
      refine x_next ?_
      (refine c_dec rfl (fun hc12 => ?_) (fun hc12 => ?_) <;> try (first | exact absurd rfl hc12 | contradiction | exact Bool.noConfusion (show false = true from hc12.symm.trans (by assumption)) | exact Bool.noConfusion (show true = false from hc12.symm.trans (by assumption)) | (exfalso; omega) | (exfalso; simp only [*, Bool.not_true, Bool.not_false, reduceCtorEq] at hc12; done)))
      refine c_skip ?_
      refine x_next ?_
      refine c_seq ?_
      refine c_region ?_
      refine w_pure (y_move rfl) rfl ?_
      refine w_pure (y_assign rfl) rfl ?_
      refine w_pure (y_assign rfl) rfl ?_
      refine w_pure (y_assign rfl) rfl ?_
      refine w_nil ?_
      refine x_next ?_
      refine c_ret ?_
      rotate_left
    all_goals first
      | exact x_retv [_, _, _] rfl ⟨rfl, rfl, rfl, trivial⟩ ⟨by rw [e.1, e.2, decide_eq_false h0]; rfl, E.go⟩
theorem Cut_c (s : List UInt8) (hs : s.length ≤ 9000000000000000000 := by omega) : Val Tryd.prog 13 [str s, str [62]] w (.tuple #[str (cutA s 62), str (cutB s 62), .bool (decide (0 ≤ Lib.indexByte s 62))]) := by
  refine ⟨fun w1 hx1 => ?_⟩
  have E : Since 0 0 w1 w1 := Since.refl 0 0 w1
  refine ret_enter Tryd.func13 rfl Tryd.ntmps13 rfl ?_
  focus
    refine c_seq ?_
    refine c_region ?_
    refine w_pure (y_assign rfl) rfl ?_
    refine w_pure (y_assign rfl) rfl ?_
    refine w_pure (y_assign rfl) rfl ?_
    refine w_nil ?_
    refine x_next ?_
    refine c_seq ?_
    refine c_region ?_
    refine w_pure (y_move rfl) rfl ?_
    refine w_pure (y_move rfl) rfl ?_
    refine w_val rfl rfl rfl (CutLite_c _) rfl (fun w9 hx9 hz9 => ?_)
    have hz_hx9 := hx9.size
    replace E := E.trans hx9
    refine w_pure (y_extract rfl rfl) rfl ?_
    refine w_pure (y_extract rfl rfl) rfl ?_
    refine w_pure (y_extract rfl rfl) rfl ?_
    refine w_pure (y_assign rfl) rfl ?_
    refine w_pure (y_assign rfl) rfl ?_
    refine w_pure (y_assign rfl) rfl ?_
    refine w_nil ?_
    refine x_next ?_
    refine c_ret ?_
    rotate_left
  all_goals first | exact x_retv [_, _, _] rfl ⟨rfl, rfl, rfl, trivial⟩ ⟨rfl, E.go⟩
theorem l01Split32_c (s : List UInt8) (hs : s.length ≤ 1048576 := by omega) : Ret Tryd.prog 9 [str s, .int .u8 32] w fun u w' => Own w' 9 w.heap.size u (spl 32 s) ∧ Ext w w' := by
  have E : Since 0 0 w w := Since.refl 0 0 w
  refine ret_enter Tryd.func9 rfl Tryd.ntmps9 rfl ?_
  focus
    refine c_seq ?_
    refine c_region ?_
    refine w_pure (y_assign rfl) rfl ?_
    refine w_nil ?_
    refine x_next ?_
    refine c_seq ?_
    refine c_region ?_
    refine w_lit_s0 rfl (k := fun v8 w8 ho8 hx8 hl8 hh8 hs8 => ?_)
    have hl_ho8 := ho8.lt
    have hz_hx8 := hx8.size
    replace E := E.trans hx8
    refine w_pure (y_assign rfl) rfl ?_
    refine w_nil ?_
    refine x_next ?_
    refine c_seq ?_
    refine c_region ?_
    refine w_pure (y_assign rfl) rfl ?_
    refine w_nil ?_
    refine x_next ?_
    refine c_seq ?_
    refine c_seq ?_
    refine c_region ?_
    refine w_pure (y_assign rfl) rfl ?_
    refine w_nil ?_
    refine x_next ?_
    refine c_block ?_
    rotate_left
  refine c_loopC (bL v8) (bH v8) (ι := Value × List (List UInt8) × Int × Int) (fun x => [(0, str s), (1, .int .u8 32), (5, x.1), (6, .int .i64 x.2.2.1), (7, .int .i64 x.2.2.2)])
    (fun x w' => Own w' 9 w.heap.size x.1 x.2.1 ∧ ((bL x.1 = bL v8 ∧ bH x.1 = bH v8) ∨ w8.heap.size ≤ bL x.1) ∧ (0 ≤ x.2.2.1 ∧ x.2.2.1 ≤ x.2.2.2 ∧ x.2.2.2 ≤ s.length) ∧ x.2.1.length ≤ x.2.2.2 ∧ x.2.1 ++ glue ((s.take x.2.2.2.toNat).drop x.2.2.1.toNat) (spl 32 (s.drop x.2.2.2.toNat)) = spl 32 s ∧ Since 0 0 w w') (fun x => (s.length - x.2.2.2).toNat) (v8, [], 0, 0)
    (by repeat (first | exact trivial | refine ⟨rfl, ?_⟩)) ⟨Own.base (by assumption) (by omega), .inl ⟨rfl, rfl⟩, by dsimp only; omega, by simp, by simpa using glue_nil _ (spl_ne _ _), by assumption⟩ ?_
  clear ho8 E
  rintro ⟨u, D, f, i⟩ wL hxL EL ⟨g1, g2, g3, g4, g5, E⟩
  dsimp only at *
  have hzL := hxL.size
  focus
    have hl_g1 := g1.lt
    refine c_seq ?_
    refine c_seq ?_
    refine c_region ?_
    refine w_pure (y_move rfl) rfl ?_
    refine w_pure (y_move rfl) rfl ?_
    refine w_pure (y_slen rfl) rfl ?_
    refine w_pure (y_lt rfl rfl) rfl ?_
    refine w_nil ?_
    refine x_next ?_
    (refine c_dec rfl (fun hc12 => ?_) (fun hc12 => ?_) <;> try (first | exact absurd rfl hc12 | contradiction | exact Bool.noConfusion (show false = true from hc12.symm.trans (by assumption)) | exact Bool.noConfusion (show true = false from hc12.symm.trans (by assumption)) | (exfalso; omega) | (exfalso; simp only [*, Bool.not_true, Bool.not_false, reduceCtorEq] at hc12; done)))
    refine c_skip ?_
    refine x_next ?_
    refine c_seq ?_
    refine c_block ?_
    refine c_seq ?_
    refine c_region ?_
    refine w_pure (y_move rfl) rfl ?_
    refine w_pure (y_move rfl) rfl ?_
    refine w_pure (y_at_str rfl rfl) rfl ?_
    refine w_pure (y_move rfl) rfl ?_
    refine w_pure (y_eq rfl rfl) rfl ?_
    refine w_nil ?_
    refine x_next ?_
    (refine c_dec rfl (fun hc19 => ?_) (fun hc19 => ?_) <;> try (first | exact absurd rfl hc19 | contradiction | exact Bool.noConfusion (show false = true from hc19.symm.trans (by assumption)) | exact Bool.noConfusion (show true = false from hc19.symm.trans (by assumption)) | (exfalso; omega) | (exfalso; simp only [*, Bool.not_true, Bool.not_false, reduceCtorEq] at hc19; done)))
    refine c_seq ?_
    refine c_region ?_
    refine w_pure (y_move rfl) rfl ?_
    refine w_pure (y_move rfl) rfl ?_
    refine w_pure (y_move rfl) rfl ?_
    refine w_pure (y_move rfl) rfl ?_
    refine w_pure (y_part_str rfl (.inr ⟨_, _, rfl, rfl⟩) (.inr ⟨_, _, rfl, rfl⟩)) rfl ?_
    refine w_lit (α := (List UInt8)) rfl rfl rfl rfl rfl rfl rfl rfl (fun v25 w25 ho25 hx25 hl25 hh25 hs25 => ?_)
    have hl_ho25 := ho25.lt
    have hz_hx25 := hx25.size
    replace EL := EL.next hx25 (by omega)
    replace g1 := g1.ext hx25
    replace E := E.trans hx25
    refine w_append rfl rfl (k := fun v26 w26 ho26 hx26 hr26 => ?_)
    have hl_ho26 := ho26.lt
    have hz_hx26 := hx26.size
    replace ho25 := ho25.chg hx26 (by omega)
    replace EL := EL.next hx26 (by omega)
    replace E := E.next hx26 (by omega)
    refine w_pure (y_assign rfl) rfl ?_
    refine w_nil ?_
    refine x_next ?_
    refine c_region ?_
    refine w_pure (y_move rfl) rfl ?_
    refine w_pure (y_add rfl rfl) rfl ?_
    refine w_pure (y_assign rfl) rfl ?_
    refine w_nil ?_
    refine x_block_norm ?_
    refine x_next ?_
    refine c_region ?_
    refine w_pure (y_move rfl) rfl ?_
    refine w_pure (y_add rfl rfl) rfl ?_
    refine w_pure (y_assign rfl) rfl ?_
    refine w_nil ?_
    rotate_left
    refine c_skip ?_
    refine x_block_norm ?_
    refine x_next ?_
    refine c_region ?_
    refine w_pure (y_move rfl) rfl ?_
    refine w_pure (y_add rfl rfl) rfl ?_
    refine w_pure (y_assign rfl) rfl ?_
    refine w_nil ?_
    rotate_left
    refine c_exit ?_
    refine x_then_exit ?_
    refine x_then_exit ?_
    refine x_block_hit ?_
    refine x_next ?_
    refine c_seq ?_
    refine c_region ?_
    refine w_pure (y_move rfl) rfl ?_
    refine w_pure (y_move rfl) rfl ?_
    refine w_pure (y_move rfl) rfl ?_
    refine w_pure (y_part_str rfl (.inr ⟨_, _, rfl, rfl⟩) (.inl ⟨rfl, rfl⟩)) rfl ?_
    refine w_lit (α := (List UInt8)) rfl rfl rfl rfl rfl rfl rfl rfl (fun v33 w33 ho33 hx33 hl33 hh33 hs33 => ?_)
    have hl_ho33 := ho33.lt
    have hz_hx33 := hx33.size
    replace EL := EL.next hx33 (by omega)
    replace g1 := g1.ext hx33
    replace E := E.trans hx33
    refine w_append rfl rfl (k := fun v34 w34 ho34 hx34 hr34 => ?_)
    have hl_ho34 := ho34.lt
    have hz_hx34 := hx34.size
    replace ho33 := ho33.chg hx34 (by omega)
    replace EL := EL.next hx34 (by omega)
    replace E := E.next hx34 (by omega)
    refine w_pure (y_assign rfl) rfl ?_
    refine w_nil ?_
    refine x_next ?_
    refine c_ret ?_
    rotate_left
  · have hb : s.getD i.toNat 0 = 32 := by
      have := hc19
      apply UInt8.toNat_inj.1
      show _ = 32
      omega
    have e := spl_go (D := D) (i := i.toNat) (f := f.toNat) (by omega) (by omega) hb g5
    exact x_again (v26, D ++ [_], i + 1, i + 1) (by repeat (first | exact trivial | refine ⟨rfl, ?_⟩)) ⟨EL.go, by assumption, by dsimp only; omega, by dsimp only; omega, by dsimp only; rw [List.length_append, List.length_singleton]; omega, by dsimp only; rw [show (i + 1).toNat = i.toNat + 1 by omega]; exact e, by assumption⟩ (by dsimp only; omega)
  · have hb : s.getD i.toNat 0 ≠ 32 := fun e => hc19 (by rw [e]; rfl)
    have e := spl_on (D := D) (i := i.toNat) (f := f.toNat) (by omega) (by omega) hb g5
    exact x_again (u, D, f, i + 1) (by repeat (first | exact trivial | refine ⟨rfl, ?_⟩)) ⟨EL.go, by assumption, by dsimp only; omega, by dsimp only; omega, by dsimp only; omega, by dsimp only; rw [show (i + 1).toNat = i.toNat + 1 by omega]; exact e, by assumption⟩ (by dsimp only; omega)
  · have e := spl_end (D := D) (i := i.toNat) (f := f.toNat) (by omega) g5
    refine x_retv [_] rfl ⟨rfl, trivial⟩ ⟨?_, E.go⟩
    rw [← e]
    have e2 : List.drop f.toNat (List.take (s.length : Int).toNat s) = s.drop f.toNat := by rw [List.take_of_length_le (by omega)]
    rw [← e2]; assumption
theorem l01Split62_c (s : List UInt8) (hs : s.length ≤ 1048576 := by omega) : Ret Tryd.prog 9 [str s, .int .u8 62] w fun u w' => Own w' 9 w.heap.size u (spl 62 s) ∧ Ext w w' := by
  have E : Since 0 0 w w := Since.refl 0 0 w
  refine ret_enter Tryd.func9 rfl Tryd.ntmps9 rfl ?_
  focus
    refine c_seq ?_
    refine c_region ?_
    refine w_pure (y_assign rfl) rfl ?_
    refine w_nil ?_
    refine x_next ?_
    refine c_seq ?_
    refine c_region ?_
    refine w_lit_s0 rfl (k := fun v8 w8 ho8 hx8 hl8 hh8 hs8 => ?_)
    have hl_ho8 := ho8.lt
    have hz_hx8 := hx8.size
    replace E := E.trans hx8
    refine w_pure (y_assign rfl) rfl ?_
    refine w_nil ?_
    refine x_next ?_
    refine c_seq ?_
    refine c_region ?_
    refine w_pure (y_assign rfl) rfl ?_
    refine w_nil ?_
    refine x_next ?_
    refine c_seq ?_
    refine c_seq ?_
    refine c_region ?_
    refine w_pure (y_assign rfl) rfl ?_
    refine w_nil ?_
    refine x_next ?_
    refine c_block ?_
    rotate_left
  refine c_loopC (bL v8) (bH v8) (ι := Value × List (List UInt8) × Int × Int) (fun x => [(0, str s), (1, .int .u8 62), (5, x.1), (6, .int .i64 x.2.2.1), (7, .int .i64 x.2.2.2)])
    (fun x w' => Own w' 9 w.heap.size x.1 x.2.1 ∧ ((bL x.1 = bL v8 ∧ bH x.1 = bH v8) ∨ w8.heap.size ≤ bL x.1) ∧ (0 ≤ x.2.2.1 ∧ x.2.2.1 ≤ x.2.2.2 ∧ x.2.2.2 ≤ s.length) ∧ x.2.1.length ≤ x.2.2.2 ∧ x.2.1 ++ glue ((s.take x.2.2.2.toNat).drop x.2.2.1.toNat) (spl 62 (s.drop x.2.2.2.toNat)) = spl 62 s ∧ Since 0 0 w w') (fun x => (s.length - x.2.2.2).toNat) (v8, [], 0, 0)
    (by repeat (first | exact trivial | refine ⟨rfl, ?_⟩)) ⟨Own.base (by assumption) (by omega), .inl ⟨rfl, rfl⟩, by dsimp only; omega, by simp, by simpa using glue_nil _ (spl_ne _ _), by assumption⟩ ?_
  clear ho8 E
  rintro ⟨u, D, f, i⟩ wL hxL EL ⟨g1, g2, g3, g4, g5, E⟩
  dsimp only at *
  have hzL := hxL.size
  focus
    have hl_g1 := g1.lt
    refine c_seq ?_
    refine c_seq ?_
    refine c_region ?_
    refine w_pure (y_move rfl) rfl ?_
    refine w_pure (y_move rfl) rfl ?_
    refine w_pure (y_slen rfl) rfl ?_
    refine w_pure (y_lt rfl rfl) rfl ?_
    refine w_nil ?_
    refine x_next ?_
    (refine c_dec rfl (fun hc12 => ?_) (fun hc12 => ?_) <;> try (first | exact absurd rfl hc12 | contradiction | exact Bool.noConfusion (show false = true from hc12.symm.trans (by assumption)) | exact Bool.noConfusion (show true = false from hc12.symm.trans (by assumption)) | (exfalso; omega) | (exfalso; simp only [*, Bool.not_true, Bool.not_false, reduceCtorEq] at hc12; done)))
    refine c_skip ?_
    refine x_next ?_
    refine c_seq ?_
    refine c_block ?_
    refine c_seq ?_
    refine c_region ?_
    refine w_pure (y_move rfl) rfl ?_
    refine w_pure (y_move rfl) rfl ?_
    refine w_pure (y_at_str rfl rfl) rfl ?_
    refine w_pure (y_move rfl) rfl ?_
    refine w_pure (y_eq rfl rfl) rfl ?_
    refine w_nil ?_
    refine x_next ?_
    (refine c_dec rfl (fun hc19 => ?_) (fun hc19 => ?_) <;> try (first | exact absurd rfl hc19 | contradiction | exact Bool.noConfusion (show false = true from hc19.symm.trans (by assumption)) | exact Bool.noConfusion (show true = false from hc19.symm.trans (by assumption)) | (exfalso; omega) | (exfalso; simp only [*, Bool.not_true, Bool.not_false, reduceCtorEq] at hc19; done)))
    refine c_seq ?_
    refine c_region ?_
    refine w_pure (y_move rfl) rfl ?_
    refine w_pure (y_move rfl) rfl ?_
    refine w_pure (y_move rfl) rfl ?_
    refine w_pure (y_move rfl) rfl ?_
    refine w_pure (y_part_str rfl (.inr ⟨_, _, rfl, rfl⟩) (.inr ⟨_, _, rfl, rfl⟩)) rfl ?_
    refine w_lit (α := (List UInt8)) rfl rfl rfl rfl rfl rfl rfl rfl (fun v25 w25 ho25 hx25 hl25 hh25 hs25 => ?_)
    have hl_ho25 := ho25.lt
    have hz_hx25 := hx25.size
    replace EL := EL.next hx25 (by omega)
    replace g1 := g1.ext hx25
    replace E := E.trans hx25
    refine w_append rfl rfl (k := fun v26 w26 ho26 hx26 hr26 => ?_)
    have hl_ho26 := ho26.lt
    have hz_hx26 := hx26.size
    replace ho25 := ho25.chg hx26 (by omega)
    replace EL := EL.next hx26 (by omega)
    replace E := E.next hx26 (by omega)
    refine w_pure (y_assign rfl) rfl ?_
    refine w_nil ?_
    refine x_next ?_
    refine c_region ?_
    refine w_pure (y_move rfl) rfl ?_
    refine w_pure (y_add rfl rfl) rfl ?_
    refine w_pure (y_assign rfl) rfl ?_
    refine w_nil ?_
    refine x_block_norm ?_
    refine x_next ?_
    refine c_region ?_
    refine w_pure (y_move rfl) rfl ?_
    refine w_pure (y_add rfl rfl) rfl ?_
    refine w_pure (y_assign rfl) rfl ?_
    refine w_nil ?_
    rotate_left
    refine c_skip ?_
    refine x_block_norm ?_
    refine x_next ?_
    refine c_region ?_
    refine w_pure (y_move rfl) rfl ?_
    refine w_pure (y_add rfl rfl) rfl ?_
    refine w_pure (y_assign rfl) rfl ?_
    refine w_nil ?_
    rotate_left
    refine c_exit ?_
    refine x_then_exit ?_
    refine x_then_exit ?_
    refine x_block_hit ?_
    refine x_next ?_
    refine c_seq ?_
    refine c_region ?_
    refine w_pure (y_move rfl) rfl ?_
    refine w_pure (y_move rfl) rfl ?_
    refine w_pure (y_move rfl) rfl ?_
    refine w_pure (y_part_str rfl (.inr ⟨_, _, rfl, rfl⟩) (.inl ⟨rfl, rfl⟩)) rfl ?_
    refine w_lit (α := (List UInt8)) rfl rfl rfl rfl rfl rfl rfl rfl (fun v33 w33 ho33 hx33 hl33 hh33 hs33 => ?_)
    have hl_ho33 := ho33.lt
    have hz_hx33 := hx33.size
    replace EL := EL.next hx33 (by omega)
    replace g1 := g1.ext hx33
    replace E := E.trans hx33
    refine w_append rfl rfl (k := fun v34 w34 ho34 hx34 hr34 => ?_)
    have hl_ho34 := ho34.lt
    have hz_hx34 := hx34.size
    replace ho33 := ho33.chg hx34 (by omega)
    replace EL := EL.next hx34 (by omega)
    replace E := E.next hx34 (by omega)
    refine w_pure (y_assign rfl) rfl ?_
    refine w_nil ?_
    refine x_next ?_
    refine c_ret ?_
    rotate_left
  · have hb : s.getD i.toNat 0 = 62 := by
      have := hc19
      apply UInt8.toNat_inj.1
      show _ = 62
      omega
    have e := spl_go (D := D) (i := i.toNat) (f := f.toNat) (by omega) (by omega) hb g5
    exact x_again (v26, D ++ [_], i + 1, i + 1) (by repeat (first | exact trivial | refine ⟨rfl, ?_⟩)) ⟨EL.go, by assumption, by dsimp only; omega, by dsimp only; omega, by dsimp only; rw [List.length_append, List.length_singleton]; omega, by dsimp only; rw [show (i + 1).toNat = i.toNat + 1 by omega]; exact e, by assumption⟩ (by dsimp only; omega)
  · have hb : s.getD i.toNat 0 ≠ 62 := fun e => hc19 (by rw [e]; rfl)
    have e := spl_on (D := D) (i := i.toNat) (f := f.toNat) (by omega) (by omega) hb g5
    exact x_again (u, D, f, i + 1) (by repeat (first | exact trivial | refine ⟨rfl, ?_⟩)) ⟨EL.go, by assumption, by dsimp only; omega, by dsimp only; omega, by dsimp only; omega, by dsimp only; rw [show (i + 1).toNat = i.toNat + 1 by omega]; exact e, by assumption⟩ (by dsimp only; omega)
  · have e := spl_end (D := D) (i := i.toNat) (f := f.toNat) (by omega) g5
    refine x_retv [_] rfl ⟨rfl, trivial⟩ ⟨?_, E.go⟩
    rw [← e]
    have e2 : List.drop f.toNat (List.take (s.length : Int).toNat s) = s.drop f.toNat := by rw [List.take_of_length_le (by omega)]
    rw [← e2]; assumption
theorem set_rep {D : List (List UInt8)} {k i : Nat} {y : List UInt8} (hi : D.length = i) (hk : i < k) : (D ++ List.replicate (k - i) []).set i y = (D ++ [y]) ++ List.replicate (k - (i + 1)) [] := by
  subst hi
  rw [List.set_append_right _ _ (Nat.le_refl _), Nat.sub_self, show k - D.length = (k - (D.length + 1)) + 1 by omega, List.replicate_succ, List.set_cons_zero, List.append_assoc]; rfl
theorem genSplit_c (s : List UInt8) (hs : s.length ≤ 1048576 := by omega) : Ret Tryd.prog 21 [str s, str [32], .int .i64 0, .int .i64 (-1)] w fun u w' => ∃ l h, SL w' l h u (spl 32 s) ∧ w.heap.size ≤ l ∧ Ext w w' := by
  have h32 : ([32] : List UInt8).length = 1 := rfl
  have hct := List.count_le_length (a := (32 : UInt8)) (l := s)
  have hsl := spl_len 32 s
  have E : Since 0 0 w w := Since.refl 0 0 w
  refine ret_enter Tryd.func21 rfl Tryd.ntmps21 rfl ?_
  focus
    refine c_seq ?_
    refine c_region ?_
    refine w_pure (y_assign rfl) rfl ?_
    refine w_nil ?_
    refine x_next ?_
    refine c_seq ?_
    refine c_seq ?_
    refine c_region ?_
    refine w_pure (y_move rfl) rfl ?_
    refine w_pure (y_eq rfl rfl) rfl ?_
    refine w_nil ?_
    refine x_next ?_
    refine c_false rfl ?_
    refine c_skip ?_
    refine x_next ?_
    refine c_seq ?_
    refine c_seq ?_
    refine c_region ?_
    refine w_pure (y_move rfl) rfl ?_
    refine w_pure (y_seq rfl rfl) rfl ?_
    refine w_nil ?_
    refine x_next ?_
    refine c_false rfl ?_
    refine c_skip ?_
    refine x_next ?_
    refine c_seq ?_
    refine c_seq ?_
    refine c_region ?_
    refine w_pure (y_move rfl) rfl ?_
    refine w_pure (y_lt rfl rfl) rfl ?_
    refine w_nil ?_
    refine x_next ?_
    refine c_true rfl ?_
    refine c_region ?_
    refine w_pure (y_move rfl) rfl ?_
    refine w_pure (y_move rfl) rfl ?_
    refine w_pur rfl rfl rfl (Count_c _ _) rfl ?_
    refine w_pure (y_add rfl rfl) rfl ?_
    refine w_pure (y_assign rfl) rfl ?_
    refine w_nil ?_
    refine x_next ?_
    refine c_seq ?_
    refine c_region ?_
    refine w_pure (y_move rfl) rfl ?_
    refine w_pure (y_move rfl) rfl ?_
    refine w_pure (y_slen rfl) rfl ?_
    refine w_pure (y_add rfl rfl) rfl ?_
    refine w_pure (y_min rfl rfl) rfl ?_
    refine w_pure (y_assign rfl) rfl ?_
    refine w_nil ?_
    refine x_next ?_
    refine c_seq ?_
    refine c_region ?_
    refine w_pure (y_move rfl) rfl ?_
    refine w_make (α := List UInt8) rfl rfl (k := fun v31 w31 ho31 hx31 hl31 hh31 hs31 => ?_)
    have hl_ho31 := ho31.lt
    have hz_hx31 := hx31.size
    replace E := E.trans hx31
    refine w_pure (y_assign rfl) rfl ?_
    refine w_nil ?_
    refine x_next ?_
    refine c_seq ?_
    refine c_region ?_
    refine w_pure (y_move rfl) rfl ?_
    refine w_pure (y_sub rfl rfl) rfl ?_
    refine w_pure (y_assign rfl) rfl ?_
    refine w_nil ?_
    refine x_next ?_
    refine c_seq ?_
    refine c_region ?_
    refine w_pure (y_assign rfl) rfl ?_
    refine w_nil ?_
    refine x_next ?_
    refine c_seq ?_
    refine c_block ?_
    rotate_left
  have hK : (min ((s.count 32 : Int) + 1) ((s.length : Int) + 1)).toNat = s.count 32 + 1 := by omega
  rw [hK] at ho31
  refine c_loopC (bL v31) (bH v31) (ι := List UInt8 × List (List UInt8) × Int) (fun x => [(0, str x.1), (1, str [32]), (2, .int .i64 0), (3, .int .i64 (min ((s.count 32 : Int) + 1) ((s.length : Int) + 1) - 1)), (9, v31), (10, .int .i64 x.2.2)])
    (fun x w' => Own w' 9 w.heap.size v31 (x.2.1 ++ List.replicate (s.count 32 + 1 - x.2.1.length) []) ∧ x.2.1 ++ spl 32 x.1 = spl 32 s ∧ x.1.length ≤ s.length ∧ (x.2.1.length : Int) = x.2.2 ∧ Since 0 0 w w') (fun x => s.count 32 - x.2.1.length) (s, [], 0)
    (by repeat (first | exact trivial | refine ⟨rfl, ?_⟩)) ⟨Own.base ho31 (by omega), rfl, Nat.le_refl _, rfl, by assumption⟩ ?_
  clear ho31 E
  rintro ⟨r, D, i⟩ wL hxL EL ⟨g1, g2, g3, g4, E⟩
  dsimp only at *
  have hzL := hxL.size
  have hl := congrArg List.length g2
  rw [List.length_append, spl_len, spl_len] at hl
  have hlr : (D ++ List.replicate (s.count 32 + 1 - D.length) ([] : List UInt8)).length = s.count 32 + 1 := by rw [List.length_append, List.length_replicate]; omega
  by_cases hlt : D.length < s.count 32
  · have hi0 : 0 ≤ Lib.indexByte r 32 := by
      apply Decidable.byContradiction
      intro hn
      have e := congrArg List.length (spl_none (s := r) (c := 32) (by omega))
      rw [spl_len] at e
      simp at e; omega
    have hi1 := cut_yes hi0
    have hi2 := hi1.2.2
    clear hi1
    have hst := set_rep (y := r.take (Lib.indexByte r 32 + 0).toNat) (D := D) (k := s.count 32 + 1) (i := i.toNat) (by omega) (by omega)
    have hsp := spl_idx hi0
    focus
      have hl_g1 := g1.lt
      refine c_seq ?_
      refine c_seq ?_
      refine c_region ?_
      refine w_pure (y_move rfl) rfl ?_
      refine w_pure (y_move rfl) rfl ?_
      refine w_pure (y_lt rfl rfl) rfl ?_
      refine w_nil ?_
      refine x_next ?_
      (refine c_dec rfl (fun hc36 => ?_) (fun hc36 => ?_) <;> try (first | exact absurd rfl hc36 | contradiction | exact Bool.noConfusion (show false = true from hc36.symm.trans (by assumption)) | exact Bool.noConfusion (show true = false from hc36.symm.trans (by assumption)) | (exfalso; omega) | (exfalso; simp only [*, Bool.not_true, Bool.not_false, reduceCtorEq] at hc36; done)))
      refine c_skip ?_
      refine x_next ?_
      refine c_block ?_
      refine c_seq ?_
      refine c_region ?_
      refine w_pure (y_move rfl) rfl ?_
      refine w_pure (y_move rfl) rfl ?_
      refine w_pur rfl rfl rfl (Index_c _ _) rfl ?_
      refine w_pure (y_assign rfl) rfl ?_
      refine w_nil ?_
      refine x_next ?_
      refine c_seq ?_
      refine c_seq ?_
      refine c_region ?_
      refine w_pure (y_move rfl) rfl ?_
      refine w_pure (y_lt rfl rfl) rfl ?_
      refine w_nil ?_
      refine x_next ?_
      (refine c_dec rfl (fun hc41 => ?_) (fun hc41 => ?_) <;> try (first | exact absurd rfl hc41 | contradiction | exact Bool.noConfusion (show false = true from hc41.symm.trans (by assumption)) | exact Bool.noConfusion (show true = false from hc41.symm.trans (by assumption)) | (exfalso; omega) | (exfalso; simp only [*, Bool.not_true, Bool.not_false, reduceCtorEq] at hc41; done)))
      refine c_skip ?_
      refine x_next ?_
      refine c_seq ?_
      refine c_region ?_
      refine w_pure (y_move rfl) rfl ?_
      refine w_pure (y_move rfl) rfl ?_
      refine w_pure (y_move rfl) rfl ?_
      refine w_pure (y_move rfl) rfl ?_
      refine w_pure (y_move rfl) rfl ?_
      refine w_pure (y_add rfl rfl) rfl ?_
      refine w_pure (y_part_str rfl (.inl ⟨rfl, rfl⟩) (.inr ⟨_, _, rfl, rfl⟩)) rfl ?_
      refine w_pure (y_index rfl rfl) rfl ?_
      refine w_store_own rfl rfl (next := fun ws41 hos41 hxs41 hss41 => ?_)
      (replace g1 := hos41; clear hos41)
      have hz_hxs41 := hxs41.size
      replace EL := EL.trans hxs41
      replace E := E.next hxs41 (by omega)
      refine w_nil ?_
      refine x_next ?_
      refine c_seq ?_
      refine c_region ?_
      refine w_pure (y_move rfl) rfl ?_
      refine w_pure (y_move rfl) rfl ?_
      refine w_pure (y_move rfl) rfl ?_
      refine w_pure (y_slen rfl) rfl ?_
      refine w_pure (y_add rfl rfl) rfl ?_
      refine w_pure (y_part_str rfl (.inr ⟨_, _, rfl, rfl⟩) (.inl ⟨rfl, rfl⟩)) rfl ?_
      refine w_pure (y_assign rfl) rfl ?_
      refine w_nil ?_
      refine x_next ?_
      refine c_region ?_
      refine w_pure (y_move rfl) rfl ?_
      refine w_pure (y_add rfl rfl) rfl ?_
      refine w_pure (y_assign rfl) rfl ?_
      refine w_nil ?_
      refine x_block_norm ?_
      rotate_left
    have e1 : List.drop (Lib.indexByte r 32 + (([32] : List UInt8).length : Int)).toNat (List.take (r.length : Int).toNat r) = r.drop (Lib.indexByte r 32 + 1).toNat := by rw [List.take_of_length_le (by omega)]; rfl
    refine x_again (List.drop (Lib.indexByte r 32 + (([32] : List UInt8).length : Int)).toNat (List.take (r.length : Int).toNat r), D ++ [r.take (Lib.indexByte r 32 + 0).toNat], i + 1) (by repeat (first | exact trivial | refine ⟨rfl, ?_⟩)) ⟨EL.go, ?_, ?_, ?_, ?_, by assumption⟩ ?_
    · dsimp only
      rw [List.length_append, List.length_singleton, show D.length + 1 = i.toNat + 1 by omega, ← hst]; rw [show D.length = i.toNat by omega] at g1; exact g1
    · dsimp only
      rw [e1, List.append_assoc, ← g2, hsp, Int.add_zero]; rfl
    · dsimp only; rw [e1, List.length_drop]; omega
    · dsimp only; rw [List.length_append, List.length_singleton]; omega
    · dsimp only; rw [List.length_append, List.length_singleton]; omega
  · have hst := set_rep (y := r) (D := D) (k := s.count 32 + 1) (i := i.toNat) (by omega) (by omega)
    have hni : Lib.indexByte r 32 < 0 := by
      apply Decidable.byContradiction
      intro hn
      have e := congrArg List.length (spl_idx (s := r) (c := 32) (by omega))
      rw [List.length_cons, spl_len, spl_len] at e
      omega
    have hsp := spl_none hni
    focus
      have hl_g1 := g1.lt
      refine c_seq ?_
      refine c_seq ?_
      refine c_region ?_
      refine w_pure (y_move rfl) rfl ?_
      refine w_pure (y_move rfl) rfl ?_
      refine w_pure (y_lt rfl rfl) rfl ?_
      refine w_nil ?_
      refine x_next ?_
      (refine c_dec rfl (fun hc36 => ?_) (fun hc36 => ?_) <;> try (first | exact absurd rfl hc36 | contradiction | exact Bool.noConfusion (show false = true from hc36.symm.trans (by assumption)) | exact Bool.noConfusion (show true = false from hc36.symm.trans (by assumption)) | (exfalso; omega) | (exfalso; simp only [*, Bool.not_true, Bool.not_false, reduceCtorEq] at hc36; done)))
      refine c_exit ?_
      refine x_then_exit ?_
      refine x_then_exit ?_
      refine x_block_hit ?_
      refine x_next ?_
      refine c_seq ?_
      refine c_region ?_
      refine w_pure (y_move rfl) rfl ?_
      refine w_pure (y_move rfl) rfl ?_
      refine w_pure (y_move rfl) rfl ?_
      refine w_pure (y_index rfl rfl) rfl ?_
      refine w_store_own rfl rfl (next := fun ws21 hos21 hxs21 hss21 => ?_)
      (replace g1 := hos21; clear hos21)
      have hz_hxs21 := hxs21.size
      replace EL := EL.trans hxs21
      replace E := E.next hxs21 (by omega)
      refine w_nil ?_
      refine x_next ?_
      refine c_seq ?_
      refine c_region ?_
      refine w_pure (y_move rfl) rfl ?_
      refine w_pure (y_move rfl) rfl ?_
      refine w_pure (y_add rfl rfl) rfl ?_
      rotate_left
    rw [show D.length = i.toNat by omega, hst, show s.count 32 + 1 - (i.toNat + 1) = 0 by omega, List.replicate_zero, List.append_nil] at g1
    have hlg : (D ++ [r]).length = D.length + 1 := by rw [List.length_append, List.length_singleton]
    focus
      (refine w_slice rfl (.inl ⟨rfl, rfl⟩) (.inr ⟨_, _, rfl, rfl⟩) rfl ?_; intro u65 hu65)
      refine w_pure (y_assign rfl) rfl ?_
      refine w_nil ?_
      refine x_next ?_
      refine c_ret ?_
      rotate_left
    rw [hsp] at g2
    have e2 : List.drop (Int.toNat 0) (List.take (i + 1).toNat (D ++ [r])) = spl 32 s := by rw [← g2, List.take_of_length_le (by omega)]; rfl
    rw [e2] at hu65
    exact x_retv [_] rfl ⟨rfl, trivial⟩ ⟨_, _, hu65, by omega, E.go⟩
theorem Split_c (s : List UInt8) (hs : s.length ≤ 1048576 := by omega) : Ret Tryd.prog 12 [str s, str [32]] w fun u w' => ∃ l h, SL w' l h u (spl 32 s) ∧ w.heap.size ≤ l ∧ Ext w w' := by
  have E : Since 0 0 w w := Since.refl 0 0 w
  refine ret_enter Tryd.func12 rfl Tryd.ntmps12 rfl ?_
  focus
    refine c_seq ?_
    refine c_region ?_
    refine w_pure (y_assign rfl) rfl ?_
    refine w_nil ?_
    refine x_next ?_
    refine c_seq ?_
    refine c_region ?_
    refine w_pure (y_move rfl) rfl ?_
    refine w_pure (y_move rfl) rfl ?_
    (refine w_call rfl rfl rfl (genSplit_c _) rfl ?_; rintro v7 w7 ⟨l7, ⟨h7, ⟨hp1_7, ⟨hp2_7, hx7⟩⟩⟩⟩)
    have hz_hx7 := hx7.size
    replace E := E.trans hx7
    refine w_pure (y_assign rfl) rfl ?_
    refine w_nil ?_
    refine x_next ?_
    refine c_ret ?_
    rotate_left
  exact x_retv [_] rfl ⟨rfl, trivial⟩ ⟨_, _, by assumption, by omega, E.go⟩
end
end Go.Proofs.YticnemjjjceiaaaDoor

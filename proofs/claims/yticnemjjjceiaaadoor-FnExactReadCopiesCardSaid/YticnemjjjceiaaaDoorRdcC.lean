/- Contracts: numbers read from texts. -/
import Derived.Test.YticnemjjjceiaaaDoorRdcB
import Derived.Test.YticnemjjjceiaaaDoorL18
namespace Go.Proofs.YticnemjjjceiaaaDoor
open Go Go.Gw
set_option linter.unusedVariables false
set_option linter.unusedSimpArgs false
theorem take_one {T : List UInt8} {i : Nat} (h : i < T.length) : T.take (i + 1) = T.take i ++ [T.getD i 0] := by
  rw [List.take_add_one, List.getElem?_eq_getElem h, List.getD_eq_getElem?_getD, List.getElem?_eq_getElem h]; rfl
theorem getD_in {T : List UInt8} {i : Nat} (h : i < T.length) : T.getD i 0 ∈ T := by
  rw [List.getD_eq_getElem?_getD, List.getElem?_eq_getElem h]; exact List.getElem_mem h
/-- a number's first digits -/
structure NumTo (T : List UInt8) (i : Nat) (n : Int) : Prop where
  val : n = valU (T.take i)
  dig : ∀ c ∈ T.take i, isDig c
theorem NumTo.bd {T : List UInt8} {i : Nat} {n : Int} (h : NumTo T i n) (hi : i ≤ 17) : 0 ≤ n ∧ n < 100000000000000000 := by
  have := valU_bd 17 (T.take i) (by rw [List.length_take]; omega) h.dig
  rw [← h.val] at this
  have e : (10 : Int) ^ 17 = 100000000000000000 := by decide
  omega
theorem NumTo.bd18 {T : List UInt8} {i : Nat} {n : Int} (h : NumTo T i n) (hi : T.length ≤ 18) : 0 ≤ n ∧ n < 1000000000000000000 := by
  have := valU_bd 18 (T.take i) (by rw [List.length_take]; omega) h.dig
  rw [← h.val] at this
  have e : (10 : Int) ^ 18 = 1000000000000000000 := by decide
  omega
theorem NumTo.zero (T : List UInt8) : NumTo T 0 0 := ⟨by simp [valU], fun c hc => by simp at hc⟩
theorem NumTo.step {T : List UInt8} {i : Nat} {n : Int} (h : NumTo T i n) (hi : i < T.length) (hd : 48 ≤ ((T.getD i 0).toNat : Int) ∧ ((T.getD i 0).toNat : Int) ≤ 57) : NumTo T (i + 1) (10 * n + (((T.getD i 0).toNat : Int) - 48)) := by
  refine ⟨by rw [take_one hi, valU_snoc, ← h.val], fun c hc => ?_⟩
  rw [take_one hi, List.mem_append, List.mem_singleton] at hc
  rcases hc with hc | rfl
  · exact h.dig c hc
  · unfold isDig; omega
theorem body_neg (r : List UInt8) : bodyU (45 :: r) = r := by simp [bodyU]
theorem body_pos {s : List UInt8} (h : s.head? ≠ some 45) : bodyU s = s := by simp [bodyU, h]
theorem num_neg {r : List UInt8} {n : Int} (h : NumTo r r.length n) : numU (45 :: r) = -n := by
  rw [numU, body_neg, if_pos (by simp), h.val, List.take_length]
theorem num_pos {s : List UInt8} {n : Int} (hs : s.head? ≠ some 45) (h : NumTo s s.length n) : numU s = n := by
  rw [numU, body_pos hs, if_neg (by omega), h.val, List.take_length]
section
variable {w : World} {lo hi B : Nat} {v : Value} {s : List UInt8}
theorem l01DigitR_c (c : Int) : Pur Tryd.prog 18 [.int .u8 c] (.bool (decide (48 ≤ c ∧ c ≤ 57))) := by
  refine ⟨fun w => ?_⟩
  refine ret_enter Tryd.func18 rfl Tryd.ntmps18 rfl ?_
  focus
    refine c_seq ?_
    refine c_region ?_
    refine w_pure (y_assign rfl) rfl ?_
    refine w_nil ?_
    refine x_next ?_
    refine c_seq ?_
    refine c_region ?_
    refine w_pure (y_move rfl) rfl ?_
    refine w_pure (y_ge rfl rfl) rfl ?_
    refine w_pure (y_move rfl) rfl ?_
    (refine w_part_dec rfl rfl (fun hc6 => ?_) (fun hc6 => ?_) <;> try (first | exact absurd rfl hc6 | contradiction | exact Bool.noConfusion (show false = true from hc6.symm.trans (by assumption)) | exact Bool.noConfusion (show true = false from hc6.symm.trans (by assumption)) | (exfalso; omega) | (exfalso; simp only [*, Bool.not_true, Bool.not_false, reduceCtorEq] at hc6; done)))
    refine w_yes rfl rfl ?_
    refine w_pure (y_move rfl) rfl ?_
    refine w_yes rfl rfl ?_
    refine w_pure (y_le rfl rfl) rfl ?_
    refine w_pure (y_pick_t rfl rfl) rfl ?_
    refine w_pure (y_assign rfl) rfl ?_
    refine w_nil ?_
    refine x_next ?_
    refine c_ret ?_
    rotate_left
    refine w_no rfl rfl rfl rfl ?_
    refine w_no rfl rfl rfl rfl ?_
    refine w_pure (y_pick_f rfl rfl) rfl ?_
    refine w_pure (y_assign rfl) rfl ?_
    refine w_nil ?_
    refine x_next ?_
    refine c_ret ?_
    rotate_left
  all_goals refine x_retv [_] rfl ⟨rfl, trivial⟩ ⟨?_, rfl⟩
  all_goals simp [ofResults, *]
theorem l01NumberA (r : List UInt8) (hs : r.length ≤ 2000000 := by omega) : Ret Tryd.prog 10 [str (45 :: r)] w fun u w' => u = .tuple #[.int .i64 (rdN (45 :: r)).1, .bool (rdN (45 :: r)).2] ∧ Ext w w' := by
  have hb := body_neg r
  have hlr : (45 :: r).length = r.length + 1 := rfl
  have hT : List.drop (Int.toNat 1) (List.take ((45 :: r).length : Int).toNat (45 :: r)) = r := by rw [List.take_of_length_le (by omega)]; rfl
  have E : Since 0 0 w w := Since.refl 0 0 w
  refine ret_enter Tryd.func10 rfl Tryd.ntmps10 rfl ?_
  focus
    refine c_seq ?_
    refine c_region ?_
    refine w_pure (y_assign rfl) rfl ?_
    refine w_pure (y_assign rfl) rfl ?_
    refine w_nil ?_
    refine x_next ?_
    refine c_seq ?_
    refine c_region ?_
    refine w_pure (y_move rfl) rfl ?_
    refine w_pure (y_assign rfl) rfl ?_
    refine w_nil ?_
    refine x_next ?_
    refine c_seq ?_
    refine c_seq ?_
    refine c_region ?_
    refine w_pure (y_move rfl) rfl ?_
    refine w_pure (y_sne rfl rfl) rfl ?_
    refine w_pure (y_move rfl) rfl ?_
    refine w_yes rfl rfl ?_
    refine w_pure (y_move rfl) rfl ?_
    refine w_yes rfl rfl ?_
    refine w_pure (y_at_str rfl rfl) rfl ?_
    refine w_yes rfl rfl ?_
    refine w_pure (y_eq rfl rfl) rfl ?_
    refine w_pure (y_pick_t rfl rfl) rfl ?_
    refine w_nil ?_
    refine x_next ?_
    refine c_true rfl ?_
    refine c_region ?_
    refine w_pure (y_move rfl) rfl ?_
    refine w_pure (y_part_str rfl (.inr ⟨_, _, rfl, rfl⟩) (.inl ⟨rfl, rfl⟩)) rfl ?_
    refine w_pure (y_assign rfl) rfl ?_
    refine w_nil ?_
    refine x_next ?_
    refine c_seq ?_
    refine c_seq ?_
    refine c_region ?_
    refine w_pure (y_move rfl) rfl ?_
    refine w_pure (y_slen rfl) rfl ?_
    refine w_pure (y_lt rfl rfl) rfl ?_
    refine w_pure (y_move rfl) rfl ?_
    (refine w_part_dec rfl rfl (fun hc21 => ?_) (fun hc21 => ?_) <;> try (first | exact absurd rfl hc21 | contradiction | exact Bool.noConfusion (show false = true from hc21.symm.trans (by assumption)) | exact Bool.noConfusion (show true = false from hc21.symm.trans (by assumption)) | (exfalso; omega) | (exfalso; simp only [*, Bool.not_true, Bool.not_false, reduceCtorEq] at hc21; done)))
    refine w_no rfl rfl rfl rfl ?_
    refine w_no rfl rfl rfl rfl ?_
    refine w_no rfl rfl rfl rfl ?_
    refine w_pure (y_pick_t rfl rfl) rfl ?_
    refine w_nil ?_
    refine x_next ?_
    refine c_true rfl ?_
    refine c_seq ?_
    refine c_region ?_
    refine w_pure (y_assign rfl) rfl ?_
    refine w_pure (y_assign rfl) rfl ?_
    refine w_nil ?_
    refine x_next ?_
    refine c_ret ?_
    refine x_then_ret ?_
    rotate_left
    refine w_yes rfl rfl ?_
    refine w_pure (y_move rfl) rfl ?_
    refine w_yes rfl rfl ?_
    refine w_pure (y_slen rfl) rfl ?_
    refine w_yes rfl rfl ?_
    refine w_pure (y_gt rfl rfl) rfl ?_
    refine w_pure (y_pick_f rfl rfl) rfl ?_
    refine w_nil ?_
    refine x_next ?_
    (refine c_dec rfl (fun hc24 => ?_) (fun hc24 => ?_) <;> try (first | exact absurd rfl hc24 | contradiction | exact Bool.noConfusion (show false = true from hc24.symm.trans (by assumption)) | exact Bool.noConfusion (show true = false from hc24.symm.trans (by assumption)) | (exfalso; omega) | (exfalso; simp only [*, Bool.not_true, Bool.not_false, reduceCtorEq] at hc24; done)))
    refine c_seq ?_
    refine c_region ?_
    refine w_pure (y_assign rfl) rfl ?_
    refine w_pure (y_assign rfl) rfl ?_
    refine w_nil ?_
    refine x_next ?_
    refine c_ret ?_
    refine x_then_ret ?_
    rotate_left
    refine c_skip ?_
    refine x_next ?_
    refine c_seq ?_
    refine c_region ?_
    refine w_pure (y_assign rfl) rfl ?_
    refine w_nil ?_
    refine x_next ?_
    refine c_seq ?_
    refine c_seq ?_
    refine c_region ?_
    refine w_pure (y_assign rfl) rfl ?_
    refine w_nil ?_
    refine x_next ?_
    refine c_block ?_
    rotate_left
  · rw [hT] at hc21
    have e := rd_len (s := 45 :: r) (by rw [hb]; omega)
    exact x_retv [_, _] rfl ⟨rfl, rfl, trivial⟩ ⟨by rw [e]; rfl, E.go⟩
  · rw [hT] at hc24
    have e := rd_len (s := 45 :: r) (by rw [hb]; omega)
    exact x_retv [_, _] rfl ⟨rfl, rfl, trivial⟩ ⟨by rw [e]; rfl, E.go⟩
  · rw [hT] at hc21 hc24
    refine c_loopC 0 0 (ι := Int × Int) (fun x => [(0, str (45 :: r)), (4, str r), (5, .int .i64 x.1), (6, .int .i64 x.2)]) (fun x w' => NumTo r x.2.toNat x.1 ∧ (0 ≤ x.2 ∧ x.2 ≤ r.length)) (fun x => (r.length - x.2).toNat) (0, 0)
      ⟨rfl, congrArg (fun q => some (str q)) hT, rfl, rfl, trivial⟩ ⟨NumTo.zero _, by dsimp only; omega⟩ ?_
    rintro ⟨n, i⟩ wL hxL EL ⟨g1, g2⟩
    dsimp only at *
    have hzL := hxL.size
    have h18 := g1.bd18 (by omega)
    by_cases hlt : i < r.length
    · have hbd := g1.bd (by omega)
      focus
        have hz_hxL := hxL.size
        replace E := E.trans hxL
        refine c_seq ?_
        refine c_seq ?_
        refine c_region ?_
        refine w_pure (y_move rfl) rfl ?_
        refine w_pure (y_move rfl) rfl ?_
        refine w_pure (y_slen rfl) rfl ?_
        refine w_pure (y_lt rfl rfl) rfl ?_
        refine w_nil ?_
        refine x_next ?_
        (refine c_dec rfl (fun hc28 => ?_) (fun hc28 => ?_) <;> try (first | exact absurd rfl hc28 | contradiction | exact Bool.noConfusion (show false = true from hc28.symm.trans (by assumption)) | exact Bool.noConfusion (show true = false from hc28.symm.trans (by assumption)) | (exfalso; omega) | (exfalso; simp only [*, Bool.not_true, Bool.not_false, reduceCtorEq] at hc28; done)))
        refine c_skip ?_
        refine x_next ?_
        refine c_seq ?_
        refine c_block ?_
        refine c_seq ?_
        refine c_seq ?_
        refine c_region ?_
        refine w_pure (y_move rfl) rfl ?_
        refine w_pure (y_move rfl) rfl ?_
        refine w_pure (y_at_str rfl rfl) rfl ?_
        refine w_pur rfl rfl rfl (l01DigitR_c _) rfl ?_
        refine w_pure (y_not_dec rfl) rfl ?_
        refine w_nil ?_
        refine x_next ?_
        (refine c_dec rfl (fun hc35 => ?_) (fun hc35 => ?_) <;> try (first | exact absurd rfl hc35 | contradiction | exact Bool.noConfusion (show false = true from hc35.symm.trans (by assumption)) | exact Bool.noConfusion (show true = false from hc35.symm.trans (by assumption)) | (exfalso; omega) | (exfalso; simp only [*, Bool.not_true, Bool.not_false, reduceCtorEq] at hc35; done)))
        refine c_seq ?_
        refine c_region ?_
        refine w_pure (y_assign rfl) rfl ?_
        refine w_pure (y_assign rfl) rfl ?_
        refine w_nil ?_
        refine x_next ?_
        refine c_ret ?_
        refine x_then_ret ?_
        refine x_block_ret ?_
        refine x_then_ret ?_
        refine x_then_ret ?_
        refine x_block_ret ?_
        refine x_then_ret ?_
        rotate_left
        refine c_skip ?_
        refine x_next ?_
        refine c_region ?_
        refine w_pure (y_move rfl) rfl ?_
        refine w_pure (y_mul rfl rfl) rfl ?_
        refine w_pure (y_move rfl) rfl ?_
        refine w_pure (y_move rfl) rfl ?_
        refine w_pure (y_at_str rfl rfl) rfl ?_
        refine w_pure (y_sub8 rfl rfl) rfl ?_
        refine w_pure (y_conv64 rfl) rfl ?_
        refine w_pure (y_add rfl rfl) rfl ?_
        refine w_pure (y_assign rfl) rfl ?_
        refine w_nil ?_
        refine x_block_norm ?_
        refine x_next ?_
        refine c_region ?_
        refine w_pure (y_move rfl) rfl ?_
        refine w_pure (y_add rfl rfl) rfl ?_
        refine w_pure (y_assign rfl) rfl ?_
        refine w_nil ?_
        rotate_left
      · have hd : ¬ isDig (r.getD i.toNat 0) := by unfold isDig; omega
        have e := rd_dig (s := 45 :: r) (c := r.getD i.toNat 0) (by rw [hb]; exact getD_in (by omega)) hd
        exact x_retv [_, _] rfl ⟨rfl, rfl, trivial⟩ ⟨by rw [e]; rfl, E.go⟩
      · have h2 := g1.step (by omega) (by omega)
        exact x_again (_, i + 1) (by repeat (first | exact trivial | refine ⟨rfl, ?_⟩)) ⟨EL.go, by dsimp only; rw [show (i + 1).toNat = i.toNat + 1 by omega]; exact h2, by dsimp only; omega⟩ (by dsimp only; omega)
    · rw [show i.toNat = r.length by omega] at g1
      have hnu := num_neg g1
      focus
        have hz_hxL := hxL.size
        replace E := E.trans hxL
        refine c_seq ?_
        refine c_seq ?_
        refine c_region ?_
        refine w_pure (y_move rfl) rfl ?_
        refine w_pure (y_move rfl) rfl ?_
        refine w_pure (y_slen rfl) rfl ?_
        refine w_pure (y_lt rfl rfl) rfl ?_
        refine w_nil ?_
        refine x_next ?_
        (refine c_dec rfl (fun hc28 => ?_) (fun hc28 => ?_) <;> try (first | exact absurd rfl hc28 | contradiction | exact Bool.noConfusion (show false = true from hc28.symm.trans (by assumption)) | exact Bool.noConfusion (show true = false from hc28.symm.trans (by assumption)) | (exfalso; omega) | (exfalso; simp only [*, Bool.not_true, Bool.not_false, reduceCtorEq] at hc28; done)))
        refine c_exit ?_
        refine x_then_exit ?_
        refine x_then_exit ?_
        refine x_block_hit ?_
        refine x_next ?_
        refine c_seq ?_
        refine c_seq ?_
        refine c_region ?_
        refine w_pure (y_move rfl) rfl ?_
        refine w_pure (y_slen rfl) rfl ?_
        refine w_pure (y_move rfl) rfl ?_
        refine w_pure (y_slen rfl) rfl ?_
        refine w_pure (y_lt rfl rfl) rfl ?_
        refine w_nil ?_
        refine x_next ?_
        (refine c_dec rfl (fun hc48 => ?_) (fun hc48 => ?_) <;> try (first | exact absurd rfl hc48 | contradiction | exact Bool.noConfusion (show false = true from hc48.symm.trans (by assumption)) | exact Bool.noConfusion (show true = false from hc48.symm.trans (by assumption)) | (exfalso; omega) | (exfalso; simp only [*, Bool.not_true, Bool.not_false, reduceCtorEq] at hc48; done)))
        refine c_region ?_
        refine w_pure (y_move rfl) rfl ?_
        refine w_pure (y_neg rfl) rfl ?_
        refine w_pure (y_assign rfl) rfl ?_
        refine w_nil ?_
        refine x_next ?_
        refine c_seq ?_
        refine c_seq ?_
        refine c_region ?_
        refine w_pure (y_move rfl) rfl ?_
        refine w_val rfl rfl rfl (l01Dec_c _) rfl (fun w52 hx52 hz52 => ?_)
        have hz_hx52 := hx52.size
        replace EL := EL.trans hx52
        replace E := E.trans hx52
        refine w_pure (y_move rfl) rfl ?_
        refine w_pure (y_sne rfl rfl) rfl ?_
        refine w_nil ?_
        refine x_next ?_
        (refine c_dec rfl (fun hc54 => ?_) (fun hc54 => ?_) <;> try (first | exact absurd rfl hc54 | contradiction | exact Bool.noConfusion (show false = true from hc54.symm.trans (by assumption)) | exact Bool.noConfusion (show true = false from hc54.symm.trans (by assumption)) | (exfalso; omega) | (exfalso; simp only [*, Bool.not_true, Bool.not_false, reduceCtorEq] at hc54; done)))
        refine c_seq ?_
        refine c_region ?_
        refine w_pure (y_assign rfl) rfl ?_
        refine w_pure (y_assign rfl) rfl ?_
        refine w_nil ?_
        refine x_next ?_
        refine c_ret ?_
        refine x_then_ret ?_
        rotate_left
        refine c_skip ?_
        refine x_next ?_
        refine c_seq ?_
        refine c_region ?_
        refine w_pure (y_move rfl) rfl ?_
        refine w_pure (y_assign rfl) rfl ?_
        refine w_pure (y_assign rfl) rfl ?_
        refine w_nil ?_
        refine x_next ?_
        refine c_ret ?_
        rotate_left
      · have e := rd_val (s := 45 :: r) (by rw [hnu]; assumption)
        exact x_retv [_, _] rfl ⟨rfl, rfl, trivial⟩ ⟨by rw [e]; rfl, E.go⟩
      · have e := rdN_of (s := 45 :: r) (n := -n) (by omega) (by first | assumption | (apply Decidable.not_not.1; assumption))
        exact x_retv [_, _] rfl ⟨rfl, rfl, trivial⟩ ⟨by rw [e]; rfl, E.go⟩
theorem l01NumberB (s : List UInt8) (h45 : s.head? ≠ some 45) (hs : s.length ≤ 2000000 := by omega) : Ret Tryd.prog 10 [str s] w fun u w' => u = .tuple #[.int .i64 (rdN s).1, .bool (rdN s).2] ∧ Ext w w' := by
  have hb := body_pos h45
  have hne : s ≠ [] → ¬ ((s.getD (Int.toNat 0) 0).toNat : Int) = 45 := fun hn e => by
    cases s with
    | nil => exact hn rfl
    | cons c r =>
      apply h45
      have e1 : c.toNat = 45 := by have : ((c.toNat : Nat) : Int) = 45 := e; omega
      show some c = some 45
      rw [UInt8.toNat_inj.1 (show c.toNat = (45 : UInt8).toNat from e1)]
  by_cases hs0 : s = []
  · subst hs0
    have E : Since 0 0 w w := Since.refl 0 0 w
    refine ret_enter Tryd.func10 rfl Tryd.ntmps10 rfl ?_
    focus
      refine c_seq ?_
      refine c_region ?_
      refine w_pure (y_assign rfl) rfl ?_
      refine w_pure (y_assign rfl) rfl ?_
      refine w_nil ?_
      refine x_next ?_
      refine c_seq ?_
      refine c_region ?_
      refine w_pure (y_move rfl) rfl ?_
      refine w_pure (y_assign rfl) rfl ?_
      refine w_nil ?_
      refine x_next ?_
      refine c_seq ?_
      refine c_seq ?_
      refine c_region ?_
      refine w_pure (y_move rfl) rfl ?_
      refine w_pure (y_sne rfl rfl) rfl ?_
      refine w_pure (y_move rfl) rfl ?_
      refine w_no rfl rfl rfl rfl ?_
      refine w_no rfl rfl rfl rfl ?_
      refine w_no rfl rfl rfl rfl ?_
      refine w_pure (y_pick_f rfl rfl) rfl ?_
      refine w_nil ?_
      refine x_next ?_
      refine c_false rfl ?_
      refine c_skip ?_
      refine x_next ?_
      refine c_seq ?_
      refine c_seq ?_
      refine c_region ?_
      refine w_pure (y_move rfl) rfl ?_
      refine w_pure (y_slen rfl) rfl ?_
      refine w_pure (y_lt rfl rfl) rfl ?_
      refine w_pure (y_move rfl) rfl ?_
      refine w_no rfl rfl rfl rfl ?_
      refine w_no rfl rfl rfl rfl ?_
      refine w_no rfl rfl rfl rfl ?_
      refine w_pure (y_pick_t rfl rfl) rfl ?_
      refine w_nil ?_
      refine x_next ?_
      refine c_true rfl ?_
      refine c_seq ?_
      refine c_region ?_
      refine w_pure (y_assign rfl) rfl ?_
      refine w_pure (y_assign rfl) rfl ?_
      refine w_nil ?_
      refine x_next ?_
      refine c_ret ?_
      refine x_then_ret ?_
      rotate_left
    all_goals exact x_retv [_, _] rfl ⟨rfl, rfl, trivial⟩ ⟨by rw [rd_nil]; rfl, E.go⟩
  have hl0 : 0 < s.length := List.length_pos_iff.2 hs0
  have hn0 := hne hs0
  clear hne
  have E : Since 0 0 w w := Since.refl 0 0 w
  refine ret_enter Tryd.func10 rfl Tryd.ntmps10 rfl ?_
  focus
    refine c_seq ?_
    refine c_region ?_
    refine w_pure (y_assign rfl) rfl ?_
    refine w_pure (y_assign rfl) rfl ?_
    refine w_nil ?_
    refine x_next ?_
    refine c_seq ?_
    refine c_region ?_
    refine w_pure (y_move rfl) rfl ?_
    refine w_pure (y_assign rfl) rfl ?_
    refine w_nil ?_
    refine x_next ?_
    refine c_seq ?_
    refine c_seq ?_
    refine c_region ?_
    refine w_pure (y_move rfl) rfl ?_
    refine w_pure (y_sne rfl rfl) rfl ?_
    refine w_pure (y_move rfl) rfl ?_
    (refine w_part_dec rfl rfl (fun hc11 => ?_) (fun hc11 => ?_) <;> try (first | exact absurd rfl hc11 | contradiction | exact Bool.noConfusion (show false = true from hc11.symm.trans (by assumption)) | exact Bool.noConfusion (show true = false from hc11.symm.trans (by assumption)) | (exfalso; omega) | (exfalso; simp only [*, Bool.not_true, Bool.not_false, reduceCtorEq] at hc11; done)))
    refine w_yes rfl rfl ?_
    refine w_pure (y_move rfl) rfl ?_
    refine w_yes rfl rfl ?_
    refine w_pure (y_at_str rfl rfl) rfl ?_
    refine w_yes rfl rfl ?_
    refine w_pure (y_eq rfl rfl) rfl ?_
    refine w_pure (y_pick_t rfl rfl) rfl ?_
    refine w_nil ?_
    refine x_next ?_
    (refine c_dec rfl (fun hc14 => ?_) (fun hc14 => ?_) <;> try (first | exact absurd rfl hc14 | contradiction | exact Bool.noConfusion (show false = true from hc14.symm.trans (by assumption)) | exact Bool.noConfusion (show true = false from hc14.symm.trans (by assumption)) | (exfalso; omega) | (exfalso; simp only [*, Bool.not_true, Bool.not_false, reduceCtorEq] at hc14; done)))
    refine c_skip ?_
    refine x_next ?_
    refine c_seq ?_
    refine c_seq ?_
    refine c_region ?_
    refine w_pure (y_move rfl) rfl ?_
    refine w_pure (y_slen rfl) rfl ?_
    refine w_pure (y_lt rfl rfl) rfl ?_
    refine w_pure (y_move rfl) rfl ?_
    (refine w_part_dec rfl rfl (fun hc21 => ?_) (fun hc21 => ?_) <;> try (first | exact absurd rfl hc21 | contradiction | exact Bool.noConfusion (show false = true from hc21.symm.trans (by assumption)) | exact Bool.noConfusion (show true = false from hc21.symm.trans (by assumption)) | (exfalso; omega) | (exfalso; simp only [*, Bool.not_true, Bool.not_false, reduceCtorEq] at hc21; done)))
    refine w_yes rfl rfl ?_
    refine w_pure (y_move rfl) rfl ?_
    refine w_yes rfl rfl ?_
    refine w_pure (y_slen rfl) rfl ?_
    refine w_yes rfl rfl ?_
    refine w_pure (y_gt rfl rfl) rfl ?_
    refine w_pure (y_pick_f rfl rfl) rfl ?_
    refine w_nil ?_
    refine x_next ?_
    (refine c_dec rfl (fun hc24 => ?_) (fun hc24 => ?_) <;> try (first | exact absurd rfl hc24 | contradiction | exact Bool.noConfusion (show false = true from hc24.symm.trans (by assumption)) | exact Bool.noConfusion (show true = false from hc24.symm.trans (by assumption)) | (exfalso; omega) | (exfalso; simp only [*, Bool.not_true, Bool.not_false, reduceCtorEq] at hc24; done)))
    refine c_seq ?_
    refine c_region ?_
    refine w_pure (y_assign rfl) rfl ?_
    refine w_pure (y_assign rfl) rfl ?_
    refine w_nil ?_
    refine x_next ?_
    refine c_ret ?_
    refine x_then_ret ?_
    rotate_left
    refine c_skip ?_
    refine x_next ?_
    refine c_seq ?_
    refine c_region ?_
    refine w_pure (y_assign rfl) rfl ?_
    refine w_nil ?_
    refine x_next ?_
    refine c_seq ?_
    refine c_seq ?_
    refine c_region ?_
    refine w_pure (y_assign rfl) rfl ?_
    refine w_nil ?_
    refine x_next ?_
    refine c_block ?_
    rotate_left
  all_goals try (have e := rd_len (s := s) (by rw [hb]; omega); exact x_retv [_, _] rfl ⟨rfl, rfl, trivial⟩ ⟨by rw [e]; rfl, E.go⟩)
  · skip
    refine c_loopC 0 0 (ι := Int × Int) (fun x => [(0, str (s)), (4, str s), (5, .int .i64 x.1), (6, .int .i64 x.2)]) (fun x w' => NumTo s x.2.toNat x.1 ∧ (0 ≤ x.2 ∧ x.2 ≤ s.length)) (fun x => (s.length - x.2).toNat) (0, 0)
      (by repeat (first | exact trivial | refine ⟨rfl, ?_⟩)) ⟨NumTo.zero _, by dsimp only; omega⟩ ?_
    rintro ⟨n, i⟩ wL hxL EL ⟨g1, g2⟩
    dsimp only at *
    have hzL := hxL.size
    have h18 := g1.bd18 (by omega)
    by_cases hlt : i < s.length
    · have hbd := g1.bd (by omega)
      focus
        have hz_hxL := hxL.size
        replace E := E.trans hxL
        refine c_seq ?_
        refine c_seq ?_
        refine c_region ?_
        refine w_pure (y_move rfl) rfl ?_
        refine w_pure (y_move rfl) rfl ?_
        refine w_pure (y_slen rfl) rfl ?_
        refine w_pure (y_lt rfl rfl) rfl ?_
        refine w_nil ?_
        refine x_next ?_
        (refine c_dec rfl (fun hc28 => ?_) (fun hc28 => ?_) <;> try (first | exact absurd rfl hc28 | contradiction | exact Bool.noConfusion (show false = true from hc28.symm.trans (by assumption)) | exact Bool.noConfusion (show true = false from hc28.symm.trans (by assumption)) | (exfalso; omega) | (exfalso; simp only [*, Bool.not_true, Bool.not_false, reduceCtorEq] at hc28; done)))
        refine c_skip ?_
        refine x_next ?_
        refine c_seq ?_
        refine c_block ?_
        refine c_seq ?_
        refine c_seq ?_
        refine c_region ?_
        refine w_pure (y_move rfl) rfl ?_
        refine w_pure (y_move rfl) rfl ?_
        refine w_pure (y_at_str rfl rfl) rfl ?_
        refine w_pur rfl rfl rfl (l01DigitR_c _) rfl ?_
        refine w_pure (y_not_dec rfl) rfl ?_
        refine w_nil ?_
        refine x_next ?_
        (refine c_dec rfl (fun hc35 => ?_) (fun hc35 => ?_) <;> try (first | exact absurd rfl hc35 | contradiction | exact Bool.noConfusion (show false = true from hc35.symm.trans (by assumption)) | exact Bool.noConfusion (show true = false from hc35.symm.trans (by assumption)) | (exfalso; omega) | (exfalso; simp only [*, Bool.not_true, Bool.not_false, reduceCtorEq] at hc35; done)))
        refine c_seq ?_
        refine c_region ?_
        refine w_pure (y_assign rfl) rfl ?_
        refine w_pure (y_assign rfl) rfl ?_
        refine w_nil ?_
        refine x_next ?_
        refine c_ret ?_
        refine x_then_ret ?_
        refine x_block_ret ?_
        refine x_then_ret ?_
        refine x_then_ret ?_
        refine x_block_ret ?_
        refine x_then_ret ?_
        rotate_left
        refine c_skip ?_
        refine x_next ?_
        refine c_region ?_
        refine w_pure (y_move rfl) rfl ?_
        refine w_pure (y_mul rfl rfl) rfl ?_
        refine w_pure (y_move rfl) rfl ?_
        refine w_pure (y_move rfl) rfl ?_
        refine w_pure (y_at_str rfl rfl) rfl ?_
        refine w_pure (y_sub8 rfl rfl) rfl ?_
        refine w_pure (y_conv64 rfl) rfl ?_
        refine w_pure (y_add rfl rfl) rfl ?_
        refine w_pure (y_assign rfl) rfl ?_
        refine w_nil ?_
        refine x_block_norm ?_
        refine x_next ?_
        refine c_region ?_
        refine w_pure (y_move rfl) rfl ?_
        refine w_pure (y_add rfl rfl) rfl ?_
        refine w_pure (y_assign rfl) rfl ?_
        refine w_nil ?_
        rotate_left
      · have hd : ¬ isDig (s.getD i.toNat 0) := by unfold isDig; omega
        have e := rd_dig (s := s) (c := s.getD i.toNat 0) (by rw [hb]; exact getD_in (by omega)) hd
        exact x_retv [_, _] rfl ⟨rfl, rfl, trivial⟩ ⟨by rw [e]; rfl, E.go⟩
      · have h2 := g1.step (by omega) (by omega)
        exact x_again (_, i + 1) (by repeat (first | exact trivial | refine ⟨rfl, ?_⟩)) ⟨EL.go, by dsimp only; rw [show (i + 1).toNat = i.toNat + 1 by omega]; exact h2, by dsimp only; omega⟩ (by dsimp only; omega)
    · rw [show i.toNat = s.length by omega] at g1
      have hnu := num_pos h45 g1
      focus
        have hz_hxL := hxL.size
        replace E := E.trans hxL
        refine c_seq ?_
        refine c_seq ?_
        refine c_region ?_
        refine w_pure (y_move rfl) rfl ?_
        refine w_pure (y_move rfl) rfl ?_
        refine w_pure (y_slen rfl) rfl ?_
        refine w_pure (y_lt rfl rfl) rfl ?_
        refine w_nil ?_
        refine x_next ?_
        (refine c_dec rfl (fun hc28 => ?_) (fun hc28 => ?_) <;> try (first | exact absurd rfl hc28 | contradiction | exact Bool.noConfusion (show false = true from hc28.symm.trans (by assumption)) | exact Bool.noConfusion (show true = false from hc28.symm.trans (by assumption)) | (exfalso; omega) | (exfalso; simp only [*, Bool.not_true, Bool.not_false, reduceCtorEq] at hc28; done)))
        refine c_exit ?_
        refine x_then_exit ?_
        refine x_then_exit ?_
        refine x_block_hit ?_
        refine x_next ?_
        refine c_seq ?_
        refine c_seq ?_
        refine c_region ?_
        refine w_pure (y_move rfl) rfl ?_
        refine w_pure (y_slen rfl) rfl ?_
        refine w_pure (y_move rfl) rfl ?_
        refine w_pure (y_slen rfl) rfl ?_
        refine w_pure (y_lt rfl rfl) rfl ?_
        refine w_nil ?_
        refine x_next ?_
        (refine c_dec rfl (fun hc48 => ?_) (fun hc48 => ?_) <;> try (first | exact absurd rfl hc48 | contradiction | exact Bool.noConfusion (show false = true from hc48.symm.trans (by assumption)) | exact Bool.noConfusion (show true = false from hc48.symm.trans (by assumption)) | (exfalso; omega) | (exfalso; simp only [*, Bool.not_true, Bool.not_false, reduceCtorEq] at hc48; done)))
        refine c_skip ?_
        refine x_next ?_
        refine c_seq ?_
        refine c_seq ?_
        refine c_region ?_
        refine w_pure (y_move rfl) rfl ?_
        refine w_val rfl rfl rfl (l01Dec_c _) rfl (fun w52 hx52 hz52 => ?_)
        have hz_hx52 := hx52.size
        replace EL := EL.trans hx52
        replace E := E.trans hx52
        refine w_pure (y_move rfl) rfl ?_
        refine w_pure (y_sne rfl rfl) rfl ?_
        refine w_nil ?_
        refine x_next ?_
        (refine c_dec rfl (fun hc54 => ?_) (fun hc54 => ?_) <;> try (first | exact absurd rfl hc54 | contradiction | exact Bool.noConfusion (show false = true from hc54.symm.trans (by assumption)) | exact Bool.noConfusion (show true = false from hc54.symm.trans (by assumption)) | (exfalso; omega) | (exfalso; simp only [*, Bool.not_true, Bool.not_false, reduceCtorEq] at hc54; done)))
        refine c_seq ?_
        refine c_region ?_
        refine w_pure (y_assign rfl) rfl ?_
        refine w_pure (y_assign rfl) rfl ?_
        refine w_nil ?_
        refine x_next ?_
        refine c_ret ?_
        refine x_then_ret ?_
        rotate_left
        refine c_skip ?_
        refine x_next ?_
        refine c_seq ?_
        refine c_region ?_
        refine w_pure (y_move rfl) rfl ?_
        refine w_pure (y_assign rfl) rfl ?_
        refine w_pure (y_assign rfl) rfl ?_
        refine w_nil ?_
        refine x_next ?_
        refine c_ret ?_
        rotate_left
      · have e := rd_val (s := s) (by rw [hnu]; assumption)
        exact x_retv [_, _] rfl ⟨rfl, rfl, trivial⟩ ⟨by rw [e]; rfl, E.go⟩
      · have e := rdN_of (s := s) (n := n) (by omega) (by first | assumption | (apply Decidable.not_not.1; assumption))
        exact x_retv [_, _] rfl ⟨rfl, rfl, trivial⟩ ⟨by rw [e]; rfl, E.go⟩
theorem l01Number_c (s : List UInt8) (hs : s.length ≤ 2000000 := by omega) : Val Tryd.prog 10 [str s] w (.tuple #[.int .i64 (rdN s).1, .bool (rdN s).2]) := by
  refine ⟨fun w1 hx1 => ?_⟩
  by_cases h : s.head? = some 45
  · cases s with
    | nil => cases h
    | cons c r =>
      obtain rfl : c = 45 := Option.some.inj h
      exact l01NumberA r (by simp at hs; omega)
  · exact l01NumberB s h hs
end
end Go.Proofs.YticnemjjjceiaaaDoor

/- Contracts: boards: whether they are valid, whether they are the same. -/
import Derived.Test.YthigkbkaeopipaaLawB
import Derived.Test.YthigkbkaeopipaaOpen
namespace Go.Proofs.Ythigkbkaeopipaa
open Go Go.Gw
set_option linter.unusedVariables false
set_option linter.unusedSimpArgs false
def wireB (h : Int) (p : Int × Int) : Bool := decide (0 ≤ p.1 ∧ p.1 < p.2 ∧ p.2 < h)
def okB (e n j : Int) (xs : List (Int × Int)) : Bool := decide (1 ≤ e ∧ e ≤ 20 ∧ 1 ≤ n ∧ n ≤ 20 ∧ 0 ≤ j ∧ j ≤ 30 ∧ e + n + j ≤ 30 ∧ xs.length ≤ 40) && !xs.any (fun p => !wireB (e + n + j) p)
theorem okB_num {e n j : Int} {xs : List (Int × Int)} (h : okB e n j xs = true) : 1 ≤ e ∧ e ≤ 20 ∧ 1 ≤ n ∧ n ≤ 20 ∧ 0 ≤ j ∧ j ≤ 30 ∧ e + n + j ≤ 30 ∧ xs.length ≤ 40 := by simp [okB] at h; omega
theorem okB_wire {e n j : Int} {xs : List (Int × Int)} (h : okB e n j xs = true) : ∀ p ∈ xs, 0 ≤ p.1 ∧ p.1 < p.2 ∧ p.2 < e + n + j := by
  intro p hp
  simp only [okB, Bool.and_eq_true, Bool.not_eq_true', List.any_eq_false] at h
  have := h.2 p hp
  simpa [wireB] using this
theorem okB_getD {e n j : Int} {xs : List (Int × Int)} (h : okB e n j xs = true) (i : Nat) (hi : i < xs.length) : 0 ≤ (xs.getD i (0, 0)).1 ∧ (xs.getD i (0, 0)).1 < (xs.getD i (0, 0)).2 ∧ (xs.getD i (0, 0)).2 < e + n + j := by
  rw [List.getD_eq_getElem?_getD, List.getElem?_eq_getElem hi]
  exact okB_wire h _ (List.getElem_mem hi)
section
variable {w : World} {v v' : Value} {xs ys : List (Int × Int)} {lo hi lo' hi' b b' : Nat} {e n j e' n' j' : Int}
theorem hubs_c (hb : -9223372036854775808 ≤ e + n ∧ e + n ≤ 9223372036854775807 ∧ -9223372036854775808 ≤ e + n + j ∧ e + n + j ≤ 9223372036854775807 := by omega) : Val Try.prog 110 [.agg #[.int .i64 e, .int .i64 n, .int .i64 j, v]] w (.int .i64 (e + n + j)) := by
  refine ⟨fun w1 hx1 => ?_⟩
  have E : Since 0 0 w1 w1 := Since.refl 0 0 w1
  refine ret_enter Try.func110 rfl Try.ntmps110 rfl ?_
  focus
    refine c_seq ?_
    refine c_region ?_
    refine w_box rfl (k := fun b1x1_3 w1x1_3 hb1x1_3 hx1x1_3 hl1x1_3 hs1x1_3 => ?_)
    have hz_hx1x1_3 := hx1x1_3.size
    replace E := E.trans hx1x1_3
    refine w_pure (y_assign rfl) rfl ?_
    refine w_nil ?_
    refine x_next ?_
    refine c_seq ?_
    refine c_region ?_
    refine w_pure (y_field rfl) rfl ?_
    refine w_pure (y_load_box rfl) rfl ?_
    refine w_pure (y_field rfl) rfl ?_
    refine w_pure (y_load_box rfl) rfl ?_
    refine w_pure (y_add rfl rfl) rfl ?_
    refine w_pure (y_field rfl) rfl ?_
    refine w_pure (y_load_box rfl) rfl ?_
    refine w_pure (y_add rfl rfl) rfl ?_
    refine w_pure (y_assign rfl) rfl ?_
    refine w_nil ?_
    refine x_next ?_
    refine c_ret ?_
    rotate_left
  exact x_retv [_] rfl ⟨rfl, trivial⟩ ⟨rfl, E.go⟩
theorem l12Hubs_c (hp : At w b 0 [.int .i64 e, .int .i64 n, .int .i64 j, v] := by repeat (first | assumption | exact Go.Gw.Own.sl (by assumption) | exact Go.Gw.Box.at (by assumption) | exact Go.Gw.SLL.el (by first | assumption | exact Go.Gw.OwnD.sll (by assumption)) _ (by omega) | exact Go.Gw.SLL.at (by first | assumption | exact Go.Gw.OwnD.sll (by assumption)) (by omega) | exact Go.Gw.OwnD.sll (by assumption) | (apply Go.Gw.SL.chg; case hx => assumption) | (apply Go.Gw.Own.chg; case hx => assumption) | (apply Go.Gw.Box.chg; case hx => assumption) | (apply Go.Gw.At.chg; case hx => assumption) | exact .inl (Nat.zero_le _) | exact .inr (Nat.zero_le _) | (show _ ∨ _; omega))) (hb : -9223372036854775808 ≤ e + n ∧ e + n ≤ 9223372036854775807 ∧ -9223372036854775808 ≤ e + n + j ∧ e + n + j ≤ 9223372036854775807 := by omega) : Val Try.prog 123 [ptr b 0] w (.int .i64 (e + n + j)) := by
  refine ⟨fun w1 hx1 => ?_⟩
  have E : Since 0 0 w1 w1 := Since.refl 0 0 w1
  refine ret_enter Try.func123 rfl Try.ntmps123 rfl ?_
  focus
    have hz_hx1 := hx1.size
    replace hp := hp.ext hx1
    refine c_seq ?_
    refine c_region ?_
    refine w_pure (y_assign rfl) rfl ?_
    refine w_nil ?_
    refine x_next ?_
    refine c_seq ?_
    refine c_region_calm mixed (by decide +kernel) (by kernel_rfl) ?_
    refine q_pure (y_move rfl) rfl ?_
    refine q_pure (y_nil rfl) rfl ?_
    refine q_pure (y_field rfl) rfl ?_
    refine q_pure (y_loadk rfl) rfl ?_
    refine q_pure (y_move rfl) rfl ?_
    refine q_pure (y_nil rfl) rfl ?_
    refine q_pure (y_field rfl) rfl ?_
    refine q_pure (y_loadk rfl) rfl ?_
    refine q_pure (y_add rfl rfl) rfl ?_
    refine q_pure (y_move rfl) rfl ?_
    refine q_pure (y_nil rfl) rfl ?_
    refine q_pure (y_field rfl) rfl ?_
    refine q_pure (y_loadk rfl) rfl ?_
    refine q_pure (y_add rfl rfl) rfl ?_
    refine q_pure (y_assign rfl) rfl ?_
    refine q_nil (fun ws23 hxs23 hzs23 => ?_)
    have hz_hxs23 := hxs23.size
    replace E := E.trans hxs23
    replace hp := hp.ext hxs23
    refine x_next ?_
    refine c_ret ?_
    rotate_left
  exact x_retv [_] rfl ⟨rfl, trivial⟩ ⟨rfl, E.go⟩
theorem isWire_c (x y : Int) (hb : -9223372036854775808 ≤ e + n ∧ e + n ≤ 9223372036854775807 ∧ -9223372036854775808 ≤ e + n + j ∧ e + n + j ≤ 9223372036854775807 := by omega) : Val Try.prog 117 [.agg #[.int .i64 e, .int .i64 n, .int .i64 j, v], .agg #[.int .i64 x, .int .i64 y]] w (.bool (wireB (e + n + j) (x, y))) := by
  refine ⟨fun w1 hx1 => ?_⟩
  have E : Since 0 0 w1 w1 := Since.refl 0 0 w1
  refine ret_enter Try.func117 rfl Try.ntmps117 rfl ?_
  focus
    refine c_seq ?_
    refine c_region ?_
    refine w_box rfl (k := fun b2 w2 hb2 hx2 hl2 hs2 => ?_)
    have hz_hx2 := hx2.size
    replace E := E.trans hx2
    refine w_box rfl (k := fun b3 w3 hb3 hx3 hl3 hs3 => ?_)
    have hz_hx3 := hx3.size
    replace hb2 := hb2.ext hx3
    replace E := E.trans hx3
    refine w_pure (y_assign rfl) rfl ?_
    refine w_nil ?_
    refine x_next ?_
    refine c_seq ?_
    refine c_region_held mixed (fun wr1 hxr1 hzr1 => ?_)
    have hz_hxr1 := hxr1.size
    replace hb3 := hb3.ext hxr1
    replace hb2 := hb2.ext hxr1
    replace E := E.trans hxr1
    refine h_pure rfl (y_field rfl) rfl ?_
    refine h_pure rfl (y_load_box rfl) rfl ?_
    refine h_pure rfl (y_le rfl rfl) rfl ?_
    refine h_pure rfl (y_move rfl) rfl ?_
    (refine h_part_dec rfl rfl (fun hc9 => ?_) (fun hc9 => ?_) <;> try (first | exact absurd rfl hc9 | contradiction | exact Bool.noConfusion (show false = true from hc9.symm.trans (by assumption)) | exact Bool.noConfusion (show true = false from hc9.symm.trans (by assumption)) | (exfalso; omega) | (exfalso; simp only [*, Bool.not_true, Bool.not_false, reduceCtorEq] at hc9; done)))
    refine h_yes rfl rfl rfl (y_field rfl) rfl ?_
    refine h_yes rfl rfl rfl (y_load_box rfl) rfl ?_
    refine h_yes rfl rfl rfl (y_field rfl) rfl ?_
    refine h_yes rfl rfl rfl (y_load_box rfl) rfl ?_
    refine h_yes rfl rfl rfl (y_lt rfl rfl) rfl ?_
    refine h_pure rfl (y_pick_t rfl rfl) rfl ?_
    refine h_pure rfl (y_move rfl) rfl ?_
    (refine h_part_dec rfl rfl (fun hc16 => ?_) (fun hc16 => ?_) <;> try (first | exact absurd rfl hc16 | contradiction | exact Bool.noConfusion (show false = true from hc16.symm.trans (by assumption)) | exact Bool.noConfusion (show true = false from hc16.symm.trans (by assumption)) | (exfalso; omega) | (exfalso; simp only [*, Bool.not_true, Bool.not_false, reduceCtorEq] at hc16; done)))
    refine h_yes rfl rfl rfl (y_field rfl) rfl ?_
    refine h_yes rfl rfl rfl (y_load_box rfl) rfl ?_
    refine h_yes rfl rfl rfl (y_load_boxs rfl) rfl ?_
    (refine h_part rfl rfl (fun hc19 => ?_) (fun hc19 => ?_) <;> try (first | exact absurd rfl hc19 | contradiction | exact Bool.noConfusion (show false = true from hc19.symm.trans (by assumption)) | exact Bool.noConfusion (show true = false from hc19.symm.trans (by assumption)) | (exfalso; omega) | (exfalso; simp only [*, Bool.not_true, Bool.not_false, reduceCtorEq] at hc19; done)))
    refine h_one rfl ?_
    refine w_yes rfl rfl ?_
    refine w_val rfl rfl rfl (hubs_c) rfl (fun w19x1_29 hx19x1_29 hz19x1_29 => ?_)
    have hz_hx19x1_29 := hx19x1_29.size
    replace hb3 := hb3.ext hx19x1_29
    replace hb2 := hb2.ext hx19x1_29
    replace E := E.trans hx19x1_29
    refine w_nil ?_
    refine x_held ?_
    refine h_yes rfl rfl rfl (y_lt rfl rfl) rfl ?_
    refine h_pure rfl (y_pick_t rfl rfl) rfl ?_
    refine h_pure rfl (y_assign rfl) rfl ?_
    refine h_nil ?_
    refine x_next ?_
    refine c_ret ?_
    rotate_left
    refine h_no rfl rfl rfl rfl rfl ?_
    refine h_no rfl rfl rfl rfl rfl ?_
    refine h_no rfl rfl rfl rfl rfl ?_
    refine h_no rfl rfl rfl rfl rfl ?_
    refine h_no rfl rfl rfl rfl rfl ?_
    refine h_pure rfl (y_pick_f rfl rfl) rfl ?_
    refine h_pure rfl (y_assign rfl) rfl ?_
    refine h_nil ?_
    refine x_next ?_
    refine c_ret ?_
    rotate_left
    refine h_no rfl rfl rfl rfl rfl ?_
    refine h_no rfl rfl rfl rfl rfl ?_
    refine h_no rfl rfl rfl rfl rfl ?_
    refine h_no rfl rfl rfl rfl rfl ?_
    refine h_no rfl rfl rfl rfl rfl ?_
    refine h_pure rfl (y_pick_f rfl rfl) rfl ?_
    refine h_pure rfl (y_move rfl) rfl ?_
    refine h_no rfl rfl rfl rfl rfl ?_
    refine h_no rfl rfl rfl rfl rfl ?_
    refine h_no rfl rfl rfl rfl rfl ?_
    refine h_no rfl rfl rfl rfl rfl ?_
    refine h_no rfl rfl rfl rfl rfl ?_
    refine h_pure rfl (y_pick_f rfl rfl) rfl ?_
    refine h_pure rfl (y_assign rfl) rfl ?_
    refine h_nil ?_
    refine x_next ?_
    refine c_ret ?_
    rotate_left
  all_goals refine x_retv [_] rfl ⟨rfl, trivial⟩ ⟨?_, E.go⟩
  all_goals simp only [ofResults, wireB]
  all_goals first | exact congrArg Value.bool (decide_eq_decide.2 (by omega)) | exact congrArg Value.bool (decide_eq_false (by omega)).symm
theorem l12Wire_c (x y h : Int) : Val Try.prog 160 [.agg #[.int .i64 x, .int .i64 y], .int .i64 h] w (.bool (wireB h (x, y))) := by
  refine ⟨fun w1 hx1 => ?_⟩
  have E : Since 0 0 w1 w1 := Since.refl 0 0 w1
  refine ret_enter Try.func160 rfl Try.ntmps160 rfl ?_
  focus
    refine c_seq ?_
    refine c_region ?_
    refine w_box rfl (k := fun b2 w2 hb2 hx2 hl2 hs2 => ?_)
    have hz_hx2 := hx2.size
    replace E := E.trans hx2
    refine w_pure (y_assign rfl) rfl ?_
    refine w_nil ?_
    refine x_next ?_
    refine c_seq ?_
    refine c_region ?_
    refine w_pure (y_field rfl) rfl ?_
    refine w_pure (y_load_box rfl) rfl ?_
    refine w_pure (y_ge rfl rfl) rfl ?_
    refine w_pure (y_move rfl) rfl ?_
    (refine w_part_dec rfl rfl (fun hc9 => ?_) (fun hc9 => ?_) <;> try (first | exact absurd rfl hc9 | contradiction | exact Bool.noConfusion (show false = true from hc9.symm.trans (by assumption)) | exact Bool.noConfusion (show true = false from hc9.symm.trans (by assumption)) | (exfalso; omega) | (exfalso; simp only [*, Bool.not_true, Bool.not_false, reduceCtorEq] at hc9; done)))
    refine w_yes rfl rfl ?_
    refine w_pure (y_field rfl) rfl ?_
    refine w_yes rfl rfl ?_
    refine w_pure (y_load_box rfl) rfl ?_
    refine w_yes rfl rfl ?_
    refine w_pure (y_field rfl) rfl ?_
    refine w_yes rfl rfl ?_
    refine w_pure (y_load_box rfl) rfl ?_
    refine w_yes rfl rfl ?_
    refine w_pure (y_lt rfl rfl) rfl ?_
    refine w_pure (y_pick_t rfl rfl) rfl ?_
    refine w_pure (y_move rfl) rfl ?_
    (refine w_part_dec rfl rfl (fun hc16 => ?_) (fun hc16 => ?_) <;> try (first | exact absurd rfl hc16 | contradiction | exact Bool.noConfusion (show false = true from hc16.symm.trans (by assumption)) | exact Bool.noConfusion (show true = false from hc16.symm.trans (by assumption)) | (exfalso; omega) | (exfalso; simp only [*, Bool.not_true, Bool.not_false, reduceCtorEq] at hc16; done)))
    refine w_yes rfl rfl ?_
    refine w_pure (y_field rfl) rfl ?_
    refine w_yes rfl rfl ?_
    refine w_pure (y_load_box rfl) rfl ?_
    refine w_yes rfl rfl ?_
    refine w_pure (y_move rfl) rfl ?_
    refine w_yes rfl rfl ?_
    refine w_pure (y_lt rfl rfl) rfl ?_
    refine w_pure (y_pick_t rfl rfl) rfl ?_
    refine w_pure (y_assign rfl) rfl ?_
    refine w_nil ?_
    refine x_next ?_
    refine c_ret ?_
    rotate_left
    refine w_no rfl rfl rfl rfl ?_
    refine w_no rfl rfl rfl rfl ?_
    refine w_no rfl rfl rfl rfl ?_
    refine w_no rfl rfl rfl rfl ?_
    refine w_pure (y_pick_f rfl rfl) rfl ?_
    refine w_pure (y_assign rfl) rfl ?_
    refine w_nil ?_
    refine x_next ?_
    refine c_ret ?_
    rotate_left
    refine w_no rfl rfl rfl rfl ?_
    refine w_no rfl rfl rfl rfl ?_
    refine w_no rfl rfl rfl rfl ?_
    refine w_no rfl rfl rfl rfl ?_
    refine w_no rfl rfl rfl rfl ?_
    refine w_pure (y_pick_f rfl rfl) rfl ?_
    refine w_pure (y_move rfl) rfl ?_
    refine w_no rfl rfl rfl rfl ?_
    refine w_no rfl rfl rfl rfl ?_
    refine w_no rfl rfl rfl rfl ?_
    refine w_no rfl rfl rfl rfl ?_
    refine w_pure (y_pick_f rfl rfl) rfl ?_
    refine w_pure (y_assign rfl) rfl ?_
    refine w_nil ?_
    refine x_next ?_
    refine c_ret ?_
    rotate_left
  all_goals refine x_retv [_] rfl ⟨rfl, trivial⟩ ⟨?_, E.go⟩
  all_goals simp only [ofResults, wireB]
  all_goals first | exact congrArg Value.bool (decide_eq_decide.2 (by omega)) | exact congrArg Value.bool (decide_eq_false (by omega)).symm
def idxP (p : Int × Int → Bool) : List (Int × Int) → Int → Int
  | [], _ => -1
  | x :: r, i => if p x then i else idxP p r (i + 1)
theorem idxP_any (p : Int × Int → Bool) : ∀ (xs : List (Int × Int)) (i : Int), 0 ≤ i → (decide (0 ≤ idxP p xs i) = xs.any p)
  | [], i, h => by simp [idxP]
  | x :: r, i, h => by
    cases hp : p x
    · simp [idxP, hp, idxP_any p r (i + 1) (by omega)]
    · simp [idxP, hp, h]
theorem idxP_drop (p : Int × Int → Bool) (xs : List (Int × Int)) (i : Nat) (h : i < xs.length) : idxP p (xs.drop i) i = if p (xs.getD i (0, 0)) then (i : Int) else idxP p (xs.drop (i + 1)) (i + 1) := by
  rw [List.drop_eq_getElem_cons h, idxP, List.getD_eq_getElem?_getD, List.getElem?_eq_getElem h]; rfl
theorem IndexFuncW {f : FuncId} [Callable Try.prog f] {first cap : List Value} {p : Int × Int → Bool} (h : SL w lo hi v xs) (hp : ∀ x ∈ xs, Val Try.prog f (first ++ [.agg #[.int .i64 x.1, .int .i64 x.2]] ++ cap) w (.bool (p x))) :
    Val Try.prog 186 [v, .func (.func f) first.toArray cap.toArray] w (.int .i64 (idxP p xs 0)) := by
  refine ⟨fun w1 hx1 => ?_⟩
  have hsm := h.small
  have hp1 : ∀ x ∈ xs, Val Try.prog f (first ++ [.agg #[.int .i64 x.1, .int .i64 x.2]] ++ cap) w1 (.bool (p x)) := fun x hx => ⟨fun w3 hx3 => (hp x hx).go w3 (hx1.trans hx3)⟩
  have E : Since 0 0 w1 w1 := Since.refl 0 0 w1
  refine ret_enter Try.func186 rfl Try.ntmps186 rfl ?_
  focus
    have ht_h := h.top
    have hz_hx1 := hx1.size
    replace h := h.ext hx1
    refine c_seq ?_
    refine c_region ?_
    refine w_pure (y_assign rfl) rfl ?_
    refine w_nil ?_
    refine x_next ?_
    refine c_seq ?_
    refine c_seq ?_
    refine c_region ?_
    refine w_pure (y_move rfl) rfl ?_
    refine w_pure (y_len rfl) rfl ?_
    refine w_pure (y_move rfl) rfl ?_
    refine w_nil ?_
    refine x_next ?_
    refine c_block ?_
    rotate_left
  refine c_loopC 0 0 (ι := Nat) (fun x => [(0, v), (1, .func (.func f) first.toArray cap.toArray), (7, .int .i64 xs.length), (8, .int .i64 x)]) (fun x w => x ≤ xs.length ∧ idxP p (xs.drop x) x = idxP p xs 0) (fun x => xs.length - x) 0
    (by repeat (first | exact trivial | refine ⟨rfl, ?_⟩)) ⟨by omega, rfl⟩ ?_
  rintro i wL hxL EL ⟨hi, hidx⟩
  have hstep := idxP_drop p xs i
  focus
    have hz_hxL := hxL.size
    replace E := E.trans hxL
    replace h := h.ext hxL
    refine c_seq ?_
    refine c_region ?_
    refine w_pure (y_lt rfl rfl) rfl ?_
    refine w_nil ?_
    refine x_next ?_
    refine c_seq ?_
    (refine c_dec rfl (fun hc9 => ?_) (fun hc9 => ?_) <;> try (first | exact absurd rfl hc9 | contradiction | exact Bool.noConfusion (show false = true from hc9.symm.trans (by assumption)) | exact Bool.noConfusion (show true = false from hc9.symm.trans (by assumption)) | (exfalso; omega) | (exfalso; simp only [*, Bool.not_true, Bool.not_false, reduceCtorEq] at hc9; done)))
    refine c_skip ?_
    refine x_next ?_
    refine c_seq ?_
    refine c_block ?_
    refine c_seq ?_
    refine c_region ?_
    refine w_pure (y_move rfl) rfl ?_
    refine w_pure (y_assign rfl) rfl ?_
    refine w_nil ?_
    refine x_next ?_
    refine c_seq ?_
    refine c_region ?_
    refine w_pure (y_move rfl) rfl ?_
    refine w_pure (y_move rfl) rfl ?_
    refine w_pure (y_move rfl) rfl ?_
    refine w_pure (y_index rfl rfl) rfl ?_
    refine w_pure (y_load_pair rfl) rfl ?_
    rotate_left
    refine c_exit ?_
    refine x_then_exit ?_
    refine x_then_exit ?_
    refine x_block_hit ?_
    refine x_next ?_
    refine c_seq ?_
    refine c_region ?_
    refine w_pure (y_assign rfl) rfl ?_
    refine w_nil ?_
    refine x_next ?_
    refine c_ret ?_
    rotate_left
  · have hlt : i < xs.length := by omega
    have hmem : xs.getD i (0, 0) ∈ xs := by rw [List.getD_eq_getElem?_getD, List.getElem?_eq_getElem hlt]; simp
    refine w_val rfl rfl rfl ⟨fun w3 hx3 => (hp1 _ hmem).go w3 (EL.go.trans hx3)⟩ rfl (fun w9a hx9a hz9a => ?_)
    have hs := (hstep hlt).symm.trans hidx
    focus
      have hz_hx9a := hx9a.size
      replace EL := EL.trans hx9a
      replace E := E.trans hx9a
      replace h := h.ext hx9a
      refine w_nil ?_
      refine x_next ?_
      (refine c_if rfl (fun hc16 => ?_) (fun hc16 => ?_) <;> try (first | exact absurd rfl hc16 | contradiction | exact Bool.noConfusion (show false = true from hc16.symm.trans (by assumption)) | exact Bool.noConfusion (show true = false from hc16.symm.trans (by assumption)) | (exfalso; omega) | (exfalso; simp only [*, Bool.not_true, Bool.not_false, reduceCtorEq] at hc16; done)))
      refine c_seq ?_
      refine c_region ?_
      refine w_pure (y_move rfl) rfl ?_
      refine w_pure (y_assign rfl) rfl ?_
      refine w_nil ?_
      refine x_next ?_
      refine c_ret ?_
      refine x_block_ret ?_
      refine x_then_ret ?_
      refine x_then_ret ?_
      refine x_block_ret ?_
      refine x_then_ret ?_
      rotate_left
      refine c_skip ?_
      refine x_block_norm ?_
      refine x_next ?_
      refine c_region ?_
      refine w_pure (y_add rfl rfl) rfl ?_
      refine w_pure (y_move rfl) rfl ?_
      refine w_nil ?_
      rotate_left
    · refine x_retv [_] rfl ⟨rfl, trivial⟩ ⟨?_, E.go⟩
      rw [if_pos hc16] at hs
      rw [← hs]; rfl
    · refine x_again (i + 1) (by repeat (first | exact trivial | refine ⟨rfl, ?_⟩)) ⟨EL.go, by omega, ?_⟩ (by omega)
      rw [hc16] at hs
      simpa using hs
  · refine x_retv [_] rfl ⟨rfl, trivial⟩ ⟨?_, E.go⟩
    rw [List.drop_eq_nil_of_le (by omega)] at hidx
    rw [← hidx]; rfl
theorem ContainsFuncW {f : FuncId} [Callable Try.prog f] {first cap : List Value} {p : Int × Int → Bool} (h : SL w lo hi v xs := by repeat (first | assumption | exact Go.Gw.Own.sl (by assumption) | exact Go.Gw.Box.at (by assumption) | exact Go.Gw.SLL.el (by first | assumption | exact Go.Gw.OwnD.sll (by assumption)) _ (by omega) | exact Go.Gw.SLL.at (by first | assumption | exact Go.Gw.OwnD.sll (by assumption)) (by omega) | exact Go.Gw.OwnD.sll (by assumption) | (apply Go.Gw.SL.chg; case hx => assumption) | (apply Go.Gw.Own.chg; case hx => assumption) | (apply Go.Gw.Box.chg; case hx => assumption) | (apply Go.Gw.At.chg; case hx => assumption) | exact .inl (Nat.zero_le _) | exact .inr (Nat.zero_le _) | (show _ ∨ _; omega))) (hp : ∀ x ∈ xs, Val Try.prog f (first ++ [.agg #[.int .i64 x.1, .int .i64 x.2]] ++ cap) w (.bool (p x))) :
    Val Try.prog 154 [v, .func (.func f) first.toArray cap.toArray] w (.bool (xs.any p)) := by
  refine ⟨fun w1 hx1 => ?_⟩
  have h2 := IndexFuncW (w := w) h hp
  have h3 : Val Try.prog 186 [v, .func (.func f) first.toArray cap.toArray] w1 (.int .i64 (idxP p xs 0)) := ⟨fun w3 hx3 => h2.go w3 (hx1.trans hx3)⟩
  have E : Since 0 0 w1 w1 := Since.refl 0 0 w1
  refine ret_enter Try.func154 rfl Try.ntmps154 rfl ?_
  focus
    have ht_h := h.top
    have hz_hx1 := hx1.size
    replace h := h.ext hx1
    refine c_seq ?_
    refine c_region ?_
    refine w_pure (y_assign rfl) rfl ?_
    refine w_nil ?_
    refine x_next ?_
    refine c_seq ?_
    refine c_region ?_
    refine w_pure (y_move rfl) rfl ?_
    refine w_pure (y_move rfl) rfl ?_
    refine w_val rfl rfl rfl (h3) rfl (fun w7 hx7 hz7 => ?_)
    have hz_hx7 := hx7.size
    replace E := E.trans hx7
    replace h := h.ext hx7
    refine w_pure (y_ge rfl rfl) rfl ?_
    refine w_pure (y_assign rfl) rfl ?_
    refine w_nil ?_
    refine x_next ?_
    refine c_ret ?_
    rotate_left
  refine x_retv [_] rfl ⟨rfl, trivial⟩ ⟨?_, E.go⟩
  rw [idxP_any p xs 0 (by omega)]; rfl
theorem ValidBoard1_c (x y : Int) (hp : At w b 0 [.int .i64 e, .int .i64 n, .int .i64 j, v] := by repeat (first | assumption | exact Go.Gw.Own.sl (by assumption) | exact Go.Gw.Box.at (by assumption) | exact Go.Gw.SLL.el (by first | assumption | exact Go.Gw.OwnD.sll (by assumption)) _ (by omega) | exact Go.Gw.SLL.at (by first | assumption | exact Go.Gw.OwnD.sll (by assumption)) (by omega) | exact Go.Gw.OwnD.sll (by assumption) | (apply Go.Gw.SL.chg; case hx => assumption) | (apply Go.Gw.Own.chg; case hx => assumption) | (apply Go.Gw.Box.chg; case hx => assumption) | (apply Go.Gw.At.chg; case hx => assumption) | exact .inl (Nat.zero_le _) | exact .inr (Nat.zero_le _) | (show _ ∨ _; omega))) (hb : -9223372036854775808 ≤ e + n ∧ e + n ≤ 9223372036854775807 ∧ -9223372036854775808 ≤ e + n + j ∧ e + n + j ≤ 9223372036854775807 := by omega) : Val Try.prog 155 [.agg #[.int .i64 x, .int .i64 y], ptr b 0] w (.bool (!wireB (e + n + j) (x, y))) := by
  refine ⟨fun w1 hx1 => ?_⟩
  have E : Since 0 0 w1 w1 := Since.refl 0 0 w1
  refine ret_enter Try.func155 rfl Try.ntmps155 rfl ?_
  focus
    have hz_hx1 := hx1.size
    replace hp := hp.ext hx1
    refine c_seq ?_
    refine c_region ?_
    refine w_box rfl (k := fun b2 w2 hb2 hx2 hl2 hs2 => ?_)
    have hz_hx2 := hx2.size
    replace E := E.trans hx2
    replace hp := hp.ext hx2
    refine w_pure (y_assign rfl) rfl ?_
    refine w_nil ?_
    refine x_next ?_
    refine c_seq ?_
    refine c_region ?_
    refine w_pure (y_loads rfl) rfl ?_
    refine w_pure (y_load_boxs rfl) rfl ?_
    refine w_val rfl rfl rfl (isWire_c _ _) rfl (fun w6 hx6 hz6 => ?_)
    have hz_hx6 := hx6.size
    replace hb2 := hb2.ext hx6
    replace E := E.trans hx6
    replace hp := hp.ext hx6
    refine w_pure (y_not_dec rfl) rfl ?_
    refine w_pure (y_assign rfl) rfl ?_
    refine w_nil ?_
    refine x_next ?_
    refine c_ret ?_
    rotate_left
  exact x_retv [_] rfl ⟨rfl, trivial⟩ ⟨by simp only [ofResults, wireB, decide_not], E.go⟩
theorem iValidBoard_c (h : SL w lo hi v xs := by repeat (first | assumption | exact Go.Gw.Own.sl (by assumption) | exact Go.Gw.Box.at (by assumption) | exact Go.Gw.SLL.el (by first | assumption | exact Go.Gw.OwnD.sll (by assumption)) _ (by omega) | exact Go.Gw.SLL.at (by first | assumption | exact Go.Gw.OwnD.sll (by assumption)) (by omega) | exact Go.Gw.OwnD.sll (by assumption) | (apply Go.Gw.SL.chg; case hx => assumption) | (apply Go.Gw.Own.chg; case hx => assumption) | (apply Go.Gw.Box.chg; case hx => assumption) | (apply Go.Gw.At.chg; case hx => assumption) | exact .inl (Nat.zero_le _) | exact .inr (Nat.zero_le _) | (show _ ∨ _; omega))) : Val Try.prog 98 [.agg #[.int .i64 e, .int .i64 n, .int .i64 j, v]] w (.bool (okB e n j xs)) := by
  refine ⟨fun w0 hx0 => ?_⟩
  have E : Since 0 0 w0 w0 := Since.refl 0 0 w0
  by_cases hk : 1 ≤ e ∧ e ≤ 20 ∧ 1 ≤ n ∧ n ≤ 20 ∧ 0 ≤ j ∧ j ≤ 30
  · by_cases hk2 : e + n + j ≤ 30 ∧ xs.length ≤ 40
    · refine ret_enter Try.func98 rfl Try.ntmps98 rfl ?_
      focus
        have ht_h := h.top
        have hz_hx0 := hx0.size
        replace h := h.ext hx0
        refine c_seq ?_
        refine c_region ?_
        refine w_box rfl (k := fun b1 w1 hb1 hx1 hl1 hs1 => ?_)
        have hz_hx1 := hx1.size
        replace E := E.trans hx1
        replace h := h.ext hx1
        refine w_pure (y_assign rfl) rfl ?_
        refine w_nil ?_
        refine x_next ?_
        refine c_seq ?_
        refine c_seq ?_
        refine c_region ?_
        refine w_pure (y_field rfl) rfl ?_
        refine w_pure (y_load_box rfl) rfl ?_
        refine w_pur rfl rfl rfl (inside_c _ _ _) rfl ?_
        refine w_pure (y_not_dec rfl) rfl ?_
        refine w_pure (y_move rfl) rfl ?_
        (refine w_part_dec rfl rfl (fun hc8 => ?_) (fun hc8 => ?_) <;> try (first | exact absurd rfl hc8 | contradiction | exact Bool.noConfusion (show false = true from hc8.symm.trans (by assumption)) | exact Bool.noConfusion (show true = false from hc8.symm.trans (by assumption)) | (exfalso; omega) | (exfalso; simp only [*, Bool.not_true, Bool.not_false, reduceCtorEq] at hc8; done)))
        refine w_yes rfl rfl ?_
        refine w_pure (y_field rfl) rfl ?_
        refine w_yes rfl rfl ?_
        refine w_pure (y_load_box rfl) rfl ?_
        refine w_yes rfl rfl ?_
        refine w_pur rfl rfl rfl (inside_c _ _ _) rfl ?_
        refine w_yes rfl rfl ?_
        refine w_pure (y_not_dec rfl) rfl ?_
        refine w_pure (y_pick_f rfl rfl) rfl ?_
        refine w_pure (y_move rfl) rfl ?_
        (refine w_part_dec rfl rfl (fun hc14 => ?_) (fun hc14 => ?_) <;> try (first | exact absurd rfl hc14 | contradiction | exact Bool.noConfusion (show false = true from hc14.symm.trans (by assumption)) | exact Bool.noConfusion (show true = false from hc14.symm.trans (by assumption)) | (exfalso; omega) | (exfalso; simp only [*, Bool.not_true, Bool.not_false, reduceCtorEq] at hc14; done)))
        refine w_yes rfl rfl ?_
        refine w_pure (y_field rfl) rfl ?_
        refine w_yes rfl rfl ?_
        refine w_pure (y_load_box rfl) rfl ?_
        refine w_yes rfl rfl ?_
        refine w_pur rfl rfl rfl (inside_c _ _ _) rfl ?_
        refine w_yes rfl rfl ?_
        refine w_pure (y_not_dec rfl) rfl ?_
        refine w_pure (y_pick_f rfl rfl) rfl ?_
        refine w_pure (y_move rfl) rfl ?_
        (refine w_part_dec rfl rfl (fun hc20 => ?_) (fun hc20 => ?_) <;> try (first | exact absurd rfl hc20 | contradiction | exact Bool.noConfusion (show false = true from hc20.symm.trans (by assumption)) | exact Bool.noConfusion (show true = false from hc20.symm.trans (by assumption)) | (exfalso; omega) | (exfalso; simp only [*, Bool.not_true, Bool.not_false, reduceCtorEq] at hc20; done)))
        refine w_yes rfl rfl ?_
        refine w_pure (y_load_boxs rfl) rfl ?_
        refine w_yes rfl rfl ?_
        refine w_val rfl rfl rfl (hubs_c) rfl (fun w21 hx21 hz21 => ?_)
        have hz_hx21 := hx21.size
        replace hb1 := hb1.ext hx21
        replace E := E.trans hx21
        replace h := h.ext hx21
        refine w_yes rfl rfl ?_
        refine w_pure (y_gt rfl rfl) rfl ?_
        refine w_pure (y_pick_f rfl rfl) rfl ?_
        refine w_pure (y_move rfl) rfl ?_
        (refine w_part_dec rfl rfl (fun hc25 => ?_) (fun hc25 => ?_) <;> try (first | exact absurd rfl hc25 | contradiction | exact Bool.noConfusion (show false = true from hc25.symm.trans (by assumption)) | exact Bool.noConfusion (show true = false from hc25.symm.trans (by assumption)) | (exfalso; omega) | (exfalso; simp only [*, Bool.not_true, Bool.not_false, reduceCtorEq] at hc25; done)))
        refine w_yes rfl rfl ?_
        refine w_pure (y_field rfl) rfl ?_
        refine w_yes rfl rfl ?_
        refine w_pure (y_load_box rfl) rfl ?_
        refine w_yes rfl rfl ?_
        refine w_pure (y_len rfl) rfl ?_
        refine w_yes rfl rfl ?_
        refine w_pure (y_gt rfl rfl) rfl ?_
        refine w_pure (y_pick_f rfl rfl) rfl ?_
        refine w_nil ?_
        refine x_next ?_
        (refine c_dec rfl (fun hc29 => ?_) (fun hc29 => ?_) <;> try (first | exact absurd rfl hc29 | contradiction | exact Bool.noConfusion (show false = true from hc29.symm.trans (by assumption)) | exact Bool.noConfusion (show true = false from hc29.symm.trans (by assumption)) | (exfalso; omega) | (exfalso; simp only [*, Bool.not_true, Bool.not_false, reduceCtorEq] at hc29; done)))
        refine c_skip ?_
        refine x_next ?_
        refine c_seq ?_
        refine c_region ?_
        refine w_pure (y_field rfl) rfl ?_
        refine w_pure (y_load_box rfl) rfl ?_
        refine w_pure (y_func rfl) rfl ?_
        refine w_val rfl rfl rfl (ContainsFuncW (first := []) (cap := [ptr b1 0]) (p := fun x => !wireB (e + n + j) x) (hp := fun x _ => ValidBoard1_c x.1 x.2)) rfl (fun w33 hx33 hz33 => ?_)
        have hz_hx33 := hx33.size
        replace hb1 := hb1.ext hx33
        replace E := E.trans hx33
        replace h := h.ext hx33
        refine w_pure (y_not rfl) rfl ?_
        refine w_pure (y_assign rfl) rfl ?_
        refine w_nil ?_
        refine x_next ?_
        refine c_ret ?_
        rotate_left
      refine x_retv [_] rfl ⟨rfl, trivial⟩ ⟨?_, E.go⟩
      have : decide (1 ≤ e ∧ e ≤ 20 ∧ 1 ≤ n ∧ n ≤ 20 ∧ 0 ≤ j ∧ j ≤ 30 ∧ e + n + j ≤ 30 ∧ xs.length ≤ 40) = true := decide_eq_true (by omega)
      simp only [ofResults, okB, this, Bool.true_and]
    · refine ret_enter Try.func98 rfl Try.ntmps98 rfl ?_
      focus
        have ht_h := h.top
        have hz_hx0 := hx0.size
        replace h := h.ext hx0
        refine c_seq ?_
        refine c_region ?_
        refine w_box rfl (k := fun b1 w1 hb1 hx1 hl1 hs1 => ?_)
        have hz_hx1 := hx1.size
        replace E := E.trans hx1
        replace h := h.ext hx1
        refine w_pure (y_assign rfl) rfl ?_
        refine w_nil ?_
        refine x_next ?_
        refine c_seq ?_
        refine c_seq ?_
        refine c_region ?_
        refine w_pure (y_field rfl) rfl ?_
        refine w_pure (y_load_box rfl) rfl ?_
        refine w_pur rfl rfl rfl (inside_c _ _ _) rfl ?_
        refine w_pure (y_not_dec rfl) rfl ?_
        refine w_pure (y_move rfl) rfl ?_
        (refine w_part_dec rfl rfl (fun hc8 => ?_) (fun hc8 => ?_) <;> try (first | exact absurd rfl hc8 | contradiction | exact Bool.noConfusion (show false = true from hc8.symm.trans (by assumption)) | exact Bool.noConfusion (show true = false from hc8.symm.trans (by assumption)) | (exfalso; omega) | (exfalso; simp only [*, Bool.not_true, Bool.not_false, reduceCtorEq] at hc8; done)))
        refine w_yes rfl rfl ?_
        refine w_pure (y_field rfl) rfl ?_
        refine w_yes rfl rfl ?_
        refine w_pure (y_load_box rfl) rfl ?_
        refine w_yes rfl rfl ?_
        refine w_pur rfl rfl rfl (inside_c _ _ _) rfl ?_
        refine w_yes rfl rfl ?_
        refine w_pure (y_not_dec rfl) rfl ?_
        refine w_pure (y_pick_f rfl rfl) rfl ?_
        refine w_pure (y_move rfl) rfl ?_
        (refine w_part_dec rfl rfl (fun hc14 => ?_) (fun hc14 => ?_) <;> try (first | exact absurd rfl hc14 | contradiction | exact Bool.noConfusion (show false = true from hc14.symm.trans (by assumption)) | exact Bool.noConfusion (show true = false from hc14.symm.trans (by assumption)) | (exfalso; omega) | (exfalso; simp only [*, Bool.not_true, Bool.not_false, reduceCtorEq] at hc14; done)))
        refine w_yes rfl rfl ?_
        refine w_pure (y_field rfl) rfl ?_
        refine w_yes rfl rfl ?_
        refine w_pure (y_load_box rfl) rfl ?_
        refine w_yes rfl rfl ?_
        refine w_pur rfl rfl rfl (inside_c _ _ _) rfl ?_
        refine w_yes rfl rfl ?_
        refine w_pure (y_not_dec rfl) rfl ?_
        refine w_pure (y_pick_f rfl rfl) rfl ?_
        refine w_pure (y_move rfl) rfl ?_
        (refine w_part_dec rfl rfl (fun hc20 => ?_) (fun hc20 => ?_) <;> try (first | exact absurd rfl hc20 | contradiction | exact Bool.noConfusion (show false = true from hc20.symm.trans (by assumption)) | exact Bool.noConfusion (show true = false from hc20.symm.trans (by assumption)) | (exfalso; omega) | (exfalso; simp only [*, Bool.not_true, Bool.not_false, reduceCtorEq] at hc20; done)))
        refine w_yes rfl rfl ?_
        refine w_pure (y_load_boxs rfl) rfl ?_
        refine w_yes rfl rfl ?_
        refine w_val rfl rfl rfl (hubs_c) rfl (fun w21 hx21 hz21 => ?_)
        have hz_hx21 := hx21.size
        replace hb1 := hb1.ext hx21
        replace E := E.trans hx21
        replace h := h.ext hx21
        refine w_yes rfl rfl ?_
        refine w_pure (y_gt rfl rfl) rfl ?_
        refine w_pure (y_pick_f rfl rfl) rfl ?_
        refine w_pure (y_move rfl) rfl ?_
        (refine w_part_dec rfl rfl (fun hc25 => ?_) (fun hc25 => ?_) <;> try (first | exact absurd rfl hc25 | contradiction | exact Bool.noConfusion (show false = true from hc25.symm.trans (by assumption)) | exact Bool.noConfusion (show true = false from hc25.symm.trans (by assumption)) | (exfalso; omega) | (exfalso; simp only [*, Bool.not_true, Bool.not_false, reduceCtorEq] at hc25; done)))
        refine w_no rfl rfl rfl rfl ?_
        refine w_no rfl rfl rfl rfl ?_
        refine w_no rfl rfl rfl rfl ?_
        refine w_no rfl rfl rfl rfl ?_
        refine w_pure (y_pick_t rfl rfl) rfl ?_
        refine w_nil ?_
        refine x_next ?_
        refine c_true rfl ?_
        refine c_seq ?_
        refine c_region ?_
        refine w_pure (y_assign rfl) rfl ?_
        refine w_nil ?_
        refine x_next ?_
        refine c_ret ?_
        refine x_then_ret ?_
        rotate_left
        refine w_yes rfl rfl ?_
        refine w_pure (y_field rfl) rfl ?_
        refine w_yes rfl rfl ?_
        refine w_pure (y_load_box rfl) rfl ?_
        refine w_yes rfl rfl ?_
        refine w_pure (y_len rfl) rfl ?_
        refine w_yes rfl rfl ?_
        refine w_pure (y_gt rfl rfl) rfl ?_
        refine w_pure (y_pick_f rfl rfl) rfl ?_
        refine w_nil ?_
        refine x_next ?_
        (refine c_dec rfl (fun hc29 => ?_) (fun hc29 => ?_) <;> try (first | exact absurd rfl hc29 | contradiction | exact Bool.noConfusion (show false = true from hc29.symm.trans (by assumption)) | exact Bool.noConfusion (show true = false from hc29.symm.trans (by assumption)) | (exfalso; omega) | (exfalso; simp only [*, Bool.not_true, Bool.not_false, reduceCtorEq] at hc29; done)))
        refine c_seq ?_
        refine c_region ?_
        refine w_pure (y_assign rfl) rfl ?_
        refine w_nil ?_
        refine x_next ?_
        refine c_ret ?_
        refine x_then_ret ?_
        rotate_left
      all_goals refine x_retv [_] rfl ⟨rfl, trivial⟩ ⟨?_, E.go⟩
      all_goals
        have : decide (1 ≤ e ∧ e ≤ 20 ∧ 1 ≤ n ∧ n ≤ 20 ∧ 0 ≤ j ∧ j ≤ 30 ∧ e + n + j ≤ 30 ∧ xs.length ≤ 40) = false := decide_eq_false (by omega)
        simp only [ofResults, okB, this, Bool.false_and]
  · refine ret_enter Try.func98 rfl Try.ntmps98 rfl ?_
    focus
      have ht_h := h.top
      have hz_hx0 := hx0.size
      replace h := h.ext hx0
      refine c_seq ?_
      refine c_region ?_
      refine w_box rfl (k := fun b1 w1 hb1 hx1 hl1 hs1 => ?_)
      have hz_hx1 := hx1.size
      replace E := E.trans hx1
      replace h := h.ext hx1
      refine w_pure (y_assign rfl) rfl ?_
      refine w_nil ?_
      refine x_next ?_
      refine c_seq ?_
      refine c_seq ?_
      refine c_region ?_
      refine w_pure (y_field rfl) rfl ?_
      refine w_pure (y_load_box rfl) rfl ?_
      refine w_pur rfl rfl rfl (inside_c _ _ _) rfl ?_
      refine w_pure (y_not_dec rfl) rfl ?_
      refine w_pure (y_move rfl) rfl ?_
      (refine w_part_dec rfl rfl (fun hc8 => ?_) (fun hc8 => ?_) <;> try (first | exact absurd rfl hc8 | contradiction | exact Bool.noConfusion (show false = true from hc8.symm.trans (by assumption)) | exact Bool.noConfusion (show true = false from hc8.symm.trans (by assumption)) | (exfalso; omega) | (exfalso; simp only [*, Bool.not_true, Bool.not_false, reduceCtorEq] at hc8; done)))
      refine w_no rfl rfl rfl rfl ?_
      refine w_no rfl rfl rfl rfl ?_
      refine w_no rfl rfl rfl rfl ?_
      refine w_no rfl rfl rfl rfl ?_
      refine w_pure (y_pick_t rfl rfl) rfl ?_
      refine w_pure (y_move rfl) rfl ?_
      refine w_no rfl rfl rfl rfl ?_
      refine w_no rfl rfl rfl rfl ?_
      refine w_no rfl rfl rfl rfl ?_
      refine w_no rfl rfl rfl rfl ?_
      refine w_pure (y_pick_t rfl rfl) rfl ?_
      refine w_pure (y_move rfl) rfl ?_
      refine w_no rfl rfl rfl rfl ?_
      refine w_no rfl rfl rfl rfl ?_
      refine w_no rfl rfl rfl rfl ?_
      refine w_pure (y_pick_t rfl rfl) rfl ?_
      refine w_pure (y_move rfl) rfl ?_
      refine w_no rfl rfl rfl rfl ?_
      refine w_no rfl rfl rfl rfl ?_
      refine w_no rfl rfl rfl rfl ?_
      refine w_no rfl rfl rfl rfl ?_
      refine w_pure (y_pick_t rfl rfl) rfl ?_
      refine w_nil ?_
      refine x_next ?_
      refine c_true rfl ?_
      refine c_seq ?_
      refine c_region ?_
      refine w_pure (y_assign rfl) rfl ?_
      refine w_nil ?_
      refine x_next ?_
      refine c_ret ?_
      refine x_then_ret ?_
      rotate_left
      refine w_yes rfl rfl ?_
      refine w_pure (y_field rfl) rfl ?_
      refine w_yes rfl rfl ?_
      refine w_pure (y_load_box rfl) rfl ?_
      refine w_yes rfl rfl ?_
      refine w_pur rfl rfl rfl (inside_c _ _ _) rfl ?_
      refine w_yes rfl rfl ?_
      refine w_pure (y_not_dec rfl) rfl ?_
      refine w_pure (y_pick_f rfl rfl) rfl ?_
      refine w_pure (y_move rfl) rfl ?_
      (refine w_part_dec rfl rfl (fun hc14 => ?_) (fun hc14 => ?_) <;> try (first | exact absurd rfl hc14 | contradiction | exact Bool.noConfusion (show false = true from hc14.symm.trans (by assumption)) | exact Bool.noConfusion (show true = false from hc14.symm.trans (by assumption)) | (exfalso; omega) | (exfalso; simp only [*, Bool.not_true, Bool.not_false, reduceCtorEq] at hc14; done)))
      refine w_no rfl rfl rfl rfl ?_
      refine w_no rfl rfl rfl rfl ?_
      refine w_no rfl rfl rfl rfl ?_
      refine w_no rfl rfl rfl rfl ?_
      refine w_pure (y_pick_t rfl rfl) rfl ?_
      refine w_pure (y_move rfl) rfl ?_
      refine w_no rfl rfl rfl rfl ?_
      refine w_no rfl rfl rfl rfl ?_
      refine w_no rfl rfl rfl rfl ?_
      refine w_pure (y_pick_t rfl rfl) rfl ?_
      refine w_pure (y_move rfl) rfl ?_
      refine w_no rfl rfl rfl rfl ?_
      refine w_no rfl rfl rfl rfl ?_
      refine w_no rfl rfl rfl rfl ?_
      refine w_no rfl rfl rfl rfl ?_
      refine w_pure (y_pick_t rfl rfl) rfl ?_
      refine w_nil ?_
      refine x_next ?_
      refine c_true rfl ?_
      refine c_seq ?_
      refine c_region ?_
      refine w_pure (y_assign rfl) rfl ?_
      refine w_nil ?_
      refine x_next ?_
      refine c_ret ?_
      refine x_then_ret ?_
      rotate_left
      refine w_yes rfl rfl ?_
      refine w_pure (y_field rfl) rfl ?_
      refine w_yes rfl rfl ?_
      refine w_pure (y_load_box rfl) rfl ?_
      refine w_yes rfl rfl ?_
      refine w_pur rfl rfl rfl (inside_c _ _ _) rfl ?_
      refine w_yes rfl rfl ?_
      refine w_pure (y_not_dec rfl) rfl ?_
      refine w_pure (y_pick_f rfl rfl) rfl ?_
      refine w_pure (y_move rfl) rfl ?_
      (refine w_part_dec rfl rfl (fun hc20 => ?_) (fun hc20 => ?_) <;> try (first | exact absurd rfl hc20 | contradiction | exact Bool.noConfusion (show false = true from hc20.symm.trans (by assumption)) | exact Bool.noConfusion (show true = false from hc20.symm.trans (by assumption)) | (exfalso; omega) | (exfalso; simp only [*, Bool.not_true, Bool.not_false, reduceCtorEq] at hc20; done)))
      refine w_no rfl rfl rfl rfl ?_
      refine w_no rfl rfl rfl rfl ?_
      refine w_no rfl rfl rfl rfl ?_
      refine w_pure (y_pick_t rfl rfl) rfl ?_
      refine w_pure (y_move rfl) rfl ?_
      refine w_no rfl rfl rfl rfl ?_
      refine w_no rfl rfl rfl rfl ?_
      refine w_no rfl rfl rfl rfl ?_
      refine w_no rfl rfl rfl rfl ?_
      refine w_pure (y_pick_t rfl rfl) rfl ?_
      refine w_nil ?_
      refine x_next ?_
      refine c_true rfl ?_
      refine c_seq ?_
      refine c_region ?_
      refine w_pure (y_assign rfl) rfl ?_
      refine w_nil ?_
      refine x_next ?_
      refine c_ret ?_
      refine x_then_ret ?_
      rotate_left
    all_goals refine x_retv [_] rfl ⟨rfl, trivial⟩ ⟨?_, E.go⟩
    all_goals
      have : decide (1 ≤ e ∧ e ≤ 20 ∧ 1 ≤ n ∧ n ≤ 20 ∧ 0 ≤ j ∧ j ≤ 30 ∧ e + n + j ≤ 30 ∧ xs.length ≤ 40) = false := decide_eq_false (by omega)
      simp only [ofResults, okB, this, Bool.false_and]
theorem l12Ok_c (hp : At w b 0 [.int .i64 e, .int .i64 n, .int .i64 j, v] := by repeat (first | assumption | exact Go.Gw.Own.sl (by assumption) | exact Go.Gw.Box.at (by assumption) | exact Go.Gw.SLL.el (by first | assumption | exact Go.Gw.OwnD.sll (by assumption)) _ (by omega) | exact Go.Gw.SLL.at (by first | assumption | exact Go.Gw.OwnD.sll (by assumption)) (by omega) | exact Go.Gw.OwnD.sll (by assumption) | (apply Go.Gw.SL.chg; case hx => assumption) | (apply Go.Gw.Own.chg; case hx => assumption) | (apply Go.Gw.Box.chg; case hx => assumption) | (apply Go.Gw.At.chg; case hx => assumption) | exact .inl (Nat.zero_le _) | exact .inr (Nat.zero_le _) | (show _ ∨ _; omega))) (h : SL w lo hi v xs := by repeat (first | assumption | exact Go.Gw.Own.sl (by assumption) | exact Go.Gw.Box.at (by assumption) | exact Go.Gw.SLL.el (by first | assumption | exact Go.Gw.OwnD.sll (by assumption)) _ (by omega) | exact Go.Gw.SLL.at (by first | assumption | exact Go.Gw.OwnD.sll (by assumption)) (by omega) | exact Go.Gw.OwnD.sll (by assumption) | (apply Go.Gw.SL.chg; case hx => assumption) | (apply Go.Gw.Own.chg; case hx => assumption) | (apply Go.Gw.Box.chg; case hx => assumption) | (apply Go.Gw.At.chg; case hx => assumption) | exact .inl (Nat.zero_le _) | exact .inr (Nat.zero_le _) | (show _ ∨ _; omega))) : Val Try.prog 108 [ptr b 0] w (.bool (okB e n j xs)) := by
  refine ⟨fun w0 hx0 => ?_⟩
  have E : Since 0 0 w0 w0 := Since.refl 0 0 w0
  have hsm := h.small
  by_cases hk : 1 ≤ e ∧ e ≤ 20 ∧ 1 ≤ n ∧ n ≤ 20 ∧ 0 ≤ j ∧ j ≤ 30
  · refine ret_enter Try.func108 rfl Try.ntmps108 rfl ?_
    focus
      have ht_h := h.top
      have hz_hx0 := hx0.size
      replace hp := hp.ext hx0
      replace h := h.ext hx0
      refine c_seq ?_
      refine c_region ?_
      refine w_pure (y_assign rfl) rfl ?_
      refine w_nil ?_
      refine x_next ?_
      refine c_seq ?_
      refine c_seq ?_
      refine c_region ?_
      refine w_pure (y_move rfl) rfl ?_
      refine w_pure (y_nil rfl) rfl ?_
      refine w_pure (y_field rfl) rfl ?_
      refine w_pure (y_loadk rfl) rfl ?_
      refine w_pur rfl rfl rfl (l00In_c _ _ _) rfl ?_
      refine w_pure (y_not_dec rfl) rfl ?_
      refine w_pure (y_move rfl) rfl ?_
      (refine w_part_dec rfl rfl (fun hc11 => ?_) (fun hc11 => ?_) <;> try (first | exact absurd rfl hc11 | contradiction | exact Bool.noConfusion (show false = true from hc11.symm.trans (by assumption)) | exact Bool.noConfusion (show true = false from hc11.symm.trans (by assumption)) | (exfalso; omega) | (exfalso; simp only [*, Bool.not_true, Bool.not_false, reduceCtorEq] at hc11; done)))
      refine w_yes rfl rfl ?_
      refine w_pure (y_move rfl) rfl ?_
      refine w_yes rfl rfl ?_
      refine w_pure (y_nil rfl) rfl ?_
      refine w_yes rfl rfl ?_
      refine w_pure (y_field rfl) rfl ?_
      refine w_yes rfl rfl ?_
      refine w_pure (y_loadk rfl) rfl ?_
      refine w_yes rfl rfl ?_
      refine w_pur rfl rfl rfl (l00In_c _ _ _) rfl ?_
      refine w_yes rfl rfl ?_
      refine w_pure (y_not_dec rfl) rfl ?_
      refine w_pure (y_pick_f rfl rfl) rfl ?_
      refine w_pure (y_move rfl) rfl ?_
      (refine w_part_dec rfl rfl (fun hc19 => ?_) (fun hc19 => ?_) <;> try (first | exact absurd rfl hc19 | contradiction | exact Bool.noConfusion (show false = true from hc19.symm.trans (by assumption)) | exact Bool.noConfusion (show true = false from hc19.symm.trans (by assumption)) | (exfalso; omega) | (exfalso; simp only [*, Bool.not_true, Bool.not_false, reduceCtorEq] at hc19; done)))
      refine w_yes rfl rfl ?_
      refine w_pure (y_move rfl) rfl ?_
      refine w_yes rfl rfl ?_
      refine w_pure (y_nil rfl) rfl ?_
      refine w_yes rfl rfl ?_
      refine w_pure (y_field rfl) rfl ?_
      refine w_yes rfl rfl ?_
      refine w_pure (y_loadk rfl) rfl ?_
      refine w_yes rfl rfl ?_
      refine w_pur rfl rfl rfl (l00In_c _ _ _) rfl ?_
      refine w_yes rfl rfl ?_
      refine w_pure (y_not_dec rfl) rfl ?_
      refine w_pure (y_pick_f rfl rfl) rfl ?_
      refine w_nil ?_
      refine x_next ?_
      (refine c_dec rfl (fun hc25 => ?_) (fun hc25 => ?_) <;> try (first | exact absurd rfl hc25 | contradiction | exact Bool.noConfusion (show false = true from hc25.symm.trans (by assumption)) | exact Bool.noConfusion (show true = false from hc25.symm.trans (by assumption)) | (exfalso; omega) | (exfalso; simp only [*, Bool.not_true, Bool.not_false, reduceCtorEq] at hc25; done)))
      refine c_skip ?_
      refine x_next ?_
      refine c_seq ?_
      refine c_seq ?_
      refine c_region ?_
      refine w_pure (y_assign rfl) rfl ?_
      refine w_nil ?_
      refine x_next ?_
      refine c_block ?_
      rotate_left
    refine c_loopC 0 0 (ι := Nat) (fun x => [(0, ptr b 0), (3, .int .i64 x)]) (fun x w => x ≤ xs.length ∧ (xs.take x).any (fun p => !wireB (e + n + j) p) = false) (fun x => xs.length - x) 0 (by repeat (first | exact trivial | refine ⟨rfl, ?_⟩)) ⟨by omega, rfl⟩ ?_
    rintro i wL hxL EL ⟨hi, hall⟩
    focus
      have hz_hxL := hxL.size
      replace E := E.trans hxL
      replace hp := hp.ext hxL
      replace h := h.ext hxL
      refine c_seq ?_
      refine c_seq ?_
      refine c_region ?_
      refine w_pure (y_move rfl) rfl ?_
      refine w_pure (y_move rfl) rfl ?_
      refine w_pure (y_nil rfl) rfl ?_
      refine w_pure (y_field rfl) rfl ?_
      refine w_pure (y_loadk rfl) rfl ?_
      refine w_pure (y_len rfl) rfl ?_
      refine w_pure (y_lt rfl rfl) rfl ?_
      refine w_nil ?_
      refine x_next ?_
      (refine c_dec rfl (fun hc32 => ?_) (fun hc32 => ?_) <;> try (first | exact absurd rfl hc32 | contradiction | exact Bool.noConfusion (show false = true from hc32.symm.trans (by assumption)) | exact Bool.noConfusion (show true = false from hc32.symm.trans (by assumption)) | (exfalso; omega) | (exfalso; simp only [*, Bool.not_true, Bool.not_false, reduceCtorEq] at hc32; done)))
      refine c_skip ?_
      refine x_next ?_
      refine c_seq ?_
      refine c_block ?_
      refine c_seq ?_
      refine c_region_held mixed (fun wr6 hxr6 hzr6 => ?_)
      have hz_hxr6 := hxr6.size
      replace EL := EL.trans hxr6
      replace E := E.trans hxr6
      replace hp := hp.ext hxr6
      replace h := h.ext hxr6
      refine h_pure rfl (y_move rfl) rfl ?_
      refine h_pure rfl (y_nil rfl) rfl ?_
      refine h_pure rfl (y_field rfl) rfl ?_
      refine h_pure rfl (y_loadk rfl) rfl ?_
      refine h_pure rfl (y_move rfl) rfl ?_
      refine h_pure rfl (y_index rfl rfl) rfl ?_
      refine h_pure rfl (y_load_pair rfl) rfl ?_
      refine h_pure rfl (y_move rfl) rfl ?_
      refine h_one rfl ?_
      refine w_val rfl rfl rfl (l12Hubs_c) rfl (fun w43 hx43 hz43 => ?_)
      have hz_hx43 := hx43.size
      replace EL := EL.trans hx43
      replace E := E.trans hx43
      replace hp := hp.ext hx43
      replace h := h.ext hx43
      refine w_nil ?_
      refine x_held ?_
      refine h_one rfl ?_
      refine w_val rfl rfl rfl (l12Wire_c _ _ _) rfl (fun w44 hx44 hz44 => ?_)
      have hz_hx44 := hx44.size
      replace EL := EL.trans hx44
      replace E := E.trans hx44
      replace hp := hp.ext hx44
      replace h := h.ext hx44
      refine w_nil ?_
      refine x_held ?_
      refine h_pure rfl (y_not_dec rfl) rfl ?_
      refine h_nil ?_
      refine x_next ?_
      (refine c_dec rfl (fun hc45 => ?_) (fun hc45 => ?_) <;> try (first | exact absurd rfl hc45 | contradiction | exact Bool.noConfusion (show false = true from hc45.symm.trans (by assumption)) | exact Bool.noConfusion (show true = false from hc45.symm.trans (by assumption)) | (exfalso; omega) | (exfalso; simp only [*, Bool.not_true, Bool.not_false, reduceCtorEq] at hc45; done)))
      refine c_seq ?_
      refine c_region ?_
      refine w_pure (y_assign rfl) rfl ?_
      refine w_nil ?_
      refine x_next ?_
      refine c_ret ?_
      refine x_block_ret ?_
      refine x_then_ret ?_
      refine x_then_ret ?_
      refine x_block_ret ?_
      refine x_then_ret ?_
      rotate_left
      refine c_skip ?_
      refine x_block_norm ?_
      refine x_next ?_
      refine c_region ?_
      refine w_pure (y_move rfl) rfl ?_
      refine w_pure (y_add rfl rfl) rfl ?_
      refine w_pure (y_assign rfl) rfl ?_
      refine w_nil ?_
      rotate_left
      refine c_exit ?_
      refine x_then_exit ?_
      refine x_then_exit ?_
      refine x_block_hit ?_
      refine x_next ?_
      refine c_seq ?_
      refine c_region ?_
      refine w_pure (y_move rfl) rfl ?_
      refine w_val rfl rfl rfl (l12Hubs_c) rfl (fun w47 hx47 hz47 => ?_)
      have hz_hx47 := hx47.size
      replace EL := EL.trans hx47
      replace E := E.trans hx47
      replace hp := hp.ext hx47
      replace h := h.ext hx47
      refine w_pure (y_le rfl rfl) rfl ?_
      refine w_pure (y_move rfl) rfl ?_
      (refine w_part_dec rfl rfl (fun hc50 => ?_) (fun hc50 => ?_) <;> try (first | exact absurd rfl hc50 | contradiction | exact Bool.noConfusion (show false = true from hc50.symm.trans (by assumption)) | exact Bool.noConfusion (show true = false from hc50.symm.trans (by assumption)) | (exfalso; omega) | (exfalso; simp only [*, Bool.not_true, Bool.not_false, reduceCtorEq] at hc50; done)))
      refine w_yes rfl rfl ?_
      refine w_pure (y_move rfl) rfl ?_
      refine w_yes rfl rfl ?_
      refine w_pure (y_nil rfl) rfl ?_
      refine w_yes rfl rfl ?_
      refine w_pure (y_field rfl) rfl ?_
      refine w_yes rfl rfl ?_
      refine w_pure (y_loadk rfl) rfl ?_
      refine w_yes rfl rfl ?_
      refine w_pure (y_len rfl) rfl ?_
      refine w_yes rfl rfl ?_
      refine w_pure (y_le rfl rfl) rfl ?_
      refine w_pure (y_pick_t rfl rfl) rfl ?_
      refine w_pure (y_assign rfl) rfl ?_
      refine w_nil ?_
      refine x_next ?_
      refine c_ret ?_
      rotate_left
      refine w_no rfl rfl rfl rfl ?_
      refine w_no rfl rfl rfl rfl ?_
      refine w_no rfl rfl rfl rfl ?_
      refine w_no rfl rfl rfl rfl ?_
      refine w_no rfl rfl rfl rfl ?_
      refine w_no rfl rfl rfl rfl ?_
      refine w_pure (y_pick_f rfl rfl) rfl ?_
      refine w_pure (y_assign rfl) rfl ?_
      refine w_nil ?_
      refine x_next ?_
      refine c_ret ?_
      rotate_left
    · refine x_retv [_] rfl ⟨rfl, trivial⟩ ⟨?_, E.go⟩
      have hlt : i < xs.length := by omega
      have : xs.any (fun p => !wireB (e + n + j) p) = true := List.any_eq_true.2 ⟨xs.getD i (0, 0), by rw [List.getD_eq_getElem?_getD, List.getElem?_eq_getElem hlt]; simp, by simp only [wireB, Bool.not_eq_true', decide_eq_false_iff_not]; exact hc45⟩
      simp [ofResults, okB, this]
    · refine x_again (i + 1) (by repeat (first | exact trivial | refine ⟨rfl, ?_⟩)) ⟨EL.go, by omega, ?_⟩ (by omega)
      have hlt : i < xs.length := by omega
      rw [List.take_add_one, List.any_append, hall, List.getElem?_eq_getElem hlt]
      rw [show (i : Int).toNat = i from rfl, List.getD_eq_getElem?_getD, List.getElem?_eq_getElem hlt] at hc45
      simpa [wireB] using hc45
    all_goals
      refine x_retv [_] rfl ⟨rfl, trivial⟩ ⟨?_, E.go⟩
      obtain rfl : i = xs.length := by omega
      rw [List.take_length] at hall
      simp only [ofResults, okB, hall, Bool.not_false, Bool.and_true]
      first | exact congrArg Value.bool (decide_eq_decide.2 (by omega)) | exact congrArg Value.bool (decide_eq_false (by omega)).symm
  · refine ret_enter Try.func108 rfl Try.ntmps108 rfl ?_
    focus
      have ht_h := h.top
      have hz_hx0 := hx0.size
      replace hp := hp.ext hx0
      replace h := h.ext hx0
      refine c_seq ?_
      refine c_region ?_
      refine w_pure (y_assign rfl) rfl ?_
      refine w_nil ?_
      refine x_next ?_
      refine c_seq ?_
      refine c_seq ?_
      refine c_region ?_
      refine w_pure (y_move rfl) rfl ?_
      refine w_pure (y_nil rfl) rfl ?_
      refine w_pure (y_field rfl) rfl ?_
      refine w_pure (y_loadk rfl) rfl ?_
      refine w_pur rfl rfl rfl (l00In_c _ _ _) rfl ?_
      refine w_pure (y_not_dec rfl) rfl ?_
      refine w_pure (y_move rfl) rfl ?_
      (refine w_part_dec rfl rfl (fun hc11 => ?_) (fun hc11 => ?_) <;> try (first | exact absurd rfl hc11 | contradiction | exact Bool.noConfusion (show false = true from hc11.symm.trans (by assumption)) | exact Bool.noConfusion (show true = false from hc11.symm.trans (by assumption)) | (exfalso; omega) | (exfalso; simp only [*, Bool.not_true, Bool.not_false, reduceCtorEq] at hc11; done)))
      refine w_no rfl rfl rfl rfl ?_
      refine w_no rfl rfl rfl rfl ?_
      refine w_no rfl rfl rfl rfl ?_
      refine w_no rfl rfl rfl rfl ?_
      refine w_no rfl rfl rfl rfl ?_
      refine w_no rfl rfl rfl rfl ?_
      refine w_pure (y_pick_t rfl rfl) rfl ?_
      refine w_pure (y_move rfl) rfl ?_
      refine w_no rfl rfl rfl rfl ?_
      refine w_no rfl rfl rfl rfl ?_
      refine w_no rfl rfl rfl rfl ?_
      refine w_no rfl rfl rfl rfl ?_
      refine w_no rfl rfl rfl rfl ?_
      refine w_no rfl rfl rfl rfl ?_
      refine w_pure (y_pick_t rfl rfl) rfl ?_
      refine w_nil ?_
      refine x_next ?_
      refine c_true rfl ?_
      refine c_seq ?_
      refine c_region ?_
      refine w_pure (y_assign rfl) rfl ?_
      refine w_nil ?_
      refine x_next ?_
      refine c_ret ?_
      refine x_then_ret ?_
      rotate_left
      refine w_yes rfl rfl ?_
      refine w_pure (y_move rfl) rfl ?_
      refine w_yes rfl rfl ?_
      refine w_pure (y_nil rfl) rfl ?_
      refine w_yes rfl rfl ?_
      refine w_pure (y_field rfl) rfl ?_
      refine w_yes rfl rfl ?_
      refine w_pure (y_loadk rfl) rfl ?_
      refine w_yes rfl rfl ?_
      refine w_pur rfl rfl rfl (l00In_c _ _ _) rfl ?_
      refine w_yes rfl rfl ?_
      refine w_pure (y_not_dec rfl) rfl ?_
      refine w_pure (y_pick_f rfl rfl) rfl ?_
      refine w_pure (y_move rfl) rfl ?_
      (refine w_part_dec rfl rfl (fun hc19 => ?_) (fun hc19 => ?_) <;> try (first | exact absurd rfl hc19 | contradiction | exact Bool.noConfusion (show false = true from hc19.symm.trans (by assumption)) | exact Bool.noConfusion (show true = false from hc19.symm.trans (by assumption)) | (exfalso; omega) | (exfalso; simp only [*, Bool.not_true, Bool.not_false, reduceCtorEq] at hc19; done)))
      refine w_no rfl rfl rfl rfl ?_
      refine w_no rfl rfl rfl rfl ?_
      refine w_no rfl rfl rfl rfl ?_
      refine w_no rfl rfl rfl rfl ?_
      refine w_no rfl rfl rfl rfl ?_
      refine w_no rfl rfl rfl rfl ?_
      refine w_pure (y_pick_t rfl rfl) rfl ?_
      refine w_nil ?_
      refine x_next ?_
      refine c_true rfl ?_
      refine c_seq ?_
      refine c_region ?_
      refine w_pure (y_assign rfl) rfl ?_
      refine w_nil ?_
      refine x_next ?_
      refine c_ret ?_
      refine x_then_ret ?_
      rotate_left
      refine w_yes rfl rfl ?_
      refine w_pure (y_move rfl) rfl ?_
      refine w_yes rfl rfl ?_
      refine w_pure (y_nil rfl) rfl ?_
      refine w_yes rfl rfl ?_
      refine w_pure (y_field rfl) rfl ?_
      refine w_yes rfl rfl ?_
      refine w_pure (y_loadk rfl) rfl ?_
      refine w_yes rfl rfl ?_
      refine w_pur rfl rfl rfl (l00In_c _ _ _) rfl ?_
      refine w_yes rfl rfl ?_
      refine w_pure (y_not_dec rfl) rfl ?_
      refine w_pure (y_pick_f rfl rfl) rfl ?_
      refine w_nil ?_
      refine x_next ?_
      (refine c_dec rfl (fun hc25 => ?_) (fun hc25 => ?_) <;> try (first | exact absurd rfl hc25 | contradiction | exact Bool.noConfusion (show false = true from hc25.symm.trans (by assumption)) | exact Bool.noConfusion (show true = false from hc25.symm.trans (by assumption)) | (exfalso; omega) | (exfalso; simp only [*, Bool.not_true, Bool.not_false, reduceCtorEq] at hc25; done)))
      refine c_seq ?_
      refine c_region ?_
      refine w_pure (y_assign rfl) rfl ?_
      refine w_nil ?_
      refine x_next ?_
      refine c_ret ?_
      refine x_then_ret ?_
      rotate_left
    all_goals refine x_retv [_] rfl ⟨rfl, trivial⟩ ⟨?_, E.go⟩
    all_goals
      have : decide (1 ≤ e ∧ e ≤ 20 ∧ 1 ≤ n ∧ n ≤ 20 ∧ 0 ≤ j ∧ j ≤ 30 ∧ e + n + j ≤ 30 ∧ xs.length ≤ 40) = false := decide_eq_false (by omega)
      simp only [ofResults, okB, this, Bool.false_and]
theorem sValidBoard_c (h : SL w lo hi v xs := by repeat (first | assumption | exact Go.Gw.Own.sl (by assumption) | exact Go.Gw.Box.at (by assumption) | exact Go.Gw.SLL.el (by first | assumption | exact Go.Gw.OwnD.sll (by assumption)) _ (by omega) | exact Go.Gw.SLL.at (by first | assumption | exact Go.Gw.OwnD.sll (by assumption)) (by omega) | exact Go.Gw.OwnD.sll (by assumption) | (apply Go.Gw.SL.chg; case hx => assumption) | (apply Go.Gw.Own.chg; case hx => assumption) | (apply Go.Gw.Box.chg; case hx => assumption) | (apply Go.Gw.At.chg; case hx => assumption) | exact .inl (Nat.zero_le _) | exact .inr (Nat.zero_le _) | (show _ ∨ _; omega))) : Val Try.prog 41 [.agg #[.int .i64 e, .int .i64 n, .int .i64 j, v]] w (.bool (okB e n j xs)) := by
  refine ⟨fun w0 hx0 => ?_⟩
  have E : Since 0 0 w0 w0 := Since.refl 0 0 w0
  refine ret_enter Try.func41 rfl Try.ntmps41 rfl ?_
  focus
    have ht_h := h.top
    have hz_hx0 := hx0.size
    replace h := h.ext hx0
    refine c_seq ?_
    refine c_region ?_
    refine w_box rfl (k := fun b1 w1 hb1 hx1 hl1 hs1 => ?_)
    have hz_hx1 := hx1.size
    replace E := E.trans hx1
    replace h := h.ext hx1
    refine w_pure (y_assign rfl) rfl ?_
    refine w_nil ?_
    refine x_next ?_
    refine c_seq ?_
    refine c_region ?_
    refine w_val rfl rfl rfl (l12Ok_c) rfl (fun w3 hx3 hz3 => ?_)
    have hz_hx3 := hx3.size
    replace hb1 := hb1.ext hx3
    replace E := E.trans hx3
    replace h := h.ext hx3
    refine w_pure (y_assign rfl) rfl ?_
    refine w_nil ?_
    refine x_next ?_
    refine c_ret ?_
    rotate_left
  exact x_retv [_] rfl ⟨rfl, trivial⟩ ⟨rfl, E.go⟩
theorem slicesEqualW_c (h : SL w lo hi v xs := by repeat (first | assumption | exact Go.Gw.Own.sl (by assumption) | exact Go.Gw.Box.at (by assumption) | exact Go.Gw.SLL.el (by first | assumption | exact Go.Gw.OwnD.sll (by assumption)) _ (by omega) | exact Go.Gw.SLL.at (by first | assumption | exact Go.Gw.OwnD.sll (by assumption)) (by omega) | exact Go.Gw.OwnD.sll (by assumption) | (apply Go.Gw.SL.chg; case hx => assumption) | (apply Go.Gw.Own.chg; case hx => assumption) | (apply Go.Gw.Box.chg; case hx => assumption) | (apply Go.Gw.At.chg; case hx => assumption) | exact .inl (Nat.zero_le _) | exact .inr (Nat.zero_le _) | (show _ ∨ _; omega))) (h' : SL w lo' hi' v' ys := by repeat (first | assumption | exact Go.Gw.Own.sl (by assumption) | exact Go.Gw.Box.at (by assumption) | exact Go.Gw.SLL.el (by first | assumption | exact Go.Gw.OwnD.sll (by assumption)) _ (by omega) | exact Go.Gw.SLL.at (by first | assumption | exact Go.Gw.OwnD.sll (by assumption)) (by omega) | exact Go.Gw.OwnD.sll (by assumption) | (apply Go.Gw.SL.chg; case hx => assumption) | (apply Go.Gw.Own.chg; case hx => assumption) | (apply Go.Gw.Box.chg; case hx => assumption) | (apply Go.Gw.At.chg; case hx => assumption) | exact .inl (Nat.zero_le _) | exact .inr (Nat.zero_le _) | (show _ ∨ _; omega))) : Val Try.prog 120 [v, v'] w (.bool (decide (xs = ys))) := by
  refine ⟨fun w0 hx0 => ?_⟩
  have E : Since 0 0 w0 w0 := Since.refl 0 0 w0
  have hsm := h.small
  have hsm' := h'.small
  by_cases hl : xs.length = ys.length
  · refine ret_enter Try.func120 rfl Try.ntmps120 rfl ?_
    focus
      have ht_h := h.top
      have ht_h' := h'.top
      have hz_hx0 := hx0.size
      replace h := h.ext hx0
      replace h' := h'.ext hx0
      refine c_seq ?_
      refine c_region ?_
      refine w_pure (y_assign rfl) rfl ?_
      refine w_nil ?_
      refine x_next ?_
      refine c_seq ?_
      refine c_seq ?_
      refine c_region ?_
      refine w_pure (y_move rfl) rfl ?_
      refine w_pure (y_len rfl) rfl ?_
      refine w_pure (y_move rfl) rfl ?_
      refine w_pure (y_len rfl) rfl ?_
      refine w_pure (y_ne rfl rfl) rfl ?_
      refine w_nil ?_
      refine x_next ?_
      (refine c_dec rfl (fun hc10 => ?_) (fun hc10 => ?_) <;> try (first | exact absurd rfl hc10 | contradiction | exact Bool.noConfusion (show false = true from hc10.symm.trans (by assumption)) | exact Bool.noConfusion (show true = false from hc10.symm.trans (by assumption)) | (exfalso; omega) | (exfalso; simp only [*, Bool.not_true, Bool.not_false, reduceCtorEq] at hc10; done)))
      refine c_skip ?_
      refine x_next ?_
      refine c_seq ?_
      refine c_seq ?_
      refine c_region ?_
      refine w_pure (y_move rfl) rfl ?_
      refine w_pure (y_len rfl) rfl ?_
      refine w_pure (y_move rfl) rfl ?_
      refine w_nil ?_
      refine x_next ?_
      refine c_block ?_
      rotate_left
    refine c_loopC 0 0 (ι := Nat) (fun x => [(0, v), (1, v'), (12, .int .i64 xs.length), (13, .int .i64 x)]) (fun x w' => x ≤ xs.length ∧ ∀ j : Nat, j < x → xs.getD j (0, 0) = ys.getD j (0, 0)) (fun x => xs.length - x) 0
      (by repeat (first | exact trivial | refine ⟨rfl, ?_⟩)) ⟨by omega, fun j hj => by omega⟩ ?_
    rintro i wL hxL EL ⟨hi, hall⟩
    focus
      have hz_hxL := hxL.size
      replace E := E.trans hxL
      replace h := h.ext hxL
      replace h' := h'.ext hxL
      refine c_seq ?_
      refine c_region ?_
      refine w_pure (y_lt rfl rfl) rfl ?_
      refine w_nil ?_
      refine x_next ?_
      refine c_seq ?_
      (refine c_dec rfl (fun hc14 => ?_) (fun hc14 => ?_) <;> try (first | exact absurd rfl hc14 | contradiction | exact Bool.noConfusion (show false = true from hc14.symm.trans (by assumption)) | exact Bool.noConfusion (show true = false from hc14.symm.trans (by assumption)) | (exfalso; omega) | (exfalso; simp only [*, Bool.not_true, Bool.not_false, reduceCtorEq] at hc14; done)))
      refine c_skip ?_
      refine x_next ?_
      refine c_seq ?_
      refine c_block ?_
      refine c_seq ?_
      refine c_region ?_
      refine w_pure (y_move rfl) rfl ?_
      refine w_pure (y_assign rfl) rfl ?_
      refine w_nil ?_
      refine x_next ?_
      refine c_seq ?_
      refine c_region_calm mixed (by decide +kernel) (by kernel_rfl) ?_
      refine q_pure (y_move rfl) rfl ?_
      refine q_pure (y_move rfl) rfl ?_
      refine q_pure (y_index rfl rfl) rfl ?_
      refine q_pure (y_load_pair rfl) rfl ?_
      refine q_pure (y_move rfl) rfl ?_
      refine q_pure (y_move rfl) rfl ?_
      refine q_pure (y_index rfl rfl) rfl ?_
      refine q_pure (y_load_pair rfl) rfl ?_
      refine q_pure (y_pne rfl rfl) rfl ?_
      refine q_nil (fun ws29 hxs29 hzs29 => ?_)
      have hz_hxs29 := hxs29.size
      replace EL := EL.trans hxs29
      replace E := E.trans hxs29
      replace h := h.ext hxs29
      replace h' := h'.ext hxs29
      refine x_next ?_
      (refine c_dec rfl (fun hc24 => ?_) (fun hc24 => ?_) <;> try (first | exact absurd rfl hc24 | contradiction | exact Bool.noConfusion (show false = true from hc24.symm.trans (by assumption)) | exact Bool.noConfusion (show true = false from hc24.symm.trans (by assumption)) | (exfalso; omega) | (exfalso; simp only [*, Bool.not_true, Bool.not_false, reduceCtorEq] at hc24; done)))
      refine c_seq ?_
      refine c_region ?_
      refine w_pure (y_assign rfl) rfl ?_
      refine w_nil ?_
      refine x_next ?_
      refine c_ret ?_
      refine x_block_ret ?_
      refine x_then_ret ?_
      refine x_then_ret ?_
      refine x_block_ret ?_
      refine x_then_ret ?_
      rotate_left
      refine c_skip ?_
      refine x_block_norm ?_
      refine x_next ?_
      refine c_region ?_
      refine w_pure (y_add rfl rfl) rfl ?_
      refine w_pure (y_move rfl) rfl ?_
      refine w_nil ?_
      rotate_left
      refine c_exit ?_
      refine x_then_exit ?_
      refine x_then_exit ?_
      refine x_block_hit ?_
      refine x_next ?_
      refine c_seq ?_
      refine c_region ?_
      refine w_pure (y_assign rfl) rfl ?_
      refine w_nil ?_
      refine x_next ?_
      refine c_ret ?_
      rotate_left
    · refine x_retv [_] rfl ⟨rfl, trivial⟩ ⟨?_, E.go⟩
      have : ¬ xs = ys := fun e => hc24 (by subst e; rfl)
      simp [ofResults, this]
    · refine x_again (i + 1) (by repeat (first | exact trivial | refine ⟨rfl, ?_⟩)) ⟨EL.go, by omega, fun j hj => ?_⟩ (by omega)
      by_cases e : j = i
      · subst e; have := Decidable.not_not.1 hc24; exact Prod.ext (congrArg Prod.fst this) (congrArg Prod.snd this)
      · exact hall j (by omega)
    · refine x_retv [_] rfl ⟨rfl, trivial⟩ ⟨?_, E.go⟩
      have : xs = ys := listP_ext hl fun j hj => hall j (by omega)
      simp [ofResults, this]
  · refine ret_enter Try.func120 rfl Try.ntmps120 rfl ?_
    focus
      have ht_h := h.top
      have ht_h' := h'.top
      have hz_hx0 := hx0.size
      replace h := h.ext hx0
      replace h' := h'.ext hx0
      refine c_seq ?_
      refine c_region ?_
      refine w_pure (y_assign rfl) rfl ?_
      refine w_nil ?_
      refine x_next ?_
      refine c_seq ?_
      refine c_seq ?_
      refine c_region ?_
      refine w_pure (y_move rfl) rfl ?_
      refine w_pure (y_len rfl) rfl ?_
      refine w_pure (y_move rfl) rfl ?_
      refine w_pure (y_len rfl) rfl ?_
      refine w_pure (y_ne rfl rfl) rfl ?_
      refine w_nil ?_
      refine x_next ?_
      (refine c_dec rfl (fun hc10 => ?_) (fun hc10 => ?_) <;> try (first | exact absurd rfl hc10 | contradiction | exact Bool.noConfusion (show false = true from hc10.symm.trans (by assumption)) | exact Bool.noConfusion (show true = false from hc10.symm.trans (by assumption)) | (exfalso; omega) | (exfalso; simp only [*, Bool.not_true, Bool.not_false, reduceCtorEq] at hc10; done)))
      refine c_seq ?_
      refine c_region ?_
      refine w_pure (y_assign rfl) rfl ?_
      refine w_nil ?_
      refine x_next ?_
      refine c_ret ?_
      refine x_then_ret ?_
      rotate_left
    refine x_retv [_] rfl ⟨rfl, trivial⟩ ⟨?_, E.go⟩
    have : ¬ xs = ys := fun e => hl (by rw [e])
    simp [ofResults, this]
theorem iSameBoard_c (h : SL w lo hi v xs := by repeat (first | assumption | exact Go.Gw.Own.sl (by assumption) | exact Go.Gw.Box.at (by assumption) | exact Go.Gw.SLL.el (by first | assumption | exact Go.Gw.OwnD.sll (by assumption)) _ (by omega) | exact Go.Gw.SLL.at (by first | assumption | exact Go.Gw.OwnD.sll (by assumption)) (by omega) | exact Go.Gw.OwnD.sll (by assumption) | (apply Go.Gw.SL.chg; case hx => assumption) | (apply Go.Gw.Own.chg; case hx => assumption) | (apply Go.Gw.Box.chg; case hx => assumption) | (apply Go.Gw.At.chg; case hx => assumption) | exact .inl (Nat.zero_le _) | exact .inr (Nat.zero_le _) | (show _ ∨ _; omega))) (h' : SL w lo' hi' v' ys := by repeat (first | assumption | exact Go.Gw.Own.sl (by assumption) | exact Go.Gw.Box.at (by assumption) | exact Go.Gw.SLL.el (by first | assumption | exact Go.Gw.OwnD.sll (by assumption)) _ (by omega) | exact Go.Gw.SLL.at (by first | assumption | exact Go.Gw.OwnD.sll (by assumption)) (by omega) | exact Go.Gw.OwnD.sll (by assumption) | (apply Go.Gw.SL.chg; case hx => assumption) | (apply Go.Gw.Own.chg; case hx => assumption) | (apply Go.Gw.Box.chg; case hx => assumption) | (apply Go.Gw.At.chg; case hx => assumption) | exact .inl (Nat.zero_le _) | exact .inr (Nat.zero_le _) | (show _ ∨ _; omega))) : Val Try.prog 44 [.agg #[.int .i64 e, .int .i64 n, .int .i64 j, v], .agg #[.int .i64 e', .int .i64 n', .int .i64 j', v']] w (.bool (decide ((e, n, j, xs) = (e', n', j', ys)))) := by
  refine ⟨fun w0 hx0 => ?_⟩
  have E : Since 0 0 w0 w0 := Since.refl 0 0 w0
  refine ret_enter Try.func44 rfl Try.ntmps44 rfl ?_
  focus
    have ht_h := h.top
    have ht_h' := h'.top
    have hz_hx0 := hx0.size
    replace h := h.ext hx0
    replace h' := h'.ext hx0
    refine c_seq ?_
    refine c_region ?_
    refine w_box rfl (k := fun b2 w2 hb2 hx2 hl2 hs2 => ?_)
    have hz_hx2 := hx2.size
    replace E := E.trans hx2
    replace h := h.ext hx2
    replace h' := h'.ext hx2
    refine w_box rfl (k := fun b3 w3 hb3 hx3 hl3 hs3 => ?_)
    have hz_hx3 := hx3.size
    replace hb2 := hb2.ext hx3
    replace E := E.trans hx3
    replace h := h.ext hx3
    replace h' := h'.ext hx3
    refine w_pure (y_assign rfl) rfl ?_
    refine w_nil ?_
    refine x_next ?_
    refine c_seq ?_
    refine c_region ?_
    refine w_pure (y_field rfl) rfl ?_
    refine w_pure (y_load_box rfl) rfl ?_
    refine w_pure (y_field rfl) rfl ?_
    refine w_pure (y_load_box rfl) rfl ?_
    refine w_pure (y_eq rfl rfl) rfl ?_
    refine w_pure (y_move rfl) rfl ?_
    (refine w_part_dec rfl rfl (fun hc11 => ?_) (fun hc11 => ?_) <;> try (first | exact absurd rfl hc11 | contradiction | exact Bool.noConfusion (show false = true from hc11.symm.trans (by assumption)) | exact Bool.noConfusion (show true = false from hc11.symm.trans (by assumption)) | (exfalso; omega) | (exfalso; simp only [*, Bool.not_true, Bool.not_false, reduceCtorEq] at hc11; done)))
    refine w_yes rfl rfl ?_
    refine w_pure (y_field rfl) rfl ?_
    refine w_yes rfl rfl ?_
    refine w_pure (y_load_box rfl) rfl ?_
    refine w_yes rfl rfl ?_
    refine w_pure (y_field rfl) rfl ?_
    refine w_yes rfl rfl ?_
    refine w_pure (y_load_box rfl) rfl ?_
    refine w_yes rfl rfl ?_
    refine w_pure (y_eq rfl rfl) rfl ?_
    refine w_pure (y_pick_t rfl rfl) rfl ?_
    refine w_pure (y_move rfl) rfl ?_
    (refine w_part_dec rfl rfl (fun hc18 => ?_) (fun hc18 => ?_) <;> try (first | exact absurd rfl hc18 | contradiction | exact Bool.noConfusion (show false = true from hc18.symm.trans (by assumption)) | exact Bool.noConfusion (show true = false from hc18.symm.trans (by assumption)) | (exfalso; omega) | (exfalso; simp only [*, Bool.not_true, Bool.not_false, reduceCtorEq] at hc18; done)))
    refine w_yes rfl rfl ?_
    refine w_pure (y_field rfl) rfl ?_
    refine w_yes rfl rfl ?_
    refine w_pure (y_load_box rfl) rfl ?_
    refine w_yes rfl rfl ?_
    refine w_pure (y_field rfl) rfl ?_
    refine w_yes rfl rfl ?_
    refine w_pure (y_load_box rfl) rfl ?_
    refine w_yes rfl rfl ?_
    refine w_pure (y_eq rfl rfl) rfl ?_
    refine w_pure (y_pick_t rfl rfl) rfl ?_
    refine w_pure (y_move rfl) rfl ?_
    (refine w_part_dec rfl rfl (fun hc25 => ?_) (fun hc25 => ?_) <;> try (first | exact absurd rfl hc25 | contradiction | exact Bool.noConfusion (show false = true from hc25.symm.trans (by assumption)) | exact Bool.noConfusion (show true = false from hc25.symm.trans (by assumption)) | (exfalso; omega) | (exfalso; simp only [*, Bool.not_true, Bool.not_false, reduceCtorEq] at hc25; done)))
    refine w_yes rfl rfl ?_
    refine w_pure (y_field rfl) rfl ?_
    refine w_yes rfl rfl ?_
    refine w_pure (y_load_box rfl) rfl ?_
    refine w_yes rfl rfl ?_
    refine w_pure (y_field rfl) rfl ?_
    refine w_yes rfl rfl ?_
    refine w_pure (y_load_box rfl) rfl ?_
    refine w_yes rfl rfl ?_
    refine w_val rfl rfl rfl (slicesEqualW_c) rfl (fun w29 hx29 hz29 => ?_)
    have hz_hx29 := hx29.size
    replace hb3 := hb3.ext hx29
    replace hb2 := hb2.ext hx29
    replace E := E.trans hx29
    replace h := h.ext hx29
    replace h' := h'.ext hx29
    refine w_pure (y_pick_t rfl rfl) rfl ?_
    refine w_pure (y_assign rfl) rfl ?_
    refine w_nil ?_
    refine x_next ?_
    refine c_ret ?_
    rotate_left
    refine w_no rfl rfl rfl rfl ?_
    refine w_no rfl rfl rfl rfl ?_
    refine w_no rfl rfl rfl rfl ?_
    refine w_no rfl rfl rfl rfl ?_
    refine w_no rfl rfl rfl rfl ?_
    refine w_pure (y_pick_f rfl rfl) rfl ?_
    refine w_pure (y_assign rfl) rfl ?_
    refine w_nil ?_
    refine x_next ?_
    refine c_ret ?_
    rotate_left
    refine w_no rfl rfl rfl rfl ?_
    refine w_no rfl rfl rfl rfl ?_
    refine w_no rfl rfl rfl rfl ?_
    refine w_no rfl rfl rfl rfl ?_
    refine w_no rfl rfl rfl rfl ?_
    refine w_pure (y_pick_f rfl rfl) rfl ?_
    refine w_pure (y_move rfl) rfl ?_
    refine w_no rfl rfl rfl rfl ?_
    refine w_no rfl rfl rfl rfl ?_
    refine w_no rfl rfl rfl rfl ?_
    refine w_no rfl rfl rfl rfl ?_
    refine w_no rfl rfl rfl rfl ?_
    refine w_pure (y_pick_f rfl rfl) rfl ?_
    refine w_pure (y_assign rfl) rfl ?_
    refine w_nil ?_
    refine x_next ?_
    refine c_ret ?_
    rotate_left
    refine w_no rfl rfl rfl rfl ?_
    refine w_no rfl rfl rfl rfl ?_
    refine w_no rfl rfl rfl rfl ?_
    refine w_no rfl rfl rfl rfl ?_
    refine w_no rfl rfl rfl rfl ?_
    refine w_pure (y_pick_f rfl rfl) rfl ?_
    refine w_pure (y_move rfl) rfl ?_
    refine w_no rfl rfl rfl rfl ?_
    refine w_no rfl rfl rfl rfl ?_
    refine w_no rfl rfl rfl rfl ?_
    refine w_no rfl rfl rfl rfl ?_
    refine w_no rfl rfl rfl rfl ?_
    refine w_pure (y_pick_f rfl rfl) rfl ?_
    refine w_pure (y_move rfl) rfl ?_
    refine w_no rfl rfl rfl rfl ?_
    refine w_no rfl rfl rfl rfl ?_
    refine w_no rfl rfl rfl rfl ?_
    refine w_no rfl rfl rfl rfl ?_
    refine w_no rfl rfl rfl rfl ?_
    refine w_pure (y_pick_f rfl rfl) rfl ?_
    refine w_pure (y_assign rfl) rfl ?_
    refine w_nil ?_
    refine x_next ?_
    refine c_ret ?_
    rotate_left
  all_goals refine x_retv [_] rfl ⟨rfl, trivial⟩ ⟨?_, E.go⟩
  all_goals simp only [ofResults, Prod.mk.injEq]
  all_goals first | exact congrArg Value.bool (decide_eq_false (by omega)).symm | exact congrArg Value.bool (decide_eq_decide.2 ⟨fun g => ⟨by omega, by omega, by omega, g⟩, fun g => g.2.2.2⟩)
theorem sSameBoard_c (h : SL w lo hi v xs := by repeat (first | assumption | exact Go.Gw.Own.sl (by assumption) | exact Go.Gw.Box.at (by assumption) | exact Go.Gw.SLL.el (by first | assumption | exact Go.Gw.OwnD.sll (by assumption)) _ (by omega) | exact Go.Gw.SLL.at (by first | assumption | exact Go.Gw.OwnD.sll (by assumption)) (by omega) | exact Go.Gw.OwnD.sll (by assumption) | (apply Go.Gw.SL.chg; case hx => assumption) | (apply Go.Gw.Own.chg; case hx => assumption) | (apply Go.Gw.Box.chg; case hx => assumption) | (apply Go.Gw.At.chg; case hx => assumption) | exact .inl (Nat.zero_le _) | exact .inr (Nat.zero_le _) | (show _ ∨ _; omega))) (h' : SL w lo' hi' v' ys := by repeat (first | assumption | exact Go.Gw.Own.sl (by assumption) | exact Go.Gw.Box.at (by assumption) | exact Go.Gw.SLL.el (by first | assumption | exact Go.Gw.OwnD.sll (by assumption)) _ (by omega) | exact Go.Gw.SLL.at (by first | assumption | exact Go.Gw.OwnD.sll (by assumption)) (by omega) | exact Go.Gw.OwnD.sll (by assumption) | (apply Go.Gw.SL.chg; case hx => assumption) | (apply Go.Gw.Own.chg; case hx => assumption) | (apply Go.Gw.Box.chg; case hx => assumption) | (apply Go.Gw.At.chg; case hx => assumption) | exact .inl (Nat.zero_le _) | exact .inr (Nat.zero_le _) | (show _ ∨ _; omega))) : Val Try.prog 43 [.agg #[.int .i64 e, .int .i64 n, .int .i64 j, v], .agg #[.int .i64 e', .int .i64 n', .int .i64 j', v']] w (.bool (decide ((e, n, j, xs) = (e', n', j', ys)))) := by
  refine ⟨fun w0 hx0 => ?_⟩
  have E : Since 0 0 w0 w0 := Since.refl 0 0 w0
  have hsm := h.small
  have hsm' := h'.small
  by_cases hk : e = e' ∧ n = n' ∧ j = j' ∧ xs.length = ys.length
  · obtain ⟨rfl, rfl, rfl, hl⟩ := hk
    refine ret_enter Try.func43 rfl Try.ntmps43 rfl ?_
    focus
      have ht_h := h.top
      have ht_h' := h'.top
      have hz_hx0 := hx0.size
      replace h := h.ext hx0
      replace h' := h'.ext hx0
      refine c_seq ?_
      refine c_region ?_
      refine w_box rfl (k := fun b2 w2 hb2 hx2 hl2 hs2 => ?_)
      have hz_hx2 := hx2.size
      replace E := E.trans hx2
      replace h := h.ext hx2
      replace h' := h'.ext hx2
      refine w_box rfl (k := fun b3 w3 hb3 hx3 hl3 hs3 => ?_)
      have hz_hx3 := hx3.size
      replace hb2 := hb2.ext hx3
      replace E := E.trans hx3
      replace h := h.ext hx3
      replace h' := h'.ext hx3
      refine w_pure (y_assign rfl) rfl ?_
      refine w_nil ?_
      refine x_next ?_
      refine c_seq ?_
      refine c_seq ?_
      refine c_region ?_
      refine w_pure (y_field rfl) rfl ?_
      refine w_pure (y_load_box rfl) rfl ?_
      refine w_pure (y_field rfl) rfl ?_
      refine w_pure (y_load_box rfl) rfl ?_
      refine w_pure (y_ne rfl rfl) rfl ?_
      refine w_pure (y_move rfl) rfl ?_
      (refine w_part_dec rfl rfl (fun hc12 => ?_) (fun hc12 => ?_) <;> try (first | exact absurd rfl hc12 | contradiction | exact Bool.noConfusion (show false = true from hc12.symm.trans (by assumption)) | exact Bool.noConfusion (show true = false from hc12.symm.trans (by assumption)) | (exfalso; omega) | (exfalso; simp only [*, Bool.not_true, Bool.not_false, reduceCtorEq] at hc12; done)))
      refine w_yes rfl rfl ?_
      refine w_pure (y_field rfl) rfl ?_
      refine w_yes rfl rfl ?_
      refine w_pure (y_load_box rfl) rfl ?_
      refine w_yes rfl rfl ?_
      refine w_pure (y_field rfl) rfl ?_
      refine w_yes rfl rfl ?_
      refine w_pure (y_load_box rfl) rfl ?_
      refine w_yes rfl rfl ?_
      refine w_pure (y_ne rfl rfl) rfl ?_
      refine w_pure (y_pick_f rfl rfl) rfl ?_
      refine w_pure (y_move rfl) rfl ?_
      (refine w_part_dec rfl rfl (fun hc19 => ?_) (fun hc19 => ?_) <;> try (first | exact absurd rfl hc19 | contradiction | exact Bool.noConfusion (show false = true from hc19.symm.trans (by assumption)) | exact Bool.noConfusion (show true = false from hc19.symm.trans (by assumption)) | (exfalso; omega) | (exfalso; simp only [*, Bool.not_true, Bool.not_false, reduceCtorEq] at hc19; done)))
      refine w_yes rfl rfl ?_
      refine w_pure (y_field rfl) rfl ?_
      refine w_yes rfl rfl ?_
      refine w_pure (y_load_box rfl) rfl ?_
      refine w_yes rfl rfl ?_
      refine w_pure (y_field rfl) rfl ?_
      refine w_yes rfl rfl ?_
      refine w_pure (y_load_box rfl) rfl ?_
      refine w_yes rfl rfl ?_
      refine w_pure (y_ne rfl rfl) rfl ?_
      refine w_pure (y_pick_f rfl rfl) rfl ?_
      refine w_pure (y_move rfl) rfl ?_
      (refine w_part_dec rfl rfl (fun hc26 => ?_) (fun hc26 => ?_) <;> try (first | exact absurd rfl hc26 | contradiction | exact Bool.noConfusion (show false = true from hc26.symm.trans (by assumption)) | exact Bool.noConfusion (show true = false from hc26.symm.trans (by assumption)) | (exfalso; omega) | (exfalso; simp only [*, Bool.not_true, Bool.not_false, reduceCtorEq] at hc26; done)))
      refine w_yes rfl rfl ?_
      refine w_pure (y_field rfl) rfl ?_
      refine w_yes rfl rfl ?_
      refine w_pure (y_load_box rfl) rfl ?_
      refine w_yes rfl rfl ?_
      refine w_pure (y_len rfl) rfl ?_
      refine w_yes rfl rfl ?_
      refine w_pure (y_field rfl) rfl ?_
      refine w_yes rfl rfl ?_
      refine w_pure (y_load_box rfl) rfl ?_
      refine w_yes rfl rfl ?_
      refine w_pure (y_len rfl) rfl ?_
      refine w_yes rfl rfl ?_
      refine w_pure (y_ne rfl rfl) rfl ?_
      refine w_pure (y_pick_f rfl rfl) rfl ?_
      refine w_nil ?_
      refine x_next ?_
      (refine c_dec rfl (fun hc33 => ?_) (fun hc33 => ?_) <;> try (first | exact absurd rfl hc33 | contradiction | exact Bool.noConfusion (show false = true from hc33.symm.trans (by assumption)) | exact Bool.noConfusion (show true = false from hc33.symm.trans (by assumption)) | (exfalso; omega) | (exfalso; simp only [*, Bool.not_true, Bool.not_false, reduceCtorEq] at hc33; done)))
      refine c_skip ?_
      refine x_next ?_
      refine c_seq ?_
      refine c_seq ?_
      refine c_region ?_
      refine w_pure (y_assign rfl) rfl ?_
      refine w_nil ?_
      refine x_next ?_
      refine c_block ?_
      rotate_left
    refine c_loopC 0 0 (ι := Nat) (fun x => [(2, ptr b2 0), (3, ptr b3 0), (5, .int .i64 x)]) (fun x w' => x ≤ xs.length ∧ ∀ k : Nat, k < x → xs.getD k (0, 0) = ys.getD k (0, 0)) (fun x => xs.length - x) 0
      (by repeat (first | exact trivial | refine ⟨rfl, ?_⟩)) ⟨by omega, fun j hj => by omega⟩ ?_
    rintro i wL hxL EL ⟨hi, hall⟩
    focus
      have hz_hxL := hxL.size
      replace hb3 := hb3.ext hxL
      replace hb2 := hb2.ext hxL
      replace E := E.trans hxL
      replace h := h.ext hxL
      replace h' := h'.ext hxL
      refine c_seq ?_
      refine c_seq ?_
      refine c_region ?_
      refine w_pure (y_move rfl) rfl ?_
      refine w_pure (y_field rfl) rfl ?_
      refine w_pure (y_load_box rfl) rfl ?_
      refine w_pure (y_len rfl) rfl ?_
      refine w_pure (y_lt rfl rfl) rfl ?_
      refine w_nil ?_
      refine x_next ?_
      (refine c_dec rfl (fun hc38 => ?_) (fun hc38 => ?_) <;> try (first | exact absurd rfl hc38 | contradiction | exact Bool.noConfusion (show false = true from hc38.symm.trans (by assumption)) | exact Bool.noConfusion (show true = false from hc38.symm.trans (by assumption)) | (exfalso; omega) | (exfalso; simp only [*, Bool.not_true, Bool.not_false, reduceCtorEq] at hc38; done)))
      refine c_skip ?_
      refine x_next ?_
      refine c_seq ?_
      refine c_block ?_
      refine c_seq ?_
      refine c_region_calm mixed (by decide +kernel) (by kernel_rfl) ?_
      refine q_pure (y_field rfl) rfl ?_
      refine q_pure (y_load_box rfl) rfl ?_
      refine q_pure (y_move rfl) rfl ?_
      refine q_pure (y_index rfl rfl) rfl ?_
      refine q_pure (y_load_pair rfl) rfl ?_
      refine q_pure (y_field rfl) rfl ?_
      refine q_pure (y_load_box rfl) rfl ?_
      refine q_pure (y_move rfl) rfl ?_
      refine q_pure (y_index rfl rfl) rfl ?_
      refine q_pure (y_load_pair rfl) rfl ?_
      refine q_pure (y_pne rfl rfl) rfl ?_
      refine q_nil (fun ws29 hxs29 hzs29 => ?_)
      have hz_hxs29 := hxs29.size
      replace EL := EL.trans hxs29
      replace hb3 := hb3.ext hxs29
      replace hb2 := hb2.ext hxs29
      replace E := E.trans hxs29
      replace h := h.ext hxs29
      replace h' := h'.ext hxs29
      refine x_next ?_
      (refine c_dec rfl (fun hc51 => ?_) (fun hc51 => ?_) <;> try (first | exact absurd rfl hc51 | contradiction | exact Bool.noConfusion (show false = true from hc51.symm.trans (by assumption)) | exact Bool.noConfusion (show true = false from hc51.symm.trans (by assumption)) | (exfalso; omega) | (exfalso; simp only [*, Bool.not_true, Bool.not_false, reduceCtorEq] at hc51; done)))
      refine c_seq ?_
      refine c_region ?_
      refine w_pure (y_assign rfl) rfl ?_
      refine w_nil ?_
      refine x_next ?_
      refine c_ret ?_
      refine x_block_ret ?_
      refine x_then_ret ?_
      refine x_then_ret ?_
      refine x_block_ret ?_
      refine x_then_ret ?_
      rotate_left
      refine c_skip ?_
      refine x_block_norm ?_
      refine x_next ?_
      refine c_region ?_
      refine w_pure (y_move rfl) rfl ?_
      refine w_pure (y_add rfl rfl) rfl ?_
      refine w_pure (y_assign rfl) rfl ?_
      refine w_nil ?_
      rotate_left
      refine c_exit ?_
      refine x_then_exit ?_
      refine x_then_exit ?_
      refine x_block_hit ?_
      refine x_next ?_
      refine c_seq ?_
      refine c_region ?_
      refine w_pure (y_assign rfl) rfl ?_
      refine w_nil ?_
      refine x_next ?_
      refine c_ret ?_
      rotate_left
    · refine x_retv [_] rfl ⟨rfl, trivial⟩ ⟨?_, E.go⟩
      have : ¬ xs = ys := fun e => hc51 (by subst e; rfl)
      simp [ofResults, this]
    · refine x_again (i + 1) (by repeat (first | exact trivial | refine ⟨rfl, ?_⟩)) ⟨EL.go, by omega, fun k hk => ?_⟩ (by omega)
      by_cases e : k = i
      · subst e; have := Decidable.not_not.1 hc51; exact Prod.ext (congrArg Prod.fst this) (congrArg Prod.snd this)
      · exact hall k (by omega)
    · refine x_retv [_] rfl ⟨rfl, trivial⟩ ⟨?_, E.go⟩
      have : xs = ys := listP_ext hl fun k hk => hall k (by omega)
      simp [ofResults, this]
  · have hne : ¬ ((e, n, j, xs) = (e', n', j', ys)) := fun g => hk (by simp only [Prod.mk.injEq] at g; exact ⟨g.1, g.2.1, g.2.2.1, by rw [g.2.2.2]⟩)
    refine ret_enter Try.func43 rfl Try.ntmps43 rfl ?_
    focus
      have ht_h := h.top
      have ht_h' := h'.top
      have hz_hx0 := hx0.size
      replace h := h.ext hx0
      replace h' := h'.ext hx0
      refine c_seq ?_
      refine c_region ?_
      refine w_box rfl (k := fun b2 w2 hb2 hx2 hl2 hs2 => ?_)
      have hz_hx2 := hx2.size
      replace E := E.trans hx2
      replace h := h.ext hx2
      replace h' := h'.ext hx2
      refine w_box rfl (k := fun b3 w3 hb3 hx3 hl3 hs3 => ?_)
      have hz_hx3 := hx3.size
      replace hb2 := hb2.ext hx3
      replace E := E.trans hx3
      replace h := h.ext hx3
      replace h' := h'.ext hx3
      refine w_pure (y_assign rfl) rfl ?_
      refine w_nil ?_
      refine x_next ?_
      refine c_seq ?_
      refine c_seq ?_
      refine c_region ?_
      refine w_pure (y_field rfl) rfl ?_
      refine w_pure (y_load_box rfl) rfl ?_
      refine w_pure (y_field rfl) rfl ?_
      refine w_pure (y_load_box rfl) rfl ?_
      refine w_pure (y_ne rfl rfl) rfl ?_
      refine w_pure (y_move rfl) rfl ?_
      (refine w_part_dec rfl rfl (fun hc12 => ?_) (fun hc12 => ?_) <;> try (first | exact absurd rfl hc12 | contradiction | exact Bool.noConfusion (show false = true from hc12.symm.trans (by assumption)) | exact Bool.noConfusion (show true = false from hc12.symm.trans (by assumption)) | (exfalso; omega) | (exfalso; simp only [*, Bool.not_true, Bool.not_false, reduceCtorEq] at hc12; done)))
      refine w_no rfl rfl rfl rfl ?_
      refine w_no rfl rfl rfl rfl ?_
      refine w_no rfl rfl rfl rfl ?_
      refine w_no rfl rfl rfl rfl ?_
      refine w_no rfl rfl rfl rfl ?_
      refine w_pure (y_pick_t rfl rfl) rfl ?_
      refine w_pure (y_move rfl) rfl ?_
      refine w_no rfl rfl rfl rfl ?_
      refine w_no rfl rfl rfl rfl ?_
      refine w_no rfl rfl rfl rfl ?_
      refine w_no rfl rfl rfl rfl ?_
      refine w_no rfl rfl rfl rfl ?_
      refine w_pure (y_pick_t rfl rfl) rfl ?_
      refine w_pure (y_move rfl) rfl ?_
      refine w_no rfl rfl rfl rfl ?_
      refine w_no rfl rfl rfl rfl ?_
      refine w_no rfl rfl rfl rfl ?_
      refine w_no rfl rfl rfl rfl ?_
      refine w_no rfl rfl rfl rfl ?_
      refine w_no rfl rfl rfl rfl ?_
      refine w_no rfl rfl rfl rfl ?_
      refine w_pure (y_pick_t rfl rfl) rfl ?_
      refine w_nil ?_
      refine x_next ?_
      refine c_true rfl ?_
      refine c_seq ?_
      refine c_region ?_
      refine w_pure (y_assign rfl) rfl ?_
      refine w_nil ?_
      refine x_next ?_
      refine c_ret ?_
      refine x_then_ret ?_
      rotate_left
      refine w_yes rfl rfl ?_
      refine w_pure (y_field rfl) rfl ?_
      refine w_yes rfl rfl ?_
      refine w_pure (y_load_box rfl) rfl ?_
      refine w_yes rfl rfl ?_
      refine w_pure (y_field rfl) rfl ?_
      refine w_yes rfl rfl ?_
      refine w_pure (y_load_box rfl) rfl ?_
      refine w_yes rfl rfl ?_
      refine w_pure (y_ne rfl rfl) rfl ?_
      refine w_pure (y_pick_f rfl rfl) rfl ?_
      refine w_pure (y_move rfl) rfl ?_
      (refine w_part_dec rfl rfl (fun hc19 => ?_) (fun hc19 => ?_) <;> try (first | exact absurd rfl hc19 | contradiction | exact Bool.noConfusion (show false = true from hc19.symm.trans (by assumption)) | exact Bool.noConfusion (show true = false from hc19.symm.trans (by assumption)) | (exfalso; omega) | (exfalso; simp only [*, Bool.not_true, Bool.not_false, reduceCtorEq] at hc19; done)))
      refine w_no rfl rfl rfl rfl ?_
      refine w_no rfl rfl rfl rfl ?_
      refine w_no rfl rfl rfl rfl ?_
      refine w_no rfl rfl rfl rfl ?_
      refine w_no rfl rfl rfl rfl ?_
      refine w_pure (y_pick_t rfl rfl) rfl ?_
      refine w_pure (y_move rfl) rfl ?_
      refine w_no rfl rfl rfl rfl ?_
      refine w_no rfl rfl rfl rfl ?_
      refine w_no rfl rfl rfl rfl ?_
      refine w_no rfl rfl rfl rfl ?_
      refine w_no rfl rfl rfl rfl ?_
      refine w_no rfl rfl rfl rfl ?_
      refine w_no rfl rfl rfl rfl ?_
      refine w_pure (y_pick_t rfl rfl) rfl ?_
      refine w_nil ?_
      refine x_next ?_
      refine c_true rfl ?_
      refine c_seq ?_
      refine c_region ?_
      refine w_pure (y_assign rfl) rfl ?_
      refine w_nil ?_
      refine x_next ?_
      refine c_ret ?_
      refine x_then_ret ?_
      rotate_left
      refine w_yes rfl rfl ?_
      refine w_pure (y_field rfl) rfl ?_
      refine w_yes rfl rfl ?_
      refine w_pure (y_load_box rfl) rfl ?_
      refine w_yes rfl rfl ?_
      refine w_pure (y_field rfl) rfl ?_
      refine w_yes rfl rfl ?_
      refine w_pure (y_load_box rfl) rfl ?_
      refine w_yes rfl rfl ?_
      refine w_pure (y_ne rfl rfl) rfl ?_
      refine w_pure (y_pick_f rfl rfl) rfl ?_
      refine w_pure (y_move rfl) rfl ?_
      (refine w_part_dec rfl rfl (fun hc26 => ?_) (fun hc26 => ?_) <;> try (first | exact absurd rfl hc26 | contradiction | exact Bool.noConfusion (show false = true from hc26.symm.trans (by assumption)) | exact Bool.noConfusion (show true = false from hc26.symm.trans (by assumption)) | (exfalso; omega) | (exfalso; simp only [*, Bool.not_true, Bool.not_false, reduceCtorEq] at hc26; done)))
      refine w_no rfl rfl rfl rfl ?_
      refine w_no rfl rfl rfl rfl ?_
      refine w_no rfl rfl rfl rfl ?_
      refine w_no rfl rfl rfl rfl ?_
      refine w_no rfl rfl rfl rfl ?_
      refine w_no rfl rfl rfl rfl ?_
      refine w_no rfl rfl rfl rfl ?_
      refine w_pure (y_pick_t rfl rfl) rfl ?_
      refine w_nil ?_
      refine x_next ?_
      refine c_true rfl ?_
      refine c_seq ?_
      refine c_region ?_
      refine w_pure (y_assign rfl) rfl ?_
      refine w_nil ?_
      refine x_next ?_
      refine c_ret ?_
      refine x_then_ret ?_
      rotate_left
      refine w_yes rfl rfl ?_
      refine w_pure (y_field rfl) rfl ?_
      refine w_yes rfl rfl ?_
      refine w_pure (y_load_box rfl) rfl ?_
      refine w_yes rfl rfl ?_
      refine w_pure (y_len rfl) rfl ?_
      refine w_yes rfl rfl ?_
      refine w_pure (y_field rfl) rfl ?_
      refine w_yes rfl rfl ?_
      refine w_pure (y_load_box rfl) rfl ?_
      refine w_yes rfl rfl ?_
      refine w_pure (y_len rfl) rfl ?_
      refine w_yes rfl rfl ?_
      refine w_pure (y_ne rfl rfl) rfl ?_
      refine w_pure (y_pick_f rfl rfl) rfl ?_
      refine w_nil ?_
      refine x_next ?_
      (refine c_dec rfl (fun hc33 => ?_) (fun hc33 => ?_) <;> try (first | exact absurd rfl hc33 | contradiction | exact Bool.noConfusion (show false = true from hc33.symm.trans (by assumption)) | exact Bool.noConfusion (show true = false from hc33.symm.trans (by assumption)) | (exfalso; omega) | (exfalso; simp only [*, Bool.not_true, Bool.not_false, reduceCtorEq] at hc33; done)))
      refine c_seq ?_
      refine c_region ?_
      refine w_pure (y_assign rfl) rfl ?_
      refine w_nil ?_
      refine x_next ?_
      refine c_ret ?_
      refine x_then_ret ?_
      rotate_left
    all_goals exact x_retv [_] rfl ⟨rfl, trivial⟩ ⟨by rw [decide_eq_false hne]; rfl, E.go⟩
end
end Go.Proofs.Ythigkbkaeopipaa

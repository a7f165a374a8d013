/- Contracts: what the program's fewest cuts call: bits counted, lists compared, a number looked for. -/
import Derived.Test.YthigkbkaeopipaaFewA
import Derived.Test.YthigkbkaeopipaaL22
namespace Go.Proofs.Ythigkbkaeopipaa
open Go Go.Gw
set_option linter.unusedVariables false
set_option linter.unusedSimpArgs false
/-- how many of the lowest bits are set -/
def pcN : Nat → Nat → Nat
  | 0, _ => 0
  | k + 1, s => s % 2 + pcN k (s / 2)
theorem pcN_zero : ∀ k, pcN k 0 = 0
  | 0 => rfl
  | k + 1 => by rw [pcN, pcN_zero k]
theorem decL_pc : ∀ (l : List Int) (s k : Nat), l.length ≤ k → s < 2 ^ l.length → (decL l s).length = pcN k s
  | [], s, k, h, hs => by
    have : s = 0 := by simpa using hs
    subst this
    rw [decL_zero, pcN_zero]; rfl
  | x :: l, s, 0, h, hs => by simp at h
  | x :: l, s, k + 1, h, hs => by
    have ih := decL_pc l (s / 2) k (by simpa using h) (by rw [List.length_cons, Nat.pow_succ] at hs; omega)
    rw [decL, pcN]
    split
    · rename_i g; rw [List.length_cons, ih, g, Nat.add_comm]
    · rename_i g; rw [ih, show s % 2 = 0 by omega, Nat.zero_add]
abbrev B63 (a : Int) : Prop := 0 ≤ a ∧ a ≤ 9223372036854775807
abbrev oc1 (s : Int) : Int := IntKind.u64.wrap (andI (s / 2 ^ 1) 6148914691236517205 + andI s 6148914691236517205)
abbrev oc2 (s : Int) : Int := IntKind.u64.wrap (andI (oc1 s / 2 ^ 2) 3689348814741910323 + andI (oc1 s) 3689348814741910323)
abbrev oc3 (s : Int) : Int := andI (IntKind.u64.wrap (oc2 s / 2 ^ 4 + oc2 s)) 1085102592571150095
abbrev oc4 (s : Int) : Int := IntKind.u64.wrap (oc3 s + oc3 s / 2 ^ 8)
abbrev oc5 (s : Int) : Int := IntKind.u64.wrap (oc4 s + oc4 s / 2 ^ 16)
abbrev oc6 (s : Int) : Int := IntKind.u64.wrap (oc5 s + oc5 s / 2 ^ 32)
theorem oc_fin : ∀ s : Fin 1024, B63 (((s.val : Nat) : Int) / 2 ^ 1) ∧ B63 ((s.val : Nat) : Int) ∧ B63 (oc1 ((s.val : Nat) : Int) / 2 ^ 2) ∧ B63 (oc1 ((s.val : Nat) : Int)) ∧ B63 (IntKind.u64.wrap (oc2 ((s.val : Nat) : Int) / 2 ^ 4 + oc2 ((s.val : Nat) : Int))) ∧ B63 (oc6 ((s.val : Nat) : Int)) ∧ andI (oc6 ((s.val : Nat) : Int)) 127 = ((pcN 10 s.val : Nat) : Int) := by decide +kernel
theorem oc_all {s : Int} (h : 0 ≤ s ∧ s < 1024) : B63 (s / 2 ^ 1) ∧ B63 s ∧ B63 (oc1 s / 2 ^ 2) ∧ B63 (oc1 s) ∧ B63 (IntKind.u64.wrap (oc2 s / 2 ^ 4 + oc2 s)) ∧ B63 (oc6 s) ∧ andI (oc6 s) 127 = ((pcN 10 s.toNat : Nat) : Int) := by
  have := oc_fin ⟨s.toNat, by omega⟩
  simp only [Int.toNat_of_nonneg h.1] at this
  exact this
/-- two lists, number by number: -1 ahead, 1 behind, 0 the same -/
def cmpL : List Int → List Int → Int
  | [], [] => 0
  | [], _ :: _ => -1
  | _ :: _, [] => 1
  | x :: r, y :: s => if x < y then -1 else if y < x then 1 else cmpL r s
theorem cmpL_lt : ∀ a b : List Int, (cmpL a b < 0) ↔ lexB a b = true
  | [], [] => by simp [cmpL, lexB]
  | [], _ :: _ => by simp [cmpL, lexB]
  | _ :: _, [] => by simp [cmpL, lexB]
  | x :: r, y :: s => by
    rw [cmpL, lexB]
    by_cases h : x < y
    · simp [h]
    · rw [if_neg h]
      by_cases g : y < x
      · rw [if_pos g]; simp; omega
      · rw [if_neg g, cmpL_lt r s]
        have : x = y := by omega
        simp [this]
def cmpI (x y : Int) : Int := if x < y then -1 else if y < x then 1 else 0
theorem cmpL_step {xs ys : List Int} {i : Nat} (hx : i < xs.length) (hy : i < ys.length) : cmpL (xs.drop i) (ys.drop i) = if cmpI (xs.getD i 0) (ys.getD i 0) = 0 then cmpL (xs.drop (i + 1)) (ys.drop (i + 1)) else cmpI (xs.getD i 0) (ys.getD i 0) := by
  rw [List.drop_eq_getElem_cons hx, List.drop_eq_getElem_cons hy, cmpL, List.getD_eq_getElem?_getD, List.getElem?_eq_getElem hx, List.getD_eq_getElem?_getD, List.getElem?_eq_getElem hy]
  simp only [Option.getD_some, cmpI]
  split
  · rfl
  · split <;> rfl
instance : Callable Try.prog 104 := callable Try.func104 (by kernel_rfl) rfl   -- math/bits.OnesCount
instance : Callable Try.prog 159 := callable Try.func159 (by kernel_rfl) rfl   -- cmp.Compare[int64]
instance : Callable Try.prog 187 := callable Try.func187 (by kernel_rfl) rfl   -- cmp.isNaN[int64]
section
variable {w : World} {v v' vB : Value} {xs ys F : List Int} {ws : List (Int × Int)} {lo hi lo' hi' b b1 b3 : Nat} {e n j : Int}
theorem OnesCount64_c (s : Int) (hs : 0 ≤ s ∧ s < 1024 := by omega) : Pur Try.prog 157 [.int .u64 s] (.int .i64 ((pcN 10 s.toNat : Nat) : Int)) := by
  refine ⟨fun w => ?_⟩
  obtain ⟨q1, q2, q3, q4, q5, q6, q7⟩ := oc_all hs
  refine ret_enter Try.func157 rfl Try.ntmps157 rfl ?_
  focus
    refine c_seq ?_
    refine c_region ?_
    refine w_pure (y_assign rfl) rfl ?_
    refine w_nil ?_
    refine x_next ?_
    refine c_seq ?_
    refine c_region ?_
    refine w_pure (y_move rfl) rfl ?_
    refine w_pure (y_shru rfl rfl 1) rfl ?_
    refine w_pure (y_andu rfl rfl (by first | exact q1 | exact q2 | exact q3 | exact q4 | exact q5)) rfl ?_
    refine w_pure (y_move rfl) rfl ?_
    refine w_pure (y_andu rfl rfl (by first | exact q1 | exact q2 | exact q3 | exact q4 | exact q5)) rfl ?_
    refine w_pure (y_add_wrap (k := .u64) rfl rfl) rfl ?_
    refine w_pure (y_assign rfl) rfl ?_
    refine w_nil ?_
    refine x_next ?_
    refine c_seq ?_
    refine c_region ?_
    refine w_pure (y_move rfl) rfl ?_
    refine w_pure (y_shru rfl rfl 2) rfl ?_
    refine w_pure (y_andu rfl rfl (by first | exact q1 | exact q2 | exact q3 | exact q4 | exact q5)) rfl ?_
    refine w_pure (y_move rfl) rfl ?_
    refine w_pure (y_andu rfl rfl (by first | exact q1 | exact q2 | exact q3 | exact q4 | exact q5)) rfl ?_
    refine w_pure (y_add_wrap (k := .u64) rfl rfl) rfl ?_
    refine w_pure (y_assign rfl) rfl ?_
    refine w_nil ?_
    refine x_next ?_
    refine c_seq ?_
    refine c_region ?_
    refine w_pure (y_move rfl) rfl ?_
    refine w_pure (y_shru rfl rfl 4) rfl ?_
    refine w_pure (y_move rfl) rfl ?_
    refine w_pure (y_add_wrap (k := .u64) rfl rfl) rfl ?_
    refine w_pure (y_andu rfl rfl (by first | exact q1 | exact q2 | exact q3 | exact q4 | exact q5)) rfl ?_
    refine w_pure (y_assign rfl) rfl ?_
    refine w_nil ?_
    refine x_next ?_
    refine c_seq ?_
    refine c_region ?_
    refine w_pure (y_move rfl) rfl ?_
    refine w_pure (y_move rfl) rfl ?_
    refine w_pure (y_shru rfl rfl 8) rfl ?_
    refine w_pure (y_add_wrap (k := .u64) rfl rfl) rfl ?_
    refine w_pure (y_assign rfl) rfl ?_
    refine w_nil ?_
    refine x_next ?_
    refine c_seq ?_
    refine c_region ?_
    refine w_pure (y_move rfl) rfl ?_
    refine w_pure (y_move rfl) rfl ?_
    refine w_pure (y_shru rfl rfl 16) rfl ?_
    refine w_pure (y_add_wrap (k := .u64) rfl rfl) rfl ?_
    refine w_pure (y_assign rfl) rfl ?_
    refine w_nil ?_
    refine x_next ?_
    refine c_seq ?_
    refine c_region ?_
    refine w_pure (y_move rfl) rfl ?_
    refine w_pure (y_move rfl) rfl ?_
    refine w_pure (y_shru rfl rfl 32) rfl ?_
    refine w_pure (y_add_wrap (k := .u64) rfl rfl) rfl ?_
    refine w_pure (y_assign rfl) rfl ?_
    refine w_nil ?_
    refine x_next ?_
    refine c_seq ?_
    refine c_region ?_
    refine w_pure (y_move rfl) rfl ?_
    refine w_pure (y_conv64 rfl (by exact ⟨Int.le_trans (by decide) q6.1, q6.2⟩)) rfl ?_
    refine w_pure (y_and rfl rfl (by exact q6)) rfl ?_
    refine w_pure (y_assign rfl) rfl ?_
    refine w_nil ?_
    refine x_next ?_
    refine c_ret ?_
    rotate_left
  exact x_retv [_] rfl ⟨rfl, trivial⟩ ⟨by rw [← q7]; rfl, rfl⟩
theorem OnesCount_c (s : Int) (hs : 0 ≤ s ∧ s < 1024 := by omega) : Pur Try.prog 104 [.int .u64 s] (.int .i64 ((pcN 10 s.toNat : Nat) : Int)) := by
  refine ⟨fun w => ?_⟩
  refine ret_enter Try.func104 rfl Try.ntmps104 rfl ?_
  focus
    refine c_seq ?_
    refine c_region ?_
    refine w_pure (y_assign rfl) rfl ?_
    refine w_nil ?_
    refine x_next ?_
    refine c_seq ?_
    refine c_false rfl ?_
    refine c_skip ?_
    refine x_next ?_
    refine c_seq ?_
    refine c_region ?_
    refine w_pure (y_move rfl) rfl ?_
    refine w_pur rfl rfl rfl (OnesCount64_c _) rfl ?_
    refine w_pure (y_assign rfl) rfl ?_
    refine w_nil ?_
    refine x_next ?_
    refine c_ret ?_
    rotate_left
  exact x_retv [_] rfl ⟨rfl, trivial⟩ ⟨rfl, rfl⟩
theorem IndexI_c (k : Int) (h : SL w lo hi v xs := by repeat (first | assumption | exact Go.Gw.Own.sl (by assumption) | exact Go.Gw.Box.at (by assumption) | exact Go.Gw.SLL.el (by first | assumption | exact Go.Gw.OwnD.sll (by assumption)) _ (by omega) | exact Go.Gw.SLL.at (by first | assumption | exact Go.Gw.OwnD.sll (by assumption)) (by omega) | exact Go.Gw.OwnD.sll (by assumption) | (apply Go.Gw.SL.chg; case hx => assumption) | (apply Go.Gw.Own.chg; case hx => assumption) | (apply Go.Gw.Box.chg; case hx => assumption) | (apply Go.Gw.At.chg; case hx => assumption) | exact .inl (Nat.zero_le _) | exact .inr (Nat.zero_le _) | (show _ ∨ _; omega))) : Val Try.prog 158 [v, .int .i64 k] w (.int .i64 (idxI (fun x => decide (x = k)) xs 0)) := by
  refine ⟨fun w1 hx1 => ?_⟩
  have hsm := h.small
  have E : Since 0 0 w1 w1 := Since.refl 0 0 w1
  refine ret_enter Try.func158 rfl Try.ntmps158 rfl ?_
  focus
    have ht_h := h.top
    have hz_hx1 := hx1.size
    replace h := h.ext hx1
    refine c_seq ?_
    refine c_region ?_
    refine w_pure (y_assign rfl) rfl ?_
    refine w_nil ?_
    refine x_next ?_
    refine c_seq ?_
    refine c_seq ?_
    refine c_region ?_
    refine w_pure (y_move rfl) rfl ?_
    refine w_pure (y_len rfl) rfl ?_
    refine w_pure (y_move rfl) rfl ?_
    refine w_nil ?_
    refine x_next ?_
    refine c_block ?_
    rotate_left
  refine c_loopC 0 0 (ι := Nat) (fun x => [(0, v), (1, .int .i64 k), (7, .int .i64 xs.length), (8, .int .i64 x)]) (fun x w' => x ≤ xs.length ∧ idxI (fun x => decide (x = k)) (xs.drop x) x = idxI (fun x => decide (x = k)) xs 0) (fun x => xs.length - x) 0 (by repeat (first | exact trivial | refine ⟨rfl, ?_⟩)) ⟨by omega, by simp⟩ ?_
  rintro i wL hxL EL ⟨hi0, hidx⟩
  have hstep := idxI_drop (fun x => decide (x = k)) xs i
  by_cases hlt : i < xs.length
  · have hs := (hstep hlt).symm.trans hidx
    focus
      have hz_hxL := hxL.size
      replace E := E.trans hxL
      replace h := h.ext hxL
      refine c_seq ?_
      refine c_region ?_
      refine w_pure (y_lt rfl rfl) rfl ?_
      refine w_nil ?_
      refine x_next ?_
      refine c_seq ?_
      (refine c_dec rfl (fun hc9 => ?_) (fun hc9 => ?_) <;> try (first | exact absurd rfl hc9 | contradiction | exact Bool.noConfusion (show false = true from hc9.symm.trans (by assumption)) | exact Bool.noConfusion (show true = false from hc9.symm.trans (by assumption)) | (exfalso; omega) | (exfalso; simp only [*, Bool.not_true, Bool.not_false, reduceCtorEq] at hc9; done)))
      refine c_skip ?_
      refine x_next ?_
      refine c_seq ?_
      refine c_block ?_
      refine c_seq ?_
      refine c_region ?_
      refine w_pure (y_move rfl) rfl ?_
      refine w_pure (y_assign rfl) rfl ?_
      refine w_nil ?_
      refine x_next ?_
      refine c_seq ?_
      refine c_region ?_
      refine w_pure (y_move rfl) rfl ?_
      refine w_pure (y_move rfl) rfl ?_
      refine w_pure (y_move rfl) rfl ?_
      refine w_pure (y_index rfl rfl) rfl ?_
      refine w_pure (y_load_int rfl) rfl ?_
      refine w_pure (y_eq rfl rfl) rfl ?_
      refine w_nil ?_
      refine x_next ?_
      (refine c_dec rfl (fun hc16 => ?_) (fun hc16 => ?_) <;> try (first | exact absurd rfl hc16 | contradiction | exact Bool.noConfusion (show false = true from hc16.symm.trans (by assumption)) | exact Bool.noConfusion (show true = false from hc16.symm.trans (by assumption)) | (exfalso; omega) | (exfalso; simp only [*, Bool.not_true, Bool.not_false, reduceCtorEq] at hc16; done)))
      refine c_seq ?_
      refine c_region ?_
      refine w_pure (y_move rfl) rfl ?_
      refine w_pure (y_assign rfl) rfl ?_
      refine w_nil ?_
      refine x_next ?_
      refine c_ret ?_
      refine x_block_ret ?_
      refine x_then_ret ?_
      refine x_then_ret ?_
      refine x_block_ret ?_
      refine x_then_ret ?_
      rotate_left
      refine c_skip ?_
      refine x_block_norm ?_
      refine x_next ?_
      refine c_region ?_
      refine w_pure (y_add rfl rfl) rfl ?_
      refine w_pure (y_move rfl) rfl ?_
      refine w_nil ?_
      rotate_left
    · refine x_retv [_] rfl ⟨rfl, trivial⟩ ⟨?_, E.go⟩
      rw [if_pos (decide_eq_true (show xs.getD i 0 = k from hc16.symm))] at hs
      rw [← hs]; rfl
    · refine x_again (i + 1) (by repeat (first | exact trivial | refine ⟨rfl, ?_⟩)) ⟨EL.go, by omega, ?_⟩ (by omega)
      rw [if_neg (by rw [decide_eq_false (show ¬ xs.getD i 0 = k from fun g => hc16 g.symm)]; simp)] at hs
      rw [← hs]; rfl
  · focus
      have hz_hxL := hxL.size
      replace E := E.trans hxL
      replace h := h.ext hxL
      refine c_seq ?_
      refine c_region ?_
      refine w_pure (y_lt rfl rfl) rfl ?_
      refine w_nil ?_
      refine x_next ?_
      refine c_seq ?_
      (refine c_dec rfl (fun hc9 => ?_) (fun hc9 => ?_) <;> try (first | exact absurd rfl hc9 | contradiction | exact Bool.noConfusion (show false = true from hc9.symm.trans (by assumption)) | exact Bool.noConfusion (show true = false from hc9.symm.trans (by assumption)) | (exfalso; omega) | (exfalso; simp only [*, Bool.not_true, Bool.not_false, reduceCtorEq] at hc9; done)))
      refine c_exit ?_
      refine x_then_exit ?_
      refine x_then_exit ?_
      refine x_block_hit ?_
      refine x_next ?_
      refine c_seq ?_
      refine c_region ?_
      refine w_pure (y_assign rfl) rfl ?_
      refine w_nil ?_
      refine x_next ?_
      refine c_ret ?_
      rotate_left
    refine x_retv [_] rfl ⟨rfl, trivial⟩ ⟨?_, E.go⟩
    rw [List.drop_eq_nil_of_le (by omega)] at hidx
    rw [← hidx]; rfl
theorem ContainsI_c (k : Int) (h : SL w lo hi v xs := by repeat (first | assumption | exact Go.Gw.Own.sl (by assumption) | exact Go.Gw.Box.at (by assumption) | exact Go.Gw.SLL.el (by first | assumption | exact Go.Gw.OwnD.sll (by assumption)) _ (by omega) | exact Go.Gw.SLL.at (by first | assumption | exact Go.Gw.OwnD.sll (by assumption)) (by omega) | exact Go.Gw.OwnD.sll (by assumption) | (apply Go.Gw.SL.chg; case hx => assumption) | (apply Go.Gw.Own.chg; case hx => assumption) | (apply Go.Gw.Box.chg; case hx => assumption) | (apply Go.Gw.At.chg; case hx => assumption) | exact .inl (Nat.zero_le _) | exact .inr (Nat.zero_le _) | (show _ ∨ _; omega))) : Val Try.prog 105 [v, .int .i64 k] w (.bool (decide (k ∈ xs))) := by
  refine ⟨fun w1 hx1 => ?_⟩
  have E : Since 0 0 w1 w1 := Since.refl 0 0 w1
  refine ret_enter Try.func105 rfl Try.ntmps105 rfl ?_
  focus
    have ht_h := h.top
    have hz_hx1 := hx1.size
    replace h := h.ext hx1
    refine c_seq ?_
    refine c_region ?_
    refine w_pure (y_assign rfl) rfl ?_
    refine w_nil ?_
    refine x_next ?_
    refine c_seq ?_
    refine c_region ?_
    refine w_pure (y_move rfl) rfl ?_
    refine w_pure (y_move rfl) rfl ?_
    refine w_val rfl rfl rfl (IndexI_c _) rfl (fun w7 hx7 hz7 => ?_)
    have hz_hx7 := hx7.size
    replace E := E.trans hx7
    replace h := h.ext hx7
    refine w_pure (y_ge rfl rfl) rfl ?_
    refine w_pure (y_assign rfl) rfl ?_
    refine w_nil ?_
    refine x_next ?_
    refine c_ret ?_
    rotate_left
  refine x_retv [_] rfl ⟨rfl, trivial⟩ ⟨?_, E.go⟩
  have : decide (k ∈ xs) = xs.any (fun x => decide (x = k)) := by
    rw [Bool.eq_iff_iff]; simp
  rw [this, ← idxI_any (fun x => decide (x = k)) xs 0 (by omega)]; rfl
theorem isNaNI_c (x : Int) : Pur Try.prog 187 [.int .i64 x] (.bool false) := by
  refine ⟨fun w => ?_⟩
  refine ret_enter Try.func187 rfl Try.ntmps187 rfl ?_
  focus
    refine c_seq ?_
    refine c_region ?_
    refine w_pure (y_assign rfl) rfl ?_
    refine w_nil ?_
    refine x_next ?_
    refine c_seq ?_
    refine c_region ?_
    refine w_pure (y_move rfl) rfl ?_
    refine w_pure (y_move rfl) rfl ?_
    refine w_pure (y_ne rfl rfl) rfl ?_
    refine w_pure (y_assign rfl) rfl ?_
    refine w_nil ?_
    refine x_next ?_
    refine c_ret ?_
    rotate_left
  refine x_retv [_] rfl ⟨rfl, trivial⟩ ⟨?_, rfl⟩
  simp [ofResults]
theorem cmpCompareI_c (x y : Int) : Pur Try.prog 159 [.int .i64 x, .int .i64 y] (.int .i64 (cmpI x y)) := by
  refine ⟨fun w => ?_⟩
  refine ret_enter Try.func159 rfl Try.ntmps159 rfl ?_
  focus
    refine c_seq ?_
    refine c_region ?_
    refine w_pure (y_assign rfl) rfl ?_
    refine w_nil ?_
    refine x_next ?_
    refine c_seq ?_
    refine c_region ?_
    refine w_pure (y_move rfl) rfl ?_
    refine w_pur rfl rfl rfl (isNaNI_c _) rfl ?_
    refine w_pure (y_assign rfl) rfl ?_
    refine w_nil ?_
    refine x_next ?_
    refine c_seq ?_
    refine c_region ?_
    refine w_pure (y_move rfl) rfl ?_
    refine w_pur rfl rfl rfl (isNaNI_c _) rfl ?_
    refine w_pure (y_assign rfl) rfl ?_
    refine w_nil ?_
    refine x_next ?_
    refine c_seq ?_
    refine c_seq ?_
    refine c_region ?_
    refine w_pure (y_move rfl) rfl ?_
    refine w_nil ?_
    refine x_next ?_
    refine c_false rfl ?_
    refine c_skip ?_
    refine x_next ?_
    refine c_seq ?_
    refine c_seq ?_
    refine c_region ?_
    refine w_pure (y_move rfl) rfl ?_
    refine w_nil ?_
    refine x_next ?_
    refine c_false rfl ?_
    refine c_skip ?_
    refine x_next ?_
    refine c_seq ?_
    refine c_seq ?_
    refine c_region ?_
    refine w_pure (y_move rfl) rfl ?_
    refine w_pure (y_move rfl) rfl ?_
    refine w_pure (y_lt rfl rfl) rfl ?_
    refine w_nil ?_
    refine x_next ?_
    (refine c_dec rfl (fun hc16 => ?_) (fun hc16 => ?_) <;> try (first | exact absurd rfl hc16 | contradiction | exact Bool.noConfusion (show false = true from hc16.symm.trans (by assumption)) | exact Bool.noConfusion (show true = false from hc16.symm.trans (by assumption)) | (exfalso; omega) | (exfalso; simp only [*, Bool.not_true, Bool.not_false, reduceCtorEq] at hc16; done)))
    refine c_seq ?_
    refine c_region ?_
    refine w_pure (y_assign rfl) rfl ?_
    refine w_nil ?_
    refine x_next ?_
    refine c_ret ?_
    refine x_then_ret ?_
    rotate_left
    refine c_skip ?_
    refine x_next ?_
    refine c_seq ?_
    refine c_seq ?_
    refine c_region ?_
    refine w_pure (y_move rfl) rfl ?_
    refine w_pure (y_move rfl) rfl ?_
    refine w_pure (y_gt rfl rfl) rfl ?_
    refine w_nil ?_
    refine x_next ?_
    (refine c_dec rfl (fun hc19 => ?_) (fun hc19 => ?_) <;> try (first | exact absurd rfl hc19 | contradiction | exact Bool.noConfusion (show false = true from hc19.symm.trans (by assumption)) | exact Bool.noConfusion (show true = false from hc19.symm.trans (by assumption)) | (exfalso; omega) | (exfalso; simp only [*, Bool.not_true, Bool.not_false, reduceCtorEq] at hc19; done)))
    refine c_seq ?_
    refine c_region ?_
    refine w_pure (y_assign rfl) rfl ?_
    refine w_nil ?_
    refine x_next ?_
    refine c_ret ?_
    refine x_then_ret ?_
    rotate_left
    refine c_skip ?_
    refine x_next ?_
    refine c_seq ?_
    refine c_region ?_
    refine w_pure (y_assign rfl) rfl ?_
    refine w_nil ?_
    refine x_next ?_
    refine c_ret ?_
    rotate_left
  all_goals refine x_retv [_] rfl ⟨rfl, trivial⟩ ⟨?_, rfl⟩
  · rw [cmpI, if_pos hc16]; rfl
  · rw [cmpI, if_neg hc16, if_pos hc19]; rfl
  · rw [cmpI, if_neg hc16, if_neg hc19]; rfl
theorem CompareI_c (h : SL w lo hi v xs := by repeat (first | assumption | exact Go.Gw.Own.sl (by assumption) | exact Go.Gw.Box.at (by assumption) | exact Go.Gw.SLL.el (by first | assumption | exact Go.Gw.OwnD.sll (by assumption)) _ (by omega) | exact Go.Gw.SLL.at (by first | assumption | exact Go.Gw.OwnD.sll (by assumption)) (by omega) | exact Go.Gw.OwnD.sll (by assumption) | (apply Go.Gw.SL.chg; case hx => assumption) | (apply Go.Gw.Own.chg; case hx => assumption) | (apply Go.Gw.Box.chg; case hx => assumption) | (apply Go.Gw.At.chg; case hx => assumption) | exact .inl (Nat.zero_le _) | exact .inr (Nat.zero_le _) | (show _ ∨ _; omega))) (h' : SL w lo' hi' v' ys := by repeat (first | assumption | exact Go.Gw.Own.sl (by assumption) | exact Go.Gw.Box.at (by assumption) | exact Go.Gw.SLL.el (by first | assumption | exact Go.Gw.OwnD.sll (by assumption)) _ (by omega) | exact Go.Gw.SLL.at (by first | assumption | exact Go.Gw.OwnD.sll (by assumption)) (by omega) | exact Go.Gw.OwnD.sll (by assumption) | (apply Go.Gw.SL.chg; case hx => assumption) | (apply Go.Gw.Own.chg; case hx => assumption) | (apply Go.Gw.Box.chg; case hx => assumption) | (apply Go.Gw.At.chg; case hx => assumption) | exact .inl (Nat.zero_le _) | exact .inr (Nat.zero_le _) | (show _ ∨ _; omega))) : Val Try.prog 107 [v, v'] w (.int .i64 (cmpL xs ys)) := by
  refine ⟨fun w1 hx1 => ?_⟩
  have hsm := h.small
  have hsm' := h'.small
  have E : Since 0 0 w1 w1 := Since.refl 0 0 w1
  refine ret_enter Try.func107 rfl Try.ntmps107 rfl ?_
  focus
    have ht_h := h.top
    have ht_h' := h'.top
    have hz_hx1 := hx1.size
    replace h := h.ext hx1
    replace h' := h'.ext hx1
    refine c_seq ?_
    refine c_region ?_
    refine w_pure (y_assign rfl) rfl ?_
    refine w_nil ?_
    refine x_next ?_
    refine c_seq ?_
    refine c_seq ?_
    refine c_region ?_
    refine w_pure (y_move rfl) rfl ?_
    refine w_pure (y_len rfl) rfl ?_
    refine w_pure (y_move rfl) rfl ?_
    refine w_nil ?_
    refine x_next ?_
    refine c_block ?_
    rotate_left
  refine c_loopC 0 0 (ι := Nat) (fun x => [(0, v), (1, v'), (9, v), (10, .int .i64 xs.length), (11, .int .i64 x)]) (fun x w' => x ≤ xs.length ∧ x ≤ ys.length ∧ cmpL (xs.drop x) (ys.drop x) = cmpL xs ys) (fun x => xs.length - x) 0 (by repeat (first | exact trivial | refine ⟨rfl, ?_⟩)) ⟨by omega, by omega, by simp⟩ ?_
  rintro i wL hxL EL ⟨hi0, hi1, hcm⟩
  by_cases hlt : i < xs.length
  · by_cases hlt2 : i < ys.length
    · rw [cmpL_step hlt hlt2] at hcm
      focus
        have hz_hxL := hxL.size
        replace E := E.trans hxL
        replace h := h.ext hxL
        replace h' := h'.ext hxL
        refine c_seq ?_
        refine c_region ?_
        refine w_pure (y_lt rfl rfl) rfl ?_
        refine w_nil ?_
        refine x_next ?_
        refine c_seq ?_
        (refine c_dec rfl (fun hc12 => ?_) (fun hc12 => ?_) <;> try (first | exact absurd rfl hc12 | contradiction | exact Bool.noConfusion (show false = true from hc12.symm.trans (by assumption)) | exact Bool.noConfusion (show true = false from hc12.symm.trans (by assumption)) | (exfalso; omega) | (exfalso; simp only [*, Bool.not_true, Bool.not_false, reduceCtorEq] at hc12; done)))
        refine c_skip ?_
        refine x_next ?_
        refine c_seq ?_
        refine c_block ?_
        refine c_seq ?_
        refine c_region ?_
        refine w_pure (y_move rfl) rfl ?_
        refine w_pure (y_index rfl rfl) rfl ?_
        refine w_pure (y_load_int rfl) rfl ?_
        refine w_pure (y_assign rfl) rfl ?_
        refine w_pure (y_assign rfl) rfl ?_
        refine w_nil ?_
        refine x_next ?_
        refine c_seq ?_
        refine c_seq ?_
        refine c_region ?_
        refine w_pure (y_move rfl) rfl ?_
        refine w_pure (y_move rfl) rfl ?_
        refine w_pure (y_len rfl) rfl ?_
        refine w_pure (y_ge rfl rfl) rfl ?_
        refine w_nil ?_
        refine x_next ?_
        (refine c_dec rfl (fun hc19 => ?_) (fun hc19 => ?_) <;> try (first | exact absurd rfl hc19 | contradiction | exact Bool.noConfusion (show false = true from hc19.symm.trans (by assumption)) | exact Bool.noConfusion (show true = false from hc19.symm.trans (by assumption)) | (exfalso; omega) | (exfalso; simp only [*, Bool.not_true, Bool.not_false, reduceCtorEq] at hc19; done)))
        refine c_skip ?_
        refine x_next ?_
        refine c_seq ?_
        refine c_region ?_
        refine w_pure (y_move rfl) rfl ?_
        refine w_pure (y_move rfl) rfl ?_
        refine w_pure (y_index rfl rfl) rfl ?_
        refine w_pure (y_load_int rfl) rfl ?_
        refine w_pure (y_assign rfl) rfl ?_
        refine w_nil ?_
        refine x_next ?_
        refine c_seq ?_
        refine c_region ?_
        refine w_pure (y_move rfl) rfl ?_
        refine w_pure (y_move rfl) rfl ?_
        refine w_pur rfl rfl rfl (cmpCompareI_c _ _) rfl ?_
        refine w_pure (y_assign rfl) rfl ?_
        refine w_nil ?_
        refine x_next ?_
        refine c_seq ?_
        refine c_region ?_
        refine w_pure (y_move rfl) rfl ?_
        refine w_pure (y_ne rfl rfl) rfl ?_
        refine w_nil ?_
        refine x_next ?_
        (refine c_dec rfl (fun hc28 => ?_) (fun hc28 => ?_) <;> try (first | exact absurd rfl hc28 | contradiction | exact Bool.noConfusion (show false = true from hc28.symm.trans (by assumption)) | exact Bool.noConfusion (show true = false from hc28.symm.trans (by assumption)) | (exfalso; omega) | (exfalso; simp only [*, Bool.not_true, Bool.not_false, reduceCtorEq] at hc28; done)))
        refine c_seq ?_
        refine c_region ?_
        refine w_pure (y_move rfl) rfl ?_
        refine w_pure (y_assign rfl) rfl ?_
        refine w_nil ?_
        refine x_next ?_
        refine c_ret ?_
        refine x_block_ret ?_
        refine x_then_ret ?_
        refine x_then_ret ?_
        refine x_block_ret ?_
        refine x_then_ret ?_
        rotate_left
        refine c_skip ?_
        refine x_block_norm ?_
        refine x_next ?_
        refine c_region ?_
        refine w_pure (y_add rfl rfl) rfl ?_
        refine w_pure (y_move rfl) rfl ?_
        refine w_nil ?_
        rotate_left
      · refine x_retv [_] rfl ⟨rfl, trivial⟩ ⟨?_, E.go⟩
        rw [if_neg (show ¬ cmpI (xs.getD i 0) (ys.getD i 0) = 0 from hc28)] at hcm
        rw [← hcm]; rfl
      · refine x_again (i + 1) (by repeat (first | exact trivial | refine ⟨rfl, ?_⟩)) ⟨EL.go, by omega, by omega, ?_⟩ (by omega)
        rw [if_pos (show cmpI (xs.getD i 0) (ys.getD i 0) = 0 from Decidable.not_not.1 hc28)] at hcm
        exact hcm
    · rw [List.drop_eq_getElem_cons hlt, List.drop_eq_nil_of_le (show ys.length ≤ i by omega), cmpL] at hcm
      focus
        have hz_hxL := hxL.size
        replace E := E.trans hxL
        replace h := h.ext hxL
        replace h' := h'.ext hxL
        refine c_seq ?_
        refine c_region ?_
        refine w_pure (y_lt rfl rfl) rfl ?_
        refine w_nil ?_
        refine x_next ?_
        refine c_seq ?_
        (refine c_dec rfl (fun hc12 => ?_) (fun hc12 => ?_) <;> try (first | exact absurd rfl hc12 | contradiction | exact Bool.noConfusion (show false = true from hc12.symm.trans (by assumption)) | exact Bool.noConfusion (show true = false from hc12.symm.trans (by assumption)) | (exfalso; omega) | (exfalso; simp only [*, Bool.not_true, Bool.not_false, reduceCtorEq] at hc12; done)))
        refine c_skip ?_
        refine x_next ?_
        refine c_seq ?_
        refine c_block ?_
        refine c_seq ?_
        refine c_region ?_
        refine w_pure (y_move rfl) rfl ?_
        refine w_pure (y_index rfl rfl) rfl ?_
        refine w_pure (y_load_int rfl) rfl ?_
        refine w_pure (y_assign rfl) rfl ?_
        refine w_pure (y_assign rfl) rfl ?_
        refine w_nil ?_
        refine x_next ?_
        refine c_seq ?_
        refine c_seq ?_
        refine c_region ?_
        refine w_pure (y_move rfl) rfl ?_
        refine w_pure (y_move rfl) rfl ?_
        refine w_pure (y_len rfl) rfl ?_
        refine w_pure (y_ge rfl rfl) rfl ?_
        refine w_nil ?_
        refine x_next ?_
        (refine c_dec rfl (fun hc19 => ?_) (fun hc19 => ?_) <;> try (first | exact absurd rfl hc19 | contradiction | exact Bool.noConfusion (show false = true from hc19.symm.trans (by assumption)) | exact Bool.noConfusion (show true = false from hc19.symm.trans (by assumption)) | (exfalso; omega) | (exfalso; simp only [*, Bool.not_true, Bool.not_false, reduceCtorEq] at hc19; done)))
        refine c_seq ?_
        refine c_region ?_
        refine w_pure (y_assign rfl) rfl ?_
        refine w_nil ?_
        refine x_next ?_
        refine c_ret ?_
        refine x_then_ret ?_
        refine x_block_ret ?_
        refine x_then_ret ?_
        refine x_then_ret ?_
        refine x_block_ret ?_
        refine x_then_ret ?_
        rotate_left
      exact x_retv [_] rfl ⟨rfl, trivial⟩ ⟨by rw [← hcm]; rfl, E.go⟩
  · rw [List.drop_eq_nil_of_le (show xs.length ≤ i by omega)] at hcm
    by_cases hlt2 : i < ys.length
    · rw [List.drop_eq_getElem_cons hlt2, cmpL] at hcm
      focus
        have hz_hxL := hxL.size
        replace E := E.trans hxL
        replace h := h.ext hxL
        replace h' := h'.ext hxL
        refine c_seq ?_
        refine c_region ?_
        refine w_pure (y_lt rfl rfl) rfl ?_
        refine w_nil ?_
        refine x_next ?_
        refine c_seq ?_
        (refine c_dec rfl (fun hc12 => ?_) (fun hc12 => ?_) <;> try (first | exact absurd rfl hc12 | contradiction | exact Bool.noConfusion (show false = true from hc12.symm.trans (by assumption)) | exact Bool.noConfusion (show true = false from hc12.symm.trans (by assumption)) | (exfalso; omega) | (exfalso; simp only [*, Bool.not_true, Bool.not_false, reduceCtorEq] at hc12; done)))
        refine c_exit ?_
        refine x_then_exit ?_
        refine x_then_exit ?_
        refine x_block_hit ?_
        refine x_next ?_
        refine c_seq ?_
        refine c_seq ?_
        refine c_region ?_
        refine w_pure (y_move rfl) rfl ?_
        refine w_pure (y_len rfl) rfl ?_
        refine w_pure (y_move rfl) rfl ?_
        refine w_pure (y_len rfl) rfl ?_
        refine w_pure (y_lt rfl rfl) rfl ?_
        refine w_nil ?_
        refine x_next ?_
        (refine c_dec rfl (fun hc35 => ?_) (fun hc35 => ?_) <;> try (first | exact absurd rfl hc35 | contradiction | exact Bool.noConfusion (show false = true from hc35.symm.trans (by assumption)) | exact Bool.noConfusion (show true = false from hc35.symm.trans (by assumption)) | (exfalso; omega) | (exfalso; simp only [*, Bool.not_true, Bool.not_false, reduceCtorEq] at hc35; done)))
        refine c_seq ?_
        refine c_region ?_
        refine w_pure (y_assign rfl) rfl ?_
        refine w_nil ?_
        refine x_next ?_
        refine c_ret ?_
        refine x_then_ret ?_
        rotate_left
      exact x_retv [_] rfl ⟨rfl, trivial⟩ ⟨by rw [← hcm]; rfl, E.go⟩
    · rw [List.drop_eq_nil_of_le (show ys.length ≤ i by omega), cmpL] at hcm
      focus
        have hz_hxL := hxL.size
        replace E := E.trans hxL
        replace h := h.ext hxL
        replace h' := h'.ext hxL
        refine c_seq ?_
        refine c_region ?_
        refine w_pure (y_lt rfl rfl) rfl ?_
        refine w_nil ?_
        refine x_next ?_
        refine c_seq ?_
        (refine c_dec rfl (fun hc12 => ?_) (fun hc12 => ?_) <;> try (first | exact absurd rfl hc12 | contradiction | exact Bool.noConfusion (show false = true from hc12.symm.trans (by assumption)) | exact Bool.noConfusion (show true = false from hc12.symm.trans (by assumption)) | (exfalso; omega) | (exfalso; simp only [*, Bool.not_true, Bool.not_false, reduceCtorEq] at hc12; done)))
        refine c_exit ?_
        refine x_then_exit ?_
        refine x_then_exit ?_
        refine x_block_hit ?_
        refine x_next ?_
        refine c_seq ?_
        refine c_seq ?_
        refine c_region ?_
        refine w_pure (y_move rfl) rfl ?_
        refine w_pure (y_len rfl) rfl ?_
        refine w_pure (y_move rfl) rfl ?_
        refine w_pure (y_len rfl) rfl ?_
        refine w_pure (y_lt rfl rfl) rfl ?_
        refine w_nil ?_
        refine x_next ?_
        (refine c_dec rfl (fun hc35 => ?_) (fun hc35 => ?_) <;> try (first | exact absurd rfl hc35 | contradiction | exact Bool.noConfusion (show false = true from hc35.symm.trans (by assumption)) | exact Bool.noConfusion (show true = false from hc35.symm.trans (by assumption)) | (exfalso; omega) | (exfalso; simp only [*, Bool.not_true, Bool.not_false, reduceCtorEq] at hc35; done)))
        refine c_skip ?_
        refine x_next ?_
        refine c_seq ?_
        refine c_region ?_
        refine w_pure (y_assign rfl) rfl ?_
        refine w_nil ?_
        refine x_next ?_
        refine c_ret ?_
        rotate_left
      exact x_retv [_] rfl ⟨rfl, trivial⟩ ⟨by rw [← hcm]; rfl, E.go⟩
theorem FewestCuts11_c (x k : Int) (hp1 : At w b1 0 [v'] := by repeat (first | assumption | exact Go.Gw.Own.sl (by assumption) | exact Go.Gw.Box.at (by assumption) | exact Go.Gw.SLL.el (by first | assumption | exact Go.Gw.OwnD.sll (by assumption)) _ (by omega) | exact Go.Gw.SLL.at (by first | assumption | exact Go.Gw.OwnD.sll (by assumption)) (by omega) | exact Go.Gw.OwnD.sll (by assumption) | (apply Go.Gw.SL.chg; case hx => assumption) | (apply Go.Gw.Own.chg; case hx => assumption) | (apply Go.Gw.Box.chg; case hx => assumption) | (apply Go.Gw.At.chg; case hx => assumption) | exact .inl (Nat.zero_le _) | exact .inr (Nat.zero_le _) | (show _ ∨ _; omega))) (hp2 : At w b 0 [.int .i64 e, .int .i64 n, .int .i64 j, v] := by repeat (first | assumption | exact Go.Gw.Own.sl (by assumption) | exact Go.Gw.Box.at (by assumption) | exact Go.Gw.SLL.el (by first | assumption | exact Go.Gw.OwnD.sll (by assumption)) _ (by omega) | exact Go.Gw.SLL.at (by first | assumption | exact Go.Gw.OwnD.sll (by assumption)) (by omega) | exact Go.Gw.OwnD.sll (by assumption) | (apply Go.Gw.SL.chg; case hx => assumption) | (apply Go.Gw.Own.chg; case hx => assumption) | (apply Go.Gw.Box.chg; case hx => assumption) | (apply Go.Gw.At.chg; case hx => assumption) | exact .inl (Nat.zero_le _) | exact .inr (Nat.zero_le _) | (show _ ∨ _; omega))) (hp3 : At w b3 0 [.int .i64 k] := by repeat (first | assumption | exact Go.Gw.Own.sl (by assumption) | exact Go.Gw.Box.at (by assumption) | exact Go.Gw.SLL.el (by first | assumption | exact Go.Gw.OwnD.sll (by assumption)) _ (by omega) | exact Go.Gw.SLL.at (by first | assumption | exact Go.Gw.OwnD.sll (by assumption)) (by omega) | exact Go.Gw.OwnD.sll (by assumption) | (apply Go.Gw.SL.chg; case hx => assumption) | (apply Go.Gw.Own.chg; case hx => assumption) | (apply Go.Gw.Box.chg; case hx => assumption) | (apply Go.Gw.At.chg; case hx => assumption) | exact .inl (Nat.zero_le _) | exact .inr (Nat.zero_le _) | (show _ ∨ _; omega))) (h : SL w lo hi v ws := by repeat (first | assumption | exact Go.Gw.Own.sl (by assumption) | exact Go.Gw.Box.at (by assumption) | exact Go.Gw.SLL.el (by first | assumption | exact Go.Gw.OwnD.sll (by assumption)) _ (by omega) | exact Go.Gw.SLL.at (by first | assumption | exact Go.Gw.OwnD.sll (by assumption)) (by omega) | exact Go.Gw.OwnD.sll (by assumption) | (apply Go.Gw.SL.chg; case hx => assumption) | (apply Go.Gw.Own.chg; case hx => assumption) | (apply Go.Gw.Box.chg; case hx => assumption) | (apply Go.Gw.At.chg; case hx => assumption) | exact .inl (Nat.zero_le _) | exact .inr (Nat.zero_le _) | (show _ ∨ _; omega))) (h' : SL w lo' hi' v' F := by repeat (first | assumption | exact Go.Gw.Own.sl (by assumption) | exact Go.Gw.Box.at (by assumption) | exact Go.Gw.SLL.el (by first | assumption | exact Go.Gw.OwnD.sll (by assumption)) _ (by omega) | exact Go.Gw.SLL.at (by first | assumption | exact Go.Gw.OwnD.sll (by assumption)) (by omega) | exact Go.Gw.OwnD.sll (by assumption) | (apply Go.Gw.SL.chg; case hx => assumption) | (apply Go.Gw.Own.chg; case hx => assumption) | (apply Go.Gw.Box.chg; case hx => assumption) | (apply Go.Gw.At.chg; case hx => assumption) | exact .inl (Nat.zero_le _) | exact .inr (Nat.zero_le _) | (show _ ∨ _; omega))) (hx : 0 ≤ x ∧ x < F.length := by omega) (hk : 0 ≤ k ∧ k < ws.length := by omega) (hA : 0 ≤ (ws.getD k.toNat (0, 0)).1 ∧ (ws.getD k.toNat (0, 0)).1 < F.length := by omega) :
    Val Try.prog 103 [.int .i64 x, ptr b1 0, ptr b 0, ptr b3 0] w (.bool (decide (F.getD x.toNat 0 = F.getD (ws.getD k.toNat (0, 0)).1.toNat 0))) := by
  refine ⟨fun w0 hx0 => ?_⟩
  have E : Since 0 0 w0 w0 := Since.refl 0 0 w0
  refine ret_enter Try.func103 rfl Try.ntmps103 rfl ?_
  focus
    have ht_h := h.top
    have ht_h' := h'.top
    have hz_hx0 := hx0.size
    replace hp1 := hp1.ext hx0
    replace hp2 := hp2.ext hx0
    replace hp3 := hp3.ext hx0
    replace h := h.ext hx0
    replace h' := h'.ext hx0
    refine c_seq ?_
    refine c_region ?_
    refine w_pure (y_assign rfl) rfl ?_
    refine w_nil ?_
    refine x_next ?_
    refine c_seq ?_
    refine c_region_calm mixed (by decide +kernel) (by kernel_rfl) ?_
    refine q_pure (y_load rfl) rfl ?_
    refine q_pure (y_move rfl) rfl ?_
    refine q_pure (y_index rfl rfl) rfl ?_
    refine q_pure (y_load_int rfl) rfl ?_
    refine q_pure (y_load rfl) rfl ?_
    refine q_pure (y_field rfl) rfl ?_
    refine q_pure (y_loadk rfl) rfl ?_
    refine q_pure (y_load rfl) rfl ?_
    refine q_pure (y_index rfl rfl) rfl ?_
    refine q_pure (y_field rfl) rfl ?_
    refine q_pure (y_load_p0 rfl) rfl ?_
    refine q_pure (y_index rfl rfl) rfl ?_
    refine q_pure (y_load_int rfl) rfl ?_
    refine q_pure (y_eq rfl rfl) rfl ?_
    refine q_pure (y_assign rfl) rfl ?_
    refine q_nil (fun ws23 hxs23 hzs23 => ?_)
    have hz_hxs23 := hxs23.size
    replace E := E.trans hxs23
    replace hp1 := hp1.ext hxs23
    replace hp2 := hp2.ext hxs23
    replace hp3 := hp3.ext hxs23
    replace h := h.ext hxs23
    replace h' := h'.ext hxs23
    refine x_next ?_
    refine c_ret ?_
    rotate_left
  exact x_retv [_] rfl ⟨rfl, trivial⟩ ⟨rfl, E.go⟩
theorem FewestCuts1_c (k : Int) (hp1 : At w b1 0 [v'] := by repeat (first | assumption | exact Go.Gw.Own.sl (by assumption) | exact Go.Gw.Box.at (by assumption) | exact Go.Gw.SLL.el (by first | assumption | exact Go.Gw.OwnD.sll (by assumption)) _ (by omega) | exact Go.Gw.SLL.at (by first | assumption | exact Go.Gw.OwnD.sll (by assumption)) (by omega) | exact Go.Gw.OwnD.sll (by assumption) | (apply Go.Gw.SL.chg; case hx => assumption) | (apply Go.Gw.Own.chg; case hx => assumption) | (apply Go.Gw.Box.chg; case hx => assumption) | (apply Go.Gw.At.chg; case hx => assumption) | exact .inl (Nat.zero_le _) | exact .inr (Nat.zero_le _) | (show _ ∨ _; omega))) (hp2 : At w b 0 [.int .i64 e, .int .i64 n, .int .i64 j, v] := by repeat (first | assumption | exact Go.Gw.Own.sl (by assumption) | exact Go.Gw.Box.at (by assumption) | exact Go.Gw.SLL.el (by first | assumption | exact Go.Gw.OwnD.sll (by assumption)) _ (by omega) | exact Go.Gw.SLL.at (by first | assumption | exact Go.Gw.OwnD.sll (by assumption)) (by omega) | exact Go.Gw.OwnD.sll (by assumption) | (apply Go.Gw.SL.chg; case hx => assumption) | (apply Go.Gw.Own.chg; case hx => assumption) | (apply Go.Gw.Box.chg; case hx => assumption) | (apply Go.Gw.At.chg; case hx => assumption) | exact .inl (Nat.zero_le _) | exact .inr (Nat.zero_le _) | (show _ ∨ _; omega))) (h : SL w lo hi v ws := by repeat (first | assumption | exact Go.Gw.Own.sl (by assumption) | exact Go.Gw.Box.at (by assumption) | exact Go.Gw.SLL.el (by first | assumption | exact Go.Gw.OwnD.sll (by assumption)) _ (by omega) | exact Go.Gw.SLL.at (by first | assumption | exact Go.Gw.OwnD.sll (by assumption)) (by omega) | exact Go.Gw.OwnD.sll (by assumption) | (apply Go.Gw.SL.chg; case hx => assumption) | (apply Go.Gw.Own.chg; case hx => assumption) | (apply Go.Gw.Box.chg; case hx => assumption) | (apply Go.Gw.At.chg; case hx => assumption) | exact .inl (Nat.zero_le _) | exact .inr (Nat.zero_le _) | (show _ ∨ _; omega))) (h' : SL w lo' hi' v' F := by repeat (first | assumption | exact Go.Gw.Own.sl (by assumption) | exact Go.Gw.Box.at (by assumption) | exact Go.Gw.SLL.el (by first | assumption | exact Go.Gw.OwnD.sll (by assumption)) _ (by omega) | exact Go.Gw.SLL.at (by first | assumption | exact Go.Gw.OwnD.sll (by assumption)) (by omega) | exact Go.Gw.OwnD.sll (by assumption) | (apply Go.Gw.SL.chg; case hx => assumption) | (apply Go.Gw.Own.chg; case hx => assumption) | (apply Go.Gw.Box.chg; case hx => assumption) | (apply Go.Gw.At.chg; case hx => assumption) | exact .inl (Nat.zero_le _) | exact .inr (Nat.zero_le _) | (show _ ∨ _; omega))) (he : 0 ≤ e ∧ e ≤ F.length ∧ F.length ≤ 100 := by omega) (hk : 0 ≤ k ∧ k < ws.length := by omega) (hA : 0 ≤ (ws.getD k.toNat (0, 0)).1 ∧ (ws.getD k.toNat (0, 0)).1 < F.length := by omega) :
    Val Try.prog 102 [.int .i64 k, ptr b 0, ptr b1 0] w (.bool (decide (2 ≤ ((exitsF F e.toNat (ws.getD k.toNat (0, 0)).1.toNat).length : Int)))) := by
  refine ⟨fun w0 hx0 => ?_⟩
  have E : Since 0 0 w0 w0 := Since.refl 0 0 w0
  refine ret_enter Try.func102 rfl Try.ntmps102 rfl ?_
  focus
    have ht_h := h.top
    have ht_h' := h'.top
    have hz_hx0 := hx0.size
    replace hp1 := hp1.ext hx0
    replace hp2 := hp2.ext hx0
    replace h := h.ext hx0
    replace h' := h'.ext hx0
    refine c_seq ?_
    refine c_region ?_
    refine w_box1 rfl (k := fun b3 w3 hb3 hx3 hl3 hs3 => ?_)
    have hz_hx3 := hx3.size
    replace E := E.trans hx3
    replace hp1 := hp1.ext hx3
    replace hp2 := hp2.ext hx3
    replace h := h.ext hx3
    replace h' := h'.ext hx3
    refine w_pure (y_assign rfl) rfl ?_
    refine w_nil ?_
    refine x_next ?_
    refine c_seq ?_
    refine c_region ?_
    refine w_pure (y_field rfl) rfl ?_
    refine w_pure (y_loadk rfl) rfl ?_
    refine w_pure (y_func rfl) rfl ?_
    (refine w_call rfl rfl rfl (columnsWhere_c (first := []) (cap := [ptr b1 0, ptr b 0, ptr b3 0]) (p := fun x => decide (F.getD x.toNat 0 = F.getD (ws.getD k.toNat (0, 0)).1.toNat 0)) (hp := fun x h0 h1 => FewestCuts11_c x k)) rfl ?_; rintro v9 w9 ⟨hp1_9, hx9⟩)
    have hl_hp1_9 := hp1_9.lt
    have hz_hx9 := hx9.size
    replace hb3 := hb3.ext hx9
    replace E := E.trans hx9
    replace hp1 := hp1.ext hx9
    replace hp2 := hp2.ext hx9
    replace h := h.ext hx9
    replace h' := h'.ext hx9
    refine w_pure (y_assign rfl) rfl ?_
    refine w_nil ?_
    refine x_next ?_
    refine c_seq ?_
    refine c_region ?_
    refine w_pure (y_move rfl) rfl ?_
    refine w_pure (y_len rfl) rfl ?_
    refine w_pure (y_ge rfl rfl) rfl ?_
    refine w_pure (y_assign rfl) rfl ?_
    refine w_nil ?_
    refine x_next ?_
    refine c_ret ?_
    rotate_left
  exact x_retv [_] rfl ⟨rfl, trivial⟩ ⟨rfl, E.go⟩
end
end Go.Proofs.Ythigkbkaeopipaa

/- Contracts: numbers that the laws draw for products; components and halves, whatever is asked. -/
import Derived.Test.YtgkljfncpgbngaaDoorProP
import Derived.Test.YtgkljfncpgbngaaDoorSrcA
import Derived.Test.YtgkljfncpgbngaaDoorOpB
namespace Go.Proofs.YtgkljfncpgbngaaDoor
open Go Go.Gw
set_option linter.unusedVariables false
set_option linter.unusedSimpArgs false
theorem mem_get {xs : List Int} {i : Nat} (h : i < xs.length) : xs.getD i 0 ∈ xs := by rw [List.getD_eq_getElem?_getD, List.getElem?_eq_getElem h]; exact List.getElem_mem h
theorem parts_pos {d : Int} (hd : 0 ≤ d) : ∀ (k : Nat) (n r l p : Int), n.toNat ≤ k → 0 ≤ r → 0 ≤ l → 0 < p → 0 ≤ (partsF n d r l p).1 ∧ 0 ≤ (partsF n d r l p).2
  | 0, n, r, l, p, hk, hr, hl, hp => by rw [partsF_end (by omega)]; exact ⟨hr, hl⟩
  | k + 1, n, r, l, p, hk, hr, hl, hp => by
    by_cases h : 0 < n
    · rw [partsF_step h]
      have h2 : 0 ≤ n % 10 * d := Int.mul_nonneg (by omega) hd
      have h3 : 0 ≤ n % 10 * d % 10 * p := Int.mul_nonneg (by omega) (by omega)
      have h4 : 0 ≤ n % 10 * d / 10 * p := Int.mul_nonneg (by omega) (by omega)
      exact parts_pos hd k (n / 10) _ _ _ (by omega) (by omega) (by omega) (by omega)
    · rw [partsF_end h]; exact ⟨hr, hl⟩
def compR (n d : Int) : Int × Int × Int := if 0 ≤ n ∧ n ≤ 999999 ∧ 0 ≤ d ∧ d ≤ 9 then ((partsF n d 0 0 1).1, (partsF n d 0 0 1).2, 0) else (0, 0, 2)
theorem compR_ok {n d : Int} (h : (compR n d).2.2 = 0) : (0 ≤ n ∧ n ≤ 999999 ∧ 0 ≤ d ∧ d ≤ 9) ∧ (0 ≤ n * d ∧ n * d ≤ 8999991) ∧ 0 ≤ (compR n d).1 ∧ 0 ≤ (compR n d).2.1 ∧ (compR n d).1 + 10 * (compR n d).2.1 = n * d := by
  unfold compR at h ⊢
  split at h
  · rename_i g
    rw [if_pos g]
    have h1 := parts_pos g.2.2.1 n.toNat n 0 0 1 (Nat.le_refl _) (by omega) (by omega) (by omega)
    have h2 := mulB (a := n) (b := d) (A := 999999) (B := 9) (by omega) (by omega)
    exact ⟨g, by omega, h1.1, h1.2, parts_all g.1⟩
  · cases h
def hafR (n p : Int) : Int × Int := if -999999999999 ≤ n ∧ n ≤ 999999999999 ∧ 0 ≤ p ∧ p ≤ 12 then (halfV n (10 ^ p.toNat), 0) else (0, 2)
section
variable {w : World} {lo hi b l9 k9 : Nat} {B : Int} {v : Value} {p : List UInt8} {xs : List Int}
theorem iComponentsOf_z (n d : Int) : Pur Tryd.prog 10 [.int .i64 n, .int .i64 d] (.tuple #[.int .i64 (compR n d).1, .int .i64 (compR n d).2.1, .int .i64 (compR n d).2.2]) := by
  by_cases h : 0 ≤ n ∧ n ≤ 999999 ∧ 0 ≤ d ∧ d ≤ 9
  · unfold compR; rw [if_pos h]; exact iComponentsOf_yes n d h.1 h.2.1 h.2.2.1 h.2.2.2
  · unfold compR; rw [if_neg h]; exact iComponentsOf_no n d h
theorem sComponentsOf_z (n d : Int) : Pur Tryd.prog 11 [.int .i64 n, .int .i64 d] (.tuple #[.int .i64 (compR n d).1, .int .i64 (compR n d).2.1, .int .i64 (compR n d).2.2]) := by
  by_cases h : 0 ≤ n ∧ n ≤ 999999 ∧ 0 ≤ d ∧ d ≤ 9
  · unfold compR; rw [if_pos h]; exact sComponentsOf_yes n d h.1 h.2.1 h.2.2.1 h.2.2.2
  · unfold compR; rw [if_neg h]; exact sComponentsOf_no n d h
theorem iHalfAdjust_z (n q : Int) : Pur Tryd.prog 19 [.int .i64 n, .int .i64 q] (.tuple #[.int .i64 (hafR n q).1, .int .i64 (hafR n q).2]) := by
  by_cases h : -999999999999 ≤ n ∧ n ≤ 999999999999 ∧ 0 ≤ q ∧ q ≤ 12
  · unfold hafR; rw [if_pos h]; exact iHalfAdjust_yes n q h
  · unfold hafR; rw [if_neg h]; exact iHalfAdjust_no n q h
theorem sHalfAdjust_z (n q : Int) : Pur Tryd.prog 20 [.int .i64 n, .int .i64 q] (.tuple #[.int .i64 (hafR n q).1, .int .i64 (hafR n q).2]) := by
  by_cases h : -999999999999 ≤ n ∧ n ≤ 999999999999 ∧ 0 ≤ q ∧ q ≤ 12
  · unfold hafR; rw [if_pos h]; exact sHalfAdjust_yes n q h
  · unfold hafR; rw [if_neg h]; exact sHalfAdjust_no n q h
theorem srcFromP_z (h : SL w lo hi v p := by repeat (first | assumption | exact Go.Gw.Own.sl (by assumption) | exact Go.Gw.Box.at (by assumption) | exact Go.Gw.SLL.el (by first | assumption | exact Go.Gw.OwnD.sll (by assumption)) _ (by omega) | exact Go.Gw.SLL.at (by first | assumption | exact Go.Gw.OwnD.sll (by assumption)) (by omega) | exact Go.Gw.OwnD.sll (by assumption) | (apply Go.Gw.SL.chg; case hx => assumption) | (apply Go.Gw.Own.chg; case hx => assumption) | (apply Go.Gw.Box.chg; case hx => assumption) | (apply Go.Gw.At.chg; case hx => assumption) | exact .inl (Nat.zero_le _) | exact .inr (Nat.zero_le _) | (show _ ∨ _; omega))) : Ret Tryd.prog 53 [v] w fun u w' => ∃ c, u = ptr c 0 ∧ w.heap.size ≤ c ∧ Src w' lo hi c 0 ∧ c < w'.heap.size ∧ Ext w w' :=
  (srcFrom_c h).mono fun u w' ⟨c, h1, h2, h3, h4⟩ => ⟨c, h1, h2, h3, h3.top, h4⟩
theorem f6bigP_c (h : SL w lo hi v p := by repeat (first | assumption | exact Go.Gw.Own.sl (by assumption) | exact Go.Gw.Box.at (by assumption) | exact Go.Gw.SLL.el (by first | assumption | exact Go.Gw.OwnD.sll (by assumption)) _ (by omega) | exact Go.Gw.SLL.at (by first | assumption | exact Go.Gw.OwnD.sll (by assumption)) (by omega) | exact Go.Gw.OwnD.sll (by assumption) | (apply Go.Gw.SL.chg; case hx => assumption) | (apply Go.Gw.Own.chg; case hx => assumption) | (apply Go.Gw.Box.chg; case hx => assumption) | (apply Go.Gw.At.chg; case hx => assumption) | exact .inl (Nat.zero_le _) | exact .inr (Nat.zero_le _) | (show _ ∨ _; omega))) : Ret Tryd.prog 5 [v] w fun u w' => ∃ z, u = .bool z ∧ Ext w w' := by
  have E : Since 0 0 w w := Since.refl 0 0 w
  refine ret_enter Tryd.func5 rfl Tryd.ntmps5 rfl ?_
  focus
    have ht_h := h.top
    refine c_seq ?_
    refine c_region ?_
    refine w_pure (y_assign rfl) rfl ?_
    refine w_nil ?_
    refine x_next ?_
    refine c_seq ?_
    refine c_region ?_
    refine w_pure (y_move rfl) rfl ?_
    refine w_pure (y_len rfl) rfl ?_
    refine w_pure (y_gt rfl rfl) rfl ?_
    refine w_pure (y_assign rfl) rfl ?_
    refine w_nil ?_
    refine x_next ?_
    refine c_ret ?_
    rotate_left
  exact x_retv [_] rfl ⟨rfl, trivial⟩ ⟨_, rfl, E.go⟩
theorem srcAmongP_z (hs : SL w l9 k9 v xs := by repeat (first | assumption | exact Go.Gw.Own.sl (by assumption) | exact Go.Gw.Box.at (by assumption) | exact Go.Gw.SLL.el (by first | assumption | exact Go.Gw.OwnD.sll (by assumption)) _ (by omega) | exact Go.Gw.SLL.at (by first | assumption | exact Go.Gw.OwnD.sll (by assumption)) (by omega) | exact Go.Gw.OwnD.sll (by assumption) | (apply Go.Gw.SL.chg; case hx => assumption) | (apply Go.Gw.Own.chg; case hx => assumption) | (apply Go.Gw.Box.chg; case hx => assumption) | (apply Go.Gw.At.chg; case hx => assumption) | exact .inl (Nat.zero_le _) | exact .inr (Nat.zero_le _) | (show _ ∨ _; omega))) (h : Src w lo hi b B := by assumption) (hB : B ≤ 10000000000 := by omega) (hn : 1 ≤ xs.length ∧ xs.length ≤ 1000 := by first | omega | (simp only [List.length_cons, List.length_nil]; omega)) (hd : b < l9 ∨ k9 ≤ b := by omega) : Ret Tryd.prog 71 [ptr b 0, v] w fun u w' => ∃ x, u = .int .i64 x ∧ x ∈ xs ∧ Src w' lo hi b (B + 2) ∧ Chg b (b + 1) w w' := by
  have htop := h.top
  have E : Since b (b + 1) w w := Since.refl _ _ _
  refine ret_enter Tryd.func71 rfl Tryd.ntmps71 rfl ?_
  focus
    have ht_hs := hs.top
    have ht_h := h.top
    refine c_seq ?_
    refine c_region ?_
    refine w_pure (y_assign rfl) rfl ?_
    refine w_nil ?_
    refine x_next ?_
    refine c_seq ?_
    refine c_region ?_
    refine w_pure (y_move rfl) rfl ?_
    refine w_pure (y_move rfl) rfl ?_
    refine w_pure (y_move rfl) rfl ?_
    refine w_pure (y_len rfl) rfl ?_
    (refine w_call rfl rfl rfl (srcPick_z _) rfl ?_; rintro _ w9 ⟨x9, ⟨rfl, ⟨⟨hp1_9, hp2_9⟩, ⟨hp3_9, hx9⟩⟩⟩⟩)
    have hz_hx9 := hx9.size
    replace hs := hs.chg hx9 (by omega)
    replace E := E.trans hx9
    refine w_pure (y_index rfl rfl) rfl ?_
    refine w_pure (y_load_int rfl) rfl ?_
    refine w_pure (y_assign rfl) rfl ?_
    refine w_nil ?_
    refine x_next ?_
    refine c_ret ?_
    rotate_left
  exact x_retv [_] rfl ⟨rfl, trivial⟩ ⟨_, rfl, mem_get (by omega), hp3_9, E.go⟩
theorem l14DrawFactor_c (h : Src w lo hi b B := by assumption) (hB : B ≤ 1000000000 := by omega) : Ret Tryd.prog 54 [ptr b 0] w fun u w' => ∃ n, u = .int .i64 n ∧ (-9223372036854775808 ≤ n ∧ n ≤ 1000000) ∧ Src w' lo hi b (B + 20) ∧ Chg b (b + 1) w w' := by
  have htop := h.top
  have E : Since b (b + 1) w w := Since.refl _ _ _
  refine ret_enter Tryd.func54 rfl Tryd.ntmps54 rfl ?_
  focus
    have ht_h := h.top
    refine c_seq ?_
    refine c_region ?_
    refine w_pure (y_assign rfl) rfl ?_
    refine w_nil ?_
    refine x_next ?_
    refine c_seq ?_
    refine c_seq ?_
    refine c_region ?_
    refine w_pure (y_move rfl) rfl ?_
    (refine w_call rfl rfl rfl (srcOne_c _) rfl ?_; rintro _ w5 ⟨q5, ⟨rfl, ⟨hp1_5, hx5⟩⟩⟩)
    have hz_hx5 := hx5.size
    replace E := E.trans hx5
    refine w_nil ?_
    refine x_next ?_
    (refine c_if rfl (fun hc5 => ?_) (fun hc5 => ?_) <;> try (first | exact absurd rfl hc5 | contradiction | exact Bool.noConfusion (show false = true from hc5.symm.trans (by assumption)) | exact Bool.noConfusion (show true = false from hc5.symm.trans (by assumption)) | (exfalso; omega) | (exfalso; simp only [*, Bool.not_true, Bool.not_false, reduceCtorEq] at hc5; done)))
    refine c_seq ?_
    refine c_region ?_
    refine w_pure (y_move rfl) rfl ?_
    refine w_lit (α := Int) rfl rfl rfl rfl rfl rfl rfl rfl (fun v7 w7 ho7 hx7 hl7 hh7 hs7 => ?_)
    have hl_ho7 := ho7.lt
    have hz_hx7 := hx7.size
    replace hp1_5 := hp1_5.ext hx7
    replace E := E.next hx7 (by omega)
    (refine w_call rfl rfl rfl (srcAmongP_z) rfl ?_; rintro _ w8 ⟨x8, ⟨rfl, ⟨hp1_8, ⟨hp2_8, hx8⟩⟩⟩⟩)
    have hz_hx8 := hx8.size
    replace ho7 := ho7.chg hx8 (by omega)
    replace E := E.trans hx8
    refine w_pure (y_assign rfl) rfl ?_
    refine w_nil ?_
    refine x_next ?_
    refine c_ret ?_
    refine x_then_ret ?_
    rotate_left
    refine c_skip ?_
    refine x_next ?_
    refine c_seq ?_
    refine c_region ?_
    refine w_pure (y_move rfl) rfl ?_
    (refine w_call rfl rfl rfl (srcPick_z _) rfl ?_; rintro _ w10 ⟨x10, ⟨rfl, ⟨⟨hp1_10, hp2_10⟩, ⟨hp3_10, hx10⟩⟩⟩⟩)
    have hz_hx10 := hx10.size
    replace E := E.trans hx10
    refine w_pure (y_move rfl) rfl ?_
    (refine w_call rfl rfl rfl (srcPick_z _) rfl ?_; rintro _ w12 ⟨x12, ⟨rfl, ⟨⟨hp1_12, hp2_12⟩, ⟨hp3_12, hx12⟩⟩⟩⟩)
    have hz_hx12 := hx12.size
    replace E := E.trans hx12
    refine w_pure (y_move rfl) rfl ?_
    (refine w_call rfl rfl rfl (srcPick_z _) rfl ?_; rintro _ w14 ⟨x14, ⟨rfl, ⟨⟨hp1_14, hp2_14⟩, ⟨hp3_14, hx14⟩⟩⟩⟩)
    have hz_hx14 := hx14.size
    replace E := E.trans hx14
    refine w_pure (y_mul (a := x12) (b := x14) rfl rfl (by have h1 := mulB (a := x12) (b := x14) (A := 1) (B := 99) (by omega) (by omega); exact ⟨by omega, by omega⟩)) rfl ?_
    refine w_pure (y_add (a := 1) (b := x12 * x14) rfl rfl (by have h1 := mulB (a := x12) (b := x14) (A := 1) (B := 99) (by omega) (by omega); exact ⟨by omega, by omega⟩)) rfl ?_
    refine w_pure (y_mul (a := x10) (b := 1 + x12 * x14) rfl rfl (by have h1 := mulB (a := x12) (b := x14) (A := 1) (B := 99) (by omega) (by omega); have h2 := mulB (a := x10) (b := 1 + x12 * x14) (A := 999) (B := 100) (by omega) (by omega); exact ⟨by omega, by omega⟩)) rfl ?_
    refine w_pure (y_assign rfl) rfl ?_
    refine w_nil ?_
    refine x_next ?_
    refine c_seq ?_
    refine c_seq ?_
    refine c_region ?_
    refine w_pure (y_move rfl) rfl ?_
    (refine w_call rfl rfl rfl (srcOne_c _) rfl ?_; rintro _ w19 ⟨q19, ⟨rfl, ⟨hp1_19, hx19⟩⟩⟩)
    have hz_hx19 := hx19.size
    replace E := E.trans hx19
    refine w_nil ?_
    refine x_next ?_
    (refine c_if rfl (fun hc19 => ?_) (fun hc19 => ?_) <;> try (first | exact absurd rfl hc19 | contradiction | exact Bool.noConfusion (show false = true from hc19.symm.trans (by assumption)) | exact Bool.noConfusion (show true = false from hc19.symm.trans (by assumption)) | (exfalso; omega) | (exfalso; simp only [*, Bool.not_true, Bool.not_false, reduceCtorEq] at hc19; done)))
    refine c_seq ?_
    refine c_region ?_
    refine w_pure (y_move rfl) rfl ?_
    refine w_pure (y_neg (a := x10 * (1 + x12 * x14)) rfl (by have h1 := mulB (a := x12) (b := x14) (A := 1) (B := 99) (by omega) (by omega); have h2 := mulB (a := x10) (b := 1 + x12 * x14) (A := 999) (B := 100) (by omega) (by omega); exact ⟨by omega, by omega⟩)) rfl ?_
    refine w_pure (y_assign rfl) rfl ?_
    refine w_nil ?_
    refine x_next ?_
    refine c_ret ?_
    refine x_then_ret ?_
    rotate_left
    refine c_skip ?_
    refine x_next ?_
    refine c_seq ?_
    refine c_region ?_
    refine w_pure (y_move rfl) rfl ?_
    refine w_pure (y_assign rfl) rfl ?_
    refine w_nil ?_
    refine x_next ?_
    refine c_ret ?_
    rotate_left
  · simp only [List.mem_cons, List.not_mem_nil, or_false] at hp1_8
    exact x_retv [_] rfl ⟨rfl, trivial⟩ ⟨_, rfl, by omega, hp2_8.more (by omega), E.go⟩
  all_goals have h1 := mulB (a := x12) (b := x14) (A := 1) (B := 99) (by omega) (by omega)
  all_goals have h2 := mulB (a := x10) (b := 1 + x12 * x14) (A := 999) (B := 100) (by omega) (by omega)
  all_goals exact x_retv [_] rfl ⟨rfl, trivial⟩ ⟨_, rfl, by omega, (by assumption : Src _ lo hi b _).more (by omega), E.go⟩
theorem l14DrawNumber_c (h : Src w lo hi b B := by assumption) (hB : B ≤ 1000000000 := by omega) : Ret Tryd.prog 65 [ptr b 0] w fun u w' => ∃ n, u = .int .i64 n ∧ (-9223372036854775808 ≤ n ∧ n ≤ 1000000000000) ∧ Src w' lo hi b (B + 20) ∧ Chg b (b + 1) w w' := by
  have htop := h.top
  have E : Since b (b + 1) w w := Since.refl _ _ _
  refine ret_enter Tryd.func65 rfl Tryd.ntmps65 rfl ?_
  focus
    have ht_h := h.top
    refine c_seq ?_
    refine c_region ?_
    refine w_pure (y_assign rfl) rfl ?_
    refine w_nil ?_
    refine x_next ?_
    refine c_seq ?_
    refine c_seq ?_
    refine c_region ?_
    refine w_pure (y_move rfl) rfl ?_
    (refine w_call rfl rfl rfl (srcOne_c _) rfl ?_; rintro _ w5 ⟨q5, ⟨rfl, ⟨hp1_5, hx5⟩⟩⟩)
    have hz_hx5 := hx5.size
    replace E := E.trans hx5
    refine w_nil ?_
    refine x_next ?_
    (refine c_if rfl (fun hc5 => ?_) (fun hc5 => ?_) <;> try (first | exact absurd rfl hc5 | contradiction | exact Bool.noConfusion (show false = true from hc5.symm.trans (by assumption)) | exact Bool.noConfusion (show true = false from hc5.symm.trans (by assumption)) | (exfalso; omega) | (exfalso; simp only [*, Bool.not_true, Bool.not_false, reduceCtorEq] at hc5; done)))
    refine c_seq ?_
    refine c_region ?_
    refine w_pure (y_move rfl) rfl ?_
    refine w_lit (α := Int) rfl rfl rfl rfl rfl rfl rfl rfl (fun v7 w7 ho7 hx7 hl7 hh7 hs7 => ?_)
    have hl_ho7 := ho7.lt
    have hz_hx7 := hx7.size
    replace hp1_5 := hp1_5.ext hx7
    replace E := E.next hx7 (by omega)
    (refine w_call rfl rfl rfl (srcAmongP_z) rfl ?_; rintro _ w8 ⟨x8, ⟨rfl, ⟨hp1_8, ⟨hp2_8, hx8⟩⟩⟩⟩)
    have hz_hx8 := hx8.size
    replace ho7 := ho7.chg hx8 (by omega)
    replace E := E.trans hx8
    refine w_pure (y_assign rfl) rfl ?_
    refine w_nil ?_
    refine x_next ?_
    refine c_ret ?_
    refine x_then_ret ?_
    rotate_left
    refine c_skip ?_
    refine x_next ?_
    refine c_seq ?_
    refine c_region ?_
    refine w_pure (y_move rfl) rfl ?_
    (refine w_call rfl rfl rfl (srcPick_z _) rfl ?_; rintro _ w10 ⟨x10, ⟨rfl, ⟨⟨hp1_10, hp2_10⟩, ⟨hp3_10, hx10⟩⟩⟩⟩)
    have hz_hx10 := hx10.size
    replace E := E.trans hx10
    refine w_pure (y_move rfl) rfl ?_
    (refine w_call rfl rfl rfl (srcPick_z _) rfl ?_; rintro _ w12 ⟨x12, ⟨rfl, ⟨⟨hp1_12, hp2_12⟩, ⟨hp3_12, hx12⟩⟩⟩⟩)
    have hz_hx12 := hx12.size
    replace E := E.trans hx12
    refine w_pure (y_move rfl) rfl ?_
    (refine w_call rfl rfl rfl (srcPick_z _) rfl ?_; rintro _ w14 ⟨x14, ⟨rfl, ⟨⟨hp1_14, hp2_14⟩, ⟨hp3_14, hx14⟩⟩⟩⟩)
    have hz_hx14 := hx14.size
    replace E := E.trans hx14
    refine w_pure (y_mul (a := x12) (b := x14) rfl rfl (by have h1 := mulB (a := x12) (b := x14) (A := 1) (B := 9999) (by omega) (by omega); exact ⟨by omega, by omega⟩)) rfl ?_
    refine w_pure (y_add (a := 1) (b := x12 * x14) rfl rfl (by have h1 := mulB (a := x12) (b := x14) (A := 1) (B := 9999) (by omega) (by omega); exact ⟨by omega, by omega⟩)) rfl ?_
    refine w_pure (y_mul (a := x10) (b := 1 + x12 * x14) rfl rfl (by have h1 := mulB (a := x12) (b := x14) (A := 1) (B := 9999) (by omega) (by omega); have h2 := mulB (a := x10) (b := 1 + x12 * x14) (A := 9999) (B := 10000) (by omega) (by omega); exact ⟨by omega, by omega⟩)) rfl ?_
    refine w_pure (y_assign rfl) rfl ?_
    refine w_nil ?_
    refine x_next ?_
    refine c_seq ?_
    refine c_seq ?_
    refine c_region ?_
    refine w_pure (y_move rfl) rfl ?_
    (refine w_call rfl rfl rfl (srcOne_c _) rfl ?_; rintro _ w19 ⟨q19, ⟨rfl, ⟨hp1_19, hx19⟩⟩⟩)
    have hz_hx19 := hx19.size
    replace E := E.trans hx19
    refine w_nil ?_
    refine x_next ?_
    (refine c_if rfl (fun hc19 => ?_) (fun hc19 => ?_) <;> try (first | exact absurd rfl hc19 | contradiction | exact Bool.noConfusion (show false = true from hc19.symm.trans (by assumption)) | exact Bool.noConfusion (show true = false from hc19.symm.trans (by assumption)) | (exfalso; omega) | (exfalso; simp only [*, Bool.not_true, Bool.not_false, reduceCtorEq] at hc19; done)))
    refine c_seq ?_
    refine c_region ?_
    refine w_pure (y_move rfl) rfl ?_
    refine w_pure (y_neg (a := x10 * (1 + x12 * x14)) rfl (by have h1 := mulB (a := x12) (b := x14) (A := 1) (B := 9999) (by omega) (by omega); have h2 := mulB (a := x10) (b := 1 + x12 * x14) (A := 9999) (B := 10000) (by omega) (by omega); exact ⟨by omega, by omega⟩)) rfl ?_
    refine w_pure (y_assign rfl) rfl ?_
    refine w_nil ?_
    refine x_next ?_
    refine c_ret ?_
    refine x_then_ret ?_
    rotate_left
    refine c_skip ?_
    refine x_next ?_
    refine c_seq ?_
    refine c_region ?_
    refine w_pure (y_move rfl) rfl ?_
    refine w_pure (y_assign rfl) rfl ?_
    refine w_nil ?_
    refine x_next ?_
    refine c_ret ?_
    rotate_left
  · simp only [List.mem_cons, List.not_mem_nil, or_false] at hp1_8
    exact x_retv [_] rfl ⟨rfl, trivial⟩ ⟨_, rfl, by omega, hp2_8.more (by omega), E.go⟩
  all_goals have h1 := mulB (a := x12) (b := x14) (A := 1) (B := 9999) (by omega) (by omega)
  all_goals have h2 := mulB (a := x10) (b := 1 + x12 * x14) (A := 9999) (B := 10000) (by omega) (by omega)
  all_goals exact x_retv [_] rfl ⟨rfl, trivial⟩ ⟨_, rfl, by omega, (by assumption : Src _ lo hi b _).more (by omega), E.go⟩
theorem l14DrawKind_c (h : Src w lo hi b B := by assumption) (hB : B ≤ 1000000000 := by omega) : Ret Tryd.prog 74 [ptr b 0] w fun u w' => ∃ n, u = .int .i64 n ∧ (-1 ≤ n ∧ n ≤ 5) ∧ Src w' lo hi b (B + 20) ∧ Chg b (b + 1) w w' := by
  have htop := h.top
  have E : Since b (b + 1) w w := Since.refl _ _ _
  refine ret_enter Tryd.func74 rfl Tryd.ntmps74 rfl ?_
  focus
    have ht_h := h.top
    refine c_seq ?_
    refine c_region ?_
    refine w_pure (y_assign rfl) rfl ?_
    refine w_nil ?_
    refine x_next ?_
    refine c_seq ?_
    refine c_seq ?_
    refine c_region ?_
    refine w_pure (y_move rfl) rfl ?_
    (refine w_call rfl rfl rfl (srcOne_c _) rfl ?_; rintro _ w4 ⟨q4, ⟨rfl, ⟨hp1_4, hx4⟩⟩⟩)
    have hz_hx4 := hx4.size
    replace E := E.trans hx4
    refine w_nil ?_
    refine x_next ?_
    (refine c_if rfl (fun hc4 => ?_) (fun hc4 => ?_) <;> try (first | exact absurd rfl hc4 | contradiction | exact Bool.noConfusion (show false = true from hc4.symm.trans (by assumption)) | exact Bool.noConfusion (show true = false from hc4.symm.trans (by assumption)) | (exfalso; omega) | (exfalso; simp only [*, Bool.not_true, Bool.not_false, reduceCtorEq] at hc4; done)))
    refine c_seq ?_
    refine c_region ?_
    refine w_pure (y_move rfl) rfl ?_
    refine w_lit (α := Int) rfl rfl rfl rfl rfl rfl rfl rfl (fun v6 w6 ho6 hx6 hl6 hh6 hs6 => ?_)
    have hl_ho6 := ho6.lt
    have hz_hx6 := hx6.size
    replace hp1_4 := hp1_4.ext hx6
    replace E := E.next hx6 (by omega)
    (refine w_call rfl rfl rfl (srcAmongP_z) rfl ?_; rintro _ w7 ⟨x7, ⟨rfl, ⟨hp1_7, ⟨hp2_7, hx7⟩⟩⟩⟩)
    have hz_hx7 := hx7.size
    replace ho6 := ho6.chg hx7 (by omega)
    replace E := E.trans hx7
    refine w_pure (y_assign rfl) rfl ?_
    refine w_nil ?_
    refine x_next ?_
    refine c_ret ?_
    refine x_then_ret ?_
    rotate_left
    refine c_skip ?_
    refine x_next ?_
    refine c_seq ?_
    refine c_region ?_
    refine w_pure (y_move rfl) rfl ?_
    (refine w_call rfl rfl rfl (srcPick_z _) rfl ?_; rintro _ w9 ⟨x9, ⟨rfl, ⟨⟨hp1_9, hp2_9⟩, ⟨hp3_9, hx9⟩⟩⟩⟩)
    have hz_hx9 := hx9.size
    replace E := E.trans hx9
    refine w_pure (y_add rfl rfl) rfl ?_
    refine w_pure (y_assign rfl) rfl ?_
    refine w_nil ?_
    refine x_next ?_
    refine c_ret ?_
    rotate_left
  · simp only [List.mem_cons, List.not_mem_nil, or_false] at hp1_7
    exact x_retv [_] rfl ⟨rfl, trivial⟩ ⟨_, rfl, by omega, hp2_7.more (by omega), E.go⟩
  · exact x_retv [_] rfl ⟨rfl, trivial⟩ ⟨_, rfl, by omega, hp3_9.more (by omega), E.go⟩
end
end Go.Proofs.YtgkljfncpgbngaaDoor

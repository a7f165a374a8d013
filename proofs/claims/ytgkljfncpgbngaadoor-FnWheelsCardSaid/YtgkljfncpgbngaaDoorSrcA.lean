/- Contracts: choices read from bytes. -/
import Derived.Test.YtgkljfncpgbngaaDoorCntB
import Derived.Test.YtgkljfncpgbngaaDoorL22
namespace Go.Proofs.YtgkljfncpgbngaaDoor
open Go Go.Gw
set_option linter.unusedVariables false
set_option linter.unusedSimpArgs false
/-- a source of choices in block b, at most B bytes on -/
structure Src (w : World) (lo hi b : Nat) (B : Int) : Prop where
  go : ∃ v xs a s, Box w b [v, .int .i64 a, .int .u64 s] ∧ SL (α := UInt8) w lo hi v xs ∧ (0 ≤ a ∧ a ≤ B) ∧ (0 ≤ s ∧ s < 18446744073709551616)
  out : b < lo ∨ hi ≤ b
  top : b < w.heap.size
theorem Src.chg {w w' : World} {lo hi b l k : Nat} {B : Int} (h : Src w lo hi b B) (hx : Chg l k w w') (ho : (k ≤ lo ∨ hi ≤ l) ∧ (b < l ∨ k ≤ b)) : Src w' lo hi b B := by
  obtain ⟨v, xs, a, s, h1, h2, h3, h4⟩ := h.go
  exact ⟨⟨v, xs, a, s, h1.chg hx ho.2, h2.chg hx ho.1, h3, h4⟩, h.out, Nat.lt_of_lt_of_le h.top hx.size⟩
theorem Src.ext {w w' : World} {lo hi b : Nat} {B : Int} (h : Src w lo hi b B) (hx : Ext w w') : Src w' lo hi b B := h.chg hx ⟨.inl (Nat.zero_le _), .inr (Nat.zero_le _)⟩
theorem Src.lim {w : World} {lo hi b : Nat} {B : Int} (h : Src w lo hi b B) : hi ≤ w.heap.size := by
  obtain ⟨v, xs, a, s, h1, h2, h3, h4⟩ := h.go
  exact h2.top
theorem Src.more {w : World} {lo hi b : Nat} {B C : Int} (h : Src w lo hi b B) (hc : B ≤ C) : Src w lo hi b C := by
  obtain ⟨v, xs, a, s, h1, h2, h3, h4⟩ := h.go
  exact ⟨⟨v, xs, a, s, h1, h2, ⟨h3.1, by omega⟩, h4⟩, h.out, h.top⟩
section
variable {w : World} {lo hi b : Nat} {B : Int}
theorem srcNext_c (h : Src w lo hi b B := by assumption) (hB : B ≤ 1000000000000 := by omega) : Ret Tryd.prog 102 [ptr b 0] w fun u w' => ∃ x, u = .int .i64 x ∧ (0 ≤ x ∧ x ≤ 255) ∧ Src w' lo hi b (B + 1) ∧ Chg b (b + 1) w w' := by
  obtain ⟨v, xs, a, s, h1, h2, h3, h4⟩ := h.go
  have hout := h.out
  have htop := h.top
  clear h
  have hsm := h2.small
  have hby := (xs.getD a.toNat 0).toNat_lt
  have hwr := wrap_u64 (IntKind.u64.wrap (IntKind.u64.wrap (s * 6364136223846793005) + 0) + 1442695040888963407)
  have E : Since b (b + 1) w w := Since.refl _ _ _
  refine ret_enter Tryd.func102 rfl Tryd.ntmps102 rfl ?_
  focus
    have ht_h2 := h2.top
    refine c_seq ?_
    refine c_region ?_
    refine w_pure (y_assign rfl) rfl ?_
    refine w_nil ?_
    refine x_next ?_
    refine c_seq ?_
    refine c_region ?_
    refine w_pure (y_assign rfl) rfl ?_
    refine w_nil ?_
    refine x_next ?_
    refine c_seq ?_
    refine c_seq ?_
    refine c_region_base mixed (fun wr2 hxr2 hzr2 EBr2 => ?_)
    have hz_hxr2 := hxr2.size
    replace h1 := h1.ext hxr2
    replace h2 := h2.ext hxr2
    replace E := E.next hxr2 (by omega)
    refine b_pure rfl (y_move rfl) rfl ?_
    refine b_pure rfl (y_nil rfl) rfl ?_
    refine b_pure rfl (y_field rfl) rfl ?_
    refine b_pure rfl (y_load_box rfl) rfl ?_
    refine b_pure rfl (y_move rfl) rfl ?_
    refine b_pure rfl (y_nil rfl) rfl ?_
    refine b_pure rfl (y_field rfl) rfl ?_
    refine b_pure rfl (y_load_box rfl) rfl ?_
    refine b_pure rfl (y_len rfl) rfl ?_
    refine b_pure rfl (y_lt rfl rfl) rfl ?_
    refine b_nil ?_
    refine x_next ?_
    (refine c_dec rfl (fun hc13 => ?_) (fun hc13 => ?_) <;> try (first | exact absurd rfl hc13 | contradiction | exact Bool.noConfusion (show false = true from hc13.symm.trans (by assumption)) | exact Bool.noConfusion (show true = false from hc13.symm.trans (by assumption)) | (exfalso; omega) | (exfalso; simp only [*, Bool.not_true, Bool.not_false, reduceCtorEq] at hc13; done)))
    refine c_region_base mixed (fun wr3 hxr3 hzr3 EBr3 => ?_)
    have hz_hxr3 := hxr3.size
    replace EBr2 := EBr2.trans hxr3
    replace h1 := h1.ext hxr3
    replace h2 := h2.ext hxr3
    replace E := E.next hxr3 (by omega)
    refine b_pure rfl (y_move rfl) rfl ?_
    refine b_pure rfl (y_nil rfl) rfl ?_
    refine b_pure rfl (y_field rfl) rfl ?_
    refine b_pure rfl (y_load_box rfl) rfl ?_
    refine b_pure rfl (y_move rfl) rfl ?_
    refine b_pure rfl (y_nil rfl) rfl ?_
    refine b_pure rfl (y_field rfl) rfl ?_
    refine b_pure rfl (y_load_box rfl) rfl ?_
    refine b_pure rfl (y_index rfl rfl) rfl ?_
    refine b_pure rfl (y_load_u8 rfl) rfl ?_
    refine b_pure rfl (y_conv64 rfl) rfl ?_
    refine b_pure rfl (y_assign rfl) rfl ?_
    refine b_nil ?_
    refine x_next ?_
    refine c_seq ?_
    refine c_region ?_
    refine w_pure (y_move rfl) rfl ?_
    refine w_pure (y_nil rfl) rfl ?_
    refine w_pure (y_field rfl) rfl ?_
    refine w_pure (y_load_box rfl) rfl ?_
    refine w_pure (y_add rfl rfl) rfl ?_
    refine w_pure (y_nil rfl) rfl ?_
    refine w_pure (y_field rfl) rfl ?_
    refine w_store_box rfl rfl (next := fun ws51 hbs51 hxs51 hss51 => ?_)
    (replace h1 := hbs51; clear hbs51)
    have hz_hxs51 := hxs51.size
    replace h2 := h2.chg hxs51 (by omega)
    replace E := E.trans hxs51
    refine w_nil ?_
    refine x_next ?_
    refine c_seq ?_
    refine c_region ?_
    refine w_pure (y_move rfl) rfl ?_
    refine w_pure (y_move rfl) rfl ?_
    refine w_pure (y_nil rfl) rfl ?_
    refine w_pure (y_field rfl) rfl ?_
    refine w_pure (y_load_box rfl) rfl ?_
    refine w_pure (y_mul_wrap (k := .u64) rfl rfl) rfl ?_
    refine w_pure (y_move rfl) rfl ?_
    refine w_pure (y_convu rfl (by omega)) rfl ?_
    refine w_pure (y_add_wrap (k := .u64) rfl rfl) rfl ?_
    refine w_pure (y_add_wrap (k := .u64) rfl rfl) rfl ?_
    refine w_pure (y_nil rfl) rfl ?_
    refine w_pure (y_field rfl) rfl ?_
    refine w_store_box rfl rfl (next := fun ws68 hbs68 hxs68 hss68 => ?_)
    (replace h1 := hbs68; clear hbs68)
    have hz_hxs68 := hxs68.size
    replace h2 := h2.chg hxs68 (by omega)
    replace E := E.trans hxs68
    refine w_nil ?_
    refine x_next ?_
    refine c_seq ?_
    refine c_seq ?_
    refine c_region_base mixed (fun wr6 hxr6 hzr6 EBr6 => ?_)
    have hz_hxr6 := hxr6.size
    replace h1 := h1.ext hxr6
    replace h2 := h2.ext hxr6
    replace E := E.next hxr6 (by omega)
    refine b_pure rfl (y_move rfl) rfl ?_
    refine b_pure rfl (y_nil rfl) rfl ?_
    refine b_pure rfl (y_field rfl) rfl ?_
    refine b_pure rfl (y_load_box rfl) rfl ?_
    refine b_pure rfl (y_move rfl) rfl ?_
    refine b_pure rfl (y_nil rfl) rfl ?_
    refine b_pure rfl (y_field rfl) rfl ?_
    refine b_pure rfl (y_load_box rfl) rfl ?_
    refine b_pure rfl (y_len rfl) rfl ?_
    refine b_pure rfl (y_le rfl rfl) rfl ?_
    refine b_nil ?_
    refine x_next ?_
    (refine c_dec rfl (fun hc53 => ?_) (fun hc53 => ?_) <;> try (first | exact absurd rfl hc53 | contradiction | exact Bool.noConfusion (show false = true from hc53.symm.trans (by assumption)) | exact Bool.noConfusion (show true = false from hc53.symm.trans (by assumption)) | (exfalso; omega) | (exfalso; simp only [*, Bool.not_true, Bool.not_false, reduceCtorEq] at hc53; done)))
    refine c_seq ?_
    refine c_region ?_
    refine w_pure (y_move rfl) rfl ?_
    refine w_pure (y_assign rfl) rfl ?_
    refine w_nil ?_
    refine x_next ?_
    refine c_ret ?_
    refine x_then_ret ?_
    rotate_left
    refine c_skip ?_
    refine x_next ?_
    refine c_seq ?_
    refine c_region ?_
    refine w_pure (y_move rfl) rfl ?_
    refine w_pure (y_nil rfl) rfl ?_
    refine w_pure (y_field rfl) rfl ?_
    refine w_pure (y_load_box rfl) rfl ?_
    refine w_pure (y_add rfl rfl) rfl ?_
    refine w_pure (y_nil rfl) rfl ?_
    refine w_pure (y_field rfl) rfl ?_
    refine w_store_box rfl rfl (next := fun ws107 hbs107 hxs107 hss107 => ?_)
    (replace h1 := hbs107; clear hbs107)
    have hz_hxs107 := hxs107.size
    replace h2 := h2.chg hxs107 (by omega)
    replace E := E.trans hxs107
    refine w_nil ?_
    refine x_next ?_
    refine c_seq ?_
    refine c_region ?_
    refine w_pure (y_move rfl) rfl ?_
    refine w_pure (y_move rfl) rfl ?_
    refine w_pure (y_nil rfl) rfl ?_
    refine w_pure (y_field rfl) rfl ?_
    refine w_pure (y_load_box rfl) rfl ?_
    refine w_pure (y_mul_wrap (k := .u64) rfl rfl) rfl ?_
    refine w_pure (y_move rfl) rfl ?_
    refine w_pure (y_convu rfl (by omega)) rfl ?_
    refine w_pure (y_add_wrap (k := .u64) rfl rfl) rfl ?_
    refine w_pure (y_add_wrap (k := .u64) rfl rfl) rfl ?_
    refine w_pure (y_nil rfl) rfl ?_
    refine w_pure (y_field rfl) rfl ?_
    refine w_store_box rfl rfl (next := fun ws124 hbs124 hxs124 hss124 => ?_)
    (replace h1 := hbs124; clear hbs124)
    have hz_hxs124 := hxs124.size
    replace h2 := h2.chg hxs124 (by omega)
    replace E := E.trans hxs124
    refine w_nil ?_
    refine x_next ?_
    refine c_seq ?_
    refine c_seq ?_
    refine c_region_base mixed (fun wr6 hxr6 hzr6 EBr6 => ?_)
    have hz_hxr6 := hxr6.size
    replace h1 := h1.ext hxr6
    replace h2 := h2.ext hxr6
    replace E := E.next hxr6 (by omega)
    refine b_pure rfl (y_move rfl) rfl ?_
    refine b_pure rfl (y_nil rfl) rfl ?_
    refine b_pure rfl (y_field rfl) rfl ?_
    refine b_pure rfl (y_load_box rfl) rfl ?_
    refine b_pure rfl (y_move rfl) rfl ?_
    refine b_pure rfl (y_nil rfl) rfl ?_
    refine b_pure rfl (y_field rfl) rfl ?_
    refine b_pure rfl (y_load_box rfl) rfl ?_
    refine b_pure rfl (y_len rfl) rfl ?_
    refine b_pure rfl (y_le rfl rfl) rfl ?_
    refine b_nil ?_
    refine x_next ?_
    (refine c_dec rfl (fun hc53 => ?_) (fun hc53 => ?_) <;> try (first | exact absurd rfl hc53 | contradiction | exact Bool.noConfusion (show false = true from hc53.symm.trans (by assumption)) | exact Bool.noConfusion (show true = false from hc53.symm.trans (by assumption)) | (exfalso; omega) | (exfalso; simp only [*, Bool.not_true, Bool.not_false, reduceCtorEq] at hc53; done)))
    refine c_skip ?_
    refine x_next ?_
    refine c_seq ?_
    refine c_region ?_
    refine w_pure (y_move rfl) rfl ?_
    refine w_pure (y_nil rfl) rfl ?_
    refine w_pure (y_field rfl) rfl ?_
    refine w_pure (y_load_box rfl) rfl ?_
    refine w_pure (y_shr40 rfl rfl) rfl ?_
    refine w_pure (y_and255 rfl rfl (by omega)) rfl ?_
    refine w_pure (y_conv64 rfl (by have := andI_le (a := (IntKind.u64.wrap (IntKind.u64.wrap (IntKind.u64.wrap (s * 6364136223846793005) + 0) + 1442695040888963407)) / 1099511627776) (b := 255) (by decide); exact ⟨by omega, by omega⟩)) rfl ?_
    refine w_pure (y_assign rfl) rfl ?_
    refine w_nil ?_
    refine x_next ?_
    refine c_ret ?_
    rotate_left
  · exact x_retv [_] rfl ⟨rfl, trivial⟩ ⟨_, rfl, by omega, ⟨⟨v, xs, _, _, h1, h2, by omega, wrap_u64 _⟩, hout, Nat.lt_of_lt_of_le htop E.go.size⟩, E.go⟩
  · have hx := andI_le (a := (IntKind.u64.wrap (IntKind.u64.wrap (IntKind.u64.wrap (s * 6364136223846793005) + 0) + 1442695040888963407)) / 1099511627776) (b := 255) (by decide)
    exact x_retv [_] rfl ⟨rfl, trivial⟩ ⟨_, rfl, hx, ⟨⟨v, xs, _, _, h1, h2, by omega, wrap_u64 _⟩, hout, Nat.lt_of_lt_of_le htop E.go.size⟩, E.go⟩
theorem srcPick_c (n : Int) (h : Src w lo hi b B := by assumption) (hB : B ≤ 100000000000 := by omega) (hn : n ≤ 1000000000000 := by omega) : Ret Tryd.prog 61 [ptr b 0, .int .i64 n] w fun u w' => ∃ x, u = .int .i64 x ∧ (0 ≤ x ∧ (x < n ∨ x = 0)) ∧ Src w' lo hi b (B + 2) ∧ Chg b (b + 1) w w' := by
  have hout := h.out
  have E : Since b (b + 1) w w := Since.refl _ _ _
  refine ret_enter Tryd.func61 rfl Tryd.ntmps61 rfl ?_
  focus
    have ht_h := h.top
    refine c_seq ?_
    refine c_region ?_
    refine w_pure (y_assign rfl) rfl ?_
    refine w_nil ?_
    refine x_next ?_
    refine c_seq ?_
    refine c_seq ?_
    refine c_region ?_
    refine w_pure (y_move rfl) rfl ?_
    refine w_pure (y_le rfl rfl) rfl ?_
    refine w_nil ?_
    refine x_next ?_
    (refine c_dec rfl (fun hc7 => ?_) (fun hc7 => ?_) <;> try (first | exact absurd rfl hc7 | contradiction | exact Bool.noConfusion (show false = true from hc7.symm.trans (by assumption)) | exact Bool.noConfusion (show true = false from hc7.symm.trans (by assumption)) | (exfalso; omega) | (exfalso; simp only [*, Bool.not_true, Bool.not_false, reduceCtorEq] at hc7; done)))
    refine c_seq ?_
    refine c_region ?_
    refine w_pure (y_assign rfl) rfl ?_
    refine w_nil ?_
    refine x_next ?_
    refine c_ret ?_
    refine x_then_ret ?_
    rotate_left
    refine c_skip ?_
    refine x_next ?_
    refine c_seq ?_
    refine c_region ?_
    refine w_pure (y_move rfl) rfl ?_
    (refine w_call rfl rfl rfl (srcNext_c) rfl ?_; rintro _ w9 ⟨x9, ⟨rfl, ⟨⟨hp1_9, hp2_9⟩, ⟨hp3_9, hx9⟩⟩⟩⟩)
    have hz_hx9 := hx9.size
    replace E := E.trans hx9
    refine w_pure (y_assign rfl) rfl ?_
    refine w_nil ?_
    refine x_next ?_
    refine c_seq ?_
    refine c_seq ?_
    refine c_region ?_
    refine w_pure (y_move rfl) rfl ?_
    refine w_pure (y_gt rfl rfl) rfl ?_
    refine w_nil ?_
    refine x_next ?_
    (refine c_dec rfl (fun hc11 => ?_) (fun hc11 => ?_) <;> try (first | exact absurd rfl hc11 | contradiction | exact Bool.noConfusion (show false = true from hc11.symm.trans (by assumption)) | exact Bool.noConfusion (show true = false from hc11.symm.trans (by assumption)) | (exfalso; omega) | (exfalso; simp only [*, Bool.not_true, Bool.not_false, reduceCtorEq] at hc11; done)))
    refine c_region ?_
    refine w_pure (y_move rfl) rfl ?_
    refine w_pure (y_mul rfl rfl) rfl ?_
    refine w_pure (y_move rfl) rfl ?_
    (refine w_call rfl rfl rfl (srcNext_c) rfl ?_; rintro _ w15 ⟨x15, ⟨rfl, ⟨⟨hp1_15, hp2_15⟩, ⟨hp3_15, hx15⟩⟩⟩⟩)
    have hz_hx15 := hx15.size
    replace E := E.trans hx15
    refine w_pure (y_add rfl rfl) rfl ?_
    refine w_pure (y_assign rfl) rfl ?_
    refine w_nil ?_
    refine x_next ?_
    refine c_seq ?_
    refine c_region ?_
    refine w_pure (y_move rfl) rfl ?_
    refine w_pure (y_move rfl) rfl ?_
    refine w_pure (y_rem rfl rfl) rfl ?_
    refine w_pure (y_assign rfl) rfl ?_
    refine w_nil ?_
    refine x_next ?_
    refine c_ret ?_
    rotate_left
    refine c_skip ?_
    refine x_next ?_
    refine c_seq ?_
    refine c_region ?_
    refine w_pure (y_move rfl) rfl ?_
    refine w_pure (y_move rfl) rfl ?_
    refine w_pure (y_rem rfl rfl) rfl ?_
    refine w_pure (y_assign rfl) rfl ?_
    refine w_nil ?_
    refine x_next ?_
    refine c_ret ?_
    rotate_left
  · exact x_retv [_] rfl ⟨rfl, trivial⟩ ⟨0, rfl, by omega, (by assumption : Src _ _ _ _ _).more (by omega), E.go⟩
  · exact x_retv [_] rfl ⟨rfl, trivial⟩ ⟨_, rfl, ⟨Int.emod_nonneg _ (by omega), .inl (Int.emod_lt_of_pos _ (by omega))⟩, hp3_15.more (by omega), E.go⟩
  · exact x_retv [_] rfl ⟨rfl, trivial⟩ ⟨_, rfl, ⟨Int.emod_nonneg _ (by omega), .inl (Int.emod_lt_of_pos _ (by omega))⟩, hp3_9.more (by omega), E.go⟩
theorem srcPick_z (n : Int) (hn : 1 ≤ n ∧ n ≤ 1000000000000 := by omega) (h : Src w lo hi b B := by assumption) (hB : B ≤ 100000000000 := by omega) : Ret Tryd.prog 61 [ptr b 0, .int .i64 n] w fun u w' => ∃ x, u = .int .i64 x ∧ (0 ≤ x ∧ x < n) ∧ Src w' lo hi b (B + 2) ∧ Chg b (b + 1) w w' := by
  refine (srcPick_c n h hB hn.2).mono ?_
  rintro u w' ⟨x, h1, h2, h3⟩
  exact ⟨x, h1, by omega, h3⟩
theorem srcOne_c (n : Int) (h : Src w lo hi b B := by assumption) (hB : B ≤ 100000000000 := by omega) (hn : n ≤ 1000000000000 := by omega) : Ret Tryd.prog 60 [ptr b 0, .int .i64 n] w fun u w' => ∃ q, u = .bool q ∧ Src w' lo hi b (B + 2) ∧ Chg b (b + 1) w w' := by
  have E : Since b (b + 1) w w := Since.refl _ _ _
  refine ret_enter Tryd.func60 rfl Tryd.ntmps60 rfl ?_
  focus
    have ht_h := h.top
    refine c_seq ?_
    refine c_region ?_
    refine w_pure (y_assign rfl) rfl ?_
    refine w_nil ?_
    refine x_next ?_
    refine c_seq ?_
    refine c_region ?_
    refine w_pure (y_move rfl) rfl ?_
    refine w_pure (y_move rfl) rfl ?_
    (refine w_call rfl rfl rfl (srcPick_c _) rfl ?_; rintro _ w7 ⟨x7, ⟨rfl, ⟨⟨hp1_7, hp2_7⟩, ⟨hp3_7, hx7⟩⟩⟩⟩)
    have hz_hx7 := hx7.size
    replace E := E.trans hx7
    refine w_pure (y_eq rfl rfl) rfl ?_
    refine w_pure (y_assign rfl) rfl ?_
    refine w_nil ?_
    refine x_next ?_
    refine c_ret ?_
    rotate_left
  exact x_retv [_] rfl ⟨rfl, trivial⟩ ⟨_, rfl, by assumption, E.go⟩
theorem srcFrom_c {v : Value} {xs : List UInt8} (h : SL w lo hi v xs := by repeat (first | assumption | exact Go.Gw.Own.sl (by assumption) | exact Go.Gw.Box.at (by assumption) | exact Go.Gw.SLL.el (by first | assumption | exact Go.Gw.OwnD.sll (by assumption)) _ (by omega) | exact Go.Gw.SLL.at (by first | assumption | exact Go.Gw.OwnD.sll (by assumption)) (by omega) | exact Go.Gw.OwnD.sll (by assumption) | (apply Go.Gw.SL.chg; case hx => assumption) | (apply Go.Gw.Own.chg; case hx => assumption) | (apply Go.Gw.Box.chg; case hx => assumption) | (apply Go.Gw.At.chg; case hx => assumption) | exact .inl (Nat.zero_le _) | exact .inr (Nat.zero_le _) | (show _ ∨ _; omega))) : Ret Tryd.prog 53 [v] w fun u w' => ∃ c, u = ptr c 0 ∧ w.heap.size ≤ c ∧ Src w' lo hi c 0 ∧ Ext w w' := by
  have ht := h.top
  have E : Since 0 0 w w := Since.refl 0 0 w
  refine ret_enter Tryd.func53 rfl Tryd.ntmps53 rfl ?_
  focus
    have ht_h := h.top
    refine c_seq ?_
    refine c_region ?_
    refine w_pure (y_assign rfl) rfl ?_
    refine w_nil ?_
    refine x_next ?_
    refine c_seq ?_
    refine c_region ?_
    refine w_pure (y_move rfl) rfl ?_
    refine w_pure (y_build rfl) rfl ?_
    refine w_box rfl (k := fun b5 w5 hb5 hx5 hl5 hs5 => ?_)
    have hz_hx5 := hx5.size
    replace h := h.ext hx5
    replace E := E.trans hx5
    refine w_pure (y_assign rfl) rfl ?_
    refine w_nil ?_
    refine x_next ?_
    refine c_ret ?_
    rotate_left
  exact x_retv [_] rfl ⟨rfl, trivial⟩ ⟨b5, rfl, by omega, ⟨⟨v, xs, 0, 0, hb5, h, by omega, by omega⟩, by omega, hb5.lt⟩, E.go⟩
end
end Go.Proofs.YtgkljfncpgbngaaDoor

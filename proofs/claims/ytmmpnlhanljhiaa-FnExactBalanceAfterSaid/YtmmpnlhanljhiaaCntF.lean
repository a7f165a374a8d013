/- Contracts: reading a counter from its text; the number that it shows. -/
import Derived.Test.YtmmpnlhanljhiaaCntE
namespace Go.Proofs.Ytmmpnlhanljhiaa
open Go Go.Gw
set_option linter.unusedVariables false
set_option linter.unusedSimpArgs false

def rdg (s : List UInt8) : List Int := s.reverse.map fun b => (b.toNat : Int) - 48
theorem rdg_drop {s : List UInt8} {i : Nat} (h : i < s.length) : rdg (s.drop i) = rdg (s.drop (i + 1)) ++ [((s.getD i 0).toNat : Int) - 48] := by
  rw [List.drop_eq_getElem_cons h, rdg, List.reverse_cons, List.map_append, List.getD_eq_getElem?_getD, List.getElem?_eq_getElem h]; rfl
theorem rdg_len (s : List UInt8) : (rdg s).length = s.length := by simp [rdg]
section
variable {w : World} {v : Value} {xs : List Int} {lo hi b : Nat}
theorem iNumberShown_c (h : SL w lo hi v xs := by repeat (first | assumption | exact Go.Gw.Own.sl (by assumption) | exact Go.Gw.Box.at (by assumption) | (apply Go.Gw.SL.chg; case hx => assumption) | (apply Go.Gw.Own.chg; case hx => assumption) | (apply Go.Gw.Box.chg; case hx => assumption) | (apply Go.Gw.At.chg; case hx => assumption) | exact .inl (Nat.zero_le _) | exact .inr (Nat.zero_le _) | (show _ ∨ _; omega))) : Val Try.prog 24 [.agg #[v]] w (.tuple #[.int .i64 (if okC xs then valD xs else 0), .int .i64 (if okC xs then 0 else 1)]) := by
  refine ⟨fun w1 hx1 => ?_⟩
  by_cases hk : okC xs = true
  · refine ret_enter Try.func24 rfl Try.ntmps24 rfl ?_
    focus
      refine c_seq ?_
      refine c_region ?_
      refine w_box rfl (k := fun bb wb hbb hxb hlb hsb => ?_)
      refine w_pure (y_assign rfl) rfl ?_
      refine w_pure (y_assign rfl) rfl ?_
      refine w_nil ?_
      refine x_next ?_
      refine c_seq ?_
      refine c_seq ?_
      refine c_region ?_
      refine w_pure (y_load_boxs rfl) rfl ?_
      refine w_val rfl rfl rfl (iValidCounter_c (xs := xs)) rfl (fun w4 hx4 hz4 => ?_)
      refine w_pure (y_not rfl) rfl ?_
      refine w_nil ?_
      refine x_next ?_
      (refine c_not rfl (fun hc => ?_) (fun hc => ?_))
      refine c_seq ?_
      refine c_region ?_
      refine w_pure (y_assign rfl) rfl ?_
      refine w_pure (y_assign rfl) rfl ?_
      refine w_nil ?_
      refine x_next ?_
      refine c_ret ?_
      refine x_then_ret ?_
      rotate_left
      refine c_skip ?_
      refine x_next ?_
      refine c_seq ?_
      refine c_region ?_
      refine w_pure (y_load_boxs rfl) rfl ?_
      refine w_val rfl rfl rfl (shown_c hk) rfl (fun w4 hx4 hz4 => ?_)
      refine w_pure (y_assign rfl) rfl ?_
      refine w_pure (y_assign rfl) rfl ?_
      refine w_nil ?_
      refine x_next ?_
      refine c_ret ?_
      rotate_left
    · exact absurd hk (by simpa using hc)
    · exact x_retv [_, _] rfl ⟨rfl, rfl, trivial⟩ ⟨by rw [if_pos hk, if_pos hk]; rfl, by (repeat (first | exact Chg.refl _ _ _ | assumption | refine Chg.next ?_ (by assumption) (by omega)))⟩
  · refine ret_enter Try.func24 rfl Try.ntmps24 rfl ?_
    focus
      refine c_seq ?_
      refine c_region ?_
      refine w_box rfl (k := fun bb wb hbb hxb hlb hsb => ?_)
      refine w_pure (y_assign rfl) rfl ?_
      refine w_pure (y_assign rfl) rfl ?_
      refine w_nil ?_
      refine x_next ?_
      refine c_seq ?_
      refine c_seq ?_
      refine c_region ?_
      refine w_pure (y_load_boxs rfl) rfl ?_
      refine w_val rfl rfl rfl (iValidCounter_c (xs := xs)) rfl (fun w4 hx4 hz4 => ?_)
      refine w_pure (y_not rfl) rfl ?_
      refine w_nil ?_
      refine x_next ?_
      (refine c_not rfl (fun hc => ?_) (fun hc => ?_))
      refine c_seq ?_
      refine c_region ?_
      refine w_pure (y_assign rfl) rfl ?_
      refine w_pure (y_assign rfl) rfl ?_
      refine w_nil ?_
      refine x_next ?_
      refine c_ret ?_
      refine x_then_ret ?_
      rotate_left
      refine c_skip ?_
      refine x_next ?_
      refine c_seq ?_
      refine c_region ?_
      refine w_pure (y_load_boxs rfl) rfl ?_
      rotate_left
    · exact x_retv [_, _] rfl ⟨rfl, rfl, trivial⟩ ⟨by rw [if_neg hk, if_neg hk]; rfl, by (repeat (first | exact Chg.refl _ _ _ | assumption | refine Chg.next ?_ (by assumption) (by omega)))⟩
    · exact absurd hc hk
theorem sNumberShown_c (h : SL w lo hi v xs := by repeat (first | assumption | exact Go.Gw.Own.sl (by assumption) | exact Go.Gw.Box.at (by assumption) | (apply Go.Gw.SL.chg; case hx => assumption) | (apply Go.Gw.Own.chg; case hx => assumption) | (apply Go.Gw.Box.chg; case hx => assumption) | (apply Go.Gw.At.chg; case hx => assumption) | exact .inl (Nat.zero_le _) | exact .inr (Nat.zero_le _) | (show _ ∨ _; omega))) : Val Try.prog 23 [.agg #[v]] w (.tuple #[.int .i64 (if okC xs then valD xs else 0), .int .i64 (if okC xs then 0 else 1)]) := by
  refine ⟨fun w1 hx1 => ?_⟩
  by_cases hk : okC xs = true
  · refine ret_enter Try.func23 rfl Try.ntmps23 rfl ?_
    focus
      refine c_seq ?_
      refine c_region ?_
      refine w_box rfl (k := fun bb wb hbb hxb hlb hsb => ?_)
      refine w_pure (y_assign rfl) rfl ?_
      refine w_pure (y_assign rfl) rfl ?_
      refine w_nil ?_
      refine x_next ?_
      refine c_seq ?_
      refine c_seq ?_
      refine c_region ?_
      refine w_val rfl rfl rfl (l11Ok_c (xs := xs) (hp := by exact Box.at (by repeat (first | assumption | exact Go.Gw.Own.sl (by assumption) | exact Go.Gw.Box.at (by assumption) | (apply Go.Gw.SL.chg; case hx => assumption) | (apply Go.Gw.Own.chg; case hx => assumption) | (apply Go.Gw.Box.chg; case hx => assumption) | (apply Go.Gw.At.chg; case hx => assumption) | exact .inl (Nat.zero_le _) | exact .inr (Nat.zero_le _) | (show _ ∨ _; omega))))) rfl (fun w4 hx4 hz4 => ?_)
      refine w_pure (y_not rfl) rfl ?_
      refine w_nil ?_
      refine x_next ?_
      (refine c_not rfl (fun hc => ?_) (fun hc => ?_))
      refine c_seq ?_
      refine c_region ?_
      refine w_pure (y_assign rfl) rfl ?_
      refine w_pure (y_assign rfl) rfl ?_
      refine w_nil ?_
      refine x_next ?_
      refine c_ret ?_
      refine x_then_ret ?_
      rotate_left
      refine c_skip ?_
      refine x_next ?_
      refine c_seq ?_
      refine c_region ?_
      refine w_val rfl rfl rfl (l11Value_c (xs := xs) hk (hp := by exact Box.at (by repeat (first | assumption | exact Go.Gw.Own.sl (by assumption) | exact Go.Gw.Box.at (by assumption) | (apply Go.Gw.SL.chg; case hx => assumption) | (apply Go.Gw.Own.chg; case hx => assumption) | (apply Go.Gw.Box.chg; case hx => assumption) | (apply Go.Gw.At.chg; case hx => assumption) | exact .inl (Nat.zero_le _) | exact .inr (Nat.zero_le _) | (show _ ∨ _; omega))))) rfl (fun w4 hx4 hz4 => ?_)
      refine w_pure (y_assign rfl) rfl ?_
      refine w_pure (y_assign rfl) rfl ?_
      refine w_nil ?_
      refine x_next ?_
      refine c_ret ?_
      rotate_left
    · exact absurd hk (by simpa using hc)
    · exact x_retv [_, _] rfl ⟨rfl, rfl, trivial⟩ ⟨by rw [if_pos hk, if_pos hk]; rfl, by (repeat (first | exact Chg.refl _ _ _ | assumption | refine Chg.next ?_ (by assumption) (by omega)))⟩
  · refine ret_enter Try.func23 rfl Try.ntmps23 rfl ?_
    focus
      refine c_seq ?_
      refine c_region ?_
      refine w_box rfl (k := fun bb wb hbb hxb hlb hsb => ?_)
      refine w_pure (y_assign rfl) rfl ?_
      refine w_pure (y_assign rfl) rfl ?_
      refine w_nil ?_
      refine x_next ?_
      refine c_seq ?_
      refine c_seq ?_
      refine c_region ?_
      refine w_val rfl rfl rfl (l11Ok_c (xs := xs) (hp := by exact Box.at (by repeat (first | assumption | exact Go.Gw.Own.sl (by assumption) | exact Go.Gw.Box.at (by assumption) | (apply Go.Gw.SL.chg; case hx => assumption) | (apply Go.Gw.Own.chg; case hx => assumption) | (apply Go.Gw.Box.chg; case hx => assumption) | (apply Go.Gw.At.chg; case hx => assumption) | exact .inl (Nat.zero_le _) | exact .inr (Nat.zero_le _) | (show _ ∨ _; omega))))) rfl (fun w4 hx4 hz4 => ?_)
      refine w_pure (y_not rfl) rfl ?_
      refine w_nil ?_
      refine x_next ?_
      (refine c_not rfl (fun hc => ?_) (fun hc => ?_))
      refine c_seq ?_
      refine c_region ?_
      refine w_pure (y_assign rfl) rfl ?_
      refine w_pure (y_assign rfl) rfl ?_
      refine w_nil ?_
      refine x_next ?_
      refine c_ret ?_
      refine x_then_ret ?_
      rotate_left
      refine c_skip ?_
      refine x_next ?_
      refine c_seq ?_
      refine c_region ?_
      rotate_left
    · exact x_retv [_, _] rfl ⟨rfl, rfl, trivial⟩ ⟨by rw [if_neg hk, if_neg hk]; rfl, by (repeat (first | exact Chg.refl _ _ _ | assumption | refine Chg.next ?_ (by assumption) (by omega)))⟩
    · exact absurd hc hk
theorem lNumberShown (w0 : World) (x : { x : OSl // x.ok w0 }) : Ret Try.prog 5 [.agg #[x.1.v]] w0 fun u w' => u = .bool true ∧ Ext w0 w' := by
  obtain ⟨⟨v, xs⟩, hok⟩ := x
  have hs : SL w0 0 w0.heap.size v xs := hok.sl
  by_cases hl : (1048576 : Int) < xs.length
  · refine ret_enter Try.func5 rfl Try.ntmps5 rfl ?_
    focus
      refine c_seq ?_
      refine c_region ?_
      refine w_box rfl (k := fun bb wb hbb hxb hlb hsb => ?_)
      refine w_pure (y_assign rfl) rfl ?_
      refine w_nil ?_
      refine x_next ?_
      refine c_seq ?_
      refine c_region ?_
      refine w_pure (y_assign rfl) rfl ?_
      refine w_nil ?_
      refine x_next ?_
      refine c_seq ?_
      refine c_region ?_
      refine w_pure (y_load_boxs rfl) rfl ?_
      refine w_pure (y_move rfl) rfl ?_
      refine w_val rfl rfl rfl (szCounter_big (xs := xs)) rfl (fun w1 hx1 hz1 => ?_)
      refine w_pure (y_assign rfl) rfl ?_
      refine w_nil ?_
      refine x_next ?_
      refine c_seq ?_
      refine c_seq ?_
      refine c_region ?_
      refine w_pure (y_move rfl) rfl ?_
      refine w_pure (y_lt rfl rfl) rfl ?_
      refine w_nil ?_
      refine x_next ?_
      refine c_true rfl ?_
      refine c_seq ?_
      refine c_region ?_
      refine w_pure (y_assign rfl) rfl ?_
      refine w_nil ?_
      refine x_next ?_
      refine c_ret ?_
      refine x_then_ret ?_
      rotate_left
    exact x_retv [_] rfl ⟨rfl, trivial⟩ ⟨rfl, by (repeat (first | exact Chg.refl _ _ _ | assumption | refine Chg.next ?_ (by assumption) (by omega)))⟩
  · refine ret_enter Try.func5 rfl Try.ntmps5 rfl ?_
    focus
      refine c_seq ?_
      refine c_region ?_
      refine w_box rfl (k := fun bb wb hbb hxb hlb hsb => ?_)
      refine w_pure (y_assign rfl) rfl ?_
      refine w_nil ?_
      refine x_next ?_
      refine c_seq ?_
      refine c_region ?_
      refine w_pure (y_assign rfl) rfl ?_
      refine w_nil ?_
      refine x_next ?_
      refine c_seq ?_
      refine c_region ?_
      refine w_pure (y_load_boxs rfl) rfl ?_
      refine w_pure (y_move rfl) rfl ?_
      refine w_val rfl rfl rfl (szCounter_ok (xs := xs)) rfl (fun w1 hx1 hz1 => ?_)
      refine w_pure (y_assign rfl) rfl ?_
      refine w_nil ?_
      refine x_next ?_
      refine c_seq ?_
      refine c_seq ?_
      refine c_region ?_
      refine w_pure (y_move rfl) rfl ?_
      refine w_pure (y_lt rfl rfl) rfl ?_
      refine w_nil ?_
      refine x_next ?_
      (refine c_dec rfl (fun hc => ?_) (fun hc => ?_) <;> try (first | (exfalso; omega) | exact absurd rfl hc))
      refine c_skip ?_
      refine x_next ?_
      refine c_seq ?_
      refine c_region ?_
      refine w_pure (y_load_boxs rfl) rfl ?_
      (refine w_call rfl rfl rfl (toCounter_c (xs := xs) _) rfl ?_; rintro _ w2 ⟨v2, rfl, ho2, hx2⟩; have hl2 := ho2.lt; have hz2 := hx2.size)
      refine w_val rfl rfl rfl (sNumberShown_c (xs := xs)) rfl (fun w3 hx3 hz3 => ?_)
      refine w_pure (y_move rfl) rfl ?_
      refine w_pure (y_extract rfl rfl) rfl ?_
      refine w_pure (y_extract rfl rfl) rfl ?_
      refine w_pure (y_assign rfl) rfl ?_
      refine w_pure (y_assign rfl) rfl ?_
      refine w_nil ?_
      refine x_next ?_
      refine c_seq ?_
      refine c_region ?_
      refine w_pure (y_load_boxs rfl) rfl ?_
      (refine w_call rfl rfl rfl (toCounter_c (xs := xs) _) rfl ?_; rintro _ w2 ⟨v2, rfl, ho2, hx2⟩; have hl2 := ho2.lt; have hz2 := hx2.size)
      refine w_alloc (k := fun ba wa hba hxa hla hsa => ?_)
      refine w_store_boxs rfl rfl (next := fun wst hbst hxst hsst => ?_)
      refine w_nil ?_
      refine x_next ?_
      refine c_seq ?_
      refine c_region ?_
      refine w_pure (y_load_boxs rfl) rfl ?_
      refine w_val rfl rfl rfl (iNumberShown_c (xs := xs)) rfl (fun w5 hx5 hz5 => ?_)
      refine w_pure (y_move rfl) rfl ?_
      refine w_pure (y_extract rfl rfl) rfl ?_
      refine w_pure (y_extract rfl rfl) rfl ?_
      refine w_pure (y_assign rfl) rfl ?_
      refine w_pure (y_assign rfl) rfl ?_
      refine w_nil ?_
      refine x_next ?_
      refine c_seq ?_
      refine c_seq ?_
      refine c_region ?_
      refine w_pure (y_move rfl) rfl ?_
      refine w_pure (y_move rfl) rfl ?_
      refine w_pure (y_ne rfl rfl) rfl ?_
      refine w_pure (y_move rfl) rfl ?_
      (refine w_part_dec rfl rfl (fun hc => ?_) (fun hc => ?_) <;> try (first | (exfalso; omega) | exact absurd rfl hc))
      refine w_yes rfl rfl ?_
      refine w_pure (y_move rfl) rfl ?_
      refine w_yes rfl rfl ?_
      refine w_pure (y_move rfl) rfl ?_
      refine w_yes rfl rfl ?_
      refine w_pure (y_ne rfl rfl) rfl ?_
      refine w_pure (y_pick_f rfl rfl) rfl ?_
      refine w_nil ?_
      refine x_next ?_
      (refine c_dec rfl (fun hc => ?_) (fun hc => ?_) <;> try (first | (exfalso; omega) | exact absurd rfl hc))
      refine c_skip ?_
      refine x_next ?_
      refine c_seq ?_
      refine c_seq ?_
      refine c_region_held mixed (fun wd hxd hzd => ?_)
      refine h_pure rfl (y_load_boxs rfl) rfl ?_
      refine h_pure rfl (y_load_boxs rfl) rfl ?_
      refine h_one rfl ?_
      (refine w_call rfl rfl rfl (toCounter_c (xs := xs) _) rfl ?_; rintro _ w2 ⟨v2, rfl, ho2, hx2⟩; have hl2 := ho2.lt; have hz2 := hx2.size)
      refine w_nil ?_
      refine x_held ?_
      refine h_one rfl ?_
      refine w_val rfl rfl rfl (eqCounter_c (xs := xs) (ys := xs)) rfl (fun w7 hx7 hz7 => ?_)
      refine w_nil ?_
      refine x_held ?_
      refine h_pure rfl (y_not_dec rfl) rfl ?_
      refine h_nil ?_
      refine x_next ?_
      (refine c_dec rfl (fun hc => ?_) (fun hc => ?_) <;> try (first | (exfalso; omega) | exact absurd rfl hc))
      refine c_skip ?_
      refine x_next ?_
      refine c_seq ?_
      refine c_region ?_
      refine w_pure (y_assign rfl) rfl ?_
      refine w_nil ?_
      refine x_next ?_
      refine c_ret ?_
      rotate_left
    exact x_retv [_] rfl ⟨rfl, trivial⟩ ⟨rfl, by (repeat (first | exact Chg.refl _ _ _ | assumption | refine Chg.next ?_ (by assumption) (by omega)))⟩
theorem lCounterText (w0 : World) (x : { x : OSl // x.ok w0 }) : Ret Try.prog 4 [.agg #[x.1.v]] w0 fun u w' => u = .bool true ∧ Ext w0 w' := by
  obtain ⟨⟨v, xs⟩, hok⟩ := x
  have hs : SL w0 0 w0.heap.size v xs := hok.sl
  by_cases hl : (1048576 : Int) < xs.length
  · refine ret_enter Try.func4 rfl Try.ntmps4 rfl ?_
    focus
      refine c_seq ?_
      refine c_region ?_
      refine w_box rfl (k := fun bb wb hbb hxb hlb hsb => ?_)
      refine w_pure (y_assign rfl) rfl ?_
      refine w_nil ?_
      refine x_next ?_
      refine c_seq ?_
      refine c_region ?_
      refine w_pure (y_assign rfl) rfl ?_
      refine w_nil ?_
      refine x_next ?_
      refine c_seq ?_
      refine c_region ?_
      refine w_pure (y_load_boxs rfl) rfl ?_
      refine w_pure (y_move rfl) rfl ?_
      refine w_val rfl rfl rfl (szCounter_big (xs := xs)) rfl (fun w1 hx1 hz1 => ?_)
      refine w_pure (y_assign rfl) rfl ?_
      refine w_nil ?_
      refine x_next ?_
      refine c_seq ?_
      refine c_seq ?_
      refine c_region ?_
      refine w_pure (y_move rfl) rfl ?_
      refine w_pure (y_lt rfl rfl) rfl ?_
      refine w_nil ?_
      refine x_next ?_
      refine c_true rfl ?_
      refine c_seq ?_
      refine c_region ?_
      refine w_pure (y_assign rfl) rfl ?_
      refine w_nil ?_
      refine x_next ?_
      refine c_ret ?_
      refine x_then_ret ?_
      rotate_left
    exact x_retv [_] rfl ⟨rfl, trivial⟩ ⟨rfl, by (repeat (first | exact Chg.refl _ _ _ | assumption | refine Chg.next ?_ (by assumption) (by omega)))⟩
  · refine ret_enter Try.func4 rfl Try.ntmps4 rfl ?_
    focus
      refine c_seq ?_
      refine c_region ?_
      refine w_box rfl (k := fun bb wb hbb hxb hlb hsb => ?_)
      refine w_pure (y_assign rfl) rfl ?_
      refine w_nil ?_
      refine x_next ?_
      refine c_seq ?_
      refine c_region ?_
      refine w_pure (y_assign rfl) rfl ?_
      refine w_nil ?_
      refine x_next ?_
      refine c_seq ?_
      refine c_region ?_
      refine w_pure (y_load_boxs rfl) rfl ?_
      refine w_pure (y_move rfl) rfl ?_
      refine w_val rfl rfl rfl (szCounter_ok (xs := xs)) rfl (fun w1 hx1 hz1 => ?_)
      refine w_pure (y_assign rfl) rfl ?_
      refine w_nil ?_
      refine x_next ?_
      refine c_seq ?_
      refine c_seq ?_
      refine c_region ?_
      refine w_pure (y_move rfl) rfl ?_
      refine w_pure (y_lt rfl rfl) rfl ?_
      refine w_nil ?_
      refine x_next ?_
      (refine c_dec rfl (fun hc => ?_) (fun hc => ?_) <;> try (first | (exfalso; omega) | exact absurd rfl hc))
      refine c_skip ?_
      refine x_next ?_
      refine c_seq ?_
      refine c_region ?_
      refine w_pure (y_load_boxs rfl) rfl ?_
      (refine w_call rfl rfl rfl (toCounter_c (xs := xs) _) rfl ?_; rintro _ w2 ⟨v2, rfl, ho2, hx2⟩; have hl2 := ho2.lt; have hz2 := hx2.size)
      refine w_val rfl rfl rfl (sCounterText_c (xs := xs)) rfl (fun w3 hx3 hz3 => ?_)
      refine w_pure (y_assign rfl) rfl ?_
      refine w_nil ?_
      refine x_next ?_
      refine c_seq ?_
      refine c_region ?_
      refine w_pure (y_load_boxs rfl) rfl ?_
      (refine w_call rfl rfl rfl (toCounter_c (xs := xs) _) rfl ?_; rintro _ w2 ⟨v2, rfl, ho2, hx2⟩; have hl2 := ho2.lt; have hz2 := hx2.size)
      refine w_alloc (k := fun ba wa hba hxa hla hsa => ?_)
      refine w_store_boxs rfl rfl (next := fun wst hbst hxst hsst => ?_)
      refine w_nil ?_
      refine x_next ?_
      refine c_seq ?_
      refine c_region ?_
      refine w_pure (y_load_boxs rfl) rfl ?_
      refine w_val rfl rfl rfl (iCounterText_c (xs := xs)) rfl (fun w5 hx5 hz5 => ?_)
      refine w_pure (y_assign rfl) rfl ?_
      refine w_nil ?_
      refine x_next ?_
      refine c_seq ?_
      refine c_seq ?_
      refine c_region ?_
      refine w_pure (y_move rfl) rfl ?_
      refine w_pure (y_move rfl) rfl ?_
      refine w_pure (y_sne rfl rfl) rfl ?_
      refine w_nil ?_
      refine x_next ?_
      (refine c_dec rfl (fun hc => ?_) (fun hc => ?_) <;> try (first | (exfalso; omega) | exact absurd rfl hc))
      refine c_skip ?_
      refine x_next ?_
      refine c_seq ?_
      refine c_seq ?_
      refine c_region_held mixed (fun wd hxd hzd => ?_)
      refine h_pure rfl (y_load_boxs rfl) rfl ?_
      refine h_pure rfl (y_load_boxs rfl) rfl ?_
      refine h_one rfl ?_
      (refine w_call rfl rfl rfl (toCounter_c (xs := xs) _) rfl ?_; rintro _ w2 ⟨v2, rfl, ho2, hx2⟩; have hl2 := ho2.lt; have hz2 := hx2.size)
      refine w_nil ?_
      refine x_held ?_
      refine h_one rfl ?_
      refine w_val rfl rfl rfl (eqCounter_c (xs := xs) (ys := xs)) rfl (fun w7 hx7 hz7 => ?_)
      refine w_nil ?_
      refine x_held ?_
      refine h_pure rfl (y_not_dec rfl) rfl ?_
      refine h_nil ?_
      refine x_next ?_
      (refine c_dec rfl (fun hc => ?_) (fun hc => ?_) <;> try (first | (exfalso; omega) | exact absurd rfl hc))
      refine c_skip ?_
      refine x_next ?_
      refine c_seq ?_
      refine c_region ?_
      refine w_pure (y_assign rfl) rfl ?_
      refine w_nil ?_
      refine x_next ?_
      refine c_ret ?_
      rotate_left
    exact x_retv [_] rfl ⟨rfl, trivial⟩ ⟨rfl, by (repeat (first | exact Chg.refl _ _ _ | assumption | refine Chg.next ?_ (by assumption) (by omega)))⟩
end
end Go.Proofs.Ytmmpnlhanljhiaa

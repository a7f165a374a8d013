/- The walks of the laws on equal and on valid counters. -/
import Derived.Test.YtdgofpgpidhobaaCntC
import Derived.Test.YtdgofpgpidhobaaOpen
import Derived.Test.YtdgofpgpidhobaaL8
namespace Go.Proofs.Ytdgofpgpidhobaa
open Go Go.Gw
set_option linter.unusedVariables false
set_option linter.unusedSimpArgs false
theorem lValidCounter (w0 : World) (x : { x : OSl // x.ok w0 }) : Ret Try.prog 7 [.agg #[x.1.v]] w0 fun u w' => u = .bool true ∧ Ext w0 w' := by
  obtain ⟨⟨v, xs⟩, hok⟩ := x
  have hs : SL w0 0 w0.heap.size v xs := hok.sl
  by_cases hl : (1048576 : Int) < xs.length
  · refine ret_enter Try.func7 rfl Try.ntmps7 rfl ?_
    focus
      refine c_seq ?_
      refine c_region ?_
      refine w_box rfl (k := fun bb wb hbb hxb hlb hsb => ?_)
      refine w_pure (y_assign rfl) rfl ?_
      refine w_nil ?_
      refine x_next ?_
      refine c_seq ?_
      refine c_region ?_
      refine w_pure (y_assign rfl) rfl ?_
      refine w_nil ?_
      refine x_next ?_
      refine c_seq ?_
      refine c_region ?_
      refine w_pure (y_load_boxs rfl) rfl ?_
      refine w_pure (y_move rfl) rfl ?_
      refine w_val rfl rfl rfl (szCounter_big (xs := xs)) rfl (fun w1 hx1 hz1 => ?_)
      refine w_pure (y_assign rfl) rfl ?_
      refine w_nil ?_
      refine x_next ?_
      refine c_seq ?_
      refine c_seq ?_
      refine c_region ?_
      refine w_pure (y_move rfl) rfl ?_
      refine w_pure (y_lt rfl rfl) rfl ?_
      refine w_nil ?_
      refine x_next ?_
      refine c_true rfl ?_
      refine c_seq ?_
      refine c_region ?_
      refine w_pure (y_assign rfl) rfl ?_
      refine w_nil ?_
      refine x_next ?_
      refine c_ret ?_
      refine x_then_ret ?_
      rotate_left
    exact x_retv [_] rfl ⟨rfl, trivial⟩ ⟨rfl, by (repeat (first | exact Chg.refl _ _ _ | assumption | refine Chg.next ?_ (by assumption) (by omega)))⟩
  · refine ret_enter Try.func7 rfl Try.ntmps7 rfl ?_
    focus
      refine c_seq ?_
      refine c_region ?_
      refine w_box rfl (k := fun bb wb hbb hxb hlb hsb => ?_)
      refine w_pure (y_assign rfl) rfl ?_
      refine w_nil ?_
      refine x_next ?_
      refine c_seq ?_
      refine c_region ?_
      refine w_pure (y_assign rfl) rfl ?_
      refine w_nil ?_
      refine x_next ?_
      refine c_seq ?_
      refine c_region ?_
      refine w_pure (y_load_boxs rfl) rfl ?_
      refine w_pure (y_move rfl) rfl ?_
      refine w_val rfl rfl rfl (szCounter_ok (xs := xs)) rfl (fun w1 hx1 hz1 => ?_)
      refine w_pure (y_assign rfl) rfl ?_
      refine w_nil ?_
      refine x_next ?_
      refine c_seq ?_
      refine c_seq ?_
      refine c_region ?_
      refine w_pure (y_move rfl) rfl ?_
      refine w_pure (y_lt rfl rfl) rfl ?_
      refine w_nil ?_
      refine x_next ?_
      (refine c_dec rfl (fun hc => ?_) (fun hc => ?_) <;> try (first | (exfalso; omega) | exact absurd rfl hc))
      refine c_skip ?_
      refine x_next ?_
      refine c_seq ?_
      refine c_region ?_
      refine w_pure (y_load_boxs rfl) rfl ?_
      rotate_left
    refine w_call rfl rfl rfl (toCounter_c (xs := xs) _) rfl ?_
    rintro _ w2 ⟨v2, rfl, ho2, hx2⟩
    have hl2 := ho2.lt
    have hz2 := hx2.size
    focus
      refine w_val rfl rfl rfl (sValidCounter_c (xs := xs)) rfl (fun w3 hx3 hz3 => ?_)
      refine w_pure (y_assign rfl) rfl ?_
      refine w_nil ?_
      refine x_next ?_
      refine c_seq ?_
      refine c_region ?_
      refine w_pure (y_load_boxs rfl) rfl ?_
      rotate_left
    refine w_call rfl rfl rfl (toCounter_c (xs := xs) _) rfl ?_
    rintro _ w4 ⟨v4, rfl, ho4, hx4⟩
    have hl4 := ho4.lt
    have hz4 := hx4.size
    focus
      refine w_alloc (k := fun ba wa hba hxa hla hsa => ?_)
      refine w_store_boxs rfl rfl (next := fun wst hbst hxst hsst => ?_)
      refine w_nil ?_
      refine x_next ?_
      refine c_seq ?_
      refine c_region ?_
      refine w_pure (y_load_boxs rfl) rfl ?_
      refine w_val rfl rfl rfl (iValidCounter_c (xs := xs)) rfl (fun w5 hx5 hz5 => ?_)
      refine w_pure (y_assign rfl) rfl ?_
      refine w_nil ?_
      refine x_next ?_
      refine c_seq ?_
      refine c_seq ?_
      refine c_region ?_
      refine w_pure (y_move rfl) rfl ?_
      refine w_pure (y_move rfl) rfl ?_
      refine w_pure (y_neb rfl rfl) rfl ?_
      refine w_nil ?_
      refine x_next ?_
      (refine c_dec rfl (fun hc => ?_) (fun hc => ?_) <;> try (first | (exfalso; omega) | exact absurd rfl hc))
      refine c_skip ?_
      refine x_next ?_
      refine c_seq ?_
      refine c_seq ?_
      refine c_region_held mixed (fun wd hxd hzd => ?_)
      refine h_pure rfl (y_load_boxs rfl) rfl ?_
      refine h_pure rfl (y_load_boxs rfl) rfl ?_
      refine h_one rfl ?_
      rotate_left
    refine w_call rfl rfl rfl (toCounter_c (xs := xs) _) rfl ?_
    rintro _ w6 ⟨v6, rfl, ho6, hx6⟩
    have hl6 := ho6.lt
    have hz6 := hx6.size
    focus
      refine w_nil ?_
      refine x_held ?_
      refine h_one rfl ?_
      refine w_val rfl rfl rfl (eqCounter_c (xs := xs) (ys := xs)) rfl (fun w7 hx7 hz7 => ?_)
      refine w_nil ?_
      refine x_held ?_
      refine h_pure rfl (y_not_dec rfl) rfl ?_
      refine h_nil ?_
      refine x_next ?_
      (refine c_dec rfl (fun hc => ?_) (fun hc => ?_) <;> try (first | (exfalso; omega) | exact absurd rfl hc))
      refine c_skip ?_
      refine x_next ?_
      refine c_seq ?_
      refine c_region ?_
      refine w_pure (y_assign rfl) rfl ?_
      refine w_nil ?_
      refine x_next ?_
      refine c_ret ?_
      rotate_left
    exact x_retv [_] rfl ⟨rfl, trivial⟩ ⟨rfl, by (repeat (first | exact Chg.refl _ _ _ | assumption | refine Chg.next ?_ (by assumption) (by omega)))⟩
theorem lSameCounter (w0 : World) (x : { x : OSl // x.ok w0 }) (y : { x : OSl // x.ok w0 }) : Ret Try.prog 6 [.agg #[x.1.v], .agg #[y.1.v]] w0 fun u w' => u = .bool true ∧ Ext w0 w' := by
  obtain ⟨⟨v, xs⟩, hok⟩ := x
  have hs : SL w0 0 w0.heap.size v xs := hok.sl
  obtain ⟨⟨v', ys⟩, hok'⟩ := y
  have hs' : SL w0 0 w0.heap.size v' ys := hok'.sl
  by_cases hl : (1048576 : Int) < xs.length
  · refine ret_enter Try.func6 rfl Try.ntmps6 rfl ?_
    focus
      refine c_seq ?_
      refine c_region ?_
      refine w_box rfl (k := fun bb wb hbb hxb hlb hsb => ?_)
      refine w_box rfl (k := fun bb wb hbb hxb hlb hsb => ?_)
      refine w_pure (y_assign rfl) rfl ?_
      refine w_nil ?_
      refine x_next ?_
      refine c_seq ?_
      refine c_region ?_
      refine w_pure (y_assign rfl) rfl ?_
      refine w_nil ?_
      refine x_next ?_
      refine c_seq ?_
      refine c_region ?_
      refine w_pure (y_load_boxs rfl) rfl ?_
      refine w_pure (y_move rfl) rfl ?_
      refine w_val rfl rfl rfl (szCounter_big (xs := xs)) rfl (fun w1 hx1 hz1 => ?_)
      refine w_pure (y_assign rfl) rfl ?_
      refine w_nil ?_
      refine x_next ?_
      refine c_seq ?_
      refine c_seq ?_
      refine c_region ?_
      refine w_pure (y_move rfl) rfl ?_
      refine w_pure (y_lt rfl rfl) rfl ?_
      refine w_nil ?_
      refine x_next ?_
      refine c_true rfl ?_
      refine c_seq ?_
      refine c_region ?_
      refine w_pure (y_assign rfl) rfl ?_
      refine w_nil ?_
      refine x_next ?_
      refine c_ret ?_
      refine x_then_ret ?_
      rotate_left
    exact x_retv [_] rfl ⟨rfl, trivial⟩ ⟨rfl, by (repeat (first | exact Chg.refl _ _ _ | assumption | refine Chg.next ?_ (by assumption) (by omega)))⟩
  by_cases hl' : (1048576 - xs.length : Int) < ys.length
  · refine ret_enter Try.func6 rfl Try.ntmps6 rfl ?_
    focus
      refine c_seq ?_
      refine c_region ?_
      refine w_box rfl (k := fun bb wb hbb hxb hlb hsb => ?_)
      refine w_box rfl (k := fun bb wb hbb hxb hlb hsb => ?_)
      refine w_pure (y_assign rfl) rfl ?_
      refine w_nil ?_
      refine x_next ?_
      refine c_seq ?_
      refine c_region ?_
      refine w_pure (y_assign rfl) rfl ?_
      refine w_nil ?_
      refine x_next ?_
      refine c_seq ?_
      refine c_region ?_
      refine w_pure (y_load_boxs rfl) rfl ?_
      refine w_pure (y_move rfl) rfl ?_
      refine w_val rfl rfl rfl (szCounter_ok (xs := xs)) rfl (fun w1 hx1 hz1 => ?_)
      refine w_pure (y_assign rfl) rfl ?_
      refine w_nil ?_
      refine x_next ?_
      refine c_seq ?_
      refine c_seq ?_
      refine c_region ?_
      refine w_pure (y_move rfl) rfl ?_
      refine w_pure (y_lt rfl rfl) rfl ?_
      refine w_nil ?_
      refine x_next ?_
      (refine c_dec rfl (fun hc => ?_) (fun hc => ?_) <;> try (first | (exfalso; omega) | exact absurd rfl hc))
      refine c_skip ?_
      refine x_next ?_
      refine c_seq ?_
      refine c_region ?_
      refine w_pure (y_load_boxs rfl) rfl ?_
      refine w_pure (y_move rfl) rfl ?_
      refine w_val rfl rfl rfl (szCounter_big (xs := ys)) rfl (fun w1 hx1 hz1 => ?_)
      refine w_pure (y_assign rfl) rfl ?_
      refine w_nil ?_
      refine x_next ?_
      refine c_seq ?_
      refine c_seq ?_
      refine c_region ?_
      refine w_pure (y_move rfl) rfl ?_
      refine w_pure (y_lt rfl rfl) rfl ?_
      refine w_nil ?_
      refine x_next ?_
      refine c_true rfl ?_
      refine c_seq ?_
      refine c_region ?_
      refine w_pure (y_assign rfl) rfl ?_
      refine w_nil ?_
      refine x_next ?_
      refine c_ret ?_
      refine x_then_ret ?_
      rotate_left
    exact x_retv [_] rfl ⟨rfl, trivial⟩ ⟨rfl, by (repeat (first | exact Chg.refl _ _ _ | assumption | refine Chg.next ?_ (by assumption) (by omega)))⟩
  · refine ret_enter Try.func6 rfl Try.ntmps6 rfl ?_
    focus
      refine c_seq ?_
      refine c_region ?_
      refine w_box rfl (k := fun bb wb hbb hxb hlb hsb => ?_)
      refine w_box rfl (k := fun bb wb hbb hxb hlb hsb => ?_)
      refine w_pure (y_assign rfl) rfl ?_
      refine w_nil ?_
      refine x_next ?_
      refine c_seq ?_
      refine c_region ?_
      refine w_pure (y_assign rfl) rfl ?_
      refine w_nil ?_
      refine x_next ?_
      refine c_seq ?_
      refine c_region ?_
      refine w_pure (y_load_boxs rfl) rfl ?_
      refine w_pure (y_move rfl) rfl ?_
      refine w_val rfl rfl rfl (szCounter_ok (xs := xs)) rfl (fun w1 hx1 hz1 => ?_)
      refine w_pure (y_assign rfl) rfl ?_
      refine w_nil ?_
      refine x_next ?_
      refine c_seq ?_
      refine c_seq ?_
      refine c_region ?_
      refine w_pure (y_move rfl) rfl ?_
      refine w_pure (y_lt rfl rfl) rfl ?_
      refine w_nil ?_
      refine x_next ?_
      (refine c_dec rfl (fun hc => ?_) (fun hc => ?_) <;> try (first | (exfalso; omega) | exact absurd rfl hc))
      refine c_skip ?_
      refine x_next ?_
      refine c_seq ?_
      refine c_region ?_
      refine w_pure (y_load_boxs rfl) rfl ?_
      refine w_pure (y_move rfl) rfl ?_
      refine w_val rfl rfl rfl (szCounter_ok (xs := ys)) rfl (fun w1 hx1 hz1 => ?_)
      refine w_pure (y_assign rfl) rfl ?_
      refine w_nil ?_
      refine x_next ?_
      refine c_seq ?_
      refine c_seq ?_
      refine c_region ?_
      refine w_pure (y_move rfl) rfl ?_
      refine w_pure (y_lt rfl rfl) rfl ?_
      refine w_nil ?_
      refine x_next ?_
      (refine c_dec rfl (fun hc => ?_) (fun hc => ?_) <;> try (first | (exfalso; omega) | exact absurd rfl hc))
      refine c_skip ?_
      refine x_next ?_
      refine c_seq ?_
      refine c_region_held mixed (fun wd hxd hzd => ?_)
      refine h_pure rfl (y_load_boxs rfl) rfl ?_
      refine h_turn ?_
      refine h_pure rfl (y_load_boxs rfl) rfl ?_
      refine h_turn ?_
      refine h_turn ?_
      refine h_turn ?_
      refine h_one rfl ?_
      rotate_left
    refine w_call rfl rfl rfl (toCounter_c (xs := xs) _) rfl ?_
    rintro _ w2 ⟨v2, rfl, ho2, hx2⟩
    have hl2 := ho2.lt
    have hz2 := hx2.size
    focus
      refine w_nil ?_
      refine x_held ?_
      refine h_one rfl ?_
      rotate_left
    refine w_call rfl rfl rfl (toCounter_c (xs := ys) _) rfl ?_
    rintro _ w3 ⟨v3, rfl, ho3, hx3⟩
    have hl3 := ho3.lt
    have hz3 := hx3.size
    focus
      refine w_nil ?_
      refine x_held ?_
      refine h_one rfl ?_
      refine w_val rfl rfl rfl (sSameCounter_c (xs := xs) (ys := ys)) rfl (fun w4 hx4 hz4 => ?_)
      refine w_nil ?_
      refine x_held ?_
      refine h_pure rfl (y_assign rfl) rfl ?_
      refine h_nil ?_
      refine x_next ?_
      refine c_seq ?_
      refine c_region ?_
      refine w_pure (y_load_boxs rfl) rfl ?_
      rotate_left
    refine w_call rfl rfl rfl (toCounter_c (xs := xs) _) rfl ?_
    rintro _ w5 ⟨v5, rfl, ho5, hx5⟩
    have hl5 := ho5.lt
    have hz5 := hx5.size
    focus
      refine w_alloc (k := fun ba wa hba hxa hla hsa => ?_)
      refine w_store_boxs rfl rfl (next := fun wst hbst hxst hsst => ?_)
      refine w_nil ?_
      refine x_next ?_
      refine c_seq ?_
      refine c_region ?_
      refine w_pure (y_load_boxs rfl) rfl ?_
      rotate_left
    refine w_call rfl rfl rfl (toCounter_c (xs := ys) _) rfl ?_
    rintro _ w6 ⟨v6, rfl, ho6, hx6⟩
    have hl6 := ho6.lt
    have hz6 := hx6.size
    focus
      refine w_alloc (k := fun ba wa hba hxa hla hsa => ?_)
      refine w_store_boxs rfl rfl (next := fun wst hbst hxst hsst => ?_)
      refine w_nil ?_
      refine x_next ?_
      refine c_seq ?_
      refine c_region ?_
      refine w_pure (y_load_boxs rfl) rfl ?_
      refine w_pure (y_load_boxs rfl) rfl ?_
      refine w_val rfl rfl rfl (iSameCounter_c (xs := xs) (ys := ys)) rfl (fun w4 hx4 hz4 => ?_)
      refine w_pure (y_assign rfl) rfl ?_
      refine w_nil ?_
      refine x_next ?_
      refine c_seq ?_
      refine c_seq ?_
      refine c_region ?_
      refine w_pure (y_move rfl) rfl ?_
      refine w_pure (y_move rfl) rfl ?_
      refine w_pure (y_neb rfl rfl) rfl ?_
      refine w_nil ?_
      refine x_next ?_
      (refine c_dec rfl (fun hc => ?_) (fun hc => ?_) <;> try (first | (exfalso; omega) | exact absurd rfl hc))
      refine c_skip ?_
      refine x_next ?_
      refine c_seq ?_
      refine c_seq ?_
      refine c_region_held mixed (fun wd hxd hzd => ?_)
      refine h_pure rfl (y_load_boxs rfl) rfl ?_
      refine h_pure rfl (y_load_boxs rfl) rfl ?_
      refine h_one rfl ?_
      rotate_left
    refine w_call rfl rfl rfl (toCounter_c (xs := xs) _) rfl ?_
    rintro _ w7 ⟨v7, rfl, ho7, hx7⟩
    have hl7 := ho7.lt
    have hz7 := hx7.size
    focus
      refine w_nil ?_
      refine x_held ?_
      refine h_one rfl ?_
      refine w_val rfl rfl rfl (eqCounter_c (xs := xs) (ys := xs)) rfl (fun w8 hx8 hz8 => ?_)
      refine w_nil ?_
      refine x_held ?_
      refine h_pure rfl (y_not_dec rfl) rfl ?_
      refine h_nil ?_
      refine x_next ?_
      (refine c_dec rfl (fun hc => ?_) (fun hc => ?_) <;> try (first | (exfalso; omega) | exact absurd rfl hc))
      refine c_skip ?_
      refine x_next ?_
      refine c_seq ?_
      refine c_seq ?_
      refine c_region_held mixed (fun wd hxd hzd => ?_)
      refine h_pure rfl (y_load_boxs rfl) rfl ?_
      refine h_pure rfl (y_load_boxs rfl) rfl ?_
      refine h_one rfl ?_
      rotate_left
    refine w_call rfl rfl rfl (toCounter_c (xs := ys) _) rfl ?_
    rintro _ w9 ⟨v9, rfl, ho9, hx9⟩
    have hl9 := ho9.lt
    have hz9 := hx9.size
    focus
      refine w_nil ?_
      refine x_held ?_
      refine h_one rfl ?_
      refine w_val rfl rfl rfl (eqCounter_c (xs := ys) (ys := ys)) rfl (fun w10 hx10 hz10 => ?_)
      refine w_nil ?_
      refine x_held ?_
      refine h_pure rfl (y_not_dec rfl) rfl ?_
      refine h_nil ?_
      refine x_next ?_
      (refine c_dec rfl (fun hc => ?_) (fun hc => ?_) <;> try (first | (exfalso; omega) | exact absurd rfl hc))
      refine c_skip ?_
      refine x_next ?_
      refine c_seq ?_
      refine c_region ?_
      refine w_pure (y_assign rfl) rfl ?_
      refine w_nil ?_
      refine x_next ?_
      refine c_ret ?_
      rotate_left
    exact x_retv [_] rfl ⟨rfl, trivial⟩ ⟨rfl, by (repeat (first | exact Chg.refl _ _ _ | assumption | refine Chg.next ?_ (by assumption) (by omega)))⟩
end Go.Proofs.Ytdgofpgpidhobaa

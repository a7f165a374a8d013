/- The walk of the law on valid setups. -/
import Derived.Test.YtflcfpcggopbaaaSetA
namespace Go.Proofs.Ytflcfpcggopbaaa
open Go Go.Gw
set_option linter.unusedVariables false
set_option linter.unusedSimpArgs false
theorem lValidSetup (w0 : World) (x0 : { x : OSt // x.ok w0 }) (a1 : Int) (i1 : In64 a1) : Ret Try.prog 3 [.agg #[.int .i64 x0.1.f, .int .i64 x0.1.t, x0.1.v, .bool x0.1.d], .int .i64 a1] w0 fun u w' => u = .bool true ∧ Ext w0 w' := by
  obtain ⟨⟨f0, t0, v0, ws0, d0⟩, hok0⟩ := x0
  have s0 : SL w0 0 w0.heap.size v0 ws0 := hok0.sl
  have r0 := hok0.in64
  have rf0 : In64 f0 := hok0.f
  have rt0 : In64 t0 := hok0.t
  show Ret _ _ [.agg #[.int .i64 f0, .int .i64 t0, v0, .bool d0], .int .i64 a1] w0 _
  clear hok0
  have E : Since 0 0 w0 w0 := Since.refl 0 0 w0
  refine ret_enter Try.func3 rfl Try.ntmps3 rfl ?_
  focus
    refine c_seq ?_
    refine c_region ?_
    refine w_box rfl (k := fun b2 w2 hb2 hx2 hl2 hs2 => ?_)
    have hz_hx2 := hx2.size
    replace s0 := s0.ext hx2
    replace E := E.trans hx2
    refine w_pure (y_assign rfl) rfl ?_
    refine w_nil ?_
    refine x_next ?_
    refine c_seq ?_
    refine c_region ?_
    refine w_pure (y_assign rfl) rfl ?_
    refine w_nil ?_
    refine x_next ?_
    refine c_seq ?_
    refine c_region ?_
    refine w_pure (y_load_boxs rfl) rfl ?_
    refine w_pure (y_move rfl) rfl ?_
    (refine w_call rfl rfl rfl (szSetup_z) rfl ?_; rintro _ w11 ⟨z11, ⟨rfl, ⟨hp1_11, hx11⟩⟩⟩)
    have hz_hx11 := hx11.size
    replace hb2 := hb2.ext hx11
    replace s0 := s0.ext hx11
    replace E := E.trans hx11
    refine w_pure (y_assign rfl) rfl ?_
    refine w_nil ?_
    refine x_next ?_
    refine c_seq ?_
    refine c_seq ?_
    refine c_region ?_
    refine w_pure (y_move rfl) rfl ?_
    refine w_pure (y_lt rfl rfl) rfl ?_
    refine w_nil ?_
    refine x_next ?_
    (refine c_dec rfl (fun hc13 => ?_) (fun hc13 => ?_) <;> try (first | exact absurd rfl hc13 | contradiction | exact Bool.noConfusion (show false = true from hc13.symm.trans (by assumption)) | exact Bool.noConfusion (show true = false from hc13.symm.trans (by assumption)) | (exfalso; omega) | (exfalso; simp only [*, Bool.not_true, Bool.not_false, reduceCtorEq] at hc13; done)))
    refine c_seq ?_
    refine c_region ?_
    refine w_pure (y_assign rfl) rfl ?_
    refine w_nil ?_
    refine x_next ?_
    refine c_ret ?_
    refine x_then_ret ?_
    exact x_retv [_] rfl ⟨rfl, trivial⟩ ⟨rfl, E.go⟩
    refine c_skip ?_
    refine x_next ?_
    refine c_seq ?_
    refine c_region ?_
    refine w_pure (y_load_boxs rfl) rfl ?_
    (refine w_call rfl rfl rfl (toSetup_c) rfl ?_; rintro _ w15 ⟨d15, ⟨rfl, ⟨hp1_15, hx15⟩⟩⟩)
    have hz_hx15 := hx15.size
    replace hb2 := hb2.ext hx15
    replace s0 := s0.ext hx15
    replace E := E.trans hx15
    replace hp1_15 := hp1_15.fresh
    refine w_pure (y_move rfl) rfl ?_
    refine w_val rfl rfl rfl (sValidSetup_c _) rfl (fun w17 hx17 hz17 => ?_)
    have hz_hx17 := hx17.size
    replace hb2 := hb2.ext hx17
    replace s0 := s0.ext hx17
    replace E := E.trans hx17
    replace hp1_15 := hp1_15.ext hx17
    refine w_pure (y_assign rfl) rfl ?_
    refine w_nil ?_
    refine x_next ?_
    refine c_seq ?_
    refine c_region ?_
    refine w_pure (y_load_boxs rfl) rfl ?_
    (refine w_call rfl rfl rfl (toSetup_c) rfl ?_; rintro _ w19 ⟨d19, ⟨rfl, ⟨hp1_19, hx19⟩⟩⟩)
    have hz_hx19 := hx19.size
    replace hb2 := hb2.ext hx19
    replace s0 := s0.ext hx19
    replace E := E.trans hx19
    replace hp1_15 := hp1_15.ext hx19
    replace hp1_19 := hp1_19.fresh
    refine w_alloc (k := fun b7 w7 hb7 hx7 hl7 hs7 => ?_)
    have hz_hx7 := hx7.size
    replace hb2 := hb2.ext hx7
    replace s0 := s0.ext hx7
    replace E := E.trans hx7
    replace hp1_15 := hp1_15.ext hx7
    replace hp1_19 := hp1_19.ext hx7
    refine w_store_boxs rfl rfl (next := fun ws52 hbs52 hxs52 hss52 => ?_)
    (replace hb7 := hbs52; clear hbs52)
    have hz_hxs52 := hxs52.size
    replace hb2 := hb2.chg hxs52 (by omega)
    replace s0 := s0.chg hxs52 (by omega)
    replace E := E.next hxs52 (by omega)
    replace hp1_15 := hp1_15.chg hxs52 (by omega)
    replace hp1_19 := hp1_19.chg hxs52 (by omega)
    refine w_nil ?_
    refine x_next ?_
    refine c_seq ?_
    refine c_region ?_
    refine w_pure (y_load_boxs rfl) rfl ?_
    refine w_pure (y_move rfl) rfl ?_
    refine w_val rfl rfl rfl (iValidSetup_c _) rfl (fun w22 hx22 hz22 => ?_)
    have hz_hx22 := hx22.size
    replace hb7 := hb7.ext hx22
    replace hb2 := hb2.ext hx22
    replace s0 := s0.ext hx22
    replace E := E.trans hx22
    replace hp1_15 := hp1_15.ext hx22
    replace hp1_19 := hp1_19.ext hx22
    refine w_pure (y_assign rfl) rfl ?_
    refine w_nil ?_
    refine x_next ?_
    refine c_seq ?_
    refine c_seq ?_
    refine c_region ?_
    refine w_pure (y_move rfl) rfl ?_
    refine w_pure (y_move rfl) rfl ?_
    refine w_pure (y_neb rfl rfl) rfl ?_
    refine w_nil ?_
    refine x_next ?_
    refine c_nsame rfl ?_
    refine c_skip ?_
    refine x_next ?_
    refine c_seq ?_
    refine c_seq ?_
    refine c_region_held mixed (fun wr10 hxr10 hzr10 => ?_)
    have hz_hxr10 := hxr10.size
    replace hb7 := hb7.ext hxr10
    replace hb2 := hb2.ext hxr10
    replace s0 := s0.ext hxr10
    replace E := E.trans hxr10
    replace hp1_15 := hp1_15.ext hxr10
    replace hp1_19 := hp1_19.ext hxr10
    refine h_pure rfl (y_load_boxs rfl) rfl ?_
    refine h_pure rfl (y_load_boxs rfl) rfl ?_
    refine h_one rfl ?_
    (refine w_call rfl rfl rfl (toSetup_c) rfl ?_; rintro _ w28 ⟨d28, ⟨rfl, ⟨hp1_28, hx28⟩⟩⟩)
    have hz_hx28 := hx28.size
    replace hb7 := hb7.ext hx28
    replace hb2 := hb2.ext hx28
    replace s0 := s0.ext hx28
    replace E := E.trans hx28
    replace hp1_15 := hp1_15.ext hx28
    replace hp1_19 := hp1_19.ext hx28
    replace hp1_28 := hp1_28.fresh
    refine w_nil ?_
    refine x_held ?_
    refine h_one rfl ?_
    refine w_val rfl rfl rfl (eqSetup_c) rfl (fun w29 hx29 hz29 => ?_)
    have hz_hx29 := hx29.size
    replace hb7 := hb7.ext hx29
    replace hb2 := hb2.ext hx29
    replace s0 := s0.ext hx29
    replace E := E.trans hx29
    replace hp1_15 := hp1_15.ext hx29
    replace hp1_19 := hp1_19.ext hx29
    replace hp1_28 := hp1_28.ext hx29
    refine w_nil ?_
    refine x_held ?_
    refine h_pure rfl (y_not_dec rfl) rfl ?_
    refine h_nil ?_
    refine x_next ?_
    refine c_nsame rfl ?_
    refine c_skip ?_
    refine x_next ?_
    refine c_seq ?_
    refine c_region ?_
    refine w_pure (y_assign rfl) rfl ?_
    refine w_nil ?_
    refine x_next ?_
    refine c_ret ?_
    exact x_retv [_] rfl ⟨rfl, trivial⟩ ⟨rfl, E.go⟩
end Go.Proofs.Ytflcfpcggopbaaa

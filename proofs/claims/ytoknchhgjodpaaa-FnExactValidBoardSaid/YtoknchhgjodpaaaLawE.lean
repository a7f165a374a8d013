/- The walks of the laws on boards that are valid, boards that are the same. -/
import Derived.Test.YtoknchhgjodpaaaBrdA
namespace Go.Proofs.Ytoknchhgjodpaaa
open Go Go.Gw
set_option linter.unusedVariables false
set_option linter.unusedSimpArgs false
theorem lValidBoard (w0 : World) (x0 : { x : OBd // x.ok w0 }) : Ret Try.prog 4 [.agg #[.int .i64 x0.1.e, .int .i64 x0.1.n, .int .i64 x0.1.j, x0.1.v]] w0 fun u w' => u = .bool true ∧ Ext w0 w' := by
  obtain ⟨⟨e0, n0, j0, v0, ws0⟩, hok0⟩ := x0
  have s0 : SL w0 0 w0.heap.size v0 ws0 := hok0.sl
  have r0 := hok0.in64
  have re0 : In64 e0 := hok0.e
  have rn0 : In64 n0 := hok0.n
  have rj0 : In64 j0 := hok0.j
  show Ret _ _ [.agg #[.int .i64 e0, .int .i64 n0, .int .i64 j0, v0]] w0 _
  clear hok0
  have E : Since 0 0 w0 w0 := Since.refl 0 0 w0
  refine ret_enter Try.func4 rfl Try.ntmps4 rfl ?_
  focus
    refine c_seq ?_
    refine c_region ?_
    refine w_box rfl (k := fun b1 w1 hb1 hx1 hl1 hs1 => ?_)
    have hz_hx1 := hx1.size
    replace s0 := s0.ext hx1
    replace E := E.trans hx1
    refine w_pure (y_assign rfl) rfl ?_
    refine w_nil ?_
    refine x_next ?_
    refine c_seq ?_
    refine c_region ?_
    refine w_pure (y_assign rfl) rfl ?_
    refine w_nil ?_
    refine x_next ?_
    refine c_seq ?_
    refine c_region ?_
    refine w_pure (y_load_boxs rfl) rfl ?_
    refine w_pure (y_move rfl) rfl ?_
    (refine w_call rfl rfl rfl (szBoard_z) rfl ?_; rintro _ w9 ⟨z9, ⟨rfl, ⟨hp1_9, hx9⟩⟩⟩)
    have hz_hx9 := hx9.size
    replace hb1 := hb1.ext hx9
    replace s0 := s0.ext hx9
    replace E := E.trans hx9
    refine w_pure (y_assign rfl) rfl ?_
    refine w_nil ?_
    refine x_next ?_
    refine c_seq ?_
    refine c_seq ?_
    refine c_region ?_
    refine w_pure (y_move rfl) rfl ?_
    refine w_pure (y_lt rfl rfl) rfl ?_
    refine w_nil ?_
    refine x_next ?_
    (refine c_dec rfl (fun hc11 => ?_) (fun hc11 => ?_) <;> try (first | exact absurd rfl hc11 | contradiction | exact Bool.noConfusion (show false = true from hc11.symm.trans (by assumption)) | exact Bool.noConfusion (show true = false from hc11.symm.trans (by assumption)) | (exfalso; omega) | (exfalso; simp only [*, Bool.not_true, Bool.not_false, reduceCtorEq] at hc11; done)))
    refine c_seq ?_
    refine c_region ?_
    refine w_pure (y_assign rfl) rfl ?_
    refine w_nil ?_
    refine x_next ?_
    refine c_ret ?_
    refine x_then_ret ?_
    exact x_retv [_] rfl ⟨rfl, trivial⟩ ⟨rfl, E.go⟩
    refine c_skip ?_
    refine x_next ?_
    refine c_seq ?_
    refine c_region ?_
    refine w_pure (y_load_boxs rfl) rfl ?_
    (refine w_call rfl rfl rfl (toBoard_c) rfl ?_; rintro _ w13 ⟨d13, ⟨rfl, ⟨hp1_13, hx13⟩⟩⟩)
    have hz_hx13 := hx13.size
    replace hb1 := hb1.ext hx13
    replace s0 := s0.ext hx13
    replace E := E.trans hx13
    replace hp1_13 := hp1_13.fresh
    refine w_val rfl rfl rfl (sValidBoard_c) rfl (fun w14 hx14 hz14 => ?_)
    have hz_hx14 := hx14.size
    replace hb1 := hb1.ext hx14
    replace s0 := s0.ext hx14
    replace E := E.trans hx14
    replace hp1_13 := hp1_13.ext hx14
    refine w_pure (y_assign rfl) rfl ?_
    refine w_nil ?_
    refine x_next ?_
    refine c_seq ?_
    refine c_region ?_
    refine w_pure (y_load_boxs rfl) rfl ?_
    (refine w_call rfl rfl rfl (toBoard_c) rfl ?_; rintro _ w16 ⟨d16, ⟨rfl, ⟨hp1_16, hx16⟩⟩⟩)
    have hz_hx16 := hx16.size
    replace hb1 := hb1.ext hx16
    replace s0 := s0.ext hx16
    replace E := E.trans hx16
    replace hp1_13 := hp1_13.ext hx16
    replace hp1_16 := hp1_16.fresh
    refine w_alloc (k := fun b5 w5 hb5 hx5 hl5 hs5 => ?_)
    have hz_hx5 := hx5.size
    replace hb1 := hb1.ext hx5
    replace s0 := s0.ext hx5
    replace E := E.trans hx5
    replace hp1_13 := hp1_13.ext hx5
    replace hp1_16 := hp1_16.ext hx5
    refine w_store_boxs rfl rfl (next := fun ws51 hbs51 hxs51 hss51 => ?_)
    (replace hb5 := hbs51; clear hbs51)
    have hz_hxs51 := hxs51.size
    replace hb1 := hb1.chg hxs51 (by omega)
    replace s0 := s0.chg hxs51 (by omega)
    replace E := E.next hxs51 (by omega)
    replace hp1_13 := hp1_13.chg hxs51 (by omega)
    replace hp1_16 := hp1_16.chg hxs51 (by omega)
    refine w_nil ?_
    refine x_next ?_
    refine c_seq ?_
    refine c_region ?_
    refine w_pure (y_load_boxs rfl) rfl ?_
    refine w_val rfl rfl rfl (iValidBoard_c) rfl (fun w18 hx18 hz18 => ?_)
    have hz_hx18 := hx18.size
    replace hb5 := hb5.ext hx18
    replace hb1 := hb1.ext hx18
    replace s0 := s0.ext hx18
    replace E := E.trans hx18
    replace hp1_13 := hp1_13.ext hx18
    replace hp1_16 := hp1_16.ext hx18
    refine w_pure (y_assign rfl) rfl ?_
    refine w_nil ?_
    refine x_next ?_
    refine c_seq ?_
    refine c_seq ?_
    refine c_region ?_
    refine w_pure (y_move rfl) rfl ?_
    refine w_pure (y_move rfl) rfl ?_
    refine w_pure (y_neb rfl rfl) rfl ?_
    refine w_nil ?_
    refine x_next ?_
    refine c_nsame rfl ?_
    refine c_skip ?_
    refine x_next ?_
    refine c_seq ?_
    refine c_seq ?_
    refine c_region_held mixed (fun wr10 hxr10 hzr10 => ?_)
    have hz_hxr10 := hxr10.size
    replace hb5 := hb5.ext hxr10
    replace hb1 := hb1.ext hxr10
    replace s0 := s0.ext hxr10
    replace E := E.trans hxr10
    replace hp1_13 := hp1_13.ext hxr10
    replace hp1_16 := hp1_16.ext hxr10
    refine h_pure rfl (y_load_boxs rfl) rfl ?_
    refine h_pure rfl (y_load_boxs rfl) rfl ?_
    refine h_one rfl ?_
    (refine w_call rfl rfl rfl (toBoard_c) rfl ?_; rintro _ w24 ⟨d24, ⟨rfl, ⟨hp1_24, hx24⟩⟩⟩)
    have hz_hx24 := hx24.size
    replace hb5 := hb5.ext hx24
    replace hb1 := hb1.ext hx24
    replace s0 := s0.ext hx24
    replace E := E.trans hx24
    replace hp1_13 := hp1_13.ext hx24
    replace hp1_16 := hp1_16.ext hx24
    replace hp1_24 := hp1_24.fresh
    refine w_nil ?_
    refine x_held ?_
    refine h_one rfl ?_
    refine w_val rfl rfl rfl (eqBoard_c) rfl (fun w25 hx25 hz25 => ?_)
    have hz_hx25 := hx25.size
    replace hb5 := hb5.ext hx25
    replace hb1 := hb1.ext hx25
    replace s0 := s0.ext hx25
    replace E := E.trans hx25
    replace hp1_13 := hp1_13.ext hx25
    replace hp1_16 := hp1_16.ext hx25
    replace hp1_24 := hp1_24.ext hx25
    refine w_nil ?_
    refine x_held ?_
    refine h_pure rfl (y_not_dec rfl) rfl ?_
    refine h_nil ?_
    refine x_next ?_
    refine c_nsame rfl ?_
    refine c_skip ?_
    refine x_next ?_
    refine c_seq ?_
    refine c_region ?_
    refine w_pure (y_assign rfl) rfl ?_
    refine w_nil ?_
    refine x_next ?_
    refine c_ret ?_
    exact x_retv [_] rfl ⟨rfl, trivial⟩ ⟨rfl, E.go⟩
theorem lSameBoard (w0 : World) (x0 : { x : OBd // x.ok w0 }) (x1 : { x : OBd // x.ok w0 }) : Ret Try.prog 3 [.agg #[.int .i64 x0.1.e, .int .i64 x0.1.n, .int .i64 x0.1.j, x0.1.v], .agg #[.int .i64 x1.1.e, .int .i64 x1.1.n, .int .i64 x1.1.j, x1.1.v]] w0 fun u w' => u = .bool true ∧ Ext w0 w' := by
  obtain ⟨⟨e0, n0, j0, v0, ws0⟩, hok0⟩ := x0
  have s0 : SL w0 0 w0.heap.size v0 ws0 := hok0.sl
  have r0 := hok0.in64
  have re0 : In64 e0 := hok0.e
  have rn0 : In64 n0 := hok0.n
  have rj0 : In64 j0 := hok0.j
  obtain ⟨⟨e1, n1, j1, v1, ws1⟩, hok1⟩ := x1
  have s1 : SL w0 0 w0.heap.size v1 ws1 := hok1.sl
  have r1 := hok1.in64
  have re1 : In64 e1 := hok1.e
  have rn1 : In64 n1 := hok1.n
  have rj1 : In64 j1 := hok1.j
  show Ret _ _ [.agg #[.int .i64 e0, .int .i64 n0, .int .i64 j0, v0], .agg #[.int .i64 e1, .int .i64 n1, .int .i64 j1, v1]] w0 _
  clear hok0 hok1
  have E : Since 0 0 w0 w0 := Since.refl 0 0 w0
  refine ret_enter Try.func3 rfl Try.ntmps3 rfl ?_
  focus
    refine c_seq ?_
    refine c_region ?_
    refine w_box rfl (k := fun b2 w2 hb2 hx2 hl2 hs2 => ?_)
    have hz_hx2 := hx2.size
    replace s0 := s0.ext hx2
    replace s1 := s1.ext hx2
    replace E := E.trans hx2
    refine w_box rfl (k := fun b3 w3 hb3 hx3 hl3 hs3 => ?_)
    have hz_hx3 := hx3.size
    replace hb2 := hb2.ext hx3
    replace s0 := s0.ext hx3
    replace s1 := s1.ext hx3
    replace E := E.trans hx3
    refine w_pure (y_assign rfl) rfl ?_
    refine w_nil ?_
    refine x_next ?_
    refine c_seq ?_
    refine c_region ?_
    refine w_pure (y_assign rfl) rfl ?_
    refine w_nil ?_
    refine x_next ?_
    refine c_seq ?_
    refine c_region ?_
    refine w_pure (y_load_boxs rfl) rfl ?_
    refine w_pure (y_move rfl) rfl ?_
    (refine w_call rfl rfl rfl (szBoard_z) rfl ?_; rintro _ w12 ⟨z12, ⟨rfl, ⟨hp1_12, hx12⟩⟩⟩)
    have hz_hx12 := hx12.size
    replace hb3 := hb3.ext hx12
    replace hb2 := hb2.ext hx12
    replace s0 := s0.ext hx12
    replace s1 := s1.ext hx12
    replace E := E.trans hx12
    refine w_pure (y_assign rfl) rfl ?_
    refine w_nil ?_
    refine x_next ?_
    refine c_seq ?_
    refine c_seq ?_
    refine c_region ?_
    refine w_pure (y_move rfl) rfl ?_
    refine w_pure (y_lt rfl rfl) rfl ?_
    refine w_nil ?_
    refine x_next ?_
    (refine c_dec rfl (fun hc14 => ?_) (fun hc14 => ?_) <;> try (first | exact absurd rfl hc14 | contradiction | exact Bool.noConfusion (show false = true from hc14.symm.trans (by assumption)) | exact Bool.noConfusion (show true = false from hc14.symm.trans (by assumption)) | (exfalso; omega) | (exfalso; simp only [*, Bool.not_true, Bool.not_false, reduceCtorEq] at hc14; done)))
    refine c_seq ?_
    refine c_region ?_
    refine w_pure (y_assign rfl) rfl ?_
    refine w_nil ?_
    refine x_next ?_
    refine c_ret ?_
    refine x_then_ret ?_
    exact x_retv [_] rfl ⟨rfl, trivial⟩ ⟨rfl, E.go⟩
    refine c_skip ?_
    refine x_next ?_
    refine c_seq ?_
    refine c_region ?_
    refine w_pure (y_load_boxs rfl) rfl ?_
    refine w_pure (y_move rfl) rfl ?_
    (refine w_call rfl rfl rfl (szBoard_z) rfl ?_; rintro _ w17 ⟨z17, ⟨rfl, ⟨hp1_17, hx17⟩⟩⟩)
    have hz_hx17 := hx17.size
    replace hb3 := hb3.ext hx17
    replace hb2 := hb2.ext hx17
    replace s0 := s0.ext hx17
    replace s1 := s1.ext hx17
    replace E := E.trans hx17
    refine w_pure (y_assign rfl) rfl ?_
    refine w_nil ?_
    refine x_next ?_
    refine c_seq ?_
    refine c_seq ?_
    refine c_region ?_
    refine w_pure (y_move rfl) rfl ?_
    refine w_pure (y_lt rfl rfl) rfl ?_
    refine w_nil ?_
    refine x_next ?_
    (refine c_dec rfl (fun hc19 => ?_) (fun hc19 => ?_) <;> try (first | exact absurd rfl hc19 | contradiction | exact Bool.noConfusion (show false = true from hc19.symm.trans (by assumption)) | exact Bool.noConfusion (show true = false from hc19.symm.trans (by assumption)) | (exfalso; omega) | (exfalso; simp only [*, Bool.not_true, Bool.not_false, reduceCtorEq] at hc19; done)))
    refine c_seq ?_
    refine c_region ?_
    refine w_pure (y_assign rfl) rfl ?_
    refine w_nil ?_
    refine x_next ?_
    refine c_ret ?_
    refine x_then_ret ?_
    exact x_retv [_] rfl ⟨rfl, trivial⟩ ⟨rfl, E.go⟩
    refine c_skip ?_
    refine x_next ?_
    refine c_seq ?_
    refine c_region_held mixed (fun wr8 hxr8 hzr8 => ?_)
    have hz_hxr8 := hxr8.size
    replace hb3 := hb3.ext hxr8
    replace hb2 := hb2.ext hxr8
    replace s0 := s0.ext hxr8
    replace s1 := s1.ext hxr8
    replace E := E.trans hxr8
    refine h_pure rfl (y_load_boxs rfl) rfl ?_
    refine h_turn ?_
    refine h_pure rfl (y_load_boxs rfl) rfl ?_
    refine h_turn ?_
    refine h_turn ?_
    refine h_turn ?_
    refine h_one rfl ?_
    (refine w_call rfl rfl rfl (toBoard_c) rfl ?_; rintro _ w21 ⟨d21, ⟨rfl, ⟨hp1_21, hx21⟩⟩⟩)
    have hz_hx21 := hx21.size
    replace hb3 := hb3.ext hx21
    replace hb2 := hb2.ext hx21
    replace s0 := s0.ext hx21
    replace s1 := s1.ext hx21
    replace E := E.trans hx21
    replace hp1_21 := hp1_21.fresh
    refine w_nil ?_
    refine x_held ?_
    refine h_one rfl ?_
    (refine w_call rfl rfl rfl (toBoard_c) rfl ?_; rintro _ w23 ⟨d23, ⟨rfl, ⟨hp1_23, hx23⟩⟩⟩)
    have hz_hx23 := hx23.size
    replace hb3 := hb3.ext hx23
    replace hb2 := hb2.ext hx23
    replace s0 := s0.ext hx23
    replace s1 := s1.ext hx23
    replace E := E.trans hx23
    replace hp1_21 := hp1_21.ext hx23
    replace hp1_23 := hp1_23.fresh
    refine w_nil ?_
    refine x_held ?_
    refine h_one rfl ?_
    refine w_val rfl rfl rfl (sSameBoard_c) rfl (fun w24 hx24 hz24 => ?_)
    have hz_hx24 := hx24.size
    replace hb3 := hb3.ext hx24
    replace hb2 := hb2.ext hx24
    replace s0 := s0.ext hx24
    replace s1 := s1.ext hx24
    replace E := E.trans hx24
    replace hp1_21 := hp1_21.ext hx24
    replace hp1_23 := hp1_23.ext hx24
    refine w_nil ?_
    refine x_held ?_
    refine h_pure rfl (y_assign rfl) rfl ?_
    refine h_nil ?_
    refine x_next ?_
    refine c_seq ?_
    refine c_region ?_
    refine w_pure (y_load_boxs rfl) rfl ?_
    (refine w_call rfl rfl rfl (toBoard_c) rfl ?_; rintro _ w26 ⟨d26, ⟨rfl, ⟨hp1_26, hx26⟩⟩⟩)
    have hz_hx26 := hx26.size
    replace hb3 := hb3.ext hx26
    replace hb2 := hb2.ext hx26
    replace s0 := s0.ext hx26
    replace s1 := s1.ext hx26
    replace E := E.trans hx26
    replace hp1_21 := hp1_21.ext hx26
    replace hp1_23 := hp1_23.ext hx26
    replace hp1_26 := hp1_26.fresh
    refine w_alloc (k := fun b7 w7 hb7 hx7 hl7 hs7 => ?_)
    have hz_hx7 := hx7.size
    replace hb3 := hb3.ext hx7
    replace hb2 := hb2.ext hx7
    replace s0 := s0.ext hx7
    replace s1 := s1.ext hx7
    replace E := E.trans hx7
    replace hp1_21 := hp1_21.ext hx7
    replace hp1_23 := hp1_23.ext hx7
    replace hp1_26 := hp1_26.ext hx7
    refine w_store_boxs rfl rfl (next := fun ws93 hbs93 hxs93 hss93 => ?_)
    (replace hb7 := hbs93; clear hbs93)
    have hz_hxs93 := hxs93.size
    replace hb3 := hb3.chg hxs93 (by omega)
    replace hb2 := hb2.chg hxs93 (by omega)
    replace s0 := s0.chg hxs93 (by omega)
    replace s1 := s1.chg hxs93 (by omega)
    replace E := E.next hxs93 (by omega)
    replace hp1_21 := hp1_21.chg hxs93 (by omega)
    replace hp1_23 := hp1_23.chg hxs93 (by omega)
    replace hp1_26 := hp1_26.chg hxs93 (by omega)
    refine w_nil ?_
    refine x_next ?_
    refine c_seq ?_
    refine c_region ?_
    refine w_pure (y_load_boxs rfl) rfl ?_
    (refine w_call rfl rfl rfl (toBoard_c) rfl ?_; rintro _ w28 ⟨d28, ⟨rfl, ⟨hp1_28, hx28⟩⟩⟩)
    have hz_hx28 := hx28.size
    replace hb7 := hb7.ext hx28
    replace hb3 := hb3.ext hx28
    replace hb2 := hb2.ext hx28
    replace s0 := s0.ext hx28
    replace s1 := s1.ext hx28
    replace E := E.trans hx28
    replace hp1_21 := hp1_21.ext hx28
    replace hp1_23 := hp1_23.ext hx28
    replace hp1_26 := hp1_26.ext hx28
    replace hp1_28 := hp1_28.fresh
    refine w_alloc (k := fun b8 w8 hb8 hx8 hl8 hs8 => ?_)
    have hz_hx8 := hx8.size
    replace hb7 := hb7.ext hx8
    replace hb3 := hb3.ext hx8
    replace hb2 := hb2.ext hx8
    replace s0 := s0.ext hx8
    replace s1 := s1.ext hx8
    replace E := E.trans hx8
    replace hp1_21 := hp1_21.ext hx8
    replace hp1_23 := hp1_23.ext hx8
    replace hp1_26 := hp1_26.ext hx8
    replace hp1_28 := hp1_28.ext hx8
    refine w_store_boxs rfl rfl (next := fun ws101 hbs101 hxs101 hss101 => ?_)
    (replace hb8 := hbs101; clear hbs101)
    have hz_hxs101 := hxs101.size
    replace hb7 := hb7.chg hxs101 (by omega)
    replace hb3 := hb3.chg hxs101 (by omega)
    replace hb2 := hb2.chg hxs101 (by omega)
    replace s0 := s0.chg hxs101 (by omega)
    replace s1 := s1.chg hxs101 (by omega)
    replace E := E.next hxs101 (by omega)
    replace hp1_21 := hp1_21.chg hxs101 (by omega)
    replace hp1_23 := hp1_23.chg hxs101 (by omega)
    replace hp1_26 := hp1_26.chg hxs101 (by omega)
    replace hp1_28 := hp1_28.chg hxs101 (by omega)
    refine w_nil ?_
    refine x_next ?_
    refine c_seq ?_
    refine c_region ?_
    refine w_pure (y_load_boxs rfl) rfl ?_
    refine w_pure (y_load_boxs rfl) rfl ?_
    refine w_val rfl rfl rfl (iSameBoard_c) rfl (fun w31 hx31 hz31 => ?_)
    have hz_hx31 := hx31.size
    replace hb8 := hb8.ext hx31
    replace hb7 := hb7.ext hx31
    replace hb3 := hb3.ext hx31
    replace hb2 := hb2.ext hx31
    replace s0 := s0.ext hx31
    replace s1 := s1.ext hx31
    replace E := E.trans hx31
    replace hp1_21 := hp1_21.ext hx31
    replace hp1_23 := hp1_23.ext hx31
    replace hp1_26 := hp1_26.ext hx31
    replace hp1_28 := hp1_28.ext hx31
    refine w_pure (y_assign rfl) rfl ?_
    refine w_nil ?_
    refine x_next ?_
    refine c_seq ?_
    refine c_seq ?_
    refine c_region ?_
    refine w_pure (y_move rfl) rfl ?_
    refine w_pure (y_move rfl) rfl ?_
    refine w_pure (y_neb rfl rfl) rfl ?_
    refine w_nil ?_
    refine x_next ?_
    refine c_nsame rfl ?_
    refine c_skip ?_
    refine x_next ?_
    refine c_seq ?_
    refine c_seq ?_
    refine c_region_held mixed (fun wr14 hxr14 hzr14 => ?_)
    have hz_hxr14 := hxr14.size
    replace hb8 := hb8.ext hxr14
    replace hb7 := hb7.ext hxr14
    replace hb3 := hb3.ext hxr14
    replace hb2 := hb2.ext hxr14
    replace s0 := s0.ext hxr14
    replace s1 := s1.ext hxr14
    replace E := E.trans hxr14
    replace hp1_21 := hp1_21.ext hxr14
    replace hp1_23 := hp1_23.ext hxr14
    replace hp1_26 := hp1_26.ext hxr14
    replace hp1_28 := hp1_28.ext hxr14
    refine h_pure rfl (y_load_boxs rfl) rfl ?_
    refine h_pure rfl (y_load_boxs rfl) rfl ?_
    refine h_one rfl ?_
    (refine w_call rfl rfl rfl (toBoard_c) rfl ?_; rintro _ w37 ⟨d37, ⟨rfl, ⟨hp1_37, hx37⟩⟩⟩)
    have hz_hx37 := hx37.size
    replace hb8 := hb8.ext hx37
    replace hb7 := hb7.ext hx37
    replace hb3 := hb3.ext hx37
    replace hb2 := hb2.ext hx37
    replace s0 := s0.ext hx37
    replace s1 := s1.ext hx37
    replace E := E.trans hx37
    replace hp1_21 := hp1_21.ext hx37
    replace hp1_23 := hp1_23.ext hx37
    replace hp1_26 := hp1_26.ext hx37
    replace hp1_28 := hp1_28.ext hx37
    replace hp1_37 := hp1_37.fresh
    refine w_nil ?_
    refine x_held ?_
    refine h_one rfl ?_
    refine w_val rfl rfl rfl (eqBoard_c) rfl (fun w38 hx38 hz38 => ?_)
    have hz_hx38 := hx38.size
    replace hb8 := hb8.ext hx38
    replace hb7 := hb7.ext hx38
    replace hb3 := hb3.ext hx38
    replace hb2 := hb2.ext hx38
    replace s0 := s0.ext hx38
    replace s1 := s1.ext hx38
    replace E := E.trans hx38
    replace hp1_21 := hp1_21.ext hx38
    replace hp1_23 := hp1_23.ext hx38
    replace hp1_26 := hp1_26.ext hx38
    replace hp1_28 := hp1_28.ext hx38
    replace hp1_37 := hp1_37.ext hx38
    refine w_nil ?_
    refine x_held ?_
    refine h_pure rfl (y_not_dec rfl) rfl ?_
    refine h_nil ?_
    refine x_next ?_
    refine c_nsame rfl ?_
    refine c_skip ?_
    refine x_next ?_
    refine c_seq ?_
    refine c_seq ?_
    refine c_region_held mixed (fun wr16 hxr16 hzr16 => ?_)
    have hz_hxr16 := hxr16.size
    replace hb8 := hb8.ext hxr16
    replace hb7 := hb7.ext hxr16
    replace hb3 := hb3.ext hxr16
    replace hb2 := hb2.ext hxr16
    replace s0 := s0.ext hxr16
    replace s1 := s1.ext hxr16
    replace E := E.trans hxr16
    replace hp1_21 := hp1_21.ext hxr16
    replace hp1_23 := hp1_23.ext hxr16
    replace hp1_26 := hp1_26.ext hxr16
    replace hp1_28 := hp1_28.ext hxr16
    replace hp1_37 := hp1_37.ext hxr16
    refine h_pure rfl (y_load_boxs rfl) rfl ?_
    refine h_pure rfl (y_load_boxs rfl) rfl ?_
    refine h_one rfl ?_
    (refine w_call rfl rfl rfl (toBoard_c) rfl ?_; rintro _ w42 ⟨d42, ⟨rfl, ⟨hp1_42, hx42⟩⟩⟩)
    have hz_hx42 := hx42.size
    replace hb8 := hb8.ext hx42
    replace hb7 := hb7.ext hx42
    replace hb3 := hb3.ext hx42
    replace hb2 := hb2.ext hx42
    replace s0 := s0.ext hx42
    replace s1 := s1.ext hx42
    replace E := E.trans hx42
    replace hp1_21 := hp1_21.ext hx42
    replace hp1_23 := hp1_23.ext hx42
    replace hp1_26 := hp1_26.ext hx42
    replace hp1_28 := hp1_28.ext hx42
    replace hp1_37 := hp1_37.ext hx42
    replace hp1_42 := hp1_42.fresh
    refine w_nil ?_
    refine x_held ?_
    refine h_one rfl ?_
    refine w_val rfl rfl rfl (eqBoard_c) rfl (fun w43 hx43 hz43 => ?_)
    have hz_hx43 := hx43.size
    replace hb8 := hb8.ext hx43
    replace hb7 := hb7.ext hx43
    replace hb3 := hb3.ext hx43
    replace hb2 := hb2.ext hx43
    replace s0 := s0.ext hx43
    replace s1 := s1.ext hx43
    replace E := E.trans hx43
    replace hp1_21 := hp1_21.ext hx43
    replace hp1_23 := hp1_23.ext hx43
    replace hp1_26 := hp1_26.ext hx43
    replace hp1_28 := hp1_28.ext hx43
    replace hp1_37 := hp1_37.ext hx43
    replace hp1_42 := hp1_42.ext hx43
    refine w_nil ?_
    refine x_held ?_
    refine h_pure rfl (y_not_dec rfl) rfl ?_
    refine h_nil ?_
    refine x_next ?_
    refine c_nsame rfl ?_
    refine c_skip ?_
    refine x_next ?_
    refine c_seq ?_
    refine c_region ?_
    refine w_pure (y_assign rfl) rfl ?_
    refine w_nil ?_
    refine x_next ?_
    refine c_ret ?_
    exact x_retv [_] rfl ⟨rfl, trivial⟩ ⟨rfl, E.go⟩
end Go.Proofs.Ytoknchhgjodpaaa

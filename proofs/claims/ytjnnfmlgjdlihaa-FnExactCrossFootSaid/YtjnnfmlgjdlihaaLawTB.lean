/- The walk of the law on cross footing. -/
import Derived.Test.YtjnnfmlgjdlihaaCrfA
import Derived.Test.YtjnnfmlgjdlihaaDkO
namespace Go.Proofs.Ytjnnfmlgjdlihaa
open Go Go.Gw
set_option linter.unusedVariables false
set_option linter.unusedSimpArgs false
theorem lCrossFoot (w0 : World) (x0 : { x : OSl // x.ok w0 }) (x1 : { x : OPs // x.ok w0 }) (x2 : { x : OPs // x.ok w0 }) : Ret Try.prog 3 [.agg #[x0.1.v], x1.1.v, x2.1.v] w0 fun u w' => u = .bool true ∧ Ext w0 w' := by
  obtain ⟨⟨v0, xs0⟩, hok0⟩ := x0
  have s0 : SL w0 0 w0.heap.size v0 xs0 := hok0.sl
  have r0 := hok0.in64
  obtain ⟨⟨v1, ws1⟩, hok1⟩ := x1
  have s1 : SL w0 0 w0.heap.size v1 ws1 := hok1.sl
  have r1 := hok1.in64
  obtain ⟨⟨v2, ws2⟩, hok2⟩ := x2
  have s2 : SL w0 0 w0.heap.size v2 ws2 := hok2.sl
  have r2 := hok2.in64
  show Ret _ _ [.agg #[v0], v1, v2] w0 _
  clear hok0 hok1 hok2
  have E : Since 0 0 w0 w0 := Since.refl 0 0 w0
  refine ret_enter Try.func3 rfl Try.ntmps3 rfl ?_
  focus
    refine c_seq ?_
    refine c_region ?_
    refine w_box rfl (k := fun b3 w3 hb3 hx3 hl3 hs3 => ?_)
    have hz_hx3 := hx3.size
    replace s0 := s0.ext hx3
    replace s1 := s1.ext hx3
    replace s2 := s2.ext hx3
    replace E := E.trans hx3
    refine w_pure (y_assign rfl) rfl ?_
    refine w_nil ?_
    refine x_next ?_
    refine c_seq ?_
    refine c_region ?_
    refine w_pure (y_assign rfl) rfl ?_
    refine w_nil ?_
    refine x_next ?_
    refine c_seq ?_
    refine c_region ?_
    refine w_pure (y_load_boxs rfl) rfl ?_
    refine w_pure (y_move rfl) rfl ?_
    (refine w_call rfl rfl rfl (szCard_z) rfl ?_; rintro _ w17 ⟨z17, ⟨rfl, ⟨hp1_17, hx17⟩⟩⟩)
    have hz_hx17 := hx17.size
    replace hb3 := hb3.ext hx17
    replace s0 := s0.ext hx17
    replace s1 := s1.ext hx17
    replace s2 := s2.ext hx17
    replace E := E.trans hx17
    refine w_pure (y_assign rfl) rfl ?_
    refine w_nil ?_
    refine x_next ?_
    refine c_seq ?_
    refine c_seq ?_
    refine c_region ?_
    refine w_pure (y_move rfl) rfl ?_
    refine w_pure (y_lt rfl rfl) rfl ?_
    refine w_nil ?_
    refine x_next ?_
    (refine c_dec rfl (fun hc19 => ?_) (fun hc19 => ?_) <;> try (first | exact absurd rfl hc19 | contradiction | exact Bool.noConfusion (show false = true from hc19.symm.trans (by assumption)) | exact Bool.noConfusion (show true = false from hc19.symm.trans (by assumption)) | (exfalso; omega) | (exfalso; simp only [*, Bool.not_true, Bool.not_false, reduceCtorEq] at hc19; done)))
    refine c_seq ?_
    refine c_region ?_
    refine w_pure (y_assign rfl) rfl ?_
    refine w_nil ?_
    refine x_next ?_
    refine c_ret ?_
    refine x_then_ret ?_
    exact x_retv [_] rfl ⟨rfl, trivial⟩ ⟨rfl, E.go⟩
    refine c_skip ?_
    refine x_next ?_
    refine c_seq ?_
    refine c_region ?_
    refine w_pure (y_move rfl) rfl ?_
    refine w_pure (y_move rfl) rfl ?_
    (refine w_call rfl rfl rfl (szFieldS_z) rfl ?_; rintro _ w22 ⟨z22, ⟨rfl, ⟨hp1_22, hx22⟩⟩⟩)
    have hz_hx22 := hx22.size
    replace hb3 := hb3.ext hx22
    replace s0 := s0.ext hx22
    replace s1 := s1.ext hx22
    replace s2 := s2.ext hx22
    replace E := E.trans hx22
    refine w_pure (y_assign rfl) rfl ?_
    refine w_nil ?_
    refine x_next ?_
    refine c_seq ?_
    refine c_seq ?_
    refine c_region ?_
    refine w_pure (y_move rfl) rfl ?_
    refine w_pure (y_lt rfl rfl) rfl ?_
    refine w_nil ?_
    refine x_next ?_
    (refine c_dec rfl (fun hc24 => ?_) (fun hc24 => ?_) <;> try (first | exact absurd rfl hc24 | contradiction | exact Bool.noConfusion (show false = true from hc24.symm.trans (by assumption)) | exact Bool.noConfusion (show true = false from hc24.symm.trans (by assumption)) | (exfalso; omega) | (exfalso; simp only [*, Bool.not_true, Bool.not_false, reduceCtorEq] at hc24; done)))
    refine c_seq ?_
    refine c_region ?_
    refine w_pure (y_assign rfl) rfl ?_
    refine w_nil ?_
    refine x_next ?_
    refine c_ret ?_
    refine x_then_ret ?_
    exact x_retv [_] rfl ⟨rfl, trivial⟩ ⟨rfl, E.go⟩
    refine c_skip ?_
    refine x_next ?_
    refine c_seq ?_
    refine c_region ?_
    refine w_pure (y_move rfl) rfl ?_
    refine w_pure (y_move rfl) rfl ?_
    (refine w_call rfl rfl rfl (szFieldS_z) rfl ?_; rintro _ w27 ⟨z27, ⟨rfl, ⟨hp1_27, hx27⟩⟩⟩)
    have hz_hx27 := hx27.size
    replace hb3 := hb3.ext hx27
    replace s0 := s0.ext hx27
    replace s1 := s1.ext hx27
    replace s2 := s2.ext hx27
    replace E := E.trans hx27
    refine w_pure (y_assign rfl) rfl ?_
    refine w_nil ?_
    refine x_next ?_
    refine c_seq ?_
    refine c_seq ?_
    refine c_region ?_
    refine w_pure (y_move rfl) rfl ?_
    refine w_pure (y_lt rfl rfl) rfl ?_
    refine w_nil ?_
    refine x_next ?_
    (refine c_dec rfl (fun hc29 => ?_) (fun hc29 => ?_) <;> try (first | exact absurd rfl hc29 | contradiction | exact Bool.noConfusion (show false = true from hc29.symm.trans (by assumption)) | exact Bool.noConfusion (show true = false from hc29.symm.trans (by assumption)) | (exfalso; omega) | (exfalso; simp only [*, Bool.not_true, Bool.not_false, reduceCtorEq] at hc29; done)))
    refine c_seq ?_
    refine c_region ?_
    refine w_pure (y_assign rfl) rfl ?_
    refine w_nil ?_
    refine x_next ?_
    refine c_ret ?_
    refine x_then_ret ?_
    exact x_retv [_] rfl ⟨rfl, trivial⟩ ⟨rfl, E.go⟩
    refine c_skip ?_
    refine x_next ?_
    refine c_seq ?_
    refine c_region ?_
    refine w_pure (y_load_boxs rfl) rfl ?_
    (refine w_call rfl rfl rfl (toCard_c _) rfl ?_; rintro _ w32 ⟨d32, ⟨rfl, ⟨hp1_32, hx32⟩⟩⟩)
    have hz_hx32 := hx32.size
    replace hb3 := hb3.ext hx32
    replace s0 := s0.ext hx32
    replace s1 := s1.ext hx32
    replace s2 := s2.ext hx32
    replace E := E.trans hx32
    replace hp1_32 := hp1_32.fresh
    refine w_pure (y_move rfl) rfl ?_
    (refine w_call rfl rfl rfl (toFieldS_c _) rfl ?_; rintro v34 w34 ⟨hp1_34, hx34⟩)
    have hz_hx34 := hx34.size
    replace hb3 := hb3.ext hx34
    replace s0 := s0.ext hx34
    replace s1 := s1.ext hx34
    replace s2 := s2.ext hx34
    replace E := E.trans hx34
    replace hp1_32 := hp1_32.ext hx34
    replace hp1_34 := hp1_34.fresh
    refine w_pure (y_move rfl) rfl ?_
    (refine w_call rfl rfl rfl (toFieldS_c _) rfl ?_; rintro v36 w36 ⟨hp1_36, hx36⟩)
    have hz_hx36 := hx36.size
    replace hb3 := hb3.ext hx36
    replace s0 := s0.ext hx36
    replace s1 := s1.ext hx36
    replace s2 := s2.ext hx36
    replace E := E.trans hx36
    replace hp1_32 := hp1_32.ext hx36
    replace hp1_34 := hp1_34.ext hx36
    replace hp1_36 := hp1_36.fresh
    refine w_val rfl rfl rfl (sCrossFoot_c) rfl (fun w37 hx37 hz37 => ?_)
    have hz_hx37 := hx37.size
    replace hb3 := hb3.ext hx37
    replace s0 := s0.ext hx37
    replace s1 := s1.ext hx37
    replace s2 := s2.ext hx37
    replace E := E.trans hx37
    replace hp1_32 := hp1_32.ext hx37
    replace hp1_34 := hp1_34.ext hx37
    replace hp1_36 := hp1_36.ext hx37
    refine w_pure (y_move rfl) rfl ?_
    refine w_pure (y_extract rfl rfl) rfl ?_
    refine w_pure (y_extract rfl rfl) rfl ?_
    refine w_pure (y_assign rfl) rfl ?_
    refine w_pure (y_assign rfl) rfl ?_
    refine w_nil ?_
    refine x_next ?_
    refine c_seq ?_
    refine c_region ?_
    refine w_pure (y_load_boxs rfl) rfl ?_
    (refine w_call rfl rfl rfl (toCard_c _) rfl ?_; rintro _ w41 ⟨d41, ⟨rfl, ⟨hp1_41, hx41⟩⟩⟩)
    have hz_hx41 := hx41.size
    replace hb3 := hb3.ext hx41
    replace s0 := s0.ext hx41
    replace s1 := s1.ext hx41
    replace s2 := s2.ext hx41
    replace E := E.trans hx41
    replace hp1_32 := hp1_32.ext hx41
    replace hp1_34 := hp1_34.ext hx41
    replace hp1_36 := hp1_36.ext hx41
    replace hp1_41 := hp1_41.fresh
    refine w_alloc (k := fun b10 w10 hb10 hx10 hl10 hs10 => ?_)
    have hz_hx10 := hx10.size
    replace hb3 := hb3.ext hx10
    replace s0 := s0.ext hx10
    replace s1 := s1.ext hx10
    replace s2 := s2.ext hx10
    replace E := E.trans hx10
    replace hp1_32 := hp1_32.ext hx10
    replace hp1_34 := hp1_34.ext hx10
    replace hp1_36 := hp1_36.ext hx10
    replace hp1_41 := hp1_41.ext hx10
    refine w_store_boxs rfl rfl (next := fun ws111 hbs111 hxs111 hss111 => ?_)
    (replace hb10 := hbs111; clear hbs111)
    have hz_hxs111 := hxs111.size
    replace hb3 := hb3.chg hxs111 (by omega)
    replace s0 := s0.chg hxs111 (by omega)
    replace s1 := s1.chg hxs111 (by omega)
    replace s2 := s2.chg hxs111 (by omega)
    replace E := E.next hxs111 (by omega)
    replace hp1_32 := hp1_32.chg hxs111 (by omega)
    replace hp1_34 := hp1_34.chg hxs111 (by omega)
    replace hp1_36 := hp1_36.chg hxs111 (by omega)
    replace hp1_41 := hp1_41.chg hxs111 (by omega)
    refine w_nil ?_
    refine x_next ?_
    refine c_seq ?_
    refine c_region ?_
    refine w_pure (y_move rfl) rfl ?_
    (refine w_call rfl rfl rfl (toFieldS_c _) rfl ?_; rintro v43 w43 ⟨hp1_43, hx43⟩)
    have hz_hx43 := hx43.size
    replace hb10 := hb10.ext hx43
    replace hb3 := hb3.ext hx43
    replace s0 := s0.ext hx43
    replace s1 := s1.ext hx43
    replace s2 := s2.ext hx43
    replace E := E.trans hx43
    replace hp1_32 := hp1_32.ext hx43
    replace hp1_34 := hp1_34.ext hx43
    replace hp1_36 := hp1_36.ext hx43
    replace hp1_41 := hp1_41.ext hx43
    replace hp1_43 := hp1_43.fresh
    refine w_pure (y_assign rfl) rfl ?_
    refine w_nil ?_
    refine x_next ?_
    refine c_seq ?_
    refine c_region ?_
    refine w_pure (y_move rfl) rfl ?_
    (refine w_call rfl rfl rfl (toFieldS_c _) rfl ?_; rintro v45 w45 ⟨hp1_45, hx45⟩)
    have hz_hx45 := hx45.size
    replace hb10 := hb10.ext hx45
    replace hb3 := hb3.ext hx45
    replace s0 := s0.ext hx45
    replace s1 := s1.ext hx45
    replace s2 := s2.ext hx45
    replace E := E.trans hx45
    replace hp1_32 := hp1_32.ext hx45
    replace hp1_34 := hp1_34.ext hx45
    replace hp1_36 := hp1_36.ext hx45
    replace hp1_41 := hp1_41.ext hx45
    replace hp1_43 := hp1_43.ext hx45
    replace hp1_45 := hp1_45.fresh
    refine w_pure (y_assign rfl) rfl ?_
    refine w_nil ?_
    refine x_next ?_
    refine c_seq ?_
    refine c_region ?_
    refine w_pure (y_load_boxs rfl) rfl ?_
    refine w_pure (y_move rfl) rfl ?_
    refine w_pure (y_move rfl) rfl ?_
    refine w_val rfl rfl rfl (iCrossFoot_c) rfl (fun w50 hx50 hz50 => ?_)
    have hz_hx50 := hx50.size
    replace hb10 := hb10.ext hx50
    replace hb3 := hb3.ext hx50
    replace s0 := s0.ext hx50
    replace s1 := s1.ext hx50
    replace s2 := s2.ext hx50
    replace E := E.trans hx50
    replace hp1_32 := hp1_32.ext hx50
    replace hp1_34 := hp1_34.ext hx50
    replace hp1_36 := hp1_36.ext hx50
    replace hp1_41 := hp1_41.ext hx50
    replace hp1_43 := hp1_43.ext hx50
    replace hp1_45 := hp1_45.ext hx50
    refine w_pure (y_move rfl) rfl ?_
    refine w_pure (y_extract rfl rfl) rfl ?_
    refine w_pure (y_extract rfl rfl) rfl ?_
    refine w_pure (y_assign rfl) rfl ?_
    refine w_pure (y_assign rfl) rfl ?_
    refine w_nil ?_
    refine x_next ?_
    refine c_seq ?_
    refine c_seq ?_
    refine c_region ?_
    refine w_pure (y_move rfl) rfl ?_
    refine w_pure (y_move rfl) rfl ?_
    refine w_pure (y_ne rfl rfl) rfl ?_
    refine w_pure (y_move rfl) rfl ?_
    (refine w_part_dec rfl rfl (fun hc57 => ?_) (fun hc57 => ?_) <;> try (first | exact absurd rfl hc57 | contradiction | exact Bool.noConfusion (show false = true from hc57.symm.trans (by assumption)) | exact Bool.noConfusion (show true = false from hc57.symm.trans (by assumption)) | (exfalso; omega) | (exfalso; simp only [*, Bool.not_true, Bool.not_false, reduceCtorEq] at hc57; done)))
    refine w_yes rfl rfl ?_
    refine w_pure (y_move rfl) rfl ?_
    refine w_yes rfl rfl ?_
    refine w_pure (y_move rfl) rfl ?_
    refine w_yes rfl rfl ?_
    refine w_pure (y_ne rfl rfl) rfl ?_
    refine w_pure (y_pick_f rfl rfl) rfl ?_
    refine w_nil ?_
    refine x_next ?_
    refine c_nsame rfl ?_
    refine c_skip ?_
    refine x_next ?_
    refine c_seq ?_
    refine c_seq ?_
    refine c_region_held mixed (fun wr18 hxr18 hzr18 => ?_)
    have hz_hxr18 := hxr18.size
    replace hb10 := hb10.ext hxr18
    replace hb3 := hb3.ext hxr18
    replace s0 := s0.ext hxr18
    replace s1 := s1.ext hxr18
    replace s2 := s2.ext hxr18
    replace E := E.trans hxr18
    replace hp1_32 := hp1_32.ext hxr18
    replace hp1_34 := hp1_34.ext hxr18
    replace hp1_36 := hp1_36.ext hxr18
    replace hp1_41 := hp1_41.ext hxr18
    replace hp1_43 := hp1_43.ext hxr18
    replace hp1_45 := hp1_45.ext hxr18
    refine h_pure rfl (y_load_boxs rfl) rfl ?_
    refine h_pure rfl (y_load_boxs rfl) rfl ?_
    refine h_one rfl ?_
    (refine w_call rfl rfl rfl (toCard_c _) rfl ?_; rintro _ w63 ⟨d63, ⟨rfl, ⟨hp1_63, hx63⟩⟩⟩)
    have hz_hx63 := hx63.size
    replace hb10 := hb10.ext hx63
    replace hb3 := hb3.ext hx63
    replace s0 := s0.ext hx63
    replace s1 := s1.ext hx63
    replace s2 := s2.ext hx63
    replace E := E.trans hx63
    replace hp1_32 := hp1_32.ext hx63
    replace hp1_34 := hp1_34.ext hx63
    replace hp1_36 := hp1_36.ext hx63
    replace hp1_41 := hp1_41.ext hx63
    replace hp1_43 := hp1_43.ext hx63
    replace hp1_45 := hp1_45.ext hx63
    replace hp1_63 := hp1_63.fresh
    refine w_nil ?_
    refine x_held ?_
    refine h_one rfl ?_
    refine w_val rfl rfl rfl (eqCard_c) rfl (fun w64 hx64 hz64 => ?_)
    have hz_hx64 := hx64.size
    replace hb10 := hb10.ext hx64
    replace hb3 := hb3.ext hx64
    replace s0 := s0.ext hx64
    replace s1 := s1.ext hx64
    replace s2 := s2.ext hx64
    replace E := E.trans hx64
    replace hp1_32 := hp1_32.ext hx64
    replace hp1_34 := hp1_34.ext hx64
    replace hp1_36 := hp1_36.ext hx64
    replace hp1_41 := hp1_41.ext hx64
    replace hp1_43 := hp1_43.ext hx64
    replace hp1_45 := hp1_45.ext hx64
    replace hp1_63 := hp1_63.ext hx64
    refine w_nil ?_
    refine x_held ?_
    refine h_pure rfl (y_not_dec rfl) rfl ?_
    refine h_nil ?_
    refine x_next ?_
    refine c_nsame rfl ?_
    refine c_skip ?_
    refine x_next ?_
    refine c_seq ?_
    refine c_seq ?_
    refine c_region ?_
    refine w_pure (y_move rfl) rfl ?_
    refine w_pure (y_move rfl) rfl ?_
    (refine w_call rfl rfl rfl (toFieldS_c _) rfl ?_; rintro v68 w68 ⟨hp1_68, hx68⟩)
    have hz_hx68 := hx68.size
    replace hb10 := hb10.ext hx68
    replace hb3 := hb3.ext hx68
    replace s0 := s0.ext hx68
    replace s1 := s1.ext hx68
    replace s2 := s2.ext hx68
    replace E := E.trans hx68
    replace hp1_32 := hp1_32.ext hx68
    replace hp1_34 := hp1_34.ext hx68
    replace hp1_36 := hp1_36.ext hx68
    replace hp1_41 := hp1_41.ext hx68
    replace hp1_43 := hp1_43.ext hx68
    replace hp1_45 := hp1_45.ext hx68
    replace hp1_63 := hp1_63.ext hx68
    replace hp1_68 := hp1_68.fresh
    refine w_val rfl rfl rfl (eqFieldS_c) rfl (fun w69 hx69 hz69 => ?_)
    have hz_hx69 := hx69.size
    replace hb10 := hb10.ext hx69
    replace hb3 := hb3.ext hx69
    replace s0 := s0.ext hx69
    replace s1 := s1.ext hx69
    replace s2 := s2.ext hx69
    replace E := E.trans hx69
    replace hp1_32 := hp1_32.ext hx69
    replace hp1_34 := hp1_34.ext hx69
    replace hp1_36 := hp1_36.ext hx69
    replace hp1_41 := hp1_41.ext hx69
    replace hp1_43 := hp1_43.ext hx69
    replace hp1_45 := hp1_45.ext hx69
    replace hp1_63 := hp1_63.ext hx69
    replace hp1_68 := hp1_68.ext hx69
    refine w_pure (y_not_dec rfl) rfl ?_
    refine w_nil ?_
    refine x_next ?_
    refine c_nsame rfl ?_
    refine c_skip ?_
    refine x_next ?_
    refine c_seq ?_
    refine c_seq ?_
    refine c_region ?_
    refine w_pure (y_move rfl) rfl ?_
    refine w_pure (y_move rfl) rfl ?_
    (refine w_call rfl rfl rfl (toFieldS_c _) rfl ?_; rintro v73 w73 ⟨hp1_73, hx73⟩)
    have hz_hx73 := hx73.size
    replace hb10 := hb10.ext hx73
    replace hb3 := hb3.ext hx73
    replace s0 := s0.ext hx73
    replace s1 := s1.ext hx73
    replace s2 := s2.ext hx73
    replace E := E.trans hx73
    replace hp1_32 := hp1_32.ext hx73
    replace hp1_34 := hp1_34.ext hx73
    replace hp1_36 := hp1_36.ext hx73
    replace hp1_41 := hp1_41.ext hx73
    replace hp1_43 := hp1_43.ext hx73
    replace hp1_45 := hp1_45.ext hx73
    replace hp1_63 := hp1_63.ext hx73
    replace hp1_68 := hp1_68.ext hx73
    replace hp1_73 := hp1_73.fresh
    refine w_val rfl rfl rfl (eqFieldS_c) rfl (fun w74 hx74 hz74 => ?_)
    have hz_hx74 := hx74.size
    replace hb10 := hb10.ext hx74
    replace hb3 := hb3.ext hx74
    replace s0 := s0.ext hx74
    replace s1 := s1.ext hx74
    replace s2 := s2.ext hx74
    replace E := E.trans hx74
    replace hp1_32 := hp1_32.ext hx74
    replace hp1_34 := hp1_34.ext hx74
    replace hp1_36 := hp1_36.ext hx74
    replace hp1_41 := hp1_41.ext hx74
    replace hp1_43 := hp1_43.ext hx74
    replace hp1_45 := hp1_45.ext hx74
    replace hp1_63 := hp1_63.ext hx74
    replace hp1_68 := hp1_68.ext hx74
    replace hp1_73 := hp1_73.ext hx74
    refine w_pure (y_not_dec rfl) rfl ?_
    refine w_nil ?_
    refine x_next ?_
    refine c_nsame rfl ?_
    refine c_skip ?_
    refine x_next ?_
    refine c_seq ?_
    refine c_region ?_
    refine w_pure (y_assign rfl) rfl ?_
    refine w_nil ?_
    refine x_next ?_
    refine c_ret ?_
    exact x_retv [_] rfl ⟨rfl, trivial⟩ ⟨rfl, E.go⟩
end Go.Proofs.Ytjnnfmlgjdlihaa

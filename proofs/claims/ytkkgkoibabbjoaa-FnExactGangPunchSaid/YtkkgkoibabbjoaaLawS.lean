/- The walks of the laws on decks that are gang punched. -/
import Derived.Test.YtkkgkoibabbjoaaRepB
import Derived.Test.YtkkgkoibabbjoaaDkO
namespace Go.Proofs.Ytkkgkoibabbjoaa
open Go Go.Gw
set_option linter.unusedVariables false
set_option linter.unusedSimpArgs false
theorem lGangPunch (w0 : World) (x0 : { x : OSl // x.ok w0 }) (x1 : { x : ODk // x.ok w0 }) (x2 : { x : OPs // x.ok w0 }) : Ret Try.prog 4 [.agg #[x0.1.v], x1.1.v, x2.1.v] w0 fun u w' => u = .bool true ∧ Ext w0 w' := by
  obtain ⟨⟨v0, xs0⟩, hok0⟩ := x0
  have s0 : SL w0 0 w0.heap.size v0 xs0 := hok0.sl
  have r0 := hok0.in64
  obtain ⟨⟨v1, svs1, xss1⟩, hok1⟩ := x1
  have s1 : SLL w0 0 w0.heap.size svs1 v1 xss1 := hok1.sll
  have r1 := hok1.in64
  obtain ⟨⟨v2, ws2⟩, hok2⟩ := x2
  have s2 : SL w0 0 w0.heap.size v2 ws2 := hok2.sl
  have r2 := hok2.in64
  show Ret _ _ [.agg #[v0], v1, v2] w0 _
  clear hok0 hok1 hok2
  have E : Since 0 0 w0 w0 := Since.refl 0 0 w0
  have hb := resGng_bd xs0 xss1 ws2
  refine ret_enter Try.func4 rfl Try.ntmps4 rfl ?_
  focus
    refine c_seq ?_
    refine c_region ?_
    refine w_box rfl (k := fun b3 w3 hb3 hx3 hl3 hs3 => ?_)
    have hz_hx3 := hx3.size
    replace s0 := s0.ext hx3
    replace s1 := s1.ext hx3
    replace s2 := s2.ext hx3
    replace E := E.trans hx3
    refine w_pure (y_assign rfl) rfl ?_
    refine w_nil ?_
    refine x_next ?_
    refine c_seq ?_
    refine c_region ?_
    refine w_pure (y_assign rfl) rfl ?_
    refine w_nil ?_
    refine x_next ?_
    refine c_seq ?_
    refine c_region ?_
    refine w_pure (y_load_boxs rfl) rfl ?_
    refine w_pure (y_move rfl) rfl ?_
    (refine w_call rfl rfl rfl (szCard_z) rfl ?_; rintro _ w22 ⟨z22, ⟨rfl, ⟨hp1_22, hx22⟩⟩⟩)
    have hz_hx22 := hx22.size
    replace hb3 := hb3.ext hx22
    replace s0 := s0.ext hx22
    replace s1 := s1.ext hx22
    replace s2 := s2.ext hx22
    replace E := E.trans hx22
    refine w_pure (y_assign rfl) rfl ?_
    refine w_nil ?_
    refine x_next ?_
    refine c_seq ?_
    refine c_seq ?_
    refine c_region ?_
    refine w_pure (y_move rfl) rfl ?_
    refine w_pure (y_lt rfl rfl) rfl ?_
    refine w_nil ?_
    refine x_next ?_
    (refine c_dec rfl (fun hc24 => ?_) (fun hc24 => ?_) <;> try (first | exact absurd rfl hc24 | contradiction | exact Bool.noConfusion (show false = true from hc24.symm.trans (by assumption)) | exact Bool.noConfusion (show true = false from hc24.symm.trans (by assumption)) | (exfalso; omega) | (exfalso; simp only [*, Bool.not_true, Bool.not_false, reduceCtorEq] at hc24; done)))
    refine c_seq ?_
    refine c_region ?_
    refine w_pure (y_assign rfl) rfl ?_
    refine w_nil ?_
    refine x_next ?_
    refine c_ret ?_
    refine x_then_ret ?_
    exact x_retv [_] rfl ⟨rfl, trivial⟩ ⟨rfl, E.go⟩
    refine c_skip ?_
    refine x_next ?_
    refine c_seq ?_
    refine c_region ?_
    refine w_pure (y_move rfl) rfl ?_
    refine w_pure (y_move rfl) rfl ?_
    (refine w_call rfl rfl rfl (szCardS_z) rfl ?_; rintro _ w27 ⟨z27, ⟨rfl, ⟨hp1_27, hx27⟩⟩⟩)
    have hz_hx27 := hx27.size
    replace hb3 := hb3.ext hx27
    replace s0 := s0.ext hx27
    replace s1 := s1.ext hx27
    replace s2 := s2.ext hx27
    replace E := E.trans hx27
    refine w_pure (y_assign rfl) rfl ?_
    refine w_nil ?_
    refine x_next ?_
    refine c_seq ?_
    refine c_seq ?_
    refine c_region ?_
    refine w_pure (y_move rfl) rfl ?_
    refine w_pure (y_lt rfl rfl) rfl ?_
    refine w_nil ?_
    refine x_next ?_
    (refine c_dec rfl (fun hc29 => ?_) (fun hc29 => ?_) <;> try (first | exact absurd rfl hc29 | contradiction | exact Bool.noConfusion (show false = true from hc29.symm.trans (by assumption)) | exact Bool.noConfusion (show true = false from hc29.symm.trans (by assumption)) | (exfalso; omega) | (exfalso; simp only [*, Bool.not_true, Bool.not_false, reduceCtorEq] at hc29; done)))
    refine c_seq ?_
    refine c_region ?_
    refine w_pure (y_assign rfl) rfl ?_
    refine w_nil ?_
    refine x_next ?_
    refine c_ret ?_
    refine x_then_ret ?_
    exact x_retv [_] rfl ⟨rfl, trivial⟩ ⟨rfl, E.go⟩
    refine c_skip ?_
    refine x_next ?_
    refine c_seq ?_
    refine c_region ?_
    refine w_pure (y_move rfl) rfl ?_
    refine w_pure (y_move rfl) rfl ?_
    (refine w_call rfl rfl rfl (szCopyS_z) rfl ?_; rintro _ w32 ⟨z32, ⟨rfl, ⟨hp1_32, hx32⟩⟩⟩)
    have hz_hx32 := hx32.size
    replace hb3 := hb3.ext hx32
    replace s0 := s0.ext hx32
    replace s1 := s1.ext hx32
    replace s2 := s2.ext hx32
    replace E := E.trans hx32
    refine w_pure (y_assign rfl) rfl ?_
    refine w_nil ?_
    refine x_next ?_
    refine c_seq ?_
    refine c_seq ?_
    refine c_region ?_
    refine w_pure (y_move rfl) rfl ?_
    refine w_pure (y_lt rfl rfl) rfl ?_
    refine w_nil ?_
    refine x_next ?_
    (refine c_dec rfl (fun hc34 => ?_) (fun hc34 => ?_) <;> try (first | exact absurd rfl hc34 | contradiction | exact Bool.noConfusion (show false = true from hc34.symm.trans (by assumption)) | exact Bool.noConfusion (show true = false from hc34.symm.trans (by assumption)) | (exfalso; omega) | (exfalso; simp only [*, Bool.not_true, Bool.not_false, reduceCtorEq] at hc34; done)))
    refine c_seq ?_
    refine c_region ?_
    refine w_pure (y_assign rfl) rfl ?_
    refine w_nil ?_
    refine x_next ?_
    refine c_ret ?_
    refine x_then_ret ?_
    exact x_retv [_] rfl ⟨rfl, trivial⟩ ⟨rfl, E.go⟩
    refine c_skip ?_
    refine x_next ?_
    refine c_seq ?_
    refine c_region ?_
    refine w_pure (y_load_boxs rfl) rfl ?_
    (refine w_call rfl rfl rfl (toCard_c _) rfl ?_; rintro _ w37 ⟨d37, ⟨rfl, ⟨hp1_37, hx37⟩⟩⟩)
    have hz_hx37 := hx37.size
    replace hb3 := hb3.ext hx37
    replace s0 := s0.ext hx37
    replace s1 := s1.ext hx37
    replace s2 := s2.ext hx37
    replace E := E.trans hx37
    replace hp1_37 := hp1_37.fresh
    refine w_pure (y_move rfl) rfl ?_
    (refine w_call rfl rfl rfl (toCardS_c) rfl ?_; rintro v39 w39 ⟨sus39, ⟨hp1_39, hx39⟩⟩)
    have hz_hx39 := hx39.size
    replace hb3 := hb3.ext hx39
    replace s0 := s0.ext hx39
    replace s1 := s1.ext hx39
    replace s2 := s2.ext hx39
    replace E := E.trans hx39
    replace hp1_37 := hp1_37.ext hx39
    refine w_pure (y_move rfl) rfl ?_
    (refine w_call rfl rfl rfl (toCopyS_c _) rfl ?_; rintro v41 w41 ⟨hp1_41, hx41⟩)
    have hz_hx41 := hx41.size
    replace hp1_39 := hp1_39.ext hx41
    replace hb3 := hb3.ext hx41
    replace s0 := s0.ext hx41
    replace s1 := s1.ext hx41
    replace s2 := s2.ext hx41
    replace E := E.trans hx41
    replace hp1_37 := hp1_37.ext hx41
    replace hp1_41 := hp1_41.fresh
    (refine w_call rfl rfl rfl (sGangPunch_c) rfl ?_; rintro _ w42 ⟨d42, ⟨sus42, ⟨rfl, ⟨hp1_42, hx42⟩⟩⟩⟩)
    have hz_hx42 := hx42.size
    replace hp1_39 := hp1_39.ext hx42
    replace hb3 := hb3.ext hx42
    replace s0 := s0.ext hx42
    replace s1 := s1.ext hx42
    replace s2 := s2.ext hx42
    replace E := E.trans hx42
    replace hp1_37 := hp1_37.ext hx42
    replace hp1_41 := hp1_41.ext hx42
    refine w_pure (y_move rfl) rfl ?_
    refine w_pure (y_extract rfl rfl) rfl ?_
    refine w_pure (y_extract rfl rfl) rfl ?_
    refine w_pure (y_assign rfl) rfl ?_
    refine w_pure (y_assign rfl) rfl ?_
    refine w_nil ?_
    refine x_next ?_
    refine c_seq ?_
    refine c_region ?_
    refine w_pure (y_load_boxs rfl) rfl ?_
    (refine w_call rfl rfl rfl (toCard_c _) rfl ?_; rintro _ w46 ⟨d46, ⟨rfl, ⟨hp1_46, hx46⟩⟩⟩)
    have hz_hx46 := hx46.size
    replace hp1_42 := hp1_42.ext hx46
    replace hp1_39 := hp1_39.ext hx46
    replace hb3 := hb3.ext hx46
    replace s0 := s0.ext hx46
    replace s1 := s1.ext hx46
    replace s2 := s2.ext hx46
    replace E := E.trans hx46
    replace hp1_37 := hp1_37.ext hx46
    replace hp1_41 := hp1_41.ext hx46
    replace hp1_46 := hp1_46.fresh
    refine w_alloc (k := fun b10 w10 hb10 hx10 hl10 hs10 => ?_)
    have hz_hx10 := hx10.size
    replace hp1_42 := hp1_42.ext hx10
    replace hp1_39 := hp1_39.ext hx10
    replace hb3 := hb3.ext hx10
    replace s0 := s0.ext hx10
    replace s1 := s1.ext hx10
    replace s2 := s2.ext hx10
    replace E := E.trans hx10
    replace hp1_37 := hp1_37.ext hx10
    replace hp1_41 := hp1_41.ext hx10
    replace hp1_46 := hp1_46.ext hx10
    refine w_store_boxs rfl rfl (next := fun ws111 hbs111 hxs111 hss111 => ?_)
    (replace hb10 := hbs111; clear hbs111)
    have hz_hxs111 := hxs111.size
    replace hp1_42 := hp1_42.chg hxs111 (by omega)
    replace hp1_39 := hp1_39.chg hxs111 (by omega)
    replace hb3 := hb3.chg hxs111 (by omega)
    replace s0 := s0.chg hxs111 (by omega)
    replace s1 := s1.chg hxs111 (by omega)
    replace s2 := s2.chg hxs111 (by omega)
    replace E := E.next hxs111 (by omega)
    replace hp1_37 := hp1_37.chg hxs111 (by omega)
    replace hp1_41 := hp1_41.chg hxs111 (by omega)
    replace hp1_46 := hp1_46.chg hxs111 (by omega)
    refine w_nil ?_
    refine x_next ?_
    refine c_seq ?_
    refine c_region ?_
    refine w_pure (y_move rfl) rfl ?_
    (refine w_call rfl rfl rfl (toCardS_c) rfl ?_; rintro v48 w48 ⟨sus48, ⟨hp1_48, hx48⟩⟩)
    have hz_hx48 := hx48.size
    replace hb10 := hb10.ext hx48
    replace hp1_42 := hp1_42.ext hx48
    replace hp1_39 := hp1_39.ext hx48
    replace hb3 := hb3.ext hx48
    replace s0 := s0.ext hx48
    replace s1 := s1.ext hx48
    replace s2 := s2.ext hx48
    replace E := E.trans hx48
    replace hp1_37 := hp1_37.ext hx48
    replace hp1_41 := hp1_41.ext hx48
    replace hp1_46 := hp1_46.ext hx48
    refine w_pure (y_assign rfl) rfl ?_
    refine w_nil ?_
    refine x_next ?_
    refine c_seq ?_
    refine c_region ?_
    refine w_pure (y_move rfl) rfl ?_
    (refine w_call rfl rfl rfl (toCopyS_c _) rfl ?_; rintro v50 w50 ⟨hp1_50, hx50⟩)
    have hz_hx50 := hx50.size
    replace hp1_48 := hp1_48.ext hx50
    replace hb10 := hb10.ext hx50
    replace hp1_42 := hp1_42.ext hx50
    replace hp1_39 := hp1_39.ext hx50
    replace hb3 := hb3.ext hx50
    replace s0 := s0.ext hx50
    replace s1 := s1.ext hx50
    replace s2 := s2.ext hx50
    replace E := E.trans hx50
    replace hp1_37 := hp1_37.ext hx50
    replace hp1_41 := hp1_41.ext hx50
    replace hp1_46 := hp1_46.ext hx50
    replace hp1_50 := hp1_50.fresh
    refine w_pure (y_assign rfl) rfl ?_
    refine w_nil ?_
    refine x_next ?_
    refine c_seq ?_
    refine c_region ?_
    refine w_pure (y_load_boxs rfl) rfl ?_
    refine w_pure (y_move rfl) rfl ?_
    refine w_pure (y_move rfl) rfl ?_
    (refine w_call rfl rfl rfl (iGangPunch_c) rfl ?_; rintro _ w55 ⟨d55, ⟨sus55, ⟨rfl, ⟨hp1_55, hx55⟩⟩⟩⟩)
    have hz_hx55 := hx55.size
    replace hp1_48 := hp1_48.ext hx55
    replace hb10 := hb10.ext hx55
    replace hp1_42 := hp1_42.ext hx55
    replace hp1_39 := hp1_39.ext hx55
    replace hb3 := hb3.ext hx55
    replace s0 := s0.ext hx55
    replace s1 := s1.ext hx55
    replace s2 := s2.ext hx55
    replace E := E.trans hx55
    replace hp1_37 := hp1_37.ext hx55
    replace hp1_41 := hp1_41.ext hx55
    replace hp1_46 := hp1_46.ext hx55
    replace hp1_50 := hp1_50.ext hx55
    refine w_pure (y_move rfl) rfl ?_
    refine w_pure (y_extract rfl rfl) rfl ?_
    refine w_pure (y_extract rfl rfl) rfl ?_
    refine w_pure (y_assign rfl) rfl ?_
    refine w_pure (y_assign rfl) rfl ?_
    refine w_nil ?_
    refine x_next ?_
    refine c_seq ?_
    refine c_seq ?_
    refine c_region ?_
    refine w_pure (y_move rfl) rfl ?_
    refine w_pure (y_move rfl) rfl ?_
    refine w_val rfl rfl rfl (eqCardS_c) rfl (fun w60 hx60 hz60 => ?_)
    have hz_hx60 := hx60.size
    replace hp1_55 := hp1_55.ext hx60
    replace hp1_48 := hp1_48.ext hx60
    replace hb10 := hb10.ext hx60
    replace hp1_42 := hp1_42.ext hx60
    replace hp1_39 := hp1_39.ext hx60
    replace hb3 := hb3.ext hx60
    replace s0 := s0.ext hx60
    replace s1 := s1.ext hx60
    replace s2 := s2.ext hx60
    replace E := E.trans hx60
    replace hp1_37 := hp1_37.ext hx60
    replace hp1_41 := hp1_41.ext hx60
    replace hp1_46 := hp1_46.ext hx60
    replace hp1_50 := hp1_50.ext hx60
    refine w_pure (y_not_dec rfl) rfl ?_
    refine w_pure (y_move rfl) rfl ?_
    (refine w_part_dec rfl rfl (fun hc63 => ?_) (fun hc63 => ?_) <;> try (first | exact absurd rfl hc63 | contradiction | exact Bool.noConfusion (show false = true from hc63.symm.trans (by assumption)) | exact Bool.noConfusion (show true = false from hc63.symm.trans (by assumption)) | (exfalso; omega) | (exfalso; simp only [*, Bool.not_true, Bool.not_false, reduceCtorEq] at hc63; done)))
    refine w_yes rfl rfl ?_
    refine w_pure (y_move rfl) rfl ?_
    refine w_yes rfl rfl ?_
    refine w_pure (y_move rfl) rfl ?_
    refine w_yes rfl rfl ?_
    refine w_pure (y_ne rfl rfl) rfl ?_
    refine w_pure (y_pick_f rfl rfl) rfl ?_
    refine w_nil ?_
    refine x_next ?_
    refine c_nsame rfl ?_
    refine c_skip ?_
    refine x_next ?_
    refine c_seq ?_
    refine c_seq ?_
    refine c_region_held mixed (fun wr18 hxr18 hzr18 => ?_)
    have hz_hxr18 := hxr18.size
    replace hp1_55 := hp1_55.ext hxr18
    replace hp1_48 := hp1_48.ext hxr18
    replace hb10 := hb10.ext hxr18
    replace hp1_42 := hp1_42.ext hxr18
    replace hp1_39 := hp1_39.ext hxr18
    replace hb3 := hb3.ext hxr18
    replace s0 := s0.ext hxr18
    replace s1 := s1.ext hxr18
    replace s2 := s2.ext hxr18
    replace E := E.trans hxr18
    replace hp1_37 := hp1_37.ext hxr18
    replace hp1_41 := hp1_41.ext hxr18
    replace hp1_46 := hp1_46.ext hxr18
    replace hp1_50 := hp1_50.ext hxr18
    refine h_pure rfl (y_load_boxs rfl) rfl ?_
    refine h_pure rfl (y_load_boxs rfl) rfl ?_
    refine h_one rfl ?_
    (refine w_call rfl rfl rfl (toCard_c _) rfl ?_; rintro _ w69 ⟨d69, ⟨rfl, ⟨hp1_69, hx69⟩⟩⟩)
    have hz_hx69 := hx69.size
    replace hp1_55 := hp1_55.ext hx69
    replace hp1_48 := hp1_48.ext hx69
    replace hb10 := hb10.ext hx69
    replace hp1_42 := hp1_42.ext hx69
    replace hp1_39 := hp1_39.ext hx69
    replace hb3 := hb3.ext hx69
    replace s0 := s0.ext hx69
    replace s1 := s1.ext hx69
    replace s2 := s2.ext hx69
    replace E := E.trans hx69
    replace hp1_37 := hp1_37.ext hx69
    replace hp1_41 := hp1_41.ext hx69
    replace hp1_46 := hp1_46.ext hx69
    replace hp1_50 := hp1_50.ext hx69
    replace hp1_69 := hp1_69.fresh
    refine w_nil ?_
    refine x_held ?_
    refine h_one rfl ?_
    refine w_val rfl rfl rfl (eqCard_c) rfl (fun w70 hx70 hz70 => ?_)
    have hz_hx70 := hx70.size
    replace hp1_55 := hp1_55.ext hx70
    replace hp1_48 := hp1_48.ext hx70
    replace hb10 := hb10.ext hx70
    replace hp1_42 := hp1_42.ext hx70
    replace hp1_39 := hp1_39.ext hx70
    replace hb3 := hb3.ext hx70
    replace s0 := s0.ext hx70
    replace s1 := s1.ext hx70
    replace s2 := s2.ext hx70
    replace E := E.trans hx70
    replace hp1_37 := hp1_37.ext hx70
    replace hp1_41 := hp1_41.ext hx70
    replace hp1_46 := hp1_46.ext hx70
    replace hp1_50 := hp1_50.ext hx70
    replace hp1_69 := hp1_69.ext hx70
    refine w_nil ?_
    refine x_held ?_
    refine h_pure rfl (y_not_dec rfl) rfl ?_
    refine h_nil ?_
    refine x_next ?_
    refine c_nsame rfl ?_
    refine c_skip ?_
    refine x_next ?_
    refine c_seq ?_
    refine c_seq ?_
    refine c_region ?_
    refine w_pure (y_move rfl) rfl ?_
    refine w_pure (y_move rfl) rfl ?_
    (refine w_call rfl rfl rfl (toCardS_c) rfl ?_; rintro v74 w74 ⟨sus74, ⟨hp1_74, hx74⟩⟩)
    have hz_hx74 := hx74.size
    replace hp1_55 := hp1_55.ext hx74
    replace hp1_48 := hp1_48.ext hx74
    replace hb10 := hb10.ext hx74
    replace hp1_42 := hp1_42.ext hx74
    replace hp1_39 := hp1_39.ext hx74
    replace hb3 := hb3.ext hx74
    replace s0 := s0.ext hx74
    replace s1 := s1.ext hx74
    replace s2 := s2.ext hx74
    replace E := E.trans hx74
    replace hp1_37 := hp1_37.ext hx74
    replace hp1_41 := hp1_41.ext hx74
    replace hp1_46 := hp1_46.ext hx74
    replace hp1_50 := hp1_50.ext hx74
    replace hp1_69 := hp1_69.ext hx74
    refine w_val rfl rfl rfl (eqCardS_c) rfl (fun w75 hx75 hz75 => ?_)
    have hz_hx75 := hx75.size
    replace hp1_74 := hp1_74.ext hx75
    replace hp1_55 := hp1_55.ext hx75
    replace hp1_48 := hp1_48.ext hx75
    replace hb10 := hb10.ext hx75
    replace hp1_42 := hp1_42.ext hx75
    replace hp1_39 := hp1_39.ext hx75
    replace hb3 := hb3.ext hx75
    replace s0 := s0.ext hx75
    replace s1 := s1.ext hx75
    replace s2 := s2.ext hx75
    replace E := E.trans hx75
    replace hp1_37 := hp1_37.ext hx75
    replace hp1_41 := hp1_41.ext hx75
    replace hp1_46 := hp1_46.ext hx75
    replace hp1_50 := hp1_50.ext hx75
    replace hp1_69 := hp1_69.ext hx75
    refine w_pure (y_not_dec rfl) rfl ?_
    refine w_nil ?_
    refine x_next ?_
    refine c_nsame rfl ?_
    refine c_skip ?_
    refine x_next ?_
    refine c_seq ?_
    refine c_seq ?_
    refine c_region ?_
    refine w_pure (y_move rfl) rfl ?_
    refine w_pure (y_move rfl) rfl ?_
    (refine w_call rfl rfl rfl (toCopyS_c _) rfl ?_; rintro v79 w79 ⟨hp1_79, hx79⟩)
    have hz_hx79 := hx79.size
    replace hp1_74 := hp1_74.ext hx79
    replace hp1_55 := hp1_55.ext hx79
    replace hp1_48 := hp1_48.ext hx79
    replace hb10 := hb10.ext hx79
    replace hp1_42 := hp1_42.ext hx79
    replace hp1_39 := hp1_39.ext hx79
    replace hb3 := hb3.ext hx79
    replace s0 := s0.ext hx79
    replace s1 := s1.ext hx79
    replace s2 := s2.ext hx79
    replace E := E.trans hx79
    replace hp1_37 := hp1_37.ext hx79
    replace hp1_41 := hp1_41.ext hx79
    replace hp1_46 := hp1_46.ext hx79
    replace hp1_50 := hp1_50.ext hx79
    replace hp1_69 := hp1_69.ext hx79
    replace hp1_79 := hp1_79.fresh
    refine w_val rfl rfl rfl (eqCopyS_c) rfl (fun w80 hx80 hz80 => ?_)
    have hz_hx80 := hx80.size
    replace hp1_74 := hp1_74.ext hx80
    replace hp1_55 := hp1_55.ext hx80
    replace hp1_48 := hp1_48.ext hx80
    replace hb10 := hb10.ext hx80
    replace hp1_42 := hp1_42.ext hx80
    replace hp1_39 := hp1_39.ext hx80
    replace hb3 := hb3.ext hx80
    replace s0 := s0.ext hx80
    replace s1 := s1.ext hx80
    replace s2 := s2.ext hx80
    replace E := E.trans hx80
    replace hp1_37 := hp1_37.ext hx80
    replace hp1_41 := hp1_41.ext hx80
    replace hp1_46 := hp1_46.ext hx80
    replace hp1_50 := hp1_50.ext hx80
    replace hp1_69 := hp1_69.ext hx80
    replace hp1_79 := hp1_79.ext hx80
    refine w_pure (y_not_dec rfl) rfl ?_
    refine w_nil ?_
    refine x_next ?_
    refine c_nsame rfl ?_
    refine c_skip ?_
    refine x_next ?_
    refine c_seq ?_
    refine c_region ?_
    refine w_pure (y_assign rfl) rfl ?_
    refine w_nil ?_
    refine x_next ?_
    refine c_seq ?_
    refine c_region ?_
    refine w_pure (y_load_boxs rfl) rfl ?_
    refine w_pure (y_move rfl) rfl ?_
    (refine w_call rfl rfl rfl (markCard_c _) rfl ?_; rintro _ w84 ⟨rfl, ⟨hp1_84, hx84⟩⟩)
    have hz_hx84 := hx84.size
    replace hp1_74 := hp1_74.chg hx84 (by omega)
    replace hp1_55 := hp1_55.chg hx84 (by omega)
    replace hp1_48 := hp1_48.chg hx84 (by omega)
    replace hb10 := hb10.chg hx84 (by omega)
    replace hp1_42 := hp1_42.chg hx84 (by omega)
    replace hp1_39 := hp1_39.chg hx84 (by omega)
    replace hb3 := hb3.chg hx84 (by omega)
    replace s0 := s0.chg hx84 (by omega)
    replace s1 := s1.chg hx84 (by omega)
    replace s2 := s2.chg hx84 (by omega)
    replace E := E.next hx84 (by omega)
    replace hp1_37 := hp1_37.chg hx84 (by omega)
    replace hp1_41 := hp1_41.chg hx84 (by omega)
    replace hp1_50 := hp1_50.chg hx84 (by omega)
    replace hp1_69 := hp1_69.chg hx84 (by omega)
    replace hp1_79 := hp1_79.chg hx84 (by omega)
    refine w_pure (y_assign rfl) rfl ?_
    refine w_nil ?_
    refine x_next ?_
    refine c_seq ?_
    refine c_region ?_
    refine w_pure (y_move rfl) rfl ?_
    refine w_pure (y_move rfl) rfl ?_
    (refine w_call rfl rfl rfl (markCardS_c) rfl ?_; rintro _ w87 ⟨rfl, ⟨hp1_87, hx87⟩⟩)
    have hz_hx87 := hx87.size
    replace hp1_84 := hp1_84.chg hx87 (by omega)
    replace hp1_74 := hp1_74.chg hx87 (by omega)
    replace hp1_55 := hp1_55.chg hx87 (by omega)
    replace hb10 := hb10.chg hx87 (by omega)
    replace hp1_42 := hp1_42.chg hx87 (by omega)
    replace hp1_39 := hp1_39.chg hx87 (by omega)
    replace hb3 := hb3.chg hx87 (by omega)
    replace s0 := s0.chg hx87 (by omega)
    replace s1 := s1.chg hx87 (by omega)
    replace s2 := s2.chg hx87 (by omega)
    replace E := E.next hx87 (by omega)
    replace hp1_37 := hp1_37.chg hx87 (by omega)
    replace hp1_41 := hp1_41.chg hx87 (by omega)
    replace hp1_50 := hp1_50.chg hx87 (by omega)
    replace hp1_69 := hp1_69.chg hx87 (by omega)
    replace hp1_79 := hp1_79.chg hx87 (by omega)
    refine w_pure (y_assign rfl) rfl ?_
    refine w_nil ?_
    refine x_next ?_
    refine c_seq ?_
    refine c_region ?_
    refine w_pure (y_move rfl) rfl ?_
    refine w_pure (y_move rfl) rfl ?_
    (refine w_call rfl rfl rfl (markCopyS_c _) rfl ?_; rintro _ w90 ⟨rfl, ⟨hp1_90, hx90⟩⟩)
    have hz_hx90 := hx90.size
    replace hp1_87 := hp1_87.chg hx90 (by omega)
    replace hp1_84 := hp1_84.chg hx90 (by omega)
    replace hp1_74 := hp1_74.chg hx90 (by omega)
    replace hp1_55 := hp1_55.chg hx90 (by omega)
    replace hb10 := hb10.chg hx90 (by omega)
    replace hp1_42 := hp1_42.chg hx90 (by omega)
    replace hp1_39 := hp1_39.chg hx90 (by omega)
    replace hb3 := hb3.chg hx90 (by omega)
    replace s0 := s0.chg hx90 (by omega)
    replace s1 := s1.chg hx90 (by omega)
    replace s2 := s2.chg hx90 (by omega)
    replace E := E.next hx90 (by omega)
    replace hp1_37 := hp1_37.chg hx90 (by omega)
    replace hp1_41 := hp1_41.chg hx90 (by omega)
    replace hp1_69 := hp1_69.chg hx90 (by omega)
    replace hp1_79 := hp1_79.chg hx90 (by omega)
    refine w_pure (y_assign rfl) rfl ?_
    refine w_nil ?_
    refine x_next ?_
    refine c_seq ?_
    refine c_seq ?_
    refine c_region ?_
    refine w_pure (y_move rfl) rfl ?_
    refine w_pure (y_lt rfl rfl) rfl ?_
    refine w_pure (y_move rfl) rfl ?_
    refine w_yes rfl rfl ?_
    refine w_pure (y_move rfl) rfl ?_
    refine w_yes rfl rfl ?_
    refine w_pure (y_move rfl) rfl ?_
    refine w_yes rfl rfl ?_
    refine w_val rfl rfl rfl (eqCardS_c) rfl (fun w96 hx96 hz96 => ?_)
    have hz_hx96 := hx96.size
    replace hp1_90 := hp1_90.ext hx96
    replace hp1_87 := hp1_87.ext hx96
    replace hp1_84 := hp1_84.ext hx96
    replace hp1_74 := hp1_74.ext hx96
    replace hp1_55 := hp1_55.ext hx96
    replace hb10 := hb10.ext hx96
    replace hp1_42 := hp1_42.ext hx96
    replace hp1_39 := hp1_39.ext hx96
    replace hb3 := hb3.ext hx96
    replace s0 := s0.ext hx96
    replace s1 := s1.ext hx96
    replace s2 := s2.ext hx96
    replace E := E.trans hx96
    replace hp1_37 := hp1_37.ext hx96
    replace hp1_41 := hp1_41.ext hx96
    replace hp1_69 := hp1_69.ext hx96
    replace hp1_79 := hp1_79.ext hx96
    refine w_yes rfl rfl ?_
    refine w_pure (y_not_dec rfl) rfl ?_
    refine w_pure (y_pick_f rfl rfl) rfl ?_
    refine w_pure (y_move rfl) rfl ?_
    (refine w_part_dec rfl rfl (fun hc100 => ?_) (fun hc100 => ?_) <;> try (first | exact absurd rfl hc100 | contradiction | exact Bool.noConfusion (show false = true from hc100.symm.trans (by assumption)) | exact Bool.noConfusion (show true = false from hc100.symm.trans (by assumption)) | (exfalso; omega) | (exfalso; simp only [*, Bool.not_true, Bool.not_false, reduceCtorEq] at hc100; done)))
    refine w_yes rfl rfl ?_
    refine w_pure (y_move rfl) rfl ?_
    refine w_yes rfl rfl ?_
    refine w_pure (y_move rfl) rfl ?_
    refine w_yes rfl rfl ?_
    refine w_pure (y_ne rfl rfl) rfl ?_
    refine w_pure (y_pick_f rfl rfl) rfl ?_
    refine w_nil ?_
    refine x_next ?_
    refine c_nsame rfl ?_
    refine c_skip ?_
    refine x_next ?_
    refine c_seq ?_
    refine c_region ?_
    refine w_pure (y_assign rfl) rfl ?_
    refine w_nil ?_
    refine x_next ?_
    refine c_seq ?_
    refine c_region ?_
    refine w_pure (y_move rfl) rfl ?_
    refine w_pure (y_move rfl) rfl ?_
    (refine w_call rfl rfl rfl (markCardS_c) rfl ?_; rintro _ w106 ⟨rfl, ⟨hp1_106, hx106⟩⟩)
    have hz_hx106 := hx106.size
    replace hp1_90 := hp1_90.chg hx106 (by omega)
    replace hp1_87 := hp1_87.chg hx106 (by omega)
    replace hp1_84 := hp1_84.chg hx106 (by omega)
    replace hp1_74 := hp1_74.chg hx106 (by omega)
    replace hb10 := hb10.chg hx106 (by omega)
    replace hp1_42 := hp1_42.chg hx106 (by omega)
    replace hp1_39 := hp1_39.chg hx106 (by omega)
    replace hb3 := hb3.chg hx106 (by omega)
    replace s0 := s0.chg hx106 (by omega)
    replace s1 := s1.chg hx106 (by omega)
    replace s2 := s2.chg hx106 (by omega)
    replace E := E.next hx106 (by omega)
    replace hp1_37 := hp1_37.chg hx106 (by omega)
    replace hp1_41 := hp1_41.chg hx106 (by omega)
    replace hp1_69 := hp1_69.chg hx106 (by omega)
    replace hp1_79 := hp1_79.chg hx106 (by omega)
    refine w_pure (y_assign rfl) rfl ?_
    refine w_nil ?_
    refine x_next ?_
    refine c_seq ?_
    refine c_region ?_
    refine w_pure (y_assign rfl) rfl ?_
    refine w_nil ?_
    refine x_next ?_
    refine c_seq ?_
    refine c_region ?_
    refine w_pure (y_move rfl) rfl ?_
    refine w_pure (y_move rfl) rfl ?_
    refine w_val rfl rfl rfl (heldCardS_c) rfl (fun w109 hx109 hz109 => ?_)
    have hz_hx109 := hx109.size
    replace hp1_106 := hp1_106.ext hx109
    replace hp1_90 := hp1_90.ext hx109
    replace hp1_87 := hp1_87.ext hx109
    replace hp1_84 := hp1_84.ext hx109
    replace hp1_74 := hp1_74.ext hx109
    replace hb10 := hb10.ext hx109
    replace hp1_42 := hp1_42.ext hx109
    replace hp1_39 := hp1_39.ext hx109
    replace hb3 := hb3.ext hx109
    replace s0 := s0.ext hx109
    replace s1 := s1.ext hx109
    replace s2 := s2.ext hx109
    replace E := E.trans hx109
    replace hp1_37 := hp1_37.ext hx109
    replace hp1_41 := hp1_41.ext hx109
    replace hp1_69 := hp1_69.ext hx109
    replace hp1_79 := hp1_79.ext hx109
    refine w_pure (y_assign rfl) rfl ?_
    refine w_nil ?_
    refine x_next ?_
    refine c_seq ?_
    refine c_seq ?_
    refine c_region ?_
    refine w_pure (y_move rfl) rfl ?_
    refine w_pure (y_lt rfl rfl) rfl ?_
    refine w_nil ?_
    refine x_next ?_
    refine c_false rfl ?_
    refine c_skip ?_
    refine x_next ?_
    refine c_seq ?_
    refine c_seq ?_
    refine c_region ?_
    refine w_pure (y_move rfl) rfl ?_
    refine w_pure (y_move rfl) rfl ?_
    refine w_pure (y_ne rfl rfl) rfl ?_
    refine w_nil ?_
    refine x_next ?_
    refine c_nsame rfl ?_
    refine c_skip ?_
    refine x_next ?_
    refine c_seq ?_
    refine c_region ?_
    refine w_pure (y_load_boxs rfl) rfl ?_
    (refine w_call rfl rfl rfl (toCard_c _) rfl ?_; rintro _ w117 ⟨d117, ⟨rfl, ⟨hp1_117, hx117⟩⟩⟩)
    have hz_hx117 := hx117.size
    replace hp1_106 := hp1_106.ext hx117
    replace hp1_90 := hp1_90.ext hx117
    replace hp1_87 := hp1_87.ext hx117
    replace hp1_84 := hp1_84.ext hx117
    replace hp1_74 := hp1_74.ext hx117
    replace hb10 := hb10.ext hx117
    replace hp1_42 := hp1_42.ext hx117
    replace hp1_39 := hp1_39.ext hx117
    replace hb3 := hb3.ext hx117
    replace s0 := s0.ext hx117
    replace s1 := s1.ext hx117
    replace s2 := s2.ext hx117
    replace E := E.trans hx117
    replace hp1_37 := hp1_37.ext hx117
    replace hp1_41 := hp1_41.ext hx117
    replace hp1_69 := hp1_69.ext hx117
    replace hp1_79 := hp1_79.ext hx117
    replace hp1_117 := hp1_117.fresh
    refine w_pure (y_move rfl) rfl ?_
    (refine w_call rfl rfl rfl (toCardS_c) rfl ?_; rintro v119 w119 ⟨sus119, ⟨hp1_119, hx119⟩⟩)
    have hz_hx119 := hx119.size
    replace hp1_106 := hp1_106.ext hx119
    replace hp1_90 := hp1_90.ext hx119
    replace hp1_87 := hp1_87.ext hx119
    replace hp1_84 := hp1_84.ext hx119
    replace hp1_74 := hp1_74.ext hx119
    replace hb10 := hb10.ext hx119
    replace hp1_42 := hp1_42.ext hx119
    replace hp1_39 := hp1_39.ext hx119
    replace hb3 := hb3.ext hx119
    replace s0 := s0.ext hx119
    replace s1 := s1.ext hx119
    replace s2 := s2.ext hx119
    replace E := E.trans hx119
    replace hp1_37 := hp1_37.ext hx119
    replace hp1_41 := hp1_41.ext hx119
    replace hp1_69 := hp1_69.ext hx119
    replace hp1_79 := hp1_79.ext hx119
    replace hp1_117 := hp1_117.ext hx119
    refine w_pure (y_move rfl) rfl ?_
    (refine w_call rfl rfl rfl (toCopyS_c _) rfl ?_; rintro v121 w121 ⟨hp1_121, hx121⟩)
    have hz_hx121 := hx121.size
    replace hp1_119 := hp1_119.ext hx121
    replace hp1_106 := hp1_106.ext hx121
    replace hp1_90 := hp1_90.ext hx121
    replace hp1_87 := hp1_87.ext hx121
    replace hp1_84 := hp1_84.ext hx121
    replace hp1_74 := hp1_74.ext hx121
    replace hb10 := hb10.ext hx121
    replace hp1_42 := hp1_42.ext hx121
    replace hp1_39 := hp1_39.ext hx121
    replace hb3 := hb3.ext hx121
    replace s0 := s0.ext hx121
    replace s1 := s1.ext hx121
    replace s2 := s2.ext hx121
    replace E := E.trans hx121
    replace hp1_37 := hp1_37.ext hx121
    replace hp1_41 := hp1_41.ext hx121
    replace hp1_69 := hp1_69.ext hx121
    replace hp1_79 := hp1_79.ext hx121
    replace hp1_117 := hp1_117.ext hx121
    replace hp1_121 := hp1_121.fresh
    (refine w_call rfl rfl rfl (iGangPunch_c) rfl ?_; rintro _ w122 ⟨d122, ⟨sus122, ⟨rfl, ⟨hp1_122, hx122⟩⟩⟩⟩)
    have hz_hx122 := hx122.size
    replace hp1_119 := hp1_119.ext hx122
    replace hp1_106 := hp1_106.ext hx122
    replace hp1_90 := hp1_90.ext hx122
    replace hp1_87 := hp1_87.ext hx122
    replace hp1_84 := hp1_84.ext hx122
    replace hp1_74 := hp1_74.ext hx122
    replace hb10 := hb10.ext hx122
    replace hp1_42 := hp1_42.ext hx122
    replace hp1_39 := hp1_39.ext hx122
    replace hb3 := hb3.ext hx122
    replace s0 := s0.ext hx122
    replace s1 := s1.ext hx122
    replace s2 := s2.ext hx122
    replace E := E.trans hx122
    replace hp1_37 := hp1_37.ext hx122
    replace hp1_41 := hp1_41.ext hx122
    replace hp1_69 := hp1_69.ext hx122
    replace hp1_79 := hp1_79.ext hx122
    replace hp1_117 := hp1_117.ext hx122
    replace hp1_121 := hp1_121.ext hx122
    refine w_pure (y_move rfl) rfl ?_
    refine w_pure (y_extract rfl rfl) rfl ?_
    refine w_pure (y_extract rfl rfl) rfl ?_
    refine w_pure (y_assign rfl) rfl ?_
    refine w_pure (y_assign rfl) rfl ?_
    refine w_nil ?_
    refine x_next ?_
    refine c_seq ?_
    refine c_seq ?_
    refine c_region ?_
    refine w_pure (y_move rfl) rfl ?_
    refine w_pure (y_move rfl) rfl ?_
    refine w_val rfl rfl rfl (eqCardS_c) rfl (fun w127 hx127 hz127 => ?_)
    have hz_hx127 := hx127.size
    replace hp1_122 := hp1_122.ext hx127
    replace hp1_119 := hp1_119.ext hx127
    replace hp1_106 := hp1_106.ext hx127
    replace hp1_90 := hp1_90.ext hx127
    replace hp1_87 := hp1_87.ext hx127
    replace hp1_84 := hp1_84.ext hx127
    replace hp1_74 := hp1_74.ext hx127
    replace hb10 := hb10.ext hx127
    replace hp1_42 := hp1_42.ext hx127
    replace hp1_39 := hp1_39.ext hx127
    replace hb3 := hb3.ext hx127
    replace s0 := s0.ext hx127
    replace s1 := s1.ext hx127
    replace s2 := s2.ext hx127
    replace E := E.trans hx127
    replace hp1_37 := hp1_37.ext hx127
    replace hp1_41 := hp1_41.ext hx127
    replace hp1_69 := hp1_69.ext hx127
    replace hp1_79 := hp1_79.ext hx127
    replace hp1_117 := hp1_117.ext hx127
    replace hp1_121 := hp1_121.ext hx127
    refine w_pure (y_not_dec rfl) rfl ?_
    refine w_pure (y_move rfl) rfl ?_
    (refine w_part_dec rfl rfl (fun hc130 => ?_) (fun hc130 => ?_) <;> try (first | exact absurd rfl hc130 | contradiction | exact Bool.noConfusion (show false = true from hc130.symm.trans (by assumption)) | exact Bool.noConfusion (show true = false from hc130.symm.trans (by assumption)) | (exfalso; omega) | (exfalso; simp only [*, Bool.not_true, Bool.not_false, reduceCtorEq] at hc130; done)))
    refine w_yes rfl rfl ?_
    refine w_pure (y_move rfl) rfl ?_
    refine w_yes rfl rfl ?_
    refine w_pure (y_move rfl) rfl ?_
    refine w_yes rfl rfl ?_
    refine w_pure (y_ne rfl rfl) rfl ?_
    refine w_pure (y_pick_f rfl rfl) rfl ?_
    refine w_nil ?_
    refine x_next ?_
    refine c_nsame rfl ?_
    refine c_skip ?_
    refine x_next ?_
    refine c_seq ?_
    refine c_region ?_
    refine w_pure (y_assign rfl) rfl ?_
    refine w_nil ?_
    refine x_next ?_
    refine c_seq ?_
    refine c_region ?_
    refine w_pure (y_move rfl) rfl ?_
    refine w_pure (y_move rfl) rfl ?_
    refine w_val rfl rfl rfl (heldCardS_c) rfl (fun w136 hx136 hz136 => ?_)
    have hz_hx136 := hx136.size
    replace hp1_122 := hp1_122.ext hx136
    replace hp1_119 := hp1_119.ext hx136
    replace hp1_106 := hp1_106.ext hx136
    replace hp1_90 := hp1_90.ext hx136
    replace hp1_87 := hp1_87.ext hx136
    replace hp1_84 := hp1_84.ext hx136
    replace hp1_74 := hp1_74.ext hx136
    replace hb10 := hb10.ext hx136
    replace hp1_42 := hp1_42.ext hx136
    replace hp1_39 := hp1_39.ext hx136
    replace hb3 := hb3.ext hx136
    replace s0 := s0.ext hx136
    replace s1 := s1.ext hx136
    replace s2 := s2.ext hx136
    replace E := E.trans hx136
    replace hp1_37 := hp1_37.ext hx136
    replace hp1_41 := hp1_41.ext hx136
    replace hp1_69 := hp1_69.ext hx136
    replace hp1_79 := hp1_79.ext hx136
    replace hp1_117 := hp1_117.ext hx136
    replace hp1_121 := hp1_121.ext hx136
    refine w_pure (y_assign rfl) rfl ?_
    refine w_nil ?_
    refine x_next ?_
    refine c_seq ?_
    refine c_seq ?_
    refine c_region ?_
    refine w_pure (y_move rfl) rfl ?_
    refine w_pure (y_lt rfl rfl) rfl ?_
    refine w_nil ?_
    refine x_next ?_
    refine c_false rfl ?_
    refine c_skip ?_
    refine x_next ?_
    refine c_seq ?_
    refine c_seq ?_
    refine c_region ?_
    refine w_pure (y_move rfl) rfl ?_
    refine w_pure (y_move rfl) rfl ?_
    refine w_pure (y_ne rfl rfl) rfl ?_
    refine w_nil ?_
    refine x_next ?_
    refine c_nsame rfl ?_
    refine c_skip ?_
    refine x_next ?_
    refine c_seq ?_
    refine c_region ?_
    refine w_pure (y_assign rfl) rfl ?_
    refine w_nil ?_
    refine x_next ?_
    refine c_ret ?_
    exact x_retv [_] rfl ⟨rfl, trivial⟩ ⟨rfl, E.go⟩
end Go.Proofs.Ytkkgkoibabbjoaa

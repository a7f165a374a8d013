/- The walk of the law on balances, and on counters that are split and joined. -/
import Derived.Test.YthigkbkaeopipaaBalC
import Derived.Test.YthigkbkaeopipaaBalD
import Derived.Test.YthigkbkaeopipaaBalP
namespace Go.Proofs.Ythigkbkaeopipaa
open Go Go.Gw
set_option linter.unusedVariables false
set_option linter.unusedSimpArgs false
theorem split_join {xs : List Int} {k : Int} (h : splitC xs k = 0) : joinC (resLow xs k) (resHigh xs k) = 0 ∧ resJoin (resLow xs k) (resHigh xs k) = xs := by
  have h1 := splitC_ok h
  have hl := okC_len h1.1
  have e1 : resLow xs k = xs.take k.toNat := by rw [resLow, if_pos h]
  have e2 : resHigh xs k = xs.drop k.toNat := by rw [resHigh, if_pos h]
  have k1 : okC (xs.take k.toNat) = true := okC_of (fun d hd => okC_dig h1.1 d (List.mem_of_mem_take hd)) (by rw [List.length_take]; omega) (by rw [List.length_take]; omega)
  have k2 : okC (xs.drop k.toNat) = true := okC_of (fun d hd => okC_dig h1.1 d (List.mem_of_mem_drop hd)) (by rw [List.length_drop]; omega) (by rw [List.length_drop]; omega)
  have hc : joinC (resLow xs k) (resHigh xs k) = 0 := by
    rw [e1, e2, joinC, if_pos ⟨k1, k2⟩, if_pos (by rw [List.length_take, List.length_drop]; omega)]
  refine ⟨hc, ?_⟩
  rw [resJoin, if_pos hc, e1, e2, List.take_append_drop]
section
set_option maxHeartbeats 4000000 in
theorem lFnBalances (w0 : World) (x0 : { x : OBy // x.ok w0 }) : Ret Try.prog 4 [x0.1.v] w0 fun u w' => u = .bool true ∧ Ext w0 w' := by
  obtain ⟨⟨v0, p0⟩, ⟨h0⟩⟩ := x0
  show Ret _ _ [v0] w0 _
  dsimp only at h0
  have E : Since 0 0 w0 w0 := Since.refl 0 0 w0
  refine ret_enter Try.func4 rfl Try.ntmps4 rfl ?_
  focus
    have ht_h0 := h0.top
    refine c_seq ?_
    refine c_region ?_
    refine w_pure (y_assign rfl) rfl ?_
    refine w_nil ?_
    refine x_next ?_
    refine c_seq ?_
    refine c_seq ?_
    refine c_region ?_
    refine w_pure (y_move rfl) rfl ?_
    (refine w_call rfl rfl rfl (f6big_c) rfl ?_; rintro _ w30 ⟨z30, ⟨rfl, hx30⟩⟩)
    have hz_hx30 := hx30.size
    replace h0 := h0.ext hx30
    replace E := E.trans hx30
    refine w_nil ?_
    refine x_next ?_
    (refine c_if rfl (fun hc30 => ?_) (fun hc30 => ?_) <;> try (first | exact absurd rfl hc30 | contradiction | exact Bool.noConfusion (show false = true from hc30.symm.trans (by assumption)) | exact Bool.noConfusion (show true = false from hc30.symm.trans (by assumption)) | (exfalso; omega) | (exfalso; simp only [*, Bool.not_true, Bool.not_false, reduceCtorEq] at hc30; done)))
    refine c_seq ?_
    refine c_region ?_
    refine w_pure (y_assign rfl) rfl ?_
    refine w_nil ?_
    refine x_next ?_
    refine c_ret ?_
    refine x_then_ret ?_
    rotate_left
    refine c_skip ?_
    refine x_next ?_
    refine c_seq ?_
    refine c_region ?_
    refine w_pure (y_move rfl) rfl ?_
    (refine w_call rfl rfl rfl (DrawBalanceAfter_c) rfl ?_; rintro _ w33 ⟨d33, ⟨xs33, ⟨k33, ⟨rfl, ⟨hp1_33, ⟨hp2_33, ⟨hp3_33, hx33⟩⟩⟩⟩⟩⟩⟩)
    have hl_hp1_33 := hp1_33.lt
    have hz_hx33 := hx33.size
    replace h0 := h0.ext hx33
    replace E := E.trans hx33
    refine w_pure (y_move rfl) rfl ?_
    refine w_pure (y_extract rfl rfl) rfl ?_
    refine w_pure (y_extract rfl rfl) rfl ?_
    refine w_pure (y_assign rfl) rfl ?_
    refine w_pure (y_assign rfl) rfl ?_
    refine w_nil ?_
    refine x_next ?_
    refine c_seq ?_
    refine c_region ?_
    refine w_pure (y_move rfl) rfl ?_
    refine w_pure (y_move rfl) rfl ?_
    refine w_val rfl rfl rfl (iBalanceAfter_c _) rfl (fun w39 hx39 hz39 => ?_)
    have hz_hx39 := hx39.size
    replace hp1_33 := hp1_33.ext hx39
    replace h0 := h0.ext hx39
    replace E := E.trans hx39
    refine w_pure (y_move rfl) rfl ?_
    refine w_pure (y_extract rfl rfl) rfl ?_
    refine w_pure (y_extract rfl rfl) rfl ?_
    refine w_pure (y_extract rfl rfl) rfl ?_
    refine w_pure (y_assign rfl) rfl ?_
    refine w_pure (y_assign rfl) rfl ?_
    refine w_pure (y_assign rfl) rfl ?_
    refine w_nil ?_
    refine x_next ?_
    refine c_seq ?_
    refine c_region ?_
    refine w_pure (y_move rfl) rfl ?_
    refine w_pure (y_move rfl) rfl ?_
    refine w_val rfl rfl rfl (sBalanceAfter_c _) rfl (fun w46 hx46 hz46 => ?_)
    have hz_hx46 := hx46.size
    replace hp1_33 := hp1_33.ext hx46
    replace h0 := h0.ext hx46
    replace E := E.trans hx46
    refine w_pure (y_move rfl) rfl ?_
    refine w_pure (y_extract rfl rfl) rfl ?_
    refine w_pure (y_extract rfl rfl) rfl ?_
    refine w_pure (y_extract rfl rfl) rfl ?_
    refine w_pure (y_assign rfl) rfl ?_
    refine w_pure (y_assign rfl) rfl ?_
    refine w_pure (y_assign rfl) rfl ?_
    refine w_nil ?_
    refine x_next ?_
    refine c_seq ?_
    refine c_region ?_
    refine w_pure (y_move rfl) rfl ?_
    (refine w_call rfl rfl rfl (DrawSplitCounter_c) rfl ?_; rintro _ w52 ⟨d52, ⟨xs52, ⟨k52, ⟨rfl, ⟨hp1_52, ⟨hp2_52, ⟨hp3_52, hx52⟩⟩⟩⟩⟩⟩⟩)
    have hl_hp1_52 := hp1_52.lt
    have hz_hx52 := hx52.size
    replace hp1_33 := hp1_33.ext hx52
    replace h0 := h0.ext hx52
    replace E := E.trans hx52
    refine w_pure (y_move rfl) rfl ?_
    refine w_pure (y_extract rfl rfl) rfl ?_
    refine w_pure (y_extract rfl rfl) rfl ?_
    refine w_alloc (k := fun b11 w11 hb11 hx11 hl11 hs11 => ?_)
    have hz_hx11 := hx11.size
    replace hp1_52 := hp1_52.ext hx11
    replace hp1_33 := hp1_33.ext hx11
    replace h0 := h0.ext hx11
    replace E := E.trans hx11
    refine w_store_boxs rfl rfl (next := fun ws71 hbs71 hxs71 hss71 => ?_)
    (replace hb11 := hbs71; clear hbs71)
    have hz_hxs71 := hxs71.size
    replace hp1_52 := hp1_52.chg hxs71 (by omega)
    replace hp1_33 := hp1_33.chg hxs71 (by omega)
    replace h0 := h0.chg hxs71 (by omega)
    replace E := E.next hxs71 (by omega)
    refine w_pure (y_assign rfl) rfl ?_
    refine w_nil ?_
    refine x_next ?_
    refine c_seq ?_
    refine c_region ?_
    refine w_pure (y_load_boxs rfl) rfl ?_
    refine w_pure (y_move rfl) rfl ?_
    rotate_left
  · exact x_retv [_] rfl ⟨rfl, trivial⟩ ⟨rfl, E.go⟩
  have s33 := hp1_33.sl
  have s52 := hp1_52.sl
  clear hp1_33 hp1_52
  try clear hl_hp1_33
  try clear hl_hp1_52
  focus
    have ht_s33 := s33.top
    have ht_s52 := s52.top
    (refine w_call rfl rfl rfl (iSplitCounter_c _) rfl ?_; rintro _ w58 ⟨d58, ⟨e58, ⟨m58, ⟨rfl, ⟨hp1_58, ⟨hp2_58, ⟨⟨hp3_58, hp4_58⟩, hx58⟩⟩⟩⟩⟩⟩⟩)
    have hz_hx58 := hx58.size
    replace hb11 := hb11.ext hx58
    replace h0 := h0.ext hx58
    replace E := E.trans hx58
    replace s33 := s33.ext hx58
    replace s52 := s52.ext hx58
    refine w_pure (y_move rfl) rfl ?_
    refine w_pure (y_extract rfl rfl) rfl ?_
    refine w_pure (y_extract rfl rfl) rfl ?_
    refine w_pure (y_extract rfl rfl) rfl ?_
    refine w_alloc (k := fun b13 w13 hb13 hx13 hl13 hs13 => ?_)
    have hz_hx13 := hx13.size
    replace hp1_58 := hp1_58.ext hx13
    replace hp2_58 := hp2_58.ext hx13
    replace hb11 := hb11.ext hx13
    replace h0 := h0.ext hx13
    replace E := E.trans hx13
    replace s33 := s33.ext hx13
    replace s52 := s52.ext hx13
    refine w_alloc (k := fun b14 w14 hb14 hx14 hl14 hs14 => ?_)
    have hz_hx14 := hx14.size
    replace hb13 := hb13.ext hx14
    replace hp1_58 := hp1_58.ext hx14
    replace hp2_58 := hp2_58.ext hx14
    replace hb11 := hb11.ext hx14
    replace h0 := h0.ext hx14
    replace E := E.trans hx14
    replace s33 := s33.ext hx14
    replace s52 := s52.ext hx14
    refine w_store_boxs rfl rfl (next := fun ws8 hbs8 hxs8 hss8 => ?_)
    (replace hb13 := hbs8; clear hbs8)
    have hz_hxs8 := hxs8.size
    replace hb14 := hb14.chg hxs8 (by omega)
    replace hp1_58 := hp1_58.chg hxs8 (by omega)
    replace hp2_58 := hp2_58.chg hxs8 (by omega)
    replace hb11 := hb11.chg hxs8 (by omega)
    replace h0 := h0.chg hxs8 (by omega)
    replace E := E.next hxs8 (by omega)
    replace s33 := s33.chg hxs8 (by omega)
    replace s52 := s52.chg hxs8 (by omega)
    refine w_store_boxs rfl rfl (next := fun ws9 hbs9 hxs9 hss9 => ?_)
    (replace hb14 := hbs9; clear hbs9)
    have hz_hxs9 := hxs9.size
    replace hb13 := hb13.chg hxs9 (by omega)
    replace hp1_58 := hp1_58.chg hxs9 (by omega)
    replace hp2_58 := hp2_58.chg hxs9 (by omega)
    replace hb11 := hb11.chg hxs9 (by omega)
    replace h0 := h0.chg hxs9 (by omega)
    replace E := E.next hxs9 (by omega)
    replace s33 := s33.chg hxs9 (by omega)
    replace s52 := s52.chg hxs9 (by omega)
    refine w_pure (y_assign rfl) rfl ?_
    refine w_nil ?_
    refine x_next ?_
    refine c_seq ?_
    refine c_region ?_
    refine w_pure (y_load_boxs rfl) rfl ?_
    refine w_pure (y_move rfl) rfl ?_
    (refine w_call rfl rfl rfl (sSplitCounter_c _) rfl ?_; rintro _ w65 ⟨d65, ⟨e65, ⟨m65, ⟨rfl, ⟨hp1_65, ⟨hp2_65, ⟨⟨hp3_65, hp4_65⟩, hx65⟩⟩⟩⟩⟩⟩⟩)
    have hz_hx65 := hx65.size
    replace hb14 := hb14.ext hx65
    replace hb13 := hb13.ext hx65
    replace hp1_58 := hp1_58.ext hx65
    replace hp2_58 := hp2_58.ext hx65
    replace hb11 := hb11.ext hx65
    replace h0 := h0.ext hx65
    replace E := E.trans hx65
    replace s33 := s33.ext hx65
    replace s52 := s52.ext hx65
    refine w_pure (y_move rfl) rfl ?_
    refine w_pure (y_extract rfl rfl) rfl ?_
    refine w_pure (y_extract rfl rfl) rfl ?_
    refine w_pure (y_extract rfl rfl) rfl ?_
    refine w_alloc (k := fun b16 w16 hb16 hx16 hl16 hs16 => ?_)
    have hz_hx16 := hx16.size
    replace hp1_65 := hp1_65.ext hx16
    replace hp2_65 := hp2_65.ext hx16
    replace hb14 := hb14.ext hx16
    replace hb13 := hb13.ext hx16
    replace hp1_58 := hp1_58.ext hx16
    replace hp2_58 := hp2_58.ext hx16
    replace hb11 := hb11.ext hx16
    replace h0 := h0.ext hx16
    replace E := E.trans hx16
    replace s33 := s33.ext hx16
    replace s52 := s52.ext hx16
    refine w_alloc (k := fun b17 w17 hb17 hx17 hl17 hs17 => ?_)
    have hz_hx17 := hx17.size
    replace hb16 := hb16.ext hx17
    replace hp1_65 := hp1_65.ext hx17
    replace hp2_65 := hp2_65.ext hx17
    replace hb14 := hb14.ext hx17
    replace hb13 := hb13.ext hx17
    replace hp1_58 := hp1_58.ext hx17
    replace hp2_58 := hp2_58.ext hx17
    replace hb11 := hb11.ext hx17
    replace h0 := h0.ext hx17
    replace E := E.trans hx17
    replace s33 := s33.ext hx17
    replace s52 := s52.ext hx17
    refine w_store_boxs rfl rfl (next := fun ws24 hbs24 hxs24 hss24 => ?_)
    (replace hb16 := hbs24; clear hbs24)
    have hz_hxs24 := hxs24.size
    replace hb17 := hb17.chg hxs24 (by omega)
    replace hp1_65 := hp1_65.chg hxs24 (by omega)
    replace hp2_65 := hp2_65.chg hxs24 (by omega)
    replace hb14 := hb14.chg hxs24 (by omega)
    replace hb13 := hb13.chg hxs24 (by omega)
    replace hp1_58 := hp1_58.chg hxs24 (by omega)
    replace hp2_58 := hp2_58.chg hxs24 (by omega)
    replace hb11 := hb11.chg hxs24 (by omega)
    replace h0 := h0.chg hxs24 (by omega)
    replace E := E.next hxs24 (by omega)
    replace s33 := s33.chg hxs24 (by omega)
    replace s52 := s52.chg hxs24 (by omega)
    refine w_store_boxs rfl rfl (next := fun ws25 hbs25 hxs25 hss25 => ?_)
    (replace hb17 := hbs25; clear hbs25)
    have hz_hxs25 := hxs25.size
    replace hb16 := hb16.chg hxs25 (by omega)
    replace hp1_65 := hp1_65.chg hxs25 (by omega)
    replace hp2_65 := hp2_65.chg hxs25 (by omega)
    replace hb14 := hb14.chg hxs25 (by omega)
    replace hb13 := hb13.chg hxs25 (by omega)
    replace hp1_58 := hp1_58.chg hxs25 (by omega)
    replace hp2_58 := hp2_58.chg hxs25 (by omega)
    replace hb11 := hb11.chg hxs25 (by omega)
    replace h0 := h0.chg hxs25 (by omega)
    replace E := E.next hxs25 (by omega)
    replace s33 := s33.chg hxs25 (by omega)
    replace s52 := s52.chg hxs25 (by omega)
    refine w_pure (y_assign rfl) rfl ?_
    refine w_nil ?_
    refine x_next ?_
    refine c_seq ?_
    refine c_region ?_
    refine w_pure (y_move rfl) rfl ?_
    (refine w_call rfl rfl rfl (DrawJoinCounters_c) rfl ?_; rintro _ w71 ⟨d71, ⟨xs71, ⟨e71, ⟨ys71, ⟨rfl, ⟨hp1_71, ⟨hp2_71, ⟨hp3_71, ⟨hp4_71, hx71⟩⟩⟩⟩⟩⟩⟩⟩⟩)
    have hl_hp1_71 := hp1_71.lt
    have hl_hp2_71 := hp2_71.lt
    have hz_hx71 := hx71.size
    replace hb17 := hb17.ext hx71
    replace hb16 := hb16.ext hx71
    replace hp1_65 := hp1_65.ext hx71
    replace hp2_65 := hp2_65.ext hx71
    replace hb14 := hb14.ext hx71
    replace hb13 := hb13.ext hx71
    replace hp1_58 := hp1_58.ext hx71
    replace hp2_58 := hp2_58.ext hx71
    replace hb11 := hb11.ext hx71
    replace h0 := h0.ext hx71
    replace E := E.trans hx71
    replace s33 := s33.ext hx71
    replace s52 := s52.ext hx71
    refine w_pure (y_move rfl) rfl ?_
    refine w_pure (y_extract rfl rfl) rfl ?_
    refine w_pure (y_extract rfl rfl) rfl ?_
    refine w_alloc (k := fun b19 w19 hb19 hx19 hl19 hs19 => ?_)
    have hz_hx19 := hx19.size
    replace hp1_71 := hp1_71.ext hx19
    replace hp2_71 := hp2_71.ext hx19
    replace hb17 := hb17.ext hx19
    replace hb16 := hb16.ext hx19
    replace hp1_65 := hp1_65.ext hx19
    replace hp2_65 := hp2_65.ext hx19
    replace hb14 := hb14.ext hx19
    replace hb13 := hb13.ext hx19
    replace hp1_58 := hp1_58.ext hx19
    replace hp2_58 := hp2_58.ext hx19
    replace hb11 := hb11.ext hx19
    replace h0 := h0.ext hx19
    replace E := E.trans hx19
    replace s33 := s33.ext hx19
    replace s52 := s52.ext hx19
    refine w_alloc (k := fun b20 w20 hb20 hx20 hl20 hs20 => ?_)
    have hz_hx20 := hx20.size
    replace hb19 := hb19.ext hx20
    replace hp1_71 := hp1_71.ext hx20
    replace hp2_71 := hp2_71.ext hx20
    replace hb17 := hb17.ext hx20
    replace hb16 := hb16.ext hx20
    replace hp1_65 := hp1_65.ext hx20
    replace hp2_65 := hp2_65.ext hx20
    replace hb14 := hb14.ext hx20
    replace hb13 := hb13.ext hx20
    replace hp1_58 := hp1_58.ext hx20
    replace hp2_58 := hp2_58.ext hx20
    replace hb11 := hb11.ext hx20
    replace h0 := h0.ext hx20
    replace E := E.trans hx20
    replace s33 := s33.ext hx20
    replace s52 := s52.ext hx20
    refine w_store_boxs rfl rfl (next := fun ws38 hbs38 hxs38 hss38 => ?_)
    (replace hb19 := hbs38; clear hbs38)
    have hz_hxs38 := hxs38.size
    replace hb20 := hb20.chg hxs38 (by omega)
    replace hp1_71 := hp1_71.chg hxs38 (by omega)
    replace hp2_71 := hp2_71.chg hxs38 (by omega)
    replace hb17 := hb17.chg hxs38 (by omega)
    replace hb16 := hb16.chg hxs38 (by omega)
    replace hp1_65 := hp1_65.chg hxs38 (by omega)
    replace hp2_65 := hp2_65.chg hxs38 (by omega)
    replace hb14 := hb14.chg hxs38 (by omega)
    replace hb13 := hb13.chg hxs38 (by omega)
    replace hp1_58 := hp1_58.chg hxs38 (by omega)
    replace hp2_58 := hp2_58.chg hxs38 (by omega)
    replace hb11 := hb11.chg hxs38 (by omega)
    replace h0 := h0.chg hxs38 (by omega)
    replace E := E.next hxs38 (by omega)
    replace s33 := s33.chg hxs38 (by omega)
    replace s52 := s52.chg hxs38 (by omega)
    refine w_store_boxs rfl rfl (next := fun ws39 hbs39 hxs39 hss39 => ?_)
    (replace hb20 := hbs39; clear hbs39)
    have hz_hxs39 := hxs39.size
    replace hb19 := hb19.chg hxs39 (by omega)
    replace hp1_71 := hp1_71.chg hxs39 (by omega)
    replace hp2_71 := hp2_71.chg hxs39 (by omega)
    replace hb17 := hb17.chg hxs39 (by omega)
    replace hb16 := hb16.chg hxs39 (by omega)
    replace hp1_65 := hp1_65.chg hxs39 (by omega)
    replace hp2_65 := hp2_65.chg hxs39 (by omega)
    replace hb14 := hb14.chg hxs39 (by omega)
    replace hb13 := hb13.chg hxs39 (by omega)
    replace hp1_58 := hp1_58.chg hxs39 (by omega)
    replace hp2_58 := hp2_58.chg hxs39 (by omega)
    replace hb11 := hb11.chg hxs39 (by omega)
    replace h0 := h0.chg hxs39 (by omega)
    replace E := E.next hxs39 (by omega)
    replace s33 := s33.chg hxs39 (by omega)
    replace s52 := s52.chg hxs39 (by omega)
    refine w_nil ?_
    refine x_next ?_
    refine c_seq ?_
    refine c_region ?_
    refine w_pure (y_load_boxs rfl) rfl ?_
    refine w_pure (y_load_boxs rfl) rfl ?_
    rotate_left
  have s71 := hp1_71.sl
  have s72 := hp2_71.sl
  clear hp1_71 hp2_71
  try clear hl_hp1_71
  try clear hl_hp2_71
  focus
    have ht_hp1_65 := hp1_65.top
    have ht_hp2_65 := hp2_65.top
    have ht_hp1_58 := hp1_58.top
    have ht_hp2_58 := hp2_58.top
    have ht_s71 := s71.top
    have ht_s72 := s72.top
    (refine w_call rfl rfl rfl (iJoinCounters_c) rfl ?_; rintro _ w77 ⟨d77, ⟨rfl, ⟨hp1_77, hx77⟩⟩⟩)
    have hl_hp1_77 := hp1_77.lt
    have hz_hx77 := hx77.size
    replace hb20 := hb20.ext hx77
    replace hb19 := hb19.ext hx77
    replace hb17 := hb17.ext hx77
    replace hb16 := hb16.ext hx77
    replace hp1_65 := hp1_65.ext hx77
    replace hp2_65 := hp2_65.ext hx77
    replace hb14 := hb14.ext hx77
    replace hb13 := hb13.ext hx77
    replace hp1_58 := hp1_58.ext hx77
    replace hp2_58 := hp2_58.ext hx77
    replace hb11 := hb11.ext hx77
    replace h0 := h0.ext hx77
    replace E := E.trans hx77
    replace s33 := s33.ext hx77
    replace s52 := s52.ext hx77
    replace s71 := s71.ext hx77
    replace s72 := s72.ext hx77
    refine w_pure (y_move rfl) rfl ?_
    refine w_pure (y_extract rfl rfl) rfl ?_
    refine w_pure (y_extract rfl rfl) rfl ?_
    refine w_alloc (k := fun b21 w21 hb21 hx21 hl21 hs21 => ?_)
    have hz_hx21 := hx21.size
    replace hp1_77 := hp1_77.ext hx21
    replace hb20 := hb20.ext hx21
    replace hb19 := hb19.ext hx21
    replace hb17 := hb17.ext hx21
    replace hb16 := hb16.ext hx21
    replace hp1_65 := hp1_65.ext hx21
    replace hp2_65 := hp2_65.ext hx21
    replace hb14 := hb14.ext hx21
    replace hb13 := hb13.ext hx21
    replace hp1_58 := hp1_58.ext hx21
    replace hp2_58 := hp2_58.ext hx21
    replace hb11 := hb11.ext hx21
    replace h0 := h0.ext hx21
    replace E := E.trans hx21
    replace s33 := s33.ext hx21
    replace s52 := s52.ext hx21
    replace s71 := s71.ext hx21
    replace s72 := s72.ext hx21
    refine w_store_boxs rfl rfl (next := fun ws6 hbs6 hxs6 hss6 => ?_)
    (replace hb21 := hbs6; clear hbs6)
    have hz_hxs6 := hxs6.size
    replace hp1_77 := hp1_77.chg hxs6 (by omega)
    replace hb20 := hb20.chg hxs6 (by omega)
    replace hb19 := hb19.chg hxs6 (by omega)
    replace hb17 := hb17.chg hxs6 (by omega)
    replace hb16 := hb16.chg hxs6 (by omega)
    replace hp1_65 := hp1_65.chg hxs6 (by omega)
    replace hp2_65 := hp2_65.chg hxs6 (by omega)
    replace hb14 := hb14.chg hxs6 (by omega)
    replace hb13 := hb13.chg hxs6 (by omega)
    replace hp1_58 := hp1_58.chg hxs6 (by omega)
    replace hp2_58 := hp2_58.chg hxs6 (by omega)
    replace hb11 := hb11.chg hxs6 (by omega)
    replace h0 := h0.chg hxs6 (by omega)
    replace E := E.next hxs6 (by omega)
    replace s33 := s33.chg hxs6 (by omega)
    replace s52 := s52.chg hxs6 (by omega)
    replace s71 := s71.chg hxs6 (by omega)
    replace s72 := s72.chg hxs6 (by omega)
    refine w_pure (y_assign rfl) rfl ?_
    refine w_nil ?_
    refine x_next ?_
    refine c_seq ?_
    refine c_region ?_
    refine w_pure (y_load_boxs rfl) rfl ?_
    refine w_pure (y_load_boxs rfl) rfl ?_
    (refine w_call rfl rfl rfl (sJoinCounters_c) rfl ?_; rintro _ w83 ⟨d83, ⟨rfl, ⟨hp1_83, hx83⟩⟩⟩)
    have hl_hp1_83 := hp1_83.lt
    have hz_hx83 := hx83.size
    replace hb21 := hb21.ext hx83
    replace hp1_77 := hp1_77.ext hx83
    replace hb20 := hb20.ext hx83
    replace hb19 := hb19.ext hx83
    replace hb17 := hb17.ext hx83
    replace hb16 := hb16.ext hx83
    replace hp1_65 := hp1_65.ext hx83
    replace hp2_65 := hp2_65.ext hx83
    replace hb14 := hb14.ext hx83
    replace hb13 := hb13.ext hx83
    replace hp1_58 := hp1_58.ext hx83
    replace hp2_58 := hp2_58.ext hx83
    replace hb11 := hb11.ext hx83
    replace h0 := h0.ext hx83
    replace E := E.trans hx83
    replace s33 := s33.ext hx83
    replace s52 := s52.ext hx83
    replace s71 := s71.ext hx83
    replace s72 := s72.ext hx83
    refine w_pure (y_move rfl) rfl ?_
    refine w_pure (y_extract rfl rfl) rfl ?_
    refine w_pure (y_extract rfl rfl) rfl ?_
    refine w_alloc (k := fun b23 w23 hb23 hx23 hl23 hs23 => ?_)
    have hz_hx23 := hx23.size
    replace hp1_83 := hp1_83.ext hx23
    replace hb21 := hb21.ext hx23
    replace hp1_77 := hp1_77.ext hx23
    replace hb20 := hb20.ext hx23
    replace hb19 := hb19.ext hx23
    replace hb17 := hb17.ext hx23
    replace hb16 := hb16.ext hx23
    replace hp1_65 := hp1_65.ext hx23
    replace hp2_65 := hp2_65.ext hx23
    replace hb14 := hb14.ext hx23
    replace hb13 := hb13.ext hx23
    replace hp1_58 := hp1_58.ext hx23
    replace hp2_58 := hp2_58.ext hx23
    replace hb11 := hb11.ext hx23
    replace h0 := h0.ext hx23
    replace E := E.trans hx23
    replace s33 := s33.ext hx23
    replace s52 := s52.ext hx23
    replace s71 := s71.ext hx23
    replace s72 := s72.ext hx23
    refine w_store_boxs rfl rfl (next := fun ws19 hbs19 hxs19 hss19 => ?_)
    (replace hb23 := hbs19; clear hbs19)
    have hz_hxs19 := hxs19.size
    replace hp1_83 := hp1_83.chg hxs19 (by omega)
    replace hb21 := hb21.chg hxs19 (by omega)
    replace hp1_77 := hp1_77.chg hxs19 (by omega)
    replace hb20 := hb20.chg hxs19 (by omega)
    replace hb19 := hb19.chg hxs19 (by omega)
    replace hb17 := hb17.chg hxs19 (by omega)
    replace hb16 := hb16.chg hxs19 (by omega)
    replace hp1_65 := hp1_65.chg hxs19 (by omega)
    replace hp2_65 := hp2_65.chg hxs19 (by omega)
    replace hb14 := hb14.chg hxs19 (by omega)
    replace hb13 := hb13.chg hxs19 (by omega)
    replace hp1_58 := hp1_58.chg hxs19 (by omega)
    replace hp2_58 := hp2_58.chg hxs19 (by omega)
    replace hb11 := hb11.chg hxs19 (by omega)
    replace h0 := h0.chg hxs19 (by omega)
    replace E := E.next hxs19 (by omega)
    replace s33 := s33.chg hxs19 (by omega)
    replace s52 := s52.chg hxs19 (by omega)
    replace s71 := s71.chg hxs19 (by omega)
    replace s72 := s72.chg hxs19 (by omega)
    refine w_pure (y_assign rfl) rfl ?_
    refine w_nil ?_
    refine x_next ?_
    refine c_seq ?_
    refine c_seq ?_
    refine c_region ?_
    refine w_pure (y_move rfl) rfl ?_
    refine w_pure (y_move rfl) rfl ?_
    refine w_pure (y_ne rfl rfl) rfl ?_
    refine w_pure (y_move rfl) rfl ?_
    (refine w_part_dec rfl rfl (fun hc90 => ?_) (fun hc90 => ?_) <;> try (first | exact absurd rfl hc90 | contradiction | exact Bool.noConfusion (show false = true from hc90.symm.trans (by assumption)) | exact Bool.noConfusion (show true = false from hc90.symm.trans (by assumption)) | (exfalso; omega) | (exfalso; simp only [*, Bool.not_true, Bool.not_false, reduceCtorEq] at hc90; done)))
    refine w_yes rfl rfl ?_
    refine w_pure (y_move rfl) rfl ?_
    refine w_yes rfl rfl ?_
    refine w_pure (y_move rfl) rfl ?_
    refine w_yes rfl rfl ?_
    refine w_pure (y_ne rfl rfl) rfl ?_
    refine w_pure (y_pick_f rfl rfl) rfl ?_
    refine w_pure (y_move rfl) rfl ?_
    (refine w_part_dec rfl rfl (fun hc95 => ?_) (fun hc95 => ?_) <;> try (first | exact absurd rfl hc95 | contradiction | exact Bool.noConfusion (show false = true from hc95.symm.trans (by assumption)) | exact Bool.noConfusion (show true = false from hc95.symm.trans (by assumption)) | (exfalso; omega) | (exfalso; simp only [*, Bool.not_true, Bool.not_false, reduceCtorEq] at hc95; done)))
    refine w_yes rfl rfl ?_
    refine w_pure (y_move rfl) rfl ?_
    refine w_yes rfl rfl ?_
    refine w_pure (y_move rfl) rfl ?_
    refine w_yes rfl rfl ?_
    refine w_pure (y_neb rfl rfl) rfl ?_
    refine w_pure (y_pick_f rfl rfl) rfl ?_
    refine w_pure (y_move rfl) rfl ?_
    (refine w_part_dec rfl rfl (fun hc100 => ?_) (fun hc100 => ?_) <;> try (first | exact absurd rfl hc100 | contradiction | exact Bool.noConfusion (show false = true from hc100.symm.trans (by assumption)) | exact Bool.noConfusion (show true = false from hc100.symm.trans (by assumption)) | (exfalso; omega) | (exfalso; simp only [*, Bool.not_true, Bool.not_false, reduceCtorEq] at hc100; done)))
    refine w_yes rfl rfl ?_
    refine w_pure (y_move rfl) rfl ?_
    refine w_yes rfl rfl ?_
    refine w_pure (y_move rfl) rfl ?_
    refine w_yes rfl rfl ?_
    refine w_pure (y_ne rfl rfl) rfl ?_
    refine w_pure (y_pick_f rfl rfl) rfl ?_
    refine w_pure (y_move rfl) rfl ?_
    (refine w_part_dec rfl rfl (fun hc105 => ?_) (fun hc105 => ?_) <;> try (first | exact absurd rfl hc105 | contradiction | exact Bool.noConfusion (show false = true from hc105.symm.trans (by assumption)) | exact Bool.noConfusion (show true = false from hc105.symm.trans (by assumption)) | (exfalso; omega) | (exfalso; simp only [*, Bool.not_true, Bool.not_false, reduceCtorEq] at hc105; done)))
    refine w_yes rfl rfl ?_
    refine w_pure (y_load_boxs rfl) rfl ?_
    refine w_yes rfl rfl ?_
    refine w_pure (y_load_boxs rfl) rfl ?_
    refine w_yes rfl rfl ?_
    refine w_val rfl rfl rfl (sSameCounter_c) rfl (fun w107 hx107 hz107 => ?_)
    have hz_hx107 := hx107.size
    replace hb23 := hb23.ext hx107
    replace hp1_83 := hp1_83.ext hx107
    replace hb21 := hb21.ext hx107
    replace hp1_77 := hp1_77.ext hx107
    replace hb20 := hb20.ext hx107
    replace hb19 := hb19.ext hx107
    replace hb17 := hb17.ext hx107
    replace hb16 := hb16.ext hx107
    replace hp1_65 := hp1_65.ext hx107
    replace hp2_65 := hp2_65.ext hx107
    replace hb14 := hb14.ext hx107
    replace hb13 := hb13.ext hx107
    replace hp1_58 := hp1_58.ext hx107
    replace hp2_58 := hp2_58.ext hx107
    replace hb11 := hb11.ext hx107
    replace h0 := h0.ext hx107
    replace E := E.trans hx107
    replace s33 := s33.ext hx107
    replace s52 := s52.ext hx107
    replace s71 := s71.ext hx107
    replace s72 := s72.ext hx107
    refine w_yes rfl rfl ?_
    refine w_pure (y_not_dec rfl) rfl ?_
    refine w_pure (y_pick_f rfl rfl) rfl ?_
    refine w_pure (y_move rfl) rfl ?_
    (refine w_part_dec rfl rfl (fun hc111 => ?_) (fun hc111 => ?_) <;> try (first | exact absurd rfl hc111 | contradiction | exact Bool.noConfusion (show false = true from hc111.symm.trans (by assumption)) | exact Bool.noConfusion (show true = false from hc111.symm.trans (by assumption)) | (exfalso; omega) | (exfalso; simp only [*, Bool.not_true, Bool.not_false, reduceCtorEq] at hc111; done)))
    refine w_yes rfl rfl ?_
    refine w_pure (y_load_boxs rfl) rfl ?_
    refine w_yes rfl rfl ?_
    refine w_pure (y_load_boxs rfl) rfl ?_
    refine w_yes rfl rfl ?_
    refine w_val rfl rfl rfl (sSameCounter_c) rfl (fun w113 hx113 hz113 => ?_)
    have hz_hx113 := hx113.size
    replace hb23 := hb23.ext hx113
    replace hp1_83 := hp1_83.ext hx113
    replace hb21 := hb21.ext hx113
    replace hp1_77 := hp1_77.ext hx113
    replace hb20 := hb20.ext hx113
    replace hb19 := hb19.ext hx113
    replace hb17 := hb17.ext hx113
    replace hb16 := hb16.ext hx113
    replace hp1_65 := hp1_65.ext hx113
    replace hp2_65 := hp2_65.ext hx113
    replace hb14 := hb14.ext hx113
    replace hb13 := hb13.ext hx113
    replace hp1_58 := hp1_58.ext hx113
    replace hp2_58 := hp2_58.ext hx113
    replace hb11 := hb11.ext hx113
    replace h0 := h0.ext hx113
    replace E := E.trans hx113
    replace s33 := s33.ext hx113
    replace s52 := s52.ext hx113
    replace s71 := s71.ext hx113
    replace s72 := s72.ext hx113
    refine w_yes rfl rfl ?_
    refine w_pure (y_not_dec rfl) rfl ?_
    refine w_pure (y_pick_f rfl rfl) rfl ?_
    refine w_pure (y_move rfl) rfl ?_
    (refine w_part_dec rfl rfl (fun hc117 => ?_) (fun hc117 => ?_) <;> try (first | exact absurd rfl hc117 | contradiction | exact Bool.noConfusion (show false = true from hc117.symm.trans (by assumption)) | exact Bool.noConfusion (show true = false from hc117.symm.trans (by assumption)) | (exfalso; omega) | (exfalso; simp only [*, Bool.not_true, Bool.not_false, reduceCtorEq] at hc117; done)))
    refine w_yes rfl rfl ?_
    refine w_pure (y_move rfl) rfl ?_
    refine w_yes rfl rfl ?_
    refine w_pure (y_move rfl) rfl ?_
    refine w_yes rfl rfl ?_
    refine w_pure (y_ne rfl rfl) rfl ?_
    refine w_pure (y_pick_f rfl rfl) rfl ?_
    refine w_pure (y_move rfl) rfl ?_
    (refine w_part_dec rfl rfl (fun hc122 => ?_) (fun hc122 => ?_) <;> try (first | exact absurd rfl hc122 | contradiction | exact Bool.noConfusion (show false = true from hc122.symm.trans (by assumption)) | exact Bool.noConfusion (show true = false from hc122.symm.trans (by assumption)) | (exfalso; omega) | (exfalso; simp only [*, Bool.not_true, Bool.not_false, reduceCtorEq] at hc122; done)))
    refine w_yes rfl rfl ?_
    refine w_pure (y_load_boxs rfl) rfl ?_
    refine w_yes rfl rfl ?_
    refine w_pure (y_load_boxs rfl) rfl ?_
    refine w_yes rfl rfl ?_
    refine w_val rfl rfl rfl (sSameCounter_c) rfl (fun w124 hx124 hz124 => ?_)
    have hz_hx124 := hx124.size
    replace hb23 := hb23.ext hx124
    replace hp1_83 := hp1_83.ext hx124
    replace hb21 := hb21.ext hx124
    replace hp1_77 := hp1_77.ext hx124
    replace hb20 := hb20.ext hx124
    replace hb19 := hb19.ext hx124
    replace hb17 := hb17.ext hx124
    replace hb16 := hb16.ext hx124
    replace hp1_65 := hp1_65.ext hx124
    replace hp2_65 := hp2_65.ext hx124
    replace hb14 := hb14.ext hx124
    replace hb13 := hb13.ext hx124
    replace hp1_58 := hp1_58.ext hx124
    replace hp2_58 := hp2_58.ext hx124
    replace hb11 := hb11.ext hx124
    replace h0 := h0.ext hx124
    replace E := E.trans hx124
    replace s33 := s33.ext hx124
    replace s52 := s52.ext hx124
    replace s71 := s71.ext hx124
    replace s72 := s72.ext hx124
    refine w_yes rfl rfl ?_
    refine w_pure (y_not_dec rfl) rfl ?_
    refine w_pure (y_pick_f rfl rfl) rfl ?_
    refine w_nil ?_
    refine x_next ?_
    refine c_nsame rfl ?_
    refine c_skip ?_
    refine x_next ?_
    refine c_seq ?_
    refine c_seq ?_
    refine c_region ?_
    refine w_pure (y_move rfl) rfl ?_
    refine w_pure (y_eq rfl rfl) rfl ?_
    refine w_nil ?_
    refine x_next ?_
    (refine c_dec rfl (fun hc128 => ?_) (fun hc128 => ?_) <;> try (first | exact absurd rfl hc128 | contradiction | exact Bool.noConfusion (show false = true from hc128.symm.trans (by assumption)) | exact Bool.noConfusion (show true = false from hc128.symm.trans (by assumption)) | (exfalso; omega) | (exfalso; simp only [*, Bool.not_true, Bool.not_false, reduceCtorEq] at hc128; done)))
    refine c_seq ?_
    refine c_region ?_
    refine w_pure (y_load_boxs rfl) rfl ?_
    refine w_pure (y_load_boxs rfl) rfl ?_
    (refine w_call rfl rfl rfl (iJoinCounters_c) rfl ?_; rintro _ w132 ⟨d132, ⟨rfl, ⟨hp1_132, hx132⟩⟩⟩)
    have hl_hp1_132 := hp1_132.lt
    have hz_hx132 := hx132.size
    replace hb23 := hb23.ext hx132
    replace hp1_83 := hp1_83.ext hx132
    replace hb21 := hb21.ext hx132
    replace hp1_77 := hp1_77.ext hx132
    replace hb20 := hb20.ext hx132
    replace hb19 := hb19.ext hx132
    replace hb17 := hb17.ext hx132
    replace hb16 := hb16.ext hx132
    replace hp1_65 := hp1_65.ext hx132
    replace hp2_65 := hp2_65.ext hx132
    replace hb14 := hb14.ext hx132
    replace hb13 := hb13.ext hx132
    replace hp1_58 := hp1_58.ext hx132
    replace hp2_58 := hp2_58.ext hx132
    replace hb11 := hb11.ext hx132
    replace h0 := h0.ext hx132
    replace E := E.trans hx132
    replace s33 := s33.ext hx132
    replace s52 := s52.ext hx132
    replace s71 := s71.ext hx132
    replace s72 := s72.ext hx132
    refine w_pure (y_move rfl) rfl ?_
    refine w_pure (y_extract rfl rfl) rfl ?_
    refine w_pure (y_extract rfl rfl) rfl ?_
    refine w_alloc (k := fun b25 w25 hb25 hx25 hl25 hs25 => ?_)
    have hz_hx25 := hx25.size
    replace hp1_132 := hp1_132.ext hx25
    replace hb23 := hb23.ext hx25
    replace hp1_83 := hp1_83.ext hx25
    replace hb21 := hb21.ext hx25
    replace hp1_77 := hp1_77.ext hx25
    replace hb20 := hb20.ext hx25
    replace hb19 := hb19.ext hx25
    replace hb17 := hb17.ext hx25
    replace hb16 := hb16.ext hx25
    replace hp1_65 := hp1_65.ext hx25
    replace hp2_65 := hp2_65.ext hx25
    replace hb14 := hb14.ext hx25
    replace hb13 := hb13.ext hx25
    replace hp1_58 := hp1_58.ext hx25
    replace hp2_58 := hp2_58.ext hx25
    replace hb11 := hb11.ext hx25
    replace h0 := h0.ext hx25
    replace E := E.trans hx25
    replace s33 := s33.ext hx25
    replace s52 := s52.ext hx25
    replace s71 := s71.ext hx25
    replace s72 := s72.ext hx25
    refine w_store_boxs rfl rfl (next := fun ws120 hbs120 hxs120 hss120 => ?_)
    (replace hb25 := hbs120; clear hbs120)
    have hz_hxs120 := hxs120.size
    replace hp1_132 := hp1_132.chg hxs120 (by omega)
    replace hb23 := hb23.chg hxs120 (by omega)
    replace hp1_83 := hp1_83.chg hxs120 (by omega)
    replace hb21 := hb21.chg hxs120 (by omega)
    replace hp1_77 := hp1_77.chg hxs120 (by omega)
    replace hb20 := hb20.chg hxs120 (by omega)
    replace hb19 := hb19.chg hxs120 (by omega)
    replace hb17 := hb17.chg hxs120 (by omega)
    replace hb16 := hb16.chg hxs120 (by omega)
    replace hp1_65 := hp1_65.chg hxs120 (by omega)
    replace hp2_65 := hp2_65.chg hxs120 (by omega)
    replace hb14 := hb14.chg hxs120 (by omega)
    replace hb13 := hb13.chg hxs120 (by omega)
    replace hp1_58 := hp1_58.chg hxs120 (by omega)
    replace hp2_58 := hp2_58.chg hxs120 (by omega)
    replace hb11 := hb11.chg hxs120 (by omega)
    replace h0 := h0.chg hxs120 (by omega)
    replace E := E.next hxs120 (by omega)
    replace s33 := s33.chg hxs120 (by omega)
    replace s52 := s52.chg hxs120 (by omega)
    replace s71 := s71.chg hxs120 (by omega)
    replace s72 := s72.chg hxs120 (by omega)
    refine w_pure (y_assign rfl) rfl ?_
    refine w_nil ?_
    refine x_next ?_
    refine c_seq ?_
    refine c_region ?_
    refine w_pure (y_move rfl) rfl ?_
    refine w_pure (y_ne rfl rfl) rfl ?_
    refine w_pure (y_move rfl) rfl ?_
    (refine w_part_dec rfl rfl (fun hc138 => ?_) (fun hc138 => ?_) <;> try (first | exact absurd rfl hc138 | contradiction | exact Bool.noConfusion (show false = true from hc138.symm.trans (by assumption)) | exact Bool.noConfusion (show true = false from hc138.symm.trans (by assumption)) | (exfalso; omega) | (exfalso; simp only [*, Bool.not_true, Bool.not_false, reduceCtorEq] at hc138; done)))
    refine w_no rfl rfl rfl rfl ?_
    refine w_no rfl rfl rfl rfl ?_
    refine w_no rfl rfl rfl rfl ?_
    refine w_no rfl rfl rfl rfl ?_
    refine w_pure (y_pick_t rfl rfl) rfl ?_
    refine w_nil ?_
    refine x_next ?_
    refine c_true rfl ?_
    refine c_seq ?_
    refine c_region ?_
    refine w_pure (y_assign rfl) rfl ?_
    refine w_nil ?_
    refine x_next ?_
    refine c_ret ?_
    refine x_then_ret ?_
    rotate_left
    refine w_yes rfl rfl ?_
    refine w_pure (y_load_boxs rfl) rfl ?_
    refine w_yes rfl rfl ?_
    refine w_pure (y_load_boxs rfl) rfl ?_
    refine w_yes rfl rfl ?_
    refine w_val rfl rfl rfl (sSameCounter_c) rfl (fun w140 hx140 hz140 => ?_)
    have hz_hx140 := hx140.size
    replace hb25 := hb25.ext hx140
    replace hp1_132 := hp1_132.ext hx140
    replace hb23 := hb23.ext hx140
    replace hp1_83 := hp1_83.ext hx140
    replace hb21 := hb21.ext hx140
    replace hp1_77 := hp1_77.ext hx140
    replace hb20 := hb20.ext hx140
    replace hb19 := hb19.ext hx140
    replace hb17 := hb17.ext hx140
    replace hb16 := hb16.ext hx140
    replace hp1_65 := hp1_65.ext hx140
    replace hp2_65 := hp2_65.ext hx140
    replace hb14 := hb14.ext hx140
    replace hb13 := hb13.ext hx140
    replace hp1_58 := hp1_58.ext hx140
    replace hp2_58 := hp2_58.ext hx140
    replace hb11 := hb11.ext hx140
    replace h0 := h0.ext hx140
    replace E := E.trans hx140
    replace s33 := s33.ext hx140
    replace s52 := s52.ext hx140
    replace s71 := s71.ext hx140
    replace s72 := s72.ext hx140
    refine w_yes rfl rfl ?_
    refine w_pure (y_not_dec rfl) rfl ?_
    refine w_pure (y_pick_f rfl rfl) rfl ?_
    refine w_nil ?_
    refine x_next ?_
    (refine c_dec rfl (fun hc142 => ?_) (fun hc142 => ?_) <;> try (first | exact absurd rfl hc142 | contradiction | exact Bool.noConfusion (show false = true from hc142.symm.trans (by assumption)) | exact Bool.noConfusion (show true = false from hc142.symm.trans (by assumption)) | (exfalso; omega) | (exfalso; simp only [*, Bool.not_true, Bool.not_false, reduceCtorEq] at hc142; done)))
    refine c_seq ?_
    refine c_region ?_
    refine w_pure (y_assign rfl) rfl ?_
    refine w_nil ?_
    refine x_next ?_
    refine c_ret ?_
    refine x_then_ret ?_
    rotate_left
    refine c_skip ?_
    refine x_next ?_
    refine c_seq ?_
    refine c_seq ?_
    refine c_region ?_
    refine w_pure (y_move rfl) rfl ?_
    refine w_pure (y_ne rfl rfl) rfl ?_
    refine w_nil ?_
    refine x_next ?_
    (refine c_dec rfl (fun hc144 => ?_) (fun hc144 => ?_) <;> try (first | exact absurd rfl hc144 | contradiction | exact Bool.noConfusion (show false = true from hc144.symm.trans (by assumption)) | exact Bool.noConfusion (show true = false from hc144.symm.trans (by assumption)) | (exfalso; omega) | (exfalso; simp only [*, Bool.not_true, Bool.not_false, reduceCtorEq] at hc144; done)))
    refine c_seq ?_
    refine c_region ?_
    refine w_pure (y_assign rfl) rfl ?_
    refine w_nil ?_
    refine x_next ?_
    refine c_ret ?_
    refine x_then_ret ?_
    rotate_left
    refine c_skip ?_
    refine x_next ?_
    refine c_seq ?_
    refine c_region ?_
    refine w_pure (y_assign rfl) rfl ?_
    refine w_nil ?_
    refine x_next ?_
    refine c_seq ?_
    refine c_seq ?_
    refine c_region ?_
    refine w_pure (y_assign rfl) rfl ?_
    refine w_nil ?_
    refine x_next ?_
    refine c_block ?_
    rotate_left
    refine c_skip ?_
    refine x_next ?_
    refine c_seq ?_
    refine c_seq ?_
    refine c_region ?_
    refine w_pure (y_move rfl) rfl ?_
    refine w_pure (y_ne rfl rfl) rfl ?_
    refine w_nil ?_
    refine x_next ?_
    (refine c_dec rfl (fun hc144 => ?_) (fun hc144 => ?_) <;> try (first | exact absurd rfl hc144 | contradiction | exact Bool.noConfusion (show false = true from hc144.symm.trans (by assumption)) | exact Bool.noConfusion (show true = false from hc144.symm.trans (by assumption)) | (exfalso; omega) | (exfalso; simp only [*, Bool.not_true, Bool.not_false, reduceCtorEq] at hc144; done)))
    refine c_seq ?_
    refine c_region ?_
    refine w_pure (y_assign rfl) rfl ?_
    refine w_nil ?_
    refine x_next ?_
    refine c_ret ?_
    refine x_then_ret ?_
    rotate_left
    refine c_skip ?_
    refine x_next ?_
    refine c_seq ?_
    refine c_region ?_
    refine w_pure (y_assign rfl) rfl ?_
    refine w_nil ?_
    refine x_next ?_
    refine c_seq ?_
    refine c_seq ?_
    refine c_region ?_
    refine w_pure (y_assign rfl) rfl ?_
    refine w_nil ?_
    refine x_next ?_
    refine c_block ?_
    rotate_left
  · exact absurd (split_join hc128).1 hc138
  · exact absurd (split_join hc128).2 hc142
  · exact x_retv [_] rfl ⟨rfl, trivial⟩ ⟨rfl, E.go⟩
  · skip
    have hb := balR_law (Decidable.not_not.1 hc144)
    have hk12 := pow10_12 (k := (k33 - 1).toNat) (by have := hb.1.2.1; omega)
    have hxb : ∀ i, i < xs33.length → -1000000000000 ≤ xs33.getD i 0 ∧ xs33.getD i 0 ≤ 1000000000000 := fun i hi => by
      have := hb.2.1 (xs33.getD i 0) (getD_mem hi)
      omega
    have hsb := fun i (hi : i ≤ xs33.length) => sumI_bd hb.2.1 hb.1 i hi
    have h40 := hb.1.2.2
    clear hp1_132 hp1_77 hp1_83 hp1_58 hp2_58 hp1_65 hp2_65 s52 s71 s72
    refine c_loopC 0 0 (ι := Int) (fun x => [(4, d33), (5, .int .i64 (balR k33 xs33).1), (6, .bool (balR k33 xs33).2.1), (27, .int .i64 (sumI xs33 x.toNat)), (28, .int .i64 x)]) (fun x w' => 0 ≤ x ∧ x ≤ xs33.length) (fun x => (xs33.length - x).toNat) 0 (by repeat (first | exact trivial | refine ⟨rfl, ?_⟩)) ⟨by omega, by omega⟩ ?_
    rintro y wL hxL EL ⟨hy0, hy1⟩
    have hzL := hxL.size
    have q1 := hsb y.toNat (by omega)
    by_cases hly : y < xs33.length
    · have q2 := hxb y.toNat (by omega)
      focus
        have hz_hxL := hxL.size
        replace hb25 := hb25.ext hxL
        replace hb23 := hb23.ext hxL
        replace hb21 := hb21.ext hxL
        replace hb20 := hb20.ext hxL
        replace hb19 := hb19.ext hxL
        replace hb17 := hb17.ext hxL
        replace hb16 := hb16.ext hxL
        replace hb14 := hb14.ext hxL
        replace hb13 := hb13.ext hxL
        replace hb11 := hb11.ext hxL
        replace h0 := h0.ext hxL
        replace E := E.trans hxL
        replace s33 := s33.ext hxL
        refine c_seq ?_
        refine c_seq ?_
        refine c_region ?_
        refine w_pure (y_move rfl) rfl ?_
        refine w_pure (y_move rfl) rfl ?_
        refine w_pure (y_len rfl) rfl ?_
        refine w_pure (y_lt rfl rfl) rfl ?_
        refine w_nil ?_
        refine x_next ?_
        (refine c_dec rfl (fun hc148 => ?_) (fun hc148 => ?_) <;> try (first | exact absurd rfl hc148 | contradiction | exact Bool.noConfusion (show false = true from hc148.symm.trans (by assumption)) | exact Bool.noConfusion (show true = false from hc148.symm.trans (by assumption)) | (exfalso; omega) | (exfalso; simp only [*, Bool.not_true, Bool.not_false, reduceCtorEq] at hc148; done)))
        refine c_skip ?_
        refine x_next ?_
        refine c_seq ?_
        refine c_block ?_
        refine c_region ?_
        refine w_pure (y_move rfl) rfl ?_
        refine w_pure (y_move rfl) rfl ?_
        refine w_pure (y_move rfl) rfl ?_
        refine w_pure (y_index rfl rfl) rfl ?_
        refine w_pure (y_load_int rfl) rfl ?_
        refine w_pure (y_add rfl rfl) rfl ?_
        refine w_pure (y_assign rfl) rfl ?_
        refine w_nil ?_
        refine x_block_norm ?_
        refine x_next ?_
        refine c_region ?_
        refine w_pure (y_move rfl) rfl ?_
        refine w_pure (y_add rfl rfl) rfl ?_
        refine w_pure (y_assign rfl) rfl ?_
        refine w_nil ?_
        rotate_left
      have z1 : sumI xs33 y.toNat + xs33.getD y.toNat 0 = sumI xs33 (y + 1).toNat := by rw [show (y + 1).toNat = y.toNat + 1 by omega]; rfl
      exact x_again (y + 1) ⟨rfl, rfl, rfl, congrArg (fun q => some (Value.int .i64 q)) z1, rfl, trivial⟩ ⟨EL.go, by omega, by omega⟩ (by omega)
    · have he : (balR k33 xs33).1 = sumI xs33 y.toNat := by rw [hb.2.2.1, show y.toNat = xs33.length by omega]
      have ho := hb.2.2.2
      focus
        have hz_hxL := hxL.size
        replace hb25 := hb25.ext hxL
        replace hb23 := hb23.ext hxL
        replace hb21 := hb21.ext hxL
        replace hb20 := hb20.ext hxL
        replace hb19 := hb19.ext hxL
        replace hb17 := hb17.ext hxL
        replace hb16 := hb16.ext hxL
        replace hb14 := hb14.ext hxL
        replace hb13 := hb13.ext hxL
        replace hb11 := hb11.ext hxL
        replace h0 := h0.ext hxL
        replace E := E.trans hxL
        replace s33 := s33.ext hxL
        refine c_seq ?_
        refine c_seq ?_
        refine c_region ?_
        refine w_pure (y_move rfl) rfl ?_
        refine w_pure (y_move rfl) rfl ?_
        refine w_pure (y_len rfl) rfl ?_
        refine w_pure (y_lt rfl rfl) rfl ?_
        refine w_nil ?_
        refine x_next ?_
        (refine c_dec rfl (fun hc148 => ?_) (fun hc148 => ?_) <;> try (first | exact absurd rfl hc148 | contradiction | exact Bool.noConfusion (show false = true from hc148.symm.trans (by assumption)) | exact Bool.noConfusion (show true = false from hc148.symm.trans (by assumption)) | (exfalso; omega) | (exfalso; simp only [*, Bool.not_true, Bool.not_false, reduceCtorEq] at hc148; done)))
        refine c_exit ?_
        refine x_then_exit ?_
        refine x_then_exit ?_
        refine x_block_hit ?_
        refine x_next ?_
        refine c_seq ?_
        refine c_region ?_
        refine w_pure (y_move rfl) rfl ?_
        refine w_pure (y_move rfl) rfl ?_
        refine w_pure (y_eq rfl rfl) rfl ?_
        refine w_pure (y_move rfl) rfl ?_
        (refine w_part_dec rfl rfl (fun hc161 => ?_) (fun hc161 => ?_) <;> try (first | exact absurd rfl hc161 | contradiction | exact Bool.noConfusion (show false = true from hc161.symm.trans (by assumption)) | exact Bool.noConfusion (show true = false from hc161.symm.trans (by assumption)) | (exfalso; omega) | (exfalso; simp only [*, Bool.not_true, Bool.not_false, reduceCtorEq] at hc161; done)))
        refine w_yes rfl rfl ?_
        refine w_pure (y_move rfl) rfl ?_
        refine w_yes rfl rfl ?_
        refine w_pure (y_ge rfl rfl) rfl ?_
        refine w_yes rfl rfl ?_
        refine w_pure (y_move rfl) rfl ?_
        (refine w_part_dec rfl rfl (fun hc164 => ?_) (fun hc164 => ?_) <;> try (first | exact absurd rfl hc164 | contradiction | exact Bool.noConfusion (show false = true from hc164.symm.trans (by assumption)) | exact Bool.noConfusion (show true = false from hc164.symm.trans (by assumption)) | (exfalso; omega) | (exfalso; simp only [*, Bool.not_true, Bool.not_false, reduceCtorEq] at hc164; done)))
        refine w_no rfl rfl rfl rfl ?_
        refine w_yes rfl rfl ?_
        refine w_pure (y_pick_t rfl rfl) rfl ?_
        refine w_pure (y_pick_t rfl rfl) rfl ?_
        refine w_pure (y_assign rfl) rfl ?_
        refine w_nil ?_
        refine x_next ?_
        refine c_ret ?_
        rotate_left
        refine w_yes rfl rfl ?_
        refine w_pure (y_move rfl) rfl ?_
        refine w_yes rfl rfl ?_
        refine w_pure (y_pick_f rfl rfl) rfl ?_
        refine w_pure (y_pick_t rfl rfl) rfl ?_
        refine w_pure (y_assign rfl) rfl ?_
        refine w_nil ?_
        refine x_next ?_
        refine c_ret ?_
        rotate_left
      · exact x_retv [_] rfl ⟨rfl, trivial⟩ ⟨rfl, E.go⟩
      · exact x_retv [_] rfl ⟨rfl, trivial⟩ ⟨by show Value.bool _ = _; rw [ho.resolve_right hc164], E.go⟩
  · exact x_retv [_] rfl ⟨rfl, trivial⟩ ⟨rfl, E.go⟩
  · skip
    have hb := balR_law (Decidable.not_not.1 hc144)
    have hk12 := pow10_12 (k := (k33 - 1).toNat) (by have := hb.1.2.1; omega)
    have hxb : ∀ i, i < xs33.length → -1000000000000 ≤ xs33.getD i 0 ∧ xs33.getD i 0 ≤ 1000000000000 := fun i hi => by
      have := hb.2.1 (xs33.getD i 0) (getD_mem hi)
      omega
    have hsb := fun i (hi : i ≤ xs33.length) => sumI_bd hb.2.1 hb.1 i hi
    have h40 := hb.1.2.2
    clear hp1_77 hp1_83 hp1_58 hp2_58 hp1_65 hp2_65 s52 s71 s72
    refine c_loopC 0 0 (ι := Int) (fun x => [(4, d33), (5, .int .i64 (balR k33 xs33).1), (6, .bool (balR k33 xs33).2.1), (27, .int .i64 (sumI xs33 x.toNat)), (28, .int .i64 x)]) (fun x w' => 0 ≤ x ∧ x ≤ xs33.length) (fun x => (xs33.length - x).toNat) 0 (by repeat (first | exact trivial | refine ⟨rfl, ?_⟩)) ⟨by omega, by omega⟩ ?_
    rintro y wL hxL EL ⟨hy0, hy1⟩
    have hzL := hxL.size
    have q1 := hsb y.toNat (by omega)
    by_cases hly : y < xs33.length
    · have q2 := hxb y.toNat (by omega)
      focus
        have hz_hxL := hxL.size
        replace hb23 := hb23.ext hxL
        replace hb21 := hb21.ext hxL
        replace hb20 := hb20.ext hxL
        replace hb19 := hb19.ext hxL
        replace hb17 := hb17.ext hxL
        replace hb16 := hb16.ext hxL
        replace hb14 := hb14.ext hxL
        replace hb13 := hb13.ext hxL
        replace hb11 := hb11.ext hxL
        replace h0 := h0.ext hxL
        replace E := E.trans hxL
        replace s33 := s33.ext hxL
        refine c_seq ?_
        refine c_seq ?_
        refine c_region ?_
        refine w_pure (y_move rfl) rfl ?_
        refine w_pure (y_move rfl) rfl ?_
        refine w_pure (y_len rfl) rfl ?_
        refine w_pure (y_lt rfl rfl) rfl ?_
        refine w_nil ?_
        refine x_next ?_
        (refine c_dec rfl (fun hc148 => ?_) (fun hc148 => ?_) <;> try (first | exact absurd rfl hc148 | contradiction | exact Bool.noConfusion (show false = true from hc148.symm.trans (by assumption)) | exact Bool.noConfusion (show true = false from hc148.symm.trans (by assumption)) | (exfalso; omega) | (exfalso; simp only [*, Bool.not_true, Bool.not_false, reduceCtorEq] at hc148; done)))
        refine c_skip ?_
        refine x_next ?_
        refine c_seq ?_
        refine c_block ?_
        refine c_region ?_
        refine w_pure (y_move rfl) rfl ?_
        refine w_pure (y_move rfl) rfl ?_
        refine w_pure (y_move rfl) rfl ?_
        refine w_pure (y_index rfl rfl) rfl ?_
        refine w_pure (y_load_int rfl) rfl ?_
        refine w_pure (y_add rfl rfl) rfl ?_
        refine w_pure (y_assign rfl) rfl ?_
        refine w_nil ?_
        refine x_block_norm ?_
        refine x_next ?_
        refine c_region ?_
        refine w_pure (y_move rfl) rfl ?_
        refine w_pure (y_add rfl rfl) rfl ?_
        refine w_pure (y_assign rfl) rfl ?_
        refine w_nil ?_
        rotate_left
      have z1 : sumI xs33 y.toNat + xs33.getD y.toNat 0 = sumI xs33 (y + 1).toNat := by rw [show (y + 1).toNat = y.toNat + 1 by omega]; rfl
      exact x_again (y + 1) ⟨rfl, rfl, rfl, congrArg (fun q => some (Value.int .i64 q)) z1, rfl, trivial⟩ ⟨EL.go, by omega, by omega⟩ (by omega)
    · have he : (balR k33 xs33).1 = sumI xs33 y.toNat := by rw [hb.2.2.1, show y.toNat = xs33.length by omega]
      have ho := hb.2.2.2
      focus
        have hz_hxL := hxL.size
        replace hb23 := hb23.ext hxL
        replace hb21 := hb21.ext hxL
        replace hb20 := hb20.ext hxL
        replace hb19 := hb19.ext hxL
        replace hb17 := hb17.ext hxL
        replace hb16 := hb16.ext hxL
        replace hb14 := hb14.ext hxL
        replace hb13 := hb13.ext hxL
        replace hb11 := hb11.ext hxL
        replace h0 := h0.ext hxL
        replace E := E.trans hxL
        replace s33 := s33.ext hxL
        refine c_seq ?_
        refine c_seq ?_
        refine c_region ?_
        refine w_pure (y_move rfl) rfl ?_
        refine w_pure (y_move rfl) rfl ?_
        refine w_pure (y_len rfl) rfl ?_
        refine w_pure (y_lt rfl rfl) rfl ?_
        refine w_nil ?_
        refine x_next ?_
        (refine c_dec rfl (fun hc148 => ?_) (fun hc148 => ?_) <;> try (first | exact absurd rfl hc148 | contradiction | exact Bool.noConfusion (show false = true from hc148.symm.trans (by assumption)) | exact Bool.noConfusion (show true = false from hc148.symm.trans (by assumption)) | (exfalso; omega) | (exfalso; simp only [*, Bool.not_true, Bool.not_false, reduceCtorEq] at hc148; done)))
        refine c_exit ?_
        refine x_then_exit ?_
        refine x_then_exit ?_
        refine x_block_hit ?_
        refine x_next ?_
        refine c_seq ?_
        refine c_region ?_
        refine w_pure (y_move rfl) rfl ?_
        refine w_pure (y_move rfl) rfl ?_
        refine w_pure (y_eq rfl rfl) rfl ?_
        refine w_pure (y_move rfl) rfl ?_
        (refine w_part_dec rfl rfl (fun hc161 => ?_) (fun hc161 => ?_) <;> try (first | exact absurd rfl hc161 | contradiction | exact Bool.noConfusion (show false = true from hc161.symm.trans (by assumption)) | exact Bool.noConfusion (show true = false from hc161.symm.trans (by assumption)) | (exfalso; omega) | (exfalso; simp only [*, Bool.not_true, Bool.not_false, reduceCtorEq] at hc161; done)))
        refine w_yes rfl rfl ?_
        refine w_pure (y_move rfl) rfl ?_
        refine w_yes rfl rfl ?_
        refine w_pure (y_ge rfl rfl) rfl ?_
        refine w_yes rfl rfl ?_
        refine w_pure (y_move rfl) rfl ?_
        (refine w_part_dec rfl rfl (fun hc164 => ?_) (fun hc164 => ?_) <;> try (first | exact absurd rfl hc164 | contradiction | exact Bool.noConfusion (show false = true from hc164.symm.trans (by assumption)) | exact Bool.noConfusion (show true = false from hc164.symm.trans (by assumption)) | (exfalso; omega) | (exfalso; simp only [*, Bool.not_true, Bool.not_false, reduceCtorEq] at hc164; done)))
        refine w_no rfl rfl rfl rfl ?_
        refine w_yes rfl rfl ?_
        refine w_pure (y_pick_t rfl rfl) rfl ?_
        refine w_pure (y_pick_t rfl rfl) rfl ?_
        refine w_pure (y_assign rfl) rfl ?_
        refine w_nil ?_
        refine x_next ?_
        refine c_ret ?_
        rotate_left
        refine w_yes rfl rfl ?_
        refine w_pure (y_move rfl) rfl ?_
        refine w_yes rfl rfl ?_
        refine w_pure (y_pick_f rfl rfl) rfl ?_
        refine w_pure (y_pick_t rfl rfl) rfl ?_
        refine w_pure (y_assign rfl) rfl ?_
        refine w_nil ?_
        refine x_next ?_
        refine c_ret ?_
        rotate_left
      · exact x_retv [_] rfl ⟨rfl, trivial⟩ ⟨rfl, E.go⟩
      · exact x_retv [_] rfl ⟨rfl, trivial⟩ ⟨by show Value.bool _ = _; rw [ho.resolve_right hc164], E.go⟩
end
end Go.Proofs.Ythigkbkaeopipaa

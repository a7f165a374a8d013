/- The walk of the law on printed lines of tabulated decks. -/
import Derived.Test.YtjnnfmlgjdlihaaGreatDoorTabE
import Derived.Test.YtjnnfmlgjdlihaaGreatDoorStrA
import Derived.Test.YtjnnfmlgjdlihaaGreatDoorDkO
namespace Go.Proofs.YtjnnfmlgjdlihaaGreatDoor
open Go Go.Gw
set_option linter.unusedVariables false
set_option linter.unusedSimpArgs false
section
variable {w : World} {lo hi : Nat} {v : Value} {xs : List (Int × Int)} {g h : Int} {dt : Bool}
theorem markSetupT_c {k : Int} (hs : SL w lo hi v xs := by repeat (first | assumption | exact Go.Gw.Own.sl (by assumption) | exact Go.Gw.Box.at (by assumption) | exact Go.Gw.SLL.el (by first | assumption | exact Go.Gw.OwnD.sll (by assumption)) _ (by omega) | exact Go.Gw.SLL.at (by first | assumption | exact Go.Gw.OwnD.sll (by assumption)) (by omega) | exact Go.Gw.OwnD.sll (by assumption) | (apply Go.Gw.SL.chg; case hx => assumption) | (apply Go.Gw.Own.chg; case hx => assumption) | (apply Go.Gw.Box.chg; case hx => assumption) | (apply Go.Gw.At.chg; case hx => assumption) | exact .inl (Nat.zero_le _) | exact .inr (Nat.zero_le _) | (show _ ∨ _; omega))) (hk : 0 ≤ k := by omega) (hm : k + 2 * xs.length ≤ 9223372036854775806 := by omega) : Ret Tryz.prog 14 [.agg #[.int .i64 g, .int .i64 h, v, .bool dt], .int .i64 k] w fun u w' => u = .int .i64 (k + 2 * xs.length) ∧ SL w' lo hi v (marksP k xs.length) ∧ Chg lo hi w w' := by
  refine ret_enter Tryz.func14 rfl Tryz.ntmps14 rfl ?_
  focus
    have ht_hs := hs.top
    refine c_seq ?_
    refine c_region ?_
    refine w_box rfl (k := fun b2 w2 hb2 hx2 hl2 hs2 => ?_)
    have hz_hx2 := hx2.size
    replace hs := hs.ext hx2
    refine w_pure (y_assign rfl) rfl ?_
    refine w_nil ?_
    refine x_next ?_
    refine c_seq ?_
    refine c_region ?_
    refine w_pure (y_field rfl) rfl ?_
    refine w_pure (y_load_box rfl) rfl ?_
    refine w_pure (y_move rfl) rfl ?_
    (refine w_call rfl rfl rfl (markFieldS_c _) rfl ?_; rintro _ w8 ⟨rfl, ⟨hp1_8, hx8⟩⟩)
    have hz_hx8 := hx8.size
    replace hb2 := hb2.chg hx8 (by omega)
    refine w_pure (y_assign rfl) rfl ?_
    refine w_nil ?_
    refine x_next ?_
    refine c_seq ?_
    refine c_region ?_
    refine w_pure (y_move rfl) rfl ?_
    refine w_pure (y_assign rfl) rfl ?_
    refine w_nil ?_
    refine x_next ?_
    refine c_ret ?_
    rotate_left
  exact x_retv [_] rfl ⟨rfl, trivial⟩ ⟨rfl, by assumption, by (repeat (first | exact Chg.refl _ _ _ | assumption | refine Chg.next ?_ (by assumption) (by omega)))⟩
end
theorem lTabulateDeck (w0 : World) (hT : Tab w0.heap.size w0) (x0 : { x : OSt // x.ok w0 }) (x1 : { x : ODk // x.ok w0 }) : Ret Tryz.prog 3 [.agg #[.int .i64 x0.1.f, .int .i64 x0.1.t, x0.1.v, .bool x0.1.d], x1.1.v] w0 fun u w' => u = .bool true ∧ Ext w0 w' := by
  obtain ⟨⟨f0, t0, v0, ws0, d0⟩, hok0⟩ := x0
  have s0 : SL w0 0 w0.heap.size v0 ws0 := hok0.sl
  have r0 := hok0.in64
  have rf0 : In64 f0 := hok0.f
  have rt0 : In64 t0 := hok0.t
  obtain ⟨⟨v1, svs1, xss1⟩, hok1⟩ := x1
  have s1 : SLL w0 0 w0.heap.size svs1 v1 xss1 := hok1.sll
  have r1 := hok1.in64
  show Ret _ _ [.agg #[.int .i64 f0, .int .i64 t0, v0, .bool d0], v1] w0 _
  clear hok0 hok1
  have E : Since 0 0 w0 w0 := Since.refl 0 0 w0
  have hb := resTab_len f0 t0 ws0 d0 xss1
  refine ret_enter Tryz.func3 rfl Tryz.ntmps3 rfl ?_
  focus
    refine c_seq ?_
    refine c_region ?_
    refine w_box rfl (k := fun b2 w2 hb2 hx2 hl2 hs2 => ?_)
    have hz_hx2 := hx2.size
    replace hT := hT.ext hx2
    replace s0 := s0.ext hx2
    replace s1 := s1.ext hx2
    replace E := E.trans hx2
    refine w_pure (y_assign rfl) rfl ?_
    refine w_nil ?_
    refine x_next ?_
    refine c_seq ?_
    refine c_region ?_
    refine w_pure (y_assign rfl) rfl ?_
    refine w_nil ?_
    refine x_next ?_
    refine c_seq ?_
    refine c_region ?_
    refine w_pure (y_load_boxs rfl) rfl ?_
    refine w_pure (y_move rfl) rfl ?_
    (refine w_call rfl rfl rfl (szSetup_z) rfl ?_; rintro _ w19 ⟨z19, ⟨rfl, ⟨hp1_19, hx19⟩⟩⟩)
    have hz_hx19 := hx19.size
    replace hb2 := hb2.ext hx19
    replace hT := hT.ext hx19
    replace s0 := s0.ext hx19
    replace s1 := s1.ext hx19
    replace E := E.trans hx19
    refine w_pure (y_assign rfl) rfl ?_
    refine w_nil ?_
    refine x_next ?_
    refine c_seq ?_
    refine c_seq ?_
    refine c_region ?_
    refine w_pure (y_move rfl) rfl ?_
    refine w_pure (y_lt rfl rfl) rfl ?_
    refine w_nil ?_
    refine x_next ?_
    (refine c_dec rfl (fun hc21 => ?_) (fun hc21 => ?_) <;> try (first | exact absurd rfl hc21 | contradiction | exact Bool.noConfusion (show false = true from hc21.symm.trans (by assumption)) | exact Bool.noConfusion (show true = false from hc21.symm.trans (by assumption)) | (exfalso; omega) | (exfalso; simp only [*, Bool.not_true, Bool.not_false, reduceCtorEq] at hc21; done)))
    refine c_seq ?_
    refine c_region ?_
    refine w_pure (y_assign rfl) rfl ?_
    refine w_nil ?_
    refine x_next ?_
    refine c_ret ?_
    refine x_then_ret ?_
    exact x_retv [_] rfl ⟨rfl, trivial⟩ ⟨rfl, E.go⟩
    refine c_skip ?_
    refine x_next ?_
    refine c_seq ?_
    refine c_region ?_
    refine w_pure (y_move rfl) rfl ?_
    refine w_pure (y_move rfl) rfl ?_
    (refine w_call rfl rfl rfl (szCardS_z) rfl ?_; rintro _ w24 ⟨z24, ⟨rfl, ⟨hp1_24, hx24⟩⟩⟩)
    have hz_hx24 := hx24.size
    replace hb2 := hb2.ext hx24
    replace hT := hT.ext hx24
    replace s0 := s0.ext hx24
    replace s1 := s1.ext hx24
    replace E := E.trans hx24
    refine w_pure (y_assign rfl) rfl ?_
    refine w_nil ?_
    refine x_next ?_
    refine c_seq ?_
    refine c_seq ?_
    refine c_region ?_
    refine w_pure (y_move rfl) rfl ?_
    refine w_pure (y_lt rfl rfl) rfl ?_
    refine w_nil ?_
    refine x_next ?_
    (refine c_dec rfl (fun hc26 => ?_) (fun hc26 => ?_) <;> try (first | exact absurd rfl hc26 | contradiction | exact Bool.noConfusion (show false = true from hc26.symm.trans (by assumption)) | exact Bool.noConfusion (show true = false from hc26.symm.trans (by assumption)) | (exfalso; omega) | (exfalso; simp only [*, Bool.not_true, Bool.not_false, reduceCtorEq] at hc26; done)))
    refine c_seq ?_
    refine c_region ?_
    refine w_pure (y_assign rfl) rfl ?_
    refine w_nil ?_
    refine x_next ?_
    refine c_ret ?_
    refine x_then_ret ?_
    exact x_retv [_] rfl ⟨rfl, trivial⟩ ⟨rfl, E.go⟩
    refine c_skip ?_
    refine x_next ?_
    refine c_seq ?_
    refine c_region ?_
    refine w_pure (y_load_boxs rfl) rfl ?_
    (refine w_call rfl rfl rfl (toSetup_c) rfl ?_; rintro _ w29 ⟨d29, ⟨rfl, ⟨hp1_29, hx29⟩⟩⟩)
    have hz_hx29 := hx29.size
    replace hb2 := hb2.ext hx29
    replace hT := hT.ext hx29
    replace s0 := s0.ext hx29
    replace s1 := s1.ext hx29
    replace E := E.trans hx29
    replace hp1_29 := hp1_29.fresh
    refine w_pure (y_move rfl) rfl ?_
    (refine w_call rfl rfl rfl (toCardS_c) rfl ?_; rintro v31 w31 ⟨sus31, ⟨hp1_31, hx31⟩⟩)
    have hz_hx31 := hx31.size
    replace hb2 := hb2.ext hx31
    replace hT := hT.ext hx31
    replace s0 := s0.ext hx31
    replace s1 := s1.ext hx31
    replace E := E.trans hx31
    replace hp1_29 := hp1_29.ext hx31
    (refine w_call rfl rfl rfl (sTabulateDeck_c) rfl ?_; rintro _ w32 ⟨d32, ⟨rfl, ⟨hp1_32, hx32⟩⟩⟩)
    have hz_hx32 := hx32.size
    replace hp1_31 := hp1_31.ext hx32
    replace hb2 := hb2.ext hx32
    replace hT := hT.ext hx32
    replace s0 := s0.ext hx32
    replace s1 := s1.ext hx32
    replace E := E.trans hx32
    replace hp1_29 := hp1_29.ext hx32
    replace hp1_32 := hp1_32.fresh
    refine w_pure (y_move rfl) rfl ?_
    refine w_pure (y_extract rfl rfl) rfl ?_
    refine w_pure (y_extract rfl rfl) rfl ?_
    refine w_pure (y_assign rfl) rfl ?_
    refine w_pure (y_assign rfl) rfl ?_
    refine w_nil ?_
    refine x_next ?_
    refine c_seq ?_
    refine c_region ?_
    refine w_pure (y_load_boxs rfl) rfl ?_
    (refine w_call rfl rfl rfl (toSetup_c) rfl ?_; rintro _ w36 ⟨d36, ⟨rfl, ⟨hp1_36, hx36⟩⟩⟩)
    have hz_hx36 := hx36.size
    replace hp1_31 := hp1_31.ext hx36
    replace hb2 := hb2.ext hx36
    replace hT := hT.ext hx36
    replace s0 := s0.ext hx36
    replace s1 := s1.ext hx36
    replace E := E.trans hx36
    replace hp1_29 := hp1_29.ext hx36
    replace hp1_32 := hp1_32.ext hx36
    replace hp1_36 := hp1_36.fresh
    refine w_alloc (k := fun b8 w8 hb8 hx8 hl8 hs8 => ?_)
    have hz_hx8 := hx8.size
    replace hp1_31 := hp1_31.ext hx8
    replace hb2 := hb2.ext hx8
    replace hT := hT.ext hx8
    replace s0 := s0.ext hx8
    replace s1 := s1.ext hx8
    replace E := E.trans hx8
    replace hp1_29 := hp1_29.ext hx8
    replace hp1_32 := hp1_32.ext hx8
    replace hp1_36 := hp1_36.ext hx8
    refine w_store_boxs rfl rfl (next := fun ws83 hbs83 hxs83 hss83 => ?_)
    (replace hb8 := hbs83; clear hbs83)
    have hz_hxs83 := hxs83.size
    replace hp1_31 := hp1_31.chg hxs83 (by omega)
    replace hb2 := hb2.chg hxs83 (by omega)
    replace hT := hT.chg hxs83 (by omega)
    replace s0 := s0.chg hxs83 (by omega)
    replace s1 := s1.chg hxs83 (by omega)
    replace E := E.next hxs83 (by omega)
    replace hp1_29 := hp1_29.chg hxs83 (by omega)
    replace hp1_32 := hp1_32.chg hxs83 (by omega)
    replace hp1_36 := hp1_36.chg hxs83 (by omega)
    refine w_nil ?_
    refine x_next ?_
    refine c_seq ?_
    refine c_region ?_
    refine w_pure (y_move rfl) rfl ?_
    (refine w_call rfl rfl rfl (toCardS_c) rfl ?_; rintro v38 w38 ⟨sus38, ⟨hp1_38, hx38⟩⟩)
    have hz_hx38 := hx38.size
    replace hb8 := hb8.ext hx38
    replace hp1_31 := hp1_31.ext hx38
    replace hb2 := hb2.ext hx38
    replace hT := hT.ext hx38
    replace s0 := s0.ext hx38
    replace s1 := s1.ext hx38
    replace E := E.trans hx38
    replace hp1_29 := hp1_29.ext hx38
    replace hp1_32 := hp1_32.ext hx38
    replace hp1_36 := hp1_36.ext hx38
    refine w_pure (y_assign rfl) rfl ?_
    refine w_nil ?_
    refine x_next ?_
    refine c_seq ?_
    refine c_region ?_
    refine w_pure (y_load_boxs rfl) rfl ?_
    refine w_pure (y_move rfl) rfl ?_
    (refine w_call rfl rfl rfl (iTabulateDeck_c) rfl ?_; rintro _ w42 ⟨d42, ⟨rfl, ⟨hp1_42, hx42⟩⟩⟩)
    have hz_hx42 := hx42.size
    replace hp1_38 := hp1_38.ext hx42
    replace hb8 := hb8.ext hx42
    replace hp1_31 := hp1_31.ext hx42
    replace hb2 := hb2.ext hx42
    replace hT := hT.ext hx42
    replace s0 := s0.ext hx42
    replace s1 := s1.ext hx42
    replace E := E.trans hx42
    replace hp1_29 := hp1_29.ext hx42
    replace hp1_32 := hp1_32.ext hx42
    replace hp1_36 := hp1_36.ext hx42
    replace hp1_42 := hp1_42.fresh
    refine w_pure (y_move rfl) rfl ?_
    refine w_pure (y_extract rfl rfl) rfl ?_
    refine w_pure (y_extract rfl rfl) rfl ?_
    refine w_pure (y_assign rfl) rfl ?_
    refine w_pure (y_assign rfl) rfl ?_
    refine w_nil ?_
    refine x_next ?_
    refine c_seq ?_
    refine c_seq ?_
    refine c_region ?_
    refine w_pure (y_move rfl) rfl ?_
    refine w_pure (y_move rfl) rfl ?_
    refine w_val rfl rfl rfl (eqStringS_c) rfl (fun w47 hx47 hz47 => ?_)
    have hz_hx47 := hx47.size
    replace hp1_38 := hp1_38.ext hx47
    replace hb8 := hb8.ext hx47
    replace hp1_31 := hp1_31.ext hx47
    replace hb2 := hb2.ext hx47
    replace hT := hT.ext hx47
    replace s0 := s0.ext hx47
    replace s1 := s1.ext hx47
    replace E := E.trans hx47
    replace hp1_29 := hp1_29.ext hx47
    replace hp1_32 := hp1_32.ext hx47
    replace hp1_36 := hp1_36.ext hx47
    replace hp1_42 := hp1_42.ext hx47
    refine w_pure (y_not_dec rfl) rfl ?_
    refine w_pure (y_move rfl) rfl ?_
    (refine w_part_dec rfl rfl (fun hc50 => ?_) (fun hc50 => ?_) <;> try (first | exact absurd rfl hc50 | contradiction | exact Bool.noConfusion (show false = true from hc50.symm.trans (by assumption)) | exact Bool.noConfusion (show true = false from hc50.symm.trans (by assumption)) | (exfalso; omega) | (exfalso; simp only [*, Bool.not_true, Bool.not_false, reduceCtorEq] at hc50; done)))
    refine w_yes rfl rfl ?_
    refine w_pure (y_move rfl) rfl ?_
    refine w_yes rfl rfl ?_
    refine w_pure (y_move rfl) rfl ?_
    refine w_yes rfl rfl ?_
    refine w_pure (y_ne rfl rfl) rfl ?_
    refine w_pure (y_pick_f rfl rfl) rfl ?_
    refine w_nil ?_
    refine x_next ?_
    refine c_nsame rfl ?_
    refine c_skip ?_
    refine x_next ?_
    refine c_seq ?_
    refine c_seq ?_
    refine c_region_held mixed (fun wr14 hxr14 hzr14 => ?_)
    have hz_hxr14 := hxr14.size
    replace hp1_38 := hp1_38.ext hxr14
    replace hb8 := hb8.ext hxr14
    replace hp1_31 := hp1_31.ext hxr14
    replace hb2 := hb2.ext hxr14
    replace hT := hT.ext hxr14
    replace s0 := s0.ext hxr14
    replace s1 := s1.ext hxr14
    replace E := E.trans hxr14
    replace hp1_29 := hp1_29.ext hxr14
    replace hp1_32 := hp1_32.ext hxr14
    replace hp1_36 := hp1_36.ext hxr14
    replace hp1_42 := hp1_42.ext hxr14
    refine h_pure rfl (y_load_boxs rfl) rfl ?_
    refine h_pure rfl (y_load_boxs rfl) rfl ?_
    refine h_one rfl ?_
    (refine w_call rfl rfl rfl (toSetup_c) rfl ?_; rintro _ w56 ⟨d56, ⟨rfl, ⟨hp1_56, hx56⟩⟩⟩)
    have hz_hx56 := hx56.size
    replace hp1_38 := hp1_38.ext hx56
    replace hb8 := hb8.ext hx56
    replace hp1_31 := hp1_31.ext hx56
    replace hb2 := hb2.ext hx56
    replace hT := hT.ext hx56
    replace s0 := s0.ext hx56
    replace s1 := s1.ext hx56
    replace E := E.trans hx56
    replace hp1_29 := hp1_29.ext hx56
    replace hp1_32 := hp1_32.ext hx56
    replace hp1_36 := hp1_36.ext hx56
    replace hp1_42 := hp1_42.ext hx56
    replace hp1_56 := hp1_56.fresh
    refine w_nil ?_
    refine x_held ?_
    refine h_one rfl ?_
    refine w_val rfl rfl rfl (eqSetup_c) rfl (fun w57 hx57 hz57 => ?_)
    have hz_hx57 := hx57.size
    replace hp1_38 := hp1_38.ext hx57
    replace hb8 := hb8.ext hx57
    replace hp1_31 := hp1_31.ext hx57
    replace hb2 := hb2.ext hx57
    replace hT := hT.ext hx57
    replace s0 := s0.ext hx57
    replace s1 := s1.ext hx57
    replace E := E.trans hx57
    replace hp1_29 := hp1_29.ext hx57
    replace hp1_32 := hp1_32.ext hx57
    replace hp1_36 := hp1_36.ext hx57
    replace hp1_42 := hp1_42.ext hx57
    replace hp1_56 := hp1_56.ext hx57
    refine w_nil ?_
    refine x_held ?_
    refine h_pure rfl (y_not_dec rfl) rfl ?_
    refine h_nil ?_
    refine x_next ?_
    refine c_nsame rfl ?_
    refine c_skip ?_
    refine x_next ?_
    refine c_seq ?_
    refine c_seq ?_
    refine c_region ?_
    refine w_pure (y_move rfl) rfl ?_
    refine w_pure (y_move rfl) rfl ?_
    (refine w_call rfl rfl rfl (toCardS_c) rfl ?_; rintro v61 w61 ⟨sus61, ⟨hp1_61, hx61⟩⟩)
    have hz_hx61 := hx61.size
    replace hp1_38 := hp1_38.ext hx61
    replace hb8 := hb8.ext hx61
    replace hp1_31 := hp1_31.ext hx61
    replace hb2 := hb2.ext hx61
    replace hT := hT.ext hx61
    replace s0 := s0.ext hx61
    replace s1 := s1.ext hx61
    replace E := E.trans hx61
    replace hp1_29 := hp1_29.ext hx61
    replace hp1_32 := hp1_32.ext hx61
    replace hp1_36 := hp1_36.ext hx61
    replace hp1_42 := hp1_42.ext hx61
    replace hp1_56 := hp1_56.ext hx61
    refine w_val rfl rfl rfl (eqCardS_c) rfl (fun w62 hx62 hz62 => ?_)
    have hz_hx62 := hx62.size
    replace hp1_61 := hp1_61.ext hx62
    replace hp1_38 := hp1_38.ext hx62
    replace hb8 := hb8.ext hx62
    replace hp1_31 := hp1_31.ext hx62
    replace hb2 := hb2.ext hx62
    replace hT := hT.ext hx62
    replace s0 := s0.ext hx62
    replace s1 := s1.ext hx62
    replace E := E.trans hx62
    replace hp1_29 := hp1_29.ext hx62
    replace hp1_32 := hp1_32.ext hx62
    replace hp1_36 := hp1_36.ext hx62
    replace hp1_42 := hp1_42.ext hx62
    replace hp1_56 := hp1_56.ext hx62
    refine w_pure (y_not_dec rfl) rfl ?_
    refine w_nil ?_
    refine x_next ?_
    refine c_nsame rfl ?_
    refine c_skip ?_
    refine x_next ?_
    refine c_seq ?_
    refine c_region ?_
    refine w_pure (y_assign rfl) rfl ?_
    refine w_nil ?_
    refine x_next ?_
    refine c_seq ?_
    refine c_region ?_
    refine w_pure (y_load_boxs rfl) rfl ?_
    refine w_pure (y_move rfl) rfl ?_
    (refine w_call rfl rfl rfl (markSetupT_c) rfl ?_; rintro _ w66 ⟨rfl, ⟨hp1_66, hx66⟩⟩)
    have hz_hx66 := hx66.size
    replace hp1_61 := hp1_61.chg hx66 (by omega)
    replace hp1_38 := hp1_38.chg hx66 (by omega)
    replace hb8 := hb8.chg hx66 (by omega)
    replace hp1_31 := hp1_31.chg hx66 (by omega)
    replace hb2 := hb2.chg hx66 (by omega)
    replace hT := hT.chg hx66 (by omega)
    replace s0 := s0.chg hx66 (by omega)
    replace s1 := s1.chg hx66 (by omega)
    replace E := E.next hx66 (by omega)
    replace hp1_29 := hp1_29.chg hx66 (by omega)
    replace hp1_32 := hp1_32.chg hx66 (by omega)
    replace hp1_42 := hp1_42.chg hx66 (by omega)
    replace hp1_56 := hp1_56.chg hx66 (by omega)
    refine w_pure (y_assign rfl) rfl ?_
    refine w_nil ?_
    refine x_next ?_
    refine c_seq ?_
    refine c_region ?_
    refine w_pure (y_move rfl) rfl ?_
    refine w_pure (y_move rfl) rfl ?_
    (refine w_call rfl rfl rfl (markCardS_c) rfl ?_; rintro _ w69 ⟨rfl, ⟨hp1_69, hx69⟩⟩)
    have hz_hx69 := hx69.size
    replace hp1_66 := hp1_66.chg hx69 (by omega)
    replace hp1_61 := hp1_61.chg hx69 (by omega)
    replace hb8 := hb8.chg hx69 (by omega)
    replace hp1_31 := hp1_31.chg hx69 (by omega)
    replace hb2 := hb2.chg hx69 (by omega)
    replace hT := hT.chg hx69 (by omega)
    replace s0 := s0.chg hx69 (by omega)
    replace s1 := s1.chg hx69 (by omega)
    replace E := E.next hx69 (by omega)
    replace hp1_29 := hp1_29.chg hx69 (by omega)
    replace hp1_32 := hp1_32.chg hx69 (by omega)
    replace hp1_42 := hp1_42.chg hx69 (by omega)
    replace hp1_56 := hp1_56.chg hx69 (by omega)
    refine w_pure (y_assign rfl) rfl ?_
    refine w_nil ?_
    refine x_next ?_
    refine c_seq ?_
    refine c_seq ?_
    refine c_region ?_
    refine w_pure (y_move rfl) rfl ?_
    refine w_pure (y_lt rfl rfl) rfl ?_
    refine w_pure (y_move rfl) rfl ?_
    refine w_yes rfl rfl ?_
    refine w_pure (y_move rfl) rfl ?_
    refine w_yes rfl rfl ?_
    refine w_pure (y_move rfl) rfl ?_
    refine w_yes rfl rfl ?_
    refine w_val rfl rfl rfl (eqStringS_c) rfl (fun w75 hx75 hz75 => ?_)
    have hz_hx75 := hx75.size
    replace hp1_69 := hp1_69.ext hx75
    replace hp1_66 := hp1_66.ext hx75
    replace hp1_61 := hp1_61.ext hx75
    replace hb8 := hb8.ext hx75
    replace hp1_31 := hp1_31.ext hx75
    replace hb2 := hb2.ext hx75
    replace hT := hT.ext hx75
    replace s0 := s0.ext hx75
    replace s1 := s1.ext hx75
    replace E := E.trans hx75
    replace hp1_29 := hp1_29.ext hx75
    replace hp1_32 := hp1_32.ext hx75
    replace hp1_42 := hp1_42.ext hx75
    replace hp1_56 := hp1_56.ext hx75
    refine w_yes rfl rfl ?_
    refine w_pure (y_not_dec rfl) rfl ?_
    refine w_pure (y_pick_f rfl rfl) rfl ?_
    refine w_pure (y_move rfl) rfl ?_
    (refine w_part_dec rfl rfl (fun hc79 => ?_) (fun hc79 => ?_) <;> try (first | exact absurd rfl hc79 | contradiction | exact Bool.noConfusion (show false = true from hc79.symm.trans (by assumption)) | exact Bool.noConfusion (show true = false from hc79.symm.trans (by assumption)) | (exfalso; omega) | (exfalso; simp only [*, Bool.not_true, Bool.not_false, reduceCtorEq] at hc79; done)))
    refine w_yes rfl rfl ?_
    refine w_pure (y_move rfl) rfl ?_
    refine w_yes rfl rfl ?_
    refine w_pure (y_move rfl) rfl ?_
    refine w_yes rfl rfl ?_
    refine w_pure (y_ne rfl rfl) rfl ?_
    refine w_pure (y_pick_f rfl rfl) rfl ?_
    refine w_nil ?_
    refine x_next ?_
    refine c_nsame rfl ?_
    refine c_skip ?_
    refine x_next ?_
    refine c_seq ?_
    refine c_region ?_
    refine w_pure (y_assign rfl) rfl ?_
    refine w_nil ?_
    refine x_next ?_
    refine c_seq ?_
    refine c_region ?_
    refine w_pure (y_move rfl) rfl ?_
    refine w_pure (y_move rfl) rfl ?_
    (refine w_call rfl rfl rfl (markStringS_c _) rfl ?_; rintro _ w85 ⟨rfl, ⟨hp1_85, hx85⟩⟩)
    have hz_hx85 := hx85.size
    replace hp1_69 := hp1_69.chg hx85 (by omega)
    replace hp1_66 := hp1_66.chg hx85 (by omega)
    replace hp1_61 := hp1_61.chg hx85 (by omega)
    replace hb8 := hb8.chg hx85 (by omega)
    replace hp1_31 := hp1_31.chg hx85 (by omega)
    replace hb2 := hb2.chg hx85 (by omega)
    replace hT := hT.chg hx85 (by omega)
    replace s0 := s0.chg hx85 (by omega)
    replace s1 := s1.chg hx85 (by omega)
    replace E := E.next hx85 (by omega)
    replace hp1_29 := hp1_29.chg hx85 (by omega)
    replace hp1_32 := hp1_32.chg hx85 (by omega)
    replace hp1_56 := hp1_56.chg hx85 (by omega)
    refine w_pure (y_assign rfl) rfl ?_
    refine w_nil ?_
    refine x_next ?_
    refine c_seq ?_
    refine c_region ?_
    refine w_pure (y_assign rfl) rfl ?_
    refine w_nil ?_
    refine x_next ?_
    refine c_seq ?_
    refine c_region ?_
    refine w_pure (y_move rfl) rfl ?_
    refine w_pure (y_move rfl) rfl ?_
    refine w_val rfl rfl rfl (heldStringS_c) rfl (fun w88 hx88 hz88 => ?_)
    have hz_hx88 := hx88.size
    replace hp1_85 := hp1_85.ext hx88
    replace hp1_69 := hp1_69.ext hx88
    replace hp1_66 := hp1_66.ext hx88
    replace hp1_61 := hp1_61.ext hx88
    replace hb8 := hb8.ext hx88
    replace hp1_31 := hp1_31.ext hx88
    replace hb2 := hb2.ext hx88
    replace hT := hT.ext hx88
    replace s0 := s0.ext hx88
    replace s1 := s1.ext hx88
    replace E := E.trans hx88
    replace hp1_29 := hp1_29.ext hx88
    replace hp1_32 := hp1_32.ext hx88
    replace hp1_56 := hp1_56.ext hx88
    refine w_pure (y_assign rfl) rfl ?_
    refine w_nil ?_
    refine x_next ?_
    refine c_seq ?_
    refine c_seq ?_
    refine c_region ?_
    refine w_pure (y_move rfl) rfl ?_
    refine w_pure (y_lt rfl rfl) rfl ?_
    refine w_nil ?_
    refine x_next ?_
    refine c_false rfl ?_
    refine c_skip ?_
    refine x_next ?_
    refine c_seq ?_
    refine c_seq ?_
    refine c_region ?_
    refine w_pure (y_move rfl) rfl ?_
    refine w_pure (y_move rfl) rfl ?_
    refine w_pure (y_ne rfl rfl) rfl ?_
    refine w_nil ?_
    refine x_next ?_
    refine c_nsame rfl ?_
    refine c_skip ?_
    refine x_next ?_
    refine c_seq ?_
    refine c_region ?_
    refine w_pure (y_load_boxs rfl) rfl ?_
    (refine w_call rfl rfl rfl (toSetup_c) rfl ?_; rintro _ w96 ⟨d96, ⟨rfl, ⟨hp1_96, hx96⟩⟩⟩)
    have hz_hx96 := hx96.size
    replace hp1_85 := hp1_85.ext hx96
    replace hp1_69 := hp1_69.ext hx96
    replace hp1_66 := hp1_66.ext hx96
    replace hp1_61 := hp1_61.ext hx96
    replace hb8 := hb8.ext hx96
    replace hp1_31 := hp1_31.ext hx96
    replace hb2 := hb2.ext hx96
    replace hT := hT.ext hx96
    replace s0 := s0.ext hx96
    replace s1 := s1.ext hx96
    replace E := E.trans hx96
    replace hp1_29 := hp1_29.ext hx96
    replace hp1_32 := hp1_32.ext hx96
    replace hp1_56 := hp1_56.ext hx96
    replace hp1_96 := hp1_96.fresh
    refine w_pure (y_move rfl) rfl ?_
    (refine w_call rfl rfl rfl (toCardS_c) rfl ?_; rintro v98 w98 ⟨sus98, ⟨hp1_98, hx98⟩⟩)
    have hz_hx98 := hx98.size
    replace hp1_85 := hp1_85.ext hx98
    replace hp1_69 := hp1_69.ext hx98
    replace hp1_66 := hp1_66.ext hx98
    replace hp1_61 := hp1_61.ext hx98
    replace hb8 := hb8.ext hx98
    replace hp1_31 := hp1_31.ext hx98
    replace hb2 := hb2.ext hx98
    replace hT := hT.ext hx98
    replace s0 := s0.ext hx98
    replace s1 := s1.ext hx98
    replace E := E.trans hx98
    replace hp1_29 := hp1_29.ext hx98
    replace hp1_32 := hp1_32.ext hx98
    replace hp1_56 := hp1_56.ext hx98
    replace hp1_96 := hp1_96.ext hx98
    (refine w_call rfl rfl rfl (iTabulateDeck_c) rfl ?_; rintro _ w99 ⟨d99, ⟨rfl, ⟨hp1_99, hx99⟩⟩⟩)
    have hz_hx99 := hx99.size
    replace hp1_98 := hp1_98.ext hx99
    replace hp1_85 := hp1_85.ext hx99
    replace hp1_69 := hp1_69.ext hx99
    replace hp1_66 := hp1_66.ext hx99
    replace hp1_61 := hp1_61.ext hx99
    replace hb8 := hb8.ext hx99
    replace hp1_31 := hp1_31.ext hx99
    replace hb2 := hb2.ext hx99
    replace hT := hT.ext hx99
    replace s0 := s0.ext hx99
    replace s1 := s1.ext hx99
    replace E := E.trans hx99
    replace hp1_29 := hp1_29.ext hx99
    replace hp1_32 := hp1_32.ext hx99
    replace hp1_56 := hp1_56.ext hx99
    replace hp1_96 := hp1_96.ext hx99
    replace hp1_99 := hp1_99.fresh
    refine w_pure (y_move rfl) rfl ?_
    refine w_pure (y_extract rfl rfl) rfl ?_
    refine w_pure (y_extract rfl rfl) rfl ?_
    refine w_pure (y_assign rfl) rfl ?_
    refine w_pure (y_assign rfl) rfl ?_
    refine w_nil ?_
    refine x_next ?_
    refine c_seq ?_
    refine c_seq ?_
    refine c_region ?_
    refine w_pure (y_move rfl) rfl ?_
    refine w_pure (y_move rfl) rfl ?_
    refine w_val rfl rfl rfl (eqStringS_c) rfl (fun w104 hx104 hz104 => ?_)
    have hz_hx104 := hx104.size
    replace hp1_98 := hp1_98.ext hx104
    replace hp1_85 := hp1_85.ext hx104
    replace hp1_69 := hp1_69.ext hx104
    replace hp1_66 := hp1_66.ext hx104
    replace hp1_61 := hp1_61.ext hx104
    replace hb8 := hb8.ext hx104
    replace hp1_31 := hp1_31.ext hx104
    replace hb2 := hb2.ext hx104
    replace hT := hT.ext hx104
    replace s0 := s0.ext hx104
    replace s1 := s1.ext hx104
    replace E := E.trans hx104
    replace hp1_29 := hp1_29.ext hx104
    replace hp1_32 := hp1_32.ext hx104
    replace hp1_56 := hp1_56.ext hx104
    replace hp1_96 := hp1_96.ext hx104
    replace hp1_99 := hp1_99.ext hx104
    refine w_pure (y_not_dec rfl) rfl ?_
    refine w_pure (y_move rfl) rfl ?_
    (refine w_part_dec rfl rfl (fun hc107 => ?_) (fun hc107 => ?_) <;> try (first | exact absurd rfl hc107 | contradiction | exact Bool.noConfusion (show false = true from hc107.symm.trans (by assumption)) | exact Bool.noConfusion (show true = false from hc107.symm.trans (by assumption)) | (exfalso; omega) | (exfalso; simp only [*, Bool.not_true, Bool.not_false, reduceCtorEq] at hc107; done)))
    refine w_yes rfl rfl ?_
    refine w_pure (y_move rfl) rfl ?_
    refine w_yes rfl rfl ?_
    refine w_pure (y_move rfl) rfl ?_
    refine w_yes rfl rfl ?_
    refine w_pure (y_ne rfl rfl) rfl ?_
    refine w_pure (y_pick_f rfl rfl) rfl ?_
    refine w_nil ?_
    refine x_next ?_
    refine c_nsame rfl ?_
    refine c_skip ?_
    refine x_next ?_
    refine c_seq ?_
    refine c_region ?_
    refine w_pure (y_assign rfl) rfl ?_
    refine w_nil ?_
    refine x_next ?_
    refine c_seq ?_
    refine c_region ?_
    refine w_pure (y_move rfl) rfl ?_
    refine w_pure (y_move rfl) rfl ?_
    refine w_val rfl rfl rfl (heldStringS_c) rfl (fun w113 hx113 hz113 => ?_)
    have hz_hx113 := hx113.size
    replace hp1_98 := hp1_98.ext hx113
    replace hp1_85 := hp1_85.ext hx113
    replace hp1_69 := hp1_69.ext hx113
    replace hp1_66 := hp1_66.ext hx113
    replace hp1_61 := hp1_61.ext hx113
    replace hb8 := hb8.ext hx113
    replace hp1_31 := hp1_31.ext hx113
    replace hb2 := hb2.ext hx113
    replace hT := hT.ext hx113
    replace s0 := s0.ext hx113
    replace s1 := s1.ext hx113
    replace E := E.trans hx113
    replace hp1_29 := hp1_29.ext hx113
    replace hp1_32 := hp1_32.ext hx113
    replace hp1_56 := hp1_56.ext hx113
    replace hp1_96 := hp1_96.ext hx113
    replace hp1_99 := hp1_99.ext hx113
    refine w_pure (y_assign rfl) rfl ?_
    refine w_nil ?_
    refine x_next ?_
    refine c_seq ?_
    refine c_seq ?_
    refine c_region ?_
    refine w_pure (y_move rfl) rfl ?_
    refine w_pure (y_lt rfl rfl) rfl ?_
    refine w_nil ?_
    refine x_next ?_
    refine c_false rfl ?_
    refine c_skip ?_
    refine x_next ?_
    refine c_seq ?_
    refine c_seq ?_
    refine c_region ?_
    refine w_pure (y_move rfl) rfl ?_
    refine w_pure (y_move rfl) rfl ?_
    refine w_pure (y_ne rfl rfl) rfl ?_
    refine w_nil ?_
    refine x_next ?_
    refine c_nsame rfl ?_
    refine c_skip ?_
    refine x_next ?_
    refine c_seq ?_
    refine c_region ?_
    refine w_pure (y_assign rfl) rfl ?_
    refine w_nil ?_
    refine x_next ?_
    refine c_ret ?_
    exact x_retv [_] rfl ⟨rfl, trivial⟩ ⟨rfl, E.go⟩
end Go.Proofs.YtjnnfmlgjdlihaaGreatDoor

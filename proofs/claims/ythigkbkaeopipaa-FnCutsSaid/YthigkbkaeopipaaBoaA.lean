/- Contracts: boards that the laws draw. -/
import Derived.Test.YthigkbkaeopipaaBrdB
import Derived.Test.YthigkbkaeopipaaSrcA
import Derived.Test.YthigkbkaeopipaaL23
namespace Go.Proofs.Ythigkbkaeopipaa
open Go Go.Gw
set_option linter.unusedVariables false
set_option linter.unusedSimpArgs false
theorem okB_of {e n j : Int} {ws : List (Int × Int)} (h : 1 ≤ e ∧ e ≤ 20 ∧ 1 ≤ n ∧ n ≤ 20 ∧ 0 ≤ j ∧ j ≤ 30 ∧ e + n + j ≤ 30 ∧ ws.length ≤ 40) (hw : ∀ p ∈ ws, 0 ≤ p.1 ∧ p.1 < p.2 ∧ p.2 < e + n + j) : okB e n j ws = true := by
  simp only [okB, Bool.and_eq_true, decide_eq_true_eq, Bool.not_eq_true', List.any_eq_false]
  refine ⟨h, fun p hp => ?_⟩
  have := hw p hp
  simp [wireB]; omega
theorem okB_snoc {e n j x y : Int} {ws : List (Int × Int)} (h : okB e n j ws = true) (hl : ws.length < 40) (hw : 0 ≤ x ∧ x < y ∧ y < e + n + j) : okB e n j (ws ++ [(x, y)]) = true := by
  have h1 := okB_num h
  refine okB_of (by rw [List.length_append, List.length_singleton]; omega) fun p hp => ?_
  rw [List.mem_append, List.mem_singleton] at hp
  rcases hp with hp | rfl
  · exact okB_wire h p hp
  · exact hw
section
variable {w : World} {lo hi b : Nat} {B : Int}
theorem l12Draw_c (h : Src w lo hi b B := by assumption) (hB : B ≤ 10000000000 := by omega) : Ret Try.prog 97 [ptr b 0] w fun u w' => ∃ d, ∃ e n j : Int, ∃ ws, u = .agg #[.int .i64 e, .int .i64 n, .int .i64 j, d] ∧ Own w' 76 w.heap.size d ws ∧ okB e n j ws = true ∧ (1 ≤ e ∧ e ≤ 4 ∧ 1 ≤ n ∧ n ≤ 4 ∧ 0 ≤ j ∧ j ≤ 2) ∧ ws.length ≤ 8 ∧ Src w' lo hi b (B + 200) ∧ Chg b (b + 1) w w' := by
  have htop := h.top
  have hlim := h.lim
  have E : Since b (b + 1) w w := Since.refl _ _ _
  refine ret_enter Try.func97 rfl Try.ntmps97 rfl ?_
  focus
    have ht_h := h.top
    refine c_seq ?_
    refine c_region ?_
    refine w_alloc (k := fun b2 w2 hb2 hx2 hl2 hs2 => ?_)
    have hz_hx2 := hx2.size
    replace h := h.ext hx2
    replace E := E.next hx2 (by omega)
    refine w_nil ?_
    refine x_next ?_
    refine c_seq ?_
    refine c_region ?_
    refine w_pure (y_move rfl) rfl ?_
    (refine w_call rfl rfl rfl (srcPick_z _) rfl ?_; rintro _ w9 ⟨x9, ⟨rfl, ⟨⟨hp1_9, hp2_9⟩, ⟨hp3_9, hx9⟩⟩⟩⟩)
    have hz_hx9 := hx9.size
    replace hb2 := hb2.chg hx9 (by omega)
    replace E := E.trans hx9
    refine w_pure (y_add rfl rfl) rfl ?_
    refine w_pure (y_build rfl) rfl ?_
    refine w_alloc (k := fun b3 w3 hb3 hx3 hl3 hs3 => ?_)
    have hz_hx3 := hx3.size
    replace hp3_9 := hp3_9.ext hx3
    replace hb2 := hb2.ext hx3
    replace E := E.next hx3 (by omega)
    refine w_store_boxs rfl rfl (next := fun ws13 hbs13 hxs13 hss13 => ?_)
    (replace hb3 := hbs13; clear hbs13)
    have hz_hxs13 := hxs13.size
    replace hp3_9 := hp3_9.chg hxs13 (by omega)
    replace hb2 := hb2.chg hxs13 (by omega)
    replace E := E.next hxs13 (by omega)
    refine w_nil ?_
    refine x_next ?_
    refine c_seq ?_
    refine c_region ?_
    refine w_pure (y_move rfl) rfl ?_
    (refine w_call rfl rfl rfl (srcPick_z _) rfl ?_; rintro _ w13 ⟨x13, ⟨rfl, ⟨⟨hp1_13, hp2_13⟩, ⟨hp3_13, hx13⟩⟩⟩⟩)
    have hz_hx13 := hx13.size
    replace hb3 := hb3.chg hx13 (by omega)
    replace hb2 := hb2.chg hx13 (by omega)
    replace E := E.trans hx13
    refine w_pure (y_add rfl rfl) rfl ?_
    refine w_pure (y_field rfl) rfl ?_
    refine w_store_box rfl rfl (next := fun ws22 hbs22 hxs22 hss22 => ?_)
    (replace hb3 := hbs22; clear hbs22)
    have hz_hxs22 := hxs22.size
    replace hp3_13 := hp3_13.chg hxs22 (by omega)
    replace hb2 := hb2.chg hxs22 (by omega)
    replace E := E.next hxs22 (by omega)
    refine w_nil ?_
    refine x_next ?_
    refine c_seq ?_
    refine c_region ?_
    refine w_pure (y_move rfl) rfl ?_
    (refine w_call rfl rfl rfl (srcPick_z _) rfl ?_; rintro _ w17 ⟨x17, ⟨rfl, ⟨⟨hp1_17, hp2_17⟩, ⟨hp3_17, hx17⟩⟩⟩⟩)
    have hz_hx17 := hx17.size
    replace hb3 := hb3.chg hx17 (by omega)
    replace hb2 := hb2.chg hx17 (by omega)
    replace E := E.trans hx17
    refine w_pure (y_field rfl) rfl ?_
    refine w_store_box rfl rfl (next := fun ws30 hbs30 hxs30 hss30 => ?_)
    (replace hb3 := hbs30; clear hbs30)
    have hz_hxs30 := hxs30.size
    replace hp3_17 := hp3_17.chg hxs30 (by omega)
    replace hb2 := hb2.chg hxs30 (by omega)
    replace E := E.next hxs30 (by omega)
    refine w_nil ?_
    refine x_next ?_
    refine c_seq ?_
    refine c_region ?_
    refine w_val rfl rfl rfl (l12Hubs_c) rfl (fun w19 hx19 hz19 => ?_)
    have hz_hx19 := hx19.size
    replace hb3 := hb3.ext hx19
    replace hp3_17 := hp3_17.ext hx19
    replace hb2 := hb2.ext hx19
    replace E := E.next hx19 (by omega)
    refine w_pure (y_assign rfl) rfl ?_
    refine w_nil ?_
    refine x_next ?_
    refine c_seq ?_
    refine c_seq ?_
    refine c_region ?_
    refine w_pure (y_move rfl) rfl ?_
    (refine w_call rfl rfl rfl (srcPick_z _) rfl ?_; rintro _ w21 ⟨x21, ⟨rfl, ⟨⟨hp1_21, hp2_21⟩, ⟨hp3_21, hx21⟩⟩⟩⟩)
    have hz_hx21 := hx21.size
    replace hb3 := hb3.chg hx21 (by omega)
    replace hb2 := hb2.chg hx21 (by omega)
    replace E := E.trans hx21
    refine w_pure (y_assign rfl) rfl ?_
    refine w_nil ?_
    refine x_next ?_
    refine c_block ?_
    rotate_left
  clear h hx2 hx9 hx3 hxs13 hx13 hxs22 hx17 hxs30 hx19 hx21
  refine c_loopC b (b3 + 1) (ι := Int × Value × List (Int × Int)) (fun x => [(0, ptr b 0), (2, ptr b2 0), (3, ptr b3 0), (4, .int .i64 (1 + x9 + (1 + x13) + x17)), (5, .int .i64 x.1)])
    (fun x w' => Src w' lo hi b (B + 8 + 12 * (8 - x.1)) ∧ Box w' b3 [.int .i64 (1 + x9), .int .i64 (1 + x13), .int .i64 x17, x.2.1] ∧ Box w' b2 [.int .i64 0, .int .i64 0, .int .i64 0, .slice none 0 0] ∧ Own w' 76 w21.heap.size x.2.1 x.2.2 ∧ okB (1 + x9) (1 + x13) x17 x.2.2 = true ∧ x.2.2.length ≤ 8 - x.1 ∧ (0 ≤ x.1 ∧ x.1 ≤ x21) ∧ Since b (b + 1) w w') (fun x => x.1.toNat) (x21, .slice none 0 0, [])
    (by repeat (first | exact trivial | refine ⟨rfl, ?_⟩)) ⟨hp3_21.more (by dsimp only; omega), by assumption, by assumption, Own.nil _ _ _, okB_of (by simp; omega) (by simp), by simp; omega, by dsimp only; omega, by assumption⟩ ?_
  clear E hp3_9 hp3_13 hp3_17 hp3_21 hb2 hb3
  rintro ⟨k, u, ws⟩ wL hxL EL ⟨hsr, hb3, hb2, g1, hok, g2, g3, E⟩
  dsimp only at *
  have hzL := hxL.size
  focus
    have ht_hsr := hsr.top
    have hl_g1 := g1.lt
    refine c_seq ?_
    refine c_seq ?_
    refine c_region ?_
    refine w_pure (y_move rfl) rfl ?_
    refine w_pure (y_gt rfl rfl) rfl ?_
    refine w_nil ?_
    refine x_next ?_
    (refine c_dec rfl (fun hc23 => ?_) (fun hc23 => ?_) <;> try (first | exact absurd rfl hc23 | contradiction | exact Bool.noConfusion (show false = true from hc23.symm.trans (by assumption)) | exact Bool.noConfusion (show true = false from hc23.symm.trans (by assumption)) | (exfalso; omega) | (exfalso; simp only [*, Bool.not_true, Bool.not_false, reduceCtorEq] at hc23; done)))
    refine c_skip ?_
    refine x_next ?_
    refine c_seq ?_
    refine c_block ?_
    refine c_seq ?_
    refine c_region ?_
    refine w_pure (y_move rfl) rfl ?_
    refine w_pure (y_move rfl) rfl ?_
    (refine w_call rfl rfl rfl (srcPick_z _) rfl ?_; rintro _ w28 ⟨x28, ⟨rfl, ⟨⟨hp1_28, hp2_28⟩, ⟨hp3_28, hx28⟩⟩⟩⟩)
    have hz_hx28 := hx28.size
    replace EL := EL.next hx28 (by omega)
    replace hb3 := hb3.chg hx28 (by omega)
    replace hb2 := hb2.chg hx28 (by omega)
    replace g1 := g1.chg hx28 (by omega)
    replace E := E.trans hx28
    refine w_pure (y_assign rfl) rfl ?_
    refine w_nil ?_
    refine x_next ?_
    refine c_seq ?_
    refine c_region ?_
    refine w_pure (y_move rfl) rfl ?_
    refine w_pure (y_move rfl) rfl ?_
    (refine w_call rfl rfl rfl (srcPick_z _) rfl ?_; rintro _ w31 ⟨x31, ⟨rfl, ⟨⟨hp1_31, hp2_31⟩, ⟨hp3_31, hx31⟩⟩⟩⟩)
    have hz_hx31 := hx31.size
    replace EL := EL.next hx31 (by omega)
    replace hb3 := hb3.chg hx31 (by omega)
    replace hb2 := hb2.chg hx31 (by omega)
    replace g1 := g1.chg hx31 (by omega)
    replace E := E.trans hx31
    refine w_pure (y_assign rfl) rfl ?_
    refine w_nil ?_
    refine x_next ?_
    refine c_seq ?_
    refine c_seq ?_
    refine c_region ?_
    refine w_pure (y_move rfl) rfl ?_
    (refine w_call rfl rfl rfl (srcOne_c _) rfl ?_; rintro _ w33 ⟨q33, ⟨rfl, ⟨hp1_33, hx33⟩⟩⟩)
    have hz_hx33 := hx33.size
    replace EL := EL.next hx33 (by omega)
    replace hb3 := hb3.chg hx33 (by omega)
    replace hb2 := hb2.chg hx33 (by omega)
    replace g1 := g1.chg hx33 (by omega)
    replace E := E.trans hx33
    refine w_nil ?_
    refine x_next ?_
    (refine c_if rfl (fun hc33 => ?_) (fun hc33 => ?_) <;> try (first | exact absurd rfl hc33 | contradiction | exact Bool.noConfusion (show false = true from hc33.symm.trans (by assumption)) | exact Bool.noConfusion (show true = false from hc33.symm.trans (by assumption)) | (exfalso; omega) | (exfalso; simp only [*, Bool.not_true, Bool.not_false, reduceCtorEq] at hc33; done)))
    refine c_seq ?_
    refine c_region ?_
    refine w_pure (y_move rfl) rfl ?_
    refine w_pure (y_field rfl) rfl ?_
    refine w_pure (y_load_box rfl) rfl ?_
    (refine w_call rfl rfl rfl (srcPick_z _) rfl ?_; rintro _ w37 ⟨x37, ⟨rfl, ⟨⟨hp1_37, hp2_37⟩, ⟨hp3_37, hx37⟩⟩⟩⟩)
    have hz_hx37 := hx37.size
    replace EL := EL.next hx37 (by omega)
    replace hb3 := hb3.chg hx37 (by omega)
    replace hb2 := hb2.chg hx37 (by omega)
    replace g1 := g1.chg hx37 (by omega)
    replace E := E.trans hx37
    refine w_pure (y_assign rfl) rfl ?_
    refine w_nil ?_
    refine x_next ?_
    refine c_region_inv (i := 12) (b) (b + 1) mixed (fun wr12 hxr12 hzr12 => ?_)
    have hz_hxr12 := hxr12.size
    replace hp3_37 := hp3_37.ext hxr12
    replace EL := EL.next hxr12 (by omega)
    replace hb3 := hb3.ext hxr12
    replace hb2 := hb2.ext hxr12
    replace g1 := g1.ext hxr12
    replace E := E.next hxr12 (by omega)
    refine i_pure rfl (fun w38i hx38i => y_field rfl) rfl ?_
    refine i_pure rfl (fun w39i hx39i => y_load_box rfl) rfl ?_
    refine i_pure rfl (fun w40i hx40i => y_move rfl) rfl ?_
    refine i_pure rfl (fun w41i hx41i => y_field rfl) rfl ?_
    refine i_pure rfl (fun w42i hx42i => y_load_box rfl) rfl ?_
    refine i_one rfl ?_
    (refine w_call rfl rfl rfl (srcPick_z _) rfl ?_; rintro _ w43 ⟨x43, ⟨rfl, ⟨⟨hp1_43, hp2_43⟩, ⟨hp3_43, hx43⟩⟩⟩⟩)
    have hz_hx43 := hx43.size
    replace EL := EL.next hx43 (by omega)
    replace hb3 := hb3.chg hx43 (by omega)
    replace hb2 := hb2.chg hx43 (by omega)
    replace g1 := g1.chg hx43 (by omega)
    replace E := E.trans hx43
    refine w_nil ?_
    refine x_hi ?_
    refine i_pure rfl (fun w44i hx44i => y_add rfl rfl) rfl ?_
    refine i_pure rfl (fun w7i hx7i => y_assign rfl) rfl ?_
    refine i_nil ?_
    refine x_next ?_
    refine c_seq ?_
    refine c_region ?_
    refine w_pure (y_move rfl) rfl ?_
    refine w_pure (y_move rfl) rfl ?_
    refine w_pure (y_ne rfl rfl) rfl ?_
    refine w_nil ?_
    refine x_next ?_
    (refine c_dec rfl (fun hc47 => ?_) (fun hc47 => ?_) <;> try (first | exact absurd rfl hc47 | contradiction | exact Bool.noConfusion (show false = true from hc47.symm.trans (by assumption)) | exact Bool.noConfusion (show true = false from hc47.symm.trans (by assumption)) | (exfalso; omega) | (exfalso; simp only [*, Bool.not_true, Bool.not_false, reduceCtorEq] at hc47; done)))
    refine c_region_held mixed (fun wr14 hxr14 hzr14 => ?_)
    have hz_hxr14 := hxr14.size
    replace hp3_43 := hp3_43.ext hxr14
    replace EL := EL.next hxr14 (by omega)
    replace hb3 := hb3.ext hxr14
    replace hb2 := hb2.ext hxr14
    replace g1 := g1.ext hxr14
    replace E := E.next hxr14 (by omega)
    refine h_pure rfl (y_field rfl) rfl ?_
    refine h_pure rfl (y_load_box rfl) rfl ?_
    refine h_pure rfl (y_move rfl) rfl ?_
    refine h_pure rfl (y_move rfl) rfl ?_
    refine h_turn ?_
    refine h_pure rfl (y_move rfl) rfl ?_
    refine h_pure rfl (y_move rfl) rfl ?_
    refine h_turn ?_
    refine h_turn ?_
    refine h_turn ?_
    refine h_turn ?_
    refine h_turn ?_
    refine h_turn ?_
    refine h_one rfl ?_
    refine w_pur rfl rfl rfl (l00Min_c _ _) rfl ?_
    refine w_nil ?_
    refine x_held ?_
    refine h_one rfl ?_
    refine w_pur rfl rfl rfl (l00Max_c _ _) rfl ?_
    refine w_nil ?_
    refine x_held ?_
    refine h_pure rfl (y_build rfl) rfl ?_
    refine h_one rfl ?_
    refine w_lit (α := (Int × Int)) rfl rfl rfl rfl rfl rfl rfl rfl (fun v57 w57 ho57 hx57 hl57 hh57 hs57 => ?_)
    have hl_ho57 := ho57.lt
    have hz_hx57 := hx57.size
    replace hp3_43 := hp3_43.ext hx57
    replace EL := EL.next hx57 (by omega)
    replace hb3 := hb3.ext hx57
    replace hb2 := hb2.ext hx57
    replace g1 := g1.ext hx57
    replace E := E.next hx57 (by omega)
    refine w_nil ?_
    refine x_held ?_
    refine h_one rfl ?_
    refine w_append rfl rfl (k := fun v58 w58 ho58 hx58 hr58 => ?_)
    have hl_ho58 := ho58.lt
    have hz_hx58 := hx58.size
    replace ho57 := ho57.chg hx58 (by omega)
    replace hp3_43 := hp3_43.chg hx58 (by omega)
    replace EL := EL.next hx58 (by omega)
    replace hb3 := hb3.chg hx58 (by omega)
    replace hb2 := hb2.chg hx58 (by omega)
    replace E := E.next hx58 (by omega)
    refine w_nil ?_
    refine x_heldk ?_
    refine h_pure rfl (y_field rfl) rfl ?_
    refine h_one rfl ?_
    refine w_store_box rfl rfl (next := fun ws101 hbs101 hxs101 hss101 => ?_)
    (replace hb3 := hbs101; clear hbs101)
    have hz_hxs101 := hxs101.size
    replace ho58 := ho58.chg hxs101 (by omega)
    replace ho57 := ho57.chg hxs101 (by omega)
    replace hp3_43 := hp3_43.chg hxs101 (by omega)
    replace EL := EL.next hxs101 (by omega)
    replace hb2 := hb2.chg hxs101 (by omega)
    replace E := E.next hxs101 (by omega)
    refine w_nil ?_
    refine x_heldk ?_
    refine h_nil ?_
    refine x_block_norm ?_
    refine x_next ?_
    refine c_region ?_
    refine w_pure (y_move rfl) rfl ?_
    refine w_pure (y_sub rfl rfl) rfl ?_
    refine w_pure (y_assign rfl) rfl ?_
    refine w_nil ?_
    rotate_left
    refine c_skip ?_
    refine x_next ?_
    refine c_seq ?_
    refine c_region ?_
    refine w_pure (y_move rfl) rfl ?_
    refine w_pure (y_move rfl) rfl ?_
    refine w_pure (y_ne rfl rfl) rfl ?_
    refine w_nil ?_
    refine x_next ?_
    (refine c_dec rfl (fun hc47 => ?_) (fun hc47 => ?_) <;> try (first | exact absurd rfl hc47 | contradiction | exact Bool.noConfusion (show false = true from hc47.symm.trans (by assumption)) | exact Bool.noConfusion (show true = false from hc47.symm.trans (by assumption)) | (exfalso; omega) | (exfalso; simp only [*, Bool.not_true, Bool.not_false, reduceCtorEq] at hc47; done)))
    refine c_region_held mixed (fun wr14 hxr14 hzr14 => ?_)
    have hz_hxr14 := hxr14.size
    replace hp1_33 := hp1_33.ext hxr14
    replace EL := EL.next hxr14 (by omega)
    replace hb3 := hb3.ext hxr14
    replace hb2 := hb2.ext hxr14
    replace g1 := g1.ext hxr14
    replace E := E.next hxr14 (by omega)
    refine h_pure rfl (y_field rfl) rfl ?_
    refine h_pure rfl (y_load_box rfl) rfl ?_
    refine h_pure rfl (y_move rfl) rfl ?_
    refine h_pure rfl (y_move rfl) rfl ?_
    refine h_turn ?_
    refine h_pure rfl (y_move rfl) rfl ?_
    refine h_pure rfl (y_move rfl) rfl ?_
    refine h_turn ?_
    refine h_turn ?_
    refine h_turn ?_
    refine h_turn ?_
    refine h_turn ?_
    refine h_turn ?_
    refine h_one rfl ?_
    refine w_pur rfl rfl rfl (l00Min_c _ _) rfl ?_
    refine w_nil ?_
    refine x_held ?_
    refine h_one rfl ?_
    refine w_pur rfl rfl rfl (l00Max_c _ _) rfl ?_
    refine w_nil ?_
    refine x_held ?_
    refine h_pure rfl (y_build rfl) rfl ?_
    refine h_one rfl ?_
    refine w_lit (α := (Int × Int)) rfl rfl rfl rfl rfl rfl rfl rfl (fun v57 w57 ho57 hx57 hl57 hh57 hs57 => ?_)
    have hl_ho57 := ho57.lt
    have hz_hx57 := hx57.size
    replace hp1_33 := hp1_33.ext hx57
    replace EL := EL.next hx57 (by omega)
    replace hb3 := hb3.ext hx57
    replace hb2 := hb2.ext hx57
    replace g1 := g1.ext hx57
    replace E := E.next hx57 (by omega)
    refine w_nil ?_
    refine x_held ?_
    refine h_one rfl ?_
    refine w_append rfl rfl (k := fun v58 w58 ho58 hx58 hr58 => ?_)
    have hl_ho58 := ho58.lt
    have hz_hx58 := hx58.size
    replace ho57 := ho57.chg hx58 (by omega)
    replace hp1_33 := hp1_33.chg hx58 (by omega)
    replace EL := EL.next hx58 (by omega)
    replace hb3 := hb3.chg hx58 (by omega)
    replace hb2 := hb2.chg hx58 (by omega)
    replace E := E.next hx58 (by omega)
    refine w_nil ?_
    refine x_heldk ?_
    refine h_pure rfl (y_field rfl) rfl ?_
    refine h_one rfl ?_
    refine w_store_box rfl rfl (next := fun ws156 hbs156 hxs156 hss156 => ?_)
    (replace hb3 := hbs156; clear hbs156)
    have hz_hxs156 := hxs156.size
    replace ho58 := ho58.chg hxs156 (by omega)
    replace ho57 := ho57.chg hxs156 (by omega)
    replace hp1_33 := hp1_33.chg hxs156 (by omega)
    replace EL := EL.next hxs156 (by omega)
    replace hb2 := hb2.chg hxs156 (by omega)
    replace E := E.next hxs156 (by omega)
    refine w_nil ?_
    refine x_heldk ?_
    refine h_nil ?_
    refine x_block_norm ?_
    refine x_next ?_
    refine c_region ?_
    refine w_pure (y_move rfl) rfl ?_
    refine w_pure (y_sub rfl rfl) rfl ?_
    refine w_pure (y_assign rfl) rfl ?_
    refine w_nil ?_
    rotate_left
    refine c_skip ?_
    refine x_block_norm ?_
    refine x_next ?_
    refine c_region ?_
    refine w_pure (y_move rfl) rfl ?_
    refine w_pure (y_sub rfl rfl) rfl ?_
    refine w_pure (y_assign rfl) rfl ?_
    refine w_nil ?_
    rotate_left
    refine c_exit ?_
    refine x_then_exit ?_
    refine x_then_exit ?_
    refine x_block_hit ?_
    refine x_next ?_
    refine c_seq ?_
    refine c_region ?_
    refine w_pure (y_load_boxs rfl) rfl ?_
    refine w_store_boxs rfl rfl (next := fun ws185 hbs185 hxs185 hss185 => ?_)
    (replace hb2 := hbs185; clear hbs185)
    have hz_hxs185 := hxs185.size
    replace EL := EL.next hxs185 (by omega)
    replace hsr := hsr.chg hxs185 (by omega)
    replace hb3 := hb3.chg hxs185 (by omega)
    replace g1 := g1.chg hxs185 (by omega)
    replace E := E.next hxs185 (by omega)
    refine w_nil ?_
    refine x_next ?_
    refine c_ret ?_
    rotate_left
  · have h1 : 0 ≤ min x37 (1 + x9 + x43) ∧ min x37 (1 + x9 + x43) < max x37 (1 + x9 + x43) ∧ max x37 (1 + x9 + x43) < 1 + x9 + (1 + x13) + x17 := by omega
    exact x_again (k - 1, v58, ws ++ [_]) (by repeat (first | exact trivial | refine ⟨rfl, ?_⟩)) ⟨EL.go, hp3_43.more (by dsimp only; omega), by assumption, by assumption, by assumption, okB_snoc hok (by omega) h1, by rw [List.length_append, List.length_singleton]; dsimp only; omega, by dsimp only; omega, by assumption⟩ (by dsimp only; omega)
  · have h1 : 0 ≤ min x28 x31 ∧ min x28 x31 < max x28 x31 ∧ max x28 x31 < 1 + x9 + (1 + x13) + x17 := by omega
    exact x_again (k - 1, v58, ws ++ [_]) (by repeat (first | exact trivial | refine ⟨rfl, ?_⟩)) ⟨EL.go, hp1_33.more (by dsimp only; omega), by assumption, by assumption, by assumption, okB_snoc hok (by omega) h1, by rw [List.length_append, List.length_singleton]; dsimp only; omega, by dsimp only; omega, by assumption⟩ (by dsimp only; omega)
  · exact x_again (k - 1, u, ws) (by repeat (first | exact trivial | refine ⟨rfl, ?_⟩)) ⟨EL.go, hp1_33.more (by dsimp only; omega), by assumption, by assumption, by assumption, hok, by dsimp only; omega, by dsimp only; omega, by assumption⟩ (by dsimp only; omega)
  · exact x_retv [_] rfl ⟨⟨_, rfl, run_load_str (Box.at (by assumption)) (by rfl)⟩, trivial⟩ ⟨u, _, _, _, ws, rfl, Own.base (by assumption) (by omega), hok, by omega, by omega, (by assumption : Src _ lo hi b _).more (by omega), E.go⟩
end
end Go.Proofs.Ythigkbkaeopipaa

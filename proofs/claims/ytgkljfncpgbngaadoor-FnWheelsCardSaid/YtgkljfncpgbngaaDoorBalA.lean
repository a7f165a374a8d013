/- Contracts: counters and numbers that the laws draw. -/
import Derived.Test.YtgkljfncpgbngaaDoorSrcA
import Derived.Test.YtgkljfncpgbngaaDoorL24
import Derived.Test.YtgkljfncpgbngaaDoorNum
import Derived.Test.YtgkljfncpgbngaaDoorCntJ
import Derived.Test.YtgkljfncpgbngaaDoorOpB
namespace Go.Proofs.YtgkljfncpgbngaaDoor
open Go Go.Gw
set_option linter.unusedVariables false
set_option linter.unusedSimpArgs false
theorem getD_in {xs : List Int} {i : Nat} (h : i < xs.length) : xs.getD i 0 ∈ xs := by rw [List.getD_eq_getElem?_getD, List.getElem?_eq_getElem h]; exact List.getElem_mem h
section
variable {w : World} {lo hi b l9 k9 : Nat} {B : Int} {v : Value} {p : List UInt8} {xs : List Int}
theorem f6big_c (h : SL w lo hi v p := by repeat (first | assumption | exact Go.Gw.Own.sl (by assumption) | exact Go.Gw.Box.at (by assumption) | exact Go.Gw.SLL.el (by first | assumption | exact Go.Gw.OwnD.sll (by assumption)) _ (by omega) | exact Go.Gw.SLL.at (by first | assumption | exact Go.Gw.OwnD.sll (by assumption)) (by omega) | exact Go.Gw.OwnD.sll (by assumption) | (apply Go.Gw.SL.chg; case hx => assumption) | (apply Go.Gw.Own.chg; case hx => assumption) | (apply Go.Gw.Box.chg; case hx => assumption) | (apply Go.Gw.At.chg; case hx => assumption) | exact .inl (Nat.zero_le _) | exact .inr (Nat.zero_le _) | (show _ ∨ _; omega))) : Ret Tryd.prog 5 [v] w fun u w' => ∃ z, u = .bool z ∧ Ext w w' := by
  have E : Since 0 0 w w := Since.refl 0 0 w
  refine ret_enter Tryd.func5 rfl Tryd.ntmps5 rfl ?_
  focus
    have ht_h := h.top
    refine c_seq ?_
    refine c_region ?_
    refine w_pure (y_assign rfl) rfl ?_
    refine w_nil ?_
    refine x_next ?_
    refine c_seq ?_
    refine c_region ?_
    refine w_pure (y_move rfl) rfl ?_
    refine w_pure (y_len rfl) rfl ?_
    refine w_pure (y_gt rfl rfl) rfl ?_
    refine w_pure (y_assign rfl) rfl ?_
    refine w_nil ?_
    refine x_next ?_
    refine c_ret ?_
    rotate_left
  exact x_retv [_] rfl ⟨rfl, trivial⟩ ⟨_, rfl, E.go⟩
theorem srcFrom_z (h : SL w lo hi v p := by repeat (first | assumption | exact Go.Gw.Own.sl (by assumption) | exact Go.Gw.Box.at (by assumption) | exact Go.Gw.SLL.el (by first | assumption | exact Go.Gw.OwnD.sll (by assumption)) _ (by omega) | exact Go.Gw.SLL.at (by first | assumption | exact Go.Gw.OwnD.sll (by assumption)) (by omega) | exact Go.Gw.OwnD.sll (by assumption) | (apply Go.Gw.SL.chg; case hx => assumption) | (apply Go.Gw.Own.chg; case hx => assumption) | (apply Go.Gw.Box.chg; case hx => assumption) | (apply Go.Gw.At.chg; case hx => assumption) | exact .inl (Nat.zero_le _) | exact .inr (Nat.zero_le _) | (show _ ∨ _; omega))) : Ret Tryd.prog 53 [v] w fun u w' => ∃ c, u = ptr c 0 ∧ w.heap.size ≤ c ∧ Src w' lo hi c 0 ∧ c < w'.heap.size ∧ Ext w w' :=
  (srcFrom_c h).mono fun u w' ⟨c, h1, h2, h3, h4⟩ => ⟨c, h1, h2, h3, h3.top, h4⟩
theorem srcAmong_c (hs : SL w l9 k9 v xs := by repeat (first | assumption | exact Go.Gw.Own.sl (by assumption) | exact Go.Gw.Box.at (by assumption) | exact Go.Gw.SLL.el (by first | assumption | exact Go.Gw.OwnD.sll (by assumption)) _ (by omega) | exact Go.Gw.SLL.at (by first | assumption | exact Go.Gw.OwnD.sll (by assumption)) (by omega) | exact Go.Gw.OwnD.sll (by assumption) | (apply Go.Gw.SL.chg; case hx => assumption) | (apply Go.Gw.Own.chg; case hx => assumption) | (apply Go.Gw.Box.chg; case hx => assumption) | (apply Go.Gw.At.chg; case hx => assumption) | exact .inl (Nat.zero_le _) | exact .inr (Nat.zero_le _) | (show _ ∨ _; omega))) (h : Src w lo hi b B := by assumption) (hB : B ≤ 10000000000 := by omega) (hn : 1 ≤ xs.length ∧ xs.length ≤ 1000 := by first | omega | (simp only [List.length_cons, List.length_nil]; omega)) (hm : ∀ x ∈ xs, In64 x := by intro x hx; simp only [List.mem_cons, List.not_mem_nil, or_false] at hx; exact ⟨by omega, by omega⟩) (hd : b < l9 ∨ k9 ≤ b := by omega) : Ret Tryd.prog 71 [ptr b 0, v] w fun u w' => ∃ x, u = .int .i64 x ∧ In64 x ∧ Src w' lo hi b (B + 2) ∧ Chg b (b + 1) w w' := by
  have htop := h.top
  have E : Since b (b + 1) w w := Since.refl _ _ _
  refine ret_enter Tryd.func71 rfl Tryd.ntmps71 rfl ?_
  focus
    have ht_hs := hs.top
    have ht_h := h.top
    refine c_seq ?_
    refine c_region ?_
    refine w_pure (y_assign rfl) rfl ?_
    refine w_nil ?_
    refine x_next ?_
    refine c_seq ?_
    refine c_region ?_
    refine w_pure (y_move rfl) rfl ?_
    refine w_pure (y_move rfl) rfl ?_
    refine w_pure (y_move rfl) rfl ?_
    refine w_pure (y_len rfl) rfl ?_
    (refine w_call rfl rfl rfl (srcPick_z _) rfl ?_; rintro _ w9 ⟨x9, ⟨rfl, ⟨⟨hp1_9, hp2_9⟩, ⟨hp3_9, hx9⟩⟩⟩⟩)
    have hz_hx9 := hx9.size
    replace hs := hs.chg hx9 (by omega)
    replace E := E.trans hx9
    refine w_pure (y_index rfl rfl) rfl ?_
    refine w_pure (y_load_int rfl) rfl ?_
    refine w_pure (y_assign rfl) rfl ?_
    refine w_nil ?_
    refine x_next ?_
    refine c_ret ?_
    rotate_left
  exact x_retv [_] rfl ⟨rfl, trivial⟩ ⟨_, rfl, hm _ (getD_in (by omega)), hp3_9, E.go⟩
theorem l11Draw_c (h : Src w lo hi b B := by assumption) (hB : B ≤ 1000000000 := by omega) : Ret Tryd.prog 92 [ptr b 0] w fun u w' => ∃ d, ∃ xs : List Int, u = .agg #[d] ∧ Own w' 2 w.heap.size d xs ∧ (1 ≤ xs.length ∧ xs.length ≤ 6) ∧ Src w' lo hi b (B + 100) ∧ Chg b (b + 1) w w' := by
  have htop := h.top
  have hlim := h.lim
  have E : Since b (b + 1) w w := Since.refl _ _ _
  refine ret_enter Tryd.func92 rfl Tryd.ntmps92 rfl ?_
  focus
    have ht_h := h.top
    refine c_seq ?_
    refine c_region ?_
    refine w_alloc (k := fun b2 w2 hb2 hx2 hl2 hs2 => ?_)
    have hz_hx2 := hx2.size
    replace h := h.ext hx2
    replace E := E.next hx2 (by omega)
    refine w_nil ?_
    refine x_next ?_
    refine c_seq ?_
    refine c_region ?_
    refine w_pure (y_build rfl) rfl ?_
    refine w_alloc (k := fun b3 w3 hb3 hx3 hl3 hs3 => ?_)
    have hz_hx3 := hx3.size
    replace hb2 := hb2.ext hx3
    replace h := h.ext hx3
    replace E := E.next hx3 (by omega)
    refine w_store_boxs rfl rfl (next := fun ws10 hbs10 hxs10 hss10 => ?_)
    (replace hb3 := hbs10; clear hbs10)
    have hz_hxs10 := hxs10.size
    replace hb2 := hb2.chg hxs10 (by omega)
    replace h := h.chg hxs10 (by omega)
    replace E := E.next hxs10 (by omega)
    refine w_nil ?_
    refine x_next ?_
    refine c_seq ?_
    refine c_seq ?_
    refine c_region ?_
    refine w_pure (y_move rfl) rfl ?_
    (refine w_call rfl rfl rfl (srcPick_z _) rfl ?_; rintro _ w8 ⟨x8, ⟨rfl, ⟨⟨hp1_8, hp2_8⟩, ⟨hp3_8, hx8⟩⟩⟩⟩)
    have hz_hx8 := hx8.size
    replace hb3 := hb3.chg hx8 (by omega)
    replace hb2 := hb2.chg hx8 (by omega)
    replace E := E.trans hx8
    refine w_pure (y_add rfl rfl) rfl ?_
    refine w_pure (y_assign rfl) rfl ?_
    refine w_nil ?_
    refine x_next ?_
    refine c_block ?_
    rotate_left
  clear h hx2 hx3 hx8
  refine c_loopC b (b3 + 1) (ι := Int × Value × List Int) (fun x => [(0, ptr b 0), (2, ptr b2 0), (3, ptr b3 0), (4, .int .i64 x.1)])
    (fun x w' => Src w' lo hi b (B + 2 + 10 * (6 - x.1)) ∧ Box w' b3 [x.2.1] ∧ Box w' b2 [.slice none 0 0] ∧ Own w' 2 w8.heap.size x.2.1 x.2.2 ∧ (x.2.2.length : Int) = 1 + x8 - x.1 ∧ (0 ≤ x.1 ∧ x.1 ≤ 1 + x8) ∧ Since b (b + 1) w w') (fun x => x.1.toNat) (1 + x8, .slice none 0 0, [])
    (by repeat (first | exact trivial | refine ⟨rfl, ?_⟩)) ⟨hp3_8.more (by dsimp only; omega), by assumption, by assumption, Own.nil _ _ _, by simp, by dsimp only; omega, by assumption⟩ ?_
  clear E hp3_8 hb2 hb3
  rintro ⟨k, u, ps⟩ wL hxL EL ⟨hsr, hb3, hb2, g1, g2, g3, E⟩
  dsimp only at *
  have hzL := hxL.size
  focus
    have ht_hsr := hsr.top
    have hl_g1 := g1.lt
    refine c_seq ?_
    refine c_seq ?_
    refine c_region ?_
    refine w_pure (y_move rfl) rfl ?_
    refine w_pure (y_gt rfl rfl) rfl ?_
    refine w_nil ?_
    refine x_next ?_
    (refine c_dec rfl (fun hc11 => ?_) (fun hc11 => ?_) <;> try (first | exact absurd rfl hc11 | contradiction | exact Bool.noConfusion (show false = true from hc11.symm.trans (by assumption)) | exact Bool.noConfusion (show true = false from hc11.symm.trans (by assumption)) | (exfalso; omega) | (exfalso; simp only [*, Bool.not_true, Bool.not_false, reduceCtorEq] at hc11; done)))
    refine c_skip ?_
    refine x_next ?_
    refine c_seq ?_
    refine c_block ?_
    refine c_seq ?_
    refine c_region ?_
    refine w_pure (y_move rfl) rfl ?_
    (refine w_call rfl rfl rfl (srcPick_z _) rfl ?_; rintro _ w15 ⟨x15, ⟨rfl, ⟨⟨hp1_15, hp2_15⟩, ⟨hp3_15, hx15⟩⟩⟩⟩)
    have hz_hx15 := hx15.size
    replace EL := EL.next hx15 (by omega)
    replace hb3 := hb3.chg hx15 (by omega)
    replace hb2 := hb2.chg hx15 (by omega)
    replace g1 := g1.chg hx15 (by omega)
    replace E := E.trans hx15
    refine w_pure (y_assign rfl) rfl ?_
    refine w_nil ?_
    refine x_next ?_
    refine c_seq ?_
    refine c_seq ?_
    refine c_region ?_
    refine w_pure (y_move rfl) rfl ?_
    (refine w_call rfl rfl rfl (srcOne_c _) rfl ?_; rintro _ w17 ⟨q17, ⟨rfl, ⟨hp1_17, hx17⟩⟩⟩)
    have hz_hx17 := hx17.size
    replace EL := EL.next hx17 (by omega)
    replace hb3 := hb3.chg hx17 (by omega)
    replace hb2 := hb2.chg hx17 (by omega)
    replace g1 := g1.chg hx17 (by omega)
    replace E := E.trans hx17
    refine w_nil ?_
    refine x_next ?_
    (refine c_if rfl (fun hc17 => ?_) (fun hc17 => ?_) <;> try (first | exact absurd rfl hc17 | contradiction | exact Bool.noConfusion (show false = true from hc17.symm.trans (by assumption)) | exact Bool.noConfusion (show true = false from hc17.symm.trans (by assumption)) | (exfalso; omega) | (exfalso; simp only [*, Bool.not_true, Bool.not_false, reduceCtorEq] at hc17; done)))
    refine c_region ?_
    refine w_pure (y_assign rfl) rfl ?_
    refine w_nil ?_
    refine x_next ?_
    refine c_region ?_
    refine w_pure (y_field rfl) rfl ?_
    refine w_pure (y_load_box rfl) rfl ?_
    refine w_pure (y_move rfl) rfl ?_
    refine w_lit (α := Int) rfl rfl rfl rfl rfl rfl rfl rfl (fun v21 w21 ho21 hx21 hl21 hh21 hs21 => ?_)
    have hl_ho21 := ho21.lt
    have hz_hx21 := hx21.size
    replace hp1_17 := hp1_17.ext hx21
    replace EL := EL.next hx21 (by omega)
    replace hb3 := hb3.ext hx21
    replace hb2 := hb2.ext hx21
    replace g1 := g1.ext hx21
    replace E := E.next hx21 (by omega)
    refine w_append rfl rfl (k := fun v22 w22 ho22 hx22 hr22 => ?_)
    have hl_ho22 := ho22.lt
    have hz_hx22 := hx22.size
    replace ho21 := ho21.chg hx22 (by omega)
    replace hp1_17 := hp1_17.chg hx22 (by omega)
    replace EL := EL.next hx22 (by omega)
    replace hb3 := hb3.chg hx22 (by omega)
    replace hb2 := hb2.chg hx22 (by omega)
    replace E := E.next hx22 (by omega)
    refine w_pure (y_field rfl) rfl ?_
    refine w_store_box rfl rfl (next := fun ws39 hbs39 hxs39 hss39 => ?_)
    (replace hb3 := hbs39; clear hbs39)
    have hz_hxs39 := hxs39.size
    replace ho22 := ho22.chg hxs39 (by omega)
    replace ho21 := ho21.chg hxs39 (by omega)
    replace hp1_17 := hp1_17.chg hxs39 (by omega)
    replace EL := EL.next hxs39 (by omega)
    replace hb2 := hb2.chg hxs39 (by omega)
    replace E := E.next hxs39 (by omega)
    refine w_nil ?_
    refine x_block_norm ?_
    refine x_next ?_
    refine c_region ?_
    refine w_pure (y_move rfl) rfl ?_
    refine w_pure (y_sub rfl rfl) rfl ?_
    refine w_pure (y_assign rfl) rfl ?_
    refine w_nil ?_
    rotate_left
    refine c_skip ?_
    refine x_next ?_
    refine c_region ?_
    refine w_pure (y_field rfl) rfl ?_
    refine w_pure (y_load_box rfl) rfl ?_
    refine w_pure (y_move rfl) rfl ?_
    refine w_lit (α := Int) rfl rfl rfl rfl rfl rfl rfl rfl (fun v21 w21 ho21 hx21 hl21 hh21 hs21 => ?_)
    have hl_ho21 := ho21.lt
    have hz_hx21 := hx21.size
    replace hp1_17 := hp1_17.ext hx21
    replace EL := EL.next hx21 (by omega)
    replace hb3 := hb3.ext hx21
    replace hb2 := hb2.ext hx21
    replace g1 := g1.ext hx21
    replace E := E.next hx21 (by omega)
    refine w_append rfl rfl (k := fun v22 w22 ho22 hx22 hr22 => ?_)
    have hl_ho22 := ho22.lt
    have hz_hx22 := hx22.size
    replace ho21 := ho21.chg hx22 (by omega)
    replace hp1_17 := hp1_17.chg hx22 (by omega)
    replace EL := EL.next hx22 (by omega)
    replace hb3 := hb3.chg hx22 (by omega)
    replace hb2 := hb2.chg hx22 (by omega)
    replace E := E.next hx22 (by omega)
    refine w_pure (y_field rfl) rfl ?_
    refine w_store_box rfl rfl (next := fun ws58 hbs58 hxs58 hss58 => ?_)
    (replace hb3 := hbs58; clear hbs58)
    have hz_hxs58 := hxs58.size
    replace ho22 := ho22.chg hxs58 (by omega)
    replace ho21 := ho21.chg hxs58 (by omega)
    replace hp1_17 := hp1_17.chg hxs58 (by omega)
    replace EL := EL.next hxs58 (by omega)
    replace hb2 := hb2.chg hxs58 (by omega)
    replace E := E.next hxs58 (by omega)
    refine w_nil ?_
    refine x_block_norm ?_
    refine x_next ?_
    refine c_region ?_
    refine w_pure (y_move rfl) rfl ?_
    refine w_pure (y_sub rfl rfl) rfl ?_
    refine w_pure (y_assign rfl) rfl ?_
    refine w_nil ?_
    rotate_left
    refine c_exit ?_
    refine x_then_exit ?_
    refine x_then_exit ?_
    refine x_block_hit ?_
    refine x_next ?_
    refine c_seq ?_
    refine c_region ?_
    refine w_pure (y_load_boxs rfl) rfl ?_
    refine w_store_boxs rfl rfl (next := fun ws76 hbs76 hxs76 hss76 => ?_)
    (replace hb2 := hbs76; clear hbs76)
    have hz_hxs76 := hxs76.size
    replace EL := EL.next hxs76 (by omega)
    replace hsr := hsr.chg hxs76 (by omega)
    replace hb3 := hb3.chg hxs76 (by omega)
    replace g1 := g1.chg hxs76 (by omega)
    replace E := E.next hxs76 (by omega)
    refine w_nil ?_
    refine x_next ?_
    refine c_ret ?_
    rotate_left
  · exact x_again (k - 1, v22, ps ++ [_]) (by repeat (first | exact trivial | refine ⟨rfl, ?_⟩)) ⟨EL.go, hp1_17.more (by dsimp only; omega), by assumption, by assumption, by assumption, by rw [List.length_append, List.length_singleton]; dsimp only; omega, by dsimp only; omega, by assumption⟩ (by dsimp only; omega)
  · exact x_again (k - 1, v22, ps ++ [_]) (by repeat (first | exact trivial | refine ⟨rfl, ?_⟩)) ⟨EL.go, hp1_17.more (by dsimp only; omega), by assumption, by assumption, by assumption, by rw [List.length_append, List.length_singleton]; dsimp only; omega, by dsimp only; omega, by assumption⟩ (by dsimp only; omega)
  · exact x_retv [_] rfl ⟨⟨_, rfl, run_load_str (Box.at (by assumption)) (by rfl)⟩, trivial⟩ ⟨u, ps, rfl, Own.base (by assumption) (by omega), by omega, (by assumption : Src _ lo hi b _).more (by omega), E.go⟩
end
end Go.Proofs.YtgkljfncpgbngaaDoor

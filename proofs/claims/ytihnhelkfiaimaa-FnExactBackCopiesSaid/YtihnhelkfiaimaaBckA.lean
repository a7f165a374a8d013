/- Contracts: copies that are turned round. -/
import Derived.Test.YtihnhelkfiaimaaBckP
import Derived.Test.YtihnhelkfiaimaaSrtA
import Derived.Test.YtihnhelkfiaimaaL18
namespace Go.Proofs.Ytihnhelkfiaimaa
open Go Go.Gw
set_option linter.unusedVariables false
set_option linter.unusedSimpArgs false
theorem plain64 {ps : List (Int × Int)} (h : plainB ps = true) (i : Nat) (hi : i < ps.length) : (0 ≤ (ps.getD i (0, 0)).1 ∧ (ps.getD i (0, 0)).1 ≤ 19) ∧ (0 ≤ (ps.getD i (0, 0)).2 ∧ (ps.getD i (0, 0)).2 ≤ 19) := by
  have := plainB_at h i hi
  unfold plainAt at this
  omega
theorem srt_lt {ys : List (Int × Int)} (h : Srt ys) {i j : Nat} (hij : i < j) (hj : j < ys.length) : (ys.getD i (0, 0)).2 < (ys.getD j (0, 0)).2 := by
  have := List.pairwise_iff_getElem.1 h i j (by omega) hj hij
  rw [List.getD_eq_getElem?_getD, List.getD_eq_getElem?_getD, List.getElem?_eq_getElem hj, List.getElem?_eq_getElem (show i < ys.length by omega)]
  exact this
/-- a pair put to its place among sorted ones -/
theorem put_srt {ys : List (Int × Int)} {x : Int × Int} (h : Srt ys) {k : Nat} (hk : k ≤ ys.length) (h1 : ∀ j, k ≤ j → j < ys.length → x.2 < (ys.getD j (0, 0)).2) (h2 : 0 < k → (ys.getD (k - 1) (0, 0)).2 < x.2) : Srt (ys.take k ++ [x] ++ ys.drop k) ∧ (ys.take k ++ [x] ++ ys.drop k).Perm (ys ++ [x]) := by
  have ht : ∀ a ∈ ys.take k, a.2 < x.2 := fun a ha => by
    obtain ⟨i, hi, rfl⟩ := List.mem_iff_getElem.1 ha
    rw [List.length_take] at hi
    have h3 := h2 (by omega)
    have e : (ys.take k)[i] = ys.getD i (0, 0) := by rw [List.getElem_take, List.getD_eq_getElem?_getD, List.getElem?_eq_getElem (show i < ys.length by omega)]; rfl
    rw [e]
    by_cases hik : i = k - 1
    · rw [hik]; exact h3
    · have := srt_lt h (show i < k - 1 by omega) (by omega); omega
  have hd : ∀ a ∈ ys.drop k, x.2 < a.2 := fun a ha => by
    obtain ⟨i, hi, rfl⟩ := List.mem_iff_getElem.1 ha
    rw [List.length_drop] at hi
    have e : (ys.drop k)[i] = ys.getD (k + i) (0, 0) := by rw [List.getElem_drop, List.getD_eq_getElem?_getD, List.getElem?_eq_getElem (show k + i < ys.length by omega)]; rfl
    rw [e]; exact h1 _ (by omega) (by omega)
  refine ⟨?_, ?_⟩
  · unfold Srt
    rw [List.append_assoc, List.pairwise_append]
    refine ⟨h.sublist (List.take_sublist _ _), ?_, fun a ha b hb => ?_⟩
    · rw [List.singleton_append, List.pairwise_cons]
      exact ⟨hd, h.sublist (List.drop_sublist _ _)⟩
    · rcases List.mem_append.1 hb with hb | hb
      · rw [List.mem_singleton] at hb; subst hb; exact ht a ha
      · have := ht a ha; have := hd b hb; omega
  · have e : ys ++ [x] = ys.take k ++ (ys.drop k ++ [x]) := by rw [← List.append_assoc, List.take_append_drop]
    rw [e, List.append_assoc]
    exact (List.perm_append_comm).append_left _
/-- no pair has the target t -/
def freeT (ys : List (Int × Int)) (t : Int) : Bool := decide (∀ y ∈ ys, ¬ y.2 = t)
theorem put_all {ys : List (Int × Int)} {a c k : Int} (hs : Srt ys) (hk : 0 ≤ k ∧ k ≤ ys.length) (h1 : ∀ j : Nat, k ≤ j → j < ys.length → c < (ys.getD j (0, 0)).2) (h2 : 0 < k → (ys.getD (k - 1).toNat (0, 0)).2 < c) :
    freeT ys c = true ∧ ((([] ++ List.drop (Int.toNat 0) (List.take k.toNat ys)) ++ [(a, c)]) ++ List.drop k.toNat (List.take ((ys.length : Int)).toNat ys)).Perm (ys ++ [(a, c)]) ∧ Srt ((([] ++ List.drop (Int.toNat 0) (List.take k.toNat ys)) ++ [(a, c)]) ++ List.drop k.toNat (List.take ((ys.length : Int)).toNat ys)) := by
  have e : (([] ++ List.drop (Int.toNat 0) (List.take k.toNat ys)) ++ [(a, c)]) ++ List.drop k.toNat (List.take ((ys.length : Int)).toNat ys) = ys.take k.toNat ++ [(a, c)] ++ ys.drop k.toNat := by simp
  rw [e]
  have h := put_srt (x := (a, c)) hs (k := k.toNat) (by omega) (fun j q1 q2 => h1 j (by omega) q2) (fun q => by rw [show k.toNat - 1 = (k - 1).toNat by omega]; exact h2 (by omega))
  refine ⟨decide_eq_true fun y hy q => ?_, h.2, h.1⟩
  obtain ⟨j, hj, rfl⟩ := List.mem_iff_getElem.1 hy
  have e2 : ys[j] = ys.getD j (0, 0) := by rw [List.getD_eq_getElem?_getD, List.getElem?_eq_getElem hj]; rfl
  rw [e2] at q
  by_cases hjk : k ≤ j
  · have := h1 j hjk hj; omega
  · have h3 := h2 (by omega)
    by_cases hj1 : j = (k - 1).toNat
    · rw [← hj1] at h3; omega
    · have := srt_lt hs (show j < (k - 1).toNat by omega) (by omega); omega
theorem dup_no {ps zs : List (Int × Int)} {i : Nat} (hi : i < ps.length) (hz : zs.Perm ((ps.take i).map swapP)) (hn : ¬ ∀ y ∈ zs, ¬ y.2 = (ps.getD i (0, 0)).1) : ¬ (ps.map Prod.fst).Nodup := fun nd => hn fun y hy he => by
  obtain ⟨q, hq, rfl⟩ := List.mem_map.1 (hz.mem_iff.1 hy)
  obtain ⟨j, hj, rfl⟩ := List.mem_iff_getElem.1 hq
  rw [List.length_take] at hj
  unfold List.Nodup at nd
  rw [List.pairwise_map] at nd
  have := List.pairwise_iff_getElem.1 nd j i (by omega) hi (by omega)
  rw [List.getElem_take, List.getD_eq_getElem?_getD, List.getElem?_eq_getElem hi] at he
  exact this he
theorem swap_snoc {ps : List (Int × Int)} {i : Int} (h0 : 0 ≤ i) (hi : i < ps.length) : (ps.take (i + 1).toNat).map swapP = (ps.take i.toNat).map swapP ++ [((ps.getD i.toNat (0, 0)).2, (ps.getD i.toNat (0, 0)).1)] := by
  rw [show (i + 1).toNat = i.toNat + 1 by omega, List.take_add_one, List.getD_eq_getElem?_getD, List.getElem?_eq_getElem (by omega), Option.toList_some, List.map_append]; rfl
section
variable {w : World} {lo hi : Nat} {v : Value} {ps ys : List (Int × Int)}
theorem l10Put_c (a c : Int) (h : SL w lo hi v ys := by repeat (first | assumption | exact Go.Gw.Own.sl (by assumption) | exact Go.Gw.Box.at (by assumption) | exact Go.Gw.SLL.el (by first | assumption | exact Go.Gw.OwnD.sll (by assumption)) _ (by omega) | exact Go.Gw.SLL.at (by first | assumption | exact Go.Gw.OwnD.sll (by assumption)) (by omega) | exact Go.Gw.OwnD.sll (by assumption) | (apply Go.Gw.SL.chg; case hx => assumption) | (apply Go.Gw.Own.chg; case hx => assumption) | (apply Go.Gw.Box.chg; case hx => assumption) | (apply Go.Gw.At.chg; case hx => assumption) | exact .inl (Nat.zero_le _) | exact .inr (Nat.zero_le _) | (show _ ∨ _; omega))) (hs : Srt ys := by assumption) (hl : ys.length ≤ 1048576 := by omega) : Ret Try.prog 12 [v, .agg #[.int .i64 a, .int .i64 c]] w fun u w' => ∃ d, ∃ zs : List (Int × Int), u = .tuple #[d, .bool (freeT ys c)] ∧ Own w' 35 w.heap.size d zs ∧ (freeT ys c = true → zs.Perm (ys ++ [(a, c)]) ∧ Srt zs) ∧ Ext w w' := by
  have E : Since 0 0 w w := Since.refl 0 0 w
  refine ret_enter Try.func12 rfl Try.ntmps12 rfl ?_
  focus
    have ht_h := h.top
    refine c_seq ?_
    refine c_region ?_
    refine w_box rfl (k := fun b3 w3 hb3 hx3 hl3 hs3 => ?_)
    have hz_hx3 := hx3.size
    replace h := h.ext hx3
    replace E := E.trans hx3
    refine w_pure (y_assign rfl) rfl ?_
    refine w_pure (y_assign rfl) rfl ?_
    refine w_nil ?_
    refine x_next ?_
    refine c_seq ?_
    refine c_region ?_
    refine w_pure (y_move rfl) rfl ?_
    refine w_pure (y_len rfl) rfl ?_
    refine w_pure (y_assign rfl) rfl ?_
    refine w_nil ?_
    refine x_next ?_
    refine c_seq ?_
    refine c_block ?_
    rotate_left
  refine c_loopC 0 0 (ι := Int) (fun k => [(0, v), (3, ptr b3 0), (6, .int .i64 k)]) (fun k w' => (0 ≤ k ∧ k ≤ ys.length) ∧ ∀ j : Nat, k ≤ j → j < ys.length → c < (ys.getD j (0, 0)).2) (fun k => k.toNat) ys.length (by repeat (first | exact trivial | refine ⟨rfl, ?_⟩)) ⟨⟨by omega, by omega⟩, fun j h1 h2 => by omega⟩ ?_
  rintro k wL hxL EL ⟨hk, hall⟩
  have hzL := hxL.size
  focus
    have hz_hxL := hxL.size
    replace hb3 := hb3.ext hxL
    replace h := h.ext hxL
    replace E := E.trans hxL
    refine c_seq ?_
    refine c_seq ?_
    refine c_region_calm mixed (by decide +kernel) (by kernel_rfl) ?_
    refine q_pure (y_move rfl) rfl ?_
    refine q_pure (y_gt rfl rfl) rfl ?_
    refine q_pure (y_move rfl) rfl ?_
    (refine q_part_dec rfl rfl (fun hc13 => ?_) (fun hc13 => ?_) <;> try (first | exact absurd rfl hc13 | contradiction | exact Bool.noConfusion (show false = true from hc13.symm.trans (by assumption)) | exact Bool.noConfusion (show true = false from hc13.symm.trans (by assumption)) | (exfalso; omega) | (exfalso; simp only [*, Bool.not_true, Bool.not_false, reduceCtorEq] at hc13; done)))
    refine q_yes rfl rfl ?_
    refine q_pure (y_move rfl) rfl ?_
    refine q_yes rfl rfl ?_
    refine q_pure (y_move rfl) rfl ?_
    refine q_yes rfl rfl ?_
    refine q_pure (y_sub rfl rfl) rfl ?_
    refine q_yes rfl rfl ?_
    refine q_pure (y_index rfl rfl) rfl ?_
    refine q_yes rfl rfl ?_
    refine q_pure (y_field rfl) rfl ?_
    refine q_yes rfl rfl ?_
    refine q_pure (y_load_p1 rfl) rfl ?_
    refine q_yes rfl rfl ?_
    refine q_pure (y_field rfl) rfl ?_
    refine q_yes rfl rfl ?_
    refine q_pure (y_load_box rfl) rfl ?_
    refine q_yes rfl rfl ?_
    refine q_pure (y_gt rfl rfl) rfl ?_
    refine q_pure (y_pick_t rfl rfl) rfl ?_
    refine q_nil (fun ws27 hxs27 hzs27 => ?_)
    have hz_hxs27 := hxs27.size
    replace EL := EL.trans hxs27
    replace hb3 := hb3.ext hxs27
    replace h := h.ext hxs27
    replace E := E.trans hxs27
    refine x_next ?_
    (refine c_dec rfl (fun hc22 => ?_) (fun hc22 => ?_) <;> try (first | exact absurd rfl hc22 | contradiction | exact Bool.noConfusion (show false = true from hc22.symm.trans (by assumption)) | exact Bool.noConfusion (show true = false from hc22.symm.trans (by assumption)) | (exfalso; omega) | (exfalso; simp only [*, Bool.not_true, Bool.not_false, reduceCtorEq] at hc22; done)))
    refine c_skip ?_
    refine x_next ?_
    refine c_block ?_
    refine c_region ?_
    refine w_pure (y_move rfl) rfl ?_
    refine w_pure (y_sub rfl rfl) rfl ?_
    refine w_pure (y_assign rfl) rfl ?_
    refine w_nil ?_
    refine x_block_norm ?_
    rotate_left
    refine c_exit ?_
    refine x_then_exit ?_
    refine x_then_exit ?_
    refine x_block_hit ?_
    refine x_next ?_
    refine c_seq ?_
    refine c_seq ?_
    refine c_region_calm mixed (by decide +kernel) (by kernel_rfl) ?_
    refine q_pure (y_move rfl) rfl ?_
    refine q_pure (y_gt rfl rfl) rfl ?_
    refine q_pure (y_move rfl) rfl ?_
    (refine q_part_dec rfl rfl (fun hc28 => ?_) (fun hc28 => ?_) <;> try (first | exact absurd rfl hc28 | contradiction | exact Bool.noConfusion (show false = true from hc28.symm.trans (by assumption)) | exact Bool.noConfusion (show true = false from hc28.symm.trans (by assumption)) | (exfalso; omega) | (exfalso; simp only [*, Bool.not_true, Bool.not_false, reduceCtorEq] at hc28; done)))
    refine q_yes rfl rfl ?_
    refine q_pure (y_move rfl) rfl ?_
    refine q_yes rfl rfl ?_
    refine q_pure (y_move rfl) rfl ?_
    refine q_yes rfl rfl ?_
    refine q_pure (y_sub rfl rfl) rfl ?_
    refine q_yes rfl rfl ?_
    refine q_pure (y_index rfl rfl) rfl ?_
    refine q_yes rfl rfl ?_
    refine q_pure (y_field rfl) rfl ?_
    refine q_yes rfl rfl ?_
    refine q_pure (y_load_p1 rfl) rfl ?_
    refine q_yes rfl rfl ?_
    refine q_pure (y_field rfl) rfl ?_
    refine q_yes rfl rfl ?_
    refine q_pure (y_load_box rfl) rfl ?_
    refine q_yes rfl rfl ?_
    refine q_pure (y_eq rfl rfl) rfl ?_
    refine q_pure (y_pick_t rfl rfl) rfl ?_
    refine q_nil (fun ws71 hxs71 hzs71 => ?_)
    have hz_hxs71 := hxs71.size
    replace EL := EL.trans hxs71
    replace hb3 := hb3.ext hxs71
    replace h := h.ext hxs71
    replace E := E.trans hxs71
    refine x_next ?_
    (refine c_dec rfl (fun hc37 => ?_) (fun hc37 => ?_) <;> try (first | exact absurd rfl hc37 | contradiction | exact Bool.noConfusion (show false = true from hc37.symm.trans (by assumption)) | exact Bool.noConfusion (show true = false from hc37.symm.trans (by assumption)) | (exfalso; omega) | (exfalso; simp only [*, Bool.not_true, Bool.not_false, reduceCtorEq] at hc37; done)))
    refine c_seq ?_
    refine c_region ?_
    refine w_pure (y_assign rfl) rfl ?_
    refine w_pure (y_assign rfl) rfl ?_
    refine w_nil ?_
    refine x_next ?_
    refine c_ret ?_
    refine x_then_ret ?_
    rotate_left
    refine c_skip ?_
    refine x_next ?_
    refine c_seq ?_
    refine c_region ?_
    refine w_lit (α := (Int × Int)) rfl rfl rfl rfl rfl rfl rfl rfl (fun v38 w38 ho38 hx38 hl38 hh38 hs38 => ?_)
    have hl_ho38 := ho38.lt
    have hz_hx38 := hx38.size
    replace EL := EL.trans hx38
    replace hb3 := hb3.ext hx38
    replace h := h.ext hx38
    replace E := E.trans hx38
    refine w_pure (y_move rfl) rfl ?_
    refine w_pure (y_move rfl) rfl ?_
    (refine w_slice rfl (.inl ⟨rfl, rfl⟩) (.inr ⟨_, _, rfl, rfl⟩) rfl ?_; intro u41 hu41)
    refine w_append rfl rfl (hb := by simp only [List.length_append, List.length_drop, List.length_take, List.length_map, List.length_cons, List.length_nil]; omega) (hm := by simp only [List.length_append, List.length_drop, List.length_take, List.length_map, List.length_cons, List.length_nil]; omega) (k := fun v42 w42 ho42 hx42 hr42 => ?_)
    have hl_ho42 := ho42.lt
    have hz_hx42 := hx42.size
    replace EL := EL.next hx42 (by omega)
    replace hb3 := hb3.chg hx42 (by omega)
    replace h := h.chg hx42 (by omega)
    replace E := E.next hx42 (by omega)
    replace hu41 := hu41.chg hx42 (by omega)
    refine w_pure (y_assign rfl) rfl ?_
    refine w_nil ?_
    refine x_next ?_
    refine c_seq ?_
    refine c_region ?_
    refine w_pure (y_move rfl) rfl ?_
    refine w_pure (y_load_boxs rfl) rfl ?_
    refine w_lit (α := (Int × Int)) rfl rfl rfl rfl rfl rfl rfl rfl (fun v45 w45 ho45 hx45 hl45 hh45 hs45 => ?_)
    have hl_ho45 := ho45.lt
    have hz_hx45 := hx45.size
    replace ho42 := ho42.ext hx45
    replace EL := EL.trans hx45
    replace hb3 := hb3.ext hx45
    replace h := h.ext hx45
    replace E := E.trans hx45
    replace hu41 := hu41.ext hx45
    refine w_append rfl rfl (hb := by simp only [List.length_append, List.length_drop, List.length_take, List.length_map, List.length_cons, List.length_nil]; omega) (hm := by simp only [List.length_append, List.length_drop, List.length_take, List.length_map, List.length_cons, List.length_nil]; omega) (k := fun v46 w46 ho46 hx46 hr46 => ?_)
    have hl_ho46 := ho46.lt
    have hz_hx46 := hx46.size
    replace ho45 := ho45.chg hx46 (by omega)
    replace EL := EL.next hx46 (by omega)
    replace hb3 := hb3.chg hx46 (by omega)
    replace h := h.chg hx46 (by omega)
    replace E := E.next hx46 (by omega)
    replace hu41 := hu41.chg hx46 (by omega)
    refine w_pure (y_assign rfl) rfl ?_
    refine w_nil ?_
    refine x_next ?_
    refine c_seq ?_
    refine c_region ?_
    refine w_pure (y_move rfl) rfl ?_
    refine w_pure (y_move rfl) rfl ?_
    refine w_pure (y_move rfl) rfl ?_
    (refine w_slice rfl (.inr ⟨_, _, rfl, rfl⟩) (.inl ⟨rfl, rfl⟩) rfl ?_; intro u50 hu50)
    refine w_append rfl rfl (hb := by simp only [List.length_append, List.length_drop, List.length_take, List.length_map, List.length_cons, List.length_nil]; omega) (hm := by simp only [List.length_append, List.length_drop, List.length_take, List.length_map, List.length_cons, List.length_nil]; omega) (k := fun v51 w51 ho51 hx51 hr51 => ?_)
    have hl_ho51 := ho51.lt
    have hz_hx51 := hx51.size
    replace ho45 := ho45.chg hx51 (by omega)
    replace EL := EL.next hx51 (by omega)
    replace hb3 := hb3.chg hx51 (by omega)
    replace h := h.chg hx51 (by omega)
    replace E := E.next hx51 (by omega)
    replace hu41 := hu41.chg hx51 (by omega)
    replace hu50 := hu50.chg hx51 (by omega)
    refine w_pure (y_assign rfl) rfl ?_
    refine w_pure (y_assign rfl) rfl ?_
    refine w_nil ?_
    refine x_next ?_
    refine c_ret ?_
    rotate_left
    refine q_no rfl rfl rfl rfl ?_
    refine q_no rfl rfl rfl rfl ?_
    refine q_no rfl rfl rfl rfl ?_
    refine q_no rfl rfl rfl rfl ?_
    refine q_no rfl rfl rfl rfl ?_
    refine q_no rfl rfl rfl rfl ?_
    refine q_no rfl rfl rfl rfl ?_
    refine q_no rfl rfl rfl rfl ?_
    refine q_no rfl rfl rfl rfl ?_
    refine q_pure (y_pick_f rfl rfl) rfl ?_
    refine q_nil (fun ws127 hxs127 hzs127 => ?_)
    have hz_hxs127 := hxs127.size
    replace EL := EL.trans hxs127
    replace hb3 := hb3.ext hxs127
    replace h := h.ext hxs127
    replace E := E.trans hxs127
    refine x_next ?_
    refine c_false rfl ?_
    refine c_exit ?_
    refine x_then_exit ?_
    refine x_then_exit ?_
    refine x_block_hit ?_
    refine x_next ?_
    refine c_seq ?_
    refine c_seq ?_
    refine c_region_calm mixed (by decide +kernel) (by kernel_rfl) ?_
    refine q_pure (y_move rfl) rfl ?_
    refine q_pure (y_gt rfl rfl) rfl ?_
    refine q_pure (y_move rfl) rfl ?_
    (refine q_part_dec rfl rfl (fun hc28 => ?_) (fun hc28 => ?_) <;> try (first | exact absurd rfl hc28 | contradiction | exact Bool.noConfusion (show false = true from hc28.symm.trans (by assumption)) | exact Bool.noConfusion (show true = false from hc28.symm.trans (by assumption)) | (exfalso; omega) | (exfalso; simp only [*, Bool.not_true, Bool.not_false, reduceCtorEq] at hc28; done)))
    refine q_no rfl rfl rfl rfl ?_
    refine q_no rfl rfl rfl rfl ?_
    refine q_no rfl rfl rfl rfl ?_
    refine q_no rfl rfl rfl rfl ?_
    refine q_no rfl rfl rfl rfl ?_
    refine q_no rfl rfl rfl rfl ?_
    refine q_no rfl rfl rfl rfl ?_
    refine q_no rfl rfl rfl rfl ?_
    refine q_no rfl rfl rfl rfl ?_
    refine q_pure (y_pick_f rfl rfl) rfl ?_
    refine q_nil (fun ws152 hxs152 hzs152 => ?_)
    have hz_hxs152 := hxs152.size
    replace EL := EL.trans hxs152
    replace hb3 := hb3.ext hxs152
    replace h := h.ext hxs152
    replace E := E.trans hxs152
    refine x_next ?_
    refine c_false rfl ?_
    refine c_skip ?_
    refine x_next ?_
    refine c_seq ?_
    refine c_region ?_
    refine w_lit (α := (Int × Int)) rfl rfl rfl rfl rfl rfl rfl rfl (fun v38 w38 ho38 hx38 hl38 hh38 hs38 => ?_)
    have hl_ho38 := ho38.lt
    have hz_hx38 := hx38.size
    replace EL := EL.trans hx38
    replace hb3 := hb3.ext hx38
    replace h := h.ext hx38
    replace E := E.trans hx38
    refine w_pure (y_move rfl) rfl ?_
    refine w_pure (y_move rfl) rfl ?_
    (refine w_slice rfl (.inl ⟨rfl, rfl⟩) (.inr ⟨_, _, rfl, rfl⟩) rfl ?_; intro u41 hu41)
    refine w_append rfl rfl (hb := by simp only [List.length_append, List.length_drop, List.length_take, List.length_map, List.length_cons, List.length_nil]; omega) (hm := by simp only [List.length_append, List.length_drop, List.length_take, List.length_map, List.length_cons, List.length_nil]; omega) (k := fun v42 w42 ho42 hx42 hr42 => ?_)
    have hl_ho42 := ho42.lt
    have hz_hx42 := hx42.size
    replace EL := EL.next hx42 (by omega)
    replace hb3 := hb3.chg hx42 (by omega)
    replace h := h.chg hx42 (by omega)
    replace E := E.next hx42 (by omega)
    replace hu41 := hu41.chg hx42 (by omega)
    refine w_pure (y_assign rfl) rfl ?_
    refine w_nil ?_
    refine x_next ?_
    refine c_seq ?_
    refine c_region ?_
    refine w_pure (y_move rfl) rfl ?_
    refine w_pure (y_load_boxs rfl) rfl ?_
    refine w_lit (α := (Int × Int)) rfl rfl rfl rfl rfl rfl rfl rfl (fun v45 w45 ho45 hx45 hl45 hh45 hs45 => ?_)
    have hl_ho45 := ho45.lt
    have hz_hx45 := hx45.size
    replace ho42 := ho42.ext hx45
    replace EL := EL.trans hx45
    replace hb3 := hb3.ext hx45
    replace h := h.ext hx45
    replace E := E.trans hx45
    replace hu41 := hu41.ext hx45
    refine w_append rfl rfl (hb := by simp only [List.length_append, List.length_drop, List.length_take, List.length_map, List.length_cons, List.length_nil]; omega) (hm := by simp only [List.length_append, List.length_drop, List.length_take, List.length_map, List.length_cons, List.length_nil]; omega) (k := fun v46 w46 ho46 hx46 hr46 => ?_)
    have hl_ho46 := ho46.lt
    have hz_hx46 := hx46.size
    replace ho45 := ho45.chg hx46 (by omega)
    replace EL := EL.next hx46 (by omega)
    replace hb3 := hb3.chg hx46 (by omega)
    replace h := h.chg hx46 (by omega)
    replace E := E.next hx46 (by omega)
    replace hu41 := hu41.chg hx46 (by omega)
    refine w_pure (y_assign rfl) rfl ?_
    refine w_nil ?_
    refine x_next ?_
    refine c_seq ?_
    refine c_region ?_
    refine w_pure (y_move rfl) rfl ?_
    refine w_pure (y_move rfl) rfl ?_
    refine w_pure (y_move rfl) rfl ?_
    (refine w_slice rfl (.inr ⟨_, _, rfl, rfl⟩) (.inl ⟨rfl, rfl⟩) rfl ?_; intro u50 hu50)
    refine w_append rfl rfl (hb := by simp only [List.length_append, List.length_drop, List.length_take, List.length_map, List.length_cons, List.length_nil]; omega) (hm := by simp only [List.length_append, List.length_drop, List.length_take, List.length_map, List.length_cons, List.length_nil]; omega) (k := fun v51 w51 ho51 hx51 hr51 => ?_)
    have hl_ho51 := ho51.lt
    have hz_hx51 := hx51.size
    replace ho45 := ho45.chg hx51 (by omega)
    replace EL := EL.next hx51 (by omega)
    replace hb3 := hb3.chg hx51 (by omega)
    replace h := h.chg hx51 (by omega)
    replace E := E.next hx51 (by omega)
    replace hu41 := hu41.chg hx51 (by omega)
    replace hu50 := hu50.chg hx51 (by omega)
    refine w_pure (y_assign rfl) rfl ?_
    refine w_pure (y_assign rfl) rfl ?_
    refine w_nil ?_
    refine x_next ?_
    refine c_ret ?_
    rotate_left
  · exact x_again (k - 1) (by repeat (first | exact trivial | refine ⟨rfl, ?_⟩)) ⟨EL.go, ⟨by omega, by omega⟩, fun j q1 q2 => if hj : j = (k - 1).toNat then by rw [hj]; exact hc22 else hall j (by omega) q2⟩ (by omega)
  · have hf : freeT ys c = false := decide_eq_false fun g => g _ (by rw [List.getD_eq_getElem?_getD, List.getElem?_eq_getElem (show (k - 1).toNat < ys.length by omega)]; exact List.getElem_mem _) hc37
    exact x_retv [_, _] rfl ⟨rfl, rfl, trivial⟩ ⟨_, [], by rw [hf]; rfl, Own.nil _ _ _, fun q => by (rw [hf] at q; cases q), E.go⟩
  · have hA := put_all (a := a) hs hk hall (fun _ => by omega)
    exact x_retv [_, _] rfl ⟨rfl, rfl, trivial⟩ ⟨_, _, by rw [hA.1]; rfl, Own.base (by assumption) (by omega), fun _ => hA.2, E.go⟩
  · have hA := put_all (a := a) hs hk hall (fun _ => by omega)
    exact x_retv [_, _] rfl ⟨rfl, rfl, trivial⟩ ⟨_, _, by rw [hA.1]; rfl, Own.base (by assumption) (by omega), fun _ => hA.2, E.go⟩
theorem sBackCopies_c (h : SL w lo hi v ps := by repeat (first | assumption | exact Go.Gw.Own.sl (by assumption) | exact Go.Gw.Box.at (by assumption) | exact Go.Gw.SLL.el (by first | assumption | exact Go.Gw.OwnD.sll (by assumption)) _ (by omega) | exact Go.Gw.SLL.at (by first | assumption | exact Go.Gw.OwnD.sll (by assumption)) (by omega) | exact Go.Gw.OwnD.sll (by assumption) | (apply Go.Gw.SL.chg; case hx => assumption) | (apply Go.Gw.Own.chg; case hx => assumption) | (apply Go.Gw.Box.chg; case hx => assumption) | (apply Go.Gw.At.chg; case hx => assumption) | exact .inl (Nat.zero_le _) | exact .inr (Nat.zero_le _) | (show _ ∨ _; omega))) : Ret Try.prog 5 [v] w fun u w' => ∃ d, u = .tuple #[d, .int .i64 (cBck ps)] ∧ Own w' 35 w.heap.size d (resBck ps) ∧ Ext w w' := by
  have E : Since 0 0 w w := Since.refl 0 0 w
  refine ret_enter Try.func5 rfl Try.ntmps5 rfl ?_
  focus
    have ht_h := h.top
    refine c_seq ?_
    refine c_region ?_
    refine w_pure (y_assign rfl) rfl ?_
    refine w_pure (y_assign rfl) rfl ?_
    refine w_nil ?_
    refine x_next ?_
    refine c_seq ?_
    refine c_seq ?_
    refine c_region ?_
    refine w_pure (y_move rfl) rfl ?_
    refine w_val rfl rfl rfl (l10Plain_z) rfl (fun w9 hx9 hz9 => ?_)
    have hz_hx9 := hx9.size
    replace h := h.ext hx9
    replace E := E.trans hx9
    refine w_pure (y_not rfl) rfl ?_
    refine w_nil ?_
    refine x_next ?_
    (refine c_not rfl (fun hc10 => ?_) (fun hc10 => ?_) <;> try (first | exact absurd rfl hc10 | contradiction | exact Bool.noConfusion (show false = true from hc10.symm.trans (by assumption)) | exact Bool.noConfusion (show true = false from hc10.symm.trans (by assumption)) | (exfalso; omega) | (exfalso; simp only [*, Bool.not_true, Bool.not_false, reduceCtorEq] at hc10; done)))
    refine c_seq ?_
    refine c_region ?_
    refine w_pure (y_assign rfl) rfl ?_
    refine w_pure (y_assign rfl) rfl ?_
    refine w_nil ?_
    refine x_next ?_
    refine c_ret ?_
    refine x_then_ret ?_
    rotate_left
    refine c_skip ?_
    refine x_next ?_
    refine c_seq ?_
    refine c_region ?_
    refine w_lit (α := (Int × Int)) rfl rfl rfl rfl rfl rfl rfl rfl (fun v11 w11 ho11 hx11 hl11 hh11 hs11 => ?_)
    have hl_ho11 := ho11.lt
    have hz_hx11 := hx11.size
    replace h := h.ext hx11
    replace E := E.trans hx11
    refine w_pure (y_assign rfl) rfl ?_
    refine w_nil ?_
    refine x_next ?_
    refine c_seq ?_
    refine c_seq ?_
    refine c_region ?_
    refine w_pure (y_assign rfl) rfl ?_
    refine w_nil ?_
    refine x_next ?_
    refine c_block ?_
    rotate_left
  · exact x_retv [_, _] rfl ⟨rfl, rfl, trivial⟩ ⟨_, by rw [cBck_2 (by rw [← plB_eq]; exact hc10)]; rfl, by rw [resBck_no (by rw [cBck_2 (by rw [← plB_eq]; exact hc10)]; decide)]; exact Own.nil _ _ _, E.go⟩
  rw [plB_eq] at hc10
  have hpl := plainB_len hc10
  have hb := plain64 hc10
  refine c_loopC 0 0 (ι := Int × Value × List (Int × Int)) (fun x => [(0, v), (4, x.2.1), (5, .int .i64 x.1)])
    (fun x w' => (0 ≤ x.1 ∧ x.1 ≤ ps.length) ∧ Own w' 35 w.heap.size x.2.1 x.2.2 ∧ x.2.2.Perm ((ps.take x.1.toNat).map swapP) ∧ Srt x.2.2 ∧ Since 0 0 w w') (fun x => (ps.length - x.1).toNat) (0, v11, [])
    (by repeat (first | exact trivial | refine ⟨rfl, ?_⟩)) ⟨⟨by omega, by omega⟩, Own.base (by assumption) (by omega), .refl _, .nil, by assumption⟩ ?_
  clear ho11 E
  rintro ⟨i, u, zs⟩ wL hxL EL ⟨g1, g2, g3, g4, E⟩
  dsimp only at *
  have hzL := hxL.size
  have hzl := g3.length_eq
  rw [List.length_map, List.length_take] at hzl
  focus
    have hl_g2 := g2.lt
    have hz_hxL := hxL.size
    replace h := h.ext hxL
    refine c_seq ?_
    refine c_seq ?_
    refine c_region ?_
    refine w_pure (y_move rfl) rfl ?_
    refine w_pure (y_move rfl) rfl ?_
    refine w_pure (y_len rfl) rfl ?_
    refine w_pure (y_lt rfl rfl) rfl ?_
    refine w_nil ?_
    refine x_next ?_
    (refine c_dec rfl (fun hc15 => ?_) (fun hc15 => ?_) <;> try (first | exact absurd rfl hc15 | contradiction | exact Bool.noConfusion (show false = true from hc15.symm.trans (by assumption)) | exact Bool.noConfusion (show true = false from hc15.symm.trans (by assumption)) | (exfalso; omega) | (exfalso; simp only [*, Bool.not_true, Bool.not_false, reduceCtorEq] at hc15; done)))
    refine c_skip ?_
    refine x_next ?_
    refine c_seq ?_
    refine c_block ?_
    refine c_seq ?_
    refine c_region_held mixed (fun wr7 hxr7 hzr7 => ?_)
    have hz_hxr7 := hxr7.size
    replace EL := EL.trans hxr7
    replace g2 := g2.ext hxr7
    replace E := E.trans hxr7
    replace h := h.ext hxr7
    refine h_pure rfl (y_move rfl) rfl ?_
    refine h_pure rfl (y_move rfl) rfl ?_
    refine h_pure rfl (y_move rfl) rfl ?_
    refine h_pure rfl (y_index rfl rfl) rfl ?_
    refine h_pure rfl (y_field rfl) rfl ?_
    refine h_pure rfl (y_load_p1 rfl) rfl ?_
    refine h_pure rfl (y_move rfl) rfl ?_
    refine h_pure rfl (y_move rfl) rfl ?_
    refine h_pure rfl (y_index rfl rfl) rfl ?_
    refine h_pure rfl (y_field rfl) rfl ?_
    refine h_pure rfl (y_load_p0 rfl) rfl ?_
    refine h_pure rfl (y_build rfl) rfl ?_
    refine h_one rfl ?_
    (refine w_call rfl rfl rfl (l10Put_c _ _) rfl ?_; rintro _ w31 ⟨d31, ⟨zs31, ⟨rfl, ⟨hp1_31, ⟨hp2_31, hx31⟩⟩⟩⟩⟩)
    have hl_hp1_31 := hp1_31.lt
    have hz_hx31 := hx31.size
    replace EL := EL.trans hx31
    replace g2 := g2.ext hx31
    replace E := E.trans hx31
    replace h := h.ext hx31
    refine w_nil ?_
    refine x_held ?_
    refine h_pure rfl (y_move rfl) rfl ?_
    refine h_pure rfl (y_extract rfl rfl) rfl ?_
    refine h_pure rfl (y_extract rfl rfl) rfl ?_
    refine h_pure rfl (y_assign rfl) rfl ?_
    refine h_pure rfl (y_assign rfl) rfl ?_
    refine h_nil ?_
    refine x_next ?_
    refine c_seq ?_
    refine c_seq ?_
    refine c_region ?_
    refine w_pure (y_move rfl) rfl ?_
    refine w_pure (y_not_dec rfl) rfl ?_
    refine w_nil ?_
    refine x_next ?_
    (refine c_dec rfl (fun hc35 => ?_) (fun hc35 => ?_) <;> try (first | exact absurd rfl hc35 | contradiction | exact Bool.noConfusion (show false = true from hc35.symm.trans (by assumption)) | exact Bool.noConfusion (show true = false from hc35.symm.trans (by assumption)) | (exfalso; omega) | (exfalso; simp only [*, Bool.not_true, Bool.not_false, reduceCtorEq] at hc35; done)))
    refine c_seq ?_
    refine c_region ?_
    refine w_pure (y_assign rfl) rfl ?_
    refine w_pure (y_assign rfl) rfl ?_
    refine w_nil ?_
    refine x_next ?_
    refine c_ret ?_
    refine x_then_ret ?_
    refine x_block_ret ?_
    refine x_then_ret ?_
    refine x_then_ret ?_
    refine x_block_ret ?_
    refine x_then_ret ?_
    rotate_left
    refine c_skip ?_
    refine x_next ?_
    refine c_region ?_
    refine w_pure (y_move rfl) rfl ?_
    refine w_pure (y_assign rfl) rfl ?_
    refine w_nil ?_
    refine x_block_norm ?_
    refine x_next ?_
    refine c_region ?_
    refine w_pure (y_move rfl) rfl ?_
    refine w_pure (y_add rfl rfl) rfl ?_
    refine w_pure (y_assign rfl) rfl ?_
    refine w_nil ?_
    rotate_left
    refine c_exit ?_
    refine x_then_exit ?_
    refine x_then_exit ?_
    refine x_block_hit ?_
    refine x_next ?_
    refine c_seq ?_
    refine c_region ?_
    refine w_pure (y_move rfl) rfl ?_
    refine w_pure (y_assign rfl) rfl ?_
    refine w_pure (y_assign rfl) rfl ?_
    refine w_nil ?_
    refine x_next ?_
    refine c_ret ?_
    rotate_left
  · have h9 := cBck_9 hc10 (dup_no (i := i.toNat) (by omega) g3 hc35)
    exact x_retv [_, _] rfl ⟨rfl, rfl, trivial⟩ ⟨_, by rw [h9]; rfl, by rw [resBck_no (by rw [h9]; decide)]; exact Own.nil _ _ _, E.go⟩
  · have hf := hp2_31 (decide_eq_true (Decidable.not_not.1 hc35))
    exact x_again (i + 1, d31, zs31) (by repeat (first | exact trivial | refine ⟨rfl, ?_⟩)) ⟨EL.go, ⟨by dsimp only; omega, by dsimp only; omega⟩, Own.base (by assumption) (by omega), by dsimp only; rw [swap_snoc g1.1 hc15]; exact hf.1.trans (g3.append_right _), hf.2, by assumption⟩ (by dsimp only; omega)
  · have e1 : ps.take i.toNat = ps := List.take_of_length_le (by omega)
    rw [e1] at g3
    have h0 := bck_of hc10 g3 g4
    exact x_retv [_, _] rfl ⟨rfl, rfl, trivial⟩ ⟨_, by rw [h0.1]; rfl, by rw [h0.2]; exact Own.base (by assumption) (by omega), E.go⟩
theorem iBackCopies_c (h : SL w lo hi v ps := by repeat (first | assumption | exact Go.Gw.Own.sl (by assumption) | exact Go.Gw.Box.at (by assumption) | exact Go.Gw.SLL.el (by first | assumption | exact Go.Gw.OwnD.sll (by assumption)) _ (by omega) | exact Go.Gw.SLL.at (by first | assumption | exact Go.Gw.OwnD.sll (by assumption)) (by omega) | exact Go.Gw.OwnD.sll (by assumption) | (apply Go.Gw.SL.chg; case hx => assumption) | (apply Go.Gw.Own.chg; case hx => assumption) | (apply Go.Gw.Box.chg; case hx => assumption) | (apply Go.Gw.At.chg; case hx => assumption) | exact .inl (Nat.zero_le _) | exact .inr (Nat.zero_le _) | (show _ ∨ _; omega))) : Ret Try.prog 7 [v] w fun u w' => ∃ d, u = .tuple #[d, .int .i64 (cBck ps)] ∧ Own w' 35 w.heap.size d (resBck ps) ∧ Ext w w' := by
  have E : Since 0 0 w w := Since.refl 0 0 w
  refine ret_enter Try.func7 rfl Try.ntmps7 rfl ?_
  focus
    have ht_h := h.top
    refine c_seq ?_
    refine c_region ?_
    refine w_pure (y_assign rfl) rfl ?_
    refine w_pure (y_assign rfl) rfl ?_
    refine w_nil ?_
    refine x_next ?_
    refine c_seq ?_
    refine c_seq ?_
    refine c_region ?_
    refine w_pure (y_move rfl) rfl ?_
    refine w_val rfl rfl rfl (isPlain_z) rfl (fun w8 hx8 hz8 => ?_)
    have hz_hx8 := hx8.size
    replace h := h.ext hx8
    replace E := E.trans hx8
    refine w_pure (y_not rfl) rfl ?_
    refine w_nil ?_
    refine x_next ?_
    (refine c_not rfl (fun hc9 => ?_) (fun hc9 => ?_) <;> try (first | exact absurd rfl hc9 | contradiction | exact Bool.noConfusion (show false = true from hc9.symm.trans (by assumption)) | exact Bool.noConfusion (show true = false from hc9.symm.trans (by assumption)) | (exfalso; omega) | (exfalso; simp only [*, Bool.not_true, Bool.not_false, reduceCtorEq] at hc9; done)))
    refine c_seq ?_
    refine c_region ?_
    refine w_pure (y_assign rfl) rfl ?_
    refine w_pure (y_assign rfl) rfl ?_
    refine w_nil ?_
    refine x_next ?_
    refine c_ret ?_
    refine x_then_ret ?_
    rotate_left
    refine c_skip ?_
    refine x_next ?_
    refine c_seq ?_
    refine c_region ?_
    refine w_lit (α := (Int × Int)) rfl rfl rfl rfl rfl rfl rfl rfl (fun v10 w10 ho10 hx10 hl10 hh10 hs10 => ?_)
    have hl_ho10 := ho10.lt
    have hz_hx10 := hx10.size
    replace h := h.ext hx10
    replace E := E.trans hx10
    refine w_pure (y_assign rfl) rfl ?_
    refine w_nil ?_
    refine x_next ?_
    refine c_seq ?_
    refine c_seq ?_
    refine c_region ?_
    refine w_pure (y_move rfl) rfl ?_
    refine w_pure (y_len rfl) rfl ?_
    refine w_pure (y_move rfl) rfl ?_
    refine w_nil ?_
    refine x_next ?_
    refine c_block ?_
    rotate_left
  · exact x_retv [_, _] rfl ⟨rfl, rfl, trivial⟩ ⟨_, by rw [cBck_2 (by rw [← plB_eq]; exact hc9)]; rfl, by rw [resBck_no (by rw [cBck_2 (by rw [← plB_eq]; exact hc9)]; decide)]; exact Own.nil _ _ _, E.go⟩
  rw [plB_eq] at hc9
  have hpl := plainB_len hc9
  have hb := plain64 hc9
  skip
  refine c_loopC (bL v10) (bH v10) (ι := Int × Value) (fun x => [(4, x.2), (11, v), (12, .int .i64 ps.length), (13, .int .i64 x.1)])
    (fun x w' => (0 ≤ x.1 ∧ x.1 ≤ ps.length) ∧ Own w' 35 w.heap.size x.2 ((ps.take x.1.toNat).map swapP) ∧ ((bL x.2 = bL v10 ∧ bH x.2 = bH v10) ∨ w10.heap.size ≤ bL x.2) ∧ Since 0 0 w w') (fun x => (ps.length - x.1).toNat) (0, v10)
    (by repeat (first | exact trivial | refine ⟨rfl, ?_⟩)) ⟨⟨by omega, by omega⟩, Own.base (by assumption) (by omega), .inl ⟨rfl, rfl⟩, by assumption⟩ ?_
  clear ho10 E
  rintro ⟨i, u⟩ wL hxL EL ⟨g1, g2, g3, E⟩
  dsimp only at *
  have hzL := hxL.size
  by_cases hlt : i < ps.length
  · focus
      have hl_g2 := g2.lt
      have hz_hxL := hxL.size
      replace h := h.chg hxL (by omega)
      refine c_seq ?_
      refine c_region ?_
      refine w_pure (y_lt rfl rfl) rfl ?_
      refine w_nil ?_
      refine x_next ?_
      refine c_seq ?_
      (refine c_dec rfl (fun hc14 => ?_) (fun hc14 => ?_) <;> try (first | exact absurd rfl hc14 | contradiction | exact Bool.noConfusion (show false = true from hc14.symm.trans (by assumption)) | exact Bool.noConfusion (show true = false from hc14.symm.trans (by assumption)) | (exfalso; omega) | (exfalso; simp only [*, Bool.not_true, Bool.not_false, reduceCtorEq] at hc14; done)))
      refine c_skip ?_
      refine x_next ?_
      refine c_seq ?_
      refine c_block ?_
      refine c_seq ?_
      refine c_region ?_
      refine w_pure (y_index rfl rfl) rfl ?_
      refine w_pure (y_load_pair rfl) rfl ?_
      refine w_alloc (k := fun b6 w6 hb6 hx6 hl6 hs6 => ?_)
      have hz_hx6 := hx6.size
      replace EL := EL.next hx6 (by omega)
      replace g2 := g2.ext hx6
      replace E := E.trans hx6
      replace h := h.ext hx6
      refine w_store_boxs rfl rfl (next := fun ws17 hbs17 hxs17 hss17 => ?_)
      (replace hb6 := hbs17; clear hbs17)
      have hz_hxs17 := hxs17.size
      replace EL := EL.next hxs17 (by omega)
      replace g2 := g2.chg hxs17 (by omega)
      replace E := E.next hxs17 (by omega)
      replace h := h.chg hxs17 (by omega)
      refine w_nil ?_
      refine x_next ?_
      refine c_region ?_
      refine w_pure (y_move rfl) rfl ?_
      refine w_pure (y_field rfl) rfl ?_
      refine w_pure (y_load_box rfl) rfl ?_
      refine w_pure (y_field rfl) rfl ?_
      refine w_pure (y_load_box rfl) rfl ?_
      refine w_pure (y_build rfl) rfl ?_
      refine w_lit (α := (Int × Int)) rfl rfl rfl rfl rfl rfl rfl rfl (fun v23 w23 ho23 hx23 hl23 hh23 hs23 => ?_)
      have hl_ho23 := ho23.lt
      have hz_hx23 := hx23.size
      replace hb6 := hb6.ext hx23
      replace EL := EL.next hx23 (by omega)
      replace g2 := g2.ext hx23
      replace E := E.trans hx23
      replace h := h.ext hx23
      refine w_append rfl rfl (hb := by simp only [List.length_append, List.length_drop, List.length_take, List.length_map, List.length_cons, List.length_nil]; omega) (hm := by simp only [List.length_append, List.length_drop, List.length_take, List.length_map, List.length_cons, List.length_nil]; omega) (k := fun v24 w24 ho24 hx24 hr24 => ?_)
      have hl_ho24 := ho24.lt
      have hz_hx24 := hx24.size
      replace ho23 := ho23.chg hx24 (by omega)
      replace hb6 := hb6.chg hx24 (by omega)
      replace EL := EL.next hx24 (by omega)
      replace E := E.next hx24 (by omega)
      replace h := h.chg hx24 (by omega)
      refine w_pure (y_assign rfl) rfl ?_
      refine w_nil ?_
      refine x_block_norm ?_
      refine x_next ?_
      refine c_region ?_
      refine w_pure (y_add rfl rfl) rfl ?_
      refine w_pure (y_move rfl) rfl ?_
      refine w_nil ?_
      rotate_left
    exact x_again (i + 1, v24) (by repeat (first | exact trivial | refine ⟨rfl, ?_⟩)) ⟨EL.go, ⟨by dsimp only; omega, by dsimp only; omega⟩, by dsimp only; rw [swap_snoc g1.1 hlt]; assumption, by dsimp only; omega, by assumption⟩ (by dsimp only; omega)
  · have e1 : ps.take i.toNat = ps := List.take_of_length_le (by omega)
    rw [e1] at g2
    have hq : ∀ p ∈ ps.map swapP, 0 ≤ p.2 ∧ p.2 ≤ 19 := fun p hp => (swap_rng hc9 (.refl _) p hp).2
    have hql : (ps.map swapP).length ≤ 20 := by rw [List.length_map]; exact hpl
    focus
      have hl_g2 := g2.lt
      have hz_hxL := hxL.size
      replace h := h.chg hxL (by omega)
      refine c_seq ?_
      refine c_region ?_
      refine w_pure (y_lt rfl rfl) rfl ?_
      refine w_nil ?_
      refine x_next ?_
      refine c_seq ?_
      (refine c_dec rfl (fun hc14 => ?_) (fun hc14 => ?_) <;> try (first | exact absurd rfl hc14 | contradiction | exact Bool.noConfusion (show false = true from hc14.symm.trans (by assumption)) | exact Bool.noConfusion (show true = false from hc14.symm.trans (by assumption)) | (exfalso; omega) | (exfalso; simp only [*, Bool.not_true, Bool.not_false, reduceCtorEq] at hc14; done)))
      refine c_exit ?_
      refine x_then_exit ?_
      refine x_then_exit ?_
      refine x_block_hit ?_
      refine x_next ?_
      refine c_seq ?_
      refine c_region ?_
      refine w_pure (y_move rfl) rfl ?_
      (refine w_call rfl rfl rfl (SortFunc_c (by omega) (by omega)) rfl ?_; rintro _ w27 ⟨rfl, ⟨qs27, ⟨hp1_27, ⟨hp2_27, ⟨hp3_27, hx27⟩⟩⟩⟩⟩)
      have hl_hp3_27 := hp3_27.lt
      have hz_hx27 := hx27.size
      replace EL := EL.next hx27 (by omega)
      replace E := E.next hx27 (by omega)
      replace h := h.chg hx27 (by omega)
      refine w_nil ?_
      refine x_next ?_
      refine c_seq ?_
      refine c_seq ?_
      refine c_region ?_
      refine w_pure (y_move rfl) rfl ?_
      refine w_val rfl rfl rfl (isPlain_z) rfl (fun w29 hx29 hz29 => ?_)
      have hz_hx29 := hx29.size
      replace hp3_27 := hp3_27.ext hx29
      replace EL := EL.next hx29 (by omega)
      replace E := E.trans hx29
      replace h := h.ext hx29
      refine w_pure (y_not rfl) rfl ?_
      refine w_nil ?_
      refine x_next ?_
      (refine c_not rfl (fun hc30 => ?_) (fun hc30 => ?_) <;> try (first | exact absurd rfl hc30 | contradiction | exact Bool.noConfusion (show false = true from hc30.symm.trans (by assumption)) | exact Bool.noConfusion (show true = false from hc30.symm.trans (by assumption)) | (exfalso; omega) | (exfalso; simp only [*, Bool.not_true, Bool.not_false, reduceCtorEq] at hc30; done)))
      refine c_seq ?_
      refine c_region ?_
      refine w_pure (y_assign rfl) rfl ?_
      refine w_pure (y_assign rfl) rfl ?_
      refine w_nil ?_
      refine x_next ?_
      refine c_ret ?_
      refine x_then_ret ?_
      rotate_left
      refine c_skip ?_
      refine x_next ?_
      refine c_seq ?_
      refine c_region ?_
      refine w_pure (y_move rfl) rfl ?_
      refine w_pure (y_assign rfl) rfl ?_
      refine w_pure (y_assign rfl) rfl ?_
      refine w_nil ?_
      refine x_next ?_
      refine c_ret ?_
      rotate_left
    · have h9 := (bck_sorted hc9 hp1_27 hp2_27).2 (by rw [← plB_eq]; exact hc30)
      exact x_retv [_, _] rfl ⟨rfl, rfl, trivial⟩ ⟨_, by rw [h9]; rfl, by rw [resBck_no (by rw [h9]; decide)]; exact Own.nil _ _ _, E.go⟩
    · have h0 := (bck_sorted hc9 hp1_27 hp2_27).1 (by rw [← plB_eq]; exact hc30)
      exact x_retv [_, _] rfl ⟨rfl, rfl, trivial⟩ ⟨_, by rw [h0.1]; rfl, by rw [h0.2]; exact Own.base (by assumption) (by omega), E.go⟩
end
end Go.Proofs.Ytihnhelkfiaimaa

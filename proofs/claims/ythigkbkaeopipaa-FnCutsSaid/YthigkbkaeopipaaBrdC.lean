/- Contracts: the nets of a board, as the program and as the reference have them. -/
import Derived.Test.YthigkbkaeopipaaBrdB
namespace Go.Proofs.Ythigkbkaeopipaa
open Go Go.Gw
set_option linter.unusedVariables false
set_option linter.unusedSimpArgs false
def upto (h : Nat) : List Int := List.map (fun (k : Nat) => (k : Int)) (List.range h)
theorem upto_len (h : Nat) : (upto h).length = h := by simp [upto]
theorem upto_succ (h : Nat) : upto (h + 1) = upto h ++ [(h : Int)] := by simp [upto, List.range_succ]
/-- the same without some wires -/
def rootsW (h : Nat) (ws : List (Int × Int)) (wo : List Int) : Nat → List Int
  | 0 => upto h
  | i + 1 => if (i : Int) ∈ wo then rootsW h ws wo i else joinM (rootsW h ws wo i) ((rootsW h ws wo i).getD (ws.getD i (0, 0)).1.toNat 0) ((rootsW h ws wo i).getD (ws.getD i (0, 0)).2.toNat 0)
theorem rootsW_len (h : Nat) (ws : List (Int × Int)) (wo : List Int) : ∀ i, (rootsW h ws wo i).length = h
  | 0 => by simp [rootsW, upto_len]
  | i + 1 => by rw [rootsW]; split; exact rootsW_len h ws wo i; rw [joinM_len, rootsW_len h ws wo i]
theorem rootsW_nil (h : Nat) (ws : List (Int × Int)) : ∀ i, rootsW h ws [] i = rootsF h ws i
  | 0 => rfl
  | i + 1 => by rw [rootsW, if_neg (by simp), rootsW_nil h ws i, rootsF]
section
variable {w : World} {v v' v2 : Value} {xs ys wo : List Int} {ws : List (Int × Int)} {lo hi lo' hi' b b' : Nat} {e n j e' n' j' : Int}
theorem firstHubs_c (h : SL w lo hi v ws := by repeat (first | assumption | exact Go.Gw.Own.sl (by assumption) | exact Go.Gw.Box.at (by assumption) | exact Go.Gw.SLL.el (by first | assumption | exact Go.Gw.OwnD.sll (by assumption)) _ (by omega) | exact Go.Gw.SLL.at (by first | assumption | exact Go.Gw.OwnD.sll (by assumption)) (by omega) | exact Go.Gw.OwnD.sll (by assumption) | (apply Go.Gw.SL.chg; case hx => assumption) | (apply Go.Gw.Own.chg; case hx => assumption) | (apply Go.Gw.Box.chg; case hx => assumption) | (apply Go.Gw.At.chg; case hx => assumption) | exact .inl (Nat.zero_le _) | exact .inr (Nat.zero_le _) | (show _ ∨ _; omega))) (hh : 0 ≤ e + n + j ∧ e + n + j ≤ 30 ∧ 0 ≤ e + n ∧ e + n ≤ 1000 := by omega) (hw : ∀ i, i < ws.length → 0 ≤ (ws.getD i (0, 0)).1 ∧ (ws.getD i (0, 0)).1 < (ws.getD i (0, 0)).2 ∧ (ws.getD i (0, 0)).2 < e + n + j := by assumption) : Ret Try.prog 99 [.agg #[.int .i64 e, .int .i64 n, .int .i64 j, v2], v] w fun u w' => Own w' 2 w.heap.size u (rootsF (e + n + j).toNat ws ws.length) ∧ Ext w w' := by
  have E : Since 0 0 w w := Since.refl 0 0 w
  have hsm := h.small
  refine ret_enter Try.func99 rfl Try.ntmps99 rfl ?_
  focus
    have ht_h := h.top
    refine c_seq ?_
    refine c_region ?_
    refine w_box rfl (k := fun b2x1_3 w2x1_3 hb2x1_3 hx2x1_3 hl2x1_3 hs2x1_3 => ?_)
    have hz_hx2x1_3 := hx2x1_3.size
    replace h := h.ext hx2x1_3
    replace E := E.trans hx2x1_3
    refine w_pure (y_assign rfl) rfl ?_
    refine w_nil ?_
    refine x_next ?_
    refine c_seq ?_
    refine c_region ?_
    refine w_lit (α := Int) rfl rfl rfl rfl rfl rfl rfl rfl (fun v12 w12 ho12 hx12 hl12 hh12 hs12 => ?_)
    have hl_ho12 := ho12.lt
    have hz_hx12 := hx12.size
    replace hb2x1_3 := hb2x1_3.ext hx12
    replace h := h.ext hx12
    replace E := E.trans hx12
    refine w_pure (y_assign rfl) rfl ?_
    refine w_nil ?_
    refine x_next ?_
    refine c_seq ?_
    refine c_seq ?_
    refine c_region ?_
    refine w_pure (y_load_boxs rfl) rfl ?_
    refine w_val rfl rfl rfl (hubs_c) rfl (fun w14 hx14 hz14 => ?_)
    have hz_hx14 := hx14.size
    replace ho12 := ho12.ext hx14
    replace hb2x1_3 := hb2x1_3.ext hx14
    replace h := h.ext hx14
    replace E := E.trans hx14
    refine w_pure (y_move rfl) rfl ?_
    refine w_nil ?_
    refine x_next ?_
    refine c_block ?_
    rotate_left
  refine c_loopC (bL v12) (bH v12) (ι := Nat × Value) (fun x => [(1, v), (5, x.2), (14, .int .i64 (e + n + j)), (15, .int .i64 x.1)]) (fun x w' => Own w' 2 (bL v12) x.2 (upto x.1) ∧ (x.1 : Int) ≤ e + n + j ∧ ((bL x.2 = bL v12 ∧ bH x.2 = bH v12) ∨ w14.heap.size ≤ bL x.2)) (fun x => (e + n + j).toNat - x.1) (0, v12) (by repeat (first | exact trivial | refine ⟨rfl, ?_⟩)) ⟨ho12.rebase (.inr (Nat.le_refl _)), by simp; omega, .inl ⟨rfl, rfl⟩⟩ ?_
  rintro ⟨i, u⟩ wL hxL EL ⟨ho, hi, hbl⟩
  dsimp only at *
  clear ho12
  have q1 := upto_len i
  focus
    have hl_ho := ho.lt
    have hz_hxL := hxL.size
    replace hb2x1_3 := hb2x1_3.chg hxL (by omega)
    replace h := h.chg hxL (by omega)
    replace E := E.next hxL (by omega)
    refine c_seq ?_
    refine c_region ?_
    refine w_pure (y_lt rfl rfl) rfl ?_
    refine w_nil ?_
    refine x_next ?_
    refine c_seq ?_
    (refine c_dec rfl (fun hc16 => ?_) (fun hc16 => ?_) <;> try (first | exact absurd rfl hc16 | contradiction | exact Bool.noConfusion (show false = true from hc16.symm.trans (by assumption)) | exact Bool.noConfusion (show true = false from hc16.symm.trans (by assumption)) | (exfalso; omega) | (exfalso; simp only [*, Bool.not_true, Bool.not_false, reduceCtorEq] at hc16; done)))
    refine c_skip ?_
    refine x_next ?_
    refine c_seq ?_
    refine c_block ?_
    refine c_seq ?_
    refine c_region ?_
    refine w_pure (y_move rfl) rfl ?_
    refine w_pure (y_assign rfl) rfl ?_
    refine w_nil ?_
    refine x_next ?_
    refine c_region ?_
    refine w_pure (y_move rfl) rfl ?_
    refine w_pure (y_move rfl) rfl ?_
    refine w_lit (α := Int) rfl rfl rfl rfl rfl rfl rfl rfl (fun v20 w20 ho20 hx20 hl20 hh20 hs20 => ?_)
    have hl_ho20 := ho20.lt
    have hz_hx20 := hx20.size
    replace EL := EL.next hx20 (by omega)
    replace ho := ho.ext hx20
    replace hb2x1_3 := hb2x1_3.ext hx20
    replace h := h.ext hx20
    replace E := E.trans hx20
    refine w_append rfl rfl (k := fun v21 w21 ho21 hx21 hr21 => ?_)
    have hl_ho21 := ho21.lt
    have hz_hx21 := hx21.size
    replace ho20 := ho20.chg hx21 (by omega)
    replace EL := EL.next hx21 (by omega)
    replace hb2x1_3 := hb2x1_3.chg hx21 (by omega)
    replace h := h.chg hx21 (by omega)
    replace E := E.next hx21 (by omega)
    refine w_pure (y_assign rfl) rfl ?_
    refine w_nil ?_
    refine x_block_norm ?_
    refine x_next ?_
    refine c_region ?_
    refine w_pure (y_add rfl rfl) rfl ?_
    refine w_pure (y_move rfl) rfl ?_
    refine w_nil ?_
    rotate_left
    refine c_exit ?_
    refine x_then_exit ?_
    refine x_then_exit ?_
    refine x_block_hit ?_
    refine x_next ?_
    refine c_seq ?_
    refine c_seq ?_
    refine c_region ?_
    refine w_pure (y_move rfl) rfl ?_
    refine w_pure (y_len rfl) rfl ?_
    refine w_pure (y_move rfl) rfl ?_
    refine w_nil ?_
    refine x_next ?_
    refine c_block ?_
    rotate_left
  · refine x_again (i + 1, v21) (by repeat (first | exact trivial | refine ⟨rfl, ?_⟩)) ⟨EL.go, ?_, by dsimp only; omega, by dsimp only; omega⟩ (by dsimp only; omega)
    dsimp only
    rw [upto_succ]
    assumption
  · have q2 : (e + n + j).toNat = i := by omega
    refine c_loopC (bL u) (bH u) (ι := Nat) (fun x => [(5, u), (23, v), (24, .int .i64 ws.length), (25, .int .i64 x)]) (fun x w' => Own w' 2 w.heap.size u (rootsF i ws x) ∧ x ≤ ws.length) (fun x => ws.length - x) 0 (by repeat (first | exact trivial | refine ⟨rfl, ?_⟩)) ⟨ho.base (by omega), by omega⟩ ?_
    rintro m wM hxM EM ⟨hom, hm⟩
    clear ho hxL
    have q3 := rootsF_len i ws m
    by_cases hlt : m < ws.length
    · have q4 := hw m hlt
      have q5 : (ws.getD (m : Int).toNat (0, 0)) = ws.getD m (0, 0) := rfl
      focus
        have hl_hom := hom.lt
        have hz_hxM := hxM.size
        replace EL := EL.next hxM (by omega)
        replace hb2x1_3 := hb2x1_3.chg hxM (by omega)
        replace h := h.chg hxM (by omega)
        replace E := E.next hxM (by omega)
        refine c_seq ?_
        refine c_region ?_
        refine w_pure (y_lt rfl rfl) rfl ?_
        refine w_nil ?_
        refine x_next ?_
        refine c_seq ?_
        (refine c_dec rfl (fun hc26 => ?_) (fun hc26 => ?_) <;> try (first | exact absurd rfl hc26 | contradiction | exact Bool.noConfusion (show false = true from hc26.symm.trans (by assumption)) | exact Bool.noConfusion (show true = false from hc26.symm.trans (by assumption)) | (exfalso; omega) | (exfalso; simp only [*, Bool.not_true, Bool.not_false, reduceCtorEq] at hc26; done)))
        refine c_skip ?_
        refine x_next ?_
        refine c_seq ?_
        refine c_block ?_
        refine c_seq ?_
        refine c_region ?_
        refine w_pure (y_index rfl rfl) rfl ?_
        refine w_pure (y_load_paire rfl (show ws.getD (m : Int).toNat (0, 0) = ((ws.getD m (0, 0)).1, (ws.getD m (0, 0)).2) from rfl)) rfl ?_
        refine w_alloc (k := fun b8 w8 hb8 hx8 hl8 hs8 => ?_)
        have hz_hx8 := hx8.size
        replace EM := EM.next hx8 (by omega)
        replace hom := hom.ext hx8
        replace EL := EL.next hx8 (by omega)
        replace hb2x1_3 := hb2x1_3.ext hx8
        replace h := h.ext hx8
        replace E := E.trans hx8
        refine w_store_boxs rfl rfl (next := fun ws17 hbs17 hxs17 hss17 => ?_)
        (replace hb8 := hbs17; clear hbs17)
        have hz_hxs17 := hxs17.size
        replace EM := EM.next hxs17 (by omega)
        replace hom := hom.chg hxs17 (by omega)
        replace EL := EL.next hxs17 (by omega)
        replace hb2x1_3 := hb2x1_3.chg hxs17 (by omega)
        replace h := h.chg hxs17 (by omega)
        replace E := E.next hxs17 (by omega)
        refine w_nil ?_
        refine x_next ?_
        refine c_seq ?_
        refine c_region_calm mixed (by decide +kernel) (by kernel_rfl) ?_
        refine q_pure (y_move rfl) rfl ?_
        refine q_pure (y_field rfl) rfl ?_
        refine q_pure (y_load_box rfl) rfl ?_
        refine q_pure (y_index rfl rfl) rfl ?_
        refine q_pure (y_load_int rfl) rfl ?_
        refine q_pure (y_move rfl) rfl ?_
        refine q_pure (y_field rfl) rfl ?_
        refine q_pure (y_load_box rfl) rfl ?_
        refine q_pure (y_index rfl rfl) rfl ?_
        refine q_pure (y_load_int rfl) rfl ?_
        refine q_pure (y_min rfl rfl) rfl ?_
        refine q_pure (y_move rfl) rfl ?_
        refine q_pure (y_field rfl) rfl ?_
        refine q_pure (y_load_box rfl) rfl ?_
        refine q_pure (y_index rfl rfl) rfl ?_
        refine q_pure (y_load_int rfl) rfl ?_
        refine q_pure (y_move rfl) rfl ?_
        refine q_pure (y_field rfl) rfl ?_
        refine q_pure (y_load_box rfl) rfl ?_
        refine q_pure (y_index rfl rfl) rfl ?_
        refine q_pure (y_load_int rfl) rfl ?_
        refine q_pure (y_max rfl rfl) rfl ?_
        refine q_pure (y_assign rfl) rfl ?_
        refine q_pure (y_assign rfl) rfl ?_
        refine q_nil (fun ws46 hxs46 hzs46 => ?_)
        have hz_hxs46 := hxs46.size
        replace hb8 := hb8.ext hxs46
        replace EM := EM.next hxs46 (by omega)
        replace hom := hom.ext hxs46
        replace EL := EL.next hxs46 (by omega)
        replace hb2x1_3 := hb2x1_3.ext hxs46
        replace h := h.ext hxs46
        replace E := E.trans hxs46
        refine x_next ?_
        refine c_seq ?_
        refine c_region ?_
        refine w_pure (y_move rfl) rfl ?_
        refine w_pure (y_len rfl) rfl ?_
        refine w_pure (y_move rfl) rfl ?_
        refine w_nil ?_
        refine x_next ?_
        refine c_block ?_
        rotate_left
      refine c_loopC (bL u) (bH u) (ι := Nat) (fun x => [(5, u), (9, .int .i64 (min ((rootsF i ws m).getD (ws.getD m (0, 0)).1.toNat 0) ((rootsF i ws m).getD (ws.getD m (0, 0)).2.toNat 0))), (10, .int .i64 (max ((rootsF i ws m).getD (ws.getD m (0, 0)).1.toNat 0) ((rootsF i ws m).getD (ws.getD m (0, 0)).2.toNat 0))), (23, v), (24, .int .i64 ws.length), (25, .int .i64 m), (52, .int .i64 (rootsF i ws m).length), (53, .int .i64 x)])
        (fun x w' => Own w' 2 w.heap.size u ((rootsF i ws (m + 1)).take x ++ (rootsF i ws m).drop x) ∧ x ≤ (rootsF i ws m).length) (fun x => (rootsF i ws m).length - x) 0 (by repeat (first | exact trivial | refine ⟨rfl, ?_⟩)) ⟨by simpa using hom, by omega⟩ ?_
      rintro k wK hxK EK ⟨hok, hk⟩
      clear hom hxM
      have q6 := rootsF_len i ws (m + 1)
      have q7 : (rootsF i ws (m + 1)).length = (rootsF i ws m).length := by omega
      have hlen : ((rootsF i ws (m + 1)).take k ++ (rootsF i ws m).drop k).length = (rootsF i ws m).length := by simp; omega
      have hg : ((rootsF i ws (m + 1)).take k ++ (rootsF i ws m).drop k).getD (k : Int).toNat 0 = (rootsF i ws m).getD k 0 := mid_getD q7 hk
      have hj := joinM_getD (rootsF i ws m) ((rootsF i ws m).getD (ws.getD m (0, 0)).1.toNat 0) ((rootsF i ws m).getD (ws.getD m (0, 0)).2.toNat 0) k
      focus
        have hl_hok := hok.lt
        have hz_hxK := hxK.size
        replace hb8 := hb8.chg hxK (by omega)
        replace EM := EM.trans hxK
        replace EL := EL.next hxK (by omega)
        replace hb2x1_3 := hb2x1_3.chg hxK (by omega)
        replace h := h.chg hxK (by omega)
        replace E := E.next hxK (by omega)
        refine c_seq ?_
        refine c_region ?_
        refine w_pure (y_lt rfl rfl) rfl ?_
        refine w_nil ?_
        refine x_next ?_
        refine c_seq ?_
        (refine c_dec rfl (fun hc54 => ?_) (fun hc54 => ?_) <;> try (first | exact absurd rfl hc54 | contradiction | exact Bool.noConfusion (show false = true from hc54.symm.trans (by assumption)) | exact Bool.noConfusion (show true = false from hc54.symm.trans (by assumption)) | (exfalso; omega) | (exfalso; simp only [*, Bool.not_true, Bool.not_false, reduceCtorEq] at hc54; done)))
        refine c_skip ?_
        refine x_next ?_
        refine c_seq ?_
        refine c_block ?_
        refine c_seq ?_
        refine c_region ?_
        refine w_pure (y_move rfl) rfl ?_
        refine w_pure (y_assign rfl) rfl ?_
        refine w_nil ?_
        refine x_next ?_
        refine c_seq ?_
        refine c_region ?_
        refine w_pure (y_move rfl) rfl ?_
        refine w_pure (y_move rfl) rfl ?_
        refine w_pure (y_index rfl rfl) rfl ?_
        refine w_pure (y_load_inte rfl hg) rfl ?_
        refine w_pure (y_move rfl) rfl ?_
        refine w_pure (y_eq rfl rfl) rfl ?_
        refine w_nil ?_
        refine x_next ?_
        (refine c_dec rfl (fun hc61 => ?_) (fun hc61 => ?_) <;> try (first | exact absurd rfl hc61 | contradiction | exact Bool.noConfusion (show false = true from hc61.symm.trans (by assumption)) | exact Bool.noConfusion (show true = false from hc61.symm.trans (by assumption)) | (exfalso; omega) | (exfalso; simp only [*, Bool.not_true, Bool.not_false, reduceCtorEq] at hc61; done)))
        refine c_region ?_
        refine w_pure (y_move rfl) rfl ?_
        refine w_pure (y_move rfl) rfl ?_
        refine w_pure (y_move rfl) rfl ?_
        refine w_pure (y_index rfl rfl) rfl ?_
        refine w_store_own rfl rfl (next := fun ws34 hos34 hxs34 hss34 => ?_)
        (replace hok := hos34; clear hos34)
        have hz_hxs34 := hxs34.size
        replace EK := EK.trans hxs34
        replace hb8 := hb8.chg hxs34 (by omega)
        replace EM := EM.trans hxs34
        replace EL := EL.next hxs34 (by omega)
        replace hb2x1_3 := hb2x1_3.chg hxs34 (by omega)
        replace h := h.chg hxs34 (by omega)
        replace E := E.next hxs34 (by omega)
        refine w_nil ?_
        refine x_block_norm ?_
        refine x_next ?_
        refine c_region ?_
        refine w_pure (y_add rfl rfl) rfl ?_
        refine w_pure (y_move rfl) rfl ?_
        refine w_nil ?_
        rotate_left
        refine c_skip ?_
        refine x_block_norm ?_
        refine x_next ?_
        refine c_region ?_
        refine w_pure (y_add rfl rfl) rfl ?_
        refine w_pure (y_move rfl) rfl ?_
        refine w_nil ?_
        rotate_left
        refine c_exit ?_
        refine x_then_exit ?_
        refine x_then_exit ?_
        refine x_block_hit ?_
        refine x_block_norm ?_
        refine x_next ?_
        refine c_region ?_
        refine w_pure (y_add rfl rfl) rfl ?_
        refine w_pure (y_move rfl) rfl ?_
        refine w_nil ?_
        rotate_left
      · refine x_again (k + 1) (by repeat (first | exact trivial | refine ⟨rfl, ?_⟩)) ⟨EK.go, ?_, by omega⟩ (by omega)
        have hj := hj (by omega)
        rw [if_pos hc61] at hj
        have hk2 : (rootsF i ws (m + 1))[k]? = some ((rootsF i ws (m + 1)).getD k 0) := by rw [List.getD_eq_getElem?_getD, List.getElem?_eq_getElem (show k < _ by omega)]; rfl
        change (rootsF i ws (m + 1)).getD k 0 = _ at hj
        rw [hj] at hk2
        rw [← upd_step q7 (by omega) hk2]
        exact hok
      · refine x_again (k + 1) (by repeat (first | exact trivial | refine ⟨rfl, ?_⟩)) ⟨EK.go, ?_, by omega⟩ (by omega)
        have hj := hj (by omega)
        rw [if_neg hc61] at hj
        rw [← keep_step q7 (by omega) hj]
        exact hok
      · refine x_again (m + 1) (by repeat (first | exact trivial | refine ⟨rfl, ?_⟩)) ⟨EM.go, ?_, by omega⟩ (by omega)
        have : (rootsF i ws (m + 1)).take k ++ (rootsF i ws m).drop k = rootsF i ws (m + 1) := by rw [List.take_of_length_le (by omega), List.drop_eq_nil_of_le (by omega), List.append_nil]
        rw [this] at hok
        exact hok
    · focus
        have hl_hom := hom.lt
        have hz_hxM := hxM.size
        replace EL := EL.next hxM (by omega)
        replace hb2x1_3 := hb2x1_3.chg hxM (by omega)
        replace h := h.chg hxM (by omega)
        replace E := E.next hxM (by omega)
        refine c_seq ?_
        refine c_region ?_
        refine w_pure (y_lt rfl rfl) rfl ?_
        refine w_nil ?_
        refine x_next ?_
        refine c_seq ?_
        (refine c_dec rfl (fun hc26 => ?_) (fun hc26 => ?_) <;> try (first | exact absurd rfl hc26 | contradiction | exact Bool.noConfusion (show false = true from hc26.symm.trans (by assumption)) | exact Bool.noConfusion (show true = false from hc26.symm.trans (by assumption)) | (exfalso; omega) | (exfalso; simp only [*, Bool.not_true, Bool.not_false, reduceCtorEq] at hc26; done)))
        refine c_exit ?_
        refine x_then_exit ?_
        refine x_then_exit ?_
        refine x_block_hit ?_
        refine x_next ?_
        refine c_seq ?_
        refine c_region ?_
        refine w_pure (y_move rfl) rfl ?_
        refine w_pure (y_assign rfl) rfl ?_
        refine w_nil ?_
        refine x_next ?_
        refine c_ret ?_
        rotate_left
      refine x_retv [_] rfl ⟨rfl, trivial⟩ ⟨?_, E.go⟩
      rw [q2, show ws.length = m by omega]
      exact hom
theorem l12Roots_c (hp : At w b 0 [.int .i64 e, .int .i64 n, .int .i64 j, v] := by repeat (first | assumption | exact Go.Gw.Own.sl (by assumption) | exact Go.Gw.Box.at (by assumption) | exact Go.Gw.SLL.el (by first | assumption | exact Go.Gw.OwnD.sll (by assumption)) _ (by omega) | exact Go.Gw.SLL.at (by first | assumption | exact Go.Gw.OwnD.sll (by assumption)) (by omega) | exact Go.Gw.OwnD.sll (by assumption) | (apply Go.Gw.SL.chg; case hx => assumption) | (apply Go.Gw.Own.chg; case hx => assumption) | (apply Go.Gw.Box.chg; case hx => assumption) | (apply Go.Gw.At.chg; case hx => assumption) | exact .inl (Nat.zero_le _) | exact .inr (Nat.zero_le _) | (show _ ∨ _; omega))) (h : SL w lo hi v ws := by repeat (first | assumption | exact Go.Gw.Own.sl (by assumption) | exact Go.Gw.Box.at (by assumption) | exact Go.Gw.SLL.el (by first | assumption | exact Go.Gw.OwnD.sll (by assumption)) _ (by omega) | exact Go.Gw.SLL.at (by first | assumption | exact Go.Gw.OwnD.sll (by assumption)) (by omega) | exact Go.Gw.OwnD.sll (by assumption) | (apply Go.Gw.SL.chg; case hx => assumption) | (apply Go.Gw.Own.chg; case hx => assumption) | (apply Go.Gw.Box.chg; case hx => assumption) | (apply Go.Gw.At.chg; case hx => assumption) | exact .inl (Nat.zero_le _) | exact .inr (Nat.zero_le _) | (show _ ∨ _; omega))) (h2 : SL w lo' hi' v' wo := by repeat (first | assumption | exact Go.Gw.Own.sl (by assumption) | exact Go.Gw.Box.at (by assumption) | exact Go.Gw.SLL.el (by first | assumption | exact Go.Gw.OwnD.sll (by assumption)) _ (by omega) | exact Go.Gw.SLL.at (by first | assumption | exact Go.Gw.OwnD.sll (by assumption)) (by omega) | exact Go.Gw.OwnD.sll (by assumption) | (apply Go.Gw.SL.chg; case hx => assumption) | (apply Go.Gw.Own.chg; case hx => assumption) | (apply Go.Gw.Box.chg; case hx => assumption) | (apply Go.Gw.At.chg; case hx => assumption) | exact .inl (Nat.zero_le _) | exact .inr (Nat.zero_le _) | (show _ ∨ _; omega))) (hh : 0 ≤ e + n + j ∧ e + n + j ≤ 30 ∧ 0 ≤ e + n ∧ e + n ≤ 1000 := by omega) (hw : ∀ i, i < ws.length → 0 ≤ (ws.getD i (0, 0)).1 ∧ (ws.getD i (0, 0)).1 < (ws.getD i (0, 0)).2 ∧ (ws.getD i (0, 0)).2 < e + n + j := by assumption) : Ret Try.prog 122 [ptr b 0, v'] w fun u w' => Own w' 2 w.heap.size u (rootsW (e + n + j).toNat ws wo ws.length) ∧ Ext w w' := by
  have E : Since 0 0 w w := Since.refl 0 0 w
  have hsm := h.small
  have hbl := hp.lt
  refine ret_enter Try.func122 rfl Try.ntmps122 rfl ?_
  focus
    have ht_h := h.top
    have ht_h2 := h2.top
    refine c_seq ?_
    refine c_region ?_
    refine w_pure (y_assign rfl) rfl ?_
    refine w_nil ?_
    refine x_next ?_
    refine c_seq ?_
    refine c_region ?_
    refine w_lit (α := Int) rfl rfl rfl rfl rfl rfl rfl rfl (fun v8 w8 ho8 hx8 hl8 hh8 hs8 => ?_)
    have hl_ho8 := ho8.lt
    have hz_hx8 := hx8.size
    replace hp := hp.ext hx8
    replace h := h.ext hx8
    replace h2 := h2.ext hx8
    replace E := E.trans hx8
    refine w_pure (y_assign rfl) rfl ?_
    refine w_nil ?_
    refine x_next ?_
    refine c_seq ?_
    refine c_seq ?_
    refine c_region ?_
    refine w_pure (y_assign rfl) rfl ?_
    refine w_nil ?_
    refine x_next ?_
    refine c_block ?_
    rotate_left
  refine c_loopC (bL v8) (bH v8) (ι := Nat × Value) (fun x => [(0, ptr b 0), (1, v'), (5, x.2), (6, .int .i64 x.1)]) (fun x w' => Own w' 2 w.heap.size x.2 (upto x.1) ∧ (x.1 : Int) ≤ e + n + j) (fun x => (e + n + j).toNat - x.1) (0, v8) (by repeat (first | exact trivial | refine ⟨rfl, ?_⟩)) ⟨ho8, by simp; omega⟩ ?_
  rintro ⟨i, u⟩ wL hxL EL ⟨ho, hi⟩
  dsimp only at *
  clear ho8
  have q1 := upto_len i
  focus
    have hl_ho := ho.lt
    have hz_hxL := hxL.size
    replace hp := hp.chg hxL (by omega)
    replace h := h.chg hxL (by omega)
    replace h2 := h2.chg hxL (by omega)
    replace E := E.next hxL (by omega)
    refine c_seq ?_
    refine c_seq ?_
    refine c_region ?_
    refine w_pure (y_move rfl) rfl ?_
    refine w_pure (y_move rfl) rfl ?_
    refine w_val rfl rfl rfl (l12Hubs_c) rfl (fun w11 hx11 hz11 => ?_)
    have hz_hx11 := hx11.size
    replace EL := EL.next hx11 (by omega)
    replace ho := ho.ext hx11
    replace hp := hp.ext hx11
    replace h := h.ext hx11
    replace h2 := h2.ext hx11
    replace E := E.trans hx11
    refine w_pure (y_lt rfl rfl) rfl ?_
    refine w_nil ?_
    refine x_next ?_
    (refine c_dec rfl (fun hc12 => ?_) (fun hc12 => ?_) <;> try (first | exact absurd rfl hc12 | contradiction | exact Bool.noConfusion (show false = true from hc12.symm.trans (by assumption)) | exact Bool.noConfusion (show true = false from hc12.symm.trans (by assumption)) | (exfalso; omega) | (exfalso; simp only [*, Bool.not_true, Bool.not_false, reduceCtorEq] at hc12; done)))
    refine c_skip ?_
    refine x_next ?_
    refine c_seq ?_
    refine c_block ?_
    refine c_region ?_
    refine w_pure (y_move rfl) rfl ?_
    refine w_pure (y_move rfl) rfl ?_
    refine w_lit (α := Int) rfl rfl rfl rfl rfl rfl rfl rfl (fun v17 w17 ho17 hx17 hl17 hh17 hs17 => ?_)
    have hl_ho17 := ho17.lt
    have hz_hx17 := hx17.size
    replace EL := EL.next hx17 (by omega)
    replace ho := ho.ext hx17
    replace hp := hp.ext hx17
    replace h := h.ext hx17
    replace h2 := h2.ext hx17
    replace E := E.trans hx17
    refine w_append rfl rfl (k := fun v18 w18 ho18 hx18 hr18 => ?_)
    have hl_ho18 := ho18.lt
    have hz_hx18 := hx18.size
    replace ho17 := ho17.chg hx18 (by omega)
    replace EL := EL.next hx18 (by omega)
    replace hp := hp.chg hx18 (by omega)
    replace h := h.chg hx18 (by omega)
    replace h2 := h2.chg hx18 (by omega)
    replace E := E.next hx18 (by omega)
    refine w_pure (y_assign rfl) rfl ?_
    refine w_nil ?_
    refine x_block_norm ?_
    refine x_next ?_
    refine c_region ?_
    refine w_pure (y_move rfl) rfl ?_
    refine w_pure (y_add rfl rfl) rfl ?_
    refine w_pure (y_assign rfl) rfl ?_
    refine w_nil ?_
    rotate_left
    refine c_exit ?_
    refine x_then_exit ?_
    refine x_then_exit ?_
    refine x_block_hit ?_
    refine x_next ?_
    refine c_seq ?_
    refine c_seq ?_
    refine c_region ?_
    refine w_pure (y_assign rfl) rfl ?_
    refine w_nil ?_
    refine x_next ?_
    refine c_block ?_
    rotate_left
  · refine x_again (i + 1, v18) (by repeat (first | exact trivial | refine ⟨rfl, ?_⟩)) ⟨EL.go, ?_, by dsimp only; omega⟩ (by dsimp only; omega)
    dsimp only
    rw [upto_succ]
    assumption
  · have q2 : (e + n + j).toNat = i := by omega
    refine c_loopC (bL u) (bH u) (ι := Nat) (fun x => [(0, ptr b 0), (1, v'), (5, u), (7, .int .i64 x)]) (fun x w' => Own w' 2 w.heap.size u (rootsW i ws wo x) ∧ x ≤ ws.length) (fun x => ws.length - x) 0 (by repeat (first | exact trivial | refine ⟨rfl, ?_⟩)) ⟨ho, by omega⟩ ?_
    rintro m wM hxM EM ⟨hom, hm⟩
    clear ho hxL
    have q3 := rootsW_len i ws wo m
    by_cases hlt : m < ws.length
    · have q4 := hw m hlt
      have q5 : 0 ≤ (ws.getD (m : Int).toNat (0, 0)).1 ∧ (ws.getD (m : Int).toNat (0, 0)).1 < (ws.getD (m : Int).toNat (0, 0)).2 ∧ (ws.getD (m : Int).toNat (0, 0)).2 < e + n + j := q4
      focus
        have hl_hom := hom.lt
        have hz_hxM := hxM.size
        replace EL := EL.next hxM (by omega)
        replace hp := hp.chg hxM (by omega)
        replace h := h.chg hxM (by omega)
        replace h2 := h2.chg hxM (by omega)
        replace E := E.next hxM (by omega)
        refine c_seq ?_
        refine c_seq ?_
        refine c_region ?_
        refine w_pure (y_move rfl) rfl ?_
        refine w_pure (y_move rfl) rfl ?_
        refine w_pure (y_nil rfl) rfl ?_
        refine w_pure (y_field rfl) rfl ?_
        refine w_pure (y_loadk rfl) rfl ?_
        refine w_pure (y_len rfl) rfl ?_
        refine w_pure (y_lt rfl rfl) rfl ?_
        refine w_nil ?_
        refine x_next ?_
        (refine c_dec rfl (fun hc25 => ?_) (fun hc25 => ?_) <;> try (first | exact absurd rfl hc25 | contradiction | exact Bool.noConfusion (show false = true from hc25.symm.trans (by assumption)) | exact Bool.noConfusion (show true = false from hc25.symm.trans (by assumption)) | (exfalso; omega) | (exfalso; simp only [*, Bool.not_true, Bool.not_false, reduceCtorEq] at hc25; done)))
        refine c_skip ?_
        refine x_next ?_
        refine c_seq ?_
        refine c_block ?_
        refine c_seq ?_
        refine c_seq ?_
        refine c_region ?_
        refine w_pure (y_move rfl) rfl ?_
        refine w_pure (y_move rfl) rfl ?_
        refine w_val rfl rfl rfl (l00Has_c _) rfl (fun w30 hx30 hz30 => ?_)
        have hz_hx30 := hx30.size
        replace EM := EM.next hx30 (by omega)
        replace hom := hom.ext hx30
        replace EL := EL.next hx30 (by omega)
        replace hp := hp.ext hx30
        replace h := h.ext hx30
        replace h2 := h2.ext hx30
        replace E := E.trans hx30
        refine w_nil ?_
        refine x_next ?_
        (refine c_dec rfl (fun hc30 => ?_) (fun hc30 => ?_) <;> try (first | exact absurd rfl hc30 | contradiction | exact Bool.noConfusion (show false = true from hc30.symm.trans (by assumption)) | exact Bool.noConfusion (show true = false from hc30.symm.trans (by assumption)) | (exfalso; omega) | (exfalso; simp only [*, Bool.not_true, Bool.not_false, reduceCtorEq] at hc30; done)))
        refine c_exit ?_
        refine x_then_exit ?_
        refine x_block_hit ?_
        refine x_next ?_
        refine c_region ?_
        refine w_pure (y_move rfl) rfl ?_
        refine w_pure (y_add rfl rfl) rfl ?_
        refine w_pure (y_assign rfl) rfl ?_
        refine w_nil ?_
        rotate_left
        refine c_skip ?_
        refine x_next ?_
        refine c_region_held mixed (fun wr10 hxr10 hzr10 => ?_)
        have hz_hxr10 := hxr10.size
        replace EM := EM.next hxr10 (by omega)
        replace hom := hom.ext hxr10
        replace EL := EL.next hxr10 (by omega)
        replace hp := hp.ext hxr10
        replace h := h.ext hxr10
        replace h2 := h2.ext hxr10
        replace E := E.trans hxr10
        refine h_pure rfl (y_move rfl) rfl ?_
        refine h_pure rfl (y_move rfl) rfl ?_
        refine h_pure rfl (y_move rfl) rfl ?_
        refine h_pure rfl (y_nil rfl) rfl ?_
        refine h_pure rfl (y_field rfl) rfl ?_
        refine h_pure rfl (y_loadk rfl) rfl ?_
        refine h_pure rfl (y_move rfl) rfl ?_
        refine h_pure rfl (y_index rfl rfl) rfl ?_
        refine h_pure rfl (y_field rfl) rfl ?_
        refine h_pure rfl (y_load_p0 rfl) rfl ?_
        refine h_pure rfl (y_index rfl rfl) rfl ?_
        refine h_pure rfl (y_load_int rfl) rfl ?_
        refine h_pure rfl (y_move rfl) rfl ?_
        refine h_pure rfl (y_move rfl) rfl ?_
        refine h_pure rfl (y_nil rfl) rfl ?_
        refine h_pure rfl (y_field rfl) rfl ?_
        refine h_pure rfl (y_loadk rfl) rfl ?_
        refine h_pure rfl (y_move rfl) rfl ?_
        refine h_pure rfl (y_index rfl rfl) rfl ?_
        refine h_pure rfl (y_field rfl) rfl ?_
        refine h_pure rfl (y_load_p1 rfl) rfl ?_
        refine h_pure rfl (y_index rfl rfl) rfl ?_
        refine h_pure rfl (y_load_int rfl) rfl ?_
        refine h_one rfl ?_
        (refine w_call rfl rfl rfl (l12Join_c _ _) rfl ?_; rintro _ w54 ⟨rfl, ⟨hp1_54, hx54⟩⟩)
        have hl_hp1_54 := hp1_54.lt
        have hz_hx54 := hx54.size
        replace EL := EL.next hx54 (by omega)
        replace hp := hp.chg hx54 (by omega)
        replace h := h.chg hx54 (by omega)
        replace h2 := h2.chg hx54 (by omega)
        replace E := E.next hx54 (by omega)
        replace EM := EM.trans hx54
        refine w_nil ?_
        refine x_heldk ?_
        refine h_pure rfl (y_assign rfl) rfl ?_
        refine h_nil ?_
        refine x_block_norm ?_
        refine x_next ?_
        refine c_region ?_
        refine w_pure (y_move rfl) rfl ?_
        refine w_pure (y_add rfl rfl) rfl ?_
        refine w_pure (y_assign rfl) rfl ?_
        refine w_nil ?_
        rotate_left
      · refine x_again (m + 1) (by repeat (first | exact trivial | refine ⟨rfl, ?_⟩)) ⟨EM.go, ?_, by omega⟩ (by omega)
        rw [rootsW, if_pos hc30]
        exact hom
      · refine x_again (m + 1) (by repeat (first | exact trivial | refine ⟨rfl, ?_⟩)) ⟨EM.go, ?_, by omega⟩ (by omega)
        rw [rootsW, if_neg hc30]
        assumption
    · focus
        have hl_hom := hom.lt
        have hz_hxM := hxM.size
        replace EL := EL.next hxM (by omega)
        replace hp := hp.chg hxM (by omega)
        replace h := h.chg hxM (by omega)
        replace h2 := h2.chg hxM (by omega)
        replace E := E.next hxM (by omega)
        refine c_seq ?_
        refine c_seq ?_
        refine c_region ?_
        refine w_pure (y_move rfl) rfl ?_
        refine w_pure (y_move rfl) rfl ?_
        refine w_pure (y_nil rfl) rfl ?_
        refine w_pure (y_field rfl) rfl ?_
        refine w_pure (y_loadk rfl) rfl ?_
        refine w_pure (y_len rfl) rfl ?_
        refine w_pure (y_lt rfl rfl) rfl ?_
        refine w_nil ?_
        refine x_next ?_
        (refine c_dec rfl (fun hc25 => ?_) (fun hc25 => ?_) <;> try (first | exact absurd rfl hc25 | contradiction | exact Bool.noConfusion (show false = true from hc25.symm.trans (by assumption)) | exact Bool.noConfusion (show true = false from hc25.symm.trans (by assumption)) | (exfalso; omega) | (exfalso; simp only [*, Bool.not_true, Bool.not_false, reduceCtorEq] at hc25; done)))
        refine c_exit ?_
        refine x_then_exit ?_
        refine x_then_exit ?_
        refine x_block_hit ?_
        refine x_next ?_
        refine c_seq ?_
        refine c_region ?_
        refine w_pure (y_move rfl) rfl ?_
        refine w_pure (y_assign rfl) rfl ?_
        refine w_nil ?_
        refine x_next ?_
        refine c_ret ?_
        rotate_left
      refine x_retv [_] rfl ⟨rfl, trivial⟩ ⟨?_, E.go⟩
      rw [q2, show ws.length = m by omega]
      exact hom
theorem l12With_c (k f t : Int) (h : SL w lo hi v xs := by repeat (first | assumption | exact Go.Gw.Own.sl (by assumption) | exact Go.Gw.Box.at (by assumption) | exact Go.Gw.SLL.el (by first | assumption | exact Go.Gw.OwnD.sll (by assumption)) _ (by omega) | exact Go.Gw.SLL.at (by first | assumption | exact Go.Gw.OwnD.sll (by assumption)) (by omega) | exact Go.Gw.OwnD.sll (by assumption) | (apply Go.Gw.SL.chg; case hx => assumption) | (apply Go.Gw.Own.chg; case hx => assumption) | (apply Go.Gw.Box.chg; case hx => assumption) | (apply Go.Gw.At.chg; case hx => assumption) | exact .inl (Nat.zero_le _) | exact .inr (Nat.zero_le _) | (show _ ∨ _; omega))) (hk : 0 ≤ k ∧ k < xs.length := by omega) (hf : 0 ≤ f ∧ f ≤ t ∧ t ≤ xs.length ∧ xs.length ≤ 1000 := by omega) : Ret Try.prog 124 [v, .int .i64 k, .int .i64 f, .int .i64 t] w fun u w' => Own w' 2 w.heap.size u (colsP (fun x => decide (xs.getD (f + x).toNat 0 = xs.getD k.toNat 0)) (t - f).toNat) ∧ Ext w w' := by
  have E : Since 0 0 w w := Since.refl 0 0 w
  refine ret_enter Try.func124 rfl Try.ntmps124 rfl ?_
  focus
    have ht_h := h.top
    refine c_seq ?_
    refine c_region ?_
    refine w_pure (y_assign rfl) rfl ?_
    refine w_nil ?_
    refine x_next ?_
    refine c_seq ?_
    refine c_region ?_
    refine w_lit (α := Int) rfl rfl rfl rfl rfl rfl rfl rfl (fun v11 w11 ho11 hx11 hl11 hh11 hs11 => ?_)
    have hl_ho11 := ho11.lt
    have hz_hx11 := hx11.size
    replace h := h.ext hx11
    replace E := E.trans hx11
    refine w_pure (y_assign rfl) rfl ?_
    refine w_nil ?_
    refine x_next ?_
    refine c_seq ?_
    refine c_seq ?_
    refine c_region ?_
    refine w_pure (y_move rfl) rfl ?_
    refine w_pure (y_assign rfl) rfl ?_
    refine w_nil ?_
    refine x_next ?_
    refine c_block ?_
    rotate_left
  refine c_loopC (bL v11) (bH v11) (ι := Nat × Value) (fun x => [(0, v), (1, .int .i64 k), (2, .int .i64 f), (3, .int .i64 t), (9, x.2), (10, .int .i64 (f + x.1))]) (fun x w' => Own w' 2 w.heap.size x.2 (colsP (fun x => decide (xs.getD (f + x).toNat 0 = xs.getD k.toNat 0)) x.1) ∧ f + x.1 ≤ t) (fun x => (t - f).toNat - x.1) (0, v11) ⟨rfl, rfl, rfl, rfl, rfl, by simp; rfl, trivial⟩ ⟨ho11, by simp; omega⟩ ?_
  rintro ⟨i, u⟩ wL hxL EL ⟨ho, hi⟩
  dsimp only at *
  clear ho11
  have q1 := colsP_len (fun x => decide (xs.getD (f + x).toNat 0 = xs.getD k.toNat 0)) i
  focus
    have hl_ho := ho.lt
    have hz_hxL := hxL.size
    replace h := h.chg hxL (by omega)
    replace E := E.next hxL (by omega)
    refine c_seq ?_
    refine c_seq ?_
    refine c_region ?_
    refine w_pure (y_move rfl) rfl ?_
    refine w_pure (y_move rfl) rfl ?_
    refine w_pure (y_lt rfl rfl) rfl ?_
    refine w_nil ?_
    refine x_next ?_
    (refine c_dec rfl (fun hc15 => ?_) (fun hc15 => ?_) <;> try (first | exact absurd rfl hc15 | contradiction | exact Bool.noConfusion (show false = true from hc15.symm.trans (by assumption)) | exact Bool.noConfusion (show true = false from hc15.symm.trans (by assumption)) | (exfalso; omega) | (exfalso; simp only [*, Bool.not_true, Bool.not_false, reduceCtorEq] at hc15; done)))
    refine c_skip ?_
    refine x_next ?_
    refine c_seq ?_
    refine c_block ?_
    refine c_seq ?_
    refine c_region_calm mixed (by decide +kernel) (by kernel_rfl) ?_
    refine q_pure (y_move rfl) rfl ?_
    refine q_pure (y_move rfl) rfl ?_
    refine q_pure (y_index rfl rfl) rfl ?_
    refine q_pure (y_load_int rfl) rfl ?_
    refine q_pure (y_move rfl) rfl ?_
    refine q_pure (y_move rfl) rfl ?_
    refine q_pure (y_index rfl rfl) rfl ?_
    refine q_pure (y_load_int rfl) rfl ?_
    refine q_pure (y_eq rfl rfl) rfl ?_
    refine q_nil (fun ws25 hxs25 hzs25 => ?_)
    have hz_hxs25 := hxs25.size
    replace EL := EL.next hxs25 (by omega)
    replace ho := ho.ext hxs25
    replace h := h.ext hxs25
    replace E := E.trans hxs25
    refine x_next ?_
    (refine c_dec rfl (fun hc26 => ?_) (fun hc26 => ?_) <;> try (first | exact absurd rfl hc26 | contradiction | exact Bool.noConfusion (show false = true from hc26.symm.trans (by assumption)) | exact Bool.noConfusion (show true = false from hc26.symm.trans (by assumption)) | (exfalso; omega) | (exfalso; simp only [*, Bool.not_true, Bool.not_false, reduceCtorEq] at hc26; done)))
    refine c_region ?_
    refine w_pure (y_move rfl) rfl ?_
    refine w_pure (y_move rfl) rfl ?_
    refine w_pure (y_move rfl) rfl ?_
    refine w_pure (y_sub rfl rfl) rfl ?_
    refine w_lit (α := Int) rfl rfl rfl rfl rfl rfl rfl rfl (fun v31 w31 ho31 hx31 hl31 hh31 hs31 => ?_)
    have hl_ho31 := ho31.lt
    have hz_hx31 := hx31.size
    replace EL := EL.next hx31 (by omega)
    replace ho := ho.ext hx31
    replace h := h.ext hx31
    replace E := E.trans hx31
    refine w_append rfl rfl (k := fun v32 w32 ho32 hx32 hr32 => ?_)
    have hl_ho32 := ho32.lt
    have hz_hx32 := hx32.size
    replace ho31 := ho31.chg hx32 (by omega)
    replace EL := EL.next hx32 (by omega)
    replace h := h.chg hx32 (by omega)
    replace E := E.next hx32 (by omega)
    refine w_pure (y_assign rfl) rfl ?_
    refine w_nil ?_
    refine x_block_norm ?_
    refine x_next ?_
    refine c_region ?_
    refine w_pure (y_move rfl) rfl ?_
    refine w_pure (y_add rfl rfl) rfl ?_
    refine w_pure (y_assign rfl) rfl ?_
    refine w_nil ?_
    rotate_left
    refine c_skip ?_
    refine x_block_norm ?_
    refine x_next ?_
    refine c_region ?_
    refine w_pure (y_move rfl) rfl ?_
    refine w_pure (y_add rfl rfl) rfl ?_
    refine w_pure (y_assign rfl) rfl ?_
    refine w_nil ?_
    rotate_left
    refine c_exit ?_
    refine x_then_exit ?_
    refine x_then_exit ?_
    refine x_block_hit ?_
    refine x_next ?_
    refine c_seq ?_
    refine c_region ?_
    refine w_pure (y_move rfl) rfl ?_
    refine w_pure (y_assign rfl) rfl ?_
    refine w_nil ?_
    refine x_next ?_
    refine c_ret ?_
    rotate_left
  · refine x_again (i + 1, v32) ⟨rfl, rfl, rfl, rfl, rfl, ?_, trivial⟩ ⟨EL.go, ?_, by dsimp only; omega⟩ (by dsimp only; omega)
    · show some (Value.int .i64 (f + (i : Int) + 1)) = some (Value.int .i64 (f + ((i + 1 : Nat) : Int))); congr 2; omega
    · dsimp only
      rw [colsP, if_pos (decide_eq_true hc26), show (i : Int) = f + (i : Int) - f by omega]
      assumption
  · refine x_again (i + 1, u) ⟨rfl, rfl, rfl, rfl, rfl, ?_, trivial⟩ ⟨EL.go, ?_, by dsimp only; omega⟩ (by dsimp only; omega)
    · show some (Value.int .i64 (f + (i : Int) + 1)) = some (Value.int .i64 (f + ((i + 1 : Nat) : Int))); congr 2; omega
    · dsimp only
      rw [colsP, if_neg (by rw [decide_eq_false hc26]; simp), List.append_nil]
      exact ho
  · refine x_retv [_] rfl ⟨rfl, trivial⟩ ⟨?_, E.go⟩
    rw [show (t - f).toNat = i by omega]
    exact ho
end
end Go.Proofs.Ythigkbkaeopipaa

/- Contracts: pairs of exits that are joined. -/
import Derived.Test.YthigkbkaeopipaaBrdG
namespace Go.Proofs.Ythigkbkaeopipaa
open Go Go.Gw
set_option linter.unusedVariables false
set_option linter.unusedSimpArgs false
theorem rowP_succ {r : List Int} {i : Int} {k : Int} (h : i + 1 ≤ k) : rowP r i (k + 1 - i - 1).toNat = rowP r i (k - i - 1).toNat ++ (if r.getD i.toNat 0 = r.getD k.toNat 0 then [[i, k]] else []) := by
  rw [show (k + 1 - i - 1).toNat = (k - i - 1).toNat + 1 by omega, rowP, show i + 1 + ((k - i - 1).toNat : Int) = k by omega]
theorem pairP_succ {r : List Int} {e i k : Int} (h0 : 0 ≤ i) (h : k = e) (h1 : i < e) : pairP r e.toNat (i + 1).toNat = pairP r e.toNat i.toNat ++ rowP r i (k - i - 1).toNat := by
  subst h
  rw [show (i + 1).toNat = i.toNat + 1 by omega, pairP, show ((i.toNat : Nat) : Int) = i by omega, show k.toNat - i.toNat - 1 = (k - i - 1).toNat by omega]
section
variable {w : World} {v v' vB : Value} {xs ys wo : List Int} {ws : List (Int × Int)} {lo hi lo' hi' b b' : Nat} {e n j e' n' j' : Int}
set_option maxHeartbeats 4000000 in
theorem sneakPairs_c (h : SL w lo hi v ws := by repeat (first | assumption | exact Go.Gw.Own.sl (by assumption) | exact Go.Gw.Box.at (by assumption) | exact Go.Gw.SLL.el (by first | assumption | exact Go.Gw.OwnD.sll (by assumption)) _ (by omega) | exact Go.Gw.SLL.at (by first | assumption | exact Go.Gw.OwnD.sll (by assumption)) (by omega) | exact Go.Gw.OwnD.sll (by assumption) | (apply Go.Gw.SL.chg; case hx => assumption) | (apply Go.Gw.Own.chg; case hx => assumption) | (apply Go.Gw.Box.chg; case hx => assumption) | (apply Go.Gw.At.chg; case hx => assumption) | exact .inl (Nat.zero_le _) | exact .inr (Nat.zero_le _) | (show _ ∨ _; omega))) (hh : 0 ≤ e + n + j ∧ e + n + j ≤ 30 ∧ 0 ≤ e + n ∧ e + n ≤ 1000 ∧ 0 ≤ e ∧ e ≤ e + n + j := by omega) (hw : ∀ i, i < ws.length → 0 ≤ (ws.getD i (0, 0)).1 ∧ (ws.getD i (0, 0)).1 < (ws.getD i (0, 0)).2 ∧ (ws.getD i (0, 0)).2 < e + n + j := by assumption) :
    Ret Try.prog 106 [.agg #[.int .i64 e, .int .i64 n, .int .i64 j, vB], v] w fun u w' => ∃ sus, OwnD w' 38 w.heap.size w'.heap.size sus u (pairP (rootsF (e + n + j).toNat ws ws.length) e.toNat e.toNat) ∧ Ext w w' := by
  have hrl := rootsF_len (e + n + j).toNat ws ws.length
  have E : Since 0 0 w w := Since.refl 0 0 w
  refine ret_enter Try.func106 rfl Try.ntmps106 rfl ?_
  focus
    have ht_h := h.top
    refine c_seq ?_
    refine c_region ?_
    refine w_box rfl (k := fun b2 w2 hb2 hx2 hl2 hs2 => ?_)
    have hz_hx2 := hx2.size
    replace h := h.ext hx2
    replace E := E.trans hx2
    refine w_pure (y_assign rfl) rfl ?_
    refine w_nil ?_
    refine x_next ?_
    refine c_seq ?_
    refine c_region ?_
    refine w_pure (y_load_boxs rfl) rfl ?_
    refine w_pure (y_move rfl) rfl ?_
    (refine w_call rfl rfl rfl (firstHubs_c) rfl ?_; rintro v11 w11 ⟨hp1_11, hx11⟩)
    have hl_hp1_11 := hp1_11.lt
    have hz_hx11 := hx11.size
    replace hb2 := hb2.ext hx11
    replace h := h.ext hx11
    replace E := E.trans hx11
    refine w_lit_d0 rfl (k := fun v12 w12 ho12 hx12 hl12 hh12 hs12 => ?_)
    have hl_ho12 := ho12.lt
    have hz_hx12 := hx12.size
    replace hp1_11 := hp1_11.ext hx12
    replace hb2 := hb2.ext hx12
    replace h := h.ext hx12
    replace E := E.trans hx12
    refine w_pure (y_assign rfl) rfl ?_
    refine w_pure (y_assign rfl) rfl ?_
    refine w_nil ?_
    refine x_next ?_
    refine c_seq ?_
    refine c_seq ?_
    refine c_region ?_
    refine w_pure (y_field rfl) rfl ?_
    refine w_pure (y_load_box rfl) rfl ?_
    refine w_pure (y_move rfl) rfl ?_
    refine w_nil ?_
    refine x_next ?_
    refine c_block ?_
    rotate_left
  generalize hr : rootsF (e + n + j).toNat ws ws.length = r at *
  refine c_loopC (bL v12) (bH v12) (ι := Int × Value × List SV) (fun x => [(2, ptr b2 0), (5, v11), (6, x.2.1), (14, .int .i64 e), (15, .int .i64 x.1)])
    (fun x w' => Box w' b2 [.int .i64 e, .int .i64 n, .int .i64 j, vB] ∧ Own w' 2 w.heap.size v11 r ∧ OwnD w' 38 w.heap.size w'.heap.size x.2.2 x.2.1 (pairP r e.toNat x.1.toNat) ∧ ((bL x.2.1 = bL v12 ∧ bH x.2.1 = bH v12) ∨ w12.heap.size ≤ bL x.2.1) ∧ 0 ≤ x.1 ∧ x.1 ≤ e) (fun x => (e - x.1).toNat) (0, v12, [])
    (by repeat (first | exact trivial | refine ⟨rfl, ?_⟩)) ⟨by assumption, Own.base (by assumption) (by omega), OwnD.wide (ho12.low (by omega)) (by omega) (Nat.le_refl _), .inl ⟨rfl, rfl⟩, by omega, by omega⟩ ?_
  clear ho12 hp1_11 hb2
  rintro ⟨i, u, sus⟩ wL hxL EL ⟨gb, gr, g3, g4, hi0, hi1⟩
  dsimp only at *
  have hpl := (pairP_len r e.toNat i.toNat).1
  have hpm : i.toNat * e.toNat ≤ 30 * 30 := Nat.mul_le_mul (by omega) (by omega)
  focus
    have hl_gr := gr.lt
    have hl_g3 := g3.lt
    have hz_hxL := hxL.size
    replace h := h.chg hxL (by omega)
    replace E := E.next hxL (by omega)
    refine c_seq ?_
    refine c_region ?_
    refine w_pure (y_lt rfl rfl) rfl ?_
    refine w_nil ?_
    refine x_next ?_
    refine c_seq ?_
    (refine c_dec rfl (fun hc16 => ?_) (fun hc16 => ?_) <;> try (first | exact absurd rfl hc16 | contradiction | exact Bool.noConfusion (show false = true from hc16.symm.trans (by assumption)) | exact Bool.noConfusion (show true = false from hc16.symm.trans (by assumption)) | (exfalso; omega) | (exfalso; simp only [*, Bool.not_true, Bool.not_false, reduceCtorEq] at hc16; done)))
    refine c_skip ?_
    refine x_next ?_
    refine c_seq ?_
    refine c_block ?_
    refine c_seq ?_
    refine c_region ?_
    refine w_pure (y_move rfl) rfl ?_
    refine w_pure (y_assign rfl) rfl ?_
    refine w_nil ?_
    refine x_next ?_
    refine c_seq ?_
    refine c_region ?_
    refine w_pure (y_move rfl) rfl ?_
    refine w_pure (y_add rfl rfl) rfl ?_
    refine w_pure (y_assign rfl) rfl ?_
    refine w_nil ?_
    refine x_next ?_
    refine c_block ?_
    rotate_left
    refine c_exit ?_
    refine x_then_exit ?_
    refine x_then_exit ?_
    refine x_block_hit ?_
    refine x_next ?_
    refine c_seq ?_
    refine c_region ?_
    refine w_pure (y_move rfl) rfl ?_
    refine w_pure (y_assign rfl) rfl ?_
    refine w_nil ?_
    refine x_next ?_
    refine c_ret ?_
    rotate_left
  · refine c_loopC (bL u) (bH u) (ι := Int × Value × List SV) (fun x => [(2, ptr b2 0), (5, v11), (6, x.2.1), (7, .int .i64 i), (8, .int .i64 x.1), (14, .int .i64 e), (15, .int .i64 i)])
      (fun x w' => Box w' b2 [.int .i64 e, .int .i64 n, .int .i64 j, vB] ∧ Own w' 2 w.heap.size v11 r ∧ OwnD w' 38 w.heap.size w'.heap.size x.2.2 x.2.1 (pairP r e.toNat i.toNat ++ rowP r i (x.1 - i - 1).toNat) ∧ ((bL x.2.1 = bL u ∧ bH x.2.1 = bH u) ∨ wL.heap.size ≤ bL x.2.1) ∧ i + 1 ≤ x.1 ∧ x.1 ≤ e) (fun x => (e - x.1).toNat) (i + 1, u, sus)
      (by repeat (first | exact trivial | refine ⟨rfl, ?_⟩)) ⟨by assumption, by assumption, by rw [show (i + 1 - i - 1).toNat = 0 by omega, rowP, List.append_nil]; exact OwnD.wide (by assumption) (by omega) (Nat.le_refl _), .inl ⟨rfl, rfl⟩, by omega, by omega⟩ ?_
    clear g3 gr gb
    rintro ⟨k, u2, sus2⟩ wM hxM EM ⟨kb, kr, k3, k4, hk0, hk1⟩
    dsimp only at *
    have hrl2 := (rowP_len r i (k - i - 1).toNat).1
    have hln : (pairP r e.toNat i.toNat ++ rowP r i (k - i - 1).toNat).length ≤ 1000 := by rw [List.length_append]; omega
    have hsc := rowP_succ (r := r) (i := i) (k := k) hk0
    focus
      have hl_kr := kr.lt
      have hl_k3 := k3.lt
      have hz_hxM := hxM.size
      replace EL := EL.next hxM (by omega)
      replace h := h.chg hxM (by omega)
      replace E := E.next hxM (by omega)
      refine c_seq ?_
      refine c_seq ?_
      refine c_region ?_
      refine w_pure (y_move rfl) rfl ?_
      refine w_pure (y_field rfl) rfl ?_
      refine w_pure (y_load_box rfl) rfl ?_
      refine w_pure (y_lt rfl rfl) rfl ?_
      refine w_nil ?_
      refine x_next ?_
      (refine c_dec rfl (fun hc23 => ?_) (fun hc23 => ?_) <;> try (first | exact absurd rfl hc23 | contradiction | exact Bool.noConfusion (show false = true from hc23.symm.trans (by assumption)) | exact Bool.noConfusion (show true = false from hc23.symm.trans (by assumption)) | (exfalso; omega) | (exfalso; simp only [*, Bool.not_true, Bool.not_false, reduceCtorEq] at hc23; done)))
      refine c_skip ?_
      refine x_next ?_
      refine c_seq ?_
      refine c_block ?_
      refine c_seq ?_
      refine c_region_calm mixed (by decide +kernel) (by kernel_rfl) ?_
      refine q_pure (y_move rfl) rfl ?_
      refine q_pure (y_move rfl) rfl ?_
      refine q_pure (y_index rfl rfl) rfl ?_
      refine q_pure (y_load_int rfl) rfl ?_
      refine q_pure (y_move rfl) rfl ?_
      refine q_pure (y_move rfl) rfl ?_
      refine q_pure (y_index rfl rfl) rfl ?_
      refine q_pure (y_load_int rfl) rfl ?_
      refine q_pure (y_eq rfl rfl) rfl ?_
      refine q_nil (fun ws26 hxs26 hzs26 => ?_)
      have hz_hxs26 := hxs26.size
      replace EM := EM.next hxs26 (by omega)
      replace kb := kb.ext hxs26
      replace kr := kr.ext hxs26
      replace k3 := k3.ext hxs26
      replace EL := EL.next hxs26 (by omega)
      replace h := h.ext hxs26
      replace E := E.trans hxs26
      refine x_next ?_
      (refine c_dec rfl (fun hc34 => ?_) (fun hc34 => ?_) <;> try (first | exact absurd rfl hc34 | contradiction | exact Bool.noConfusion (show false = true from hc34.symm.trans (by assumption)) | exact Bool.noConfusion (show true = false from hc34.symm.trans (by assumption)) | (exfalso; omega) | (exfalso; simp only [*, Bool.not_true, Bool.not_false, reduceCtorEq] at hc34; done)))
      refine c_region ?_
      refine w_pure (y_move rfl) rfl ?_
      refine w_pure (y_move rfl) rfl ?_
      refine w_pure (y_move rfl) rfl ?_
      refine w_lit (α := Int) rfl rfl rfl rfl rfl rfl rfl rfl (fun v38 w38 ho38 hx38 hl38 hh38 hs38 => ?_)
      have hl_ho38 := ho38.lt
      have hz_hx38 := hx38.size
      replace EM := EM.next hx38 (by omega)
      replace kb := kb.ext hx38
      replace kr := kr.ext hx38
      replace k3 := k3.ext hx38
      replace EL := EL.next hx38 (by omega)
      replace h := h.ext hx38
      replace E := E.trans hx38
      refine w_lit_sv rfl rfl (k := fun v39 w39 ho39 hx39 hl39 hh39 hs39 => ?_)
      have hl_ho39 := ho39.lt
      have hz_hx39 := hx39.size
      replace ho38 := ho38.ext hx39
      replace EM := EM.next hx39 (by omega)
      replace kb := kb.ext hx39
      replace kr := kr.ext hx39
      replace k3 := k3.ext hx39
      replace EL := EL.next hx39 (by omega)
      replace h := h.ext hx39
      replace E := E.trans hx39
      refine w_append_d rfl rfl (k := fun v40 w40 ho40 hx40 hr40 => ?_)
      have hl_ho40 := ho40.lt
      have hz_hx40 := hx40.size
      replace ho39 := ho39.chg hx40 (by omega)
      replace ho38 := ho38.chg hx40 (by omega)
      replace EM := EM.next hx40 (by omega)
      replace kb := kb.chg hx40 (by omega)
      replace kr := kr.chg hx40 (by omega)
      replace EL := EL.next hx40 (by omega)
      replace h := h.chg hx40 (by omega)
      replace E := E.next hx40 (by omega)
      refine w_pure (y_assign rfl) rfl ?_
      refine w_nil ?_
      refine x_block_norm ?_
      refine x_next ?_
      refine c_region ?_
      refine w_pure (y_move rfl) rfl ?_
      refine w_pure (y_add rfl rfl) rfl ?_
      refine w_pure (y_assign rfl) rfl ?_
      refine w_nil ?_
      rotate_left
      refine c_skip ?_
      refine x_block_norm ?_
      refine x_next ?_
      refine c_region ?_
      refine w_pure (y_move rfl) rfl ?_
      refine w_pure (y_add rfl rfl) rfl ?_
      refine w_pure (y_assign rfl) rfl ?_
      refine w_nil ?_
      rotate_left
      refine c_exit ?_
      refine x_then_exit ?_
      refine x_then_exit ?_
      refine x_block_hit ?_
      refine x_block_norm ?_
      refine x_next ?_
      refine c_region ?_
      refine w_pure (y_add rfl rfl) rfl ?_
      refine w_pure (y_move rfl) rfl ?_
      refine w_nil ?_
      rotate_left
    · refine x_again (k + 1, v40, sus2 ++ [svOf v38]) (by repeat (first | exact trivial | refine ⟨rfl, ?_⟩)) ⟨EM.go, by assumption, by assumption, ?_, by dsimp only; omega, by dsimp only; omega, by dsimp only; omega⟩ (by dsimp only; omega)
      dsimp only
      rw [hsc, if_pos hc34, ← List.append_assoc]
      exact OwnD.wide (by assumption) (by omega) (Nat.le_refl _)
    · refine x_again (k + 1, u2, sus2) (by repeat (first | exact trivial | refine ⟨rfl, ?_⟩)) ⟨EM.go, by assumption, by assumption, ?_, by dsimp only; omega, by dsimp only; omega, by dsimp only; omega⟩ (by dsimp only; omega)
      dsimp only
      rw [hsc, if_neg hc34, List.append_nil]
      exact OwnD.wide (by assumption) (by omega) (Nat.le_refl _)
    · refine x_again (i + 1, u2, sus2) (by repeat (first | exact trivial | refine ⟨rfl, ?_⟩)) ⟨EL.go, by assumption, by assumption, ?_, by dsimp only; omega, by dsimp only; omega, by dsimp only; omega⟩ (by dsimp only; omega)
      dsimp only
      rw [pairP_succ hi0 (show k = e by omega) (by omega)]
      exact OwnD.wide (by assumption) (by omega) (Nat.le_refl _)
  · refine x_retv [_] rfl ⟨rfl, trivial⟩ ⟨sus, ?_, E.go⟩
    rw [show i = e by omega] at g3
    exact OwnD.wide g3 (by omega) (Nat.le_refl _)
set_option maxHeartbeats 4000000 in
theorem l12Pairs_c (hp : At w b 0 [.int .i64 e, .int .i64 n, .int .i64 j, v] := by repeat (first | assumption | exact Go.Gw.Own.sl (by assumption) | exact Go.Gw.Box.at (by assumption) | exact Go.Gw.SLL.el (by first | assumption | exact Go.Gw.OwnD.sll (by assumption)) _ (by omega) | exact Go.Gw.SLL.at (by first | assumption | exact Go.Gw.OwnD.sll (by assumption)) (by omega) | exact Go.Gw.OwnD.sll (by assumption) | (apply Go.Gw.SL.chg; case hx => assumption) | (apply Go.Gw.Own.chg; case hx => assumption) | (apply Go.Gw.Box.chg; case hx => assumption) | (apply Go.Gw.At.chg; case hx => assumption) | exact .inl (Nat.zero_le _) | exact .inr (Nat.zero_le _) | (show _ ∨ _; omega))) (h : SL w lo hi v ws := by repeat (first | assumption | exact Go.Gw.Own.sl (by assumption) | exact Go.Gw.Box.at (by assumption) | exact Go.Gw.SLL.el (by first | assumption | exact Go.Gw.OwnD.sll (by assumption)) _ (by omega) | exact Go.Gw.SLL.at (by first | assumption | exact Go.Gw.OwnD.sll (by assumption)) (by omega) | exact Go.Gw.OwnD.sll (by assumption) | (apply Go.Gw.SL.chg; case hx => assumption) | (apply Go.Gw.Own.chg; case hx => assumption) | (apply Go.Gw.Box.chg; case hx => assumption) | (apply Go.Gw.At.chg; case hx => assumption) | exact .inl (Nat.zero_le _) | exact .inr (Nat.zero_le _) | (show _ ∨ _; omega))) (hh : 0 ≤ e + n + j ∧ e + n + j ≤ 30 ∧ 0 ≤ e + n ∧ e + n ≤ 1000 ∧ 0 ≤ e ∧ e ≤ e + n + j := by omega) (hw : ∀ i, i < ws.length → 0 ≤ (ws.getD i (0, 0)).1 ∧ (ws.getD i (0, 0)).1 < (ws.getD i (0, 0)).2 ∧ (ws.getD i (0, 0)).2 < e + n + j := by assumption) :
    Ret Try.prog 109 [ptr b 0, .slice none 0 0] w fun u w' => ∃ sus, OwnD w' 38 w.heap.size w'.heap.size sus u (pairP (rootsF (e + n + j).toNat ws ws.length) e.toNat e.toNat) ∧ Ext w w' := by
  have hrl := rootsF_len (e + n + j).toNat ws ws.length
  have E : Since 0 0 w w := Since.refl 0 0 w
  have hnil := nilI w
  have hbl := hp.lt
  have hrn := rootsW_nil (e + n + j).toNat ws ws.length
  refine ret_enter Try.func109 rfl Try.ntmps109 rfl ?_
  focus
    have ht_h := h.top
    have ht_hnil := hnil.top
    refine c_seq ?_
    refine c_region ?_
    refine w_pure (y_assign rfl) rfl ?_
    refine w_nil ?_
    refine x_next ?_
    refine c_seq ?_
    refine c_region ?_
    refine w_pure (y_move rfl) rfl ?_
    refine w_pure (y_move rfl) rfl ?_
    (refine w_call rfl rfl rfl (l12Roots_c) rfl ?_; rintro v11 w11 ⟨hp1_11, hx11⟩)
    have hl_hp1_11 := hp1_11.lt
    have hz_hx11 := hx11.size
    replace hp := hp.ext hx11
    replace h := h.ext hx11
    replace E := E.trans hx11
    replace hnil := hnil.ext hx11
    refine w_pure (y_assign rfl) rfl ?_
    refine w_nil ?_
    refine x_next ?_
    refine c_seq ?_
    refine c_region ?_
    refine w_lit_d0 rfl (k := fun v12 w12 ho12 hx12 hl12 hh12 hs12 => ?_)
    have hl_ho12 := ho12.lt
    have hz_hx12 := hx12.size
    replace hp1_11 := hp1_11.ext hx12
    replace hp := hp.ext hx12
    replace h := h.ext hx12
    replace E := E.trans hx12
    replace hnil := hnil.ext hx12
    refine w_pure (y_assign rfl) rfl ?_
    refine w_nil ?_
    refine x_next ?_
    refine c_seq ?_
    refine c_seq ?_
    refine c_region ?_
    refine w_pure (y_assign rfl) rfl ?_
    refine w_nil ?_
    refine x_next ?_
    refine c_block ?_
    rotate_left
  rw [hrn] at hp1_11
  generalize hr : rootsF (e + n + j).toNat ws ws.length = r at *
  refine c_loopC (bL v12) (bH v12) (ι := Int × Value × List SV) (fun x => [(0, ptr b 0), (5, v11), (6, x.2.1), (7, .int .i64 x.1)])
    (fun x w' => At w' b 0 [.int .i64 e, .int .i64 n, .int .i64 j, v] ∧ Own w' 2 w.heap.size v11 r ∧ OwnD w' 38 w.heap.size w'.heap.size x.2.2 x.2.1 (pairP r e.toNat x.1.toNat) ∧ ((bL x.2.1 = bL v12 ∧ bH x.2.1 = bH v12) ∨ w12.heap.size ≤ bL x.2.1) ∧ 0 ≤ x.1 ∧ x.1 ≤ e) (fun x => (e - x.1).toNat) (0, v12, [])
    (by repeat (first | exact trivial | refine ⟨rfl, ?_⟩)) ⟨by assumption, Own.base (by assumption) (by omega), OwnD.wide (ho12.low (by omega)) (by omega) (Nat.le_refl _), .inl ⟨rfl, rfl⟩, by omega, by omega⟩ ?_
  clear ho12 hp1_11
  rintro ⟨i, u, sus⟩ wL hxL EL ⟨gb, gr, g3, g4, hi0, hi1⟩
  dsimp only at *
  have hpl := (pairP_len r e.toNat i.toNat).1
  have hpm : i.toNat * e.toNat ≤ 30 * 30 := Nat.mul_le_mul (by omega) (by omega)
  focus
    have hl_gr := gr.lt
    have hl_g3 := g3.lt
    have hz_hxL := hxL.size
    replace hp := hp.chg hxL (by omega)
    replace h := h.chg hxL (by omega)
    replace E := E.next hxL (by omega)
    replace hnil := hnil.chg hxL (by omega)
    refine c_seq ?_
    refine c_seq ?_
    refine c_region ?_
    refine w_pure (y_move rfl) rfl ?_
    refine w_pure (y_move rfl) rfl ?_
    refine w_pure (y_nil rfl) rfl ?_
    refine w_pure (y_field rfl) rfl ?_
    refine w_pure (y_loadk rfl) rfl ?_
    refine w_pure (y_lt rfl rfl) rfl ?_
    refine w_nil ?_
    refine x_next ?_
    (refine c_dec rfl (fun hc18 => ?_) (fun hc18 => ?_) <;> try (first | exact absurd rfl hc18 | contradiction | exact Bool.noConfusion (show false = true from hc18.symm.trans (by assumption)) | exact Bool.noConfusion (show true = false from hc18.symm.trans (by assumption)) | (exfalso; omega) | (exfalso; simp only [*, Bool.not_true, Bool.not_false, reduceCtorEq] at hc18; done)))
    refine c_skip ?_
    refine x_next ?_
    refine c_seq ?_
    refine c_block ?_
    refine c_seq ?_
    refine c_region ?_
    refine w_pure (y_move rfl) rfl ?_
    refine w_pure (y_add rfl rfl) rfl ?_
    refine w_pure (y_assign rfl) rfl ?_
    refine w_nil ?_
    refine x_next ?_
    refine c_block ?_
    rotate_left
    refine c_exit ?_
    refine x_then_exit ?_
    refine x_then_exit ?_
    refine x_block_hit ?_
    refine x_next ?_
    refine c_seq ?_
    refine c_region ?_
    refine w_pure (y_move rfl) rfl ?_
    refine w_pure (y_assign rfl) rfl ?_
    refine w_nil ?_
    refine x_next ?_
    refine c_ret ?_
    rotate_left
  · refine c_loopC (bL u) (bH u) (ι := Int × Value × List SV) (fun x => [(0, ptr b 0), (5, v11), (6, x.2.1), (7, .int .i64 i), (8, .int .i64 x.1)])
      (fun x w' => At w' b 0 [.int .i64 e, .int .i64 n, .int .i64 j, v] ∧ Own w' 2 w.heap.size v11 r ∧ OwnD w' 38 w.heap.size w'.heap.size x.2.2 x.2.1 (pairP r e.toNat i.toNat ++ rowP r i (x.1 - i - 1).toNat) ∧ ((bL x.2.1 = bL u ∧ bH x.2.1 = bH u) ∨ wL.heap.size ≤ bL x.2.1) ∧ i + 1 ≤ x.1 ∧ x.1 ≤ e) (fun x => (e - x.1).toNat) (i + 1, u, sus)
      (by repeat (first | exact trivial | refine ⟨rfl, ?_⟩)) ⟨by assumption, by assumption, by rw [show (i + 1 - i - 1).toNat = 0 by omega, rowP, List.append_nil]; exact OwnD.wide (by assumption) (by omega) (Nat.le_refl _), .inl ⟨rfl, rfl⟩, by omega, by omega⟩ ?_
    clear g3 gr gb
    rintro ⟨k, u2, sus2⟩ wM hxM EM ⟨kb, kr, k3, k4, hk0, hk1⟩
    dsimp only at *
    have hrl2 := (rowP_len r i (k - i - 1).toNat).1
    have hln : (pairP r e.toNat i.toNat ++ rowP r i (k - i - 1).toNat).length ≤ 1000 := by rw [List.length_append]; omega
    have hsc := rowP_succ (r := r) (i := i) (k := k) hk0
    focus
      have hl_kr := kr.lt
      have hl_k3 := k3.lt
      have hz_hxM := hxM.size
      replace EL := EL.next hxM (by omega)
      replace hp := hp.chg hxM (by omega)
      replace h := h.chg hxM (by omega)
      replace E := E.next hxM (by omega)
      replace hnil := hnil.chg hxM (by omega)
      refine c_seq ?_
      refine c_seq ?_
      refine c_region ?_
      refine w_pure (y_move rfl) rfl ?_
      refine w_pure (y_move rfl) rfl ?_
      refine w_pure (y_nil rfl) rfl ?_
      refine w_pure (y_field rfl) rfl ?_
      refine w_pure (y_loadk rfl) rfl ?_
      refine w_pure (y_lt rfl rfl) rfl ?_
      refine w_nil ?_
      refine x_next ?_
      (refine c_dec rfl (fun hc28 => ?_) (fun hc28 => ?_) <;> try (first | exact absurd rfl hc28 | contradiction | exact Bool.noConfusion (show false = true from hc28.symm.trans (by assumption)) | exact Bool.noConfusion (show true = false from hc28.symm.trans (by assumption)) | (exfalso; omega) | (exfalso; simp only [*, Bool.not_true, Bool.not_false, reduceCtorEq] at hc28; done)))
      refine c_skip ?_
      refine x_next ?_
      refine c_seq ?_
      refine c_block ?_
      refine c_seq ?_
      refine c_region_calm mixed (by decide +kernel) (by kernel_rfl) ?_
      refine q_pure (y_move rfl) rfl ?_
      refine q_pure (y_move rfl) rfl ?_
      refine q_pure (y_index rfl rfl) rfl ?_
      refine q_pure (y_load_int rfl) rfl ?_
      refine q_pure (y_move rfl) rfl ?_
      refine q_pure (y_move rfl) rfl ?_
      refine q_pure (y_index rfl rfl) rfl ?_
      refine q_pure (y_load_int rfl) rfl ?_
      refine q_pure (y_eq rfl rfl) rfl ?_
      refine q_nil (fun ws28 hxs28 hzs28 => ?_)
      have hz_hxs28 := hxs28.size
      replace EM := EM.next hxs28 (by omega)
      replace kb := kb.ext hxs28
      replace kr := kr.ext hxs28
      replace k3 := k3.ext hxs28
      replace EL := EL.next hxs28 (by omega)
      replace hp := hp.ext hxs28
      replace h := h.ext hxs28
      replace E := E.trans hxs28
      replace hnil := hnil.ext hxs28
      refine x_next ?_
      (refine c_dec rfl (fun hc39 => ?_) (fun hc39 => ?_) <;> try (first | exact absurd rfl hc39 | contradiction | exact Bool.noConfusion (show false = true from hc39.symm.trans (by assumption)) | exact Bool.noConfusion (show true = false from hc39.symm.trans (by assumption)) | (exfalso; omega) | (exfalso; simp only [*, Bool.not_true, Bool.not_false, reduceCtorEq] at hc39; done)))
      refine c_region ?_
      refine w_pure (y_move rfl) rfl ?_
      refine w_pure (y_move rfl) rfl ?_
      refine w_pure (y_move rfl) rfl ?_
      refine w_lit (α := Int) rfl rfl rfl rfl rfl rfl rfl rfl (fun v43 w43 ho43 hx43 hl43 hh43 hs43 => ?_)
      have hl_ho43 := ho43.lt
      have hz_hx43 := hx43.size
      replace EM := EM.next hx43 (by omega)
      replace kb := kb.ext hx43
      replace kr := kr.ext hx43
      replace k3 := k3.ext hx43
      replace EL := EL.next hx43 (by omega)
      replace hp := hp.ext hx43
      replace h := h.ext hx43
      replace E := E.trans hx43
      replace hnil := hnil.ext hx43
      refine w_lit_sv rfl rfl (k := fun v44 w44 ho44 hx44 hl44 hh44 hs44 => ?_)
      have hl_ho44 := ho44.lt
      have hz_hx44 := hx44.size
      replace ho43 := ho43.ext hx44
      replace EM := EM.next hx44 (by omega)
      replace kb := kb.ext hx44
      replace kr := kr.ext hx44
      replace k3 := k3.ext hx44
      replace EL := EL.next hx44 (by omega)
      replace hp := hp.ext hx44
      replace h := h.ext hx44
      replace E := E.trans hx44
      replace hnil := hnil.ext hx44
      refine w_append_d rfl rfl (k := fun v45 w45 ho45 hx45 hr45 => ?_)
      have hl_ho45 := ho45.lt
      have hz_hx45 := hx45.size
      replace ho44 := ho44.chg hx45 (by omega)
      replace ho43 := ho43.chg hx45 (by omega)
      replace EM := EM.next hx45 (by omega)
      replace kb := kb.chg hx45 (by omega)
      replace kr := kr.chg hx45 (by omega)
      replace EL := EL.next hx45 (by omega)
      replace hp := hp.chg hx45 (by omega)
      replace h := h.chg hx45 (by omega)
      replace E := E.next hx45 (by omega)
      replace hnil := hnil.chg hx45 (by omega)
      refine w_pure (y_assign rfl) rfl ?_
      refine w_nil ?_
      refine x_block_norm ?_
      refine x_next ?_
      refine c_region ?_
      refine w_pure (y_move rfl) rfl ?_
      refine w_pure (y_add rfl rfl) rfl ?_
      refine w_pure (y_assign rfl) rfl ?_
      refine w_nil ?_
      rotate_left
      refine c_skip ?_
      refine x_block_norm ?_
      refine x_next ?_
      refine c_region ?_
      refine w_pure (y_move rfl) rfl ?_
      refine w_pure (y_add rfl rfl) rfl ?_
      refine w_pure (y_assign rfl) rfl ?_
      refine w_nil ?_
      rotate_left
      refine c_exit ?_
      refine x_then_exit ?_
      refine x_then_exit ?_
      refine x_block_hit ?_
      refine x_block_norm ?_
      refine x_next ?_
      refine c_region ?_
      refine w_pure (y_move rfl) rfl ?_
      refine w_pure (y_add rfl rfl) rfl ?_
      refine w_pure (y_assign rfl) rfl ?_
      refine w_nil ?_
      rotate_left
    · refine x_again (k + 1, v45, sus2 ++ [svOf v43]) (by repeat (first | exact trivial | refine ⟨rfl, ?_⟩)) ⟨EM.go, by assumption, by assumption, ?_, by dsimp only; omega, by dsimp only; omega, by dsimp only; omega⟩ (by dsimp only; omega)
      dsimp only
      rw [hsc, if_pos hc39, ← List.append_assoc]
      exact OwnD.wide (by assumption) (by omega) (Nat.le_refl _)
    · refine x_again (k + 1, u2, sus2) (by repeat (first | exact trivial | refine ⟨rfl, ?_⟩)) ⟨EM.go, by assumption, by assumption, ?_, by dsimp only; omega, by dsimp only; omega, by dsimp only; omega⟩ (by dsimp only; omega)
      dsimp only
      rw [hsc, if_neg hc39, List.append_nil]
      exact OwnD.wide (by assumption) (by omega) (Nat.le_refl _)
    · refine x_again (i + 1, u2, sus2) (by repeat (first | exact trivial | refine ⟨rfl, ?_⟩)) ⟨EL.go, by assumption, by assumption, ?_, by dsimp only; omega, by dsimp only; omega, by dsimp only; omega⟩ (by dsimp only; omega)
      dsimp only
      rw [pairP_succ hi0 (show k = e by omega) (by omega)]
      exact OwnD.wide (by assumption) (by omega) (Nat.le_refl _)
  · refine x_retv [_] rfl ⟨rfl, trivial⟩ ⟨sus, ?_, E.go⟩
    rw [show i = e by omega] at g3
    exact OwnD.wide g3 (by omega) (Nat.le_refl _)
theorem iSneakPairs_c (h : SL w lo hi v ws := by repeat (first | assumption | exact Go.Gw.Own.sl (by assumption) | exact Go.Gw.Box.at (by assumption) | exact Go.Gw.SLL.el (by first | assumption | exact Go.Gw.OwnD.sll (by assumption)) _ (by omega) | exact Go.Gw.SLL.at (by first | assumption | exact Go.Gw.OwnD.sll (by assumption)) (by omega) | exact Go.Gw.OwnD.sll (by assumption) | (apply Go.Gw.SL.chg; case hx => assumption) | (apply Go.Gw.Own.chg; case hx => assumption) | (apply Go.Gw.Box.chg; case hx => assumption) | (apply Go.Gw.At.chg; case hx => assumption) | exact .inl (Nat.zero_le _) | exact .inr (Nat.zero_le _) | (show _ ∨ _; omega))) : Ret Try.prog 31 [.agg #[.int .i64 e, .int .i64 n, .int .i64 j, v]] w fun u w' => ∃ d sus, u = .tuple #[d, .int .i64 (cBrd e n j ws)] ∧ OwnD w' 38 w.heap.size w'.heap.size sus d (resPair e n j ws) ∧ Ext w w' := by
  have E : Since 0 0 w w := Since.refl 0 0 w
  by_cases hk : okB e n j ws = true
  · have hn := okB_num hk
    have hw := okB_getD hk
    refine ret_enter Try.func31 rfl Try.ntmps31 rfl ?_
    focus
      have ht_h := h.top
      refine c_seq ?_
      refine c_region ?_
      refine w_box rfl (k := fun b1 w1 hb1 hx1 hl1 hs1 => ?_)
      have hz_hx1 := hx1.size
      replace h := h.ext hx1
      replace E := E.trans hx1
      refine w_pure (y_assign rfl) rfl ?_
      refine w_pure (y_assign rfl) rfl ?_
      refine w_nil ?_
      refine x_next ?_
      refine c_seq ?_
      refine c_seq ?_
      refine c_region ?_
      refine w_pure (y_load_boxs rfl) rfl ?_
      refine w_val rfl rfl rfl (iValidBoard_c) rfl (fun w5 hx5 hz5 => ?_)
      have hz_hx5 := hx5.size
      replace hb1 := hb1.ext hx5
      replace h := h.ext hx5
      replace E := E.trans hx5
      refine w_pure (y_not rfl) rfl ?_
      refine w_nil ?_
      refine x_next ?_
      (refine c_not rfl (fun hc6 => ?_) (fun hc6 => ?_) <;> try (first | exact absurd rfl hc6 | contradiction | exact Bool.noConfusion (show false = true from hc6.symm.trans (by assumption)) | exact Bool.noConfusion (show true = false from hc6.symm.trans (by assumption)) | (exfalso; omega) | (exfalso; simp only [*, Bool.not_true, Bool.not_false, reduceCtorEq] at hc6; done)))
      refine c_skip ?_
      refine x_next ?_
      refine c_seq ?_
      refine c_region ?_
      refine w_pure (y_load_boxs rfl) rfl ?_
      refine w_pure (y_field rfl) rfl ?_
      refine w_pure (y_load_box rfl) rfl ?_
      (refine w_call rfl rfl rfl (sneakPairs_c) rfl ?_; rintro v10 w10 ⟨sus10, ⟨hp1_10, hx10⟩⟩)
      have hl_hp1_10 := hp1_10.lt
      have hz_hx10 := hx10.size
      replace hb1 := hb1.ext hx10
      replace h := h.ext hx10
      replace E := E.trans hx10
      refine w_pure (y_assign rfl) rfl ?_
      refine w_pure (y_assign rfl) rfl ?_
      refine w_nil ?_
      refine x_next ?_
      refine c_ret ?_
      rotate_left
    refine x_retv [_, _] rfl ⟨rfl, rfl, trivial⟩ ⟨_, sus10, by rw [cBrd, if_pos hk]; rfl, ?_, E.go⟩
    unfold resPair netsR; rw [if_pos hk]
    exact OwnD.wide (OwnD.low (by assumption) (by omega)) (by omega) (Nat.le_refl _)
  · refine ret_enter Try.func31 rfl Try.ntmps31 rfl ?_
    focus
      have ht_h := h.top
      refine c_seq ?_
      refine c_region ?_
      refine w_box rfl (k := fun b1 w1 hb1 hx1 hl1 hs1 => ?_)
      have hz_hx1 := hx1.size
      replace h := h.ext hx1
      replace E := E.trans hx1
      refine w_pure (y_assign rfl) rfl ?_
      refine w_pure (y_assign rfl) rfl ?_
      refine w_nil ?_
      refine x_next ?_
      refine c_seq ?_
      refine c_seq ?_
      refine c_region ?_
      refine w_pure (y_load_boxs rfl) rfl ?_
      refine w_val rfl rfl rfl (iValidBoard_c) rfl (fun w5 hx5 hz5 => ?_)
      have hz_hx5 := hx5.size
      replace hb1 := hb1.ext hx5
      replace h := h.ext hx5
      replace E := E.trans hx5
      refine w_pure (y_not rfl) rfl ?_
      refine w_nil ?_
      refine x_next ?_
      (refine c_not rfl (fun hc6 => ?_) (fun hc6 => ?_) <;> try (first | exact absurd rfl hc6 | contradiction | exact Bool.noConfusion (show false = true from hc6.symm.trans (by assumption)) | exact Bool.noConfusion (show true = false from hc6.symm.trans (by assumption)) | (exfalso; omega) | (exfalso; simp only [*, Bool.not_true, Bool.not_false, reduceCtorEq] at hc6; done)))
      refine c_seq ?_
      refine c_region ?_
      refine w_pure (y_assign rfl) rfl ?_
      refine w_pure (y_assign rfl) rfl ?_
      refine w_nil ?_
      refine x_next ?_
      refine c_ret ?_
      refine x_then_ret ?_
      rotate_left
    refine x_retv [_, _] rfl ⟨rfl, rfl, trivial⟩ ⟨_, [], by rw [cBrd, if_neg hk]; rfl, ?_, E.go⟩
    unfold resPair; rw [if_neg hk]
    exact OwnD.nil _ _ _ _ (Nat.le_refl _)
theorem sSneakPairs_c (h : SL w lo hi v ws := by repeat (first | assumption | exact Go.Gw.Own.sl (by assumption) | exact Go.Gw.Box.at (by assumption) | exact Go.Gw.SLL.el (by first | assumption | exact Go.Gw.OwnD.sll (by assumption)) _ (by omega) | exact Go.Gw.SLL.at (by first | assumption | exact Go.Gw.OwnD.sll (by assumption)) (by omega) | exact Go.Gw.OwnD.sll (by assumption) | (apply Go.Gw.SL.chg; case hx => assumption) | (apply Go.Gw.Own.chg; case hx => assumption) | (apply Go.Gw.Box.chg; case hx => assumption) | (apply Go.Gw.At.chg; case hx => assumption) | exact .inl (Nat.zero_le _) | exact .inr (Nat.zero_le _) | (show _ ∨ _; omega))) : Ret Try.prog 33 [.agg #[.int .i64 e, .int .i64 n, .int .i64 j, v]] w fun u w' => ∃ d sus, u = .tuple #[d, .int .i64 (cBrd e n j ws)] ∧ OwnD w' 38 w.heap.size w'.heap.size sus d (resPair e n j ws) ∧ Ext w w' := by
  have E : Since 0 0 w w := Since.refl 0 0 w
  by_cases hk : okB e n j ws = true
  · have hn := okB_num hk
    have hw := okB_getD hk
    refine ret_enter Try.func33 rfl Try.ntmps33 rfl ?_
    focus
      have ht_h := h.top
      refine c_seq ?_
      refine c_region ?_
      refine w_box rfl (k := fun b1 w1 hb1 hx1 hl1 hs1 => ?_)
      have hz_hx1 := hx1.size
      replace h := h.ext hx1
      replace E := E.trans hx1
      refine w_pure (y_assign rfl) rfl ?_
      refine w_pure (y_assign rfl) rfl ?_
      refine w_nil ?_
      refine x_next ?_
      refine c_seq ?_
      refine c_seq ?_
      refine c_region ?_
      refine w_val rfl rfl rfl (l12Ok_c) rfl (fun w4 hx4 hz4 => ?_)
      have hz_hx4 := hx4.size
      replace hb1 := hb1.ext hx4
      replace h := h.ext hx4
      replace E := E.trans hx4
      refine w_pure (y_not rfl) rfl ?_
      refine w_nil ?_
      refine x_next ?_
      (refine c_not rfl (fun hc5 => ?_) (fun hc5 => ?_) <;> try (first | exact absurd rfl hc5 | contradiction | exact Bool.noConfusion (show false = true from hc5.symm.trans (by assumption)) | exact Bool.noConfusion (show true = false from hc5.symm.trans (by assumption)) | (exfalso; omega) | (exfalso; simp only [*, Bool.not_true, Bool.not_false, reduceCtorEq] at hc5; done)))
      refine c_skip ?_
      refine x_next ?_
      refine c_seq ?_
      refine c_region ?_
      (refine w_call rfl rfl rfl (l12Pairs_c) rfl ?_; rintro v6 w6 ⟨sus6, ⟨hp1_6, hx6⟩⟩)
      have hl_hp1_6 := hp1_6.lt
      have hz_hx6 := hx6.size
      replace hb1 := hb1.ext hx6
      replace h := h.ext hx6
      replace E := E.trans hx6
      refine w_pure (y_assign rfl) rfl ?_
      refine w_pure (y_assign rfl) rfl ?_
      refine w_nil ?_
      refine x_next ?_
      refine c_ret ?_
      rotate_left
    refine x_retv [_, _] rfl ⟨rfl, rfl, trivial⟩ ⟨_, sus6, by rw [cBrd, if_pos hk]; rfl, ?_, E.go⟩
    unfold resPair netsR; rw [if_pos hk]
    exact OwnD.wide (OwnD.low (by assumption) (by omega)) (by omega) (Nat.le_refl _)
  · refine ret_enter Try.func33 rfl Try.ntmps33 rfl ?_
    focus
      have ht_h := h.top
      refine c_seq ?_
      refine c_region ?_
      refine w_box rfl (k := fun b1 w1 hb1 hx1 hl1 hs1 => ?_)
      have hz_hx1 := hx1.size
      replace h := h.ext hx1
      replace E := E.trans hx1
      refine w_pure (y_assign rfl) rfl ?_
      refine w_pure (y_assign rfl) rfl ?_
      refine w_nil ?_
      refine x_next ?_
      refine c_seq ?_
      refine c_seq ?_
      refine c_region ?_
      refine w_val rfl rfl rfl (l12Ok_c) rfl (fun w4 hx4 hz4 => ?_)
      have hz_hx4 := hx4.size
      replace hb1 := hb1.ext hx4
      replace h := h.ext hx4
      replace E := E.trans hx4
      refine w_pure (y_not rfl) rfl ?_
      refine w_nil ?_
      refine x_next ?_
      (refine c_not rfl (fun hc5 => ?_) (fun hc5 => ?_) <;> try (first | exact absurd rfl hc5 | contradiction | exact Bool.noConfusion (show false = true from hc5.symm.trans (by assumption)) | exact Bool.noConfusion (show true = false from hc5.symm.trans (by assumption)) | (exfalso; omega) | (exfalso; simp only [*, Bool.not_true, Bool.not_false, reduceCtorEq] at hc5; done)))
      refine c_seq ?_
      refine c_region ?_
      refine w_pure (y_assign rfl) rfl ?_
      refine w_pure (y_assign rfl) rfl ?_
      refine w_nil ?_
      refine x_next ?_
      refine c_ret ?_
      refine x_then_ret ?_
      rotate_left
    refine x_retv [_, _] rfl ⟨rfl, rfl, trivial⟩ ⟨_, [], by rw [cBrd, if_neg hk]; rfl, ?_, E.go⟩
    unfold resPair; rw [if_neg hk]
    exact OwnD.nil _ _ _ _ (Nat.le_refl _)
end
end Go.Proofs.Ythigkbkaeopipaa

/- Contracts: the fewest cuts, as the reference finds them. -/
import Derived.Test.YthigkbkaeopipaaBrdH
import Derived.Test.YthigkbkaeopipaaBoaP
import Derived.Test.YthigkbkaeopipaaL24
namespace Go.Proofs.Ythigkbkaeopipaa
open Go Go.Gw
set_option linter.unusedVariables false
set_option linter.unusedSimpArgs false
theorem cutF_step (p : List Int → Bool) (m : Nat) (l gone : List Int) (i : Nat) (h : i < l.length) : cutF p (m + 1) (l.drop i) gone = match cutF p m (l.drop (i + 1)) (gone ++ [l.getD i 0]) with
    | some r => some r
    | none => cutF p (m + 1) (l.drop (i + 1)) gone := by
  rw [List.drop_eq_getElem_cons h, cutF, List.getD_eq_getElem?_getD, List.getElem?_eq_getElem h]; rfl
/-- what the fewest cuts are taken from -/
def ownL (e n j : Int) (ws : List (Int × Int)) : List Int := ownF (netsR e n j ws) e.toNat ws
def worksP (e n j : Int) (ws : List (Int × Int)) (c : List Int) : Bool := worksB (e + n + j).toNat e.toNat ws c
def cFew (e n j : Int) (ws : List (Int × Int)) : Int := if okB e n j ws = true then (if (ownL e n j ws).length ≤ 10 then 0 else 5) else 1
def resFew (e n j : Int) (ws : List (Int × Int)) : List Int := if cFew e n j ws = 0 then (fewR (worksP e n j ws) (ownL e n j ws) ((ownL e n j ws).length + 1)).getD [] else []
theorem ownL_lt (e n j : Int) (ws : List (Int × Int)) : (ownL e n j ws).Pairwise (· < ·) := colsP_lt _ _
theorem ownL_len (e n j : Int) (ws : List (Int × Int)) : (ownL e n j ws).length ≤ ws.length := colsP_len _ _
theorem okB_h {e n j : Int} {ws : List (Int × Int)} (h : okB e n j ws = true) : ∀ i, i < ws.length → 0 ≤ (ws.getD i (0, 0)).1 ∧ (ws.getD i (0, 0)).1 < (ws.getD i (0, 0)).2 ∧ (ws.getD i (0, 0)).2 < ((e + n + j).toNat : Int) := fun i hi => by
  have h1 := okB_num h
  have := okB_getD h i hi
  omega
theorem ownL_works {e n j : Int} {ws : List (Int × Int)} (h : okB e n j ws = true) : worksP e n j ws (ownL e n j ws) = true := by
  have h1 := okB_num h
  exact own_works (e + n + j).toNat e.toNat (by omega) ws (okB_h h)
theorem resFew_some {e n j : Int} {ws : List (Int × Int)} (h : cFew e n j ws = 0) : okB e n j ws = true ∧ (ownL e n j ws).length ≤ 10 ∧ fewR (worksP e n j ws) (ownL e n j ws) ((ownL e n j ws).length + 1) = some (resFew e n j ws) := by
  by_cases hk : okB e n j ws = true
  · by_cases hl : (ownL e n j ws).length ≤ 10
    · refine ⟨hk, hl, ?_⟩
      obtain ⟨r, hr⟩ := fewR_some (ownL_works hk)
      rw [resFew, if_pos h, hr]; rfl
    · simp [cFew, hk, hl] at h
  · simp [cFew, hk] at h
theorem resFew_least {e n j : Int} {ws : List (Int × Int)} (h : cFew e n j ws = 0) : Least (worksP e n j ws) (ownL e n j ws) (resFew e n j ws) := fewR_least (ownL_lt e n j ws) (resFew_some h).2.2
theorem subs_le (l : List Int) (n : Nat) (c : List Int) (h : c ∈ subs n l) : c.length ≤ l.length := by
  by_cases g : l.length < n
  · rw [subs_nil g] at h; simp at h
  · rw [subs_len l n c h]; omega
theorem resFew_len (e n j : Int) (ws : List (Int × Int)) : (resFew e n j ws).length ≤ 10 := by
  by_cases h : cFew e n j ws = 0
  · have h1 := (resFew_least h).mem
    have h2 := subs_le _ _ _ h1
    have h3 := (resFew_some h).2.1
    omega
  · rw [resFew, if_neg h]; simp
section
variable {w : World} {v v' vB : Value} {xs ys wo : List Int} {ws : List (Int × Int)} {lo hi lo' hi' b b' : Nat} {e n j : Int}
set_option maxHeartbeats 4000000 in
theorem l12PairsW_c (hp : At w b 0 [.int .i64 e, .int .i64 n, .int .i64 j, v] := by repeat (first | assumption | exact Go.Gw.Own.sl (by assumption) | exact Go.Gw.Box.at (by assumption) | exact Go.Gw.SLL.el (by first | assumption | exact Go.Gw.OwnD.sll (by assumption)) _ (by omega) | exact Go.Gw.SLL.at (by first | assumption | exact Go.Gw.OwnD.sll (by assumption)) (by omega) | exact Go.Gw.OwnD.sll (by assumption) | (apply Go.Gw.SL.chg; case hx => assumption) | (apply Go.Gw.Own.chg; case hx => assumption) | (apply Go.Gw.Box.chg; case hx => assumption) | (apply Go.Gw.At.chg; case hx => assumption) | exact .inl (Nat.zero_le _) | exact .inr (Nat.zero_le _) | (show _ ∨ _; omega))) (h : SL w lo hi v ws := by repeat (first | assumption | exact Go.Gw.Own.sl (by assumption) | exact Go.Gw.Box.at (by assumption) | exact Go.Gw.SLL.el (by first | assumption | exact Go.Gw.OwnD.sll (by assumption)) _ (by omega) | exact Go.Gw.SLL.at (by first | assumption | exact Go.Gw.OwnD.sll (by assumption)) (by omega) | exact Go.Gw.OwnD.sll (by assumption) | (apply Go.Gw.SL.chg; case hx => assumption) | (apply Go.Gw.Own.chg; case hx => assumption) | (apply Go.Gw.Box.chg; case hx => assumption) | (apply Go.Gw.At.chg; case hx => assumption) | exact .inl (Nat.zero_le _) | exact .inr (Nat.zero_le _) | (show _ ∨ _; omega))) (h2 : SL w lo' hi' v' wo := by repeat (first | assumption | exact Go.Gw.Own.sl (by assumption) | exact Go.Gw.Box.at (by assumption) | exact Go.Gw.SLL.el (by first | assumption | exact Go.Gw.OwnD.sll (by assumption)) _ (by omega) | exact Go.Gw.SLL.at (by first | assumption | exact Go.Gw.OwnD.sll (by assumption)) (by omega) | exact Go.Gw.OwnD.sll (by assumption) | (apply Go.Gw.SL.chg; case hx => assumption) | (apply Go.Gw.Own.chg; case hx => assumption) | (apply Go.Gw.Box.chg; case hx => assumption) | (apply Go.Gw.At.chg; case hx => assumption) | exact .inl (Nat.zero_le _) | exact .inr (Nat.zero_le _) | (show _ ∨ _; omega))) (hh : 0 ≤ e + n + j ∧ e + n + j ≤ 30 ∧ 0 ≤ e + n ∧ e + n ≤ 1000 ∧ 0 ≤ e ∧ e ≤ e + n + j := by omega) (hw : ∀ i, i < ws.length → 0 ≤ (ws.getD i (0, 0)).1 ∧ (ws.getD i (0, 0)).1 < (ws.getD i (0, 0)).2 ∧ (ws.getD i (0, 0)).2 < e + n + j := by assumption) :
    Ret Try.prog 109 [ptr b 0, v'] w fun u w' => ∃ sus, OwnD w' 38 w.heap.size w'.heap.size sus u (pairP (rootsW (e + n + j).toNat ws wo ws.length) e.toNat e.toNat) ∧ Ext w w' := by
  have hrl := rootsW_len (e + n + j).toNat ws wo ws.length
  have E : Since 0 0 w w := Since.refl 0 0 w
  have hbl := hp.lt
  refine ret_enter Try.func109 rfl Try.ntmps109 rfl ?_
  focus
    have ht_h := h.top
    have ht_h2 := h2.top
    refine c_seq ?_
    refine c_region ?_
    refine w_pure (y_assign rfl) rfl ?_
    refine w_nil ?_
    refine x_next ?_
    refine c_seq ?_
    refine c_region ?_
    refine w_pure (y_move rfl) rfl ?_
    refine w_pure (y_move rfl) rfl ?_
    (refine w_call rfl rfl rfl (l12Roots_c) rfl ?_; rintro v11 w11 ⟨hp1_11, hx11⟩)
    have hl_hp1_11 := hp1_11.lt
    have hz_hx11 := hx11.size
    replace hp := hp.ext hx11
    replace h := h.ext hx11
    replace h2 := h2.ext hx11
    replace E := E.trans hx11
    refine w_pure (y_assign rfl) rfl ?_
    refine w_nil ?_
    refine x_next ?_
    refine c_seq ?_
    refine c_region ?_
    refine w_lit_d0 rfl (k := fun v12 w12 ho12 hx12 hl12 hh12 hs12 => ?_)
    have hl_ho12 := ho12.lt
    have hz_hx12 := hx12.size
    replace hp1_11 := hp1_11.ext hx12
    replace hp := hp.ext hx12
    replace h := h.ext hx12
    replace h2 := h2.ext hx12
    replace E := E.trans hx12
    refine w_pure (y_assign rfl) rfl ?_
    refine w_nil ?_
    refine x_next ?_
    refine c_seq ?_
    refine c_seq ?_
    refine c_region ?_
    refine w_pure (y_assign rfl) rfl ?_
    refine w_nil ?_
    refine x_next ?_
    refine c_block ?_
    rotate_left
  generalize hr : rootsW (e + n + j).toNat ws wo ws.length = r at *
  refine c_loopC (bL v12) (bH v12) (ι := Int × Value × List SV) (fun x => [(0, ptr b 0), (5, v11), (6, x.2.1), (7, .int .i64 x.1)])
    (fun x w' => At w' b 0 [.int .i64 e, .int .i64 n, .int .i64 j, v] ∧ Own w' 2 w.heap.size v11 r ∧ OwnD w' 38 w.heap.size w'.heap.size x.2.2 x.2.1 (pairP r e.toNat x.1.toNat) ∧ ((bL x.2.1 = bL v12 ∧ bH x.2.1 = bH v12) ∨ w12.heap.size ≤ bL x.2.1) ∧ 0 ≤ x.1 ∧ x.1 ≤ e) (fun x => (e - x.1).toNat) (0, v12, [])
    (by repeat (first | exact trivial | refine ⟨rfl, ?_⟩)) ⟨by assumption, Own.base (by assumption) (by omega), OwnD.wide (ho12.low (by omega)) (by omega) (Nat.le_refl _), .inl ⟨rfl, rfl⟩, by omega, by omega⟩ ?_
  clear ho12 hp1_11
  rintro ⟨i, u, sus⟩ wL hxL EL ⟨gb, gr, g3, g4, hi0, hi1⟩
  dsimp only at *
  have hpl := (pairP_len r e.toNat i.toNat).1
  have hpm : i.toNat * e.toNat ≤ 30 * 30 := Nat.mul_le_mul (by omega) (by omega)
  focus
    have hl_gr := gr.lt
    have hl_g3 := g3.lt
    have hz_hxL := hxL.size
    replace hp := hp.chg hxL (by omega)
    replace h := h.chg hxL (by omega)
    replace h2 := h2.chg hxL (by omega)
    replace E := E.next hxL (by omega)
    refine c_seq ?_
    refine c_seq ?_
    refine c_region ?_
    refine w_pure (y_move rfl) rfl ?_
    refine w_pure (y_move rfl) rfl ?_
    refine w_pure (y_nil rfl) rfl ?_
    refine w_pure (y_field rfl) rfl ?_
    refine w_pure (y_loadk rfl) rfl ?_
    refine w_pure (y_lt rfl rfl) rfl ?_
    refine w_nil ?_
    refine x_next ?_
    (refine c_dec rfl (fun hc18 => ?_) (fun hc18 => ?_) <;> try (first | exact absurd rfl hc18 | contradiction | exact Bool.noConfusion (show false = true from hc18.symm.trans (by assumption)) | exact Bool.noConfusion (show true = false from hc18.symm.trans (by assumption)) | (exfalso; omega) | (exfalso; simp only [*, Bool.not_true, Bool.not_false, reduceCtorEq] at hc18; done)))
    refine c_skip ?_
    refine x_next ?_
    refine c_seq ?_
    refine c_block ?_
    refine c_seq ?_
    refine c_region ?_
    refine w_pure (y_move rfl) rfl ?_
    refine w_pure (y_add rfl rfl) rfl ?_
    refine w_pure (y_assign rfl) rfl ?_
    refine w_nil ?_
    refine x_next ?_
    refine c_block ?_
    rotate_left
    refine c_exit ?_
    refine x_then_exit ?_
    refine x_then_exit ?_
    refine x_block_hit ?_
    refine x_next ?_
    refine c_seq ?_
    refine c_region ?_
    refine w_pure (y_move rfl) rfl ?_
    refine w_pure (y_assign rfl) rfl ?_
    refine w_nil ?_
    refine x_next ?_
    refine c_ret ?_
    rotate_left
  · refine c_loopC (bL u) (bH u) (ι := Int × Value × List SV) (fun x => [(0, ptr b 0), (5, v11), (6, x.2.1), (7, .int .i64 i), (8, .int .i64 x.1)])
      (fun x w' => At w' b 0 [.int .i64 e, .int .i64 n, .int .i64 j, v] ∧ Own w' 2 w.heap.size v11 r ∧ OwnD w' 38 w.heap.size w'.heap.size x.2.2 x.2.1 (pairP r e.toNat i.toNat ++ rowP r i (x.1 - i - 1).toNat) ∧ ((bL x.2.1 = bL u ∧ bH x.2.1 = bH u) ∨ wL.heap.size ≤ bL x.2.1) ∧ i + 1 ≤ x.1 ∧ x.1 ≤ e) (fun x => (e - x.1).toNat) (i + 1, u, sus)
      (by repeat (first | exact trivial | refine ⟨rfl, ?_⟩)) ⟨by assumption, by assumption, by rw [show (i + 1 - i - 1).toNat = 0 by omega, rowP, List.append_nil]; exact OwnD.wide (by assumption) (by omega) (Nat.le_refl _), .inl ⟨rfl, rfl⟩, by omega, by omega⟩ ?_
    clear g3 gr gb
    rintro ⟨k, u2, sus2⟩ wM hxM EM ⟨kb, kr, k3, k4, hk0, hk1⟩
    dsimp only at *
    have hrl2 := (rowP_len r i (k - i - 1).toNat).1
    have hln : (pairP r e.toNat i.toNat ++ rowP r i (k - i - 1).toNat).length ≤ 1000 := by rw [List.length_append]; omega
    have hsc := rowP_succ (r := r) (i := i) (k := k) hk0
    focus
      have hl_kr := kr.lt
      have hl_k3 := k3.lt
      have hz_hxM := hxM.size
      replace EL := EL.next hxM (by omega)
      replace hp := hp.chg hxM (by omega)
      replace h := h.chg hxM (by omega)
      replace h2 := h2.chg hxM (by omega)
      replace E := E.next hxM (by omega)
      refine c_seq ?_
      refine c_seq ?_
      refine c_region ?_
      refine w_pure (y_move rfl) rfl ?_
      refine w_pure (y_move rfl) rfl ?_
      refine w_pure (y_nil rfl) rfl ?_
      refine w_pure (y_field rfl) rfl ?_
      refine w_pure (y_loadk rfl) rfl ?_
      refine w_pure (y_lt rfl rfl) rfl ?_
      refine w_nil ?_
      refine x_next ?_
      (refine c_dec rfl (fun hc28 => ?_) (fun hc28 => ?_) <;> try (first | exact absurd rfl hc28 | contradiction | exact Bool.noConfusion (show false = true from hc28.symm.trans (by assumption)) | exact Bool.noConfusion (show true = false from hc28.symm.trans (by assumption)) | (exfalso; omega) | (exfalso; simp only [*, Bool.not_true, Bool.not_false, reduceCtorEq] at hc28; done)))
      refine c_skip ?_
      refine x_next ?_
      refine c_seq ?_
      refine c_block ?_
      refine c_seq ?_
      refine c_region_calm mixed (by decide +kernel) (by kernel_rfl) ?_
      refine q_pure (y_move rfl) rfl ?_
      refine q_pure (y_move rfl) rfl ?_
      refine q_pure (y_index rfl rfl) rfl ?_
      refine q_pure (y_load_int rfl) rfl ?_
      refine q_pure (y_move rfl) rfl ?_
      refine q_pure (y_move rfl) rfl ?_
      refine q_pure (y_index rfl rfl) rfl ?_
      refine q_pure (y_load_int rfl) rfl ?_
      refine q_pure (y_eq rfl rfl) rfl ?_
      refine q_nil (fun ws28 hxs28 hzs28 => ?_)
      have hz_hxs28 := hxs28.size
      replace EM := EM.next hxs28 (by omega)
      replace kb := kb.ext hxs28
      replace kr := kr.ext hxs28
      replace k3 := k3.ext hxs28
      replace EL := EL.next hxs28 (by omega)
      replace hp := hp.ext hxs28
      replace h := h.ext hxs28
      replace h2 := h2.ext hxs28
      replace E := E.trans hxs28
      refine x_next ?_
      (refine c_dec rfl (fun hc39 => ?_) (fun hc39 => ?_) <;> try (first | exact absurd rfl hc39 | contradiction | exact Bool.noConfusion (show false = true from hc39.symm.trans (by assumption)) | exact Bool.noConfusion (show true = false from hc39.symm.trans (by assumption)) | (exfalso; omega) | (exfalso; simp only [*, Bool.not_true, Bool.not_false, reduceCtorEq] at hc39; done)))
      refine c_region ?_
      refine w_pure (y_move rfl) rfl ?_
      refine w_pure (y_move rfl) rfl ?_
      refine w_pure (y_move rfl) rfl ?_
      refine w_lit (α := Int) rfl rfl rfl rfl rfl rfl rfl rfl (fun v43 w43 ho43 hx43 hl43 hh43 hs43 => ?_)
      have hl_ho43 := ho43.lt
      have hz_hx43 := hx43.size
      replace EM := EM.next hx43 (by omega)
      replace kb := kb.ext hx43
      replace kr := kr.ext hx43
      replace k3 := k3.ext hx43
      replace EL := EL.next hx43 (by omega)
      replace hp := hp.ext hx43
      replace h := h.ext hx43
      replace h2 := h2.ext hx43
      replace E := E.trans hx43
      refine w_lit_sv rfl rfl (k := fun v44 w44 ho44 hx44 hl44 hh44 hs44 => ?_)
      have hl_ho44 := ho44.lt
      have hz_hx44 := hx44.size
      replace ho43 := ho43.ext hx44
      replace EM := EM.next hx44 (by omega)
      replace kb := kb.ext hx44
      replace kr := kr.ext hx44
      replace k3 := k3.ext hx44
      replace EL := EL.next hx44 (by omega)
      replace hp := hp.ext hx44
      replace h := h.ext hx44
      replace h2 := h2.ext hx44
      replace E := E.trans hx44
      refine w_append_d rfl rfl (k := fun v45 w45 ho45 hx45 hr45 => ?_)
      have hl_ho45 := ho45.lt
      have hz_hx45 := hx45.size
      replace ho44 := ho44.chg hx45 (by omega)
      replace ho43 := ho43.chg hx45 (by omega)
      replace EM := EM.next hx45 (by omega)
      replace kb := kb.chg hx45 (by omega)
      replace kr := kr.chg hx45 (by omega)
      replace EL := EL.next hx45 (by omega)
      replace hp := hp.chg hx45 (by omega)
      replace h := h.chg hx45 (by omega)
      replace h2 := h2.chg hx45 (by omega)
      replace E := E.next hx45 (by omega)
      refine w_pure (y_assign rfl) rfl ?_
      refine w_nil ?_
      refine x_block_norm ?_
      refine x_next ?_
      refine c_region ?_
      refine w_pure (y_move rfl) rfl ?_
      refine w_pure (y_add rfl rfl) rfl ?_
      refine w_pure (y_assign rfl) rfl ?_
      refine w_nil ?_
      rotate_left
      refine c_skip ?_
      refine x_block_norm ?_
      refine x_next ?_
      refine c_region ?_
      refine w_pure (y_move rfl) rfl ?_
      refine w_pure (y_add rfl rfl) rfl ?_
      refine w_pure (y_assign rfl) rfl ?_
      refine w_nil ?_
      rotate_left
      refine c_exit ?_
      refine x_then_exit ?_
      refine x_then_exit ?_
      refine x_block_hit ?_
      refine x_block_norm ?_
      refine x_next ?_
      refine c_region ?_
      refine w_pure (y_move rfl) rfl ?_
      refine w_pure (y_add rfl rfl) rfl ?_
      refine w_pure (y_assign rfl) rfl ?_
      refine w_nil ?_
      rotate_left
    · refine x_again (k + 1, v45, sus2 ++ [svOf v43]) (by repeat (first | exact trivial | refine ⟨rfl, ?_⟩)) ⟨EM.go, by assumption, by assumption, ?_, by dsimp only; omega, by dsimp only; omega, by dsimp only; omega⟩ (by dsimp only; omega)
      dsimp only
      rw [hsc, if_pos hc39, ← List.append_assoc]
      exact OwnD.wide (by assumption) (by omega) (Nat.le_refl _)
    · refine x_again (k + 1, u2, sus2) (by repeat (first | exact trivial | refine ⟨rfl, ?_⟩)) ⟨EM.go, by assumption, by assumption, ?_, by dsimp only; omega, by dsimp only; omega, by dsimp only; omega⟩ (by dsimp only; omega)
      dsimp only
      rw [hsc, if_neg hc39, List.append_nil]
      exact OwnD.wide (by assumption) (by omega) (Nat.le_refl _)
    · refine x_again (i + 1, u2, sus2) (by repeat (first | exact trivial | refine ⟨rfl, ?_⟩)) ⟨EL.go, by assumption, by assumption, ?_, by dsimp only; omega, by dsimp only; omega, by dsimp only; omega⟩ (by dsimp only; omega)
      dsimp only
      rw [pairP_succ hi0 (show k = e by omega) (by omega)]
      exact OwnD.wide (by assumption) (by omega) (Nat.le_refl _)
  · refine x_retv [_] rfl ⟨rfl, trivial⟩ ⟨sus, ?_, E.go⟩
    rw [show i = e by omega] at g3
    exact OwnD.wide g3 (by omega) (Nat.le_refl _)
theorem l12Sneaky_c (hp : At w b 0 [.int .i64 e, .int .i64 n, .int .i64 j, v] := by repeat (first | assumption | exact Go.Gw.Own.sl (by assumption) | exact Go.Gw.Box.at (by assumption) | exact Go.Gw.SLL.el (by first | assumption | exact Go.Gw.OwnD.sll (by assumption)) _ (by omega) | exact Go.Gw.SLL.at (by first | assumption | exact Go.Gw.OwnD.sll (by assumption)) (by omega) | exact Go.Gw.OwnD.sll (by assumption) | (apply Go.Gw.SL.chg; case hx => assumption) | (apply Go.Gw.Own.chg; case hx => assumption) | (apply Go.Gw.Box.chg; case hx => assumption) | (apply Go.Gw.At.chg; case hx => assumption) | exact .inl (Nat.zero_le _) | exact .inr (Nat.zero_le _) | (show _ ∨ _; omega))) (hk : okB e n j ws = true := by assumption) (h : SL w lo hi v ws := by repeat (first | assumption | exact Go.Gw.Own.sl (by assumption) | exact Go.Gw.Box.at (by assumption) | exact Go.Gw.SLL.el (by first | assumption | exact Go.Gw.OwnD.sll (by assumption)) _ (by omega) | exact Go.Gw.SLL.at (by first | assumption | exact Go.Gw.OwnD.sll (by assumption)) (by omega) | exact Go.Gw.OwnD.sll (by assumption) | (apply Go.Gw.SL.chg; case hx => assumption) | (apply Go.Gw.Own.chg; case hx => assumption) | (apply Go.Gw.Box.chg; case hx => assumption) | (apply Go.Gw.At.chg; case hx => assumption) | exact .inl (Nat.zero_le _) | exact .inr (Nat.zero_le _) | (show _ ∨ _; omega))) : Ret Try.prog 126 [ptr b 0] w fun u w' => Own w' 2 w.heap.size u (ownL e n j ws) ∧ Ext w w' := by
  have E : Since 0 0 w w := Since.refl 0 0 w
  have hbl := hp.lt
  have hnil := nilI w
  have q1 := okB_num hk
  have hw := fun i hi => okB_getD hk i hi
  have q2 := rootsW_len (e + n + j).toNat ws [] ws.length
  refine ret_enter Try.func126 rfl Try.ntmps126 rfl ?_
  focus
    have ht_h := h.top
    have ht_hnil := hnil.top
    refine c_seq ?_
    refine c_region ?_
    refine w_pure (y_assign rfl) rfl ?_
    refine w_nil ?_
    refine x_next ?_
    refine c_seq ?_
    refine c_region ?_
    refine w_pure (y_move rfl) rfl ?_
    (refine w_call rfl rfl rfl (l12Roots_c) rfl ?_; rintro v7 w7 ⟨hp1_7, hx7⟩)
    have hl_hp1_7 := hp1_7.lt
    have hz_hx7 := hx7.size
    replace hp := hp.ext hx7
    replace h := h.ext hx7
    replace E := E.trans hx7
    replace hnil := hnil.ext hx7
    refine w_pure (y_assign rfl) rfl ?_
    refine w_nil ?_
    refine x_next ?_
    refine c_seq ?_
    refine c_region ?_
    refine w_lit (α := Int) rfl rfl rfl rfl rfl rfl rfl rfl (fun v8 w8 ho8 hx8 hl8 hh8 hs8 => ?_)
    have hl_ho8 := ho8.lt
    have hz_hx8 := hx8.size
    replace hp1_7 := hp1_7.ext hx8
    replace hp := hp.ext hx8
    replace h := h.ext hx8
    replace E := E.trans hx8
    replace hnil := hnil.ext hx8
    refine w_pure (y_assign rfl) rfl ?_
    refine w_nil ?_
    refine x_next ?_
    refine c_seq ?_
    refine c_seq ?_
    refine c_region ?_
    refine w_pure (y_assign rfl) rfl ?_
    refine w_nil ?_
    refine x_next ?_
    refine c_block ?_
    rotate_left
  refine c_loopC (bL v8) (bH v8) (ι := Nat × Value) (fun x => [(0, ptr b 0), (3, v7), (4, x.2), (5, .int .i64 x.1)])
    (fun x w' => Own w' 2 (bL v8) x.2 (colsP (fun k => decide (2 ≤ (exitsF (netsR e n j ws) e.toNat (ws.getD k.toNat (0, 0)).1.toNat).length)) x.1) ∧ x.1 ≤ ws.length ∧ ((bL x.2 = bL v8 ∧ bH x.2 = bH v8) ∨ w8.heap.size ≤ bL x.2)) (fun x => ws.length - x.1) (0, v8) (by repeat (first | exact trivial | refine ⟨rfl, ?_⟩)) ⟨ho8.rebase (.inr (Nat.le_refl _)), by simp, .inl ⟨rfl, rfl⟩⟩ ?_
  rintro ⟨i, u⟩ wL hxL EL ⟨ho, hi, hbl2⟩
  dsimp only at *
  clear ho8
  have q3 := colsP_len (fun k => decide (2 ≤ (exitsF (netsR e n j ws) e.toNat (ws.getD k.toNat (0, 0)).1.toNat).length)) i
  by_cases hlt : i < ws.length
  · have q5 := hw i hlt
    have q6 : 0 ≤ (ws.getD (i : Int).toNat (0, 0)).1 ∧ (ws.getD (i : Int).toNat (0, 0)).1 < (ws.getD (i : Int).toNat (0, 0)).2 ∧ (ws.getD (i : Int).toNat (0, 0)).2 < e + n + j := q5
    have q4 : (colsP (fun x => decide ((rootsW (e + n + j).toNat ws [] ws.length).getD (0 + x).toNat 0 = (rootsW (e + n + j).toNat ws [] ws.length).getD (ws.getD (i : Int).toNat (0, 0)).1.toNat 0)) (e - 0).toNat) = exitsF (netsR e n j ws) e.toNat (ws.getD i (0, 0)).1.toNat := by
      rw [netsW]; simp only [Int.zero_add, Int.sub_zero]; rfl
    focus
      have hl_ho := ho.lt
      have hz_hxL := hxL.size
      replace hp1_7 := hp1_7.chg hxL (by omega)
      replace hp := hp.chg hxL (by omega)
      replace h := h.chg hxL (by omega)
      replace E := E.next hxL (by omega)
      replace hnil := hnil.chg hxL (by omega)
      refine c_seq ?_
      refine c_seq ?_
      refine c_region ?_
      refine w_pure (y_move rfl) rfl ?_
      refine w_pure (y_move rfl) rfl ?_
      refine w_pure (y_nil rfl) rfl ?_
      refine w_pure (y_field rfl) rfl ?_
      refine w_pure (y_loadk rfl) rfl ?_
      refine w_pure (y_len rfl) rfl ?_
      refine w_pure (y_lt rfl rfl) rfl ?_
      refine w_nil ?_
      refine x_next ?_
      (refine c_dec rfl (fun hc15 => ?_) (fun hc15 => ?_) <;> try (first | exact absurd rfl hc15 | contradiction | exact Bool.noConfusion (show false = true from hc15.symm.trans (by assumption)) | exact Bool.noConfusion (show true = false from hc15.symm.trans (by assumption)) | (exfalso; omega) | (exfalso; simp only [*, Bool.not_true, Bool.not_false, reduceCtorEq] at hc15; done)))
      refine c_skip ?_
      refine x_next ?_
      refine c_seq ?_
      refine c_block ?_
      refine c_seq ?_
      refine c_region_held mixed (fun wr6 hxr6 hzr6 => ?_)
      have hz_hxr6 := hxr6.size
      replace EL := EL.next hxr6 (by omega)
      replace ho := ho.ext hxr6
      replace hp1_7 := hp1_7.ext hxr6
      replace hp := hp.ext hxr6
      replace h := h.ext hxr6
      replace E := E.trans hxr6
      replace hnil := hnil.ext hxr6
      refine h_pure rfl (y_move rfl) rfl ?_
      refine h_pure rfl (y_move rfl) rfl ?_
      refine h_pure rfl (y_nil rfl) rfl ?_
      refine h_pure rfl (y_field rfl) rfl ?_
      refine h_pure rfl (y_loadk rfl) rfl ?_
      refine h_pure rfl (y_move rfl) rfl ?_
      refine h_pure rfl (y_index rfl rfl) rfl ?_
      refine h_pure rfl (y_field rfl) rfl ?_
      refine h_pure rfl (y_load_p0 rfl) rfl ?_
      refine h_pure rfl (y_move rfl) rfl ?_
      refine h_pure rfl (y_nil rfl) rfl ?_
      refine h_pure rfl (y_field rfl) rfl ?_
      refine h_pure rfl (y_loadk rfl) rfl ?_
      refine h_one rfl ?_
      (refine w_call rfl rfl rfl (l12With_c _ _ _) rfl ?_; rintro v31 w31 ⟨hp1_31, hx31⟩)
      have hl_hp1_31 := hp1_31.lt
      have hz_hx31 := hx31.size
      replace EL := EL.next hx31 (by omega)
      replace ho := ho.ext hx31
      replace hp1_7 := hp1_7.ext hx31
      replace hp := hp.ext hx31
      replace h := h.ext hx31
      replace E := E.trans hx31
      replace hnil := hnil.ext hx31
      refine w_nil ?_
      refine x_held ?_
      refine h_pure rfl (y_len rfl) rfl ?_
      refine h_pure rfl (y_ge rfl rfl) rfl ?_
      refine h_nil ?_
      refine x_next ?_
      (refine c_dec rfl (fun hc33 => ?_) (fun hc33 => ?_) <;> try (first | exact absurd rfl hc33 | contradiction | exact Bool.noConfusion (show false = true from hc33.symm.trans (by assumption)) | exact Bool.noConfusion (show true = false from hc33.symm.trans (by assumption)) | (exfalso; omega) | (exfalso; simp only [*, Bool.not_true, Bool.not_false, reduceCtorEq] at hc33; done)))
      refine c_region ?_
      refine w_pure (y_move rfl) rfl ?_
      refine w_pure (y_move rfl) rfl ?_
      refine w_lit (α := Int) rfl rfl rfl rfl rfl rfl rfl rfl (fun v36 w36 ho36 hx36 hl36 hh36 hs36 => ?_)
      have hl_ho36 := ho36.lt
      have hz_hx36 := hx36.size
      replace hp1_31 := hp1_31.ext hx36
      replace EL := EL.next hx36 (by omega)
      replace ho := ho.ext hx36
      replace hp1_7 := hp1_7.ext hx36
      replace hp := hp.ext hx36
      replace h := h.ext hx36
      replace E := E.trans hx36
      replace hnil := hnil.ext hx36
      refine w_append rfl rfl (k := fun v37 w37 ho37 hx37 hr37 => ?_)
      have hl_ho37 := ho37.lt
      have hz_hx37 := hx37.size
      replace ho36 := ho36.chg hx37 (by omega)
      replace hp1_31 := hp1_31.chg hx37 (by omega)
      replace EL := EL.next hx37 (by omega)
      replace hp1_7 := hp1_7.chg hx37 (by omega)
      replace hp := hp.chg hx37 (by omega)
      replace h := h.chg hx37 (by omega)
      replace E := E.next hx37 (by omega)
      replace hnil := hnil.chg hx37 (by omega)
      refine w_pure (y_assign rfl) rfl ?_
      refine w_nil ?_
      refine x_block_norm ?_
      refine x_next ?_
      refine c_region ?_
      refine w_pure (y_move rfl) rfl ?_
      refine w_pure (y_add rfl rfl) rfl ?_
      refine w_pure (y_assign rfl) rfl ?_
      refine w_nil ?_
      rotate_left
      refine c_skip ?_
      refine x_block_norm ?_
      refine x_next ?_
      refine c_region ?_
      refine w_pure (y_move rfl) rfl ?_
      refine w_pure (y_add rfl rfl) rfl ?_
      refine w_pure (y_assign rfl) rfl ?_
      refine w_nil ?_
      rotate_left
    · refine x_again (i + 1, v37) (by repeat (first | exact trivial | refine ⟨rfl, ?_⟩)) ⟨EL.go, ?_, by dsimp only; omega, by dsimp only; omega⟩ (by dsimp only; omega)
      dsimp only
      rw [q4] at hc33
      rw [colsP, if_pos (decide_eq_true (by show 2 ≤ (exitsF (netsR e n j ws) e.toNat (ws.getD i (0, 0)).1.toNat).length; omega))]
      assumption
    · refine x_again (i + 1, u) (by repeat (first | exact trivial | refine ⟨rfl, ?_⟩)) ⟨EL.go, ?_, by dsimp only; omega, by dsimp only; omega⟩ (by dsimp only; omega)
      dsimp only
      rw [q4] at hc33
      rw [colsP, if_neg (by rw [decide_eq_false (by show ¬ 2 ≤ (exitsF (netsR e n j ws) e.toNat (ws.getD i (0, 0)).1.toNat).length; omega)]; simp), List.append_nil]
      exact ho
  · focus
      have hl_ho := ho.lt
      have hz_hxL := hxL.size
      replace hp1_7 := hp1_7.chg hxL (by omega)
      replace hp := hp.chg hxL (by omega)
      replace h := h.chg hxL (by omega)
      replace E := E.next hxL (by omega)
      replace hnil := hnil.chg hxL (by omega)
      refine c_seq ?_
      refine c_seq ?_
      refine c_region ?_
      refine w_pure (y_move rfl) rfl ?_
      refine w_pure (y_move rfl) rfl ?_
      refine w_pure (y_nil rfl) rfl ?_
      refine w_pure (y_field rfl) rfl ?_
      refine w_pure (y_loadk rfl) rfl ?_
      refine w_pure (y_len rfl) rfl ?_
      refine w_pure (y_lt rfl rfl) rfl ?_
      refine w_nil ?_
      refine x_next ?_
      (refine c_dec rfl (fun hc15 => ?_) (fun hc15 => ?_) <;> try (first | exact absurd rfl hc15 | contradiction | exact Bool.noConfusion (show false = true from hc15.symm.trans (by assumption)) | exact Bool.noConfusion (show true = false from hc15.symm.trans (by assumption)) | (exfalso; omega) | (exfalso; simp only [*, Bool.not_true, Bool.not_false, reduceCtorEq] at hc15; done)))
      refine c_exit ?_
      refine x_then_exit ?_
      refine x_then_exit ?_
      refine x_block_hit ?_
      refine x_next ?_
      refine c_seq ?_
      refine c_region ?_
      refine w_pure (y_move rfl) rfl ?_
      refine w_pure (y_assign rfl) rfl ?_
      refine w_nil ?_
      refine x_next ?_
      refine c_ret ?_
      rotate_left
    refine x_retv [_] rfl ⟨rfl, trivial⟩ ⟨?_, E.go⟩
    rw [show i = ws.length by omega] at ho
    exact ho.base (by omega)
theorem l12Cut_r (hk : okB e n j ws = true) (m : Nat) : ∀ {w : World} {v2 v3 : Value} {l gone : List Int} {lo2 hi2 B : Nat} {k : Int} (hkm : k = (m : Int) := by omega) (hp : At w b 0 [.int .i64 e, .int .i64 n, .int .i64 j, v] := by repeat (first | assumption | exact Go.Gw.Own.sl (by assumption) | exact Go.Gw.Box.at (by assumption) | exact Go.Gw.SLL.el (by first | assumption | exact Go.Gw.OwnD.sll (by assumption)) _ (by omega) | exact Go.Gw.SLL.at (by first | assumption | exact Go.Gw.OwnD.sll (by assumption)) (by omega) | exact Go.Gw.OwnD.sll (by assumption) | (apply Go.Gw.SL.chg; case hx => assumption) | (apply Go.Gw.Own.chg; case hx => assumption) | (apply Go.Gw.Box.chg; case hx => assumption) | (apply Go.Gw.At.chg; case hx => assumption) | exact .inl (Nat.zero_le _) | exact .inr (Nat.zero_le _) | (show _ ∨ _; omega))) (h : SL w lo hi v ws := by repeat (first | assumption | exact Go.Gw.Own.sl (by assumption) | exact Go.Gw.Box.at (by assumption) | exact Go.Gw.SLL.el (by first | assumption | exact Go.Gw.OwnD.sll (by assumption)) _ (by omega) | exact Go.Gw.SLL.at (by first | assumption | exact Go.Gw.OwnD.sll (by assumption)) (by omega) | exact Go.Gw.OwnD.sll (by assumption) | (apply Go.Gw.SL.chg; case hx => assumption) | (apply Go.Gw.Own.chg; case hx => assumption) | (apply Go.Gw.Box.chg; case hx => assumption) | (apply Go.Gw.At.chg; case hx => assumption) | exact .inl (Nat.zero_le _) | exact .inr (Nat.zero_le _) | (show _ ∨ _; omega))) (h2 : SL w lo2 hi2 v2 l := by repeat (first | assumption | exact Go.Gw.Own.sl (by assumption) | exact Go.Gw.Box.at (by assumption) | exact Go.Gw.SLL.el (by first | assumption | exact Go.Gw.OwnD.sll (by assumption)) _ (by omega) | exact Go.Gw.SLL.at (by first | assumption | exact Go.Gw.OwnD.sll (by assumption)) (by omega) | exact Go.Gw.OwnD.sll (by assumption) | (apply Go.Gw.SL.chg; case hx => assumption) | (apply Go.Gw.Own.chg; case hx => assumption) | (apply Go.Gw.Box.chg; case hx => assumption) | (apply Go.Gw.At.chg; case hx => assumption) | exact .inl (Nat.zero_le _) | exact .inr (Nat.zero_le _) | (show _ ∨ _; omega))) (h3 : Own w 2 B v3 gone := by assumption) (hl : l.length ≤ 40 ∧ gone.length + m ≤ 40 := by first | omega | (simp only [List.length_append, List.length_cons, List.length_nil, List.length_drop, List.length_take]; omega)),
    Ret Try.prog 127 [ptr b 0, v2, v3, .int .i64 k] w fun u w' => ∃ d q, u = .tuple #[d, .bool q] ∧ (q = true → ∃ r, cutF (worksP e n j ws) m l gone = some r ∧ Own w' 2 (min B w.heap.size) d r) ∧ (q = false → cutF (worksP e n j ws) m l gone = none) ∧ Ext w w' := by
  have q1 := okB_num hk
  have hw := fun i hi => okB_getD hk i hi
  induction m with
  | zero =>
    intro w v2 v3 l gone lo2 hi2 B k hkm hp h h2 h3 hl
    have E : Since 0 0 w w := Since.refl 0 0 w
    have hbl := hp.lt
    subst hkm
    refine ret_enter Try.func127 rfl Try.ntmps127 rfl ?_
    focus
      have ht_h := h.top
      have ht_h2 := h2.top
      have hl_h3 := h3.lt
      refine c_seq ?_
      refine c_region ?_
      refine w_pure (y_assign rfl) rfl ?_
      refine w_pure (y_assign rfl) rfl ?_
      refine w_nil ?_
      refine x_next ?_
      refine c_seq ?_
      refine c_seq ?_
      refine c_region ?_
      refine w_pure (y_move rfl) rfl ?_
      refine w_pure (y_eq rfl rfl) rfl ?_
      refine w_nil ?_
      refine x_next ?_
      refine c_true rfl ?_
      refine c_seq ?_
      refine c_region ?_
      refine w_pure (y_move rfl) rfl ?_
      refine w_pure (y_move rfl) rfl ?_
      refine w_pure (y_move rfl) rfl ?_
      (refine w_call rfl rfl rfl (l12PairsW_c) rfl ?_; rintro v18 w18 ⟨sus18, ⟨hp1_18, hx18⟩⟩)
      have hl_hp1_18 := hp1_18.lt
      have hz_hx18 := hx18.size
      replace hp := hp.ext hx18
      replace h := h.ext hx18
      replace h2 := h2.ext hx18
      replace h3 := h3.ext hx18
      replace E := E.trans hx18
      refine w_pure (y_lend rfl) rfl ?_
      refine w_pure (y_eq rfl rfl) rfl ?_
      refine w_pure (y_assign rfl) rfl ?_
      refine w_pure (y_assign rfl) rfl ?_
      refine w_nil ?_
      refine x_next ?_
      refine c_ret ?_
      refine x_then_ret ?_
      rotate_left
    refine x_retv [_, _] rfl ⟨rfl, rfl, trivial⟩ ⟨v3, _, rfl, fun g => ⟨gone, ?_, Own.base (by assumption) (Nat.min_le_left _ _)⟩, fun g => ?_, E.go⟩
    · rw [cutF_zero, if_pos]
      have := of_decide_eq_true g
      exact decide_eq_true (by omega)
    · rw [cutF_zero, if_neg]
      have := of_decide_eq_false g
      rw [worksP, worksB, decide_eq_false (by omega)]; simp
  | succ m ih =>
    intro w v2 v3 l gone lo2 hi2 B k hkm hp h h2 h3 hl
    replace hkm : k = ((m + 1 : Nat) : Int) := hkm
    replace hl : l.length ≤ 40 ∧ gone.length + (m + 1) ≤ 40 := hl
    have E : Since 0 0 w w := Since.refl 0 0 w
    have hbl := hp.lt
    have hol := h3.lt
    refine ret_enter Try.func127 rfl Try.ntmps127 rfl ?_
    focus
      have ht_h := h.top
      have ht_h2 := h2.top
      have hl_h3 := h3.lt
      refine c_seq ?_
      refine c_region ?_
      refine w_pure (y_assign rfl) rfl ?_
      refine w_pure (y_assign rfl) rfl ?_
      refine w_nil ?_
      refine x_next ?_
      refine c_seq ?_
      refine c_seq ?_
      refine c_region ?_
      refine w_pure (y_move rfl) rfl ?_
      refine w_pure (y_eq rfl rfl) rfl ?_
      refine w_nil ?_
      refine x_next ?_
      (refine c_dec rfl (fun hc14 => ?_) (fun hc14 => ?_) <;> try (first | exact absurd rfl hc14 | contradiction | exact Bool.noConfusion (show false = true from hc14.symm.trans (by assumption)) | exact Bool.noConfusion (show true = false from hc14.symm.trans (by assumption)) | (exfalso; omega) | (exfalso; simp only [*, Bool.not_true, Bool.not_false, reduceCtorEq] at hc14; done)))
      refine c_skip ?_
      refine x_next ?_
      refine c_seq ?_
      refine c_seq ?_
      refine c_region ?_
      refine w_pure (y_assign rfl) rfl ?_
      refine w_nil ?_
      refine x_next ?_
      refine c_block ?_
      rotate_left
    refine c_loopC 0 0 (ι := Int) (fun x => [(0, ptr b 0), (1, v2), (2, v3), (3, .int .i64 k), (10, .int .i64 x)]) (fun x w' => 0 ≤ x ∧ x ≤ l.length ∧ cutF (worksP e n j ws) (m + 1) (l.drop x.toNat) gone = cutF (worksP e n j ws) (m + 1) l gone) (fun x => (l.length - x).toNat) 0 (by repeat (first | exact trivial | refine ⟨rfl, ?_⟩)) ⟨by omega, by omega, rfl⟩ ?_
    rintro i wL hxL EL ⟨hi0, hi1, hcf⟩
    have hzL := hxL.size
    by_cases hlt : i + k ≤ l.length
    · have hs := cutF_step (worksP e n j ws) m l gone i.toNat (by omega)
      have esl : (l.take ((l.length : Int)).toNat).drop (i + 1).toNat = l.drop (i.toNat + 1) := by rw [Int.toNat_natCast, List.take_length, show (i + 1).toNat = i.toNat + 1 by omega]
      focus
        have hz_hxL := hxL.size
        replace hp := hp.ext hxL
        replace h := h.ext hxL
        replace h2 := h2.ext hxL
        replace h3 := h3.ext hxL
        replace E := E.trans hxL
        refine c_seq ?_
        refine c_seq ?_
        refine c_region ?_
        refine w_pure (y_move rfl) rfl ?_
        refine w_pure (y_move rfl) rfl ?_
        refine w_pure (y_add rfl rfl) rfl ?_
        refine w_pure (y_move rfl) rfl ?_
        refine w_pure (y_len rfl) rfl ?_
        refine w_pure (y_le rfl rfl) rfl ?_
        refine w_nil ?_
        refine x_next ?_
        (refine c_dec rfl (fun hc26 => ?_) (fun hc26 => ?_) <;> try (first | exact absurd rfl hc26 | contradiction | exact Bool.noConfusion (show false = true from hc26.symm.trans (by assumption)) | exact Bool.noConfusion (show true = false from hc26.symm.trans (by assumption)) | (exfalso; omega) | (exfalso; simp only [*, Bool.not_true, Bool.not_false, reduceCtorEq] at hc26; done)))
        refine c_skip ?_
        refine x_next ?_
        refine c_seq ?_
        refine c_block ?_
        refine c_seq ?_
        refine c_region_base (i := 6) mixed (fun wr6 hxr6 hzr6 EBr6 => ?_)
        have hz_hxr6 := hxr6.size
        replace EL := EL.trans hxr6
        replace hp := hp.ext hxr6
        replace h := h.ext hxr6
        replace h2 := h2.ext hxr6
        replace h3 := h3.ext hxr6
        replace E := E.trans hxr6
        refine b_pure rfl (y_move rfl) rfl ?_
        refine b_pure rfl (y_move rfl) rfl ?_
        refine b_pure rfl (y_move rfl) rfl ?_
        refine b_pure rfl (y_add rfl rfl) rfl ?_
        (refine b_slice rfl rfl (.inr ⟨_, _, rfl, rfl⟩) (.inl ⟨rfl, rfl⟩) rfl ?_; intro u34 hu34)
        refine b_pure rfl (y_move rfl) rfl ?_
        refine b_turn ?_
        refine b_pure rfl (y_move rfl) rfl ?_
        refine b_pure rfl (y_move rfl) rfl ?_
        refine b_pure rfl (y_index rfl rfl) rfl ?_
        refine b_pure rfl (y_load_int rfl) rfl ?_
        refine b_turn ?_
        refine b_turn ?_
        refine b_pure rfl (y_move rfl) rfl ?_
        refine b_pure rfl (y_sub rfl rfl) rfl ?_
        refine b_turn ?_
        refine b_turn ?_
        refine b_turn ?_
        refine b_turn ?_
        refine b_turn ?_
        refine b_turn ?_
        refine b_turn ?_
        refine b_turn ?_
        refine b_turn ?_
        refine b_twoQ (i := 6) (j := 11) rfl rfl ?_ ?_
        (refine w_call rfl rfl rfl (l00Own_c _) rfl ?_; rintro v36 w36 ⟨hp1_36, hx36⟩)
        have hl_hp1_36 := hp1_36.lt
        have hz_hx36 := hx36.size
        replace EBr6 := EBr6.trans hx36
        replace EL := EL.trans hx36
        replace hp := hp.ext hx36
        replace h := h.ext hx36
        replace h2 := h2.ext hx36
        replace h3 := h3.ext hx36
        replace E := E.trans hx36
        replace hu34 := hu34.ext hx36
        refine w_nil ?_
        refine x_hb ?_
        refine b_turn ?_
        refine b_turn ?_
        refine b_turn ?_
        refine b_turn ?_
        refine b_turn ?_
        refine b_turn ?_
        refine b_one rfl ?_
        refine w_lit (α := Int) rfl rfl rfl rfl rfl rfl rfl rfl (fun v41 w41 ho41 hx41 hl41 hh41 hs41 => ?_)
        have hl_ho41 := ho41.lt
        have hz_hx41 := hx41.size
        replace hp1_36 := hp1_36.ext hx41
        replace EBr6 := EBr6.trans hx41
        replace EL := EL.trans hx41
        replace hp := hp.ext hx41
        replace h := h.ext hx41
        replace h2 := h2.ext hx41
        replace h3 := h3.ext hx41
        replace E := E.trans hx41
        replace hu34 := hu34.ext hx41
        refine w_nil ?_
        refine x_hb ?_
        refine b_one rfl ?_
        refine w_append rfl rfl (k := fun v42 w42 ho42 hx42 hr42 => ?_)
        have hl_ho42 := ho42.lt
        have hz_hx42 := hx42.size
        replace ho41 := ho41.chg hx42 (by omega)
        replace EBr6 := EBr6.next hx42 (by omega)
        replace EL := EL.next hx42 (by omega)
        replace hp := hp.chg hx42 (by omega)
        replace h := h.chg hx42 (by omega)
        replace h2 := h2.chg hx42 (by omega)
        replace h3 := h3.chg hx42 (by omega)
        replace E := E.next hx42 (by omega)
        replace hu34 := hu34.chg hx42 (by omega)
        refine w_nil ?_
        refine x_hb ?_
        refine b_one rfl ?_
        (refine w_call rfl rfl rfl (ih) rfl ?_; rintro _ w45 ⟨d45, q45, rfl, hp1_45, hp2_45, hx45⟩)
        have hz_hx45 := hx45.size
        replace ho42 := ho42.ext hx45
        replace ho41 := ho41.ext hx45
        replace EBr6 := EBr6.trans hx45
        replace EL := EL.trans hx45
        replace hp := hp.ext hx45
        replace h := h.ext hx45
        replace h2 := h2.ext hx45
        replace h3 := h3.ext hx45
        replace E := E.trans hx45
        replace hu34 := hu34.ext hx45
        refine w_nil ?_
        refine x_hb ?_
        refine b_any rfl (fun _ => y_move rfl) rfl ?_
        refine b_any rfl (fun _ => y_extract rfl rfl) rfl ?_
        refine b_any rfl (fun _ => y_extract rfl rfl) rfl ?_
        refine b_any rfl (fun _ => y_assign rfl) rfl ?_
        refine b_any rfl (fun _ => y_assign rfl) rfl ?_
        refine b_nil ?_
        refine x_next ?_
        refine c_seq ?_
        refine c_region ?_
        refine w_pure (y_move rfl) rfl ?_
        refine w_nil ?_
        refine x_next ?_
        (refine c_if rfl (fun hc48 => ?_) (fun hc48 => ?_) <;> try (first | exact absurd rfl hc48 | contradiction | exact Bool.noConfusion (show false = true from hc48.symm.trans (by assumption)) | exact Bool.noConfusion (show true = false from hc48.symm.trans (by assumption)) | (exfalso; omega) | (exfalso; simp only [*, Bool.not_true, Bool.not_false, reduceCtorEq] at hc48; done)))
        refine c_seq ?_
        refine c_region ?_
        refine w_pure (y_move rfl) rfl ?_
        refine w_pure (y_assign rfl) rfl ?_
        refine w_pure (y_assign rfl) rfl ?_
        refine w_nil ?_
        refine x_next ?_
        refine c_ret ?_
        refine x_block_ret ?_
        refine x_then_ret ?_
        refine x_then_ret ?_
        refine x_block_ret ?_
        refine x_then_ret ?_
        rotate_left
        refine c_skip ?_
        refine x_block_norm ?_
        refine x_next ?_
        refine c_region ?_
        refine w_pure (y_move rfl) rfl ?_
        refine w_pure (y_add rfl rfl) rfl ?_
        refine w_pure (y_assign rfl) rfl ?_
        refine w_nil ?_
        rotate_left
        refine w_lit (α := Int) rfl rfl rfl rfl rfl rfl rfl rfl (fun v41 w41 ho41 hx41 hl41 hh41 hs41 => ?_)
        have hl_ho41 := ho41.lt
        have hz_hx41 := hx41.size
        replace EBr6 := EBr6.trans hx41
        replace EL := EL.trans hx41
        replace hp := hp.ext hx41
        replace h := h.ext hx41
        replace h2 := h2.ext hx41
        replace h3 := h3.ext hx41
        replace E := E.trans hx41
        replace hu34 := hu34.ext hx41
        refine w_nil ?_
        refine x_hb ?_
        refine b_turn ?_
        refine b_turn ?_
        refine b_turn ?_
        refine b_turn ?_
        refine b_turn ?_
        refine b_turn ?_
        refine b_one rfl ?_
        (refine w_call rfl rfl rfl (l00Own_c _) rfl ?_; rintro v36 w36 ⟨hp1_36, hx36⟩)
        have hl_hp1_36 := hp1_36.lt
        have hz_hx36 := hx36.size
        replace ho41 := ho41.ext hx36
        replace EBr6 := EBr6.trans hx36
        replace EL := EL.trans hx36
        replace hp := hp.ext hx36
        replace h := h.ext hx36
        replace h2 := h2.ext hx36
        replace h3 := h3.ext hx36
        replace E := E.trans hx36
        replace hu34 := hu34.ext hx36
        refine w_nil ?_
        refine x_hb ?_
        refine b_one rfl ?_
        refine w_append rfl rfl (k := fun v42 w42 ho42 hx42 hr42 => ?_)
        have hl_ho42 := ho42.lt
        have hz_hx42 := hx42.size
        replace ho41 := ho41.chg hx42 (by omega)
        replace EBr6 := EBr6.next hx42 (by omega)
        replace EL := EL.next hx42 (by omega)
        replace hp := hp.chg hx42 (by omega)
        replace h := h.chg hx42 (by omega)
        replace h2 := h2.chg hx42 (by omega)
        replace h3 := h3.chg hx42 (by omega)
        replace E := E.next hx42 (by omega)
        replace hu34 := hu34.chg hx42 (by omega)
        refine w_nil ?_
        refine x_hb ?_
        refine b_one rfl ?_
        (refine w_call rfl rfl rfl (ih) rfl ?_; rintro _ w45 ⟨d45, q45, rfl, hp1_45, hp2_45, hx45⟩)
        have hz_hx45 := hx45.size
        replace ho42 := ho42.ext hx45
        replace ho41 := ho41.ext hx45
        replace EBr6 := EBr6.trans hx45
        replace EL := EL.trans hx45
        replace hp := hp.ext hx45
        replace h := h.ext hx45
        replace h2 := h2.ext hx45
        replace h3 := h3.ext hx45
        replace E := E.trans hx45
        replace hu34 := hu34.ext hx45
        refine w_nil ?_
        refine x_hb ?_
        refine b_any rfl (fun _ => y_move rfl) rfl ?_
        refine b_any rfl (fun _ => y_extract rfl rfl) rfl ?_
        refine b_any rfl (fun _ => y_extract rfl rfl) rfl ?_
        refine b_any rfl (fun _ => y_assign rfl) rfl ?_
        refine b_any rfl (fun _ => y_assign rfl) rfl ?_
        refine b_nil ?_
        refine x_next ?_
        refine c_seq ?_
        refine c_region ?_
        refine w_pure (y_move rfl) rfl ?_
        refine w_nil ?_
        refine x_next ?_
        (refine c_if rfl (fun hc48 => ?_) (fun hc48 => ?_) <;> try (first | exact absurd rfl hc48 | contradiction | exact Bool.noConfusion (show false = true from hc48.symm.trans (by assumption)) | exact Bool.noConfusion (show true = false from hc48.symm.trans (by assumption)) | (exfalso; omega) | (exfalso; simp only [*, Bool.not_true, Bool.not_false, reduceCtorEq] at hc48; done)))
        refine c_seq ?_
        refine c_region ?_
        refine w_pure (y_move rfl) rfl ?_
        refine w_pure (y_assign rfl) rfl ?_
        refine w_pure (y_assign rfl) rfl ?_
        refine w_nil ?_
        refine x_next ?_
        refine c_ret ?_
        refine x_block_ret ?_
        refine x_then_ret ?_
        refine x_then_ret ?_
        refine x_block_ret ?_
        refine x_then_ret ?_
        rotate_left
        refine c_skip ?_
        refine x_block_norm ?_
        refine x_next ?_
        refine c_region ?_
        refine w_pure (y_move rfl) rfl ?_
        refine w_pure (y_add rfl rfl) rfl ?_
        refine w_pure (y_assign rfl) rfl ?_
        refine w_nil ?_
        rotate_left
      all_goals first
        | (obtain ⟨r, hr1, hr2⟩ := hp1_45 hc48
           rw [esl] at hr1
           rw [hr1] at hs
           exact x_retv [_, _] rfl ⟨rfl, rfl, trivial⟩ ⟨d45, true, rfl, fun _ => ⟨r, hcf.symm.trans hs, Own.base hr2 (by omega)⟩, fun h => (by cases h), E.go⟩)
        | (have hn := hp2_45 hc48
           rw [esl] at hn
           rw [hn] at hs
           exact x_again (i + 1) (by repeat (first | exact trivial | refine ⟨rfl, ?_⟩)) ⟨EL.go, by omega, by omega, (by rw [show (i + 1).toNat = i.toNat + 1 by omega, ← hcf]; exact hs.symm)⟩ (by omega))
    · focus
        have hz_hxL := hxL.size
        replace hp := hp.ext hxL
        replace h := h.ext hxL
        replace h2 := h2.ext hxL
        replace h3 := h3.ext hxL
        replace E := E.trans hxL
        refine c_seq ?_
        refine c_seq ?_
        refine c_region ?_
        refine w_pure (y_move rfl) rfl ?_
        refine w_pure (y_move rfl) rfl ?_
        refine w_pure (y_add rfl rfl) rfl ?_
        refine w_pure (y_move rfl) rfl ?_
        refine w_pure (y_len rfl) rfl ?_
        refine w_pure (y_le rfl rfl) rfl ?_
        refine w_nil ?_
        refine x_next ?_
        (refine c_dec rfl (fun hc26 => ?_) (fun hc26 => ?_) <;> try (first | exact absurd rfl hc26 | contradiction | exact Bool.noConfusion (show false = true from hc26.symm.trans (by assumption)) | exact Bool.noConfusion (show true = false from hc26.symm.trans (by assumption)) | (exfalso; omega) | (exfalso; simp only [*, Bool.not_true, Bool.not_false, reduceCtorEq] at hc26; done)))
        refine c_exit ?_
        refine x_then_exit ?_
        refine x_then_exit ?_
        refine x_block_hit ?_
        refine x_next ?_
        refine c_seq ?_
        refine c_region ?_
        refine w_pure (y_assign rfl) rfl ?_
        refine w_pure (y_assign rfl) rfl ?_
        refine w_nil ?_
        refine x_next ?_
        refine c_ret ?_
        rotate_left
      exact x_retv [_, _] rfl ⟨rfl, rfl, trivial⟩ ⟨_, false, rfl, fun h => (by cases h), fun _ => (by rw [← hcf]; exact cutF_short (by rw [List.length_drop]; omega)), E.go⟩
theorem l12Cut_c {v2 v3 : Value} {l gone : List Int} {lo2 hi2 B : Nat} (k : Int) (hk : okB e n j ws = true := by assumption) (hp : At w b 0 [.int .i64 e, .int .i64 n, .int .i64 j, v] := by repeat (first | assumption | exact Go.Gw.Own.sl (by assumption) | exact Go.Gw.Box.at (by assumption) | exact Go.Gw.SLL.el (by first | assumption | exact Go.Gw.OwnD.sll (by assumption)) _ (by omega) | exact Go.Gw.SLL.at (by first | assumption | exact Go.Gw.OwnD.sll (by assumption)) (by omega) | exact Go.Gw.OwnD.sll (by assumption) | (apply Go.Gw.SL.chg; case hx => assumption) | (apply Go.Gw.Own.chg; case hx => assumption) | (apply Go.Gw.Box.chg; case hx => assumption) | (apply Go.Gw.At.chg; case hx => assumption) | exact .inl (Nat.zero_le _) | exact .inr (Nat.zero_le _) | (show _ ∨ _; omega))) (h : SL w lo hi v ws := by repeat (first | assumption | exact Go.Gw.Own.sl (by assumption) | exact Go.Gw.Box.at (by assumption) | exact Go.Gw.SLL.el (by first | assumption | exact Go.Gw.OwnD.sll (by assumption)) _ (by omega) | exact Go.Gw.SLL.at (by first | assumption | exact Go.Gw.OwnD.sll (by assumption)) (by omega) | exact Go.Gw.OwnD.sll (by assumption) | (apply Go.Gw.SL.chg; case hx => assumption) | (apply Go.Gw.Own.chg; case hx => assumption) | (apply Go.Gw.Box.chg; case hx => assumption) | (apply Go.Gw.At.chg; case hx => assumption) | exact .inl (Nat.zero_le _) | exact .inr (Nat.zero_le _) | (show _ ∨ _; omega))) (h2 : SL w lo2 hi2 v2 l := by repeat (first | assumption | exact Go.Gw.Own.sl (by assumption) | exact Go.Gw.Box.at (by assumption) | exact Go.Gw.SLL.el (by first | assumption | exact Go.Gw.OwnD.sll (by assumption)) _ (by omega) | exact Go.Gw.SLL.at (by first | assumption | exact Go.Gw.OwnD.sll (by assumption)) (by omega) | exact Go.Gw.OwnD.sll (by assumption) | (apply Go.Gw.SL.chg; case hx => assumption) | (apply Go.Gw.Own.chg; case hx => assumption) | (apply Go.Gw.Box.chg; case hx => assumption) | (apply Go.Gw.At.chg; case hx => assumption) | exact .inl (Nat.zero_le _) | exact .inr (Nat.zero_le _) | (show _ ∨ _; omega))) (h3 : Own w 2 B v3 gone := by assumption) (h0 : 0 ≤ k ∧ k ≤ 30 := by omega) (hl : l.length ≤ 40 ∧ gone.length ≤ 10 := by first | omega | (simp only [List.length_nil]; omega)) :
    Ret Try.prog 127 [ptr b 0, v2, v3, .int .i64 k] w fun u w' => ∃ d q, u = .tuple #[d, .bool q] ∧ (q = true → ∃ r, cutF (worksP e n j ws) k.toNat l gone = some r ∧ Own w' 2 (min B w.heap.size) d r) ∧ (q = false → cutF (worksP e n j ws) k.toNat l gone = none) ∧ Ext w w' :=
  l12Cut_r hk k.toNat (by omega) hp h h2 h3 (by omega)
theorem fewR_mono {p : List Int → Bool} {own r : List Int} {a : Nat} (h : fewR p own a = some r) : ∀ b, a ≤ b → fewR p own b = some r
  | 0, hb => by rw [show a = 0 by omega] at h; exact h
  | b + 1, hb => by
    by_cases e : a = b + 1
    · rw [← e]; exact h
    · rw [fewR, fewR_mono h b (by omega)]
theorem sFewestCuts_c (h : SL w lo hi v ws := by repeat (first | assumption | exact Go.Gw.Own.sl (by assumption) | exact Go.Gw.Box.at (by assumption) | exact Go.Gw.SLL.el (by first | assumption | exact Go.Gw.OwnD.sll (by assumption)) _ (by omega) | exact Go.Gw.SLL.at (by first | assumption | exact Go.Gw.OwnD.sll (by assumption)) (by omega) | exact Go.Gw.OwnD.sll (by assumption) | (apply Go.Gw.SL.chg; case hx => assumption) | (apply Go.Gw.Own.chg; case hx => assumption) | (apply Go.Gw.Box.chg; case hx => assumption) | (apply Go.Gw.At.chg; case hx => assumption) | exact .inl (Nat.zero_le _) | exact .inr (Nat.zero_le _) | (show _ ∨ _; omega))) : Ret Try.prog 49 [.agg #[.int .i64 e, .int .i64 n, .int .i64 j, v]] w fun u w' => ∃ d, u = .tuple #[d, .int .i64 (cFew e n j ws)] ∧ Own w' 2 w.heap.size d (resFew e n j ws) ∧ Ext w w' := by
  have E : Since 0 0 w w := Since.refl 0 0 w
  by_cases hk : okB e n j ws = true
  · have q1 := okB_num hk
    have q2 := ownL_len e n j ws
    by_cases hl : (ownL e n j ws).length ≤ 10
    · have ec : cFew e n j ws = 0 := by rw [cFew, if_pos hk, if_pos hl]
      have hsome := (resFew_some ec).2.2
      refine ret_enter Try.func49 rfl Try.ntmps49 rfl ?_
      focus
        have ht_h := h.top
        refine c_seq ?_
        refine c_region ?_
        refine w_box rfl (k := fun b1 w1 hb1 hx1 hl1 hs1 => ?_)
        have hz_hx1 := hx1.size
        replace h := h.ext hx1
        replace E := E.trans hx1
        refine w_pure (y_assign rfl) rfl ?_
        refine w_pure (y_assign rfl) rfl ?_
        refine w_nil ?_
        refine x_next ?_
        refine c_seq ?_
        refine c_seq ?_
        refine c_region ?_
        refine w_val rfl rfl rfl (l12Ok_c) rfl (fun w8 hx8 hz8 => ?_)
        have hz_hx8 := hx8.size
        replace hb1 := hb1.ext hx8
        replace h := h.ext hx8
        replace E := E.trans hx8
        refine w_pure (y_not rfl) rfl ?_
        refine w_nil ?_
        refine x_next ?_
        (refine c_not rfl (fun hc9 => ?_) (fun hc9 => ?_) <;> try (first | exact absurd rfl hc9 | contradiction | exact Bool.noConfusion (show false = true from hc9.symm.trans (by assumption)) | exact Bool.noConfusion (show true = false from hc9.symm.trans (by assumption)) | (exfalso; omega) | (exfalso; simp only [*, Bool.not_true, Bool.not_false, reduceCtorEq] at hc9; done)))
        refine c_skip ?_
        refine x_next ?_
        refine c_seq ?_
        refine c_region ?_
        (refine w_call rfl rfl rfl (l12Sneaky_c) rfl ?_; rintro v10 w10 ⟨hp1_10, hx10⟩)
        have hl_hp1_10 := hp1_10.lt
        have hz_hx10 := hx10.size
        replace hb1 := hb1.ext hx10
        replace h := h.ext hx10
        replace E := E.trans hx10
        refine w_pure (y_assign rfl) rfl ?_
        refine w_nil ?_
        refine x_next ?_
        refine c_seq ?_
        refine c_seq ?_
        refine c_region ?_
        refine w_pure (y_move rfl) rfl ?_
        refine w_pure (y_len rfl) rfl ?_
        refine w_pure (y_gt rfl rfl) rfl ?_
        refine w_nil ?_
        refine x_next ?_
        (refine c_dec rfl (fun hc13 => ?_) (fun hc13 => ?_) <;> try (first | exact absurd rfl hc13 | contradiction | exact Bool.noConfusion (show false = true from hc13.symm.trans (by assumption)) | exact Bool.noConfusion (show true = false from hc13.symm.trans (by assumption)) | (exfalso; omega) | (exfalso; simp only [*, Bool.not_true, Bool.not_false, reduceCtorEq] at hc13; done)))
        refine c_skip ?_
        refine x_next ?_
        refine c_seq ?_
        refine c_seq ?_
        refine c_region ?_
        refine w_pure (y_assign rfl) rfl ?_
        refine w_nil ?_
        refine x_next ?_
        refine c_block ?_
        rotate_left
      refine c_loopC 0 0 (ι := Int) (fun x => [(1, ptr b1 0), (4, v10), (5, .int .i64 x)]) (fun x w' => 0 ≤ x ∧ x ≤ (ownL e n j ws).length + 1 ∧ fewR (worksP e n j ws) (ownL e n j ws) x.toNat = none) (fun x => ((ownL e n j ws).length + 1 - x).toNat) 0 (by repeat (first | exact trivial | refine ⟨rfl, ?_⟩)) ⟨by omega, by omega, rfl⟩ ?_
      rintro i wL hxL EL ⟨hi0, hi1, hn0⟩
      have hzL := hxL.size
      by_cases hlt : i ≤ (ownL e n j ws).length
      · focus
          have hz_hxL := hxL.size
          replace hp1_10 := hp1_10.ext hxL
          replace hb1 := hb1.ext hxL
          replace h := h.ext hxL
          replace E := E.trans hxL
          refine c_seq ?_
          refine c_seq ?_
          refine c_region ?_
          refine w_pure (y_move rfl) rfl ?_
          refine w_pure (y_move rfl) rfl ?_
          refine w_pure (y_len rfl) rfl ?_
          refine w_pure (y_le rfl rfl) rfl ?_
          refine w_nil ?_
          refine x_next ?_
          (refine c_dec rfl (fun hc17 => ?_) (fun hc17 => ?_) <;> try (first | exact absurd rfl hc17 | contradiction | exact Bool.noConfusion (show false = true from hc17.symm.trans (by assumption)) | exact Bool.noConfusion (show true = false from hc17.symm.trans (by assumption)) | (exfalso; omega) | (exfalso; simp only [*, Bool.not_true, Bool.not_false, reduceCtorEq] at hc17; done)))
          refine c_skip ?_
          refine x_next ?_
          refine c_seq ?_
          refine c_block ?_
          refine c_seq ?_
          refine c_region ?_
          refine w_pure (y_move rfl) rfl ?_
          refine w_lit (α := Int) rfl rfl rfl rfl rfl rfl rfl rfl (fun v22 w22 ho22 hx22 hl22 hh22 hs22 => ?_)
          have hl_ho22 := ho22.lt
          have hz_hx22 := hx22.size
          replace EL := EL.trans hx22
          replace hp1_10 := hp1_10.ext hx22
          replace hb1 := hb1.ext hx22
          replace h := h.ext hx22
          replace E := E.trans hx22
          refine w_pure (y_move rfl) rfl ?_
          (refine w_call rfl rfl rfl (l12Cut_c _) rfl ?_; rintro _ w24 ⟨d24, ⟨q24, ⟨rfl, ⟨hp1_24, ⟨hp2_24, hx24⟩⟩⟩⟩⟩)
          have hz_hx24 := hx24.size
          replace ho22 := ho22.ext hx24
          replace EL := EL.trans hx24
          replace hp1_10 := hp1_10.ext hx24
          replace hb1 := hb1.ext hx24
          replace h := h.ext hx24
          replace E := E.trans hx24
          refine w_pure (y_move rfl) rfl ?_
          refine w_pure (y_extract rfl rfl) rfl ?_
          refine w_pure (y_extract rfl rfl) rfl ?_
          refine w_pure (y_assign rfl) rfl ?_
          refine w_pure (y_assign rfl) rfl ?_
          refine w_nil ?_
          refine x_next ?_
          refine c_seq ?_
          refine c_region ?_
          refine w_pure (y_move rfl) rfl ?_
          refine w_nil ?_
          refine x_next ?_
          (refine c_if rfl (fun hc27 => ?_) (fun hc27 => ?_) <;> try (first | exact absurd rfl hc27 | contradiction | exact Bool.noConfusion (show false = true from hc27.symm.trans (by assumption)) | exact Bool.noConfusion (show true = false from hc27.symm.trans (by assumption)) | (exfalso; omega) | (exfalso; simp only [*, Bool.not_true, Bool.not_false, reduceCtorEq] at hc27; done)))
          refine c_seq ?_
          refine c_region ?_
          refine w_pure (y_move rfl) rfl ?_
          refine w_pure (y_assign rfl) rfl ?_
          refine w_pure (y_assign rfl) rfl ?_
          refine w_nil ?_
          refine x_next ?_
          refine c_ret ?_
          refine x_block_ret ?_
          refine x_then_ret ?_
          refine x_then_ret ?_
          refine x_block_ret ?_
          refine x_then_ret ?_
          rotate_left
          refine c_skip ?_
          refine x_block_norm ?_
          refine x_next ?_
          refine c_region ?_
          refine w_pure (y_move rfl) rfl ?_
          refine w_pure (y_add rfl rfl) rfl ?_
          refine w_pure (y_assign rfl) rfl ?_
          refine w_nil ?_
          rotate_left
        all_goals first
          | (obtain ⟨r, hr1, hr2⟩ := hp1_24 hc27
             have h3 : fewR (worksP e n j ws) (ownL e n j ws) (i.toNat + 1) = some r := by rw [fewR, hn0]; exact hr1
             have e3 := Option.some.inj (hsome.symm.trans (fewR_mono h3 ((ownL e n j ws).length + 1) (by omega)))
             rw [← e3] at hr2
             exact x_retv [_, _] rfl ⟨rfl, rfl, trivial⟩ ⟨d24, by rw [ec]; rfl, Own.base hr2 (by omega), E.go⟩)
          | exact x_again (i + 1) (by repeat (first | exact trivial | refine ⟨rfl, ?_⟩)) ⟨EL.go, by omega, by omega, (by rw [show (i + 1).toNat = i.toNat + 1 by omega, fewR, hn0]; exact hp2_24 hc27)⟩ (by omega)
      · exfalso
        rw [show i.toNat = (ownL e n j ws).length + 1 by omega] at hn0
        rw [hn0] at hsome
        cases hsome
    · have ec : cFew e n j ws = 5 := by rw [cFew, if_pos hk, if_neg hl]
      refine ret_enter Try.func49 rfl Try.ntmps49 rfl ?_
      focus
        have ht_h := h.top
        refine c_seq ?_
        refine c_region ?_
        refine w_box rfl (k := fun b1 w1 hb1 hx1 hl1 hs1 => ?_)
        have hz_hx1 := hx1.size
        replace h := h.ext hx1
        replace E := E.trans hx1
        refine w_pure (y_assign rfl) rfl ?_
        refine w_pure (y_assign rfl) rfl ?_
        refine w_nil ?_
        refine x_next ?_
        refine c_seq ?_
        refine c_seq ?_
        refine c_region ?_
        refine w_val rfl rfl rfl (l12Ok_c) rfl (fun w8 hx8 hz8 => ?_)
        have hz_hx8 := hx8.size
        replace hb1 := hb1.ext hx8
        replace h := h.ext hx8
        replace E := E.trans hx8
        refine w_pure (y_not rfl) rfl ?_
        refine w_nil ?_
        refine x_next ?_
        (refine c_not rfl (fun hc9 => ?_) (fun hc9 => ?_) <;> try (first | exact absurd rfl hc9 | contradiction | exact Bool.noConfusion (show false = true from hc9.symm.trans (by assumption)) | exact Bool.noConfusion (show true = false from hc9.symm.trans (by assumption)) | (exfalso; omega) | (exfalso; simp only [*, Bool.not_true, Bool.not_false, reduceCtorEq] at hc9; done)))
        refine c_skip ?_
        refine x_next ?_
        refine c_seq ?_
        refine c_region ?_
        (refine w_call rfl rfl rfl (l12Sneaky_c) rfl ?_; rintro v10 w10 ⟨hp1_10, hx10⟩)
        have hl_hp1_10 := hp1_10.lt
        have hz_hx10 := hx10.size
        replace hb1 := hb1.ext hx10
        replace h := h.ext hx10
        replace E := E.trans hx10
        refine w_pure (y_assign rfl) rfl ?_
        refine w_nil ?_
        refine x_next ?_
        refine c_seq ?_
        refine c_seq ?_
        refine c_region ?_
        refine w_pure (y_move rfl) rfl ?_
        refine w_pure (y_len rfl) rfl ?_
        refine w_pure (y_gt rfl rfl) rfl ?_
        refine w_nil ?_
        refine x_next ?_
        (refine c_dec rfl (fun hc13 => ?_) (fun hc13 => ?_) <;> try (first | exact absurd rfl hc13 | contradiction | exact Bool.noConfusion (show false = true from hc13.symm.trans (by assumption)) | exact Bool.noConfusion (show true = false from hc13.symm.trans (by assumption)) | (exfalso; omega) | (exfalso; simp only [*, Bool.not_true, Bool.not_false, reduceCtorEq] at hc13; done)))
        refine c_seq ?_
        refine c_region ?_
        refine w_pure (y_assign rfl) rfl ?_
        refine w_pure (y_assign rfl) rfl ?_
        refine w_nil ?_
        refine x_next ?_
        refine c_ret ?_
        refine x_then_ret ?_
        rotate_left
      exact x_retv [_, _] rfl ⟨rfl, rfl, trivial⟩ ⟨_, by rw [ec]; rfl, by rw [resFew, ec]; exact Own.nil _ _ _, E.go⟩
  · have ec : cFew e n j ws = 1 := by rw [cFew, if_neg hk]
    refine ret_enter Try.func49 rfl Try.ntmps49 rfl ?_
    focus
      have ht_h := h.top
      refine c_seq ?_
      refine c_region ?_
      refine w_box rfl (k := fun b1 w1 hb1 hx1 hl1 hs1 => ?_)
      have hz_hx1 := hx1.size
      replace h := h.ext hx1
      replace E := E.trans hx1
      refine w_pure (y_assign rfl) rfl ?_
      refine w_pure (y_assign rfl) rfl ?_
      refine w_nil ?_
      refine x_next ?_
      refine c_seq ?_
      refine c_seq ?_
      refine c_region ?_
      refine w_val rfl rfl rfl (l12Ok_c) rfl (fun w8 hx8 hz8 => ?_)
      have hz_hx8 := hx8.size
      replace hb1 := hb1.ext hx8
      replace h := h.ext hx8
      replace E := E.trans hx8
      refine w_pure (y_not rfl) rfl ?_
      refine w_nil ?_
      refine x_next ?_
      (refine c_not rfl (fun hc9 => ?_) (fun hc9 => ?_) <;> try (first | exact absurd rfl hc9 | contradiction | exact Bool.noConfusion (show false = true from hc9.symm.trans (by assumption)) | exact Bool.noConfusion (show true = false from hc9.symm.trans (by assumption)) | (exfalso; omega) | (exfalso; simp only [*, Bool.not_true, Bool.not_false, reduceCtorEq] at hc9; done)))
      refine c_seq ?_
      refine c_region ?_
      refine w_pure (y_assign rfl) rfl ?_
      refine w_pure (y_assign rfl) rfl ?_
      refine w_nil ?_
      refine x_next ?_
      refine c_ret ?_
      refine x_then_ret ?_
      rotate_left
    exact x_retv [_, _] rfl ⟨rfl, rfl, trivial⟩ ⟨_, by rw [ec]; rfl, by rw [resFew, ec]; exact Own.nil _ _ _, E.go⟩
end
end Go.Proofs.Ythigkbkaeopipaa

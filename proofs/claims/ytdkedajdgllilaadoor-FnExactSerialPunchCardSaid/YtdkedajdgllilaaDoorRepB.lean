/- Contracts: decks that are gang punched. -/
import Derived.Test.YtdkedajdgllilaaDoorRepA
namespace Go.Proofs.YtdkedajdgllilaaDoor
open Go Go.Gw
set_option linter.unusedVariables false
set_option linter.unusedSimpArgs false
def cGng (ms : List Int) (xss : List (List Int)) (ps : List (Int × Int)) : Int := if okK ms = true ∧ okD xss = true then (if okCp ps ms.length (widD xss) = true then 0 else 2) else 1
def gngF (ms : List Int) (ps : List (Int × Int)) (xs : List Int) : List Int := copyF ms ps xs ps.length
def resGng (ms : List Int) (xss : List (List Int)) (ps : List (Int × Int)) : List (List Int) := if cGng ms xss ps = 0 then xss.map (gngF ms ps) else []
theorem cGng_1 {ms : List Int} {xss : List (List Int)} {ps : List (Int × Int)} (h : okK ms = false ∨ okD xss = false) : cGng ms xss ps = 1 := by
  rw [cGng, if_neg]; rintro ⟨h1, h2⟩; simp [h1, h2] at h
theorem cGng_2 {ms : List Int} {xss : List (List Int)} {ps : List (Int × Int)} (h0 : okK ms = true) (h : okD xss = true) (h2 : okCp ps ms.length (widD xss) = false) : cGng ms xss ps = 2 := by simp [cGng, h, h2, h0]
theorem cGng_0 {ms : List Int} {xss : List (List Int)} {ps : List (Int × Int)} (h0 : okK ms = true) (h : okD xss = true) (h2 : okCp ps ms.length (widD xss) = true) : cGng ms xss ps = 0 := by simp [cGng, h, h2, h0]
theorem deck_bd {xss yss : List (List Int)} (hk : okD xss = true) (hl : yss.length = xss.length) (h : ∀ i, i < xss.length → (yss.getD i []).length = (xss.getD i []).length) : totD yss ≤ 800 ∧ yss.length ≤ 40 := by
  have hb2 := okD_len hk
  have h1 := totD_le (xss := yss) 20 (fun i hi => by rw [h i (by omega)]; exact (okK_len (okD_at hk i (by omega)).1).2)
  omega
theorem resGng_bd (ms : List Int) (xss : List (List Int)) (ps : List (Int × Int)) : totD (resGng ms xss ps) ≤ 800 ∧ (resGng ms xss ps).length ≤ 40 := by
  unfold resGng
  split
  · rename_i h
    cases hk : okD xss
    · rw [cGng_1 (.inr hk)] at h; cases h
    exact deck_bd hk (by simp) (fun i hi => by rw [map_getD (d := []) _ hi, gngF, copyF_len])
  · simp [totD, tot]
section
variable {w : World} {lo hi lo' hi' l2 h2 e b b' o o' lo3 hi3 : Nat} {v v' v2 d vo : Value} {xs ys ms : List Int} {ps : List (Int × Int)} {xss yss : List (List Int)} {svs sus : List SV} {f t : Int}
theorem l02Copy_c (h : SLL w lo hi svs v xss := by repeat (first | assumption | exact Go.Gw.Own.sl (by assumption) | exact Go.Gw.Box.at (by assumption) | exact Go.Gw.SLL.el (by first | assumption | exact Go.Gw.OwnD.sll (by assumption)) _ (by omega) | exact Go.Gw.SLL.at (by first | assumption | exact Go.Gw.OwnD.sll (by assumption)) (by omega) | exact Go.Gw.OwnD.sll (by assumption) | (apply Go.Gw.SL.chg; case hx => assumption) | (apply Go.Gw.Own.chg; case hx => assumption) | (apply Go.Gw.Box.chg; case hx => assumption) | (apply Go.Gw.At.chg; case hx => assumption) | exact .inl (Nat.zero_le _) | exact .inr (Nat.zero_le _) | (show _ ∨ _; omega))) (hk : okD xss = true := by assumption) : Ret Tryd.prog 73 [v] w fun u w' => ∃ sus, OwnD w' 85 w.heap.size w'.heap.size sus u xss ∧ Ext w w' := by
  have hb2 := okD_len hk
  have E : Since 0 0 w w := Since.refl 0 0 w
  refine ret_enter Tryd.func73 rfl Tryd.ntmps73 rfl ?_
  focus
    have ht_h := h.top
    refine c_seq ?_
    refine c_region ?_
    refine w_pure (y_assign rfl) rfl ?_
    refine w_nil ?_
    refine x_next ?_
    refine c_seq ?_
    refine c_region ?_
    refine w_lit_d0 rfl (k := fun v5 w5 ho5 hx5 hl5 hh5 hs5 => ?_)
    have hl_ho5 := ho5.lt
    have hz_hx5 := hx5.size
    replace h := h.ext hx5
    replace E := E.trans hx5
    refine w_pure (y_assign rfl) rfl ?_
    refine w_nil ?_
    refine x_next ?_
    refine c_seq ?_
    refine c_seq ?_
    refine c_region ?_
    refine w_pure (y_assign rfl) rfl ?_
    refine w_nil ?_
    refine x_next ?_
    refine c_block ?_
    rotate_left
  refine c_loopC (bL v5) (bH v5) (ι := Int × Value × List SV) (fun x => [(0, v), (3, x.2.1), (4, .int .i64 x.1)])
    (fun x w' => SLL w' lo hi svs v xss ∧ OwnD w' 85 w.heap.size w'.heap.size x.2.2 x.2.1 (xss.take x.1.toNat) ∧ ((bL x.2.1 = bL v5 ∧ bH x.2.1 = bH v5) ∨ w5.heap.size ≤ bL x.2.1) ∧ 0 ≤ x.1 ∧ x.1 ≤ xss.length) (fun x => (xss.length - x.1).toNat) (0, v5, [])
    (by repeat (first | exact trivial | refine ⟨rfl, ?_⟩)) ⟨by assumption, OwnD.wide (ho5.low (by omega)) (by omega) (Nat.le_refl _), .inl ⟨rfl, rfl⟩, by omega, by omega⟩ ?_
  clear ho5
  rintro ⟨i, u, sus⟩ wL hxL EL ⟨g1, g3, g4, hi0, hi1⟩
  dsimp only at *
  have hml : i ≤ xss.length → (xss.take i.toNat).length = i.toNat := fun hh => by simp; omega
  have hwd : i < xss.length → (xss.getD i.toNat []).length ≤ 20 := fun hh => (okK_len (okD_at hk _ (by omega)).1).2
  have e1 : (i + 1).toNat = i.toNat + 1 := by omega
  focus
    have ht_g1 := g1.top
    have hl_g3 := g3.lt
    have hz_hxL := hxL.size
    replace h := h.chg hxL (by omega)
    replace E := E.next hxL (by omega)
    refine c_seq ?_
    refine c_seq ?_
    refine c_region ?_
    refine w_pure (y_move rfl) rfl ?_
    refine w_pure (y_move rfl) rfl ?_
    refine w_pure (y_lend rfl) rfl ?_
    refine w_pure (y_lt rfl rfl) rfl ?_
    refine w_nil ?_
    refine x_next ?_
    (refine c_dec rfl (fun hc9 => ?_) (fun hc9 => ?_) <;> try (first | exact absurd rfl hc9 | contradiction | exact Bool.noConfusion (show false = true from hc9.symm.trans (by assumption)) | exact Bool.noConfusion (show true = false from hc9.symm.trans (by assumption)) | (exfalso; omega) | (exfalso; simp only [*, Bool.not_true, Bool.not_false, reduceCtorEq] at hc9; done)))
    refine c_skip ?_
    refine x_next ?_
    refine c_seq ?_
    refine c_block ?_
    refine c_region ?_
    refine w_pure (y_move rfl) rfl ?_
    refine w_pure (y_move rfl) rfl ?_
    refine w_pure (y_move rfl) rfl ?_
    refine w_pure (y_indexd rfl rfl) rfl ?_
    (refine w_call rfl rfl rfl (l02Own_c) rfl ?_; rintro _ w16 ⟨d16, ⟨rfl, ⟨hp1_16, hx16⟩⟩⟩)
    have hl_hp1_16 := hp1_16.lt
    have hz_hx16 := hx16.size
    replace EL := EL.next hx16 (by omega)
    replace g1 := g1.ext hx16
    replace g3 := g3.ext hx16
    replace h := h.ext hx16
    replace E := E.trans hx16
    refine w_lit_cd rfl rfl (k := fun v17 w17 ho17 hx17 hl17 hh17 hs17 => ?_)
    have hl_ho17 := ho17.lt
    have hz_hx17 := hx17.size
    replace hp1_16 := hp1_16.ext hx17
    replace EL := EL.next hx17 (by omega)
    replace g1 := g1.ext hx17
    replace g3 := g3.ext hx17
    replace h := h.ext hx17
    replace E := E.trans hx17
    refine w_append_d rfl rfl (k := fun v18 w18 ho18 hx18 hr18 => ?_)
    have hl_ho18 := ho18.lt
    have hz_hx18 := hx18.size
    replace ho17 := ho17.chg hx18 (by omega)
    replace hp1_16 := hp1_16.chg hx18 (by omega)
    replace EL := EL.next hx18 (by omega)
    replace g1 := g1.chg hx18 (by omega)
    replace h := h.chg hx18 (by omega)
    replace E := E.next hx18 (by omega)
    refine w_pure (y_assign rfl) rfl ?_
    refine w_nil ?_
    refine x_block_norm ?_
    refine x_next ?_
    refine c_region ?_
    refine w_pure (y_move rfl) rfl ?_
    refine w_pure (y_add rfl rfl) rfl ?_
    refine w_pure (y_assign rfl) rfl ?_
    refine w_nil ?_
    rotate_left
    refine c_exit ?_
    refine x_then_exit ?_
    refine x_then_exit ?_
    refine x_block_hit ?_
    refine x_next ?_
    refine c_seq ?_
    refine c_region ?_
    refine w_pure (y_move rfl) rfl ?_
    refine w_pure (y_assign rfl) rfl ?_
    refine w_nil ?_
    refine x_next ?_
    refine c_ret ?_
    rotate_left
  · refine x_again (i + 1, v18, sus ++ [svOf d16]) (by repeat (first | exact trivial | refine ⟨rfl, ?_⟩)) ⟨EL.go, by assumption, ?_, by dsimp only; omega, by dsimp only; omega, by dsimp only; omega⟩ (by dsimp only; omega)
    dsimp only
    rw [e1, List.take_add_one, show xss[i.toNat]? = some (xss.getD i.toNat []) by rw [List.getD_eq_getElem?_getD, List.getElem?_eq_getElem (by omega)]; rfl]
    exact OwnD.wide (by assumption) (by omega) (Nat.le_refl _)
  · refine x_retv [_] rfl ⟨rfl, trivial⟩ ⟨sus, ?_, E.go⟩
    rw [List.take_of_length_le (by omega)] at g3
    exact OwnD.wide (by assumption) (by omega) (Nat.le_refl _)
end
end Go.Proofs.YtdkedajdgllilaaDoor

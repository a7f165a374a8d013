/- Contracts: decks that are gang punched. -/
import Derived.Test.YtkkgkoibabbjoaaRepA
namespace Go.Proofs.Ytkkgkoibabbjoaa
open Go Go.Gw
set_option linter.unusedVariables false
set_option linter.unusedSimpArgs false
def cGng (ms : List Int) (xss : List (List Int)) (ps : List (Int × Int)) : Int := if okK ms = true ∧ okD xss = true then (if okCp ps ms.length (widD xss) = true then 0 else 2) else 1
def gngF (ms : List Int) (ps : List (Int × Int)) (xs : List Int) : List Int := copyF ms ps xs ps.length
def resGng (ms : List Int) (xss : List (List Int)) (ps : List (Int × Int)) : List (List Int) := if cGng ms xss ps = 0 then xss.map (gngF ms ps) else []
theorem cGng_1 {ms : List Int} {xss : List (List Int)} {ps : List (Int × Int)} (h : okK ms = false ∨ okD xss = false) : cGng ms xss ps = 1 := by
  rw [cGng, if_neg]; rintro ⟨h1, h2⟩; simp [h1, h2] at h
theorem cGng_2 {ms : List Int} {xss : List (List Int)} {ps : List (Int × Int)} (h0 : okK ms = true) (h : okD xss = true) (h2 : okCp ps ms.length (widD xss) = false) : cGng ms xss ps = 2 := by simp [cGng, h, h2, h0]
theorem cGng_0 {ms : List Int} {xss : List (List Int)} {ps : List (Int × Int)} (h0 : okK ms = true) (h : okD xss = true) (h2 : okCp ps ms.length (widD xss) = true) : cGng ms xss ps = 0 := by simp [cGng, h, h2, h0]
theorem deck_bd {xss yss : List (List Int)} (hk : okD xss = true) (hl : yss.length = xss.length) (h : ∀ i, i < xss.length → (yss.getD i []).length = (xss.getD i []).length) : totD yss ≤ 800 ∧ yss.length ≤ 40 := by
  have hb2 := okD_len hk
  have h1 := totD_le (xss := yss) 20 (fun i hi => by rw [h i (by omega)]; exact (okK_len (okD_at hk i (by omega)).1).2)
  omega
theorem resGng_bd (ms : List Int) (xss : List (List Int)) (ps : List (Int × Int)) : totD (resGng ms xss ps) ≤ 800 ∧ (resGng ms xss ps).length ≤ 40 := by
  unfold resGng
  split
  · rename_i h
    cases hk : okD xss
    · rw [cGng_1 (.inr hk)] at h; cases h
    exact deck_bd hk (by simp) (fun i hi => by rw [map_getD (d := []) _ hi, gngF, copyF_len])
  · simp [totD, tot]
section
variable {w : World} {lo hi lo' hi' l2 h2 e b b' o o' lo3 hi3 : Nat} {v v' v2 d vo : Value} {xs ys ms : List Int} {ps : List (Int × Int)} {xss yss : List (List Int)} {svs sus : List SV} {f t : Int}
theorem l02Copy_c (h : SLL w lo hi svs v xss := by repeat (first | assumption | exact Go.Gw.Own.sl (by assumption) | exact Go.Gw.Box.at (by assumption) | exact Go.Gw.SLL.el (by first | assumption | exact Go.Gw.OwnD.sll (by assumption)) _ (by omega) | exact Go.Gw.SLL.at (by first | assumption | exact Go.Gw.OwnD.sll (by assumption)) (by omega) | exact Go.Gw.OwnD.sll (by assumption) | (apply Go.Gw.SL.chg; case hx => assumption) | (apply Go.Gw.Own.chg; case hx => assumption) | (apply Go.Gw.Box.chg; case hx => assumption) | (apply Go.Gw.At.chg; case hx => assumption) | exact .inl (Nat.zero_le _) | exact .inr (Nat.zero_le _) | (show _ ∨ _; omega))) (hk : okD xss = true := by assumption) : Ret Try.prog 44 [v] w fun u w' => ∃ sus, OwnD w' 42 w.heap.size w'.heap.size sus u xss ∧ Ext w w' := by
  have hb2 := okD_len hk
  have E : Since 0 0 w w := Since.refl 0 0 w
  refine ret_enter Try.func44 rfl Try.ntmps44 rfl ?_
  focus
    have ht_h := h.top
    refine c_seq ?_
    refine c_region ?_
    refine w_pure (y_assign rfl) rfl ?_
    refine w_nil ?_
    refine x_next ?_
    refine c_seq ?_
    refine c_region ?_
    refine w_lit_d0 rfl (k := fun v5 w5 ho5 hx5 hl5 hh5 hs5 => ?_)
    have hl_ho5 := ho5.lt
    have hz_hx5 := hx5.size
    replace h := h.ext hx5
    replace E := E.trans hx5
    refine w_pure (y_assign rfl) rfl ?_
    refine w_nil ?_
    refine x_next ?_
    refine c_seq ?_
    refine c_seq ?_
    refine c_region ?_
    refine w_pure (y_assign rfl) rfl ?_
    refine w_nil ?_
    refine x_next ?_
    refine c_block ?_
    rotate_left
  refine c_loopC (bL v5) (bH v5) (ι := Int × Value × List SV) (fun x => [(0, v), (3, x.2.1), (4, .int .i64 x.1)])
    (fun x w' => SLL w' lo hi svs v xss ∧ OwnD w' 42 w.heap.size w'.heap.size x.2.2 x.2.1 (xss.take x.1.toNat) ∧ ((bL x.2.1 = bL v5 ∧ bH x.2.1 = bH v5) ∨ w5.heap.size ≤ bL x.2.1) ∧ 0 ≤ x.1 ∧ x.1 ≤ xss.length) (fun x => (xss.length - x.1).toNat) (0, v5, [])
    (by repeat (first | exact trivial | refine ⟨rfl, ?_⟩)) ⟨by assumption, OwnD.wide (ho5.low (by omega)) (by omega) (Nat.le_refl _), .inl ⟨rfl, rfl⟩, by omega, by omega⟩ ?_
  clear ho5
  rintro ⟨i, u, sus⟩ wL hxL EL ⟨g1, g3, g4, hi0, hi1⟩
  dsimp only at *
  have hml : i ≤ xss.length → (xss.take i.toNat).length = i.toNat := fun hh => by simp; omega
  have hwd : i < xss.length → (xss.getD i.toNat []).length ≤ 20 := fun hh => (okK_len (okD_at hk _ (by omega)).1).2
  have e1 : (i + 1).toNat = i.toNat + 1 := by omega
  focus
    have ht_g1 := g1.top
    have hl_g3 := g3.lt
    have hz_hxL := hxL.size
    replace h := h.chg hxL (by omega)
    replace E := E.next hxL (by omega)
    refine c_seq ?_
    refine c_seq ?_
    refine c_region ?_
    refine w_pure (y_move rfl) rfl ?_
    refine w_pure (y_move rfl) rfl ?_
    refine w_pure (y_lend rfl) rfl ?_
    refine w_pure (y_lt rfl rfl) rfl ?_
    refine w_nil ?_
    refine x_next ?_
    (refine c_dec rfl (fun hc9 => ?_) (fun hc9 => ?_) <;> try (first | exact absurd rfl hc9 | contradiction | exact Bool.noConfusion (show false = true from hc9.symm.trans (by assumption)) | exact Bool.noConfusion (show true = false from hc9.symm.trans (by assumption)) | (exfalso; omega) | (exfalso; simp only [*, Bool.not_true, Bool.not_false, reduceCtorEq] at hc9; done)))
    refine c_skip ?_
    refine x_next ?_
    refine c_seq ?_
    refine c_block ?_
    refine c_region ?_
    refine w_pure (y_move rfl) rfl ?_
    refine w_pure (y_move rfl) rfl ?_
    refine w_pure (y_move rfl) rfl ?_
    refine w_pure (y_indexd rfl rfl) rfl ?_
    (refine w_call rfl rfl rfl (l02Own_c) rfl ?_; rintro _ w16 ⟨d16, ⟨rfl, ⟨hp1_16, hx16⟩⟩⟩)
    have hl_hp1_16 := hp1_16.lt
    have hz_hx16 := hx16.size
    replace EL := EL.next hx16 (by omega)
    replace g1 := g1.ext hx16
    replace g3 := g3.ext hx16
    replace h := h.ext hx16
    replace E := E.trans hx16
    refine w_lit_cd rfl rfl (k := fun v17 w17 ho17 hx17 hl17 hh17 hs17 => ?_)
    have hl_ho17 := ho17.lt
    have hz_hx17 := hx17.size
    replace hp1_16 := hp1_16.ext hx17
    replace EL := EL.next hx17 (by omega)
    replace g1 := g1.ext hx17
    replace g3 := g3.ext hx17
    replace h := h.ext hx17
    replace E := E.trans hx17
    refine w_append_d rfl rfl (k := fun v18 w18 ho18 hx18 hr18 => ?_)
    have hl_ho18 := ho18.lt
    have hz_hx18 := hx18.size
    replace ho17 := ho17.chg hx18 (by omega)
    replace hp1_16 := hp1_16.chg hx18 (by omega)
    replace EL := EL.next hx18 (by omega)
    replace g1 := g1.chg hx18 (by omega)
    replace h := h.chg hx18 (by omega)
    replace E := E.next hx18 (by omega)
    refine w_pure (y_assign rfl) rfl ?_
    refine w_nil ?_
    refine x_block_norm ?_
    refine x_next ?_
    refine c_region ?_
    refine w_pure (y_move rfl) rfl ?_
    refine w_pure (y_add rfl rfl) rfl ?_
    refine w_pure (y_assign rfl) rfl ?_
    refine w_nil ?_
    rotate_left
    refine c_exit ?_
    refine x_then_exit ?_
    refine x_then_exit ?_
    refine x_block_hit ?_
    refine x_next ?_
    refine c_seq ?_
    refine c_region ?_
    refine w_pure (y_move rfl) rfl ?_
    refine w_pure (y_assign rfl) rfl ?_
    refine w_nil ?_
    refine x_next ?_
    refine c_ret ?_
    rotate_left
  · refine x_again (i + 1, v18, sus ++ [svOf d16]) (by repeat (first | exact trivial | refine ⟨rfl, ?_⟩)) ⟨EL.go, by assumption, ?_, by dsimp only; omega, by dsimp only; omega, by dsimp only; omega⟩ (by dsimp only; omega)
    dsimp only
    rw [e1, List.take_add_one, show xss[i.toNat]? = some (xss.getD i.toNat []) by rw [List.getD_eq_getElem?_getD, List.getElem?_eq_getElem (by omega)]; rfl]
    exact OwnD.wide (by assumption) (by omega) (Nat.le_refl _)
  · refine x_retv [_] rfl ⟨rfl, trivial⟩ ⟨sus, ?_, E.go⟩
    rw [List.take_of_length_le (by omega)] at g3
    exact OwnD.wide (by assumption) (by omega) (Nat.le_refl _)
theorem l10CopyEl_e {i : Nat} (g : OwnD w e lo3 hi3 sus vo yss := by assumption) (hlt : i < yss.length := by omega) (hp : At w b o [v'] := by repeat (first | assumption | exact Go.Gw.Own.sl (by assumption) | exact Go.Gw.Box.at (by assumption) | exact Go.Gw.SLL.el (by first | assumption | exact Go.Gw.OwnD.sll (by assumption)) _ (by omega) | exact Go.Gw.SLL.at (by first | assumption | exact Go.Gw.OwnD.sll (by assumption)) (by omega) | exact Go.Gw.OwnD.sll (by assumption) | (apply Go.Gw.SL.chg; case hx => assumption) | (apply Go.Gw.Own.chg; case hx => assumption) | (apply Go.Gw.Box.chg; case hx => assumption) | (apply Go.Gw.At.chg; case hx => assumption) | exact .inl (Nat.zero_le _) | exact .inr (Nat.zero_le _) | (show _ ∨ _; omega))) (h' : SL w lo' hi' v' xs := by repeat (first | assumption | exact Go.Gw.Own.sl (by assumption) | exact Go.Gw.Box.at (by assumption) | exact Go.Gw.SLL.el (by first | assumption | exact Go.Gw.OwnD.sll (by assumption)) _ (by omega) | exact Go.Gw.SLL.at (by first | assumption | exact Go.Gw.OwnD.sll (by assumption)) (by omega) | exact Go.Gw.OwnD.sll (by assumption) | (apply Go.Gw.SL.chg; case hx => assumption) | (apply Go.Gw.Own.chg; case hx => assumption) | (apply Go.Gw.Box.chg; case hx => assumption) | (apply Go.Gw.At.chg; case hx => assumption) | exact .inl (Nat.zero_le _) | exact .inr (Nat.zero_le _) | (show _ ∨ _; omega))) (hl : SL w l2 h2 v2 ps := by repeat (first | assumption | exact Go.Gw.Own.sl (by assumption) | exact Go.Gw.Box.at (by assumption) | exact Go.Gw.SLL.el (by first | assumption | exact Go.Gw.OwnD.sll (by assumption)) _ (by omega) | exact Go.Gw.SLL.at (by first | assumption | exact Go.Gw.OwnD.sll (by assumption)) (by omega) | exact Go.Gw.OwnD.sll (by assumption) | (apply Go.Gw.SL.chg; case hx => assumption) | (apply Go.Gw.Own.chg; case hx => assumption) | (apply Go.Gw.Box.chg; case hx => assumption) | (apply Go.Gw.At.chg; case hx => assumption) | exact .inl (Nat.zero_le _) | exact .inr (Nat.zero_le _) | (show _ ∨ _; omega))) (hx : Rng xs := by assumption) (hy : Rng (yss.getD i []) := by assumption) (hc : okCp ps f t = true := by assumption) (hf : f = xs.length := by first | assumption | omega) (ht : t = (yss.getD i []).length := by first | assumption | omega)
    (hd : (hi3 ≤ lo' ∨ hi' ≤ lo3) ∧ (hi3 ≤ l2 ∨ h2 ≤ lo3) ∧ (b < lo3 ∨ hi3 ≤ b) := by omega) :
    Ret Try.prog 32 [ptr b o, ptr (sb vo) (so vo + i * 1), v2] w fun u w' => u = .tuple #[] ∧ OwnD w' e lo3 hi3 sus vo (yss.set i (copyF xs ps (yss.getD i []) ps.length)) ∧ Chg lo3 hi3 w w' := by
  have hr := (g.plc i hlt).rng
  have ho := (g.plc i hlt).out
  have hv := g.lt
  have hln := g.len
  have hin := g.own.sl.inn (by omega)
  refine (l10Copy_c hp (g.sll.at hlt) (g.el i hlt) h' hl hx hy hc hf ht (by unfold Apart at ho; omega)).mono ?_
  rintro u w' ⟨rfl, hs, hch⟩
  exact ⟨rfl, g.upd hlt hch rfl rfl hs, hch.wide (by omega) (by omega)⟩
theorem iGangPunch_c (h0 : SL w lo' hi' v' ms := by repeat (first | assumption | exact Go.Gw.Own.sl (by assumption) | exact Go.Gw.Box.at (by assumption) | exact Go.Gw.SLL.el (by first | assumption | exact Go.Gw.OwnD.sll (by assumption)) _ (by omega) | exact Go.Gw.SLL.at (by first | assumption | exact Go.Gw.OwnD.sll (by assumption)) (by omega) | exact Go.Gw.OwnD.sll (by assumption) | (apply Go.Gw.SL.chg; case hx => assumption) | (apply Go.Gw.Own.chg; case hx => assumption) | (apply Go.Gw.Box.chg; case hx => assumption) | (apply Go.Gw.At.chg; case hx => assumption) | exact .inl (Nat.zero_le _) | exact .inr (Nat.zero_le _) | (show _ ∨ _; omega))) (h : SLL w lo hi svs v xss := by repeat (first | assumption | exact Go.Gw.Own.sl (by assumption) | exact Go.Gw.Box.at (by assumption) | exact Go.Gw.SLL.el (by first | assumption | exact Go.Gw.OwnD.sll (by assumption)) _ (by omega) | exact Go.Gw.SLL.at (by first | assumption | exact Go.Gw.OwnD.sll (by assumption)) (by omega) | exact Go.Gw.OwnD.sll (by assumption) | (apply Go.Gw.SL.chg; case hx => assumption) | (apply Go.Gw.Own.chg; case hx => assumption) | (apply Go.Gw.Box.chg; case hx => assumption) | (apply Go.Gw.At.chg; case hx => assumption) | exact .inl (Nat.zero_le _) | exact .inr (Nat.zero_le _) | (show _ ∨ _; omega))) (hl : SL w l2 h2 v2 ps := by repeat (first | assumption | exact Go.Gw.Own.sl (by assumption) | exact Go.Gw.Box.at (by assumption) | exact Go.Gw.SLL.el (by first | assumption | exact Go.Gw.OwnD.sll (by assumption)) _ (by omega) | exact Go.Gw.SLL.at (by first | assumption | exact Go.Gw.OwnD.sll (by assumption)) (by omega) | exact Go.Gw.OwnD.sll (by assumption) | (apply Go.Gw.SL.chg; case hx => assumption) | (apply Go.Gw.Own.chg; case hx => assumption) | (apply Go.Gw.Box.chg; case hx => assumption) | (apply Go.Gw.At.chg; case hx => assumption) | exact .inl (Nat.zero_le _) | exact .inr (Nat.zero_le _) | (show _ ∨ _; omega))) : Ret Try.prog 21 [.agg #[v'], v, v2] w fun u w' => ∃ d sus, u = .tuple #[d, .int .i64 (cGng ms xss ps)] ∧ OwnD w' 42 w.heap.size w'.heap.size sus d (resGng ms xss ps) ∧ Ext w w' := by
  have E : Since 0 0 w w := Since.refl 0 0 w
  cases hk0 : okK ms
  · refine ret_enter Try.func21 rfl Try.ntmps21 rfl ?_
    focus
      have ht_h0 := h0.top
      have ht_h := h.top
      have ht_hl := hl.top
      refine c_seq ?_
      refine c_region ?_
      refine w_box rfl (k := fun b3 w3 hb3 hx3 hl3 hs3 => ?_)
      have hz_hx3 := hx3.size
      replace h0 := h0.ext hx3
      replace h := h.ext hx3
      replace hl := hl.ext hx3
      replace E := E.trans hx3
      refine w_pure (y_assign rfl) rfl ?_
      refine w_pure (y_assign rfl) rfl ?_
      refine w_nil ?_
      refine x_next ?_
      refine c_seq ?_
      refine c_block ?_
      refine c_seq ?_
      refine c_region ?_
      refine w_pure (y_load_boxs rfl) rfl ?_
      refine w_val rfl rfl rfl (iValidCard_c) rfl (fun w13 hx13 hz13 => ?_)
      have hz_hx13 := hx13.size
      replace hb3 := hb3.ext hx13
      replace h0 := h0.ext hx13
      replace h := h.ext hx13
      replace hl := hl.ext hx13
      replace E := E.trans hx13
      refine w_pure (y_not rfl) rfl ?_
      refine w_pure (y_move rfl) rfl ?_
      (refine w_part rfl rfl (fun hc16 => ?_) (fun hc16 => ?_) <;> try (first | exact absurd rfl hc16 | contradiction | exact Bool.noConfusion (show false = true from hc16.symm.trans (by assumption)) | exact Bool.noConfusion (show true = false from hc16.symm.trans (by assumption)) | (exfalso; omega) | (exfalso; simp only [*, Bool.not_true, Bool.not_false, reduceCtorEq] at hc16; done)))
      refine w_no rfl rfl rfl rfl ?_
      refine w_no rfl rfl rfl rfl ?_
      refine w_no rfl rfl rfl rfl ?_
      refine w_pure (y_pick_t rfl rfl) rfl ?_
      refine w_pure (y_assign rfl) rfl ?_
      refine w_nil ?_
      refine x_next ?_
      refine c_true rfl ?_
      refine c_seq ?_
      refine c_region ?_
      refine w_pure (y_assign rfl) rfl ?_
      refine w_pure (y_assign rfl) rfl ?_
      refine w_nil ?_
      refine x_next ?_
      refine c_ret ?_
      refine x_block_ret ?_
      refine x_then_ret ?_
      rotate_left
    exact x_retv [_, _] rfl ⟨rfl, rfl, trivial⟩ ⟨_, [], by rw [cGng_1 (.inl hk0)]; rfl, by unfold resGng; rw [cGng_1 (.inl hk0), if_neg (by decide)]; exact OwnD.nil _ _ _ _ (Nat.le_refl _), E.go⟩
  cases hk : okD xss
  · refine ret_enter Try.func21 rfl Try.ntmps21 rfl ?_
    focus
      have ht_h0 := h0.top
      have ht_h := h.top
      have ht_hl := hl.top
      refine c_seq ?_
      refine c_region ?_
      refine w_box rfl (k := fun b3 w3 hb3 hx3 hl3 hs3 => ?_)
      have hz_hx3 := hx3.size
      replace h0 := h0.ext hx3
      replace h := h.ext hx3
      replace hl := hl.ext hx3
      replace E := E.trans hx3
      refine w_pure (y_assign rfl) rfl ?_
      refine w_pure (y_assign rfl) rfl ?_
      refine w_nil ?_
      refine x_next ?_
      refine c_seq ?_
      refine c_block ?_
      refine c_seq ?_
      refine c_region ?_
      refine w_pure (y_load_boxs rfl) rfl ?_
      refine w_val rfl rfl rfl (iValidCard_c) rfl (fun w13 hx13 hz13 => ?_)
      have hz_hx13 := hx13.size
      replace hb3 := hb3.ext hx13
      replace h0 := h0.ext hx13
      replace h := h.ext hx13
      replace hl := hl.ext hx13
      replace E := E.trans hx13
      refine w_pure (y_not rfl) rfl ?_
      refine w_pure (y_move rfl) rfl ?_
      (refine w_part rfl rfl (fun hc16 => ?_) (fun hc16 => ?_) <;> try (first | exact absurd rfl hc16 | contradiction | exact Bool.noConfusion (show false = true from hc16.symm.trans (by assumption)) | exact Bool.noConfusion (show true = false from hc16.symm.trans (by assumption)) | (exfalso; omega) | (exfalso; simp only [*, Bool.not_true, Bool.not_false, reduceCtorEq] at hc16; done)))
      refine w_yes rfl rfl ?_
      refine w_pure (y_move rfl) rfl ?_
      refine w_yes rfl rfl ?_
      refine w_val rfl rfl rfl (iValidDeck_c) rfl (fun w17 hx17 hz17 => ?_)
      have hz_hx17 := hx17.size
      replace hb3 := hb3.ext hx17
      replace h0 := h0.ext hx17
      replace h := h.ext hx17
      replace hl := hl.ext hx17
      replace E := E.trans hx17
      refine w_yes rfl rfl ?_
      refine w_pure (y_not rfl) rfl ?_
      refine w_pure (y_pick_f rfl rfl) rfl ?_
      refine w_pure (y_assign rfl) rfl ?_
      refine w_nil ?_
      refine x_next ?_
      (refine c_not rfl (fun hc11 => ?_) (fun hc11 => ?_) <;> try (first | exact absurd rfl hc11 | contradiction | exact Bool.noConfusion (show false = true from hc11.symm.trans (by assumption)) | exact Bool.noConfusion (show true = false from hc11.symm.trans (by assumption)) | (exfalso; omega) | (exfalso; simp only [*, Bool.not_true, Bool.not_false, reduceCtorEq] at hc11; done)))
      refine c_seq ?_
      refine c_region ?_
      refine w_pure (y_assign rfl) rfl ?_
      refine w_pure (y_assign rfl) rfl ?_
      refine w_nil ?_
      refine x_next ?_
      refine c_ret ?_
      refine x_block_ret ?_
      refine x_then_ret ?_
      rotate_left
    exact x_retv [_, _] rfl ⟨rfl, rfl, trivial⟩ ⟨_, [], by rw [cGng_1 (.inr hk)]; rfl, by unfold resGng; rw [cGng_1 (.inr hk), if_neg (by decide)]; exact OwnD.nil _ _ _ _ (Nat.le_refl _), E.go⟩
  cases hk2 : okCp ps ms.length (widD xss)
  · refine ret_enter Try.func21 rfl Try.ntmps21 rfl ?_
    focus
      have ht_h0 := h0.top
      have ht_h := h.top
      have ht_hl := hl.top
      refine c_seq ?_
      refine c_region ?_
      refine w_box rfl (k := fun b3 w3 hb3 hx3 hl3 hs3 => ?_)
      have hz_hx3 := hx3.size
      replace h0 := h0.ext hx3
      replace h := h.ext hx3
      replace hl := hl.ext hx3
      replace E := E.trans hx3
      refine w_pure (y_assign rfl) rfl ?_
      refine w_pure (y_assign rfl) rfl ?_
      refine w_nil ?_
      refine x_next ?_
      refine c_seq ?_
      refine c_block ?_
      refine c_seq ?_
      refine c_region ?_
      refine w_pure (y_load_boxs rfl) rfl ?_
      refine w_val rfl rfl rfl (iValidCard_c) rfl (fun w13 hx13 hz13 => ?_)
      have hz_hx13 := hx13.size
      replace hb3 := hb3.ext hx13
      replace h0 := h0.ext hx13
      replace h := h.ext hx13
      replace hl := hl.ext hx13
      replace E := E.trans hx13
      refine w_pure (y_not rfl) rfl ?_
      refine w_pure (y_move rfl) rfl ?_
      (refine w_part rfl rfl (fun hc16 => ?_) (fun hc16 => ?_) <;> try (first | exact absurd rfl hc16 | contradiction | exact Bool.noConfusion (show false = true from hc16.symm.trans (by assumption)) | exact Bool.noConfusion (show true = false from hc16.symm.trans (by assumption)) | (exfalso; omega) | (exfalso; simp only [*, Bool.not_true, Bool.not_false, reduceCtorEq] at hc16; done)))
      refine w_yes rfl rfl ?_
      refine w_pure (y_move rfl) rfl ?_
      refine w_yes rfl rfl ?_
      refine w_val rfl rfl rfl (iValidDeck_c) rfl (fun w17 hx17 hz17 => ?_)
      have hz_hx17 := hx17.size
      replace hb3 := hb3.ext hx17
      replace h0 := h0.ext hx17
      replace h := h.ext hx17
      replace hl := hl.ext hx17
      replace E := E.trans hx17
      refine w_yes rfl rfl ?_
      refine w_pure (y_not rfl) rfl ?_
      refine w_pure (y_pick_f rfl rfl) rfl ?_
      refine w_pure (y_assign rfl) rfl ?_
      refine w_nil ?_
      refine x_next ?_
      (refine c_not rfl (fun hc11 => ?_) (fun hc11 => ?_) <;> try (first | exact absurd rfl hc11 | contradiction | exact Bool.noConfusion (show false = true from hc11.symm.trans (by assumption)) | exact Bool.noConfusion (show true = false from hc11.symm.trans (by assumption)) | (exfalso; omega) | (exfalso; simp only [*, Bool.not_true, Bool.not_false, reduceCtorEq] at hc11; done)))
      refine c_seq ?_
      refine c_region ?_
      refine w_pure (y_move rfl) rfl ?_
      refine w_pure (y_load_boxs rfl) rfl ?_
      refine w_val rfl rfl rfl (columns_c) rfl (fun w23 hx23 hz23 => ?_)
      have hz_hx23 := hx23.size
      replace hb3 := hb3.ext hx23
      replace h0 := h0.ext hx23
      replace h := h.ext hx23
      replace hl := hl.ext hx23
      replace E := E.trans hx23
      refine w_pure (y_move rfl) rfl ?_
      refine w_val rfl rfl rfl (deckColumns_c) rfl (fun w25 hx25 hz25 => ?_)
      have hz_hx25 := hx25.size
      replace hb3 := hb3.ext hx25
      replace h0 := h0.ext hx25
      replace h := h.ext hx25
      replace hl := hl.ext hx25
      replace E := E.trans hx25
      refine w_val rfl rfl rfl (iValidCopies_c _ _) rfl (fun w26 hx26 hz26 => ?_)
      have hz_hx26 := hx26.size
      replace hb3 := hb3.ext hx26
      replace h0 := h0.ext hx26
      replace h := h.ext hx26
      replace hl := hl.ext hx26
      replace E := E.trans hx26
      refine w_pure (y_not rfl) rfl ?_
      refine w_pure (y_assign rfl) rfl ?_
      refine w_nil ?_
      refine x_next ?_
      (refine c_not rfl (fun hc20 => ?_) (fun hc20 => ?_) <;> try (first | exact absurd rfl hc20 | contradiction | exact Bool.noConfusion (show false = true from hc20.symm.trans (by assumption)) | exact Bool.noConfusion (show true = false from hc20.symm.trans (by assumption)) | (exfalso; omega) | (exfalso; simp only [*, Bool.not_true, Bool.not_false, reduceCtorEq] at hc20; done)))
      refine c_seq ?_
      refine c_region ?_
      refine w_pure (y_assign rfl) rfl ?_
      refine w_pure (y_assign rfl) rfl ?_
      refine w_nil ?_
      refine x_next ?_
      refine c_ret ?_
      refine x_block_ret ?_
      refine x_then_ret ?_
      rotate_left
    exact x_retv [_, _] rfl ⟨rfl, rfl, trivial⟩ ⟨_, [], by rw [cGng_2 hk0 hk hk2]; rfl, by unfold resGng; rw [cGng_2 hk0 hk hk2, if_neg (by decide)]; exact OwnD.nil _ _ _ _ (Nat.le_refl _), E.go⟩
  have hb := okCp_bd hk2
  have hb2 := okD_len hk
  have hm := rng_of hk0
  refine ret_enter Try.func21 rfl Try.ntmps21 rfl ?_
  focus
    have ht_h0 := h0.top
    have ht_h := h.top
    have ht_hl := hl.top
    refine c_seq ?_
    refine c_region ?_
    refine w_box rfl (k := fun b3 w3 hb3 hx3 hl3 hs3 => ?_)
    have hz_hx3 := hx3.size
    replace h0 := h0.ext hx3
    replace h := h.ext hx3
    replace hl := hl.ext hx3
    replace E := E.trans hx3
    refine w_pure (y_assign rfl) rfl ?_
    refine w_pure (y_assign rfl) rfl ?_
    refine w_nil ?_
    refine x_next ?_
    refine c_seq ?_
    refine c_block ?_
    refine c_seq ?_
    refine c_region ?_
    refine w_pure (y_load_boxs rfl) rfl ?_
    refine w_val rfl rfl rfl (iValidCard_c) rfl (fun w13 hx13 hz13 => ?_)
    have hz_hx13 := hx13.size
    replace hb3 := hb3.ext hx13
    replace h0 := h0.ext hx13
    replace h := h.ext hx13
    replace hl := hl.ext hx13
    replace E := E.trans hx13
    refine w_pure (y_not rfl) rfl ?_
    refine w_pure (y_move rfl) rfl ?_
    (refine w_part rfl rfl (fun hc16 => ?_) (fun hc16 => ?_) <;> try (first | exact absurd rfl hc16 | contradiction | exact Bool.noConfusion (show false = true from hc16.symm.trans (by assumption)) | exact Bool.noConfusion (show true = false from hc16.symm.trans (by assumption)) | (exfalso; omega) | (exfalso; simp only [*, Bool.not_true, Bool.not_false, reduceCtorEq] at hc16; done)))
    refine w_yes rfl rfl ?_
    refine w_pure (y_move rfl) rfl ?_
    refine w_yes rfl rfl ?_
    refine w_val rfl rfl rfl (iValidDeck_c) rfl (fun w17 hx17 hz17 => ?_)
    have hz_hx17 := hx17.size
    replace hb3 := hb3.ext hx17
    replace h0 := h0.ext hx17
    replace h := h.ext hx17
    replace hl := hl.ext hx17
    replace E := E.trans hx17
    refine w_yes rfl rfl ?_
    refine w_pure (y_not rfl) rfl ?_
    refine w_pure (y_pick_f rfl rfl) rfl ?_
    refine w_pure (y_assign rfl) rfl ?_
    refine w_nil ?_
    refine x_next ?_
    (refine c_not rfl (fun hc11 => ?_) (fun hc11 => ?_) <;> try (first | exact absurd rfl hc11 | contradiction | exact Bool.noConfusion (show false = true from hc11.symm.trans (by assumption)) | exact Bool.noConfusion (show true = false from hc11.symm.trans (by assumption)) | (exfalso; omega) | (exfalso; simp only [*, Bool.not_true, Bool.not_false, reduceCtorEq] at hc11; done)))
    refine c_seq ?_
    refine c_region ?_
    refine w_pure (y_move rfl) rfl ?_
    refine w_pure (y_load_boxs rfl) rfl ?_
    refine w_val rfl rfl rfl (columns_c) rfl (fun w23 hx23 hz23 => ?_)
    have hz_hx23 := hx23.size
    replace hb3 := hb3.ext hx23
    replace h0 := h0.ext hx23
    replace h := h.ext hx23
    replace hl := hl.ext hx23
    replace E := E.trans hx23
    refine w_pure (y_move rfl) rfl ?_
    refine w_val rfl rfl rfl (deckColumns_c) rfl (fun w25 hx25 hz25 => ?_)
    have hz_hx25 := hx25.size
    replace hb3 := hb3.ext hx25
    replace h0 := h0.ext hx25
    replace h := h.ext hx25
    replace hl := hl.ext hx25
    replace E := E.trans hx25
    refine w_val rfl rfl rfl (iValidCopies_c _ _) rfl (fun w26 hx26 hz26 => ?_)
    have hz_hx26 := hx26.size
    replace hb3 := hb3.ext hx26
    replace h0 := h0.ext hx26
    replace h := h.ext hx26
    replace hl := hl.ext hx26
    replace E := E.trans hx26
    refine w_pure (y_not rfl) rfl ?_
    refine w_pure (y_assign rfl) rfl ?_
    refine w_nil ?_
    refine x_next ?_
    (refine c_not rfl (fun hc20 => ?_) (fun hc20 => ?_) <;> try (first | exact absurd rfl hc20 | contradiction | exact Bool.noConfusion (show false = true from hc20.symm.trans (by assumption)) | exact Bool.noConfusion (show true = false from hc20.symm.trans (by assumption)) | (exfalso; omega) | (exfalso; simp only [*, Bool.not_true, Bool.not_false, reduceCtorEq] at hc20; done)))
    refine c_skip ?_
    refine x_block_norm ?_
    refine x_next ?_
    refine c_seq ?_
    refine c_region ?_
    refine w_lit_d0 rfl (k := fun v28 w28 ho28 hx28 hl28 hh28 hs28 => ?_)
    have hl_ho28 := ho28.lt
    have hz_hx28 := hx28.size
    replace hb3 := hb3.ext hx28
    replace h0 := h0.ext hx28
    replace h := h.ext hx28
    replace hl := hl.ext hx28
    replace E := E.trans hx28
    refine w_pure (y_assign rfl) rfl ?_
    refine w_nil ?_
    refine x_next ?_
    refine c_seq ?_
    refine c_seq ?_
    refine c_region ?_
    refine w_pure (y_move rfl) rfl ?_
    refine w_pure (y_lend rfl) rfl ?_
    refine w_pure (y_move rfl) rfl ?_
    refine w_nil ?_
    refine x_next ?_
    refine c_block ?_
    rotate_left
  refine c_loopC (bL v28) (bH v28) (ι := Int × Value × List SV) (fun x => [(2, v2), (3, ptr b3 0), (8, x.2.1), (29, v), (30, .int .i64 xss.length), (31, .int .i64 x.1)])
    (fun x w' => SLL w' lo hi svs v xss ∧ SL w' l2 h2 v2 ps ∧ SL w' lo' hi' v' ms ∧ Box w' b3 [v'] ∧ OwnD w' 42 w.heap.size w'.heap.size x.2.2 x.2.1 ((xss.take x.1.toNat).map (gngF ms ps)) ∧ ((bL x.2.1 = bL v28 ∧ bH x.2.1 = bH v28) ∨ w28.heap.size ≤ bL x.2.1) ∧ 0 ≤ x.1 ∧ x.1 ≤ xss.length) (fun x => (xss.length - x.1).toNat) (0, v28, [])
    (by repeat (first | exact trivial | refine ⟨rfl, ?_⟩)) ⟨by assumption, by assumption, by assumption, by assumption, OwnD.wide (ho28.low (by omega)) (by omega) (Nat.le_refl _), .inl ⟨rfl, rfl⟩, by omega, by omega⟩ ?_
  clear ho28 hb3
  rintro ⟨i, u, sus⟩ wL hxL EL ⟨g1, g2, g0, gb, g3, g4, hi0, hi1⟩
  dsimp only at *
  have hml : i ≤ xss.length → ((xss.take i.toNat).map (gngF ms ps)).length = i.toNat := fun hh => map_take_len _ (by omega)
  have hrg : i < xss.length → Rng (xss.getD i.toNat []) := fun hh => rng_of (okD_at hk _ (by omega)).1
  have hwd : i < xss.length → ((xss.getD i.toNat []).length : Int) = widD xss := fun hh => widD_at hk _ (by omega)
  have e1 : (i + 1).toNat = i.toNat + 1 := by omega
  focus
    have ht_g1 := g1.top
    have ht_g2 := g2.top
    have ht_g0 := g0.top
    have hl_g3 := g3.lt
    have hz_hxL := hxL.size
    replace h0 := h0.chg hxL (by omega)
    replace h := h.chg hxL (by omega)
    replace hl := hl.chg hxL (by omega)
    replace E := E.next hxL (by omega)
    refine c_seq ?_
    refine c_region ?_
    refine w_pure (y_lt rfl rfl) rfl ?_
    refine w_nil ?_
    refine x_next ?_
    refine c_seq ?_
    (refine c_dec rfl (fun hc32 => ?_) (fun hc32 => ?_) <;> try (first | exact absurd rfl hc32 | contradiction | exact Bool.noConfusion (show false = true from hc32.symm.trans (by assumption)) | exact Bool.noConfusion (show true = false from hc32.symm.trans (by assumption)) | (exfalso; omega) | (exfalso; simp only [*, Bool.not_true, Bool.not_false, reduceCtorEq] at hc32; done)))
    refine c_skip ?_
    refine x_next ?_
    refine c_seq ?_
    refine c_block ?_
    refine c_seq ?_
    refine c_region ?_
    refine w_pure (y_indexd rfl rfl) rfl ?_
    refine w_pure (y_loads rfl) rfl ?_
    refine w_alloc (k := fun b10 w10 hb10 hx10 hl10 hs10 => ?_)
    have hz_hx10 := hx10.size
    replace EL := EL.next hx10 (by omega)
    replace g1 := g1.ext hx10
    replace g2 := g2.ext hx10
    replace g0 := g0.ext hx10
    replace gb := gb.ext hx10
    replace g3 := g3.ext hx10
    replace h0 := h0.ext hx10
    replace h := h.ext hx10
    replace hl := hl.ext hx10
    replace E := E.trans hx10
    refine w_store_boxs rfl rfl (next := fun ws17 hbs17 hxs17 hss17 => ?_)
    (replace hb10 := hbs17; clear hbs17)
    have hz_hxs17 := hxs17.size
    replace EL := EL.next hxs17 (by omega)
    replace g1 := g1.chg hxs17 (by omega)
    replace g2 := g2.chg hxs17 (by omega)
    replace g0 := g0.chg hxs17 (by omega)
    replace gb := gb.chg hxs17 (by omega)
    replace g3 := g3.chg hxs17 (by omega)
    replace h0 := h0.chg hxs17 (by omega)
    replace h := h.chg hxs17 (by omega)
    replace hl := hl.chg hxs17 (by omega)
    replace E := E.next hxs17 (by omega)
    refine w_nil ?_
    refine x_next ?_
    refine c_region ?_
    refine w_pure (y_move rfl) rfl ?_
    refine w_pure (y_load_boxs rfl) rfl ?_
    refine w_pure (y_load_boxs rfl) rfl ?_
    refine w_pure (y_move rfl) rfl ?_
    (refine w_call rfl rfl rfl (copied_c (hy := hrg (by omega)) (f := ms.length) (t := widD xss)) rfl ?_; rintro _ w39 ⟨d39, ⟨rfl, ⟨hp1_39, hx39⟩⟩⟩)
    have hl_hp1_39 := hp1_39.lt
    have hz_hx39 := hx39.size
    replace hb10 := hb10.ext hx39
    replace EL := EL.next hx39 (by omega)
    replace g1 := g1.ext hx39
    replace g2 := g2.ext hx39
    replace g0 := g0.ext hx39
    replace gb := gb.ext hx39
    replace g3 := g3.ext hx39
    replace h0 := h0.ext hx39
    replace h := h.ext hx39
    replace hl := hl.ext hx39
    replace E := E.trans hx39
    refine w_lit_cd rfl rfl (k := fun v40 w40 ho40 hx40 hl40 hh40 hs40 => ?_)
    have hl_ho40 := ho40.lt
    have hz_hx40 := hx40.size
    replace hp1_39 := hp1_39.ext hx40
    replace hb10 := hb10.ext hx40
    replace EL := EL.next hx40 (by omega)
    replace g1 := g1.ext hx40
    replace g2 := g2.ext hx40
    replace g0 := g0.ext hx40
    replace gb := gb.ext hx40
    replace g3 := g3.ext hx40
    replace h0 := h0.ext hx40
    replace h := h.ext hx40
    replace hl := hl.ext hx40
    replace E := E.trans hx40
    refine w_append_d rfl rfl (k := fun v41 w41 ho41 hx41 hr41 => ?_)
    have hl_ho41 := ho41.lt
    have hz_hx41 := hx41.size
    replace ho40 := ho40.chg hx41 (by omega)
    replace hp1_39 := hp1_39.chg hx41 (by omega)
    replace hb10 := hb10.chg hx41 (by omega)
    replace EL := EL.next hx41 (by omega)
    replace g1 := g1.chg hx41 (by omega)
    replace g2 := g2.chg hx41 (by omega)
    replace g0 := g0.chg hx41 (by omega)
    replace gb := gb.chg hx41 (by omega)
    replace h0 := h0.chg hx41 (by omega)
    replace h := h.chg hx41 (by omega)
    replace hl := hl.chg hx41 (by omega)
    replace E := E.next hx41 (by omega)
    refine w_pure (y_assign rfl) rfl ?_
    refine w_nil ?_
    refine x_block_norm ?_
    refine x_next ?_
    refine c_region ?_
    refine w_pure (y_add rfl rfl) rfl ?_
    refine w_pure (y_move rfl) rfl ?_
    refine w_nil ?_
    rotate_left
    refine c_exit ?_
    refine x_then_exit ?_
    refine x_then_exit ?_
    refine x_block_hit ?_
    refine x_next ?_
    refine c_seq ?_
    refine c_region ?_
    refine w_pure (y_move rfl) rfl ?_
    refine w_pure (y_assign rfl) rfl ?_
    refine w_pure (y_assign rfl) rfl ?_
    refine w_nil ?_
    refine x_next ?_
    refine c_ret ?_
    rotate_left
  · refine x_again (i + 1, v41, sus ++ [svOf d39]) (by repeat (first | exact trivial | refine ⟨rfl, ?_⟩)) ⟨EL.go, by assumption, by assumption, by assumption, by assumption, ?_, by dsimp only; omega, by dsimp only; omega, by dsimp only; omega⟩ (by dsimp only; omega)
    dsimp only
    rw [e1, map_take_succ (d := []) _ (by omega)]
    exact OwnD.wide (by assumption) (by omega) (Nat.le_refl _)
  · refine x_retv [_, _] rfl ⟨rfl, rfl, trivial⟩ ⟨_, sus, by rw [cGng_0 hk0 hk hk2]; rfl, ?_, E.go⟩
    unfold resGng; rw [cGng_0 hk0 hk hk2, if_pos rfl, ← take_map_all _ (i := i.toNat) (by omega)]
    exact OwnD.wide (by assumption) (by omega) (Nat.le_refl _)
theorem sGangPunch_c (h0 : SL w lo' hi' v' ms := by repeat (first | assumption | exact Go.Gw.Own.sl (by assumption) | exact Go.Gw.Box.at (by assumption) | exact Go.Gw.SLL.el (by first | assumption | exact Go.Gw.OwnD.sll (by assumption)) _ (by omega) | exact Go.Gw.SLL.at (by first | assumption | exact Go.Gw.OwnD.sll (by assumption)) (by omega) | exact Go.Gw.OwnD.sll (by assumption) | (apply Go.Gw.SL.chg; case hx => assumption) | (apply Go.Gw.Own.chg; case hx => assumption) | (apply Go.Gw.Box.chg; case hx => assumption) | (apply Go.Gw.At.chg; case hx => assumption) | exact .inl (Nat.zero_le _) | exact .inr (Nat.zero_le _) | (show _ ∨ _; omega))) (h : SLL w lo hi svs v xss := by repeat (first | assumption | exact Go.Gw.Own.sl (by assumption) | exact Go.Gw.Box.at (by assumption) | exact Go.Gw.SLL.el (by first | assumption | exact Go.Gw.OwnD.sll (by assumption)) _ (by omega) | exact Go.Gw.SLL.at (by first | assumption | exact Go.Gw.OwnD.sll (by assumption)) (by omega) | exact Go.Gw.OwnD.sll (by assumption) | (apply Go.Gw.SL.chg; case hx => assumption) | (apply Go.Gw.Own.chg; case hx => assumption) | (apply Go.Gw.Box.chg; case hx => assumption) | (apply Go.Gw.At.chg; case hx => assumption) | exact .inl (Nat.zero_le _) | exact .inr (Nat.zero_le _) | (show _ ∨ _; omega))) (hl : SL w l2 h2 v2 ps := by repeat (first | assumption | exact Go.Gw.Own.sl (by assumption) | exact Go.Gw.Box.at (by assumption) | exact Go.Gw.SLL.el (by first | assumption | exact Go.Gw.OwnD.sll (by assumption)) _ (by omega) | exact Go.Gw.SLL.at (by first | assumption | exact Go.Gw.OwnD.sll (by assumption)) (by omega) | exact Go.Gw.OwnD.sll (by assumption) | (apply Go.Gw.SL.chg; case hx => assumption) | (apply Go.Gw.Own.chg; case hx => assumption) | (apply Go.Gw.Box.chg; case hx => assumption) | (apply Go.Gw.At.chg; case hx => assumption) | exact .inl (Nat.zero_le _) | exact .inr (Nat.zero_le _) | (show _ ∨ _; omega))) : Ret Try.prog 19 [.agg #[v'], v, v2] w fun u w' => ∃ d sus, u = .tuple #[d, .int .i64 (cGng ms xss ps)] ∧ OwnD w' 42 w.heap.size w'.heap.size sus d (resGng ms xss ps) ∧ Ext w w' := by
  have E : Since 0 0 w w := Since.refl 0 0 w
  cases hk0 : okK ms
  · refine ret_enter Try.func19 rfl Try.ntmps19 rfl ?_
    focus
      have ht_h0 := h0.top
      have ht_h := h.top
      have ht_hl := hl.top
      refine c_seq ?_
      refine c_region ?_
      refine w_box rfl (k := fun b3 w3 hb3 hx3 hl3 hs3 => ?_)
      have hz_hx3 := hx3.size
      replace h0 := h0.ext hx3
      replace h := h.ext hx3
      replace hl := hl.ext hx3
      replace E := E.trans hx3
      refine w_pure (y_assign rfl) rfl ?_
      refine w_pure (y_assign rfl) rfl ?_
      refine w_nil ?_
      refine x_next ?_
      refine c_seq ?_
      refine c_seq ?_
      refine c_region ?_
      refine w_val rfl rfl rfl (l02Ok_c) rfl (fun w10 hx10 hz10 => ?_)
      have hz_hx10 := hx10.size
      replace hb3 := hb3.ext hx10
      replace h0 := h0.ext hx10
      replace h := h.ext hx10
      replace hl := hl.ext hx10
      replace E := E.trans hx10
      refine w_pure (y_not rfl) rfl ?_
      refine w_pure (y_move rfl) rfl ?_
      (refine w_part rfl rfl (fun hc13 => ?_) (fun hc13 => ?_) <;> try (first | exact absurd rfl hc13 | contradiction | exact Bool.noConfusion (show false = true from hc13.symm.trans (by assumption)) | exact Bool.noConfusion (show true = false from hc13.symm.trans (by assumption)) | (exfalso; omega) | (exfalso; simp only [*, Bool.not_true, Bool.not_false, reduceCtorEq] at hc13; done)))
      refine w_no rfl rfl rfl rfl ?_
      refine w_no rfl rfl rfl rfl ?_
      refine w_no rfl rfl rfl rfl ?_
      refine w_pure (y_pick_t rfl rfl) rfl ?_
      refine w_nil ?_
      refine x_next ?_
      refine c_true rfl ?_
      refine c_seq ?_
      refine c_region ?_
      refine w_pure (y_assign rfl) rfl ?_
      refine w_pure (y_assign rfl) rfl ?_
      refine w_nil ?_
      refine x_next ?_
      refine c_ret ?_
      refine x_then_ret ?_
      rotate_left
    exact x_retv [_, _] rfl ⟨rfl, rfl, trivial⟩ ⟨_, [], by rw [cGng_1 (.inl hk0)]; rfl, by unfold resGng; rw [cGng_1 (.inl hk0), if_neg (by decide)]; exact OwnD.nil _ _ _ _ (Nat.le_refl _), E.go⟩
  cases hk : okD xss
  · refine ret_enter Try.func19 rfl Try.ntmps19 rfl ?_
    focus
      have ht_h0 := h0.top
      have ht_h := h.top
      have ht_hl := hl.top
      refine c_seq ?_
      refine c_region ?_
      refine w_box rfl (k := fun b3 w3 hb3 hx3 hl3 hs3 => ?_)
      have hz_hx3 := hx3.size
      replace h0 := h0.ext hx3
      replace h := h.ext hx3
      replace hl := hl.ext hx3
      replace E := E.trans hx3
      refine w_pure (y_assign rfl) rfl ?_
      refine w_pure (y_assign rfl) rfl ?_
      refine w_nil ?_
      refine x_next ?_
      refine c_seq ?_
      refine c_seq ?_
      refine c_region ?_
      refine w_val rfl rfl rfl (l02Ok_c) rfl (fun w10 hx10 hz10 => ?_)
      have hz_hx10 := hx10.size
      replace hb3 := hb3.ext hx10
      replace h0 := h0.ext hx10
      replace h := h.ext hx10
      replace hl := hl.ext hx10
      replace E := E.trans hx10
      refine w_pure (y_not rfl) rfl ?_
      refine w_pure (y_move rfl) rfl ?_
      (refine w_part rfl rfl (fun hc13 => ?_) (fun hc13 => ?_) <;> try (first | exact absurd rfl hc13 | contradiction | exact Bool.noConfusion (show false = true from hc13.symm.trans (by assumption)) | exact Bool.noConfusion (show true = false from hc13.symm.trans (by assumption)) | (exfalso; omega) | (exfalso; simp only [*, Bool.not_true, Bool.not_false, reduceCtorEq] at hc13; done)))
      refine w_yes rfl rfl ?_
      refine w_pure (y_move rfl) rfl ?_
      refine w_yes rfl rfl ?_
      refine w_val rfl rfl rfl (l02Deck_c) rfl (fun w14 hx14 hz14 => ?_)
      have hz_hx14 := hx14.size
      replace hb3 := hb3.ext hx14
      replace h0 := h0.ext hx14
      replace h := h.ext hx14
      replace hl := hl.ext hx14
      replace E := E.trans hx14
      refine w_yes rfl rfl ?_
      refine w_pure (y_not rfl) rfl ?_
      refine w_pure (y_pick_f rfl rfl) rfl ?_
      refine w_nil ?_
      refine x_next ?_
      (refine c_not rfl (fun hc16 => ?_) (fun hc16 => ?_) <;> try (first | exact absurd rfl hc16 | contradiction | exact Bool.noConfusion (show false = true from hc16.symm.trans (by assumption)) | exact Bool.noConfusion (show true = false from hc16.symm.trans (by assumption)) | (exfalso; omega) | (exfalso; simp only [*, Bool.not_true, Bool.not_false, reduceCtorEq] at hc16; done)))
      refine c_seq ?_
      refine c_region ?_
      refine w_pure (y_assign rfl) rfl ?_
      refine w_pure (y_assign rfl) rfl ?_
      refine w_nil ?_
      refine x_next ?_
      refine c_ret ?_
      refine x_then_ret ?_
      rotate_left
    exact x_retv [_, _] rfl ⟨rfl, rfl, trivial⟩ ⟨_, [], by rw [cGng_1 (.inr hk)]; rfl, by unfold resGng; rw [cGng_1 (.inr hk), if_neg (by decide)]; exact OwnD.nil _ _ _ _ (Nat.le_refl _), E.go⟩
  cases hk2 : okCp ps ms.length (widD xss)
  · refine ret_enter Try.func19 rfl Try.ntmps19 rfl ?_
    focus
      have ht_h0 := h0.top
      have ht_h := h.top
      have ht_hl := hl.top
      refine c_seq ?_
      refine c_region ?_
      refine w_box rfl (k := fun b3 w3 hb3 hx3 hl3 hs3 => ?_)
      have hz_hx3 := hx3.size
      replace h0 := h0.ext hx3
      replace h := h.ext hx3
      replace hl := hl.ext hx3
      replace E := E.trans hx3
      refine w_pure (y_assign rfl) rfl ?_
      refine w_pure (y_assign rfl) rfl ?_
      refine w_nil ?_
      refine x_next ?_
      refine c_seq ?_
      refine c_seq ?_
      refine c_region ?_
      refine w_val rfl rfl rfl (l02Ok_c) rfl (fun w10 hx10 hz10 => ?_)
      have hz_hx10 := hx10.size
      replace hb3 := hb3.ext hx10
      replace h0 := h0.ext hx10
      replace h := h.ext hx10
      replace hl := hl.ext hx10
      replace E := E.trans hx10
      refine w_pure (y_not rfl) rfl ?_
      refine w_pure (y_move rfl) rfl ?_
      (refine w_part rfl rfl (fun hc13 => ?_) (fun hc13 => ?_) <;> try (first | exact absurd rfl hc13 | contradiction | exact Bool.noConfusion (show false = true from hc13.symm.trans (by assumption)) | exact Bool.noConfusion (show true = false from hc13.symm.trans (by assumption)) | (exfalso; omega) | (exfalso; simp only [*, Bool.not_true, Bool.not_false, reduceCtorEq] at hc13; done)))
      refine w_yes rfl rfl ?_
      refine w_pure (y_move rfl) rfl ?_
      refine w_yes rfl rfl ?_
      refine w_val rfl rfl rfl (l02Deck_c) rfl (fun w14 hx14 hz14 => ?_)
      have hz_hx14 := hx14.size
      replace hb3 := hb3.ext hx14
      replace h0 := h0.ext hx14
      replace h := h.ext hx14
      replace hl := hl.ext hx14
      replace E := E.trans hx14
      refine w_yes rfl rfl ?_
      refine w_pure (y_not rfl) rfl ?_
      refine w_pure (y_pick_f rfl rfl) rfl ?_
      refine w_nil ?_
      refine x_next ?_
      (refine c_not rfl (fun hc16 => ?_) (fun hc16 => ?_) <;> try (first | exact absurd rfl hc16 | contradiction | exact Bool.noConfusion (show false = true from hc16.symm.trans (by assumption)) | exact Bool.noConfusion (show true = false from hc16.symm.trans (by assumption)) | (exfalso; omega) | (exfalso; simp only [*, Bool.not_true, Bool.not_false, reduceCtorEq] at hc16; done)))
      refine c_skip ?_
      refine x_next ?_
      refine c_seq ?_
      refine c_seq ?_
      refine c_region_held mixed (fun wr3 hxr3 hzr3 => ?_)
      have hz_hxr3 := hxr3.size
      replace hb3 := hb3.ext hxr3
      replace h0 := h0.ext hxr3
      replace h := h.ext hxr3
      replace hl := hl.ext hxr3
      replace E := E.trans hxr3
      refine h_pure rfl (y_move rfl) rfl ?_
      refine h_pure rfl (y_field rfl) rfl ?_
      refine h_pure rfl (y_load_box rfl) rfl ?_
      refine h_pure rfl (y_len rfl) rfl ?_
      refine h_pure rfl (y_move rfl) rfl ?_
      refine h_one rfl ?_
      refine w_val rfl rfl rfl (l07WidthOf_c) rfl (fun w22 hx22 hz22 => ?_)
      have hz_hx22 := hx22.size
      replace hb3 := hb3.ext hx22
      replace h0 := h0.ext hx22
      replace h := h.ext hx22
      replace hl := hl.ext hx22
      replace E := E.trans hx22
      refine w_nil ?_
      refine x_held ?_
      refine h_one rfl ?_
      refine w_val rfl rfl rfl (sValidCopies_c _ _) rfl (fun w23 hx23 hz23 => ?_)
      have hz_hx23 := hx23.size
      replace hb3 := hb3.ext hx23
      replace h0 := h0.ext hx23
      replace h := h.ext hx23
      replace hl := hl.ext hx23
      replace E := E.trans hx23
      refine w_nil ?_
      refine x_held ?_
      refine h_pure rfl (y_not rfl) rfl ?_
      refine h_nil ?_
      refine x_next ?_
      (refine c_not rfl (fun hc24 => ?_) (fun hc24 => ?_) <;> try (first | exact absurd rfl hc24 | contradiction | exact Bool.noConfusion (show false = true from hc24.symm.trans (by assumption)) | exact Bool.noConfusion (show true = false from hc24.symm.trans (by assumption)) | (exfalso; omega) | (exfalso; simp only [*, Bool.not_true, Bool.not_false, reduceCtorEq] at hc24; done)))
      refine c_seq ?_
      refine c_region ?_
      refine w_pure (y_assign rfl) rfl ?_
      refine w_pure (y_assign rfl) rfl ?_
      refine w_nil ?_
      refine x_next ?_
      refine c_ret ?_
      refine x_then_ret ?_
      rotate_left
    exact x_retv [_, _] rfl ⟨rfl, rfl, trivial⟩ ⟨_, [], by rw [cGng_2 hk0 hk hk2]; rfl, by unfold resGng; rw [cGng_2 hk0 hk hk2, if_neg (by decide)]; exact OwnD.nil _ _ _ _ (Nat.le_refl _), E.go⟩
  have hb := okCp_bd hk2
  have hb2 := okD_len hk
  have hm := rng_of hk0
  refine ret_enter Try.func19 rfl Try.ntmps19 rfl ?_
  focus
    have ht_h0 := h0.top
    have ht_h := h.top
    have ht_hl := hl.top
    refine c_seq ?_
    refine c_region ?_
    refine w_box rfl (k := fun b3 w3 hb3 hx3 hl3 hs3 => ?_)
    have hz_hx3 := hx3.size
    replace h0 := h0.ext hx3
    replace h := h.ext hx3
    replace hl := hl.ext hx3
    replace E := E.trans hx3
    refine w_pure (y_assign rfl) rfl ?_
    refine w_pure (y_assign rfl) rfl ?_
    refine w_nil ?_
    refine x_next ?_
    refine c_seq ?_
    refine c_seq ?_
    refine c_region ?_
    refine w_val rfl rfl rfl (l02Ok_c) rfl (fun w10 hx10 hz10 => ?_)
    have hz_hx10 := hx10.size
    replace hb3 := hb3.ext hx10
    replace h0 := h0.ext hx10
    replace h := h.ext hx10
    replace hl := hl.ext hx10
    replace E := E.trans hx10
    refine w_pure (y_not rfl) rfl ?_
    refine w_pure (y_move rfl) rfl ?_
    (refine w_part rfl rfl (fun hc13 => ?_) (fun hc13 => ?_) <;> try (first | exact absurd rfl hc13 | contradiction | exact Bool.noConfusion (show false = true from hc13.symm.trans (by assumption)) | exact Bool.noConfusion (show true = false from hc13.symm.trans (by assumption)) | (exfalso; omega) | (exfalso; simp only [*, Bool.not_true, Bool.not_false, reduceCtorEq] at hc13; done)))
    refine w_yes rfl rfl ?_
    refine w_pure (y_move rfl) rfl ?_
    refine w_yes rfl rfl ?_
    refine w_val rfl rfl rfl (l02Deck_c) rfl (fun w14 hx14 hz14 => ?_)
    have hz_hx14 := hx14.size
    replace hb3 := hb3.ext hx14
    replace h0 := h0.ext hx14
    replace h := h.ext hx14
    replace hl := hl.ext hx14
    replace E := E.trans hx14
    refine w_yes rfl rfl ?_
    refine w_pure (y_not rfl) rfl ?_
    refine w_pure (y_pick_f rfl rfl) rfl ?_
    refine w_nil ?_
    refine x_next ?_
    (refine c_not rfl (fun hc16 => ?_) (fun hc16 => ?_) <;> try (first | exact absurd rfl hc16 | contradiction | exact Bool.noConfusion (show false = true from hc16.symm.trans (by assumption)) | exact Bool.noConfusion (show true = false from hc16.symm.trans (by assumption)) | (exfalso; omega) | (exfalso; simp only [*, Bool.not_true, Bool.not_false, reduceCtorEq] at hc16; done)))
    refine c_skip ?_
    refine x_next ?_
    refine c_seq ?_
    refine c_seq ?_
    refine c_region_held mixed (fun wr3 hxr3 hzr3 => ?_)
    have hz_hxr3 := hxr3.size
    replace hb3 := hb3.ext hxr3
    replace h0 := h0.ext hxr3
    replace h := h.ext hxr3
    replace hl := hl.ext hxr3
    replace E := E.trans hxr3
    refine h_pure rfl (y_move rfl) rfl ?_
    refine h_pure rfl (y_field rfl) rfl ?_
    refine h_pure rfl (y_load_box rfl) rfl ?_
    refine h_pure rfl (y_len rfl) rfl ?_
    refine h_pure rfl (y_move rfl) rfl ?_
    refine h_one rfl ?_
    refine w_val rfl rfl rfl (l07WidthOf_c) rfl (fun w22 hx22 hz22 => ?_)
    have hz_hx22 := hx22.size
    replace hb3 := hb3.ext hx22
    replace h0 := h0.ext hx22
    replace h := h.ext hx22
    replace hl := hl.ext hx22
    replace E := E.trans hx22
    refine w_nil ?_
    refine x_held ?_
    refine h_one rfl ?_
    refine w_val rfl rfl rfl (sValidCopies_c _ _) rfl (fun w23 hx23 hz23 => ?_)
    have hz_hx23 := hx23.size
    replace hb3 := hb3.ext hx23
    replace h0 := h0.ext hx23
    replace h := h.ext hx23
    replace hl := hl.ext hx23
    replace E := E.trans hx23
    refine w_nil ?_
    refine x_held ?_
    refine h_pure rfl (y_not rfl) rfl ?_
    refine h_nil ?_
    refine x_next ?_
    (refine c_not rfl (fun hc24 => ?_) (fun hc24 => ?_) <;> try (first | exact absurd rfl hc24 | contradiction | exact Bool.noConfusion (show false = true from hc24.symm.trans (by assumption)) | exact Bool.noConfusion (show true = false from hc24.symm.trans (by assumption)) | (exfalso; omega) | (exfalso; simp only [*, Bool.not_true, Bool.not_false, reduceCtorEq] at hc24; done)))
    refine c_skip ?_
    refine x_next ?_
    refine c_seq ?_
    refine c_region ?_
    refine w_pure (y_move rfl) rfl ?_
    (refine w_call rfl rfl rfl (l02Copy_c) rfl ?_; rintro v26 w26 ⟨sus26, ⟨hp1_26, hx26⟩⟩)
    have hl_hp1_26 := hp1_26.lt
    have hz_hx26 := hx26.size
    replace hb3 := hb3.ext hx26
    replace h0 := h0.ext hx26
    replace h := h.ext hx26
    replace hl := hl.ext hx26
    replace E := E.trans hx26
    refine w_pure (y_assign rfl) rfl ?_
    refine w_nil ?_
    refine x_next ?_
    refine c_seq ?_
    refine c_seq ?_
    refine c_region ?_
    refine w_pure (y_assign rfl) rfl ?_
    refine w_nil ?_
    refine x_next ?_
    refine c_block ?_
    rotate_left
  have hml : (xss.map (gngF ms ps)).length = xss.length := by simp
  refine c_loopC w23.heap.size w26.heap.size (ι := Int) (fun x => [(2, v2), (3, ptr b3 0), (8, v26), (9, .int .i64 x)])
    (fun x w' => SL w' l2 h2 v2 ps ∧ SL w' lo' hi' v' ms ∧ Box w' b3 [v'] ∧ OwnD w' 42 w23.heap.size w26.heap.size sus26 v26 ((xss.map (gngF ms ps)).take x.toNat ++ xss.drop x.toNat) ∧ 0 ≤ x ∧ x ≤ xss.length) (fun x => (xss.length - x).toNat) 0
    (by repeat (first | exact trivial | refine ⟨rfl, ?_⟩)) ⟨by assumption, by assumption, by assumption, by simpa using hp1_26, by omega, by omega⟩ ?_
  clear hp1_26 hb3
  rintro i wL hxL EL ⟨g2, g0, gb, g3, hi0, hi1⟩
  have hlen : ((xss.map (gngF ms ps)).take i.toNat ++ xss.drop i.toNat).length = xss.length := mix_len hml
  have hgd : i < xss.length → ((xss.map (gngF ms ps)).take i.toNat ++ xss.drop i.toNat).getD i.toNat [] = xss.getD i.toNat [] := fun hh => mix_getD hml (by omega)
  have hrg : i < xss.length → Rng (xss.getD i.toNat []) := fun hh => rng_of (okD_at hk _ (by omega)).1
  have hwd : i < xss.length → ((xss.getD i.toNat []).length : Int) = widD xss := fun hh => widD_at hk _ (by omega)
  have e1 : (i + 1).toNat = i.toNat + 1 := by omega
  focus
    have ht_g2 := g2.top
    have ht_g0 := g0.top
    have hl_g3 := g3.lt
    have hz_hxL := hxL.size
    replace h0 := h0.chg hxL (by omega)
    replace h := h.chg hxL (by omega)
    replace hl := hl.chg hxL (by omega)
    replace E := E.next hxL (by omega)
    refine c_seq ?_
    refine c_seq ?_
    refine c_region ?_
    refine w_pure (y_move rfl) rfl ?_
    refine w_pure (y_move rfl) rfl ?_
    refine w_pure (y_lend rfl) rfl ?_
    refine w_pure (y_lt rfl rfl) rfl ?_
    refine w_nil ?_
    refine x_next ?_
    (refine c_dec rfl (fun hc30 => ?_) (fun hc30 => ?_) <;> try (first | exact absurd rfl hc30 | contradiction | exact Bool.noConfusion (show false = true from hc30.symm.trans (by assumption)) | exact Bool.noConfusion (show true = false from hc30.symm.trans (by assumption)) | (exfalso; omega) | (exfalso; simp only [*, Bool.not_true, Bool.not_false, reduceCtorEq] at hc30; done)))
    refine c_skip ?_
    refine x_next ?_
    refine c_seq ?_
    refine c_block ?_
    refine c_region ?_
    refine w_pure (y_move rfl) rfl ?_
    refine w_pure (y_move rfl) rfl ?_
    refine w_pure (y_indexd rfl rfl) rfl ?_
    refine w_pure (y_move rfl) rfl ?_
    (refine w_call rfl rfl rfl (l10CopyEl_e (hy := by rw [hgd (by omega)]; exact hrg (by omega)) (f := ms.length) (t := widD xss) (ht := by rw [hgd (by omega)]; exact (hwd (by omega)).symm)) rfl ?_; rintro _ w37 ⟨rfl, ⟨hp1_37, hx37⟩⟩)
    have hl_hp1_37 := hp1_37.lt
    have hz_hx37 := hx37.size
    replace EL := EL.trans hx37
    replace g2 := g2.chg hx37 (by omega)
    replace g0 := g0.chg hx37 (by omega)
    replace gb := gb.chg hx37 (by omega)
    replace h0 := h0.chg hx37 (by omega)
    replace h := h.chg hx37 (by omega)
    replace hl := hl.chg hx37 (by omega)
    replace E := E.next hx37 (by omega)
    refine w_nil ?_
    refine x_block_norm ?_
    refine x_next ?_
    refine c_region ?_
    refine w_pure (y_move rfl) rfl ?_
    refine w_pure (y_add rfl rfl) rfl ?_
    refine w_pure (y_assign rfl) rfl ?_
    refine w_nil ?_
    rotate_left
    refine c_exit ?_
    refine x_then_exit ?_
    refine x_then_exit ?_
    refine x_block_hit ?_
    refine x_next ?_
    refine c_seq ?_
    refine c_region ?_
    refine w_pure (y_move rfl) rfl ?_
    refine w_pure (y_assign rfl) rfl ?_
    refine w_pure (y_assign rfl) rfl ?_
    refine w_nil ?_
    refine x_next ?_
    refine c_ret ?_
    rotate_left
  · refine x_again (i + 1) (by repeat (first | exact trivial | refine ⟨rfl, ?_⟩)) ⟨EL.go, by assumption, by assumption, by assumption, ?_, by omega, by omega⟩ (by omega)
    rw [hgd (by omega)] at hp1_37
    rw [e1, ← upd_step hml (by omega) (y := gngF ms ps (xss.getD i.toNat [])) (by rw [List.getElem?_map, List.getD_eq_getElem?_getD, List.getElem?_eq_getElem (by omega)]; rfl)]
    exact hp1_37
  · rw [mix_all hml (by omega)] at g3
    refine x_retv [_, _] rfl ⟨rfl, rfl, trivial⟩ ⟨_, sus26, by rw [cGng_0 hk0 hk hk2]; rfl, ?_, E.go⟩
    unfold resGng; rw [cGng_0 hk0 hk hk2, if_pos rfl]
    exact OwnD.wide (g3.low (by omega)) (by omega) (Nat.le_refl _)
end
end Go.Proofs.Ytkkgkoibabbjoaa

/- Contracts: setups and decks together; the reference's reading of a deck. -/
import Derived.Test.YthigkbkaeopipaaTabB
namespace Go.Proofs.Ythigkbkaeopipaa
open Go Go.Gw
set_option linter.unusedVariables false
set_option linter.unusedSimpArgs false
/-- the numbers of all cards -/
def rowAt (xss : List (List Int)) (ps : List (Int × Int)) (i : Nat) : List Int := ps.map fun p => (nmF xss p i).1
def rowsL (xss : List (List Int)) (ps : List (Int × Int)) : List (List Int) := (List.range xss.length).map (rowAt xss ps)
theorem rowAt_len (xss : List (List Int)) (ps : List (Int × Int)) (i : Nat) : (rowAt xss ps i).length = ps.length := by simp [rowAt]
theorem rowAt_get {xss : List (List Int)} {ps : List (Int × Int)} {i k : Nat} (h : k < ps.length) : (rowAt xss ps i)[k]? = some (nmF xss (ps.getD k (0, 0)) i).1 := by simp [rowAt, List.getD_eq_getElem?_getD, h]
theorem rowAt_getD {xss : List (List Int)} {ps : List (Int × Int)} {i k : Nat} (h : k < ps.length) : (rowAt xss ps i).getD k 0 = (nmF xss (ps.getD k (0, 0)) i).1 := by rw [List.getD_eq_getElem?_getD, rowAt_get h]; rfl
theorem rowsL_len (xss : List (List Int)) (ps : List (Int × Int)) : (rowsL xss ps).length = xss.length := by simp [rowsL]
theorem rowsL_get {xss : List (List Int)} {ps : List (Int × Int)} {i : Nat} (h : i < xss.length) : (rowsL xss ps)[i]? = some (rowAt xss ps i) := by simp [rowsL, h]
theorem rowsL_getD {xss : List (List Int)} {ps : List (Int × Int)} {i : Nat} (h : i < xss.length) : (rowsL xss ps).getD i [] = rowAt xss ps i := by rw [List.getD_eq_getElem?_getD, rowsL_get h]; rfl
theorem sumR_same (xss : List (List Int)) (ps : List (Int × Int)) (a : Int) : sumR xss ps a a = List.replicate ps.length 0 := by
  unfold sumR
  rw [List.eq_replicate_iff]
  refine ⟨by simp, fun x hx => ?_⟩
  obtain ⟨p, _, rfl⟩ := List.mem_map.1 hx
  omega
/-- groups that are parts of a deck -/
structure GrE (w : World) (lo hi : Nat) (svs : List SV) (xss : List (List Int)) (hs : List Int) (gs : List SV) : Prop where
  len : gs.length ≤ hs.length
  el : ∀ i, i < gs.length → SLL w lo hi ((svs.take (toI xss.length hs i).toNat).drop (hs.getD i 0).toNat) (svD gs i) ((xss.take (toI xss.length hs i).toNat).drop (hs.getD i 0).toNat)
section
variable {w w' : World} {lo hi l2 h2 b o e : Nat} {v v2 u : Value} {ps : List (Int × Int)} {xss : List (List Int)} {svs gs : List SV} {g h W : Int} {dt : Bool} {hs : List Int}
theorem GrE.chg {l k : Nat} (h : GrE w lo hi svs xss hs gs) (hx : Chg l k w w') (ho : k ≤ lo ∨ hi ≤ l) : GrE w' lo hi svs xss hs gs := ⟨h.len, fun i hi => (h.el i hi).chg hx ho⟩
theorem GrE.ext (h : GrE w lo hi svs xss hs gs) (hx : Ext w w') : GrE w' lo hi svs xss hs gs := h.chg hx (.inl (Nat.zero_le _))
theorem GrE.nil (w : World) (lo hi : Nat) (svs : List SV) (xss : List (List Int)) (hs : List Int) : GrE w lo hi svs xss hs [] := ⟨Nat.zero_le _, fun i hi => by simp at hi⟩
theorem GrE.push {a c : Int} (h : GrE w lo hi svs xss hs gs) (hg : gs.length < hs.length) (ha : a = hs.getD gs.length 0) (hc : c = toI xss.length hs gs.length) (hu : SLL w lo hi ((svs.take c.toNat).drop a.toNat) u ((xss.take c.toNat).drop a.toNat)) : GrE w lo hi svs xss hs (gs ++ [svOf u]) := by
  subst ha; subst hc
  refine ⟨by simp; omega, fun i hi => ?_⟩
  by_cases hi' : i < gs.length
  · rw [svD_append_lt hi']; exact h.el i hi'
  · have e : i = gs.length := by simp at hi; omega
    rw [svD_append_eq e, svOf_v hu.out, e]; exact hu
theorem groups_c (f t : Int) (h : SLL w lo hi svs v xss := by repeat (first | assumption | exact Go.Gw.Own.sl (by assumption) | exact Go.Gw.Box.at (by assumption) | exact Go.Gw.SLL.el (by first | assumption | exact Go.Gw.OwnD.sll (by assumption)) _ (by omega) | exact Go.Gw.SLL.at (by first | assumption | exact Go.Gw.OwnD.sll (by assumption)) (by omega) | exact Go.Gw.OwnD.sll (by assumption) | (apply Go.Gw.SL.chg; case hx => assumption) | (apply Go.Gw.Own.chg; case hx => assumption) | (apply Go.Gw.Box.chg; case hx => assumption) | (apply Go.Gw.At.chg; case hx => assumption) | exact .inl (Nat.zero_le _) | exact .inr (Nat.zero_le _) | (show _ ∨ _; omega))) (hl : xss.length ≤ 40 := by omega) (hf : ∀ i, i < xss.length → 0 ≤ f ∧ f < t ∧ t ≤ (xss.getD i []).length := by assumption) (hk : okF xss f t = true := by assumption) : Ret Try.prog 67 [v, .agg #[.int .i64 f, .int .i64 t]] w fun u w' => ∃ gs, Own w' 24 w.heap.size u gs ∧ GrE w' lo hi svs xss (hdL xss f t) gs ∧ gs.length = (hdL xss f t).length ∧ Ext w w' := by
  have E : Since 0 0 w w := Since.refl 0 0 w
  have hdl := hdL_len xss f t
  refine ret_enter Try.func67 rfl Try.ntmps67 rfl ?_
  focus
    have ht_h := h.top
    refine c_seq ?_
    refine c_region ?_
    refine w_box rfl (k := fun b3 w3 hb3 hx3 hl3 hs3 => ?_)
    have hz_hx3 := hx3.size
    replace h := h.ext hx3
    replace E := E.trans hx3
    refine w_pure (y_assign rfl) rfl ?_
    refine w_nil ?_
    refine x_next ?_
    refine c_seq ?_
    refine c_region ?_
    refine w_lit_d0 rfl (k := fun v10 w10 ho10 hx10 hl10 hh10 hs10 => ?_)
    have hl_ho10 := ho10.lt
    have hz_hx10 := hx10.size
    replace hb3 := hb3.ext hx10
    replace h := h.ext hx10
    replace E := E.trans hx10
    refine w_pure (y_move rfl) rfl ?_
    refine w_pure (y_load_boxs rfl) rfl ?_
    (refine w_call rfl rfl rfl (groupsOf_c _ _) rfl ?_; rintro v13 w13 ⟨hp1_13, hx13⟩)
    have hl_hp1_13 := hp1_13.lt
    have hz_hx13 := hx13.size
    replace ho10 := ho10.ext hx13
    replace hb3 := hb3.ext hx13
    replace h := h.ext hx13
    replace E := E.trans hx13
    refine w_pure (y_assign rfl) rfl ?_
    refine w_pure (y_assign rfl) rfl ?_
    refine w_nil ?_
    refine x_next ?_
    refine c_seq ?_
    refine c_seq ?_
    refine c_region ?_
    refine w_pure (y_move rfl) rfl ?_
    refine w_pure (y_len rfl) rfl ?_
    refine w_pure (y_move rfl) rfl ?_
    refine w_nil ?_
    refine x_next ?_
    refine c_block ?_
    rotate_left
  refine c_loopC (bL v10) (bH v10) (ι := Int × Value × List SV) (fun x => [(0, v), (5, x.2.1), (6, v13), (14, v13), (15, .int .i64 (hdL xss f t).length), (16, .int .i64 x.1)])
    (fun x w' => SLL w' lo hi svs v xss ∧ Own w' 2 w10.heap.size v13 (hdL xss f t) ∧ Own w' 24 w.heap.size x.2.1 x.2.2 ∧ GrE w' lo hi svs xss (hdL xss f t) x.2.2 ∧ ((bL x.2.1 = bL v10 ∧ bH x.2.1 = bH v10) ∨ w13.heap.size ≤ bL x.2.1) ∧ 0 ≤ x.1 ∧ x.1 ≤ (hdL xss f t).length ∧ (x.2.2.length : Int) = x.1) (fun x => ((hdL xss f t).length - x.1).toNat) (0, v10, [])
    (by repeat (first | exact trivial | refine ⟨rfl, ?_⟩)) ⟨by assumption, by assumption, Own.base ho10.own (by omega), GrE.nil _ _ _ _ _ _, .inl ⟨rfl, rfl⟩, by dsimp only; omega, by dsimp only; omega, rfl⟩ ?_
  clear ho10 hp1_13
  rintro ⟨i, u, gs⟩ wL hxL EL ⟨g1, g2, g3, g4, g5, hi0, hi1, hgl⟩
  dsimp only at *
  have e1 : (i + 1).toNat = i.toNat + 1 := by omega
  have eg : gs.length = i.toNat := by omega
  by_cases hli : i < (hdL xss f t).length
  case neg =>
    focus
      have ht_g1 := g1.top
      have hl_g2 := g2.lt
      have hl_g3 := g3.lt
      have hz_hxL := hxL.size
      replace hb3 := hb3.chg hxL (by omega)
      replace h := h.chg hxL (by omega)
      replace E := E.next hxL (by omega)
      refine c_seq ?_
      refine c_region ?_
      refine w_pure (y_lt rfl rfl) rfl ?_
      refine w_nil ?_
      refine x_next ?_
      refine c_seq ?_
      (refine c_dec rfl (fun hc17 => ?_) (fun hc17 => ?_) <;> try (first | exact absurd rfl hc17 | contradiction | exact Bool.noConfusion (show false = true from hc17.symm.trans (by assumption)) | exact Bool.noConfusion (show true = false from hc17.symm.trans (by assumption)) | (exfalso; omega) | (exfalso; simp only [*, Bool.not_true, Bool.not_false, reduceCtorEq] at hc17; done)))
      refine c_exit ?_
      refine x_then_exit ?_
      refine x_then_exit ?_
      refine x_block_hit ?_
      refine x_next ?_
      refine c_seq ?_
      refine c_region ?_
      refine w_pure (y_move rfl) rfl ?_
      refine w_pure (y_assign rfl) rfl ?_
      refine w_nil ?_
      refine x_next ?_
      refine c_ret ?_
      rotate_left
    exact x_retv [_] rfl ⟨rfl, trivial⟩ ⟨gs, g3, g4, by omega, E.go⟩
  have hb := hdL_bd (xss := xss) (f := f) (t := t) (i := i.toNat) (by omega)
  have hI1 : i + 1 < (hdL xss f t).length → toI xss.length (hdL xss f t) i.toNat = (hdL xss f t).getD (i + 1).toNat 0 := fun hh => by unfold toI; rw [e1, if_pos (by omega)]
  have hI2 : ¬ i + 1 < (hdL xss f t).length → toI xss.length (hdL xss f t) i.toNat = xss.length := fun hh => by unfold toI; rw [if_neg (by omega)]
  focus
    have ht_g1 := g1.top
    have hl_g2 := g2.lt
    have hl_g3 := g3.lt
    have hz_hxL := hxL.size
    replace hb3 := hb3.chg hxL (by omega)
    replace h := h.chg hxL (by omega)
    replace E := E.next hxL (by omega)
    refine c_seq ?_
    refine c_region ?_
    refine w_pure (y_lt rfl rfl) rfl ?_
    refine w_nil ?_
    refine x_next ?_
    refine c_seq ?_
    (refine c_dec rfl (fun hc17 => ?_) (fun hc17 => ?_) <;> try (first | exact absurd rfl hc17 | contradiction | exact Bool.noConfusion (show false = true from hc17.symm.trans (by assumption)) | exact Bool.noConfusion (show true = false from hc17.symm.trans (by assumption)) | (exfalso; omega) | (exfalso; simp only [*, Bool.not_true, Bool.not_false, reduceCtorEq] at hc17; done)))
    refine c_skip ?_
    refine x_next ?_
    refine c_seq ?_
    refine c_block ?_
    refine c_seq ?_
    refine c_region ?_
    refine w_pure (y_move rfl) rfl ?_
    refine w_pure (y_index rfl rfl) rfl ?_
    refine w_pure (y_load_int rfl) rfl ?_
    refine w_pure (y_assign rfl) rfl ?_
    refine w_pure (y_assign rfl) rfl ?_
    refine w_nil ?_
    refine x_next ?_
    refine c_seq ?_
    refine c_region ?_
    refine w_pure (y_move rfl) rfl ?_
    refine w_val rfl rfl rfl (sizeCard_c) rfl (fun w22 hx22 hz22 => ?_)
    have hz_hx22 := hx22.size
    replace EL := EL.next hx22 (by omega)
    replace g1 := g1.ext hx22
    replace g2 := g2.ext hx22
    replace g3 := g3.ext hx22
    replace g4 := g4.ext hx22
    replace hb3 := hb3.ext hx22
    replace h := h.ext hx22
    replace E := E.trans hx22
    refine w_pure (y_assign rfl) rfl ?_
    refine w_nil ?_
    refine x_next ?_
    refine c_seq ?_
    refine c_seq ?_
    refine c_region ?_
    refine w_pure (y_move rfl) rfl ?_
    refine w_pure (y_add rfl rfl) rfl ?_
    refine w_pure (y_move rfl) rfl ?_
    refine w_pure (y_len rfl) rfl ?_
    refine w_pure (y_lt rfl rfl) rfl ?_
    refine w_nil ?_
    refine x_next ?_
    (refine c_dec rfl (fun hc27 => ?_) (fun hc27 => ?_) <;> try (first | exact absurd rfl hc27 | contradiction | exact Bool.noConfusion (show false = true from hc27.symm.trans (by assumption)) | exact Bool.noConfusion (show true = false from hc27.symm.trans (by assumption)) | (exfalso; omega) | (exfalso; simp only [*, Bool.not_true, Bool.not_false, reduceCtorEq] at hc27; done)))
    refine c_region ?_
    refine w_pure (y_move rfl) rfl ?_
    refine w_pure (y_move rfl) rfl ?_
    refine w_pure (y_add rfl rfl) rfl ?_
    refine w_pure (y_index rfl rfl) rfl ?_
    refine w_pure (y_load_int rfl) rfl ?_
    refine w_pure (y_assign rfl) rfl ?_
    refine w_nil ?_
    refine x_next ?_
    refine c_region ?_
    refine w_pure (y_move rfl) rfl ?_
    refine w_pure (y_move rfl) rfl ?_
    refine w_pure (y_move rfl) rfl ?_
    refine w_pure (y_move rfl) rfl ?_
    (refine w_sliced rfl rfl rfl rfl ?_; intro u37 hu37)
    refine w_lit_svl rfl rfl (k := fun v38 w38 ho38 hx38 hl38 hh38 hs38 => ?_)
    have hl_ho38 := ho38.lt
    have hz_hx38 := hx38.size
    replace EL := EL.next hx38 (by omega)
    replace g1 := g1.ext hx38
    replace g2 := g2.ext hx38
    replace g3 := g3.ext hx38
    replace g4 := g4.ext hx38
    replace hb3 := hb3.ext hx38
    replace h := h.ext hx38
    replace E := E.trans hx38
    replace hu37 := hu37.ext hx38
    refine w_append rfl rfl (k := fun v39 w39 ho39 hx39 hr39 => ?_)
    have hl_ho39 := ho39.lt
    have hz_hx39 := hx39.size
    replace ho38 := ho38.chg hx39 (by omega)
    replace EL := EL.next hx39 (by omega)
    replace g1 := g1.chg hx39 (by omega)
    replace g2 := g2.chg hx39 (by omega)
    replace g4 := g4.chg hx39 (by omega)
    replace hb3 := hb3.chg hx39 (by omega)
    replace h := h.chg hx39 (by omega)
    replace E := E.next hx39 (by omega)
    replace hu37 := hu37.chg hx39 (by omega)
    refine w_pure (y_assign rfl) rfl ?_
    refine w_nil ?_
    refine x_block_norm ?_
    refine x_next ?_
    refine c_region ?_
    refine w_pure (y_add rfl rfl) rfl ?_
    refine w_pure (y_move rfl) rfl ?_
    refine w_nil ?_
    rotate_left
    refine c_skip ?_
    refine x_next ?_
    refine c_region ?_
    refine w_pure (y_move rfl) rfl ?_
    refine w_pure (y_move rfl) rfl ?_
    refine w_pure (y_move rfl) rfl ?_
    refine w_pure (y_move rfl) rfl ?_
    (refine w_sliced rfl rfl rfl rfl ?_; intro u37 hu37)
    refine w_lit_svl rfl rfl (k := fun v38 w38 ho38 hx38 hl38 hh38 hs38 => ?_)
    have hl_ho38 := ho38.lt
    have hz_hx38 := hx38.size
    replace EL := EL.next hx38 (by omega)
    replace g1 := g1.ext hx38
    replace g2 := g2.ext hx38
    replace g3 := g3.ext hx38
    replace g4 := g4.ext hx38
    replace hb3 := hb3.ext hx38
    replace h := h.ext hx38
    replace E := E.trans hx38
    replace hu37 := hu37.ext hx38
    refine w_append rfl rfl (k := fun v39 w39 ho39 hx39 hr39 => ?_)
    have hl_ho39 := ho39.lt
    have hz_hx39 := hx39.size
    replace ho38 := ho38.chg hx39 (by omega)
    replace EL := EL.next hx39 (by omega)
    replace g1 := g1.chg hx39 (by omega)
    replace g2 := g2.chg hx39 (by omega)
    replace g4 := g4.chg hx39 (by omega)
    replace hb3 := hb3.chg hx39 (by omega)
    replace h := h.chg hx39 (by omega)
    replace E := E.next hx39 (by omega)
    replace hu37 := hu37.chg hx39 (by omega)
    refine w_pure (y_assign rfl) rfl ?_
    refine w_nil ?_
    refine x_block_norm ?_
    refine x_next ?_
    refine c_region ?_
    refine w_pure (y_add rfl rfl) rfl ?_
    refine w_pure (y_move rfl) rfl ?_
    refine w_nil ?_
    rotate_left
  · refine x_again (i + 1, v39, gs ++ [svOf u37]) (by repeat (first | exact trivial | refine ⟨rfl, ?_⟩)) ⟨EL.go, by assumption, by assumption, Own.base (by assumption) (by omega), GrE.push (h := by assumption) (by omega) (by rw [eg]) (by rw [eg, hI1 (by omega)]) (by assumption), by dsimp only; omega, by dsimp only; omega, by dsimp only; omega, by dsimp only; simp; omega⟩ (by dsimp only; omega)
  · refine x_again (i + 1, v39, gs ++ [svOf u37]) (by repeat (first | exact trivial | refine ⟨rfl, ?_⟩)) ⟨EL.go, by assumption, by assumption, Own.base (by assumption) (by omega), GrE.push (h := by assumption) (by omega) (by rw [eg]) (by rw [eg, hI2 (by omega)]) (by assumption), by dsimp only; omega, by dsimp only; omega, by dsimp only; omega, by dsimp only; simp; omega⟩ (by dsimp only; omega)
theorem setupCode_c (hs : SL w l2 h2 v2 ps := by repeat (first | assumption | exact Go.Gw.Own.sl (by assumption) | exact Go.Gw.Box.at (by assumption) | exact Go.Gw.SLL.el (by first | assumption | exact Go.Gw.OwnD.sll (by assumption)) _ (by omega) | exact Go.Gw.SLL.at (by first | assumption | exact Go.Gw.OwnD.sll (by assumption)) (by omega) | exact Go.Gw.OwnD.sll (by assumption) | (apply Go.Gw.SL.chg; case hx => assumption) | (apply Go.Gw.Own.chg; case hx => assumption) | (apply Go.Gw.Box.chg; case hx => assumption) | (apply Go.Gw.At.chg; case hx => assumption) | exact .inl (Nat.zero_le _) | exact .inr (Nat.zero_le _) | (show _ ∨ _; omega))) (hd : SLL w lo hi svs v xss := by repeat (first | assumption | exact Go.Gw.Own.sl (by assumption) | exact Go.Gw.Box.at (by assumption) | exact Go.Gw.SLL.el (by first | assumption | exact Go.Gw.OwnD.sll (by assumption)) _ (by omega) | exact Go.Gw.SLL.at (by first | assumption | exact Go.Gw.OwnD.sll (by assumption)) (by omega) | exact Go.Gw.OwnD.sll (by assumption) | (apply Go.Gw.SL.chg; case hx => assumption) | (apply Go.Gw.Own.chg; case hx => assumption) | (apply Go.Gw.Box.chg; case hx => assumption) | (apply Go.Gw.At.chg; case hx => assumption) | exact .inl (Nat.zero_le _) | exact .inr (Nat.zero_le _) | (show _ ∨ _; omega))) : Val Try.prog 66 [.agg #[.int .i64 g, .int .i64 h, v2, .bool dt], v] w (.int .i64 (cTab g h ps xss)) := by
  refine ⟨fun w1 hx1 => ?_⟩
  replace hs := hs.ext hx1
  replace hd := hd.ext hx1
  have E : Since 0 0 w1 w1 := Since.refl 0 0 w1
  cases hk : okD xss
  · refine ret_enter Try.func66 rfl Try.ntmps66 rfl ?_
    focus
      have ht_hs := hs.top
      have ht_hd := hd.top
      refine c_seq ?_
      refine c_region ?_
      refine w_box rfl (k := fun b2x1_3 w2x1_3 hb2x1_3 hx2x1_3 hl2x1_3 hs2x1_3 => ?_)
      have hz_hx2x1_3 := hx2x1_3.size
      replace hs := hs.ext hx2x1_3
      replace hd := hd.ext hx2x1_3
      replace E := E.trans hx2x1_3
      refine w_pure (y_assign rfl) rfl ?_
      refine w_nil ?_
      refine x_next ?_
      refine c_seq ?_
      refine c_block ?_
      refine c_seq ?_
      refine c_region ?_
      refine w_pure (y_move rfl) rfl ?_
      refine w_val rfl rfl rfl (iValidDeck_c) rfl (fun w9 hx9 hz9 => ?_)
      have hz_hx9 := hx9.size
      replace hb2x1_3 := hb2x1_3.ext hx9
      replace hs := hs.ext hx9
      replace hd := hd.ext hx9
      replace E := E.trans hx9
      refine w_pure (y_not rfl) rfl ?_
      refine w_pure (y_assign rfl) rfl ?_
      refine w_nil ?_
      refine x_next ?_
      (refine c_not rfl (fun hc7 => ?_) (fun hc7 => ?_) <;> try (first | exact absurd rfl hc7 | contradiction | exact Bool.noConfusion (show false = true from hc7.symm.trans (by assumption)) | exact Bool.noConfusion (show true = false from hc7.symm.trans (by assumption)) | (exfalso; omega) | (exfalso; simp only [*, Bool.not_true, Bool.not_false, reduceCtorEq] at hc7; done)))
      refine c_seq ?_
      refine c_region ?_
      refine w_pure (y_assign rfl) rfl ?_
      refine w_nil ?_
      refine x_next ?_
      refine c_ret ?_
      refine x_block_ret ?_
      refine x_then_ret ?_
      rotate_left
    exact x_retv [_] rfl ⟨rfl, trivial⟩ ⟨by rw [cTab_1 hk]; rfl, E.go⟩
  have hwb := widD_bd hk
  cases hk2 : okSet g h ps (widD xss)
  · refine ret_enter Try.func66 rfl Try.ntmps66 rfl ?_
    focus
      have ht_hs := hs.top
      have ht_hd := hd.top
      refine c_seq ?_
      refine c_region ?_
      refine w_box rfl (k := fun b2x2_3 w2x2_3 hb2x2_3 hx2x2_3 hl2x2_3 hs2x2_3 => ?_)
      have hz_hx2x2_3 := hx2x2_3.size
      replace hs := hs.ext hx2x2_3
      replace hd := hd.ext hx2x2_3
      replace E := E.trans hx2x2_3
      refine w_pure (y_assign rfl) rfl ?_
      refine w_nil ?_
      refine x_next ?_
      refine c_seq ?_
      refine c_block ?_
      refine c_seq ?_
      refine c_region ?_
      refine w_pure (y_move rfl) rfl ?_
      refine w_val rfl rfl rfl (iValidDeck_c) rfl (fun w9 hx9 hz9 => ?_)
      have hz_hx9 := hx9.size
      replace hb2x2_3 := hb2x2_3.ext hx9
      replace hs := hs.ext hx9
      replace hd := hd.ext hx9
      replace E := E.trans hx9
      refine w_pure (y_not rfl) rfl ?_
      refine w_pure (y_assign rfl) rfl ?_
      refine w_nil ?_
      refine x_next ?_
      (refine c_not rfl (fun hc7 => ?_) (fun hc7 => ?_) <;> try (first | exact absurd rfl hc7 | contradiction | exact Bool.noConfusion (show false = true from hc7.symm.trans (by assumption)) | exact Bool.noConfusion (show true = false from hc7.symm.trans (by assumption)) | (exfalso; omega) | (exfalso; simp only [*, Bool.not_true, Bool.not_false, reduceCtorEq] at hc7; done)))
      refine c_seq ?_
      refine c_region_held mixed (fun wr3 hxr3 hzr3 => ?_)
      have hz_hxr3 := hxr3.size
      replace hb2x2_3 := hb2x2_3.ext hxr3
      replace hs := hs.ext hxr3
      replace hd := hd.ext hxr3
      replace E := E.trans hxr3
      refine h_pure rfl (y_load_boxs rfl) rfl ?_
      refine h_pure rfl (y_move rfl) rfl ?_
      refine h_one rfl ?_
      refine w_val rfl rfl rfl (deckColumns_c) rfl (fun w14 hx14 hz14 => ?_)
      have hz_hx14 := hx14.size
      replace hb2x2_3 := hb2x2_3.ext hx14
      replace hs := hs.ext hx14
      replace hd := hd.ext hx14
      replace E := E.trans hx14
      refine w_nil ?_
      refine x_held ?_
      refine h_one rfl ?_
      refine w_val rfl rfl rfl (iValidSetup_c _) rfl (fun w15 hx15 hz15 => ?_)
      have hz_hx15 := hx15.size
      replace hb2x2_3 := hb2x2_3.ext hx15
      replace hs := hs.ext hx15
      replace hd := hd.ext hx15
      replace E := E.trans hx15
      refine w_nil ?_
      refine x_held ?_
      refine h_pure rfl (y_not rfl) rfl ?_
      refine h_pure rfl (y_assign rfl) rfl ?_
      refine h_nil ?_
      refine x_next ?_
      (refine c_not rfl (fun hc11 => ?_) (fun hc11 => ?_) <;> try (first | exact absurd rfl hc11 | contradiction | exact Bool.noConfusion (show false = true from hc11.symm.trans (by assumption)) | exact Bool.noConfusion (show true = false from hc11.symm.trans (by assumption)) | (exfalso; omega) | (exfalso; simp only [*, Bool.not_true, Bool.not_false, reduceCtorEq] at hc11; done)))
      refine c_seq ?_
      refine c_region ?_
      refine w_pure (y_assign rfl) rfl ?_
      refine w_nil ?_
      refine x_next ?_
      refine c_ret ?_
      refine x_block_ret ?_
      refine x_then_ret ?_
      rotate_left
    exact x_retv [_] rfl ⟨rfl, trivial⟩ ⟨by rw [cTab_2 hk hk2]; rfl, E.go⟩
  have hT := TabOK.of hk hk2
  have hf : ∀ i, i < xss.length → 0 ≤ g ∧ g < h ∧ h ≤ (xss.getD i []).length := fun i hi => by
    have h1 := (okSet_at hk2).1.2.1
    have h2 := widD_at hk i hi
    omega
  cases hk3 : okN xss ps
  · refine ret_enter Try.func66 rfl Try.ntmps66 rfl ?_
    focus
      have ht_hs := hs.top
      have ht_hd := hd.top
      refine c_seq ?_
      refine c_region ?_
      refine w_box rfl (k := fun b2x3_3 w2x3_3 hb2x3_3 hx2x3_3 hl2x3_3 hs2x3_3 => ?_)
      have hz_hx2x3_3 := hx2x3_3.size
      replace hs := hs.ext hx2x3_3
      replace hd := hd.ext hx2x3_3
      replace E := E.trans hx2x3_3
      refine w_pure (y_assign rfl) rfl ?_
      refine w_nil ?_
      refine x_next ?_
      refine c_seq ?_
      refine c_block ?_
      refine c_seq ?_
      refine c_region ?_
      refine w_pure (y_move rfl) rfl ?_
      refine w_val rfl rfl rfl (iValidDeck_c) rfl (fun w9 hx9 hz9 => ?_)
      have hz_hx9 := hx9.size
      replace hb2x3_3 := hb2x3_3.ext hx9
      replace hs := hs.ext hx9
      replace hd := hd.ext hx9
      replace E := E.trans hx9
      refine w_pure (y_not rfl) rfl ?_
      refine w_pure (y_assign rfl) rfl ?_
      refine w_nil ?_
      refine x_next ?_
      (refine c_not rfl (fun hc7 => ?_) (fun hc7 => ?_) <;> try (first | exact absurd rfl hc7 | contradiction | exact Bool.noConfusion (show false = true from hc7.symm.trans (by assumption)) | exact Bool.noConfusion (show true = false from hc7.symm.trans (by assumption)) | (exfalso; omega) | (exfalso; simp only [*, Bool.not_true, Bool.not_false, reduceCtorEq] at hc7; done)))
      refine c_seq ?_
      refine c_region_held mixed (fun wr3 hxr3 hzr3 => ?_)
      have hz_hxr3 := hxr3.size
      replace hb2x3_3 := hb2x3_3.ext hxr3
      replace hs := hs.ext hxr3
      replace hd := hd.ext hxr3
      replace E := E.trans hxr3
      refine h_pure rfl (y_load_boxs rfl) rfl ?_
      refine h_pure rfl (y_move rfl) rfl ?_
      refine h_one rfl ?_
      refine w_val rfl rfl rfl (deckColumns_c) rfl (fun w14 hx14 hz14 => ?_)
      have hz_hx14 := hx14.size
      replace hb2x3_3 := hb2x3_3.ext hx14
      replace hs := hs.ext hx14
      replace hd := hd.ext hx14
      replace E := E.trans hx14
      refine w_nil ?_
      refine x_held ?_
      refine h_one rfl ?_
      refine w_val rfl rfl rfl (iValidSetup_c _) rfl (fun w15 hx15 hz15 => ?_)
      have hz_hx15 := hx15.size
      replace hb2x3_3 := hb2x3_3.ext hx15
      replace hs := hs.ext hx15
      replace hd := hd.ext hx15
      replace E := E.trans hx15
      refine w_nil ?_
      refine x_held ?_
      refine h_pure rfl (y_not rfl) rfl ?_
      refine h_pure rfl (y_assign rfl) rfl ?_
      refine h_nil ?_
      refine x_next ?_
      (refine c_not rfl (fun hc11 => ?_) (fun hc11 => ?_) <;> try (first | exact absurd rfl hc11 | contradiction | exact Bool.noConfusion (show false = true from hc11.symm.trans (by assumption)) | exact Bool.noConfusion (show true = false from hc11.symm.trans (by assumption)) | (exfalso; omega) | (exfalso; simp only [*, Bool.not_true, Bool.not_false, reduceCtorEq] at hc11; done)))
      refine c_skip ?_
      refine x_block_norm ?_
      refine x_next ?_
      refine c_seq ?_
      refine c_seq ?_
      refine c_region ?_
      refine w_pure (y_field rfl) rfl ?_
      refine w_pure (y_load_box rfl) rfl ?_
      refine w_pure (y_move rfl) rfl ?_
      (refine w_call rfl rfl rfl (sumsOf_c) rfl ?_; rintro _ w21 ⟨d21, ⟨rfl, ⟨hp1_21, hx21⟩⟩⟩)
      have hl_hp1_21 := hp1_21.lt
      have hz_hx21 := hx21.size
      replace hb2x3_3 := hb2x3_3.ext hx21
      replace hs := hs.ext hx21
      replace hd := hd.ext hx21
      replace E := E.trans hx21
      refine w_pure (y_move rfl) rfl ?_
      refine w_pure (y_extract rfl rfl) rfl ?_
      refine w_pure (y_extract rfl rfl) rfl ?_
      refine w_pure (y_assign rfl) rfl ?_
      refine w_pure (y_assign rfl) rfl ?_
      refine w_nil ?_
      refine x_next ?_
      refine c_seq ?_
      refine c_region ?_
      refine w_pure (y_move rfl) rfl ?_
      refine w_pure (y_not rfl) rfl ?_
      refine w_pure (y_move rfl) rfl ?_
      (refine w_part rfl rfl (fun hc27 => ?_) (fun hc27 => ?_) <;> try (first | exact absurd rfl hc27 | contradiction | exact Bool.noConfusion (show false = true from hc27.symm.trans (by assumption)) | exact Bool.noConfusion (show true = false from hc27.symm.trans (by assumption)) | (exfalso; omega) | (exfalso; simp only [*, Bool.not_true, Bool.not_false, reduceCtorEq] at hc27; done)))
      refine w_no rfl rfl rfl rfl ?_
      refine w_no rfl rfl rfl rfl ?_
      refine w_no rfl rfl rfl rfl ?_
      refine w_no rfl rfl rfl rfl ?_
      refine w_no rfl rfl rfl rfl ?_
      refine w_pure (y_pick_t rfl rfl) rfl ?_
      refine w_nil ?_
      refine x_next ?_
      refine c_true rfl ?_
      refine c_seq ?_
      refine c_region ?_
      refine w_pure (y_assign rfl) rfl ?_
      refine w_nil ?_
      refine x_next ?_
      refine c_ret ?_
      refine x_then_ret ?_
      rotate_left
    exact x_retv [_] rfl ⟨rfl, trivial⟩ ⟨by rw [cTab_8 hk hk2 (.inl hk3)]; rfl, E.go⟩
  cases hk4 : okF xss g h
  · refine ret_enter Try.func66 rfl Try.ntmps66 rfl ?_
    focus
      have ht_hs := hs.top
      have ht_hd := hd.top
      refine c_seq ?_
      refine c_region ?_
      refine w_box rfl (k := fun b2x4_3 w2x4_3 hb2x4_3 hx2x4_3 hl2x4_3 hs2x4_3 => ?_)
      have hz_hx2x4_3 := hx2x4_3.size
      replace hs := hs.ext hx2x4_3
      replace hd := hd.ext hx2x4_3
      replace E := E.trans hx2x4_3
      refine w_pure (y_assign rfl) rfl ?_
      refine w_nil ?_
      refine x_next ?_
      refine c_seq ?_
      refine c_block ?_
      refine c_seq ?_
      refine c_region ?_
      refine w_pure (y_move rfl) rfl ?_
      refine w_val rfl rfl rfl (iValidDeck_c) rfl (fun w9 hx9 hz9 => ?_)
      have hz_hx9 := hx9.size
      replace hb2x4_3 := hb2x4_3.ext hx9
      replace hs := hs.ext hx9
      replace hd := hd.ext hx9
      replace E := E.trans hx9
      refine w_pure (y_not rfl) rfl ?_
      refine w_pure (y_assign rfl) rfl ?_
      refine w_nil ?_
      refine x_next ?_
      (refine c_not rfl (fun hc7 => ?_) (fun hc7 => ?_) <;> try (first | exact absurd rfl hc7 | contradiction | exact Bool.noConfusion (show false = true from hc7.symm.trans (by assumption)) | exact Bool.noConfusion (show true = false from hc7.symm.trans (by assumption)) | (exfalso; omega) | (exfalso; simp only [*, Bool.not_true, Bool.not_false, reduceCtorEq] at hc7; done)))
      refine c_seq ?_
      refine c_region_held mixed (fun wr3 hxr3 hzr3 => ?_)
      have hz_hxr3 := hxr3.size
      replace hb2x4_3 := hb2x4_3.ext hxr3
      replace hs := hs.ext hxr3
      replace hd := hd.ext hxr3
      replace E := E.trans hxr3
      refine h_pure rfl (y_load_boxs rfl) rfl ?_
      refine h_pure rfl (y_move rfl) rfl ?_
      refine h_one rfl ?_
      refine w_val rfl rfl rfl (deckColumns_c) rfl (fun w14 hx14 hz14 => ?_)
      have hz_hx14 := hx14.size
      replace hb2x4_3 := hb2x4_3.ext hx14
      replace hs := hs.ext hx14
      replace hd := hd.ext hx14
      replace E := E.trans hx14
      refine w_nil ?_
      refine x_held ?_
      refine h_one rfl ?_
      refine w_val rfl rfl rfl (iValidSetup_c _) rfl (fun w15 hx15 hz15 => ?_)
      have hz_hx15 := hx15.size
      replace hb2x4_3 := hb2x4_3.ext hx15
      replace hs := hs.ext hx15
      replace hd := hd.ext hx15
      replace E := E.trans hx15
      refine w_nil ?_
      refine x_held ?_
      refine h_pure rfl (y_not rfl) rfl ?_
      refine h_pure rfl (y_assign rfl) rfl ?_
      refine h_nil ?_
      refine x_next ?_
      (refine c_not rfl (fun hc11 => ?_) (fun hc11 => ?_) <;> try (first | exact absurd rfl hc11 | contradiction | exact Bool.noConfusion (show false = true from hc11.symm.trans (by assumption)) | exact Bool.noConfusion (show true = false from hc11.symm.trans (by assumption)) | (exfalso; omega) | (exfalso; simp only [*, Bool.not_true, Bool.not_false, reduceCtorEq] at hc11; done)))
      refine c_skip ?_
      refine x_block_norm ?_
      refine x_next ?_
      refine c_seq ?_
      refine c_seq ?_
      refine c_region ?_
      refine w_pure (y_field rfl) rfl ?_
      refine w_pure (y_load_box rfl) rfl ?_
      refine w_pure (y_move rfl) rfl ?_
      (refine w_call rfl rfl rfl (sumsOf_c) rfl ?_; rintro _ w21 ⟨d21, ⟨rfl, ⟨hp1_21, hx21⟩⟩⟩)
      have hl_hp1_21 := hp1_21.lt
      have hz_hx21 := hx21.size
      replace hb2x4_3 := hb2x4_3.ext hx21
      replace hs := hs.ext hx21
      replace hd := hd.ext hx21
      replace E := E.trans hx21
      refine w_pure (y_move rfl) rfl ?_
      refine w_pure (y_extract rfl rfl) rfl ?_
      refine w_pure (y_extract rfl rfl) rfl ?_
      refine w_pure (y_assign rfl) rfl ?_
      refine w_pure (y_assign rfl) rfl ?_
      refine w_nil ?_
      refine x_next ?_
      refine c_seq ?_
      refine c_region ?_
      refine w_pure (y_move rfl) rfl ?_
      refine w_pure (y_not rfl) rfl ?_
      refine w_pure (y_move rfl) rfl ?_
      (refine w_part rfl rfl (fun hc27 => ?_) (fun hc27 => ?_) <;> try (first | exact absurd rfl hc27 | contradiction | exact Bool.noConfusion (show false = true from hc27.symm.trans (by assumption)) | exact Bool.noConfusion (show true = false from hc27.symm.trans (by assumption)) | (exfalso; omega) | (exfalso; simp only [*, Bool.not_true, Bool.not_false, reduceCtorEq] at hc27; done)))
      refine w_yes rfl rfl ?_
      refine w_pure (y_move rfl) rfl ?_
      refine w_yes rfl rfl ?_
      refine w_pure (y_field rfl) rfl ?_
      refine w_yes rfl rfl ?_
      refine w_pure (y_load_boxp rfl) rfl ?_
      refine w_yes rfl rfl ?_
      refine w_val rfl rfl rfl (haveField_c _ _) rfl (fun w30 hx30 hz30 => ?_)
      have hz_hx30 := hx30.size
      replace hp1_21 := hp1_21.ext hx30
      replace hb2x4_3 := hb2x4_3.ext hx30
      replace hs := hs.ext hx30
      replace hd := hd.ext hx30
      replace E := E.trans hx30
      refine w_yes rfl rfl ?_
      refine w_pure (y_not rfl) rfl ?_
      refine w_pure (y_pick_f rfl rfl) rfl ?_
      refine w_nil ?_
      refine x_next ?_
      (refine c_not rfl (fun hc32 => ?_) (fun hc32 => ?_) <;> try (first | exact absurd rfl hc32 | contradiction | exact Bool.noConfusion (show false = true from hc32.symm.trans (by assumption)) | exact Bool.noConfusion (show true = false from hc32.symm.trans (by assumption)) | (exfalso; omega) | (exfalso; simp only [*, Bool.not_true, Bool.not_false, reduceCtorEq] at hc32; done)))
      refine c_seq ?_
      refine c_region ?_
      refine w_pure (y_assign rfl) rfl ?_
      refine w_nil ?_
      refine x_next ?_
      refine c_ret ?_
      refine x_then_ret ?_
      rotate_left
    exact x_retv [_] rfl ⟨rfl, trivial⟩ ⟨by rw [cTab_8 hk hk2 (.inr hk4)]; rfl, E.go⟩
  refine ret_enter Try.func66 rfl Try.ntmps66 rfl ?_
  focus
    have ht_hs := hs.top
    have ht_hd := hd.top
    refine c_seq ?_
    refine c_region ?_
    refine w_box rfl (k := fun b2x5_3 w2x5_3 hb2x5_3 hx2x5_3 hl2x5_3 hs2x5_3 => ?_)
    have hz_hx2x5_3 := hx2x5_3.size
    replace hs := hs.ext hx2x5_3
    replace hd := hd.ext hx2x5_3
    replace E := E.trans hx2x5_3
    refine w_pure (y_assign rfl) rfl ?_
    refine w_nil ?_
    refine x_next ?_
    refine c_seq ?_
    refine c_block ?_
    refine c_seq ?_
    refine c_region ?_
    refine w_pure (y_move rfl) rfl ?_
    refine w_val rfl rfl rfl (iValidDeck_c) rfl (fun w9 hx9 hz9 => ?_)
    have hz_hx9 := hx9.size
    replace hb2x5_3 := hb2x5_3.ext hx9
    replace hs := hs.ext hx9
    replace hd := hd.ext hx9
    replace E := E.trans hx9
    refine w_pure (y_not rfl) rfl ?_
    refine w_pure (y_assign rfl) rfl ?_
    refine w_nil ?_
    refine x_next ?_
    (refine c_not rfl (fun hc7 => ?_) (fun hc7 => ?_) <;> try (first | exact absurd rfl hc7 | contradiction | exact Bool.noConfusion (show false = true from hc7.symm.trans (by assumption)) | exact Bool.noConfusion (show true = false from hc7.symm.trans (by assumption)) | (exfalso; omega) | (exfalso; simp only [*, Bool.not_true, Bool.not_false, reduceCtorEq] at hc7; done)))
    refine c_seq ?_
    refine c_region_held mixed (fun wr3 hxr3 hzr3 => ?_)
    have hz_hxr3 := hxr3.size
    replace hb2x5_3 := hb2x5_3.ext hxr3
    replace hs := hs.ext hxr3
    replace hd := hd.ext hxr3
    replace E := E.trans hxr3
    refine h_pure rfl (y_load_boxs rfl) rfl ?_
    refine h_pure rfl (y_move rfl) rfl ?_
    refine h_one rfl ?_
    refine w_val rfl rfl rfl (deckColumns_c) rfl (fun w14 hx14 hz14 => ?_)
    have hz_hx14 := hx14.size
    replace hb2x5_3 := hb2x5_3.ext hx14
    replace hs := hs.ext hx14
    replace hd := hd.ext hx14
    replace E := E.trans hx14
    refine w_nil ?_
    refine x_held ?_
    refine h_one rfl ?_
    refine w_val rfl rfl rfl (iValidSetup_c _) rfl (fun w15 hx15 hz15 => ?_)
    have hz_hx15 := hx15.size
    replace hb2x5_3 := hb2x5_3.ext hx15
    replace hs := hs.ext hx15
    replace hd := hd.ext hx15
    replace E := E.trans hx15
    refine w_nil ?_
    refine x_held ?_
    refine h_pure rfl (y_not rfl) rfl ?_
    refine h_pure rfl (y_assign rfl) rfl ?_
    refine h_nil ?_
    refine x_next ?_
    (refine c_not rfl (fun hc11 => ?_) (fun hc11 => ?_) <;> try (first | exact absurd rfl hc11 | contradiction | exact Bool.noConfusion (show false = true from hc11.symm.trans (by assumption)) | exact Bool.noConfusion (show true = false from hc11.symm.trans (by assumption)) | (exfalso; omega) | (exfalso; simp only [*, Bool.not_true, Bool.not_false, reduceCtorEq] at hc11; done)))
    refine c_skip ?_
    refine x_block_norm ?_
    refine x_next ?_
    refine c_seq ?_
    refine c_seq ?_
    refine c_region ?_
    refine w_pure (y_field rfl) rfl ?_
    refine w_pure (y_load_box rfl) rfl ?_
    refine w_pure (y_move rfl) rfl ?_
    (refine w_call rfl rfl rfl (sumsOf_c) rfl ?_; rintro _ w21 ⟨d21, ⟨rfl, ⟨hp1_21, hx21⟩⟩⟩)
    have hl_hp1_21 := hp1_21.lt
    have hz_hx21 := hx21.size
    replace hb2x5_3 := hb2x5_3.ext hx21
    replace hs := hs.ext hx21
    replace hd := hd.ext hx21
    replace E := E.trans hx21
    refine w_pure (y_move rfl) rfl ?_
    refine w_pure (y_extract rfl rfl) rfl ?_
    refine w_pure (y_extract rfl rfl) rfl ?_
    refine w_pure (y_assign rfl) rfl ?_
    refine w_pure (y_assign rfl) rfl ?_
    refine w_nil ?_
    refine x_next ?_
    refine c_seq ?_
    refine c_region ?_
    refine w_pure (y_move rfl) rfl ?_
    refine w_pure (y_not rfl) rfl ?_
    refine w_pure (y_move rfl) rfl ?_
    (refine w_part rfl rfl (fun hc27 => ?_) (fun hc27 => ?_) <;> try (first | exact absurd rfl hc27 | contradiction | exact Bool.noConfusion (show false = true from hc27.symm.trans (by assumption)) | exact Bool.noConfusion (show true = false from hc27.symm.trans (by assumption)) | (exfalso; omega) | (exfalso; simp only [*, Bool.not_true, Bool.not_false, reduceCtorEq] at hc27; done)))
    refine w_yes rfl rfl ?_
    refine w_pure (y_move rfl) rfl ?_
    refine w_yes rfl rfl ?_
    refine w_pure (y_field rfl) rfl ?_
    refine w_yes rfl rfl ?_
    refine w_pure (y_load_boxp rfl) rfl ?_
    refine w_yes rfl rfl ?_
    refine w_val rfl rfl rfl (haveField_c _ _) rfl (fun w30 hx30 hz30 => ?_)
    have hz_hx30 := hx30.size
    replace hp1_21 := hp1_21.ext hx30
    replace hb2x5_3 := hb2x5_3.ext hx30
    replace hs := hs.ext hx30
    replace hd := hd.ext hx30
    replace E := E.trans hx30
    refine w_yes rfl rfl ?_
    refine w_pure (y_not rfl) rfl ?_
    refine w_pure (y_pick_f rfl rfl) rfl ?_
    refine w_nil ?_
    refine x_next ?_
    (refine c_not rfl (fun hc32 => ?_) (fun hc32 => ?_) <;> try (first | exact absurd rfl hc32 | contradiction | exact Bool.noConfusion (show false = true from hc32.symm.trans (by assumption)) | exact Bool.noConfusion (show true = false from hc32.symm.trans (by assumption)) | (exfalso; omega) | (exfalso; simp only [*, Bool.not_true, Bool.not_false, reduceCtorEq] at hc32; done)))
    refine c_skip ?_
    refine x_next ?_
    refine c_seq ?_
    refine c_region ?_
    refine w_pure (y_assign rfl) rfl ?_
    refine w_nil ?_
    refine x_next ?_
    refine c_ret ?_
    rotate_left
  exact x_retv [_] rfl ⟨rfl, trivial⟩ ⟨by rw [cTab_0 hk hk2 hk3 hk4]; rfl, E.go⟩
end
end Go.Proofs.Ythigkbkaeopipaa

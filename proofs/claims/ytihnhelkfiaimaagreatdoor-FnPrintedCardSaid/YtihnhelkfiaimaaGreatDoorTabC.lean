/- Contracts: setups and decks together; the reference's reading of a deck. -/
import Derived.Test.YtihnhelkfiaimaaGreatDoorTabB
namespace Go.Proofs.YtihnhelkfiaimaaGreatDoor
open Go Go.Gw
set_option linter.unusedVariables false
set_option linter.unusedSimpArgs false
/-- the numbers of all cards -/
def rowAt (xss : List (List Int)) (ps : List (Int × Int)) (i : Nat) : List Int := ps.map fun p => (nmF xss p i).1
def rowsL (xss : List (List Int)) (ps : List (Int × Int)) : List (List Int) := (List.range xss.length).map (rowAt xss ps)
theorem rowAt_len (xss : List (List Int)) (ps : List (Int × Int)) (i : Nat) : (rowAt xss ps i).length = ps.length := by simp [rowAt]
theorem rowAt_get {xss : List (List Int)} {ps : List (Int × Int)} {i k : Nat} (h : k < ps.length) : (rowAt xss ps i)[k]? = some (nmF xss (ps.getD k (0, 0)) i).1 := by simp [rowAt, List.getD_eq_getElem?_getD, h]
theorem rowAt_getD {xss : List (List Int)} {ps : List (Int × Int)} {i k : Nat} (h : k < ps.length) : (rowAt xss ps i).getD k 0 = (nmF xss (ps.getD k (0, 0)) i).1 := by rw [List.getD_eq_getElem?_getD, rowAt_get h]; rfl
theorem rowsL_len (xss : List (List Int)) (ps : List (Int × Int)) : (rowsL xss ps).length = xss.length := by simp [rowsL]
theorem rowsL_get {xss : List (List Int)} {ps : List (Int × Int)} {i : Nat} (h : i < xss.length) : (rowsL xss ps)[i]? = some (rowAt xss ps i) := by simp [rowsL, h]
theorem rowsL_getD {xss : List (List Int)} {ps : List (Int × Int)} {i : Nat} (h : i < xss.length) : (rowsL xss ps).getD i [] = rowAt xss ps i := by rw [List.getD_eq_getElem?_getD, rowsL_get h]; rfl
theorem sumR_same (xss : List (List Int)) (ps : List (Int × Int)) (a : Int) : sumR xss ps a a = List.replicate ps.length 0 := by
  unfold sumR
  rw [List.eq_replicate_iff]
  refine ⟨by simp, fun x hx => ?_⟩
  obtain ⟨p, _, rfl⟩ := List.mem_map.1 hx
  omega
/-- groups that are parts of a deck -/
structure GrE (w : World) (lo hi : Nat) (svs : List SV) (xss : List (List Int)) (hs : List Int) (gs : List SV) : Prop where
  len : gs.length ≤ hs.length
  el : ∀ i, i < gs.length → SLL w lo hi ((svs.take (toI xss.length hs i).toNat).drop (hs.getD i 0).toNat) (svD gs i) ((xss.take (toI xss.length hs i).toNat).drop (hs.getD i 0).toNat)
section
variable {w w' : World} {lo hi l2 h2 b o e : Nat} {v v2 u : Value} {ps : List (Int × Int)} {xss : List (List Int)} {svs gs : List SV} {g h W : Int} {dt : Bool} {hs : List Int}
theorem GrE.chg {l k : Nat} (h : GrE w lo hi svs xss hs gs) (hx : Chg l k w w') (ho : k ≤ lo ∨ hi ≤ l) : GrE w' lo hi svs xss hs gs := ⟨h.len, fun i hi => (h.el i hi).chg hx ho⟩
theorem GrE.ext (h : GrE w lo hi svs xss hs gs) (hx : Ext w w') : GrE w' lo hi svs xss hs gs := h.chg hx (.inl (Nat.zero_le _))
theorem GrE.nil (w : World) (lo hi : Nat) (svs : List SV) (xss : List (List Int)) (hs : List Int) : GrE w lo hi svs xss hs [] := ⟨Nat.zero_le _, fun i hi => by simp at hi⟩
theorem GrE.push {a c : Int} (h : GrE w lo hi svs xss hs gs) (hg : gs.length < hs.length) (ha : a = hs.getD gs.length 0) (hc : c = toI xss.length hs gs.length) (hu : SLL w lo hi ((svs.take c.toNat).drop a.toNat) u ((xss.take c.toNat).drop a.toNat)) : GrE w lo hi svs xss hs (gs ++ [svOf u]) := by
  subst ha; subst hc
  refine ⟨by simp; omega, fun i hi => ?_⟩
  by_cases hi' : i < gs.length
  · rw [svD_append_lt hi']; exact h.el i hi'
  · have e : i = gs.length := by simp at hi; omega
    rw [svD_append_eq e, svOf_v hu.out, e]; exact hu
theorem groups_c (f t : Int) (h : SLL w lo hi svs v xss := by repeat (first | assumption | exact Go.Gw.Own.sl (by assumption) | exact Go.Gw.Box.at (by assumption) | exact Go.Gw.SLL.el (by first | assumption | exact Go.Gw.OwnD.sll (by assumption)) _ (by omega) | exact Go.Gw.SLL.at (by first | assumption | exact Go.Gw.OwnD.sll (by assumption)) (by omega) | exact Go.Gw.OwnD.sll (by assumption) | (apply Go.Gw.SL.chg; case hx => assumption) | (apply Go.Gw.Own.chg; case hx => assumption) | (apply Go.Gw.Box.chg; case hx => assumption) | (apply Go.Gw.At.chg; case hx => assumption) | exact .inl (Nat.zero_le _) | exact .inr (Nat.zero_le _) | (show _ ∨ _; omega))) (hl : xss.length ≤ 40 := by omega) (hf : ∀ i, i < xss.length → 0 ≤ f ∧ f < t ∧ t ≤ (xss.getD i []).length := by assumption) (hk : okF xss f t = true := by assumption) : Ret Tryz.prog 61 [v, .agg #[.int .i64 f, .int .i64 t]] w fun u w' => ∃ gs, Own w' 24 w.heap.size u gs ∧ GrE w' lo hi svs xss (hdL xss f t) gs ∧ gs.length = (hdL xss f t).length ∧ Ext w w' := by
  have E : Since 0 0 w w := Since.refl 0 0 w
  have hdl := hdL_len xss f t
  refine ret_enter Tryz.func61 rfl Tryz.ntmps61 rfl ?_
  focus
    have ht_h := h.top
    refine c_seq ?_
    refine c_region ?_
    refine w_box rfl (k := fun b3 w3 hb3 hx3 hl3 hs3 => ?_)
    have hz_hx3 := hx3.size
    replace h := h.ext hx3
    replace E := E.trans hx3
    refine w_pure (y_assign rfl) rfl ?_
    refine w_nil ?_
    refine x_next ?_
    refine c_seq ?_
    refine c_region ?_
    refine w_lit_d0 rfl (k := fun v10 w10 ho10 hx10 hl10 hh10 hs10 => ?_)
    have hl_ho10 := ho10.lt
    have hz_hx10 := hx10.size
    replace hb3 := hb3.ext hx10
    replace h := h.ext hx10
    replace E := E.trans hx10
    refine w_pure (y_move rfl) rfl ?_
    refine w_pure (y_load_boxs rfl) rfl ?_
    (refine w_call rfl rfl rfl (groupsOf_c _ _) rfl ?_; rintro v13 w13 ⟨hp1_13, hx13⟩)
    have hl_hp1_13 := hp1_13.lt
    have hz_hx13 := hx13.size
    replace ho10 := ho10.ext hx13
    replace hb3 := hb3.ext hx13
    replace h := h.ext hx13
    replace E := E.trans hx13
    refine w_pure (y_assign rfl) rfl ?_
    refine w_pure (y_assign rfl) rfl ?_
    refine w_nil ?_
    refine x_next ?_
    refine c_seq ?_
    refine c_seq ?_
    refine c_region ?_
    refine w_pure (y_move rfl) rfl ?_
    refine w_pure (y_len rfl) rfl ?_
    refine w_pure (y_move rfl) rfl ?_
    refine w_nil ?_
    refine x_next ?_
    refine c_block ?_
    rotate_left
  refine c_loopC (bL v10) (bH v10) (ι := Int × Value × List SV) (fun x => [(0, v), (5, x.2.1), (6, v13), (14, v13), (15, .int .i64 (hdL xss f t).length), (16, .int .i64 x.1)])
    (fun x w' => SLL w' lo hi svs v xss ∧ Own w' 2 w10.heap.size v13 (hdL xss f t) ∧ Own w' 24 w.heap.size x.2.1 x.2.2 ∧ GrE w' lo hi svs xss (hdL xss f t) x.2.2 ∧ ((bL x.2.1 = bL v10 ∧ bH x.2.1 = bH v10) ∨ w13.heap.size ≤ bL x.2.1) ∧ 0 ≤ x.1 ∧ x.1 ≤ (hdL xss f t).length ∧ (x.2.2.length : Int) = x.1) (fun x => ((hdL xss f t).length - x.1).toNat) (0, v10, [])
    (by repeat (first | exact trivial | refine ⟨rfl, ?_⟩)) ⟨by assumption, by assumption, Own.base ho10.own (by omega), GrE.nil _ _ _ _ _ _, .inl ⟨rfl, rfl⟩, by dsimp only; omega, by dsimp only; omega, rfl⟩ ?_
  clear ho10 hp1_13
  rintro ⟨i, u, gs⟩ wL hxL EL ⟨g1, g2, g3, g4, g5, hi0, hi1, hgl⟩
  dsimp only at *
  have e1 : (i + 1).toNat = i.toNat + 1 := by omega
  have eg : gs.length = i.toNat := by omega
  by_cases hli : i < (hdL xss f t).length
  case neg =>
    focus
      have ht_g1 := g1.top
      have hl_g2 := g2.lt
      have hl_g3 := g3.lt
      have hz_hxL := hxL.size
      replace hb3 := hb3.chg hxL (by omega)
      replace h := h.chg hxL (by omega)
      replace E := E.next hxL (by omega)
      refine c_seq ?_
      refine c_region ?_
      refine w_pure (y_lt rfl rfl) rfl ?_
      refine w_nil ?_
      refine x_next ?_
      refine c_seq ?_
      (refine c_dec rfl (fun hc17 => ?_) (fun hc17 => ?_) <;> try (first | exact absurd rfl hc17 | contradiction | exact Bool.noConfusion (show false = true from hc17.symm.trans (by assumption)) | exact Bool.noConfusion (show true = false from hc17.symm.trans (by assumption)) | (exfalso; omega) | (exfalso; simp only [*, Bool.not_true, Bool.not_false, reduceCtorEq] at hc17; done)))
      refine c_exit ?_
      refine x_then_exit ?_
      refine x_then_exit ?_
      refine x_block_hit ?_
      refine x_next ?_
      refine c_seq ?_
      refine c_region ?_
      refine w_pure (y_move rfl) rfl ?_
      refine w_pure (y_assign rfl) rfl ?_
      refine w_nil ?_
      refine x_next ?_
      refine c_ret ?_
      rotate_left
    exact x_retv [_] rfl ⟨rfl, trivial⟩ ⟨gs, g3, g4, by omega, E.go⟩
  have hb := hdL_bd (xss := xss) (f := f) (t := t) (i := i.toNat) (by omega)
  have hI1 : i + 1 < (hdL xss f t).length → toI xss.length (hdL xss f t) i.toNat = (hdL xss f t).getD (i + 1).toNat 0 := fun hh => by unfold toI; rw [e1, if_pos (by omega)]
  have hI2 : ¬ i + 1 < (hdL xss f t).length → toI xss.length (hdL xss f t) i.toNat = xss.length := fun hh => by unfold toI; rw [if_neg (by omega)]
  focus
    have ht_g1 := g1.top
    have hl_g2 := g2.lt
    have hl_g3 := g3.lt
    have hz_hxL := hxL.size
    replace hb3 := hb3.chg hxL (by omega)
    replace h := h.chg hxL (by omega)
    replace E := E.next hxL (by omega)
    refine c_seq ?_
    refine c_region ?_
    refine w_pure (y_lt rfl rfl) rfl ?_
    refine w_nil ?_
    refine x_next ?_
    refine c_seq ?_
    (refine c_dec rfl (fun hc17 => ?_) (fun hc17 => ?_) <;> try (first | exact absurd rfl hc17 | contradiction | exact Bool.noConfusion (show false = true from hc17.symm.trans (by assumption)) | exact Bool.noConfusion (show true = false from hc17.symm.trans (by assumption)) | (exfalso; omega) | (exfalso; simp only [*, Bool.not_true, Bool.not_false, reduceCtorEq] at hc17; done)))
    refine c_skip ?_
    refine x_next ?_
    refine c_seq ?_
    refine c_block ?_
    refine c_seq ?_
    refine c_region ?_
    refine w_pure (y_move rfl) rfl ?_
    refine w_pure (y_index rfl rfl) rfl ?_
    refine w_pure (y_load_int rfl) rfl ?_
    refine w_pure (y_assign rfl) rfl ?_
    refine w_pure (y_assign rfl) rfl ?_
    refine w_nil ?_
    refine x_next ?_
    refine c_seq ?_
    refine c_region ?_
    refine w_pure (y_move rfl) rfl ?_
    refine w_val rfl rfl rfl (sizeCard_c) rfl (fun w22 hx22 hz22 => ?_)
    have hz_hx22 := hx22.size
    replace EL := EL.next hx22 (by omega)
    replace g1 := g1.ext hx22
    replace g2 := g2.ext hx22
    replace g3 := g3.ext hx22
    replace g4 := g4.ext hx22
    replace hb3 := hb3.ext hx22
    replace h := h.ext hx22
    replace E := E.trans hx22
    refine w_pure (y_assign rfl) rfl ?_
    refine w_nil ?_
    refine x_next ?_
    refine c_seq ?_
    refine c_seq ?_
    refine c_region ?_
    refine w_pure (y_move rfl) rfl ?_
    refine w_pure (y_add rfl rfl) rfl ?_
    refine w_pure (y_move rfl) rfl ?_
    refine w_pure (y_len rfl) rfl ?_
    refine w_pure (y_lt rfl rfl) rfl ?_
    refine w_nil ?_
    refine x_next ?_
    (refine c_dec rfl (fun hc27 => ?_) (fun hc27 => ?_) <;> try (first | exact absurd rfl hc27 | contradiction | exact Bool.noConfusion (show false = true from hc27.symm.trans (by assumption)) | exact Bool.noConfusion (show true = false from hc27.symm.trans (by assumption)) | (exfalso; omega) | (exfalso; simp only [*, Bool.not_true, Bool.not_false, reduceCtorEq] at hc27; done)))
    refine c_region ?_
    refine w_pure (y_move rfl) rfl ?_
    refine w_pure (y_move rfl) rfl ?_
    refine w_pure (y_add rfl rfl) rfl ?_
    refine w_pure (y_index rfl rfl) rfl ?_
    refine w_pure (y_load_int rfl) rfl ?_
    refine w_pure (y_assign rfl) rfl ?_
    refine w_nil ?_
    refine x_next ?_
    refine c_region ?_
    refine w_pure (y_move rfl) rfl ?_
    refine w_pure (y_move rfl) rfl ?_
    refine w_pure (y_move rfl) rfl ?_
    refine w_pure (y_move rfl) rfl ?_
    (refine w_sliced rfl rfl rfl rfl ?_; intro u37 hu37)
    refine w_lit_svl rfl rfl (k := fun v38 w38 ho38 hx38 hl38 hh38 hs38 => ?_)
    have hl_ho38 := ho38.lt
    have hz_hx38 := hx38.size
    replace EL := EL.next hx38 (by omega)
    replace g1 := g1.ext hx38
    replace g2 := g2.ext hx38
    replace g3 := g3.ext hx38
    replace g4 := g4.ext hx38
    replace hb3 := hb3.ext hx38
    replace h := h.ext hx38
    replace E := E.trans hx38
    replace hu37 := hu37.ext hx38
    refine w_append rfl rfl (k := fun v39 w39 ho39 hx39 hr39 => ?_)
    have hl_ho39 := ho39.lt
    have hz_hx39 := hx39.size
    replace ho38 := ho38.chg hx39 (by omega)
    replace EL := EL.next hx39 (by omega)
    replace g1 := g1.chg hx39 (by omega)
    replace g2 := g2.chg hx39 (by omega)
    replace g4 := g4.chg hx39 (by omega)
    replace hb3 := hb3.chg hx39 (by omega)
    replace h := h.chg hx39 (by omega)
    replace E := E.next hx39 (by omega)
    replace hu37 := hu37.chg hx39 (by omega)
    refine w_pure (y_assign rfl) rfl ?_
    refine w_nil ?_
    refine x_block_norm ?_
    refine x_next ?_
    refine c_region ?_
    refine w_pure (y_add rfl rfl) rfl ?_
    refine w_pure (y_move rfl) rfl ?_
    refine w_nil ?_
    rotate_left
    refine c_skip ?_
    refine x_next ?_
    refine c_region ?_
    refine w_pure (y_move rfl) rfl ?_
    refine w_pure (y_move rfl) rfl ?_
    refine w_pure (y_move rfl) rfl ?_
    refine w_pure (y_move rfl) rfl ?_
    (refine w_sliced rfl rfl rfl rfl ?_; intro u37 hu37)
    refine w_lit_svl rfl rfl (k := fun v38 w38 ho38 hx38 hl38 hh38 hs38 => ?_)
    have hl_ho38 := ho38.lt
    have hz_hx38 := hx38.size
    replace EL := EL.next hx38 (by omega)
    replace g1 := g1.ext hx38
    replace g2 := g2.ext hx38
    replace g3 := g3.ext hx38
    replace g4 := g4.ext hx38
    replace hb3 := hb3.ext hx38
    replace h := h.ext hx38
    replace E := E.trans hx38
    replace hu37 := hu37.ext hx38
    refine w_append rfl rfl (k := fun v39 w39 ho39 hx39 hr39 => ?_)
    have hl_ho39 := ho39.lt
    have hz_hx39 := hx39.size
    replace ho38 := ho38.chg hx39 (by omega)
    replace EL := EL.next hx39 (by omega)
    replace g1 := g1.chg hx39 (by omega)
    replace g2 := g2.chg hx39 (by omega)
    replace g4 := g4.chg hx39 (by omega)
    replace hb3 := hb3.chg hx39 (by omega)
    replace h := h.chg hx39 (by omega)
    replace E := E.next hx39 (by omega)
    replace hu37 := hu37.chg hx39 (by omega)
    refine w_pure (y_assign rfl) rfl ?_
    refine w_nil ?_
    refine x_block_norm ?_
    refine x_next ?_
    refine c_region ?_
    refine w_pure (y_add rfl rfl) rfl ?_
    refine w_pure (y_move rfl) rfl ?_
    refine w_nil ?_
    rotate_left
  · refine x_again (i + 1, v39, gs ++ [svOf u37]) (by repeat (first | exact trivial | refine ⟨rfl, ?_⟩)) ⟨EL.go, by assumption, by assumption, Own.base (by assumption) (by omega), GrE.push (h := by assumption) (by omega) (by rw [eg]) (by rw [eg, hI1 (by omega)]) (by assumption), by dsimp only; omega, by dsimp only; omega, by dsimp only; omega, by dsimp only; simp; omega⟩ (by dsimp only; omega)
  · refine x_again (i + 1, v39, gs ++ [svOf u37]) (by repeat (first | exact trivial | refine ⟨rfl, ?_⟩)) ⟨EL.go, by assumption, by assumption, Own.base (by assumption) (by omega), GrE.push (h := by assumption) (by omega) (by rw [eg]) (by rw [eg, hI2 (by omega)]) (by assumption), by dsimp only; omega, by dsimp only; omega, by dsimp only; omega, by dsimp only; simp; omega⟩ (by dsimp only; omega)
theorem setupCode_c (hs : SL w l2 h2 v2 ps := by repeat (first | assumption | exact Go.Gw.Own.sl (by assumption) | exact Go.Gw.Box.at (by assumption) | exact Go.Gw.SLL.el (by first | assumption | exact Go.Gw.OwnD.sll (by assumption)) _ (by omega) | exact Go.Gw.SLL.at (by first | assumption | exact Go.Gw.OwnD.sll (by assumption)) (by omega) | exact Go.Gw.OwnD.sll (by assumption) | (apply Go.Gw.SL.chg; case hx => assumption) | (apply Go.Gw.Own.chg; case hx => assumption) | (apply Go.Gw.Box.chg; case hx => assumption) | (apply Go.Gw.At.chg; case hx => assumption) | exact .inl (Nat.zero_le _) | exact .inr (Nat.zero_le _) | (show _ ∨ _; omega))) (hd : SLL w lo hi svs v xss := by repeat (first | assumption | exact Go.Gw.Own.sl (by assumption) | exact Go.Gw.Box.at (by assumption) | exact Go.Gw.SLL.el (by first | assumption | exact Go.Gw.OwnD.sll (by assumption)) _ (by omega) | exact Go.Gw.SLL.at (by first | assumption | exact Go.Gw.OwnD.sll (by assumption)) (by omega) | exact Go.Gw.OwnD.sll (by assumption) | (apply Go.Gw.SL.chg; case hx => assumption) | (apply Go.Gw.Own.chg; case hx => assumption) | (apply Go.Gw.Box.chg; case hx => assumption) | (apply Go.Gw.At.chg; case hx => assumption) | exact .inl (Nat.zero_le _) | exact .inr (Nat.zero_le _) | (show _ ∨ _; omega))) : Val Tryz.prog 60 [.agg #[.int .i64 g, .int .i64 h, v2, .bool dt], v] w (.int .i64 (cTab g h ps xss)) := by
  refine ⟨fun w1 hx1 => ?_⟩
  replace hs := hs.ext hx1
  replace hd := hd.ext hx1
  have E : Since 0 0 w1 w1 := Since.refl 0 0 w1
  cases hk : okD xss
  · refine ret_enter Tryz.func60 rfl Tryz.ntmps60 rfl ?_
    focus
      have ht_hs := hs.top
      have ht_hd := hd.top
      refine c_seq ?_
      refine c_region ?_
      refine w_box rfl (k := fun b2x1_3 w2x1_3 hb2x1_3 hx2x1_3 hl2x1_3 hs2x1_3 => ?_)
      have hz_hx2x1_3 := hx2x1_3.size
      replace hs := hs.ext hx2x1_3
      replace hd := hd.ext hx2x1_3
      replace E := E.trans hx2x1_3
      refine w_pure (y_assign rfl) rfl ?_
      refine w_nil ?_
      refine x_next ?_
      refine c_seq ?_
      refine c_block ?_
      refine c_seq ?_
      refine c_region ?_
      refine w_pure (y_move rfl) rfl ?_
      refine w_val rfl rfl rfl (iValidDeck_c) rfl (fun w9 hx9 hz9 => ?_)
      have hz_hx9 := hx9.size
      replace hb2x1_3 := hb2x1_3.ext hx9
      replace hs := hs.ext hx9
      replace hd := hd.ext hx9
      replace E := E.trans hx9
      refine w_pure (y_not rfl) rfl ?_
      refine w_pure (y_assign rfl) rfl ?_
      refine w_nil ?_
      refine x_next ?_
      (refine c_not rfl (fun hc7 => ?_) (fun hc7 => ?_) <;> try (first | exact absurd rfl hc7 | contradiction | exact Bool.noConfusion (show false = true from hc7.symm.trans (by assumption)) | exact Bool.noConfusion (show true = false from hc7.symm.trans (by assumption)) | (exfalso; omega) | (exfalso; simp only [*, Bool.not_true, Bool.not_false, reduceCtorEq] at hc7; done)))
      refine c_seq ?_
      refine c_region ?_
      refine w_pure (y_assign rfl) rfl ?_
      refine w_nil ?_
      refine x_next ?_
      refine c_ret ?_
      refine x_block_ret ?_
      refine x_then_ret ?_
      rotate_left
    exact x_retv [_] rfl ⟨rfl, trivial⟩ ⟨by rw [cTab_1 hk]; rfl, E.go⟩
  have hwb := widD_bd hk
  cases hk2 : okSet g h ps (widD xss)
  · refine ret_enter Tryz.func60 rfl Tryz.ntmps60 rfl ?_
    focus
      have ht_hs := hs.top
      have ht_hd := hd.top
      refine c_seq ?_
      refine c_region ?_
      refine w_box rfl (k := fun b2x2_3 w2x2_3 hb2x2_3 hx2x2_3 hl2x2_3 hs2x2_3 => ?_)
      have hz_hx2x2_3 := hx2x2_3.size
      replace hs := hs.ext hx2x2_3
      replace hd := hd.ext hx2x2_3
      replace E := E.trans hx2x2_3
      refine w_pure (y_assign rfl) rfl ?_
      refine w_nil ?_
      refine x_next ?_
      refine c_seq ?_
      refine c_block ?_
      refine c_seq ?_
      refine c_region ?_
      refine w_pure (y_move rfl) rfl ?_
      refine w_val rfl rfl rfl (iValidDeck_c) rfl (fun w9 hx9 hz9 => ?_)
      have hz_hx9 := hx9.size
      replace hb2x2_3 := hb2x2_3.ext hx9
      replace hs := hs.ext hx9
      replace hd := hd.ext hx9
      replace E := E.trans hx9
      refine w_pure (y_not rfl) rfl ?_
      refine w_pure (y_assign rfl) rfl ?_
      refine w_nil ?_
      refine x_next ?_
      (refine c_not rfl (fun hc7 => ?_) (fun hc7 => ?_) <;> try (first | exact absurd rfl hc7 | contradiction | exact Bool.noConfusion (show false = true from hc7.symm.trans (by assumption)) | exact Bool.noConfusion (show true = false from hc7.symm.trans (by assumption)) | (exfalso; omega) | (exfalso; simp only [*, Bool.not_true, Bool.not_false, reduceCtorEq] at hc7; done)))
      refine c_seq ?_
      refine c_region_held mixed (fun wr3 hxr3 hzr3 => ?_)
      have hz_hxr3 := hxr3.size
      replace hb2x2_3 := hb2x2_3.ext hxr3
      replace hs := hs.ext hxr3
      replace hd := hd.ext hxr3
      replace E := E.trans hxr3
      refine h_pure rfl (y_load_boxs rfl) rfl ?_
      refine h_pure rfl (y_move rfl) rfl ?_
      refine h_one rfl ?_
      refine w_val rfl rfl rfl (deckColumns_c) rfl (fun w14 hx14 hz14 => ?_)
      have hz_hx14 := hx14.size
      replace hb2x2_3 := hb2x2_3.ext hx14
      replace hs := hs.ext hx14
      replace hd := hd.ext hx14
      replace E := E.trans hx14
      refine w_nil ?_
      refine x_held ?_
      refine h_one rfl ?_
      refine w_val rfl rfl rfl (iValidSetup_c _) rfl (fun w15 hx15 hz15 => ?_)
      have hz_hx15 := hx15.size
      replace hb2x2_3 := hb2x2_3.ext hx15
      replace hs := hs.ext hx15
      replace hd := hd.ext hx15
      replace E := E.trans hx15
      refine w_nil ?_
      refine x_held ?_
      refine h_pure rfl (y_not rfl) rfl ?_
      refine h_pure rfl (y_assign rfl) rfl ?_
      refine h_nil ?_
      refine x_next ?_
      (refine c_not rfl (fun hc11 => ?_) (fun hc11 => ?_) <;> try (first | exact absurd rfl hc11 | contradiction | exact Bool.noConfusion (show false = true from hc11.symm.trans (by assumption)) | exact Bool.noConfusion (show true = false from hc11.symm.trans (by assumption)) | (exfalso; omega) | (exfalso; simp only [*, Bool.not_true, Bool.not_false, reduceCtorEq] at hc11; done)))
      refine c_seq ?_
      refine c_region ?_
      refine w_pure (y_assign rfl) rfl ?_
      refine w_nil ?_
      refine x_next ?_
      refine c_ret ?_
      refine x_block_ret ?_
      refine x_then_ret ?_
      rotate_left
    exact x_retv [_] rfl ⟨rfl, trivial⟩ ⟨by rw [cTab_2 hk hk2]; rfl, E.go⟩
  have hT := TabOK.of hk hk2
  have hf : ∀ i, i < xss.length → 0 ≤ g ∧ g < h ∧ h ≤ (xss.getD i []).length := fun i hi => by
    have h1 := (okSet_at hk2).1.2.1
    have h2 := widD_at hk i hi
    omega
  cases hk3 : okN xss ps
  · refine ret_enter Tryz.func60 rfl Tryz.ntmps60 rfl ?_
    focus
      have ht_hs := hs.top
      have ht_hd := hd.top
      refine c_seq ?_
      refine c_region ?_
      refine w_box rfl (k := fun b2x3_3 w2x3_3 hb2x3_3 hx2x3_3 hl2x3_3 hs2x3_3 => ?_)
      have hz_hx2x3_3 := hx2x3_3.size
      replace hs := hs.ext hx2x3_3
      replace hd := hd.ext hx2x3_3
      replace E := E.trans hx2x3_3
      refine w_pure (y_assign rfl) rfl ?_
      refine w_nil ?_
      refine x_next ?_
      refine c_seq ?_
      refine c_block ?_
      refine c_seq ?_
      refine c_region ?_
      refine w_pure (y_move rfl) rfl ?_
      refine w_val rfl rfl rfl (iValidDeck_c) rfl (fun w9 hx9 hz9 => ?_)
      have hz_hx9 := hx9.size
      replace hb2x3_3 := hb2x3_3.ext hx9
      replace hs := hs.ext hx9
      replace hd := hd.ext hx9
      replace E := E.trans hx9
      refine w_pure (y_not rfl) rfl ?_
      refine w_pure (y_assign rfl) rfl ?_
      refine w_nil ?_
      refine x_next ?_
      (refine c_not rfl (fun hc7 => ?_) (fun hc7 => ?_) <;> try (first | exact absurd rfl hc7 | contradiction | exact Bool.noConfusion (show false = true from hc7.symm.trans (by assumption)) | exact Bool.noConfusion (show true = false from hc7.symm.trans (by assumption)) | (exfalso; omega) | (exfalso; simp only [*, Bool.not_true, Bool.not_false, reduceCtorEq] at hc7; done)))
      refine c_seq ?_
      refine c_region_held mixed (fun wr3 hxr3 hzr3 => ?_)
      have hz_hxr3 := hxr3.size
      replace hb2x3_3 := hb2x3_3.ext hxr3
      replace hs := hs.ext hxr3
      replace hd := hd.ext hxr3
      replace E := E.trans hxr3
      refine h_pure rfl (y_load_boxs rfl) rfl ?_
      refine h_pure rfl (y_move rfl) rfl ?_
      refine h_one rfl ?_
      refine w_val rfl rfl rfl (deckColumns_c) rfl (fun w14 hx14 hz14 => ?_)
      have hz_hx14 := hx14.size
      replace hb2x3_3 := hb2x3_3.ext hx14
      replace hs := hs.ext hx14
      replace hd := hd.ext hx14
      replace E := E.trans hx14
      refine w_nil ?_
      refine x_held ?_
      refine h_one rfl ?_
      refine w_val rfl rfl rfl (iValidSetup_c _) rfl (fun w15 hx15 hz15 => ?_)
      have hz_hx15 := hx15.size
      replace hb2x3_3 := hb2x3_3.ext hx15
      replace hs := hs.ext hx15
      replace hd := hd.ext hx15
      replace E := E.trans hx15
      refine w_nil ?_
      refine x_held ?_
      refine h_pure rfl (y_not rfl) rfl ?_
      refine h_pure rfl (y_assign rfl) rfl ?_
      refine h_nil ?_
      refine x_next ?_
      (refine c_not rfl (fun hc11 => ?_) (fun hc11 => ?_) <;> try (first | exact absurd rfl hc11 | contradiction | exact Bool.noConfusion (show false = true from hc11.symm.trans (by assumption)) | exact Bool.noConfusion (show true = false from hc11.symm.trans (by assumption)) | (exfalso; omega) | (exfalso; simp only [*, Bool.not_true, Bool.not_false, reduceCtorEq] at hc11; done)))
      refine c_skip ?_
      refine x_block_norm ?_
      refine x_next ?_
      refine c_seq ?_
      refine c_seq ?_
      refine c_region ?_
      refine w_pure (y_field rfl) rfl ?_
      refine w_pure (y_load_box rfl) rfl ?_
      refine w_pure (y_move rfl) rfl ?_
      (refine w_call rfl rfl rfl (sumsOf_c) rfl ?_; rintro _ w21 ⟨d21, ⟨rfl, ⟨hp1_21, hx21⟩⟩⟩)
      have hl_hp1_21 := hp1_21.lt
      have hz_hx21 := hx21.size
      replace hb2x3_3 := hb2x3_3.ext hx21
      replace hs := hs.ext hx21
      replace hd := hd.ext hx21
      replace E := E.trans hx21
      refine w_pure (y_move rfl) rfl ?_
      refine w_pure (y_extract rfl rfl) rfl ?_
      refine w_pure (y_extract rfl rfl) rfl ?_
      refine w_pure (y_assign rfl) rfl ?_
      refine w_pure (y_assign rfl) rfl ?_
      refine w_nil ?_
      refine x_next ?_
      refine c_seq ?_
      refine c_region ?_
      refine w_pure (y_move rfl) rfl ?_
      refine w_pure (y_not rfl) rfl ?_
      refine w_pure (y_move rfl) rfl ?_
      (refine w_part rfl rfl (fun hc27 => ?_) (fun hc27 => ?_) <;> try (first | exact absurd rfl hc27 | contradiction | exact Bool.noConfusion (show false = true from hc27.symm.trans (by assumption)) | exact Bool.noConfusion (show true = false from hc27.symm.trans (by assumption)) | (exfalso; omega) | (exfalso; simp only [*, Bool.not_true, Bool.not_false, reduceCtorEq] at hc27; done)))
      refine w_no rfl rfl rfl rfl ?_
      refine w_no rfl rfl rfl rfl ?_
      refine w_no rfl rfl rfl rfl ?_
      refine w_no rfl rfl rfl rfl ?_
      refine w_no rfl rfl rfl rfl ?_
      refine w_pure (y_pick_t rfl rfl) rfl ?_
      refine w_nil ?_
      refine x_next ?_
      refine c_true rfl ?_
      refine c_seq ?_
      refine c_region ?_
      refine w_pure (y_assign rfl) rfl ?_
      refine w_nil ?_
      refine x_next ?_
      refine c_ret ?_
      refine x_then_ret ?_
      rotate_left
    exact x_retv [_] rfl ⟨rfl, trivial⟩ ⟨by rw [cTab_8 hk hk2 (.inl hk3)]; rfl, E.go⟩
  cases hk4 : okF xss g h
  · refine ret_enter Tryz.func60 rfl Tryz.ntmps60 rfl ?_
    focus
      have ht_hs := hs.top
      have ht_hd := hd.top
      refine c_seq ?_
      refine c_region ?_
      refine w_box rfl (k := fun b2x4_3 w2x4_3 hb2x4_3 hx2x4_3 hl2x4_3 hs2x4_3 => ?_)
      have hz_hx2x4_3 := hx2x4_3.size
      replace hs := hs.ext hx2x4_3
      replace hd := hd.ext hx2x4_3
      replace E := E.trans hx2x4_3
      refine w_pure (y_assign rfl) rfl ?_
      refine w_nil ?_
      refine x_next ?_
      refine c_seq ?_
      refine c_block ?_
      refine c_seq ?_
      refine c_region ?_
      refine w_pure (y_move rfl) rfl ?_
      refine w_val rfl rfl rfl (iValidDeck_c) rfl (fun w9 hx9 hz9 => ?_)
      have hz_hx9 := hx9.size
      replace hb2x4_3 := hb2x4_3.ext hx9
      replace hs := hs.ext hx9
      replace hd := hd.ext hx9
      replace E := E.trans hx9
      refine w_pure (y_not rfl) rfl ?_
      refine w_pure (y_assign rfl) rfl ?_
      refine w_nil ?_
      refine x_next ?_
      (refine c_not rfl (fun hc7 => ?_) (fun hc7 => ?_) <;> try (first | exact absurd rfl hc7 | contradiction | exact Bool.noConfusion (show false = true from hc7.symm.trans (by assumption)) | exact Bool.noConfusion (show true = false from hc7.symm.trans (by assumption)) | (exfalso; omega) | (exfalso; simp only [*, Bool.not_true, Bool.not_false, reduceCtorEq] at hc7; done)))
      refine c_seq ?_
      refine c_region_held mixed (fun wr3 hxr3 hzr3 => ?_)
      have hz_hxr3 := hxr3.size
      replace hb2x4_3 := hb2x4_3.ext hxr3
      replace hs := hs.ext hxr3
      replace hd := hd.ext hxr3
      replace E := E.trans hxr3
      refine h_pure rfl (y_load_boxs rfl) rfl ?_
      refine h_pure rfl (y_move rfl) rfl ?_
      refine h_one rfl ?_
      refine w_val rfl rfl rfl (deckColumns_c) rfl (fun w14 hx14 hz14 => ?_)
      have hz_hx14 := hx14.size
      replace hb2x4_3 := hb2x4_3.ext hx14
      replace hs := hs.ext hx14
      replace hd := hd.ext hx14
      replace E := E.trans hx14
      refine w_nil ?_
      refine x_held ?_
      refine h_one rfl ?_
      refine w_val rfl rfl rfl (iValidSetup_c _) rfl (fun w15 hx15 hz15 => ?_)
      have hz_hx15 := hx15.size
      replace hb2x4_3 := hb2x4_3.ext hx15
      replace hs := hs.ext hx15
      replace hd := hd.ext hx15
      replace E := E.trans hx15
      refine w_nil ?_
      refine x_held ?_
      refine h_pure rfl (y_not rfl) rfl ?_
      refine h_pure rfl (y_assign rfl) rfl ?_
      refine h_nil ?_
      refine x_next ?_
      (refine c_not rfl (fun hc11 => ?_) (fun hc11 => ?_) <;> try (first | exact absurd rfl hc11 | contradiction | exact Bool.noConfusion (show false = true from hc11.symm.trans (by assumption)) | exact Bool.noConfusion (show true = false from hc11.symm.trans (by assumption)) | (exfalso; omega) | (exfalso; simp only [*, Bool.not_true, Bool.not_false, reduceCtorEq] at hc11; done)))
      refine c_skip ?_
      refine x_block_norm ?_
      refine x_next ?_
      refine c_seq ?_
      refine c_seq ?_
      refine c_region ?_
      refine w_pure (y_field rfl) rfl ?_
      refine w_pure (y_load_box rfl) rfl ?_
      refine w_pure (y_move rfl) rfl ?_
      (refine w_call rfl rfl rfl (sumsOf_c) rfl ?_; rintro _ w21 ⟨d21, ⟨rfl, ⟨hp1_21, hx21⟩⟩⟩)
      have hl_hp1_21 := hp1_21.lt
      have hz_hx21 := hx21.size
      replace hb2x4_3 := hb2x4_3.ext hx21
      replace hs := hs.ext hx21
      replace hd := hd.ext hx21
      replace E := E.trans hx21
      refine w_pure (y_move rfl) rfl ?_
      refine w_pure (y_extract rfl rfl) rfl ?_
      refine w_pure (y_extract rfl rfl) rfl ?_
      refine w_pure (y_assign rfl) rfl ?_
      refine w_pure (y_assign rfl) rfl ?_
      refine w_nil ?_
      refine x_next ?_
      refine c_seq ?_
      refine c_region ?_
      refine w_pure (y_move rfl) rfl ?_
      refine w_pure (y_not rfl) rfl ?_
      refine w_pure (y_move rfl) rfl ?_
      (refine w_part rfl rfl (fun hc27 => ?_) (fun hc27 => ?_) <;> try (first | exact absurd rfl hc27 | contradiction | exact Bool.noConfusion (show false = true from hc27.symm.trans (by assumption)) | exact Bool.noConfusion (show true = false from hc27.symm.trans (by assumption)) | (exfalso; omega) | (exfalso; simp only [*, Bool.not_true, Bool.not_false, reduceCtorEq] at hc27; done)))
      refine w_yes rfl rfl ?_
      refine w_pure (y_move rfl) rfl ?_
      refine w_yes rfl rfl ?_
      refine w_pure (y_field rfl) rfl ?_
      refine w_yes rfl rfl ?_
      refine w_pure (y_load_boxp rfl) rfl ?_
      refine w_yes rfl rfl ?_
      refine w_val rfl rfl rfl (haveField_c _ _) rfl (fun w30 hx30 hz30 => ?_)
      have hz_hx30 := hx30.size
      replace hp1_21 := hp1_21.ext hx30
      replace hb2x4_3 := hb2x4_3.ext hx30
      replace hs := hs.ext hx30
      replace hd := hd.ext hx30
      replace E := E.trans hx30
      refine w_yes rfl rfl ?_
      refine w_pure (y_not rfl) rfl ?_
      refine w_pure (y_pick_f rfl rfl) rfl ?_
      refine w_nil ?_
      refine x_next ?_
      (refine c_not rfl (fun hc32 => ?_) (fun hc32 => ?_) <;> try (first | exact absurd rfl hc32 | contradiction | exact Bool.noConfusion (show false = true from hc32.symm.trans (by assumption)) | exact Bool.noConfusion (show true = false from hc32.symm.trans (by assumption)) | (exfalso; omega) | (exfalso; simp only [*, Bool.not_true, Bool.not_false, reduceCtorEq] at hc32; done)))
      refine c_seq ?_
      refine c_region ?_
      refine w_pure (y_assign rfl) rfl ?_
      refine w_nil ?_
      refine x_next ?_
      refine c_ret ?_
      refine x_then_ret ?_
      rotate_left
    exact x_retv [_] rfl ⟨rfl, trivial⟩ ⟨by rw [cTab_8 hk hk2 (.inr hk4)]; rfl, E.go⟩
  refine ret_enter Tryz.func60 rfl Tryz.ntmps60 rfl ?_
  focus
    have ht_hs := hs.top
    have ht_hd := hd.top
    refine c_seq ?_
    refine c_region ?_
    refine w_box rfl (k := fun b2x5_3 w2x5_3 hb2x5_3 hx2x5_3 hl2x5_3 hs2x5_3 => ?_)
    have hz_hx2x5_3 := hx2x5_3.size
    replace hs := hs.ext hx2x5_3
    replace hd := hd.ext hx2x5_3
    replace E := E.trans hx2x5_3
    refine w_pure (y_assign rfl) rfl ?_
    refine w_nil ?_
    refine x_next ?_
    refine c_seq ?_
    refine c_block ?_
    refine c_seq ?_
    refine c_region ?_
    refine w_pure (y_move rfl) rfl ?_
    refine w_val rfl rfl rfl (iValidDeck_c) rfl (fun w9 hx9 hz9 => ?_)
    have hz_hx9 := hx9.size
    replace hb2x5_3 := hb2x5_3.ext hx9
    replace hs := hs.ext hx9
    replace hd := hd.ext hx9
    replace E := E.trans hx9
    refine w_pure (y_not rfl) rfl ?_
    refine w_pure (y_assign rfl) rfl ?_
    refine w_nil ?_
    refine x_next ?_
    (refine c_not rfl (fun hc7 => ?_) (fun hc7 => ?_) <;> try (first | exact absurd rfl hc7 | contradiction | exact Bool.noConfusion (show false = true from hc7.symm.trans (by assumption)) | exact Bool.noConfusion (show true = false from hc7.symm.trans (by assumption)) | (exfalso; omega) | (exfalso; simp only [*, Bool.not_true, Bool.not_false, reduceCtorEq] at hc7; done)))
    refine c_seq ?_
    refine c_region_held mixed (fun wr3 hxr3 hzr3 => ?_)
    have hz_hxr3 := hxr3.size
    replace hb2x5_3 := hb2x5_3.ext hxr3
    replace hs := hs.ext hxr3
    replace hd := hd.ext hxr3
    replace E := E.trans hxr3
    refine h_pure rfl (y_load_boxs rfl) rfl ?_
    refine h_pure rfl (y_move rfl) rfl ?_
    refine h_one rfl ?_
    refine w_val rfl rfl rfl (deckColumns_c) rfl (fun w14 hx14 hz14 => ?_)
    have hz_hx14 := hx14.size
    replace hb2x5_3 := hb2x5_3.ext hx14
    replace hs := hs.ext hx14
    replace hd := hd.ext hx14
    replace E := E.trans hx14
    refine w_nil ?_
    refine x_held ?_
    refine h_one rfl ?_
    refine w_val rfl rfl rfl (iValidSetup_c _) rfl (fun w15 hx15 hz15 => ?_)
    have hz_hx15 := hx15.size
    replace hb2x5_3 := hb2x5_3.ext hx15
    replace hs := hs.ext hx15
    replace hd := hd.ext hx15
    replace E := E.trans hx15
    refine w_nil ?_
    refine x_held ?_
    refine h_pure rfl (y_not rfl) rfl ?_
    refine h_pure rfl (y_assign rfl) rfl ?_
    refine h_nil ?_
    refine x_next ?_
    (refine c_not rfl (fun hc11 => ?_) (fun hc11 => ?_) <;> try (first | exact absurd rfl hc11 | contradiction | exact Bool.noConfusion (show false = true from hc11.symm.trans (by assumption)) | exact Bool.noConfusion (show true = false from hc11.symm.trans (by assumption)) | (exfalso; omega) | (exfalso; simp only [*, Bool.not_true, Bool.not_false, reduceCtorEq] at hc11; done)))
    refine c_skip ?_
    refine x_block_norm ?_
    refine x_next ?_
    refine c_seq ?_
    refine c_seq ?_
    refine c_region ?_
    refine w_pure (y_field rfl) rfl ?_
    refine w_pure (y_load_box rfl) rfl ?_
    refine w_pure (y_move rfl) rfl ?_
    (refine w_call rfl rfl rfl (sumsOf_c) rfl ?_; rintro _ w21 ⟨d21, ⟨rfl, ⟨hp1_21, hx21⟩⟩⟩)
    have hl_hp1_21 := hp1_21.lt
    have hz_hx21 := hx21.size
    replace hb2x5_3 := hb2x5_3.ext hx21
    replace hs := hs.ext hx21
    replace hd := hd.ext hx21
    replace E := E.trans hx21
    refine w_pure (y_move rfl) rfl ?_
    refine w_pure (y_extract rfl rfl) rfl ?_
    refine w_pure (y_extract rfl rfl) rfl ?_
    refine w_pure (y_assign rfl) rfl ?_
    refine w_pure (y_assign rfl) rfl ?_
    refine w_nil ?_
    refine x_next ?_
    refine c_seq ?_
    refine c_region ?_
    refine w_pure (y_move rfl) rfl ?_
    refine w_pure (y_not rfl) rfl ?_
    refine w_pure (y_move rfl) rfl ?_
    (refine w_part rfl rfl (fun hc27 => ?_) (fun hc27 => ?_) <;> try (first | exact absurd rfl hc27 | contradiction | exact Bool.noConfusion (show false = true from hc27.symm.trans (by assumption)) | exact Bool.noConfusion (show true = false from hc27.symm.trans (by assumption)) | (exfalso; omega) | (exfalso; simp only [*, Bool.not_true, Bool.not_false, reduceCtorEq] at hc27; done)))
    refine w_yes rfl rfl ?_
    refine w_pure (y_move rfl) rfl ?_
    refine w_yes rfl rfl ?_
    refine w_pure (y_field rfl) rfl ?_
    refine w_yes rfl rfl ?_
    refine w_pure (y_load_boxp rfl) rfl ?_
    refine w_yes rfl rfl ?_
    refine w_val rfl rfl rfl (haveField_c _ _) rfl (fun w30 hx30 hz30 => ?_)
    have hz_hx30 := hx30.size
    replace hp1_21 := hp1_21.ext hx30
    replace hb2x5_3 := hb2x5_3.ext hx30
    replace hs := hs.ext hx30
    replace hd := hd.ext hx30
    replace E := E.trans hx30
    refine w_yes rfl rfl ?_
    refine w_pure (y_not rfl) rfl ?_
    refine w_pure (y_pick_f rfl rfl) rfl ?_
    refine w_nil ?_
    refine x_next ?_
    (refine c_not rfl (fun hc32 => ?_) (fun hc32 => ?_) <;> try (first | exact absurd rfl hc32 | contradiction | exact Bool.noConfusion (show false = true from hc32.symm.trans (by assumption)) | exact Bool.noConfusion (show true = false from hc32.symm.trans (by assumption)) | (exfalso; omega) | (exfalso; simp only [*, Bool.not_true, Bool.not_false, reduceCtorEq] at hc32; done)))
    refine c_skip ?_
    refine x_next ?_
    refine c_seq ?_
    refine c_region ?_
    refine w_pure (y_assign rfl) rfl ?_
    refine w_nil ?_
    refine x_next ?_
    refine c_ret ?_
    rotate_left
  exact x_retv [_] rfl ⟨rfl, trivial⟩ ⟨by rw [cTab_0 hk hk2 hk3 hk4]; rfl, E.go⟩
theorem l07Keys_y (f t : Int) (h : SLL w lo hi svs v xss := by repeat (first | assumption | exact Go.Gw.Own.sl (by assumption) | exact Go.Gw.Box.at (by assumption) | exact Go.Gw.SLL.el (by first | assumption | exact Go.Gw.OwnD.sll (by assumption)) _ (by omega) | exact Go.Gw.SLL.at (by first | assumption | exact Go.Gw.OwnD.sll (by assumption)) (by omega) | exact Go.Gw.OwnD.sll (by assumption) | (apply Go.Gw.SL.chg; case hx => assumption) | (apply Go.Gw.Own.chg; case hx => assumption) | (apply Go.Gw.Box.chg; case hx => assumption) | (apply Go.Gw.At.chg; case hx => assumption) | exact .inl (Nat.zero_le _) | exact .inr (Nat.zero_le _) | (show _ ∨ _; omega))) (hk : okD xss = true := by assumption) (hf : 0 ≤ f ∧ f < t ∧ t ≤ widD xss := by omega) (hF : okF xss f t = true := by assumption) : Ret Tryz.prog 133 [v, .agg #[.int .i64 f, .int .i64 t]] w fun u w' => ∃ d, u = .tuple #[d, .int .i64 0] ∧ Own w' 9 w.heap.size d (keysL xss f t) ∧ Ext w w' := by
  have := l07Keys_c f t h hk hf
  rw [if_pos hF, if_pos hF] at this
  exact this
theorem l07Keys_n (f t : Int) (h : SLL w lo hi svs v xss := by repeat (first | assumption | exact Go.Gw.Own.sl (by assumption) | exact Go.Gw.Box.at (by assumption) | exact Go.Gw.SLL.el (by first | assumption | exact Go.Gw.OwnD.sll (by assumption)) _ (by omega) | exact Go.Gw.SLL.at (by first | assumption | exact Go.Gw.OwnD.sll (by assumption)) (by omega) | exact Go.Gw.OwnD.sll (by assumption) | (apply Go.Gw.SL.chg; case hx => assumption) | (apply Go.Gw.Own.chg; case hx => assumption) | (apply Go.Gw.Box.chg; case hx => assumption) | (apply Go.Gw.At.chg; case hx => assumption) | exact .inl (Nat.zero_le _) | exact .inr (Nat.zero_le _) | (show _ ∨ _; omega))) (hk : okD xss = true := by assumption) (hf : 0 ≤ f ∧ f < t ∧ t ≤ widD xss := by omega) (hF : okF xss f t = false := by assumption) : Ret Tryz.prog 133 [v, .agg #[.int .i64 f, .int .i64 t]] w fun u w' => ∃ d, u = .tuple #[d, .int .i64 8] ∧ Ext w w' := by
  have := l07Keys_c f t h hk hf
  rw [if_neg (by rw [hF]; decide), if_neg (by rw [hF]; decide)] at this
  exact this.mono fun u w' ⟨d, h1, _, h2⟩ => ⟨d, h1, h2⟩
set_option maxHeartbeats 4000000 in
theorem l13Read_num (hp : At w b o [.int .i64 g, .int .i64 h, v2, .bool dt]) (hs : SL w l2 h2 v2 ps) (hd : SLL w lo hi svs v xss) (hk : okD xss = true) (hk2 : okSet g h ps (widD xss) = true) (hk4 : okF xss g h = true) : Ret Tryz.prog 64 [ptr b o, v] w fun u w' => ∃ c kv nv hv svn, u = .tuple #[ptr c 0, .int .i64 (if okN xss ps = true then 0 else 8)] ∧ (okN xss ps = true → Box w' c [kv, nv, hv] ∧ w.heap.size ≤ c ∧ SL w' w.heap.size w'.heap.size kv (keysL xss g h) ∧ SLL w' w.heap.size w'.heap.size svn nv (rowsL xss ps) ∧ SL w' w.heap.size w'.heap.size hv (hdL xss g h)) ∧ Ext w w' := by
  have hwb := widD_bd hk
  have hT := TabOK.of hk hk2
  have hf := (okSet_at hk2).1.2.1
  have hd40 := hT.len
  have hpl := hT.pl
  have hkl := keysL_len xss g h
  have hpb := hp.lt
  have E : Since 0 0 w w := Since.refl 0 0 w
  refine ret_enter Tryz.func64 rfl Tryz.ntmps64 rfl ?_
  focus
    have ht_hs := hs.top
    have ht_hd := hd.top
    refine c_seq ?_
    refine c_region ?_
    refine w_pure (y_assign rfl) rfl ?_
    refine w_pure (y_assign rfl) rfl ?_
    refine w_nil ?_
    refine x_next ?_
    refine c_seq ?_
    refine c_region ?_
    refine w_pure (y_build rfl) rfl ?_
    refine w_box rfl (k := fun b15 w15 hb15 hx15 hl15 hs15 => ?_)
    have hz_hx15 := hx15.size
    replace hp := hp.ext hx15
    replace hs := hs.ext hx15
    replace hd := hd.ext hx15
    replace E := E.trans hx15
    refine w_pure (y_assign rfl) rfl ?_
    refine w_nil ?_
    refine x_next ?_
    refine c_seq ?_
    refine c_seq ?_
    refine c_region ?_
    refine w_pure (y_move rfl) rfl ?_
    refine w_val rfl rfl rfl (l02Deck_c) rfl (fun w17 hx17 hz17 => ?_)
    have hz_hx17 := hx17.size
    replace hb15 := hb15.ext hx17
    replace hp := hp.ext hx17
    replace hs := hs.ext hx17
    replace hd := hd.ext hx17
    replace E := E.trans hx17
    refine w_pure (y_not rfl) rfl ?_
    refine w_nil ?_
    refine x_next ?_
    (refine c_not rfl (fun hc18 => ?_) (fun hc18 => ?_) <;> try (first | exact absurd rfl hc18 | contradiction | exact Bool.noConfusion (show false = true from hc18.symm.trans (by assumption)) | exact Bool.noConfusion (show true = false from hc18.symm.trans (by assumption)) | (exfalso; omega) | (exfalso; simp only [*, Bool.not_true, Bool.not_false, reduceCtorEq] at hc18; done)))
    refine c_skip ?_
    refine x_next ?_
    refine c_seq ?_
    refine c_seq ?_
    refine c_region ?_
    refine w_pure (y_move rfl) rfl ?_
    refine w_pure (y_move rfl) rfl ?_
    refine w_val rfl rfl rfl (l07Width_c) rfl (fun w22 hx22 hz22 => ?_)
    have hz_hx22 := hx22.size
    replace hb15 := hb15.ext hx22
    replace hp := hp.ext hx22
    replace hs := hs.ext hx22
    replace hd := hd.ext hx22
    replace E := E.trans hx22
    refine w_val rfl rfl rfl (l13Ok_c _) rfl (fun w23 hx23 hz23 => ?_)
    have hz_hx23 := hx23.size
    replace hb15 := hb15.ext hx23
    replace hp := hp.ext hx23
    replace hs := hs.ext hx23
    replace hd := hd.ext hx23
    replace E := E.trans hx23
    refine w_pure (y_not rfl) rfl ?_
    refine w_nil ?_
    refine x_next ?_
    (refine c_not rfl (fun hc24 => ?_) (fun hc24 => ?_) <;> try (first | exact absurd rfl hc24 | contradiction | exact Bool.noConfusion (show false = true from hc24.symm.trans (by assumption)) | exact Bool.noConfusion (show true = false from hc24.symm.trans (by assumption)) | (exfalso; omega) | (exfalso; simp only [*, Bool.not_true, Bool.not_false, reduceCtorEq] at hc24; done)))
    refine c_skip ?_
    refine x_next ?_
    refine c_seq ?_
    refine c_region ?_
    refine w_pure (y_move rfl) rfl ?_
    refine w_pure (y_move rfl) rfl ?_
    refine w_pure (y_nil rfl) rfl ?_
    refine w_pure (y_field rfl) rfl ?_
    refine w_pure (y_loadsk rfl) rfl ?_
    (refine w_call rfl rfl rfl (l07Keys_y _ _) rfl ?_; rintro _ w32 ⟨d32, ⟨rfl, ⟨hp1_32, hx32⟩⟩⟩)
    have hl_hp1_32 := hp1_32.lt
    have hz_hx32 := hx32.size
    replace hb15 := hb15.ext hx32
    replace hp := hp.ext hx32
    replace hs := hs.ext hx32
    replace hd := hd.ext hx32
    replace E := E.trans hx32
    refine w_pure (y_move rfl) rfl ?_
    refine w_pure (y_extract rfl rfl) rfl ?_
    refine w_pure (y_extract rfl rfl) rfl ?_
    refine w_pure (y_assign rfl) rfl ?_
    refine w_pure (y_assign rfl) rfl ?_
    refine w_nil ?_
    refine x_next ?_
    refine c_seq ?_
    refine c_seq ?_
    refine c_region ?_
    refine w_pure (y_move rfl) rfl ?_
    refine w_pure (y_ne rfl rfl) rfl ?_
    refine w_nil ?_
    refine x_next ?_
    refine c_false rfl ?_
    refine c_skip ?_
    refine x_next ?_
    refine c_seq ?_
    refine c_seq ?_
    refine c_region ?_
    refine w_pure (y_assign rfl) rfl ?_
    refine w_nil ?_
    refine x_next ?_
    refine c_block ?_
    rotate_left
  refine c_loopC b15 (b15 + 1) (ι := Int × Value × List SV) (fun x => [(0, ptr b o), (1, v), (6, ptr b15 0), (7, d32), (9, .int .i64 x.1)])
    (fun x w' => At w' b o [.int .i64 g, .int .i64 h, v2, .bool dt] ∧ SL w' l2 h2 v2 ps ∧ SLL w' lo hi svs v xss ∧ Own w' 9 w23.heap.size d32 (keysL xss g h) ∧ Box w' b15 [.slice none 0 0, x.2.1, .slice none 0 0] ∧ OwnD w' 37 w32.heap.size w'.heap.size x.2.2 x.2.1 ((rowsL xss ps).take x.1.toNat) ∧ 0 ≤ x.1 ∧ x.1 ≤ xss.length ∧ (∀ k, k < ps.length → ∀ i, i < x.1.toNat → (nmF xss (ps.getD k (0, 0)) i).2 = true)) (fun x => (xss.length - x.1).toNat) (0, .slice none 0 0, [])
    (by repeat (first | exact trivial | refine ⟨rfl, ?_⟩)) ⟨by assumption, by assumption, by assumption, by assumption, by assumption, by show OwnD _ _ _ _ [] _ (List.take 0 _); rw [List.take_zero]; exact OwnD.nil _ _ _ _ (Nat.le_refl _), by dsimp only; omega, by dsimp only; omega, fun k hk i hi => by simp at hi⟩ ?_
  clear hp hs hd hp1_32 hb15
  rintro ⟨i, nv, svn⟩ wL hxL EL ⟨hp, hs, hd, g4, hb15, g6, hi0, hi1, hall⟩
  dsimp only at *
  have hrl := rowsL_len xss ps
  have htl : i ≤ xss.length → ((rowsL xss ps).take i.toNat).length = i.toNat := fun _ => by rw [List.length_take]; omega
  have e1 : (i + 1).toNat = i.toNat + 1 := by omega
  have hsz := EL.go.size
  by_cases hli : i < xss.length
  case neg =>
    have hY := okN_yes (xss := xss) (ps := ps) (fun k' hk' i' hi' => hall k' hk' i' (by omega))
    focus
      have hl_g4 := g4.lt
      have hl_g6 := g6.lt
      have hz_hxL := hxL.size
      replace E := E.next hxL (by omega)
      refine c_seq ?_
      refine c_seq ?_
      refine c_region ?_
      refine w_pure (y_move rfl) rfl ?_
      refine w_pure (y_move rfl) rfl ?_
      refine w_pure (y_lend rfl) rfl ?_
      refine w_pure (y_lt rfl rfl) rfl ?_
      refine w_nil ?_
      refine x_next ?_
      (refine c_dec rfl (fun hc42 => ?_) (fun hc42 => ?_) <;> try (first | exact absurd rfl hc42 | contradiction | exact Bool.noConfusion (show false = true from hc42.symm.trans (by assumption)) | exact Bool.noConfusion (show true = false from hc42.symm.trans (by assumption)) | (exfalso; omega) | (exfalso; simp only [*, Bool.not_true, Bool.not_false, reduceCtorEq] at hc42; done)))
      refine c_exit ?_
      refine x_then_exit ?_
      refine x_then_exit ?_
      refine x_block_hit ?_
      refine x_next ?_
      refine c_seq ?_
      refine c_region ?_
      refine w_pure (y_move rfl) rfl ?_
      refine w_pure (y_move rfl) rfl ?_
      refine w_pure (y_nil rfl) rfl ?_
      refine w_pure (y_field rfl) rfl ?_
      refine w_store_box rfl rfl (next := fun ws22 hbs22 hxs22 hss22 => ?_)
      (replace hb15 := hbs22; clear hbs22)
      have hz_hxs22 := hxs22.size
      replace EL := EL.trans hxs22
      replace hp := hp.chg hxs22 (by omega)
      replace hs := hs.chg hxs22 (by omega)
      replace hd := hd.chg hxs22 (by omega)
      replace g4 := g4.chg hxs22 (by omega)
      replace g6 := g6.chg hxs22 (by omega)
      replace E := E.next hxs22 (by omega)
      refine w_nil ?_
      refine x_next ?_
      refine c_seq ?_
      refine c_region ?_
      refine w_pure (y_move rfl) rfl ?_
      refine w_pure (y_move rfl) rfl ?_
      (refine w_call rfl rfl rfl (l09Groups_c) rfl ?_; rintro v93 w93 ⟨hp1_93, hx93⟩)
      have hl_hp1_93 := hp1_93.lt
      have hz_hx93 := hx93.size
      replace hb15 := hb15.ext hx93
      replace EL := EL.next hx93 (by omega)
      replace hp := hp.ext hx93
      replace hs := hs.ext hx93
      replace hd := hd.ext hx93
      replace g4 := g4.ext hx93
      replace g6 := g6.ext hx93
      replace E := E.trans hx93
      refine w_pure (y_nil rfl) rfl ?_
      refine w_pure (y_field rfl) rfl ?_
      refine w_store_box rfl rfl (next := fun ws32 hbs32 hxs32 hss32 => ?_)
      (replace hb15 := hbs32; clear hbs32)
      have hz_hxs32 := hxs32.size
      replace hp1_93 := hp1_93.chg hxs32 (by omega)
      replace EL := EL.trans hxs32
      replace hp := hp.chg hxs32 (by omega)
      replace hs := hs.chg hxs32 (by omega)
      replace hd := hd.chg hxs32 (by omega)
      replace g4 := g4.chg hxs32 (by omega)
      replace g6 := g6.chg hxs32 (by omega)
      replace E := E.next hxs32 (by omega)
      refine w_nil ?_
      refine x_next ?_
      refine c_seq ?_
      refine c_region ?_
      refine w_pure (y_move rfl) rfl ?_
      refine w_pure (y_assign rfl) rfl ?_
      refine w_pure (y_assign rfl) rfl ?_
      refine w_nil ?_
      refine x_next ?_
      refine c_ret ?_
      rotate_left
    rw [List.take_of_length_le (by omega)] at g6
    rw [hkl, hdL_keys hk4] at hp1_93
    exact x_retv [_, _] rfl ⟨rfl, rfl, trivial⟩ ⟨b15, d32, nv, v93, svn, by rw [hY]; rfl, fun _ => ⟨by assumption, by omega, (Own.fresh (by assumption)).wide (by omega) (Nat.le_refl _) (Nat.le_refl _), (OwnD.wide (g6.low (by omega)) (by omega) (Nat.le_refl _)).sll, (Own.fresh (by assumption)).wide (by omega) (Nat.le_refl _) (Nat.le_refl _)⟩, E.go⟩
  obtain ⟨hc1, hc2⟩ := hT.cd i.toNat (by omega)
  have hral := rowAt_len xss ps i.toNat
  focus
    have hl_g4 := g4.lt
    have hl_g6 := g6.lt
    have hz_hxL := hxL.size
    replace E := E.next hxL (by omega)
    refine c_seq ?_
    refine c_seq ?_
    refine c_region ?_
    refine w_pure (y_move rfl) rfl ?_
    refine w_pure (y_move rfl) rfl ?_
    refine w_pure (y_lend rfl) rfl ?_
    refine w_pure (y_lt rfl rfl) rfl ?_
    refine w_nil ?_
    refine x_next ?_
    (refine c_dec rfl (fun hc42 => ?_) (fun hc42 => ?_) <;> try (first | exact absurd rfl hc42 | contradiction | exact Bool.noConfusion (show false = true from hc42.symm.trans (by assumption)) | exact Bool.noConfusion (show true = false from hc42.symm.trans (by assumption)) | (exfalso; omega) | (exfalso; simp only [*, Bool.not_true, Bool.not_false, reduceCtorEq] at hc42; done)))
    refine c_skip ?_
    refine x_next ?_
    refine c_seq ?_
    refine c_block ?_
    refine c_seq ?_
    refine c_region ?_
    refine w_lit (α := Int) rfl rfl rfl rfl rfl rfl rfl rfl (fun v45 w45 ho45 hx45 hl45 hh45 hs45 => ?_)
    have hl_ho45 := ho45.lt
    have hz_hx45 := hx45.size
    replace EL := EL.next hx45 (by omega)
    replace hp := hp.ext hx45
    replace hs := hs.ext hx45
    replace hd := hd.ext hx45
    replace g4 := g4.ext hx45
    replace hb15 := hb15.ext hx45
    replace g6 := g6.ext hx45
    replace E := E.trans hx45
    refine w_pure (y_assign rfl) rfl ?_
    refine w_nil ?_
    refine x_next ?_
    refine c_seq ?_
    refine c_seq ?_
    refine c_region ?_
    refine w_pure (y_assign rfl) rfl ?_
    refine w_nil ?_
    refine x_next ?_
    refine c_block ?_
    rotate_left
  refine c_loopC (bL v45) (bH v45) (ι := Int × Value) (fun x => [(0, ptr b o), (1, v), (6, ptr b15 0), (7, d32), (9, .int .i64 i), (10, x.2), (11, .int .i64 x.1)])
    (fun x w' => At w' b o [.int .i64 g, .int .i64 h, v2, .bool dt] ∧ SL w' l2 h2 v2 ps ∧ SLL w' lo hi svs v xss ∧ Own w' 9 w23.heap.size d32 (keysL xss g h) ∧ Box w' b15 [.slice none 0 0, nv, .slice none 0 0] ∧ OwnD w' 37 w32.heap.size wL.heap.size svn nv ((rowsL xss ps).take i.toNat) ∧ Own w' 2 wL.heap.size x.2 ((rowAt xss ps i.toNat).take x.1.toNat) ∧ ((bL x.2 = bL v45 ∧ bH x.2 = bH v45) ∨ w45.heap.size ≤ bL x.2) ∧ 0 ≤ x.1 ∧ x.1 ≤ ps.length ∧ (∀ k, k < x.1.toNat → (nmF xss (ps.getD k (0, 0)) i.toNat).2 = true)) (fun x => (ps.length - x.1).toNat) (0, v45)
    (by repeat (first | exact trivial | refine ⟨rfl, ?_⟩)) ⟨by assumption, by assumption, by assumption, by assumption, by assumption, by assumption, by show Own _ _ _ v45 (List.take 0 _); rw [List.take_zero]; exact Own.base (by assumption) (by omega), .inl ⟨rfl, rfl⟩, by dsimp only; omega, by dsimp only; omega, fun k hk => by simp at hk⟩ ?_
  clear hp hs hd g4 hb15 g6 ho45
  rintro ⟨k, row⟩ wM hxM EM ⟨hp, hs, hd, g4, hb15, g6, g7, g8, hk0, hk1, hal2⟩
  dsimp only at *
  have htk : k ≤ ps.length → ((rowAt xss ps i.toNat).take k.toNat).length = k.toNat := fun _ => by rw [List.length_take]; omega
  have e2 : (k + 1).toNat = k.toNat + 1 := by omega
  have hszM := EM.go.size
  by_cases hlk : k < ps.length
  case neg =>
    rw [List.take_of_length_le (by omega)] at g7
    focus
      have hl_g7 := g7.lt
      have hz_hxM := hxM.size
      replace EL := EL.next hxM (by omega)
      replace E := E.next hxM (by omega)
      refine c_seq ?_
      refine c_seq ?_
      refine c_region ?_
      refine w_pure (y_move rfl) rfl ?_
      refine w_pure (y_move rfl) rfl ?_
      refine w_pure (y_nil rfl) rfl ?_
      refine w_pure (y_field rfl) rfl ?_
      refine w_pure (y_loadk rfl) rfl ?_
      refine w_pure (y_len rfl) rfl ?_
      refine w_pure (y_lt rfl rfl) rfl ?_
      refine w_nil ?_
      refine x_next ?_
      (refine c_dec rfl (fun hc52 => ?_) (fun hc52 => ?_) <;> try (first | exact absurd rfl hc52 | contradiction | exact Bool.noConfusion (show false = true from hc52.symm.trans (by assumption)) | exact Bool.noConfusion (show true = false from hc52.symm.trans (by assumption)) | (exfalso; omega) | (exfalso; simp only [*, Bool.not_true, Bool.not_false, reduceCtorEq] at hc52; done)))
      refine c_exit ?_
      refine x_then_exit ?_
      refine x_then_exit ?_
      refine x_block_hit ?_
      refine x_next ?_
      refine c_region ?_
      refine w_pure (y_move rfl) rfl ?_
      refine w_pure (y_move rfl) rfl ?_
      refine w_pure (y_nil rfl) rfl ?_
      refine w_pure (y_field rfl) rfl ?_
      refine w_pure (y_load_box rfl) rfl ?_
      refine w_pure (y_move rfl) rfl ?_
      refine w_lit_sv rfl rfl (k := fun v83 w83 ho83 hx83 hl83 hh83 hs83 => ?_)
      have hl_ho83 := ho83.lt
      have hz_hx83 := hx83.size
      replace EM := EM.next hx83 (by omega)
      replace hp := hp.ext hx83
      replace hs := hs.ext hx83
      replace hd := hd.ext hx83
      replace g4 := g4.ext hx83
      replace hb15 := hb15.ext hx83
      replace g6 := g6.ext hx83
      replace g7 := g7.ext hx83
      replace EL := EL.next hx83 (by omega)
      replace E := E.trans hx83
      refine w_append_d rfl rfl (k := fun v84 w84 ho84 hx84 hr84 => ?_)
      have hl_ho84 := ho84.lt
      have hz_hx84 := hx84.size
      replace ho83 := ho83.chg hx84 (by omega)
      replace hp := hp.chg hx84 (by omega)
      replace hs := hs.chg hx84 (by omega)
      replace hd := hd.chg hx84 (by omega)
      replace g4 := g4.chg hx84 (by omega)
      replace hb15 := hb15.chg hx84 (by omega)
      replace g7 := g7.chg hx84 (by omega)
      replace EL := EL.next hx84 (by omega)
      replace E := E.next hx84 (by omega)
      refine w_pure (y_nil rfl) rfl ?_
      refine w_pure (y_field rfl) rfl ?_
      refine w_store_box rfl rfl (hu := Own.one (OwnD.own (by assumption))) (next := fun ws30 hbs30 hxs30 hss30 => ?_)
      (replace hb15 := hbs30; clear hbs30)
      have hz_hxs30 := hxs30.size
      replace ho84 := ho84.chg hxs30 (by omega)
      replace ho83 := ho83.chg hxs30 (by omega)
      replace hp := hp.chg hxs30 (by omega)
      replace hs := hs.chg hxs30 (by omega)
      replace hd := hd.chg hxs30 (by omega)
      replace g4 := g4.chg hxs30 (by omega)
      replace g7 := g7.chg hxs30 (by omega)
      replace EL := EL.trans hxs30
      replace E := E.next hxs30 (by omega)
      refine w_nil ?_
      refine x_block_norm ?_
      refine x_next ?_
      refine c_region ?_
      refine w_pure (y_move rfl) rfl ?_
      refine w_pure (y_add rfl rfl) rfl ?_
      refine w_pure (y_assign rfl) rfl ?_
      refine w_nil ?_
      rotate_left
    refine x_again (i + 1, v84, svn ++ [svOf row]) (by repeat (first | exact trivial | refine ⟨rfl, ?_⟩)) ⟨EL.go, by assumption, by assumption, by assumption, by assumption, by assumption, ?_, by dsimp only; omega, by dsimp only; omega, fun k' hk' j hj => ?_⟩ (by dsimp only; omega)
    · dsimp only
      rw [e1, List.take_add_one, rowsL_get (by omega)]
      exact OwnD.wide (by assumption) (by omega) (Nat.le_refl _)
    · dsimp only at hj
      by_cases ej : j = i.toNat
      · subst ej; exact hal2 k' (by omega)
      · exact hall k' hk' j (by omega)
  have hfd := hT.fd k.toNat (by omega)
  have hpr := prt_len (xs := xss.getD i.toNat []) (f := (ps.getD k.toNat (0, 0)).1) (t := (ps.getD k.toNat (0, 0)).2) (by omega)
  have hrg := prt_ok (xs := xss.getD i.toNat []) (f := (ps.getD k.toNat (0, 0)).1) (t := (ps.getD k.toNat (0, 0)).2) (by omega) hc1
  focus
    have hl_g7 := g7.lt
    have hz_hxM := hxM.size
    replace EL := EL.next hxM (by omega)
    replace E := E.next hxM (by omega)
    refine c_seq ?_
    refine c_seq ?_
    refine c_region ?_
    refine w_pure (y_move rfl) rfl ?_
    refine w_pure (y_move rfl) rfl ?_
    refine w_pure (y_nil rfl) rfl ?_
    refine w_pure (y_field rfl) rfl ?_
    refine w_pure (y_loadk rfl) rfl ?_
    refine w_pure (y_len rfl) rfl ?_
    refine w_pure (y_lt rfl rfl) rfl ?_
    refine w_nil ?_
    refine x_next ?_
    (refine c_dec rfl (fun hc52 => ?_) (fun hc52 => ?_) <;> try (first | exact absurd rfl hc52 | contradiction | exact Bool.noConfusion (show false = true from hc52.symm.trans (by assumption)) | exact Bool.noConfusion (show true = false from hc52.symm.trans (by assumption)) | (exfalso; omega) | (exfalso; simp only [*, Bool.not_true, Bool.not_false, reduceCtorEq] at hc52; done)))
    refine c_skip ?_
    refine x_next ?_
    refine c_seq ?_
    refine c_block ?_
    refine c_seq ?_
    refine c_region_held mixed (fun wr16 hxr16 hzr16 => ?_)
    have hz_hxr16 := hxr16.size
    replace EM := EM.next hxr16 (by omega)
    replace hp := hp.ext hxr16
    replace hs := hs.ext hxr16
    replace hd := hd.ext hxr16
    replace g4 := g4.ext hxr16
    replace hb15 := hb15.ext hxr16
    replace g6 := g6.ext hxr16
    replace g7 := g7.ext hxr16
    replace EL := EL.next hxr16 (by omega)
    replace E := E.trans hxr16
    refine h_pure rfl (y_move rfl) rfl ?_
    refine h_pure rfl (y_move rfl) rfl ?_
    refine h_pure rfl (y_indexd rfl rfl) rfl ?_
    refine h_pure rfl (y_move rfl) rfl ?_
    refine h_pure rfl (y_nil rfl) rfl ?_
    refine h_pure rfl (y_field rfl) rfl ?_
    refine h_pure rfl (y_loadk rfl) rfl ?_
    refine h_pure rfl (y_move rfl) rfl ?_
    refine h_pure rfl (y_index rfl rfl) rfl ?_
    refine h_pure rfl (y_load_pair rfl) rfl ?_
    refine h_one rfl ?_
    (refine w_call rfl rfl rfl (l02Part_c _ _) rfl ?_; rintro v66 w66 ⟨hp1_66, hx66⟩)
    have hz_hx66 := hx66.size
    replace EM := EM.next hx66 (by omega)
    replace hp := hp.ext hx66
    replace hs := hs.ext hx66
    replace hd := hd.ext hx66
    replace g4 := g4.ext hx66
    replace hb15 := hb15.ext hx66
    replace g6 := g6.ext hx66
    replace g7 := g7.ext hx66
    replace EL := EL.next hx66 (by omega)
    replace E := E.trans hx66
    refine w_nil ?_
    refine x_held ?_
    refine h_one rfl ?_
    refine w_val rfl rfl rfl (l03Number_c) rfl (fun w67 hx67 hz67 => ?_)
    have hz_hx67 := hx67.size
    replace hp1_66 := hp1_66.ext hx67
    replace EM := EM.next hx67 (by omega)
    replace hp := hp.ext hx67
    replace hs := hs.ext hx67
    replace hd := hd.ext hx67
    replace g4 := g4.ext hx67
    replace hb15 := hb15.ext hx67
    replace g6 := g6.ext hx67
    replace g7 := g7.ext hx67
    replace EL := EL.next hx67 (by omega)
    replace E := E.trans hx67
    refine w_nil ?_
    refine x_held ?_
    refine h_pure rfl (y_move rfl) rfl ?_
    refine h_pure rfl (y_extract rfl rfl) rfl ?_
    refine h_pure rfl (y_extract rfl rfl) rfl ?_
    refine h_pure rfl (y_assign rfl) rfl ?_
    refine h_pure rfl (y_assign rfl) rfl ?_
    refine h_nil ?_
    refine x_next ?_
    refine c_seq ?_
    refine c_seq ?_
    refine c_region ?_
    refine w_pure (y_move rfl) rfl ?_
    refine w_pure (y_not rfl) rfl ?_
    refine w_nil ?_
    refine x_next ?_
    (refine c_not rfl (fun hc71 => ?_) (fun hc71 => ?_) <;> try (first | exact absurd rfl hc71 | contradiction | exact Bool.noConfusion (show false = true from hc71.symm.trans (by assumption)) | exact Bool.noConfusion (show true = false from hc71.symm.trans (by assumption)) | (exfalso; omega) | (exfalso; simp only [*, Bool.not_true, Bool.not_false, reduceCtorEq] at hc71; done)))
    refine c_seq ?_
    refine c_region ?_
    refine w_pure (y_move rfl) rfl ?_
    refine w_pure (y_assign rfl) rfl ?_
    refine w_pure (y_assign rfl) rfl ?_
    refine w_nil ?_
    refine x_next ?_
    refine c_ret ?_
    refine x_then_ret ?_
    refine x_block_ret ?_
    refine x_then_ret ?_
    refine x_then_ret ?_
    refine x_block_ret ?_
    refine x_then_ret ?_
    refine x_block_ret ?_
    refine x_then_ret ?_
    refine x_then_ret ?_
    refine x_block_ret ?_
    refine x_then_ret ?_
    rotate_left
    refine c_skip ?_
    refine x_next ?_
    refine c_region ?_
    refine w_pure (y_move rfl) rfl ?_
    refine w_pure (y_move rfl) rfl ?_
    refine w_lit (α := Int) rfl rfl rfl rfl rfl rfl rfl rfl (fun v75 w75 ho75 hx75 hl75 hh75 hs75 => ?_)
    have hl_ho75 := ho75.lt
    have hz_hx75 := hx75.size
    replace hp1_66 := hp1_66.ext hx75
    replace EM := EM.next hx75 (by omega)
    replace hp := hp.ext hx75
    replace hs := hs.ext hx75
    replace hd := hd.ext hx75
    replace g4 := g4.ext hx75
    replace hb15 := hb15.ext hx75
    replace g6 := g6.ext hx75
    replace g7 := g7.ext hx75
    replace EL := EL.next hx75 (by omega)
    replace E := E.trans hx75
    refine w_append rfl rfl (k := fun v76 w76 ho76 hx76 hr76 => ?_)
    have hl_ho76 := ho76.lt
    have hz_hx76 := hx76.size
    replace ho75 := ho75.chg hx76 (by omega)
    replace hp1_66 := hp1_66.chg hx76 (by omega)
    replace EM := EM.next hx76 (by omega)
    replace hp := hp.chg hx76 (by omega)
    replace hs := hs.chg hx76 (by omega)
    replace hd := hd.chg hx76 (by omega)
    replace g4 := g4.chg hx76 (by omega)
    replace hb15 := hb15.chg hx76 (by omega)
    replace g6 := g6.chg hx76 (by omega)
    replace EL := EL.next hx76 (by omega)
    replace E := E.next hx76 (by omega)
    refine w_pure (y_assign rfl) rfl ?_
    refine w_nil ?_
    refine x_block_norm ?_
    refine x_next ?_
    refine c_region ?_
    refine w_pure (y_move rfl) rfl ?_
    refine w_pure (y_add rfl rfl) rfl ?_
    refine w_pure (y_assign rfl) rfl ?_
    refine w_nil ?_
    rotate_left
  · have hN := okN_no (xss := xss) (ps := ps) (k := k.toNat) (i := i.toNat) (by omega) (by omega) hc71
    exact x_retv [_, _] rfl ⟨rfl, rfl, trivial⟩ ⟨b15, d32, nv, nv, svn, by rw [hN]; rfl, fun h => (by rw [hN] at h; cases h), E.go⟩
  · refine x_again (k + 1, v76) (by repeat (first | exact trivial | refine ⟨rfl, ?_⟩)) ⟨EM.go, by assumption, by assumption, by assumption, by assumption, by assumption, by assumption, ?_, by dsimp only; omega, by dsimp only; omega, by dsimp only; omega, fun j hj => ?_⟩ (by dsimp only; omega)
    · dsimp only
      rw [e2, List.take_add_one, rowAt_get (by omega)]
      exact Own.base (by assumption) (by omega)
    · dsimp only at hj
      by_cases ej : j = k.toNat
      · subst ej; exact hc71
      · exact hal2 j (by omega)
theorem l13Read_ok (hp : At w b o [.int .i64 g, .int .i64 h, v2, .bool dt]) (hs : SL w l2 h2 v2 ps) (hd : SLL w lo hi svs v xss) (hc : cTab g h ps xss = 0) : Ret Tryz.prog 64 [ptr b o, v] w fun u w' => ∃ c kv nv hv svn, u = .tuple #[ptr c 0, .int .i64 0] ∧ Box w' c [kv, nv, hv] ∧ w.heap.size ≤ c ∧ SL w' w.heap.size w'.heap.size kv (keysL xss g h) ∧ SLL w' w.heap.size w'.heap.size svn nv (rowsL xss ps) ∧ SL w' w.heap.size w'.heap.size hv (hdL xss g h) ∧ c < w'.heap.size ∧ Ext w w' := by
  obtain ⟨hk, hk2, hk3, hk4⟩ := cTab_ok hc
  refine (l13Read_num hp hs hd hk hk2 hk4).mono ?_
  rintro u w' ⟨c, kv, nv, hv, svn, h1, h2, h3⟩
  rw [if_pos hk3] at h1
  obtain ⟨a1, a2, a3, a4, a5⟩ := h2 hk3
  exact ⟨c, kv, nv, hv, svn, h1, a1, a2, a3, a4, a5, a1.lt, h3⟩
theorem l13Read_bad (hp : At w b o [.int .i64 g, .int .i64 h, v2, .bool dt]) (hs : SL w l2 h2 v2 ps) (hd : SLL w lo hi svs v xss) (hc : ¬ cTab g h ps xss = 0) : Ret Tryz.prog 64 [ptr b o, v] w fun u w' => ∃ c, u = .tuple #[ptr c 0, .int .i64 (cTab g h ps xss)] ∧ Ext w w' := by
  have E : Since 0 0 w w := Since.refl 0 0 w
  cases hk : okD xss
  · refine ret_enter Tryz.func64 rfl Tryz.ntmps64 rfl ?_
    focus
      have ht_hs := hs.top
      have ht_hd := hd.top
      refine c_seq ?_
      refine c_region ?_
      refine w_pure (y_assign rfl) rfl ?_
      refine w_pure (y_assign rfl) rfl ?_
      refine w_nil ?_
      refine x_next ?_
      refine c_seq ?_
      refine c_region ?_
      refine w_pure (y_build rfl) rfl ?_
      refine w_box rfl (k := fun b15 w15 hb15 hx15 hl15 hs15 => ?_)
      have hz_hx15 := hx15.size
      replace hp := hp.ext hx15
      replace hs := hs.ext hx15
      replace hd := hd.ext hx15
      replace E := E.trans hx15
      refine w_pure (y_assign rfl) rfl ?_
      refine w_nil ?_
      refine x_next ?_
      refine c_seq ?_
      refine c_seq ?_
      refine c_region ?_
      refine w_pure (y_move rfl) rfl ?_
      refine w_val rfl rfl rfl (l02Deck_c) rfl (fun w17 hx17 hz17 => ?_)
      have hz_hx17 := hx17.size
      replace hb15 := hb15.ext hx17
      replace hp := hp.ext hx17
      replace hs := hs.ext hx17
      replace hd := hd.ext hx17
      replace E := E.trans hx17
      refine w_pure (y_not rfl) rfl ?_
      refine w_nil ?_
      refine x_next ?_
      (refine c_not rfl (fun hc18 => ?_) (fun hc18 => ?_) <;> try (first | exact absurd rfl hc18 | contradiction | exact Bool.noConfusion (show false = true from hc18.symm.trans (by assumption)) | exact Bool.noConfusion (show true = false from hc18.symm.trans (by assumption)) | (exfalso; omega) | (exfalso; simp only [*, Bool.not_true, Bool.not_false, reduceCtorEq] at hc18; done)))
      refine c_seq ?_
      refine c_region ?_
      refine w_pure (y_move rfl) rfl ?_
      refine w_pure (y_assign rfl) rfl ?_
      refine w_pure (y_assign rfl) rfl ?_
      refine w_nil ?_
      refine x_next ?_
      refine c_ret ?_
      refine x_then_ret ?_
      rotate_left
    exact x_retv [_, _] rfl ⟨rfl, rfl, trivial⟩ ⟨_, by rw [cTab_1 hk]; rfl, E.go⟩
  have hwb := widD_bd hk
  cases hk2 : okSet g h ps (widD xss)
  · refine ret_enter Tryz.func64 rfl Tryz.ntmps64 rfl ?_
    focus
      have ht_hs := hs.top
      have ht_hd := hd.top
      refine c_seq ?_
      refine c_region ?_
      refine w_pure (y_assign rfl) rfl ?_
      refine w_pure (y_assign rfl) rfl ?_
      refine w_nil ?_
      refine x_next ?_
      refine c_seq ?_
      refine c_region ?_
      refine w_pure (y_build rfl) rfl ?_
      refine w_box rfl (k := fun b15 w15 hb15 hx15 hl15 hs15 => ?_)
      have hz_hx15 := hx15.size
      replace hp := hp.ext hx15
      replace hs := hs.ext hx15
      replace hd := hd.ext hx15
      replace E := E.trans hx15
      refine w_pure (y_assign rfl) rfl ?_
      refine w_nil ?_
      refine x_next ?_
      refine c_seq ?_
      refine c_seq ?_
      refine c_region ?_
      refine w_pure (y_move rfl) rfl ?_
      refine w_val rfl rfl rfl (l02Deck_c) rfl (fun w17 hx17 hz17 => ?_)
      have hz_hx17 := hx17.size
      replace hb15 := hb15.ext hx17
      replace hp := hp.ext hx17
      replace hs := hs.ext hx17
      replace hd := hd.ext hx17
      replace E := E.trans hx17
      refine w_pure (y_not rfl) rfl ?_
      refine w_nil ?_
      refine x_next ?_
      (refine c_not rfl (fun hc18 => ?_) (fun hc18 => ?_) <;> try (first | exact absurd rfl hc18 | contradiction | exact Bool.noConfusion (show false = true from hc18.symm.trans (by assumption)) | exact Bool.noConfusion (show true = false from hc18.symm.trans (by assumption)) | (exfalso; omega) | (exfalso; simp only [*, Bool.not_true, Bool.not_false, reduceCtorEq] at hc18; done)))
      refine c_skip ?_
      refine x_next ?_
      refine c_seq ?_
      refine c_seq ?_
      refine c_region ?_
      refine w_pure (y_move rfl) rfl ?_
      refine w_pure (y_move rfl) rfl ?_
      refine w_val rfl rfl rfl (l07Width_c) rfl (fun w22 hx22 hz22 => ?_)
      have hz_hx22 := hx22.size
      replace hb15 := hb15.ext hx22
      replace hp := hp.ext hx22
      replace hs := hs.ext hx22
      replace hd := hd.ext hx22
      replace E := E.trans hx22
      refine w_val rfl rfl rfl (l13Ok_c _) rfl (fun w23 hx23 hz23 => ?_)
      have hz_hx23 := hx23.size
      replace hb15 := hb15.ext hx23
      replace hp := hp.ext hx23
      replace hs := hs.ext hx23
      replace hd := hd.ext hx23
      replace E := E.trans hx23
      refine w_pure (y_not rfl) rfl ?_
      refine w_nil ?_
      refine x_next ?_
      (refine c_not rfl (fun hc24 => ?_) (fun hc24 => ?_) <;> try (first | exact absurd rfl hc24 | contradiction | exact Bool.noConfusion (show false = true from hc24.symm.trans (by assumption)) | exact Bool.noConfusion (show true = false from hc24.symm.trans (by assumption)) | (exfalso; omega) | (exfalso; simp only [*, Bool.not_true, Bool.not_false, reduceCtorEq] at hc24; done)))
      refine c_seq ?_
      refine c_region ?_
      refine w_pure (y_move rfl) rfl ?_
      refine w_pure (y_assign rfl) rfl ?_
      refine w_pure (y_assign rfl) rfl ?_
      refine w_nil ?_
      refine x_next ?_
      refine c_ret ?_
      refine x_then_ret ?_
      rotate_left
    exact x_retv [_, _] rfl ⟨rfl, rfl, trivial⟩ ⟨_, by rw [cTab_2 hk hk2]; rfl, E.go⟩
  have hT := TabOK.of hk hk2
  have hf := (okSet_at hk2).1.2.1
  cases hk4 : okF xss g h
  · refine ret_enter Tryz.func64 rfl Tryz.ntmps64 rfl ?_
    focus
      have ht_hs := hs.top
      have ht_hd := hd.top
      refine c_seq ?_
      refine c_region ?_
      refine w_pure (y_assign rfl) rfl ?_
      refine w_pure (y_assign rfl) rfl ?_
      refine w_nil ?_
      refine x_next ?_
      refine c_seq ?_
      refine c_region ?_
      refine w_pure (y_build rfl) rfl ?_
      refine w_box rfl (k := fun b15 w15 hb15 hx15 hl15 hs15 => ?_)
      have hz_hx15 := hx15.size
      replace hp := hp.ext hx15
      replace hs := hs.ext hx15
      replace hd := hd.ext hx15
      replace E := E.trans hx15
      refine w_pure (y_assign rfl) rfl ?_
      refine w_nil ?_
      refine x_next ?_
      refine c_seq ?_
      refine c_seq ?_
      refine c_region ?_
      refine w_pure (y_move rfl) rfl ?_
      refine w_val rfl rfl rfl (l02Deck_c) rfl (fun w17 hx17 hz17 => ?_)
      have hz_hx17 := hx17.size
      replace hb15 := hb15.ext hx17
      replace hp := hp.ext hx17
      replace hs := hs.ext hx17
      replace hd := hd.ext hx17
      replace E := E.trans hx17
      refine w_pure (y_not rfl) rfl ?_
      refine w_nil ?_
      refine x_next ?_
      (refine c_not rfl (fun hc18 => ?_) (fun hc18 => ?_) <;> try (first | exact absurd rfl hc18 | contradiction | exact Bool.noConfusion (show false = true from hc18.symm.trans (by assumption)) | exact Bool.noConfusion (show true = false from hc18.symm.trans (by assumption)) | (exfalso; omega) | (exfalso; simp only [*, Bool.not_true, Bool.not_false, reduceCtorEq] at hc18; done)))
      refine c_skip ?_
      refine x_next ?_
      refine c_seq ?_
      refine c_seq ?_
      refine c_region ?_
      refine w_pure (y_move rfl) rfl ?_
      refine w_pure (y_move rfl) rfl ?_
      refine w_val rfl rfl rfl (l07Width_c) rfl (fun w22 hx22 hz22 => ?_)
      have hz_hx22 := hx22.size
      replace hb15 := hb15.ext hx22
      replace hp := hp.ext hx22
      replace hs := hs.ext hx22
      replace hd := hd.ext hx22
      replace E := E.trans hx22
      refine w_val rfl rfl rfl (l13Ok_c _) rfl (fun w23 hx23 hz23 => ?_)
      have hz_hx23 := hx23.size
      replace hb15 := hb15.ext hx23
      replace hp := hp.ext hx23
      replace hs := hs.ext hx23
      replace hd := hd.ext hx23
      replace E := E.trans hx23
      refine w_pure (y_not rfl) rfl ?_
      refine w_nil ?_
      refine x_next ?_
      (refine c_not rfl (fun hc24 => ?_) (fun hc24 => ?_) <;> try (first | exact absurd rfl hc24 | contradiction | exact Bool.noConfusion (show false = true from hc24.symm.trans (by assumption)) | exact Bool.noConfusion (show true = false from hc24.symm.trans (by assumption)) | (exfalso; omega) | (exfalso; simp only [*, Bool.not_true, Bool.not_false, reduceCtorEq] at hc24; done)))
      refine c_skip ?_
      refine x_next ?_
      refine c_seq ?_
      refine c_region ?_
      refine w_pure (y_move rfl) rfl ?_
      refine w_pure (y_move rfl) rfl ?_
      refine w_pure (y_nil rfl) rfl ?_
      refine w_pure (y_field rfl) rfl ?_
      refine w_pure (y_loadsk rfl) rfl ?_
      (refine w_call rfl rfl rfl (l07Keys_n _ _) rfl ?_; rintro _ w32 ⟨d32, ⟨rfl, hx32⟩⟩)
      have hz_hx32 := hx32.size
      replace hb15 := hb15.ext hx32
      replace hp := hp.ext hx32
      replace hs := hs.ext hx32
      replace hd := hd.ext hx32
      replace E := E.trans hx32
      refine w_pure (y_move rfl) rfl ?_
      refine w_pure (y_extract rfl rfl) rfl ?_
      refine w_pure (y_extract rfl rfl) rfl ?_
      refine w_pure (y_assign rfl) rfl ?_
      refine w_pure (y_assign rfl) rfl ?_
      refine w_nil ?_
      refine x_next ?_
      refine c_seq ?_
      refine c_seq ?_
      refine c_region ?_
      refine w_pure (y_move rfl) rfl ?_
      refine w_pure (y_ne rfl rfl) rfl ?_
      refine w_nil ?_
      refine x_next ?_
      refine c_true rfl ?_
      refine c_seq ?_
      refine c_region ?_
      refine w_pure (y_move rfl) rfl ?_
      refine w_pure (y_move rfl) rfl ?_
      refine w_pure (y_assign rfl) rfl ?_
      refine w_pure (y_assign rfl) rfl ?_
      refine w_nil ?_
      refine x_next ?_
      refine c_ret ?_
      refine x_then_ret ?_
      rotate_left
    exact x_retv [_, _] rfl ⟨rfl, rfl, trivial⟩ ⟨_, by rw [cTab_8 hk hk2 (.inr hk4)]; rfl, E.go⟩
  · cases hk3 : okN xss ps
    · refine (l13Read_num hp hs hd hk hk2 hk4).mono ?_
      rintro u w' ⟨c, kv, nv, hv, svn, h1, h2, h3⟩
      rw [if_neg (by rw [hk3]; decide)] at h1
      exact ⟨c, by rw [cTab_8 hk hk2 (.inl hk3)]; exact h1, h3⟩
    · exact absurd (cTab_0 hk hk2 hk3 hk4) hc
theorem l13Sums_c (a z : Int) {c : Nat} {kv nv hv : Value} (hb : Box w c [kv, nv, hv] := by repeat (first | assumption | exact Go.Gw.Own.sl (by assumption) | exact Go.Gw.Box.at (by assumption) | exact Go.Gw.SLL.el (by first | assumption | exact Go.Gw.OwnD.sll (by assumption)) _ (by omega) | exact Go.Gw.SLL.at (by first | assumption | exact Go.Gw.OwnD.sll (by assumption)) (by omega) | exact Go.Gw.OwnD.sll (by assumption) | (apply Go.Gw.SL.chg; case hx => assumption) | (apply Go.Gw.Own.chg; case hx => assumption) | (apply Go.Gw.Box.chg; case hx => assumption) | (apply Go.Gw.At.chg; case hx => assumption) | exact .inl (Nat.zero_le _) | exact .inr (Nat.zero_le _) | (show _ ∨ _; omega))) (hn : SLL w lo hi svs nv (rowsL xss ps) := by repeat (first | assumption | exact Go.Gw.Own.sl (by assumption) | exact Go.Gw.Box.at (by assumption) | exact Go.Gw.SLL.el (by first | assumption | exact Go.Gw.OwnD.sll (by assumption)) _ (by omega) | exact Go.Gw.SLL.at (by first | assumption | exact Go.Gw.OwnD.sll (by assumption)) (by omega) | exact Go.Gw.OwnD.sll (by assumption) | (apply Go.Gw.SL.chg; case hx => assumption) | (apply Go.Gw.Own.chg; case hx => assumption) | (apply Go.Gw.Box.chg; case hx => assumption) | (apply Go.Gw.At.chg; case hx => assumption) | exact .inl (Nat.zero_le _) | exact .inr (Nat.zero_le _) | (show _ ∨ _; omega))) (hk : TabOK xss ps W := by assumption) (hr : 0 ≤ a ∧ a ≤ z ∧ z ≤ xss.length := by omega) : Ret Tryz.prog 68 [ptr c 0, .int .i64 a, .int .i64 z, .int .i64 ps.length] w fun u w' => Own w' 2 w.heap.size u (sumR xss ps a z) ∧ Ext w w' := by
  have E : Since 0 0 w w := Since.refl 0 0 w
  have hcb := hb.lt
  have hlen := hk.len
  have hpl := hk.pl
  refine ret_enter Tryz.func68 rfl Tryz.ntmps68 rfl ?_
  focus
    have ht_hn := hn.top
    refine c_seq ?_
    refine c_region ?_
    refine w_pure (y_assign rfl) rfl ?_
    refine w_nil ?_
    refine x_next ?_
    refine c_seq ?_
    refine c_region ?_
    refine w_pure (y_move rfl) rfl ?_
    refine w_make (α := Int) rfl rfl (k := fun v13 w13 ho13 hx13 hl13 hh13 hs13 => ?_)
    have hl_ho13 := ho13.lt
    have hz_hx13 := hx13.size
    replace hb := hb.ext hx13
    replace hn := hn.ext hx13
    replace E := E.trans hx13
    refine w_pure (y_assign rfl) rfl ?_
    refine w_nil ?_
    refine x_next ?_
    refine c_seq ?_
    refine c_seq ?_
    refine c_region ?_
    refine w_pure (y_move rfl) rfl ?_
    refine w_pure (y_assign rfl) rfl ?_
    refine w_nil ?_
    refine x_next ?_
    refine c_block ?_
    rotate_left
  refine c_loopC (bL v13) (bH v13) (ι := Int) (fun x => [(0, ptr c 0), (2, .int .i64 z), (3, .int .i64 ps.length), (9, v13), (10, .int .i64 x)])
    (fun x w' => Box w' c [kv, nv, hv] ∧ SLL w' lo hi svs nv (rowsL xss ps) ∧ Own w' 2 w.heap.size v13 (sumR xss ps a x) ∧ a ≤ x ∧ x ≤ z) (fun x => (z - x).toNat) a
    (by repeat (first | exact trivial | refine ⟨rfl, ?_⟩)) ⟨by assumption, by assumption, by rw [sumR_same]; rw [Int.toNat_natCast] at ho13; exact Own.base (by assumption) (by omega), by omega, by omega⟩ ?_
  clear ho13 hb hn
  rintro i wL hxL EL ⟨hb, hn, g3, hi0, hi1⟩
  have hrl := rowsL_len xss ps
  have hsl := sumR_len xss ps a i
  have hsl2 := sumR_len xss ps a (i + 1)
  by_cases hli : i < z
  case neg =>
    focus
      have hl_g3 := g3.lt
      have hz_hxL := hxL.size
      replace E := E.next hxL (by omega)
      refine c_seq ?_
      refine c_seq ?_
      refine c_region ?_
      refine w_pure (y_move rfl) rfl ?_
      refine w_pure (y_move rfl) rfl ?_
      refine w_pure (y_lt rfl rfl) rfl ?_
      refine w_nil ?_
      refine x_next ?_
      (refine c_dec rfl (fun hc17 => ?_) (fun hc17 => ?_) <;> try (first | exact absurd rfl hc17 | contradiction | exact Bool.noConfusion (show false = true from hc17.symm.trans (by assumption)) | exact Bool.noConfusion (show true = false from hc17.symm.trans (by assumption)) | (exfalso; omega) | (exfalso; simp only [*, Bool.not_true, Bool.not_false, reduceCtorEq] at hc17; done)))
      refine c_exit ?_
      refine x_then_exit ?_
      refine x_then_exit ?_
      refine x_block_hit ?_
      refine x_next ?_
      refine c_seq ?_
      refine c_region ?_
      refine w_pure (y_move rfl) rfl ?_
      refine w_pure (y_assign rfl) rfl ?_
      refine w_nil ?_
      refine x_next ?_
      refine c_ret ?_
      rotate_left
    refine x_retv [_] rfl ⟨rfl, trivial⟩ ⟨?_, E.go⟩
    rw [show z = i by omega]
    exact g3
  focus
    have hl_g3 := g3.lt
    have hz_hxL := hxL.size
    replace E := E.next hxL (by omega)
    refine c_seq ?_
    refine c_seq ?_
    refine c_region ?_
    refine w_pure (y_move rfl) rfl ?_
    refine w_pure (y_move rfl) rfl ?_
    refine w_pure (y_lt rfl rfl) rfl ?_
    refine w_nil ?_
    refine x_next ?_
    (refine c_dec rfl (fun hc17 => ?_) (fun hc17 => ?_) <;> try (first | exact absurd rfl hc17 | contradiction | exact Bool.noConfusion (show false = true from hc17.symm.trans (by assumption)) | exact Bool.noConfusion (show true = false from hc17.symm.trans (by assumption)) | (exfalso; omega) | (exfalso; simp only [*, Bool.not_true, Bool.not_false, reduceCtorEq] at hc17; done)))
    refine c_skip ?_
    refine x_next ?_
    refine c_seq ?_
    refine c_block ?_
    refine c_seq ?_
    refine c_region ?_
    refine w_pure (y_assign rfl) rfl ?_
    refine w_nil ?_
    refine x_next ?_
    refine c_block ?_
    rotate_left
  refine c_loopC (bL v13) (bH v13) (ι := Int) (fun x => [(0, ptr c 0), (2, .int .i64 z), (3, .int .i64 ps.length), (9, v13), (10, .int .i64 i), (11, .int .i64 x)])
    (fun x w' => Box w' c [kv, nv, hv] ∧ SLL w' lo hi svs nv (rowsL xss ps) ∧ Own w' 2 w.heap.size v13 ((sumR xss ps a (i + 1)).take x.toNat ++ (sumR xss ps a i).drop x.toNat) ∧ 0 ≤ x ∧ x ≤ ps.length) (fun x => (ps.length - x).toNat) 0
    (by repeat (first | exact trivial | refine ⟨rfl, ?_⟩)) ⟨by assumption, by assumption, by simpa using g3, by omega, by omega⟩ ?_
  clear g3 hb hn
  rintro k wM hxM EM ⟨hb, hn, g3, hk0, hk1⟩
  have hml : ((sumR xss ps a (i + 1)).take k.toNat ++ (sumR xss ps a i).drop k.toNat).length = ps.length := (mix_len (hsl2.trans hsl.symm)).trans hsl
  by_cases hlk : k < ps.length
  case neg =>
    focus
      have hz_hxM := hxM.size
      replace EL := EL.trans hxM
      replace E := E.next hxM (by omega)
      refine c_seq ?_
      refine c_seq ?_
      refine c_region ?_
      refine w_pure (y_move rfl) rfl ?_
      refine w_pure (y_move rfl) rfl ?_
      refine w_pure (y_lt rfl rfl) rfl ?_
      refine w_nil ?_
      refine x_next ?_
      (refine c_dec rfl (fun hc22 => ?_) (fun hc22 => ?_) <;> try (first | exact absurd rfl hc22 | contradiction | exact Bool.noConfusion (show false = true from hc22.symm.trans (by assumption)) | exact Bool.noConfusion (show true = false from hc22.symm.trans (by assumption)) | (exfalso; omega) | (exfalso; simp only [*, Bool.not_true, Bool.not_false, reduceCtorEq] at hc22; done)))
      refine c_exit ?_
      refine x_then_exit ?_
      refine x_then_exit ?_
      refine x_block_hit ?_
      refine x_block_norm ?_
      refine x_next ?_
      refine c_region ?_
      refine w_pure (y_move rfl) rfl ?_
      refine w_pure (y_add rfl rfl) rfl ?_
      refine w_pure (y_assign rfl) rfl ?_
      refine w_nil ?_
      rotate_left
    rw [mix_all (hsl2.trans hsl.symm) (by omega)] at g3
    exact x_again (i + 1) (by repeat (first | exact trivial | refine ⟨rfl, ?_⟩)) ⟨EL.go, by assumption, by assumption, by assumption, by omega, by omega⟩ (by omega)
  have hv1 : ((sumR xss ps a (i + 1)).take k.toNat ++ (sumR xss ps a i).drop k.toNat).getD k.toNat 0 = sumC xss (ps.getD k.toNat (0, 0)) i.toNat - sumC xss (ps.getD k.toNat (0, 0)) a.toNat := by
    rw [mix_getD (hsl2.trans hsl.symm) (by omega), List.getD_eq_getElem?_getD, sumR_get (by omega)]; rfl
  have hv2 : ((rowsL xss ps).getD i.toNat []).getD k.toNat 0 = (nmF xss (ps.getD k.toNat (0, 0)) i.toNat).1 := by
    rw [rowsL_getD (by omega), rowAt_getD (by omega)]
  have hv3 : ((rowsL xss ps).getD i.toNat []).length = ps.length := by rw [rowsL_getD (by omega), rowAt_len]
  have b1 := hk.sum64 (k := k.toNat) (by omega) (i := i.toNat) (by omega)
  have b2 := hk.sum64 (k := k.toNat) (by omega) (i := a.toNat) (by omega)
  have b3 := hk.nm (k := k.toNat) (by omega) (i := i.toNat) (by omega)
  have e1 : (k + 1).toNat = k.toNat + 1 := by omega
  have e2 : sumC xss (ps.getD k.toNat (0, 0)) (i + 1).toNat = sumC xss (ps.getD k.toNat (0, 0)) i.toNat + (nmF xss (ps.getD k.toNat (0, 0)) i.toNat).1 := by rw [show (i + 1).toNat = i.toNat + 1 by omega, sumC]
  focus
    have hz_hxM := hxM.size
    replace EL := EL.trans hxM
    replace E := E.next hxM (by omega)
    refine c_seq ?_
    refine c_seq ?_
    refine c_region ?_
    refine w_pure (y_move rfl) rfl ?_
    refine w_pure (y_move rfl) rfl ?_
    refine w_pure (y_lt rfl rfl) rfl ?_
    refine w_nil ?_
    refine x_next ?_
    (refine c_dec rfl (fun hc22 => ?_) (fun hc22 => ?_) <;> try (first | exact absurd rfl hc22 | contradiction | exact Bool.noConfusion (show false = true from hc22.symm.trans (by assumption)) | exact Bool.noConfusion (show true = false from hc22.symm.trans (by assumption)) | (exfalso; omega) | (exfalso; simp only [*, Bool.not_true, Bool.not_false, reduceCtorEq] at hc22; done)))
    refine c_skip ?_
    refine x_next ?_
    refine c_seq ?_
    refine c_block ?_
    refine c_region_base mixed (fun wr8 hxr8 hzr8 EBr8 => ?_)
    have hz_hxr8 := hxr8.size
    replace EM := EM.next hxr8 (by omega)
    replace hb := hb.ext hxr8
    replace hn := hn.ext hxr8
    replace g3 := g3.ext hxr8
    replace EL := EL.next hxr8 (by omega)
    replace E := E.trans hxr8
    refine b_pure rfl (y_move rfl) rfl ?_
    refine b_pure rfl (y_move rfl) rfl ?_
    refine b_pure rfl (y_index rfl rfl) rfl ?_
    refine b_pure rfl (y_load_int rfl) rfl ?_
    refine b_pure rfl (y_move rfl) rfl ?_
    refine b_pure rfl (y_nil rfl) rfl ?_
    refine b_pure rfl (y_field rfl) rfl ?_
    refine b_pure rfl (y_load_box rfl) rfl ?_
    refine b_pure rfl (y_move rfl) rfl ?_
    refine b_pure rfl (y_indexd rfl rfl) rfl ?_
    refine b_pure rfl (y_load rfl) rfl ?_
    refine b_pure rfl (y_move rfl) rfl ?_
    refine b_pure rfl (y_index rfl rfl) rfl ?_
    refine b_pure rfl (y_load_int rfl) rfl ?_
    refine b_pure rfl (y_add rfl rfl) rfl ?_
    refine b_pure rfl (y_index rfl rfl) rfl ?_
    refine b_one rfl ?_
    refine w_store_own rfl rfl (next := fun ws32 hos32 hxs32 hss32 => ?_)
    (replace g3 := hos32; clear hos32)
    have hz_hxs32 := hxs32.size
    replace EM := EM.trans hxs32
    replace hb := hb.chg hxs32 (by omega)
    replace hn := hn.chg hxs32 (by omega)
    replace EL := EL.trans hxs32
    replace E := E.next hxs32 (by omega)
    refine w_nil ?_
    refine x_hbk ?_
    refine b_nil ?_
    refine x_block_norm ?_
    refine x_next ?_
    refine c_region ?_
    refine w_pure (y_move rfl) rfl ?_
    refine w_pure (y_add rfl rfl) rfl ?_
    refine w_pure (y_assign rfl) rfl ?_
    refine w_nil ?_
    rotate_left
  have ey : ((sumR xss ps a (i + 1)).take k.toNat ++ (sumR xss ps a i).drop k.toNat).getD k.toNat 0 + ((rowsL xss ps).getD i.toNat []).getD k.toNat 0 = sumC xss (ps.getD k.toNat (0, 0)) (i + 1).toNat - sumC xss (ps.getD k.toNat (0, 0)) a.toNat := by rw [hv1, hv2, e2]; omega
  refine x_again (k + 1) (by repeat (first | exact trivial | refine ⟨rfl, ?_⟩)) ⟨EM.go, by assumption, by assumption, ?_, by omega, by omega⟩ (by omega)
  rw [e1, ← upd_step (hsl2.trans hsl.symm) (by omega) (sumR_get (by omega)), ← ey]
  assumption
end
end Go.Proofs.YtihnhelkfiaimaaGreatDoor

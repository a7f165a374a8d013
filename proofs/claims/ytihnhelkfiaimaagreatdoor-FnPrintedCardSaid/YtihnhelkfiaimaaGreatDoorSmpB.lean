/- Contracts: decks and setups that the laws draw; they are good: their numbers and characters can be read. -/
import Derived.Test.YtihnhelkfiaimaaGreatDoorSmpA
import Derived.Test.YtihnhelkfiaimaaGreatDoorOpB
import Derived.Test.YtihnhelkfiaimaaGreatDoorL23
namespace Go.Gw
open Go
/-- a struct that is built, of fields of any size -/
theorem y_buildn {P : Program} {σ : Fm} {w : World} {ty T : TypeId} {zs cs : List Value} {pls : List (Nat × Nat)} {parts : List (Nat × Operand)} {ps : List (Nat × Value)} (hz : (P.info? T).bind (·.zero) = some (.agg zs.toArray))
    (und : ∃ fs, P.underlying T = some (.struct fs) ∧ fs.mapM (fun f => (P.info? f.type).map fun i => (f.offset, i.size)) = some pls.toArray) (hx : evp σ parts = some ps) (hf : Instr.fill (fun i => pls.toArray[i]?) zs.toArray ps = some cs.toArray) : YE P σ (.build T parts.toArray) ty w (.agg cs.toArray) := ⟨fun w' hw ρ hρ => by
  obtain ⟨fs, hu, hm⟩ := und
  have hz' : (zeroValue T).run P w' = .ok (.agg zs.toArray) w' := run_zero w' (z := .agg zs.toArray) (h := ⟨hz⟩)
  have hpl : (fs.mapM fun f => do pure (f.offset, ← sizeOf f.type) : Sem (Array (Nat × Nat))).run P w' = .ok pls.toArray w' := by
    have e1 : fs = fs.toList.toArray := by simp
    rw [e1, List.mapM_toArray] at hm ⊢
    simp only [Sem.run_map]
    cases hq : fs.toList.mapM (fun f => (P.info? f.type).map fun i => (f.offset, i.size)) with
    | none => simp [hq] at hm
    | some pl =>
      simp [hq] at hm
      have := run_places (P := P) w' fs.toList pl hq
      have e2 : (fs.toList.mapM fun f => do pure (f.offset, ← sizeOf f.type) : Sem (List (Nat × Nat))) = fs.toList.mapM fun f => Prod.mk f.offset <$> sizeOf f.type := by simp
      rw [e2, this]
      simp [hm]
  have hparts : parts.toArray.map (fun (i, x) => (i, ρ x)) = ps.toArray := by rw [List.map_toArray, ← evp_spec hρ hx]
  simp only [execOp, Instr.build, hparts, Sem.run_bind, hz', Result.andThen_ok, Value.cells, run_underlying hu, hpl]
  rw [show (fun x => pls.toArray[x]?) = (fun i => pls.toArray[i]?) from rfl, hf]
  simp⟩
end Go.Gw
namespace Go.Proofs.YtihnhelkfiaimaaGreatDoor
open Go Go.Gw
set_option linter.unusedVariables false
set_option linter.unusedSimpArgs false
def putOK (v : List Int) : Prop := (numL v).2 = true ∧ v.length = 2 ∧ (0 ≤ v.getD 0 0 ∧ v.getD 0 0 ≤ 4095) ∧ (0 ≤ v.getD 1 0 ∧ v.getD 1 0 ≤ 4095)
theorem put_fin : ∀ z : Fin 130, (numL (putZ (((z.val : Nat) : Int) - 30) 2)).2 = true ∧ (putZ (((z.val : Nat) : Int) - 30) 2).length = 2 ∧ (0 ≤ (putZ (((z.val : Nat) : Int) - 30) 2).getD 0 0 ∧ (putZ (((z.val : Nat) : Int) - 30) 2).getD 0 0 ≤ 4095) ∧ (0 ≤ (putZ (((z.val : Nat) : Int) - 30) 2).getD 1 0 ∧ (putZ (((z.val : Nat) : Int) - 30) 2).getD 1 0 ≤ 4095) := by decide +kernel
theorem put_good {n : Int} (h : -30 ≤ n ∧ n < 100) : putOK (putZ n 2) := by
  have := put_fin ⟨(n + 30).toNat, by omega⟩
  simp only [show (((n + 30).toNat : Nat) : Int) - 30 = n by omega] at this
  exact this
theorem chC_fin : ∀ x : Fin 3, okT [(chC ((x.val : Nat) : Int)).getD 0 0] = true ∧ (chC ((x.val : Nat) : Int)).length = 5 ∧ (0 ≤ (chC ((x.val : Nat) : Int)).getD 0 0 ∧ (chC ((x.val : Nat) : Int)).getD 0 0 ≤ 4095) := by decide +kernel
theorem chC_good {x : Int} (h : 0 ≤ x ∧ x < 3) : okT [(chC x).getD 0 0] = true ∧ (chC x).length = 5 ∧ (0 ≤ (chC x).getD 0 0 ∧ (chC x).getD 0 0 ≤ 4095) := by
  have := chC_fin ⟨x.toNat, by omega⟩
  simp only [show ((x.toNat : Nat) : Int) = x by omega] at this
  exact this
/-- a card of a letter and two numbers -/
structure GdC (c : List Int) : Prop where
  len : c.length = 5
  ok : okK c = true
  ch : okT (prt c 0 1) = true
  n1 : (numL (prt c 1 3)).2 = true
  n2 : (numL (prt c 3 5)).2 = true
theorem crd_good {x y z : Int} (hx : 0 ≤ x ∧ x < 3) (hy : 0 ≤ y ∧ y < 100) (hz : 0 ≤ z ∧ z < 130) : GdC (crdK (chC x) (putZ y 2) (putZ (z - 30) 2) 2) := by
  have h1 := chC_good hx
  have h2 : putOK (putZ y 2) := put_good (by omega)
  have h3 : putOK (putZ (z - 30) 2) := put_good (by omega)
  unfold putOK at h2 h3
  generalize putZ y 2 = a at *
  generalize putZ (z - 30) 2 = b at *
  generalize chC x = c at *
  match a, h2.2.1, h2 with
  | [a0, a1], _, h2 =>
  match b, h3.2.1, h3 with
  | [b0, b1], _, h3 =>
  match c, h1.2.1, h1 with
  | [c0, c1, c2, c3, c4], _, h1 =>
  refine ⟨rfl, ?_, h1.1, h2.1, h3.1⟩
  have e : crdK [c0, c1, c2, c3, c4] [a0, a1] [b0, b1] 2 = [c0, a0, a1, b0, b1] := rfl
  rw [e]
  simp only [List.getD_cons_zero, List.getD_cons_succ] at h1 h2 h3
  simp only [okK, Bool.and_eq_true, decide_eq_true_eq, Bool.not_eq_true', List.any_eq_false]
  refine ⟨by simp, fun d hd => ?_⟩
  simp only [List.mem_cons, List.not_mem_nil, or_false] at hd
  rcases hd with rfl | rfl | rfl | rfl | rfl <;> simp <;> omega
structure GdD (xss : List (List Int)) : Prop where
  len : xss.length ≤ 8
  at_ : ∀ i, i < xss.length → GdC (xss.getD i [])
theorem GdD.push {xss : List (List Int)} {c : List Int} (h : GdD xss) (hl : xss.length < 8) (hc : GdC c) : GdD (xss ++ [c]) := by
  refine ⟨by simp; omega, fun i hi => ?_⟩
  by_cases e : i < xss.length
  · rw [getD_append_lt e]; exact h.at_ i e
  · rw [getD_append_eq (by simp at hi; omega)]; exact hc
/-- a setup for such cards -/
structure GdS (ps : List (Int × Int)) : Prop where
  len : ps.length ≤ 2
  at_ : ∀ k, k < ps.length → ps.getD k (0, 0) = (1, 3) ∨ ps.getD k (0, 0) = (3, 5)
theorem GdS.push {ps : List (Int × Int)} {p : Int × Int} (h : GdS ps) (hl : ps.length < 2) (hp : p = (1, 3) ∨ p = (3, 5)) : GdS (ps ++ [p]) := by
  refine ⟨by simp; omega, fun i hi => ?_⟩
  by_cases e : i < ps.length
  · rw [getD_append_lt e]; exact h.at_ i e
  · rw [getD_append_eq (by simp at hi; omega)]; exact hp
theorem GdD.deck {xss : List (List Int)} (h : GdD xss) : okD xss = true ∧ (widD xss = 5 ∨ (xss.length = 0 ∧ widD xss = 20)) := by
  constructor
  · rw [okD_yes (fun i hi => ⟨(h.at_ i hi).ok, by rw [(h.at_ i hi).len, (h.at_ 0 (by omega)).len]⟩)]
    have := h.len
    exact decide_eq_true (by omega)
  · unfold widD
    split
    · exact .inr ⟨by assumption, rfl⟩
    · left; rw [(h.at_ 0 (by omega)).len]; rfl
theorem GdS.set {ps : List (Int × Int)} (h : GdS ps) {W : Int} (hW : 5 ≤ W ∧ W ≤ 20) : okSet 0 1 ps W = true := by
  have hl := h.len
  simp only [okSet, Bool.and_eq_true, decide_eq_true_eq, Bool.not_eq_true', List.any_eq_false]
  refine ⟨by omega, fun p hp => ?_⟩
  obtain ⟨k, hk, rfl⟩ := List.mem_iff_getElem.1 hp
  have := h.at_ k hk
  rw [List.getD_eq_getElem?_getD, List.getElem?_eq_getElem hk] at this
  simp only [Option.getD_some] at this
  rcases this with g | g <;> rw [g] <;> simp [numB] <;> omega
theorem good_tab {xss : List (List Int)} {ps : List (Int × Int)} (h : GdD xss) (g : GdS ps) : cTab 0 1 ps xss = 0 := by
  have h1 := h.deck
  refine cTab_0 h1.1 (g.set (by omega)) (okN_yes fun k hk i hi => ?_) (okF_yes fun i hi => (h.at_ i hi).ch)
  unfold nmF
  rcases g.at_ k hk with e | e <;> rw [e]
  · exact (h.at_ i hi).n1
  · exact (h.at_ i hi).n2
section
variable {w : World} {lo hi b : Nat} {B : Int} {v : Value} {p : List UInt8}
theorem l13Deck_c (k : Int) (h : Src w lo hi b B := by assumption) (hB : B ≤ 1000000000 := by omega) (hk : 0 ≤ k ∧ k ≤ 8 := by omega) : Ret Tryz.prog 57 [ptr b 0, .int .i64 k] w fun u w' => ∃ sus xss, OwnD w' 43 w.heap.size w'.heap.size sus u xss ∧ GdD xss ∧ Src w' lo hi b (B + 100) ∧ Chg b (b + 1) w w' := by
  have htop := h.top
  have hlim := h.lim
  have E : Since b (b + 1) w w := Since.refl _ _ _
  refine ret_enter Tryz.func57 rfl Tryz.ntmps57 rfl ?_
  focus
    have ht_h := h.top
    refine c_seq ?_
    refine c_region ?_
    refine w_pure (y_assign rfl) rfl ?_
    refine w_nil ?_
    refine x_next ?_
    refine c_seq ?_
    refine c_region ?_
    refine w_lit_d0 rfl (k := fun v7 w7 ho7 hx7 hl7 hh7 hs7 => ?_)
    have hl_ho7 := ho7.lt
    have hz_hx7 := hx7.size
    replace h := h.ext hx7
    replace E := E.next hx7 (by omega)
    refine w_pure (y_assign rfl) rfl ?_
    refine w_nil ?_
    refine x_next ?_
    refine c_seq ?_
    refine c_seq ?_
    refine c_region ?_
    refine w_pure (y_move rfl) rfl ?_
    refine w_pure (y_move rfl) rfl ?_
    refine w_pure (y_add rfl rfl) rfl ?_
    (refine w_call rfl rfl rfl (srcPick_z _) rfl ?_; rintro _ w11 ⟨x11, ⟨rfl, ⟨⟨hp1_11, hp2_11⟩, ⟨hp3_11, hx11⟩⟩⟩⟩)
    have hz_hx11 := hx11.size
    replace ho7 := ho7.chg hx11 (by omega)
    replace E := E.trans hx11
    refine w_pure (y_assign rfl) rfl ?_
    refine w_nil ?_
    refine x_next ?_
    refine c_block ?_
    rotate_left
  refine c_loopC b (bH v7) (ι := Int × Value × List SV × List (List Int)) (fun x => [(0, ptr b 0), (5, x.2.1), (6, .int .i64 x.1)])
    (fun x w' => OwnD w' 43 w.heap.size w'.heap.size x.2.2.1 x.2.1 x.2.2.2 ∧ GdD x.2.2.2 ∧ x.2.2.2.length ≤ 8 - x.1 ∧ Src w' lo hi b (B + 2 + 8 * (8 - x.1)) ∧ (0 ≤ x.1 ∧ x.1 ≤ 8) ∧ Since b (b + 1) w w' ∧ ((bL x.2.1 = bL v7 ∧ bH x.2.1 = bH v7) ∨ w11.heap.size ≤ bL x.2.1)) (fun x => x.1.toNat) (x11, v7, [], [])
    (by repeat (first | exact trivial | refine ⟨rfl, ?_⟩)) ⟨OwnD.wide (OwnD.low (by assumption) (by omega)) (by omega) (Nat.le_refl _), ⟨by simp, fun i hi => by simp at hi⟩, by simp; omega, hp3_11.more (by dsimp only; omega), by dsimp only; omega, by assumption, .inl ⟨rfl, rfl⟩⟩ ?_
  clear E h hp3_11 ho7
  rintro ⟨m, u, sus, xss⟩ wL hxL EL ⟨g1, g2, g3, g4, g5, E, g6⟩
  dsimp only at *
  have hzL := hxL.size
  focus
    have hl_g1 := g1.lt
    have ht_g4 := g4.top
    refine c_seq ?_
    refine c_seq ?_
    refine c_region ?_
    refine w_pure (y_move rfl) rfl ?_
    refine w_pure (y_gt rfl rfl) rfl ?_
    refine w_nil ?_
    refine x_next ?_
    (refine c_dec rfl (fun hc13 => ?_) (fun hc13 => ?_) <;> try (first | exact absurd rfl hc13 | contradiction | exact Bool.noConfusion (show false = true from hc13.symm.trans (by assumption)) | exact Bool.noConfusion (show true = false from hc13.symm.trans (by assumption)) | (exfalso; omega) | (exfalso; simp only [*, Bool.not_true, Bool.not_false, reduceCtorEq] at hc13; done)))
    refine c_skip ?_
    refine x_next ?_
    refine c_seq ?_
    refine c_block ?_
    refine c_region ?_
    refine w_pure (y_move rfl) rfl ?_
    refine w_pure (y_move rfl) rfl ?_
    (refine w_call rfl rfl rfl (l13Card_c) rfl ?_; rintro _ w18 ⟨d18, ⟨x18, ⟨y18, ⟨z18, ⟨rfl, ⟨hp1_18, ⟨⟨hp2_18, hp3_18⟩, ⟨⟨hp4_18, hp5_18⟩, ⟨⟨hp6_18, hp7_18⟩, ⟨hp8_18, hx18⟩⟩⟩⟩⟩⟩⟩⟩⟩⟩)
    have hl_hp1_18 := hp1_18.lt
    have hz_hx18 := hx18.size
    replace EL := EL.next hx18 (by omega)
    replace g1 := g1.chg hx18 (by omega)
    replace E := E.trans hx18
    refine w_lit_cd rfl rfl (k := fun v19 w19 ho19 hx19 hl19 hh19 hs19 => ?_)
    have hl_ho19 := ho19.lt
    have hz_hx19 := hx19.size
    replace hp1_18 := hp1_18.ext hx19
    replace hp8_18 := hp8_18.ext hx19
    replace EL := EL.next hx19 (by omega)
    replace g1 := g1.ext hx19
    replace E := E.next hx19 (by omega)
    refine w_append_d rfl rfl (k := fun v20 w20 ho20 hx20 hr20 => ?_)
    have hl_ho20 := ho20.lt
    have hz_hx20 := hx20.size
    replace ho19 := ho19.chg hx20 (by omega)
    replace hp1_18 := hp1_18.chg hx20 (by omega)
    replace hp8_18 := hp8_18.chg hx20 (by omega)
    replace EL := EL.next hx20 (by omega)
    replace E := E.next hx20 (by omega)
    refine w_pure (y_assign rfl) rfl ?_
    refine w_nil ?_
    refine x_block_norm ?_
    refine x_next ?_
    refine c_region ?_
    refine w_pure (y_move rfl) rfl ?_
    refine w_pure (y_sub rfl rfl) rfl ?_
    refine w_pure (y_assign rfl) rfl ?_
    refine w_nil ?_
    rotate_left
    refine c_exit ?_
    refine x_then_exit ?_
    refine x_then_exit ?_
    refine x_block_hit ?_
    refine x_next ?_
    refine c_seq ?_
    refine c_region ?_
    refine w_pure (y_move rfl) rfl ?_
    refine w_pure (y_assign rfl) rfl ?_
    refine w_nil ?_
    refine x_next ?_
    refine c_ret ?_
    rotate_left
  · exact x_again (m - 1, v20, sus ++ [svOf d18], xss ++ [_]) (by repeat (first | exact trivial | refine ⟨rfl, ?_⟩)) ⟨EL.go, OwnD.wide (by assumption) (by omega) (Nat.le_refl _), g2.push (by omega) (crd_good (by omega) (by omega) (by omega)), by rw [List.length_append, List.length_singleton]; dsimp only; omega, hp8_18.more (by dsimp only; omega), by dsimp only; omega, by assumption, by dsimp only; omega⟩ (by dsimp only; omega)
  · exact x_retv [_] rfl ⟨rfl, trivial⟩ ⟨sus, xss, g1, g2, g4.more (by omega), E.go⟩
theorem l13Setup_c (h : Src w lo hi b B := by assumption) (hB : B ≤ 1000000000 := by omega) : Ret Tryz.prog 59 [ptr b 0] w fun u w' => ∃ d, ∃ q : Bool, ∃ ps, u = .agg #[.int .i64 0, .int .i64 1, d, .bool q] ∧ Own w' 27 w.heap.size d ps ∧ GdS ps ∧ Src w' lo hi b (B + 100) ∧ Chg b (b + 1) w w' := by
  have htop := h.top
  have hlim := h.lim
  have E : Since b (b + 1) w w := Since.refl _ _ _
  refine ret_enter Tryz.func59 rfl Tryz.ntmps59 rfl ?_
  focus
    have ht_h := h.top
    refine c_seq ?_
    refine c_region ?_
    refine w_alloc (k := fun b2 w2 hb2 hx2 hl2 hs2 => ?_)
    have hz_hx2 := hx2.size
    replace h := h.ext hx2
    replace E := E.next hx2 (by omega)
    refine w_nil ?_
    refine x_next ?_
    refine c_seq ?_
    refine c_region ?_
    refine w_pure (y_build rfl) rfl ?_
    refine w_pure (y_move rfl) rfl ?_
    (refine w_call rfl rfl rfl (srcOne_c _) rfl ?_; rintro _ w7 ⟨q7, ⟨rfl, ⟨hp1_7, hx7⟩⟩⟩)
    have hz_hx7 := hx7.size
    replace hb2 := hb2.chg hx7 (by omega)
    replace E := E.trans hx7
    refine w_pure (y_buildn (zs := [.int .i64 0, .int .i64 0, .slice none 0 0, .bool false]) (pls := [(0, 2), (2, 1), (3, 1)]) (by kernel_rfl) ⟨_, Tryz.underlying30, by kernel_rfl⟩ rfl rfl) rfl ?_
    refine w_alloc (k := fun b3 w3 hb3 hx3 hl3 hs3 => ?_)
    have hz_hx3 := hx3.size
    replace hp1_7 := hp1_7.ext hx3
    replace hb2 := hb2.ext hx3
    replace E := E.next hx3 (by omega)
    refine w_store_boxs rfl rfl (next := fun ws13 hbs13 hxs13 hss13 => ?_)
    (replace hb3 := hbs13; clear hbs13)
    have hz_hxs13 := hxs13.size
    replace hp1_7 := hp1_7.chg hxs13 (by omega)
    replace hb2 := hb2.chg hxs13 (by omega)
    replace E := E.next hxs13 (by omega)
    refine w_nil ?_
    refine x_next ?_
    refine c_seq ?_
    refine c_seq ?_
    refine c_region ?_
    refine w_pure (y_move rfl) rfl ?_
    (refine w_call rfl rfl rfl (srcPick_z _) rfl ?_; rintro _ w10 ⟨x10, ⟨rfl, ⟨⟨hp1_10, hp2_10⟩, ⟨hp3_10, hx10⟩⟩⟩⟩)
    have hz_hx10 := hx10.size
    replace hb3 := hb3.chg hx10 (by omega)
    replace hb2 := hb2.chg hx10 (by omega)
    replace E := E.trans hx10
    refine w_pure (y_assign rfl) rfl ?_
    refine w_nil ?_
    refine x_next ?_
    refine c_block ?_
    rotate_left
  refine c_loopC b (b3 + 1) (ι := Int × Value × List (Int × Int)) (fun x => [(0, ptr b 0), (2, ptr b2 0), (3, ptr b3 0), (4, .int .i64 x.1)])
    (fun x w' => Src w' lo hi b (B + 4 + 10 * (2 - x.1)) ∧ Box w' b3 [.int .i64 0, .int .i64 1, x.2.1, .bool q7] ∧ Box w' b2 [.int .i64 0, .int .i64 0, .slice none 0 0, .bool false] ∧ Own w' 27 w10.heap.size x.2.1 x.2.2 ∧ GdS x.2.2 ∧ x.2.2.length ≤ 2 - x.1 ∧ (0 ≤ x.1 ∧ x.1 ≤ x10) ∧ Since b (b + 1) w w') (fun x => x.1.toNat) (x10, .slice none 0 0, [])
    (by repeat (first | exact trivial | refine ⟨rfl, ?_⟩)) ⟨hp3_10.more (by dsimp only; omega), by assumption, by assumption, Own.nil _ _ _, ⟨by simp, fun k hk => by simp at hk⟩, by simp; omega, by dsimp only; omega, by assumption⟩ ?_
  clear E h hp1_7 hp3_10 hb2 hb3
  rintro ⟨k, u, ps⟩ wL hxL EL ⟨hsr, hb3, hb2, g1, hok, g2, g3, E⟩
  dsimp only at *
  have hzL := hxL.size
  focus
    have ht_hsr := hsr.top
    have hl_g1 := g1.lt
    refine c_seq ?_
    refine c_seq ?_
    refine c_region ?_
    refine w_pure (y_move rfl) rfl ?_
    refine w_pure (y_gt rfl rfl) rfl ?_
    refine w_nil ?_
    refine x_next ?_
    (refine c_dec rfl (fun hc12 => ?_) (fun hc12 => ?_) <;> try (first | exact absurd rfl hc12 | contradiction | exact Bool.noConfusion (show false = true from hc12.symm.trans (by assumption)) | exact Bool.noConfusion (show true = false from hc12.symm.trans (by assumption)) | (exfalso; omega) | (exfalso; simp only [*, Bool.not_true, Bool.not_false, reduceCtorEq] at hc12; done)))
    refine c_skip ?_
    refine x_next ?_
    refine c_seq ?_
    refine c_block ?_
    refine c_seq ?_
    refine c_region ?_
    refine w_pure (y_move rfl) rfl ?_
    (refine w_call rfl rfl rfl (srcOne_c _) rfl ?_; rintro _ w16 ⟨q16, ⟨rfl, ⟨hp1_16, hx16⟩⟩⟩)
    have hz_hx16 := hx16.size
    replace EL := EL.next hx16 (by omega)
    replace hb3 := hb3.chg hx16 (by omega)
    replace hb2 := hb2.chg hx16 (by omega)
    replace g1 := g1.chg hx16 (by omega)
    replace E := E.trans hx16
    refine w_nil ?_
    refine x_next ?_
    (refine c_if rfl (fun hc16 => ?_) (fun hc16 => ?_) <;> try (first | exact absurd rfl hc16 | contradiction | exact Bool.noConfusion (show false = true from hc16.symm.trans (by assumption)) | exact Bool.noConfusion (show true = false from hc16.symm.trans (by assumption)) | (exfalso; omega) | (exfalso; simp only [*, Bool.not_true, Bool.not_false, reduceCtorEq] at hc16; done)))
    refine c_region ?_
    refine w_pure (y_field rfl) rfl ?_
    refine w_pure (y_load_box rfl) rfl ?_
    refine w_pure (y_build rfl) rfl ?_
    refine w_lit (α := (Int × Int)) rfl rfl rfl rfl rfl rfl rfl rfl (fun v20 w20 ho20 hx20 hl20 hh20 hs20 => ?_)
    have hl_ho20 := ho20.lt
    have hz_hx20 := hx20.size
    replace hp1_16 := hp1_16.ext hx20
    replace EL := EL.next hx20 (by omega)
    replace hb3 := hb3.ext hx20
    replace hb2 := hb2.ext hx20
    replace g1 := g1.ext hx20
    replace E := E.next hx20 (by omega)
    refine w_append rfl rfl (k := fun v21 w21 ho21 hx21 hr21 => ?_)
    have hl_ho21 := ho21.lt
    have hz_hx21 := hx21.size
    replace ho20 := ho20.chg hx21 (by omega)
    replace hp1_16 := hp1_16.chg hx21 (by omega)
    replace EL := EL.next hx21 (by omega)
    replace hb3 := hb3.chg hx21 (by omega)
    replace hb2 := hb2.chg hx21 (by omega)
    replace E := E.next hx21 (by omega)
    refine w_pure (y_field rfl) rfl ?_
    refine w_store_box rfl rfl (next := fun ws27 hbs27 hxs27 hss27 => ?_)
    (replace hb3 := hbs27; clear hbs27)
    have hz_hxs27 := hxs27.size
    replace ho21 := ho21.chg hxs27 (by omega)
    replace ho20 := ho20.chg hxs27 (by omega)
    replace hp1_16 := hp1_16.chg hxs27 (by omega)
    replace EL := EL.next hxs27 (by omega)
    replace hb2 := hb2.chg hxs27 (by omega)
    replace E := E.next hxs27 (by omega)
    refine w_nil ?_
    refine x_block_norm ?_
    refine x_next ?_
    refine c_region ?_
    refine w_pure (y_move rfl) rfl ?_
    refine w_pure (y_sub rfl rfl) rfl ?_
    refine w_pure (y_assign rfl) rfl ?_
    refine w_nil ?_
    rotate_left
    refine c_region ?_
    refine w_pure (y_field rfl) rfl ?_
    refine w_pure (y_load_box rfl) rfl ?_
    refine w_pure (y_build rfl) rfl ?_
    refine w_lit (α := (Int × Int)) rfl rfl rfl rfl rfl rfl rfl rfl (fun v26 w26 ho26 hx26 hl26 hh26 hs26 => ?_)
    have hl_ho26 := ho26.lt
    have hz_hx26 := hx26.size
    replace hp1_16 := hp1_16.ext hx26
    replace EL := EL.next hx26 (by omega)
    replace hb3 := hb3.ext hx26
    replace hb2 := hb2.ext hx26
    replace g1 := g1.ext hx26
    replace E := E.next hx26 (by omega)
    refine w_append rfl rfl (k := fun v27 w27 ho27 hx27 hr27 => ?_)
    have hl_ho27 := ho27.lt
    have hz_hx27 := hx27.size
    replace ho26 := ho26.chg hx27 (by omega)
    replace hp1_16 := hp1_16.chg hx27 (by omega)
    replace EL := EL.next hx27 (by omega)
    replace hb3 := hb3.chg hx27 (by omega)
    replace hb2 := hb2.chg hx27 (by omega)
    replace E := E.next hx27 (by omega)
    refine w_pure (y_field rfl) rfl ?_
    refine w_store_box rfl rfl (next := fun ws44 hbs44 hxs44 hss44 => ?_)
    (replace hb3 := hbs44; clear hbs44)
    have hz_hxs44 := hxs44.size
    replace ho27 := ho27.chg hxs44 (by omega)
    replace ho26 := ho26.chg hxs44 (by omega)
    replace hp1_16 := hp1_16.chg hxs44 (by omega)
    replace EL := EL.next hxs44 (by omega)
    replace hb2 := hb2.chg hxs44 (by omega)
    replace E := E.next hxs44 (by omega)
    refine w_nil ?_
    refine x_block_norm ?_
    refine x_next ?_
    refine c_region ?_
    refine w_pure (y_move rfl) rfl ?_
    refine w_pure (y_sub rfl rfl) rfl ?_
    refine w_pure (y_assign rfl) rfl ?_
    refine w_nil ?_
    rotate_left
    refine c_exit ?_
    refine x_then_exit ?_
    refine x_then_exit ?_
    refine x_block_hit ?_
    refine x_next ?_
    refine c_seq ?_
    refine c_region ?_
    refine w_pure (y_load_boxs rfl) rfl ?_
    refine w_store_boxs rfl rfl (next := fun ws62 hbs62 hxs62 hss62 => ?_)
    (replace hb2 := hbs62; clear hbs62)
    have hz_hxs62 := hxs62.size
    replace EL := EL.next hxs62 (by omega)
    replace hsr := hsr.chg hxs62 (by omega)
    replace hb3 := hb3.chg hxs62 (by omega)
    replace g1 := g1.chg hxs62 (by omega)
    replace E := E.next hxs62 (by omega)
    refine w_nil ?_
    refine x_next ?_
    refine c_ret ?_
    rotate_left
  · exact x_again (k - 1, v21, ps ++ [_]) (by repeat (first | exact trivial | refine ⟨rfl, ?_⟩)) ⟨EL.go, hp1_16.more (by dsimp only; omega), by assumption, by assumption, by assumption, hok.push (by omega) (.inl rfl), by rw [List.length_append, List.length_singleton]; dsimp only; omega, by dsimp only; omega, by assumption⟩ (by dsimp only; omega)
  · exact x_again (k - 1, v27, ps ++ [_]) (by repeat (first | exact trivial | refine ⟨rfl, ?_⟩)) ⟨EL.go, hp1_16.more (by dsimp only; omega), by assumption, by assumption, by assumption, hok.push (by omega) (.inr rfl), by rw [List.length_append, List.length_singleton]; dsimp only; omega, by dsimp only; omega, by assumption⟩ (by dsimp only; omega)
  · exact x_retv [_] rfl ⟨⟨_, rfl, run_load_str (Box.at (by assumption)) (by rfl)⟩, trivial⟩ ⟨u, q7, ps, rfl, Own.base (by assumption) (by omega), hok, (by assumption : Src _ lo hi b _).more (by omega), E.go⟩
theorem A2Cards_c (h : SL w lo hi v p := by repeat (first | assumption | exact Go.Gw.Own.sl (by assumption) | exact Go.Gw.Box.at (by assumption) | exact Go.Gw.SLL.el (by first | assumption | exact Go.Gw.OwnD.sll (by assumption)) _ (by omega) | exact Go.Gw.SLL.at (by first | assumption | exact Go.Gw.OwnD.sll (by assumption)) (by omega) | exact Go.Gw.OwnD.sll (by assumption) | (apply Go.Gw.SL.chg; case hx => assumption) | (apply Go.Gw.Own.chg; case hx => assumption) | (apply Go.Gw.Box.chg; case hx => assumption) | (apply Go.Gw.At.chg; case hx => assumption) | exact .inl (Nat.zero_le _) | exact .inr (Nat.zero_le _) | (show _ ∨ _; omega))) : Ret Tryz.prog 7 [v] w fun u w' => ∃ sus xss, OwnD w' 43 w.heap.size w'.heap.size sus u xss ∧ GdD xss ∧ Ext w w' := by
  have E : Since 0 0 w w := Since.refl 0 0 w
  have htop := h.top
  refine ret_enter Tryz.func7 rfl Tryz.ntmps7 rfl ?_
  focus
    have ht_h := h.top
    refine c_seq ?_
    refine c_region ?_
    refine w_pure (y_assign rfl) rfl ?_
    refine w_nil ?_
    refine x_next ?_
    refine c_seq ?_
    refine c_region ?_
    refine w_pure (y_move rfl) rfl ?_
    (refine w_call rfl rfl rfl (srcFrom_c) rfl ?_; rintro _ w4 ⟨c4, ⟨rfl, ⟨hp1_4, ⟨hp2_4, hx4⟩⟩⟩⟩)
    have hz_hx4 := hx4.size
    replace h := h.ext hx4
    replace E := E.trans hx4
    (refine w_call rfl rfl rfl (l13Deck_c _) rfl ?_; rintro v5 w5 ⟨sus5, ⟨xss5, ⟨hp1_5, ⟨hp2_5, ⟨hp3_5, hx5⟩⟩⟩⟩⟩)
    have hl_hp1_5 := hp1_5.lt
    have hz_hx5 := hx5.size
    replace h := h.chg hx5 (by omega)
    replace E := E.next hx5 (by omega)
    refine w_pure (y_assign rfl) rfl ?_
    refine w_nil ?_
    refine x_next ?_
    refine c_ret ?_
    rotate_left
  exact x_retv [_] rfl ⟨rfl, trivial⟩ ⟨sus5, xss5, OwnD.wide (OwnD.low hp1_5 (by omega)) (by omega) (Nat.le_refl _), hp2_5, E.go⟩
theorem A2Setup_c (h : SL w lo hi v p := by repeat (first | assumption | exact Go.Gw.Own.sl (by assumption) | exact Go.Gw.Box.at (by assumption) | exact Go.Gw.SLL.el (by first | assumption | exact Go.Gw.OwnD.sll (by assumption)) _ (by omega) | exact Go.Gw.SLL.at (by first | assumption | exact Go.Gw.OwnD.sll (by assumption)) (by omega) | exact Go.Gw.OwnD.sll (by assumption) | (apply Go.Gw.SL.chg; case hx => assumption) | (apply Go.Gw.Own.chg; case hx => assumption) | (apply Go.Gw.Box.chg; case hx => assumption) | (apply Go.Gw.At.chg; case hx => assumption) | exact .inl (Nat.zero_le _) | exact .inr (Nat.zero_le _) | (show _ ∨ _; omega))) : Ret Tryz.prog 8 [v] w fun u w' => ∃ d, ∃ q : Bool, ∃ ps, u = .agg #[.int .i64 0, .int .i64 1, d, .bool q] ∧ Own w' 27 w.heap.size d ps ∧ GdS ps ∧ Ext w w' := by
  have E : Since 0 0 w w := Since.refl 0 0 w
  have htop := h.top
  refine ret_enter Tryz.func8 rfl Tryz.ntmps8 rfl ?_
  focus
    have ht_h := h.top
    refine c_seq ?_
    refine c_region ?_
    refine w_alloc (k := fun b2 w2 hb2 hx2 hl2 hs2 => ?_)
    have hz_hx2 := hx2.size
    replace h := h.ext hx2
    replace E := E.trans hx2
    refine w_nil ?_
    refine x_next ?_
    refine c_seq ?_
    refine c_region ?_
    refine w_pure (y_move rfl) rfl ?_
    (refine w_call rfl rfl rfl (srcFrom_c) rfl ?_; rintro _ w4 ⟨c4, ⟨rfl, ⟨hp1_4, ⟨hp2_4, hx4⟩⟩⟩⟩)
    have hz_hx4 := hx4.size
    replace hb2 := hb2.ext hx4
    replace h := h.ext hx4
    replace E := E.trans hx4
    (refine w_call rfl rfl rfl (l13Setup_c) rfl ?_; rintro _ w5 ⟨d5, ⟨q5, ⟨ps5, ⟨rfl, ⟨hp1_5, ⟨hp2_5, ⟨hp3_5, hx5⟩⟩⟩⟩⟩⟩⟩)
    have hl_hp1_5 := hp1_5.lt
    have hz_hx5 := hx5.size
    replace hb2 := hb2.chg hx5 (by omega)
    replace h := h.chg hx5 (by omega)
    replace E := E.next hx5 (by omega)
    refine w_store_boxs rfl rfl (next := fun ws11 hbs11 hxs11 hss11 => ?_)
    (replace hb2 := hbs11; clear hbs11)
    have hz_hxs11 := hxs11.size
    replace hp1_5 := hp1_5.chg hxs11 (by omega)
    replace hp3_5 := hp3_5.chg hxs11 (by omega)
    replace h := h.chg hxs11 (by omega)
    replace E := E.next hxs11 (by omega)
    refine w_nil ?_
    refine x_next ?_
    refine c_ret ?_
    rotate_left
  exact x_retv [_] rfl ⟨⟨_, rfl, run_load_str (Box.at (by assumption)) (by rfl)⟩, trivial⟩ ⟨d5, q5, ps5, rfl, Own.base (by assumption) (by omega), hp2_5, E.go⟩
end
end Go.Proofs.YtihnhelkfiaimaaGreatDoor

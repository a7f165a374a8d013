/- Contracts: cards, decks and setups that the laws draw. -/
import Derived.Test.YtihnhelkfiaimaaGreatDoorTabD
import Derived.Test.YtihnhelkfiaimaaGreatDoorPutA
import Derived.Test.YtihnhelkfiaimaaGreatDoorSrcA
namespace Go.Proofs.YtihnhelkfiaimaaGreatDoor
open Go Go.Gw
set_option linter.unusedVariables false
set_option linter.unusedSimpArgs false
def codL (p : List UInt8) : List Int := p.map fun c => codS (c.toNat : Int)
theorem codL_len (p : List UInt8) : (codL p).length = p.length := by simp [codL]
theorem codL_get {p : List UInt8} {i : Nat} (h : i < p.length) : (codL p)[i]? = some (codS ((p.getD i 0).toNat : Int)) := by simp [codL, List.getD_eq_getElem?_getD, h]
section
variable {w : World} {lo hi b : Nat} {B : Int}
theorem l03Card_c (p : List UInt8) (hl : p.length ≤ 20 := by first | omega | (simp only [List.length_append, List.length_cons, List.length_nil]; omega)) : Ret Tryz.prog 146 [str p] w fun u w' => ∃ d, u = .agg #[d] ∧ Own w' 2 w.heap.size d (codL p) ∧ Ext w w' := by
  have hcl := codL_len p
  have E : Since 0 0 w w := Since.refl 0 0 w
  refine ret_enter Tryz.func146 rfl Tryz.ntmps146 rfl ?_
  focus
    refine c_seq ?_
    refine c_region ?_
    refine w_alloc (k := fun b2 w2 hb2 hx2 hl2 hs2 => ?_)
    have hz_hx2 := hx2.size
    replace E := E.trans hx2
    refine w_nil ?_
    refine x_next ?_
    refine c_seq ?_
    refine c_region ?_
    refine w_pure (y_build rfl) rfl ?_
    refine w_alloc (k := fun b3 w3 hb3 hx3 hl3 hs3 => ?_)
    have hz_hx3 := hx3.size
    replace hb2 := hb2.ext hx3
    replace E := E.trans hx3
    refine w_store_boxs rfl rfl (next := fun ws10 hbs10 hxs10 hss10 => ?_)
    (replace hb3 := hbs10; clear hbs10)
    have hz_hxs10 := hxs10.size
    replace hb2 := hb2.chg hxs10 (by omega)
    replace E := E.next hxs10 (by omega)
    refine w_nil ?_
    refine x_next ?_
    refine c_seq ?_
    refine c_seq ?_
    refine c_region ?_
    refine w_pure (y_assign rfl) rfl ?_
    refine w_nil ?_
    refine x_next ?_
    refine c_block ?_
    rotate_left
  refine c_loopC b3 (b3 + 1) (ι := Int × Value) (fun x => [(0, str p), (2, ptr b2 0), (3, ptr b3 0), (4, .int .i64 x.1)])
    (fun x w' => Box w' b3 [x.2] ∧ Own w' 2 w3.heap.size x.2 ((codL p).take x.1.toNat) ∧ 0 ≤ x.1 ∧ x.1 ≤ p.length) (fun x => (p.length - x.1).toNat) (0, .slice none 0 0)
    (by repeat (first | exact trivial | refine ⟨rfl, ?_⟩)) ⟨by assumption, by show Own _ _ _ _ (List.take 0 _); rw [List.take_zero]; exact Own.nil _ _ _, by dsimp only; omega, by dsimp only; omega⟩ ?_
  clear hb3
  rintro ⟨i, u⟩ wL hxL EL ⟨hb3, g1, hi0, hi1⟩
  dsimp only at *
  have e1 : (i + 1).toNat = i.toNat + 1 := by omega
  have htl : ((codL p).take i.toNat).length = i.toNat := by rw [List.length_take]; omega
  have hby := (p.getD i.toNat 0).toNat_lt
  by_cases hli : i < p.length
  · focus
      have hl_g1 := g1.lt
      have hz_hxL := hxL.size
      replace hb2 := hb2.chg hxL (by omega)
      replace E := E.next hxL (by omega)
      refine c_seq ?_
      refine c_seq ?_
      refine c_region ?_
      refine w_pure (y_move rfl) rfl ?_
      refine w_pure (y_move rfl) rfl ?_
      refine w_pure (y_slen rfl) rfl ?_
      refine w_pure (y_lt rfl rfl) rfl ?_
      refine w_nil ?_
      refine x_next ?_
      (refine c_dec rfl (fun hc9 => ?_) (fun hc9 => ?_) <;> try (first | exact absurd rfl hc9 | contradiction | exact Bool.noConfusion (show false = true from hc9.symm.trans (by assumption)) | exact Bool.noConfusion (show true = false from hc9.symm.trans (by assumption)) | (exfalso; omega) | (exfalso; simp only [*, Bool.not_true, Bool.not_false, reduceCtorEq] at hc9; done)))
      refine c_skip ?_
      refine x_next ?_
      refine c_seq ?_
      refine c_block ?_
      refine c_region_held mixed (fun wr5 hxr5 hzr5 => ?_)
      have hz_hxr5 := hxr5.size
      replace EL := EL.next hxr5 (by omega)
      replace hb3 := hb3.ext hxr5
      replace g1 := g1.ext hxr5
      replace hb2 := hb2.ext hxr5
      replace E := E.trans hxr5
      refine h_pure rfl (y_field rfl) rfl ?_
      refine h_pure rfl (y_load_box rfl) rfl ?_
      refine h_pure rfl (y_move rfl) rfl ?_
      refine h_pure rfl (y_move rfl) rfl ?_
      refine h_pure rfl (y_at_str rfl rfl) rfl ?_
      refine h_one rfl ?_
      refine w_pur rfl rfl rfl (l03Code_c _) rfl ?_
      refine w_nil ?_
      refine x_held ?_
      refine h_one rfl ?_
      refine w_lit (α := Int) rfl rfl rfl rfl rfl rfl rfl rfl (fun v18 w18 ho18 hx18 hl18 hh18 hs18 => ?_)
      have hl_ho18 := ho18.lt
      have hz_hx18 := hx18.size
      replace EL := EL.next hx18 (by omega)
      replace hb3 := hb3.ext hx18
      replace g1 := g1.ext hx18
      replace hb2 := hb2.ext hx18
      replace E := E.trans hx18
      refine w_nil ?_
      refine x_held ?_
      refine h_one rfl ?_
      refine w_append rfl rfl (k := fun v19 w19 ho19 hx19 hr19 => ?_)
      have hl_ho19 := ho19.lt
      have hz_hx19 := hx19.size
      replace ho18 := ho18.chg hx19 (by omega)
      replace EL := EL.next hx19 (by omega)
      replace hb3 := hb3.chg hx19 (by omega)
      replace hb2 := hb2.chg hx19 (by omega)
      replace E := E.next hx19 (by omega)
      refine w_nil ?_
      refine x_heldk ?_
      refine h_pure rfl (y_field rfl) rfl ?_
      refine h_one rfl ?_
      refine w_store_box rfl rfl (next := fun ws35 hbs35 hxs35 hss35 => ?_)
      (replace hb3 := hbs35; clear hbs35)
      have hz_hxs35 := hxs35.size
      replace ho19 := ho19.chg hxs35 (by omega)
      replace ho18 := ho18.chg hxs35 (by omega)
      replace EL := EL.trans hxs35
      replace hb2 := hb2.chg hxs35 (by omega)
      replace E := E.next hxs35 (by omega)
      refine w_nil ?_
      refine x_heldk ?_
      refine h_nil ?_
      refine x_block_norm ?_
      refine x_next ?_
      refine c_region ?_
      refine w_pure (y_move rfl) rfl ?_
      refine w_pure (y_add rfl rfl) rfl ?_
      refine w_pure (y_assign rfl) rfl ?_
      refine w_nil ?_
      rotate_left
    refine x_again (i + 1, v19) (by repeat (first | exact trivial | refine ⟨rfl, ?_⟩)) ⟨EL.go, by assumption, ?_, by dsimp only; omega, by dsimp only; omega⟩ (by dsimp only; omega)
    dsimp only
    rw [e1, List.take_add_one, codL_get (by omega)]
    exact Own.base (by assumption) (by omega)
  · focus
      have hl_g1 := g1.lt
      have hz_hxL := hxL.size
      replace hb2 := hb2.chg hxL (by omega)
      replace E := E.next hxL (by omega)
      refine c_seq ?_
      refine c_seq ?_
      refine c_region ?_
      refine w_pure (y_move rfl) rfl ?_
      refine w_pure (y_move rfl) rfl ?_
      refine w_pure (y_slen rfl) rfl ?_
      refine w_pure (y_lt rfl rfl) rfl ?_
      refine w_nil ?_
      refine x_next ?_
      (refine c_dec rfl (fun hc9 => ?_) (fun hc9 => ?_) <;> try (first | exact absurd rfl hc9 | contradiction | exact Bool.noConfusion (show false = true from hc9.symm.trans (by assumption)) | exact Bool.noConfusion (show true = false from hc9.symm.trans (by assumption)) | (exfalso; omega) | (exfalso; simp only [*, Bool.not_true, Bool.not_false, reduceCtorEq] at hc9; done)))
      refine c_exit ?_
      refine x_then_exit ?_
      refine x_then_exit ?_
      refine x_block_hit ?_
      refine x_next ?_
      refine c_seq ?_
      refine c_region ?_
      refine w_pure (y_load_boxs rfl) rfl ?_
      refine w_store_boxs rfl rfl (next := fun ws19 hbs19 hxs19 hss19 => ?_)
      (replace hb2 := hbs19; clear hbs19)
      have hz_hxs19 := hxs19.size
      replace hb3 := hb3.chg hxs19 (by omega)
      replace g1 := g1.chg hxs19 (by omega)
      replace E := E.next hxs19 (by omega)
      refine w_nil ?_
      refine x_next ?_
      refine c_ret ?_
      rotate_left
    rw [List.take_of_length_le (by omega)] at g1
    exact x_retv [_] rfl ⟨⟨_, rfl, run_load_str (Box.at (by assumption)) (by rfl)⟩, trivial⟩ ⟨u, rfl, Own.base (by assumption) (by omega), E.go⟩
/-- the columns of a letter and four noughts -/
def chC (x : Int) : List Int := codL (List.drop (Int.toNat 0) (List.take (Int.toNat 1) (List.drop x.toNat (List.take ((([65, 66, 49] : List UInt8).length : Int)).toNat [65, 66, 49]))) ++ [48, 48, 48, 48])
theorem chC_len {x : Int} (h : 0 ≤ x ∧ x < 3) : (chC x).length = 5 := by
  unfold chC
  simp only [codL_len, List.length_append, List.length_cons, List.length_nil, List.length_take, List.length_drop]; omega
/-- a card's columns with the first k of two numbers' columns put in -/
def crdK (c pa pb : List Int) : Nat → List Int
  | 0 => c
  | k + 1 => ((crdK c pa pb k).set (k + 1) (pa.getD k 0)).set (k + 3) (pb.getD k 0)
theorem crdK_len (c pa pb : List Int) : ∀ k, (crdK c pa pb k).length = c.length
  | 0 => rfl
  | k + 1 => by rw [crdK, List.length_set, List.length_set, crdK_len c pa pb k]
def putZ (n k : Int) : List Int := if n < 0 then punN n k else pun n k.toNat
theorem putZ_len {n k : Int} (h : 1 ≤ k) : ((putZ n k).length : Int) = k := by
  unfold putZ punN; split
  · rw [List.length_set, pun_len]; omega
  · rw [pun_len]; omega
theorem l03Put_e (n k : Int) (hn : -1000000000000 ≤ n ∧ n ≤ 1000000000000 := by omega) (hk : 1 ≤ k ∧ k ≤ 1000 := by omega) : Ret Tryz.prog 123 [.int .i64 n, .int .i64 k] w fun u w' => ∃ d q, u = .tuple #[d, .bool q] ∧ Own w' 2 w.heap.size d (putZ n k) ∧ Ext w w' := by
  by_cases h : n < 0
  · refine (l03Put_n n k (by omega) hk).mono ?_
    rintro u w' ⟨d, h1, h2, h3⟩
    exact ⟨d, _, h1, by rw [putZ, if_pos h]; exact h2, h3⟩
  · refine (l03Put_c n k (by omega) hk).mono ?_
    rintro u w' ⟨d, h1, h2, h3⟩
    exact ⟨d, _, h1, by rw [putZ, if_neg h]; exact h2, h3⟩
theorem l13Card_c (h : Src w lo hi b B := by assumption) (hB : B ≤ 10000000000 := by omega) : Ret Tryz.prog 126 [ptr b 0] w fun u w' => ∃ d, ∃ x y z : Int, u = .agg #[d] ∧ Own w' 2 w.heap.size d (crdK (chC x) (putZ y 2) (putZ (z - 30) 2) 2) ∧ (0 ≤ x ∧ x < 3) ∧ (0 ≤ y ∧ y < 100) ∧ (0 ≤ z ∧ z < 130) ∧ Src w' lo hi b (B + 6) ∧ Chg b (b + 1) w w' := by
  have htop := h.top
  have hlim := h.lim
  have E : Since b (b + 1) w w := Since.refl _ _ _
  refine ret_enter Tryz.func126 rfl Tryz.ntmps126 rfl ?_
  focus
    have ht_h := h.top
    refine c_seq ?_
    refine c_region ?_
    refine w_alloc (k := fun b2 w2 hb2 hx2 hl2 hs2 => ?_)
    have hz_hx2 := hx2.size
    replace h := h.ext hx2
    replace E := E.next hx2 (by omega)
    refine w_nil ?_
    refine x_next ?_
    refine c_seq ?_
    refine c_region ?_
    refine w_pure (y_move rfl) rfl ?_
    (refine w_call rfl rfl rfl (srcPick_z _) rfl ?_; rintro _ w10 ⟨x10, ⟨rfl, ⟨⟨hp1_10, hp2_10⟩, ⟨hp3_10, hx10⟩⟩⟩⟩)
    have hz_hx10 := hx10.size
    replace hb2 := hb2.chg hx10 (by omega)
    replace E := E.trans hx10
    refine w_pure (y_part_str rfl (.inr ⟨_, _, rfl, rfl⟩) (.inl ⟨rfl, rfl⟩) (by simp only [List.length_cons, List.length_nil, List.length_drop, List.length_take, List.length_append]; omega)) rfl ?_
    refine w_pure (y_part_str rfl (.inl ⟨rfl, rfl⟩) (.inr ⟨_, _, rfl, rfl⟩) (by simp only [List.length_cons, List.length_nil, List.length_drop, List.length_take, List.length_append]; omega)) rfl ?_
    refine w_pure (y_scat rfl rfl (by simp only [List.length_cons, List.length_nil, List.length_drop, List.length_take, List.length_append]; omega)) rfl ?_
    (refine w_call rfl rfl rfl (l03Card_c _ (by simp only [List.length_cons, List.length_nil, List.length_drop, List.length_take, List.length_append]; omega)) rfl ?_; rintro _ w14 ⟨d14, ⟨rfl, ⟨hp1_14, hx14⟩⟩⟩)
    have hl_hp1_14 := hp1_14.lt
    have hz_hx14 := hx14.size
    replace hp3_10 := hp3_10.ext hx14
    replace hb2 := hb2.ext hx14
    replace E := E.next hx14 (by omega)
    refine w_alloc (k := fun b3 w3 hb3 hx3 hl3 hs3 => ?_)
    have hz_hx3 := hx3.size
    replace hp1_14 := hp1_14.ext hx3
    replace hp3_10 := hp3_10.ext hx3
    replace hb2 := hb2.ext hx3
    replace E := E.next hx3 (by omega)
    refine w_store_boxs rfl rfl (next := fun ws15 hbs15 hxs15 hss15 => ?_)
    (replace hb3 := hbs15; clear hbs15)
    have hz_hxs15 := hxs15.size
    replace hp1_14 := hp1_14.chg hxs15 (by omega)
    replace hp3_10 := hp3_10.chg hxs15 (by omega)
    replace hb2 := hb2.chg hxs15 (by omega)
    replace E := E.next hxs15 (by omega)
    refine w_nil ?_
    refine x_next ?_
    refine c_seq ?_
    refine c_region ?_
    refine w_pure (y_move rfl) rfl ?_
    (refine w_call rfl rfl rfl (srcPick_z _) rfl ?_; rintro _ w17 ⟨x17, ⟨rfl, ⟨⟨hp1_17, hp2_17⟩, ⟨hp3_17, hx17⟩⟩⟩⟩)
    have hz_hx17 := hx17.size
    replace hb3 := hb3.chg hx17 (by omega)
    replace hp1_14 := hp1_14.chg hx17 (by omega)
    replace hb2 := hb2.chg hx17 (by omega)
    replace E := E.trans hx17
    (refine w_call rfl rfl rfl (l03Put_e _ _) rfl ?_; rintro _ w18 ⟨d18, ⟨q18, ⟨rfl, ⟨hp1_18, hx18⟩⟩⟩⟩)
    have hl_hp1_18 := hp1_18.lt
    have hz_hx18 := hx18.size
    replace hp3_17 := hp3_17.ext hx18
    replace hb3 := hb3.ext hx18
    replace hp1_14 := hp1_14.ext hx18
    replace hb2 := hb2.ext hx18
    replace E := E.next hx18 (by omega)
    refine w_pure (y_move rfl) rfl ?_
    refine w_pure (y_extract rfl rfl) rfl ?_
    refine w_pure (y_extract rfl rfl) rfl ?_
    refine w_pure (y_assign rfl) rfl ?_
    refine w_pure (y_assign rfl) rfl ?_
    refine w_nil ?_
    refine x_next ?_
    refine c_seq ?_
    refine c_region ?_
    refine w_pure (y_move rfl) rfl ?_
    (refine w_call rfl rfl rfl (srcPick_z _) rfl ?_; rintro _ w23 ⟨x23, ⟨rfl, ⟨⟨hp1_23, hp2_23⟩, ⟨hp3_23, hx23⟩⟩⟩⟩)
    have hz_hx23 := hx23.size
    replace hp1_18 := hp1_18.chg hx23 (by omega)
    replace hb3 := hb3.chg hx23 (by omega)
    replace hp1_14 := hp1_14.chg hx23 (by omega)
    replace hb2 := hb2.chg hx23 (by omega)
    replace E := E.trans hx23
    refine w_pure (y_sub rfl rfl) rfl ?_
    (refine w_call rfl rfl rfl (l03Put_e _ _) rfl ?_; rintro _ w25 ⟨d25, ⟨q25, ⟨rfl, ⟨hp1_25, hx25⟩⟩⟩⟩)
    have hl_hp1_25 := hp1_25.lt
    have hz_hx25 := hx25.size
    replace hp3_23 := hp3_23.ext hx25
    replace hp1_18 := hp1_18.ext hx25
    replace hb3 := hb3.ext hx25
    replace hp1_14 := hp1_14.ext hx25
    replace hb2 := hb2.ext hx25
    replace E := E.next hx25 (by omega)
    refine w_pure (y_move rfl) rfl ?_
    refine w_pure (y_extract rfl rfl) rfl ?_
    refine w_pure (y_extract rfl rfl) rfl ?_
    refine w_pure (y_assign rfl) rfl ?_
    refine w_pure (y_assign rfl) rfl ?_
    refine w_nil ?_
    refine x_next ?_
    refine c_seq ?_
    refine c_seq ?_
    refine c_region ?_
    refine w_pure (y_assign rfl) rfl ?_
    refine w_nil ?_
    refine x_next ?_
    refine c_block ?_
    rotate_left
  have hcl := chC_len (x := x10) (by omega)
  replace hp1_14 : Own w25 2 w10.heap.size d14 (chC x10) := hp1_14
  have ha := putZ_len (n := x17) (k := 2) (by omega)
  have hbb := putZ_len (n := x23 - 30) (k := 2) (by omega)
  refine c_loopC (bL d14) (bH d14) (ι := Int) (fun x => [(2, ptr b2 0), (3, ptr b3 0), (4, d18), (6, d25), (8, .int .i64 x)])
    (fun x w' => Own w' 2 w10.heap.size d14 (crdK (chC x10) (putZ x17 2) (putZ (x23 - 30) 2) x.toNat) ∧ 0 ≤ x ∧ x ≤ 2) (fun x => (2 - x).toNat) 0
    (by repeat (first | exact trivial | refine ⟨rfl, ?_⟩)) ⟨hp1_14, by omega, by omega⟩ ?_
  clear hp1_14
  rintro k wL hxL EL ⟨g1, hk0, hk1⟩
  have hkl := crdK_len (chC x10) (putZ x17 2) (putZ (x23 - 30) 2) k.toNat
  have e1 : (k + 1).toNat = k.toNat + 1 := by omega
  by_cases hlk : k < 2
  · focus
      have ht_hp3_10 := hp3_10.top
      have ht_hp3_17 := hp3_17.top
      have ht_hp3_23 := hp3_23.top
      have hl_g1 := g1.lt
      have hz_hxL := hxL.size
      replace hp1_25 := hp1_25.chg hxL (by omega)
      replace hp3_23 := hp3_23.chg hxL (by omega)
      replace hp1_18 := hp1_18.chg hxL (by omega)
      replace hb3 := hb3.chg hxL (by omega)
      replace hb2 := hb2.chg hxL (by omega)
      replace E := E.next hxL (by omega)
      refine c_seq ?_
      refine c_seq ?_
      refine c_region ?_
      refine w_pure (y_move rfl) rfl ?_
      refine w_pure (y_lt rfl rfl) rfl ?_
      refine w_nil ?_
      refine x_next ?_
      (refine c_dec rfl (fun hc29 => ?_) (fun hc29 => ?_) <;> try (first | exact absurd rfl hc29 | contradiction | exact Bool.noConfusion (show false = true from hc29.symm.trans (by assumption)) | exact Bool.noConfusion (show true = false from hc29.symm.trans (by assumption)) | (exfalso; omega) | (exfalso; simp only [*, Bool.not_true, Bool.not_false, reduceCtorEq] at hc29; done)))
      refine c_skip ?_
      refine x_next ?_
      refine c_seq ?_
      refine c_block ?_
      refine c_seq ?_
      refine c_region_base mixed (fun wr7 hxr7 hzr7 EBr7 => ?_)
      have hz_hxr7 := hxr7.size
      replace EL := EL.next hxr7 (by omega)
      replace g1 := g1.ext hxr7
      replace hp1_25 := hp1_25.ext hxr7
      replace hp3_23 := hp3_23.ext hxr7
      replace hp1_18 := hp1_18.ext hxr7
      replace hb3 := hb3.ext hxr7
      replace hb2 := hb2.ext hxr7
      replace E := E.next hxr7 (by omega)
      refine b_pure rfl (y_field rfl) rfl ?_
      refine b_pure rfl (y_load_box rfl) rfl ?_
      refine b_pure rfl (y_move rfl) rfl ?_
      refine b_pure rfl (y_add rfl rfl) rfl ?_
      refine b_pure rfl (y_move rfl) rfl ?_
      refine b_pure rfl (y_move rfl) rfl ?_
      refine b_pure rfl (y_index rfl rfl) rfl ?_
      refine b_pure rfl (y_load_int rfl) rfl ?_
      refine b_pure rfl (y_index rfl rfl) rfl ?_
      refine b_one rfl ?_
      refine w_store_own rfl rfl (next := fun ws25 hos25 hxs25 hss25 => ?_)
      (replace g1 := hos25; clear hos25)
      have hz_hxs25 := hxs25.size
      replace EL := EL.trans hxs25
      replace hp1_25 := hp1_25.chg hxs25 (by omega)
      replace hp3_23 := hp3_23.chg hxs25 (by omega)
      replace hp1_18 := hp1_18.chg hxs25 (by omega)
      replace hb3 := hb3.chg hxs25 (by omega)
      replace hb2 := hb2.chg hxs25 (by omega)
      replace E := E.next hxs25 (by omega)
      refine w_nil ?_
      refine x_hbk ?_
      refine b_nil ?_
      refine x_next ?_
      refine c_region_base mixed (fun wr8 hxr8 hzr8 EBr8 => ?_)
      have hz_hxr8 := hxr8.size
      replace g1 := g1.ext hxr8
      replace EL := EL.next hxr8 (by omega)
      replace hp1_25 := hp1_25.ext hxr8
      replace hp3_23 := hp3_23.ext hxr8
      replace hp1_18 := hp1_18.ext hxr8
      replace hb3 := hb3.ext hxr8
      replace hb2 := hb2.ext hxr8
      replace E := E.next hxr8 (by omega)
      refine b_pure rfl (y_field rfl) rfl ?_
      refine b_pure rfl (y_load_box rfl) rfl ?_
      refine b_pure rfl (y_move rfl) rfl ?_
      refine b_pure rfl (y_add rfl rfl) rfl ?_
      refine b_pure rfl (y_move rfl) rfl ?_
      refine b_pure rfl (y_move rfl) rfl ?_
      refine b_pure rfl (y_index rfl rfl) rfl ?_
      refine b_pure rfl (y_load_int rfl) rfl ?_
      refine b_pure rfl (y_index rfl rfl) rfl ?_
      refine b_one rfl ?_
      refine w_store_own rfl rfl (next := fun ws41 hos41 hxs41 hss41 => ?_)
      (replace g1 := hos41; clear hos41)
      have hz_hxs41 := hxs41.size
      replace EL := EL.trans hxs41
      replace hp1_25 := hp1_25.chg hxs41 (by omega)
      replace hp3_23 := hp3_23.chg hxs41 (by omega)
      replace hp1_18 := hp1_18.chg hxs41 (by omega)
      replace hb3 := hb3.chg hxs41 (by omega)
      replace hb2 := hb2.chg hxs41 (by omega)
      replace E := E.next hxs41 (by omega)
      refine w_nil ?_
      refine x_hbk ?_
      refine b_nil ?_
      refine x_block_norm ?_
      refine x_next ?_
      refine c_region ?_
      refine w_pure (y_move rfl) rfl ?_
      refine w_pure (y_add rfl rfl) rfl ?_
      refine w_pure (y_assign rfl) rfl ?_
      refine w_nil ?_
      rotate_left
    refine x_again (k + 1) (by repeat (first | exact trivial | refine ⟨rfl, ?_⟩)) ⟨EL.go, ?_, by omega, by omega⟩ (by omega)
    rw [e1, crdK, show k.toNat + 1 = (1 + k).toNat by omega, show k.toNat + 3 = (3 + k).toNat by omega]
    assumption
  · focus
      have ht_hp3_10 := hp3_10.top
      have ht_hp3_17 := hp3_17.top
      have ht_hp3_23 := hp3_23.top
      have hl_g1 := g1.lt
      have hz_hxL := hxL.size
      replace hp1_25 := hp1_25.chg hxL (by omega)
      replace hp3_23 := hp3_23.chg hxL (by omega)
      replace hp1_18 := hp1_18.chg hxL (by omega)
      replace hb3 := hb3.chg hxL (by omega)
      replace hb2 := hb2.chg hxL (by omega)
      replace E := E.next hxL (by omega)
      refine c_seq ?_
      refine c_seq ?_
      refine c_region ?_
      refine w_pure (y_move rfl) rfl ?_
      refine w_pure (y_lt rfl rfl) rfl ?_
      refine w_nil ?_
      refine x_next ?_
      (refine c_dec rfl (fun hc29 => ?_) (fun hc29 => ?_) <;> try (first | exact absurd rfl hc29 | contradiction | exact Bool.noConfusion (show false = true from hc29.symm.trans (by assumption)) | exact Bool.noConfusion (show true = false from hc29.symm.trans (by assumption)) | (exfalso; omega) | (exfalso; simp only [*, Bool.not_true, Bool.not_false, reduceCtorEq] at hc29; done)))
      refine c_exit ?_
      refine x_then_exit ?_
      refine x_then_exit ?_
      refine x_block_hit ?_
      refine x_next ?_
      refine c_seq ?_
      refine c_region ?_
      refine w_pure (y_load_boxs rfl) rfl ?_
      refine w_store_boxs rfl rfl (next := fun ws17 hbs17 hxs17 hss17 => ?_)
      (replace hb2 := hbs17; clear hbs17)
      have hz_hxs17 := hxs17.size
      replace g1 := g1.chg hxs17 (by omega)
      replace hp1_25 := hp1_25.chg hxs17 (by omega)
      replace hp3_23 := hp3_23.chg hxs17 (by omega)
      replace hp1_18 := hp1_18.chg hxs17 (by omega)
      replace hb3 := hb3.chg hxs17 (by omega)
      replace E := E.next hxs17 (by omega)
      refine w_nil ?_
      refine x_next ?_
      refine c_ret ?_
      rotate_left
    rw [show k.toNat = 2 by omega] at g1
    exact x_retv [_] rfl ⟨⟨_, rfl, run_load_str (Box.at (by assumption)) (by rfl)⟩, trivial⟩ ⟨d14, x10, x17, x23, rfl, Own.base (by assumption) (by omega), by omega, by omega, by omega, hp3_23.more (by omega), E.go⟩
end
end Go.Proofs.YtihnhelkfiaimaaGreatDoor

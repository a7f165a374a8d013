/- Contracts: the number in a field. -/
import Derived.Test.YtihnhelkfiaimaaGreatDoorNmA
namespace Go.Proofs.YtihnhelkfiaimaaGreatDoor
open Go Go.Gw
set_option linter.unusedVariables false
set_option linter.unusedSimpArgs false
/-- the columns of a field -/
abbrev prt (xs : List Int) (f t : Int) : List Int := (xs.take t.toNat).drop f.toNat
theorem prt_len {xs : List Int} {f t : Int} (h : 0 ≤ f ∧ f < t ∧ t ≤ xs.length) : ((prt xs f t).length : Int) = t - f := by
  simp only [prt, List.length_drop, List.length_take]; omega
theorem prt_get {xs : List Int} {f t : Int} (h : 0 ≤ f ∧ f < t ∧ t ≤ xs.length) {i : Nat} (hi : i < (prt xs f t).length) : (prt xs f t).getD i 0 = xs.getD (f.toNat + i) 0 := by
  have := prt_len h
  rw [List.getD_eq_getElem?_getD, List.getElem?_drop, List.getElem?_take_of_lt (by omega), List.getD_eq_getElem?_getD]
theorem prt_ok {xs : List Int} {f t : Int} (h : 0 ≤ f ∧ f < t ∧ t ≤ xs.length) (hk : okK xs = true) : ∀ i, i < (prt xs f t).length → 0 ≤ (prt xs f t).getD i 0 ∧ (prt xs f t).getD i 0 ≤ 4095 := fun i hi => by
  have := prt_len h
  rw [prt_get h hi]; exact okK_getD hk _ (by omega)
theorem numR_no {L n : Int} {b : Bool} (h : b = false ∨ L - andI L 2 = 0 ∨ (¬ andI L 2 = 0 ∧ n = 0)) : numR (some (n, b)) L = (0, false) := by
  simp only [numR, if_pos h]
theorem numR_neg {L n : Int} {b : Bool} (h : b = true) (h1 : ¬ L - andI L 2 = 0) (h2 : ¬ andI L 2 = 0) (h3 : ¬ n = 0) : numR (some (n, b)) L = (-n, true) := by
  subst h
  simp only [numR]
  rw [if_neg, if_pos h2]
  rintro (h | h | h)
  · cases h
  · exact h1 h
  · exact h3 h.2
theorem numR_pos {L n : Int} {b : Bool} (h : b = true) (h1 : ¬ L - andI L 2 = 0) (h2 : andI L 2 = 0) : numR (some (n, b)) L = (n, true) := by
  subst h
  simp only [numR]
  rw [if_neg, if_neg (fun h => h h2)]
  rintro (h | h | h)
  · cases h
  · exact h1 h
  · exact h.1 h2
theorem numE_1 {L n : Int} {b : Bool} (h : andI L 2 = 0) (h0 : L = 0) (hb : b = false) : numE L n b = numZ n false := by rw [numE, if_pos h, if_pos ⟨h0, hb⟩]; rfl
theorem numE_2 {L n : Int} {b : Bool} (h : andI L 2 = 0) (h0 : ¬ (L = 0 ∧ b = false)) (h1 : digFrom L 0 < 0) : numE L n b = (0, false) := by rw [numE, if_pos h, if_neg h0, if_pos h1]
theorem numE_3 {L n : Int} {b : Bool} (h : andI L 2 = 0) (h0 : ¬ (L = 0 ∧ b = false)) (h1 : ¬ digFrom L 0 < 0) : numE L n b = numZ (10 * n + digFrom L 0) false := by rw [numE, if_pos h, if_neg h0, if_neg h1]; rfl
theorem numE_4 {L n : Int} {b : Bool} (h : ¬ andI L 2 = 0) (h1 : digFrom (L - 2) 0 < 0) : numE L n b = (0, false) := by rw [numE, if_neg h, if_pos h1]
theorem numE_5 {L n : Int} {b : Bool} (h : ¬ andI L 2 = 0) (h1 : ¬ digFrom (L - 2) 0 < 0) : numE L n b = numZ (10 * n + digFrom (L - 2) 0) true := by
  rw [numE, if_neg h, if_neg h1, numZ, if_pos rfl]
  by_cases h0 : 10 * n + digFrom (L - 2) 0 = 0
  · rw [if_pos h0, h0]; rfl
  · rw [if_neg h0, decide_eq_true h0]
section
variable {w : World} {lo hi : Nat} {v : Value} {xs : List Int} {b o : Nat}
theorem bitOfM_c : Pur Tryz.prog 111 [.int .i64 11] (.int .i64 2) := bitOf_c 11
theorem numberIn1_c (x : Int) : Pur Tryz.prog 165 [.int .i64 x] (.bool (decide (¬ x = 0))) := by
  refine ⟨fun w => ?_⟩
  refine ret_enter Tryz.func165 rfl Tryz.ntmps165 rfl ?_
  focus
    refine c_seq ?_
    refine c_region ?_
    refine w_pure (y_assign rfl) rfl ?_
    refine w_nil ?_
    refine x_next ?_
    refine c_seq ?_
    refine c_region ?_
    refine w_pure (y_move rfl) rfl ?_
    refine w_pure (y_ne rfl rfl) rfl ?_
    refine w_pure (y_assign rfl) rfl ?_
    refine w_nil ?_
    refine x_next ?_
    refine c_ret ?_
    rotate_left
  exact x_retv [_] rfl ⟨rfl, trivial⟩ ⟨rfl, rfl⟩
theorem numberIn_c (f t : Int) (h : SL w lo hi v xs := by repeat (first | assumption | exact Go.Gw.Own.sl (by assumption) | exact Go.Gw.Box.at (by assumption) | exact Go.Gw.SLL.el (by first | assumption | exact Go.Gw.OwnD.sll (by assumption)) _ (by omega) | exact Go.Gw.SLL.at (by first | assumption | exact Go.Gw.OwnD.sll (by assumption)) (by omega) | exact Go.Gw.OwnD.sll (by assumption) | (apply Go.Gw.SL.chg; case hx => assumption) | (apply Go.Gw.Own.chg; case hx => assumption) | (apply Go.Gw.Box.chg; case hx => assumption) | (apply Go.Gw.At.chg; case hx => assumption) | exact .inl (Nat.zero_le _) | exact .inr (Nat.zero_le _) | (show _ ∨ _; omega))) (hf : (0 ≤ f ∧ f < t ∧ t ≤ xs.length) ∧ t - f ≤ 12 := by omega) (hk : okK xs = true := by assumption) : Val Tryz.prog 125 [.agg #[v], .agg #[.int .i64 f, .int .i64 t]] w (.tuple #[.int .i64 (numL (prt xs f t)).1, .bool (numL (prt xs f t)).2]) := by
  refine ⟨fun w1 hx1 => ?_⟩
  replace h := h.ext hx1
  have hlen := prt_len hf.1
  have hrg := prt_ok hf.1 hk
  obtain ⟨ys, hys⟩ : ∃ ys, ys = prt xs f t := ⟨_, rfl⟩
  rw [← hys] at hlen hrg ⊢
  have hys2 : (xs.take t.toNat).drop f.toNat = ys := hys.symm
  clear hys
  have hrgl := hrg ((ys.length : Int) - 1).toNat (by omega)
  have hand := and2 (ys.getD ((ys.length : Int) - 1).toNat 0)
  have E : Since 0 0 w1 w1 := Since.refl 0 0 w1
  refine ret_enter Tryz.func125 rfl Tryz.ntmps125 rfl ?_
  focus
    have ht_h := h.top
    refine c_seq ?_
    refine c_region ?_
    refine w_box rfl (k := fun b2 w2 hb2 hx2 hl2 hs2 => ?_)
    have hz_hx2 := hx2.size
    replace h := h.ext hx2
    replace E := E.trans hx2
    refine w_box rfl (k := fun b3 w3 hb3 hx3 hl3 hs3 => ?_)
    have hz_hx3 := hx3.size
    replace hb2 := hb2.ext hx3
    replace h := h.ext hx3
    replace E := E.trans hx3
    refine w_pure (y_assign rfl) rfl ?_
    refine w_pure (y_assign rfl) rfl ?_
    refine w_nil ?_
    refine x_next ?_
    refine c_seq ?_
    refine c_region ?_
    refine w_pure (y_field rfl) rfl ?_
    refine w_pure (y_load_box rfl) rfl ?_
    refine w_pure (y_field rfl) rfl ?_
    refine w_pure (y_load_box rfl) rfl ?_
    refine w_pure (y_field rfl) rfl ?_
    refine w_pure (y_load_box rfl) rfl ?_
    (refine w_slice rfl (.inr ⟨_, _, rfl, rfl⟩) (.inr ⟨_, _, rfl, rfl⟩) rfl ?_; intro u20 hu20; rw [hys2] at hu20)
    (refine w_call rfl rfl rfl (copyInts_c _) rfl ?_; rintro v21 w21 ⟨hp1_21, hx21⟩)
    have hl_hp1_21 := hp1_21.lt
    have hz_hx21 := hx21.size
    replace hb3 := hb3.ext hx21
    replace hb2 := hb2.ext hx21
    replace h := h.ext hx21
    replace E := E.trans hx21
    replace hu20 := hu20.ext hx21
    refine w_pure (y_assign rfl) rfl ?_
    refine w_nil ?_
    refine x_next ?_
    refine c_seq ?_
    refine c_seq ?_
    refine c_region ?_
    refine w_pure (y_move rfl) rfl ?_
    refine w_val rfl rfl rfl (ContainsFunc_int (first := []) (cap := []) (p := fun x => decide (¬ x = 0)) (h := (by repeat (first | assumption | exact Go.Gw.Own.sl (by assumption) | exact Go.Gw.Box.at (by assumption) | exact Go.Gw.SLL.el (by first | assumption | exact Go.Gw.OwnD.sll (by assumption)) _ (by omega) | exact Go.Gw.SLL.at (by first | assumption | exact Go.Gw.OwnD.sll (by assumption)) (by omega) | exact Go.Gw.OwnD.sll (by assumption) | (apply Go.Gw.SL.chg; case hx => assumption) | (apply Go.Gw.Own.chg; case hx => assumption) | (apply Go.Gw.Box.chg; case hx => assumption) | (apply Go.Gw.At.chg; case hx => assumption) | exact .inl (Nat.zero_le _) | exact .inr (Nat.zero_le _) | (show _ ∨ _; omega)))) (hp := fun x _ => (numberIn1_c x).val)) rfl (fun w23 hx23 hz23 => ?_)
    have hz_hx23 := hx23.size
    replace hp1_21 := hp1_21.ext hx23
    replace hb3 := hb3.ext hx23
    replace hb2 := hb2.ext hx23
    replace h := h.ext hx23
    replace E := E.trans hx23
    replace hu20 := hu20.ext hx23
    refine w_pure (y_not rfl) rfl ?_
    refine w_nil ?_
    refine x_next ?_
    (refine c_not rfl (fun hc24 => ?_) (fun hc24 => ?_) <;> try (first | exact absurd rfl hc24 | contradiction | exact Bool.noConfusion (show false = true from hc24.symm.trans (by assumption)) | exact Bool.noConfusion (show true = false from hc24.symm.trans (by assumption)) | (exfalso; omega) | (exfalso; simp only [*, Bool.not_true, Bool.not_false, reduceCtorEq] at hc24; done)))
    refine c_seq ?_
    refine c_region ?_
    refine w_pure (y_assign rfl) rfl ?_
    refine w_pure (y_assign rfl) rfl ?_
    refine w_nil ?_
    refine x_next ?_
    refine c_ret ?_
    refine x_then_ret ?_
    rotate_left
    refine c_skip ?_
    refine x_next ?_
    refine c_seq ?_
    refine c_region ?_
    refine w_pure (y_move rfl) rfl ?_
    refine w_pure (y_len rfl) rfl ?_
    refine w_pure (y_sub rfl rfl) rfl ?_
    refine w_pure (y_assign rfl) rfl ?_
    refine w_nil ?_
    refine x_next ?_
    refine c_seq ?_
    refine c_region_base mixed (fun wr5 hxr5 hzr5 EBr5 => ?_)
    have hz_hxr5 := hxr5.size
    replace hp1_21 := hp1_21.ext hxr5
    replace hb3 := hb3.ext hxr5
    replace hb2 := hb2.ext hxr5
    replace h := h.ext hxr5
    replace E := E.trans hxr5
    replace hu20 := hu20.ext hxr5
    refine b_pure rfl (y_move rfl) rfl ?_
    refine b_pure rfl (y_move rfl) rfl ?_
    refine b_pure rfl (y_index rfl rfl) rfl ?_
    refine b_pure rfl (y_load_int rfl) rfl ?_
    refine b_one rfl ?_
    refine w_pur rfl rfl rfl (bitOfM_c) rfl ?_
    refine w_nil ?_
    refine x_hb ?_
    refine b_pure rfl (y_and rfl rfl) rfl ?_
    refine b_pure rfl (y_ne rfl rfl) rfl ?_
    refine b_pure rfl (y_assign rfl) rfl ?_
    refine b_nil ?_
    refine x_next ?_
    refine c_seq ?_
    refine c_region_base mixed (fun wr6 hxr6 hzr6 EBr6 => ?_)
    have hz_hxr6 := hxr6.size
    replace EBr5 := EBr5.trans hxr6
    replace hp1_21 := hp1_21.ext hxr6
    replace hb3 := hb3.ext hxr6
    replace hb2 := hb2.ext hxr6
    replace h := h.ext hxr6
    replace E := E.trans hxr6
    replace hu20 := hu20.ext hxr6
    refine b_pure rfl (y_move rfl) rfl ?_
    refine b_pure rfl (y_move rfl) rfl ?_
    refine b_pure rfl (y_index rfl rfl) rfl ?_
    refine b_pure rfl (y_load_int rfl) rfl ?_
    refine b_one rfl ?_
    refine w_pur rfl rfl rfl (bitOfM_c) rfl ?_
    refine w_nil ?_
    refine x_hb ?_
    refine b_pure rfl (y_andNot2 rfl rfl) rfl ?_
    refine b_pure rfl (y_index rfl rfl) rfl ?_
    refine b_one rfl ?_
    refine w_store_own rfl rfl (next := fun ws78 hos78 hxs78 hss78 => ?_)
    (replace hp1_21 := hos78; clear hos78)
    have hz_hxs78 := hxs78.size
    replace hb3 := hb3.chg hxs78 (by omega)
    replace hb2 := hb2.chg hxs78 (by omega)
    replace h := h.chg hxs78 (by omega)
    replace E := E.next hxs78 (by omega)
    replace hu20 := hu20.chg hxs78 (by omega)
    refine w_nil ?_
    refine x_hbk ?_
    refine b_nil ?_
    refine x_next ?_
    refine c_seq ?_
    refine c_region ?_
    refine w_pure (y_assign rfl) rfl ?_
    refine w_pure (y_assign rfl) rfl ?_
    refine w_nil ?_
    refine x_next ?_
    refine c_seq ?_
    refine c_seq ?_
    refine c_region ?_
    refine w_pure (y_move rfl) rfl ?_
    refine w_pure (y_len rfl) rfl ?_
    refine w_pure (y_move rfl) rfl ?_
    refine w_nil ?_
    refine x_next ?_
    refine c_block ?_
    rotate_left
  · have hz : numL ys = (0, true) := numS_zero ys (by simpa using hc24)
    exact x_retv [_, _] rfl ⟨rfl, rfl, trivial⟩ ⟨by rw [hz]; rfl, E.go⟩
  have hz : ∃ m ∈ ys, m ≠ 0 := by simpa using hc24
  have hnum := numL_of (xs := ys) (by omega) hz
  have el : ys.length - 1 = ((ys.length : Int) - 1).toNat := by omega
  rw [el] at hnum
  have hzg : (ys.set ((ys.length : Int) - 1).toNat (ys.getD ((ys.length : Int) - 1).toNat 0 - andI (ys.getD ((ys.length : Int) - 1).toNat 0) 2)).getD ((ys.length : Int) - 1).toNat 0 = (ys.getD ((ys.length : Int) - 1).toNat 0) - andI (ys.getD ((ys.length : Int) - 1).toNat 0) 2 := by
    rw [List.getD_eq_getElem?_getD, List.getElem?_set_self (by omega)]; rfl
  have hzl : (ys.set ((ys.length : Int) - 1).toNat (ys.getD ((ys.length : Int) - 1).toNat 0 - andI (ys.getD ((ys.length : Int) - 1).toNat 0) 2)).length = ys.length := List.length_set
  refine c_loopC 0 0 (ι := Int × Bool × Int) (fun x => [(6, v21), (7, .int .i64 ((ys.length : Int) - 1)), (8, .bool (decide (¬ andI (ys.getD ((ys.length : Int) - 1).toNat 0) 2 = 0))), (9, .int .i64 x.1), (10, .bool x.2.1), (42, v21), (43, .int .i64 ((ys.set ((ys.length : Int) - 1).toNat (ys.getD ((ys.length : Int) - 1).toNat 0 - andI (ys.getD ((ys.length : Int) - 1).toNat 0) 2)).length : Int)), (44, .int .i64 x.2.2)])
    (fun x w' => Own w' 2 w3.heap.size v21 (ys.set ((ys.length : Int) - 1).toNat (ys.getD ((ys.length : Int) - 1).toNat 0 - andI (ys.getD ((ys.length : Int) - 1).toNat 0) 2)) ∧ 0 ≤ x.2.2 ∧ x.2.2 ≤ ys.length ∧ 0 ≤ x.1 ∧ x.1 < 10 ^ x.2.2.toNat ∧ numF ((ys.set ((ys.length : Int) - 1).toNat (ys.getD ((ys.length : Int) - 1).toNat 0 - andI (ys.getD ((ys.length : Int) - 1).toNat 0) 2)).drop x.2.2.toNat) x.1 x.2.1 = numF (ys.set ((ys.length : Int) - 1).toNat (ys.getD ((ys.length : Int) - 1).toNat 0 - andI (ys.getD ((ys.length : Int) - 1).toNat 0) 2)) 0 false) (fun x => (ys.length - x.2.2).toNat) (0, false, 0)
    (by repeat (first | exact trivial | refine ⟨rfl, ?_⟩)) ⟨hp1_21, by dsimp only; omega, by dsimp only; omega, by dsimp only; omega, by dsimp only; decide, rfl⟩ ?_
  clear hp1_21
  generalize (ys.set ((ys.length : Int) - 1).toNat (ys.getD ((ys.length : Int) - 1).toNat 0 - andI (ys.getD ((ys.length : Int) - 1).toNat 0) 2)) = zs at *
  rintro ⟨n, b, i⟩ wL hxL EL ⟨g1, hi0, hi1, hn0, hn1, hF⟩
  dsimp only at *
  have hpw : (10 : Int) ^ (i + 1).toNat = 10 ^ i.toNat * 10 := pow10_succ _ (by omega)
  have hd1 := dig_bd (zs.getD i.toNat 0)
  have e1 : (i + 1).toNat = i.toNat + 1 := by omega
  have hn2 : n ≤ 999999999999 := by
    have h1 : (10 : Int) ^ i.toNat ≤ 10 ^ 12 := pow10_le (by omega)
    have e : (10 : Int) ^ 12 = 1000000000000 := by decide
    omega
  by_cases hlt : i < ys.length
  · have hp : n ≤ 99999999999 := by
      have h1 : (10 : Int) ^ i.toNat ≤ 10 ^ 11 := pow10_le (by omega)
      have e : (10 : Int) ^ 11 = 100000000000 := by decide
      omega
    cases b
    · focus
        have ht_hu20 := hu20.top
        have hl_g1 := g1.lt
        have hz_hxL := hxL.size
        replace hb3 := hb3.ext hxL
        replace hb2 := hb2.ext hxL
        replace h := h.ext hxL
        replace E := E.trans hxL
        replace hu20 := hu20.ext hxL
        refine c_seq ?_
        refine c_region ?_
        refine w_pure (y_lt rfl rfl) rfl ?_
        refine w_nil ?_
        refine x_next ?_
        refine c_seq ?_
        (refine c_dec rfl (fun hc45 => ?_) (fun hc45 => ?_) <;> try (first | exact absurd rfl hc45 | contradiction | exact Bool.noConfusion (show false = true from hc45.symm.trans (by assumption)) | exact Bool.noConfusion (show true = false from hc45.symm.trans (by assumption)) | (exfalso; omega) | (exfalso; simp only [*, Bool.not_true, Bool.not_false, reduceCtorEq] at hc45; done)))
        refine c_skip ?_
        refine x_next ?_
        refine c_seq ?_
        refine c_block ?_
        refine c_seq ?_
        refine c_region ?_
        refine w_pure (y_index rfl rfl) rfl ?_
        refine w_pure (y_load_int rfl) rfl ?_
        refine w_pure (y_assign rfl) rfl ?_
        refine w_nil ?_
        refine x_next ?_
        refine c_seq ?_
        refine c_region ?_
        refine w_pure (y_move rfl) rfl ?_
        refine w_val rfl rfl rfl (digitOf_c _) rfl (fun w49 hx49 hz49 => ?_)
        have hz_hx49 := hx49.size
        replace EL := EL.trans hx49
        replace g1 := g1.ext hx49
        replace hb3 := hb3.ext hx49
        replace hb2 := hb2.ext hx49
        replace h := h.ext hx49
        replace E := E.trans hx49
        replace hu20 := hu20.ext hx49
        refine w_pure (y_assign rfl) rfl ?_
        refine w_nil ?_
        refine x_next ?_
        refine c_seq ?_
        refine c_block ?_
        refine c_seq ?_
        refine c_region ?_
        refine w_pure (y_move rfl) rfl ?_
        refine w_pure (y_eq rfl rfl) rfl ?_
        refine w_pure (y_move rfl) rfl ?_
        (refine w_part_dec rfl rfl (fun hc54 => ?_) (fun hc54 => ?_) <;> try (first | exact absurd rfl hc54 | contradiction | exact Bool.noConfusion (show false = true from hc54.symm.trans (by assumption)) | exact Bool.noConfusion (show true = false from hc54.symm.trans (by assumption)) | (exfalso; omega) | (exfalso; simp only [*, Bool.not_true, Bool.not_false, reduceCtorEq] at hc54; done)))
        refine w_yes rfl rfl ?_
        refine w_pure (y_move rfl) rfl ?_
        refine w_yes rfl rfl ?_
        refine w_pure (y_not rfl) rfl ?_
        refine w_pure (y_pick_t rfl rfl) rfl ?_
        refine w_pure (y_assign rfl) rfl ?_
        refine w_nil ?_
        refine x_next ?_
        refine c_true rfl ?_
        refine c_exit ?_
        refine x_block_miss rfl ?_
        refine x_then_exit ?_
        refine x_block_hit ?_
        refine x_next ?_
        refine c_region ?_
        refine w_pure (y_add rfl rfl) rfl ?_
        refine w_pure (y_move rfl) rfl ?_
        refine w_nil ?_
        rotate_left
        refine w_no rfl rfl rfl rfl ?_
        refine w_no rfl rfl rfl rfl ?_
        refine w_pure (y_pick_f rfl rfl) rfl ?_
        refine w_pure (y_assign rfl) rfl ?_
        refine w_nil ?_
        refine x_next ?_
        refine c_false rfl ?_
        refine c_seq ?_
        refine c_region ?_
        refine w_pure (y_move rfl) rfl ?_
        refine w_pure (y_lt rfl rfl) rfl ?_
        refine w_pure (y_assign rfl) rfl ?_
        refine w_nil ?_
        refine x_next ?_
        (refine c_dec rfl (fun hc57 => ?_) (fun hc57 => ?_) <;> try (first | exact absurd rfl hc57 | contradiction | exact Bool.noConfusion (show false = true from hc57.symm.trans (by assumption)) | exact Bool.noConfusion (show true = false from hc57.symm.trans (by assumption)) | (exfalso; omega) | (exfalso; simp only [*, Bool.not_true, Bool.not_false, reduceCtorEq] at hc57; done)))
        refine c_seq ?_
        refine c_region ?_
        refine w_pure (y_assign rfl) rfl ?_
        refine w_pure (y_assign rfl) rfl ?_
        refine w_nil ?_
        refine x_next ?_
        refine c_ret ?_
        refine x_block_ret ?_
        refine x_then_ret ?_
        refine x_block_ret ?_
        refine x_then_ret ?_
        refine x_then_ret ?_
        refine x_block_ret ?_
        refine x_then_ret ?_
        rotate_left
        refine c_skip ?_
        refine x_block_norm ?_
        refine x_next ?_
        refine c_seq ?_
        refine c_region ?_
        refine w_pure (y_assign rfl) rfl ?_
        refine w_nil ?_
        refine x_next ?_
        refine c_region ?_
        refine w_pure (y_move rfl) rfl ?_
        refine w_pure (y_mul rfl rfl) rfl ?_
        refine w_pure (y_move rfl) rfl ?_
        refine w_pure (y_add rfl rfl) rfl ?_
        refine w_pure (y_assign rfl) rfl ?_
        refine w_nil ?_
        refine x_block_norm ?_
        refine x_next ?_
        refine c_region ?_
        refine w_pure (y_add rfl rfl) rfl ?_
        refine w_pure (y_move rfl) rfl ?_
        refine w_nil ?_
        rotate_left
      all_goals first
        | (refine x_retv [_, _] rfl ⟨rfl, rfl, trivial⟩ ⟨?_, E.go⟩
           rw [numF_drop (by omega), if_neg (by first | exact fun h => absurd h.2 (by decide) | exact fun h => absurd h.1 (by assumption)), if_pos (by assumption)] at hF
           rw [← hnum, ← hF]; rfl)
        | (refine x_again (_, _, i + 1) (by repeat (first | exact trivial | refine ⟨rfl, ?_⟩)) ⟨EL.go, by assumption, by dsimp only; omega, by dsimp only; omega, by dsimp only; omega, by dsimp only; rw [hpw]; omega, ?_⟩ (by dsimp only; omega)
           dsimp only
           rw [← hF, numF_drop (i := i.toNat) (by omega), e1]
           first
             | rw [if_pos ⟨by assumption, rfl⟩]
             | rw [if_neg (by first | exact fun h => absurd h.2 (by decide) | exact fun h => absurd h.1 (by assumption)), if_neg (by assumption)])
    · focus
        have ht_hu20 := hu20.top
        have hl_g1 := g1.lt
        have hz_hxL := hxL.size
        replace hb3 := hb3.ext hxL
        replace hb2 := hb2.ext hxL
        replace h := h.ext hxL
        replace E := E.trans hxL
        replace hu20 := hu20.ext hxL
        refine c_seq ?_
        refine c_region ?_
        refine w_pure (y_lt rfl rfl) rfl ?_
        refine w_nil ?_
        refine x_next ?_
        refine c_seq ?_
        (refine c_dec rfl (fun hc45 => ?_) (fun hc45 => ?_) <;> try (first | exact absurd rfl hc45 | contradiction | exact Bool.noConfusion (show false = true from hc45.symm.trans (by assumption)) | exact Bool.noConfusion (show true = false from hc45.symm.trans (by assumption)) | (exfalso; omega) | (exfalso; simp only [*, Bool.not_true, Bool.not_false, reduceCtorEq] at hc45; done)))
        refine c_skip ?_
        refine x_next ?_
        refine c_seq ?_
        refine c_block ?_
        refine c_seq ?_
        refine c_region ?_
        refine w_pure (y_index rfl rfl) rfl ?_
        refine w_pure (y_load_int rfl) rfl ?_
        refine w_pure (y_assign rfl) rfl ?_
        refine w_nil ?_
        refine x_next ?_
        refine c_seq ?_
        refine c_region ?_
        refine w_pure (y_move rfl) rfl ?_
        refine w_val rfl rfl rfl (digitOf_c _) rfl (fun w49 hx49 hz49 => ?_)
        have hz_hx49 := hx49.size
        replace EL := EL.trans hx49
        replace g1 := g1.ext hx49
        replace hb3 := hb3.ext hx49
        replace hb2 := hb2.ext hx49
        replace h := h.ext hx49
        replace E := E.trans hx49
        replace hu20 := hu20.ext hx49
        refine w_pure (y_assign rfl) rfl ?_
        refine w_nil ?_
        refine x_next ?_
        refine c_seq ?_
        refine c_block ?_
        refine c_seq ?_
        refine c_region ?_
        refine w_pure (y_move rfl) rfl ?_
        refine w_pure (y_eq rfl rfl) rfl ?_
        refine w_pure (y_move rfl) rfl ?_
        (refine w_part_dec rfl rfl (fun hc54 => ?_) (fun hc54 => ?_) <;> try (first | exact absurd rfl hc54 | contradiction | exact Bool.noConfusion (show false = true from hc54.symm.trans (by assumption)) | exact Bool.noConfusion (show true = false from hc54.symm.trans (by assumption)) | (exfalso; omega) | (exfalso; simp only [*, Bool.not_true, Bool.not_false, reduceCtorEq] at hc54; done)))
        refine w_yes rfl rfl ?_
        refine w_pure (y_move rfl) rfl ?_
        refine w_yes rfl rfl ?_
        refine w_pure (y_not rfl) rfl ?_
        refine w_pure (y_pick_t rfl rfl) rfl ?_
        refine w_pure (y_assign rfl) rfl ?_
        refine w_nil ?_
        refine x_next ?_
        refine c_false rfl ?_
        refine c_seq ?_
        refine c_region ?_
        refine w_pure (y_move rfl) rfl ?_
        refine w_pure (y_lt rfl rfl) rfl ?_
        refine w_pure (y_assign rfl) rfl ?_
        refine w_nil ?_
        refine x_next ?_
        (refine c_dec rfl (fun hc57 => ?_) (fun hc57 => ?_) <;> try (first | exact absurd rfl hc57 | contradiction | exact Bool.noConfusion (show false = true from hc57.symm.trans (by assumption)) | exact Bool.noConfusion (show true = false from hc57.symm.trans (by assumption)) | (exfalso; omega) | (exfalso; simp only [*, Bool.not_true, Bool.not_false, reduceCtorEq] at hc57; done)))
        refine c_seq ?_
        refine c_region ?_
        refine w_pure (y_assign rfl) rfl ?_
        refine w_pure (y_assign rfl) rfl ?_
        refine w_nil ?_
        refine x_next ?_
        refine c_ret ?_
        refine x_block_ret ?_
        refine x_then_ret ?_
        refine x_block_ret ?_
        refine x_then_ret ?_
        refine x_then_ret ?_
        refine x_block_ret ?_
        refine x_then_ret ?_
        rotate_left
        refine c_skip ?_
        refine x_block_norm ?_
        refine x_next ?_
        refine c_seq ?_
        refine c_region ?_
        refine w_pure (y_assign rfl) rfl ?_
        refine w_nil ?_
        refine x_next ?_
        refine c_region ?_
        refine w_pure (y_move rfl) rfl ?_
        refine w_pure (y_mul rfl rfl) rfl ?_
        refine w_pure (y_move rfl) rfl ?_
        refine w_pure (y_add rfl rfl) rfl ?_
        refine w_pure (y_assign rfl) rfl ?_
        refine w_nil ?_
        refine x_block_norm ?_
        refine x_next ?_
        refine c_region ?_
        refine w_pure (y_add rfl rfl) rfl ?_
        refine w_pure (y_move rfl) rfl ?_
        refine w_nil ?_
        rotate_left
        refine w_no rfl rfl rfl rfl ?_
        refine w_no rfl rfl rfl rfl ?_
        refine w_pure (y_pick_f rfl rfl) rfl ?_
        refine w_pure (y_assign rfl) rfl ?_
        refine w_nil ?_
        refine x_next ?_
        refine c_false rfl ?_
        refine c_seq ?_
        refine c_region ?_
        refine w_pure (y_move rfl) rfl ?_
        refine w_pure (y_lt rfl rfl) rfl ?_
        refine w_pure (y_assign rfl) rfl ?_
        refine w_nil ?_
        refine x_next ?_
        (refine c_dec rfl (fun hc57 => ?_) (fun hc57 => ?_) <;> try (first | exact absurd rfl hc57 | contradiction | exact Bool.noConfusion (show false = true from hc57.symm.trans (by assumption)) | exact Bool.noConfusion (show true = false from hc57.symm.trans (by assumption)) | (exfalso; omega) | (exfalso; simp only [*, Bool.not_true, Bool.not_false, reduceCtorEq] at hc57; done)))
        refine c_seq ?_
        refine c_region ?_
        refine w_pure (y_assign rfl) rfl ?_
        refine w_pure (y_assign rfl) rfl ?_
        refine w_nil ?_
        refine x_next ?_
        refine c_ret ?_
        refine x_block_ret ?_
        refine x_then_ret ?_
        refine x_block_ret ?_
        refine x_then_ret ?_
        refine x_then_ret ?_
        refine x_block_ret ?_
        refine x_then_ret ?_
        rotate_left
        refine c_skip ?_
        refine x_block_norm ?_
        refine x_next ?_
        refine c_seq ?_
        refine c_region ?_
        refine w_pure (y_assign rfl) rfl ?_
        refine w_nil ?_
        refine x_next ?_
        refine c_region ?_
        refine w_pure (y_move rfl) rfl ?_
        refine w_pure (y_mul rfl rfl) rfl ?_
        refine w_pure (y_move rfl) rfl ?_
        refine w_pure (y_add rfl rfl) rfl ?_
        refine w_pure (y_assign rfl) rfl ?_
        refine w_nil ?_
        refine x_block_norm ?_
        refine x_next ?_
        refine c_region ?_
        refine w_pure (y_add rfl rfl) rfl ?_
        refine w_pure (y_move rfl) rfl ?_
        refine w_nil ?_
        rotate_left
      all_goals first
        | (refine x_retv [_, _] rfl ⟨rfl, rfl, trivial⟩ ⟨?_, E.go⟩
           rw [numF_drop (by omega), if_neg (by first | exact fun h => absurd h.2 (by decide) | exact fun h => absurd h.1 (by assumption)), if_pos (by assumption)] at hF
           rw [← hnum, ← hF]; rfl)
        | (refine x_again (_, _, i + 1) (by repeat (first | exact trivial | refine ⟨rfl, ?_⟩)) ⟨EL.go, by assumption, by dsimp only; omega, by dsimp only; omega, by dsimp only; omega, by dsimp only; rw [hpw]; omega, ?_⟩ (by dsimp only; omega)
           dsimp only
           rw [← hF, numF_drop (i := i.toNat) (by omega), e1]
           first
             | rw [if_pos ⟨by assumption, rfl⟩]
             | rw [if_neg (by first | exact fun h => absurd h.2 (by decide) | exact fun h => absurd h.1 (by assumption)), if_neg (by assumption)])
  · rw [List.drop_eq_nil_of_le (by omega)] at hF
    rw [← hF, numF] at hnum
    cases b
    · focus
        have ht_hu20 := hu20.top
        have hl_g1 := g1.lt
        have hz_hxL := hxL.size
        replace hb3 := hb3.ext hxL
        replace hb2 := hb2.ext hxL
        replace h := h.ext hxL
        replace E := E.trans hxL
        replace hu20 := hu20.ext hxL
        refine c_seq ?_
        refine c_region ?_
        refine w_pure (y_lt rfl rfl) rfl ?_
        refine w_nil ?_
        refine x_next ?_
        refine c_seq ?_
        (refine c_dec rfl (fun hc45 => ?_) (fun hc45 => ?_) <;> try (first | exact absurd rfl hc45 | contradiction | exact Bool.noConfusion (show false = true from hc45.symm.trans (by assumption)) | exact Bool.noConfusion (show true = false from hc45.symm.trans (by assumption)) | (exfalso; omega) | (exfalso; simp only [*, Bool.not_true, Bool.not_false, reduceCtorEq] at hc45; done)))
        refine c_exit ?_
        refine x_then_exit ?_
        refine x_then_exit ?_
        refine x_block_hit ?_
        refine x_next ?_
        refine c_seq ?_
        refine c_seq ?_
        refine c_region ?_
        refine w_pure (y_move rfl) rfl ?_
        refine w_pure (y_not rfl) rfl ?_
        refine w_pure (y_move rfl) rfl ?_
        refine w_no rfl rfl rfl rfl ?_
        refine w_no rfl rfl rfl rfl ?_
        refine w_no rfl rfl rfl rfl ?_
        refine w_no rfl rfl rfl rfl ?_
        refine w_no rfl rfl rfl rfl ?_
        refine w_pure (y_pick_t rfl rfl) rfl ?_
        refine w_pure (y_move rfl) rfl ?_
        refine w_no rfl rfl rfl rfl ?_
        refine w_no rfl rfl rfl rfl ?_
        refine w_none rfl rfl rfl ?_
        refine w_none rfl rfl rfl ?_
        refine w_no rfl rfl rfl rfl ?_
        refine w_pure (y_pick_t rfl rfl) rfl ?_
        refine w_nil ?_
        refine x_next ?_
        refine c_true rfl ?_
        refine c_seq ?_
        refine c_region ?_
        refine w_pure (y_assign rfl) rfl ?_
        refine w_pure (y_assign rfl) rfl ?_
        refine w_nil ?_
        refine x_next ?_
        refine c_ret ?_
        refine x_then_ret ?_
        rotate_left
      refine x_retv [_, _] rfl ⟨rfl, rfl, trivial⟩ ⟨?_, E.go⟩
      rw [← hnum, numR_no (.inl rfl)]; rfl
    · focus
        have ht_hu20 := hu20.top
        have hl_g1 := g1.lt
        have hz_hxL := hxL.size
        replace hb3 := hb3.ext hxL
        replace hb2 := hb2.ext hxL
        replace h := h.ext hxL
        replace E := E.trans hxL
        replace hu20 := hu20.ext hxL
        refine c_seq ?_
        refine c_region ?_
        refine w_pure (y_lt rfl rfl) rfl ?_
        refine w_nil ?_
        refine x_next ?_
        refine c_seq ?_
        (refine c_dec rfl (fun hc45 => ?_) (fun hc45 => ?_) <;> try (first | exact absurd rfl hc45 | contradiction | exact Bool.noConfusion (show false = true from hc45.symm.trans (by assumption)) | exact Bool.noConfusion (show true = false from hc45.symm.trans (by assumption)) | (exfalso; omega) | (exfalso; simp only [*, Bool.not_true, Bool.not_false, reduceCtorEq] at hc45; done)))
        refine c_exit ?_
        refine x_then_exit ?_
        refine x_then_exit ?_
        refine x_block_hit ?_
        refine x_next ?_
        refine c_seq ?_
        refine c_seq ?_
        refine c_region ?_
        refine w_pure (y_move rfl) rfl ?_
        refine w_pure (y_not rfl) rfl ?_
        refine w_pure (y_move rfl) rfl ?_
        refine w_yes rfl rfl ?_
        refine w_pure (y_move rfl) rfl ?_
        refine w_yes rfl rfl ?_
        refine w_pure (y_move rfl) rfl ?_
        refine w_yes rfl rfl ?_
        refine w_pure (y_index rfl rfl) rfl ?_
        refine w_yes rfl rfl ?_
        refine w_pure (y_load_int rfl) rfl ?_
        refine w_yes rfl rfl ?_
        refine w_pure (y_eq rfl rfl) rfl ?_
        refine w_pure (y_pick_f rfl rfl) rfl ?_
        refine w_pure (y_move rfl) rfl ?_
        (refine w_part_dec rfl rfl (fun hc75 => ?_) (fun hc75 => ?_) <;> try (first | exact absurd rfl hc75 | contradiction | exact Bool.noConfusion (show false = true from hc75.symm.trans (by assumption)) | exact Bool.noConfusion (show true = false from hc75.symm.trans (by assumption)) | (exfalso; omega) | (exfalso; simp only [*, Bool.not_true, Bool.not_false, reduceCtorEq] at hc75; done)))
        refine w_no rfl rfl rfl rfl ?_
        refine w_no rfl rfl rfl rfl ?_
        refine w_none rfl rfl rfl ?_
        refine w_none rfl rfl rfl ?_
        refine w_no rfl rfl rfl rfl ?_
        refine w_pure (y_pick_t rfl rfl) rfl ?_
        refine w_nil ?_
        refine x_next ?_
        refine c_true rfl ?_
        refine c_seq ?_
        refine c_region ?_
        refine w_pure (y_assign rfl) rfl ?_
        refine w_pure (y_assign rfl) rfl ?_
        refine w_nil ?_
        refine x_next ?_
        refine c_ret ?_
        refine x_then_ret ?_
        rotate_left
        refine w_yes rfl rfl ?_
        refine w_pure (y_move rfl) rfl ?_
        refine w_yes rfl rfl ?_
        refine w_pure (y_move rfl) rfl ?_
        (refine w_part_dec rfl rfl (fun hc77 => ?_) (fun hc77 => ?_) <;> try (first | exact absurd rfl hc77 | contradiction | exact Bool.noConfusion (show false = true from hc77.symm.trans (by assumption)) | exact Bool.noConfusion (show true = false from hc77.symm.trans (by assumption)) | (exfalso; omega) | (exfalso; simp only [*, Bool.not_true, Bool.not_false, reduceCtorEq] at hc77; done)))
        refine w_yes rfl rfl ?_
        refine w_pure (y_move rfl) rfl ?_
        refine w_yes rfl rfl ?_
        refine w_pure (y_eq rfl rfl) rfl ?_
        refine w_yes rfl rfl ?_
        refine w_pure (y_pick_t rfl rfl) rfl ?_
        refine w_pure (y_pick_f rfl rfl) rfl ?_
        refine w_nil ?_
        refine x_next ?_
        (refine c_dec rfl (fun hc80 => ?_) (fun hc80 => ?_) <;> try (first | exact absurd rfl hc80 | contradiction | exact Bool.noConfusion (show false = true from hc80.symm.trans (by assumption)) | exact Bool.noConfusion (show true = false from hc80.symm.trans (by assumption)) | (exfalso; omega) | (exfalso; simp only [*, Bool.not_true, Bool.not_false, reduceCtorEq] at hc80; done)))
        refine c_seq ?_
        refine c_region ?_
        refine w_pure (y_assign rfl) rfl ?_
        refine w_pure (y_assign rfl) rfl ?_
        refine w_nil ?_
        refine x_next ?_
        refine c_ret ?_
        refine x_then_ret ?_
        rotate_left
        refine c_skip ?_
        refine x_next ?_
        refine c_seq ?_
        refine c_seq ?_
        refine c_region ?_
        refine w_pure (y_move rfl) rfl ?_
        refine w_nil ?_
        refine x_next ?_
        (refine c_dec rfl (fun hc81 => ?_) (fun hc81 => ?_) <;> try (first | exact absurd rfl hc81 | contradiction | exact Bool.noConfusion (show false = true from hc81.symm.trans (by assumption)) | exact Bool.noConfusion (show true = false from hc81.symm.trans (by assumption)) | (exfalso; omega) | (exfalso; simp only [*, Bool.not_true, Bool.not_false, reduceCtorEq] at hc81; done)))
        refine c_region ?_
        refine w_pure (y_move rfl) rfl ?_
        refine w_pure (y_neg rfl) rfl ?_
        refine w_pure (y_assign rfl) rfl ?_
        refine w_nil ?_
        refine x_next ?_
        refine c_seq ?_
        refine c_region ?_
        refine w_pure (y_move rfl) rfl ?_
        refine w_pure (y_assign rfl) rfl ?_
        refine w_pure (y_assign rfl) rfl ?_
        refine w_nil ?_
        refine x_next ?_
        refine c_ret ?_
        rotate_left
        refine w_no rfl rfl rfl rfl ?_
        refine w_no rfl rfl rfl rfl ?_
        refine w_yes rfl rfl ?_
        refine w_pure (y_pick_f rfl rfl) rfl ?_
        refine w_pure (y_pick_f rfl rfl) rfl ?_
        refine w_nil ?_
        refine x_next ?_
        refine c_false rfl ?_
        refine c_skip ?_
        refine x_next ?_
        refine c_seq ?_
        refine c_seq ?_
        refine c_region ?_
        refine w_pure (y_move rfl) rfl ?_
        refine w_nil ?_
        refine x_next ?_
        (refine c_dec rfl (fun hc81 => ?_) (fun hc81 => ?_) <;> try (first | exact absurd rfl hc81 | contradiction | exact Bool.noConfusion (show false = true from hc81.symm.trans (by assumption)) | exact Bool.noConfusion (show true = false from hc81.symm.trans (by assumption)) | (exfalso; omega) | (exfalso; simp only [*, Bool.not_true, Bool.not_false, reduceCtorEq] at hc81; done)))
        refine c_skip ?_
        refine x_next ?_
        refine c_seq ?_
        refine c_region ?_
        refine w_pure (y_move rfl) rfl ?_
        refine w_pure (y_assign rfl) rfl ?_
        refine w_pure (y_assign rfl) rfl ?_
        refine w_nil ?_
        refine x_next ?_
        refine c_ret ?_
        rotate_left
      all_goals refine x_retv [_, _] rfl ⟨rfl, rfl, trivial⟩ ⟨?_, E.go⟩
      · rw [← hnum, numR_no (.inr (.inl (hzg.symm.trans hc75)))]; rfl
      · rw [← hnum, numR_no (.inr (.inr ⟨hc77, hc80⟩))]; rfl
      · rw [← hnum, numR_neg rfl (fun h => hc75 (hzg.trans h)) hc77 hc80]; rfl
      · rw [← hnum, numR_pos rfl (fun h => hc75 (hzg.trans h)) (Decidable.not_not.1 hc77)]; rfl
theorem l03Number_c (h : SL w lo hi v xs := by repeat (first | assumption | exact Go.Gw.Own.sl (by assumption) | exact Go.Gw.Box.at (by assumption) | exact Go.Gw.SLL.el (by first | assumption | exact Go.Gw.OwnD.sll (by assumption)) _ (by omega) | exact Go.Gw.SLL.at (by first | assumption | exact Go.Gw.OwnD.sll (by assumption)) (by omega) | exact Go.Gw.OwnD.sll (by assumption) | (apply Go.Gw.SL.chg; case hx => assumption) | (apply Go.Gw.Own.chg; case hx => assumption) | (apply Go.Gw.Box.chg; case hx => assumption) | (apply Go.Gw.At.chg; case hx => assumption) | exact .inl (Nat.zero_le _) | exact .inr (Nat.zero_le _) | (show _ ∨ _; omega))) (hl : xs.length ≤ 12 := by omega) (hrg : ∀ i, i < xs.length → 0 ≤ xs.getD i 0 ∧ xs.getD i 0 ≤ 4095 := by assumption) : Val Tryz.prog 134 [v] w (.tuple #[.int .i64 (numL xs).1, .bool (numL xs).2]) := by
  refine ⟨fun w1 hx1 => ?_⟩
  replace h := h.ext hx1
  have hsm := h.small
  have E : Since 0 0 w1 w1 := Since.refl 0 0 w1
  refine ret_enter Tryz.func134 rfl Tryz.ntmps134 rfl ?_
  focus
    have ht_h := h.top
    refine c_seq ?_
    refine c_region ?_
    refine w_pure (y_assign rfl) rfl ?_
    refine w_pure (y_assign rfl) rfl ?_
    refine w_nil ?_
    refine x_next ?_
    refine c_seq ?_
    refine c_region ?_
    refine w_pure (y_assign rfl) rfl ?_
    refine w_nil ?_
    refine x_next ?_
    refine c_seq ?_
    refine c_region ?_
    refine w_pure (y_assign rfl) rfl ?_
    refine w_nil ?_
    refine x_next ?_
    refine c_seq ?_
    refine c_region ?_
    refine w_pure (y_assign rfl) rfl ?_
    refine w_nil ?_
    refine x_next ?_
    refine c_seq ?_
    refine c_seq ?_
    refine c_region ?_
    refine w_pure (y_assign rfl) rfl ?_
    refine w_nil ?_
    refine x_next ?_
    refine c_block ?_
    rotate_left
  refine c_loopC 0 0 (ι := Int × Bool × Bool × Int) (fun x => [(0, v), (4, .int .i64 x.1), (5, .bool x.2.1), (6, .bool x.2.2.1), (7, .int .i64 x.2.2.2)])
    (fun x w' => SL w' lo hi v xs ∧ 0 ≤ x.2.2.2 ∧ x.2.2.2 ≤ xs.length ∧ 0 ≤ x.1 ∧ x.1 < 10 ^ x.2.2.2.toNat ∧ (x.2.2.2 < xs.length → x.2.2.1 = false ∧ numS (xs.drop x.2.2.2.toNat) x.1 x.2.1 = numL xs) ∧ (x.2.2.2 = xs.length → numZ x.1 x.2.2.1 = numL xs)) (fun x => (xs.length - x.2.2.2).toNat) (0, false, false, 0)
    (by repeat (first | exact trivial | refine ⟨rfl, ?_⟩)) ⟨h, by dsimp only; omega, by dsimp only; omega, by dsimp only; omega, by simp, fun _ => ⟨rfl, rfl⟩, fun hh => by obtain rfl : xs = [] := List.eq_nil_of_length_eq_zero (by dsimp only at hh; omega); rfl⟩ ?_
  rintro ⟨n, b, m, i⟩ w2 hx2 E2 ⟨h2, hi0, hi1, hn0, hn1, hS, hZ⟩
  dsimp only at *
  have hpw : (10 : Int) ^ (i + 1).toNat = 10 ^ i.toNat * 10 := pow10_succ _ (by omega)
  have hd1 := dig_bd (xs.getD i.toNat 0)
  have hd2 := dig_bd (xs.getD i.toNat 0 - 2)
  have e1 : (i + 1).toNat = i.toNat + 1 := by omega
  by_cases hlt : i < xs.length
  · have hp : n ≤ 99999999999 := by
      have h1 : (10 : Int) ^ i.toNat ≤ 10 ^ 11 := pow10_le (by omega)
      have e : (10 : Int) ^ 11 = 100000000000 := by decide
      omega
    have hr : 0 ≤ xs.getD i.toNat 0 ∧ xs.getD i.toNat 0 ≤ 4095 := hrg _ (by omega)
    obtain ⟨hm, hS1⟩ := hS hlt
    clear hS hZ
    subst hm
    cases b
    · focus
        have ht_h2 := h2.top
        have hz_hx2 := hx2.size
        replace h := h.ext hx2
        replace E := E.trans hx2
        refine c_seq ?_
        refine c_seq ?_
        refine c_region ?_
        refine w_pure (y_move rfl) rfl ?_
        refine w_pure (y_move rfl) rfl ?_
        refine w_pure (y_len rfl) rfl ?_
        refine w_pure (y_lt rfl rfl) rfl ?_
        refine w_nil ?_
        refine x_next ?_
        (refine c_dec rfl (fun hc13 => ?_) (fun hc13 => ?_) <;> try (first | exact absurd rfl hc13 | contradiction | exact Bool.noConfusion (show false = true from hc13.symm.trans (by assumption)) | exact Bool.noConfusion (show true = false from hc13.symm.trans (by assumption)) | (exfalso; omega) | (exfalso; simp only [*, Bool.not_true, Bool.not_false, reduceCtorEq] at hc13; done)))
        refine c_skip ?_
        refine x_next ?_
        refine c_seq ?_
        refine c_block ?_
        refine c_seq ?_
        refine c_region ?_
        refine w_pure (y_move rfl) rfl ?_
        refine w_pure (y_move rfl) rfl ?_
        refine w_pure (y_index rfl rfl) rfl ?_
        refine w_pure (y_load_int rfl) rfl ?_
        refine w_pure (y_assign rfl) rfl ?_
        refine w_nil ?_
        refine x_next ?_
        refine c_seq ?_
        refine c_seq ?_
        refine c_region ?_
        refine w_pure (y_move rfl) rfl ?_
        refine w_pure (y_move rfl) rfl ?_
        refine w_pure (y_len rfl) rfl ?_
        refine w_pure (y_sub rfl rfl) rfl ?_
        refine w_pure (y_eq rfl rfl) rfl ?_
        refine w_pure (y_move rfl) rfl ?_
        (refine w_part_dec rfl rfl (fun hc26 => ?_) (fun hc26 => ?_) <;> try (first | exact absurd rfl hc26 | contradiction | exact Bool.noConfusion (show false = true from hc26.symm.trans (by assumption)) | exact Bool.noConfusion (show true = false from hc26.symm.trans (by assumption)) | (exfalso; omega) | (exfalso; simp only [*, Bool.not_true, Bool.not_false, reduceCtorEq] at hc26; done)))
        refine w_yes rfl rfl ?_
        refine w_pure (y_move rfl) rfl ?_
        refine w_yes rfl rfl ?_
        refine w_pure (y_and rfl rfl) rfl ?_
        refine w_yes rfl rfl ?_
        refine w_pure (y_ne rfl rfl) rfl ?_
        refine w_pure (y_pick_t rfl rfl) rfl ?_
        refine w_nil ?_
        refine x_next ?_
        (refine c_dec rfl (fun hc29 => ?_) (fun hc29 => ?_) <;> try (first | exact absurd rfl hc29 | contradiction | exact Bool.noConfusion (show false = true from hc29.symm.trans (by assumption)) | exact Bool.noConfusion (show true = false from hc29.symm.trans (by assumption)) | (exfalso; omega) | (exfalso; simp only [*, Bool.not_true, Bool.not_false, reduceCtorEq] at hc29; done)))
        refine c_seq ?_
        refine c_region ?_
        refine w_pure (y_assign rfl) rfl ?_
        refine w_nil ?_
        refine x_next ?_
        refine c_region ?_
        refine w_pure (y_move rfl) rfl ?_
        refine w_pure (y_sub rfl rfl) rfl ?_
        refine w_pure (y_assign rfl) rfl ?_
        refine w_nil ?_
        refine x_next ?_
        refine c_seq ?_
        refine c_seq ?_
        refine c_region ?_
        refine w_pure (y_move rfl) rfl ?_
        refine w_pure (y_eq rfl rfl) rfl ?_
        refine w_pure (y_move rfl) rfl ?_
        (refine w_part_dec rfl rfl (fun hc35 => ?_) (fun hc35 => ?_) <;> try (first | exact absurd rfl hc35 | contradiction | exact Bool.noConfusion (show false = true from hc35.symm.trans (by assumption)) | exact Bool.noConfusion (show true = false from hc35.symm.trans (by assumption)) | (exfalso; omega) | (exfalso; simp only [*, Bool.not_true, Bool.not_false, reduceCtorEq] at hc35; done)))
        refine w_yes rfl rfl ?_
        refine w_pure (y_move rfl) rfl ?_
        refine w_yes rfl rfl ?_
        refine w_pure (y_not rfl) rfl ?_
        refine w_pure (y_pick_t rfl rfl) rfl ?_
        refine w_pure (y_move rfl) rfl ?_
        refine w_yes rfl rfl ?_
        refine w_pure (y_move rfl) rfl ?_
        refine w_yes rfl rfl ?_
        refine w_pure (y_not rfl) rfl ?_
        refine w_pure (y_pick_t rfl rfl) rfl ?_
        refine w_nil ?_
        refine x_next ?_
        refine c_false rfl ?_
        refine c_skip ?_
        refine x_next ?_
        refine c_seq ?_
        refine c_region ?_
        refine w_pure (y_move rfl) rfl ?_
        refine w_val rfl rfl rfl (l03Digit_c _) rfl (fun w43 hx43 hz43 => ?_)
        have hz_hx43 := hx43.size
        replace E2 := E2.trans hx43
        replace h2 := h2.ext hx43
        replace h := h.ext hx43
        replace E := E.trans hx43
        refine w_pure (y_assign rfl) rfl ?_
        refine w_nil ?_
        refine x_next ?_
        refine c_seq ?_
        refine c_seq ?_
        refine c_region ?_
        refine w_pure (y_move rfl) rfl ?_
        refine w_pure (y_lt rfl rfl) rfl ?_
        refine w_nil ?_
        refine x_next ?_
        (refine c_dec rfl (fun hc45 => ?_) (fun hc45 => ?_) <;> try (first | exact absurd rfl hc45 | contradiction | exact Bool.noConfusion (show false = true from hc45.symm.trans (by assumption)) | exact Bool.noConfusion (show true = false from hc45.symm.trans (by assumption)) | (exfalso; omega) | (exfalso; simp only [*, Bool.not_true, Bool.not_false, reduceCtorEq] at hc45; done)))
        refine c_seq ?_
        refine c_region ?_
        refine w_pure (y_assign rfl) rfl ?_
        refine w_pure (y_assign rfl) rfl ?_
        refine w_nil ?_
        refine x_next ?_
        refine c_ret ?_
        refine x_then_ret ?_
        refine x_block_ret ?_
        refine x_then_ret ?_
        refine x_then_ret ?_
        refine x_block_ret ?_
        refine x_then_ret ?_
        rotate_left
        refine c_skip ?_
        refine x_next ?_
        refine c_seq ?_
        refine c_region ?_
        refine w_pure (y_assign rfl) rfl ?_
        refine w_nil ?_
        refine x_next ?_
        refine c_region ?_
        refine w_pure (y_move rfl) rfl ?_
        refine w_pure (y_mul rfl rfl) rfl ?_
        refine w_pure (y_move rfl) rfl ?_
        refine w_pure (y_add rfl rfl) rfl ?_
        refine w_pure (y_assign rfl) rfl ?_
        refine w_nil ?_
        refine x_block_norm ?_
        refine x_next ?_
        refine c_region ?_
        refine w_pure (y_move rfl) rfl ?_
        refine w_pure (y_add rfl rfl) rfl ?_
        refine w_pure (y_assign rfl) rfl ?_
        refine w_nil ?_
        rotate_left
        refine w_no rfl rfl rfl rfl ?_
        refine w_no rfl rfl rfl rfl ?_
        refine w_pure (y_pick_f rfl rfl) rfl ?_
        refine w_pure (y_move rfl) rfl ?_
        refine w_no rfl rfl rfl rfl ?_
        refine w_no rfl rfl rfl rfl ?_
        refine w_pure (y_pick_f rfl rfl) rfl ?_
        refine w_nil ?_
        refine x_next ?_
        refine c_false rfl ?_
        refine c_skip ?_
        refine x_next ?_
        refine c_seq ?_
        refine c_region ?_
        refine w_pure (y_move rfl) rfl ?_
        refine w_val rfl rfl rfl (l03Digit_c _) rfl (fun w43 hx43 hz43 => ?_)
        have hz_hx43 := hx43.size
        replace E2 := E2.trans hx43
        replace h2 := h2.ext hx43
        replace h := h.ext hx43
        replace E := E.trans hx43
        refine w_pure (y_assign rfl) rfl ?_
        refine w_nil ?_
        refine x_next ?_
        refine c_seq ?_
        refine c_seq ?_
        refine c_region ?_
        refine w_pure (y_move rfl) rfl ?_
        refine w_pure (y_lt rfl rfl) rfl ?_
        refine w_nil ?_
        refine x_next ?_
        (refine c_dec rfl (fun hc45 => ?_) (fun hc45 => ?_) <;> try (first | exact absurd rfl hc45 | contradiction | exact Bool.noConfusion (show false = true from hc45.symm.trans (by assumption)) | exact Bool.noConfusion (show true = false from hc45.symm.trans (by assumption)) | (exfalso; omega) | (exfalso; simp only [*, Bool.not_true, Bool.not_false, reduceCtorEq] at hc45; done)))
        refine c_seq ?_
        refine c_region ?_
        refine w_pure (y_assign rfl) rfl ?_
        refine w_pure (y_assign rfl) rfl ?_
        refine w_nil ?_
        refine x_next ?_
        refine c_ret ?_
        refine x_then_ret ?_
        refine x_block_ret ?_
        refine x_then_ret ?_
        refine x_then_ret ?_
        refine x_block_ret ?_
        refine x_then_ret ?_
        rotate_left
        refine c_skip ?_
        refine x_next ?_
        refine c_seq ?_
        refine c_region ?_
        refine w_pure (y_assign rfl) rfl ?_
        refine w_nil ?_
        refine x_next ?_
        refine c_region ?_
        refine w_pure (y_move rfl) rfl ?_
        refine w_pure (y_mul rfl rfl) rfl ?_
        refine w_pure (y_move rfl) rfl ?_
        refine w_pure (y_add rfl rfl) rfl ?_
        refine w_pure (y_assign rfl) rfl ?_
        refine w_nil ?_
        refine x_block_norm ?_
        refine x_next ?_
        refine c_region ?_
        refine w_pure (y_move rfl) rfl ?_
        refine w_pure (y_add rfl rfl) rfl ?_
        refine w_pure (y_assign rfl) rfl ?_
        refine w_nil ?_
        rotate_left
        refine c_skip ?_
        refine x_next ?_
        refine c_seq ?_
        refine c_seq ?_
        refine c_region ?_
        refine w_pure (y_move rfl) rfl ?_
        refine w_pure (y_eq rfl rfl) rfl ?_
        refine w_pure (y_move rfl) rfl ?_
        (refine w_part_dec rfl rfl (fun hc35 => ?_) (fun hc35 => ?_) <;> try (first | exact absurd rfl hc35 | contradiction | exact Bool.noConfusion (show false = true from hc35.symm.trans (by assumption)) | exact Bool.noConfusion (show true = false from hc35.symm.trans (by assumption)) | (exfalso; omega) | (exfalso; simp only [*, Bool.not_true, Bool.not_false, reduceCtorEq] at hc35; done)))
        refine w_yes rfl rfl ?_
        refine w_pure (y_move rfl) rfl ?_
        refine w_yes rfl rfl ?_
        refine w_pure (y_not rfl) rfl ?_
        refine w_pure (y_pick_t rfl rfl) rfl ?_
        refine w_pure (y_move rfl) rfl ?_
        refine w_yes rfl rfl ?_
        refine w_pure (y_move rfl) rfl ?_
        refine w_yes rfl rfl ?_
        refine w_pure (y_not rfl) rfl ?_
        refine w_pure (y_pick_t rfl rfl) rfl ?_
        refine w_nil ?_
        refine x_next ?_
        refine c_true rfl ?_
        refine c_exit ?_
        refine x_then_exit ?_
        refine x_block_hit ?_
        refine x_next ?_
        refine c_region ?_
        refine w_pure (y_move rfl) rfl ?_
        refine w_pure (y_add rfl rfl) rfl ?_
        refine w_pure (y_assign rfl) rfl ?_
        refine w_nil ?_
        rotate_left
        refine w_no rfl rfl rfl rfl ?_
        refine w_no rfl rfl rfl rfl ?_
        refine w_pure (y_pick_f rfl rfl) rfl ?_
        refine w_pure (y_move rfl) rfl ?_
        refine w_no rfl rfl rfl rfl ?_
        refine w_no rfl rfl rfl rfl ?_
        refine w_pure (y_pick_f rfl rfl) rfl ?_
        refine w_nil ?_
        refine x_next ?_
        refine c_false rfl ?_
        refine c_skip ?_
        refine x_next ?_
        refine c_seq ?_
        refine c_region ?_
        refine w_pure (y_move rfl) rfl ?_
        refine w_val rfl rfl rfl (l03Digit_c _) rfl (fun w43 hx43 hz43 => ?_)
        have hz_hx43 := hx43.size
        replace E2 := E2.trans hx43
        replace h2 := h2.ext hx43
        replace h := h.ext hx43
        replace E := E.trans hx43
        refine w_pure (y_assign rfl) rfl ?_
        refine w_nil ?_
        refine x_next ?_
        refine c_seq ?_
        refine c_seq ?_
        refine c_region ?_
        refine w_pure (y_move rfl) rfl ?_
        refine w_pure (y_lt rfl rfl) rfl ?_
        refine w_nil ?_
        refine x_next ?_
        (refine c_dec rfl (fun hc45 => ?_) (fun hc45 => ?_) <;> try (first | exact absurd rfl hc45 | contradiction | exact Bool.noConfusion (show false = true from hc45.symm.trans (by assumption)) | exact Bool.noConfusion (show true = false from hc45.symm.trans (by assumption)) | (exfalso; omega) | (exfalso; simp only [*, Bool.not_true, Bool.not_false, reduceCtorEq] at hc45; done)))
        refine c_seq ?_
        refine c_region ?_
        refine w_pure (y_assign rfl) rfl ?_
        refine w_pure (y_assign rfl) rfl ?_
        refine w_nil ?_
        refine x_next ?_
        refine c_ret ?_
        refine x_then_ret ?_
        refine x_block_ret ?_
        refine x_then_ret ?_
        refine x_then_ret ?_
        refine x_block_ret ?_
        refine x_then_ret ?_
        rotate_left
        refine c_skip ?_
        refine x_next ?_
        refine c_seq ?_
        refine c_region ?_
        refine w_pure (y_assign rfl) rfl ?_
        refine w_nil ?_
        refine x_next ?_
        refine c_region ?_
        refine w_pure (y_move rfl) rfl ?_
        refine w_pure (y_mul rfl rfl) rfl ?_
        refine w_pure (y_move rfl) rfl ?_
        refine w_pure (y_add rfl rfl) rfl ?_
        refine w_pure (y_assign rfl) rfl ?_
        refine w_nil ?_
        refine x_block_norm ?_
        refine x_next ?_
        refine c_region ?_
        refine w_pure (y_move rfl) rfl ?_
        refine w_pure (y_add rfl rfl) rfl ?_
        refine w_pure (y_assign rfl) rfl ?_
        refine w_nil ?_
        rotate_left
        refine w_no rfl rfl rfl rfl ?_
        refine w_no rfl rfl rfl rfl ?_
        refine w_no rfl rfl rfl rfl ?_
        refine w_pure (y_pick_f rfl rfl) rfl ?_
        refine w_nil ?_
        refine x_next ?_
        refine c_false rfl ?_
        refine c_skip ?_
        refine x_next ?_
        refine c_seq ?_
        refine c_seq ?_
        refine c_region ?_
        refine w_pure (y_move rfl) rfl ?_
        refine w_pure (y_eq rfl rfl) rfl ?_
        refine w_pure (y_move rfl) rfl ?_
        (refine w_part_dec rfl rfl (fun hc35 => ?_) (fun hc35 => ?_) <;> try (first | exact absurd rfl hc35 | contradiction | exact Bool.noConfusion (show false = true from hc35.symm.trans (by assumption)) | exact Bool.noConfusion (show true = false from hc35.symm.trans (by assumption)) | (exfalso; omega) | (exfalso; simp only [*, Bool.not_true, Bool.not_false, reduceCtorEq] at hc35; done)))
        refine w_yes rfl rfl ?_
        refine w_pure (y_move rfl) rfl ?_
        refine w_yes rfl rfl ?_
        refine w_pure (y_not rfl) rfl ?_
        refine w_pure (y_pick_t rfl rfl) rfl ?_
        refine w_pure (y_move rfl) rfl ?_
        refine w_yes rfl rfl ?_
        refine w_pure (y_move rfl) rfl ?_
        refine w_yes rfl rfl ?_
        refine w_pure (y_not rfl) rfl ?_
        refine w_pure (y_pick_t rfl rfl) rfl ?_
        refine w_nil ?_
        refine x_next ?_
        refine c_true rfl ?_
        refine c_exit ?_
        refine x_then_exit ?_
        refine x_block_hit ?_
        refine x_next ?_
        refine c_region ?_
        refine w_pure (y_move rfl) rfl ?_
        refine w_pure (y_add rfl rfl) rfl ?_
        refine w_pure (y_assign rfl) rfl ?_
        refine w_nil ?_
        rotate_left
        refine w_no rfl rfl rfl rfl ?_
        refine w_no rfl rfl rfl rfl ?_
        refine w_pure (y_pick_f rfl rfl) rfl ?_
        refine w_pure (y_move rfl) rfl ?_
        refine w_no rfl rfl rfl rfl ?_
        refine w_no rfl rfl rfl rfl ?_
        refine w_pure (y_pick_f rfl rfl) rfl ?_
        refine w_nil ?_
        refine x_next ?_
        refine c_false rfl ?_
        refine c_skip ?_
        refine x_next ?_
        refine c_seq ?_
        refine c_region ?_
        refine w_pure (y_move rfl) rfl ?_
        refine w_val rfl rfl rfl (l03Digit_c _) rfl (fun w43 hx43 hz43 => ?_)
        have hz_hx43 := hx43.size
        replace E2 := E2.trans hx43
        replace h2 := h2.ext hx43
        replace h := h.ext hx43
        replace E := E.trans hx43
        refine w_pure (y_assign rfl) rfl ?_
        refine w_nil ?_
        refine x_next ?_
        refine c_seq ?_
        refine c_seq ?_
        refine c_region ?_
        refine w_pure (y_move rfl) rfl ?_
        refine w_pure (y_lt rfl rfl) rfl ?_
        refine w_nil ?_
        refine x_next ?_
        (refine c_dec rfl (fun hc45 => ?_) (fun hc45 => ?_) <;> try (first | exact absurd rfl hc45 | contradiction | exact Bool.noConfusion (show false = true from hc45.symm.trans (by assumption)) | exact Bool.noConfusion (show true = false from hc45.symm.trans (by assumption)) | (exfalso; omega) | (exfalso; simp only [*, Bool.not_true, Bool.not_false, reduceCtorEq] at hc45; done)))
        refine c_seq ?_
        refine c_region ?_
        refine w_pure (y_assign rfl) rfl ?_
        refine w_pure (y_assign rfl) rfl ?_
        refine w_nil ?_
        refine x_next ?_
        refine c_ret ?_
        refine x_then_ret ?_
        refine x_block_ret ?_
        refine x_then_ret ?_
        refine x_then_ret ?_
        refine x_block_ret ?_
        refine x_then_ret ?_
        rotate_left
        refine c_skip ?_
        refine x_next ?_
        refine c_seq ?_
        refine c_region ?_
        refine w_pure (y_assign rfl) rfl ?_
        refine w_nil ?_
        refine x_next ?_
        refine c_region ?_
        refine w_pure (y_move rfl) rfl ?_
        refine w_pure (y_mul rfl rfl) rfl ?_
        refine w_pure (y_move rfl) rfl ?_
        refine w_pure (y_add rfl rfl) rfl ?_
        refine w_pure (y_assign rfl) rfl ?_
        refine w_nil ?_
        refine x_block_norm ?_
        refine x_next ?_
        refine c_region ?_
        refine w_pure (y_move rfl) rfl ?_
        refine w_pure (y_add rfl rfl) rfl ?_
        refine w_pure (y_assign rfl) rfl ?_
        refine w_nil ?_
        rotate_left
      all_goals first
        | (refine x_retv [_, _] rfl ⟨rfl, rfl, trivial⟩ ⟨?_, E.go⟩
           have hN : numL xs = (0, false) := by
             rw [← hS1]
             first
               | (rw [numS_last (by omega)]; first | exact numE_4 (by assumption) (by assumption) | exact numE_2 (by first | assumption | exact Decidable.not_not.1 (by assumption)) (by first | exact fun h => absurd h.2 (by decide) | exact fun h => absurd h.1 (by assumption)) (by assumption))
               | rw [numS_step (xs := xs) (i := i.toNat) (by omega), if_neg (by first | exact fun h => absurd h.2 (by decide) | exact fun h => absurd h.1 (by assumption)), if_pos (by assumption)]
           rw [hN]; rfl)
        | (refine x_again (_, _, _, i + 1) (by repeat (first | exact trivial | refine ⟨rfl, ?_⟩)) ⟨E2.go, by assumption, by dsimp only; omega, by dsimp only; omega, by dsimp only; omega, by dsimp only; rw [hpw]; omega, ?_, ?_⟩ (by dsimp only; omega)
           · dsimp only
             first
               | exact fun h => absurd h (by omega)
               | exact fun h => ⟨rfl, by rw [← hS1, numS_step (xs := xs) (i := i.toNat) (by omega), e1, if_pos ⟨by assumption, rfl⟩]⟩
               | exact fun h => ⟨rfl, by rw [← hS1, numS_step (xs := xs) (i := i.toNat) (by omega), e1, if_neg (by first | exact fun h => absurd h.2 (by decide) | exact fun h => absurd h.1 (by assumption)), if_neg (by assumption)]⟩
           · dsimp only
             first
               | exact fun h => absurd h (by omega)
               | (intro h
                  rw [← hS1, numS_last (by omega)]
                  first
                    | exact (numE_5 (by assumption) (by assumption)).symm
                    | exact (numE_1 (by first | assumption | exact Decidable.not_not.1 (by assumption)) (by assumption) rfl).symm
                    | exact (numE_3 (by first | assumption | exact Decidable.not_not.1 (by assumption)) (by first | exact fun h => absurd h.2 (by decide) | exact fun h => absurd h.1 (by assumption)) (by assumption)).symm))
    · focus
        have ht_h2 := h2.top
        have hz_hx2 := hx2.size
        replace h := h.ext hx2
        replace E := E.trans hx2
        refine c_seq ?_
        refine c_seq ?_
        refine c_region ?_
        refine w_pure (y_move rfl) rfl ?_
        refine w_pure (y_move rfl) rfl ?_
        refine w_pure (y_len rfl) rfl ?_
        refine w_pure (y_lt rfl rfl) rfl ?_
        refine w_nil ?_
        refine x_next ?_
        (refine c_dec rfl (fun hc13 => ?_) (fun hc13 => ?_) <;> try (first | exact absurd rfl hc13 | contradiction | exact Bool.noConfusion (show false = true from hc13.symm.trans (by assumption)) | exact Bool.noConfusion (show true = false from hc13.symm.trans (by assumption)) | (exfalso; omega) | (exfalso; simp only [*, Bool.not_true, Bool.not_false, reduceCtorEq] at hc13; done)))
        refine c_skip ?_
        refine x_next ?_
        refine c_seq ?_
        refine c_block ?_
        refine c_seq ?_
        refine c_region ?_
        refine w_pure (y_move rfl) rfl ?_
        refine w_pure (y_move rfl) rfl ?_
        refine w_pure (y_index rfl rfl) rfl ?_
        refine w_pure (y_load_int rfl) rfl ?_
        refine w_pure (y_assign rfl) rfl ?_
        refine w_nil ?_
        refine x_next ?_
        refine c_seq ?_
        refine c_seq ?_
        refine c_region ?_
        refine w_pure (y_move rfl) rfl ?_
        refine w_pure (y_move rfl) rfl ?_
        refine w_pure (y_len rfl) rfl ?_
        refine w_pure (y_sub rfl rfl) rfl ?_
        refine w_pure (y_eq rfl rfl) rfl ?_
        refine w_pure (y_move rfl) rfl ?_
        (refine w_part_dec rfl rfl (fun hc26 => ?_) (fun hc26 => ?_) <;> try (first | exact absurd rfl hc26 | contradiction | exact Bool.noConfusion (show false = true from hc26.symm.trans (by assumption)) | exact Bool.noConfusion (show true = false from hc26.symm.trans (by assumption)) | (exfalso; omega) | (exfalso; simp only [*, Bool.not_true, Bool.not_false, reduceCtorEq] at hc26; done)))
        refine w_yes rfl rfl ?_
        refine w_pure (y_move rfl) rfl ?_
        refine w_yes rfl rfl ?_
        refine w_pure (y_and rfl rfl) rfl ?_
        refine w_yes rfl rfl ?_
        refine w_pure (y_ne rfl rfl) rfl ?_
        refine w_pure (y_pick_t rfl rfl) rfl ?_
        refine w_nil ?_
        refine x_next ?_
        (refine c_dec rfl (fun hc29 => ?_) (fun hc29 => ?_) <;> try (first | exact absurd rfl hc29 | contradiction | exact Bool.noConfusion (show false = true from hc29.symm.trans (by assumption)) | exact Bool.noConfusion (show true = false from hc29.symm.trans (by assumption)) | (exfalso; omega) | (exfalso; simp only [*, Bool.not_true, Bool.not_false, reduceCtorEq] at hc29; done)))
        refine c_seq ?_
        refine c_region ?_
        refine w_pure (y_assign rfl) rfl ?_
        refine w_nil ?_
        refine x_next ?_
        refine c_region ?_
        refine w_pure (y_move rfl) rfl ?_
        refine w_pure (y_sub rfl rfl) rfl ?_
        refine w_pure (y_assign rfl) rfl ?_
        refine w_nil ?_
        refine x_next ?_
        refine c_seq ?_
        refine c_seq ?_
        refine c_region ?_
        refine w_pure (y_move rfl) rfl ?_
        refine w_pure (y_eq rfl rfl) rfl ?_
        refine w_pure (y_move rfl) rfl ?_
        (refine w_part_dec rfl rfl (fun hc35 => ?_) (fun hc35 => ?_) <;> try (first | exact absurd rfl hc35 | contradiction | exact Bool.noConfusion (show false = true from hc35.symm.trans (by assumption)) | exact Bool.noConfusion (show true = false from hc35.symm.trans (by assumption)) | (exfalso; omega) | (exfalso; simp only [*, Bool.not_true, Bool.not_false, reduceCtorEq] at hc35; done)))
        refine w_yes rfl rfl ?_
        refine w_pure (y_move rfl) rfl ?_
        refine w_yes rfl rfl ?_
        refine w_pure (y_not rfl) rfl ?_
        refine w_pure (y_pick_t rfl rfl) rfl ?_
        refine w_pure (y_move rfl) rfl ?_
        refine w_no rfl rfl rfl rfl ?_
        refine w_no rfl rfl rfl rfl ?_
        refine w_pure (y_pick_f rfl rfl) rfl ?_
        refine w_nil ?_
        refine x_next ?_
        refine c_false rfl ?_
        refine c_skip ?_
        refine x_next ?_
        refine c_seq ?_
        refine c_region ?_
        refine w_pure (y_move rfl) rfl ?_
        refine w_val rfl rfl rfl (l03Digit_c _) rfl (fun w43 hx43 hz43 => ?_)
        have hz_hx43 := hx43.size
        replace E2 := E2.trans hx43
        replace h2 := h2.ext hx43
        replace h := h.ext hx43
        replace E := E.trans hx43
        refine w_pure (y_assign rfl) rfl ?_
        refine w_nil ?_
        refine x_next ?_
        refine c_seq ?_
        refine c_seq ?_
        refine c_region ?_
        refine w_pure (y_move rfl) rfl ?_
        refine w_pure (y_lt rfl rfl) rfl ?_
        refine w_nil ?_
        refine x_next ?_
        (refine c_dec rfl (fun hc45 => ?_) (fun hc45 => ?_) <;> try (first | exact absurd rfl hc45 | contradiction | exact Bool.noConfusion (show false = true from hc45.symm.trans (by assumption)) | exact Bool.noConfusion (show true = false from hc45.symm.trans (by assumption)) | (exfalso; omega) | (exfalso; simp only [*, Bool.not_true, Bool.not_false, reduceCtorEq] at hc45; done)))
        refine c_seq ?_
        refine c_region ?_
        refine w_pure (y_assign rfl) rfl ?_
        refine w_pure (y_assign rfl) rfl ?_
        refine w_nil ?_
        refine x_next ?_
        refine c_ret ?_
        refine x_then_ret ?_
        refine x_block_ret ?_
        refine x_then_ret ?_
        refine x_then_ret ?_
        refine x_block_ret ?_
        refine x_then_ret ?_
        rotate_left
        refine c_skip ?_
        refine x_next ?_
        refine c_seq ?_
        refine c_region ?_
        refine w_pure (y_assign rfl) rfl ?_
        refine w_nil ?_
        refine x_next ?_
        refine c_region ?_
        refine w_pure (y_move rfl) rfl ?_
        refine w_pure (y_mul rfl rfl) rfl ?_
        refine w_pure (y_move rfl) rfl ?_
        refine w_pure (y_add rfl rfl) rfl ?_
        refine w_pure (y_assign rfl) rfl ?_
        refine w_nil ?_
        refine x_block_norm ?_
        refine x_next ?_
        refine c_region ?_
        refine w_pure (y_move rfl) rfl ?_
        refine w_pure (y_add rfl rfl) rfl ?_
        refine w_pure (y_assign rfl) rfl ?_
        refine w_nil ?_
        rotate_left
        refine w_no rfl rfl rfl rfl ?_
        refine w_no rfl rfl rfl rfl ?_
        refine w_pure (y_pick_f rfl rfl) rfl ?_
        refine w_pure (y_move rfl) rfl ?_
        refine w_no rfl rfl rfl rfl ?_
        refine w_no rfl rfl rfl rfl ?_
        refine w_pure (y_pick_f rfl rfl) rfl ?_
        refine w_nil ?_
        refine x_next ?_
        refine c_false rfl ?_
        refine c_skip ?_
        refine x_next ?_
        refine c_seq ?_
        refine c_region ?_
        refine w_pure (y_move rfl) rfl ?_
        refine w_val rfl rfl rfl (l03Digit_c _) rfl (fun w43 hx43 hz43 => ?_)
        have hz_hx43 := hx43.size
        replace E2 := E2.trans hx43
        replace h2 := h2.ext hx43
        replace h := h.ext hx43
        replace E := E.trans hx43
        refine w_pure (y_assign rfl) rfl ?_
        refine w_nil ?_
        refine x_next ?_
        refine c_seq ?_
        refine c_seq ?_
        refine c_region ?_
        refine w_pure (y_move rfl) rfl ?_
        refine w_pure (y_lt rfl rfl) rfl ?_
        refine w_nil ?_
        refine x_next ?_
        (refine c_dec rfl (fun hc45 => ?_) (fun hc45 => ?_) <;> try (first | exact absurd rfl hc45 | contradiction | exact Bool.noConfusion (show false = true from hc45.symm.trans (by assumption)) | exact Bool.noConfusion (show true = false from hc45.symm.trans (by assumption)) | (exfalso; omega) | (exfalso; simp only [*, Bool.not_true, Bool.not_false, reduceCtorEq] at hc45; done)))
        refine c_seq ?_
        refine c_region ?_
        refine w_pure (y_assign rfl) rfl ?_
        refine w_pure (y_assign rfl) rfl ?_
        refine w_nil ?_
        refine x_next ?_
        refine c_ret ?_
        refine x_then_ret ?_
        refine x_block_ret ?_
        refine x_then_ret ?_
        refine x_then_ret ?_
        refine x_block_ret ?_
        refine x_then_ret ?_
        rotate_left
        refine c_skip ?_
        refine x_next ?_
        refine c_seq ?_
        refine c_region ?_
        refine w_pure (y_assign rfl) rfl ?_
        refine w_nil ?_
        refine x_next ?_
        refine c_region ?_
        refine w_pure (y_move rfl) rfl ?_
        refine w_pure (y_mul rfl rfl) rfl ?_
        refine w_pure (y_move rfl) rfl ?_
        refine w_pure (y_add rfl rfl) rfl ?_
        refine w_pure (y_assign rfl) rfl ?_
        refine w_nil ?_
        refine x_block_norm ?_
        refine x_next ?_
        refine c_region ?_
        refine w_pure (y_move rfl) rfl ?_
        refine w_pure (y_add rfl rfl) rfl ?_
        refine w_pure (y_assign rfl) rfl ?_
        refine w_nil ?_
        rotate_left
        refine c_skip ?_
        refine x_next ?_
        refine c_seq ?_
        refine c_seq ?_
        refine c_region ?_
        refine w_pure (y_move rfl) rfl ?_
        refine w_pure (y_eq rfl rfl) rfl ?_
        refine w_pure (y_move rfl) rfl ?_
        (refine w_part_dec rfl rfl (fun hc35 => ?_) (fun hc35 => ?_) <;> try (first | exact absurd rfl hc35 | contradiction | exact Bool.noConfusion (show false = true from hc35.symm.trans (by assumption)) | exact Bool.noConfusion (show true = false from hc35.symm.trans (by assumption)) | (exfalso; omega) | (exfalso; simp only [*, Bool.not_true, Bool.not_false, reduceCtorEq] at hc35; done)))
        refine w_yes rfl rfl ?_
        refine w_pure (y_move rfl) rfl ?_
        refine w_yes rfl rfl ?_
        refine w_pure (y_not rfl) rfl ?_
        refine w_pure (y_pick_t rfl rfl) rfl ?_
        refine w_pure (y_move rfl) rfl ?_
        refine w_no rfl rfl rfl rfl ?_
        refine w_no rfl rfl rfl rfl ?_
        refine w_pure (y_pick_f rfl rfl) rfl ?_
        refine w_nil ?_
        refine x_next ?_
        refine c_false rfl ?_
        refine c_skip ?_
        refine x_next ?_
        refine c_seq ?_
        refine c_region ?_
        refine w_pure (y_move rfl) rfl ?_
        refine w_val rfl rfl rfl (l03Digit_c _) rfl (fun w43 hx43 hz43 => ?_)
        have hz_hx43 := hx43.size
        replace E2 := E2.trans hx43
        replace h2 := h2.ext hx43
        replace h := h.ext hx43
        replace E := E.trans hx43
        refine w_pure (y_assign rfl) rfl ?_
        refine w_nil ?_
        refine x_next ?_
        refine c_seq ?_
        refine c_seq ?_
        refine c_region ?_
        refine w_pure (y_move rfl) rfl ?_
        refine w_pure (y_lt rfl rfl) rfl ?_
        refine w_nil ?_
        refine x_next ?_
        (refine c_dec rfl (fun hc45 => ?_) (fun hc45 => ?_) <;> try (first | exact absurd rfl hc45 | contradiction | exact Bool.noConfusion (show false = true from hc45.symm.trans (by assumption)) | exact Bool.noConfusion (show true = false from hc45.symm.trans (by assumption)) | (exfalso; omega) | (exfalso; simp only [*, Bool.not_true, Bool.not_false, reduceCtorEq] at hc45; done)))
        refine c_seq ?_
        refine c_region ?_
        refine w_pure (y_assign rfl) rfl ?_
        refine w_pure (y_assign rfl) rfl ?_
        refine w_nil ?_
        refine x_next ?_
        refine c_ret ?_
        refine x_then_ret ?_
        refine x_block_ret ?_
        refine x_then_ret ?_
        refine x_then_ret ?_
        refine x_block_ret ?_
        refine x_then_ret ?_
        rotate_left
        refine c_skip ?_
        refine x_next ?_
        refine c_seq ?_
        refine c_region ?_
        refine w_pure (y_assign rfl) rfl ?_
        refine w_nil ?_
        refine x_next ?_
        refine c_region ?_
        refine w_pure (y_move rfl) rfl ?_
        refine w_pure (y_mul rfl rfl) rfl ?_
        refine w_pure (y_move rfl) rfl ?_
        refine w_pure (y_add rfl rfl) rfl ?_
        refine w_pure (y_assign rfl) rfl ?_
        refine w_nil ?_
        refine x_block_norm ?_
        refine x_next ?_
        refine c_region ?_
        refine w_pure (y_move rfl) rfl ?_
        refine w_pure (y_add rfl rfl) rfl ?_
        refine w_pure (y_assign rfl) rfl ?_
        refine w_nil ?_
        rotate_left
        refine w_no rfl rfl rfl rfl ?_
        refine w_no rfl rfl rfl rfl ?_
        refine w_pure (y_pick_f rfl rfl) rfl ?_
        refine w_pure (y_move rfl) rfl ?_
        refine w_no rfl rfl rfl rfl ?_
        refine w_no rfl rfl rfl rfl ?_
        refine w_pure (y_pick_f rfl rfl) rfl ?_
        refine w_nil ?_
        refine x_next ?_
        refine c_false rfl ?_
        refine c_skip ?_
        refine x_next ?_
        refine c_seq ?_
        refine c_region ?_
        refine w_pure (y_move rfl) rfl ?_
        refine w_val rfl rfl rfl (l03Digit_c _) rfl (fun w43 hx43 hz43 => ?_)
        have hz_hx43 := hx43.size
        replace E2 := E2.trans hx43
        replace h2 := h2.ext hx43
        replace h := h.ext hx43
        replace E := E.trans hx43
        refine w_pure (y_assign rfl) rfl ?_
        refine w_nil ?_
        refine x_next ?_
        refine c_seq ?_
        refine c_seq ?_
        refine c_region ?_
        refine w_pure (y_move rfl) rfl ?_
        refine w_pure (y_lt rfl rfl) rfl ?_
        refine w_nil ?_
        refine x_next ?_
        (refine c_dec rfl (fun hc45 => ?_) (fun hc45 => ?_) <;> try (first | exact absurd rfl hc45 | contradiction | exact Bool.noConfusion (show false = true from hc45.symm.trans (by assumption)) | exact Bool.noConfusion (show true = false from hc45.symm.trans (by assumption)) | (exfalso; omega) | (exfalso; simp only [*, Bool.not_true, Bool.not_false, reduceCtorEq] at hc45; done)))
        refine c_seq ?_
        refine c_region ?_
        refine w_pure (y_assign rfl) rfl ?_
        refine w_pure (y_assign rfl) rfl ?_
        refine w_nil ?_
        refine x_next ?_
        refine c_ret ?_
        refine x_then_ret ?_
        refine x_block_ret ?_
        refine x_then_ret ?_
        refine x_then_ret ?_
        refine x_block_ret ?_
        refine x_then_ret ?_
        rotate_left
        refine c_skip ?_
        refine x_next ?_
        refine c_seq ?_
        refine c_region ?_
        refine w_pure (y_assign rfl) rfl ?_
        refine w_nil ?_
        refine x_next ?_
        refine c_region ?_
        refine w_pure (y_move rfl) rfl ?_
        refine w_pure (y_mul rfl rfl) rfl ?_
        refine w_pure (y_move rfl) rfl ?_
        refine w_pure (y_add rfl rfl) rfl ?_
        refine w_pure (y_assign rfl) rfl ?_
        refine w_nil ?_
        refine x_block_norm ?_
        refine x_next ?_
        refine c_region ?_
        refine w_pure (y_move rfl) rfl ?_
        refine w_pure (y_add rfl rfl) rfl ?_
        refine w_pure (y_assign rfl) rfl ?_
        refine w_nil ?_
        rotate_left
        refine w_no rfl rfl rfl rfl ?_
        refine w_no rfl rfl rfl rfl ?_
        refine w_no rfl rfl rfl rfl ?_
        refine w_pure (y_pick_f rfl rfl) rfl ?_
        refine w_nil ?_
        refine x_next ?_
        refine c_false rfl ?_
        refine c_skip ?_
        refine x_next ?_
        refine c_seq ?_
        refine c_seq ?_
        refine c_region ?_
        refine w_pure (y_move rfl) rfl ?_
        refine w_pure (y_eq rfl rfl) rfl ?_
        refine w_pure (y_move rfl) rfl ?_
        (refine w_part_dec rfl rfl (fun hc35 => ?_) (fun hc35 => ?_) <;> try (first | exact absurd rfl hc35 | contradiction | exact Bool.noConfusion (show false = true from hc35.symm.trans (by assumption)) | exact Bool.noConfusion (show true = false from hc35.symm.trans (by assumption)) | (exfalso; omega) | (exfalso; simp only [*, Bool.not_true, Bool.not_false, reduceCtorEq] at hc35; done)))
        refine w_yes rfl rfl ?_
        refine w_pure (y_move rfl) rfl ?_
        refine w_yes rfl rfl ?_
        refine w_pure (y_not rfl) rfl ?_
        refine w_pure (y_pick_t rfl rfl) rfl ?_
        refine w_pure (y_move rfl) rfl ?_
        refine w_no rfl rfl rfl rfl ?_
        refine w_no rfl rfl rfl rfl ?_
        refine w_pure (y_pick_f rfl rfl) rfl ?_
        refine w_nil ?_
        refine x_next ?_
        refine c_false rfl ?_
        refine c_skip ?_
        refine x_next ?_
        refine c_seq ?_
        refine c_region ?_
        refine w_pure (y_move rfl) rfl ?_
        refine w_val rfl rfl rfl (l03Digit_c _) rfl (fun w43 hx43 hz43 => ?_)
        have hz_hx43 := hx43.size
        replace E2 := E2.trans hx43
        replace h2 := h2.ext hx43
        replace h := h.ext hx43
        replace E := E.trans hx43
        refine w_pure (y_assign rfl) rfl ?_
        refine w_nil ?_
        refine x_next ?_
        refine c_seq ?_
        refine c_seq ?_
        refine c_region ?_
        refine w_pure (y_move rfl) rfl ?_
        refine w_pure (y_lt rfl rfl) rfl ?_
        refine w_nil ?_
        refine x_next ?_
        (refine c_dec rfl (fun hc45 => ?_) (fun hc45 => ?_) <;> try (first | exact absurd rfl hc45 | contradiction | exact Bool.noConfusion (show false = true from hc45.symm.trans (by assumption)) | exact Bool.noConfusion (show true = false from hc45.symm.trans (by assumption)) | (exfalso; omega) | (exfalso; simp only [*, Bool.not_true, Bool.not_false, reduceCtorEq] at hc45; done)))
        refine c_seq ?_
        refine c_region ?_
        refine w_pure (y_assign rfl) rfl ?_
        refine w_pure (y_assign rfl) rfl ?_
        refine w_nil ?_
        refine x_next ?_
        refine c_ret ?_
        refine x_then_ret ?_
        refine x_block_ret ?_
        refine x_then_ret ?_
        refine x_then_ret ?_
        refine x_block_ret ?_
        refine x_then_ret ?_
        rotate_left
        refine c_skip ?_
        refine x_next ?_
        refine c_seq ?_
        refine c_region ?_
        refine w_pure (y_assign rfl) rfl ?_
        refine w_nil ?_
        refine x_next ?_
        refine c_region ?_
        refine w_pure (y_move rfl) rfl ?_
        refine w_pure (y_mul rfl rfl) rfl ?_
        refine w_pure (y_move rfl) rfl ?_
        refine w_pure (y_add rfl rfl) rfl ?_
        refine w_pure (y_assign rfl) rfl ?_
        refine w_nil ?_
        refine x_block_norm ?_
        refine x_next ?_
        refine c_region ?_
        refine w_pure (y_move rfl) rfl ?_
        refine w_pure (y_add rfl rfl) rfl ?_
        refine w_pure (y_assign rfl) rfl ?_
        refine w_nil ?_
        rotate_left
        refine w_no rfl rfl rfl rfl ?_
        refine w_no rfl rfl rfl rfl ?_
        refine w_pure (y_pick_f rfl rfl) rfl ?_
        refine w_pure (y_move rfl) rfl ?_
        refine w_no rfl rfl rfl rfl ?_
        refine w_no rfl rfl rfl rfl ?_
        refine w_pure (y_pick_f rfl rfl) rfl ?_
        refine w_nil ?_
        refine x_next ?_
        refine c_false rfl ?_
        refine c_skip ?_
        refine x_next ?_
        refine c_seq ?_
        refine c_region ?_
        refine w_pure (y_move rfl) rfl ?_
        refine w_val rfl rfl rfl (l03Digit_c _) rfl (fun w43 hx43 hz43 => ?_)
        have hz_hx43 := hx43.size
        replace E2 := E2.trans hx43
        replace h2 := h2.ext hx43
        replace h := h.ext hx43
        replace E := E.trans hx43
        refine w_pure (y_assign rfl) rfl ?_
        refine w_nil ?_
        refine x_next ?_
        refine c_seq ?_
        refine c_seq ?_
        refine c_region ?_
        refine w_pure (y_move rfl) rfl ?_
        refine w_pure (y_lt rfl rfl) rfl ?_
        refine w_nil ?_
        refine x_next ?_
        (refine c_dec rfl (fun hc45 => ?_) (fun hc45 => ?_) <;> try (first | exact absurd rfl hc45 | contradiction | exact Bool.noConfusion (show false = true from hc45.symm.trans (by assumption)) | exact Bool.noConfusion (show true = false from hc45.symm.trans (by assumption)) | (exfalso; omega) | (exfalso; simp only [*, Bool.not_true, Bool.not_false, reduceCtorEq] at hc45; done)))
        refine c_seq ?_
        refine c_region ?_
        refine w_pure (y_assign rfl) rfl ?_
        refine w_pure (y_assign rfl) rfl ?_
        refine w_nil ?_
        refine x_next ?_
        refine c_ret ?_
        refine x_then_ret ?_
        refine x_block_ret ?_
        refine x_then_ret ?_
        refine x_then_ret ?_
        refine x_block_ret ?_
        refine x_then_ret ?_
        rotate_left
        refine c_skip ?_
        refine x_next ?_
        refine c_seq ?_
        refine c_region ?_
        refine w_pure (y_assign rfl) rfl ?_
        refine w_nil ?_
        refine x_next ?_
        refine c_region ?_
        refine w_pure (y_move rfl) rfl ?_
        refine w_pure (y_mul rfl rfl) rfl ?_
        refine w_pure (y_move rfl) rfl ?_
        refine w_pure (y_add rfl rfl) rfl ?_
        refine w_pure (y_assign rfl) rfl ?_
        refine w_nil ?_
        refine x_block_norm ?_
        refine x_next ?_
        refine c_region ?_
        refine w_pure (y_move rfl) rfl ?_
        refine w_pure (y_add rfl rfl) rfl ?_
        refine w_pure (y_assign rfl) rfl ?_
        refine w_nil ?_
        rotate_left
      all_goals first
        | (refine x_retv [_, _] rfl ⟨rfl, rfl, trivial⟩ ⟨?_, E.go⟩
           have hN : numL xs = (0, false) := by
             rw [← hS1]
             first
               | (rw [numS_last (by omega)]; first | exact numE_4 (by assumption) (by assumption) | exact numE_2 (by first | assumption | exact Decidable.not_not.1 (by assumption)) (by first | exact fun h => absurd h.2 (by decide) | exact fun h => absurd h.1 (by assumption)) (by assumption))
               | rw [numS_step (xs := xs) (i := i.toNat) (by omega), if_neg (by first | exact fun h => absurd h.2 (by decide) | exact fun h => absurd h.1 (by assumption)), if_pos (by assumption)]
           rw [hN]; rfl)
        | (refine x_again (_, _, _, i + 1) (by repeat (first | exact trivial | refine ⟨rfl, ?_⟩)) ⟨E2.go, by assumption, by dsimp only; omega, by dsimp only; omega, by dsimp only; omega, by dsimp only; rw [hpw]; omega, ?_, ?_⟩ (by dsimp only; omega)
           · dsimp only
             first
               | exact fun h => absurd h (by omega)
               | exact fun h => ⟨rfl, by rw [← hS1, numS_step (xs := xs) (i := i.toNat) (by omega), e1, if_pos ⟨by assumption, rfl⟩]⟩
               | exact fun h => ⟨rfl, by rw [← hS1, numS_step (xs := xs) (i := i.toNat) (by omega), e1, if_neg (by first | exact fun h => absurd h.2 (by decide) | exact fun h => absurd h.1 (by assumption)), if_neg (by assumption)]⟩
           · dsimp only
             first
               | exact fun h => absurd h (by omega)
               | (intro h
                  rw [← hS1, numS_last (by omega)]
                  first
                    | exact (numE_5 (by assumption) (by assumption)).symm
                    | exact (numE_1 (by first | assumption | exact Decidable.not_not.1 (by assumption)) (by assumption) rfl).symm
                    | exact (numE_3 (by first | assumption | exact Decidable.not_not.1 (by assumption)) (by first | exact fun h => absurd h.2 (by decide) | exact fun h => absurd h.1 (by assumption)) (by assumption)).symm))
  · have hZ := hZ (by omega)
    have hn2 : n ≤ 999999999999 := by
      have h1 : (10 : Int) ^ i.toNat ≤ 10 ^ 12 := pow10_le (by omega)
      have e : (10 : Int) ^ 12 = 1000000000000 := by decide
      omega
    focus
      have ht_h2 := h2.top
      have hz_hx2 := hx2.size
      replace h := h.ext hx2
      replace E := E.trans hx2
      refine c_seq ?_
      refine c_seq ?_
      refine c_region ?_
      refine w_pure (y_move rfl) rfl ?_
      refine w_pure (y_move rfl) rfl ?_
      refine w_pure (y_len rfl) rfl ?_
      refine w_pure (y_lt rfl rfl) rfl ?_
      refine w_nil ?_
      refine x_next ?_
      (refine c_dec rfl (fun hc13 => ?_) (fun hc13 => ?_) <;> try (first | exact absurd rfl hc13 | contradiction | exact Bool.noConfusion (show false = true from hc13.symm.trans (by assumption)) | exact Bool.noConfusion (show true = false from hc13.symm.trans (by assumption)) | (exfalso; omega) | (exfalso; simp only [*, Bool.not_true, Bool.not_false, reduceCtorEq] at hc13; done)))
      refine c_exit ?_
      refine x_then_exit ?_
      refine x_then_exit ?_
      refine x_block_hit ?_
      refine x_next ?_
      refine c_seq ?_
      refine c_seq ?_
      refine c_region ?_
      refine w_pure (y_move rfl) rfl ?_
      refine w_nil ?_
      refine x_next ?_
      (refine c_if rfl (fun hc50 => ?_) (fun hc50 => ?_) <;> try (first | exact absurd rfl hc50 | contradiction | exact Bool.noConfusion (show false = true from hc50.symm.trans (by assumption)) | exact Bool.noConfusion (show true = false from hc50.symm.trans (by assumption)) | (exfalso; omega) | (exfalso; simp only [*, Bool.not_true, Bool.not_false, reduceCtorEq] at hc50; done)))
      refine c_seq ?_
      refine c_region ?_
      refine w_pure (y_move rfl) rfl ?_
      refine w_pure (y_neg rfl) rfl ?_
      refine w_pure (y_move rfl) rfl ?_
      refine w_pure (y_ne rfl rfl) rfl ?_
      refine w_pure (y_assign rfl) rfl ?_
      refine w_pure (y_assign rfl) rfl ?_
      refine w_nil ?_
      refine x_next ?_
      refine c_ret ?_
      refine x_then_ret ?_
      rotate_left
      refine c_skip ?_
      refine x_next ?_
      refine c_seq ?_
      refine c_region ?_
      refine w_pure (y_move rfl) rfl ?_
      refine w_pure (y_assign rfl) rfl ?_
      refine w_pure (y_assign rfl) rfl ?_
      refine w_nil ?_
      refine x_next ?_
      refine c_ret ?_
      rotate_left
    · refine x_retv [_, _] rfl ⟨rfl, rfl, trivial⟩ ⟨?_, E.go⟩
      rw [← hZ, hc50]; rfl
    · refine x_retv [_, _] rfl ⟨rfl, rfl, trivial⟩ ⟨?_, E.go⟩
      rw [← hZ, hc50]; rfl
end
end Go.Proofs.YtihnhelkfiaimaaGreatDoor

/- Contracts: numbers punched into fields. -/
import Derived.Test.YtdkedajdgllilaaDoorSerA
namespace Go.Proofs.YtdkedajdgllilaaDoor
open Go Go.Gw
set_option linter.unusedVariables false
set_option linter.unusedSimpArgs false
theorem rep_set {m : Nat} {b : Int} {R : List Int} : (List.replicate (m + 1) (0 : Int) ++ R).set m b = List.replicate m 0 ++ ([b] ++ R) := by
  rw [List.replicate_succ', List.append_assoc, List.set_append_right _ _ (by simp), List.length_replicate, Nat.sub_self]; rfl
theorem take_put {xs D R : List Int} {c : Nat} {b : Int} (h : c < xs.length) : (xs.take (c + 1) ++ R ++ D).set c b = xs.take c ++ ([b] ++ R) ++ D := by
  have h1 : (xs.take c).length = c := by rw [List.length_take]; omega
  rw [List.take_add_one, List.getElem?_eq_getElem h, Option.toList_some, List.append_assoc, List.append_assoc, List.set_append_right _ _ (by omega), h1, Nat.sub_self]
  simp
section
variable {w : World} {lo hi B : Nat} {v : Value} {xs : List Int}
theorem l03Put_c (n k : Int) (hn : 0 ≤ n ∧ n ≤ 9223372036854775807 := by omega) (hk : 1 ≤ k ∧ k ≤ 1000 := by omega) : Ret Tryd.prog 74 [.int .i64 n, .int .i64 k] w fun u w' => ∃ d, u = .tuple #[d, .bool (decide (sft n k.toNat = 0))] ∧ Own w' 2 w.heap.size d (pun n k.toNat) ∧ Ext w w' := by
  have E : Since 0 0 w w := Since.refl 0 0 w
  refine ret_enter Tryd.func74 rfl Tryd.ntmps74 rfl ?_
  focus
    refine c_seq ?_
    refine c_region ?_
    refine w_pure (y_assign rfl) rfl ?_
    refine w_pure (y_assign rfl) rfl ?_
    refine w_nil ?_
    refine x_next ?_
    refine c_seq ?_
    refine c_region ?_
    refine w_pure (y_move rfl) rfl ?_
    refine w_make (α := Int) rfl rfl (k := fun v10 w10 ho10 hx10 hl10 hh10 hs10 => ?_)
    have hl_ho10 := ho10.lt
    have hz_hx10 := hx10.size
    replace E := E.trans hx10
    refine w_pure (y_assign rfl) rfl ?_
    refine w_nil ?_
    refine x_next ?_
    refine c_seq ?_
    refine c_region ?_
    refine w_pure (y_move rfl) rfl ?_
    refine w_pure (y_assign rfl) rfl ?_
    refine w_nil ?_
    refine x_next ?_
    refine c_seq ?_
    refine c_seq ?_
    refine c_region ?_
    refine w_pure (y_move rfl) rfl ?_
    refine w_pure (y_lt rfl rfl) rfl ?_
    refine w_nil ?_
    refine x_next ?_
    (refine c_dec rfl (fun hc13 => ?_) (fun hc13 => ?_) <;> try (first | exact absurd rfl hc13 | contradiction | exact Bool.noConfusion (show false = true from hc13.symm.trans (by assumption)) | exact Bool.noConfusion (show true = false from hc13.symm.trans (by assumption)) | (exfalso; omega) | (exfalso; simp only [*, Bool.not_true, Bool.not_false, reduceCtorEq] at hc13; done)))
    refine c_skip ?_
    refine x_next ?_
    refine c_seq ?_
    refine c_seq ?_
    refine c_region ?_
    refine w_pure (y_move rfl) rfl ?_
    refine w_pure (y_sub rfl rfl) rfl ?_
    refine w_pure (y_assign rfl) rfl ?_
    refine w_nil ?_
    refine x_next ?_
    refine c_block ?_
    rotate_left
  refine c_loopC (bL v10) (bH v10) (ι := Int × Int × List Int) (fun x => [(0, .int .i64 n), (1, .int .i64 k), (6, v10), (7, .int .i64 x.1), (8, .int .i64 x.2.1)])
    (fun x w' => Own w' 2 w.heap.size v10 (List.replicate (x.2.1 + 1).toNat 0 ++ x.2.2) ∧ -1 ≤ x.2.1 ∧ x.2.1 ≤ k - 1 ∧ 0 ≤ x.1 ∧ x.1 ≤ n ∧ pun x.1 (x.2.1 + 1).toNat ++ x.2.2 = pun n k.toNat ∧ sft x.1 (x.2.1 + 1).toNat = sft n k.toNat) (fun x => (x.2.1 + 1).toNat) (n, k - 1, [])
    (by repeat (first | exact trivial | refine ⟨rfl, ?_⟩)) ⟨by dsimp only; rw [List.append_nil, show k - 1 + 1 = k by omega]; exact Own.base (by assumption) (by omega), by dsimp only; omega, by dsimp only; omega, by dsimp only; omega, by dsimp only; omega, by dsimp only; rw [List.append_nil, show k - 1 + 1 = k by omega], by dsimp only; rw [show k - 1 + 1 = k by omega]⟩ ?_
  clear ho10
  rintro ⟨x, j, R⟩ wL hxL EL ⟨g1, hj0, hj1, hx0, hx1, hp, hs⟩
  dsimp only at *
  by_cases hj : 0 ≤ j
  · have ej : (j + 1).toNat = j.toNat + 1 := by omega
    have hrl : (List.replicate (j + 1).toNat (0 : Int) ++ R).length = j.toNat + 1 + R.length := by rw [List.length_append, List.length_replicate, ej]
    focus
      have hl_g1 := g1.lt
      have hz_hxL := hxL.size
      replace E := E.next hxL (by omega)
      refine c_seq ?_
      refine c_seq ?_
      refine c_region ?_
      refine w_pure (y_move rfl) rfl ?_
      refine w_pure (y_ge rfl rfl) rfl ?_
      refine w_nil ?_
      refine x_next ?_
      (refine c_dec rfl (fun hc19 => ?_) (fun hc19 => ?_) <;> try (first | exact absurd rfl hc19 | contradiction | exact Bool.noConfusion (show false = true from hc19.symm.trans (by assumption)) | exact Bool.noConfusion (show true = false from hc19.symm.trans (by assumption)) | (exfalso; omega) | (exfalso; simp only [*, Bool.not_true, Bool.not_false, reduceCtorEq] at hc19; done)))
      refine c_skip ?_
      refine x_next ?_
      refine c_seq ?_
      refine c_block ?_
      refine c_seq ?_
      refine c_region ?_
      refine w_pure (y_move rfl) rfl ?_
      refine w_pure (y_move rfl) rfl ?_
      refine w_pure (y_move rfl) rfl ?_
      refine w_pure (y_rem rfl rfl) rfl ?_
      refine w_pur rfl rfl rfl (l02Bit_c _) rfl ?_
      refine w_pure (y_index rfl rfl) rfl ?_
      refine w_store_own rfl rfl (next := fun ws21 hos21 hxs21 hss21 => ?_)
      (replace g1 := hos21; clear hos21)
      have hz_hxs21 := hxs21.size
      replace EL := EL.trans hxs21
      replace E := E.next hxs21 (by omega)
      refine w_nil ?_
      refine x_next ?_
      refine c_region ?_
      refine w_pure (y_move rfl) rfl ?_
      refine w_pure (y_quo rfl rfl) rfl ?_
      refine w_pure (y_assign rfl) rfl ?_
      refine w_nil ?_
      refine x_block_norm ?_
      refine x_next ?_
      refine c_region ?_
      refine w_pure (y_move rfl) rfl ?_
      refine w_pure (y_sub rfl rfl) rfl ?_
      refine w_pure (y_assign rfl) rfl ?_
      refine w_nil ?_
      rotate_left
    refine x_again (x / 10, j - 1, [bitI (x % 10)] ++ R) (by repeat (first | exact trivial | refine ⟨rfl, ?_⟩)) ⟨EL.go, ?_, by dsimp only; omega, by dsimp only; omega, by dsimp only; omega, by dsimp only; omega, ?_, ?_⟩ (by dsimp only; omega)
    · dsimp only
      rw [show (j - 1 + 1).toNat = j.toNat by omega, ← rep_set, ← ej]
      assumption
    · dsimp only
      rw [← hp, ej, pun, show (j - 1 + 1).toNat = j.toNat by omega, List.append_assoc]
    · dsimp only
      rw [← hs, ej, sft, show (j - 1 + 1).toNat = j.toNat by omega]
  · focus
      have hl_g1 := g1.lt
      have hz_hxL := hxL.size
      replace E := E.next hxL (by omega)
      refine c_seq ?_
      refine c_seq ?_
      refine c_region ?_
      refine w_pure (y_move rfl) rfl ?_
      refine w_pure (y_ge rfl rfl) rfl ?_
      refine w_nil ?_
      refine x_next ?_
      (refine c_dec rfl (fun hc19 => ?_) (fun hc19 => ?_) <;> try (first | exact absurd rfl hc19 | contradiction | exact Bool.noConfusion (show false = true from hc19.symm.trans (by assumption)) | exact Bool.noConfusion (show true = false from hc19.symm.trans (by assumption)) | (exfalso; omega) | (exfalso; simp only [*, Bool.not_true, Bool.not_false, reduceCtorEq] at hc19; done)))
      refine c_exit ?_
      refine x_then_exit ?_
      refine x_then_exit ?_
      refine x_block_hit ?_
      refine x_next ?_
      refine c_seq ?_
      refine c_seq ?_
      refine c_region ?_
      refine w_pure (y_move rfl) rfl ?_
      refine w_pure (y_lt rfl rfl) rfl ?_
      refine w_nil ?_
      refine x_next ?_
      (refine c_dec rfl (fun hc31 => ?_) (fun hc31 => ?_) <;> try (first | exact absurd rfl hc31 | contradiction | exact Bool.noConfusion (show false = true from hc31.symm.trans (by assumption)) | exact Bool.noConfusion (show true = false from hc31.symm.trans (by assumption)) | (exfalso; omega) | (exfalso; simp only [*, Bool.not_true, Bool.not_false, reduceCtorEq] at hc31; done)))
      refine c_skip ?_
      refine x_next ?_
      refine c_seq ?_
      refine c_region ?_
      refine w_pure (y_move rfl) rfl ?_
      refine w_pure (y_move rfl) rfl ?_
      refine w_pure (y_eq rfl rfl) rfl ?_
      refine w_pure (y_assign rfl) rfl ?_
      refine w_pure (y_assign rfl) rfl ?_
      refine w_nil ?_
      refine x_next ?_
      refine c_ret ?_
      rotate_left
    rw [show (j + 1).toNat = 0 by omega] at g1 hp hs
    refine x_retv [_, _] rfl ⟨rfl, rfl, trivial⟩ ⟨_, by rw [← hs]; rfl, ?_, E.go⟩
    rw [← hp]; exact g1
theorem punchNumber_c (f t n : Int) (h : SL w lo hi v xs := by repeat (first | assumption | exact Go.Gw.Own.sl (by assumption) | exact Go.Gw.Box.at (by assumption) | exact Go.Gw.SLL.el (by first | assumption | exact Go.Gw.OwnD.sll (by assumption)) _ (by omega) | exact Go.Gw.SLL.at (by first | assumption | exact Go.Gw.OwnD.sll (by assumption)) (by omega) | exact Go.Gw.OwnD.sll (by assumption) | (apply Go.Gw.SL.chg; case hx => assumption) | (apply Go.Gw.Own.chg; case hx => assumption) | (apply Go.Gw.Box.chg; case hx => assumption) | (apply Go.Gw.At.chg; case hx => assumption) | exact .inl (Nat.zero_le _) | exact .inr (Nat.zero_le _) | (show _ ∨ _; omega))) (hf : 0 ≤ f ∧ f < t ∧ t ≤ xs.length := by omega) (hl : xs.length ≤ 1000 := by omega) (hn : 0 ≤ n ∧ n ≤ 9223372036854775807 := by omega) : Ret Tryd.prog 83 [.agg #[v], .agg #[.int .i64 f, .int .i64 t], .int .i64 n] w fun u w' => ∃ d, u = .agg #[d] ∧ Own w' 2 w.heap.size d (putF xs f t (pun n (t - f).toNat)) ∧ Ext w w' := by
  have E : Since 0 0 w w := Since.refl 0 0 w
  refine ret_enter Tryd.func83 rfl Tryd.ntmps83 rfl ?_
  focus
    have ht_h := h.top
    refine c_seq ?_
    refine c_region ?_
    refine w_box rfl (k := fun b3 w3 hb3 hx3 hl3 hs3 => ?_)
    have hz_hx3 := hx3.size
    replace h := h.ext hx3
    replace E := E.trans hx3
    refine w_box rfl (k := fun b4 w4 hb4 hx4 hl4 hs4 => ?_)
    have hz_hx4 := hx4.size
    replace hb3 := hb3.ext hx4
    replace h := h.ext hx4
    replace E := E.trans hx4
    refine w_alloc (k := fun b6 w6 hb6 hx6 hl6 hs6 => ?_)
    have hz_hx6 := hx6.size
    replace hb4 := hb4.ext hx6
    replace hb3 := hb3.ext hx6
    replace h := h.ext hx6
    replace E := E.trans hx6
    refine w_nil ?_
    refine x_next ?_
    refine c_seq ?_
    refine c_region ?_
    refine w_pure (y_load_boxs rfl) rfl ?_
    (refine w_call rfl rfl rfl (newCard_c) rfl ?_; rintro _ w11 ⟨d11, ⟨rfl, ⟨hp1_11, hx11⟩⟩⟩)
    have hl_hp1_11 := hp1_11.lt
    have hz_hx11 := hx11.size
    replace hb6 := hb6.ext hx11
    replace hb4 := hb4.ext hx11
    replace hb3 := hb3.ext hx11
    replace h := h.ext hx11
    replace E := E.trans hx11
    refine w_pure (y_move rfl) rfl ?_
    refine w_pur rfl rfl rfl (absOf_c _ (by omega)) rfl ?_
    refine w_alloc (k := fun b7 w7 hb7 hx7 hl7 hs7 => ?_)
    have hz_hx7 := hx7.size
    replace hp1_11 := hp1_11.ext hx7
    replace hb6 := hb6.ext hx7
    replace hb4 := hb4.ext hx7
    replace hb3 := hb3.ext hx7
    replace h := h.ext hx7
    replace E := E.trans hx7
    refine w_store_boxs rfl rfl (next := fun ws15 hbs15 hxs15 hss15 => ?_)
    (replace hb7 := hbs15; clear hbs15)
    have hz_hxs15 := hxs15.size
    replace hp1_11 := hp1_11.chg hxs15 (by omega)
    replace hb6 := hb6.chg hxs15 (by omega)
    replace hb4 := hb4.chg hxs15 (by omega)
    replace hb3 := hb3.chg hxs15 (by omega)
    replace h := h.chg hxs15 (by omega)
    replace E := E.next hxs15 (by omega)
    refine w_pure (y_assign rfl) rfl ?_
    refine w_nil ?_
    refine x_next ?_
    refine c_seq ?_
    refine c_seq ?_
    refine c_region ?_
    refine w_pure (y_field rfl) rfl ?_
    refine w_pure (y_load_box rfl) rfl ?_
    refine w_pure (y_sub rfl rfl) rfl ?_
    refine w_pure (y_assign rfl) rfl ?_
    refine w_nil ?_
    refine x_next ?_
    refine c_block ?_
    rotate_left
  refine c_loopC (bL d11) (bH d11) (ι := Int × Int × List Int) (fun x => [(2, .int .i64 n), (4, ptr b4 0), (6, ptr b6 0), (7, ptr b7 0), (8, .int .i64 x.1), (9, .int .i64 x.2.1)])
    (fun x w' => Own w' 2 w6.heap.size d11 (xs.take (x.2.1 + 1).toNat ++ x.2.2 ++ xs.drop t.toNat) ∧ f - 1 ≤ x.2.1 ∧ x.2.1 ≤ t - 1 ∧ 0 ≤ x.1 ∧ x.1 ≤ n ∧ pun x.1 (x.2.1 + 1 - f).toNat ++ x.2.2 = pun n (t - f).toNat) (fun x => (x.2.1 + 1 - f).toNat) (max n (-n), t - 1, [])
    (by repeat (first | exact trivial | refine ⟨rfl, ?_⟩)) ⟨by dsimp only; rw [List.append_nil, show t - 1 + 1 = t by omega, List.take_append_drop]; assumption, by dsimp only; omega, by dsimp only; omega, by dsimp only; omega, by dsimp only; omega, by dsimp only; rw [List.append_nil, show t - 1 + 1 - f = t - f by omega, show max n (-n) = n by omega]⟩ ?_
  clear hp1_11
  rintro ⟨x, j, R⟩ wL hxL EL ⟨g1, hj0, hj1, hx0, hx1, hp⟩
  dsimp only at *
  by_cases hj : f ≤ j
  · have ej : (j + 1).toNat = j.toNat + 1 := by omega
    have ej2 : (j + 1 - f).toNat = (j - f).toNat + 1 := by omega
    have hrl : j.toNat < (xs.take (j + 1).toNat ++ R ++ xs.drop t.toNat).length := by rw [List.length_append, List.length_append, List.length_take]; omega
    focus
      have hl_g1 := g1.lt
      have hz_hxL := hxL.size
      replace hb7 := hb7.chg hxL (by omega)
      replace hb6 := hb6.chg hxL (by omega)
      replace hb4 := hb4.chg hxL (by omega)
      replace hb3 := hb3.chg hxL (by omega)
      replace h := h.chg hxL (by omega)
      replace E := E.next hxL (by omega)
      refine c_seq ?_
      refine c_seq ?_
      refine c_region ?_
      refine w_pure (y_move rfl) rfl ?_
      refine w_pure (y_field rfl) rfl ?_
      refine w_pure (y_load_box rfl) rfl ?_
      refine w_pure (y_ge rfl rfl) rfl ?_
      refine w_nil ?_
      refine x_next ?_
      (refine c_dec rfl (fun hc20 => ?_) (fun hc20 => ?_) <;> try (first | exact absurd rfl hc20 | contradiction | exact Bool.noConfusion (show false = true from hc20.symm.trans (by assumption)) | exact Bool.noConfusion (show true = false from hc20.symm.trans (by assumption)) | (exfalso; omega) | (exfalso; simp only [*, Bool.not_true, Bool.not_false, reduceCtorEq] at hc20; done)))
      refine c_skip ?_
      refine x_next ?_
      refine c_seq ?_
      refine c_block ?_
      refine c_seq ?_
      refine c_region_base mixed (fun wr5 hxr5 hzr5 EBr5 => ?_)
      have hz_hxr5 := hxr5.size
      replace EL := EL.next hxr5 (by omega)
      replace g1 := g1.ext hxr5
      replace hb7 := hb7.ext hxr5
      replace hb6 := hb6.ext hxr5
      replace hb4 := hb4.ext hxr5
      replace hb3 := hb3.ext hxr5
      replace h := h.ext hxr5
      replace E := E.trans hxr5
      refine b_pure rfl (y_field rfl) rfl ?_
      refine b_pure rfl (y_load_box rfl) rfl ?_
      refine b_pure rfl (y_move rfl) rfl ?_
      refine b_pure rfl (y_move rfl) rfl ?_
      refine b_pure rfl (y_rem rfl rfl) rfl ?_
      refine b_one rfl ?_
      refine w_pur rfl rfl rfl (bitOf_c _) rfl ?_
      refine w_nil ?_
      refine x_hb ?_
      refine b_pure rfl (y_index rfl rfl) rfl ?_
      refine b_one rfl ?_
      refine w_store_own rfl rfl (next := fun ws28 hos28 hxs28 hss28 => ?_)
      (replace g1 := hos28; clear hos28)
      have hz_hxs28 := hxs28.size
      replace EL := EL.trans hxs28
      replace hb7 := hb7.chg hxs28 (by omega)
      replace hb6 := hb6.chg hxs28 (by omega)
      replace hb4 := hb4.chg hxs28 (by omega)
      replace hb3 := hb3.chg hxs28 (by omega)
      replace h := h.chg hxs28 (by omega)
      replace E := E.next hxs28 (by omega)
      refine w_nil ?_
      refine x_hbk ?_
      refine b_nil ?_
      refine x_next ?_
      refine c_region ?_
      refine w_pure (y_move rfl) rfl ?_
      refine w_pure (y_quo rfl rfl) rfl ?_
      refine w_pure (y_assign rfl) rfl ?_
      refine w_nil ?_
      refine x_block_norm ?_
      refine x_next ?_
      refine c_region ?_
      refine w_pure (y_move rfl) rfl ?_
      refine w_pure (y_sub rfl rfl) rfl ?_
      refine w_pure (y_assign rfl) rfl ?_
      refine w_nil ?_
      rotate_left
    refine x_again (x / 10, j - 1, [bitI (x % 10)] ++ R) (by repeat (first | exact trivial | refine ⟨rfl, ?_⟩)) ⟨EL.go, ?_, by dsimp only; omega, by dsimp only; omega, by dsimp only; omega, by dsimp only; omega, ?_⟩ (by dsimp only; omega)
    · dsimp only
      rw [show (j - 1 + 1).toNat = j.toNat by omega, ← take_put (by omega), ← ej]
      assumption
    · dsimp only
      rw [← hp, ej2, pun, show (j - 1 + 1 - f).toNat = (j - f).toNat by omega, List.append_assoc]
  · focus
      have hl_g1 := g1.lt
      have hz_hxL := hxL.size
      replace hb7 := hb7.chg hxL (by omega)
      replace hb6 := hb6.chg hxL (by omega)
      replace hb4 := hb4.chg hxL (by omega)
      replace hb3 := hb3.chg hxL (by omega)
      replace h := h.chg hxL (by omega)
      replace E := E.next hxL (by omega)
      refine c_seq ?_
      refine c_seq ?_
      refine c_region ?_
      refine w_pure (y_move rfl) rfl ?_
      refine w_pure (y_field rfl) rfl ?_
      refine w_pure (y_load_box rfl) rfl ?_
      refine w_pure (y_ge rfl rfl) rfl ?_
      refine w_nil ?_
      refine x_next ?_
      (refine c_dec rfl (fun hc20 => ?_) (fun hc20 => ?_) <;> try (first | exact absurd rfl hc20 | contradiction | exact Bool.noConfusion (show false = true from hc20.symm.trans (by assumption)) | exact Bool.noConfusion (show true = false from hc20.symm.trans (by assumption)) | (exfalso; omega) | (exfalso; simp only [*, Bool.not_true, Bool.not_false, reduceCtorEq] at hc20; done)))
      refine c_exit ?_
      refine x_then_exit ?_
      refine x_then_exit ?_
      refine x_block_hit ?_
      refine x_next ?_
      refine c_seq ?_
      refine c_seq ?_
      refine c_region ?_
      refine w_pure (y_move rfl) rfl ?_
      refine w_pure (y_lt rfl rfl) rfl ?_
      refine w_nil ?_
      refine x_next ?_
      (refine c_dec rfl (fun hc33 => ?_) (fun hc33 => ?_) <;> try (first | exact absurd rfl hc33 | contradiction | exact Bool.noConfusion (show false = true from hc33.symm.trans (by assumption)) | exact Bool.noConfusion (show true = false from hc33.symm.trans (by assumption)) | (exfalso; omega) | (exfalso; simp only [*, Bool.not_true, Bool.not_false, reduceCtorEq] at hc33; done)))
      refine c_skip ?_
      refine x_next ?_
      refine c_seq ?_
      refine c_region ?_
      refine w_pure (y_load_boxs rfl) rfl ?_
      refine w_store_boxs rfl rfl (next := fun ws29 hbs29 hxs29 hss29 => ?_)
      (replace hb6 := hbs29; clear hbs29)
      have hz_hxs29 := hxs29.size
      replace g1 := g1.chg hxs29 (by omega)
      replace hb7 := hb7.chg hxs29 (by omega)
      replace hb4 := hb4.chg hxs29 (by omega)
      replace hb3 := hb3.chg hxs29 (by omega)
      replace h := h.chg hxs29 (by omega)
      replace E := E.next hxs29 (by omega)
      refine w_nil ?_
      refine x_next ?_
      refine c_ret ?_
      rotate_left
    rw [show (j + 1 - f).toNat = 0 by omega] at hp
    rw [show (j + 1).toNat = f.toNat by omega] at g1
    refine x_retv [_] rfl ⟨⟨_, rfl, run_load_str (Box.at (by assumption)) (by rfl)⟩, trivial⟩ ⟨d11, rfl, ?_, E.go⟩
    rw [putF, ← hp]
    exact Own.base (by assumption) (by omega)
end
end Go.Proofs.YtdkedajdgllilaaDoor

/- Contracts: adding to counters, taking from them. -/
import Derived.Test.YtgkljfncpgbngaaDoorCntH
namespace Go.Proofs.YtgkljfncpgbngaaDoor
open Go Go.Gw
set_option linter.unusedVariables false
set_option linter.unusedSimpArgs false
/-- i wheels of a counter after a number has been added: the digits, the carries, the last one's carry -/
def addS (xs : List Int) (n : Int) : Nat → List Int × Int × Int
  | 0 => ([], 0, 0)
  | i + 1 => ((addS xs n i).1 ++ [(xs.getD i 0 + n / 10 ^ i % 10 + (addS xs n i).2.2) % 10], (addS xs n i).2.1 + (xs.getD i 0 + n / 10 ^ i % 10 + (addS xs n i).2.2) / 10, (xs.getD i 0 + n / 10 ^ i % 10 + (addS xs n i).2.2) / 10)
theorem addS_len (xs : List Int) (n : Int) : ∀ i, (addS xs n i).1.length = i
  | 0 => rfl
  | i + 1 => by rw [addS, List.length_append, addS_len xs n i]; rfl
def Digs (xs : List Int) : Prop := ∀ d ∈ xs, 0 ≤ d ∧ d ≤ 9
theorem Digs.getD {xs : List Int} (h : Digs xs) (i : Nat) : 0 ≤ xs.getD i 0 ∧ xs.getD i 0 ≤ 9 := by
  by_cases hi : i < xs.length
  · rw [List.getD_eq_getElem?_getD, List.getElem?_eq_getElem hi]; exact h _ (List.getElem_mem hi)
  · rw [List.getD_eq_getElem?_getD, List.getElem?_eq_none (by omega)]; simp
theorem addS_bd {xs : List Int} (h : Digs xs) (n : Int) : ∀ i, 0 ≤ (addS xs n i).2.2 ∧ (addS xs n i).2.2 ≤ 1 ∧ 0 ≤ (addS xs n i).2.1 ∧ (addS xs n i).2.1 ≤ i ∧ Digs (addS xs n i).1
  | 0 => ⟨by simp [addS], by simp [addS], by simp [addS], by simp [addS], fun d hd => by simp [addS] at hd⟩
  | i + 1 => by
    obtain ⟨h1, h2, h3, h4, h5⟩ := addS_bd h n i
    have h6 := h.getD i
    simp only [addS]
    refine ⟨by omega, by omega, by omega, by omega, fun d hd => ?_⟩
    rcases List.mem_append.1 hd with hd | hd
    · exact h5 d hd
    · simp only [List.mem_singleton] at hd
      omega
theorem digs_getD : ∀ (k : Nat) (n : Int) (i : Nat), i < k → (digs k n).getD i 0 = n / 10 ^ i % 10
  | 0, n, i, h => by omega
  | k + 1, n, 0, h => by simp [digs]
  | k + 1, n, i + 1, h => by
    rw [digs, List.getD_cons_succ, digs_getD k (n / 10) i (by omega), Int.ediv_ediv_of_nonneg (by omega), Int.pow_succ, Int.mul_comm]
theorem getD_app {a b : List Int} {i : Nat} (h : a.length = i) : (a ++ b.drop i).getD i 0 = b.getD i 0 := by
  rw [List.getD_eq_getElem?_getD, List.getD_eq_getElem?_getD, List.getElem?_append_right (by omega), h, Nat.sub_self, List.getElem?_drop, Nat.add_zero]
theorem set_app {a b : List Int} {i : Nat} {y : Int} (h : a.length = i) (hi : i < b.length) : (a ++ b.drop i).set i y = (a ++ [y]) ++ b.drop (i + 1) := by
  rw [List.set_append_right _ _ (by omega), h, Nat.sub_self, List.drop_eq_getElem_cons hi, List.set_cons_zero, List.append_assoc]; rfl
theorem dpow (n : Int) (i : Nat) : n / 10 ^ i / 10 = n / 10 ^ (i + 1) := by
  rw [Int.ediv_ediv_of_nonneg (Int.le_of_lt (pow10_pos _)), Int.pow_succ]
section
variable {w : World} {v v' : Value} {xs ys : List Int} {lo hi lo' hi' b b' : Nat}
theorem added_c (n : Int) (h : SL w lo hi v xs := by repeat (first | assumption | exact Go.Gw.Own.sl (by assumption) | exact Go.Gw.Box.at (by assumption) | exact Go.Gw.SLL.el (by first | assumption | exact Go.Gw.OwnD.sll (by assumption)) _ (by omega) | exact Go.Gw.SLL.at (by first | assumption | exact Go.Gw.OwnD.sll (by assumption)) (by omega) | exact Go.Gw.OwnD.sll (by assumption) | (apply Go.Gw.SL.chg; case hx => assumption) | (apply Go.Gw.Own.chg; case hx => assumption) | (apply Go.Gw.Box.chg; case hx => assumption) | (apply Go.Gw.At.chg; case hx => assumption) | exact .inl (Nat.zero_le _) | exact .inr (Nat.zero_le _) | (show _ ∨ _; omega))) (hd : Digs xs := by assumption) (hl : xs.length ≤ 12 := by omega) (hn : 0 ≤ n ∧ n ≤ 9223372036854775807 := by omega) : Ret Tryd.prog 80 [.agg #[v], .int .i64 n] w fun u w' =>
    ∃ d, u = .tuple #[.agg #[d], .int .i64 (addS xs n xs.length).2.1, .bool (decide ((addS xs n xs.length).2.2 = 1))] ∧ Own w' 2 w.heap.size d (addS xs n xs.length).1 ∧ Ext w w' := by
  have E : Since 0 0 w w := Since.refl 0 0 w
  refine ret_enter Tryd.func80 rfl Tryd.ntmps80 rfl ?_
  focus
    have ht_h := h.top
    refine c_seq ?_
    refine c_region ?_
    refine w_box rfl (k := fun b2 w2 hb2 hx2 hl2 hs2 => ?_)
    have hz_hx2 := hx2.size
    replace h := h.ext hx2
    replace E := E.trans hx2
    refine w_alloc (k := fun b4 w4 hb4 hx4 hl4 hs4 => ?_)
    have hz_hx4 := hx4.size
    replace hb2 := hb2.ext hx4
    replace h := h.ext hx4
    replace E := E.trans hx4
    refine w_pure (y_assign rfl) rfl ?_
    refine w_pure (y_assign rfl) rfl ?_
    refine w_nil ?_
    refine x_next ?_
    refine c_seq ?_
    refine c_region ?_
    refine w_pure (y_field rfl) rfl ?_
    refine w_pure (y_load_box rfl) rfl ?_
    (refine w_call rfl rfl rfl (copyInts_c _) rfl ?_; rintro v15 w15 ⟨hp1_15, hx15⟩)
    have hl_hp1_15 := hp1_15.lt
    have hz_hx15 := hx15.size
    replace hb4 := hb4.ext hx15
    replace hb2 := hb2.ext hx15
    replace h := h.ext hx15
    replace E := E.trans hx15
    refine w_pure (y_build rfl) rfl ?_
    refine w_alloc (k := fun b7 w7 hb7 hx7 hl7 hs7 => ?_)
    have hz_hx7 := hx7.size
    replace hp1_15 := hp1_15.ext hx7
    replace hb4 := hb4.ext hx7
    replace hb2 := hb2.ext hx7
    replace h := h.ext hx7
    replace E := E.trans hx7
    refine w_store_boxs rfl rfl (next := fun ws16 hbs16 hxs16 hss16 => ?_)
    (replace hb7 := hbs16; clear hbs16)
    have hz_hxs16 := hxs16.size
    replace hp1_15 := hp1_15.chg hxs16 (by omega)
    replace hb4 := hb4.chg hxs16 (by omega)
    replace hb2 := hb2.chg hxs16 (by omega)
    replace h := h.chg hxs16 (by omega)
    replace E := E.next hxs16 (by omega)
    refine w_pure (y_assign rfl) rfl ?_
    refine w_pure (y_assign rfl) rfl ?_
    refine w_nil ?_
    refine x_next ?_
    refine c_seq ?_
    refine c_seq ?_
    refine c_region ?_
    refine w_pure (y_field rfl) rfl ?_
    refine w_pure (y_load_box rfl) rfl ?_
    refine w_val rfl rfl rfl (size_c) rfl (fun w19 hx19 hz19 => ?_)
    have hz_hx19 := hx19.size
    replace hb7 := hb7.ext hx19
    replace hp1_15 := hp1_15.ext hx19
    replace hb4 := hb4.ext hx19
    replace hb2 := hb2.ext hx19
    replace h := h.ext hx19
    replace E := E.trans hx19
    refine w_pure (y_move rfl) rfl ?_
    (refine w_call rfl rfl rfl (wheelsShow_c _ _ _ (by omega) (by omega) (by omega)) rfl ?_; rintro _ w21 ⟨d21, ⟨rfl, ⟨hp1_21, hx21⟩⟩⟩)
    have hl_hp1_21 := hp1_21.lt
    have hz_hx21 := hx21.size
    replace hb7 := hb7.ext hx21
    replace hp1_15 := hp1_15.ext hx21
    replace hb4 := hb4.ext hx21
    replace hb2 := hb2.ext hx21
    replace h := h.ext hx21
    replace E := E.trans hx21
    refine w_pure (y_fld rfl) rfl ?_
    refine w_pure (y_len rfl) rfl ?_
    refine w_pure (y_move rfl) rfl ?_
    refine w_nil ?_
    refine x_next ?_
    refine c_block ?_
    rotate_left
  have hdl : (digs (xs.length : Int).toNat n).length = xs.length := by rw [digs_len]; omega
  refine c_loopC (bL v15) (bH v15) (ι := Nat) (fun i => [(4, ptr b4 0), (7, ptr b7 0), (8, .int .i64 (addS xs n i).2.1), (9, .int .i64 (addS xs n i).2.2), (22, d21), (23, .int .i64 (digs (xs.length : Int).toNat n).length), (24, .int .i64 i)])
    (fun i w' => Own w' 2 w.heap.size v15 ((addS xs n i).1 ++ xs.drop i) ∧ i ≤ xs.length) (fun i => xs.length - i) 0 (by repeat (first | exact trivial | refine ⟨rfl, ?_⟩)) ⟨by simpa [addS] using hp1_15.base (by omega), by omega⟩ ?_
  rintro i wL hxL EL ⟨ho, hi⟩
  clear hp1_15
  have hlen : ((addS xs n i).1 ++ xs.drop i).length = xs.length := by rw [List.length_append, addS_len, List.length_drop]; omega
  have hg : ((addS xs n i).1 ++ xs.drop i).getD (i : Int).toNat 0 = xs.getD i 0 := getD_app (addS_len _ _ _)
  have hgd : i < xs.length → (digs (xs.length : Int).toNat n).getD (i : Int).toNat 0 = n / 10 ^ i % 10 := fun h => digs_getD _ _ _ (by omega)
  have q1 := addS_bd hd n i
  have q2 := hd.getD i
  focus
    have hl_ho := ho.lt
    have hz_hxL := hxL.size
    replace hp1_21 := hp1_21.chg hxL (by omega)
    replace hb7 := hb7.chg hxL (by omega)
    replace hb4 := hb4.chg hxL (by omega)
    replace hb2 := hb2.chg hxL (by omega)
    replace h := h.chg hxL (by omega)
    replace E := E.next hxL (by omega)
    refine c_seq ?_
    refine c_region ?_
    refine w_pure (y_lt rfl rfl) rfl ?_
    refine w_nil ?_
    refine x_next ?_
    refine c_seq ?_
    (refine c_dec rfl (fun hc25 => ?_) (fun hc25 => ?_) <;> try (first | exact absurd rfl hc25 | contradiction | exact Bool.noConfusion (show false = true from hc25.symm.trans (by assumption)) | exact Bool.noConfusion (show true = false from hc25.symm.trans (by assumption)) | (exfalso; omega) | (exfalso; simp only [*, Bool.not_true, Bool.not_false, reduceCtorEq] at hc25; done)))
    refine c_skip ?_
    refine x_next ?_
    refine c_seq ?_
    refine c_block ?_
    refine c_seq ?_
    refine c_region ?_
    refine w_pure (y_move rfl) rfl ?_
    refine w_pure (y_index rfl rfl) rfl ?_
    refine w_pure (y_load_inte rfl (hgd (by omega))) rfl ?_
    refine w_pure (y_assign rfl) rfl ?_
    refine w_pure (y_assign rfl) rfl ?_
    refine w_nil ?_
    refine x_next ?_
    refine c_seq ?_
    refine c_region ?_
    refine w_pure (y_field rfl) rfl ?_
    refine w_pure (y_load_box rfl) rfl ?_
    refine w_pure (y_move rfl) rfl ?_
    refine w_pure (y_index rfl rfl) rfl ?_
    refine w_pure (y_load_inte rfl hg) rfl ?_
    refine w_pure (y_move rfl) rfl ?_
    refine w_pure (y_add rfl rfl) rfl ?_
    refine w_pure (y_move rfl) rfl ?_
    refine w_pure (y_add rfl rfl) rfl ?_
    refine w_pure (y_assign rfl) rfl ?_
    refine w_nil ?_
    refine x_next ?_
    refine c_seq ?_
    refine c_region ?_
    refine w_pure (y_field rfl) rfl ?_
    refine w_pure (y_load_box rfl) rfl ?_
    refine w_pure (y_move rfl) rfl ?_
    refine w_pure (y_move rfl) rfl ?_
    refine w_pure (y_rem rfl rfl) rfl ?_
    refine w_pure (y_move rfl) rfl ?_
    refine w_pure (y_quo rfl rfl) rfl ?_
    refine w_pure (y_index rfl rfl) rfl ?_
    refine w_store_own rfl rfl (next := fun ws45 hos45 hxs45 hss45 => ?_)
    (replace ho := hos45; clear hos45)
    have hz_hxs45 := hxs45.size
    replace EL := EL.trans hxs45
    replace hp1_21 := hp1_21.chg hxs45 (by omega)
    replace hb7 := hb7.chg hxs45 (by omega)
    replace hb4 := hb4.chg hxs45 (by omega)
    replace hb2 := hb2.chg hxs45 (by omega)
    replace h := h.chg hxs45 (by omega)
    replace E := E.next hxs45 (by omega)
    refine w_pure (y_assign rfl) rfl ?_
    refine w_nil ?_
    refine x_next ?_
    refine c_region ?_
    refine w_pure (y_move rfl) rfl ?_
    refine w_pure (y_move rfl) rfl ?_
    refine w_pure (y_add rfl rfl) rfl ?_
    refine w_pure (y_assign rfl) rfl ?_
    refine w_nil ?_
    refine x_block_norm ?_
    refine x_next ?_
    refine c_region ?_
    refine w_pure (y_add rfl rfl) rfl ?_
    refine w_pure (y_move rfl) rfl ?_
    refine w_nil ?_
    rotate_left
    refine c_exit ?_
    refine x_then_exit ?_
    refine x_then_exit ?_
    refine x_block_hit ?_
    refine x_next ?_
    refine c_seq ?_
    refine c_region ?_
    refine w_pure (y_load_boxs rfl) rfl ?_
    refine w_pure (y_move rfl) rfl ?_
    refine w_pure (y_move rfl) rfl ?_
    refine w_pure (y_eq rfl rfl) rfl ?_
    refine w_store_boxs rfl rfl (next := fun ws73 hbs73 hxs73 hss73 => ?_)
    (replace hb4 := hbs73; clear hbs73)
    have hz_hxs73 := hxs73.size
    replace ho := ho.chg hxs73 (by omega)
    replace hp1_21 := hp1_21.chg hxs73 (by omega)
    replace hb7 := hb7.chg hxs73 (by omega)
    replace hb2 := hb2.chg hxs73 (by omega)
    replace h := h.chg hxs73 (by omega)
    replace E := E.next hxs73 (by omega)
    refine w_pure (y_assign rfl) rfl ?_
    refine w_pure (y_assign rfl) rfl ?_
    refine w_nil ?_
    refine x_next ?_
    refine c_ret ?_
    rotate_left
  · refine x_again (i + 1) (by repeat (first | exact trivial | refine ⟨rfl, ?_⟩)) ⟨EL.go, ?_, by omega⟩ (by omega)
    rw [show ((i : Int)).toNat = i from rfl, set_app (addS_len _ _ _) (by omega)] at ho
    exact ho
  · obtain rfl : i = xs.length := by omega
    exact x_retv [_, _, _] rfl ⟨⟨_, rfl, run_load_str (Box.at (by assumption)) (by rfl)⟩, rfl, rfl, trivial⟩ ⟨_, rfl, by simpa using ho, E.go⟩
theorem l11Add_c (n : Int) (hp : At w b 0 [v] := by repeat (first | assumption | exact Go.Gw.Own.sl (by assumption) | exact Go.Gw.Box.at (by assumption) | exact Go.Gw.SLL.el (by first | assumption | exact Go.Gw.OwnD.sll (by assumption)) _ (by omega) | exact Go.Gw.SLL.at (by first | assumption | exact Go.Gw.OwnD.sll (by assumption)) (by omega) | exact Go.Gw.OwnD.sll (by assumption) | (apply Go.Gw.SL.chg; case hx => assumption) | (apply Go.Gw.Own.chg; case hx => assumption) | (apply Go.Gw.Box.chg; case hx => assumption) | (apply Go.Gw.At.chg; case hx => assumption) | exact .inl (Nat.zero_le _) | exact .inr (Nat.zero_le _) | (show _ ∨ _; omega))) (h : SL w lo hi v xs := by repeat (first | assumption | exact Go.Gw.Own.sl (by assumption) | exact Go.Gw.Box.at (by assumption) | exact Go.Gw.SLL.el (by first | assumption | exact Go.Gw.OwnD.sll (by assumption)) _ (by omega) | exact Go.Gw.SLL.at (by first | assumption | exact Go.Gw.OwnD.sll (by assumption)) (by omega) | exact Go.Gw.OwnD.sll (by assumption) | (apply Go.Gw.SL.chg; case hx => assumption) | (apply Go.Gw.Own.chg; case hx => assumption) | (apply Go.Gw.Box.chg; case hx => assumption) | (apply Go.Gw.At.chg; case hx => assumption) | exact .inl (Nat.zero_le _) | exact .inr (Nat.zero_le _) | (show _ ∨ _; omega))) (hd : Digs xs := by assumption) (hl : xs.length ≤ 12 := by omega) (hn : 0 ≤ n ∧ n ≤ 9223372036854775807 := by omega) : Ret Tryd.prog 82 [ptr b 0, .int .i64 n] w fun u w' =>
    ∃ d, u = .tuple #[.agg #[d], .int .i64 (addS xs n xs.length).2.1, .bool (decide ((addS xs n xs.length).2.2 = 1))] ∧ Own w' 2 w.heap.size d (addS xs n xs.length).1 ∧ Ext w w' := by
  have E : Since 0 0 w w := Since.refl 0 0 w
  have hbl := hp.lt
  refine ret_enter Tryd.func82 rfl Tryd.ntmps82 rfl ?_
  focus
    have ht_h := h.top
    refine c_seq ?_
    refine c_region ?_
    refine w_alloc (k := fun b4 w4 hb4 hx4 hl4 hs4 => ?_)
    have hz_hx4 := hx4.size
    replace hp := hp.ext hx4
    replace h := h.ext hx4
    replace E := E.trans hx4
    refine w_pure (y_assign rfl) rfl ?_
    refine w_pure (y_assign rfl) rfl ?_
    refine w_nil ?_
    refine x_next ?_
    refine c_seq ?_
    refine c_region ?_
    refine w_pure (y_build rfl) rfl ?_
    refine w_alloc (k := fun b7 w7 hb7 hx7 hl7 hs7 => ?_)
    have hz_hx7 := hx7.size
    replace hb4 := hb4.ext hx7
    replace hp := hp.ext hx7
    replace h := h.ext hx7
    replace E := E.trans hx7
    refine w_store_boxs rfl rfl (next := fun ws12 hbs12 hxs12 hss12 => ?_)
    (replace hb7 := hbs12; clear hbs12)
    have hz_hxs12 := hxs12.size
    replace hb4 := hb4.chg hxs12 (by omega)
    replace hp := hp.chg hxs12 (by omega)
    replace h := h.chg hxs12 (by omega)
    replace E := E.next hxs12 (by omega)
    refine w_nil ?_
    refine x_next ?_
    refine c_seq ?_
    refine c_region ?_
    refine w_pure (y_assign rfl) rfl ?_
    refine w_nil ?_
    refine x_next ?_
    refine c_seq ?_
    refine c_region ?_
    refine w_pure (y_assign rfl) rfl ?_
    refine w_nil ?_
    refine x_next ?_
    refine c_seq ?_
    refine c_seq ?_
    refine c_region ?_
    refine w_pure (y_assign rfl) rfl ?_
    refine w_nil ?_
    refine x_next ?_
    refine c_block ?_
    rotate_left
  refine c_loopC b7 (b7 + 1) (ι := Nat × Value) (fun x => [(0, ptr b 0), (1, .int .i64 (n / 10 ^ x.1)), (4, ptr b4 0), (7, ptr b7 0), (8, .int .i64 (addS xs n x.1).2.2), (9, .int .i64 (addS xs n x.1).2.1), (10, .int .i64 x.1)])
    (fun x w' => Box w' b7 [x.2] ∧ Own w' 2 (b7 + 1) x.2 (addS xs n x.1).1 ∧ x.1 ≤ xs.length) (fun x => xs.length - x.1) (0, .slice none 0 0) ⟨rfl, by simp; rfl, rfl, rfl, rfl, rfl, rfl, trivial⟩ ⟨by assumption, Own.nil _ _ _, by simp⟩ ?_
  rintro ⟨i, u⟩ wL hxL EL ⟨hbu, ho, hi⟩
  dsimp only at *
  have hg : xs.getD (i : Int).toNat 0 = xs.getD i 0 := rfl
  have q1 := addS_bd hd n i
  have q2 := hd.getD i
  have q3 : 0 ≤ n / 10 ^ i := Int.ediv_nonneg hn.1 (Int.le_of_lt (pow10_pos _))
  have q4 : n / 10 ^ i ≤ n := Int.ediv_le_self _ hn.1
  have q5 := addS_len xs n i
  focus
    have hl_ho := ho.lt
    have hz_hxL := hxL.size
    replace hb4 := hb4.chg hxL (by omega)
    replace hp := hp.chg hxL (by omega)
    replace h := h.chg hxL (by omega)
    replace E := E.next hxL (by omega)
    refine c_seq ?_
    refine c_seq ?_
    refine c_region ?_
    refine w_pure (y_move rfl) rfl ?_
    refine w_pure (y_move rfl) rfl ?_
    refine w_pure (y_nil rfl) rfl ?_
    refine w_pure (y_field rfl) rfl ?_
    refine w_pure (y_loadk rfl) rfl ?_
    refine w_pure (y_len rfl) rfl ?_
    refine w_pure (y_lt rfl rfl) rfl ?_
    refine w_nil ?_
    refine x_next ?_
    (refine c_dec rfl (fun hc19 => ?_) (fun hc19 => ?_) <;> try (first | exact absurd rfl hc19 | contradiction | exact Bool.noConfusion (show false = true from hc19.symm.trans (by assumption)) | exact Bool.noConfusion (show true = false from hc19.symm.trans (by assumption)) | (exfalso; omega) | (exfalso; simp only [*, Bool.not_true, Bool.not_false, reduceCtorEq] at hc19; done)))
    refine c_skip ?_
    refine x_next ?_
    refine c_seq ?_
    refine c_block ?_
    refine c_seq ?_
    refine c_region ?_
    refine w_pure (y_move rfl) rfl ?_
    refine w_pure (y_nil rfl) rfl ?_
    refine w_pure (y_field rfl) rfl ?_
    refine w_pure (y_loadk rfl) rfl ?_
    refine w_pure (y_move rfl) rfl ?_
    refine w_pure (y_index rfl rfl) rfl ?_
    refine w_pure (y_load_inte rfl hg) rfl ?_
    refine w_pure (y_move rfl) rfl ?_
    refine w_pure (y_rem rfl rfl) rfl ?_
    refine w_pure (y_add rfl rfl) rfl ?_
    refine w_pure (y_move rfl) rfl ?_
    refine w_pure (y_add rfl rfl) rfl ?_
    refine w_pure (y_assign rfl) rfl ?_
    refine w_nil ?_
    refine x_next ?_
    refine c_seq ?_
    refine c_region ?_
    refine w_pure (y_move rfl) rfl ?_
    refine w_pure (y_quo rfl rfl) rfl ?_
    refine w_pure (y_assign rfl) rfl ?_
    refine w_nil ?_
    refine x_next ?_
    refine c_seq ?_
    refine c_region ?_
    refine w_pure (y_move rfl) rfl ?_
    refine w_pure (y_quo rfl rfl) rfl ?_
    refine w_pure (y_assign rfl) rfl ?_
    refine w_nil ?_
    refine x_next ?_
    refine c_seq ?_
    refine c_region ?_
    refine w_pure (y_move rfl) rfl ?_
    refine w_pure (y_move rfl) rfl ?_
    refine w_pure (y_add rfl rfl) rfl ?_
    refine w_pure (y_assign rfl) rfl ?_
    refine w_nil ?_
    refine x_next ?_
    refine c_region ?_
    refine w_pure (y_field rfl) rfl ?_
    refine w_pure (y_load_box rfl) rfl ?_
    refine w_pure (y_move rfl) rfl ?_
    refine w_pure (y_rem rfl rfl) rfl ?_
    refine w_lit (α := Int) rfl rfl rfl rfl rfl rfl rfl rfl (fun v45 w45 ho45 hx45 hl45 hh45 hs45 => ?_)
    have hl_ho45 := ho45.lt
    have hz_hx45 := hx45.size
    replace EL := EL.next hx45 (by omega)
    replace hbu := hbu.ext hx45
    replace ho := ho.ext hx45
    replace hb4 := hb4.ext hx45
    replace hp := hp.ext hx45
    replace h := h.ext hx45
    replace E := E.trans hx45
    refine w_append rfl rfl (k := fun v46 w46 ho46 hx46 hr46 => ?_)
    have hl_ho46 := ho46.lt
    have hz_hx46 := hx46.size
    replace ho45 := ho45.chg hx46 (by omega)
    replace EL := EL.next hx46 (by omega)
    replace hbu := hbu.chg hx46 (by omega)
    replace hb4 := hb4.chg hx46 (by omega)
    replace hp := hp.chg hx46 (by omega)
    replace h := h.chg hx46 (by omega)
    replace E := E.next hx46 (by omega)
    refine w_pure (y_field rfl) rfl ?_
    refine w_store_box rfl rfl (next := fun ws65 hbs65 hxs65 hss65 => ?_)
    (replace hb7 := hbs65; clear hbs65)
    have hz_hxs65 := hxs65.size
    replace ho46 := ho46.chg hxs65 (by omega)
    replace ho45 := ho45.chg hxs65 (by omega)
    replace EL := EL.trans hxs65
    replace hb4 := hb4.chg hxs65 (by omega)
    replace hp := hp.chg hxs65 (by omega)
    replace h := h.chg hxs65 (by omega)
    replace E := E.next hxs65 (by omega)
    refine w_nil ?_
    refine x_block_norm ?_
    refine x_next ?_
    refine c_region ?_
    refine w_pure (y_move rfl) rfl ?_
    refine w_pure (y_add rfl rfl) rfl ?_
    refine w_pure (y_assign rfl) rfl ?_
    refine w_nil ?_
    rotate_left
    refine c_exit ?_
    refine x_then_exit ?_
    refine x_then_exit ?_
    refine x_block_hit ?_
    refine x_next ?_
    refine c_seq ?_
    refine c_region ?_
    refine w_pure (y_load_boxs rfl) rfl ?_
    refine w_pure (y_move rfl) rfl ?_
    refine w_pure (y_move rfl) rfl ?_
    refine w_pure (y_eq rfl rfl) rfl ?_
    refine w_store_boxs rfl rfl (next := fun ws86 hbs86 hxs86 hss86 => ?_)
    (replace hb4 := hbs86; clear hbs86)
    have hz_hxs86 := hxs86.size
    replace hbu := hbu.chg hxs86 (by omega)
    replace ho := ho.chg hxs86 (by omega)
    replace hp := hp.chg hxs86 (by omega)
    replace h := h.chg hxs86 (by omega)
    replace E := E.next hxs86 (by omega)
    refine w_pure (y_assign rfl) rfl ?_
    refine w_pure (y_assign rfl) rfl ?_
    refine w_nil ?_
    refine x_next ?_
    refine c_ret ?_
    rotate_left
  · refine x_again (i + 1, v46) ⟨rfl, by dsimp only; rw [← dpow]; rfl, rfl, rfl, rfl, rfl, rfl, trivial⟩ ⟨EL.go, by assumption, ?_, by dsimp only; omega⟩ (by dsimp only; omega)
    assumption
  · obtain rfl : i = xs.length := by omega
    exact x_retv [_, _, _] rfl ⟨⟨_, rfl, run_load_str (Box.at (by assumption)) (by rfl)⟩, rfl, rfl, trivial⟩ ⟨_, rfl, Own.base (by assumption) (by omega), E.go⟩

/-! ### what the laws' functions answer -/
def codeN (xs : List Int) (n : Int) : Int := if okC xs = true then (if 0 ≤ n ∧ n ≤ 10 ^ xs.length - 1 then 0 else 2) else 1
theorem codeN_ok {xs : List Int} {n : Int} (h : codeN xs n = 0) : okC xs = true ∧ 0 ≤ n ∧ n ≤ 10 ^ xs.length - 1 ∧ n ≤ 999999999999 := by
  by_cases hk : okC xs = true
  · by_cases hn : 0 ≤ n ∧ n ≤ 10 ^ xs.length - 1
    · have h1 := pow10_12 (k := xs.length) (okC_len hk).2
      exact ⟨hk, hn.1, hn.2, by omega⟩
    · simp [codeN, hk, hn] at h
  · simp [codeN, hk] at h
theorem countCode_c (n : Int) (h : SL w lo hi v xs := by repeat (first | assumption | exact Go.Gw.Own.sl (by assumption) | exact Go.Gw.Box.at (by assumption) | exact Go.Gw.SLL.el (by first | assumption | exact Go.Gw.OwnD.sll (by assumption)) _ (by omega) | exact Go.Gw.SLL.at (by first | assumption | exact Go.Gw.OwnD.sll (by assumption)) (by omega) | exact Go.Gw.OwnD.sll (by assumption) | (apply Go.Gw.SL.chg; case hx => assumption) | (apply Go.Gw.Own.chg; case hx => assumption) | (apply Go.Gw.Box.chg; case hx => assumption) | (apply Go.Gw.At.chg; case hx => assumption) | exact .inl (Nat.zero_le _) | exact .inr (Nat.zero_le _) | (show _ ∨ _; omega))) : Val Tryd.prog 79 [.agg #[v], .int .i64 n] w (.int .i64 (codeN xs n)) := by
  refine ⟨fun w1 hx1 => ?_⟩
  have E : Since 0 0 w1 w1 := Since.refl 0 0 w1
  by_cases hk : okC xs = true
  · have hl := okC_len hk
    have hp1 := pow10_12 (k := xs.length) hl.2
    have hpp := pow10_pos xs.length
    have he : ((xs.length : Int)).toNat = xs.length := rfl
    refine ret_enter Tryd.func79 rfl Tryd.ntmps79 rfl ?_
    focus
      have ht_h := h.top
      have hz_hx1 := hx1.size
      replace h := h.ext hx1
      refine c_seq ?_
      refine c_region ?_
      refine w_box rfl (k := fun b2 w2 hb2 hx2 hl2 hs2 => ?_)
      have hz_hx2 := hx2.size
      replace E := E.trans hx2
      replace h := h.ext hx2
      refine w_pure (y_assign rfl) rfl ?_
      refine w_nil ?_
      refine x_next ?_
      refine c_seq ?_
      refine c_block ?_
      refine c_seq ?_
      refine c_region ?_
      refine w_pure (y_load_boxs rfl) rfl ?_
      refine w_val rfl rfl rfl (iValidCounter_c) rfl (fun w7 hx7 hz7 => ?_)
      have hz_hx7 := hx7.size
      replace hb2 := hb2.ext hx7
      replace E := E.trans hx7
      replace h := h.ext hx7
      refine w_pure (y_not rfl) rfl ?_
      refine w_pure (y_assign rfl) rfl ?_
      refine w_nil ?_
      refine x_next ?_
      (refine c_not rfl (fun hc5 => ?_) (fun hc5 => ?_) <;> try (first | exact absurd rfl hc5 | contradiction | exact Bool.noConfusion (show false = true from hc5.symm.trans (by assumption)) | exact Bool.noConfusion (show true = false from hc5.symm.trans (by assumption)) | (exfalso; omega) | (exfalso; simp only [*, Bool.not_true, Bool.not_false, reduceCtorEq] at hc5; done)))
      refine c_seq ?_
      refine c_region ?_
      refine w_pure (y_move rfl) rfl ?_
      refine w_pure (y_field rfl) rfl ?_
      refine w_pure (y_load_box rfl) rfl ?_
      refine w_val rfl rfl rfl (size_c) rfl (fun w13 hx13 hz13 => ?_)
      have hz_hx13 := hx13.size
      replace hb2 := hb2.ext hx13
      replace E := E.trans hx13
      replace h := h.ext hx13
      refine w_pur rfl rfl rfl (nines_c _ (by omega) (by omega)) rfl ?_
      refine w_pur rfl rfl rfl (inside_c _ _ _) rfl ?_
      refine w_pure (y_not_dec rfl) rfl ?_
      refine w_pure (y_assign rfl) rfl ?_
      refine w_nil ?_
      refine x_next ?_
      (refine c_dec rfl (fun hc9 => ?_) (fun hc9 => ?_) <;> try (first | exact absurd rfl hc9 | contradiction | exact Bool.noConfusion (show false = true from hc9.symm.trans (by assumption)) | exact Bool.noConfusion (show true = false from hc9.symm.trans (by assumption)) | (exfalso; omega) | (exfalso; simp only [*, Bool.not_true, Bool.not_false, reduceCtorEq] at hc9; done)))
      refine c_seq ?_
      refine c_region ?_
      refine w_pure (y_assign rfl) rfl ?_
      refine w_nil ?_
      refine x_next ?_
      refine c_ret ?_
      refine x_block_ret ?_
      refine x_then_ret ?_
      rotate_left
      refine c_skip ?_
      refine x_block_norm ?_
      refine x_next ?_
      refine c_seq ?_
      refine c_region ?_
      refine w_pure (y_assign rfl) rfl ?_
      refine w_nil ?_
      refine x_next ?_
      refine c_ret ?_
      rotate_left
    all_goals refine x_retv [_] rfl ⟨rfl, trivial⟩ ⟨?_, E.go⟩
    · rw [codeN, if_pos hk, if_neg (by rw [he] at *; assumption)]; rfl
    · rw [codeN, if_pos hk, if_pos (by rw [he] at *; omega)]; rfl
  · refine ret_enter Tryd.func79 rfl Tryd.ntmps79 rfl ?_
    focus
      have ht_h := h.top
      have hz_hx1 := hx1.size
      replace h := h.ext hx1
      refine c_seq ?_
      refine c_region ?_
      refine w_box rfl (k := fun b2 w2 hb2 hx2 hl2 hs2 => ?_)
      have hz_hx2 := hx2.size
      replace E := E.trans hx2
      replace h := h.ext hx2
      refine w_pure (y_assign rfl) rfl ?_
      refine w_nil ?_
      refine x_next ?_
      refine c_seq ?_
      refine c_block ?_
      refine c_seq ?_
      refine c_region ?_
      refine w_pure (y_load_boxs rfl) rfl ?_
      refine w_val rfl rfl rfl (iValidCounter_c) rfl (fun w7 hx7 hz7 => ?_)
      have hz_hx7 := hx7.size
      replace hb2 := hb2.ext hx7
      replace E := E.trans hx7
      replace h := h.ext hx7
      refine w_pure (y_not rfl) rfl ?_
      refine w_pure (y_assign rfl) rfl ?_
      refine w_nil ?_
      refine x_next ?_
      (refine c_not rfl (fun hc5 => ?_) (fun hc5 => ?_) <;> try (first | exact absurd rfl hc5 | contradiction | exact Bool.noConfusion (show false = true from hc5.symm.trans (by assumption)) | exact Bool.noConfusion (show true = false from hc5.symm.trans (by assumption)) | (exfalso; omega) | (exfalso; simp only [*, Bool.not_true, Bool.not_false, reduceCtorEq] at hc5; done)))
      refine c_seq ?_
      refine c_region ?_
      refine w_pure (y_assign rfl) rfl ?_
      refine w_nil ?_
      refine x_next ?_
      refine c_ret ?_
      refine x_block_ret ?_
      refine x_then_ret ?_
      rotate_left
    exact x_retv [_] rfl ⟨rfl, trivial⟩ ⟨by rw [codeN, if_neg hk]; rfl, E.go⟩
theorem l11Code_c (n : Int) (hp : At w b 0 [v] := by repeat (first | assumption | exact Go.Gw.Own.sl (by assumption) | exact Go.Gw.Box.at (by assumption) | exact Go.Gw.SLL.el (by first | assumption | exact Go.Gw.OwnD.sll (by assumption)) _ (by omega) | exact Go.Gw.SLL.at (by first | assumption | exact Go.Gw.OwnD.sll (by assumption)) (by omega) | exact Go.Gw.OwnD.sll (by assumption) | (apply Go.Gw.SL.chg; case hx => assumption) | (apply Go.Gw.Own.chg; case hx => assumption) | (apply Go.Gw.Box.chg; case hx => assumption) | (apply Go.Gw.At.chg; case hx => assumption) | exact .inl (Nat.zero_le _) | exact .inr (Nat.zero_le _) | (show _ ∨ _; omega))) (h : SL w lo hi v xs := by repeat (first | assumption | exact Go.Gw.Own.sl (by assumption) | exact Go.Gw.Box.at (by assumption) | exact Go.Gw.SLL.el (by first | assumption | exact Go.Gw.OwnD.sll (by assumption)) _ (by omega) | exact Go.Gw.SLL.at (by first | assumption | exact Go.Gw.OwnD.sll (by assumption)) (by omega) | exact Go.Gw.OwnD.sll (by assumption) | (apply Go.Gw.SL.chg; case hx => assumption) | (apply Go.Gw.Own.chg; case hx => assumption) | (apply Go.Gw.Box.chg; case hx => assumption) | (apply Go.Gw.At.chg; case hx => assumption) | exact .inl (Nat.zero_le _) | exact .inr (Nat.zero_le _) | (show _ ∨ _; omega))) : Val Tryd.prog 81 [ptr b 0, .int .i64 n] w (.int .i64 (codeN xs n)) := by
  refine ⟨fun w1 hx1 => ?_⟩
  have E : Since 0 0 w1 w1 := Since.refl 0 0 w1
  by_cases hk : okC xs = true
  · have hl := okC_len hk
    have hp1 := pow10_12 (k := xs.length) hl.2
    have hpp := pow10_pos xs.length
    have he : ((xs.length : Int)).toNat = xs.length := rfl
    have hp3 := pow10_12 (k := ((xs.length : Int)).toNat) (by omega)
    have hp4 := pow10_pos ((xs.length : Int)).toNat
    refine ret_enter Tryd.func81 rfl Tryd.ntmps81 rfl ?_
    focus
      have ht_h := h.top
      have hz_hx1 := hx1.size
      replace hp := hp.ext hx1
      replace h := h.ext hx1
      refine c_seq ?_
      refine c_region ?_
      refine w_pure (y_assign rfl) rfl ?_
      refine w_nil ?_
      refine x_next ?_
      refine c_seq ?_
      refine c_seq ?_
      refine c_region ?_
      refine w_pure (y_move rfl) rfl ?_
      refine w_val rfl rfl rfl (l11Ok_z) rfl (fun w6 hx6 hz6 => ?_)
      have hz_hx6 := hx6.size
      replace E := E.trans hx6
      replace hp := hp.ext hx6
      replace h := h.ext hx6
      refine w_pure (y_not rfl) rfl ?_
      refine w_nil ?_
      refine x_next ?_
      (refine c_not rfl (fun hc7 => ?_) (fun hc7 => ?_) <;> try (first | exact absurd rfl hc7 | contradiction | exact Bool.noConfusion (show false = true from hc7.symm.trans (by assumption)) | exact Bool.noConfusion (show true = false from hc7.symm.trans (by assumption)) | (exfalso; omega) | (exfalso; simp only [*, Bool.not_true, Bool.not_false, reduceCtorEq] at hc7; done)))
      refine c_skip ?_
      refine x_next ?_
      refine c_seq ?_
      refine c_seq ?_
      refine c_region ?_
      refine w_pure (y_move rfl) rfl ?_
      refine w_pure (y_move rfl) rfl ?_
      refine w_pure (y_nil rfl) rfl ?_
      refine w_pure (y_field rfl) rfl ?_
      refine w_pure (y_loadk rfl) rfl ?_
      refine w_pure (y_len rfl) rfl ?_
      refine w_pur rfl rfl rfl (l11Power_c _ (by omega) (by omega)) rfl ?_
      refine w_pure (y_sub rfl rfl) rfl ?_
      refine w_pur rfl rfl rfl (l00In_c _ _ _) rfl ?_
      refine w_pure (y_not_dec rfl) rfl ?_
      refine w_nil ?_
      refine x_next ?_
      (refine c_dec rfl (fun hc17 => ?_) (fun hc17 => ?_) <;> try (first | exact absurd rfl hc17 | contradiction | exact Bool.noConfusion (show false = true from hc17.symm.trans (by assumption)) | exact Bool.noConfusion (show true = false from hc17.symm.trans (by assumption)) | (exfalso; omega) | (exfalso; simp only [*, Bool.not_true, Bool.not_false, reduceCtorEq] at hc17; done)))
      refine c_seq ?_
      refine c_region ?_
      refine w_pure (y_assign rfl) rfl ?_
      refine w_nil ?_
      refine x_next ?_
      refine c_ret ?_
      refine x_then_ret ?_
      rotate_left
      refine c_skip ?_
      refine x_next ?_
      refine c_seq ?_
      refine c_region ?_
      refine w_pure (y_assign rfl) rfl ?_
      refine w_nil ?_
      refine x_next ?_
      refine c_ret ?_
      rotate_left
    all_goals refine x_retv [_] rfl ⟨rfl, trivial⟩ ⟨?_, E.go⟩
    · rw [codeN, if_pos hk, if_neg (by rw [he] at *; assumption)]; rfl
    · rw [codeN, if_pos hk, if_pos (by rw [he] at *; omega)]; rfl
  · refine ret_enter Tryd.func81 rfl Tryd.ntmps81 rfl ?_
    focus
      have ht_h := h.top
      have hz_hx1 := hx1.size
      replace hp := hp.ext hx1
      replace h := h.ext hx1
      refine c_seq ?_
      refine c_region ?_
      refine w_pure (y_assign rfl) rfl ?_
      refine w_nil ?_
      refine x_next ?_
      refine c_seq ?_
      refine c_seq ?_
      refine c_region ?_
      refine w_pure (y_move rfl) rfl ?_
      refine w_val rfl rfl rfl (l11Ok_z) rfl (fun w6 hx6 hz6 => ?_)
      have hz_hx6 := hx6.size
      replace E := E.trans hx6
      replace hp := hp.ext hx6
      replace h := h.ext hx6
      refine w_pure (y_not rfl) rfl ?_
      refine w_nil ?_
      refine x_next ?_
      (refine c_not rfl (fun hc7 => ?_) (fun hc7 => ?_) <;> try (first | exact absurd rfl hc7 | contradiction | exact Bool.noConfusion (show false = true from hc7.symm.trans (by assumption)) | exact Bool.noConfusion (show true = false from hc7.symm.trans (by assumption)) | (exfalso; omega) | (exfalso; simp only [*, Bool.not_true, Bool.not_false, reduceCtorEq] at hc7; done)))
      refine c_seq ?_
      refine c_region ?_
      refine w_pure (y_assign rfl) rfl ?_
      refine w_nil ?_
      refine x_next ?_
      refine c_ret ?_
      refine x_then_ret ?_
      rotate_left
    exact x_retv [_] rfl ⟨rfl, trivial⟩ ⟨by rw [codeN, if_neg hk]; rfl, E.go⟩
def resAdd (xs : List Int) (n : Int) : List Int := if codeN xs n = 0 then (addS xs n xs.length).1 else []
def topAdd (xs : List Int) (n : Int) : Bool := decide (codeN xs n = 0 ∧ (addS xs n xs.length).2.2 = 1)
def carAdd (xs : List Int) (n : Int) : Int := if codeN xs n = 0 then (addS xs n xs.length).2.1 else 0
theorem resAdd_len (xs : List Int) (n : Int) : (resAdd xs n).length ≤ 12 := by
  unfold resAdd; split
  · rename_i h; rw [addS_len]; exact (okC_len (codeN_ok h).1).2
  · simp
theorem iAddToCounter_c (n : Int) (h : SL w lo hi v xs := by repeat (first | assumption | exact Go.Gw.Own.sl (by assumption) | exact Go.Gw.Box.at (by assumption) | exact Go.Gw.SLL.el (by first | assumption | exact Go.Gw.OwnD.sll (by assumption)) _ (by omega) | exact Go.Gw.SLL.at (by first | assumption | exact Go.Gw.OwnD.sll (by assumption)) (by omega) | exact Go.Gw.OwnD.sll (by assumption) | (apply Go.Gw.SL.chg; case hx => assumption) | (apply Go.Gw.Own.chg; case hx => assumption) | (apply Go.Gw.Box.chg; case hx => assumption) | (apply Go.Gw.At.chg; case hx => assumption) | exact .inl (Nat.zero_le _) | exact .inr (Nat.zero_le _) | (show _ ∨ _; omega))) (hn : In64 n := by first | assumption | exact ⟨by omega, by omega⟩) : Ret Tryd.prog 28 [.agg #[v], .int .i64 n] w fun u w' =>
    ∃ d, u = .tuple #[.agg #[d], .bool (topAdd xs n), .int .i64 (codeN xs n)] ∧ Own w' 2 w.heap.size d (resAdd xs n) ∧ Ext w w' := by
  have E : Since 0 0 w w := Since.refl 0 0 w
  by_cases e : codeN xs n = 0
  · obtain ⟨hk, q1, q2, q3⟩ := codeN_ok e
    have q4 := okC_len hk
    have q5 : Digs xs := okC_dig hk
    refine ret_enter Tryd.func28 rfl Tryd.ntmps28 rfl ?_
    focus
      have ht_h := h.top
      refine c_seq ?_
      refine c_region ?_
      refine w_box rfl (k := fun b2 w2 hb2 hx2 hl2 hs2 => ?_)
      have hz_hx2 := hx2.size
      replace h := h.ext hx2
      replace E := E.trans hx2
      refine w_alloc (k := fun b4 w4 hb4 hx4 hl4 hs4 => ?_)
      have hz_hx4 := hx4.size
      replace hb2 := hb2.ext hx4
      replace h := h.ext hx4
      replace E := E.trans hx4
      refine w_pure (y_assign rfl) rfl ?_
      refine w_pure (y_assign rfl) rfl ?_
      refine w_nil ?_
      refine x_next ?_
      refine c_seq ?_
      refine c_seq ?_
      refine c_region ?_
      refine w_pure (y_load_boxs rfl) rfl ?_
      refine w_pure (y_move rfl) rfl ?_
      refine w_val rfl rfl rfl (countCode_c _) rfl (fun w13 hx13 hz13 => ?_)
      have hz_hx13 := hx13.size
      replace hb4 := hb4.ext hx13
      replace hb2 := hb2.ext hx13
      replace h := h.ext hx13
      replace E := E.trans hx13
      refine w_pure (y_assign rfl) rfl ?_
      refine w_nil ?_
      refine x_next ?_
      refine c_seq ?_
      refine c_region ?_
      refine w_pure (y_move rfl) rfl ?_
      refine w_pure (y_ne rfl rfl) rfl ?_
      refine w_nil ?_
      refine x_next ?_
      (refine c_dec rfl (fun hc15 => ?_) (fun hc15 => ?_) <;> try (first | exact absurd rfl hc15 | contradiction | exact Bool.noConfusion (show false = true from hc15.symm.trans (by assumption)) | exact Bool.noConfusion (show true = false from hc15.symm.trans (by assumption)) | (exfalso; omega) | (exfalso; simp only [*, Bool.not_true, Bool.not_false, reduceCtorEq] at hc15; done)))
      refine c_skip ?_
      refine x_next ?_
      refine c_seq ?_
      refine c_region ?_
      refine w_pure (y_load_boxs rfl) rfl ?_
      refine w_pure (y_move rfl) rfl ?_
      (refine w_call rfl rfl rfl (added_c _) rfl ?_; rintro _ w21 ⟨d21, ⟨rfl, ⟨hp1_21, hx21⟩⟩⟩)
      have hl_hp1_21 := hp1_21.lt
      have hz_hx21 := hx21.size
      replace hb4 := hb4.ext hx21
      replace hb2 := hb2.ext hx21
      replace h := h.ext hx21
      replace E := E.trans hx21
      refine w_pure (y_move rfl) rfl ?_
      refine w_pure (y_extract rfl rfl) rfl ?_
      refine w_pure (y_extract rfl rfl) rfl ?_
      refine w_pure (y_extract rfl rfl) rfl ?_
      refine w_alloc (k := fun b8 w8 hb8 hx8 hl8 hs8 => ?_)
      have hz_hx8 := hx8.size
      replace hp1_21 := hp1_21.ext hx8
      replace hb4 := hb4.ext hx8
      replace hb2 := hb2.ext hx8
      replace h := h.ext hx8
      replace E := E.trans hx8
      refine w_store_boxs rfl rfl (next := fun ws37 hbs37 hxs37 hss37 => ?_)
      (replace hb8 := hbs37; clear hbs37)
      have hz_hxs37 := hxs37.size
      replace hp1_21 := hp1_21.chg hxs37 (by omega)
      replace hb4 := hb4.chg hxs37 (by omega)
      replace hb2 := hb2.chg hxs37 (by omega)
      replace h := h.chg hxs37 (by omega)
      replace E := E.next hxs37 (by omega)
      refine w_pure (y_assign rfl) rfl ?_
      refine w_pure (y_assign rfl) rfl ?_
      refine w_nil ?_
      refine x_next ?_
      refine c_seq ?_
      refine c_region ?_
      refine w_pure (y_load_boxs rfl) rfl ?_
      refine w_pure (y_move rfl) rfl ?_
      refine w_store_boxs rfl rfl (next := fun ws46 hbs46 hxs46 hss46 => ?_)
      (replace hb4 := hbs46; clear hbs46)
      have hz_hxs46 := hxs46.size
      replace hb8 := hb8.chg hxs46 (by omega)
      replace hp1_21 := hp1_21.chg hxs46 (by omega)
      replace hb2 := hb2.chg hxs46 (by omega)
      replace h := h.chg hxs46 (by omega)
      replace E := E.next hxs46 (by omega)
      refine w_pure (y_assign rfl) rfl ?_
      refine w_pure (y_assign rfl) rfl ?_
      refine w_nil ?_
      refine x_next ?_
      refine c_ret ?_
      rotate_left
    exact x_retv [_, _, _] rfl ⟨⟨_, rfl, run_load_str (Box.at (by assumption)) (by rfl)⟩, rfl, rfl, trivial⟩ ⟨_, by simp [topAdd, e]; rfl, by rw [resAdd, if_pos e]; exact Own.base (by assumption) (by omega), E.go⟩
  · refine ret_enter Tryd.func28 rfl Tryd.ntmps28 rfl ?_
    focus
      have ht_h := h.top
      refine c_seq ?_
      refine c_region ?_
      refine w_box rfl (k := fun b2 w2 hb2 hx2 hl2 hs2 => ?_)
      have hz_hx2 := hx2.size
      replace h := h.ext hx2
      replace E := E.trans hx2
      refine w_alloc (k := fun b4 w4 hb4 hx4 hl4 hs4 => ?_)
      have hz_hx4 := hx4.size
      replace hb2 := hb2.ext hx4
      replace h := h.ext hx4
      replace E := E.trans hx4
      refine w_pure (y_assign rfl) rfl ?_
      refine w_pure (y_assign rfl) rfl ?_
      refine w_nil ?_
      refine x_next ?_
      refine c_seq ?_
      refine c_seq ?_
      refine c_region ?_
      refine w_pure (y_load_boxs rfl) rfl ?_
      refine w_pure (y_move rfl) rfl ?_
      refine w_val rfl rfl rfl (countCode_c _) rfl (fun w13 hx13 hz13 => ?_)
      have hz_hx13 := hx13.size
      replace hb4 := hb4.ext hx13
      replace hb2 := hb2.ext hx13
      replace h := h.ext hx13
      replace E := E.trans hx13
      refine w_pure (y_assign rfl) rfl ?_
      refine w_nil ?_
      refine x_next ?_
      refine c_seq ?_
      refine c_region ?_
      refine w_pure (y_move rfl) rfl ?_
      refine w_pure (y_ne rfl rfl) rfl ?_
      refine w_nil ?_
      refine x_next ?_
      (refine c_dec rfl (fun hc15 => ?_) (fun hc15 => ?_) <;> try (first | exact absurd rfl hc15 | contradiction | exact Bool.noConfusion (show false = true from hc15.symm.trans (by assumption)) | exact Bool.noConfusion (show true = false from hc15.symm.trans (by assumption)) | (exfalso; omega) | (exfalso; simp only [*, Bool.not_true, Bool.not_false, reduceCtorEq] at hc15; done)))
      refine c_seq ?_
      refine c_region ?_
      refine w_pure (y_build rfl) rfl ?_
      refine w_pure (y_move rfl) rfl ?_
      refine w_store_boxs rfl rfl (next := fun ws29 hbs29 hxs29 hss29 => ?_)
      (replace hb4 := hbs29; clear hbs29)
      have hz_hxs29 := hxs29.size
      replace hb2 := hb2.chg hxs29 (by omega)
      replace h := h.chg hxs29 (by omega)
      replace E := E.next hxs29 (by omega)
      refine w_pure (y_assign rfl) rfl ?_
      refine w_pure (y_assign rfl) rfl ?_
      refine w_nil ?_
      refine x_next ?_
      refine c_ret ?_
      refine x_then_ret ?_
      rotate_left
    exact x_retv [_, _, _] rfl ⟨⟨_, rfl, run_load_str (Box.at (by assumption)) (by rfl)⟩, rfl, rfl, trivial⟩ ⟨_, by simp [topAdd, e]; rfl, by rw [resAdd, if_neg e]; exact Own.nil _ _ _, E.go⟩
theorem sAddToCounter_c (n : Int) (h : SL w lo hi v xs := by repeat (first | assumption | exact Go.Gw.Own.sl (by assumption) | exact Go.Gw.Box.at (by assumption) | exact Go.Gw.SLL.el (by first | assumption | exact Go.Gw.OwnD.sll (by assumption)) _ (by omega) | exact Go.Gw.SLL.at (by first | assumption | exact Go.Gw.OwnD.sll (by assumption)) (by omega) | exact Go.Gw.OwnD.sll (by assumption) | (apply Go.Gw.SL.chg; case hx => assumption) | (apply Go.Gw.Own.chg; case hx => assumption) | (apply Go.Gw.Box.chg; case hx => assumption) | (apply Go.Gw.At.chg; case hx => assumption) | exact .inl (Nat.zero_le _) | exact .inr (Nat.zero_le _) | (show _ ∨ _; omega))) : Ret Tryd.prog 29 [.agg #[v], .int .i64 n] w fun u w' =>
    ∃ d, u = .tuple #[.agg #[d], .bool (topAdd xs n), .int .i64 (codeN xs n)] ∧ Own w' 2 w.heap.size d (resAdd xs n) ∧ Ext w w' := by
  have E : Since 0 0 w w := Since.refl 0 0 w
  by_cases e : codeN xs n = 0
  · obtain ⟨hk, q1, q2, q3⟩ := codeN_ok e
    have q4 := okC_len hk
    have q5 : Digs xs := okC_dig hk
    refine ret_enter Tryd.func29 rfl Tryd.ntmps29 rfl ?_
    focus
      have ht_h := h.top
      refine c_seq ?_
      refine c_region ?_
      refine w_box rfl (k := fun b2 w2 hb2 hx2 hl2 hs2 => ?_)
      have hz_hx2 := hx2.size
      replace h := h.ext hx2
      replace E := E.trans hx2
      refine w_alloc (k := fun b4 w4 hb4 hx4 hl4 hs4 => ?_)
      have hz_hx4 := hx4.size
      replace hb2 := hb2.ext hx4
      replace h := h.ext hx4
      replace E := E.trans hx4
      refine w_pure (y_assign rfl) rfl ?_
      refine w_pure (y_assign rfl) rfl ?_
      refine w_nil ?_
      refine x_next ?_
      refine c_seq ?_
      refine c_region ?_
      refine w_pure (y_move rfl) rfl ?_
      refine w_val rfl rfl rfl (l11Code_c _) rfl (fun w12 hx12 hz12 => ?_)
      have hz_hx12 := hx12.size
      replace hb4 := hb4.ext hx12
      replace hb2 := hb2.ext hx12
      replace h := h.ext hx12
      replace E := E.trans hx12
      refine w_pure (y_assign rfl) rfl ?_
      refine w_nil ?_
      refine x_next ?_
      refine c_seq ?_
      refine c_seq ?_
      refine c_region ?_
      refine w_pure (y_move rfl) rfl ?_
      refine w_pure (y_ne rfl rfl) rfl ?_
      refine w_nil ?_
      refine x_next ?_
      (refine c_dec rfl (fun hc14 => ?_) (fun hc14 => ?_) <;> try (first | exact absurd rfl hc14 | contradiction | exact Bool.noConfusion (show false = true from hc14.symm.trans (by assumption)) | exact Bool.noConfusion (show true = false from hc14.symm.trans (by assumption)) | (exfalso; omega) | (exfalso; simp only [*, Bool.not_true, Bool.not_false, reduceCtorEq] at hc14; done)))
      refine c_skip ?_
      refine x_next ?_
      refine c_seq ?_
      refine c_region ?_
      refine w_pure (y_move rfl) rfl ?_
      (refine w_call rfl rfl rfl (l11Add_c _) rfl ?_; rintro _ w19 ⟨d19, ⟨rfl, ⟨hp1_19, hx19⟩⟩⟩)
      have hl_hp1_19 := hp1_19.lt
      have hz_hx19 := hx19.size
      replace hb4 := hb4.ext hx19
      replace hb2 := hb2.ext hx19
      replace h := h.ext hx19
      replace E := E.trans hx19
      refine w_pure (y_move rfl) rfl ?_
      refine w_pure (y_extract rfl rfl) rfl ?_
      refine w_pure (y_extract rfl rfl) rfl ?_
      refine w_pure (y_extract rfl rfl) rfl ?_
      refine w_alloc (k := fun b8 w8 hb8 hx8 hl8 hs8 => ?_)
      have hz_hx8 := hx8.size
      replace hp1_19 := hp1_19.ext hx8
      replace hb4 := hb4.ext hx8
      replace hb2 := hb2.ext hx8
      replace h := h.ext hx8
      replace E := E.trans hx8
      refine w_store_boxs rfl rfl (next := fun ws35 hbs35 hxs35 hss35 => ?_)
      (replace hb8 := hbs35; clear hbs35)
      have hz_hxs35 := hxs35.size
      replace hp1_19 := hp1_19.chg hxs35 (by omega)
      replace hb4 := hb4.chg hxs35 (by omega)
      replace hb2 := hb2.chg hxs35 (by omega)
      replace h := h.chg hxs35 (by omega)
      replace E := E.next hxs35 (by omega)
      refine w_pure (y_assign rfl) rfl ?_
      refine w_pure (y_assign rfl) rfl ?_
      refine w_nil ?_
      refine x_next ?_
      refine c_seq ?_
      refine c_region ?_
      refine w_pure (y_load_boxs rfl) rfl ?_
      refine w_pure (y_move rfl) rfl ?_
      refine w_store_boxs rfl rfl (next := fun ws44 hbs44 hxs44 hss44 => ?_)
      (replace hb4 := hbs44; clear hbs44)
      have hz_hxs44 := hxs44.size
      replace hb8 := hb8.chg hxs44 (by omega)
      replace hp1_19 := hp1_19.chg hxs44 (by omega)
      replace hb2 := hb2.chg hxs44 (by omega)
      replace h := h.chg hxs44 (by omega)
      replace E := E.next hxs44 (by omega)
      refine w_pure (y_assign rfl) rfl ?_
      refine w_pure (y_assign rfl) rfl ?_
      refine w_nil ?_
      refine x_next ?_
      refine c_ret ?_
      rotate_left
    exact x_retv [_, _, _] rfl ⟨⟨_, rfl, run_load_str (Box.at (by assumption)) (by rfl)⟩, rfl, rfl, trivial⟩ ⟨_, by simp [topAdd, e]; rfl, by rw [resAdd, if_pos e]; exact Own.base (by assumption) (by omega), E.go⟩
  · refine ret_enter Tryd.func29 rfl Tryd.ntmps29 rfl ?_
    focus
      have ht_h := h.top
      refine c_seq ?_
      refine c_region ?_
      refine w_box rfl (k := fun b2 w2 hb2 hx2 hl2 hs2 => ?_)
      have hz_hx2 := hx2.size
      replace h := h.ext hx2
      replace E := E.trans hx2
      refine w_alloc (k := fun b4 w4 hb4 hx4 hl4 hs4 => ?_)
      have hz_hx4 := hx4.size
      replace hb2 := hb2.ext hx4
      replace h := h.ext hx4
      replace E := E.trans hx4
      refine w_pure (y_assign rfl) rfl ?_
      refine w_pure (y_assign rfl) rfl ?_
      refine w_nil ?_
      refine x_next ?_
      refine c_seq ?_
      refine c_region ?_
      refine w_pure (y_move rfl) rfl ?_
      refine w_val rfl rfl rfl (l11Code_c _) rfl (fun w12 hx12 hz12 => ?_)
      have hz_hx12 := hx12.size
      replace hb4 := hb4.ext hx12
      replace hb2 := hb2.ext hx12
      replace h := h.ext hx12
      replace E := E.trans hx12
      refine w_pure (y_assign rfl) rfl ?_
      refine w_nil ?_
      refine x_next ?_
      refine c_seq ?_
      refine c_seq ?_
      refine c_region ?_
      refine w_pure (y_move rfl) rfl ?_
      refine w_pure (y_ne rfl rfl) rfl ?_
      refine w_nil ?_
      refine x_next ?_
      (refine c_dec rfl (fun hc14 => ?_) (fun hc14 => ?_) <;> try (first | exact absurd rfl hc14 | contradiction | exact Bool.noConfusion (show false = true from hc14.symm.trans (by assumption)) | exact Bool.noConfusion (show true = false from hc14.symm.trans (by assumption)) | (exfalso; omega) | (exfalso; simp only [*, Bool.not_true, Bool.not_false, reduceCtorEq] at hc14; done)))
      refine c_seq ?_
      refine c_region ?_
      refine w_pure (y_build rfl) rfl ?_
      refine w_pure (y_move rfl) rfl ?_
      refine w_store_boxs rfl rfl (next := fun ws28 hbs28 hxs28 hss28 => ?_)
      (replace hb4 := hbs28; clear hbs28)
      have hz_hxs28 := hxs28.size
      replace hb2 := hb2.chg hxs28 (by omega)
      replace h := h.chg hxs28 (by omega)
      replace E := E.next hxs28 (by omega)
      refine w_pure (y_assign rfl) rfl ?_
      refine w_pure (y_assign rfl) rfl ?_
      refine w_nil ?_
      refine x_next ?_
      refine c_ret ?_
      refine x_then_ret ?_
      rotate_left
    exact x_retv [_, _, _] rfl ⟨⟨_, rfl, run_load_str (Box.at (by assumption)) (by rfl)⟩, rfl, rfl, trivial⟩ ⟨_, by simp [topAdd, e]; rfl, by rw [resAdd, if_neg e]; exact Own.nil _ _ _, E.go⟩
theorem iCarriesOf_c (n : Int) (h : SL w lo hi v xs := by repeat (first | assumption | exact Go.Gw.Own.sl (by assumption) | exact Go.Gw.Box.at (by assumption) | exact Go.Gw.SLL.el (by first | assumption | exact Go.Gw.OwnD.sll (by assumption)) _ (by omega) | exact Go.Gw.SLL.at (by first | assumption | exact Go.Gw.OwnD.sll (by assumption)) (by omega) | exact Go.Gw.OwnD.sll (by assumption) | (apply Go.Gw.SL.chg; case hx => assumption) | (apply Go.Gw.Own.chg; case hx => assumption) | (apply Go.Gw.Box.chg; case hx => assumption) | (apply Go.Gw.At.chg; case hx => assumption) | exact .inl (Nat.zero_le _) | exact .inr (Nat.zero_le _) | (show _ ∨ _; omega))) : Val Tryd.prog 33 [.agg #[v], .int .i64 n] w (.tuple #[.int .i64 (carAdd xs n), .int .i64 (codeN xs n)]) := by
  refine ⟨fun w1 hx1 => ?_⟩
  have E : Since 0 0 w1 w1 := Since.refl 0 0 w1
  by_cases e : codeN xs n = 0
  · obtain ⟨hk, q1, q2, q3⟩ := codeN_ok e
    have q4 := okC_len hk
    have q5 : Digs xs := okC_dig hk
    refine ret_enter Tryd.func33 rfl Tryd.ntmps33 rfl ?_
    focus
      have ht_h := h.top
      have hz_hx1 := hx1.size
      replace h := h.ext hx1
      refine c_seq ?_
      refine c_region ?_
      refine w_box rfl (k := fun b2 w2 hb2 hx2 hl2 hs2 => ?_)
      have hz_hx2 := hx2.size
      replace E := E.trans hx2
      replace h := h.ext hx2
      refine w_pure (y_assign rfl) rfl ?_
      refine w_pure (y_assign rfl) rfl ?_
      refine w_nil ?_
      refine x_next ?_
      refine c_seq ?_
      refine c_seq ?_
      refine c_region ?_
      refine w_pure (y_load_boxs rfl) rfl ?_
      refine w_pure (y_move rfl) rfl ?_
      refine w_val rfl rfl rfl (countCode_c _) rfl (fun w12 hx12 hz12 => ?_)
      have hz_hx12 := hx12.size
      replace hb2 := hb2.ext hx12
      replace E := E.trans hx12
      replace h := h.ext hx12
      refine w_pure (y_assign rfl) rfl ?_
      refine w_nil ?_
      refine x_next ?_
      refine c_seq ?_
      refine c_region ?_
      refine w_pure (y_move rfl) rfl ?_
      refine w_pure (y_ne rfl rfl) rfl ?_
      refine w_nil ?_
      refine x_next ?_
      (refine c_dec rfl (fun hc14 => ?_) (fun hc14 => ?_) <;> try (first | exact absurd rfl hc14 | contradiction | exact Bool.noConfusion (show false = true from hc14.symm.trans (by assumption)) | exact Bool.noConfusion (show true = false from hc14.symm.trans (by assumption)) | (exfalso; omega) | (exfalso; simp only [*, Bool.not_true, Bool.not_false, reduceCtorEq] at hc14; done)))
      refine c_skip ?_
      refine x_next ?_
      refine c_seq ?_
      refine c_region ?_
      refine w_pure (y_load_boxs rfl) rfl ?_
      refine w_pure (y_move rfl) rfl ?_
      (refine w_call rfl rfl rfl (added_c _) rfl ?_; rintro _ w19 ⟨d19, ⟨rfl, ⟨hp1_19, hx19⟩⟩⟩)
      have hl_hp1_19 := hp1_19.lt
      have hz_hx19 := hx19.size
      replace hb2 := hb2.ext hx19
      replace E := E.trans hx19
      replace h := h.ext hx19
      refine w_pure (y_move rfl) rfl ?_
      refine w_pure (y_extract rfl rfl) rfl ?_
      refine w_pure (y_extract rfl rfl) rfl ?_
      refine w_pure (y_extract rfl rfl) rfl ?_
      refine w_alloc (k := fun b7 w7 hb7 hx7 hl7 hs7 => ?_)
      have hz_hx7 := hx7.size
      replace hp1_19 := hp1_19.ext hx7
      replace hb2 := hb2.ext hx7
      replace E := E.trans hx7
      replace h := h.ext hx7
      refine w_store_boxs rfl rfl (next := fun ws36 hbs36 hxs36 hss36 => ?_)
      (replace hb7 := hbs36; clear hbs36)
      have hz_hxs36 := hxs36.size
      replace hp1_19 := hp1_19.chg hxs36 (by omega)
      replace hb2 := hb2.chg hxs36 (by omega)
      replace E := E.next hxs36 (by omega)
      replace h := h.chg hxs36 (by omega)
      refine w_pure (y_assign rfl) rfl ?_
      refine w_pure (y_assign rfl) rfl ?_
      refine w_nil ?_
      refine x_next ?_
      refine c_seq ?_
      refine c_region ?_
      refine w_pure (y_move rfl) rfl ?_
      refine w_pure (y_assign rfl) rfl ?_
      refine w_pure (y_assign rfl) rfl ?_
      refine w_nil ?_
      refine x_next ?_
      refine c_ret ?_
      rotate_left
    exact x_retv [_, _] rfl ⟨rfl, rfl, trivial⟩ ⟨by rw [carAdd, if_pos e, e]; rfl, E.go⟩
  · refine ret_enter Tryd.func33 rfl Tryd.ntmps33 rfl ?_
    focus
      have ht_h := h.top
      have hz_hx1 := hx1.size
      replace h := h.ext hx1
      refine c_seq ?_
      refine c_region ?_
      refine w_box rfl (k := fun b2 w2 hb2 hx2 hl2 hs2 => ?_)
      have hz_hx2 := hx2.size
      replace E := E.trans hx2
      replace h := h.ext hx2
      refine w_pure (y_assign rfl) rfl ?_
      refine w_pure (y_assign rfl) rfl ?_
      refine w_nil ?_
      refine x_next ?_
      refine c_seq ?_
      refine c_seq ?_
      refine c_region ?_
      refine w_pure (y_load_boxs rfl) rfl ?_
      refine w_pure (y_move rfl) rfl ?_
      refine w_val rfl rfl rfl (countCode_c _) rfl (fun w12 hx12 hz12 => ?_)
      have hz_hx12 := hx12.size
      replace hb2 := hb2.ext hx12
      replace E := E.trans hx12
      replace h := h.ext hx12
      refine w_pure (y_assign rfl) rfl ?_
      refine w_nil ?_
      refine x_next ?_
      refine c_seq ?_
      refine c_region ?_
      refine w_pure (y_move rfl) rfl ?_
      refine w_pure (y_ne rfl rfl) rfl ?_
      refine w_nil ?_
      refine x_next ?_
      (refine c_dec rfl (fun hc14 => ?_) (fun hc14 => ?_) <;> try (first | exact absurd rfl hc14 | contradiction | exact Bool.noConfusion (show false = true from hc14.symm.trans (by assumption)) | exact Bool.noConfusion (show true = false from hc14.symm.trans (by assumption)) | (exfalso; omega) | (exfalso; simp only [*, Bool.not_true, Bool.not_false, reduceCtorEq] at hc14; done)))
      refine c_seq ?_
      refine c_region ?_
      refine w_pure (y_move rfl) rfl ?_
      refine w_pure (y_assign rfl) rfl ?_
      refine w_pure (y_assign rfl) rfl ?_
      refine w_nil ?_
      refine x_next ?_
      refine c_ret ?_
      refine x_then_ret ?_
      rotate_left
    exact x_retv [_, _] rfl ⟨rfl, rfl, trivial⟩ ⟨by rw [carAdd, if_neg e]; rfl, E.go⟩
theorem sCarriesOf_c (n : Int) (h : SL w lo hi v xs := by repeat (first | assumption | exact Go.Gw.Own.sl (by assumption) | exact Go.Gw.Box.at (by assumption) | exact Go.Gw.SLL.el (by first | assumption | exact Go.Gw.OwnD.sll (by assumption)) _ (by omega) | exact Go.Gw.SLL.at (by first | assumption | exact Go.Gw.OwnD.sll (by assumption)) (by omega) | exact Go.Gw.OwnD.sll (by assumption) | (apply Go.Gw.SL.chg; case hx => assumption) | (apply Go.Gw.Own.chg; case hx => assumption) | (apply Go.Gw.Box.chg; case hx => assumption) | (apply Go.Gw.At.chg; case hx => assumption) | exact .inl (Nat.zero_le _) | exact .inr (Nat.zero_le _) | (show _ ∨ _; omega))) : Val Tryd.prog 34 [.agg #[v], .int .i64 n] w (.tuple #[.int .i64 (carAdd xs n), .int .i64 (codeN xs n)]) := by
  refine ⟨fun w1 hx1 => ?_⟩
  have E : Since 0 0 w1 w1 := Since.refl 0 0 w1
  by_cases e : codeN xs n = 0
  · obtain ⟨hk, q1, q2, q3⟩ := codeN_ok e
    have q4 := okC_len hk
    have q5 : Digs xs := okC_dig hk
    refine ret_enter Tryd.func34 rfl Tryd.ntmps34 rfl ?_
    focus
      have ht_h := h.top
      have hz_hx1 := hx1.size
      replace h := h.ext hx1
      refine c_seq ?_
      refine c_region ?_
      refine w_box rfl (k := fun b2 w2 hb2 hx2 hl2 hs2 => ?_)
      have hz_hx2 := hx2.size
      replace E := E.trans hx2
      replace h := h.ext hx2
      refine w_pure (y_assign rfl) rfl ?_
      refine w_pure (y_assign rfl) rfl ?_
      refine w_nil ?_
      refine x_next ?_
      refine c_seq ?_
      refine c_region ?_
      refine w_pure (y_move rfl) rfl ?_
      refine w_val rfl rfl rfl (l11Code_c _) rfl (fun w11 hx11 hz11 => ?_)
      have hz_hx11 := hx11.size
      replace hb2 := hb2.ext hx11
      replace E := E.trans hx11
      replace h := h.ext hx11
      refine w_pure (y_assign rfl) rfl ?_
      refine w_nil ?_
      refine x_next ?_
      refine c_seq ?_
      refine c_seq ?_
      refine c_region ?_
      refine w_pure (y_move rfl) rfl ?_
      refine w_pure (y_ne rfl rfl) rfl ?_
      refine w_nil ?_
      refine x_next ?_
      (refine c_dec rfl (fun hc13 => ?_) (fun hc13 => ?_) <;> try (first | exact absurd rfl hc13 | contradiction | exact Bool.noConfusion (show false = true from hc13.symm.trans (by assumption)) | exact Bool.noConfusion (show true = false from hc13.symm.trans (by assumption)) | (exfalso; omega) | (exfalso; simp only [*, Bool.not_true, Bool.not_false, reduceCtorEq] at hc13; done)))
      refine c_skip ?_
      refine x_next ?_
      refine c_seq ?_
      refine c_region ?_
      refine w_pure (y_move rfl) rfl ?_
      (refine w_call rfl rfl rfl (l11Add_c _) rfl ?_; rintro _ w17 ⟨d17, ⟨rfl, ⟨hp1_17, hx17⟩⟩⟩)
      have hl_hp1_17 := hp1_17.lt
      have hz_hx17 := hx17.size
      replace hb2 := hb2.ext hx17
      replace E := E.trans hx17
      replace h := h.ext hx17
      refine w_pure (y_move rfl) rfl ?_
      refine w_pure (y_extract rfl rfl) rfl ?_
      refine w_pure (y_extract rfl rfl) rfl ?_
      refine w_pure (y_extract rfl rfl) rfl ?_
      refine w_alloc (k := fun b7 w7 hb7 hx7 hl7 hs7 => ?_)
      have hz_hx7 := hx7.size
      replace hp1_17 := hp1_17.ext hx7
      replace hb2 := hb2.ext hx7
      replace E := E.trans hx7
      replace h := h.ext hx7
      refine w_store_boxs rfl rfl (next := fun ws34 hbs34 hxs34 hss34 => ?_)
      (replace hb7 := hbs34; clear hbs34)
      have hz_hxs34 := hxs34.size
      replace hp1_17 := hp1_17.chg hxs34 (by omega)
      replace hb2 := hb2.chg hxs34 (by omega)
      replace E := E.next hxs34 (by omega)
      replace h := h.chg hxs34 (by omega)
      refine w_pure (y_assign rfl) rfl ?_
      refine w_pure (y_assign rfl) rfl ?_
      refine w_nil ?_
      refine x_next ?_
      refine c_seq ?_
      refine c_region ?_
      refine w_pure (y_move rfl) rfl ?_
      refine w_pure (y_assign rfl) rfl ?_
      refine w_pure (y_assign rfl) rfl ?_
      refine w_nil ?_
      refine x_next ?_
      refine c_ret ?_
      rotate_left
    exact x_retv [_, _] rfl ⟨rfl, rfl, trivial⟩ ⟨by rw [carAdd, if_pos e, e]; rfl, E.go⟩
  · refine ret_enter Tryd.func34 rfl Tryd.ntmps34 rfl ?_
    focus
      have ht_h := h.top
      have hz_hx1 := hx1.size
      replace h := h.ext hx1
      refine c_seq ?_
      refine c_region ?_
      refine w_box rfl (k := fun b2 w2 hb2 hx2 hl2 hs2 => ?_)
      have hz_hx2 := hx2.size
      replace E := E.trans hx2
      replace h := h.ext hx2
      refine w_pure (y_assign rfl) rfl ?_
      refine w_pure (y_assign rfl) rfl ?_
      refine w_nil ?_
      refine x_next ?_
      refine c_seq ?_
      refine c_region ?_
      refine w_pure (y_move rfl) rfl ?_
      refine w_val rfl rfl rfl (l11Code_c _) rfl (fun w11 hx11 hz11 => ?_)
      have hz_hx11 := hx11.size
      replace hb2 := hb2.ext hx11
      replace E := E.trans hx11
      replace h := h.ext hx11
      refine w_pure (y_assign rfl) rfl ?_
      refine w_nil ?_
      refine x_next ?_
      refine c_seq ?_
      refine c_seq ?_
      refine c_region ?_
      refine w_pure (y_move rfl) rfl ?_
      refine w_pure (y_ne rfl rfl) rfl ?_
      refine w_nil ?_
      refine x_next ?_
      (refine c_dec rfl (fun hc13 => ?_) (fun hc13 => ?_) <;> try (first | exact absurd rfl hc13 | contradiction | exact Bool.noConfusion (show false = true from hc13.symm.trans (by assumption)) | exact Bool.noConfusion (show true = false from hc13.symm.trans (by assumption)) | (exfalso; omega) | (exfalso; simp only [*, Bool.not_true, Bool.not_false, reduceCtorEq] at hc13; done)))
      refine c_seq ?_
      refine c_region ?_
      refine w_pure (y_move rfl) rfl ?_
      refine w_pure (y_assign rfl) rfl ?_
      refine w_pure (y_assign rfl) rfl ?_
      refine w_nil ?_
      refine x_next ?_
      refine c_ret ?_
      refine x_then_ret ?_
      rotate_left
    exact x_retv [_, _] rfl ⟨rfl, rfl, trivial⟩ ⟨by rw [carAdd, if_neg e]; rfl, E.go⟩
end
end Go.Proofs.YtgkljfncpgbngaaDoor

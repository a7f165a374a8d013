/- Contracts: the nets of a board. -/
import Derived.Test.YthigkbkaeopipaaBrdA
namespace Go.Proofs.Ythigkbkaeopipaa
open Go Go.Gw
set_option linter.unusedVariables false
set_option linter.unusedSimpArgs false
/-- which of the first numbers are chosen -/
def colsP (p : Int → Bool) : Nat → List Int
  | 0 => []
  | i + 1 => colsP p i ++ (if p i then [(i : Int)] else [])
theorem colsP_len (p : Int → Bool) : ∀ i, (colsP p i).length ≤ i
  | 0 => by simp [colsP]
  | i + 1 => by have := colsP_len p i; rw [colsP, List.length_append]; split <;> simp <;> omega
theorem colsP_congr {p q : Int → Bool} : ∀ (i : Nat), (∀ k : Nat, k < i → p k = q k) → colsP p i = colsP q i
  | 0, _ => rfl
  | i + 1, h => by rw [colsP, colsP, colsP_congr i (fun k hk => h k (by omega)), h i (by omega)]
/-- two nets are joined -/
def joinM (r : List Int) (a b : Int) : List Int := r.map fun x => if x = max a b then min a b else x
theorem joinM_len (r : List Int) (a b : Int) : (joinM r a b).length = r.length := by simp [joinM]
/-- the least hub that each is joined with, by the first of some wires -/
def rootsF (h : Nat) (ws : List (Int × Int)) : Nat → List Int
  | 0 => List.map (fun (k : Nat) => (k : Int)) (List.range h)
  | i + 1 => joinM (rootsF h ws i) ((rootsF h ws i).getD (ws.getD i (0, 0)).1.toNat 0) ((rootsF h ws i).getD (ws.getD i (0, 0)).2.toNat 0)
theorem rootsF_len (h : Nat) (ws : List (Int × Int)) : ∀ i, (rootsF h ws i).length = h
  | 0 => by simp [rootsF]
  | i + 1 => by rw [rootsF, joinM_len, rootsF_len h ws i]
theorem keep_step {f xs : List Int} {i : Nat} (hl : f.length = xs.length) (hi : i < xs.length) (he : f.getD i 0 = xs.getD i 0) : f.take i ++ xs.drop i = f.take (i + 1) ++ xs.drop (i + 1) := by
  rw [List.getD_eq_getElem?_getD, List.getD_eq_getElem?_getD, List.getElem?_eq_getElem (by omega), List.getElem?_eq_getElem hi] at he
  rw [List.drop_eq_getElem_cons hi, List.take_add_one, List.getElem?_eq_getElem (show i < f.length by omega)]
  simp only [Option.getD_some] at he
  simp [he]
theorem joinM_getD (r : List Int) (a b : Int) (k : Nat) (hk : k < r.length) : (joinM r a b).getD k 0 = if r.getD k 0 = max a b then min a b else r.getD k 0 := by
  simp [joinM, List.getD_eq_getElem?_getD, hk]
theorem mid_getD {f xs : List Int} {i : Nat} (hl : f.length = xs.length) (hi : i ≤ xs.length) : (f.take i ++ xs.drop i).getD i 0 = xs.getD i 0 := by
  rw [List.getD_eq_getElem?_getD, List.getElem?_append_right (by simp; omega), List.length_take, Nat.min_eq_left (by omega), Nat.sub_self, List.getElem?_drop, Nat.add_zero, List.getD_eq_getElem?_getD]
section
variable {w : World} {v v' : Value} {xs ys : List Int} {ws : List (Int × Int)} {lo hi lo' hi' b b' : Nat} {e n j e' n' j' : Int}
theorem Val_later {P : Program} {f : FuncId} {args : List Value} {w w' : World} {u : Value} (h : Val P f args w u) (hx : Ext w w') : Val P f args w' u := ⟨fun w3 hx3 => h.go w3 (hx.trans hx3)⟩
theorem columnsWhere_c {f : FuncId} [Callable Try.prog f] {first cap : List Value} {p : Int → Bool} {c : Int} {hp : ∀ k : Int, 0 ≤ k → k < c → Val Try.prog f (first ++ [.int .i64 k] ++ cap) w (.bool (p k))} (hc : 0 ≤ c ∧ c ≤ 1000 := by omega) :
    Ret Try.prog 100 [.int .i64 c, .func (.func f) first.toArray cap.toArray] w fun u w' => Own w' 2 w.heap.size u (colsP p c.toNat) ∧ Ext w w' := by
  have E : Since 0 0 w w := Since.refl 0 0 w
  refine ret_enter Try.func100 rfl Try.ntmps100 rfl ?_
  focus
    refine c_seq ?_
    refine c_region ?_
    refine w_pure (y_assign rfl) rfl ?_
    refine w_nil ?_
    refine x_next ?_
    refine c_seq ?_
    refine c_region ?_
    refine w_lit (α := Int) rfl rfl rfl rfl rfl rfl rfl rfl (fun v7 w7 ho7 hx7 hl7 hh7 hs7 => ?_)
    have hl_ho7 := ho7.lt
    have hz_hx7 := hx7.size
    replace E := E.trans hx7
    refine w_pure (y_assign rfl) rfl ?_
    refine w_nil ?_
    refine x_next ?_
    refine c_seq ?_
    refine c_seq ?_
    refine c_region ?_
    refine w_pure (y_move rfl) rfl ?_
    refine w_pure (y_move rfl) rfl ?_
    refine w_nil ?_
    refine x_next ?_
    refine c_block ?_
    rotate_left
  refine c_loopC (bL v7) (bH v7) (ι := Nat × Value) (fun x => [(1, .func (.func f) first.toArray cap.toArray), (5, x.2), (8, .int .i64 c), (9, .int .i64 x.1)]) (fun x w' => Own w' 2 w.heap.size x.2 (colsP p x.1) ∧ (x.1 : Int) ≤ c) (fun x => c.toNat - x.1) (0, v7) (by repeat (first | exact trivial | refine ⟨rfl, ?_⟩)) ⟨ho7, by simp; omega⟩ ?_
  rintro ⟨i, u⟩ wL hxL EL ⟨ho, hi⟩
  dsimp only at *
  clear ho7
  have hpL := fun k h0 h1 => Val_later (hp k h0 h1) (E.next hxL (by omega)).go
  have q1 := colsP_len p i
  focus
    have hl_ho := ho.lt
    have hz_hxL := hxL.size
    replace E := E.next hxL (by omega)
    refine c_seq ?_
    refine c_region ?_
    refine w_pure (y_lt rfl rfl) rfl ?_
    refine w_nil ?_
    refine x_next ?_
    refine c_seq ?_
    (refine c_dec rfl (fun hc10 => ?_) (fun hc10 => ?_) <;> try (first | exact absurd rfl hc10 | contradiction | exact Bool.noConfusion (show false = true from hc10.symm.trans (by assumption)) | exact Bool.noConfusion (show true = false from hc10.symm.trans (by assumption)) | (exfalso; omega) | (exfalso; simp only [*, Bool.not_true, Bool.not_false, reduceCtorEq] at hc10; done)))
    refine c_skip ?_
    refine x_next ?_
    refine c_seq ?_
    refine c_block ?_
    refine c_seq ?_
    refine c_region ?_
    refine w_pure (y_move rfl) rfl ?_
    refine w_pure (y_assign rfl) rfl ?_
    refine w_nil ?_
    refine x_next ?_
    refine c_seq ?_
    refine c_region ?_
    refine w_pure (y_move rfl) rfl ?_
    refine w_pure (y_move rfl) rfl ?_
    refine w_val rfl rfl rfl (hpL _ (by omega) (by omega)) rfl (fun w14 hx14 hz14 => ?_)
    have hz_hx14 := hx14.size
    replace EL := EL.next hx14 (by omega)
    replace ho := ho.ext hx14
    replace E := E.trans hx14
    refine w_nil ?_
    refine x_next ?_
    (refine c_if rfl (fun hc14 => ?_) (fun hc14 => ?_) <;> try (first | exact absurd rfl hc14 | contradiction | exact Bool.noConfusion (show false = true from hc14.symm.trans (by assumption)) | exact Bool.noConfusion (show true = false from hc14.symm.trans (by assumption)) | (exfalso; omega) | (exfalso; simp only [*, Bool.not_true, Bool.not_false, reduceCtorEq] at hc14; done)))
    refine c_region ?_
    refine w_pure (y_move rfl) rfl ?_
    refine w_pure (y_move rfl) rfl ?_
    refine w_lit (α := Int) rfl rfl rfl rfl rfl rfl rfl rfl (fun v17 w17 ho17 hx17 hl17 hh17 hs17 => ?_)
    have hl_ho17 := ho17.lt
    have hz_hx17 := hx17.size
    replace EL := EL.next hx17 (by omega)
    replace ho := ho.ext hx17
    replace E := E.trans hx17
    refine w_append rfl rfl (k := fun v18 w18 ho18 hx18 hr18 => ?_)
    have hl_ho18 := ho18.lt
    have hz_hx18 := hx18.size
    replace ho17 := ho17.chg hx18 (by omega)
    replace EL := EL.next hx18 (by omega)
    replace E := E.next hx18 (by omega)
    refine w_pure (y_assign rfl) rfl ?_
    refine w_nil ?_
    refine x_block_norm ?_
    refine x_next ?_
    refine c_region ?_
    refine w_pure (y_add rfl rfl) rfl ?_
    refine w_pure (y_move rfl) rfl ?_
    refine w_nil ?_
    rotate_left
    refine c_skip ?_
    refine x_block_norm ?_
    refine x_next ?_
    refine c_region ?_
    refine w_pure (y_add rfl rfl) rfl ?_
    refine w_pure (y_move rfl) rfl ?_
    refine w_nil ?_
    rotate_left
    refine c_exit ?_
    refine x_then_exit ?_
    refine x_then_exit ?_
    refine x_block_hit ?_
    refine x_next ?_
    refine c_seq ?_
    refine c_region ?_
    refine w_pure (y_move rfl) rfl ?_
    refine w_pure (y_assign rfl) rfl ?_
    refine w_nil ?_
    refine x_next ?_
    refine c_ret ?_
    rotate_left
  · refine x_again (i + 1, v18) (by repeat (first | exact trivial | refine ⟨rfl, ?_⟩)) ⟨EL.go, ?_, by dsimp only; omega⟩ (by dsimp only; omega)
    dsimp only
    rw [colsP, if_pos hc14]
    assumption
  · refine x_again (i + 1, u) (by repeat (first | exact trivial | refine ⟨rfl, ?_⟩)) ⟨EL.go, ?_, by dsimp only; omega⟩ (by dsimp only; omega)
    dsimp only
    rw [colsP, if_neg (by rw [hc14]; simp), List.append_nil]
    exact ho
  · refine x_retv [_] rfl ⟨rfl, trivial⟩ ⟨?_, E.go⟩
    rw [show c.toNat = i by omega]
    exact ho
theorem hubsWith1_c (k f : Int) (hp1 : At w b 0 [v] := by repeat (first | assumption | exact Go.Gw.Own.sl (by assumption) | exact Go.Gw.Box.at (by assumption) | exact Go.Gw.SLL.el (by first | assumption | exact Go.Gw.OwnD.sll (by assumption)) _ (by omega) | exact Go.Gw.SLL.at (by first | assumption | exact Go.Gw.OwnD.sll (by assumption)) (by omega) | exact Go.Gw.OwnD.sll (by assumption) | (apply Go.Gw.SL.chg; case hx => assumption) | (apply Go.Gw.Own.chg; case hx => assumption) | (apply Go.Gw.Box.chg; case hx => assumption) | (apply Go.Gw.At.chg; case hx => assumption) | exact .inl (Nat.zero_le _) | exact .inr (Nat.zero_le _) | (show _ ∨ _; omega))) (hp2 : At w b' 0 [.int .i64 f] := by repeat (first | assumption | exact Go.Gw.Own.sl (by assumption) | exact Go.Gw.Box.at (by assumption) | exact Go.Gw.SLL.el (by first | assumption | exact Go.Gw.OwnD.sll (by assumption)) _ (by omega) | exact Go.Gw.SLL.at (by first | assumption | exact Go.Gw.OwnD.sll (by assumption)) (by omega) | exact Go.Gw.OwnD.sll (by assumption) | (apply Go.Gw.SL.chg; case hx => assumption) | (apply Go.Gw.Own.chg; case hx => assumption) | (apply Go.Gw.Box.chg; case hx => assumption) | (apply Go.Gw.At.chg; case hx => assumption) | exact .inl (Nat.zero_le _) | exact .inr (Nat.zero_le _) | (show _ ∨ _; omega))) (h : SL w lo hi v xs := by repeat (first | assumption | exact Go.Gw.Own.sl (by assumption) | exact Go.Gw.Box.at (by assumption) | exact Go.Gw.SLL.el (by first | assumption | exact Go.Gw.OwnD.sll (by assumption)) _ (by omega) | exact Go.Gw.SLL.at (by first | assumption | exact Go.Gw.OwnD.sll (by assumption)) (by omega) | exact Go.Gw.OwnD.sll (by assumption) | (apply Go.Gw.SL.chg; case hx => assumption) | (apply Go.Gw.Own.chg; case hx => assumption) | (apply Go.Gw.Box.chg; case hx => assumption) | (apply Go.Gw.At.chg; case hx => assumption) | exact .inl (Nat.zero_le _) | exact .inr (Nat.zero_le _) | (show _ ∨ _; omega))) (hk : 0 ≤ k ∧ k < xs.length := by omega) : Val Try.prog 161 [.int .i64 k, ptr b 0, ptr b' 0] w (.bool (decide (xs.getD k.toNat 0 = f))) := by
  refine ⟨fun w0 hx0 => ?_⟩
  have E : Since 0 0 w0 w0 := Since.refl 0 0 w0
  refine ret_enter Try.func161 rfl Try.ntmps161 rfl ?_
  focus
    have ht_h := h.top
    have hz_hx0 := hx0.size
    replace hp1 := hp1.ext hx0
    replace hp2 := hp2.ext hx0
    replace h := h.ext hx0
    refine c_seq ?_
    refine c_region ?_
    refine w_pure (y_assign rfl) rfl ?_
    refine w_nil ?_
    refine x_next ?_
    refine c_seq ?_
    refine c_region_calm mixed (by decide +kernel) (by kernel_rfl) ?_
    refine q_pure (y_load rfl) rfl ?_
    refine q_pure (y_move rfl) rfl ?_
    refine q_pure (y_index rfl rfl) rfl ?_
    refine q_pure (y_load_int rfl) rfl ?_
    refine q_pure (y_load rfl) rfl ?_
    refine q_pure (y_eq rfl rfl) rfl ?_
    refine q_pure (y_assign rfl) rfl ?_
    refine q_nil (fun ws15 hxs15 hzs15 => ?_)
    have hz_hxs15 := hxs15.size
    replace E := E.trans hxs15
    replace hp1 := hp1.ext hxs15
    replace hp2 := hp2.ext hxs15
    replace h := h.ext hxs15
    refine x_next ?_
    refine c_ret ?_
    rotate_left
  exact x_retv [_] rfl ⟨rfl, trivial⟩ ⟨rfl, E.go⟩
theorem hubsWith_c (f : Int) (h : SL w lo hi v xs := by repeat (first | assumption | exact Go.Gw.Own.sl (by assumption) | exact Go.Gw.Box.at (by assumption) | exact Go.Gw.SLL.el (by first | assumption | exact Go.Gw.OwnD.sll (by assumption)) _ (by omega) | exact Go.Gw.SLL.at (by first | assumption | exact Go.Gw.OwnD.sll (by assumption)) (by omega) | exact Go.Gw.OwnD.sll (by assumption) | (apply Go.Gw.SL.chg; case hx => assumption) | (apply Go.Gw.Own.chg; case hx => assumption) | (apply Go.Gw.Box.chg; case hx => assumption) | (apply Go.Gw.At.chg; case hx => assumption) | exact .inl (Nat.zero_le _) | exact .inr (Nat.zero_le _) | (show _ ∨ _; omega))) (hl : xs.length ≤ 1000 := by omega) : Ret Try.prog 111 [v, .int .i64 f] w fun u w' => Own w' 2 w.heap.size u (colsP (fun k => decide (xs.getD k.toNat 0 = f)) xs.length) ∧ Ext w w' := by
  have E : Since 0 0 w w := Since.refl 0 0 w
  refine ret_enter Try.func111 rfl Try.ntmps111 rfl ?_
  focus
    have ht_h := h.top
    refine c_seq ?_
    refine c_region ?_
    refine w_box1 rfl (k := fun b2 w2 hb2 hx2 hl2 hs2 => ?_)
    have hz_hx2 := hx2.size
    replace h := h.ext hx2
    replace E := E.trans hx2
    refine w_box1 rfl (k := fun b3 w3 hb3 hx3 hl3 hs3 => ?_)
    have hz_hx3 := hx3.size
    replace hb2 := hb2.ext hx3
    replace h := h.ext hx3
    replace E := E.trans hx3
    refine w_pure (y_assign rfl) rfl ?_
    refine w_nil ?_
    refine x_next ?_
    refine c_seq ?_
    refine c_region ?_
    refine w_pure (y_load_box rfl) rfl ?_
    refine w_val rfl rfl rfl (size_c) rfl (fun w6 hx6 hz6 => ?_)
    have hz_hx6 := hx6.size
    replace hb3 := hb3.ext hx6
    replace hb2 := hb2.ext hx6
    replace h := h.ext hx6
    replace E := E.trans hx6
    refine w_pure (y_func rfl) rfl ?_
    (refine w_call rfl rfl rfl (columnsWhere_c (first := []) (cap := [ptr b2 0, ptr b3 0]) (p := fun k => decide (xs.getD k.toNat 0 = f)) (hp := fun k h0 h1 => hubsWith1_c k f (hk := ⟨h0, h1⟩))) rfl ?_; rintro v8 w8 ⟨hp1_8, hx8⟩)
    have hl_hp1_8 := hp1_8.lt
    have hz_hx8 := hx8.size
    replace hb3 := hb3.ext hx8
    replace hb2 := hb2.ext hx8
    replace h := h.ext hx8
    replace E := E.trans hx8
    refine w_pure (y_assign rfl) rfl ?_
    refine w_nil ?_
    refine x_next ?_
    refine c_ret ?_
    rotate_left
  exact x_retv [_] rfl ⟨rfl, trivial⟩ ⟨Own.base (by assumption) (by omega), E.go⟩
theorem l00Min_c (a b : Int) : Pur Try.prog 80 [.int .i64 a, .int .i64 b] (.int .i64 (min a b)) := by
  refine ⟨fun w => ?_⟩
  refine ret_enter Try.func80 rfl Try.ntmps80 rfl ?_
  focus
    refine c_seq ?_
    refine c_region ?_
    refine w_pure (y_assign rfl) rfl ?_
    refine w_nil ?_
    refine x_next ?_
    refine c_seq ?_
    refine c_seq ?_
    refine c_region ?_
    refine w_pure (y_move rfl) rfl ?_
    refine w_pure (y_move rfl) rfl ?_
    refine w_pure (y_lt rfl rfl) rfl ?_
    refine w_nil ?_
    refine x_next ?_
    (refine c_dec rfl (fun hc7 => ?_) (fun hc7 => ?_) <;> try (first | exact absurd rfl hc7 | contradiction | exact Bool.noConfusion (show false = true from hc7.symm.trans (by assumption)) | exact Bool.noConfusion (show true = false from hc7.symm.trans (by assumption)) | (exfalso; omega) | (exfalso; simp only [*, Bool.not_true, Bool.not_false, reduceCtorEq] at hc7; done)))
    refine c_seq ?_
    refine c_region ?_
    refine w_pure (y_move rfl) rfl ?_
    refine w_pure (y_assign rfl) rfl ?_
    refine w_nil ?_
    refine x_next ?_
    refine c_ret ?_
    refine x_then_ret ?_
    rotate_left
    refine c_skip ?_
    refine x_next ?_
    refine c_seq ?_
    refine c_region ?_
    refine w_pure (y_move rfl) rfl ?_
    refine w_pure (y_assign rfl) rfl ?_
    refine w_nil ?_
    refine x_next ?_
    refine c_ret ?_
    rotate_left
  all_goals refine x_retv [_] rfl ⟨rfl, trivial⟩ ⟨?_, rfl⟩
  all_goals simp only [ofResults]; congr 1; omega
theorem l00Has_c (k : Int) (h : SL w lo hi v xs := by repeat (first | assumption | exact Go.Gw.Own.sl (by assumption) | exact Go.Gw.Box.at (by assumption) | exact Go.Gw.SLL.el (by first | assumption | exact Go.Gw.OwnD.sll (by assumption)) _ (by omega) | exact Go.Gw.SLL.at (by first | assumption | exact Go.Gw.OwnD.sll (by assumption)) (by omega) | exact Go.Gw.OwnD.sll (by assumption) | (apply Go.Gw.SL.chg; case hx => assumption) | (apply Go.Gw.Own.chg; case hx => assumption) | (apply Go.Gw.Box.chg; case hx => assumption) | (apply Go.Gw.At.chg; case hx => assumption) | exact .inl (Nat.zero_le _) | exact .inr (Nat.zero_le _) | (show _ ∨ _; omega))) : Val Try.prog 164 [v, .int .i64 k] w (.bool (decide (k ∈ xs))) := by
  refine ⟨fun w0 hx0 => ?_⟩
  have E : Since 0 0 w0 w0 := Since.refl 0 0 w0
  have hsm := h.small
  refine ret_enter Try.func164 rfl Try.ntmps164 rfl ?_
  focus
    have ht_h := h.top
    have hz_hx0 := hx0.size
    replace h := h.ext hx0
    refine c_seq ?_
    refine c_region ?_
    refine w_pure (y_assign rfl) rfl ?_
    refine w_nil ?_
    refine x_next ?_
    refine c_seq ?_
    refine c_seq ?_
    refine c_region ?_
    refine w_pure (y_assign rfl) rfl ?_
    refine w_nil ?_
    refine x_next ?_
    refine c_block ?_
    rotate_left
  refine c_loopC 0 0 (ι := Nat) (fun x => [(0, v), (1, .int .i64 k), (5, .int .i64 x)]) (fun x w' => x ≤ xs.length ∧ k ∉ xs.take x) (fun x => xs.length - x) 0 (by repeat (first | exact trivial | refine ⟨rfl, ?_⟩)) ⟨by omega, by simp⟩ ?_
  rintro i wL hxL EL ⟨hi, hall⟩
  focus
    have hz_hxL := hxL.size
    replace E := E.trans hxL
    replace h := h.ext hxL
    refine c_seq ?_
    refine c_seq ?_
    refine c_region ?_
    refine w_pure (y_move rfl) rfl ?_
    refine w_pure (y_move rfl) rfl ?_
    refine w_pure (y_len rfl) rfl ?_
    refine w_pure (y_lt rfl rfl) rfl ?_
    refine w_nil ?_
    refine x_next ?_
    (refine c_dec rfl (fun hc9 => ?_) (fun hc9 => ?_) <;> try (first | exact absurd rfl hc9 | contradiction | exact Bool.noConfusion (show false = true from hc9.symm.trans (by assumption)) | exact Bool.noConfusion (show true = false from hc9.symm.trans (by assumption)) | (exfalso; omega) | (exfalso; simp only [*, Bool.not_true, Bool.not_false, reduceCtorEq] at hc9; done)))
    refine c_skip ?_
    refine x_next ?_
    refine c_seq ?_
    refine c_block ?_
    refine c_seq ?_
    refine c_region ?_
    refine w_pure (y_move rfl) rfl ?_
    refine w_pure (y_move rfl) rfl ?_
    refine w_pure (y_index rfl rfl) rfl ?_
    refine w_pure (y_load_int rfl) rfl ?_
    refine w_pure (y_move rfl) rfl ?_
    refine w_pure (y_eq rfl rfl) rfl ?_
    refine w_nil ?_
    refine x_next ?_
    (refine c_dec rfl (fun hc17 => ?_) (fun hc17 => ?_) <;> try (first | exact absurd rfl hc17 | contradiction | exact Bool.noConfusion (show false = true from hc17.symm.trans (by assumption)) | exact Bool.noConfusion (show true = false from hc17.symm.trans (by assumption)) | (exfalso; omega) | (exfalso; simp only [*, Bool.not_true, Bool.not_false, reduceCtorEq] at hc17; done)))
    refine c_seq ?_
    refine c_region ?_
    refine w_pure (y_assign rfl) rfl ?_
    refine w_nil ?_
    refine x_next ?_
    refine c_ret ?_
    refine x_block_ret ?_
    refine x_then_ret ?_
    refine x_then_ret ?_
    refine x_block_ret ?_
    refine x_then_ret ?_
    rotate_left
    refine c_skip ?_
    refine x_block_norm ?_
    refine x_next ?_
    refine c_region ?_
    refine w_pure (y_move rfl) rfl ?_
    refine w_pure (y_add rfl rfl) rfl ?_
    refine w_pure (y_assign rfl) rfl ?_
    refine w_nil ?_
    rotate_left
    refine c_exit ?_
    refine x_then_exit ?_
    refine x_then_exit ?_
    refine x_block_hit ?_
    refine x_next ?_
    refine c_seq ?_
    refine c_region ?_
    refine w_pure (y_assign rfl) rfl ?_
    refine w_nil ?_
    refine x_next ?_
    refine c_ret ?_
    rotate_left
  · refine x_retv [_] rfl ⟨rfl, trivial⟩ ⟨?_, E.go⟩
    have hlt : i < xs.length := by omega
    have : k ∈ xs := by rw [← hc17, show (i : Int).toNat = i from rfl, List.getD_eq_getElem?_getD, List.getElem?_eq_getElem hlt]; simp
    rw [decide_eq_true this]; rfl
  · refine x_again (i + 1) (by repeat (first | exact trivial | refine ⟨rfl, ?_⟩)) ⟨EL.go, by omega, ?_⟩ (by omega)
    have hlt : i < xs.length := by omega
    rw [List.take_add_one, List.getElem?_eq_getElem hlt]
    rw [show (i : Int).toNat = i from rfl, List.getD_eq_getElem?_getD, List.getElem?_eq_getElem hlt] at hc17
    simp only [Option.toList_some, List.mem_append, List.mem_singleton, not_or]
    exact ⟨hall, fun g => hc17 (by rw [g]; rfl)⟩
  · refine x_retv [_] rfl ⟨rfl, trivial⟩ ⟨?_, E.go⟩
    have : ¬ k ∈ xs := by rw [List.take_of_length_le (by omega)] at hall; exact hall
    rw [decide_eq_false this]; rfl
theorem l12Join_c (a b : Int) {B : Nat} (h : Own w 2 B v xs := by assumption) (hl : xs.length ≤ 1000 := by omega) : Ret Try.prog 165 [v, .int .i64 a, .int .i64 b] w fun u w' => v = u ∧ Own w' 2 B v (joinM xs a b) ∧ Chg (bL v) (bH v) w w' := by
  have EC : Since (bL v) (bH v) w w := Since.refl _ _ _
  refine ret_enter Try.func165 rfl Try.ntmps165 rfl ?_
  focus
    have hl_h := h.lt
    refine c_seq ?_
    refine c_region ?_
    refine w_pure (y_assign rfl) rfl ?_
    refine w_nil ?_
    refine x_next ?_
    refine c_seq ?_
    refine c_seq ?_
    refine c_region ?_
    refine w_pure (y_assign rfl) rfl ?_
    refine w_nil ?_
    refine x_next ?_
    refine c_block ?_
    rotate_left
  refine c_loopC (bL v) (bH v) (ι := Nat) (fun x => [(0, v), (1, .int .i64 a), (2, .int .i64 b), (7, .int .i64 x)]) (fun x w' => Own w' 2 B v ((joinM xs a b).take x ++ xs.drop x) ∧ x ≤ xs.length) (fun x => xs.length - x) 0 (by repeat (first | exact trivial | refine ⟨rfl, ?_⟩)) ⟨by simpa using h, by omega⟩ ?_
  rintro i wL hxL EL ⟨ho, hi⟩
  clear h
  have hlj := joinM_len xs a b
  have hlen : ((joinM xs a b).take i ++ xs.drop i).length = xs.length := by simp; omega
  have hg : ((joinM xs a b).take i ++ xs.drop i).getD (i : Int).toNat 0 = xs.getD i 0 := mid_getD hlj hi
  have hj := joinM_getD xs a b i
  by_cases hlt : i < xs.length
  · have hj := hj hlt
    focus
      have hl_ho := ho.lt
      have hz_hxL := hxL.size
      replace EC := EC.trans hxL
      refine c_seq ?_
      refine c_seq ?_
      refine c_region ?_
      refine w_pure (y_move rfl) rfl ?_
      refine w_pure (y_move rfl) rfl ?_
      refine w_pure (y_len rfl) rfl ?_
      refine w_pure (y_lt rfl rfl) rfl ?_
      refine w_nil ?_
      refine x_next ?_
      (refine c_dec rfl (fun hc11 => ?_) (fun hc11 => ?_) <;> try (first | exact absurd rfl hc11 | contradiction | exact Bool.noConfusion (show false = true from hc11.symm.trans (by assumption)) | exact Bool.noConfusion (show true = false from hc11.symm.trans (by assumption)) | (exfalso; omega) | (exfalso; simp only [*, Bool.not_true, Bool.not_false, reduceCtorEq] at hc11; done)))
      refine c_skip ?_
      refine x_next ?_
      refine c_seq ?_
      refine c_block ?_
      refine c_seq ?_
      refine c_region ?_
      refine w_pure (y_move rfl) rfl ?_
      refine w_pure (y_move rfl) rfl ?_
      refine w_pure (y_index rfl rfl) rfl ?_
      refine w_pure (y_load_inte rfl hg) rfl ?_
      refine w_pure (y_move rfl) rfl ?_
      refine w_pure (y_eq rfl rfl) rfl ?_
      refine w_pure (y_move rfl) rfl ?_
      (refine w_part_dec rfl rfl (fun hc21 => ?_) (fun hc21 => ?_) <;> try (first | exact absurd rfl hc21 | contradiction | exact Bool.noConfusion (show false = true from hc21.symm.trans (by assumption)) | exact Bool.noConfusion (show true = false from hc21.symm.trans (by assumption)) | (exfalso; omega) | (exfalso; simp only [*, Bool.not_true, Bool.not_false, reduceCtorEq] at hc21; done)))
      refine w_no rfl rfl rfl rfl ?_
      refine w_no rfl rfl rfl rfl ?_
      refine w_no rfl rfl rfl rfl ?_
      refine w_no rfl rfl rfl rfl ?_
      refine w_no rfl rfl rfl rfl ?_
      refine w_no rfl rfl rfl rfl ?_
      refine w_pure (y_pick_t rfl rfl) rfl ?_
      refine w_nil ?_
      refine x_next ?_
      refine c_true rfl ?_
      refine c_region ?_
      refine w_pure (y_move rfl) rfl ?_
      refine w_pure (y_move rfl) rfl ?_
      refine w_pure (y_move rfl) rfl ?_
      refine w_pure (y_move rfl) rfl ?_
      refine w_pur rfl rfl rfl (l00Min_c _ _) rfl ?_
      refine w_pure (y_index rfl rfl) rfl ?_
      refine w_store_own rfl rfl (next := fun ws42 hos42 hxs42 hss42 => ?_)
      (replace ho := hos42; clear hos42)
      have hz_hxs42 := hxs42.size
      replace EL := EL.trans hxs42
      replace EC := EC.trans hxs42
      refine w_nil ?_
      refine x_block_norm ?_
      refine x_next ?_
      refine c_region ?_
      refine w_pure (y_move rfl) rfl ?_
      refine w_pure (y_add rfl rfl) rfl ?_
      refine w_pure (y_assign rfl) rfl ?_
      refine w_nil ?_
      rotate_left
      refine w_yes rfl rfl ?_
      refine w_pure (y_move rfl) rfl ?_
      refine w_yes rfl rfl ?_
      refine w_pure (y_move rfl) rfl ?_
      refine w_yes rfl rfl ?_
      refine w_pure (y_index rfl rfl) rfl ?_
      refine w_yes rfl rfl ?_
      refine w_pure (y_load_inte rfl hg) rfl ?_
      refine w_yes rfl rfl ?_
      refine w_pure (y_move rfl) rfl ?_
      refine w_yes rfl rfl ?_
      refine w_pure (y_eq rfl rfl) rfl ?_
      refine w_pure (y_pick_f rfl rfl) rfl ?_
      refine w_nil ?_
      refine x_next ?_
      (refine c_dec rfl (fun hc27 => ?_) (fun hc27 => ?_) <;> try (first | exact absurd rfl hc27 | contradiction | exact Bool.noConfusion (show false = true from hc27.symm.trans (by assumption)) | exact Bool.noConfusion (show true = false from hc27.symm.trans (by assumption)) | (exfalso; omega) | (exfalso; simp only [*, Bool.not_true, Bool.not_false, reduceCtorEq] at hc27; done)))
      refine c_region ?_
      refine w_pure (y_move rfl) rfl ?_
      refine w_pure (y_move rfl) rfl ?_
      refine w_pure (y_move rfl) rfl ?_
      refine w_pure (y_move rfl) rfl ?_
      refine w_pur rfl rfl rfl (l00Min_c _ _) rfl ?_
      refine w_pure (y_index rfl rfl) rfl ?_
      refine w_store_own rfl rfl (next := fun ws75 hos75 hxs75 hss75 => ?_)
      (replace ho := hos75; clear hos75)
      have hz_hxs75 := hxs75.size
      replace EL := EL.trans hxs75
      replace EC := EC.trans hxs75
      refine w_nil ?_
      refine x_block_norm ?_
      refine x_next ?_
      refine c_region ?_
      refine w_pure (y_move rfl) rfl ?_
      refine w_pure (y_add rfl rfl) rfl ?_
      refine w_pure (y_assign rfl) rfl ?_
      refine w_nil ?_
      rotate_left
      refine c_skip ?_
      refine x_block_norm ?_
      refine x_next ?_
      refine c_region ?_
      refine w_pure (y_move rfl) rfl ?_
      refine w_pure (y_add rfl rfl) rfl ?_
      refine w_pure (y_assign rfl) rfl ?_
      refine w_nil ?_
      rotate_left
    all_goals first
      | (refine x_again (i + 1) (by repeat (first | exact trivial | refine ⟨rfl, ?_⟩)) ⟨EL.go, ?_, by omega⟩ (by omega)
         rw [← upd_step hlj hlt (y := min a b) (by rw [List.getElem?_eq_getElem (by omega)]; rw [List.getD_eq_getElem?_getD, List.getElem?_eq_getElem (by omega)] at hj; simp only [Option.getD_some] at hj; rw [hj]; congr 1; split <;> omega)]
         exact ho)
      | (refine x_again (i + 1) (by repeat (first | exact trivial | refine ⟨rfl, ?_⟩)) ⟨EL.go, ?_, by omega⟩ (by omega)
         rw [← keep_step hlj hlt (by rw [hj]; rw [if_neg (by omega)])]
         exact ho)
  · focus
      have hl_ho := ho.lt
      have hz_hxL := hxL.size
      replace EC := EC.trans hxL
      refine c_seq ?_
      refine c_seq ?_
      refine c_region ?_
      refine w_pure (y_move rfl) rfl ?_
      refine w_pure (y_move rfl) rfl ?_
      refine w_pure (y_len rfl) rfl ?_
      refine w_pure (y_lt rfl rfl) rfl ?_
      refine w_nil ?_
      refine x_next ?_
      (refine c_dec rfl (fun hc11 => ?_) (fun hc11 => ?_) <;> try (first | exact absurd rfl hc11 | contradiction | exact Bool.noConfusion (show false = true from hc11.symm.trans (by assumption)) | exact Bool.noConfusion (show true = false from hc11.symm.trans (by assumption)) | (exfalso; omega) | (exfalso; simp only [*, Bool.not_true, Bool.not_false, reduceCtorEq] at hc11; done)))
      refine c_exit ?_
      refine x_then_exit ?_
      refine x_then_exit ?_
      refine x_block_hit ?_
      refine x_next ?_
      refine c_seq ?_
      refine c_region ?_
      refine w_pure (y_move rfl) rfl ?_
      refine w_pure (y_assign rfl) rfl ?_
      refine w_nil ?_
      refine x_next ?_
      refine c_ret ?_
      rotate_left
    refine x_retv [_] rfl ⟨rfl, trivial⟩ ⟨rfl, ?_, EC.go⟩
    have : (joinM xs a b).take i ++ xs.drop i = joinM xs a b := by rw [List.take_of_length_le (by omega), List.drop_eq_nil_of_le (by omega), List.append_nil]
    rw [this] at ho
    exact ho
end
end Go.Proofs.Ythigkbkaeopipaa

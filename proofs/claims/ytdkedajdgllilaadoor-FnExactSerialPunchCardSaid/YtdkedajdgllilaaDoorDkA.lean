/- Contracts of the laws' helpers on decks: slices of slices of numbers. -/
import Derived.Test.YtdkedajdgllilaaDoorLawA
import Derived.Test.YtdkedajdgllilaaDoorL14
namespace Go.Proofs.YtdkedajdgllilaaDoor
open Go Go.Gw
set_option linter.unusedVariables false
set_option linter.unusedSimpArgs false

/-- how many numbers stand in the first i slices -/
def tot (xss : List (List Int)) (i : Nat) : Nat := ((xss.take i).map List.length).sum
def totD (xss : List (List Int)) : Nat := tot xss xss.length
theorem tot_zero (xss : List (List Int)) : tot xss 0 = 0 := rfl
theorem tot_succ {xss : List (List Int)} {i : Nat} (h : i < xss.length) : tot xss (i + 1) = tot xss i + (xss.getD i []).length := by
  unfold tot
  rw [List.take_add_one, List.getD_eq_getElem?_getD, List.getElem?_eq_getElem h]
  rw [List.map_append, List.sum_append]
  simp
theorem tot_mono (xss : List (List Int)) (i : Nat) : ∀ j, tot xss i ≤ tot xss (i + j)
  | 0 => Nat.le_refl _
  | j + 1 => by
    have h1 := tot_mono xss i j
    by_cases h : i + j < xss.length
    · have := tot_succ h
      rw [← Nat.add_assoc]; omega
    · have : tot xss (i + (j + 1)) = tot xss (i + j) := by unfold tot; rw [List.take_of_length_le (by omega), List.take_of_length_le (by omega)]
      omega
theorem tot_le {xss : List (List Int)} {i : Nat} (h : i ≤ xss.length) : tot xss i ≤ totD xss := by
  have := tot_mono xss i (xss.length - i)
  rwa [show i + (xss.length - i) = xss.length by omega] at this
theorem tot_el {xss : List (List Int)} {i : Nat} (h : i < xss.length) : tot xss i + (xss.getD i []).length ≤ totD xss := by
  rw [← tot_succ h]; exact tot_le h
theorem tot_all (xss : List (List Int)) : tot xss xss.length = totD xss := rfl
theorem tot_cons (x : List Int) (r : List (List Int)) (i : Nat) : tot (x :: r) (i + 1) = x.length + tot r i := by simp [tot]
def marksD (k : Int) : List (List Int) → List (List Int)
  | [] => []
  | x :: r => marks k x.length :: marksD (k + x.length) r
theorem marksD_len (k : Int) (xss : List (List Int)) : (marksD k xss).length = xss.length := by
  induction xss generalizing k with
  | nil => rfl
  | cons x r ih => simp [marksD, ih]
theorem marksD_get (k : Int) (xss : List (List Int)) (i : Nat) (h : i < xss.length) : (marksD k xss)[i]? = some (marks (k + tot xss i) (xss.getD i []).length) := by
  induction xss generalizing k i with
  | nil => simp at h
  | cons x r ih =>
    cases i with
    | zero => simp [marksD, tot_zero]
    | succ i =>
      have := ih (k + x.length) i (by simpa using h)
      simp only [marksD, List.getElem?_cons_succ, this, tot_cons]
      simp [Int.add_assoc]
theorem marksD_getD (k : Int) (xss : List (List Int)) (i : Nat) (h : i < xss.length) : (marksD k xss).getD i [] = marks (k + tot xss i) (xss.getD i []).length := by
  rw [List.getD_eq_getElem?_getD, marksD_get k xss i h]; rfl
theorem mix_getD {α : Type} {f xs : List α} {i : Nat} {d : α} (hl : f.length = xs.length) (hi : i < xs.length) : (f.take i ++ xs.drop i).getD i d = xs.getD i d := by
  have h1 : (f.take i).length = i := by rw [List.length_take]; omega
  rw [List.getD_eq_getElem?_getD, List.getElem?_append_right (by omega), h1, Nat.sub_self, List.getElem?_drop, Nat.add_zero, List.getD_eq_getElem?_getD]
theorem mix_len {α : Type} {f xs : List α} {i : Nat} (hl : f.length = xs.length) : (f.take i ++ xs.drop i).length = xs.length := by simp; omega
theorem mix_all {α : Type} {f xs : List α} {i : Nat} (hl : f.length = xs.length) (hi : i = xs.length) : f.take i ++ xs.drop i = f := by
  rw [List.take_of_length_le (by omega), List.drop_eq_nil_of_le (by omega), List.append_nil]
theorem listD_ext {α : Type} {d : α} {xs ys : List α} (hl : xs.length = ys.length) (h : ∀ j : Nat, j < xs.length → xs.getD j d = ys.getD j d) : xs = ys := by
  apply List.ext_getElem hl
  intro i h1 h2
  have := h i h1
  rw [List.getD_eq_getElem?_getD, List.getD_eq_getElem?_getD, List.getElem?_eq_getElem h1, List.getElem?_eq_getElem h2] at this
  exact this
section
variable {w : World} {lo hi lo' hi' e : Nat} {v v' : Value} {xs ys : List Int} {xss yss : List (List Int)} {svs sus : List SV}
theorem szCardS_z {left : Int} (h : SLL w lo hi svs v xss := by repeat (first | assumption | exact Go.Gw.Own.sl (by assumption) | exact Go.Gw.Box.at (by assumption) | exact Go.Gw.SLL.el (by first | assumption | exact Go.Gw.OwnD.sll (by assumption)) _ (by omega) | exact Go.Gw.SLL.at (by first | assumption | exact Go.Gw.OwnD.sll (by assumption)) (by omega) | exact Go.Gw.OwnD.sll (by assumption) | (apply Go.Gw.SL.chg; case hx => assumption) | (apply Go.Gw.Own.chg; case hx => assumption) | (apply Go.Gw.Box.chg; case hx => assumption) | (apply Go.Gw.At.chg; case hx => assumption) | exact .inl (Nat.zero_le _) | exact .inr (Nat.zero_le _) | (show _ ∨ _; omega))) (hl : 0 ≤ left ∧ left ≤ 1048576 := by omega) : Ret Tryd.prog 7 [v, .int .i64 left] w fun u w' => ∃ z, u = .int .i64 z ∧ (z < 0 ∨ (0 ≤ z ∧ z ≤ 1048576 ∧ z = left - xss.length - totD xss)) ∧ Ext w w' := by
  have hsm := h.small
  have E : Since 0 0 w w := Since.refl 0 0 w
  refine ret_enter Tryd.func7 rfl Tryd.ntmps7 rfl ?_
  focus
    have ht_h := h.top
    refine c_seq ?_
    refine c_region ?_
    refine w_pure (y_assign rfl) rfl ?_
    refine w_nil ?_
    refine x_next ?_
    refine c_seq ?_
    refine c_region ?_
    refine w_pure (y_move rfl) rfl ?_
    refine w_pure (y_move rfl) rfl ?_
    refine w_pure (y_lend rfl) rfl ?_
    refine w_pure (y_sub rfl rfl) rfl ?_
    refine w_pure (y_assign rfl) rfl ?_
    refine w_nil ?_
    refine x_next ?_
    refine c_seq ?_
    refine c_seq ?_
    refine c_region ?_
    refine w_pure (y_move rfl) rfl ?_
    refine w_pure (y_lt rfl rfl) rfl ?_
    refine w_nil ?_
    refine x_next ?_
    (refine c_dec rfl (fun hc11 => ?_) (fun hc11 => ?_) <;> try (first | exact absurd rfl hc11 | contradiction | exact Bool.noConfusion (show false = true from hc11.symm.trans (by assumption)) | exact Bool.noConfusion (show true = false from hc11.symm.trans (by assumption)) | (exfalso; omega) | (exfalso; simp only [*, Bool.not_true, Bool.not_false, reduceCtorEq] at hc11; done)))
    refine c_seq ?_
    refine c_region ?_
    refine w_pure (y_assign rfl) rfl ?_
    refine w_nil ?_
    refine x_next ?_
    refine c_ret ?_
    refine x_then_ret ?_
    rotate_left
    refine c_skip ?_
    refine x_next ?_
    refine c_seq ?_
    refine c_seq ?_
    refine c_region ?_
    refine w_pure (y_assign rfl) rfl ?_
    refine w_nil ?_
    refine x_next ?_
    refine c_block ?_
    rotate_left
  · exact x_retv [_] rfl ⟨rfl, trivial⟩ ⟨_, rfl, by omega, E.go⟩
  refine c_loopC 0 0 (ι := Int × Int) (fun x => [(0, v), (1, .int .i64 x.2), (5, .int .i64 x.1)]) (fun x w' => SLL w' lo hi svs v xss ∧ 0 ≤ x.1 ∧ x.1 ≤ xss.length ∧ 0 ≤ x.2 ∧ x.2 = left - xss.length - tot xss x.1.toNat) (fun x => (xss.length - x.1).toNat) (0, left - xss.length)
    (by repeat (first | exact trivial | refine ⟨rfl, ?_⟩)) ⟨h, by dsimp only; omega, by dsimp only; omega, by dsimp only; omega, by simp [tot_zero]⟩ ?_
  rintro ⟨i, l⟩ w2 hx2 E2 ⟨h2, hi0, hi1, hl0, hl2⟩
  dsimp only at *
  have hts : i < xss.length → tot xss (i + 1).toNat = tot xss i.toNat + (xss.getD i.toNat []).length := fun hh => by
    rw [show (i + 1).toNat = i.toNat + 1 by omega]; exact tot_succ (by omega)
  focus
    have ht_h2 := h2.top
    have hz_hx2 := hx2.size
    replace h := h.ext hx2
    replace E := E.trans hx2
    refine c_seq ?_
    refine c_seq ?_
    refine c_region ?_
    refine w_pure (y_move rfl) rfl ?_
    refine w_pure (y_move rfl) rfl ?_
    refine w_pure (y_lend rfl) rfl ?_
    refine w_pure (y_lt rfl rfl) rfl ?_
    refine w_nil ?_
    refine x_next ?_
    (refine c_dec rfl (fun hc15 => ?_) (fun hc15 => ?_) <;> try (first | exact absurd rfl hc15 | contradiction | exact Bool.noConfusion (show false = true from hc15.symm.trans (by assumption)) | exact Bool.noConfusion (show true = false from hc15.symm.trans (by assumption)) | (exfalso; omega) | (exfalso; simp only [*, Bool.not_true, Bool.not_false, reduceCtorEq] at hc15; done)))
    refine c_skip ?_
    refine x_next ?_
    refine c_seq ?_
    refine c_block ?_
    refine c_seq ?_
    refine c_region ?_
    refine w_pure (y_move rfl) rfl ?_
    refine w_pure (y_move rfl) rfl ?_
    refine w_pure (y_indexd rfl rfl) rfl ?_
    refine w_pure (y_loads rfl) rfl ?_
    refine w_pure (y_move rfl) rfl ?_
    (refine w_call rfl rfl rfl (szCard_z) rfl ?_; rintro _ w23 ⟨z23, ⟨rfl, ⟨hp1_23, hx23⟩⟩⟩)
    have hz_hx23 := hx23.size
    replace E2 := E2.trans hx23
    replace h2 := h2.ext hx23
    replace h := h.ext hx23
    replace E := E.trans hx23
    refine w_pure (y_assign rfl) rfl ?_
    refine w_nil ?_
    refine x_next ?_
    refine c_seq ?_
    refine c_region ?_
    refine w_pure (y_move rfl) rfl ?_
    refine w_pure (y_lt rfl rfl) rfl ?_
    refine w_nil ?_
    refine x_next ?_
    (refine c_dec rfl (fun hc25 => ?_) (fun hc25 => ?_) <;> try (first | exact absurd rfl hc25 | contradiction | exact Bool.noConfusion (show false = true from hc25.symm.trans (by assumption)) | exact Bool.noConfusion (show true = false from hc25.symm.trans (by assumption)) | (exfalso; omega) | (exfalso; simp only [*, Bool.not_true, Bool.not_false, reduceCtorEq] at hc25; done)))
    refine c_seq ?_
    refine c_region ?_
    refine w_pure (y_assign rfl) rfl ?_
    refine w_nil ?_
    refine x_next ?_
    refine c_ret ?_
    refine x_block_ret ?_
    refine x_then_ret ?_
    refine x_then_ret ?_
    refine x_block_ret ?_
    refine x_then_ret ?_
    rotate_left
    refine c_skip ?_
    refine x_block_norm ?_
    refine x_next ?_
    refine c_region ?_
    refine w_pure (y_move rfl) rfl ?_
    refine w_pure (y_add rfl rfl) rfl ?_
    refine w_pure (y_assign rfl) rfl ?_
    refine w_nil ?_
    rotate_left
    refine c_exit ?_
    refine x_then_exit ?_
    refine x_then_exit ?_
    refine x_block_hit ?_
    refine x_next ?_
    refine c_seq ?_
    refine c_region ?_
    refine w_pure (y_move rfl) rfl ?_
    refine w_pure (y_assign rfl) rfl ?_
    refine w_nil ?_
    refine x_next ?_
    refine c_ret ?_
    rotate_left
  · exact x_retv [_] rfl ⟨rfl, trivial⟩ ⟨_, rfl, by omega, E.go⟩
  · have := hts (by omega)
    exact x_again (i + 1, _) (by repeat (first | exact trivial | refine ⟨rfl, ?_⟩)) ⟨E2.go, by assumption, by dsimp only; omega, by dsimp only; omega, by dsimp only; omega, by dsimp only; omega⟩ (by dsimp only; omega)
  · refine x_retv [_] rfl ⟨rfl, trivial⟩ ⟨_, rfl, .inr ⟨hl0, by omega, ?_⟩, E.go⟩
    rw [hl2, show i.toNat = xss.length by omega]; rfl
theorem toCardS_c (h : SLL w lo hi svs v xss := by repeat (first | assumption | exact Go.Gw.Own.sl (by assumption) | exact Go.Gw.Box.at (by assumption) | exact Go.Gw.SLL.el (by first | assumption | exact Go.Gw.OwnD.sll (by assumption)) _ (by omega) | exact Go.Gw.SLL.at (by first | assumption | exact Go.Gw.OwnD.sll (by assumption)) (by omega) | exact Go.Gw.OwnD.sll (by assumption) | (apply Go.Gw.SL.chg; case hx => assumption) | (apply Go.Gw.Own.chg; case hx => assumption) | (apply Go.Gw.Box.chg; case hx => assumption) | (apply Go.Gw.At.chg; case hx => assumption) | exact .inl (Nat.zero_le _) | exact .inr (Nat.zero_le _) | (show _ ∨ _; omega))) (hl : xss.length ≤ 1048576 := by omega) (hm : totD xss ≤ 1048576 := by omega) : Ret Tryd.prog 9 [v] w fun u w' => ∃ sus, OwnD w' 85 w.heap.size w'.heap.size sus u xss ∧ Ext w w' := by
  have hsm := h.small
  have E : Since 0 0 w w := Since.refl 0 0 w
  refine ret_enter Tryd.func9 rfl Tryd.ntmps9 rfl ?_
  focus
    have ht_h := h.top
    refine c_seq ?_
    refine c_region ?_
    refine w_pure (y_assign rfl) rfl ?_
    refine w_nil ?_
    refine x_next ?_
    refine c_seq ?_
    refine c_region ?_
    refine w_pure (y_move rfl) rfl ?_
    refine w_pure (y_lend rfl) rfl ?_
    refine w_make_d rfl rfl (k := fun v7 w7 ho7 hx7 hl7 hh7 hs7 => ?_)
    have hl_ho7 := ho7.lt
    have hz_hx7 := hx7.size
    replace h := h.ext hx7
    replace E := E.trans hx7
    refine w_pure (y_assign rfl) rfl ?_
    refine w_nil ?_
    refine x_next ?_
    refine c_seq ?_
    refine c_seq ?_
    refine c_region ?_
    refine w_pure (y_assign rfl) rfl ?_
    refine w_nil ?_
    refine x_next ?_
    refine c_block ?_
    rotate_left
  simp only [Int.toNat_natCast] at ho7
  refine c_loopC (bL v7) (bH v7) (ι := Int × List SV) (fun x => [(0, v), (3, v7), (4, .int .i64 x.1)]) (fun x w' => SLL w' lo hi svs v xss ∧ OwnD w' 85 w.heap.size w'.heap.size x.2 v7 (xss.take x.1.toNat ++ (List.replicate xss.length ([] : List Int)).drop x.1.toNat) ∧ 0 ≤ x.1 ∧ x.1 ≤ xss.length) (fun x => (xss.length - x.1).toNat) (0, _)
    (by repeat (first | exact trivial | refine ⟨rfl, ?_⟩)) ⟨h, by show OwnD _ _ _ _ _ _ ([] ++ (List.replicate xss.length []).drop 0); rw [List.nil_append, List.drop_zero]; exact OwnD.wide (ho7.low (by omega)) (by omega) (Nat.le_refl _), by omega, by omega⟩ ?_
  clear ho7
  rintro ⟨i, sus⟩ w2 hx2 E2 ⟨h2, ho2, hi0, hi1⟩
  dsimp only at *
  have hlen : (xss.take i.toNat ++ (List.replicate xss.length ([] : List Int)).drop i.toNat).length = xss.length := by simp; omega
  have hel : i < xss.length → (xss.getD i.toNat []).length ≤ 1048576 := fun hh => by have := tot_el (xss := xss) (i := i.toNat) (by omega); omega
  focus
    have ht_h2 := h2.top
    have hl_ho2 := ho2.lt
    have hz_hx2 := hx2.size
    replace h := h.chg hx2 (by omega)
    replace E := E.next hx2 (by omega)
    refine c_seq ?_
    refine c_seq ?_
    refine c_region ?_
    refine w_pure (y_move rfl) rfl ?_
    refine w_pure (y_move rfl) rfl ?_
    refine w_pure (y_lend rfl) rfl ?_
    refine w_pure (y_lt rfl rfl) rfl ?_
    refine w_nil ?_
    refine x_next ?_
    (refine c_dec rfl (fun hc11 => ?_) (fun hc11 => ?_) <;> try (first | exact absurd rfl hc11 | contradiction | exact Bool.noConfusion (show false = true from hc11.symm.trans (by assumption)) | exact Bool.noConfusion (show true = false from hc11.symm.trans (by assumption)) | (exfalso; omega) | (exfalso; simp only [*, Bool.not_true, Bool.not_false, reduceCtorEq] at hc11; done)))
    refine c_skip ?_
    refine x_next ?_
    refine c_seq ?_
    refine c_block ?_
    refine c_region ?_
    refine w_pure (y_move rfl) rfl ?_
    refine w_pure (y_move rfl) rfl ?_
    refine w_pure (y_move rfl) rfl ?_
    refine w_pure (y_move rfl) rfl ?_
    refine w_pure (y_indexd rfl rfl) rfl ?_
    refine w_pure (y_loads rfl) rfl ?_
    (refine w_call rfl rfl rfl (toCard_c _) rfl ?_; rintro _ w20 ⟨d20, ⟨rfl, ⟨hp1_20, hx20⟩⟩⟩)
    have hl_hp1_20 := hp1_20.lt
    have hz_hx20 := hx20.size
    replace E2 := E2.next hx20 (by omega)
    replace h2 := h2.ext hx20
    replace ho2 := ho2.ext hx20
    replace h := h.ext hx20
    replace E := E.trans hx20
    refine w_pure (y_indexd rfl rfl) rfl ?_
    refine w_store_cd rfl rfl (next := fun ws24 hos24 hxs24 hss24 => ?_)
    (replace ho2 := hos24; clear hos24)
    have hz_hxs24 := hxs24.size
    replace hp1_20 := hp1_20.chg hxs24 (by omega)
    replace E2 := E2.trans hxs24
    replace h2 := h2.chg hxs24 (by omega)
    replace h := h.chg hxs24 (by omega)
    replace E := E.next hxs24 (by omega)
    refine w_nil ?_
    refine x_block_norm ?_
    refine x_next ?_
    refine c_region ?_
    refine w_pure (y_move rfl) rfl ?_
    refine w_pure (y_add rfl rfl) rfl ?_
    refine w_pure (y_assign rfl) rfl ?_
    refine w_nil ?_
    rotate_left
    refine c_exit ?_
    refine x_then_exit ?_
    refine x_then_exit ?_
    refine x_block_hit ?_
    refine x_next ?_
    refine c_seq ?_
    refine c_region ?_
    refine w_pure (y_move rfl) rfl ?_
    refine w_pure (y_assign rfl) rfl ?_
    refine w_nil ?_
    refine x_next ?_
    refine c_ret ?_
    rotate_left
  · refine x_again (i + 1, sus.set i.toNat (svOf d20)) (by repeat (first | exact trivial | refine ⟨rfl, ?_⟩)) ⟨E2.go, by assumption, ?_, by dsimp only; omega, by dsimp only; omega⟩ (by dsimp only; omega)
    dsimp only
    rw [show (i + 1).toNat = i.toNat + 1 by omega, ← upd_step (by simp) (by simp; omega) (y := xss.getD i.toNat []) (by rw [List.getD_eq_getElem?_getD, List.getElem?_eq_getElem (by omega)]; rfl)]
    exact OwnD.wide (by assumption) (by omega) (Nat.le_refl _)
  · refine x_retv [_] rfl ⟨rfl, trivial⟩ ⟨sus, ?_, E.go⟩
    rw [mix_all (by simp) (by simp; omega)] at ho2
    exact OwnD.wide ho2 (by omega) (Nat.le_refl _)
theorem eqCardS_c (h : SLL w lo hi svs v xss := by repeat (first | assumption | exact Go.Gw.Own.sl (by assumption) | exact Go.Gw.Box.at (by assumption) | exact Go.Gw.SLL.el (by first | assumption | exact Go.Gw.OwnD.sll (by assumption)) _ (by omega) | exact Go.Gw.SLL.at (by first | assumption | exact Go.Gw.OwnD.sll (by assumption)) (by omega) | exact Go.Gw.OwnD.sll (by assumption) | (apply Go.Gw.SL.chg; case hx => assumption) | (apply Go.Gw.Own.chg; case hx => assumption) | (apply Go.Gw.Box.chg; case hx => assumption) | (apply Go.Gw.At.chg; case hx => assumption) | exact .inl (Nat.zero_le _) | exact .inr (Nat.zero_le _) | (show _ ∨ _; omega))) (h' : SLL w lo' hi' sus v' yss := by repeat (first | assumption | exact Go.Gw.Own.sl (by assumption) | exact Go.Gw.Box.at (by assumption) | exact Go.Gw.SLL.el (by first | assumption | exact Go.Gw.OwnD.sll (by assumption)) _ (by omega) | exact Go.Gw.SLL.at (by first | assumption | exact Go.Gw.OwnD.sll (by assumption)) (by omega) | exact Go.Gw.OwnD.sll (by assumption) | (apply Go.Gw.SL.chg; case hx => assumption) | (apply Go.Gw.Own.chg; case hx => assumption) | (apply Go.Gw.Box.chg; case hx => assumption) | (apply Go.Gw.At.chg; case hx => assumption) | exact .inl (Nat.zero_le _) | exact .inr (Nat.zero_le _) | (show _ ∨ _; omega))) : Val Tryd.prog 12 [v, v'] w (.bool (decide (xss = yss))) := by
  refine ⟨fun w1 hx1 => ?_⟩
  replace h := h.ext hx1
  replace h' := h'.ext hx1
  have hsm := h.small
  have hsm' := h'.small
  have E : Since 0 0 w1 w1 := Since.refl 0 0 w1
  by_cases hl : xss.length = yss.length
  · refine ret_enter Tryd.func12 rfl Tryd.ntmps12 rfl ?_
    focus
      have ht_h := h.top
      have ht_h' := h'.top
      refine c_seq ?_
      refine c_region ?_
      refine w_pure (y_assign rfl) rfl ?_
      refine w_nil ?_
      refine x_next ?_
      refine c_seq ?_
      refine c_seq ?_
      refine c_region ?_
      refine w_pure (y_move rfl) rfl ?_
      refine w_pure (y_lend rfl) rfl ?_
      refine w_pure (y_move rfl) rfl ?_
      refine w_pure (y_lend rfl) rfl ?_
      refine w_pure (y_ne rfl rfl) rfl ?_
      refine w_nil ?_
      refine x_next ?_
      (refine c_dec rfl (fun hc10 => ?_) (fun hc10 => ?_) <;> try (first | exact absurd rfl hc10 | contradiction | exact Bool.noConfusion (show false = true from hc10.symm.trans (by assumption)) | exact Bool.noConfusion (show true = false from hc10.symm.trans (by assumption)) | (exfalso; omega) | (exfalso; simp only [*, Bool.not_true, Bool.not_false, reduceCtorEq] at hc10; done)))
      refine c_skip ?_
      refine x_next ?_
      refine c_seq ?_
      refine c_seq ?_
      refine c_region ?_
      refine w_pure (y_assign rfl) rfl ?_
      refine w_nil ?_
      refine x_next ?_
      refine c_block ?_
      rotate_left
    refine c_loopC 0 0 (ι := Int) (fun x => [(0, v), (1, v'), (5, .int .i64 x)]) (fun x w' => SLL w' lo hi svs v xss ∧ SLL w' lo' hi' sus v' yss ∧ 0 ≤ x ∧ x ≤ xss.length ∧ ∀ j : Nat, j < x.toNat → xss.getD j [] = yss.getD j []) (fun x => (xss.length - x).toNat) 0
      (by repeat (first | exact trivial | refine ⟨rfl, ?_⟩)) ⟨h, h', by omega, by omega, fun j hj => by simp at hj⟩ ?_
    rintro i w2 hx2 E2 ⟨h2, h2', hi0, hi1, hall⟩
    focus
      have ht_h2 := h2.top
      have ht_h2' := h2'.top
      have hz_hx2 := hx2.size
      replace h := h.ext hx2
      replace h' := h'.ext hx2
      replace E := E.trans hx2
      refine c_seq ?_
      refine c_seq ?_
      refine c_region ?_
      refine w_pure (y_move rfl) rfl ?_
      refine w_pure (y_move rfl) rfl ?_
      refine w_pure (y_lend rfl) rfl ?_
      refine w_pure (y_lt rfl rfl) rfl ?_
      refine w_nil ?_
      refine x_next ?_
      (refine c_dec rfl (fun hc14 => ?_) (fun hc14 => ?_) <;> try (first | exact absurd rfl hc14 | contradiction | exact Bool.noConfusion (show false = true from hc14.symm.trans (by assumption)) | exact Bool.noConfusion (show true = false from hc14.symm.trans (by assumption)) | (exfalso; omega) | (exfalso; simp only [*, Bool.not_true, Bool.not_false, reduceCtorEq] at hc14; done)))
      refine c_skip ?_
      refine x_next ?_
      refine c_seq ?_
      refine c_block ?_
      refine c_seq ?_
      refine c_region_held mixed (fun wr6 hxr6 hzr6 => ?_)
      have hz_hxr6 := hxr6.size
      replace E2 := E2.trans hxr6
      replace h2 := h2.ext hxr6
      replace h2' := h2'.ext hxr6
      replace h := h.ext hxr6
      replace h' := h'.ext hxr6
      replace E := E.trans hxr6
      refine h_pure rfl (y_move rfl) rfl ?_
      refine h_pure rfl (y_move rfl) rfl ?_
      refine h_pure rfl (y_indexd rfl rfl) rfl ?_
      refine h_pure rfl (y_loads rfl) rfl ?_
      refine h_pure rfl (y_move rfl) rfl ?_
      refine h_pure rfl (y_move rfl) rfl ?_
      refine h_pure rfl (y_indexd rfl rfl) rfl ?_
      refine h_pure rfl (y_loads rfl) rfl ?_
      refine h_one rfl ?_
      refine w_val rfl rfl rfl (eqCard_c) rfl (fun w25 hx25 hz25 => ?_)
      have hz_hx25 := hx25.size
      replace E2 := E2.trans hx25
      replace h2 := h2.ext hx25
      replace h2' := h2'.ext hx25
      replace h := h.ext hx25
      replace h' := h'.ext hx25
      replace E := E.trans hx25
      refine w_nil ?_
      refine x_held ?_
      refine h_pure rfl (y_not_dec rfl) rfl ?_
      refine h_nil ?_
      refine x_next ?_
      (refine c_dec rfl (fun hc26 => ?_) (fun hc26 => ?_) <;> try (first | exact absurd rfl hc26 | contradiction | exact Bool.noConfusion (show false = true from hc26.symm.trans (by assumption)) | exact Bool.noConfusion (show true = false from hc26.symm.trans (by assumption)) | (exfalso; omega) | (exfalso; simp only [*, Bool.not_true, Bool.not_false, reduceCtorEq] at hc26; done)))
      refine c_seq ?_
      refine c_region ?_
      refine w_pure (y_assign rfl) rfl ?_
      refine w_nil ?_
      refine x_next ?_
      refine c_ret ?_
      refine x_block_ret ?_
      refine x_then_ret ?_
      refine x_then_ret ?_
      refine x_block_ret ?_
      refine x_then_ret ?_
      rotate_left
      refine c_skip ?_
      refine x_block_norm ?_
      refine x_next ?_
      refine c_region ?_
      refine w_pure (y_move rfl) rfl ?_
      refine w_pure (y_add rfl rfl) rfl ?_
      refine w_pure (y_assign rfl) rfl ?_
      refine w_nil ?_
      rotate_left
      refine c_exit ?_
      refine x_then_exit ?_
      refine x_then_exit ?_
      refine x_block_hit ?_
      refine x_next ?_
      refine c_seq ?_
      refine c_region ?_
      refine w_pure (y_assign rfl) rfl ?_
      refine w_nil ?_
      refine x_next ?_
      refine c_ret ?_
      rotate_left
    · refine x_retv [_] rfl ⟨rfl, trivial⟩ ⟨?_, E.go⟩
      have : ¬ xss = yss := fun e => by simp [e] at *
      simp [ofResults, this]
    · refine x_again (i + 1) (by repeat (first | exact trivial | refine ⟨rfl, ?_⟩)) ⟨E2.go, by assumption, by assumption, by omega, by omega, fun j hj => ?_⟩ (by omega)
      by_cases e : j = i.toNat
      · subst e; simpa using hc26
      · exact hall j (by omega)
    · refine x_retv [_] rfl ⟨rfl, trivial⟩ ⟨?_, E.go⟩
      have : xss = yss := listD_ext hl fun j hj => hall j (by omega)
      simp [ofResults, this]
  · refine ret_enter Tryd.func12 rfl Tryd.ntmps12 rfl ?_
    focus
      have ht_h := h.top
      have ht_h' := h'.top
      refine c_seq ?_
      refine c_region ?_
      refine w_pure (y_assign rfl) rfl ?_
      refine w_nil ?_
      refine x_next ?_
      refine c_seq ?_
      refine c_seq ?_
      refine c_region ?_
      refine w_pure (y_move rfl) rfl ?_
      refine w_pure (y_lend rfl) rfl ?_
      refine w_pure (y_move rfl) rfl ?_
      refine w_pure (y_lend rfl) rfl ?_
      refine w_pure (y_ne rfl rfl) rfl ?_
      refine w_nil ?_
      refine x_next ?_
      (refine c_dec rfl (fun hc10 => ?_) (fun hc10 => ?_) <;> try (first | exact absurd rfl hc10 | contradiction | exact Bool.noConfusion (show false = true from hc10.symm.trans (by assumption)) | exact Bool.noConfusion (show true = false from hc10.symm.trans (by assumption)) | (exfalso; omega) | (exfalso; simp only [*, Bool.not_true, Bool.not_false, reduceCtorEq] at hc10; done)))
      refine c_seq ?_
      refine c_region ?_
      refine w_pure (y_assign rfl) rfl ?_
      refine w_nil ?_
      refine x_next ?_
      refine c_ret ?_
      refine x_then_ret ?_
      rotate_left
    refine x_retv [_] rfl ⟨rfl, trivial⟩ ⟨?_, E.go⟩
    have : ¬ xss = yss := fun e => hl (by rw [e])
    simp [ofResults, this]
theorem markEl_e {k : Int} {i : Nat} (h : OwnD w e lo hi svs v xss := by assumption) (hi' : i < xss.length := by omega) (hk : 0 ≤ k := by omega) (hm : k + (xss.getD i []).length ≤ 9223372036854775807 := by omega) :
    Ret Tryd.prog 85 [svD svs i, .int .i64 k] w fun u w' => u = .int .i64 (k + (xss.getD i []).length) ∧ OwnD w' e lo hi svs v (xss.set i (marks k (xss.getD i []).length)) ∧ Chg lo hi w w' := by
  refine (markInt64S_c w (h.el i hi') hk hm).mono ?_
  rintro u w' ⟨rfl, hs, hx⟩
  have hr := (h.plc i hi').rng
  exact ⟨rfl, h.upd hi' hx rfl rfl hs, hx.wide (by omega) (by omega)⟩
theorem heldEl_e {k : Int} {i : Nat} {ls : List (List Int)} (h : SLL w lo hi svs v (marksD k ls) := by repeat (first | assumption | exact Go.Gw.Own.sl (by assumption) | exact Go.Gw.Box.at (by assumption) | exact Go.Gw.SLL.el (by first | assumption | exact Go.Gw.OwnD.sll (by assumption)) _ (by omega) | exact Go.Gw.SLL.at (by first | assumption | exact Go.Gw.OwnD.sll (by assumption)) (by omega) | exact Go.Gw.OwnD.sll (by assumption) | (apply Go.Gw.SL.chg; case hx => assumption) | (apply Go.Gw.Own.chg; case hx => assumption) | (apply Go.Gw.Box.chg; case hx => assumption) | (apply Go.Gw.At.chg; case hx => assumption) | exact .inl (Nat.zero_le _) | exact .inr (Nat.zero_le _) | (show _ ∨ _; omega))) (hi' : i < ls.length := by omega) (hk : 0 ≤ k := by omega) (hm : k + totD ls ≤ 9223372036854775807 := by omega) :
    Val Tryd.prog 86 [svD svs i, .int .i64 (k + tot ls i)] w (.int .i64 (k + tot ls (i + 1))) := by
  have h1 := h.el i (by rw [marksD_len]; exact hi')
  rw [marksD_getD _ _ _ hi'] at h1
  have h2 := tot_el hi'
  have := heldInt64S_c (k := k + tot ls i) (xs := ls.getD i []) h1 (by omega) (by omega)
  rw [tot_succ hi']
  rwa [show k + ((tot ls i + (ls.getD i []).length : Nat) : Int) = k + tot ls i + (ls.getD i []).length by push_cast; omega]
theorem markCardS_c {k : Int} (h : OwnD w e lo hi svs v xss := by assumption) (hk : 0 ≤ k := by omega) (hm : k + totD xss ≤ 9223372036854775807 := by omega) : Ret Tryd.prog 13 [v, .int .i64 k] w fun u w' => u = .int .i64 (k + totD xss) ∧ OwnD w' e lo hi svs v (marksD k xss) ∧ Chg lo hi w w' := by
  have hsm := h.sll.small
  have hml := marksD_len k xss
  refine ret_enter Tryd.func13 rfl Tryd.ntmps13 rfl ?_
  focus
    have hl_h := h.lt
    refine c_seq ?_
    refine c_region ?_
    refine w_pure (y_assign rfl) rfl ?_
    refine w_nil ?_
    refine x_next ?_
    refine c_seq ?_
    refine c_seq ?_
    refine c_region ?_
    refine w_pure (y_assign rfl) rfl ?_
    refine w_nil ?_
    refine x_next ?_
    refine c_block ?_
    rotate_left
  refine c_loopC lo hi (ι := Int × Int) (fun x => [(0, v), (1, .int .i64 x.2), (5, .int .i64 x.1)]) (fun x w' => OwnD w' e lo hi svs v ((marksD k xss).take x.1.toNat ++ xss.drop x.1.toNat) ∧ 0 ≤ x.1 ∧ x.1 ≤ xss.length ∧ x.2 = k + tot xss x.1.toNat) (fun x => (xss.length - x.1).toNat) (0, k)
    (by repeat (first | exact trivial | refine ⟨rfl, ?_⟩)) ⟨by simpa using h, by omega, by omega, by simp [tot_zero]⟩ ?_
  clear h
  rintro ⟨i, l⟩ w2 hx2 E2 ⟨h2, hi0, hi1, hl2⟩
  dsimp only at *
  have hlen : ((marksD k xss).take i.toNat ++ xss.drop i.toNat).length = xss.length := mix_len hml
  have hts : i < xss.length → tot xss (i + 1).toNat = tot xss i.toNat + (xss.getD i.toNat []).length ∧ tot xss i.toNat + (xss.getD i.toNat []).length ≤ totD xss ∧ ((marksD k xss).take i.toNat ++ xss.drop i.toNat).getD i.toNat [] = xss.getD i.toNat [] := fun hh => by
    rw [show (i + 1).toNat = i.toNat + 1 by omega]; exact ⟨tot_succ (by omega), tot_el (by omega), mix_getD hml (by omega)⟩
  have hbd : i < xss.length → l + (((marksD k xss).take i.toNat ++ xss.drop i.toNat).getD i.toNat []).length ≤ 9223372036854775807 := fun hh => by rw [(hts hh).2.2]; have := hts hh; omega
  focus
    have hl_h2 := h2.lt
    refine c_seq ?_
    refine c_seq ?_
    refine c_region ?_
    refine w_pure (y_move rfl) rfl ?_
    refine w_pure (y_move rfl) rfl ?_
    refine w_pure (y_lend rfl) rfl ?_
    refine w_pure (y_lt rfl rfl) rfl ?_
    refine w_nil ?_
    refine x_next ?_
    (refine c_dec rfl (fun hc9 => ?_) (fun hc9 => ?_) <;> try (first | exact absurd rfl hc9 | contradiction | exact Bool.noConfusion (show false = true from hc9.symm.trans (by assumption)) | exact Bool.noConfusion (show true = false from hc9.symm.trans (by assumption)) | (exfalso; omega) | (exfalso; simp only [*, Bool.not_true, Bool.not_false, reduceCtorEq] at hc9; done)))
    refine c_skip ?_
    refine x_next ?_
    refine c_seq ?_
    refine c_block ?_
    refine c_region ?_
    refine w_pure (y_move rfl) rfl ?_
    refine w_pure (y_move rfl) rfl ?_
    refine w_pure (y_indexd rfl rfl) rfl ?_
    refine w_pure (y_field rfl) rfl ?_
    refine w_pure (y_loadk rfl) rfl ?_
    refine w_pure (y_move rfl) rfl ?_
    (refine w_call rfl rfl rfl (markEl_e (hm := hbd (by omega))) rfl ?_; rintro _ w18 ⟨rfl, ⟨hp1_18, hx18⟩⟩)
    have hl_hp1_18 := hp1_18.lt
    have hz_hx18 := hx18.size
    replace E2 := E2.trans hx18
    refine w_pure (y_assign rfl) rfl ?_
    refine w_nil ?_
    refine x_block_norm ?_
    refine x_next ?_
    refine c_region ?_
    refine w_pure (y_move rfl) rfl ?_
    refine w_pure (y_add rfl rfl) rfl ?_
    refine w_pure (y_assign rfl) rfl ?_
    refine w_nil ?_
    rotate_left
    refine c_exit ?_
    refine x_then_exit ?_
    refine x_then_exit ?_
    refine x_block_hit ?_
    refine x_next ?_
    refine c_seq ?_
    refine c_region ?_
    refine w_pure (y_move rfl) rfl ?_
    refine w_pure (y_assign rfl) rfl ?_
    refine w_nil ?_
    refine x_next ?_
    refine c_ret ?_
    rotate_left
  · have h3 := hts (by omega)
    have e3 := h3.2.2
    have e4 : ((marksD k xss).take i.toNat ++ xss.drop i.toNat).set i.toNat (marks l (((marksD k xss).take i.toNat ++ xss.drop i.toNat).getD i.toNat []).length) = ((marksD k xss).take i.toNat ++ xss.drop i.toNat).set i.toNat (marks l (xss.getD i.toNat []).length) := by rw [e3]
    refine x_again (i + 1, _) (by repeat (first | exact trivial | refine ⟨rfl, ?_⟩)) ⟨E2.go, ?_, by dsimp only; omega, by dsimp only; omega, ?_⟩ (by dsimp only; omega)
    · dsimp only
      rw [show (i + 1).toNat = i.toNat + 1 by omega, ← upd_step hml (by omega) (marksD_get k xss i.toNat (by omega)), ← hl2, ← e4]
      assumption
    · dsimp only; rw [e3]; omega
  · rw [mix_all hml (by omega)] at h2
    refine x_retv [_] rfl ⟨rfl, trivial⟩ ⟨?_, h2, E2.go⟩
    rw [hl2, show i.toNat = xss.length by omega]; rfl
theorem heldCardS_c {k : Int} {ls : List (List Int)} (h : SLL w lo hi svs v (marksD k ls) := by repeat (first | assumption | exact Go.Gw.Own.sl (by assumption) | exact Go.Gw.Box.at (by assumption) | exact Go.Gw.SLL.el (by first | assumption | exact Go.Gw.OwnD.sll (by assumption)) _ (by omega) | exact Go.Gw.SLL.at (by first | assumption | exact Go.Gw.OwnD.sll (by assumption)) (by omega) | exact Go.Gw.OwnD.sll (by assumption) | (apply Go.Gw.SL.chg; case hx => assumption) | (apply Go.Gw.Own.chg; case hx => assumption) | (apply Go.Gw.Box.chg; case hx => assumption) | (apply Go.Gw.At.chg; case hx => assumption) | exact .inl (Nat.zero_le _) | exact .inr (Nat.zero_le _) | (show _ ∨ _; omega))) (hk : 0 ≤ k := by omega) (hm : k + totD ls ≤ 9223372036854775807 := by omega) : Val Tryd.prog 14 [v, .int .i64 k] w (.int .i64 (k + totD ls)) := by
  refine ⟨fun w1 hx1 => ?_⟩
  replace h := h.ext hx1
  have hsm := h.small
  have hml := marksD_len k ls
  have E : Since 0 0 w1 w1 := Since.refl 0 0 w1
  refine ret_enter Tryd.func14 rfl Tryd.ntmps14 rfl ?_
  focus
    have ht_h := h.top
    refine c_seq ?_
    refine c_region ?_
    refine w_pure (y_assign rfl) rfl ?_
    refine w_nil ?_
    refine x_next ?_
    refine c_seq ?_
    refine c_seq ?_
    refine c_region ?_
    refine w_pure (y_assign rfl) rfl ?_
    refine w_nil ?_
    refine x_next ?_
    refine c_block ?_
    rotate_left
  refine c_loopC 0 0 (ι := Int) (fun x => [(0, v), (1, .int .i64 (k + tot ls x.toNat)), (5, .int .i64 x)]) (fun x w' => SLL w' lo hi svs v (marksD k ls) ∧ 0 ≤ x ∧ x ≤ ls.length) (fun x => (ls.length - x).toNat) 0
    ⟨rfl, by show _ = some (Value.int .i64 (k + tot ls 0)); rw [tot_zero, show k + ((0 : Nat) : Int) = k by omega]; rfl, rfl, trivial⟩ ⟨h, by omega, by omega⟩ ?_
  rintro i w2 hx2 E2 ⟨h2, hi0, hi1⟩
  have e1 : (i + 1).toNat = i.toNat + 1 := by omega
  focus
    have ht_h2 := h2.top
    have hz_hx2 := hx2.size
    replace h := h.ext hx2
    replace E := E.trans hx2
    refine c_seq ?_
    refine c_seq ?_
    refine c_region ?_
    refine w_pure (y_move rfl) rfl ?_
    refine w_pure (y_move rfl) rfl ?_
    refine w_pure (y_lend rfl) rfl ?_
    refine w_pure (y_lt rfl rfl) rfl ?_
    refine w_nil ?_
    refine x_next ?_
    (refine c_dec rfl (fun hc9 => ?_) (fun hc9 => ?_) <;> try (first | exact absurd rfl hc9 | contradiction | exact Bool.noConfusion (show false = true from hc9.symm.trans (by assumption)) | exact Bool.noConfusion (show true = false from hc9.symm.trans (by assumption)) | (exfalso; omega) | (exfalso; simp only [*, Bool.not_true, Bool.not_false, reduceCtorEq] at hc9; done)))
    refine c_skip ?_
    refine x_next ?_
    refine c_seq ?_
    refine c_block ?_
    refine c_seq ?_
    refine c_region ?_
    refine w_pure (y_move rfl) rfl ?_
    refine w_pure (y_move rfl) rfl ?_
    refine w_pure (y_indexd rfl rfl) rfl ?_
    refine w_pure (y_field rfl) rfl ?_
    refine w_pure (y_loadk rfl) rfl ?_
    refine w_pure (y_move rfl) rfl ?_
    refine w_val rfl rfl rfl (heldEl_e (ls := ls)) rfl (fun w18 hx18 hz18 => ?_)
    have hz_hx18 := hx18.size
    replace E2 := E2.trans hx18
    replace h2 := h2.ext hx18
    replace h := h.ext hx18
    replace E := E.trans hx18
    refine w_pure (y_assign rfl) rfl ?_
    refine w_nil ?_
    refine x_next ?_
    refine c_seq ?_
    refine c_region ?_
    refine w_pure (y_move rfl) rfl ?_
    refine w_pure (y_lt rfl rfl) rfl ?_
    refine w_nil ?_
    refine x_next ?_
    (refine c_dec rfl (fun hc20 => ?_) (fun hc20 => ?_) <;> try (first | exact absurd rfl hc20 | contradiction | exact Bool.noConfusion (show false = true from hc20.symm.trans (by assumption)) | exact Bool.noConfusion (show true = false from hc20.symm.trans (by assumption)) | (exfalso; omega) | (exfalso; simp only [*, Bool.not_true, Bool.not_false, reduceCtorEq] at hc20; done)))
    refine c_skip ?_
    refine x_block_norm ?_
    refine x_next ?_
    refine c_region ?_
    refine w_pure (y_move rfl) rfl ?_
    refine w_pure (y_add rfl rfl) rfl ?_
    refine w_pure (y_assign rfl) rfl ?_
    refine w_nil ?_
    rotate_left
    refine c_exit ?_
    refine x_then_exit ?_
    refine x_then_exit ?_
    refine x_block_hit ?_
    refine x_next ?_
    refine c_seq ?_
    refine c_region ?_
    refine w_pure (y_move rfl) rfl ?_
    refine w_pure (y_assign rfl) rfl ?_
    refine w_nil ?_
    refine x_next ?_
    refine c_ret ?_
    rotate_left
  · refine x_again (i + 1) ⟨rfl, by rw [e1]; rfl, rfl, trivial⟩ ⟨E2.go, by assumption, by omega, by omega⟩ (by omega)
  · refine x_retv [_] rfl ⟨rfl, trivial⟩ ⟨?_, E.go⟩
    rw [show i.toNat = ls.length by omega]; rfl
end
end Go.Proofs.YtdkedajdgllilaaDoor

/- Contracts: cross footing. -/
import Derived.Test.YtjnnfmlgjdlihaaKeyB
import Derived.Test.YtjnnfmlgjdlihaaSetA
import Derived.Test.YtjnnfmlgjdlihaaL19
namespace Go.Proofs.Ytjnnfmlgjdlihaa
open Go Go.Gw
set_option linter.unusedVariables false
set_option linter.unusedSimpArgs false
/-- fields for numbers of so many columns -/
def fsB (ps : List (Int × Int)) (W : Int) : Bool := !ps.any fun p => !numB p.1 p.2 W
theorem fsB_append (ps qs : List (Int × Int)) (W : Int) : fsB (ps ++ qs) W = (fsB ps W && fsB qs W) := by simp [fsB, List.any_append]
theorem fsB_at {ps : List (Int × Int)} {W : Int} (h : fsB ps W = true) {i : Nat} (hi : i < ps.length) : (0 ≤ (ps.getD i (0, 0)).1 ∧ (ps.getD i (0, 0)).1 < (ps.getD i (0, 0)).2 ∧ (ps.getD i (0, 0)).2 ≤ W) ∧ (ps.getD i (0, 0)).2 - (ps.getD i (0, 0)).1 ≤ 12 := by
  simp only [fsB, Bool.not_eq_true', List.any_eq_false] at h
  have := h (ps.getD i (0, 0)) (by rw [List.getD_eq_getElem?_getD, List.getElem?_eq_getElem hi]; exact List.getElem_mem hi)
  simp only [numB, Bool.not_eq_true', decide_eq_false_iff_not, Decidable.not_not] at this
  exact this
theorem fsB_no {ps : List (Int × Int)} {W : Int} {i : Nat} (hi : i < ps.length) (hn : ¬ ((0 ≤ (ps.getD i (0, 0)).1 ∧ (ps.getD i (0, 0)).1 < (ps.getD i (0, 0)).2 ∧ (ps.getD i (0, 0)).2 ≤ W) ∧ (ps.getD i (0, 0)).2 - (ps.getD i (0, 0)).1 ≤ 12)) : fsB ps W = false := by
  cases h : fsB ps W
  · rfl
  · exact absurd (fsB_at h hi) hn
theorem fsB_yes {ps : List (Int × Int)} {W : Int} (h : ∀ i, i < ps.length → ((0 ≤ (ps.getD i (0, 0)).1 ∧ (ps.getD i (0, 0)).1 < (ps.getD i (0, 0)).2 ∧ (ps.getD i (0, 0)).2 ≤ W) ∧ (ps.getD i (0, 0)).2 - (ps.getD i (0, 0)).1 ≤ 12)) : fsB ps W = true := by
  simp only [fsB, Bool.not_eq_true', List.any_eq_false]
  intro p hp
  obtain ⟨j, hj, rfl⟩ := List.mem_iff_getElem.1 hp
  have := h j hj
  rw [List.getD_eq_getElem?_getD, List.getElem?_eq_getElem hj] at this
  have h2 : numB ps[j].1 ps[j].2 W = true := decide_eq_true this
  rw [h2]; simp
def nmC (xs : List Int) (fs : List (Int × Int)) (i : Nat) : Int × Bool := numL (prt xs (fs.getD i (0, 0)).1 (fs.getD i (0, 0)).2)
def okX (xs : List Int) (fs : List (Int × Int)) : Bool := decide (∀ i, i < fs.length → (nmC xs fs i).2 = true)
theorem okX_no {xs : List Int} {fs : List (Int × Int)} {i : Nat} (hi : i < fs.length) (h : (nmC xs fs i).2 = false) : okX xs fs = false := by
  refine decide_eq_false fun hh => ?_
  rw [hh i hi] at h; cases h
theorem okX_yes {xs : List Int} {fs : List (Int × Int)} (h : ∀ i, i < fs.length → (nmC xs fs i).2 = true) : okX xs fs = true := decide_eq_true h
/-- the sum of the first i numbers, those behind the first m taken away -/
def sX (xs : List Int) (fs : List (Int × Int)) (m : Nat) : Nat → Int
  | 0 => 0
  | i + 1 => sX xs fs m i + (if i < m then (nmC xs fs i).1 else -(nmC xs fs i).1)
/-- the code of a card and fields -/
def cCrf (xs : List Int) (ps qs : List (Int × Int)) : Int :=
  if okK xs = true then (if ps.length + qs.length ≤ 6 ∧ fsB (ps ++ qs) xs.length = true then (if okX xs (ps ++ qs) = true then 0 else 8) else 2) else 1
def resCrf (xs : List Int) (ps qs : List (Int × Int)) : Int := if cCrf xs ps qs = 0 then sX xs (ps ++ qs) ps.length (ps.length + qs.length) else 0
section
variable {xs : List Int} {ps qs fs : List (Int × Int)}
theorem cCrf_1 (h : okK xs = false) : cCrf xs ps qs = 1 := by simp [cCrf, h]
theorem cCrf_2 (h : okK xs = true) (h2 : ¬ ps.length + qs.length ≤ 6 ∨ fsB (ps ++ qs) xs.length = false) : cCrf xs ps qs = 2 := by
  rw [cCrf, if_pos h, if_neg]
  rintro ⟨a, b⟩
  rcases h2 with h2 | h2
  · exact h2 a
  · rw [h2] at b; cases b
theorem cCrf_8 (h : okK xs = true) (h2 : ps.length + qs.length ≤ 6) (h3 : fsB (ps ++ qs) xs.length = true) (h4 : okX xs (ps ++ qs) = false) : cCrf xs ps qs = 8 := by
  rw [cCrf, if_pos h, if_pos ⟨h2, h3⟩, if_neg (by rw [h4]; decide)]
theorem cCrf_0 (h : okK xs = true) (h2 : ps.length + qs.length ≤ 6) (h3 : fsB (ps ++ qs) xs.length = true) (h4 : okX xs (ps ++ qs) = true) : cCrf xs ps qs = 0 := by
  rw [cCrf, if_pos h, if_pos ⟨h2, h3⟩, if_pos h4]
theorem nmC_bd (hk : okK xs = true) (hf : fsB fs xs.length = true) {i : Nat} (hi : i < fs.length) : -999999999999 ≤ (nmC xs fs i).1 ∧ (nmC xs fs i).1 ≤ 999999999999 := by
  refine numL_bd ?_
  have h1 := fsB_at hf hi
  have := prt_len (xs := xs) (f := (fs.getD i (0, 0)).1) (t := (fs.getD i (0, 0)).2) h1.1
  omega
theorem sX_bd (hk : okK xs = true) (hf : fsB fs xs.length = true) (m : Nat) : ∀ i, i ≤ fs.length → -(999999999999 * i) ≤ sX xs fs m i ∧ sX xs fs m i ≤ 999999999999 * i
  | 0, _ => by simp [sX]
  | i + 1, hi => by
    have h1 := sX_bd hk hf m i (by omega)
    have h2 := nmC_bd hk hf (i := i) (by omega)
    rw [sX]; split <;> omega
theorem getD_left {i : Nat} (h : i < ps.length) : (ps ++ qs).getD i (0, 0) = ps.getD i (0, 0) := by
  rw [List.getD_eq_getElem?_getD, List.getElem?_append_left h, List.getD_eq_getElem?_getD]
theorem getD_right {i : Nat} : (ps ++ qs).getD (ps.length + i) (0, 0) = qs.getD i (0, 0) := by
  rw [List.getD_eq_getElem?_getD, List.getElem?_append_right (by omega), Nat.add_sub_cancel_left, List.getD_eq_getElem?_getD]
end
section
variable {w : World} {lo hi la ha lb hb b o : Nat} {v va vb : Value} {xs : List Int} {ps qs : List (Int × Int)}
theorem GrowField_c (n : Int) (hn : 0 ≤ n ∧ n ≤ 1000 := by omega) : Ret Try.prog 89 [.slice none 0 0, .int .i64 n] w fun u w' => Own (α := Int × Int) w' 45 w.heap.size u [] ∧ Ext w w' := by
  have E : Since 0 0 w w := Since.refl 0 0 w
  refine ret_enter Try.func89 rfl Try.ntmps89 rfl ?_
  focus
    refine c_seq ?_
    refine c_region ?_
    refine w_pure (y_assign rfl) rfl ?_
    refine w_nil ?_
    refine x_next ?_
    refine c_seq ?_
    refine c_seq ?_
    refine c_region ?_
    refine w_pure (y_move rfl) rfl ?_
    refine w_pure (y_lt rfl rfl) rfl ?_
    refine w_nil ?_
    refine x_next ?_
    (refine c_dec rfl (fun hc6 => ?_) (fun hc6 => ?_) <;> try (first | exact absurd rfl hc6 | contradiction | exact Bool.noConfusion (show false = true from hc6.symm.trans (by assumption)) | exact Bool.noConfusion (show true = false from hc6.symm.trans (by assumption)) | (exfalso; omega) | (exfalso; simp only [*, Bool.not_true, Bool.not_false, reduceCtorEq] at hc6; done)))
    refine c_skip ?_
    refine x_next ?_
    refine c_seq ?_
    refine c_seq ?_
    refine c_region ?_
    refine w_pure (y_move rfl) rfl ?_
    refine w_pure (y_move rfl) rfl ?_
    refine w_pure (y_cap0 rfl) rfl ?_
    refine w_pure (y_move rfl) rfl ?_
    refine w_pure (y_len0 rfl) rfl ?_
    refine w_pure (y_sub rfl rfl) rfl ?_
    refine w_pure (y_sub rfl rfl) rfl ?_
    refine w_pure (y_assign rfl) rfl ?_
    refine w_nil ?_
    refine x_next ?_
    refine c_seq ?_
    refine c_region ?_
    refine w_pure (y_move rfl) rfl ?_
    refine w_pure (y_gt rfl rfl) rfl ?_
    refine w_nil ?_
    refine x_next ?_
    (refine c_dec rfl (fun hc16 => ?_) (fun hc16 => ?_) <;> try (first | exact absurd rfl hc16 | contradiction | exact Bool.noConfusion (show false = true from hc16.symm.trans (by assumption)) | exact Bool.noConfusion (show true = false from hc16.symm.trans (by assumption)) | (exfalso; omega) | (exfalso; simp only [*, Bool.not_true, Bool.not_false, reduceCtorEq] at hc16; done)))
    refine c_region ?_
    refine w_pure (y_move rfl) rfl ?_
    refine w_pure (y_move rfl) rfl ?_
    refine w_pure (y_cap0 rfl) rfl ?_
    refine w_pure (y_slice0n rfl rfl) rfl ?_
    refine w_pure (y_move rfl) rfl ?_
    refine w_append_zeros rfl rfl (kk := fun v22 w22 hz22 hx22 => ?_)
    have hz_hx22 := hx22.size
    replace E := E.trans hx22
    refine w_pure (y_move rfl) rfl ?_
    refine w_pure (y_len0 rfl) rfl ?_
    (refine w_slice_zed (α := Int × Int) rfl rfl rfl ?_; intro u25 ho25)
    have hl_ho25 := ho25.lt
    refine w_pure (y_assign rfl) rfl ?_
    refine w_nil ?_
    refine x_next ?_
    refine c_seq ?_
    refine c_region ?_
    refine w_pure (y_move rfl) rfl ?_
    refine w_pure (y_assign rfl) rfl ?_
    refine w_nil ?_
    refine x_next ?_
    refine c_ret ?_
    rotate_left
    refine c_skip ?_
    refine x_next ?_
    refine c_seq ?_
    refine c_region ?_
    refine w_pure (y_move rfl) rfl ?_
    refine w_pure (y_assign rfl) rfl ?_
    refine w_nil ?_
    refine x_next ?_
    refine c_ret ?_
    rotate_left
  · exact x_retv [_] rfl ⟨rfl, trivial⟩ ⟨Own.base (by assumption) (by omega), E.go⟩
  · exact x_retv [_] rfl ⟨rfl, trivial⟩ ⟨Own.nil _ _ _, E.go⟩
theorem ConcatField_c (h : SL w lo hi v [svOf va, svOf vb] := by repeat (first | assumption | exact Go.Gw.Own.sl (by assumption) | exact Go.Gw.Box.at (by assumption) | exact Go.Gw.SLL.el (by first | assumption | exact Go.Gw.OwnD.sll (by assumption)) _ (by omega) | exact Go.Gw.SLL.at (by first | assumption | exact Go.Gw.OwnD.sll (by assumption)) (by omega) | exact Go.Gw.OwnD.sll (by assumption) | (apply Go.Gw.SL.chg; case hx => assumption) | (apply Go.Gw.Own.chg; case hx => assumption) | (apply Go.Gw.Box.chg; case hx => assumption) | (apply Go.Gw.At.chg; case hx => assumption) | exact .inl (Nat.zero_le _) | exact .inr (Nat.zero_le _) | (show _ ∨ _; omega))) (hA : SL w la ha va ps := by repeat (first | assumption | exact Go.Gw.Own.sl (by assumption) | exact Go.Gw.Box.at (by assumption) | exact Go.Gw.SLL.el (by first | assumption | exact Go.Gw.OwnD.sll (by assumption)) _ (by omega) | exact Go.Gw.SLL.at (by first | assumption | exact Go.Gw.OwnD.sll (by assumption)) (by omega) | exact Go.Gw.OwnD.sll (by assumption) | (apply Go.Gw.SL.chg; case hx => assumption) | (apply Go.Gw.Own.chg; case hx => assumption) | (apply Go.Gw.Box.chg; case hx => assumption) | (apply Go.Gw.At.chg; case hx => assumption) | exact .inl (Nat.zero_le _) | exact .inr (Nat.zero_le _) | (show _ ∨ _; omega))) (hB : SL w lb hb vb qs := by repeat (first | assumption | exact Go.Gw.Own.sl (by assumption) | exact Go.Gw.Box.at (by assumption) | exact Go.Gw.SLL.el (by first | assumption | exact Go.Gw.OwnD.sll (by assumption)) _ (by omega) | exact Go.Gw.SLL.at (by first | assumption | exact Go.Gw.OwnD.sll (by assumption)) (by omega) | exact Go.Gw.OwnD.sll (by assumption) | (apply Go.Gw.SL.chg; case hx => assumption) | (apply Go.Gw.Own.chg; case hx => assumption) | (apply Go.Gw.Box.chg; case hx => assumption) | (apply Go.Gw.At.chg; case hx => assumption) | exact .inl (Nat.zero_le _) | exact .inr (Nat.zero_le _) | (show _ ∨ _; omega))) (hl : ps.length + qs.length ≤ 6 := by omega) : Ret Try.prog 59 [v] w fun u w' => Own w' 45 w.heap.size u (ps ++ qs) ∧ Ext w w' := by
  have e0 : svD [svOf va, svOf vb] (Int.toNat 0) = va := svOf_v hA
  have e1 : svD [svOf va, svOf vb] (Int.toNat 1) = vb := svOf_v hB
  rw [← e0] at hA
  rw [← e1] at hB
  have E : Since 0 0 w w := Since.refl 0 0 w
  refine ret_enter Try.func59 rfl Try.ntmps59 rfl ?_
  focus
    have ht_h := h.top
    have ht_hA := hA.top
    have ht_hB := hB.top
    refine c_seq ?_
    refine c_region ?_
    refine w_pure (y_assign rfl) rfl ?_
    refine w_nil ?_
    refine x_next ?_
    refine c_seq ?_
    refine c_region ?_
    refine w_pure (y_assign rfl) rfl ?_
    refine w_nil ?_
    refine x_next ?_
    refine c_seq ?_
    refine c_seq ?_
    refine c_region ?_
    refine w_pure (y_move rfl) rfl ?_
    refine w_pure (y_len rfl) rfl ?_
    refine w_pure (y_move rfl) rfl ?_
    refine w_nil ?_
    refine x_next ?_
    refine c_block ?_
    rotate_left
  have hl2 : ([svOf va, svOf vb] : List SV).length = 2 := rfl
  refine c_loopC 0 0 (ι := Int × Int) (fun x => [(0, v), (3, .int .i64 x.2), (9, v), (10, .int .i64 ([svOf va, svOf vb] : List SV).length), (11, .int .i64 x.1)])
    (fun x w' => SL w' lo hi v [svOf va, svOf vb] ∧ SL w' la ha (svD [svOf va, svOf vb] (Int.toNat 0)) ps ∧ SL w' lb hb (svD [svOf va, svOf vb] (Int.toNat 1)) qs ∧ ((x.1 = 0 ∧ x.2 = 0) ∨ (x.1 = 1 ∧ x.2 = ps.length) ∨ (x.1 = 2 ∧ x.2 = ps.length + qs.length))) (fun x => (2 - x.1).toNat) (0, 0)
    (by repeat (first | exact trivial | refine ⟨rfl, ?_⟩)) ⟨h, hA, hB, .inl ⟨rfl, rfl⟩⟩ ?_
  clear h hA hB
  rintro ⟨i, s⟩ wL hxL EL ⟨h, hA, hB, ⟨h1, h2⟩ | ⟨h1, h2⟩ | ⟨h1, h2⟩⟩
  · dsimp only at *
    subst h1; subst h2
    focus
      have hz_hxL := hxL.size
      replace E := E.trans hxL
      refine c_seq ?_
      refine c_region ?_
      refine w_pure (y_lt rfl rfl) rfl ?_
      refine w_nil ?_
      refine x_next ?_
      refine c_seq ?_
      refine c_true rfl ?_
      refine c_skip ?_
      refine x_next ?_
      refine c_seq ?_
      refine c_block ?_
      refine c_seq ?_
      refine c_region ?_
      refine w_pure (y_index rfl rfl) rfl ?_
      refine w_pure (y_load_svo rfl) rfl ?_
      refine w_pure (y_assign rfl) rfl ?_
      refine w_nil ?_
      refine x_next ?_
      refine c_seq ?_
      refine c_region ?_
      refine w_pure (y_move rfl) rfl ?_
      refine w_pure (y_move rfl) rfl ?_
      refine w_pure (y_len rfl) rfl ?_
      refine w_pure (y_add rfl rfl) rfl ?_
      refine w_pure (y_assign rfl) rfl ?_
      refine w_nil ?_
      refine x_next ?_
      refine c_seq ?_
      refine c_region ?_
      refine w_pure (y_move rfl) rfl ?_
      refine w_pure (y_lt rfl rfl) rfl ?_
      refine w_nil ?_
      refine x_next ?_
      refine c_false rfl ?_
      refine c_skip ?_
      refine x_block_norm ?_
      refine x_next ?_
      refine c_region ?_
      refine w_pure (y_add rfl rfl) rfl ?_
      refine w_pure (y_move rfl) rfl ?_
      refine w_nil ?_
      rotate_left
    exact x_again (1, _) (by repeat (first | exact trivial | refine ⟨rfl, ?_⟩)) ⟨EL.go, by assumption, by assumption, by assumption, .inr (.inl ⟨rfl, by dsimp only; omega⟩)⟩ (by dsimp only; omega)
  · dsimp only at *
    subst h1; subst h2
    focus
      have hz_hxL := hxL.size
      replace E := E.trans hxL
      refine c_seq ?_
      refine c_region ?_
      refine w_pure (y_lt rfl rfl) rfl ?_
      refine w_nil ?_
      refine x_next ?_
      refine c_seq ?_
      refine c_true rfl ?_
      refine c_skip ?_
      refine x_next ?_
      refine c_seq ?_
      refine c_block ?_
      refine c_seq ?_
      refine c_region ?_
      refine w_pure (y_index rfl rfl) rfl ?_
      refine w_pure (y_load_svo rfl) rfl ?_
      refine w_pure (y_assign rfl) rfl ?_
      refine w_nil ?_
      refine x_next ?_
      refine c_seq ?_
      refine c_region ?_
      refine w_pure (y_move rfl) rfl ?_
      refine w_pure (y_move rfl) rfl ?_
      refine w_pure (y_len rfl) rfl ?_
      refine w_pure (y_add rfl rfl) rfl ?_
      refine w_pure (y_assign rfl) rfl ?_
      refine w_nil ?_
      refine x_next ?_
      refine c_seq ?_
      refine c_region ?_
      refine w_pure (y_move rfl) rfl ?_
      refine w_pure (y_lt rfl rfl) rfl ?_
      refine w_nil ?_
      refine x_next ?_
      refine c_false rfl ?_
      refine c_skip ?_
      refine x_block_norm ?_
      refine x_next ?_
      refine c_region ?_
      refine w_pure (y_add rfl rfl) rfl ?_
      refine w_pure (y_move rfl) rfl ?_
      refine w_nil ?_
      rotate_left
    exact x_again (2, _) (by repeat (first | exact trivial | refine ⟨rfl, ?_⟩)) ⟨EL.go, by assumption, by assumption, by assumption, .inr (.inr ⟨rfl, by dsimp only⟩)⟩ (by dsimp only; omega)
  dsimp only at *
  subst h1; subst h2
  focus
    have hz_hxL := hxL.size
    replace E := E.trans hxL
    refine c_seq ?_
    refine c_region ?_
    refine w_pure (y_lt rfl rfl) rfl ?_
    refine w_nil ?_
    refine x_next ?_
    refine c_seq ?_
    refine c_false rfl ?_
    refine c_exit ?_
    refine x_then_exit ?_
    refine x_then_exit ?_
    refine x_block_hit ?_
    refine x_next ?_
    refine c_seq ?_
    refine c_region ?_
    refine w_pure (y_move rfl) rfl ?_
    (refine w_call rfl rfl rfl (GrowField_c _) rfl ?_; rintro v24 w24 ⟨hp1_24, hx24⟩)
    have hl_hp1_24 := hp1_24.lt
    have hz_hx24 := hx24.size
    replace EL := EL.trans hx24
    replace h := h.ext hx24
    replace hA := hA.ext hx24
    replace hB := hB.ext hx24
    replace E := E.trans hx24
    refine w_pure (y_assign rfl) rfl ?_
    refine w_nil ?_
    refine x_next ?_
    refine c_seq ?_
    refine c_seq ?_
    refine c_region ?_
    refine w_pure (y_move rfl) rfl ?_
    refine w_pure (y_len rfl) rfl ?_
    refine w_pure (y_move rfl) rfl ?_
    refine w_nil ?_
    refine x_next ?_
    refine c_block ?_
    rotate_left
  refine c_loopC (bL v24) (bH v24) (ι := Int × Value) (fun x => [(6, x.2), (25, v), (26, .int .i64 ([svOf va, svOf vb] : List SV).length), (27, .int .i64 x.1)])
    (fun x w' => SL w' lo hi v [svOf va, svOf vb] ∧ SL w' la ha (svD [svOf va, svOf vb] (Int.toNat 0)) ps ∧ SL w' lb hb (svD [svOf va, svOf vb] (Int.toNat 1)) qs ∧ ((bL x.2 = bL v24 ∧ bH x.2 = bH v24) ∨ w24.heap.size ≤ bL x.2) ∧ ((x.1 = 0 ∧ Own w' 45 w.heap.size x.2 ([] : List (Int × Int))) ∨ (x.1 = 1 ∧ Own w' 45 w.heap.size x.2 ps) ∨ (x.1 = 2 ∧ Own w' 45 w.heap.size x.2 (ps ++ qs)))) (fun x => (2 - x.1).toNat) (0, v24)
    (by repeat (first | exact trivial | refine ⟨rfl, ?_⟩)) ⟨by assumption, by assumption, by assumption, .inl ⟨rfl, rfl⟩, .inl ⟨rfl, Own.base (by assumption) (by omega)⟩⟩ ?_
  clear h hA hB hp1_24
  rintro ⟨i, u⟩ wM hxM EM ⟨h, hA, hB, g4, ⟨h1, h2⟩ | ⟨h1, h2⟩ | ⟨h1, h2⟩⟩
  · dsimp only at *
    subst h1
    focus
      have hl_h2 := h2.lt
      have hz_hxM := hxM.size
      replace EL := EL.next hxM (by omega)
      replace E := E.next hxM (by omega)
      refine c_seq ?_
      refine c_region ?_
      refine w_pure (y_lt rfl rfl) rfl ?_
      refine w_nil ?_
      refine x_next ?_
      refine c_seq ?_
      refine c_true rfl ?_
      refine c_skip ?_
      refine x_next ?_
      refine c_seq ?_
      refine c_block ?_
      refine c_seq ?_
      refine c_region ?_
      refine w_pure (y_index rfl rfl) rfl ?_
      refine w_pure (y_load_svo rfl) rfl ?_
      refine w_pure (y_assign rfl) rfl ?_
      refine w_nil ?_
      refine x_next ?_
      refine c_region ?_
      refine w_pure (y_move rfl) rfl ?_
      refine w_pure (y_move rfl) rfl ?_
      refine w_append rfl rfl (k := fun v33 w33 ho33 hx33 hr33 => ?_)
      have hl_ho33 := ho33.lt
      have hz_hx33 := hx33.size
      replace EM := EM.next hx33 (by omega)
      replace h := h.chg hx33 (by omega)
      replace hA := hA.chg hx33 (by omega)
      replace hB := hB.chg hx33 (by omega)
      replace EL := EL.next hx33 (by omega)
      replace E := E.next hx33 (by omega)
      refine w_pure (y_assign rfl) rfl ?_
      refine w_nil ?_
      refine x_block_norm ?_
      refine x_next ?_
      refine c_region ?_
      refine w_pure (y_add rfl rfl) rfl ?_
      refine w_pure (y_move rfl) rfl ?_
      refine w_nil ?_
      rotate_left
    refine x_again (1, v33) (by repeat (first | exact trivial | refine ⟨rfl, ?_⟩)) ⟨EM.go, by assumption, by assumption, by assumption, by dsimp only; omega, .inr (.inl ⟨rfl, by simpa using ho33⟩)⟩ (by dsimp only; omega)
  · dsimp only at *
    subst h1
    focus
      have hl_h2 := h2.lt
      have hz_hxM := hxM.size
      replace EL := EL.next hxM (by omega)
      replace E := E.next hxM (by omega)
      refine c_seq ?_
      refine c_region ?_
      refine w_pure (y_lt rfl rfl) rfl ?_
      refine w_nil ?_
      refine x_next ?_
      refine c_seq ?_
      refine c_true rfl ?_
      refine c_skip ?_
      refine x_next ?_
      refine c_seq ?_
      refine c_block ?_
      refine c_seq ?_
      refine c_region ?_
      refine w_pure (y_index rfl rfl) rfl ?_
      refine w_pure (y_load_svo rfl) rfl ?_
      refine w_pure (y_assign rfl) rfl ?_
      refine w_nil ?_
      refine x_next ?_
      refine c_region ?_
      refine w_pure (y_move rfl) rfl ?_
      refine w_pure (y_move rfl) rfl ?_
      refine w_append rfl rfl (k := fun v33 w33 ho33 hx33 hr33 => ?_)
      have hl_ho33 := ho33.lt
      have hz_hx33 := hx33.size
      replace EM := EM.next hx33 (by omega)
      replace h := h.chg hx33 (by omega)
      replace hA := hA.chg hx33 (by omega)
      replace hB := hB.chg hx33 (by omega)
      replace EL := EL.next hx33 (by omega)
      replace E := E.next hx33 (by omega)
      refine w_pure (y_assign rfl) rfl ?_
      refine w_nil ?_
      refine x_block_norm ?_
      refine x_next ?_
      refine c_region ?_
      refine w_pure (y_add rfl rfl) rfl ?_
      refine w_pure (y_move rfl) rfl ?_
      refine w_nil ?_
      rotate_left
    refine x_again (2, v33) (by repeat (first | exact trivial | refine ⟨rfl, ?_⟩)) ⟨EM.go, by assumption, by assumption, by assumption, by dsimp only; omega, .inr (.inr ⟨rfl, ho33⟩)⟩ (by dsimp only; omega)
  · dsimp only at *
    subst h1
    focus
      have hl_h2 := h2.lt
      have hz_hxM := hxM.size
      replace EL := EL.next hxM (by omega)
      replace E := E.next hxM (by omega)
      refine c_seq ?_
      refine c_region ?_
      refine w_pure (y_lt rfl rfl) rfl ?_
      refine w_nil ?_
      refine x_next ?_
      refine c_seq ?_
      refine c_false rfl ?_
      refine c_exit ?_
      refine x_then_exit ?_
      refine x_then_exit ?_
      refine x_block_hit ?_
      refine x_next ?_
      refine c_seq ?_
      refine c_region ?_
      refine w_pure (y_move rfl) rfl ?_
      refine w_pure (y_assign rfl) rfl ?_
      refine w_nil ?_
      refine x_next ?_
      refine c_ret ?_
      rotate_left
    exact x_retv [_] rfl ⟨rfl, trivial⟩ ⟨h2, E.go⟩
theorem calcCode1_c (x y W : Int) (hp : At w b 0 [.int .i64 W] := by repeat (first | assumption | exact Go.Gw.Own.sl (by assumption) | exact Go.Gw.Box.at (by assumption) | exact Go.Gw.SLL.el (by first | assumption | exact Go.Gw.OwnD.sll (by assumption)) _ (by omega) | exact Go.Gw.SLL.at (by first | assumption | exact Go.Gw.OwnD.sll (by assumption)) (by omega) | exact Go.Gw.OwnD.sll (by assumption) | (apply Go.Gw.SL.chg; case hx => assumption) | (apply Go.Gw.Own.chg; case hx => assumption) | (apply Go.Gw.Box.chg; case hx => assumption) | (apply Go.Gw.At.chg; case hx => assumption) | exact .inl (Nat.zero_le _) | exact .inr (Nat.zero_le _) | (show _ ∨ _; omega))) (hW : W ≤ 1000 := by omega) : Val Try.prog 87 [.agg #[.int .i64 x, .int .i64 y], ptr b 0] w (.bool (!numB x y W)) := by
  refine ⟨fun w1 hx1 => ?_⟩
  have E : Since 0 0 w1 w1 := Since.refl 0 0 w1
  refine ret_enter Try.func87 rfl Try.ntmps87 rfl ?_
  focus
    have hz_hx1 := hx1.size
    replace hp := hp.ext hx1
    refine c_seq ?_
    refine c_region ?_
    refine w_box rfl (k := fun b2 w2 hb2 hx2 hl2 hs2 => ?_)
    have hz_hx2 := hx2.size
    replace E := E.trans hx2
    replace hp := hp.ext hx2
    refine w_pure (y_assign rfl) rfl ?_
    refine w_nil ?_
    refine x_next ?_
    refine c_seq ?_
    refine c_region ?_
    refine w_pure (y_load_boxs rfl) rfl ?_
    refine w_pure (y_load rfl) rfl ?_
    refine w_val rfl rfl rfl (isNumberField_c _ _ _) rfl (fun w6 hx6 hz6 => ?_)
    have hz_hx6 := hx6.size
    replace hb2 := hb2.ext hx6
    replace E := E.trans hx6
    replace hp := hp.ext hx6
    refine w_pure (y_not_dec rfl) rfl ?_
    refine w_pure (y_assign rfl) rfl ?_
    refine w_nil ?_
    refine x_next ?_
    refine c_ret ?_
    rotate_left
  exact x_retv [_] rfl ⟨rfl, trivial⟩ ⟨by simp only [ofResults, numB, decide_not], E.go⟩
theorem calcCode_c (k W : Int) (hs : SL w lo hi v ps := by repeat (first | assumption | exact Go.Gw.Own.sl (by assumption) | exact Go.Gw.Box.at (by assumption) | exact Go.Gw.SLL.el (by first | assumption | exact Go.Gw.OwnD.sll (by assumption)) _ (by omega) | exact Go.Gw.SLL.at (by first | assumption | exact Go.Gw.OwnD.sll (by assumption)) (by omega) | exact Go.Gw.OwnD.sll (by assumption) | (apply Go.Gw.SL.chg; case hx => assumption) | (apply Go.Gw.Own.chg; case hx => assumption) | (apply Go.Gw.Box.chg; case hx => assumption) | (apply Go.Gw.At.chg; case hx => assumption) | exact .inl (Nat.zero_le _) | exact .inr (Nat.zero_le _) | (show _ ∨ _; omega))) (hW : W ≤ 1000 := by omega) (hk : 1 ≤ k ∧ k ≤ 4 := by omega) : Val Try.prog 57 [.int .i64 k, .int .i64 W, v] w (.int .i64 (if fsB ps W = true then 0 else 2)) := by
  refine ⟨fun w1 hx1 => ?_⟩
  replace hs := hs.ext hx1
  have E : Since 0 0 w1 w1 := Since.refl 0 0 w1
  refine ret_enter Try.func57 rfl Try.ntmps57 rfl ?_
  focus
    have ht_hs := hs.top
    refine c_seq ?_
    refine c_region ?_
    refine w_box1 rfl (k := fun b4 w4 hb4 hx4 hl4 hs4 => ?_)
    have hz_hx4 := hx4.size
    replace hs := hs.ext hx4
    replace E := E.trans hx4
    refine w_pure (y_assign rfl) rfl ?_
    refine w_nil ?_
    refine x_next ?_
    refine c_seq ?_
    refine c_seq ?_
    refine c_region ?_
    refine w_pure (y_move rfl) rfl ?_
    refine w_pur rfl rfl rfl (isCalc_c _) rfl ?_
    refine w_pure (y_not_dec rfl) rfl ?_
    refine w_pure (y_move rfl) rfl ?_
    (refine w_part_dec rfl rfl (fun hc11 => ?_) (fun hc11 => ?_) <;> try (first | exact absurd rfl hc11 | contradiction | exact Bool.noConfusion (show false = true from hc11.symm.trans (by assumption)) | exact Bool.noConfusion (show true = false from hc11.symm.trans (by assumption)) | (exfalso; omega) | (exfalso; simp only [*, Bool.not_true, Bool.not_false, reduceCtorEq] at hc11; done)))
    refine w_yes rfl rfl ?_
    refine w_pure (y_move rfl) rfl ?_
    refine w_yes rfl rfl ?_
    refine w_pure (y_func rfl) rfl ?_
    refine w_yes rfl rfl ?_
    refine w_val rfl rfl rfl (ContainsFuncField (first := []) (cap := [ptr b4 0]) (p := fun x => !numB x.1 x.2 W) (hp := fun x _ => calcCode1_c x.1 x.2 W)) rfl (fun w13 hx13 hz13 => ?_)
    have hz_hx13 := hx13.size
    replace hb4 := hb4.ext hx13
    replace hs := hs.ext hx13
    replace E := E.trans hx13
    refine w_pure (y_pick_f rfl rfl) rfl ?_
    refine w_nil ?_
    refine x_next ?_
    (refine c_if rfl (fun hc14 => ?_) (fun hc14 => ?_) <;> try (first | exact absurd rfl hc14 | contradiction | exact Bool.noConfusion (show false = true from hc14.symm.trans (by assumption)) | exact Bool.noConfusion (show true = false from hc14.symm.trans (by assumption)) | (exfalso; omega) | (exfalso; simp only [*, Bool.not_true, Bool.not_false, reduceCtorEq] at hc14; done)))
    refine c_seq ?_
    refine c_region ?_
    refine w_pure (y_assign rfl) rfl ?_
    refine w_nil ?_
    refine x_next ?_
    refine c_ret ?_
    refine x_then_ret ?_
    rotate_left
    refine c_skip ?_
    refine x_next ?_
    refine c_seq ?_
    refine c_region ?_
    refine w_pure (y_assign rfl) rfl ?_
    refine w_nil ?_
    refine x_next ?_
    refine c_ret ?_
    rotate_left
  · exact x_retv [_] rfl ⟨rfl, trivial⟩ ⟨by rw [fsB, hc14]; rfl, E.go⟩
  · exact x_retv [_] rfl ⟨rfl, trivial⟩ ⟨by rw [fsB, hc14]; rfl, E.go⟩
theorem calcCode_y (k W : Int) (hs : SL w lo hi v ps := by repeat (first | assumption | exact Go.Gw.Own.sl (by assumption) | exact Go.Gw.Box.at (by assumption) | exact Go.Gw.SLL.el (by first | assumption | exact Go.Gw.OwnD.sll (by assumption)) _ (by omega) | exact Go.Gw.SLL.at (by first | assumption | exact Go.Gw.OwnD.sll (by assumption)) (by omega) | exact Go.Gw.OwnD.sll (by assumption) | (apply Go.Gw.SL.chg; case hx => assumption) | (apply Go.Gw.Own.chg; case hx => assumption) | (apply Go.Gw.Box.chg; case hx => assumption) | (apply Go.Gw.At.chg; case hx => assumption) | exact .inl (Nat.zero_le _) | exact .inr (Nat.zero_le _) | (show _ ∨ _; omega))) (hf : fsB ps W = true := by assumption) (hW : W ≤ 1000 := by omega) (hk : 1 ≤ k ∧ k ≤ 4 := by omega) : Val Try.prog 57 [.int .i64 k, .int .i64 W, v] w (.int .i64 0) := by
  have := calcCode_c k W hs hW hk
  rwa [if_pos hf] at this
theorem calcCode_n (k W : Int) (hs : SL w lo hi v ps := by repeat (first | assumption | exact Go.Gw.Own.sl (by assumption) | exact Go.Gw.Box.at (by assumption) | exact Go.Gw.SLL.el (by first | assumption | exact Go.Gw.OwnD.sll (by assumption)) _ (by omega) | exact Go.Gw.SLL.at (by first | assumption | exact Go.Gw.OwnD.sll (by assumption)) (by omega) | exact Go.Gw.OwnD.sll (by assumption) | (apply Go.Gw.SL.chg; case hx => assumption) | (apply Go.Gw.Own.chg; case hx => assumption) | (apply Go.Gw.Box.chg; case hx => assumption) | (apply Go.Gw.At.chg; case hx => assumption) | exact .inl (Nat.zero_le _) | exact .inr (Nat.zero_le _) | (show _ ∨ _; omega))) (hf : fsB ps W = false := by assumption) (hW : W ≤ 1000 := by omega) (hk : 1 ≤ k ∧ k ≤ 4 := by omega) : Val Try.prog 57 [.int .i64 k, .int .i64 W, v] w (.int .i64 2) := by
  have := calcCode_c k W hs hW hk
  rwa [if_neg (by rw [hf]; decide)] at this
theorem l14Fields_c (W : Int) (hs : SL w lo hi v ps := by repeat (first | assumption | exact Go.Gw.Own.sl (by assumption) | exact Go.Gw.Box.at (by assumption) | exact Go.Gw.SLL.el (by first | assumption | exact Go.Gw.OwnD.sll (by assumption)) _ (by omega) | exact Go.Gw.SLL.at (by first | assumption | exact Go.Gw.OwnD.sll (by assumption)) (by omega) | exact Go.Gw.OwnD.sll (by assumption) | (apply Go.Gw.SL.chg; case hx => assumption) | (apply Go.Gw.Own.chg; case hx => assumption) | (apply Go.Gw.Box.chg; case hx => assumption) | (apply Go.Gw.At.chg; case hx => assumption) | exact .inl (Nat.zero_le _) | exact .inr (Nat.zero_le _) | (show _ ∨ _; omega))) (hW : W ≤ 1000 := by omega) : Val Try.prog 51 [v, .int .i64 W] w (.bool (fsB ps W)) := by
  refine ⟨fun w1 hx1 => ?_⟩
  replace hs := hs.ext hx1
  have hsm := hs.small
  have E : Since 0 0 w1 w1 := Since.refl 0 0 w1
  refine ret_enter Try.func51 rfl Try.ntmps51 rfl ?_
  focus
    have ht_hs := hs.top
    refine c_seq ?_
    refine c_region ?_
    refine w_pure (y_assign rfl) rfl ?_
    refine w_nil ?_
    refine x_next ?_
    refine c_seq ?_
    refine c_seq ?_
    refine c_region ?_
    refine w_pure (y_assign rfl) rfl ?_
    refine w_nil ?_
    refine x_next ?_
    refine c_block ?_
    rotate_left
  refine c_loopC 0 0 (ι := Int) (fun x => [(0, v), (1, .int .i64 W), (5, .int .i64 x)]) (fun x w' => SL w' lo hi v ps ∧ 0 ≤ x ∧ x ≤ ps.length ∧ ∀ j : Nat, j < x.toNat → ((0 ≤ (ps.getD j (0, 0)).1 ∧ (ps.getD j (0, 0)).1 < (ps.getD j (0, 0)).2 ∧ (ps.getD j (0, 0)).2 ≤ W) ∧ (ps.getD j (0, 0)).2 - (ps.getD j (0, 0)).1 ≤ 12)) (fun x => (ps.length - x).toNat) 0
    (by repeat (first | exact trivial | refine ⟨rfl, ?_⟩)) ⟨hs, by omega, by omega, fun j hj => by simp at hj⟩ ?_
  rintro i w2 hx2 E2 ⟨hs2, hi0, hi1, hall⟩
  focus
    have ht_hs2 := hs2.top
    have hz_hx2 := hx2.size
    replace hs := hs.ext hx2
    replace E := E.trans hx2
    refine c_seq ?_
    refine c_seq ?_
    refine c_region ?_
    refine w_pure (y_move rfl) rfl ?_
    refine w_pure (y_move rfl) rfl ?_
    refine w_pure (y_len rfl) rfl ?_
    refine w_pure (y_lt rfl rfl) rfl ?_
    refine w_nil ?_
    refine x_next ?_
    (refine c_dec rfl (fun hc9 => ?_) (fun hc9 => ?_) <;> try (first | exact absurd rfl hc9 | contradiction | exact Bool.noConfusion (show false = true from hc9.symm.trans (by assumption)) | exact Bool.noConfusion (show true = false from hc9.symm.trans (by assumption)) | (exfalso; omega) | (exfalso; simp only [*, Bool.not_true, Bool.not_false, reduceCtorEq] at hc9; done)))
    refine c_skip ?_
    refine x_next ?_
    refine c_seq ?_
    refine c_block ?_
    refine c_seq ?_
    refine c_region_held mixed (fun wr4 hxr4 hzr4 => ?_)
    have hz_hxr4 := hxr4.size
    replace E2 := E2.trans hxr4
    replace hs2 := hs2.ext hxr4
    replace hs := hs.ext hxr4
    replace E := E.trans hxr4
    refine h_pure rfl (y_move rfl) rfl ?_
    refine h_pure rfl (y_move rfl) rfl ?_
    refine h_pure rfl (y_index rfl rfl) rfl ?_
    refine h_pure rfl (y_load_pair rfl) rfl ?_
    refine h_pure rfl (y_move rfl) rfl ?_
    refine h_one rfl ?_
    refine w_val rfl rfl rfl (l02Field_c _ _ _) rfl (fun w17 hx17 hz17 => ?_)
    have hz_hx17 := hx17.size
    replace E2 := E2.trans hx17
    replace hs2 := hs2.ext hx17
    replace hs := hs.ext hx17
    replace E := E.trans hx17
    refine w_nil ?_
    refine x_held ?_
    refine h_pure rfl (y_not_dec rfl) rfl ?_
    refine h_pure rfl (y_move rfl) rfl ?_
    (refine h_part_dec rfl rfl (fun hc20 => ?_) (fun hc20 => ?_) <;> try (first | exact absurd rfl hc20 | contradiction | exact Bool.noConfusion (show false = true from hc20.symm.trans (by assumption)) | exact Bool.noConfusion (show true = false from hc20.symm.trans (by assumption)) | (exfalso; omega) | (exfalso; simp only [*, Bool.not_true, Bool.not_false, reduceCtorEq] at hc20; done)))
    refine h_no rfl rfl rfl rfl rfl ?_
    refine h_no rfl rfl rfl rfl rfl ?_
    refine h_no rfl rfl rfl rfl rfl ?_
    refine h_no rfl rfl rfl rfl rfl ?_
    refine h_no rfl rfl rfl rfl rfl ?_
    refine h_no rfl rfl rfl rfl rfl ?_
    refine h_no rfl rfl rfl rfl rfl ?_
    refine h_no rfl rfl rfl rfl rfl ?_
    refine h_no rfl rfl rfl rfl rfl ?_
    refine h_no rfl rfl rfl rfl rfl ?_
    refine h_no rfl rfl rfl rfl rfl ?_
    refine h_no rfl rfl rfl rfl rfl ?_
    refine h_pure rfl (y_pick_t rfl rfl) rfl ?_
    refine h_nil ?_
    refine x_next ?_
    refine c_true rfl ?_
    refine c_seq ?_
    refine c_region ?_
    refine w_pure (y_assign rfl) rfl ?_
    refine w_nil ?_
    refine x_next ?_
    refine c_ret ?_
    refine x_block_ret ?_
    refine x_then_ret ?_
    refine x_then_ret ?_
    refine x_block_ret ?_
    refine x_then_ret ?_
    rotate_left
    refine h_yes rfl rfl rfl (y_move rfl) rfl ?_
    refine h_yes rfl rfl rfl (y_move rfl) rfl ?_
    refine h_yes rfl rfl rfl (y_index rfl rfl) rfl ?_
    refine h_yes rfl rfl rfl (y_field rfl) rfl ?_
    refine h_yes rfl rfl rfl (y_load_p1 rfl) rfl ?_
    refine h_yes rfl rfl rfl (y_move rfl) rfl ?_
    refine h_yes rfl rfl rfl (y_move rfl) rfl ?_
    refine h_yes rfl rfl rfl (y_index rfl rfl) rfl ?_
    refine h_yes rfl rfl rfl (y_field rfl) rfl ?_
    refine h_yes rfl rfl rfl (y_load_p0 rfl) rfl ?_
    refine h_yes rfl rfl rfl (y_sub rfl rfl) rfl ?_
    refine h_yes rfl rfl rfl (y_gt rfl rfl) rfl ?_
    refine h_pure rfl (y_pick_f rfl rfl) rfl ?_
    refine h_nil ?_
    refine x_next ?_
    (refine c_dec rfl (fun hc32 => ?_) (fun hc32 => ?_) <;> try (first | exact absurd rfl hc32 | contradiction | exact Bool.noConfusion (show false = true from hc32.symm.trans (by assumption)) | exact Bool.noConfusion (show true = false from hc32.symm.trans (by assumption)) | (exfalso; omega) | (exfalso; simp only [*, Bool.not_true, Bool.not_false, reduceCtorEq] at hc32; done)))
    refine c_seq ?_
    refine c_region ?_
    refine w_pure (y_assign rfl) rfl ?_
    refine w_nil ?_
    refine x_next ?_
    refine c_ret ?_
    refine x_block_ret ?_
    refine x_then_ret ?_
    refine x_then_ret ?_
    refine x_block_ret ?_
    refine x_then_ret ?_
    rotate_left
    refine c_skip ?_
    refine x_block_norm ?_
    refine x_next ?_
    refine c_region ?_
    refine w_pure (y_move rfl) rfl ?_
    refine w_pure (y_add rfl rfl) rfl ?_
    refine w_pure (y_assign rfl) rfl ?_
    refine w_nil ?_
    rotate_left
    refine c_exit ?_
    refine x_then_exit ?_
    refine x_then_exit ?_
    refine x_block_hit ?_
    refine x_next ?_
    refine c_seq ?_
    refine c_region ?_
    refine w_pure (y_assign rfl) rfl ?_
    refine w_nil ?_
    refine x_next ?_
    refine c_ret ?_
    rotate_left
  · exact x_retv [_] rfl ⟨rfl, trivial⟩ ⟨by rw [fsB_no (i := i.toNat) (by omega) (by omega)]; rfl, E.go⟩
  · exact x_retv [_] rfl ⟨rfl, trivial⟩ ⟨by rw [fsB_no (i := i.toNat) (by omega) (by omega)]; rfl, E.go⟩
  · refine x_again (i + 1) (by repeat (first | exact trivial | refine ⟨rfl, ?_⟩)) ⟨E2.go, by assumption, by omega, by omega, fun j hj => ?_⟩ (by omega)
    by_cases ej : j = i.toNat
    · subst ej; omega
    · exact hall j (by omega)
  · exact x_retv [_] rfl ⟨rfl, trivial⟩ ⟨by rw [fsB_yes (fun j hj => hall j (by omega))]; rfl, E.go⟩
end
section
variable {w : World} {lo hi la ha lb hb b o : Nat} {v va vb : Value} {xs : List Int} {ps qs : List (Int × Int)}
theorem iCrossFoot_c (h : SL w lo hi v xs := by repeat (first | assumption | exact Go.Gw.Own.sl (by assumption) | exact Go.Gw.Box.at (by assumption) | exact Go.Gw.SLL.el (by first | assumption | exact Go.Gw.OwnD.sll (by assumption)) _ (by omega) | exact Go.Gw.SLL.at (by first | assumption | exact Go.Gw.OwnD.sll (by assumption)) (by omega) | exact Go.Gw.OwnD.sll (by assumption) | (apply Go.Gw.SL.chg; case hx => assumption) | (apply Go.Gw.Own.chg; case hx => assumption) | (apply Go.Gw.Box.chg; case hx => assumption) | (apply Go.Gw.At.chg; case hx => assumption) | exact .inl (Nat.zero_le _) | exact .inr (Nat.zero_le _) | (show _ ∨ _; omega))) (hA : SL w la ha va ps := by repeat (first | assumption | exact Go.Gw.Own.sl (by assumption) | exact Go.Gw.Box.at (by assumption) | exact Go.Gw.SLL.el (by first | assumption | exact Go.Gw.OwnD.sll (by assumption)) _ (by omega) | exact Go.Gw.SLL.at (by first | assumption | exact Go.Gw.OwnD.sll (by assumption)) (by omega) | exact Go.Gw.OwnD.sll (by assumption) | (apply Go.Gw.SL.chg; case hx => assumption) | (apply Go.Gw.Own.chg; case hx => assumption) | (apply Go.Gw.Box.chg; case hx => assumption) | (apply Go.Gw.At.chg; case hx => assumption) | exact .inl (Nat.zero_le _) | exact .inr (Nat.zero_le _) | (show _ ∨ _; omega))) (hB : SL w lb hb vb qs := by repeat (first | assumption | exact Go.Gw.Own.sl (by assumption) | exact Go.Gw.Box.at (by assumption) | exact Go.Gw.SLL.el (by first | assumption | exact Go.Gw.OwnD.sll (by assumption)) _ (by omega) | exact Go.Gw.SLL.at (by first | assumption | exact Go.Gw.OwnD.sll (by assumption)) (by omega) | exact Go.Gw.OwnD.sll (by assumption) | (apply Go.Gw.SL.chg; case hx => assumption) | (apply Go.Gw.Own.chg; case hx => assumption) | (apply Go.Gw.Box.chg; case hx => assumption) | (apply Go.Gw.At.chg; case hx => assumption) | exact .inl (Nat.zero_le _) | exact .inr (Nat.zero_le _) | (show _ ∨ _; omega))) (hl : ps.length ≤ 1048576 ∧ qs.length ≤ 1048576 := by omega) : Val Try.prog 15 [.agg #[v], va, vb] w (.tuple #[.int .i64 (resCrf xs ps qs), .int .i64 (cCrf xs ps qs)]) := by
  refine ⟨fun w1 hx1 => ?_⟩
  replace h := h.ext hx1
  replace hA := hA.ext hx1
  replace hB := hB.ext hx1
  have hsa := hA.small
  have hsb := hB.small
  have E : Since 0 0 w1 w1 := Since.refl 0 0 w1
  cases hk : okK xs
  · refine ret_enter Try.func15 rfl Try.ntmps15 rfl ?_
    focus
      have ht_h := h.top
      have ht_hA := hA.top
      have ht_hB := hB.top
      refine c_seq ?_
      refine c_region ?_
      refine w_box rfl (k := fun b3 w3 hb3 hx3 hl3 hs3 => ?_)
      have hz_hx3 := hx3.size
      replace h := h.ext hx3
      replace hA := hA.ext hx3
      replace hB := hB.ext hx3
      replace E := E.trans hx3
      refine w_pure (y_assign rfl) rfl ?_
      refine w_pure (y_assign rfl) rfl ?_
      refine w_nil ?_
      refine x_next ?_
      refine c_seq ?_
      refine c_seq ?_
      refine c_region ?_
      refine w_pure (y_load_boxs rfl) rfl ?_
      refine w_val rfl rfl rfl (iValidCard_c) rfl (fun w14 hx14 hz14 => ?_)
      have hz_hx14 := hx14.size
      replace hb3 := hb3.ext hx14
      replace h := h.ext hx14
      replace hA := hA.ext hx14
      replace hB := hB.ext hx14
      replace E := E.trans hx14
      refine w_pure (y_not rfl) rfl ?_
      refine w_nil ?_
      refine x_next ?_
      (refine c_not rfl (fun hc15 => ?_) (fun hc15 => ?_) <;> try (first | exact absurd rfl hc15 | contradiction | exact Bool.noConfusion (show false = true from hc15.symm.trans (by assumption)) | exact Bool.noConfusion (show true = false from hc15.symm.trans (by assumption)) | (exfalso; omega) | (exfalso; simp only [*, Bool.not_true, Bool.not_false, reduceCtorEq] at hc15; done)))
      refine c_seq ?_
      refine c_region ?_
      refine w_pure (y_assign rfl) rfl ?_
      refine w_pure (y_assign rfl) rfl ?_
      refine w_nil ?_
      refine x_next ?_
      refine c_ret ?_
      refine x_then_ret ?_
      rotate_left
    exact x_retv [_, _] rfl ⟨rfl, rfl, trivial⟩ ⟨by rw [resCrf, cCrf_1 hk]; rfl, E.go⟩
  have hkl := okK_len hk
  by_cases h6 : ps.length + qs.length ≤ 6
  case neg =>
    refine ret_enter Try.func15 rfl Try.ntmps15 rfl ?_
    focus
      have ht_h := h.top
      have ht_hA := hA.top
      have ht_hB := hB.top
      refine c_seq ?_
      refine c_region ?_
      refine w_box rfl (k := fun b3 w3 hb3 hx3 hl3 hs3 => ?_)
      have hz_hx3 := hx3.size
      replace h := h.ext hx3
      replace hA := hA.ext hx3
      replace hB := hB.ext hx3
      replace E := E.trans hx3
      refine w_pure (y_assign rfl) rfl ?_
      refine w_pure (y_assign rfl) rfl ?_
      refine w_nil ?_
      refine x_next ?_
      refine c_seq ?_
      refine c_seq ?_
      refine c_region ?_
      refine w_pure (y_load_boxs rfl) rfl ?_
      refine w_val rfl rfl rfl (iValidCard_c) rfl (fun w14 hx14 hz14 => ?_)
      have hz_hx14 := hx14.size
      replace hb3 := hb3.ext hx14
      replace h := h.ext hx14
      replace hA := hA.ext hx14
      replace hB := hB.ext hx14
      replace E := E.trans hx14
      refine w_pure (y_not rfl) rfl ?_
      refine w_nil ?_
      refine x_next ?_
      (refine c_not rfl (fun hc15 => ?_) (fun hc15 => ?_) <;> try (first | exact absurd rfl hc15 | contradiction | exact Bool.noConfusion (show false = true from hc15.symm.trans (by assumption)) | exact Bool.noConfusion (show true = false from hc15.symm.trans (by assumption)) | (exfalso; omega) | (exfalso; simp only [*, Bool.not_true, Bool.not_false, reduceCtorEq] at hc15; done)))
      refine c_skip ?_
      refine x_next ?_
      refine c_seq ?_
      refine c_seq ?_
      refine c_region ?_
      refine w_pure (y_move rfl) rfl ?_
      refine w_pure (y_len rfl) rfl ?_
      refine w_pure (y_move rfl) rfl ?_
      refine w_pure (y_len rfl) rfl ?_
      refine w_pure (y_add rfl rfl) rfl ?_
      refine w_pure (y_gt rfl rfl) rfl ?_
      refine w_pure (y_move rfl) rfl ?_
      (refine w_part_dec rfl rfl (fun hc23 => ?_) (fun hc23 => ?_) <;> try (first | exact absurd rfl hc23 | contradiction | exact Bool.noConfusion (show false = true from hc23.symm.trans (by assumption)) | exact Bool.noConfusion (show true = false from hc23.symm.trans (by assumption)) | (exfalso; omega) | (exfalso; simp only [*, Bool.not_true, Bool.not_false, reduceCtorEq] at hc23; done)))
      refine w_no rfl rfl rfl rfl ?_
      refine w_no rfl rfl rfl rfl ?_
      refine w_no rfl rfl rfl rfl ?_
      refine w_no rfl rfl rfl rfl ?_
      refine w_no rfl rfl rfl rfl ?_
      refine w_no rfl rfl rfl rfl ?_
      refine w_no rfl rfl rfl rfl ?_
      refine w_no rfl rfl rfl rfl ?_
      refine w_pure (y_pick_t rfl rfl) rfl ?_
      refine w_nil ?_
      refine x_next ?_
      refine c_true rfl ?_
      refine c_seq ?_
      refine c_region ?_
      refine w_pure (y_assign rfl) rfl ?_
      refine w_pure (y_assign rfl) rfl ?_
      refine w_nil ?_
      refine x_next ?_
      refine c_ret ?_
      refine x_then_ret ?_
      rotate_left
    all_goals exact x_retv [_, _] rfl ⟨rfl, rfl, trivial⟩ ⟨by rw [resCrf, cCrf_2 hk (.inl h6)]; rfl, E.go⟩
  cases hf : fsB (ps ++ qs) xs.length
  · refine ret_enter Try.func15 rfl Try.ntmps15 rfl ?_
    focus
      have ht_h := h.top
      have ht_hA := hA.top
      have ht_hB := hB.top
      refine c_seq ?_
      refine c_region ?_
      refine w_box rfl (k := fun b3 w3 hb3 hx3 hl3 hs3 => ?_)
      have hz_hx3 := hx3.size
      replace h := h.ext hx3
      replace hA := hA.ext hx3
      replace hB := hB.ext hx3
      replace E := E.trans hx3
      refine w_pure (y_assign rfl) rfl ?_
      refine w_pure (y_assign rfl) rfl ?_
      refine w_nil ?_
      refine x_next ?_
      refine c_seq ?_
      refine c_seq ?_
      refine c_region ?_
      refine w_pure (y_load_boxs rfl) rfl ?_
      refine w_val rfl rfl rfl (iValidCard_c) rfl (fun w14 hx14 hz14 => ?_)
      have hz_hx14 := hx14.size
      replace hb3 := hb3.ext hx14
      replace h := h.ext hx14
      replace hA := hA.ext hx14
      replace hB := hB.ext hx14
      replace E := E.trans hx14
      refine w_pure (y_not rfl) rfl ?_
      refine w_nil ?_
      refine x_next ?_
      (refine c_not rfl (fun hc15 => ?_) (fun hc15 => ?_) <;> try (first | exact absurd rfl hc15 | contradiction | exact Bool.noConfusion (show false = true from hc15.symm.trans (by assumption)) | exact Bool.noConfusion (show true = false from hc15.symm.trans (by assumption)) | (exfalso; omega) | (exfalso; simp only [*, Bool.not_true, Bool.not_false, reduceCtorEq] at hc15; done)))
      refine c_skip ?_
      refine x_next ?_
      refine c_seq ?_
      refine c_seq ?_
      refine c_region ?_
      refine w_pure (y_move rfl) rfl ?_
      refine w_pure (y_len rfl) rfl ?_
      refine w_pure (y_move rfl) rfl ?_
      refine w_pure (y_len rfl) rfl ?_
      refine w_pure (y_add rfl rfl) rfl ?_
      refine w_pure (y_gt rfl rfl) rfl ?_
      refine w_pure (y_move rfl) rfl ?_
      (refine w_part_dec rfl rfl (fun hc23 => ?_) (fun hc23 => ?_) <;> try (first | exact absurd rfl hc23 | contradiction | exact Bool.noConfusion (show false = true from hc23.symm.trans (by assumption)) | exact Bool.noConfusion (show true = false from hc23.symm.trans (by assumption)) | (exfalso; omega) | (exfalso; simp only [*, Bool.not_true, Bool.not_false, reduceCtorEq] at hc23; done)))
      refine w_yes rfl rfl ?_
      refine w_pure (y_load_boxs rfl) rfl ?_
      refine w_yes rfl rfl ?_
      refine w_val rfl rfl rfl (columns_c) rfl (fun w24 hx24 hz24 => ?_)
      have hz_hx24 := hx24.size
      replace hb3 := hb3.ext hx24
      replace h := h.ext hx24
      replace hA := hA.ext hx24
      replace hB := hB.ext hx24
      replace E := E.trans hx24
      refine w_yes rfl rfl ?_
      refine w_pure (y_move rfl) rfl ?_
      refine w_yes rfl rfl ?_
      refine w_pure (y_move rfl) rfl ?_
      refine w_yes rfl rfl ?_
      refine w_lit_sv2 rfl rfl rfl (k := fun v27 w27 ho27 hx27 hl27 hh27 hs27 => ?_)
      have hl_ho27 := ho27.lt
      have hz_hx27 := hx27.size
      replace hb3 := hb3.ext hx27
      replace h := h.ext hx27
      replace hA := hA.ext hx27
      replace hB := hB.ext hx27
      replace E := E.trans hx27
      refine w_yes rfl rfl ?_
      (refine w_call rfl rfl rfl (ConcatField_c) rfl ?_; rintro v28 w28 ⟨hp1_28, hx28⟩)
      have hl_hp1_28 := hp1_28.lt
      have hz_hx28 := hx28.size
      replace ho27 := ho27.ext hx28
      replace hb3 := hb3.ext hx28
      replace h := h.ext hx28
      replace hA := hA.ext hx28
      replace hB := hB.ext hx28
      replace E := E.trans hx28
      refine w_yes rfl rfl ?_
      refine w_val rfl rfl rfl (calcCode_n _ _) rfl (fun w29 hx29 hz29 => ?_)
      have hz_hx29 := hx29.size
      replace hp1_28 := hp1_28.ext hx29
      replace ho27 := ho27.ext hx29
      replace hb3 := hb3.ext hx29
      replace h := h.ext hx29
      replace hA := hA.ext hx29
      replace hB := hB.ext hx29
      replace E := E.trans hx29
      refine w_yes rfl rfl ?_
      refine w_pure (y_ne rfl rfl) rfl ?_
      refine w_pure (y_pick_f rfl rfl) rfl ?_
      refine w_nil ?_
      refine x_next ?_
      refine c_true rfl ?_
      refine c_seq ?_
      refine c_region ?_
      refine w_pure (y_assign rfl) rfl ?_
      refine w_pure (y_assign rfl) rfl ?_
      refine w_nil ?_
      refine x_next ?_
      refine c_ret ?_
      refine x_then_ret ?_
      rotate_left
    exact x_retv [_, _] rfl ⟨rfl, rfl, trivial⟩ ⟨by rw [resCrf, cCrf_2 hk (.inr hf)]; rfl, E.go⟩
  have hal : (ps ++ qs).length = ps.length + qs.length := List.length_append
  refine ret_enter Try.func15 rfl Try.ntmps15 rfl ?_
  focus
    have ht_h := h.top
    have ht_hA := hA.top
    have ht_hB := hB.top
    refine c_seq ?_
    refine c_region ?_
    refine w_box rfl (k := fun b3 w3 hb3 hx3 hl3 hs3 => ?_)
    have hz_hx3 := hx3.size
    replace h := h.ext hx3
    replace hA := hA.ext hx3
    replace hB := hB.ext hx3
    replace E := E.trans hx3
    refine w_pure (y_assign rfl) rfl ?_
    refine w_pure (y_assign rfl) rfl ?_
    refine w_nil ?_
    refine x_next ?_
    refine c_seq ?_
    refine c_seq ?_
    refine c_region ?_
    refine w_pure (y_load_boxs rfl) rfl ?_
    refine w_val rfl rfl rfl (iValidCard_c) rfl (fun w14 hx14 hz14 => ?_)
    have hz_hx14 := hx14.size
    replace hb3 := hb3.ext hx14
    replace h := h.ext hx14
    replace hA := hA.ext hx14
    replace hB := hB.ext hx14
    replace E := E.trans hx14
    refine w_pure (y_not rfl) rfl ?_
    refine w_nil ?_
    refine x_next ?_
    (refine c_not rfl (fun hc15 => ?_) (fun hc15 => ?_) <;> try (first | exact absurd rfl hc15 | contradiction | exact Bool.noConfusion (show false = true from hc15.symm.trans (by assumption)) | exact Bool.noConfusion (show true = false from hc15.symm.trans (by assumption)) | (exfalso; omega) | (exfalso; simp only [*, Bool.not_true, Bool.not_false, reduceCtorEq] at hc15; done)))
    refine c_skip ?_
    refine x_next ?_
    refine c_seq ?_
    refine c_seq ?_
    refine c_region ?_
    refine w_pure (y_move rfl) rfl ?_
    refine w_pure (y_len rfl) rfl ?_
    refine w_pure (y_move rfl) rfl ?_
    refine w_pure (y_len rfl) rfl ?_
    refine w_pure (y_add rfl rfl) rfl ?_
    refine w_pure (y_gt rfl rfl) rfl ?_
    refine w_pure (y_move rfl) rfl ?_
    (refine w_part_dec rfl rfl (fun hc23 => ?_) (fun hc23 => ?_) <;> try (first | exact absurd rfl hc23 | contradiction | exact Bool.noConfusion (show false = true from hc23.symm.trans (by assumption)) | exact Bool.noConfusion (show true = false from hc23.symm.trans (by assumption)) | (exfalso; omega) | (exfalso; simp only [*, Bool.not_true, Bool.not_false, reduceCtorEq] at hc23; done)))
    refine w_yes rfl rfl ?_
    refine w_pure (y_load_boxs rfl) rfl ?_
    refine w_yes rfl rfl ?_
    refine w_val rfl rfl rfl (columns_c) rfl (fun w24 hx24 hz24 => ?_)
    have hz_hx24 := hx24.size
    replace hb3 := hb3.ext hx24
    replace h := h.ext hx24
    replace hA := hA.ext hx24
    replace hB := hB.ext hx24
    replace E := E.trans hx24
    refine w_yes rfl rfl ?_
    refine w_pure (y_move rfl) rfl ?_
    refine w_yes rfl rfl ?_
    refine w_pure (y_move rfl) rfl ?_
    refine w_yes rfl rfl ?_
    refine w_lit_sv2 rfl rfl rfl (k := fun v27 w27 ho27 hx27 hl27 hh27 hs27 => ?_)
    have hl_ho27 := ho27.lt
    have hz_hx27 := hx27.size
    replace hb3 := hb3.ext hx27
    replace h := h.ext hx27
    replace hA := hA.ext hx27
    replace hB := hB.ext hx27
    replace E := E.trans hx27
    refine w_yes rfl rfl ?_
    (refine w_call rfl rfl rfl (ConcatField_c) rfl ?_; rintro v28 w28 ⟨hp1_28, hx28⟩)
    have hl_hp1_28 := hp1_28.lt
    have hz_hx28 := hx28.size
    replace ho27 := ho27.ext hx28
    replace hb3 := hb3.ext hx28
    replace h := h.ext hx28
    replace hA := hA.ext hx28
    replace hB := hB.ext hx28
    replace E := E.trans hx28
    refine w_yes rfl rfl ?_
    refine w_val rfl rfl rfl (calcCode_y _ _) rfl (fun w29 hx29 hz29 => ?_)
    have hz_hx29 := hx29.size
    replace hp1_28 := hp1_28.ext hx29
    replace ho27 := ho27.ext hx29
    replace hb3 := hb3.ext hx29
    replace h := h.ext hx29
    replace hA := hA.ext hx29
    replace hB := hB.ext hx29
    replace E := E.trans hx29
    refine w_yes rfl rfl ?_
    refine w_pure (y_ne rfl rfl) rfl ?_
    refine w_pure (y_pick_f rfl rfl) rfl ?_
    refine w_nil ?_
    refine x_next ?_
    refine c_false rfl ?_
    refine c_skip ?_
    refine x_next ?_
    refine c_seq ?_
    refine c_region ?_
    refine w_pure (y_assign rfl) rfl ?_
    refine w_nil ?_
    refine x_next ?_
    refine c_seq ?_
    refine c_seq ?_
    refine c_region ?_
    refine w_pure (y_move rfl) rfl ?_
    refine w_pure (y_move rfl) rfl ?_
    refine w_lit_sv2 rfl rfl rfl (k := fun v34 w34 ho34 hx34 hl34 hh34 hs34 => ?_)
    have hl_ho34 := ho34.lt
    have hz_hx34 := hx34.size
    replace hp1_28 := hp1_28.ext hx34
    replace ho27 := ho27.ext hx34
    replace hb3 := hb3.ext hx34
    replace h := h.ext hx34
    replace hA := hA.ext hx34
    replace hB := hB.ext hx34
    replace E := E.trans hx34
    (refine w_call rfl rfl rfl (ConcatField_c) rfl ?_; rintro v35 w35 ⟨hp1_35, hx35⟩)
    have hl_hp1_35 := hp1_35.lt
    have hz_hx35 := hx35.size
    replace ho34 := ho34.ext hx35
    replace hp1_28 := hp1_28.ext hx35
    replace ho27 := ho27.ext hx35
    replace hb3 := hb3.ext hx35
    replace h := h.ext hx35
    replace hA := hA.ext hx35
    replace hB := hB.ext hx35
    replace E := E.trans hx35
    refine w_pure (y_len rfl) rfl ?_
    refine w_pure (y_move rfl) rfl ?_
    refine w_nil ?_
    refine x_next ?_
    refine c_block ?_
    rotate_left
  refine c_loopC 0 0 (ι := Int × Int) (fun x => [(1, va), (3, ptr b3 0), (8, .int .i64 x.2), (35, v35), (36, .int .i64 (ps ++ qs).length), (37, .int .i64 x.1)])
    (fun x w' => SL w' lo hi v xs ∧ SL w' la ha va ps ∧ Box w' b3 [v] ∧ Own w' 45 w34.heap.size v35 (ps ++ qs) ∧ 0 ≤ x.1 ∧ x.1 ≤ (ps ++ qs).length ∧ x.2 = sX xs (ps ++ qs) ps.length x.1.toNat ∧ (∀ i, i < x.1.toNat → (nmC xs (ps ++ qs) i).2 = true)) (fun x => ((ps ++ qs).length - x.1).toNat) (0, 0)
    (by repeat (first | exact trivial | refine ⟨rfl, ?_⟩)) ⟨by assumption, by assumption, by assumption, by assumption, by dsimp only; omega, by dsimp only; omega, rfl, fun i hi => by simp at hi⟩ ?_
  clear h hA hb3 hp1_35
  rintro ⟨i, s⟩ wL hxL EL ⟨h, hA, hb3, g3, hi0, hi1, hs, hall⟩
  dsimp only at *
  have e1 : (i + 1).toNat = i.toNat + 1 := by omega
  have hbd := sX_bd hk hf ps.length i.toNat (by omega)
  by_cases hli : i < (ps ++ qs).length
  case neg =>
    have hY := okX_yes (xs := xs) (fs := ps ++ qs) (fun j hj => hall j (by omega))
    focus
      have hl_g3 := g3.lt
      have hz_hxL := hxL.size
      replace ho34 := ho34.ext hxL
      replace hp1_28 := hp1_28.ext hxL
      replace ho27 := ho27.ext hxL
      replace hB := hB.ext hxL
      replace E := E.trans hxL
      refine c_seq ?_
      refine c_region ?_
      refine w_pure (y_lt rfl rfl) rfl ?_
      refine w_nil ?_
      refine x_next ?_
      refine c_seq ?_
      (refine c_dec rfl (fun hc38 => ?_) (fun hc38 => ?_) <;> try (first | exact absurd rfl hc38 | contradiction | exact Bool.noConfusion (show false = true from hc38.symm.trans (by assumption)) | exact Bool.noConfusion (show true = false from hc38.symm.trans (by assumption)) | (exfalso; omega) | (exfalso; simp only [*, Bool.not_true, Bool.not_false, reduceCtorEq] at hc38; done)))
      refine c_exit ?_
      refine x_then_exit ?_
      refine x_then_exit ?_
      refine x_block_hit ?_
      refine x_next ?_
      refine c_seq ?_
      refine c_region ?_
      refine w_pure (y_move rfl) rfl ?_
      refine w_pure (y_assign rfl) rfl ?_
      refine w_pure (y_assign rfl) rfl ?_
      refine w_nil ?_
      refine x_next ?_
      refine c_ret ?_
      rotate_left
    exact x_retv [_, _] rfl ⟨rfl, rfl, trivial⟩ ⟨by rw [resCrf, cCrf_0 hk h6 hf hY, if_pos rfl, hs, ← hal, show i.toNat = (ps ++ qs).length by omega]; rfl, E.go⟩
  have hfd := fsB_at hf (i := i.toNat) (by omega)
  have hnm : -999999999999 ≤ (numL (prt xs ((ps ++ qs).getD i.toNat (0, 0)).1 ((ps ++ qs).getD i.toNat (0, 0)).2)).1 ∧ (numL (prt xs ((ps ++ qs).getD i.toNat (0, 0)).1 ((ps ++ qs).getD i.toNat (0, 0)).2)).1 ≤ 999999999999 := nmC_bd hk hf (i := i.toNat) (by omega)
  focus
    have hl_g3 := g3.lt
    have hz_hxL := hxL.size
    replace ho34 := ho34.ext hxL
    replace hp1_28 := hp1_28.ext hxL
    replace ho27 := ho27.ext hxL
    replace hB := hB.ext hxL
    replace E := E.trans hxL
    refine c_seq ?_
    refine c_region ?_
    refine w_pure (y_lt rfl rfl) rfl ?_
    refine w_nil ?_
    refine x_next ?_
    refine c_seq ?_
    (refine c_dec rfl (fun hc38 => ?_) (fun hc38 => ?_) <;> try (first | exact absurd rfl hc38 | contradiction | exact Bool.noConfusion (show false = true from hc38.symm.trans (by assumption)) | exact Bool.noConfusion (show true = false from hc38.symm.trans (by assumption)) | (exfalso; omega) | (exfalso; simp only [*, Bool.not_true, Bool.not_false, reduceCtorEq] at hc38; done)))
    refine c_skip ?_
    refine x_next ?_
    refine c_seq ?_
    refine c_block ?_
    refine c_seq ?_
    refine c_region ?_
    refine w_pure (y_move rfl) rfl ?_
    refine w_pure (y_index rfl rfl) rfl ?_
    refine w_pure (y_load_pair rfl) rfl ?_
    refine w_alloc (k := fun b10 w10 hb10 hx10 hl10 hs10 => ?_)
    have hz_hx10 := hx10.size
    replace EL := EL.trans hx10
    replace h := h.ext hx10
    replace hA := hA.ext hx10
    replace hb3 := hb3.ext hx10
    replace g3 := g3.ext hx10
    replace ho34 := ho34.ext hx10
    replace hp1_28 := hp1_28.ext hx10
    replace ho27 := ho27.ext hx10
    replace hB := hB.ext hx10
    replace E := E.trans hx10
    refine w_pure (y_assign rfl) rfl ?_
    refine w_store_boxs rfl rfl (next := fun ws19 hbs19 hxs19 hss19 => ?_)
    (replace hb10 := hbs19; clear hbs19)
    have hz_hxs19 := hxs19.size
    replace EL := EL.next hxs19 (by omega)
    replace h := h.chg hxs19 (by omega)
    replace hA := hA.chg hxs19 (by omega)
    replace hb3 := hb3.chg hxs19 (by omega)
    replace g3 := g3.chg hxs19 (by omega)
    replace ho34 := ho34.chg hxs19 (by omega)
    replace hp1_28 := hp1_28.chg hxs19 (by omega)
    replace ho27 := ho27.chg hxs19 (by omega)
    replace hB := hB.chg hxs19 (by omega)
    replace E := E.next hxs19 (by omega)
    refine w_nil ?_
    refine x_next ?_
    refine c_seq ?_
    refine c_region ?_
    refine w_pure (y_load_boxs rfl) rfl ?_
    refine w_pure (y_load_boxs rfl) rfl ?_
    refine w_val rfl rfl rfl (numberIn_c _ _) rfl (fun w45 hx45 hz45 => ?_)
    have hz_hx45 := hx45.size
    replace hb10 := hb10.ext hx45
    replace EL := EL.trans hx45
    replace h := h.ext hx45
    replace hA := hA.ext hx45
    replace hb3 := hb3.ext hx45
    replace g3 := g3.ext hx45
    replace ho34 := ho34.ext hx45
    replace hp1_28 := hp1_28.ext hx45
    replace ho27 := ho27.ext hx45
    replace hB := hB.ext hx45
    replace E := E.trans hx45
    refine w_pure (y_move rfl) rfl ?_
    refine w_pure (y_extract rfl rfl) rfl ?_
    refine w_pure (y_extract rfl rfl) rfl ?_
    refine w_pure (y_assign rfl) rfl ?_
    refine w_pure (y_assign rfl) rfl ?_
    refine w_nil ?_
    refine x_next ?_
    refine c_seq ?_
    refine c_seq ?_
    refine c_region ?_
    refine w_pure (y_move rfl) rfl ?_
    refine w_pure (y_not rfl) rfl ?_
    refine w_nil ?_
    refine x_next ?_
    (refine c_not rfl (fun hc49 => ?_) (fun hc49 => ?_) <;> try (first | exact absurd rfl hc49 | contradiction | exact Bool.noConfusion (show false = true from hc49.symm.trans (by assumption)) | exact Bool.noConfusion (show true = false from hc49.symm.trans (by assumption)) | (exfalso; omega) | (exfalso; simp only [*, Bool.not_true, Bool.not_false, reduceCtorEq] at hc49; done)))
    refine c_seq ?_
    refine c_region ?_
    refine w_pure (y_assign rfl) rfl ?_
    refine w_pure (y_assign rfl) rfl ?_
    refine w_nil ?_
    refine x_next ?_
    refine c_ret ?_
    refine x_then_ret ?_
    refine x_block_ret ?_
    refine x_then_ret ?_
    refine x_then_ret ?_
    refine x_block_ret ?_
    refine x_then_ret ?_
    rotate_left
    refine c_skip ?_
    refine x_next ?_
    refine c_seq ?_
    refine c_seq ?_
    refine c_region ?_
    refine w_pure (y_move rfl) rfl ?_
    refine w_pure (y_move rfl) rfl ?_
    refine w_pure (y_len rfl) rfl ?_
    refine w_pure (y_ge rfl rfl) rfl ?_
    refine w_nil ?_
    refine x_next ?_
    (refine c_dec rfl (fun hc53 => ?_) (fun hc53 => ?_) <;> try (first | exact absurd rfl hc53 | contradiction | exact Bool.noConfusion (show false = true from hc53.symm.trans (by assumption)) | exact Bool.noConfusion (show true = false from hc53.symm.trans (by assumption)) | (exfalso; omega) | (exfalso; simp only [*, Bool.not_true, Bool.not_false, reduceCtorEq] at hc53; done)))
    refine c_region ?_
    refine w_pure (y_move rfl) rfl ?_
    refine w_pure (y_neg rfl) rfl ?_
    refine w_pure (y_assign rfl) rfl ?_
    refine w_nil ?_
    refine x_next ?_
    refine c_region ?_
    refine w_pure (y_move rfl) rfl ?_
    refine w_pure (y_move rfl) rfl ?_
    refine w_pure (y_add rfl rfl) rfl ?_
    refine w_pure (y_assign rfl) rfl ?_
    refine w_nil ?_
    refine x_block_norm ?_
    refine x_next ?_
    refine c_region ?_
    refine w_pure (y_add rfl rfl) rfl ?_
    refine w_pure (y_move rfl) rfl ?_
    refine w_nil ?_
    rotate_left
    refine c_skip ?_
    refine x_next ?_
    refine c_region ?_
    refine w_pure (y_move rfl) rfl ?_
    refine w_pure (y_move rfl) rfl ?_
    refine w_pure (y_add rfl rfl) rfl ?_
    refine w_pure (y_assign rfl) rfl ?_
    refine w_nil ?_
    refine x_block_norm ?_
    refine x_next ?_
    refine c_region ?_
    refine w_pure (y_add rfl rfl) rfl ?_
    refine w_pure (y_move rfl) rfl ?_
    refine w_nil ?_
    rotate_left
  · exact x_retv [_, _] rfl ⟨rfl, rfl, trivial⟩ ⟨by rw [resCrf, cCrf_8 hk h6 hf (okX_no (i := i.toNat) (by omega) hc49)]; rfl, E.go⟩
  · refine x_again (i + 1, _) (by repeat (first | exact trivial | refine ⟨rfl, ?_⟩)) ⟨EL.go, by assumption, by assumption, by assumption, by assumption, by dsimp only; omega, by dsimp only; omega, by dsimp only; rw [e1, sX, if_neg (by omega), ← hs]; rfl, fun j hj => ?_⟩ (by dsimp only; omega)
    dsimp only at hj
    by_cases ej : j = i.toNat
    · subst ej; exact hc49
    · exact hall j (by omega)
  · refine x_again (i + 1, _) (by repeat (first | exact trivial | refine ⟨rfl, ?_⟩)) ⟨EL.go, by assumption, by assumption, by assumption, by assumption, by dsimp only; omega, by dsimp only; omega, by dsimp only; rw [e1, sX, if_pos (by omega), ← hs]; rfl, fun j hj => ?_⟩ (by dsimp only; omega)
    dsimp only at hj
    by_cases ej : j = i.toNat
    · subst ej; exact hc49
    · exact hall j (by omega)
theorem sCrossFoot_c (h : SL w lo hi v xs := by repeat (first | assumption | exact Go.Gw.Own.sl (by assumption) | exact Go.Gw.Box.at (by assumption) | exact Go.Gw.SLL.el (by first | assumption | exact Go.Gw.OwnD.sll (by assumption)) _ (by omega) | exact Go.Gw.SLL.at (by first | assumption | exact Go.Gw.OwnD.sll (by assumption)) (by omega) | exact Go.Gw.OwnD.sll (by assumption) | (apply Go.Gw.SL.chg; case hx => assumption) | (apply Go.Gw.Own.chg; case hx => assumption) | (apply Go.Gw.Box.chg; case hx => assumption) | (apply Go.Gw.At.chg; case hx => assumption) | exact .inl (Nat.zero_le _) | exact .inr (Nat.zero_le _) | (show _ ∨ _; omega))) (hA : SL w la ha va ps := by repeat (first | assumption | exact Go.Gw.Own.sl (by assumption) | exact Go.Gw.Box.at (by assumption) | exact Go.Gw.SLL.el (by first | assumption | exact Go.Gw.OwnD.sll (by assumption)) _ (by omega) | exact Go.Gw.SLL.at (by first | assumption | exact Go.Gw.OwnD.sll (by assumption)) (by omega) | exact Go.Gw.OwnD.sll (by assumption) | (apply Go.Gw.SL.chg; case hx => assumption) | (apply Go.Gw.Own.chg; case hx => assumption) | (apply Go.Gw.Box.chg; case hx => assumption) | (apply Go.Gw.At.chg; case hx => assumption) | exact .inl (Nat.zero_le _) | exact .inr (Nat.zero_le _) | (show _ ∨ _; omega))) (hB : SL w lb hb vb qs := by repeat (first | assumption | exact Go.Gw.Own.sl (by assumption) | exact Go.Gw.Box.at (by assumption) | exact Go.Gw.SLL.el (by first | assumption | exact Go.Gw.OwnD.sll (by assumption)) _ (by omega) | exact Go.Gw.SLL.at (by first | assumption | exact Go.Gw.OwnD.sll (by assumption)) (by omega) | exact Go.Gw.OwnD.sll (by assumption) | (apply Go.Gw.SL.chg; case hx => assumption) | (apply Go.Gw.Own.chg; case hx => assumption) | (apply Go.Gw.Box.chg; case hx => assumption) | (apply Go.Gw.At.chg; case hx => assumption) | exact .inl (Nat.zero_le _) | exact .inr (Nat.zero_le _) | (show _ ∨ _; omega))) (hl : ps.length ≤ 1048576 ∧ qs.length ≤ 1048576 := by omega) : Val Try.prog 12 [.agg #[v], va, vb] w (.tuple #[.int .i64 (resCrf xs ps qs), .int .i64 (cCrf xs ps qs)]) := by
  refine ⟨fun w1 hx1 => ?_⟩
  replace h := h.ext hx1
  replace hA := hA.ext hx1
  replace hB := hB.ext hx1
  have hsa := hA.small
  have hsb := hB.small
  have E : Since 0 0 w1 w1 := Since.refl 0 0 w1
  cases hk : okK xs
  · refine ret_enter Try.func12 rfl Try.ntmps12 rfl ?_
    focus
      have ht_h := h.top
      have ht_hA := hA.top
      have ht_hB := hB.top
      refine c_seq ?_
      refine c_region ?_
      refine w_box rfl (k := fun b3 w3 hb3 hx3 hl3 hs3 => ?_)
      have hz_hx3 := hx3.size
      replace h := h.ext hx3
      replace hA := hA.ext hx3
      replace hB := hB.ext hx3
      replace E := E.trans hx3
      refine w_pure (y_assign rfl) rfl ?_
      refine w_pure (y_assign rfl) rfl ?_
      refine w_nil ?_
      refine x_next ?_
      refine c_seq ?_
      refine c_seq ?_
      refine c_region ?_
      refine w_val rfl rfl rfl (l02Ok_c) rfl (fun w15 hx15 hz15 => ?_)
      have hz_hx15 := hx15.size
      replace hb3 := hb3.ext hx15
      replace h := h.ext hx15
      replace hA := hA.ext hx15
      replace hB := hB.ext hx15
      replace E := E.trans hx15
      refine w_pure (y_not rfl) rfl ?_
      refine w_nil ?_
      refine x_next ?_
      (refine c_not rfl (fun hc16 => ?_) (fun hc16 => ?_) <;> try (first | exact absurd rfl hc16 | contradiction | exact Bool.noConfusion (show false = true from hc16.symm.trans (by assumption)) | exact Bool.noConfusion (show true = false from hc16.symm.trans (by assumption)) | (exfalso; omega) | (exfalso; simp only [*, Bool.not_true, Bool.not_false, reduceCtorEq] at hc16; done)))
      refine c_seq ?_
      refine c_region ?_
      refine w_pure (y_assign rfl) rfl ?_
      refine w_pure (y_assign rfl) rfl ?_
      refine w_nil ?_
      refine x_next ?_
      refine c_ret ?_
      refine x_then_ret ?_
      rotate_left
    exact x_retv [_, _] rfl ⟨rfl, rfl, trivial⟩ ⟨by rw [resCrf, cCrf_1 hk]; rfl, E.go⟩
  have hkl := okK_len hk
  by_cases h6 : ps.length + qs.length ≤ 6
  case neg =>
    refine ret_enter Try.func12 rfl Try.ntmps12 rfl ?_
    focus
      have ht_h := h.top
      have ht_hA := hA.top
      have ht_hB := hB.top
      refine c_seq ?_
      refine c_region ?_
      refine w_box rfl (k := fun b3 w3 hb3 hx3 hl3 hs3 => ?_)
      have hz_hx3 := hx3.size
      replace h := h.ext hx3
      replace hA := hA.ext hx3
      replace hB := hB.ext hx3
      replace E := E.trans hx3
      refine w_pure (y_assign rfl) rfl ?_
      refine w_pure (y_assign rfl) rfl ?_
      refine w_nil ?_
      refine x_next ?_
      refine c_seq ?_
      refine c_seq ?_
      refine c_region ?_
      refine w_val rfl rfl rfl (l02Ok_c) rfl (fun w15 hx15 hz15 => ?_)
      have hz_hx15 := hx15.size
      replace hb3 := hb3.ext hx15
      replace h := h.ext hx15
      replace hA := hA.ext hx15
      replace hB := hB.ext hx15
      replace E := E.trans hx15
      refine w_pure (y_not rfl) rfl ?_
      refine w_nil ?_
      refine x_next ?_
      (refine c_not rfl (fun hc16 => ?_) (fun hc16 => ?_) <;> try (first | exact absurd rfl hc16 | contradiction | exact Bool.noConfusion (show false = true from hc16.symm.trans (by assumption)) | exact Bool.noConfusion (show true = false from hc16.symm.trans (by assumption)) | (exfalso; omega) | (exfalso; simp only [*, Bool.not_true, Bool.not_false, reduceCtorEq] at hc16; done)))
      refine c_skip ?_
      refine x_next ?_
      refine c_seq ?_
      refine c_seq ?_
      refine c_region ?_
      refine w_pure (y_move rfl) rfl ?_
      refine w_pure (y_len rfl) rfl ?_
      refine w_pure (y_move rfl) rfl ?_
      refine w_pure (y_len rfl) rfl ?_
      refine w_pure (y_add rfl rfl) rfl ?_
      refine w_pure (y_gt rfl rfl) rfl ?_
      refine w_pure (y_move rfl) rfl ?_
      (refine w_part_dec rfl rfl (fun hc24 => ?_) (fun hc24 => ?_) <;> try (first | exact absurd rfl hc24 | contradiction | exact Bool.noConfusion (show false = true from hc24.symm.trans (by assumption)) | exact Bool.noConfusion (show true = false from hc24.symm.trans (by assumption)) | (exfalso; omega) | (exfalso; simp only [*, Bool.not_true, Bool.not_false, reduceCtorEq] at hc24; done)))
      refine w_no rfl rfl rfl rfl ?_
      refine w_no rfl rfl rfl rfl ?_
      refine w_no rfl rfl rfl rfl ?_
      refine w_no rfl rfl rfl rfl ?_
      refine w_no rfl rfl rfl rfl ?_
      refine w_no rfl rfl rfl rfl ?_
      refine w_pure (y_pick_t rfl rfl) rfl ?_
      refine w_pure (y_move rfl) rfl ?_
      refine w_no rfl rfl rfl rfl ?_
      refine w_no rfl rfl rfl rfl ?_
      refine w_no rfl rfl rfl rfl ?_
      refine w_no rfl rfl rfl rfl ?_
      refine w_no rfl rfl rfl rfl ?_
      refine w_no rfl rfl rfl rfl ?_
      refine w_pure (y_pick_t rfl rfl) rfl ?_
      refine w_nil ?_
      refine x_next ?_
      refine c_true rfl ?_
      refine c_seq ?_
      refine c_region ?_
      refine w_pure (y_assign rfl) rfl ?_
      refine w_pure (y_assign rfl) rfl ?_
      refine w_nil ?_
      refine x_next ?_
      refine c_ret ?_
      refine x_then_ret ?_
      rotate_left
    all_goals exact x_retv [_, _] rfl ⟨rfl, rfl, trivial⟩ ⟨by rw [resCrf, cCrf_2 hk (.inl h6)]; rfl, E.go⟩
  have hfa := fsB_append ps qs xs.length
  cases hf1 : fsB ps xs.length
  · refine ret_enter Try.func12 rfl Try.ntmps12 rfl ?_
    focus
      have ht_h := h.top
      have ht_hA := hA.top
      have ht_hB := hB.top
      refine c_seq ?_
      refine c_region ?_
      refine w_box rfl (k := fun b3 w3 hb3 hx3 hl3 hs3 => ?_)
      have hz_hx3 := hx3.size
      replace h := h.ext hx3
      replace hA := hA.ext hx3
      replace hB := hB.ext hx3
      replace E := E.trans hx3
      refine w_pure (y_assign rfl) rfl ?_
      refine w_pure (y_assign rfl) rfl ?_
      refine w_nil ?_
      refine x_next ?_
      refine c_seq ?_
      refine c_seq ?_
      refine c_region ?_
      refine w_val rfl rfl rfl (l02Ok_c) rfl (fun w15 hx15 hz15 => ?_)
      have hz_hx15 := hx15.size
      replace hb3 := hb3.ext hx15
      replace h := h.ext hx15
      replace hA := hA.ext hx15
      replace hB := hB.ext hx15
      replace E := E.trans hx15
      refine w_pure (y_not rfl) rfl ?_
      refine w_nil ?_
      refine x_next ?_
      (refine c_not rfl (fun hc16 => ?_) (fun hc16 => ?_) <;> try (first | exact absurd rfl hc16 | contradiction | exact Bool.noConfusion (show false = true from hc16.symm.trans (by assumption)) | exact Bool.noConfusion (show true = false from hc16.symm.trans (by assumption)) | (exfalso; omega) | (exfalso; simp only [*, Bool.not_true, Bool.not_false, reduceCtorEq] at hc16; done)))
      refine c_skip ?_
      refine x_next ?_
      refine c_seq ?_
      refine c_seq ?_
      refine c_region ?_
      refine w_pure (y_move rfl) rfl ?_
      refine w_pure (y_len rfl) rfl ?_
      refine w_pure (y_move rfl) rfl ?_
      refine w_pure (y_len rfl) rfl ?_
      refine w_pure (y_add rfl rfl) rfl ?_
      refine w_pure (y_gt rfl rfl) rfl ?_
      refine w_pure (y_move rfl) rfl ?_
      (refine w_part_dec rfl rfl (fun hc24 => ?_) (fun hc24 => ?_) <;> try (first | exact absurd rfl hc24 | contradiction | exact Bool.noConfusion (show false = true from hc24.symm.trans (by assumption)) | exact Bool.noConfusion (show true = false from hc24.symm.trans (by assumption)) | (exfalso; omega) | (exfalso; simp only [*, Bool.not_true, Bool.not_false, reduceCtorEq] at hc24; done)))
      refine w_yes rfl rfl ?_
      refine w_pure (y_move rfl) rfl ?_
      refine w_yes rfl rfl ?_
      refine w_pure (y_field rfl) rfl ?_
      refine w_yes rfl rfl ?_
      refine w_pure (y_load_box rfl) rfl ?_
      refine w_yes rfl rfl ?_
      refine w_pure (y_len rfl) rfl ?_
      refine w_yes rfl rfl ?_
      refine w_val rfl rfl rfl (l14Fields_c _) rfl (fun w28 hx28 hz28 => ?_)
      have hz_hx28 := hx28.size
      replace hb3 := hb3.ext hx28
      replace h := h.ext hx28
      replace hA := hA.ext hx28
      replace hB := hB.ext hx28
      replace E := E.trans hx28
      refine w_yes rfl rfl ?_
      refine w_pure (y_not rfl) rfl ?_
      refine w_pure (y_pick_f rfl rfl) rfl ?_
      refine w_pure (y_move rfl) rfl ?_
      (refine w_part rfl rfl (fun hc32 => ?_) (fun hc32 => ?_) <;> try (first | exact absurd rfl hc32 | contradiction | exact Bool.noConfusion (show false = true from hc32.symm.trans (by assumption)) | exact Bool.noConfusion (show true = false from hc32.symm.trans (by assumption)) | (exfalso; omega) | (exfalso; simp only [*, Bool.not_true, Bool.not_false, reduceCtorEq] at hc32; done)))
      refine w_no rfl rfl rfl rfl ?_
      refine w_no rfl rfl rfl rfl ?_
      refine w_no rfl rfl rfl rfl ?_
      refine w_no rfl rfl rfl rfl ?_
      refine w_no rfl rfl rfl rfl ?_
      refine w_no rfl rfl rfl rfl ?_
      refine w_pure (y_pick_t rfl rfl) rfl ?_
      refine w_nil ?_
      refine x_next ?_
      refine c_true rfl ?_
      refine c_seq ?_
      refine c_region ?_
      refine w_pure (y_assign rfl) rfl ?_
      refine w_pure (y_assign rfl) rfl ?_
      refine w_nil ?_
      refine x_next ?_
      refine c_ret ?_
      refine x_then_ret ?_
      rotate_left
    all_goals exact x_retv [_, _] rfl ⟨rfl, rfl, trivial⟩ ⟨by rw [resCrf, cCrf_2 hk (.inr (by rw [hfa, hf1]; rfl))]; rfl, E.go⟩
  cases hf2 : fsB qs xs.length
  · refine ret_enter Try.func12 rfl Try.ntmps12 rfl ?_
    focus
      have ht_h := h.top
      have ht_hA := hA.top
      have ht_hB := hB.top
      refine c_seq ?_
      refine c_region ?_
      refine w_box rfl (k := fun b3 w3 hb3 hx3 hl3 hs3 => ?_)
      have hz_hx3 := hx3.size
      replace h := h.ext hx3
      replace hA := hA.ext hx3
      replace hB := hB.ext hx3
      replace E := E.trans hx3
      refine w_pure (y_assign rfl) rfl ?_
      refine w_pure (y_assign rfl) rfl ?_
      refine w_nil ?_
      refine x_next ?_
      refine c_seq ?_
      refine c_seq ?_
      refine c_region ?_
      refine w_val rfl rfl rfl (l02Ok_c) rfl (fun w15 hx15 hz15 => ?_)
      have hz_hx15 := hx15.size
      replace hb3 := hb3.ext hx15
      replace h := h.ext hx15
      replace hA := hA.ext hx15
      replace hB := hB.ext hx15
      replace E := E.trans hx15
      refine w_pure (y_not rfl) rfl ?_
      refine w_nil ?_
      refine x_next ?_
      (refine c_not rfl (fun hc16 => ?_) (fun hc16 => ?_) <;> try (first | exact absurd rfl hc16 | contradiction | exact Bool.noConfusion (show false = true from hc16.symm.trans (by assumption)) | exact Bool.noConfusion (show true = false from hc16.symm.trans (by assumption)) | (exfalso; omega) | (exfalso; simp only [*, Bool.not_true, Bool.not_false, reduceCtorEq] at hc16; done)))
      refine c_skip ?_
      refine x_next ?_
      refine c_seq ?_
      refine c_seq ?_
      refine c_region ?_
      refine w_pure (y_move rfl) rfl ?_
      refine w_pure (y_len rfl) rfl ?_
      refine w_pure (y_move rfl) rfl ?_
      refine w_pure (y_len rfl) rfl ?_
      refine w_pure (y_add rfl rfl) rfl ?_
      refine w_pure (y_gt rfl rfl) rfl ?_
      refine w_pure (y_move rfl) rfl ?_
      (refine w_part_dec rfl rfl (fun hc24 => ?_) (fun hc24 => ?_) <;> try (first | exact absurd rfl hc24 | contradiction | exact Bool.noConfusion (show false = true from hc24.symm.trans (by assumption)) | exact Bool.noConfusion (show true = false from hc24.symm.trans (by assumption)) | (exfalso; omega) | (exfalso; simp only [*, Bool.not_true, Bool.not_false, reduceCtorEq] at hc24; done)))
      refine w_yes rfl rfl ?_
      refine w_pure (y_move rfl) rfl ?_
      refine w_yes rfl rfl ?_
      refine w_pure (y_field rfl) rfl ?_
      refine w_yes rfl rfl ?_
      refine w_pure (y_load_box rfl) rfl ?_
      refine w_yes rfl rfl ?_
      refine w_pure (y_len rfl) rfl ?_
      refine w_yes rfl rfl ?_
      refine w_val rfl rfl rfl (l14Fields_c _) rfl (fun w28 hx28 hz28 => ?_)
      have hz_hx28 := hx28.size
      replace hb3 := hb3.ext hx28
      replace h := h.ext hx28
      replace hA := hA.ext hx28
      replace hB := hB.ext hx28
      replace E := E.trans hx28
      refine w_yes rfl rfl ?_
      refine w_pure (y_not rfl) rfl ?_
      refine w_pure (y_pick_f rfl rfl) rfl ?_
      refine w_pure (y_move rfl) rfl ?_
      (refine w_part rfl rfl (fun hc32 => ?_) (fun hc32 => ?_) <;> try (first | exact absurd rfl hc32 | contradiction | exact Bool.noConfusion (show false = true from hc32.symm.trans (by assumption)) | exact Bool.noConfusion (show true = false from hc32.symm.trans (by assumption)) | (exfalso; omega) | (exfalso; simp only [*, Bool.not_true, Bool.not_false, reduceCtorEq] at hc32; done)))
      refine w_yes rfl rfl ?_
      refine w_pure (y_move rfl) rfl ?_
      refine w_yes rfl rfl ?_
      refine w_pure (y_field rfl) rfl ?_
      refine w_yes rfl rfl ?_
      refine w_pure (y_load_box rfl) rfl ?_
      refine w_yes rfl rfl ?_
      refine w_pure (y_len rfl) rfl ?_
      refine w_yes rfl rfl ?_
      refine w_val rfl rfl rfl (l14Fields_c _) rfl (fun w36 hx36 hz36 => ?_)
      have hz_hx36 := hx36.size
      replace hb3 := hb3.ext hx36
      replace h := h.ext hx36
      replace hA := hA.ext hx36
      replace hB := hB.ext hx36
      replace E := E.trans hx36
      refine w_yes rfl rfl ?_
      refine w_pure (y_not rfl) rfl ?_
      refine w_pure (y_pick_f rfl rfl) rfl ?_
      refine w_nil ?_
      refine x_next ?_
      (refine c_not rfl (fun hc38 => ?_) (fun hc38 => ?_) <;> try (first | exact absurd rfl hc38 | contradiction | exact Bool.noConfusion (show false = true from hc38.symm.trans (by assumption)) | exact Bool.noConfusion (show true = false from hc38.symm.trans (by assumption)) | (exfalso; omega) | (exfalso; simp only [*, Bool.not_true, Bool.not_false, reduceCtorEq] at hc38; done)))
      refine c_seq ?_
      refine c_region ?_
      refine w_pure (y_assign rfl) rfl ?_
      refine w_pure (y_assign rfl) rfl ?_
      refine w_nil ?_
      refine x_next ?_
      refine c_ret ?_
      refine x_then_ret ?_
      rotate_left
    all_goals exact x_retv [_, _] rfl ⟨rfl, rfl, trivial⟩ ⟨by rw [resCrf, cCrf_2 hk (.inr (by rw [hfa, hf1, hf2]; rfl))]; rfl, E.go⟩
  have hf : fsB (ps ++ qs) xs.length = true := by rw [hfa, hf1, hf2]; rfl
  refine ret_enter Try.func12 rfl Try.ntmps12 rfl ?_
  focus
    have ht_h := h.top
    have ht_hA := hA.top
    have ht_hB := hB.top
    refine c_seq ?_
    refine c_region ?_
    refine w_box rfl (k := fun b3 w3 hb3 hx3 hl3 hs3 => ?_)
    have hz_hx3 := hx3.size
    replace h := h.ext hx3
    replace hA := hA.ext hx3
    replace hB := hB.ext hx3
    replace E := E.trans hx3
    refine w_pure (y_assign rfl) rfl ?_
    refine w_pure (y_assign rfl) rfl ?_
    refine w_nil ?_
    refine x_next ?_
    refine c_seq ?_
    refine c_seq ?_
    refine c_region ?_
    refine w_val rfl rfl rfl (l02Ok_c) rfl (fun w15 hx15 hz15 => ?_)
    have hz_hx15 := hx15.size
    replace hb3 := hb3.ext hx15
    replace h := h.ext hx15
    replace hA := hA.ext hx15
    replace hB := hB.ext hx15
    replace E := E.trans hx15
    refine w_pure (y_not rfl) rfl ?_
    refine w_nil ?_
    refine x_next ?_
    (refine c_not rfl (fun hc16 => ?_) (fun hc16 => ?_) <;> try (first | exact absurd rfl hc16 | contradiction | exact Bool.noConfusion (show false = true from hc16.symm.trans (by assumption)) | exact Bool.noConfusion (show true = false from hc16.symm.trans (by assumption)) | (exfalso; omega) | (exfalso; simp only [*, Bool.not_true, Bool.not_false, reduceCtorEq] at hc16; done)))
    refine c_skip ?_
    refine x_next ?_
    refine c_seq ?_
    refine c_seq ?_
    refine c_region ?_
    refine w_pure (y_move rfl) rfl ?_
    refine w_pure (y_len rfl) rfl ?_
    refine w_pure (y_move rfl) rfl ?_
    refine w_pure (y_len rfl) rfl ?_
    refine w_pure (y_add rfl rfl) rfl ?_
    refine w_pure (y_gt rfl rfl) rfl ?_
    refine w_pure (y_move rfl) rfl ?_
    (refine w_part_dec rfl rfl (fun hc24 => ?_) (fun hc24 => ?_) <;> try (first | exact absurd rfl hc24 | contradiction | exact Bool.noConfusion (show false = true from hc24.symm.trans (by assumption)) | exact Bool.noConfusion (show true = false from hc24.symm.trans (by assumption)) | (exfalso; omega) | (exfalso; simp only [*, Bool.not_true, Bool.not_false, reduceCtorEq] at hc24; done)))
    refine w_yes rfl rfl ?_
    refine w_pure (y_move rfl) rfl ?_
    refine w_yes rfl rfl ?_
    refine w_pure (y_field rfl) rfl ?_
    refine w_yes rfl rfl ?_
    refine w_pure (y_load_box rfl) rfl ?_
    refine w_yes rfl rfl ?_
    refine w_pure (y_len rfl) rfl ?_
    refine w_yes rfl rfl ?_
    refine w_val rfl rfl rfl (l14Fields_c _) rfl (fun w28 hx28 hz28 => ?_)
    have hz_hx28 := hx28.size
    replace hb3 := hb3.ext hx28
    replace h := h.ext hx28
    replace hA := hA.ext hx28
    replace hB := hB.ext hx28
    replace E := E.trans hx28
    refine w_yes rfl rfl ?_
    refine w_pure (y_not rfl) rfl ?_
    refine w_pure (y_pick_f rfl rfl) rfl ?_
    refine w_pure (y_move rfl) rfl ?_
    (refine w_part rfl rfl (fun hc32 => ?_) (fun hc32 => ?_) <;> try (first | exact absurd rfl hc32 | contradiction | exact Bool.noConfusion (show false = true from hc32.symm.trans (by assumption)) | exact Bool.noConfusion (show true = false from hc32.symm.trans (by assumption)) | (exfalso; omega) | (exfalso; simp only [*, Bool.not_true, Bool.not_false, reduceCtorEq] at hc32; done)))
    refine w_yes rfl rfl ?_
    refine w_pure (y_move rfl) rfl ?_
    refine w_yes rfl rfl ?_
    refine w_pure (y_field rfl) rfl ?_
    refine w_yes rfl rfl ?_
    refine w_pure (y_load_box rfl) rfl ?_
    refine w_yes rfl rfl ?_
    refine w_pure (y_len rfl) rfl ?_
    refine w_yes rfl rfl ?_
    refine w_val rfl rfl rfl (l14Fields_c _) rfl (fun w36 hx36 hz36 => ?_)
    have hz_hx36 := hx36.size
    replace hb3 := hb3.ext hx36
    replace h := h.ext hx36
    replace hA := hA.ext hx36
    replace hB := hB.ext hx36
    replace E := E.trans hx36
    refine w_yes rfl rfl ?_
    refine w_pure (y_not rfl) rfl ?_
    refine w_pure (y_pick_f rfl rfl) rfl ?_
    refine w_nil ?_
    refine x_next ?_
    (refine c_not rfl (fun hc38 => ?_) (fun hc38 => ?_) <;> try (first | exact absurd rfl hc38 | contradiction | exact Bool.noConfusion (show false = true from hc38.symm.trans (by assumption)) | exact Bool.noConfusion (show true = false from hc38.symm.trans (by assumption)) | (exfalso; omega) | (exfalso; simp only [*, Bool.not_true, Bool.not_false, reduceCtorEq] at hc38; done)))
    refine c_skip ?_
    refine x_next ?_
    refine c_seq ?_
    refine c_region ?_
    refine w_pure (y_assign rfl) rfl ?_
    refine w_nil ?_
    refine x_next ?_
    refine c_seq ?_
    refine c_seq ?_
    refine c_region ?_
    refine w_pure (y_assign rfl) rfl ?_
    refine w_nil ?_
    refine x_next ?_
    refine c_block ?_
    rotate_left
  have hal : (ps ++ qs).length = ps.length + qs.length := List.length_append
  refine c_loopC 0 0 (ι := Int × Int) (fun x => [(1, va), (2, vb), (3, ptr b3 0), (8, .int .i64 x.2), (9, .int .i64 x.1)])
    (fun x w' => SL w' lo hi v xs ∧ SL w' la ha va ps ∧ SL w' lb hb vb qs ∧ Box w' b3 [v] ∧ 0 ≤ x.1 ∧ x.1 ≤ ps.length ∧ x.2 = sX xs (ps ++ qs) ps.length x.1.toNat ∧ (∀ i, i < x.1.toNat → (nmC xs (ps ++ qs) i).2 = true)) (fun x => (ps.length - x.1).toNat) (0, 0)
    (by repeat (first | exact trivial | refine ⟨rfl, ?_⟩)) ⟨by assumption, by assumption, by assumption, by assumption, by dsimp only; omega, by dsimp only; omega, rfl, fun i hi => by simp at hi⟩ ?_
  clear h hA hB hb3
  rintro ⟨i, s⟩ wL hxL EL ⟨h, hA, hB, hb3, hi0, hi1, hs, hall⟩
  dsimp only at *
  have e1 : (i + 1).toNat = i.toNat + 1 := by omega
  have hbd := sX_bd hk hf ps.length i.toNat (by omega)
  by_cases hli : i < ps.length
  · have hg : (ps ++ qs).getD i.toNat (0, 0) = ps.getD i.toNat (0, 0) := getD_left (by omega)
    have hfd := fsB_at hf (i := i.toNat) (by omega)
    have hnm : -999999999999 ≤ (numL (prt xs ((ps ++ qs).getD i.toNat (0, 0)).1 ((ps ++ qs).getD i.toNat (0, 0)).2)).1 ∧ (numL (prt xs ((ps ++ qs).getD i.toNat (0, 0)).1 ((ps ++ qs).getD i.toNat (0, 0)).2)).1 ≤ 999999999999 := nmC_bd hk hf (i := i.toNat) (by omega)
    have hrg := prt_ok hfd.1 hk
    have hpl := prt_len hfd.1
    rw [hg] at hfd hnm hrg hpl
    have hn : nmC xs (ps ++ qs) i.toNat = numL (prt xs (ps.getD i.toNat (0, 0)).1 (ps.getD i.toNat (0, 0)).2) := by unfold nmC; rw [hg]
    focus
      have hz_hxL := hxL.size
      replace E := E.trans hxL
      refine c_seq ?_
      refine c_seq ?_
      refine c_region ?_
      refine w_pure (y_move rfl) rfl ?_
      refine w_pure (y_move rfl) rfl ?_
      refine w_pure (y_len rfl) rfl ?_
      refine w_pure (y_lt rfl rfl) rfl ?_
      refine w_nil ?_
      refine x_next ?_
      (refine c_dec rfl (fun hc42 => ?_) (fun hc42 => ?_) <;> try (first | exact absurd rfl hc42 | contradiction | exact Bool.noConfusion (show false = true from hc42.symm.trans (by assumption)) | exact Bool.noConfusion (show true = false from hc42.symm.trans (by assumption)) | (exfalso; omega) | (exfalso; simp only [*, Bool.not_true, Bool.not_false, reduceCtorEq] at hc42; done)))
      refine c_skip ?_
      refine x_next ?_
      refine c_seq ?_
      refine c_block ?_
      refine c_seq ?_
      refine c_region ?_
      refine w_pure (y_move rfl) rfl ?_
      refine w_pure (y_move rfl) rfl ?_
      refine w_pure (y_index rfl rfl) rfl ?_
      refine w_pure (y_load_pair rfl) rfl ?_
      (refine w_call rfl rfl rfl (l02Part_c _ _) rfl ?_; rintro v50 w50 ⟨hp1_50, hx50⟩)
      have hz_hx50 := hx50.size
      replace EL := EL.trans hx50
      replace h := h.ext hx50
      replace hA := hA.ext hx50
      replace hB := hB.ext hx50
      replace hb3 := hb3.ext hx50
      replace E := E.trans hx50
      refine w_val rfl rfl rfl (l03Number_c) rfl (fun w51 hx51 hz51 => ?_)
      have hz_hx51 := hx51.size
      replace hp1_50 := hp1_50.ext hx51
      replace EL := EL.trans hx51
      replace h := h.ext hx51
      replace hA := hA.ext hx51
      replace hB := hB.ext hx51
      replace hb3 := hb3.ext hx51
      replace E := E.trans hx51
      refine w_pure (y_move rfl) rfl ?_
      refine w_pure (y_extract rfl rfl) rfl ?_
      refine w_pure (y_extract rfl rfl) rfl ?_
      refine w_pure (y_assign rfl) rfl ?_
      refine w_pure (y_assign rfl) rfl ?_
      refine w_nil ?_
      refine x_next ?_
      refine c_seq ?_
      refine c_seq ?_
      refine c_region ?_
      refine w_pure (y_move rfl) rfl ?_
      refine w_pure (y_not rfl) rfl ?_
      refine w_nil ?_
      refine x_next ?_
      (refine c_not rfl (fun hc55 => ?_) (fun hc55 => ?_) <;> try (first | exact absurd rfl hc55 | contradiction | exact Bool.noConfusion (show false = true from hc55.symm.trans (by assumption)) | exact Bool.noConfusion (show true = false from hc55.symm.trans (by assumption)) | (exfalso; omega) | (exfalso; simp only [*, Bool.not_true, Bool.not_false, reduceCtorEq] at hc55; done)))
      refine c_seq ?_
      refine c_region ?_
      refine w_pure (y_assign rfl) rfl ?_
      refine w_pure (y_assign rfl) rfl ?_
      refine w_nil ?_
      refine x_next ?_
      refine c_ret ?_
      refine x_then_ret ?_
      refine x_block_ret ?_
      refine x_then_ret ?_
      refine x_then_ret ?_
      refine x_block_ret ?_
      refine x_then_ret ?_
      rotate_left
      refine c_skip ?_
      refine x_next ?_
      refine c_region ?_
      refine w_pure (y_move rfl) rfl ?_
      refine w_pure (y_move rfl) rfl ?_
      refine w_pure (y_add rfl rfl) rfl ?_
      refine w_pure (y_assign rfl) rfl ?_
      refine w_nil ?_
      refine x_block_norm ?_
      refine x_next ?_
      refine c_region ?_
      refine w_pure (y_move rfl) rfl ?_
      refine w_pure (y_add rfl rfl) rfl ?_
      refine w_pure (y_assign rfl) rfl ?_
      refine w_nil ?_
      rotate_left
    · exact x_retv [_, _] rfl ⟨rfl, rfl, trivial⟩ ⟨by rw [resCrf, cCrf_8 hk h6 hf (okX_no (i := i.toNat) (by omega) (by rw [hn]; exact hc55))]; rfl, E.go⟩
    · refine x_again (i + 1, _) (by repeat (first | exact trivial | refine ⟨rfl, ?_⟩)) ⟨EL.go, by assumption, by assumption, by assumption, by assumption, by dsimp only; omega, by dsimp only; omega, by dsimp only; rw [e1, sX, if_pos (by omega), ← hs, hn], fun j hj => ?_⟩ (by dsimp only; omega)
      dsimp only at hj
      by_cases ej : j = i.toNat
      · subst ej; rw [hn]; exact hc55
      · exact hall j (by omega)
  focus
    have hz_hxL := hxL.size
    replace E := E.trans hxL
    refine c_seq ?_
    refine c_seq ?_
    refine c_region ?_
    refine w_pure (y_move rfl) rfl ?_
    refine w_pure (y_move rfl) rfl ?_
    refine w_pure (y_len rfl) rfl ?_
    refine w_pure (y_lt rfl rfl) rfl ?_
    refine w_nil ?_
    refine x_next ?_
    (refine c_dec rfl (fun hc42 => ?_) (fun hc42 => ?_) <;> try (first | exact absurd rfl hc42 | contradiction | exact Bool.noConfusion (show false = true from hc42.symm.trans (by assumption)) | exact Bool.noConfusion (show true = false from hc42.symm.trans (by assumption)) | (exfalso; omega) | (exfalso; simp only [*, Bool.not_true, Bool.not_false, reduceCtorEq] at hc42; done)))
    refine c_exit ?_
    refine x_then_exit ?_
    refine x_then_exit ?_
    refine x_block_hit ?_
    refine x_next ?_
    refine c_seq ?_
    refine c_seq ?_
    refine c_region ?_
    refine w_pure (y_assign rfl) rfl ?_
    refine w_nil ?_
    refine x_next ?_
    refine c_block ?_
    rotate_left
  refine c_loopC 0 0 (ι := Int × Int) (fun x => [(2, vb), (3, ptr b3 0), (8, .int .i64 x.2), (12, .int .i64 x.1)])
    (fun x w' => SL w' lo hi v xs ∧ SL w' lb hb vb qs ∧ Box w' b3 [v] ∧ 0 ≤ x.1 ∧ x.1 ≤ qs.length ∧ x.2 = sX xs (ps ++ qs) ps.length (ps.length + x.1.toNat) ∧ (∀ i, i < ps.length + x.1.toNat → (nmC xs (ps ++ qs) i).2 = true)) (fun x => (qs.length - x.1).toNat) (0, s)
    (by repeat (first | exact trivial | refine ⟨rfl, ?_⟩)) ⟨by assumption, by assumption, by assumption, by dsimp only; omega, by dsimp only; omega, by dsimp only; rw [hs, show i.toNat = ps.length by omega]; rfl, fun j hj => hall j (by dsimp only at hj; omega)⟩ ?_
  clear h hA hB hb3 hs hbd
  rintro ⟨j, s2⟩ wM hxM EM ⟨h, hB, hb3, hj0, hj1, hs, hall2⟩
  dsimp only at *
  have e2 : ps.length + (j + 1).toNat = ps.length + j.toNat + 1 := by omega
  have hbd := sX_bd hk hf ps.length (ps.length + j.toNat) (by omega)
  by_cases hlj : j < qs.length
  · have hg : (ps ++ qs).getD (ps.length + j.toNat) (0, 0) = qs.getD j.toNat (0, 0) := getD_right
    have hfd := fsB_at hf (i := ps.length + j.toNat) (by omega)
    have hnm : -999999999999 ≤ (numL (prt xs ((ps ++ qs).getD (ps.length + j.toNat) (0, 0)).1 ((ps ++ qs).getD (ps.length + j.toNat) (0, 0)).2)).1 ∧ (numL (prt xs ((ps ++ qs).getD (ps.length + j.toNat) (0, 0)).1 ((ps ++ qs).getD (ps.length + j.toNat) (0, 0)).2)).1 ≤ 999999999999 := nmC_bd hk hf (i := ps.length + j.toNat) (by omega)
    have hrg := prt_ok hfd.1 hk
    have hpl := prt_len hfd.1
    rw [hg] at hfd hnm hrg hpl
    have hn : nmC xs (ps ++ qs) (ps.length + j.toNat) = numL (prt xs (qs.getD j.toNat (0, 0)).1 (qs.getD j.toNat (0, 0)).2) := by unfold nmC; rw [hg]
    focus
      have hz_hxM := hxM.size
      replace EL := EL.trans hxM
      replace E := E.trans hxM
      refine c_seq ?_
      refine c_seq ?_
      refine c_region ?_
      refine w_pure (y_move rfl) rfl ?_
      refine w_pure (y_move rfl) rfl ?_
      refine w_pure (y_len rfl) rfl ?_
      refine w_pure (y_lt rfl rfl) rfl ?_
      refine w_nil ?_
      refine x_next ?_
      (refine c_dec rfl (fun hc62 => ?_) (fun hc62 => ?_) <;> try (first | exact absurd rfl hc62 | contradiction | exact Bool.noConfusion (show false = true from hc62.symm.trans (by assumption)) | exact Bool.noConfusion (show true = false from hc62.symm.trans (by assumption)) | (exfalso; omega) | (exfalso; simp only [*, Bool.not_true, Bool.not_false, reduceCtorEq] at hc62; done)))
      refine c_skip ?_
      refine x_next ?_
      refine c_seq ?_
      refine c_block ?_
      refine c_seq ?_
      refine c_region ?_
      refine w_pure (y_move rfl) rfl ?_
      refine w_pure (y_move rfl) rfl ?_
      refine w_pure (y_index rfl rfl) rfl ?_
      refine w_pure (y_load_pair rfl) rfl ?_
      (refine w_call rfl rfl rfl (l02Part_c _ _) rfl ?_; rintro v70 w70 ⟨hp1_70, hx70⟩)
      have hz_hx70 := hx70.size
      replace EM := EM.trans hx70
      replace h := h.ext hx70
      replace hB := hB.ext hx70
      replace hb3 := hb3.ext hx70
      replace EL := EL.trans hx70
      replace E := E.trans hx70
      refine w_val rfl rfl rfl (l03Number_c) rfl (fun w71 hx71 hz71 => ?_)
      have hz_hx71 := hx71.size
      replace hp1_70 := hp1_70.ext hx71
      replace EM := EM.trans hx71
      replace h := h.ext hx71
      replace hB := hB.ext hx71
      replace hb3 := hb3.ext hx71
      replace EL := EL.trans hx71
      replace E := E.trans hx71
      refine w_pure (y_move rfl) rfl ?_
      refine w_pure (y_extract rfl rfl) rfl ?_
      refine w_pure (y_extract rfl rfl) rfl ?_
      refine w_pure (y_assign rfl) rfl ?_
      refine w_pure (y_assign rfl) rfl ?_
      refine w_nil ?_
      refine x_next ?_
      refine c_seq ?_
      refine c_seq ?_
      refine c_region ?_
      refine w_pure (y_move rfl) rfl ?_
      refine w_pure (y_not rfl) rfl ?_
      refine w_nil ?_
      refine x_next ?_
      (refine c_not rfl (fun hc75 => ?_) (fun hc75 => ?_) <;> try (first | exact absurd rfl hc75 | contradiction | exact Bool.noConfusion (show false = true from hc75.symm.trans (by assumption)) | exact Bool.noConfusion (show true = false from hc75.symm.trans (by assumption)) | (exfalso; omega) | (exfalso; simp only [*, Bool.not_true, Bool.not_false, reduceCtorEq] at hc75; done)))
      refine c_seq ?_
      refine c_region ?_
      refine w_pure (y_assign rfl) rfl ?_
      refine w_pure (y_assign rfl) rfl ?_
      refine w_nil ?_
      refine x_next ?_
      refine c_ret ?_
      refine x_then_ret ?_
      refine x_block_ret ?_
      refine x_then_ret ?_
      refine x_then_ret ?_
      refine x_block_ret ?_
      refine x_then_ret ?_
      rotate_left
      refine c_skip ?_
      refine x_next ?_
      refine c_region ?_
      refine w_pure (y_move rfl) rfl ?_
      refine w_pure (y_move rfl) rfl ?_
      refine w_pure (y_sub rfl rfl) rfl ?_
      refine w_pure (y_assign rfl) rfl ?_
      refine w_nil ?_
      refine x_block_norm ?_
      refine x_next ?_
      refine c_region ?_
      refine w_pure (y_move rfl) rfl ?_
      refine w_pure (y_add rfl rfl) rfl ?_
      refine w_pure (y_assign rfl) rfl ?_
      refine w_nil ?_
      rotate_left
    · exact x_retv [_, _] rfl ⟨rfl, rfl, trivial⟩ ⟨by rw [resCrf, cCrf_8 hk h6 hf (okX_no (i := ps.length + j.toNat) (by omega) (by rw [hn]; exact hc75))]; rfl, E.go⟩
    · refine x_again (j + 1, _) (by repeat (first | exact trivial | refine ⟨rfl, ?_⟩)) ⟨EM.go, by assumption, by assumption, by assumption, by dsimp only; omega, by dsimp only; omega, by dsimp only; rw [e2, sX, if_neg (by omega), ← hs, hn]; rfl, fun k hk' => ?_⟩ (by dsimp only; omega)
      dsimp only at hk'
      by_cases ek : k = ps.length + j.toNat
      · subst ek; rw [hn]; exact hc75
      · exact hall2 k (by omega)
  have hY := okX_yes (xs := xs) (fs := ps ++ qs) (fun i hi => hall2 i (by omega))
  focus
    have hz_hxM := hxM.size
    replace EL := EL.trans hxM
    replace E := E.trans hxM
    refine c_seq ?_
    refine c_seq ?_
    refine c_region ?_
    refine w_pure (y_move rfl) rfl ?_
    refine w_pure (y_move rfl) rfl ?_
    refine w_pure (y_len rfl) rfl ?_
    refine w_pure (y_lt rfl rfl) rfl ?_
    refine w_nil ?_
    refine x_next ?_
    (refine c_dec rfl (fun hc62 => ?_) (fun hc62 => ?_) <;> try (first | exact absurd rfl hc62 | contradiction | exact Bool.noConfusion (show false = true from hc62.symm.trans (by assumption)) | exact Bool.noConfusion (show true = false from hc62.symm.trans (by assumption)) | (exfalso; omega) | (exfalso; simp only [*, Bool.not_true, Bool.not_false, reduceCtorEq] at hc62; done)))
    refine c_exit ?_
    refine x_then_exit ?_
    refine x_then_exit ?_
    refine x_block_hit ?_
    refine x_next ?_
    refine c_seq ?_
    refine c_region ?_
    refine w_pure (y_move rfl) rfl ?_
    refine w_pure (y_assign rfl) rfl ?_
    refine w_pure (y_assign rfl) rfl ?_
    refine w_nil ?_
    refine x_next ?_
    refine c_ret ?_
    rotate_left
  exact x_retv [_, _] rfl ⟨rfl, rfl, trivial⟩ ⟨by rw [resCrf, cCrf_0 hk h6 hf hY, if_pos rfl, hs, show j.toNat = qs.length by omega]; rfl, E.go⟩
end
end Go.Proofs.Ytjnnfmlgjdlihaa

/- Contracts: numbers and copies read, the program's and the reference's. -/
import Derived.Test.YticnemjjjceiaaaDoorRdcC
import Derived.Test.YticnemjjjceiaaaDoorCptA
namespace Go.Proofs.YticnemjjjceiaaaDoor
open Go Go.Gw
set_option linter.unusedVariables false
set_option linter.unusedSimpArgs false
theorem trim_body (s : List UInt8) : Lib.trimPrefix s [45] = bodyU s := by
  cases s with
  | nil => rfl
  | cons c r =>
    by_cases h : c = 45
    · subst h; rw [body_neg]; simp [Lib.trimPrefix, Lib.hasPrefix]
    · rw [body_pos (by simpa using h)]
      have h' : ¬ (45 : UInt8) = c := fun e => h e.symm
      simp [Lib.trimPrefix, Lib.hasPrefix, h']
theorem rd_ne {s : List UInt8} {x : Int} (h : Lib.parseIntB 64 s = .ok x) (hne : Lib.itoa x ≠ s) : rdN s = (0, false) := rdN_no fun m hm e2 => by
  have h1 := parse_itoa hm
  rw [← e2, h] at h1
  injection h1 with h1
  exact hne (by rw [h1]; exact e2.symm)
theorem nb1 {a b : Bool} (h : (!a) = true) : ¬ (a = true ∧ b = true) := by rintro ⟨h1, _⟩; rw [h1] at h; cases h
theorem nb2 {a b : Bool} (h : b = false) : ¬ (a = true ∧ b = true) := by rintro ⟨_, h1⟩; rw [h] at h1; cases h1
theorem nb3 {a : Bool} (h : (!a) = false) : a = true := by cases a <;> first | rfl | cases h
/-- the first words' numbers -/
noncomputable def rdW (ws : List (List UInt8)) : Nat → Option (List (Int × Int))
  | 0 => some []
  | i + 1 => match rdW ws i, wrd (ws.getD i []) with
    | some l, some p => some (l ++ [p])
    | _, _ => none
theorem rdW_step {ws : List (List UInt8)} {i : Nat} {l : List (Int × Int)} {p : Int × Int} (h : rdW ws i = some l) (hp : wrd (ws.getD i []) = some p) : rdW ws (i + 1) = some (l ++ [p]) := by
  rw [rdW, h, hp]
theorem rdW_stop {ws : List (List UInt8)} {i : Nat} (hp : wrd (ws.getD i []) = none) : ∀ j, i < j → rdW ws j = none
  | 0, h => absurd h (by omega)
  | j + 1, h => by
    rcases Nat.lt_or_ge i j with h1 | h1
    · rw [rdW, rdW_stop hp j h1]
    · obtain rfl : i = j := by omega
      rw [rdW, hp]
      cases rdW ws i <;> rfl
theorem rdW_facts {ws : List (List UInt8)} : ∀ (i : Nat) (l : List (Int × Int)), rdW ws i = some l → i ≤ ws.length → l.length = i ∧ (∀ p ∈ l, In64 p.1 ∧ In64 p.2) ∧ l.map word = ws.take i
  | 0, l, h, _ => by
    simp only [rdW, Option.some.injEq] at h
    subst h
    exact ⟨rfl, fun p hp => by simp at hp, by simp⟩
  | i + 1, l, h, hi => by
    rw [rdW] at h
    split at h
    · rename_i l' p h1 h2
      have e := Option.some.inj h
      subst e
      have ih := rdW_facts i l' h1 (by omega)
      have hw := wrd_some h2
      refine ⟨by rw [List.length_append, List.length_singleton, ih.1], fun q hq => ?_, ?_⟩
      · rcases List.mem_append.1 hq with hq | hq
        · exact ih.2.1 q hq
        · rw [List.mem_singleton] at hq
          subst hq
          exact ⟨⟨by omega, by omega⟩, by omega, by omega⟩
      · rw [List.map_append, ih.2.2, List.take_add_one, List.getElem?_eq_getElem (by omega)]
        rw [List.getD_eq_getElem?_getD, List.getElem?_eq_getElem (by omega)] at hw
        show _ ++ [word p] = _ ++ [_]
        rw [show word p = ws[i] from hw.1]
    · cases h
noncomputable def resRd (s : List UInt8) : List (Int × Int) × Bool :=
  if s = [] then ([], true) else match rdW (spl 32 s) (spl 32 s).length with
    | some l => if plnB l = true then (l, true) else ([], false)
    | none => ([], false)
theorem resRd_nil : resRd [] = ([], true) := by rw [resRd, if_pos rfl]
theorem resRd_no1 {s : List UInt8} {i : Nat} (hs : s ≠ []) (hi : i < (spl 32 s).length) (h : wrd ((spl 32 s).getD i []) = none) : resRd s = ([], false) := by
  rw [resRd, if_neg hs, rdW_stop h _ hi]
theorem resRd_no2 {s : List UInt8} {l : List (Int × Int)} (hs : s ≠ []) (h : rdW (spl 32 s) (spl 32 s).length = some l) (hp : plnB l = false) : resRd s = ([], false) := by
  rw [resRd, if_neg hs, h]; simp [hp]
theorem resRd_yes {s : List UInt8} {l : List (Int × Int)} (hs : s ≠ []) (h : rdW (spl 32 s) (spl 32 s).length = some l) (hp : plnB l = true) : resRd s = (l, true) := by
  rw [resRd, if_neg hs, h]; simp [hp]
theorem pln_at {l : List (Int × Int)} (h : plnB l = true) {i : Nat} (hi : i < l.length) : plnAt l i := by
  unfold plnB at h
  exact of_decide_eq_true h i hi
theorem pln_rise {l : List (Int × Int)} (h : plnB l = true) : ∀ i, i < l.length → (i : Int) ≤ (l.getD i (0, 0)).2
  | 0, hi => by have := pln_at h hi; unfold plnAt at this; omega
  | i + 1, hi => by
    have h1 := pln_rise h i (by omega)
    have h2 := (pln_at h hi).2.2 (by omega)
    rw [Nat.add_sub_cancel] at h2
    omega
theorem pln_len {l : List (Int × Int)} (h : plnB l = true) : l.length ≤ 20 := by
  rcases Nat.lt_or_ge 20 l.length with h1 | h1
  · have h2 := pln_rise h 20 h1
    have h3 := pln_at h h1
    unfold plnAt at h3
    omega
  · exact h1
theorem cpText_eq {s : List UInt8} {l : List (Int × Int)} (h : rdW (spl 32 s) (spl 32 s).length = some l) (hp : plnB l = true) : cpText l = s := by
  have hf := rdW_facts _ _ h (Nat.le_refl _)
  rw [cpText, if_pos hp, textTo, List.take_length, hf.2.2, List.take_length]
  exact spl_join 32 s
theorem spl_el : ∀ (s : List UInt8) (c : UInt8), ∀ y ∈ spl c s, y.length ≤ s.length
  | [], c, y, h => by simp [spl] at h; rw [h]; simp
  | x :: r, c, y, h => by
    have ih := spl_el r c
    by_cases e : x = c
    · subst e
      rw [spl_cons_eq] at h
      rcases List.mem_cons.1 h with rfl | h
      · simp
      · have := ih y h; simp; omega
    · rw [spl_cons_ne _ e] at h
      cases hs : spl c r with
      | nil => exact absurd hs (spl_ne c r)
      | cons z zs =>
        rw [hs] at h ih
        rcases List.mem_cons.1 h with rfl | h
        · have := ih z (by simp)
          simp; omega
        · have := ih y (by simp [h]); simp; omega
theorem spl_elD (s : List UInt8) (c : UInt8) (i : Nat) : ((spl c s).getD i []).length ≤ s.length := by
  by_cases hi : i < (spl c s).length
  · rw [List.getD_eq_getElem?_getD, List.getElem?_eq_getElem hi]; exact spl_el s c _ (List.getElem_mem hi)
  · rw [List.getD_eq_getElem?_getD, List.getElem?_eq_none (by omega)]; simp
section
variable {w : World} {lo hi B B' : Nat} {v : Value} {s : List UInt8}
theorem ReadDecimal_c (s : List UInt8) (hT : Tab B w := by assumption) (hE : Ers B' w := by assumption) (hs : s.length ≤ 2000000 := by omega) : Val Tryd.prog 14 [str s] w (.tuple #[.int .i64 (rdN s).1, .bool (rdN s).2]) := by
  refine ⟨fun w1 hx1 => ?_⟩
  replace hT := hT.ext hx1
  replace hE := hE.ext hx1
  have htb := trim_body s
  have E : Since 0 0 w1 w1 := Since.refl 0 0 w1
  refine ret_enter Tryd.func14 rfl Tryd.ntmps14 rfl ?_
  focus
    have ht_hT := hT.top
    have ht_hE := hE.top
    refine c_seq ?_
    refine c_region ?_
    refine w_pure (y_assign rfl) rfl ?_
    refine w_pure (y_assign rfl) rfl ?_
    refine w_nil ?_
    refine x_next ?_
    refine c_seq ?_
    refine c_region ?_
    refine w_pure (y_move rfl) rfl ?_
    (refine w_call rfl rfl rfl (ParseInt_c) rfl ?_; rintro _ w8 ⟨x8, ⟨e8, ⟨rfl, ⟨hp1_8, ⟨hp2_8, hx8⟩⟩⟩⟩⟩)
    have hz_hx8 := hx8.size
    replace hT := hT.ext hx8
    replace hE := hE.ext hx8
    replace E := E.trans hx8
    refine w_pure (y_move rfl) rfl ?_
    refine w_pure (y_extract rfl rfl) rfl ?_
    refine w_pure (y_extract rfl rfl) rfl ?_
    refine w_pure (y_assign rfl) rfl ?_
    refine w_pure (y_assign rfl) rfl ?_
    refine w_nil ?_
    refine x_next ?_
    refine c_seq ?_
    refine c_seq ?_
    refine c_region ?_
    refine w_pure (y_move rfl) rfl ?_
    rotate_left
  rcases hp1_8.go with ⟨rfl, hok⟩ | ⟨tt, pp, rfl, hno⟩
  · focus
      refine w_pure (y_nen (by kernel_rfl) rfl) rfl ?_
      refine w_pure (y_move rfl) rfl ?_
      refine w_yes rfl rfl ?_
      refine w_pure (y_move rfl) rfl ?_
      refine w_yes rfl rfl ?_
      refine w_val rfl rfl rfl (iDecimal_c _) rfl (fun w15 hx15 hz15 => ?_)
      have hz_hx15 := hx15.size
      replace hT := hT.ext hx15
      replace hE := hE.ext hx15
      replace E := E.trans hx15
      refine w_yes rfl rfl ?_
      refine w_pure (y_move rfl) rfl ?_
      refine w_yes rfl rfl ?_
      refine w_pure (y_sne rfl rfl) rfl ?_
      refine w_pure (y_pick_f rfl rfl) rfl ?_
      refine w_pure (y_move rfl) rfl ?_
      (refine w_part_dec rfl rfl (fun hc20 => ?_) (fun hc20 => ?_) <;> try (first | exact absurd rfl hc20 | contradiction | exact Bool.noConfusion (show false = true from hc20.symm.trans (by assumption)) | exact Bool.noConfusion (show true = false from hc20.symm.trans (by assumption)) | (exfalso; omega) | (exfalso; simp only [*, Bool.not_true, Bool.not_false, reduceCtorEq] at hc20; done)))
      refine w_no rfl rfl rfl rfl ?_
      refine w_no rfl rfl rfl rfl ?_
      refine w_no rfl rfl rfl rfl ?_
      refine w_no rfl rfl rfl rfl ?_
      refine w_pure (y_pick_t rfl rfl) rfl ?_
      refine w_nil ?_
      refine x_next ?_
      refine c_true rfl ?_
      refine c_seq ?_
      refine c_region ?_
      refine w_pure (y_assign rfl) rfl ?_
      refine w_pure (y_assign rfl) rfl ?_
      refine w_nil ?_
      refine x_next ?_
      refine c_ret ?_
      refine x_then_ret ?_
      rotate_left
      refine w_yes rfl rfl ?_
      refine w_pure (y_move rfl) rfl ?_
      refine w_yes rfl rfl ?_
      refine w_pur rfl rfl rfl (TrimPrefix_c _ _) rfl ?_
      refine w_yes rfl rfl ?_
      refine w_pure (y_slen rfl) rfl ?_
      refine w_yes rfl rfl ?_
      refine w_pure (y_gt rfl rfl) rfl ?_
      refine w_pure (y_pick_f rfl rfl) rfl ?_
      refine w_nil ?_
      refine x_next ?_
      (refine c_dec rfl (fun hc24 => ?_) (fun hc24 => ?_) <;> try (first | exact absurd rfl hc24 | contradiction | exact Bool.noConfusion (show false = true from hc24.symm.trans (by assumption)) | exact Bool.noConfusion (show true = false from hc24.symm.trans (by assumption)) | (exfalso; omega) | (exfalso; simp only [*, Bool.not_true, Bool.not_false, reduceCtorEq] at hc24; done)))
      refine c_seq ?_
      refine c_region ?_
      refine w_pure (y_assign rfl) rfl ?_
      refine w_pure (y_assign rfl) rfl ?_
      refine w_nil ?_
      refine x_next ?_
      refine c_ret ?_
      refine x_then_ret ?_
      rotate_left
      refine c_skip ?_
      refine x_next ?_
      refine c_seq ?_
      refine c_region ?_
      refine w_pure (y_move rfl) rfl ?_
      refine w_pure (y_assign rfl) rfl ?_
      refine w_pure (y_assign rfl) rfl ?_
      refine w_nil ?_
      refine x_next ?_
      refine c_ret ?_
      rotate_left
    · exact x_retv [_, _] rfl ⟨rfl, rfl, trivial⟩ ⟨by rw [rd_ne hok hc20]; rfl, E.go⟩
    · exact x_retv [_, _] rfl ⟨rfl, rfl, trivial⟩ ⟨by rw [rd_len (s := s) (by rw [← htb]; omega)]; rfl, E.go⟩
    · have e := Decidable.not_not.1 hc20
      exact x_retv [_, _] rfl ⟨rfl, rfl, trivial⟩ ⟨by rw [rdN_of (s := s) (n := x8) ((len18 x8).1 (by rw [e, ← htb]; omega)) e]; rfl, E.go⟩
  · focus
      refine w_pure (y_nei (by kernel_rfl) rfl rfl) rfl ?_
      refine w_pure (y_move rfl) rfl ?_
      refine w_no rfl rfl rfl rfl ?_
      refine w_no rfl rfl rfl rfl ?_
      refine w_no rfl rfl rfl rfl ?_
      refine w_no rfl rfl rfl rfl ?_
      refine w_pure (y_pick_t rfl rfl) rfl ?_
      refine w_pure (y_move rfl) rfl ?_
      refine w_no rfl rfl rfl rfl ?_
      refine w_no rfl rfl rfl rfl ?_
      refine w_no rfl rfl rfl rfl ?_
      refine w_no rfl rfl rfl rfl ?_
      refine w_pure (y_pick_t rfl rfl) rfl ?_
      refine w_nil ?_
      refine x_next ?_
      refine c_true rfl ?_
      refine c_seq ?_
      refine c_region ?_
      refine w_pure (y_assign rfl) rfl ?_
      refine w_pure (y_assign rfl) rfl ?_
      refine w_nil ?_
      refine x_next ?_
      refine c_ret ?_
      refine x_then_ret ?_
      rotate_left
    exact x_retv [_, _] rfl ⟨rfl, rfl, trivial⟩ ⟨by rw [rd_lib fun n _ => hno n]; rfl, E.go⟩
theorem sReadCopies_c (s : List UInt8) (hs : s.length ≤ 1048576 := by omega) : Ret Tryd.prog 4 [str s] w fun u w' => ∃ d, u = .tuple #[d, .bool (resRd s).2] ∧ Own w' 33 w.heap.size d (resRd s).1 ∧ Ext w w' := by
  have hln := spl_len 32 s
  have hct := List.count_le_length (a := (32 : UInt8)) (l := s)
  have E : Since 0 0 w w := Since.refl 0 0 w
  by_cases hs0 : s = []
  · subst hs0
    refine ret_enter Tryd.func4 rfl Tryd.ntmps4 rfl ?_
    focus
      refine c_seq ?_
      refine c_region ?_
      refine w_pure (y_assign rfl) rfl ?_
      refine w_pure (y_assign rfl) rfl ?_
      refine w_nil ?_
      refine x_next ?_
      refine c_seq ?_
      refine c_region ?_
      refine w_lit (α := (Int × Int)) rfl rfl rfl rfl rfl rfl rfl rfl (fun v12 w12 ho12 hx12 hl12 hh12 hs12 => ?_)
      have hl_ho12 := ho12.lt
      have hz_hx12 := hx12.size
      replace E := E.trans hx12
      refine w_pure (y_assign rfl) rfl ?_
      refine w_nil ?_
      refine x_next ?_
      refine c_seq ?_
      refine c_seq ?_
      refine c_region ?_
      refine w_pure (y_move rfl) rfl ?_
      refine w_pure (y_seq rfl rfl) rfl ?_
      refine w_nil ?_
      refine x_next ?_
      refine c_true rfl ?_
      refine c_seq ?_
      refine c_region ?_
      refine w_pure (y_move rfl) rfl ?_
      refine w_pure (y_assign rfl) rfl ?_
      refine w_pure (y_assign rfl) rfl ?_
      refine w_nil ?_
      refine x_next ?_
      refine c_ret ?_
      refine x_then_ret ?_
      rotate_left
    exact x_retv [_, _] rfl ⟨rfl, rfl, trivial⟩ ⟨v12, by rw [resRd_nil]; rfl, by rw [resRd_nil]; exact Own.base ho12 (by omega), E.go⟩
  refine ret_enter Tryd.func4 rfl Tryd.ntmps4 rfl ?_
  focus
    refine c_seq ?_
    refine c_region ?_
    refine w_pure (y_assign rfl) rfl ?_
    refine w_pure (y_assign rfl) rfl ?_
    refine w_nil ?_
    refine x_next ?_
    refine c_seq ?_
    refine c_region ?_
    refine w_lit (α := (Int × Int)) rfl rfl rfl rfl rfl rfl rfl rfl (fun v12 w12 ho12 hx12 hl12 hh12 hs12 => ?_)
    have hl_ho12 := ho12.lt
    have hz_hx12 := hx12.size
    replace E := E.trans hx12
    refine w_pure (y_assign rfl) rfl ?_
    refine w_nil ?_
    refine x_next ?_
    refine c_seq ?_
    refine c_seq ?_
    refine c_region ?_
    refine w_pure (y_move rfl) rfl ?_
    refine w_pure (y_seq rfl rfl) rfl ?_
    refine w_nil ?_
    refine x_next ?_
    (refine c_dec rfl (fun hc14 => ?_) (fun hc14 => ?_) <;> try (first | exact absurd rfl hc14 | contradiction | exact Bool.noConfusion (show false = true from hc14.symm.trans (by assumption)) | exact Bool.noConfusion (show true = false from hc14.symm.trans (by assumption)) | (exfalso; omega) | (exfalso; simp only [*, Bool.not_true, Bool.not_false, reduceCtorEq] at hc14; done)))
    refine c_skip ?_
    refine x_next ?_
    refine c_seq ?_
    refine c_region ?_
    refine w_pure (y_move rfl) rfl ?_
    (refine w_call rfl rfl rfl (l01Split32_c _) rfl ?_; rintro v17 w17 ⟨hp1_17, hx17⟩)
    have hl_hp1_17 := hp1_17.lt
    have hz_hx17 := hx17.size
    replace ho12 := ho12.ext hx17
    replace E := E.trans hx17
    refine w_pure (y_assign rfl) rfl ?_
    refine w_nil ?_
    refine x_next ?_
    refine c_seq ?_
    refine c_seq ?_
    refine c_region ?_
    refine w_pure (y_assign rfl) rfl ?_
    refine w_nil ?_
    refine x_next ?_
    refine c_block ?_
    rotate_left
  refine c_loopC (bL v12) (bH v12) (ι := Value × List (Int × Int) × Int) (fun x => [(4, x.1), (5, v17), (6, .int .i64 x.2.2)])
    (fun x w' => Own w' 33 w.heap.size x.1 x.2.1 ∧ ((bL x.1 = bL v12 ∧ bH x.1 = bH v12) ∨ w17.heap.size ≤ bL x.1) ∧ rdW (spl 32 s) x.2.2.toNat = some x.2.1 ∧ (0 ≤ x.2.2 ∧ x.2.2 ≤ (spl 32 s).length) ∧ Since 0 0 w w') (fun x => ((spl 32 s).length - x.2.2).toNat) (v12, [], 0)
    (by repeat (first | exact trivial | refine ⟨rfl, ?_⟩)) ⟨Own.base (by assumption) (by omega), .inl ⟨rfl, rfl⟩, rfl, by dsimp only; omega, by assumption⟩ ?_
  clear ho12 E
  rintro ⟨u, l, i⟩ wL hxL EL ⟨g1, g2, g3, g4, E⟩
  dsimp only at *
  have hzL := hxL.size
  have hf := rdW_facts _ _ g3 (by omega)
  have hf1 := hf.1
  have hf2 := hf.2.1
  clear hf
  have e1 : (i + 1).toNat = i.toNat + 1 := by omega
  by_cases hlt : i < (spl 32 s).length
  · have hel := spl_elD s 32 i.toNat
    have hl0 := spl_elD ((spl 32 s).getD i.toNat []) 62 (Int.toNat 0)
    have hl1 := spl_elD ((spl 32 s).getD i.toNat []) 62 (Int.toNat 1)
    by_cases h2 : (spl 62 ((spl 32 s).getD i.toNat [])).length = 2
    · have ew := wrd_two (two_of h2)
      focus
        have hl_g1 := g1.lt
        have hz_hxL := hxL.size
        replace hp1_17 := hp1_17.chg hxL (by omega)
        refine c_seq ?_
        refine c_seq ?_
        refine c_region ?_
        refine w_pure (y_move rfl) rfl ?_
        refine w_pure (y_move rfl) rfl ?_
        refine w_pure (y_len rfl) rfl ?_
        refine w_pure (y_lt rfl rfl) rfl ?_
        refine w_nil ?_
        refine x_next ?_
        (refine c_dec rfl (fun hc21 => ?_) (fun hc21 => ?_) <;> try (first | exact absurd rfl hc21 | contradiction | exact Bool.noConfusion (show false = true from hc21.symm.trans (by assumption)) | exact Bool.noConfusion (show true = false from hc21.symm.trans (by assumption)) | (exfalso; omega) | (exfalso; simp only [*, Bool.not_true, Bool.not_false, reduceCtorEq] at hc21; done)))
        refine c_skip ?_
        refine x_next ?_
        refine c_seq ?_
        refine c_block ?_
        refine c_seq ?_
        refine c_region ?_
        refine w_pure (y_move rfl) rfl ?_
        refine w_pure (y_move rfl) rfl ?_
        refine w_pure (y_index rfl rfl) rfl ?_
        refine w_pure (y_load_str rfl) rfl ?_
        (refine w_call rfl rfl rfl (l01Split62_c _) rfl ?_; rintro v28 w28 ⟨hp1_28, hx28⟩)
        have hl_hp1_28 := hp1_28.lt
        have hz_hx28 := hx28.size
        replace EL := EL.next hx28 (by omega)
        replace g1 := g1.ext hx28
        replace E := E.trans hx28
        replace hp1_17 := hp1_17.ext hx28
        refine w_pure (y_assign rfl) rfl ?_
        refine w_nil ?_
        refine x_next ?_
        refine c_seq ?_
        refine c_seq ?_
        refine c_region ?_
        refine w_pure (y_move rfl) rfl ?_
        refine w_pure (y_len rfl) rfl ?_
        refine w_pure (y_ne rfl rfl) rfl ?_
        refine w_nil ?_
        refine x_next ?_
        (refine c_dec rfl (fun hc31 => ?_) (fun hc31 => ?_) <;> try (first | exact absurd rfl hc31 | contradiction | exact Bool.noConfusion (show false = true from hc31.symm.trans (by assumption)) | exact Bool.noConfusion (show true = false from hc31.symm.trans (by assumption)) | (exfalso; omega) | (exfalso; simp only [*, Bool.not_true, Bool.not_false, reduceCtorEq] at hc31; done)))
        refine c_skip ?_
        refine x_next ?_
        refine c_seq ?_
        refine c_region ?_
        refine w_pure (y_move rfl) rfl ?_
        refine w_pure (y_index rfl rfl) rfl ?_
        refine w_pure (y_load_str rfl) rfl ?_
        refine w_val rfl rfl rfl (l01Number_c _) rfl (fun w36 hx36 hz36 => ?_)
        have hz_hx36 := hx36.size
        replace hp1_28 := hp1_28.ext hx36
        replace EL := EL.next hx36 (by omega)
        replace g1 := g1.ext hx36
        replace E := E.trans hx36
        replace hp1_17 := hp1_17.ext hx36
        refine w_pure (y_move rfl) rfl ?_
        refine w_pure (y_extract rfl rfl) rfl ?_
        refine w_pure (y_extract rfl rfl) rfl ?_
        refine w_pure (y_assign rfl) rfl ?_
        refine w_pure (y_assign rfl) rfl ?_
        refine w_nil ?_
        refine x_next ?_
        refine c_seq ?_
        refine c_region ?_
        refine w_pure (y_move rfl) rfl ?_
        refine w_pure (y_index rfl rfl) rfl ?_
        refine w_pure (y_load_str rfl) rfl ?_
        refine w_val rfl rfl rfl (l01Number_c _) rfl (fun w43 hx43 hz43 => ?_)
        have hz_hx43 := hx43.size
        replace hp1_28 := hp1_28.ext hx43
        replace EL := EL.next hx43 (by omega)
        replace g1 := g1.ext hx43
        replace E := E.trans hx43
        replace hp1_17 := hp1_17.ext hx43
        refine w_pure (y_move rfl) rfl ?_
        refine w_pure (y_extract rfl rfl) rfl ?_
        refine w_pure (y_extract rfl rfl) rfl ?_
        refine w_pure (y_assign rfl) rfl ?_
        refine w_pure (y_assign rfl) rfl ?_
        refine w_nil ?_
        refine x_next ?_
        refine c_seq ?_
        refine c_seq ?_
        refine c_region ?_
        refine w_pure (y_move rfl) rfl ?_
        refine w_pure (y_not rfl) rfl ?_
        refine w_pure (y_move rfl) rfl ?_
        (refine w_part rfl rfl (fun hc49 => ?_) (fun hc49 => ?_) <;> try (first | exact absurd rfl hc49 | contradiction | exact Bool.noConfusion (show false = true from hc49.symm.trans (by assumption)) | exact Bool.noConfusion (show true = false from hc49.symm.trans (by assumption)) | (exfalso; omega) | (exfalso; simp only [*, Bool.not_true, Bool.not_false, reduceCtorEq] at hc49; done)))
        refine w_no rfl rfl rfl rfl ?_
        refine w_no rfl rfl rfl rfl ?_
        refine w_pure (y_pick_t rfl rfl) rfl ?_
        refine w_nil ?_
        refine x_next ?_
        refine c_true rfl ?_
        refine c_seq ?_
        refine c_region ?_
        refine w_pure (y_assign rfl) rfl ?_
        refine w_pure (y_assign rfl) rfl ?_
        refine w_nil ?_
        refine x_next ?_
        refine c_ret ?_
        refine x_then_ret ?_
        refine x_block_ret ?_
        refine x_then_ret ?_
        refine x_then_ret ?_
        refine x_block_ret ?_
        refine x_then_ret ?_
        rotate_left
        refine w_yes rfl rfl ?_
        refine w_pure (y_move rfl) rfl ?_
        refine w_yes rfl rfl ?_
        refine w_pure (y_not rfl) rfl ?_
        refine w_pure (y_pick_f rfl rfl) rfl ?_
        refine w_nil ?_
        refine x_next ?_
        (refine c_not rfl (fun hc51 => ?_) (fun hc51 => ?_) <;> try (first | exact absurd rfl hc51 | contradiction | exact Bool.noConfusion (show false = true from hc51.symm.trans (by assumption)) | exact Bool.noConfusion (show true = false from hc51.symm.trans (by assumption)) | (exfalso; omega) | (exfalso; simp only [*, Bool.not_true, Bool.not_false, reduceCtorEq] at hc51; done)))
        refine c_seq ?_
        refine c_region ?_
        refine w_pure (y_assign rfl) rfl ?_
        refine w_pure (y_assign rfl) rfl ?_
        refine w_nil ?_
        refine x_next ?_
        refine c_ret ?_
        refine x_then_ret ?_
        refine x_block_ret ?_
        refine x_then_ret ?_
        refine x_then_ret ?_
        refine x_block_ret ?_
        refine x_then_ret ?_
        rotate_left
        refine c_skip ?_
        refine x_next ?_
        refine c_region ?_
        refine w_pure (y_move rfl) rfl ?_
        refine w_pure (y_move rfl) rfl ?_
        refine w_pure (y_move rfl) rfl ?_
        refine w_pure (y_build rfl) rfl ?_
        refine w_lit (α := (Int × Int)) rfl rfl rfl rfl rfl rfl rfl rfl (fun v56 w56 ho56 hx56 hl56 hh56 hs56 => ?_)
        have hl_ho56 := ho56.lt
        have hz_hx56 := hx56.size
        replace hp1_28 := hp1_28.ext hx56
        replace EL := EL.next hx56 (by omega)
        replace g1 := g1.ext hx56
        replace E := E.trans hx56
        replace hp1_17 := hp1_17.ext hx56
        refine w_append rfl rfl (k := fun v57 w57 ho57 hx57 hr57 => ?_)
        have hl_ho57 := ho57.lt
        have hz_hx57 := hx57.size
        replace ho56 := ho56.chg hx57 (by omega)
        replace hp1_28 := hp1_28.chg hx57 (by omega)
        replace EL := EL.next hx57 (by omega)
        replace E := E.next hx57 (by omega)
        replace hp1_17 := hp1_17.chg hx57 (by omega)
        refine w_pure (y_assign rfl) rfl ?_
        refine w_nil ?_
        refine x_block_norm ?_
        refine x_next ?_
        refine c_region ?_
        refine w_pure (y_move rfl) rfl ?_
        refine w_pure (y_add rfl rfl) rfl ?_
        refine w_pure (y_assign rfl) rfl ?_
        refine w_nil ?_
        rotate_left
      · have ew' := resRd_no1 hs0 (i := i.toNat) (by omega) (ew.trans (if_neg (nb1 hc49)))
        exact x_retv [_, _] rfl ⟨rfl, rfl, trivial⟩ ⟨_, by rw [ew']; rfl, by rw [ew']; exact Own.nil _ _ _, E.go⟩
      · have ew' := resRd_no1 hs0 (i := i.toNat) (by omega) (ew.trans (if_neg (nb2 hc51)))
        exact x_retv [_, _] rfl ⟨rfl, rfl, trivial⟩ ⟨_, by rw [ew']; rfl, by rw [ew']; exact Own.nil _ _ _, E.go⟩
      · have ew' := rdW_step g3 (ew.trans (if_pos ⟨nb3 hc49, hc51⟩))
        exact x_again (v57, _, i + 1) (by repeat (first | exact trivial | refine ⟨rfl, ?_⟩)) ⟨EL.go, by assumption, by dsimp only; omega, by dsimp only; rw [e1]; exact ew', by dsimp only; omega, by assumption⟩ (by dsimp only; omega)
    · have ew' := resRd_no1 hs0 (i := i.toNat) (by omega) (wrd_not h2)
      focus
        have hl_g1 := g1.lt
        have hz_hxL := hxL.size
        replace hp1_17 := hp1_17.chg hxL (by omega)
        refine c_seq ?_
        refine c_seq ?_
        refine c_region ?_
        refine w_pure (y_move rfl) rfl ?_
        refine w_pure (y_move rfl) rfl ?_
        refine w_pure (y_len rfl) rfl ?_
        refine w_pure (y_lt rfl rfl) rfl ?_
        refine w_nil ?_
        refine x_next ?_
        (refine c_dec rfl (fun hc21 => ?_) (fun hc21 => ?_) <;> try (first | exact absurd rfl hc21 | contradiction | exact Bool.noConfusion (show false = true from hc21.symm.trans (by assumption)) | exact Bool.noConfusion (show true = false from hc21.symm.trans (by assumption)) | (exfalso; omega) | (exfalso; simp only [*, Bool.not_true, Bool.not_false, reduceCtorEq] at hc21; done)))
        refine c_skip ?_
        refine x_next ?_
        refine c_seq ?_
        refine c_block ?_
        refine c_seq ?_
        refine c_region ?_
        refine w_pure (y_move rfl) rfl ?_
        refine w_pure (y_move rfl) rfl ?_
        refine w_pure (y_index rfl rfl) rfl ?_
        refine w_pure (y_load_str rfl) rfl ?_
        (refine w_call rfl rfl rfl (l01Split62_c _) rfl ?_; rintro v28 w28 ⟨hp1_28, hx28⟩)
        have hl_hp1_28 := hp1_28.lt
        have hz_hx28 := hx28.size
        replace EL := EL.next hx28 (by omega)
        replace g1 := g1.ext hx28
        replace E := E.trans hx28
        replace hp1_17 := hp1_17.ext hx28
        refine w_pure (y_assign rfl) rfl ?_
        refine w_nil ?_
        refine x_next ?_
        refine c_seq ?_
        refine c_seq ?_
        refine c_region ?_
        refine w_pure (y_move rfl) rfl ?_
        refine w_pure (y_len rfl) rfl ?_
        refine w_pure (y_ne rfl rfl) rfl ?_
        refine w_nil ?_
        refine x_next ?_
        (refine c_dec rfl (fun hc31 => ?_) (fun hc31 => ?_) <;> try (first | exact absurd rfl hc31 | contradiction | exact Bool.noConfusion (show false = true from hc31.symm.trans (by assumption)) | exact Bool.noConfusion (show true = false from hc31.symm.trans (by assumption)) | (exfalso; omega) | (exfalso; simp only [*, Bool.not_true, Bool.not_false, reduceCtorEq] at hc31; done)))
        refine c_seq ?_
        refine c_region ?_
        refine w_pure (y_assign rfl) rfl ?_
        refine w_pure (y_assign rfl) rfl ?_
        refine w_nil ?_
        refine x_next ?_
        refine c_ret ?_
        refine x_then_ret ?_
        refine x_block_ret ?_
        refine x_then_ret ?_
        refine x_then_ret ?_
        refine x_block_ret ?_
        refine x_then_ret ?_
        rotate_left
      all_goals exact x_retv [_, _] rfl ⟨rfl, rfl, trivial⟩ ⟨_, by rw [ew']; rfl, by rw [ew']; exact Own.nil _ _ _, E.go⟩
  · rw [show i.toNat = (spl 32 s).length by omega] at g3
    focus
      have hl_g1 := g1.lt
      have hz_hxL := hxL.size
      replace hp1_17 := hp1_17.chg hxL (by omega)
      refine c_seq ?_
      refine c_seq ?_
      refine c_region ?_
      refine w_pure (y_move rfl) rfl ?_
      refine w_pure (y_move rfl) rfl ?_
      refine w_pure (y_len rfl) rfl ?_
      refine w_pure (y_lt rfl rfl) rfl ?_
      refine w_nil ?_
      refine x_next ?_
      (refine c_dec rfl (fun hc21 => ?_) (fun hc21 => ?_) <;> try (first | exact absurd rfl hc21 | contradiction | exact Bool.noConfusion (show false = true from hc21.symm.trans (by assumption)) | exact Bool.noConfusion (show true = false from hc21.symm.trans (by assumption)) | (exfalso; omega) | (exfalso; simp only [*, Bool.not_true, Bool.not_false, reduceCtorEq] at hc21; done)))
      refine c_exit ?_
      refine x_then_exit ?_
      refine x_then_exit ?_
      refine x_block_hit ?_
      refine x_next ?_
      refine c_seq ?_
      refine c_seq ?_
      refine c_region ?_
      refine w_pure (y_move rfl) rfl ?_
      refine w_val rfl rfl rfl (l10PlainT_c) rfl (fun w59 hx59 hz59 => ?_)
      have hz_hx59 := hx59.size
      replace EL := EL.next hx59 (by omega)
      replace g1 := g1.ext hx59
      replace E := E.trans hx59
      replace hp1_17 := hp1_17.ext hx59
      refine w_pure (y_not rfl) rfl ?_
      refine w_nil ?_
      refine x_next ?_
      (refine c_not rfl (fun hc60 => ?_) (fun hc60 => ?_) <;> try (first | exact absurd rfl hc60 | contradiction | exact Bool.noConfusion (show false = true from hc60.symm.trans (by assumption)) | exact Bool.noConfusion (show true = false from hc60.symm.trans (by assumption)) | (exfalso; omega) | (exfalso; simp only [*, Bool.not_true, Bool.not_false, reduceCtorEq] at hc60; done)))
      refine c_seq ?_
      refine c_region ?_
      refine w_pure (y_assign rfl) rfl ?_
      refine w_pure (y_assign rfl) rfl ?_
      refine w_nil ?_
      refine x_next ?_
      refine c_ret ?_
      refine x_then_ret ?_
      rotate_left
      refine c_skip ?_
      refine x_next ?_
      refine c_seq ?_
      refine c_region ?_
      refine w_pure (y_move rfl) rfl ?_
      refine w_pure (y_assign rfl) rfl ?_
      refine w_pure (y_assign rfl) rfl ?_
      refine w_nil ?_
      refine x_next ?_
      refine c_ret ?_
      rotate_left
    · have ew' := resRd_no2 hs0 g3 hc60
      exact x_retv [_, _] rfl ⟨rfl, rfl, trivial⟩ ⟨_, by rw [ew']; rfl, by rw [ew']; exact Own.nil _ _ _, E.go⟩
    · have ew' := resRd_yes hs0 g3 hc60
      exact x_retv [_, _] rfl ⟨rfl, rfl, trivial⟩ ⟨u, by rw [ew']; rfl, by rw [ew']; exact g1, E.go⟩
theorem iReadCopies_c (s : List UInt8) (hT : Tab B w := by assumption) (hE : Ers B' w := by assumption) (hs : s.length ≤ 1048576 := by omega) : Ret Tryd.prog 5 [str s] w fun u w' => ∃ d, u = .tuple #[d, .bool (resRd s).2] ∧ Own w' 33 w.heap.size d (resRd s).1 ∧ Ext w w' := by
  have hln := spl_len 32 s
  have hct := List.count_le_length (a := (32 : UInt8)) (l := s)
  have E : Since 0 0 w w := Since.refl 0 0 w
  by_cases hs0 : s = []
  · subst hs0
    refine ret_enter Tryd.func5 rfl Tryd.ntmps5 rfl ?_
    focus
      have ht_hT := hT.top
      have ht_hE := hE.top
      refine c_seq ?_
      refine c_region ?_
      refine w_pure (y_assign rfl) rfl ?_
      refine w_pure (y_assign rfl) rfl ?_
      refine w_nil ?_
      refine x_next ?_
      refine c_seq ?_
      refine c_region ?_
      refine w_lit (α := (Int × Int)) rfl rfl rfl rfl rfl rfl rfl rfl (fun v14 w14 ho14 hx14 hl14 hh14 hs14 => ?_)
      have hl_ho14 := ho14.lt
      have hz_hx14 := hx14.size
      replace hT := hT.ext hx14
      replace hE := hE.ext hx14
      replace E := E.trans hx14
      refine w_pure (y_assign rfl) rfl ?_
      refine w_nil ?_
      refine x_next ?_
      refine c_seq ?_
      refine c_seq ?_
      refine c_region ?_
      refine w_pure (y_move rfl) rfl ?_
      refine w_pure (y_seq rfl rfl) rfl ?_
      refine w_nil ?_
      refine x_next ?_
      refine c_true rfl ?_
      refine c_seq ?_
      refine c_region ?_
      refine w_pure (y_move rfl) rfl ?_
      refine w_pure (y_assign rfl) rfl ?_
      refine w_pure (y_assign rfl) rfl ?_
      refine w_nil ?_
      refine x_next ?_
      refine c_ret ?_
      refine x_then_ret ?_
      rotate_left
    exact x_retv [_, _] rfl ⟨rfl, rfl, trivial⟩ ⟨v14, by rw [resRd_nil]; rfl, by rw [resRd_nil]; exact Own.base ho14 (by omega), E.go⟩
  refine ret_enter Tryd.func5 rfl Tryd.ntmps5 rfl ?_
  focus
    have ht_hT := hT.top
    have ht_hE := hE.top
    refine c_seq ?_
    refine c_region ?_
    refine w_pure (y_assign rfl) rfl ?_
    refine w_pure (y_assign rfl) rfl ?_
    refine w_nil ?_
    refine x_next ?_
    refine c_seq ?_
    refine c_region ?_
    refine w_lit (α := (Int × Int)) rfl rfl rfl rfl rfl rfl rfl rfl (fun v14 w14 ho14 hx14 hl14 hh14 hs14 => ?_)
    have hl_ho14 := ho14.lt
    have hz_hx14 := hx14.size
    replace hT := hT.ext hx14
    replace hE := hE.ext hx14
    replace E := E.trans hx14
    refine w_pure (y_assign rfl) rfl ?_
    refine w_nil ?_
    refine x_next ?_
    refine c_seq ?_
    refine c_seq ?_
    refine c_region ?_
    refine w_pure (y_move rfl) rfl ?_
    refine w_pure (y_seq rfl rfl) rfl ?_
    refine w_nil ?_
    refine x_next ?_
    (refine c_dec rfl (fun hc16 => ?_) (fun hc16 => ?_) <;> try (first | exact absurd rfl hc16 | contradiction | exact Bool.noConfusion (show false = true from hc16.symm.trans (by assumption)) | exact Bool.noConfusion (show true = false from hc16.symm.trans (by assumption)) | (exfalso; omega) | (exfalso; simp only [*, Bool.not_true, Bool.not_false, reduceCtorEq] at hc16; done)))
    refine c_skip ?_
    refine x_next ?_
    refine c_seq ?_
    refine c_seq ?_
    refine c_region ?_
    refine w_pure (y_move rfl) rfl ?_
    (refine w_call rfl rfl rfl (Split_c _) rfl ?_; rintro v19 w19 ⟨l19, ⟨h19, ⟨hp1_19, ⟨hp2_19, hx19⟩⟩⟩⟩)
    have hz_hx19 := hx19.size
    replace ho14 := ho14.ext hx19
    replace hT := hT.ext hx19
    replace hE := hE.ext hx19
    replace E := E.trans hx19
    refine w_pure (y_len rfl) rfl ?_
    refine w_pure (y_move rfl) rfl ?_
    refine w_nil ?_
    refine x_next ?_
    refine c_block ?_
    rotate_left
  refine c_loopC (bL v14) (bH v14) (ι := Value × List (Int × Int) × Int) (fun x => [(0, str s), (4, x.1), (19, v19), (20, .int .i64 (spl 32 s).length), (21, .int .i64 x.2.2)])
    (fun x w' => Own w' 33 w.heap.size x.1 x.2.1 ∧ ((bL x.1 = bL v14 ∧ bH x.1 = bH v14) ∨ w19.heap.size ≤ bL x.1) ∧ rdW (spl 32 s) x.2.2.toNat = some x.2.1 ∧ (0 ≤ x.2.2 ∧ x.2.2 ≤ (spl 32 s).length) ∧ Since 0 0 w w') (fun x => ((spl 32 s).length - x.2.2).toNat) (v14, [], 0)
    (by repeat (first | exact trivial | refine ⟨rfl, ?_⟩)) ⟨Own.base (by assumption) (by omega), .inl ⟨rfl, rfl⟩, rfl, by dsimp only; omega, by assumption⟩ ?_
  clear ho14 E
  rintro ⟨u, l, i⟩ wL hxL EL ⟨g1, g2, g3, g4, E⟩
  dsimp only at *
  have hzL := hxL.size
  have hf := rdW_facts _ _ g3 (by omega)
  have hf1 := hf.1
  have hf2 := hf.2.1
  clear hf
  have e1 : (i + 1).toNat = i.toNat + 1 := by omega
  by_cases hlt : i < (spl 32 s).length
  · have hel := spl_elD s 32 i.toNat
    have hcl := cut_len ((spl 32 s).getD i.toNat []) 62
    have ew := wrd_cutAB ((spl 32 s).getD i.toNat [])
    focus
      have ht_hp1_19 := hp1_19.top
      have hl_g1 := g1.lt
      have hz_hxL := hxL.size
      replace hp1_19 := hp1_19.chg hxL (by omega)
      replace hT := hT.chg hxL (by omega)
      replace hE := hE.chg hxL (by omega)
      refine c_seq ?_
      refine c_region ?_
      refine w_pure (y_lt rfl rfl) rfl ?_
      refine w_nil ?_
      refine x_next ?_
      refine c_seq ?_
      (refine c_dec rfl (fun hc22 => ?_) (fun hc22 => ?_) <;> try (first | exact absurd rfl hc22 | contradiction | exact Bool.noConfusion (show false = true from hc22.symm.trans (by assumption)) | exact Bool.noConfusion (show true = false from hc22.symm.trans (by assumption)) | (exfalso; omega) | (exfalso; simp only [*, Bool.not_true, Bool.not_false, reduceCtorEq] at hc22; done)))
      refine c_skip ?_
      refine x_next ?_
      refine c_seq ?_
      refine c_block ?_
      refine c_seq ?_
      refine c_region ?_
      refine w_pure (y_index rfl rfl) rfl ?_
      refine w_pure (y_load_str rfl) rfl ?_
      refine w_pure (y_assign rfl) rfl ?_
      refine w_nil ?_
      refine x_next ?_
      refine c_seq ?_
      refine c_region ?_
      refine w_pure (y_move rfl) rfl ?_
      refine w_val rfl rfl rfl (Cut_c _) rfl (fun w27 hx27 hz27 => ?_)
      have hz_hx27 := hx27.size
      replace EL := EL.next hx27 (by omega)
      replace g1 := g1.ext hx27
      replace E := E.trans hx27
      replace hp1_19 := hp1_19.ext hx27
      replace hT := hT.ext hx27
      replace hE := hE.ext hx27
      refine w_pure (y_move rfl) rfl ?_
      refine w_pure (y_extract rfl rfl) rfl ?_
      refine w_pure (y_extract rfl rfl) rfl ?_
      refine w_pure (y_extract rfl rfl) rfl ?_
      refine w_pure (y_assign rfl) rfl ?_
      refine w_pure (y_assign rfl) rfl ?_
      refine w_pure (y_assign rfl) rfl ?_
      refine w_nil ?_
      refine x_next ?_
      refine c_seq ?_
      refine c_region ?_
      refine w_pure (y_move rfl) rfl ?_
      refine w_val rfl rfl rfl (ReadDecimal_c _) rfl (fun w33 hx33 hz33 => ?_)
      have hz_hx33 := hx33.size
      replace EL := EL.next hx33 (by omega)
      replace g1 := g1.ext hx33
      replace E := E.trans hx33
      replace hp1_19 := hp1_19.ext hx33
      replace hT := hT.ext hx33
      replace hE := hE.ext hx33
      refine w_pure (y_move rfl) rfl ?_
      refine w_pure (y_extract rfl rfl) rfl ?_
      refine w_pure (y_extract rfl rfl) rfl ?_
      refine w_pure (y_assign rfl) rfl ?_
      refine w_pure (y_assign rfl) rfl ?_
      refine w_nil ?_
      refine x_next ?_
      refine c_seq ?_
      refine c_region ?_
      refine w_pure (y_move rfl) rfl ?_
      refine w_val rfl rfl rfl (ReadDecimal_c _) rfl (fun w38 hx38 hz38 => ?_)
      have hz_hx38 := hx38.size
      replace EL := EL.next hx38 (by omega)
      replace g1 := g1.ext hx38
      replace E := E.trans hx38
      replace hp1_19 := hp1_19.ext hx38
      replace hT := hT.ext hx38
      replace hE := hE.ext hx38
      refine w_pure (y_move rfl) rfl ?_
      refine w_pure (y_extract rfl rfl) rfl ?_
      refine w_pure (y_extract rfl rfl) rfl ?_
      refine w_pure (y_assign rfl) rfl ?_
      refine w_pure (y_assign rfl) rfl ?_
      refine w_nil ?_
      refine x_next ?_
      refine c_seq ?_
      refine c_seq ?_
      refine c_region ?_
      refine w_pure (y_move rfl) rfl ?_
      refine w_pure (y_not rfl) rfl ?_
      refine w_pure (y_move rfl) rfl ?_
      (refine w_part rfl rfl (fun hc44 => ?_) (fun hc44 => ?_) <;> try (first | exact absurd rfl hc44 | contradiction | exact Bool.noConfusion (show false = true from hc44.symm.trans (by assumption)) | exact Bool.noConfusion (show true = false from hc44.symm.trans (by assumption)) | (exfalso; omega) | (exfalso; simp only [*, Bool.not_true, Bool.not_false, reduceCtorEq] at hc44; done)))
      refine w_no rfl rfl rfl rfl ?_
      refine w_no rfl rfl rfl rfl ?_
      refine w_pure (y_pick_t rfl rfl) rfl ?_
      refine w_nil ?_
      refine x_next ?_
      refine c_true rfl ?_
      refine c_seq ?_
      refine c_region ?_
      refine w_pure (y_assign rfl) rfl ?_
      refine w_pure (y_assign rfl) rfl ?_
      refine w_nil ?_
      refine x_next ?_
      refine c_ret ?_
      refine x_then_ret ?_
      refine x_block_ret ?_
      refine x_then_ret ?_
      refine x_then_ret ?_
      refine x_block_ret ?_
      refine x_then_ret ?_
      rotate_left
      refine w_yes rfl rfl ?_
      refine w_pure (y_move rfl) rfl ?_
      refine w_yes rfl rfl ?_
      refine w_pure (y_not rfl) rfl ?_
      refine w_pure (y_pick_f rfl rfl) rfl ?_
      refine w_nil ?_
      refine x_next ?_
      (refine c_not rfl (fun hc46 => ?_) (fun hc46 => ?_) <;> try (first | exact absurd rfl hc46 | contradiction | exact Bool.noConfusion (show false = true from hc46.symm.trans (by assumption)) | exact Bool.noConfusion (show true = false from hc46.symm.trans (by assumption)) | (exfalso; omega) | (exfalso; simp only [*, Bool.not_true, Bool.not_false, reduceCtorEq] at hc46; done)))
      refine c_seq ?_
      refine c_region ?_
      refine w_pure (y_assign rfl) rfl ?_
      refine w_pure (y_assign rfl) rfl ?_
      refine w_nil ?_
      refine x_next ?_
      refine c_ret ?_
      refine x_then_ret ?_
      refine x_block_ret ?_
      refine x_then_ret ?_
      refine x_then_ret ?_
      refine x_block_ret ?_
      refine x_then_ret ?_
      rotate_left
      refine c_skip ?_
      refine x_next ?_
      refine c_region ?_
      refine w_pure (y_move rfl) rfl ?_
      refine w_pure (y_move rfl) rfl ?_
      refine w_pure (y_move rfl) rfl ?_
      refine w_pure (y_build rfl) rfl ?_
      refine w_lit (α := (Int × Int)) rfl rfl rfl rfl rfl rfl rfl rfl (fun v51 w51 ho51 hx51 hl51 hh51 hs51 => ?_)
      have hl_ho51 := ho51.lt
      have hz_hx51 := hx51.size
      replace EL := EL.next hx51 (by omega)
      replace g1 := g1.ext hx51
      replace E := E.trans hx51
      replace hp1_19 := hp1_19.ext hx51
      replace hT := hT.ext hx51
      replace hE := hE.ext hx51
      refine w_append rfl rfl (k := fun v52 w52 ho52 hx52 hr52 => ?_)
      have hl_ho52 := ho52.lt
      have hz_hx52 := hx52.size
      replace ho51 := ho51.chg hx52 (by omega)
      replace EL := EL.next hx52 (by omega)
      replace E := E.next hx52 (by omega)
      replace hp1_19 := hp1_19.chg hx52 (by omega)
      replace hT := hT.chg hx52 (by omega)
      replace hE := hE.chg hx52 (by omega)
      refine w_pure (y_assign rfl) rfl ?_
      refine w_nil ?_
      refine x_block_norm ?_
      refine x_next ?_
      refine c_region ?_
      refine w_pure (y_add rfl rfl) rfl ?_
      refine w_pure (y_move rfl) rfl ?_
      refine w_nil ?_
      rotate_left
    · have ew' := resRd_no1 hs0 (i := i.toNat) (by omega) (ew.trans (if_neg (nb1 hc44)))
      exact x_retv [_, _] rfl ⟨rfl, rfl, trivial⟩ ⟨_, by rw [ew']; rfl, by rw [ew']; exact Own.nil _ _ _, E.go⟩
    · have ew' := resRd_no1 hs0 (i := i.toNat) (by omega) (ew.trans (if_neg (nb2 hc46)))
      exact x_retv [_, _] rfl ⟨rfl, rfl, trivial⟩ ⟨_, by rw [ew']; rfl, by rw [ew']; exact Own.nil _ _ _, E.go⟩
    · have ew' := rdW_step g3 (ew.trans (if_pos ⟨nb3 hc44, hc46⟩))
      exact x_again (v52, _, i + 1) (by repeat (first | exact trivial | refine ⟨rfl, ?_⟩)) ⟨EL.go, by assumption, by dsimp only; omega, by dsimp only; rw [e1]; exact ew', by dsimp only; omega, by assumption⟩ (by dsimp only; omega)
  · rw [show i.toNat = (spl 32 s).length by omega] at g3
    by_cases hp : plnB l = true
    · have hpl := pln_len hp
      have hct2 := cpText_eq g3 hp
      have ew' := resRd_yes hs0 g3 hp
      focus
        have ht_hp1_19 := hp1_19.top
        have hl_g1 := g1.lt
        have hz_hxL := hxL.size
        replace hp1_19 := hp1_19.chg hxL (by omega)
        replace hT := hT.chg hxL (by omega)
        replace hE := hE.chg hxL (by omega)
        refine c_seq ?_
        refine c_region ?_
        refine w_pure (y_lt rfl rfl) rfl ?_
        refine w_nil ?_
        refine x_next ?_
        refine c_seq ?_
        (refine c_dec rfl (fun hc22 => ?_) (fun hc22 => ?_) <;> try (first | exact absurd rfl hc22 | contradiction | exact Bool.noConfusion (show false = true from hc22.symm.trans (by assumption)) | exact Bool.noConfusion (show true = false from hc22.symm.trans (by assumption)) | (exfalso; omega) | (exfalso; simp only [*, Bool.not_true, Bool.not_false, reduceCtorEq] at hc22; done)))
        refine c_exit ?_
        refine x_then_exit ?_
        refine x_then_exit ?_
        refine x_block_hit ?_
        refine x_next ?_
        refine c_seq ?_
        refine c_seq ?_
        refine c_region ?_
        refine w_pure (y_move rfl) rfl ?_
        refine w_val rfl rfl rfl (isPlainT_c) rfl (fun w55 hx55 hz55 => ?_)
        have hz_hx55 := hx55.size
        replace EL := EL.next hx55 (by omega)
        replace g1 := g1.ext hx55
        replace E := E.trans hx55
        replace hp1_19 := hp1_19.ext hx55
        replace hT := hT.ext hx55
        replace hE := hE.ext hx55
        refine w_pure (y_not rfl) rfl ?_
        refine w_pure (y_move rfl) rfl ?_
        (refine w_part rfl rfl (fun hc58 => ?_) (fun hc58 => ?_) <;> try (first | exact absurd rfl hc58 | contradiction | exact Bool.noConfusion (show false = true from hc58.symm.trans (by assumption)) | exact Bool.noConfusion (show true = false from hc58.symm.trans (by assumption)) | (exfalso; omega) | (exfalso; simp only [*, Bool.not_true, Bool.not_false, reduceCtorEq] at hc58; done)))
        refine w_yes rfl rfl ?_
        refine w_pure (y_move rfl) rfl ?_
        refine w_yes rfl rfl ?_
        refine w_val rfl rfl rfl (iCopiesText_c) rfl (fun w59 hx59 hz59 => ?_)
        have hz_hx59 := hx59.size
        replace EL := EL.next hx59 (by omega)
        replace g1 := g1.ext hx59
        replace E := E.trans hx59
        replace hp1_19 := hp1_19.ext hx59
        replace hT := hT.ext hx59
        replace hE := hE.ext hx59
        refine w_yes rfl rfl ?_
        refine w_pure (y_move rfl) rfl ?_
        refine w_yes rfl rfl ?_
        refine w_pure (y_sne rfl rfl) rfl ?_
        refine w_pure (y_pick_f rfl rfl) rfl ?_
        refine w_nil ?_
        refine x_next ?_
        (refine c_dec rfl (fun hc62 => ?_) (fun hc62 => ?_) <;> try (first | exact absurd rfl hc62 | contradiction | exact Bool.noConfusion (show false = true from hc62.symm.trans (by assumption)) | exact Bool.noConfusion (show true = false from hc62.symm.trans (by assumption)) | (exfalso; omega) | (exfalso; simp only [*, Bool.not_true, Bool.not_false, reduceCtorEq] at hc62; done)))
        refine c_skip ?_
        refine x_next ?_
        refine c_seq ?_
        refine c_region ?_
        refine w_pure (y_move rfl) rfl ?_
        refine w_pure (y_assign rfl) rfl ?_
        refine w_pure (y_assign rfl) rfl ?_
        refine w_nil ?_
        refine x_next ?_
        refine c_ret ?_
        rotate_left
      all_goals first
        | exact x_retv [_, _] rfl ⟨rfl, rfl, trivial⟩ ⟨u, by rw [ew']; rfl, by rw [ew']; exact g1, E.go⟩
        | (exfalso; simp_all; done)
    · have hp2 : plnB l = false := by simpa using hp
      have ew' := resRd_no2 hs0 g3 hp2
      focus
        have ht_hp1_19 := hp1_19.top
        have hl_g1 := g1.lt
        have hz_hxL := hxL.size
        replace hp1_19 := hp1_19.chg hxL (by omega)
        replace hT := hT.chg hxL (by omega)
        replace hE := hE.chg hxL (by omega)
        refine c_seq ?_
        refine c_region ?_
        refine w_pure (y_lt rfl rfl) rfl ?_
        refine w_nil ?_
        refine x_next ?_
        refine c_seq ?_
        (refine c_dec rfl (fun hc22 => ?_) (fun hc22 => ?_) <;> try (first | exact absurd rfl hc22 | contradiction | exact Bool.noConfusion (show false = true from hc22.symm.trans (by assumption)) | exact Bool.noConfusion (show true = false from hc22.symm.trans (by assumption)) | (exfalso; omega) | (exfalso; simp only [*, Bool.not_true, Bool.not_false, reduceCtorEq] at hc22; done)))
        refine c_exit ?_
        refine x_then_exit ?_
        refine x_then_exit ?_
        refine x_block_hit ?_
        refine x_next ?_
        refine c_seq ?_
        refine c_seq ?_
        refine c_region ?_
        refine w_pure (y_move rfl) rfl ?_
        refine w_val rfl rfl rfl (isPlainT_c) rfl (fun w55 hx55 hz55 => ?_)
        have hz_hx55 := hx55.size
        replace EL := EL.next hx55 (by omega)
        replace g1 := g1.ext hx55
        replace E := E.trans hx55
        replace hp1_19 := hp1_19.ext hx55
        replace hT := hT.ext hx55
        replace hE := hE.ext hx55
        refine w_pure (y_not rfl) rfl ?_
        refine w_pure (y_move rfl) rfl ?_
        (refine w_part rfl rfl (fun hc58 => ?_) (fun hc58 => ?_) <;> try (first | exact absurd rfl hc58 | contradiction | exact Bool.noConfusion (show false = true from hc58.symm.trans (by assumption)) | exact Bool.noConfusion (show true = false from hc58.symm.trans (by assumption)) | (exfalso; omega) | (exfalso; simp only [*, Bool.not_true, Bool.not_false, reduceCtorEq] at hc58; done)))
        refine w_no rfl rfl rfl rfl ?_
        refine w_no rfl rfl rfl rfl ?_
        refine w_no rfl rfl rfl rfl ?_
        refine w_no rfl rfl rfl rfl ?_
        refine w_pure (y_pick_t rfl rfl) rfl ?_
        refine w_nil ?_
        refine x_next ?_
        refine c_true rfl ?_
        refine c_seq ?_
        refine c_region ?_
        refine w_pure (y_assign rfl) rfl ?_
        refine w_pure (y_assign rfl) rfl ?_
        refine w_nil ?_
        refine x_next ?_
        refine c_ret ?_
        refine x_then_ret ?_
        rotate_left
      all_goals first
        | exact x_retv [_, _] rfl ⟨rfl, rfl, trivial⟩ ⟨_, by rw [ew']; rfl, by rw [ew']; exact Own.nil _ _ _, E.go⟩
        | (exfalso; simp_all; done)
end
end Go.Proofs.YticnemjjjceiaaaDoor

/- Contracts: the fewest cuts, as the program finds them; the law's walk. -/
import Derived.Test.YthigkbkaeopipaaFewB
import Derived.Test.YthigkbkaeopipaaOpen
namespace Go.Proofs.Ythigkbkaeopipaa
open Go Go.Gw
set_option linter.unusedVariables false
set_option linter.unusedSimpArgs false
theorem and1 (s i : Nat) : andI ((s : Int) / 2 ^ i) 1 = ((s / 2 ^ i % 2 : Nat) : Int) := by
  have e : ((s : Int) / 2 ^ i) = ((s / 2 ^ i : Nat) : Int) := by push_cast; rfl
  rw [e, andI, Int.toNat_natCast, show (1 : Int).toNat = 1 from rfl, Nat.and_one_is_mod]
theorem div_bd (s i : Nat) : 0 ≤ (s : Int) / 2 ^ i ∧ (s : Int) / 2 ^ i ≤ s := by
  have e : ((s : Int) / 2 ^ i) = ((s / 2 ^ i : Nat) : Int) := by push_cast; rfl
  rw [e]
  exact ⟨Int.natCast_nonneg _, Int.ofNat_le.2 (Nat.div_le_self _ _)⟩
theorem keepW_ok {e n j : Int} {ws : List (Int × Int)} (h : okB e n j ws = true) (c : List Int) : ∀ i, i < (keepW ws c ws.length).length → 0 ≤ ((keepW ws c ws.length).getD i (0, 0)).1 ∧ ((keepW ws c ws.length).getD i (0, 0)).1 < ((keepW ws c ws.length).getD i (0, 0)).2 ∧ ((keepW ws c ws.length).getD i (0, 0)).2 < e + n + j := by
  intro i hi
  rw [List.getD_eq_getElem?_getD, List.getElem?_eq_getElem hi]
  exact okB_wire h _ (keepW_mem ws.length (Nat.le_refl _) (List.getElem_mem hi))
theorem works_keep {e n j : Int} {ws : List (Int × Int)} {c : List Int} : worksP e n j ws c = decide ((pairP (rootsF (e + n + j).toNat (keepW ws c ws.length) (keepW ws c ws.length).length) e.toNat e.toNat).length = 0) := by
  rw [worksP, worksB, keep_roots]
theorem BestI.len {p : List Int → Bool} {own best : List Int} {s : Nat} {found : Bool} (h : BestI p own s found best) : best.length ≤ own.length := by
  cases hf : found with
  | true => exact subs_le _ _ _ (h.yes hf).2.1
  | false => rw [(h.no hf).1]; simp
theorem decL_le : ∀ (l : List Int) (s : Nat), (decL l s).length ≤ l.length
  | [], s => by simp [decL]
  | x :: l, s => by
    have := decL_le l (s / 2)
    rw [decL]; split
    · simp; exact this
    · simp; omega
section
variable {w : World} {v v' vB : Value} {xs ys F : List Int} {ws : List (Int × Int)} {lo hi lo' hi' b b1 b3 : Nat} {e n j : Int}
theorem ownWhere_c (hk : okB e n j ws = true := by assumption) (hp1 : At w b1 0 [v'] := by repeat (first | assumption | exact Go.Gw.Own.sl (by assumption) | exact Go.Gw.Box.at (by assumption) | exact Go.Gw.SLL.el (by first | assumption | exact Go.Gw.OwnD.sll (by assumption)) _ (by omega) | exact Go.Gw.SLL.at (by first | assumption | exact Go.Gw.OwnD.sll (by assumption)) (by omega) | exact Go.Gw.OwnD.sll (by assumption) | (apply Go.Gw.SL.chg; case hx => assumption) | (apply Go.Gw.Own.chg; case hx => assumption) | (apply Go.Gw.Box.chg; case hx => assumption) | (apply Go.Gw.At.chg; case hx => assumption) | exact .inl (Nat.zero_le _) | exact .inr (Nat.zero_le _) | (show _ ∨ _; omega))) (hp2 : At w b 0 [.int .i64 e, .int .i64 n, .int .i64 j, v] := by repeat (first | assumption | exact Go.Gw.Own.sl (by assumption) | exact Go.Gw.Box.at (by assumption) | exact Go.Gw.SLL.el (by first | assumption | exact Go.Gw.OwnD.sll (by assumption)) _ (by omega) | exact Go.Gw.SLL.at (by first | assumption | exact Go.Gw.OwnD.sll (by assumption)) (by omega) | exact Go.Gw.OwnD.sll (by assumption) | (apply Go.Gw.SL.chg; case hx => assumption) | (apply Go.Gw.Own.chg; case hx => assumption) | (apply Go.Gw.Box.chg; case hx => assumption) | (apply Go.Gw.At.chg; case hx => assumption) | exact .inl (Nat.zero_le _) | exact .inr (Nat.zero_le _) | (show _ ∨ _; omega))) (h : SL w lo hi v ws := by repeat (first | assumption | exact Go.Gw.Own.sl (by assumption) | exact Go.Gw.Box.at (by assumption) | exact Go.Gw.SLL.el (by first | assumption | exact Go.Gw.OwnD.sll (by assumption)) _ (by omega) | exact Go.Gw.SLL.at (by first | assumption | exact Go.Gw.OwnD.sll (by assumption)) (by omega) | exact Go.Gw.OwnD.sll (by assumption) | (apply Go.Gw.SL.chg; case hx => assumption) | (apply Go.Gw.Own.chg; case hx => assumption) | (apply Go.Gw.Box.chg; case hx => assumption) | (apply Go.Gw.At.chg; case hx => assumption) | exact .inl (Nat.zero_le _) | exact .inr (Nat.zero_le _) | (show _ ∨ _; omega))) (h' : SL w lo' hi' v' (rootsF (e + n + j).toNat ws ws.length) := by repeat (first | assumption | exact Go.Gw.Own.sl (by assumption) | exact Go.Gw.Box.at (by assumption) | exact Go.Gw.SLL.el (by first | assumption | exact Go.Gw.OwnD.sll (by assumption)) _ (by omega) | exact Go.Gw.SLL.at (by first | assumption | exact Go.Gw.OwnD.sll (by assumption)) (by omega) | exact Go.Gw.OwnD.sll (by assumption) | (apply Go.Gw.SL.chg; case hx => assumption) | (apply Go.Gw.Own.chg; case hx => assumption) | (apply Go.Gw.Box.chg; case hx => assumption) | (apply Go.Gw.At.chg; case hx => assumption) | exact .inl (Nat.zero_le _) | exact .inr (Nat.zero_le _) | (show _ ∨ _; omega))) :
    Ret Try.prog 100 [.int .i64 ws.length, .func (.func 102) #[] #[ptr b 0, ptr b1 0]] w fun u w' => Own w' 2 w.heap.size u (ownL e n j ws) ∧ Ext w w' := by
  have q1 := okB_num hk
  have hw := fun i hi => okB_getD hk i hi
  have q3 : (rootsF (e + n + j).toNat ws ws.length).length = (e + n + j).toNat := rootsF_len _ _ _
  have := columnsWhere_c (w := w) (f := 102) (first := []) (cap := [ptr b 0, ptr b1 0]) (p := fun k => decide (2 ≤ ((exitsF (rootsF (e + n + j).toNat ws ws.length) e.toNat (ws.getD k.toNat (0, 0)).1.toNat).length : Int))) (c := ws.length) (hp := fun k h0 h1 => FewestCuts1_c k (hA := by have := hw k.toNat (by omega); omega))
  have eown : colsP (fun k => decide (2 ≤ ((exitsF (rootsF (e + n + j).toNat ws ws.length) e.toNat (ws.getD k.toNat (0, 0)).1.toNat).length : Int))) ((ws.length : Int)).toNat = ownL e n j ws := by
    rw [Int.toNat_natCast]; exact colsP_congr _ (fun k _ => decide_eq_decide.2 (by show (2 : Int) ≤ ((exitsF (rootsF (e + n + j).toNat ws ws.length) e.toNat (ws.getD ((k : Int)).toNat (0, 0)).1.toNat).length : Int) ↔ 2 ≤ (exitsF (rootsF (e + n + j).toNat ws ws.length) e.toNat (ws.getD ((k : Int)).toNat (0, 0)).1.toNat).length; omega))
  rw [eown] at this
  exact this
set_option maxHeartbeats 4000000 in
theorem iFewestCuts_c (h : SL w lo hi v ws := by repeat (first | assumption | exact Go.Gw.Own.sl (by assumption) | exact Go.Gw.Box.at (by assumption) | exact Go.Gw.SLL.el (by first | assumption | exact Go.Gw.OwnD.sll (by assumption)) _ (by omega) | exact Go.Gw.SLL.at (by first | assumption | exact Go.Gw.OwnD.sll (by assumption)) (by omega) | exact Go.Gw.OwnD.sll (by assumption) | (apply Go.Gw.SL.chg; case hx => assumption) | (apply Go.Gw.Own.chg; case hx => assumption) | (apply Go.Gw.Box.chg; case hx => assumption) | (apply Go.Gw.At.chg; case hx => assumption) | exact .inl (Nat.zero_le _) | exact .inr (Nat.zero_le _) | (show _ ∨ _; omega))) : Ret Try.prog 30 [.agg #[.int .i64 e, .int .i64 n, .int .i64 j, v]] w fun u w' => ∃ d, u = .tuple #[d, .int .i64 (cFew e n j ws)] ∧ Own w' 2 w.heap.size d (resFew e n j ws) ∧ Ext w w' := by
  have E : Since 0 0 w w := Since.refl 0 0 w
  by_cases hk : okB e n j ws = true
  · have q1 := okB_num hk
    have hw := fun i hi => okB_getD hk i hi
    have q2 := ownL_len e n j ws
    by_cases hl : (ownL e n j ws).length ≤ 10
    · have ec : cFew e n j ws = 0 := by rw [cFew, if_pos hk, if_pos hl]
      have hsome := (resFew_some ec).2.2
      have hpw : (2 : Nat) ^ (ownL e n j ws).length ≤ 1024 := Nat.le_trans (Nat.pow_le_pow_right (by decide) hl) (by decide)
      have hsh : (1 * 2 ^ ((ownL e n j ws).length : Int).toNat : Int) = ((2 ^ (ownL e n j ws).length : Nat) : Int) := by rw [Int.one_mul, Int.toNat_natCast]; push_cast; rfl
      have hsh2 : In64 (1 * 2 ^ ((ownL e n j ws).length : Int).toNat) := by
        rw [hsh]
        generalize 2 ^ (ownL e n j ws).length = T at *
        exact ⟨by omega, by omega⟩
      refine ret_enter Try.func30 rfl Try.ntmps30 rfl ?_
      focus
        have ht_h := h.top
        refine c_seq ?_
        refine c_region ?_
        refine w_box rfl (k := fun b1 w1 hb1 hx1 hl1 hs1 => ?_)
        have hz_hx1 := hx1.size
        replace h := h.ext hx1
        replace E := E.trans hx1
        refine w_pure (y_assign rfl) rfl ?_
        refine w_pure (y_assign rfl) rfl ?_
        refine w_nil ?_
        refine x_next ?_
        refine c_seq ?_
        refine c_seq ?_
        refine c_region ?_
        refine w_pure (y_load_boxs rfl) rfl ?_
        refine w_val rfl rfl rfl (iValidBoard_c) rfl (fun w16 hx16 hz16 => ?_)
        have hz_hx16 := hx16.size
        replace hb1 := hb1.ext hx16
        replace h := h.ext hx16
        replace E := E.trans hx16
        refine w_pure (y_not rfl) rfl ?_
        refine w_nil ?_
        refine x_next ?_
        (refine c_not rfl (fun hc17 => ?_) (fun hc17 => ?_) <;> try (first | exact absurd rfl hc17 | contradiction | exact Bool.noConfusion (show false = true from hc17.symm.trans (by assumption)) | exact Bool.noConfusion (show true = false from hc17.symm.trans (by assumption)) | (exfalso; omega) | (exfalso; simp only [*, Bool.not_true, Bool.not_false, reduceCtorEq] at hc17; done)))
        refine c_skip ?_
        refine x_next ?_
        refine c_seq ?_
        refine c_region ?_
        refine w_pure (y_load_boxs rfl) rfl ?_
        refine w_pure (y_field rfl) rfl ?_
        refine w_pure (y_load_box rfl) rfl ?_
        (refine w_call rfl rfl rfl (firstHubs_c) rfl ?_; rintro v21 w21 ⟨hp1_21, hx21⟩)
        have hl_hp1_21 := hp1_21.lt
        have hz_hx21 := hx21.size
        replace hb1 := hb1.ext hx21
        replace h := h.ext hx21
        replace E := E.trans hx21
        refine w_alloc (k := fun b4 w4 hb4 hx4 hl4 hs4 => ?_)
        have hz_hx4 := hx4.size
        replace hp1_21 := hp1_21.ext hx4
        replace hb1 := hb1.ext hx4
        replace h := h.ext hx4
        replace E := E.trans hx4
        refine w_store_box rfl rfl (next := fun ws26 hbs26 hxs26 hss26 => ?_)
        (replace hb4 := hbs26; clear hbs26)
        have hz_hxs26 := hxs26.size
        replace hp1_21 := hp1_21.chg hxs26 (by omega)
        replace hb1 := hb1.chg hxs26 (by omega)
        replace h := h.chg hxs26 (by omega)
        replace E := E.next hxs26 (by omega)
        refine w_nil ?_
        refine x_next ?_
        refine c_seq ?_
        refine c_region ?_
        refine w_pure (y_field rfl) rfl ?_
        refine w_pure (y_load_box rfl) rfl ?_
        refine w_val rfl rfl rfl (sizeW_c) rfl (fun w24 hx24 hz24 => ?_)
        have hz_hx24 := hx24.size
        replace hb4 := hb4.ext hx24
        replace hp1_21 := hp1_21.ext hx24
        replace hb1 := hb1.ext hx24
        replace h := h.ext hx24
        replace E := E.trans hx24
        refine w_pure (y_func rfl) rfl ?_
        (refine w_call rfl rfl rfl (ownWhere_c) rfl ?_; rintro v26 w26 ⟨hp1_26, hx26⟩)
        have hl_hp1_26 := hp1_26.lt
        have hz_hx26 := hx26.size
        replace hb4 := hb4.ext hx26
        replace hp1_21 := hp1_21.ext hx26
        replace hb1 := hb1.ext hx26
        replace h := h.ext hx26
        replace E := E.trans hx26
        refine w_pure (y_assign rfl) rfl ?_
        refine w_nil ?_
        refine x_next ?_
        refine c_seq ?_
        refine c_seq ?_
        refine c_region ?_
        refine w_pure (y_move rfl) rfl ?_
        refine w_pure (y_len rfl) rfl ?_
        refine w_pure (y_gt rfl rfl) rfl ?_
        refine w_nil ?_
        refine x_next ?_
        (refine c_dec rfl (fun hc29 => ?_) (fun hc29 => ?_) <;> try (first | exact absurd rfl hc29 | contradiction | exact Bool.noConfusion (show false = true from hc29.symm.trans (by assumption)) | exact Bool.noConfusion (show true = false from hc29.symm.trans (by assumption)) | (exfalso; omega) | (exfalso; simp only [*, Bool.not_true, Bool.not_false, reduceCtorEq] at hc29; done)))
        refine c_skip ?_
        refine x_next ?_
        refine c_seq ?_
        refine c_region ?_
        refine w_lit (α := Int) rfl rfl rfl rfl rfl rfl rfl rfl (fun v30 w30 ho30 hx30 hl30 hh30 hs30 => ?_)
        have hl_ho30 := ho30.lt
        have hz_hx30 := hx30.size
        replace hp1_26 := hp1_26.ext hx30
        replace hb4 := hb4.ext hx30
        replace hp1_21 := hp1_21.ext hx30
        replace hb1 := hb1.ext hx30
        replace h := h.ext hx30
        replace E := E.trans hx30
        refine w_pure (y_assign rfl) rfl ?_
        refine w_pure (y_assign rfl) rfl ?_
        refine w_nil ?_
        refine x_next ?_
        refine c_seq ?_
        refine c_seq ?_
        refine c_region ?_
        refine w_pure (y_move rfl) rfl ?_
        refine w_pure (y_len rfl) rfl ?_
        refine w_pure (y_shl rfl rfl (by omega) hsh2) rfl ?_
        refine w_pure (y_move rfl) rfl ?_
        refine w_nil ?_
        refine x_next ?_
        refine c_block ?_
        rotate_left
      have s26 := hp1_26.sl
      have t26 := s26.top
      rw [hsh]
      have hbz := BestI.zero (worksP e n j ws) (ownL e n j ws)
      have hdone := fun best f (hb : BestI (worksP e n j ws) (ownL e n j ws) (2 ^ (ownL e n j ws).length) f best) => hb.done (ownL_works hk) (ownL_lt e n j ws)
      have hpc := fun s (hs : s < 2 ^ (ownL e n j ws).length) => decL_pc (ownL e n j ws) s 10 hl hs
      have hdl := fun s => decL_le (ownL e n j ws) s
      have hwk := fun c => works_keep (e := e) (n := n) (j := j) (ws := ws) (c := c)
      generalize ownL e n j ws = own at *
      generalize worksP e n j ws = P at *
      clear hsh hsh2 hp1_26 hp1_21 hb4
      try clear hl_hp1_26
      try clear hl_hp1_21
      refine c_loopC 0 0 (ι := Nat × Value × Bool × List Int) (fun x => [(1, ptr b1 0), (5, v26), (6, x.2.1), (7, .bool x.2.2.1), (33, .int .i64 ((2 ^ own.length : Nat) : Int)), (34, .int .i64 x.1)])
        (fun x w' => Own w' 2 w.heap.size x.2.1 x.2.2.2 ∧ BestI P own x.1 x.2.2.1 x.2.2.2 ∧ x.1 ≤ 2 ^ own.length) (fun x => 2 ^ own.length - x.1) (0, v30, false, []) (by repeat (first | exact trivial | refine ⟨rfl, ?_⟩)) ⟨Own.base (by assumption) (by omega), hbz, Nat.zero_le _⟩ ?_
      clear ho30
      rintro ⟨s, u, f, best⟩ wL hxL EL ⟨g1, g2, g3⟩
      dsimp only at *
      have hzL := hxL.size
      have hbl := g2.len
      by_cases hlt : s < 2 ^ own.length
      · have hp2 := hpc s hlt
        have hd2 := hdl s
        have hlt2 : s < 1024 := Nat.lt_of_lt_of_le hlt hpw
        have e0 : ((s : Int)).toNat = s := rfl
        focus
          have ht_s26 := s26.top
          have hl_g1 := g1.lt
          have hz_hxL := hxL.size
          replace hb1 := hb1.ext hxL
          replace h := h.ext hxL
          replace E := E.trans hxL
          replace s26 := s26.ext hxL
          refine c_seq ?_
          refine c_region ?_
          refine w_pure (y_lt rfl rfl) rfl ?_
          refine w_nil ?_
          refine x_next ?_
          refine c_seq ?_
          (refine c_dec rfl (fun hc35 => ?_) (fun hc35 => ?_) <;> try (first | exact absurd rfl hc35 | contradiction | exact Bool.noConfusion (show false = true from hc35.symm.trans (by assumption)) | exact Bool.noConfusion (show true = false from hc35.symm.trans (by assumption)) | (exfalso; omega) | (exfalso; simp only [*, Bool.not_true, Bool.not_false, reduceCtorEq] at hc35; done)))
          refine c_skip ?_
          refine x_next ?_
          refine c_seq ?_
          refine c_block ?_
          refine c_seq ?_
          refine c_region ?_
          refine w_pure (y_move rfl) rfl ?_
          refine w_pure (y_assign rfl) rfl ?_
          refine w_nil ?_
          refine x_next ?_
          refine c_seq ?_
          refine c_seq ?_
          refine c_region ?_
          refine w_pure (y_move rfl) rfl ?_
          refine w_pure (y_move rfl) rfl ?_
          (refine w_part rfl rfl (fun hc39 => ?_) (fun hc39 => ?_) <;> try (first | exact absurd rfl hc39 | contradiction | exact Bool.noConfusion (show false = true from hc39.symm.trans (by assumption)) | exact Bool.noConfusion (show true = false from hc39.symm.trans (by assumption)) | (exfalso; omega) | (exfalso; simp only [*, Bool.not_true, Bool.not_false, reduceCtorEq] at hc39; done)))
          refine w_yes rfl rfl ?_
          refine w_pure (y_move rfl) rfl ?_
          refine w_yes rfl rfl ?_
          refine w_pure (y_convu rfl (by omega)) rfl ?_
          refine w_yes rfl rfl ?_
          refine w_pur rfl rfl rfl (OnesCount_c _) rfl ?_
          refine w_yes rfl rfl ?_
          refine w_pure (y_move rfl) rfl ?_
          refine w_yes rfl rfl ?_
          refine w_pure (y_len rfl) rfl ?_
          refine w_yes rfl rfl ?_
          refine w_pure (y_gt rfl rfl) rfl ?_
          refine w_pure (y_pick_t rfl rfl) rfl ?_
          refine w_nil ?_
          refine x_next ?_
          (refine c_dec rfl (fun hc45 => ?_) (fun hc45 => ?_) <;> try (first | exact absurd rfl hc45 | contradiction | exact Bool.noConfusion (show false = true from hc45.symm.trans (by assumption)) | exact Bool.noConfusion (show true = false from hc45.symm.trans (by assumption)) | (exfalso; omega) | (exfalso; simp only [*, Bool.not_true, Bool.not_false, reduceCtorEq] at hc45; done)))
          refine c_exit ?_
          refine x_then_exit ?_
          refine x_block_hit ?_
          refine x_next ?_
          refine c_region ?_
          refine w_pure (y_add rfl rfl) rfl ?_
          refine w_pure (y_move rfl) rfl ?_
          refine w_nil ?_
          rotate_left
          refine c_skip ?_
          refine x_next ?_
          refine c_seq ?_
          refine c_region ?_
          refine w_lit (α := Int) rfl rfl rfl rfl rfl rfl rfl rfl (fun v46 w46 ho46 hx46 hl46 hh46 hs46 => ?_)
          have hl_ho46 := ho46.lt
          have hz_hx46 := hx46.size
          replace EL := EL.trans hx46
          replace g1 := g1.ext hx46
          replace hb1 := hb1.ext hx46
          replace h := h.ext hx46
          replace E := E.trans hx46
          replace s26 := s26.ext hx46
          refine w_pure (y_assign rfl) rfl ?_
          refine w_nil ?_
          refine x_next ?_
          refine c_seq ?_
          refine c_seq ?_
          refine c_region ?_
          refine w_pure (y_move rfl) rfl ?_
          refine w_pure (y_len rfl) rfl ?_
          refine w_pure (y_move rfl) rfl ?_
          refine w_nil ?_
          refine x_next ?_
          refine c_block ?_
          rotate_left
          refine w_no rfl rfl rfl rfl ?_
          refine w_no rfl rfl rfl rfl ?_
          refine w_no rfl rfl rfl rfl ?_
          refine w_no rfl rfl rfl rfl ?_
          refine w_no rfl rfl rfl rfl ?_
          refine w_no rfl rfl rfl rfl ?_
          refine w_pure (y_pick_f rfl rfl) rfl ?_
          refine w_nil ?_
          refine x_next ?_
          refine c_false rfl ?_
          refine c_skip ?_
          refine x_next ?_
          refine c_seq ?_
          refine c_region ?_
          refine w_lit (α := Int) rfl rfl rfl rfl rfl rfl rfl rfl (fun v46 w46 ho46 hx46 hl46 hh46 hs46 => ?_)
          have hl_ho46 := ho46.lt
          have hz_hx46 := hx46.size
          replace EL := EL.trans hx46
          replace g1 := g1.ext hx46
          replace hb1 := hb1.ext hx46
          replace h := h.ext hx46
          replace E := E.trans hx46
          replace s26 := s26.ext hx46
          refine w_pure (y_assign rfl) rfl ?_
          refine w_nil ?_
          refine x_next ?_
          refine c_seq ?_
          refine c_seq ?_
          refine c_region ?_
          refine w_pure (y_move rfl) rfl ?_
          refine w_pure (y_len rfl) rfl ?_
          refine w_pure (y_move rfl) rfl ?_
          refine w_nil ?_
          refine x_next ?_
          refine c_block ?_
          rotate_left
        · exact x_again (s + 1, u, f, best) (by repeat (first | exact trivial | refine ⟨rfl, ?_⟩)) ⟨EL.go, by assumption, (by have h9 : (best.length : Int) < ((pcN 10 s : Nat) : Int) := hc45; subst hc39; exact g2.skip (by omega)), hlt⟩ (by dsimp only; omega)
        · skip
          refine c_loopC (bL v46) (bH v46) (ι := Nat × Value) (fun x => [(1, ptr b1 0), (5, v26), (6, u), (7, .bool f), (8, .int .i64 s), (9, x.2), (33, .int .i64 ((2 ^ own.length : Nat) : Int)), (34, .int .i64 s), (47, v26), (48, .int .i64 own.length), (49, .int .i64 x.1)])
            (fun x w' => Own w' 2 (bL v46) x.2 (decL (own.take x.1) s) ∧ x.1 ≤ own.length ∧ ((bL x.2 = bL v46 ∧ bH x.2 = bH v46) ∨ w46.heap.size ≤ bL x.2)) (fun x => own.length - x.1) (0, v46) (by repeat (first | exact trivial | refine ⟨rfl, ?_⟩)) ⟨ho46.rebase (.inr (Nat.le_refl _)), Nat.zero_le _, .inl ⟨rfl, rfl⟩⟩ ?_
          clear ho46
          rintro ⟨i, c⟩ wM hxM EM ⟨c1, c2, c3⟩
          dsimp only at *
          have hzM := hxM.size
          have hdi := decL_le (own.take i) s
          have hti : (own.take i).length = i := by rw [List.length_take]; omega
          by_cases hli : i < own.length
          · have d1 := div_bd s i
            have d2 := and1 s i
            have d3 := decL_take own s i hli
            focus
              have hl_c1 := c1.lt
              have hz_hxM := hxM.size
              replace EL := EL.next hxM (by omega)
              replace g1 := g1.chg hxM (by omega)
              replace hb1 := hb1.chg hxM (by omega)
              replace h := h.chg hxM (by omega)
              replace E := E.next hxM (by omega)
              replace s26 := s26.chg hxM (by omega)
              refine c_seq ?_
              refine c_region ?_
              refine w_pure (y_lt rfl rfl) rfl ?_
              refine w_nil ?_
              refine x_next ?_
              refine c_seq ?_
              (refine c_dec rfl (fun hc50 => ?_) (fun hc50 => ?_) <;> try (first | exact absurd rfl hc50 | contradiction | exact Bool.noConfusion (show false = true from hc50.symm.trans (by assumption)) | exact Bool.noConfusion (show true = false from hc50.symm.trans (by assumption)) | (exfalso; omega) | (exfalso; simp only [*, Bool.not_true, Bool.not_false, reduceCtorEq] at hc50; done)))
              refine c_skip ?_
              refine x_next ?_
              refine c_seq ?_
              refine c_block ?_
              refine c_seq ?_
              refine c_region ?_
              refine w_pure (y_move rfl) rfl ?_
              refine w_pure (y_index rfl rfl) rfl ?_
              refine w_pure (y_load_int rfl) rfl ?_
              refine w_pure (y_assign rfl) rfl ?_
              refine w_pure (y_assign rfl) rfl ?_
              refine w_nil ?_
              refine x_next ?_
              refine c_seq ?_
              refine c_region ?_
              refine w_pure (y_move rfl) rfl ?_
              refine w_pure (y_move rfl) rfl ?_
              refine w_pure (y_shri rfl rfl i rfl (by omega)) rfl ?_
              refine w_pure (y_and rfl rfl (by exact ⟨d1.1, by omega⟩)) rfl ?_
              refine w_pure (y_eq rfl rfl) rfl ?_
              refine w_nil ?_
              refine x_next ?_
              (refine c_dec rfl (fun hc58 => ?_) (fun hc58 => ?_) <;> try (first | exact absurd rfl hc58 | contradiction | exact Bool.noConfusion (show false = true from hc58.symm.trans (by assumption)) | exact Bool.noConfusion (show true = false from hc58.symm.trans (by assumption)) | (exfalso; omega) | (exfalso; simp only [*, Bool.not_true, Bool.not_false, reduceCtorEq] at hc58; done)))
              refine c_region ?_
              refine w_pure (y_move rfl) rfl ?_
              refine w_pure (y_move rfl) rfl ?_
              refine w_lit (α := Int) rfl rfl rfl rfl rfl rfl rfl rfl (fun v61 w61 ho61 hx61 hl61 hh61 hs61 => ?_)
              have hl_ho61 := ho61.lt
              have hz_hx61 := hx61.size
              replace EM := EM.next hx61 (by omega)
              replace c1 := c1.ext hx61
              replace EL := EL.trans hx61
              replace g1 := g1.ext hx61
              replace hb1 := hb1.ext hx61
              replace h := h.ext hx61
              replace E := E.trans hx61
              replace s26 := s26.ext hx61
              refine w_append rfl rfl (k := fun v62 w62 ho62 hx62 hr62 => ?_)
              have hl_ho62 := ho62.lt
              have hz_hx62 := hx62.size
              replace ho61 := ho61.chg hx62 (by omega)
              replace EM := EM.next hx62 (by omega)
              replace EL := EL.next hx62 (by omega)
              replace g1 := g1.chg hx62 (by omega)
              replace hb1 := hb1.chg hx62 (by omega)
              replace h := h.chg hx62 (by omega)
              replace E := E.next hx62 (by omega)
              replace s26 := s26.chg hx62 (by omega)
              refine w_pure (y_assign rfl) rfl ?_
              refine w_nil ?_
              refine x_block_norm ?_
              refine x_next ?_
              refine c_region ?_
              refine w_pure (y_add rfl rfl) rfl ?_
              refine w_pure (y_move rfl) rfl ?_
              refine w_nil ?_
              rotate_left
              refine c_skip ?_
              refine x_block_norm ?_
              refine x_next ?_
              refine c_region ?_
              refine w_pure (y_add rfl rfl) rfl ?_
              refine w_pure (y_move rfl) rfl ?_
              refine w_nil ?_
              rotate_left
            · refine x_again (i + 1, v62) (by repeat (first | exact trivial | refine ⟨rfl, ?_⟩)) ⟨EM.go, ?_, by dsimp only; omega, by dsimp only; omega⟩ (by dsimp only; omega)
              dsimp only
              rw [d3, if_pos (by omega)]
              assumption
            · refine x_again (i + 1, c) (by repeat (first | exact trivial | refine ⟨rfl, ?_⟩)) ⟨EM.go, ?_, by dsimp only; omega, by dsimp only; omega⟩ (by dsimp only; omega)
              dsimp only
              rw [d3, if_neg (by omega), List.append_nil]
              assumption
          · rw [List.take_of_length_le (by omega)] at c1
            focus
              have hl_c1 := c1.lt
              have hz_hxM := hxM.size
              replace EL := EL.next hxM (by omega)
              replace g1 := g1.chg hxM (by omega)
              replace hb1 := hb1.chg hxM (by omega)
              replace h := h.chg hxM (by omega)
              replace E := E.next hxM (by omega)
              replace s26 := s26.chg hxM (by omega)
              refine c_seq ?_
              refine c_region ?_
              refine w_pure (y_lt rfl rfl) rfl ?_
              refine w_nil ?_
              refine x_next ?_
              refine c_seq ?_
              (refine c_dec rfl (fun hc50 => ?_) (fun hc50 => ?_) <;> try (first | exact absurd rfl hc50 | contradiction | exact Bool.noConfusion (show false = true from hc50.symm.trans (by assumption)) | exact Bool.noConfusion (show true = false from hc50.symm.trans (by assumption)) | (exfalso; omega) | (exfalso; simp only [*, Bool.not_true, Bool.not_false, reduceCtorEq] at hc50; done)))
              refine c_exit ?_
              refine x_then_exit ?_
              refine x_then_exit ?_
              refine x_block_hit ?_
              refine x_next ?_
              refine c_seq ?_
              refine c_region ?_
              refine w_lit (α := (Int × Int)) rfl rfl rfl rfl rfl rfl rfl rfl (fun v64 w64 ho64 hx64 hl64 hh64 hs64 => ?_)
              have hl_ho64 := ho64.lt
              have hz_hx64 := hx64.size
              replace EM := EM.next hx64 (by omega)
              replace c1 := c1.ext hx64
              replace EL := EL.trans hx64
              replace g1 := g1.ext hx64
              replace hb1 := hb1.ext hx64
              replace h := h.ext hx64
              replace E := E.trans hx64
              replace s26 := s26.ext hx64
              refine w_pure (y_assign rfl) rfl ?_
              refine w_nil ?_
              refine x_next ?_
              refine c_seq ?_
              refine c_seq ?_
              refine c_region ?_
              refine w_pure (y_field rfl) rfl ?_
              refine w_pure (y_load_box rfl) rfl ?_
              refine w_pure (y_len rfl) rfl ?_
              refine w_pure (y_move rfl) rfl ?_
              refine w_nil ?_
              refine x_next ?_
              refine c_block ?_
              rotate_left
            refine c_loopC (bL v64) (bH v64) (ι := Nat × Value) (fun x => [(1, ptr b1 0), (5, v26), (6, u), (7, .bool f), (9, c), (12, x.2), (33, .int .i64 ((2 ^ own.length : Nat) : Int)), (34, .int .i64 s), (66, v), (67, .int .i64 ws.length), (68, .int .i64 x.1)])
              (fun x w' => Own w' 76 (bL v64) x.2 (keepW ws (decL own s) x.1) ∧ x.1 ≤ ws.length ∧ ((bL x.2 = bL v64 ∧ bH x.2 = bH v64) ∨ w64.heap.size ≤ bL x.2)) (fun x => ws.length - x.1) (0, v64) (by repeat (first | exact trivial | refine ⟨rfl, ?_⟩)) ⟨ho64.rebase (.inr (Nat.le_refl _)), Nat.zero_le _, .inl ⟨rfl, rfl⟩⟩ ?_
            clear ho64
            rintro ⟨m, lf⟩ wK hxK EK ⟨k1, k2, k3⟩
            dsimp only at *
            have hzK := hxK.size
            have hkl := keepW_len ws (decL own s) m
            by_cases hlm : m < ws.length
            · focus
                have hl_k1 := k1.lt
                have hz_hxK := hxK.size
                replace EM := EM.next hxK (by omega)
                replace c1 := c1.chg hxK (by omega)
                replace EL := EL.next hxK (by omega)
                replace g1 := g1.chg hxK (by omega)
                replace hb1 := hb1.chg hxK (by omega)
                replace h := h.chg hxK (by omega)
                replace E := E.next hxK (by omega)
                replace s26 := s26.chg hxK (by omega)
                refine c_seq ?_
                refine c_region ?_
                refine w_pure (y_lt rfl rfl) rfl ?_
                refine w_nil ?_
                refine x_next ?_
                refine c_seq ?_
                (refine c_dec rfl (fun hc69 => ?_) (fun hc69 => ?_) <;> try (first | exact absurd rfl hc69 | contradiction | exact Bool.noConfusion (show false = true from hc69.symm.trans (by assumption)) | exact Bool.noConfusion (show true = false from hc69.symm.trans (by assumption)) | (exfalso; omega) | (exfalso; simp only [*, Bool.not_true, Bool.not_false, reduceCtorEq] at hc69; done)))
                refine c_skip ?_
                refine x_next ?_
                refine c_seq ?_
                refine c_block ?_
                refine c_seq ?_
                refine c_region ?_
                refine w_pure (y_move rfl) rfl ?_
                refine w_pure (y_index rfl rfl) rfl ?_
                refine w_pure (y_load_pair rfl) rfl ?_
                refine w_alloc (k := fun b14 w14 hb14 hx14 hl14 hs14 => ?_)
                have hz_hx14 := hx14.size
                replace EK := EK.next hx14 (by omega)
                replace k1 := k1.ext hx14
                replace EM := EM.next hx14 (by omega)
                replace c1 := c1.ext hx14
                replace EL := EL.trans hx14
                replace g1 := g1.ext hx14
                replace hb1 := hb1.ext hx14
                replace h := h.ext hx14
                replace E := E.trans hx14
                replace s26 := s26.ext hx14
                refine w_pure (y_assign rfl) rfl ?_
                refine w_store_boxs rfl rfl (next := fun ws19 hbs19 hxs19 hss19 => ?_)
                (replace hb14 := hbs19; clear hbs19)
                have hz_hxs19 := hxs19.size
                replace EK := EK.next hxs19 (by omega)
                replace k1 := k1.chg hxs19 (by omega)
                replace EM := EM.next hxs19 (by omega)
                replace c1 := c1.chg hxs19 (by omega)
                replace EL := EL.next hxs19 (by omega)
                replace g1 := g1.chg hxs19 (by omega)
                replace hb1 := hb1.chg hxs19 (by omega)
                replace h := h.chg hxs19 (by omega)
                replace E := E.next hxs19 (by omega)
                replace s26 := s26.chg hxs19 (by omega)
                refine w_nil ?_
                refine x_next ?_
                refine c_seq ?_
                refine c_region ?_
                refine w_pure (y_move rfl) rfl ?_
                refine w_pure (y_move rfl) rfl ?_
                refine w_val rfl rfl rfl (ContainsI_c _) rfl (fun w75 hx75 hz75 => ?_)
                have hz_hx75 := hx75.size
                replace hb14 := hb14.ext hx75
                replace EK := EK.next hx75 (by omega)
                replace k1 := k1.ext hx75
                replace EM := EM.next hx75 (by omega)
                replace c1 := c1.ext hx75
                replace EL := EL.trans hx75
                replace g1 := g1.ext hx75
                replace hb1 := hb1.ext hx75
                replace h := h.ext hx75
                replace E := E.trans hx75
                replace s26 := s26.ext hx75
                refine w_pure (y_not_dec rfl) rfl ?_
                refine w_nil ?_
                refine x_next ?_
                (refine c_dec rfl (fun hc76 => ?_) (fun hc76 => ?_) <;> try (first | exact absurd rfl hc76 | contradiction | exact Bool.noConfusion (show false = true from hc76.symm.trans (by assumption)) | exact Bool.noConfusion (show true = false from hc76.symm.trans (by assumption)) | (exfalso; omega) | (exfalso; simp only [*, Bool.not_true, Bool.not_false, reduceCtorEq] at hc76; done)))
                refine c_region ?_
                refine w_pure (y_move rfl) rfl ?_
                refine w_pure (y_load_boxs rfl) rfl ?_
                refine w_lit (α := (Int × Int)) rfl rfl rfl rfl rfl rfl rfl rfl (fun v79 w79 ho79 hx79 hl79 hh79 hs79 => ?_)
                have hl_ho79 := ho79.lt
                have hz_hx79 := hx79.size
                replace hb14 := hb14.ext hx79
                replace EK := EK.next hx79 (by omega)
                replace k1 := k1.ext hx79
                replace EM := EM.next hx79 (by omega)
                replace c1 := c1.ext hx79
                replace EL := EL.trans hx79
                replace g1 := g1.ext hx79
                replace hb1 := hb1.ext hx79
                replace h := h.ext hx79
                replace E := E.trans hx79
                replace s26 := s26.ext hx79
                refine w_append rfl rfl (k := fun v80 w80 ho80 hx80 hr80 => ?_)
                have hl_ho80 := ho80.lt
                have hz_hx80 := hx80.size
                replace ho79 := ho79.chg hx80 (by omega)
                replace hb14 := hb14.chg hx80 (by omega)
                replace EK := EK.next hx80 (by omega)
                replace EM := EM.next hx80 (by omega)
                replace c1 := c1.chg hx80 (by omega)
                replace EL := EL.next hx80 (by omega)
                replace g1 := g1.chg hx80 (by omega)
                replace hb1 := hb1.chg hx80 (by omega)
                replace h := h.chg hx80 (by omega)
                replace E := E.next hx80 (by omega)
                replace s26 := s26.chg hx80 (by omega)
                refine w_pure (y_assign rfl) rfl ?_
                refine w_nil ?_
                refine x_block_norm ?_
                refine x_next ?_
                refine c_region ?_
                refine w_pure (y_add rfl rfl) rfl ?_
                refine w_pure (y_move rfl) rfl ?_
                refine w_nil ?_
                rotate_left
                refine c_skip ?_
                refine x_block_norm ?_
                refine x_next ?_
                refine c_region ?_
                refine w_pure (y_add rfl rfl) rfl ?_
                refine w_pure (y_move rfl) rfl ?_
                refine w_nil ?_
                rotate_left
              all_goals first
                | (refine x_again (m + 1, v80) (by repeat (first | exact trivial | refine ⟨rfl, ?_⟩)) ⟨EK.go, ?_, by dsimp only; omega, by dsimp only; omega⟩ (by dsimp only; omega)
                   dsimp only
                   rw [keepW, if_neg hc76]
                   assumption)
                | (refine x_again (m + 1, lf) (by repeat (first | exact trivial | refine ⟨rfl, ?_⟩)) ⟨EK.go, ?_, by dsimp only; omega, by dsimp only; omega⟩ (by dsimp only; omega)
                   dsimp only
                   rw [keepW, if_pos (Decidable.not_not.1 hc76)]
                   assumption)
            · obtain rfl : m = ws.length := by omega
              have hkw := keepW_ok hk (decL own s)
              have hwd := hwk (decL own s)
              have hle : f = true → (decL own s).length ≤ best.length := fun _ => by have h9 : ¬ (best.length : Int) < ((pcN 10 s : Nat) : Int) := hc45; omega
              focus
                have hl_k1 := k1.lt
                have hz_hxK := hxK.size
                replace EM := EM.next hxK (by omega)
                replace c1 := c1.chg hxK (by omega)
                replace EL := EL.next hxK (by omega)
                replace g1 := g1.chg hxK (by omega)
                replace hb1 := hb1.chg hxK (by omega)
                replace h := h.chg hxK (by omega)
                replace E := E.next hxK (by omega)
                replace s26 := s26.chg hxK (by omega)
                refine c_seq ?_
                refine c_region ?_
                refine w_pure (y_lt rfl rfl) rfl ?_
                refine w_nil ?_
                refine x_next ?_
                refine c_seq ?_
                (refine c_dec rfl (fun hc69 => ?_) (fun hc69 => ?_) <;> try (first | exact absurd rfl hc69 | contradiction | exact Bool.noConfusion (show false = true from hc69.symm.trans (by assumption)) | exact Bool.noConfusion (show true = false from hc69.symm.trans (by assumption)) | (exfalso; omega) | (exfalso; simp only [*, Bool.not_true, Bool.not_false, reduceCtorEq] at hc69; done)))
                refine c_exit ?_
                refine x_then_exit ?_
                refine x_then_exit ?_
                refine x_block_hit ?_
                refine x_next ?_
                refine c_seq ?_
                refine c_region ?_
                refine w_pure (y_load_boxs rfl) rfl ?_
                refine w_pure (y_move rfl) rfl ?_
                (refine w_call rfl rfl rfl (sneakPairs_c) rfl ?_; rintro v84 w84 ⟨sus84, ⟨hp1_84, hx84⟩⟩)
                have hl_hp1_84 := hp1_84.lt
                have hz_hx84 := hx84.size
                replace EK := EK.next hx84 (by omega)
                replace k1 := k1.ext hx84
                replace EM := EM.next hx84 (by omega)
                replace c1 := c1.ext hx84
                replace EL := EL.trans hx84
                replace g1 := g1.ext hx84
                replace hb1 := hb1.ext hx84
                replace h := h.ext hx84
                replace E := E.trans hx84
                replace s26 := s26.ext hx84
                refine w_pure (y_lend rfl) rfl ?_
                refine w_pure (y_eq rfl rfl) rfl ?_
                refine w_pure (y_move rfl) rfl ?_
                (refine w_part_dec rfl rfl (fun hc88 => ?_) (fun hc88 => ?_) <;> try (first | exact absurd rfl hc88 | contradiction | exact Bool.noConfusion (show false = true from hc88.symm.trans (by assumption)) | exact Bool.noConfusion (show true = false from hc88.symm.trans (by assumption)) | (exfalso; omega) | (exfalso; simp only [*, Bool.not_true, Bool.not_false, reduceCtorEq] at hc88; done)))
                refine w_yes rfl rfl ?_
                refine w_pure (y_move rfl) rfl ?_
                refine w_yes rfl rfl ?_
                refine w_pure (y_not rfl) rfl ?_
                refine w_yes rfl rfl ?_
                refine w_pure (y_move rfl) rfl ?_
                (refine w_part rfl rfl (fun hc91 => ?_) (fun hc91 => ?_) <;> try (first | exact absurd rfl hc91 | contradiction | exact Bool.noConfusion (show false = true from hc91.symm.trans (by assumption)) | exact Bool.noConfusion (show true = false from hc91.symm.trans (by assumption)) | (exfalso; omega) | (exfalso; simp only [*, Bool.not_true, Bool.not_false, reduceCtorEq] at hc91; done)))
                refine w_yes rfl rfl ?_
                refine w_pure (y_move rfl) rfl ?_
                refine w_yes rfl rfl ?_
                refine w_pure (y_len rfl) rfl ?_
                refine w_yes rfl rfl ?_
                refine w_pure (y_move rfl) rfl ?_
                refine w_yes rfl rfl ?_
                refine w_pure (y_len rfl) rfl ?_
                refine w_yes rfl rfl ?_
                refine w_pure (y_lt rfl rfl) rfl ?_
                refine w_yes rfl rfl ?_
                refine w_pure (y_pick_f rfl rfl) rfl ?_
                refine w_yes rfl rfl ?_
                refine w_pure (y_move rfl) rfl ?_
                (refine w_part_dec rfl rfl (fun hc98 => ?_) (fun hc98 => ?_) <;> try (first | exact absurd rfl hc98 | contradiction | exact Bool.noConfusion (show false = true from hc98.symm.trans (by assumption)) | exact Bool.noConfusion (show true = false from hc98.symm.trans (by assumption)) | (exfalso; omega) | (exfalso; simp only [*, Bool.not_true, Bool.not_false, reduceCtorEq] at hc98; done)))
                refine w_no rfl rfl rfl rfl ?_
                refine w_no rfl rfl rfl rfl ?_
                refine w_no rfl rfl rfl rfl ?_
                refine w_no rfl rfl rfl rfl ?_
                refine w_yes rfl rfl ?_
                refine w_pure (y_pick_t rfl rfl) rfl ?_
                refine w_pure (y_pick_t rfl rfl) rfl ?_
                refine w_nil ?_
                refine x_next ?_
                refine c_true rfl ?_
                refine c_region ?_
                refine w_pure (y_move rfl) rfl ?_
                refine w_pure (y_assign rfl) rfl ?_
                refine w_pure (y_assign rfl) rfl ?_
                refine w_nil ?_
                refine x_block_norm ?_
                refine x_next ?_
                refine c_region ?_
                refine w_pure (y_add rfl rfl) rfl ?_
                refine w_pure (y_move rfl) rfl ?_
                refine w_nil ?_
                rotate_left
                refine w_yes rfl rfl ?_
                refine w_pure (y_move rfl) rfl ?_
                refine w_yes rfl rfl ?_
                refine w_pure (y_move rfl) rfl ?_
                refine w_yes rfl rfl ?_
                refine w_val rfl rfl rfl (CompareI_c) rfl (fun w100 hx100 hz100 => ?_)
                have hz_hx100 := hx100.size
                replace hp1_84 := hp1_84.ext hx100
                replace EK := EK.next hx100 (by omega)
                replace k1 := k1.ext hx100
                replace EM := EM.next hx100 (by omega)
                replace c1 := c1.ext hx100
                replace EL := EL.trans hx100
                replace g1 := g1.ext hx100
                replace hb1 := hb1.ext hx100
                replace h := h.ext hx100
                replace E := E.trans hx100
                replace s26 := s26.ext hx100
                refine w_yes rfl rfl ?_
                refine w_pure (y_lt rfl rfl) rfl ?_
                refine w_yes rfl rfl ?_
                refine w_pure (y_pick_f rfl rfl) rfl ?_
                refine w_pure (y_pick_t rfl rfl) rfl ?_
                refine w_nil ?_
                refine x_next ?_
                (refine c_dec rfl (fun hc103 => ?_) (fun hc103 => ?_) <;> try (first | exact absurd rfl hc103 | contradiction | exact Bool.noConfusion (show false = true from hc103.symm.trans (by assumption)) | exact Bool.noConfusion (show true = false from hc103.symm.trans (by assumption)) | (exfalso; omega) | (exfalso; simp only [*, Bool.not_true, Bool.not_false, reduceCtorEq] at hc103; done)))
                refine c_region ?_
                refine w_pure (y_move rfl) rfl ?_
                refine w_pure (y_assign rfl) rfl ?_
                refine w_pure (y_assign rfl) rfl ?_
                refine w_nil ?_
                refine x_block_norm ?_
                refine x_next ?_
                refine c_region ?_
                refine w_pure (y_add rfl rfl) rfl ?_
                refine w_pure (y_move rfl) rfl ?_
                refine w_nil ?_
                rotate_left
                refine c_skip ?_
                refine x_block_norm ?_
                refine x_next ?_
                refine c_region ?_
                refine w_pure (y_add rfl rfl) rfl ?_
                refine w_pure (y_move rfl) rfl ?_
                refine w_nil ?_
                rotate_left
                refine w_no rfl rfl rfl rfl ?_
                refine w_no rfl rfl rfl rfl ?_
                refine w_no rfl rfl rfl rfl ?_
                refine w_none rfl rfl rfl ?_
                refine w_none rfl rfl rfl ?_
                refine w_none rfl rfl rfl ?_
                refine w_none rfl rfl rfl ?_
                refine w_none rfl rfl rfl ?_
                refine w_no rfl rfl rfl rfl ?_
                refine w_no rfl rfl rfl rfl ?_
                refine w_none rfl rfl rfl ?_
                refine w_none rfl rfl rfl ?_
                refine w_none rfl rfl rfl ?_
                refine w_none rfl rfl rfl ?_
                refine w_no rfl rfl rfl rfl ?_
                refine w_pure (y_pick_f rfl rfl) rfl ?_
                refine w_nil ?_
                refine x_next ?_
                refine c_false rfl ?_
                refine c_skip ?_
                refine x_block_norm ?_
                refine x_next ?_
                refine c_region ?_
                refine w_pure (y_add rfl rfl) rfl ?_
                refine w_pure (y_move rfl) rfl ?_
                refine w_nil ?_
                rotate_left
              all_goals first
                | (have hp : P (decL own s) = true := by rw [hwd]; exact decide_eq_true (by omega)
                   first
                     | (have g0 : ((decL own s).length : Int) < (best.length : Int) := hc98; exact x_again (s + 1, c, true, decL own s) (by repeat (first | exact trivial | refine ⟨rfl, ?_⟩)) ⟨EL.go, Own.base (by assumption) (by omega), g2.take hp (fun _ => .inl (by omega)), hlt⟩ (by dsimp only; omega))
                     | (have g0 : cmpL (decL own s) best < 0 := hc103; exact x_again (s + 1, c, true, decL own s) (by repeat (first | exact trivial | refine ⟨rfl, ?_⟩)) ⟨EL.go, Own.base (by assumption) (by omega), g2.take hp (fun _ => .inr ⟨by have := hle hc39; omega, (cmpL_lt _ _).1 hc103⟩), hlt⟩ (by dsimp only; omega))
                     | (have g0 : f = false := hc39; exact x_again (s + 1, c, true, decL own s) (by repeat (first | exact trivial | refine ⟨rfl, ?_⟩)) ⟨EL.go, Own.base (by assumption) (by omega), g2.take hp (fun g => Bool.noConfusion (g0.symm.trans g)), hlt⟩ (by dsimp only; omega))
                     | (have g0 : ¬ cmpL (decL own s) best < 0 := hc103; exact x_again (s + 1, u, f, best) (by repeat (first | exact trivial | refine ⟨rfl, ?_⟩)) ⟨EL.go, by assumption, g2.stay (fun _ => ⟨hc39, fun g => by rcases g with g | g; omega; exact hc103 ((cmpL_lt _ _).2 g.2)⟩), hlt⟩ (by dsimp only; omega)))
                | exact x_again (s + 1, u, f, best) (by repeat (first | exact trivial | refine ⟨rfl, ?_⟩)) ⟨EL.go, by assumption, g2.stay (fun hp => by rw [hwd] at hp; have := of_decide_eq_true hp; omega), hlt⟩ (by dsimp only; omega)
        · skip
          refine c_loopC (bL v46) (bH v46) (ι := Nat × Value) (fun x => [(1, ptr b1 0), (5, v26), (6, u), (7, .bool f), (8, .int .i64 s), (9, x.2), (33, .int .i64 ((2 ^ own.length : Nat) : Int)), (34, .int .i64 s), (47, v26), (48, .int .i64 own.length), (49, .int .i64 x.1)])
            (fun x w' => Own w' 2 (bL v46) x.2 (decL (own.take x.1) s) ∧ x.1 ≤ own.length ∧ ((bL x.2 = bL v46 ∧ bH x.2 = bH v46) ∨ w46.heap.size ≤ bL x.2)) (fun x => own.length - x.1) (0, v46) (by repeat (first | exact trivial | refine ⟨rfl, ?_⟩)) ⟨ho46.rebase (.inr (Nat.le_refl _)), Nat.zero_le _, .inl ⟨rfl, rfl⟩⟩ ?_
          clear ho46
          rintro ⟨i, c⟩ wM hxM EM ⟨c1, c2, c3⟩
          dsimp only at *
          have hzM := hxM.size
          have hdi := decL_le (own.take i) s
          have hti : (own.take i).length = i := by rw [List.length_take]; omega
          by_cases hli : i < own.length
          · have d1 := div_bd s i
            have d2 := and1 s i
            have d3 := decL_take own s i hli
            focus
              have hl_c1 := c1.lt
              have hz_hxM := hxM.size
              replace EL := EL.next hxM (by omega)
              replace g1 := g1.chg hxM (by omega)
              replace hb1 := hb1.chg hxM (by omega)
              replace h := h.chg hxM (by omega)
              replace E := E.next hxM (by omega)
              replace s26 := s26.chg hxM (by omega)
              refine c_seq ?_
              refine c_region ?_
              refine w_pure (y_lt rfl rfl) rfl ?_
              refine w_nil ?_
              refine x_next ?_
              refine c_seq ?_
              (refine c_dec rfl (fun hc50 => ?_) (fun hc50 => ?_) <;> try (first | exact absurd rfl hc50 | contradiction | exact Bool.noConfusion (show false = true from hc50.symm.trans (by assumption)) | exact Bool.noConfusion (show true = false from hc50.symm.trans (by assumption)) | (exfalso; omega) | (exfalso; simp only [*, Bool.not_true, Bool.not_false, reduceCtorEq] at hc50; done)))
              refine c_skip ?_
              refine x_next ?_
              refine c_seq ?_
              refine c_block ?_
              refine c_seq ?_
              refine c_region ?_
              refine w_pure (y_move rfl) rfl ?_
              refine w_pure (y_index rfl rfl) rfl ?_
              refine w_pure (y_load_int rfl) rfl ?_
              refine w_pure (y_assign rfl) rfl ?_
              refine w_pure (y_assign rfl) rfl ?_
              refine w_nil ?_
              refine x_next ?_
              refine c_seq ?_
              refine c_region ?_
              refine w_pure (y_move rfl) rfl ?_
              refine w_pure (y_move rfl) rfl ?_
              refine w_pure (y_shri rfl rfl i rfl (by omega)) rfl ?_
              refine w_pure (y_and rfl rfl (by exact ⟨d1.1, by omega⟩)) rfl ?_
              refine w_pure (y_eq rfl rfl) rfl ?_
              refine w_nil ?_
              refine x_next ?_
              (refine c_dec rfl (fun hc58 => ?_) (fun hc58 => ?_) <;> try (first | exact absurd rfl hc58 | contradiction | exact Bool.noConfusion (show false = true from hc58.symm.trans (by assumption)) | exact Bool.noConfusion (show true = false from hc58.symm.trans (by assumption)) | (exfalso; omega) | (exfalso; simp only [*, Bool.not_true, Bool.not_false, reduceCtorEq] at hc58; done)))
              refine c_region ?_
              refine w_pure (y_move rfl) rfl ?_
              refine w_pure (y_move rfl) rfl ?_
              refine w_lit (α := Int) rfl rfl rfl rfl rfl rfl rfl rfl (fun v61 w61 ho61 hx61 hl61 hh61 hs61 => ?_)
              have hl_ho61 := ho61.lt
              have hz_hx61 := hx61.size
              replace EM := EM.next hx61 (by omega)
              replace c1 := c1.ext hx61
              replace EL := EL.trans hx61
              replace g1 := g1.ext hx61
              replace hb1 := hb1.ext hx61
              replace h := h.ext hx61
              replace E := E.trans hx61
              replace s26 := s26.ext hx61
              refine w_append rfl rfl (k := fun v62 w62 ho62 hx62 hr62 => ?_)
              have hl_ho62 := ho62.lt
              have hz_hx62 := hx62.size
              replace ho61 := ho61.chg hx62 (by omega)
              replace EM := EM.next hx62 (by omega)
              replace EL := EL.next hx62 (by omega)
              replace g1 := g1.chg hx62 (by omega)
              replace hb1 := hb1.chg hx62 (by omega)
              replace h := h.chg hx62 (by omega)
              replace E := E.next hx62 (by omega)
              replace s26 := s26.chg hx62 (by omega)
              refine w_pure (y_assign rfl) rfl ?_
              refine w_nil ?_
              refine x_block_norm ?_
              refine x_next ?_
              refine c_region ?_
              refine w_pure (y_add rfl rfl) rfl ?_
              refine w_pure (y_move rfl) rfl ?_
              refine w_nil ?_
              rotate_left
              refine c_skip ?_
              refine x_block_norm ?_
              refine x_next ?_
              refine c_region ?_
              refine w_pure (y_add rfl rfl) rfl ?_
              refine w_pure (y_move rfl) rfl ?_
              refine w_nil ?_
              rotate_left
            · refine x_again (i + 1, v62) (by repeat (first | exact trivial | refine ⟨rfl, ?_⟩)) ⟨EM.go, ?_, by dsimp only; omega, by dsimp only; omega⟩ (by dsimp only; omega)
              dsimp only
              rw [d3, if_pos (by omega)]
              assumption
            · refine x_again (i + 1, c) (by repeat (first | exact trivial | refine ⟨rfl, ?_⟩)) ⟨EM.go, ?_, by dsimp only; omega, by dsimp only; omega⟩ (by dsimp only; omega)
              dsimp only
              rw [d3, if_neg (by omega), List.append_nil]
              assumption
          · rw [List.take_of_length_le (by omega)] at c1
            focus
              have hl_c1 := c1.lt
              have hz_hxM := hxM.size
              replace EL := EL.next hxM (by omega)
              replace g1 := g1.chg hxM (by omega)
              replace hb1 := hb1.chg hxM (by omega)
              replace h := h.chg hxM (by omega)
              replace E := E.next hxM (by omega)
              replace s26 := s26.chg hxM (by omega)
              refine c_seq ?_
              refine c_region ?_
              refine w_pure (y_lt rfl rfl) rfl ?_
              refine w_nil ?_
              refine x_next ?_
              refine c_seq ?_
              (refine c_dec rfl (fun hc50 => ?_) (fun hc50 => ?_) <;> try (first | exact absurd rfl hc50 | contradiction | exact Bool.noConfusion (show false = true from hc50.symm.trans (by assumption)) | exact Bool.noConfusion (show true = false from hc50.symm.trans (by assumption)) | (exfalso; omega) | (exfalso; simp only [*, Bool.not_true, Bool.not_false, reduceCtorEq] at hc50; done)))
              refine c_exit ?_
              refine x_then_exit ?_
              refine x_then_exit ?_
              refine x_block_hit ?_
              refine x_next ?_
              refine c_seq ?_
              refine c_region ?_
              refine w_lit (α := (Int × Int)) rfl rfl rfl rfl rfl rfl rfl rfl (fun v64 w64 ho64 hx64 hl64 hh64 hs64 => ?_)
              have hl_ho64 := ho64.lt
              have hz_hx64 := hx64.size
              replace EM := EM.next hx64 (by omega)
              replace c1 := c1.ext hx64
              replace EL := EL.trans hx64
              replace g1 := g1.ext hx64
              replace hb1 := hb1.ext hx64
              replace h := h.ext hx64
              replace E := E.trans hx64
              replace s26 := s26.ext hx64
              refine w_pure (y_assign rfl) rfl ?_
              refine w_nil ?_
              refine x_next ?_
              refine c_seq ?_
              refine c_seq ?_
              refine c_region ?_
              refine w_pure (y_field rfl) rfl ?_
              refine w_pure (y_load_box rfl) rfl ?_
              refine w_pure (y_len rfl) rfl ?_
              refine w_pure (y_move rfl) rfl ?_
              refine w_nil ?_
              refine x_next ?_
              refine c_block ?_
              rotate_left
            refine c_loopC (bL v64) (bH v64) (ι := Nat × Value) (fun x => [(1, ptr b1 0), (5, v26), (6, u), (7, .bool f), (9, c), (12, x.2), (33, .int .i64 ((2 ^ own.length : Nat) : Int)), (34, .int .i64 s), (66, v), (67, .int .i64 ws.length), (68, .int .i64 x.1)])
              (fun x w' => Own w' 76 (bL v64) x.2 (keepW ws (decL own s) x.1) ∧ x.1 ≤ ws.length ∧ ((bL x.2 = bL v64 ∧ bH x.2 = bH v64) ∨ w64.heap.size ≤ bL x.2)) (fun x => ws.length - x.1) (0, v64) (by repeat (first | exact trivial | refine ⟨rfl, ?_⟩)) ⟨ho64.rebase (.inr (Nat.le_refl _)), Nat.zero_le _, .inl ⟨rfl, rfl⟩⟩ ?_
            clear ho64
            rintro ⟨m, lf⟩ wK hxK EK ⟨k1, k2, k3⟩
            dsimp only at *
            have hzK := hxK.size
            have hkl := keepW_len ws (decL own s) m
            by_cases hlm : m < ws.length
            · focus
                have hl_k1 := k1.lt
                have hz_hxK := hxK.size
                replace EM := EM.next hxK (by omega)
                replace c1 := c1.chg hxK (by omega)
                replace EL := EL.next hxK (by omega)
                replace g1 := g1.chg hxK (by omega)
                replace hb1 := hb1.chg hxK (by omega)
                replace h := h.chg hxK (by omega)
                replace E := E.next hxK (by omega)
                replace s26 := s26.chg hxK (by omega)
                refine c_seq ?_
                refine c_region ?_
                refine w_pure (y_lt rfl rfl) rfl ?_
                refine w_nil ?_
                refine x_next ?_
                refine c_seq ?_
                (refine c_dec rfl (fun hc69 => ?_) (fun hc69 => ?_) <;> try (first | exact absurd rfl hc69 | contradiction | exact Bool.noConfusion (show false = true from hc69.symm.trans (by assumption)) | exact Bool.noConfusion (show true = false from hc69.symm.trans (by assumption)) | (exfalso; omega) | (exfalso; simp only [*, Bool.not_true, Bool.not_false, reduceCtorEq] at hc69; done)))
                refine c_skip ?_
                refine x_next ?_
                refine c_seq ?_
                refine c_block ?_
                refine c_seq ?_
                refine c_region ?_
                refine w_pure (y_move rfl) rfl ?_
                refine w_pure (y_index rfl rfl) rfl ?_
                refine w_pure (y_load_pair rfl) rfl ?_
                refine w_alloc (k := fun b14 w14 hb14 hx14 hl14 hs14 => ?_)
                have hz_hx14 := hx14.size
                replace EK := EK.next hx14 (by omega)
                replace k1 := k1.ext hx14
                replace EM := EM.next hx14 (by omega)
                replace c1 := c1.ext hx14
                replace EL := EL.trans hx14
                replace g1 := g1.ext hx14
                replace hb1 := hb1.ext hx14
                replace h := h.ext hx14
                replace E := E.trans hx14
                replace s26 := s26.ext hx14
                refine w_pure (y_assign rfl) rfl ?_
                refine w_store_boxs rfl rfl (next := fun ws19 hbs19 hxs19 hss19 => ?_)
                (replace hb14 := hbs19; clear hbs19)
                have hz_hxs19 := hxs19.size
                replace EK := EK.next hxs19 (by omega)
                replace k1 := k1.chg hxs19 (by omega)
                replace EM := EM.next hxs19 (by omega)
                replace c1 := c1.chg hxs19 (by omega)
                replace EL := EL.next hxs19 (by omega)
                replace g1 := g1.chg hxs19 (by omega)
                replace hb1 := hb1.chg hxs19 (by omega)
                replace h := h.chg hxs19 (by omega)
                replace E := E.next hxs19 (by omega)
                replace s26 := s26.chg hxs19 (by omega)
                refine w_nil ?_
                refine x_next ?_
                refine c_seq ?_
                refine c_region ?_
                refine w_pure (y_move rfl) rfl ?_
                refine w_pure (y_move rfl) rfl ?_
                refine w_val rfl rfl rfl (ContainsI_c _) rfl (fun w75 hx75 hz75 => ?_)
                have hz_hx75 := hx75.size
                replace hb14 := hb14.ext hx75
                replace EK := EK.next hx75 (by omega)
                replace k1 := k1.ext hx75
                replace EM := EM.next hx75 (by omega)
                replace c1 := c1.ext hx75
                replace EL := EL.trans hx75
                replace g1 := g1.ext hx75
                replace hb1 := hb1.ext hx75
                replace h := h.ext hx75
                replace E := E.trans hx75
                replace s26 := s26.ext hx75
                refine w_pure (y_not_dec rfl) rfl ?_
                refine w_nil ?_
                refine x_next ?_
                (refine c_dec rfl (fun hc76 => ?_) (fun hc76 => ?_) <;> try (first | exact absurd rfl hc76 | contradiction | exact Bool.noConfusion (show false = true from hc76.symm.trans (by assumption)) | exact Bool.noConfusion (show true = false from hc76.symm.trans (by assumption)) | (exfalso; omega) | (exfalso; simp only [*, Bool.not_true, Bool.not_false, reduceCtorEq] at hc76; done)))
                refine c_region ?_
                refine w_pure (y_move rfl) rfl ?_
                refine w_pure (y_load_boxs rfl) rfl ?_
                refine w_lit (α := (Int × Int)) rfl rfl rfl rfl rfl rfl rfl rfl (fun v79 w79 ho79 hx79 hl79 hh79 hs79 => ?_)
                have hl_ho79 := ho79.lt
                have hz_hx79 := hx79.size
                replace hb14 := hb14.ext hx79
                replace EK := EK.next hx79 (by omega)
                replace k1 := k1.ext hx79
                replace EM := EM.next hx79 (by omega)
                replace c1 := c1.ext hx79
                replace EL := EL.trans hx79
                replace g1 := g1.ext hx79
                replace hb1 := hb1.ext hx79
                replace h := h.ext hx79
                replace E := E.trans hx79
                replace s26 := s26.ext hx79
                refine w_append rfl rfl (k := fun v80 w80 ho80 hx80 hr80 => ?_)
                have hl_ho80 := ho80.lt
                have hz_hx80 := hx80.size
                replace ho79 := ho79.chg hx80 (by omega)
                replace hb14 := hb14.chg hx80 (by omega)
                replace EK := EK.next hx80 (by omega)
                replace EM := EM.next hx80 (by omega)
                replace c1 := c1.chg hx80 (by omega)
                replace EL := EL.next hx80 (by omega)
                replace g1 := g1.chg hx80 (by omega)
                replace hb1 := hb1.chg hx80 (by omega)
                replace h := h.chg hx80 (by omega)
                replace E := E.next hx80 (by omega)
                replace s26 := s26.chg hx80 (by omega)
                refine w_pure (y_assign rfl) rfl ?_
                refine w_nil ?_
                refine x_block_norm ?_
                refine x_next ?_
                refine c_region ?_
                refine w_pure (y_add rfl rfl) rfl ?_
                refine w_pure (y_move rfl) rfl ?_
                refine w_nil ?_
                rotate_left
                refine c_skip ?_
                refine x_block_norm ?_
                refine x_next ?_
                refine c_region ?_
                refine w_pure (y_add rfl rfl) rfl ?_
                refine w_pure (y_move rfl) rfl ?_
                refine w_nil ?_
                rotate_left
              all_goals first
                | (refine x_again (m + 1, v80) (by repeat (first | exact trivial | refine ⟨rfl, ?_⟩)) ⟨EK.go, ?_, by dsimp only; omega, by dsimp only; omega⟩ (by dsimp only; omega)
                   dsimp only
                   rw [keepW, if_neg hc76]
                   assumption)
                | (refine x_again (m + 1, lf) (by repeat (first | exact trivial | refine ⟨rfl, ?_⟩)) ⟨EK.go, ?_, by dsimp only; omega, by dsimp only; omega⟩ (by dsimp only; omega)
                   dsimp only
                   rw [keepW, if_pos (Decidable.not_not.1 hc76)]
                   assumption)
            · obtain rfl : m = ws.length := by omega
              have hkw := keepW_ok hk (decL own s)
              have hwd := hwk (decL own s)
              have hle : f = true → (decL own s).length ≤ best.length := fun g => by rw [hc39] at g; cases g
              focus
                have hl_k1 := k1.lt
                have hz_hxK := hxK.size
                replace EM := EM.next hxK (by omega)
                replace c1 := c1.chg hxK (by omega)
                replace EL := EL.next hxK (by omega)
                replace g1 := g1.chg hxK (by omega)
                replace hb1 := hb1.chg hxK (by omega)
                replace h := h.chg hxK (by omega)
                replace E := E.next hxK (by omega)
                replace s26 := s26.chg hxK (by omega)
                refine c_seq ?_
                refine c_region ?_
                refine w_pure (y_lt rfl rfl) rfl ?_
                refine w_nil ?_
                refine x_next ?_
                refine c_seq ?_
                (refine c_dec rfl (fun hc69 => ?_) (fun hc69 => ?_) <;> try (first | exact absurd rfl hc69 | contradiction | exact Bool.noConfusion (show false = true from hc69.symm.trans (by assumption)) | exact Bool.noConfusion (show true = false from hc69.symm.trans (by assumption)) | (exfalso; omega) | (exfalso; simp only [*, Bool.not_true, Bool.not_false, reduceCtorEq] at hc69; done)))
                refine c_exit ?_
                refine x_then_exit ?_
                refine x_then_exit ?_
                refine x_block_hit ?_
                refine x_next ?_
                refine c_seq ?_
                refine c_region ?_
                refine w_pure (y_load_boxs rfl) rfl ?_
                refine w_pure (y_move rfl) rfl ?_
                (refine w_call rfl rfl rfl (sneakPairs_c) rfl ?_; rintro v84 w84 ⟨sus84, ⟨hp1_84, hx84⟩⟩)
                have hl_hp1_84 := hp1_84.lt
                have hz_hx84 := hx84.size
                replace EK := EK.next hx84 (by omega)
                replace k1 := k1.ext hx84
                replace EM := EM.next hx84 (by omega)
                replace c1 := c1.ext hx84
                replace EL := EL.trans hx84
                replace g1 := g1.ext hx84
                replace hb1 := hb1.ext hx84
                replace h := h.ext hx84
                replace E := E.trans hx84
                replace s26 := s26.ext hx84
                refine w_pure (y_lend rfl) rfl ?_
                refine w_pure (y_eq rfl rfl) rfl ?_
                refine w_pure (y_move rfl) rfl ?_
                (refine w_part_dec rfl rfl (fun hc88 => ?_) (fun hc88 => ?_) <;> try (first | exact absurd rfl hc88 | contradiction | exact Bool.noConfusion (show false = true from hc88.symm.trans (by assumption)) | exact Bool.noConfusion (show true = false from hc88.symm.trans (by assumption)) | (exfalso; omega) | (exfalso; simp only [*, Bool.not_true, Bool.not_false, reduceCtorEq] at hc88; done)))
                refine w_yes rfl rfl ?_
                refine w_pure (y_move rfl) rfl ?_
                refine w_yes rfl rfl ?_
                refine w_pure (y_not rfl) rfl ?_
                refine w_yes rfl rfl ?_
                refine w_pure (y_move rfl) rfl ?_
                (refine w_part rfl rfl (fun hc91 => ?_) (fun hc91 => ?_) <;> try (first | exact absurd rfl hc91 | contradiction | exact Bool.noConfusion (show false = true from hc91.symm.trans (by assumption)) | exact Bool.noConfusion (show true = false from hc91.symm.trans (by assumption)) | (exfalso; omega) | (exfalso; simp only [*, Bool.not_true, Bool.not_false, reduceCtorEq] at hc91; done)))
                refine w_no rfl rfl rfl rfl ?_
                refine w_no rfl rfl rfl rfl ?_
                refine w_no rfl rfl rfl rfl ?_
                refine w_no rfl rfl rfl rfl ?_
                refine w_no rfl rfl rfl rfl ?_
                refine w_yes rfl rfl ?_
                refine w_pure (y_pick_t rfl rfl) rfl ?_
                refine w_yes rfl rfl ?_
                refine w_pure (y_move rfl) rfl ?_
                refine w_no rfl rfl rfl rfl ?_
                refine w_no rfl rfl rfl rfl ?_
                refine w_no rfl rfl rfl rfl ?_
                refine w_no rfl rfl rfl rfl ?_
                refine w_yes rfl rfl ?_
                refine w_pure (y_pick_t rfl rfl) rfl ?_
                refine w_pure (y_pick_t rfl rfl) rfl ?_
                refine w_nil ?_
                refine x_next ?_
                refine c_true rfl ?_
                refine c_region ?_
                refine w_pure (y_move rfl) rfl ?_
                refine w_pure (y_assign rfl) rfl ?_
                refine w_pure (y_assign rfl) rfl ?_
                refine w_nil ?_
                refine x_block_norm ?_
                refine x_next ?_
                refine c_region ?_
                refine w_pure (y_add rfl rfl) rfl ?_
                refine w_pure (y_move rfl) rfl ?_
                refine w_nil ?_
                rotate_left
                refine w_no rfl rfl rfl rfl ?_
                refine w_no rfl rfl rfl rfl ?_
                refine w_no rfl rfl rfl rfl ?_
                refine w_none rfl rfl rfl ?_
                refine w_none rfl rfl rfl ?_
                refine w_none rfl rfl rfl ?_
                refine w_none rfl rfl rfl ?_
                refine w_none rfl rfl rfl ?_
                refine w_no rfl rfl rfl rfl ?_
                refine w_no rfl rfl rfl rfl ?_
                refine w_none rfl rfl rfl ?_
                refine w_none rfl rfl rfl ?_
                refine w_none rfl rfl rfl ?_
                refine w_none rfl rfl rfl ?_
                refine w_no rfl rfl rfl rfl ?_
                refine w_pure (y_pick_f rfl rfl) rfl ?_
                refine w_nil ?_
                refine x_next ?_
                refine c_false rfl ?_
                refine c_skip ?_
                refine x_block_norm ?_
                refine x_next ?_
                refine c_region ?_
                refine w_pure (y_add rfl rfl) rfl ?_
                refine w_pure (y_move rfl) rfl ?_
                refine w_nil ?_
                rotate_left
              all_goals first
                | (have hp : P (decL own s) = true := by rw [hwd]; exact decide_eq_true (by omega)
                   first
                     | (have g0 : ((decL own s).length : Int) < (best.length : Int) := hc98; exact x_again (s + 1, c, true, decL own s) (by repeat (first | exact trivial | refine ⟨rfl, ?_⟩)) ⟨EL.go, Own.base (by assumption) (by omega), g2.take hp (fun _ => .inl (by omega)), hlt⟩ (by dsimp only; omega))
                     | (have g0 : cmpL (decL own s) best < 0 := hc103; exact x_again (s + 1, c, true, decL own s) (by repeat (first | exact trivial | refine ⟨rfl, ?_⟩)) ⟨EL.go, Own.base (by assumption) (by omega), g2.take hp (fun _ => .inr ⟨by have := hle hc39; omega, (cmpL_lt _ _).1 hc103⟩), hlt⟩ (by dsimp only; omega))
                     | (have g0 : f = false := hc39; exact x_again (s + 1, c, true, decL own s) (by repeat (first | exact trivial | refine ⟨rfl, ?_⟩)) ⟨EL.go, Own.base (by assumption) (by omega), g2.take hp (fun g => Bool.noConfusion (g0.symm.trans g)), hlt⟩ (by dsimp only; omega))
                     | (have g0 : ¬ cmpL (decL own s) best < 0 := hc103; exact x_again (s + 1, u, f, best) (by repeat (first | exact trivial | refine ⟨rfl, ?_⟩)) ⟨EL.go, by assumption, g2.stay (fun _ => ⟨hc39, fun g => by rcases g with g | g; omega; exact hc103 ((cmpL_lt _ _).2 g.2)⟩), hlt⟩ (by dsimp only; omega)))
                | exact x_again (s + 1, u, f, best) (by repeat (first | exact trivial | refine ⟨rfl, ?_⟩)) ⟨EL.go, by assumption, g2.stay (fun hp => by rw [hwd] at hp; have := of_decide_eq_true hp; omega), hlt⟩ (by dsimp only; omega)
      · focus
          have ht_s26 := s26.top
          have hl_g1 := g1.lt
          have hz_hxL := hxL.size
          replace hb1 := hb1.ext hxL
          replace h := h.ext hxL
          replace E := E.trans hxL
          replace s26 := s26.ext hxL
          refine c_seq ?_
          refine c_region ?_
          refine w_pure (y_lt rfl rfl) rfl ?_
          refine w_nil ?_
          refine x_next ?_
          refine c_seq ?_
          (refine c_dec rfl (fun hc35 => ?_) (fun hc35 => ?_) <;> try (first | exact absurd rfl hc35 | contradiction | exact Bool.noConfusion (show false = true from hc35.symm.trans (by assumption)) | exact Bool.noConfusion (show true = false from hc35.symm.trans (by assumption)) | (exfalso; omega) | (exfalso; simp only [*, Bool.not_true, Bool.not_false, reduceCtorEq] at hc35; done)))
          refine c_exit ?_
          refine x_then_exit ?_
          refine x_then_exit ?_
          refine x_block_hit ?_
          refine x_next ?_
          refine c_seq ?_
          refine c_region ?_
          refine w_pure (y_move rfl) rfl ?_
          refine w_pure (y_assign rfl) rfl ?_
          refine w_pure (y_assign rfl) rfl ?_
          refine w_nil ?_
          refine x_next ?_
          refine c_ret ?_
          rotate_left
        obtain rfl : s = 2 ^ own.length := by omega
        have hd := hdone best f g2
        rw [hsome] at hd
        exact x_retv [_, _] rfl ⟨rfl, rfl, trivial⟩ ⟨u, by rw [ec]; rfl, by rw [Option.some.inj hd]; exact g1, E.go⟩
    · have ec : cFew e n j ws = 5 := by rw [cFew, if_pos hk, if_neg hl]
      refine ret_enter Try.func30 rfl Try.ntmps30 rfl ?_
      focus
        have ht_h := h.top
        refine c_seq ?_
        refine c_region ?_
        refine w_box rfl (k := fun b1 w1 hb1 hx1 hl1 hs1 => ?_)
        have hz_hx1 := hx1.size
        replace h := h.ext hx1
        replace E := E.trans hx1
        refine w_pure (y_assign rfl) rfl ?_
        refine w_pure (y_assign rfl) rfl ?_
        refine w_nil ?_
        refine x_next ?_
        refine c_seq ?_
        refine c_seq ?_
        refine c_region ?_
        refine w_pure (y_load_boxs rfl) rfl ?_
        refine w_val rfl rfl rfl (iValidBoard_c) rfl (fun w16 hx16 hz16 => ?_)
        have hz_hx16 := hx16.size
        replace hb1 := hb1.ext hx16
        replace h := h.ext hx16
        replace E := E.trans hx16
        refine w_pure (y_not rfl) rfl ?_
        refine w_nil ?_
        refine x_next ?_
        (refine c_not rfl (fun hc17 => ?_) (fun hc17 => ?_) <;> try (first | exact absurd rfl hc17 | contradiction | exact Bool.noConfusion (show false = true from hc17.symm.trans (by assumption)) | exact Bool.noConfusion (show true = false from hc17.symm.trans (by assumption)) | (exfalso; omega) | (exfalso; simp only [*, Bool.not_true, Bool.not_false, reduceCtorEq] at hc17; done)))
        refine c_skip ?_
        refine x_next ?_
        refine c_seq ?_
        refine c_region ?_
        refine w_pure (y_load_boxs rfl) rfl ?_
        refine w_pure (y_field rfl) rfl ?_
        refine w_pure (y_load_box rfl) rfl ?_
        (refine w_call rfl rfl rfl (firstHubs_c) rfl ?_; rintro v21 w21 ⟨hp1_21, hx21⟩)
        have hl_hp1_21 := hp1_21.lt
        have hz_hx21 := hx21.size
        replace hb1 := hb1.ext hx21
        replace h := h.ext hx21
        replace E := E.trans hx21
        refine w_alloc (k := fun b4 w4 hb4 hx4 hl4 hs4 => ?_)
        have hz_hx4 := hx4.size
        replace hp1_21 := hp1_21.ext hx4
        replace hb1 := hb1.ext hx4
        replace h := h.ext hx4
        replace E := E.trans hx4
        refine w_store_box rfl rfl (next := fun ws26 hbs26 hxs26 hss26 => ?_)
        (replace hb4 := hbs26; clear hbs26)
        have hz_hxs26 := hxs26.size
        replace hp1_21 := hp1_21.chg hxs26 (by omega)
        replace hb1 := hb1.chg hxs26 (by omega)
        replace h := h.chg hxs26 (by omega)
        replace E := E.next hxs26 (by omega)
        refine w_nil ?_
        refine x_next ?_
        refine c_seq ?_
        refine c_region ?_
        refine w_pure (y_field rfl) rfl ?_
        refine w_pure (y_load_box rfl) rfl ?_
        refine w_val rfl rfl rfl (sizeW_c) rfl (fun w24 hx24 hz24 => ?_)
        have hz_hx24 := hx24.size
        replace hb4 := hb4.ext hx24
        replace hp1_21 := hp1_21.ext hx24
        replace hb1 := hb1.ext hx24
        replace h := h.ext hx24
        replace E := E.trans hx24
        refine w_pure (y_func rfl) rfl ?_
        (refine w_call rfl rfl rfl (ownWhere_c) rfl ?_; rintro v26 w26 ⟨hp1_26, hx26⟩)
        have hl_hp1_26 := hp1_26.lt
        have hz_hx26 := hx26.size
        replace hb4 := hb4.ext hx26
        replace hp1_21 := hp1_21.ext hx26
        replace hb1 := hb1.ext hx26
        replace h := h.ext hx26
        replace E := E.trans hx26
        refine w_pure (y_assign rfl) rfl ?_
        refine w_nil ?_
        refine x_next ?_
        refine c_seq ?_
        refine c_seq ?_
        refine c_region ?_
        refine w_pure (y_move rfl) rfl ?_
        refine w_pure (y_len rfl) rfl ?_
        refine w_pure (y_gt rfl rfl) rfl ?_
        refine w_nil ?_
        refine x_next ?_
        (refine c_dec rfl (fun hc29 => ?_) (fun hc29 => ?_) <;> try (first | exact absurd rfl hc29 | contradiction | exact Bool.noConfusion (show false = true from hc29.symm.trans (by assumption)) | exact Bool.noConfusion (show true = false from hc29.symm.trans (by assumption)) | (exfalso; omega) | (exfalso; simp only [*, Bool.not_true, Bool.not_false, reduceCtorEq] at hc29; done)))
        refine c_seq ?_
        refine c_region ?_
        refine w_pure (y_assign rfl) rfl ?_
        refine w_pure (y_assign rfl) rfl ?_
        refine w_nil ?_
        refine x_next ?_
        refine c_ret ?_
        refine x_then_ret ?_
        rotate_left
      exact x_retv [_, _] rfl ⟨rfl, rfl, trivial⟩ ⟨_, by rw [ec]; rfl, by rw [resFew, ec]; exact Own.nil _ _ _, E.go⟩
  · have ec : cFew e n j ws = 1 := by rw [cFew, if_neg hk]
    refine ret_enter Try.func30 rfl Try.ntmps30 rfl ?_
    focus
      have ht_h := h.top
      refine c_seq ?_
      refine c_region ?_
      refine w_box rfl (k := fun b1 w1 hb1 hx1 hl1 hs1 => ?_)
      have hz_hx1 := hx1.size
      replace h := h.ext hx1
      replace E := E.trans hx1
      refine w_pure (y_assign rfl) rfl ?_
      refine w_pure (y_assign rfl) rfl ?_
      refine w_nil ?_
      refine x_next ?_
      refine c_seq ?_
      refine c_seq ?_
      refine c_region ?_
      refine w_pure (y_load_boxs rfl) rfl ?_
      refine w_val rfl rfl rfl (iValidBoard_c) rfl (fun w16 hx16 hz16 => ?_)
      have hz_hx16 := hx16.size
      replace hb1 := hb1.ext hx16
      replace h := h.ext hx16
      replace E := E.trans hx16
      refine w_pure (y_not rfl) rfl ?_
      refine w_nil ?_
      refine x_next ?_
      (refine c_not rfl (fun hc17 => ?_) (fun hc17 => ?_) <;> try (first | exact absurd rfl hc17 | contradiction | exact Bool.noConfusion (show false = true from hc17.symm.trans (by assumption)) | exact Bool.noConfusion (show true = false from hc17.symm.trans (by assumption)) | (exfalso; omega) | (exfalso; simp only [*, Bool.not_true, Bool.not_false, reduceCtorEq] at hc17; done)))
      refine c_seq ?_
      refine c_region ?_
      refine w_pure (y_assign rfl) rfl ?_
      refine w_pure (y_assign rfl) rfl ?_
      refine w_nil ?_
      refine x_next ?_
      refine c_ret ?_
      refine x_then_ret ?_
      rotate_left
    exact x_retv [_, _] rfl ⟨rfl, rfl, trivial⟩ ⟨_, by rw [ec]; rfl, by rw [resFew, ec]; exact Own.nil _ _ _, E.go⟩
theorem lFewestCuts (w0 : World) (x0 : { x : OBd // x.ok w0 }) : Ret Try.prog 8 [.agg #[.int .i64 x0.1.e, .int .i64 x0.1.n, .int .i64 x0.1.j, x0.1.v]] w0 fun u w' => u = .bool true ∧ Ext w0 w' := by
  obtain ⟨⟨e0, n0, j0, v0, ws0⟩, hok0⟩ := x0
  have s0 : SL w0 0 w0.heap.size v0 ws0 := hok0.sl
  have r0 := hok0.in64
  have re0 : In64 e0 := hok0.e
  have rn0 : In64 n0 := hok0.n
  have rj0 : In64 j0 := hok0.j
  show Ret _ _ [.agg #[.int .i64 e0, .int .i64 n0, .int .i64 j0, v0]] w0 _
  clear hok0
  have E : Since 0 0 w0 w0 := Since.refl 0 0 w0
  have hb := resFew_len e0 n0 j0 ws0
  refine ret_enter Try.func8 rfl Try.ntmps8 rfl ?_
  focus
    refine c_seq ?_
    refine c_region ?_
    refine w_box rfl (k := fun b1 w1 hb1 hx1 hl1 hs1 => ?_)
    have hz_hx1 := hx1.size
    replace s0 := s0.ext hx1
    replace E := E.trans hx1
    refine w_pure (y_assign rfl) rfl ?_
    refine w_nil ?_
    refine x_next ?_
    refine c_seq ?_
    refine c_region ?_
    refine w_pure (y_assign rfl) rfl ?_
    refine w_nil ?_
    refine x_next ?_
    refine c_seq ?_
    refine c_region ?_
    refine w_pure (y_load_boxs rfl) rfl ?_
    refine w_pure (y_move rfl) rfl ?_
    (refine w_call rfl rfl rfl (szBoard_z) rfl ?_; rintro _ w16 ⟨z16, ⟨rfl, ⟨hp1_16, hx16⟩⟩⟩)
    have hz_hx16 := hx16.size
    replace hb1 := hb1.ext hx16
    replace s0 := s0.ext hx16
    replace E := E.trans hx16
    refine w_pure (y_assign rfl) rfl ?_
    refine w_nil ?_
    refine x_next ?_
    refine c_seq ?_
    refine c_seq ?_
    refine c_region ?_
    refine w_pure (y_move rfl) rfl ?_
    refine w_pure (y_lt rfl rfl) rfl ?_
    refine w_nil ?_
    refine x_next ?_
    (refine c_dec rfl (fun hc18 => ?_) (fun hc18 => ?_) <;> try (first | exact absurd rfl hc18 | contradiction | exact Bool.noConfusion (show false = true from hc18.symm.trans (by assumption)) | exact Bool.noConfusion (show true = false from hc18.symm.trans (by assumption)) | (exfalso; omega) | (exfalso; simp only [*, Bool.not_true, Bool.not_false, reduceCtorEq] at hc18; done)))
    refine c_seq ?_
    refine c_region ?_
    refine w_pure (y_assign rfl) rfl ?_
    refine w_nil ?_
    refine x_next ?_
    refine c_ret ?_
    refine x_then_ret ?_
    exact x_retv [_] rfl ⟨rfl, trivial⟩ ⟨rfl, E.go⟩
    refine c_skip ?_
    refine x_next ?_
    refine c_seq ?_
    refine c_region ?_
    refine w_pure (y_load_boxs rfl) rfl ?_
    (refine w_call rfl rfl rfl (toBoard_c) rfl ?_; rintro _ w21 ⟨d21, ⟨rfl, ⟨hp1_21, hx21⟩⟩⟩)
    have hz_hx21 := hx21.size
    replace hb1 := hb1.ext hx21
    replace s0 := s0.ext hx21
    replace E := E.trans hx21
    replace hp1_21 := hp1_21.fresh
    (refine w_call rfl rfl rfl (sFewestCuts_c) rfl ?_; rintro _ w22 ⟨d22, ⟨rfl, ⟨hp1_22, hx22⟩⟩⟩)
    have hz_hx22 := hx22.size
    replace hb1 := hb1.ext hx22
    replace s0 := s0.ext hx22
    replace E := E.trans hx22
    replace hp1_21 := hp1_21.ext hx22
    replace hp1_22 := hp1_22.fresh
    refine w_pure (y_move rfl) rfl ?_
    refine w_pure (y_extract rfl rfl) rfl ?_
    refine w_pure (y_extract rfl rfl) rfl ?_
    refine w_pure (y_assign rfl) rfl ?_
    refine w_pure (y_assign rfl) rfl ?_
    refine w_nil ?_
    refine x_next ?_
    refine c_seq ?_
    refine c_region ?_
    refine w_pure (y_load_boxs rfl) rfl ?_
    (refine w_call rfl rfl rfl (toBoard_c) rfl ?_; rintro _ w26 ⟨d26, ⟨rfl, ⟨hp1_26, hx26⟩⟩⟩)
    have hz_hx26 := hx26.size
    replace hb1 := hb1.ext hx26
    replace s0 := s0.ext hx26
    replace E := E.trans hx26
    replace hp1_21 := hp1_21.ext hx26
    replace hp1_22 := hp1_22.ext hx26
    replace hp1_26 := hp1_26.fresh
    refine w_alloc (k := fun b6 w6 hb6 hx6 hl6 hs6 => ?_)
    have hz_hx6 := hx6.size
    replace hb1 := hb1.ext hx6
    replace s0 := s0.ext hx6
    replace E := E.trans hx6
    replace hp1_21 := hp1_21.ext hx6
    replace hp1_22 := hp1_22.ext hx6
    replace hp1_26 := hp1_26.ext hx6
    refine w_store_boxs rfl rfl (next := fun ws55 hbs55 hxs55 hss55 => ?_)
    (replace hb6 := hbs55; clear hbs55)
    have hz_hxs55 := hxs55.size
    replace hb1 := hb1.chg hxs55 (by omega)
    replace s0 := s0.chg hxs55 (by omega)
    replace E := E.next hxs55 (by omega)
    replace hp1_21 := hp1_21.chg hxs55 (by omega)
    replace hp1_22 := hp1_22.chg hxs55 (by omega)
    replace hp1_26 := hp1_26.chg hxs55 (by omega)
    refine w_nil ?_
    refine x_next ?_
    refine c_seq ?_
    refine c_region ?_
    refine w_pure (y_load_boxs rfl) rfl ?_
    (refine w_call rfl rfl rfl (iFewestCuts_c) rfl ?_; rintro _ w29 ⟨d29, ⟨rfl, ⟨hp1_29, hx29⟩⟩⟩)
    have hz_hx29 := hx29.size
    replace hb6 := hb6.ext hx29
    replace hb1 := hb1.ext hx29
    replace s0 := s0.ext hx29
    replace E := E.trans hx29
    replace hp1_21 := hp1_21.ext hx29
    replace hp1_22 := hp1_22.ext hx29
    replace hp1_26 := hp1_26.ext hx29
    replace hp1_29 := hp1_29.fresh
    refine w_pure (y_move rfl) rfl ?_
    refine w_pure (y_extract rfl rfl) rfl ?_
    refine w_pure (y_extract rfl rfl) rfl ?_
    refine w_pure (y_assign rfl) rfl ?_
    refine w_pure (y_assign rfl) rfl ?_
    refine w_nil ?_
    refine x_next ?_
    refine c_seq ?_
    refine c_seq ?_
    refine c_region ?_
    refine w_pure (y_move rfl) rfl ?_
    refine w_pure (y_move rfl) rfl ?_
    refine w_val rfl rfl rfl (eqInt64S_c) rfl (fun w34 hx34 hz34 => ?_)
    have hz_hx34 := hx34.size
    replace hb6 := hb6.ext hx34
    replace hb1 := hb1.ext hx34
    replace s0 := s0.ext hx34
    replace E := E.trans hx34
    replace hp1_21 := hp1_21.ext hx34
    replace hp1_22 := hp1_22.ext hx34
    replace hp1_26 := hp1_26.ext hx34
    replace hp1_29 := hp1_29.ext hx34
    refine w_pure (y_not_dec rfl) rfl ?_
    refine w_pure (y_move rfl) rfl ?_
    (refine w_part_dec rfl rfl (fun hc37 => ?_) (fun hc37 => ?_) <;> try (first | exact absurd rfl hc37 | contradiction | exact Bool.noConfusion (show false = true from hc37.symm.trans (by assumption)) | exact Bool.noConfusion (show true = false from hc37.symm.trans (by assumption)) | (exfalso; omega) | (exfalso; simp only [*, Bool.not_true, Bool.not_false, reduceCtorEq] at hc37; done)))
    refine w_yes rfl rfl ?_
    refine w_pure (y_move rfl) rfl ?_
    refine w_yes rfl rfl ?_
    refine w_pure (y_move rfl) rfl ?_
    refine w_yes rfl rfl ?_
    refine w_pure (y_ne rfl rfl) rfl ?_
    refine w_pure (y_pick_f rfl rfl) rfl ?_
    refine w_nil ?_
    refine x_next ?_
    refine c_nsame rfl ?_
    refine c_skip ?_
    refine x_next ?_
    refine c_seq ?_
    refine c_seq ?_
    refine c_region_held mixed (fun wr10 hxr10 hzr10 => ?_)
    have hz_hxr10 := hxr10.size
    replace hb6 := hb6.ext hxr10
    replace hb1 := hb1.ext hxr10
    replace s0 := s0.ext hxr10
    replace E := E.trans hxr10
    replace hp1_21 := hp1_21.ext hxr10
    replace hp1_22 := hp1_22.ext hxr10
    replace hp1_26 := hp1_26.ext hxr10
    replace hp1_29 := hp1_29.ext hxr10
    refine h_pure rfl (y_load_boxs rfl) rfl ?_
    refine h_pure rfl (y_load_boxs rfl) rfl ?_
    refine h_one rfl ?_
    (refine w_call rfl rfl rfl (toBoard_c) rfl ?_; rintro _ w43 ⟨d43, ⟨rfl, ⟨hp1_43, hx43⟩⟩⟩)
    have hz_hx43 := hx43.size
    replace hb6 := hb6.ext hx43
    replace hb1 := hb1.ext hx43
    replace s0 := s0.ext hx43
    replace E := E.trans hx43
    replace hp1_21 := hp1_21.ext hx43
    replace hp1_22 := hp1_22.ext hx43
    replace hp1_26 := hp1_26.ext hx43
    replace hp1_29 := hp1_29.ext hx43
    replace hp1_43 := hp1_43.fresh
    refine w_nil ?_
    refine x_held ?_
    refine h_one rfl ?_
    refine w_val rfl rfl rfl (eqBoard_c) rfl (fun w44 hx44 hz44 => ?_)
    have hz_hx44 := hx44.size
    replace hb6 := hb6.ext hx44
    replace hb1 := hb1.ext hx44
    replace s0 := s0.ext hx44
    replace E := E.trans hx44
    replace hp1_21 := hp1_21.ext hx44
    replace hp1_22 := hp1_22.ext hx44
    replace hp1_26 := hp1_26.ext hx44
    replace hp1_29 := hp1_29.ext hx44
    replace hp1_43 := hp1_43.ext hx44
    refine w_nil ?_
    refine x_held ?_
    refine h_pure rfl (y_not_dec rfl) rfl ?_
    refine h_nil ?_
    refine x_next ?_
    refine c_nsame rfl ?_
    refine c_skip ?_
    refine x_next ?_
    refine c_seq ?_
    refine c_region ?_
    refine w_pure (y_assign rfl) rfl ?_
    refine w_nil ?_
    refine x_next ?_
    refine c_seq ?_
    refine c_region ?_
    refine w_pure (y_load_boxs rfl) rfl ?_
    refine w_pure (y_move rfl) rfl ?_
    (refine w_call rfl rfl rfl (markBoard_c) rfl ?_; rintro _ w48 ⟨rfl, ⟨hp1_48, hx48⟩⟩)
    have hz_hx48 := hx48.size
    replace hb6 := hb6.chg hx48 (by omega)
    replace hb1 := hb1.chg hx48 (by omega)
    replace s0 := s0.chg hx48 (by omega)
    replace E := E.next hx48 (by omega)
    replace hp1_21 := hp1_21.chg hx48 (by omega)
    replace hp1_22 := hp1_22.chg hx48 (by omega)
    replace hp1_29 := hp1_29.chg hx48 (by omega)
    replace hp1_43 := hp1_43.chg hx48 (by omega)
    refine w_pure (y_assign rfl) rfl ?_
    refine w_nil ?_
    refine x_next ?_
    refine c_seq ?_
    refine c_seq ?_
    refine c_region ?_
    refine w_pure (y_move rfl) rfl ?_
    refine w_pure (y_lt rfl rfl) rfl ?_
    refine w_pure (y_move rfl) rfl ?_
    refine w_yes rfl rfl ?_
    refine w_pure (y_move rfl) rfl ?_
    refine w_yes rfl rfl ?_
    refine w_pure (y_move rfl) rfl ?_
    refine w_yes rfl rfl ?_
    refine w_val rfl rfl rfl (eqInt64S_c) rfl (fun w54 hx54 hz54 => ?_)
    have hz_hx54 := hx54.size
    replace hp1_48 := hp1_48.ext hx54
    replace hb6 := hb6.ext hx54
    replace hb1 := hb1.ext hx54
    replace s0 := s0.ext hx54
    replace E := E.trans hx54
    replace hp1_21 := hp1_21.ext hx54
    replace hp1_22 := hp1_22.ext hx54
    replace hp1_29 := hp1_29.ext hx54
    replace hp1_43 := hp1_43.ext hx54
    refine w_yes rfl rfl ?_
    refine w_pure (y_not_dec rfl) rfl ?_
    refine w_pure (y_pick_f rfl rfl) rfl ?_
    refine w_pure (y_move rfl) rfl ?_
    (refine w_part_dec rfl rfl (fun hc58 => ?_) (fun hc58 => ?_) <;> try (first | exact absurd rfl hc58 | contradiction | exact Bool.noConfusion (show false = true from hc58.symm.trans (by assumption)) | exact Bool.noConfusion (show true = false from hc58.symm.trans (by assumption)) | (exfalso; omega) | (exfalso; simp only [*, Bool.not_true, Bool.not_false, reduceCtorEq] at hc58; done)))
    refine w_yes rfl rfl ?_
    refine w_pure (y_move rfl) rfl ?_
    refine w_yes rfl rfl ?_
    refine w_pure (y_move rfl) rfl ?_
    refine w_yes rfl rfl ?_
    refine w_pure (y_ne rfl rfl) rfl ?_
    refine w_pure (y_pick_f rfl rfl) rfl ?_
    refine w_nil ?_
    refine x_next ?_
    refine c_nsame rfl ?_
    refine c_skip ?_
    refine x_next ?_
    refine c_seq ?_
    refine c_region ?_
    refine w_pure (y_assign rfl) rfl ?_
    refine w_nil ?_
    refine x_next ?_
    refine c_seq ?_
    refine c_region ?_
    refine w_pure (y_move rfl) rfl ?_
    refine w_pure (y_move rfl) rfl ?_
    (refine w_call rfl rfl rfl (markInt64S_c _) rfl ?_; rintro _ w64 ⟨rfl, ⟨hp1_64, hx64⟩⟩)
    have hz_hx64 := hx64.size
    replace hp1_48 := hp1_48.chg hx64 (by omega)
    replace hb6 := hb6.chg hx64 (by omega)
    replace hb1 := hb1.chg hx64 (by omega)
    replace s0 := s0.chg hx64 (by omega)
    replace E := E.next hx64 (by omega)
    replace hp1_21 := hp1_21.chg hx64 (by omega)
    replace hp1_22 := hp1_22.chg hx64 (by omega)
    replace hp1_43 := hp1_43.chg hx64 (by omega)
    refine w_pure (y_assign rfl) rfl ?_
    refine w_nil ?_
    refine x_next ?_
    refine c_seq ?_
    refine c_region ?_
    refine w_pure (y_assign rfl) rfl ?_
    refine w_nil ?_
    refine x_next ?_
    refine c_seq ?_
    refine c_region ?_
    refine w_pure (y_move rfl) rfl ?_
    refine w_pure (y_move rfl) rfl ?_
    refine w_val rfl rfl rfl (heldInt64S_c) rfl (fun w67 hx67 hz67 => ?_)
    have hz_hx67 := hx67.size
    replace hp1_64 := hp1_64.ext hx67
    replace hp1_48 := hp1_48.ext hx67
    replace hb6 := hb6.ext hx67
    replace hb1 := hb1.ext hx67
    replace s0 := s0.ext hx67
    replace E := E.trans hx67
    replace hp1_21 := hp1_21.ext hx67
    replace hp1_22 := hp1_22.ext hx67
    replace hp1_43 := hp1_43.ext hx67
    refine w_pure (y_assign rfl) rfl ?_
    refine w_nil ?_
    refine x_next ?_
    refine c_seq ?_
    refine c_seq ?_
    refine c_region ?_
    refine w_pure (y_move rfl) rfl ?_
    refine w_pure (y_lt rfl rfl) rfl ?_
    refine w_nil ?_
    refine x_next ?_
    refine c_false rfl ?_
    refine c_skip ?_
    refine x_next ?_
    refine c_seq ?_
    refine c_seq ?_
    refine c_region ?_
    refine w_pure (y_move rfl) rfl ?_
    refine w_pure (y_move rfl) rfl ?_
    refine w_pure (y_ne rfl rfl) rfl ?_
    refine w_nil ?_
    refine x_next ?_
    refine c_nsame rfl ?_
    refine c_skip ?_
    refine x_next ?_
    refine c_seq ?_
    refine c_region ?_
    refine w_pure (y_load_boxs rfl) rfl ?_
    (refine w_call rfl rfl rfl (toBoard_c) rfl ?_; rintro _ w75 ⟨d75, ⟨rfl, ⟨hp1_75, hx75⟩⟩⟩)
    have hz_hx75 := hx75.size
    replace hp1_64 := hp1_64.ext hx75
    replace hp1_48 := hp1_48.ext hx75
    replace hb6 := hb6.ext hx75
    replace hb1 := hb1.ext hx75
    replace s0 := s0.ext hx75
    replace E := E.trans hx75
    replace hp1_21 := hp1_21.ext hx75
    replace hp1_22 := hp1_22.ext hx75
    replace hp1_43 := hp1_43.ext hx75
    replace hp1_75 := hp1_75.fresh
    (refine w_call rfl rfl rfl (iFewestCuts_c) rfl ?_; rintro _ w76 ⟨d76, ⟨rfl, ⟨hp1_76, hx76⟩⟩⟩)
    have hz_hx76 := hx76.size
    replace hp1_64 := hp1_64.ext hx76
    replace hp1_48 := hp1_48.ext hx76
    replace hb6 := hb6.ext hx76
    replace hb1 := hb1.ext hx76
    replace s0 := s0.ext hx76
    replace E := E.trans hx76
    replace hp1_21 := hp1_21.ext hx76
    replace hp1_22 := hp1_22.ext hx76
    replace hp1_43 := hp1_43.ext hx76
    replace hp1_75 := hp1_75.ext hx76
    replace hp1_76 := hp1_76.fresh
    refine w_pure (y_move rfl) rfl ?_
    refine w_pure (y_extract rfl rfl) rfl ?_
    refine w_pure (y_extract rfl rfl) rfl ?_
    refine w_pure (y_assign rfl) rfl ?_
    refine w_pure (y_assign rfl) rfl ?_
    refine w_nil ?_
    refine x_next ?_
    refine c_seq ?_
    refine c_seq ?_
    refine c_region ?_
    refine w_pure (y_move rfl) rfl ?_
    refine w_pure (y_move rfl) rfl ?_
    refine w_val rfl rfl rfl (eqInt64S_c) rfl (fun w81 hx81 hz81 => ?_)
    have hz_hx81 := hx81.size
    replace hp1_64 := hp1_64.ext hx81
    replace hp1_48 := hp1_48.ext hx81
    replace hb6 := hb6.ext hx81
    replace hb1 := hb1.ext hx81
    replace s0 := s0.ext hx81
    replace E := E.trans hx81
    replace hp1_21 := hp1_21.ext hx81
    replace hp1_22 := hp1_22.ext hx81
    replace hp1_43 := hp1_43.ext hx81
    replace hp1_75 := hp1_75.ext hx81
    replace hp1_76 := hp1_76.ext hx81
    refine w_pure (y_not_dec rfl) rfl ?_
    refine w_pure (y_move rfl) rfl ?_
    (refine w_part_dec rfl rfl (fun hc84 => ?_) (fun hc84 => ?_) <;> try (first | exact absurd rfl hc84 | contradiction | exact Bool.noConfusion (show false = true from hc84.symm.trans (by assumption)) | exact Bool.noConfusion (show true = false from hc84.symm.trans (by assumption)) | (exfalso; omega) | (exfalso; simp only [*, Bool.not_true, Bool.not_false, reduceCtorEq] at hc84; done)))
    refine w_yes rfl rfl ?_
    refine w_pure (y_move rfl) rfl ?_
    refine w_yes rfl rfl ?_
    refine w_pure (y_move rfl) rfl ?_
    refine w_yes rfl rfl ?_
    refine w_pure (y_ne rfl rfl) rfl ?_
    refine w_pure (y_pick_f rfl rfl) rfl ?_
    refine w_nil ?_
    refine x_next ?_
    refine c_nsame rfl ?_
    refine c_skip ?_
    refine x_next ?_
    refine c_seq ?_
    refine c_region ?_
    refine w_pure (y_assign rfl) rfl ?_
    refine w_nil ?_
    refine x_next ?_
    refine c_seq ?_
    refine c_region ?_
    refine w_pure (y_move rfl) rfl ?_
    refine w_pure (y_move rfl) rfl ?_
    refine w_val rfl rfl rfl (heldInt64S_c) rfl (fun w90 hx90 hz90 => ?_)
    have hz_hx90 := hx90.size
    replace hp1_64 := hp1_64.ext hx90
    replace hp1_48 := hp1_48.ext hx90
    replace hb6 := hb6.ext hx90
    replace hb1 := hb1.ext hx90
    replace s0 := s0.ext hx90
    replace E := E.trans hx90
    replace hp1_21 := hp1_21.ext hx90
    replace hp1_22 := hp1_22.ext hx90
    replace hp1_43 := hp1_43.ext hx90
    replace hp1_75 := hp1_75.ext hx90
    replace hp1_76 := hp1_76.ext hx90
    refine w_pure (y_assign rfl) rfl ?_
    refine w_nil ?_
    refine x_next ?_
    refine c_seq ?_
    refine c_seq ?_
    refine c_region ?_
    refine w_pure (y_move rfl) rfl ?_
    refine w_pure (y_lt rfl rfl) rfl ?_
    refine w_nil ?_
    refine x_next ?_
    refine c_false rfl ?_
    refine c_skip ?_
    refine x_next ?_
    refine c_seq ?_
    refine c_seq ?_
    refine c_region ?_
    refine w_pure (y_move rfl) rfl ?_
    refine w_pure (y_move rfl) rfl ?_
    refine w_pure (y_ne rfl rfl) rfl ?_
    refine w_nil ?_
    refine x_next ?_
    refine c_nsame rfl ?_
    refine c_skip ?_
    refine x_next ?_
    refine c_seq ?_
    refine c_region ?_
    refine w_pure (y_assign rfl) rfl ?_
    refine w_nil ?_
    refine x_next ?_
    refine c_ret ?_
    exact x_retv [_] rfl ⟨rfl, trivial⟩ ⟨rfl, E.go⟩
end
end Go.Proofs.Ythigkbkaeopipaa

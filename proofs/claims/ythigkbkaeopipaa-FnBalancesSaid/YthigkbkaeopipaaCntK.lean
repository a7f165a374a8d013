/- Contracts: balances. -/
import Derived.Test.YthigkbkaeopipaaCntJ
namespace Go.Proofs.Ythigkbkaeopipaa
open Go Go.Gw
set_option linter.unusedVariables false
set_option linter.unusedSimpArgs false
/-- the counter after one more number -/
def balStep (k : Int) (ds : List Int) (n : Int) : List Int :=
  if (addS ds (if n < 0 then n + (10 ^ k.toNat - 1) else n) ds.length).2.2 = 1
  then (addS (addS ds (if n < 0 then n + (10 ^ k.toNat - 1) else n) ds.length).1 1 (addS ds (if n < 0 then n + (10 ^ k.toNat - 1) else n) ds.length).1.length).1
  else (addS ds (if n < 0 then n + (10 ^ k.toNat - 1) else n) ds.length).1
def balD (k : Int) (xs : List Int) : Nat → List Int
  | 0 => digs k.toNat 0
  | i + 1 => balStep k (balD k xs i) (xs.getD i 0)
theorem digs0 : ∀ (k : Nat), Digs (digs k 0)
  | 0 => fun d hd => by simp [digs] at hd
  | k + 1 => fun d hd => by
    simp only [digs, Int.zero_ediv] at hd
    rcases List.mem_cons.1 hd with rfl | hd
    · simp
    · exact digs0 k d hd
theorem st_pp {k : Int} {ds : List Int} {n : Int} (h : n < 0) (hc : (addS ds (n + (10 ^ k.toNat - 1)) ds.length).2.2 = 1) : balStep k ds n = (addS (addS ds (n + (10 ^ k.toNat - 1)) ds.length).1 1 (addS ds (n + (10 ^ k.toNat - 1)) ds.length).1.length).1 := by
  simp only [balStep, if_pos h, if_pos hc]
theorem st_pn {k : Int} {ds : List Int} {n : Int} (h : n < 0) (hc : ¬ (addS ds (n + (10 ^ k.toNat - 1)) ds.length).2.2 = 1) : balStep k ds n = (addS ds (n + (10 ^ k.toNat - 1)) ds.length).1 := by
  simp only [balStep, if_pos h, if_neg hc]
theorem st_np {k : Int} {ds : List Int} {n : Int} (h : ¬ n < 0) (hc : (addS ds n ds.length).2.2 = 1) : balStep k ds n = (addS (addS ds n ds.length).1 1 (addS ds n ds.length).1.length).1 := by
  simp only [balStep, if_neg h, if_pos hc]
theorem st_nn {k : Int} {ds : List Int} {n : Int} (h : ¬ n < 0) (hc : ¬ (addS ds n ds.length).2.2 = 1) : balStep k ds n = (addS ds n ds.length).1 := by
  simp only [balStep, if_neg h, if_neg hc]
theorem balStep_ok {k : Int} {ds : List Int} (n : Int) (h : Digs ds) : Digs (balStep k ds n) ∧ (balStep k ds n).length = ds.length := by
  unfold balStep
  generalize (if n < 0 then n + (10 ^ k.toNat - 1) else n) = m
  have h1 := (addS_bd h m ds.length).2.2.2.2
  split
  · exact ⟨(addS_bd h1 _ _).2.2.2.2, by rw [addS_len, addS_len]⟩
  · exact ⟨h1, addS_len _ _ _⟩
theorem balD_ok (k : Int) (xs : List Int) : ∀ i, Digs (balD k xs i) ∧ (balD k xs i).length = k.toNat
  | 0 => ⟨digs0 _, digs_len _ _⟩
  | i + 1 => by
    obtain ⟨h1, h2⟩ := balD_ok k xs i
    obtain ⟨h3, h4⟩ := balStep_ok (k := k) (xs.getD i 0) h1
    exact ⟨h3, by rw [balD, h4, h2]⟩
/-- the last wheel tells the sign -/
def topOk (k : Int) (ds : List Int) : Prop := ds.getD (k - 1).toNat 0 = 0 ∨ ds.getD (k - 1).toNat 0 = 9
def numOk (k : Int) (xs : List Int) : Prop := ∀ x ∈ xs, -(10 ^ (k - 1).toNat - 1) ≤ x ∧ x ≤ 10 ^ (k - 1).toNat - 1
def sizeOk (k : Int) (xs : List Int) : Prop := 2 ≤ k ∧ k ≤ 12 ∧ xs.length ≤ 40
open Classical in
noncomputable def balR (k : Int) (xs : List Int) : Int × Bool × Int :=
  if ¬ sizeOk k xs then (0, false, 2) else if ¬ numOk k xs then (0, false, 2)
  else if ¬ (∀ i, i < xs.length → topOk k (balD k xs (i + 1))) then (0, false, 5)
  else if (balD k xs xs.length).getD (k - 1).toNat 0 = 9 then (valD (balD k xs xs.length) - (10 ^ k.toNat - 1), true, 0)
  else (valD (balD k xs xs.length), false, 0)
section
variable {w : World} {v v' : Value} {xs ys : List Int} {lo hi lo' hi' b b' : Nat}
theorem getD_mem {xs : List Int} {i : Nat} (h : i < xs.length) : xs.getD i 0 ∈ xs := by
  rw [List.getD_eq_getElem?_getD, List.getElem?_eq_getElem h]; simp
theorem pow_mono10 {a b : Nat} (h : a ≤ b) : (10 : Int) ^ a ≤ 10 ^ b := pow10_le h
theorem okC_of {xs : List Int} (h : Digs xs) (h1 : 1 ≤ xs.length) (h2 : xs.length ≤ 12) : okC xs = true := by
  have : xs.any (fun d => !decide (0 ≤ d ∧ d ≤ 9)) = false := by
    rw [List.any_eq_false]; intro d hd; have := h d hd; simp; omega
  simp only [okC, this, Bool.not_false, Bool.and_true]; exact decide_eq_true ⟨h1, h2⟩
theorem shown_z (h : SL w lo hi v xs := by repeat (first | assumption | exact Go.Gw.Own.sl (by assumption) | exact Go.Gw.Box.at (by assumption) | exact Go.Gw.SLL.el (by first | assumption | exact Go.Gw.OwnD.sll (by assumption)) _ (by omega) | exact Go.Gw.SLL.at (by first | assumption | exact Go.Gw.OwnD.sll (by assumption)) (by omega) | exact Go.Gw.OwnD.sll (by assumption) | (apply Go.Gw.SL.chg; case hx => assumption) | (apply Go.Gw.Own.chg; case hx => assumption) | (apply Go.Gw.Box.chg; case hx => assumption) | (apply Go.Gw.At.chg; case hx => assumption) | exact .inl (Nat.zero_le _) | exact .inr (Nat.zero_le _) | (show _ ∨ _; omega))) (hk : okC xs = true := by assumption) : Val Try.prog 85 [.agg #[v]] w (.int .i64 (valD xs)) := shown_c hk (h := h)
set_option maxHeartbeats 4000000 in
theorem iBalanceAfter_c (k : Int) (h : SL w lo hi v xs := by repeat (first | assumption | exact Go.Gw.Own.sl (by assumption) | exact Go.Gw.Box.at (by assumption) | exact Go.Gw.SLL.el (by first | assumption | exact Go.Gw.OwnD.sll (by assumption)) _ (by omega) | exact Go.Gw.SLL.at (by first | assumption | exact Go.Gw.OwnD.sll (by assumption)) (by omega) | exact Go.Gw.OwnD.sll (by assumption) | (apply Go.Gw.SL.chg; case hx => assumption) | (apply Go.Gw.Own.chg; case hx => assumption) | (apply Go.Gw.Box.chg; case hx => assumption) | (apply Go.Gw.At.chg; case hx => assumption) | exact .inl (Nat.zero_le _) | exact .inr (Nat.zero_le _) | (show _ ∨ _; omega))) (hk64 : In64 k := by assumption) : Val Try.prog 20 [.int .i64 k, v] w (.tuple #[.int .i64 (balR k xs).1, .bool (balR k xs).2.1, .int .i64 (balR k xs).2.2]) := by
  refine ⟨fun w0 hx0 => ?_⟩
  have E : Since 0 0 w0 w0 := Since.refl 0 0 w0
  have hsm := h.small
  by_cases hs : sizeOk k xs
  · have hs' : 2 ≤ k ∧ k ≤ 12 ∧ xs.length ≤ 40 := hs
    have p1 := pow10_12 (k := (k - 1).toNat) (by omega)
    have p2 := pow10_pos (k - 1).toNat
    have p3 := pow10_12 (k := k.toNat) (by omega)
    have p4 := pow10_pos k.toNat
    have p5 := pow_mono10 (show (k - 1).toNat ≤ k.toNat by omega)
    refine ret_enter Try.func20 rfl Try.ntmps20 rfl ?_
    focus
      have ht_h := h.top
      have hz_hx0 := hx0.size
      replace h := h.ext hx0
      refine c_seq ?_
      refine c_region ?_
      refine w_pure (y_assign rfl) rfl ?_
      refine w_pure (y_assign rfl) rfl ?_
      refine w_pure (y_assign rfl) rfl ?_
      refine w_nil ?_
      refine x_next ?_
      refine c_seq ?_
      refine c_seq ?_
      refine c_region ?_
      refine w_pure (y_move rfl) rfl ?_
      refine w_pur rfl rfl rfl (inside_c _ _ _) rfl ?_
      refine w_pure (y_not_dec rfl) rfl ?_
      refine w_pure (y_move rfl) rfl ?_
      (refine w_part_dec rfl rfl (fun hc20 => ?_) (fun hc20 => ?_) <;> try (first | exact absurd rfl hc20 | contradiction | exact Bool.noConfusion (show false = true from hc20.symm.trans (by assumption)) | exact Bool.noConfusion (show true = false from hc20.symm.trans (by assumption)) | (exfalso; omega) | (exfalso; simp only [*, Bool.not_true, Bool.not_false, reduceCtorEq] at hc20; done)))
      refine w_yes rfl rfl ?_
      refine w_pure (y_move rfl) rfl ?_
      refine w_yes rfl rfl ?_
      refine w_pure (y_len rfl) rfl ?_
      refine w_yes rfl rfl ?_
      refine w_pure (y_gt rfl rfl) rfl ?_
      refine w_pure (y_pick_f rfl rfl) rfl ?_
      refine w_nil ?_
      refine x_next ?_
      (refine c_dec rfl (fun hc23 => ?_) (fun hc23 => ?_) <;> try (first | exact absurd rfl hc23 | contradiction | exact Bool.noConfusion (show false = true from hc23.symm.trans (by assumption)) | exact Bool.noConfusion (show true = false from hc23.symm.trans (by assumption)) | (exfalso; omega) | (exfalso; simp only [*, Bool.not_true, Bool.not_false, reduceCtorEq] at hc23; done)))
      refine c_skip ?_
      refine x_next ?_
      refine c_seq ?_
      refine c_seq ?_
      refine c_region ?_
      refine w_pure (y_move rfl) rfl ?_
      refine w_pure (y_len rfl) rfl ?_
      refine w_pure (y_move rfl) rfl ?_
      refine w_nil ?_
      refine x_next ?_
      refine c_block ?_
      rotate_left
    refine c_loopC 0 0 (ι := Nat) (fun x => [(0, .int .i64 k), (1, v), (24, v), (25, .int .i64 xs.length), (26, .int .i64 x)]) (fun x w' => x ≤ xs.length ∧ ∀ m, m < x → -(10 ^ (k - 1).toNat - 1) ≤ xs.getD m 0 ∧ xs.getD m 0 ≤ 10 ^ (k - 1).toNat - 1) (fun x => xs.length - x) 0 (by repeat (first | exact trivial | refine ⟨rfl, ?_⟩)) ⟨by omega, fun m hm => by omega⟩ ?_
    rintro i wL hxL EL ⟨hi, hall⟩
    have hg : xs.getD (i : Int).toNat 0 = xs.getD i 0 := rfl
    focus
      have hz_hxL := hxL.size
      replace E := E.trans hxL
      replace h := h.ext hxL
      refine c_seq ?_
      refine c_region ?_
      refine w_pure (y_lt rfl rfl) rfl ?_
      refine w_nil ?_
      refine x_next ?_
      refine c_seq ?_
      (refine c_dec rfl (fun hc27 => ?_) (fun hc27 => ?_) <;> try (first | exact absurd rfl hc27 | contradiction | exact Bool.noConfusion (show false = true from hc27.symm.trans (by assumption)) | exact Bool.noConfusion (show true = false from hc27.symm.trans (by assumption)) | (exfalso; omega) | (exfalso; simp only [*, Bool.not_true, Bool.not_false, reduceCtorEq] at hc27; done)))
      refine c_skip ?_
      refine x_next ?_
      refine c_seq ?_
      refine c_block ?_
      refine c_seq ?_
      refine c_region ?_
      refine w_pure (y_index rfl rfl) rfl ?_
      refine w_pure (y_load_inte rfl hg) rfl ?_
      refine w_pure (y_assign rfl) rfl ?_
      refine w_nil ?_
      refine x_next ?_
      refine c_seq ?_
      refine c_region ?_
      refine w_pure (y_move rfl) rfl ?_
      refine w_pure (y_move rfl) rfl ?_
      refine w_pure (y_sub rfl rfl) rfl ?_
      refine w_pur rfl rfl rfl (nines_c _ (by omega) (by omega)) rfl ?_
      refine w_pure (y_neg rfl) rfl ?_
      refine w_pure (y_move rfl) rfl ?_
      refine w_pure (y_sub rfl rfl) rfl ?_
      refine w_pur rfl rfl rfl (nines_c _ (by omega) (by omega)) rfl ?_
      refine w_pur rfl rfl rfl (inside_c _ _ _) rfl ?_
      refine w_pure (y_not_dec rfl) rfl ?_
      refine w_nil ?_
      refine x_next ?_
      (refine c_dec rfl (fun hc39 => ?_) (fun hc39 => ?_) <;> try (first | exact absurd rfl hc39 | contradiction | exact Bool.noConfusion (show false = true from hc39.symm.trans (by assumption)) | exact Bool.noConfusion (show true = false from hc39.symm.trans (by assumption)) | (exfalso; omega) | (exfalso; simp only [*, Bool.not_true, Bool.not_false, reduceCtorEq] at hc39; done)))
      refine c_seq ?_
      refine c_region ?_
      refine w_pure (y_assign rfl) rfl ?_
      refine w_pure (y_assign rfl) rfl ?_
      refine w_pure (y_assign rfl) rfl ?_
      refine w_nil ?_
      refine x_next ?_
      refine c_ret ?_
      refine x_block_ret ?_
      refine x_then_ret ?_
      refine x_then_ret ?_
      refine x_block_ret ?_
      refine x_then_ret ?_
      rotate_left
      refine c_skip ?_
      refine x_block_norm ?_
      refine x_next ?_
      refine c_region ?_
      refine w_pure (y_add rfl rfl) rfl ?_
      refine w_pure (y_move rfl) rfl ?_
      refine w_nil ?_
      rotate_left
      refine c_exit ?_
      refine x_then_exit ?_
      refine x_then_exit ?_
      refine x_block_hit ?_
      refine x_next ?_
      refine c_seq ?_
      refine c_region ?_
      refine w_pure (y_move rfl) rfl ?_
      (refine w_call rfl rfl rfl (wheelsShow_c _ _ _ (by omega) (by omega) (by omega)) rfl ?_; rintro _ w42 ⟨d42, ⟨rfl, ⟨hp1_42, hx42⟩⟩⟩)
      have hl_hp1_42 := hp1_42.lt
      have hz_hx42 := hx42.size
      replace EL := EL.trans hx42
      replace E := E.trans hx42
      replace h := h.ext hx42
      refine w_alloc (k := fun b9 w9 hb9 hx9 hl9 hs9 => ?_)
      have hz_hx9 := hx9.size
      replace hp1_42 := hp1_42.ext hx9
      replace EL := EL.trans hx9
      replace E := E.trans hx9
      replace h := h.ext hx9
      refine w_store_boxs rfl rfl (next := fun ws66 hbs66 hxs66 hss66 => ?_)
      (replace hb9 := hbs66; clear hbs66)
      have hz_hxs66 := hxs66.size
      replace hp1_42 := hp1_42.chg hxs66 (by omega)
      replace EL := EL.next hxs66 (by omega)
      replace E := E.next hxs66 (by omega)
      replace h := h.chg hxs66 (by omega)
      refine w_nil ?_
      refine x_next ?_
      refine c_seq ?_
      refine c_seq ?_
      refine c_region ?_
      refine w_pure (y_move rfl) rfl ?_
      refine w_pure (y_len rfl) rfl ?_
      refine w_pure (y_move rfl) rfl ?_
      refine w_nil ?_
      refine x_next ?_
      refine c_block ?_
      rotate_left
    · have hn : ¬ numOk k xs := fun g => hc39 (g _ (getD_mem (by omega)))
      exact x_retv [_, _, _] rfl ⟨rfl, rfl, rfl, trivial⟩ ⟨by rw [balR, if_neg (by simpa using hs), if_pos hn]; rfl, E.go⟩
    · exact x_again (i + 1) (by repeat (first | exact trivial | refine ⟨rfl, ?_⟩)) ⟨EL.go, by omega, fun m hm => by
        by_cases g : m = i
        · subst g; exact Decidable.not_not.1 hc39
        · exact hall m (by omega)⟩ (by omega)
    · have hn : numOk k xs := fun x hx => by
        obtain ⟨m, hm, rfl⟩ := List.mem_iff_getElem.1 hx
        have := hall m (by omega)
        rwa [List.getD_eq_getElem?_getD, List.getElem?_eq_getElem hm] at this
      refine c_loopC b9 (b9 + 1) (ι := Nat × Value) (fun x => [(0, .int .i64 k), (9, ptr b9 0), (43, v), (44, .int .i64 xs.length), (45, .int .i64 x.1)]) (fun x w' => Box w' b9 [x.2] ∧ Own w' 2 0 x.2 (balD k xs x.1) ∧ x.1 ≤ xs.length ∧ (∀ m, m < x.1 → topOk k (balD k xs (m + 1))) ∧ (bH x.2 ≤ b9 ∨ b9 < bL x.2)) (fun x => xs.length - x.1) (0, d42) (by repeat (first | exact trivial | refine ⟨rfl, ?_⟩)) ⟨hb9, hp1_42.base (by omega), by simp, fun m hm => by simp at hm, by dsimp only; omega⟩ ?_
      rintro ⟨r, y⟩ wM hxM EM ⟨hby, hoy, hr, htop, hdis⟩
      dsimp only at *
      clear hp1_42 hb9
      have hg : xs.getD (r : Int).toNat 0 = xs.getD r 0 := rfl
      obtain ⟨q1, q2⟩ := balD_ok k xs r
      by_cases hlt : r < xs.length
      · have q3 := hn _ (getD_mem hlt)
        have q4 := (addS_bd q1 (xs.getD r 0) (balD k xs r).length).2.2.2.2
        have q5 := (addS_bd q1 (xs.getD r 0 + (10 ^ k.toNat - 1)) (balD k xs r).length).2.2.2.2
        have q6 := addS_len (balD k xs r) (xs.getD r 0) (balD k xs r).length
        have q7 := addS_len (balD k xs r) (xs.getD r 0 + (10 ^ k.toNat - 1)) (balD k xs r).length
        have q8 := addS_len (addS (balD k xs r) (xs.getD r 0) (balD k xs r).length).1 1 (addS (balD k xs r) (xs.getD r 0) (balD k xs r).length).1.length
        have q9 := addS_len (addS (balD k xs r) (xs.getD r 0 + (10 ^ k.toNat - 1)) (balD k xs r).length).1 1 (addS (balD k xs r) (xs.getD r 0 + (10 ^ k.toNat - 1)) (balD k xs r).length).1.length
        focus
          have hl_hoy := hoy.lt
          have hz_hxM := hxM.size
          replace EL := EL.next hxM (by omega)
          replace E := E.next hxM (by omega)
          replace h := h.chg hxM (by omega)
          refine c_seq ?_
          refine c_region ?_
          refine w_pure (y_lt rfl rfl) rfl ?_
          refine w_nil ?_
          refine x_next ?_
          refine c_seq ?_
          (refine c_dec rfl (fun hc46 => ?_) (fun hc46 => ?_) <;> try (first | exact absurd rfl hc46 | contradiction | exact Bool.noConfusion (show false = true from hc46.symm.trans (by assumption)) | exact Bool.noConfusion (show true = false from hc46.symm.trans (by assumption)) | (exfalso; omega) | (exfalso; simp only [*, Bool.not_true, Bool.not_false, reduceCtorEq] at hc46; done)))
          refine c_skip ?_
          refine x_next ?_
          refine c_seq ?_
          refine c_block ?_
          refine c_seq ?_
          refine c_region ?_
          refine w_pure (y_index rfl rfl) rfl ?_
          refine w_pure (y_load_inte rfl hg) rfl ?_
          refine w_pure (y_assign rfl) rfl ?_
          refine w_nil ?_
          refine x_next ?_
          refine c_seq ?_
          refine c_seq ?_
          refine c_region ?_
          refine w_pure (y_move rfl) rfl ?_
          refine w_pure (y_lt rfl rfl) rfl ?_
          refine w_nil ?_
          refine x_next ?_
          (refine c_dec rfl (fun hc50 => ?_) (fun hc50 => ?_) <;> try (first | exact absurd rfl hc50 | contradiction | exact Bool.noConfusion (show false = true from hc50.symm.trans (by assumption)) | exact Bool.noConfusion (show true = false from hc50.symm.trans (by assumption)) | (exfalso; omega) | (exfalso; simp only [*, Bool.not_true, Bool.not_false, reduceCtorEq] at hc50; done)))
          refine c_region ?_
          refine w_pure (y_move rfl) rfl ?_
          refine w_pure (y_move rfl) rfl ?_
          refine w_pur rfl rfl rfl (nines_c _ (by omega) (by omega)) rfl ?_
          refine w_pure (y_add rfl rfl) rfl ?_
          refine w_pure (y_assign rfl) rfl ?_
          refine w_nil ?_
          refine x_next ?_
          refine c_seq ?_
          refine c_region ?_
          refine w_pure (y_load_boxs rfl) rfl ?_
          refine w_pure (y_move rfl) rfl ?_
          (refine w_call rfl rfl rfl (added_c _) rfl ?_; rintro _ w58 ⟨d58, ⟨rfl, ⟨hp1_58, hx58⟩⟩⟩)
          have hl_hp1_58 := hp1_58.lt
          have hz_hx58 := hx58.size
          replace EM := EM.next hx58 (by omega)
          replace hby := hby.ext hx58
          replace hoy := hoy.ext hx58
          replace EL := EL.trans hx58
          replace E := E.trans hx58
          replace h := h.ext hx58
          refine w_pure (y_move rfl) rfl ?_
          refine w_pure (y_extract rfl rfl) rfl ?_
          refine w_pure (y_extract rfl rfl) rfl ?_
          refine w_pure (y_extract rfl rfl) rfl ?_
          refine w_alloc (k := fun b12 w12 hb12 hx12 hl12 hs12 => ?_)
          have hz_hx12 := hx12.size
          replace hp1_58 := hp1_58.ext hx12
          replace EM := EM.next hx12 (by omega)
          replace hby := hby.ext hx12
          replace hoy := hoy.ext hx12
          replace EL := EL.trans hx12
          replace E := E.trans hx12
          replace h := h.ext hx12
          refine w_store_boxs rfl rfl (next := fun ws45 hbs45 hxs45 hss45 => ?_)
          (replace hb12 := hbs45; clear hbs45)
          have hz_hxs45 := hxs45.size
          replace hp1_58 := hp1_58.chg hxs45 (by omega)
          replace EM := EM.next hxs45 (by omega)
          replace hby := hby.chg hxs45 (by omega)
          replace hoy := hoy.chg hxs45 (by omega)
          replace EL := EL.next hxs45 (by omega)
          replace E := E.next hxs45 (by omega)
          replace h := h.chg hxs45 (by omega)
          refine w_pure (y_assign rfl) rfl ?_
          refine w_pure (y_assign rfl) rfl ?_
          refine w_nil ?_
          refine x_next ?_
          refine c_seq ?_
          refine c_seq ?_
          refine c_region ?_
          refine w_pure (y_move rfl) rfl ?_
          refine w_nil ?_
          refine x_next ?_
          (refine c_dec rfl (fun hc62 => ?_) (fun hc62 => ?_) <;> try (first | exact absurd rfl hc62 | contradiction | exact Bool.noConfusion (show false = true from hc62.symm.trans (by assumption)) | exact Bool.noConfusion (show true = false from hc62.symm.trans (by assumption)) | (exfalso; omega) | (exfalso; simp only [*, Bool.not_true, Bool.not_false, reduceCtorEq] at hc62; done)))
          refine c_region ?_
          refine w_pure (y_load_boxs rfl) rfl ?_
          (refine w_call rfl rfl rfl (added_c _) rfl ?_; rintro _ w65 ⟨d65, ⟨rfl, ⟨hp1_65, hx65⟩⟩⟩)
          have hl_hp1_65 := hp1_65.lt
          have hz_hx65 := hx65.size
          replace hb12 := hb12.ext hx65
          replace hp1_58 := hp1_58.ext hx65
          replace EM := EM.next hx65 (by omega)
          replace hby := hby.ext hx65
          replace hoy := hoy.ext hx65
          replace EL := EL.trans hx65
          replace E := E.trans hx65
          replace h := h.ext hx65
          refine w_pure (y_move rfl) rfl ?_
          refine w_pure (y_extract rfl rfl) rfl ?_
          refine w_pure (y_extract rfl rfl) rfl ?_
          refine w_pure (y_extract rfl rfl) rfl ?_
          refine w_store_boxs rfl rfl (next := fun ws64 hbs64 hxs64 hss64 => ?_)
          (replace hb12 := hbs64; clear hbs64)
          have hz_hxs64 := hxs64.size
          replace hp1_65 := hp1_65.chg hxs64 (by omega)
          replace hp1_58 := hp1_58.chg hxs64 (by omega)
          replace EM := EM.next hxs64 (by omega)
          replace hby := hby.chg hxs64 (by omega)
          replace hoy := hoy.chg hxs64 (by omega)
          replace EL := EL.next hxs64 (by omega)
          replace E := E.next hxs64 (by omega)
          replace h := h.chg hxs64 (by omega)
          refine w_nil ?_
          refine x_next ?_
          refine c_seq ?_
          refine c_region ?_
          refine w_pure (y_load_boxs rfl) rfl ?_
          refine w_store_boxs rfl rfl (next := fun ws70 hbs70 hxs70 hss70 => ?_)
          (replace hby := hbs70; clear hbs70)
          have hz_hxs70 := hxs70.size
          replace hb12 := hb12.chg hxs70 (by omega)
          replace hp1_65 := hp1_65.chg hxs70 (by omega)
          replace hp1_58 := hp1_58.chg hxs70 (by omega)
          replace EM := EM.trans hxs70
          replace hoy := hoy.chg hxs70 (by omega)
          replace EL := EL.next hxs70 (by omega)
          replace E := E.next hxs70 (by omega)
          replace h := h.chg hxs70 (by omega)
          refine w_nil ?_
          refine x_next ?_
          refine c_seq ?_
          refine c_region ?_
          refine w_pure (y_field rfl) rfl ?_
          refine w_pure (y_load_box rfl) rfl ?_
          refine w_pure (y_move rfl) rfl ?_
          refine w_pure (y_sub rfl rfl) rfl ?_
          refine w_pure (y_index rfl rfl) rfl ?_
          refine w_pure (y_load_int rfl) rfl ?_
          refine w_pure (y_assign rfl) rfl ?_
          refine w_nil ?_
          refine x_next ?_
          refine c_seq ?_
          refine c_region ?_
          refine w_pure (y_move rfl) rfl ?_
          refine w_pure (y_ne rfl rfl) rfl ?_
          refine w_pure (y_move rfl) rfl ?_
          (refine w_part_dec rfl rfl (fun hc79 => ?_) (fun hc79 => ?_) <;> try (first | exact absurd rfl hc79 | contradiction | exact Bool.noConfusion (show false = true from hc79.symm.trans (by assumption)) | exact Bool.noConfusion (show true = false from hc79.symm.trans (by assumption)) | (exfalso; omega) | (exfalso; simp only [*, Bool.not_true, Bool.not_false, reduceCtorEq] at hc79; done)))
          refine w_yes rfl rfl ?_
          refine w_pure (y_move rfl) rfl ?_
          refine w_yes rfl rfl ?_
          refine w_pure (y_ne rfl rfl) rfl ?_
          refine w_pure (y_pick_t rfl rfl) rfl ?_
          refine w_nil ?_
          refine x_next ?_
          (refine c_dec rfl (fun hc81 => ?_) (fun hc81 => ?_) <;> try (first | exact absurd rfl hc81 | contradiction | exact Bool.noConfusion (show false = true from hc81.symm.trans (by assumption)) | exact Bool.noConfusion (show true = false from hc81.symm.trans (by assumption)) | (exfalso; omega) | (exfalso; simp only [*, Bool.not_true, Bool.not_false, reduceCtorEq] at hc81; done)))
          refine c_seq ?_
          refine c_region ?_
          refine w_pure (y_assign rfl) rfl ?_
          refine w_pure (y_assign rfl) rfl ?_
          refine w_pure (y_assign rfl) rfl ?_
          refine w_nil ?_
          refine x_next ?_
          refine c_ret ?_
          refine x_block_ret ?_
          refine x_then_ret ?_
          refine x_then_ret ?_
          refine x_block_ret ?_
          refine x_then_ret ?_
          rotate_left
          refine c_skip ?_
          refine x_block_norm ?_
          refine x_next ?_
          refine c_region ?_
          refine w_pure (y_add rfl rfl) rfl ?_
          refine w_pure (y_move rfl) rfl ?_
          refine w_nil ?_
          rotate_left
          refine w_no rfl rfl rfl rfl ?_
          refine w_no rfl rfl rfl rfl ?_
          refine w_pure (y_pick_f rfl rfl) rfl ?_
          refine w_nil ?_
          refine x_next ?_
          refine c_false rfl ?_
          refine c_skip ?_
          refine x_block_norm ?_
          refine x_next ?_
          refine c_region ?_
          refine w_pure (y_add rfl rfl) rfl ?_
          refine w_pure (y_move rfl) rfl ?_
          refine w_nil ?_
          rotate_left
          refine c_skip ?_
          refine x_next ?_
          refine c_seq ?_
          refine c_region ?_
          refine w_pure (y_load_boxs rfl) rfl ?_
          refine w_store_boxs rfl rfl (next := fun ws139 hbs139 hxs139 hss139 => ?_)
          (replace hby := hbs139; clear hbs139)
          have hz_hxs139 := hxs139.size
          replace hb12 := hb12.chg hxs139 (by omega)
          replace hp1_58 := hp1_58.chg hxs139 (by omega)
          replace EM := EM.trans hxs139
          replace hoy := hoy.chg hxs139 (by omega)
          replace EL := EL.next hxs139 (by omega)
          replace E := E.next hxs139 (by omega)
          replace h := h.chg hxs139 (by omega)
          refine w_nil ?_
          refine x_next ?_
          refine c_seq ?_
          refine c_region ?_
          refine w_pure (y_field rfl) rfl ?_
          refine w_pure (y_load_box rfl) rfl ?_
          refine w_pure (y_move rfl) rfl ?_
          refine w_pure (y_sub rfl rfl) rfl ?_
          refine w_pure (y_index rfl rfl) rfl ?_
          refine w_pure (y_load_int rfl) rfl ?_
          refine w_pure (y_assign rfl) rfl ?_
          refine w_nil ?_
          refine x_next ?_
          refine c_seq ?_
          refine c_region ?_
          refine w_pure (y_move rfl) rfl ?_
          refine w_pure (y_ne rfl rfl) rfl ?_
          refine w_pure (y_move rfl) rfl ?_
          (refine w_part_dec rfl rfl (fun hc79 => ?_) (fun hc79 => ?_) <;> try (first | exact absurd rfl hc79 | contradiction | exact Bool.noConfusion (show false = true from hc79.symm.trans (by assumption)) | exact Bool.noConfusion (show true = false from hc79.symm.trans (by assumption)) | (exfalso; omega) | (exfalso; simp only [*, Bool.not_true, Bool.not_false, reduceCtorEq] at hc79; done)))
          refine w_yes rfl rfl ?_
          refine w_pure (y_move rfl) rfl ?_
          refine w_yes rfl rfl ?_
          refine w_pure (y_ne rfl rfl) rfl ?_
          refine w_pure (y_pick_t rfl rfl) rfl ?_
          refine w_nil ?_
          refine x_next ?_
          (refine c_dec rfl (fun hc81 => ?_) (fun hc81 => ?_) <;> try (first | exact absurd rfl hc81 | contradiction | exact Bool.noConfusion (show false = true from hc81.symm.trans (by assumption)) | exact Bool.noConfusion (show true = false from hc81.symm.trans (by assumption)) | (exfalso; omega) | (exfalso; simp only [*, Bool.not_true, Bool.not_false, reduceCtorEq] at hc81; done)))
          refine c_seq ?_
          refine c_region ?_
          refine w_pure (y_assign rfl) rfl ?_
          refine w_pure (y_assign rfl) rfl ?_
          refine w_pure (y_assign rfl) rfl ?_
          refine w_nil ?_
          refine x_next ?_
          refine c_ret ?_
          refine x_block_ret ?_
          refine x_then_ret ?_
          refine x_then_ret ?_
          refine x_block_ret ?_
          refine x_then_ret ?_
          rotate_left
          refine c_skip ?_
          refine x_block_norm ?_
          refine x_next ?_
          refine c_region ?_
          refine w_pure (y_add rfl rfl) rfl ?_
          refine w_pure (y_move rfl) rfl ?_
          refine w_nil ?_
          rotate_left
          refine w_no rfl rfl rfl rfl ?_
          refine w_no rfl rfl rfl rfl ?_
          refine w_pure (y_pick_f rfl rfl) rfl ?_
          refine w_nil ?_
          refine x_next ?_
          refine c_false rfl ?_
          refine c_skip ?_
          refine x_block_norm ?_
          refine x_next ?_
          refine c_region ?_
          refine w_pure (y_add rfl rfl) rfl ?_
          refine w_pure (y_move rfl) rfl ?_
          refine w_nil ?_
          rotate_left
          refine c_skip ?_
          refine x_next ?_
          refine c_seq ?_
          refine c_region ?_
          refine w_pure (y_load_boxs rfl) rfl ?_
          refine w_pure (y_move rfl) rfl ?_
          (refine w_call rfl rfl rfl (added_c _) rfl ?_; rintro _ w58 ⟨d58, ⟨rfl, ⟨hp1_58, hx58⟩⟩⟩)
          have hl_hp1_58 := hp1_58.lt
          have hz_hx58 := hx58.size
          replace EM := EM.next hx58 (by omega)
          replace hby := hby.ext hx58
          replace hoy := hoy.ext hx58
          replace EL := EL.trans hx58
          replace E := E.trans hx58
          replace h := h.ext hx58
          refine w_pure (y_move rfl) rfl ?_
          refine w_pure (y_extract rfl rfl) rfl ?_
          refine w_pure (y_extract rfl rfl) rfl ?_
          refine w_pure (y_extract rfl rfl) rfl ?_
          refine w_alloc (k := fun b12 w12 hb12 hx12 hl12 hs12 => ?_)
          have hz_hx12 := hx12.size
          replace hp1_58 := hp1_58.ext hx12
          replace EM := EM.next hx12 (by omega)
          replace hby := hby.ext hx12
          replace hoy := hoy.ext hx12
          replace EL := EL.trans hx12
          replace E := E.trans hx12
          replace h := h.ext hx12
          refine w_store_boxs rfl rfl (next := fun ws215 hbs215 hxs215 hss215 => ?_)
          (replace hb12 := hbs215; clear hbs215)
          have hz_hxs215 := hxs215.size
          replace hp1_58 := hp1_58.chg hxs215 (by omega)
          replace EM := EM.next hxs215 (by omega)
          replace hby := hby.chg hxs215 (by omega)
          replace hoy := hoy.chg hxs215 (by omega)
          replace EL := EL.next hxs215 (by omega)
          replace E := E.next hxs215 (by omega)
          replace h := h.chg hxs215 (by omega)
          refine w_pure (y_assign rfl) rfl ?_
          refine w_pure (y_assign rfl) rfl ?_
          refine w_nil ?_
          refine x_next ?_
          refine c_seq ?_
          refine c_seq ?_
          refine c_region ?_
          refine w_pure (y_move rfl) rfl ?_
          refine w_nil ?_
          refine x_next ?_
          (refine c_dec rfl (fun hc62 => ?_) (fun hc62 => ?_) <;> try (first | exact absurd rfl hc62 | contradiction | exact Bool.noConfusion (show false = true from hc62.symm.trans (by assumption)) | exact Bool.noConfusion (show true = false from hc62.symm.trans (by assumption)) | (exfalso; omega) | (exfalso; simp only [*, Bool.not_true, Bool.not_false, reduceCtorEq] at hc62; done)))
          refine c_region ?_
          refine w_pure (y_load_boxs rfl) rfl ?_
          (refine w_call rfl rfl rfl (added_c _) rfl ?_; rintro _ w65 ⟨d65, ⟨rfl, ⟨hp1_65, hx65⟩⟩⟩)
          have hl_hp1_65 := hp1_65.lt
          have hz_hx65 := hx65.size
          replace hb12 := hb12.ext hx65
          replace hp1_58 := hp1_58.ext hx65
          replace EM := EM.next hx65 (by omega)
          replace hby := hby.ext hx65
          replace hoy := hoy.ext hx65
          replace EL := EL.trans hx65
          replace E := E.trans hx65
          replace h := h.ext hx65
          refine w_pure (y_move rfl) rfl ?_
          refine w_pure (y_extract rfl rfl) rfl ?_
          refine w_pure (y_extract rfl rfl) rfl ?_
          refine w_pure (y_extract rfl rfl) rfl ?_
          refine w_store_boxs rfl rfl (next := fun ws234 hbs234 hxs234 hss234 => ?_)
          (replace hb12 := hbs234; clear hbs234)
          have hz_hxs234 := hxs234.size
          replace hp1_65 := hp1_65.chg hxs234 (by omega)
          replace hp1_58 := hp1_58.chg hxs234 (by omega)
          replace EM := EM.next hxs234 (by omega)
          replace hby := hby.chg hxs234 (by omega)
          replace hoy := hoy.chg hxs234 (by omega)
          replace EL := EL.next hxs234 (by omega)
          replace E := E.next hxs234 (by omega)
          replace h := h.chg hxs234 (by omega)
          refine w_nil ?_
          refine x_next ?_
          refine c_seq ?_
          refine c_region ?_
          refine w_pure (y_load_boxs rfl) rfl ?_
          refine w_store_boxs rfl rfl (next := fun ws240 hbs240 hxs240 hss240 => ?_)
          (replace hby := hbs240; clear hbs240)
          have hz_hxs240 := hxs240.size
          replace hb12 := hb12.chg hxs240 (by omega)
          replace hp1_65 := hp1_65.chg hxs240 (by omega)
          replace hp1_58 := hp1_58.chg hxs240 (by omega)
          replace EM := EM.trans hxs240
          replace hoy := hoy.chg hxs240 (by omega)
          replace EL := EL.next hxs240 (by omega)
          replace E := E.next hxs240 (by omega)
          replace h := h.chg hxs240 (by omega)
          refine w_nil ?_
          refine x_next ?_
          refine c_seq ?_
          refine c_region ?_
          refine w_pure (y_field rfl) rfl ?_
          refine w_pure (y_load_box rfl) rfl ?_
          refine w_pure (y_move rfl) rfl ?_
          refine w_pure (y_sub rfl rfl) rfl ?_
          refine w_pure (y_index rfl rfl) rfl ?_
          refine w_pure (y_load_int rfl) rfl ?_
          refine w_pure (y_assign rfl) rfl ?_
          refine w_nil ?_
          refine x_next ?_
          refine c_seq ?_
          refine c_region ?_
          refine w_pure (y_move rfl) rfl ?_
          refine w_pure (y_ne rfl rfl) rfl ?_
          refine w_pure (y_move rfl) rfl ?_
          (refine w_part_dec rfl rfl (fun hc79 => ?_) (fun hc79 => ?_) <;> try (first | exact absurd rfl hc79 | contradiction | exact Bool.noConfusion (show false = true from hc79.symm.trans (by assumption)) | exact Bool.noConfusion (show true = false from hc79.symm.trans (by assumption)) | (exfalso; omega) | (exfalso; simp only [*, Bool.not_true, Bool.not_false, reduceCtorEq] at hc79; done)))
          refine w_yes rfl rfl ?_
          refine w_pure (y_move rfl) rfl ?_
          refine w_yes rfl rfl ?_
          refine w_pure (y_ne rfl rfl) rfl ?_
          refine w_pure (y_pick_t rfl rfl) rfl ?_
          refine w_nil ?_
          refine x_next ?_
          (refine c_dec rfl (fun hc81 => ?_) (fun hc81 => ?_) <;> try (first | exact absurd rfl hc81 | contradiction | exact Bool.noConfusion (show false = true from hc81.symm.trans (by assumption)) | exact Bool.noConfusion (show true = false from hc81.symm.trans (by assumption)) | (exfalso; omega) | (exfalso; simp only [*, Bool.not_true, Bool.not_false, reduceCtorEq] at hc81; done)))
          refine c_seq ?_
          refine c_region ?_
          refine w_pure (y_assign rfl) rfl ?_
          refine w_pure (y_assign rfl) rfl ?_
          refine w_pure (y_assign rfl) rfl ?_
          refine w_nil ?_
          refine x_next ?_
          refine c_ret ?_
          refine x_block_ret ?_
          refine x_then_ret ?_
          refine x_then_ret ?_
          refine x_block_ret ?_
          refine x_then_ret ?_
          rotate_left
          refine c_skip ?_
          refine x_block_norm ?_
          refine x_next ?_
          refine c_region ?_
          refine w_pure (y_add rfl rfl) rfl ?_
          refine w_pure (y_move rfl) rfl ?_
          refine w_nil ?_
          rotate_left
          refine w_no rfl rfl rfl rfl ?_
          refine w_no rfl rfl rfl rfl ?_
          refine w_pure (y_pick_f rfl rfl) rfl ?_
          refine w_nil ?_
          refine x_next ?_
          refine c_false rfl ?_
          refine c_skip ?_
          refine x_block_norm ?_
          refine x_next ?_
          refine c_region ?_
          refine w_pure (y_add rfl rfl) rfl ?_
          refine w_pure (y_move rfl) rfl ?_
          refine w_nil ?_
          rotate_left
          refine c_skip ?_
          refine x_next ?_
          refine c_seq ?_
          refine c_region ?_
          refine w_pure (y_load_boxs rfl) rfl ?_
          refine w_store_boxs rfl rfl (next := fun ws309 hbs309 hxs309 hss309 => ?_)
          (replace hby := hbs309; clear hbs309)
          have hz_hxs309 := hxs309.size
          replace hb12 := hb12.chg hxs309 (by omega)
          replace hp1_58 := hp1_58.chg hxs309 (by omega)
          replace EM := EM.trans hxs309
          replace hoy := hoy.chg hxs309 (by omega)
          replace EL := EL.next hxs309 (by omega)
          replace E := E.next hxs309 (by omega)
          replace h := h.chg hxs309 (by omega)
          refine w_nil ?_
          refine x_next ?_
          refine c_seq ?_
          refine c_region ?_
          refine w_pure (y_field rfl) rfl ?_
          refine w_pure (y_load_box rfl) rfl ?_
          refine w_pure (y_move rfl) rfl ?_
          refine w_pure (y_sub rfl rfl) rfl ?_
          refine w_pure (y_index rfl rfl) rfl ?_
          refine w_pure (y_load_int rfl) rfl ?_
          refine w_pure (y_assign rfl) rfl ?_
          refine w_nil ?_
          refine x_next ?_
          refine c_seq ?_
          refine c_region ?_
          refine w_pure (y_move rfl) rfl ?_
          refine w_pure (y_ne rfl rfl) rfl ?_
          refine w_pure (y_move rfl) rfl ?_
          (refine w_part_dec rfl rfl (fun hc79 => ?_) (fun hc79 => ?_) <;> try (first | exact absurd rfl hc79 | contradiction | exact Bool.noConfusion (show false = true from hc79.symm.trans (by assumption)) | exact Bool.noConfusion (show true = false from hc79.symm.trans (by assumption)) | (exfalso; omega) | (exfalso; simp only [*, Bool.not_true, Bool.not_false, reduceCtorEq] at hc79; done)))
          refine w_yes rfl rfl ?_
          refine w_pure (y_move rfl) rfl ?_
          refine w_yes rfl rfl ?_
          refine w_pure (y_ne rfl rfl) rfl ?_
          refine w_pure (y_pick_t rfl rfl) rfl ?_
          refine w_nil ?_
          refine x_next ?_
          (refine c_dec rfl (fun hc81 => ?_) (fun hc81 => ?_) <;> try (first | exact absurd rfl hc81 | contradiction | exact Bool.noConfusion (show false = true from hc81.symm.trans (by assumption)) | exact Bool.noConfusion (show true = false from hc81.symm.trans (by assumption)) | (exfalso; omega) | (exfalso; simp only [*, Bool.not_true, Bool.not_false, reduceCtorEq] at hc81; done)))
          refine c_seq ?_
          refine c_region ?_
          refine w_pure (y_assign rfl) rfl ?_
          refine w_pure (y_assign rfl) rfl ?_
          refine w_pure (y_assign rfl) rfl ?_
          refine w_nil ?_
          refine x_next ?_
          refine c_ret ?_
          refine x_block_ret ?_
          refine x_then_ret ?_
          refine x_then_ret ?_
          refine x_block_ret ?_
          refine x_then_ret ?_
          rotate_left
          refine c_skip ?_
          refine x_block_norm ?_
          refine x_next ?_
          refine c_region ?_
          refine w_pure (y_add rfl rfl) rfl ?_
          refine w_pure (y_move rfl) rfl ?_
          refine w_nil ?_
          rotate_left
          refine w_no rfl rfl rfl rfl ?_
          refine w_no rfl rfl rfl rfl ?_
          refine w_pure (y_pick_f rfl rfl) rfl ?_
          refine w_nil ?_
          refine x_next ?_
          refine c_false rfl ?_
          refine c_skip ?_
          refine x_block_norm ?_
          refine x_next ?_
          refine c_region ?_
          refine w_pure (y_add rfl rfl) rfl ?_
          refine w_pure (y_move rfl) rfl ?_
          refine w_nil ?_
          rotate_left
        all_goals
          first
          | (have hst := st_pp hc50 hc62
             first
             | (exact x_retv [_, _, _] rfl ⟨rfl, rfl, rfl, trivial⟩ ⟨by rw [balR, if_neg (Classical.not_not.2 hs), if_neg (Classical.not_not.2 hn), if_pos (fun g => by have := g r hlt; rw [topOk, balD, hst] at this; omega)]; rfl, E.go⟩)
             | (refine x_again (r + 1, _) (by repeat (first | exact trivial | refine ⟨rfl, ?_⟩)) ⟨EM.go, by assumption, ?_, by dsimp only; omega, ?_, ?_⟩ (by dsimp only; omega)
                · dsimp only; rw [balD, hst]; exact Own.base (by assumption) (by omega)
                · intro m hm
                  dsimp only at hm
                  by_cases g : m = r
                  · subst g; rw [topOk, balD, hst]; omega
                  · exact htop m (by omega)
                · dsimp only; omega))
          | (have hst := st_pn hc50 hc62
             first
             | (exact x_retv [_, _, _] rfl ⟨rfl, rfl, rfl, trivial⟩ ⟨by rw [balR, if_neg (Classical.not_not.2 hs), if_neg (Classical.not_not.2 hn), if_pos (fun g => by have := g r hlt; rw [topOk, balD, hst] at this; omega)]; rfl, E.go⟩)
             | (refine x_again (r + 1, _) (by repeat (first | exact trivial | refine ⟨rfl, ?_⟩)) ⟨EM.go, by assumption, ?_, by dsimp only; omega, ?_, ?_⟩ (by dsimp only; omega)
                · dsimp only; rw [balD, hst]; exact Own.base (by assumption) (by omega)
                · intro m hm
                  dsimp only at hm
                  by_cases g : m = r
                  · subst g; rw [topOk, balD, hst]; omega
                  · exact htop m (by omega)
                · dsimp only; omega))
          | (have hst := st_nn (k := k) hc50 hc62
             first
             | (exact x_retv [_, _, _] rfl ⟨rfl, rfl, rfl, trivial⟩ ⟨by rw [balR, if_neg (Classical.not_not.2 hs), if_neg (Classical.not_not.2 hn), if_pos (fun g => by have := g r hlt; rw [topOk, balD, hst] at this; omega)]; rfl, E.go⟩)
             | (refine x_again (r + 1, _) (by repeat (first | exact trivial | refine ⟨rfl, ?_⟩)) ⟨EM.go, by assumption, ?_, by dsimp only; omega, ?_, ?_⟩ (by dsimp only; omega)
                · dsimp only; rw [balD, hst]; exact Own.base (by assumption) (by omega)
                · intro m hm
                  dsimp only at hm
                  by_cases g : m = r
                  · subst g; rw [topOk, balD, hst]; omega
                  · exact htop m (by omega)
                · dsimp only; omega))
          | (have hst := st_np (k := k) hc50 hc62
             first
             | (exact x_retv [_, _, _] rfl ⟨rfl, rfl, rfl, trivial⟩ ⟨by rw [balR, if_neg (Classical.not_not.2 hs), if_neg (Classical.not_not.2 hn), if_pos (fun g => by have := g r hlt; rw [topOk, balD, hst] at this; omega)]; rfl, E.go⟩)
             | (refine x_again (r + 1, _) (by repeat (first | exact trivial | refine ⟨rfl, ?_⟩)) ⟨EM.go, by assumption, ?_, by dsimp only; omega, ?_, ?_⟩ (by dsimp only; omega)
                · dsimp only; rw [balD, hst]; exact Own.base (by assumption) (by omega)
                · intro m hm
                  dsimp only at hm
                  by_cases g : m = r
                  · subst g; rw [topOk, balD, hst]; omega
                  · exact htop m (by omega)
                · dsimp only; omega))
      · have q10 := okC_of q1 (by omega) (by omega)
        have q11 : 0 ≤ valD (balD k xs r) ∧ valD (balD k xs r) < 10 ^ k.toNat := by have := valD_bd q1; rwa [q2] at this
        have hall2 : ∀ i, i < xs.length → topOk k (balD k xs (i + 1)) := fun m hm => htop m (by omega)
        have hrl : r = xs.length := by omega
        focus
          have hl_hoy := hoy.lt
          have hz_hxM := hxM.size
          replace EL := EL.next hxM (by omega)
          replace E := E.next hxM (by omega)
          replace h := h.chg hxM (by omega)
          refine c_seq ?_
          refine c_region ?_
          refine w_pure (y_lt rfl rfl) rfl ?_
          refine w_nil ?_
          refine x_next ?_
          refine c_seq ?_
          (refine c_dec rfl (fun hc46 => ?_) (fun hc46 => ?_) <;> try (first | exact absurd rfl hc46 | contradiction | exact Bool.noConfusion (show false = true from hc46.symm.trans (by assumption)) | exact Bool.noConfusion (show true = false from hc46.symm.trans (by assumption)) | (exfalso; omega) | (exfalso; simp only [*, Bool.not_true, Bool.not_false, reduceCtorEq] at hc46; done)))
          refine c_exit ?_
          refine x_then_exit ?_
          refine x_then_exit ?_
          refine x_block_hit ?_
          refine x_next ?_
          refine c_seq ?_
          refine c_seq ?_
          refine c_region ?_
          refine w_pure (y_field rfl) rfl ?_
          refine w_pure (y_load_box rfl) rfl ?_
          refine w_pure (y_move rfl) rfl ?_
          refine w_pure (y_sub rfl rfl) rfl ?_
          refine w_pure (y_index rfl rfl) rfl ?_
          refine w_pure (y_load_int rfl) rfl ?_
          refine w_pure (y_eq rfl rfl) rfl ?_
          refine w_nil ?_
          refine x_next ?_
          (refine c_dec rfl (fun hc89 => ?_) (fun hc89 => ?_) <;> try (first | exact absurd rfl hc89 | contradiction | exact Bool.noConfusion (show false = true from hc89.symm.trans (by assumption)) | exact Bool.noConfusion (show true = false from hc89.symm.trans (by assumption)) | (exfalso; omega) | (exfalso; simp only [*, Bool.not_true, Bool.not_false, reduceCtorEq] at hc89; done)))
          refine c_seq ?_
          refine c_region ?_
          refine w_pure (y_load_boxs rfl) rfl ?_
          refine w_val rfl rfl rfl (shown_z) rfl (fun w91 hx91 hz91 => ?_)
          have hz_hx91 := hx91.size
          replace EM := EM.next hx91 (by omega)
          replace hby := hby.ext hx91
          replace hoy := hoy.ext hx91
          replace EL := EL.trans hx91
          replace E := E.trans hx91
          replace h := h.ext hx91
          refine w_pure (y_move rfl) rfl ?_
          refine w_pur rfl rfl rfl (nines_c _ (by omega) (by omega)) rfl ?_
          refine w_pure (y_sub rfl rfl) rfl ?_
          refine w_pure (y_assign rfl) rfl ?_
          refine w_pure (y_assign rfl) rfl ?_
          refine w_pure (y_assign rfl) rfl ?_
          refine w_nil ?_
          refine x_next ?_
          refine c_ret ?_
          refine x_then_ret ?_
          rotate_left
          refine c_skip ?_
          refine x_next ?_
          refine c_seq ?_
          refine c_region ?_
          refine w_pure (y_load_boxs rfl) rfl ?_
          refine w_val rfl rfl rfl (shown_z) rfl (fun w96 hx96 hz96 => ?_)
          have hz_hx96 := hx96.size
          replace EM := EM.next hx96 (by omega)
          replace hby := hby.ext hx96
          replace hoy := hoy.ext hx96
          replace EL := EL.trans hx96
          replace E := E.trans hx96
          replace h := h.ext hx96
          refine w_pure (y_assign rfl) rfl ?_
          refine w_pure (y_assign rfl) rfl ?_
          refine w_pure (y_assign rfl) rfl ?_
          refine w_nil ?_
          refine x_next ?_
          refine c_ret ?_
          rotate_left
        · refine x_retv [_, _, _] rfl ⟨rfl, rfl, rfl, trivial⟩ ⟨?_, E.go⟩
          rw [balR, if_neg (Classical.not_not.2 hs), if_neg (Classical.not_not.2 hn), if_neg (Classical.not_not.2 hall2), ← hrl, if_pos hc89]; rfl
        · refine x_retv [_, _, _] rfl ⟨rfl, rfl, rfl, trivial⟩ ⟨?_, E.go⟩
          rw [balR, if_neg (Classical.not_not.2 hs), if_neg (Classical.not_not.2 hn), if_neg (Classical.not_not.2 hall2), ← hrl, if_neg hc89]; rfl
  · refine ret_enter Try.func20 rfl Try.ntmps20 rfl ?_
    have hs2 : ¬ (2 ≤ k ∧ k ≤ 12 ∧ xs.length ≤ 40) := hs
    focus
      have ht_h := h.top
      have hz_hx0 := hx0.size
      replace h := h.ext hx0
      refine c_seq ?_
      refine c_region ?_
      refine w_pure (y_assign rfl) rfl ?_
      refine w_pure (y_assign rfl) rfl ?_
      refine w_pure (y_assign rfl) rfl ?_
      refine w_nil ?_
      refine x_next ?_
      refine c_seq ?_
      refine c_seq ?_
      refine c_region ?_
      refine w_pure (y_move rfl) rfl ?_
      refine w_pur rfl rfl rfl (inside_c _ _ _) rfl ?_
      refine w_pure (y_not_dec rfl) rfl ?_
      refine w_pure (y_move rfl) rfl ?_
      (refine w_part_dec rfl rfl (fun hc20 => ?_) (fun hc20 => ?_) <;> try (first | exact absurd rfl hc20 | contradiction | exact Bool.noConfusion (show false = true from hc20.symm.trans (by assumption)) | exact Bool.noConfusion (show true = false from hc20.symm.trans (by assumption)) | (exfalso; omega) | (exfalso; simp only [*, Bool.not_true, Bool.not_false, reduceCtorEq] at hc20; done)))
      refine w_no rfl rfl rfl rfl ?_
      refine w_no rfl rfl rfl rfl ?_
      refine w_no rfl rfl rfl rfl ?_
      refine w_pure (y_pick_t rfl rfl) rfl ?_
      refine w_nil ?_
      refine x_next ?_
      refine c_true rfl ?_
      refine c_seq ?_
      refine c_region ?_
      refine w_pure (y_assign rfl) rfl ?_
      refine w_pure (y_assign rfl) rfl ?_
      refine w_pure (y_assign rfl) rfl ?_
      refine w_nil ?_
      refine x_next ?_
      refine c_ret ?_
      refine x_then_ret ?_
      rotate_left
      refine w_yes rfl rfl ?_
      refine w_pure (y_move rfl) rfl ?_
      refine w_yes rfl rfl ?_
      refine w_pure (y_len rfl) rfl ?_
      refine w_yes rfl rfl ?_
      refine w_pure (y_gt rfl rfl) rfl ?_
      refine w_pure (y_pick_f rfl rfl) rfl ?_
      refine w_nil ?_
      refine x_next ?_
      (refine c_dec rfl (fun hc23 => ?_) (fun hc23 => ?_) <;> try (first | exact absurd rfl hc23 | contradiction | exact Bool.noConfusion (show false = true from hc23.symm.trans (by assumption)) | exact Bool.noConfusion (show true = false from hc23.symm.trans (by assumption)) | (exfalso; omega) | (exfalso; simp only [*, Bool.not_true, Bool.not_false, reduceCtorEq] at hc23; done)))
      refine c_seq ?_
      refine c_region ?_
      refine w_pure (y_assign rfl) rfl ?_
      refine w_pure (y_assign rfl) rfl ?_
      refine w_pure (y_assign rfl) rfl ?_
      refine w_nil ?_
      refine x_next ?_
      refine c_ret ?_
      refine x_then_ret ?_
      rotate_left
    all_goals exact x_retv [_, _, _] rfl ⟨rfl, rfl, rfl, trivial⟩ ⟨by rw [balR, if_pos hs]; rfl, E.go⟩
theorem l11Set_c (k n : Int) (hk : 0 ≤ k ∧ k ≤ 20) (hn : 0 ≤ n) (hm : n ≤ 9223372036854775807) : Ret Try.prog 87 [.int .i64 k, .int .i64 n] w fun u w' => ∃ d, u = .agg #[d] ∧ Own w' 2 w.heap.size d (digs k.toNat n) ∧ Ext w w' := by
  have E : Since 0 0 w w := Since.refl 0 0 w
  refine ret_enter Try.func87 rfl Try.ntmps87 rfl ?_
  focus
    refine c_seq ?_
    refine c_region ?_
    refine w_alloc (k := fun b4 w4 hb4 hx4 hl4 hs4 => ?_)
    have hz_hx4 := hx4.size
    replace E := E.trans hx4
    refine w_nil ?_
    refine x_next ?_
    refine c_seq ?_
    refine c_region ?_
    refine w_pure (y_build rfl) rfl ?_
    refine w_alloc (k := fun b5 w5 hb5 hx5 hl5 hs5 => ?_)
    have hz_hx5 := hx5.size
    replace hb4 := hb4.ext hx5
    replace E := E.trans hx5
    refine w_store_boxs rfl rfl (next := fun ws10 hbs10 hxs10 hss10 => ?_)
    (replace hb5 := hbs10; clear hbs10)
    have hz_hxs10 := hxs10.size
    replace hb4 := hb4.chg hxs10 (by omega)
    replace E := E.next hxs10 (by omega)
    refine w_nil ?_
    refine x_next ?_
    refine c_seq ?_
    refine c_seq ?_
    refine c_region ?_
    refine w_pure (y_assign rfl) rfl ?_
    refine w_nil ?_
    refine x_next ?_
    refine c_block ?_
    rotate_left
  refine c_loopC b5 (b5 + 1) (ι := Nat × Value) (fun x => [(0, .int .i64 k), (1, .int .i64 (n / 10 ^ x.1)), (4, ptr b4 0), (5, ptr b5 0), (6, .int .i64 x.1)])
    (fun x w' => Box w' b5 [x.2] ∧ Own w' 2 (b5 + 1) x.2 (digs x.1 n) ∧ (x.1 : Int) ≤ k) (fun x => k.toNat - x.1) (0, .slice none 0 0) ⟨rfl, by simp; rfl, rfl, rfl, rfl, trivial⟩ ⟨by assumption, Own.nil _ _ _, by simp; omega⟩ ?_
  rintro ⟨i, u⟩ wL hxL EL ⟨hbu, ho, hi⟩
  dsimp only at *
  have q3 : 0 ≤ n / 10 ^ i := Int.ediv_nonneg hn (Int.le_of_lt (pow10_pos _))
  have q4 : n / 10 ^ i ≤ n := Int.ediv_le_self _ hn
  have q5 := digs_len i n
  focus
    have hl_ho := ho.lt
    have hz_hxL := hxL.size
    replace hb4 := hb4.chg hxL (by omega)
    replace E := E.next hxL (by omega)
    refine c_seq ?_
    refine c_seq ?_
    refine c_region ?_
    refine w_pure (y_move rfl) rfl ?_
    refine w_pure (y_move rfl) rfl ?_
    refine w_pure (y_lt rfl rfl) rfl ?_
    refine w_nil ?_
    refine x_next ?_
    (refine c_dec rfl (fun hc10 => ?_) (fun hc10 => ?_) <;> try (first | exact absurd rfl hc10 | contradiction | exact Bool.noConfusion (show false = true from hc10.symm.trans (by assumption)) | exact Bool.noConfusion (show true = false from hc10.symm.trans (by assumption)) | (exfalso; omega) | (exfalso; simp only [*, Bool.not_true, Bool.not_false, reduceCtorEq] at hc10; done)))
    refine c_skip ?_
    refine x_next ?_
    refine c_seq ?_
    refine c_block ?_
    refine c_seq ?_
    refine c_region ?_
    refine w_pure (y_field rfl) rfl ?_
    refine w_pure (y_load_box rfl) rfl ?_
    refine w_pure (y_move rfl) rfl ?_
    refine w_pure (y_rem rfl rfl) rfl ?_
    refine w_lit (α := Int) rfl rfl rfl rfl rfl rfl rfl rfl (fun v17 w17 ho17 hx17 hl17 hh17 hs17 => ?_)
    have hl_ho17 := ho17.lt
    have hz_hx17 := hx17.size
    replace EL := EL.next hx17 (by omega)
    replace hbu := hbu.ext hx17
    replace ho := ho.ext hx17
    replace hb4 := hb4.ext hx17
    replace E := E.trans hx17
    refine w_append rfl rfl (k := fun v18 w18 ho18 hx18 hr18 => ?_)
    have hl_ho18 := ho18.lt
    have hz_hx18 := hx18.size
    replace ho17 := ho17.chg hx18 (by omega)
    replace EL := EL.next hx18 (by omega)
    replace hbu := hbu.chg hx18 (by omega)
    replace hb4 := hb4.chg hx18 (by omega)
    replace E := E.next hx18 (by omega)
    refine w_pure (y_field rfl) rfl ?_
    refine w_store_box rfl rfl (next := fun ws23 hbs23 hxs23 hss23 => ?_)
    (replace hb5 := hbs23; clear hbs23)
    have hz_hxs23 := hxs23.size
    replace ho18 := ho18.chg hxs23 (by omega)
    replace ho17 := ho17.chg hxs23 (by omega)
    replace EL := EL.trans hxs23
    replace hb4 := hb4.chg hxs23 (by omega)
    replace E := E.next hxs23 (by omega)
    refine w_nil ?_
    refine x_next ?_
    refine c_region ?_
    refine w_pure (y_move rfl) rfl ?_
    refine w_pure (y_quo rfl rfl) rfl ?_
    refine w_pure (y_assign rfl) rfl ?_
    refine w_nil ?_
    refine x_block_norm ?_
    refine x_next ?_
    refine c_region ?_
    refine w_pure (y_move rfl) rfl ?_
    refine w_pure (y_add rfl rfl) rfl ?_
    refine w_pure (y_assign rfl) rfl ?_
    refine w_nil ?_
    rotate_left
    refine c_exit ?_
    refine x_then_exit ?_
    refine x_then_exit ?_
    refine x_block_hit ?_
    refine x_next ?_
    refine c_seq ?_
    refine c_region ?_
    refine w_pure (y_load_boxs rfl) rfl ?_
    refine w_store_boxs rfl rfl (next := fun ws47 hbs47 hxs47 hss47 => ?_)
    (replace hb4 := hbs47; clear hbs47)
    have hz_hxs47 := hxs47.size
    replace hbu := hbu.chg hxs47 (by omega)
    replace ho := ho.chg hxs47 (by omega)
    replace E := E.next hxs47 (by omega)
    refine w_nil ?_
    refine x_next ?_
    refine c_ret ?_
    rotate_left
  · refine x_again (i + 1, v18) ⟨rfl, by dsimp only; rw [← dpow]; rfl, rfl, rfl, rfl, trivial⟩ ⟨EL.go, by assumption, ?_, by dsimp only; omega⟩ (by dsimp only; omega)
    dsimp only
    rw [digs_snoc]
    assumption
  · refine x_retv [_] rfl ⟨⟨_, rfl, run_load_str (Box.at (by assumption)) (by rfl)⟩, trivial⟩ ⟨_, rfl, ?_, E.go⟩
    rw [show k.toNat = i by omega]; exact Own.base (by assumption) (by omega)
theorem sx_pp {k : Int} {ds : List Int} {n : Int} (h : n < 0) (hl : ds.length = k.toNat) (hc : (addS ds (10 ^ ds.length - 1 - -n) ds.length).2.2 = 1) : balStep k ds n = (addS (addS ds (10 ^ ds.length - 1 - -n) ds.length).1 1 (addS ds (10 ^ ds.length - 1 - -n) ds.length).1.length).1 := by
  have e : (10 : Int) ^ ds.length - 1 - -n = n + (10 ^ k.toNat - 1) := by rw [hl]; omega
  rw [e] at hc ⊢; exact st_pp h hc
theorem sx_pn {k : Int} {ds : List Int} {n : Int} (h : n < 0) (hl : ds.length = k.toNat) (hc : ¬ (addS ds (10 ^ ds.length - 1 - -n) ds.length).2.2 = 1) : balStep k ds n = (addS ds (10 ^ ds.length - 1 - -n) ds.length).1 := by
  have e : (10 : Int) ^ ds.length - 1 - -n = n + (10 ^ k.toNat - 1) := by rw [hl]; omega
  rw [e] at hc ⊢; exact st_pn h hc
set_option maxHeartbeats 4000000 in
theorem sBalanceAfter_c (k : Int) (h : SL w lo hi v xs := by repeat (first | assumption | exact Go.Gw.Own.sl (by assumption) | exact Go.Gw.Box.at (by assumption) | exact Go.Gw.SLL.el (by first | assumption | exact Go.Gw.OwnD.sll (by assumption)) _ (by omega) | exact Go.Gw.SLL.at (by first | assumption | exact Go.Gw.OwnD.sll (by assumption)) (by omega) | exact Go.Gw.OwnD.sll (by assumption) | (apply Go.Gw.SL.chg; case hx => assumption) | (apply Go.Gw.Own.chg; case hx => assumption) | (apply Go.Gw.Box.chg; case hx => assumption) | (apply Go.Gw.At.chg; case hx => assumption) | exact .inl (Nat.zero_le _) | exact .inr (Nat.zero_le _) | (show _ ∨ _; omega))) (hk64 : In64 k := by assumption) : Val Try.prog 21 [.int .i64 k, v] w (.tuple #[.int .i64 (balR k xs).1, .bool (balR k xs).2.1, .int .i64 (balR k xs).2.2]) := by
  refine ⟨fun w0 hx0 => ?_⟩
  have E : Since 0 0 w0 w0 := Since.refl 0 0 w0
  have hsm := h.small
  by_cases hs : sizeOk k xs
  · have hs' : 2 ≤ k ∧ k ≤ 12 ∧ xs.length ≤ 40 := hs
    have p1 := pow10_12 (k := (k - 1).toNat) (by omega)
    have p2 := pow10_pos (k - 1).toNat
    have p3 := pow10_12 (k := k.toNat) (by omega)
    have p4 := pow10_pos k.toNat
    have p5 := pow_mono10 (show (k - 1).toNat ≤ k.toNat by omega)
    refine ret_enter Try.func21 rfl Try.ntmps21 rfl ?_
    focus
      have ht_h := h.top
      have hz_hx0 := hx0.size
      replace h := h.ext hx0
      refine c_seq ?_
      refine c_region ?_
      refine w_pure (y_assign rfl) rfl ?_
      refine w_pure (y_assign rfl) rfl ?_
      refine w_pure (y_assign rfl) rfl ?_
      refine w_nil ?_
      refine x_next ?_
      refine c_seq ?_
      refine c_seq ?_
      refine c_region ?_
      refine w_pure (y_move rfl) rfl ?_
      refine w_pur rfl rfl rfl (l00In_c _ _ _) rfl ?_
      refine w_pure (y_not_dec rfl) rfl ?_
      refine w_pure (y_move rfl) rfl ?_
      (refine w_part_dec rfl rfl (fun hc21 => ?_) (fun hc21 => ?_) <;> try (first | exact absurd rfl hc21 | contradiction | exact Bool.noConfusion (show false = true from hc21.symm.trans (by assumption)) | exact Bool.noConfusion (show true = false from hc21.symm.trans (by assumption)) | (exfalso; omega) | (exfalso; simp only [*, Bool.not_true, Bool.not_false, reduceCtorEq] at hc21; done)))
      refine w_yes rfl rfl ?_
      refine w_pure (y_move rfl) rfl ?_
      refine w_yes rfl rfl ?_
      refine w_pure (y_len rfl) rfl ?_
      refine w_yes rfl rfl ?_
      refine w_pure (y_gt rfl rfl) rfl ?_
      refine w_pure (y_pick_f rfl rfl) rfl ?_
      refine w_nil ?_
      refine x_next ?_
      (refine c_dec rfl (fun hc24 => ?_) (fun hc24 => ?_) <;> try (first | exact absurd rfl hc24 | contradiction | exact Bool.noConfusion (show false = true from hc24.symm.trans (by assumption)) | exact Bool.noConfusion (show true = false from hc24.symm.trans (by assumption)) | (exfalso; omega) | (exfalso; simp only [*, Bool.not_true, Bool.not_false, reduceCtorEq] at hc24; done)))
      refine c_skip ?_
      refine x_next ?_
      refine c_seq ?_
      refine c_region ?_
      refine w_pure (y_move rfl) rfl ?_
      refine w_pure (y_sub rfl rfl) rfl ?_
      refine w_pur rfl rfl rfl (l11Power_c _ (by omega) (by omega)) rfl ?_
      refine w_pure (y_sub rfl rfl) rfl ?_
      refine w_pure (y_assign rfl) rfl ?_
      refine w_nil ?_
      refine x_next ?_
      refine c_seq ?_
      refine c_seq ?_
      refine c_region ?_
      refine w_pure (y_assign rfl) rfl ?_
      refine w_nil ?_
      refine x_next ?_
      refine c_block ?_
      rotate_left
    refine c_loopC 0 0 (ι := Nat) (fun x => [(0, .int .i64 k), (1, v), (7, .int .i64 (10 ^ (k - 1).toNat - 1)), (8, .int .i64 x)]) (fun x w' => x ≤ xs.length ∧ ∀ m, m < x → -(10 ^ (k - 1).toNat - 1) ≤ xs.getD m 0 ∧ xs.getD m 0 ≤ 10 ^ (k - 1).toNat - 1) (fun x => xs.length - x) 0 (by repeat (first | exact trivial | refine ⟨rfl, ?_⟩)) ⟨by omega, fun m hm => by omega⟩ ?_
    rintro i wL hxL EL ⟨hi, hall⟩
    have hg : xs.getD (i : Int).toNat 0 = xs.getD i 0 := rfl
    focus
      have hz_hxL := hxL.size
      replace E := E.trans hxL
      replace h := h.ext hxL
      refine c_seq ?_
      refine c_seq ?_
      refine c_region ?_
      refine w_pure (y_move rfl) rfl ?_
      refine w_pure (y_move rfl) rfl ?_
      refine w_pure (y_len rfl) rfl ?_
      refine w_pure (y_lt rfl rfl) rfl ?_
      refine w_nil ?_
      refine x_next ?_
      (refine c_dec rfl (fun hc32 => ?_) (fun hc32 => ?_) <;> try (first | exact absurd rfl hc32 | contradiction | exact Bool.noConfusion (show false = true from hc32.symm.trans (by assumption)) | exact Bool.noConfusion (show true = false from hc32.symm.trans (by assumption)) | (exfalso; omega) | (exfalso; simp only [*, Bool.not_true, Bool.not_false, reduceCtorEq] at hc32; done)))
      refine c_skip ?_
      refine x_next ?_
      refine c_seq ?_
      refine c_block ?_
      refine c_seq ?_
      refine c_region ?_
      refine w_pure (y_move rfl) rfl ?_
      refine w_pure (y_move rfl) rfl ?_
      refine w_pure (y_index rfl rfl) rfl ?_
      refine w_pure (y_load_inte rfl hg) rfl ?_
      refine w_pure (y_move rfl) rfl ?_
      refine w_pure (y_neg rfl) rfl ?_
      refine w_pure (y_move rfl) rfl ?_
      refine w_pur rfl rfl rfl (l00In_c _ _ _) rfl ?_
      refine w_pure (y_not_dec rfl) rfl ?_
      refine w_nil ?_
      refine x_next ?_
      (refine c_dec rfl (fun hc43 => ?_) (fun hc43 => ?_) <;> try (first | exact absurd rfl hc43 | contradiction | exact Bool.noConfusion (show false = true from hc43.symm.trans (by assumption)) | exact Bool.noConfusion (show true = false from hc43.symm.trans (by assumption)) | (exfalso; omega) | (exfalso; simp only [*, Bool.not_true, Bool.not_false, reduceCtorEq] at hc43; done)))
      refine c_seq ?_
      refine c_region ?_
      refine w_pure (y_assign rfl) rfl ?_
      refine w_pure (y_assign rfl) rfl ?_
      refine w_pure (y_assign rfl) rfl ?_
      refine w_nil ?_
      refine x_next ?_
      refine c_ret ?_
      refine x_block_ret ?_
      refine x_then_ret ?_
      refine x_then_ret ?_
      refine x_block_ret ?_
      refine x_then_ret ?_
      rotate_left
      refine c_skip ?_
      refine x_block_norm ?_
      refine x_next ?_
      refine c_region ?_
      refine w_pure (y_move rfl) rfl ?_
      refine w_pure (y_add rfl rfl) rfl ?_
      refine w_pure (y_assign rfl) rfl ?_
      refine w_nil ?_
      rotate_left
      refine c_exit ?_
      refine x_then_exit ?_
      refine x_then_exit ?_
      refine x_block_hit ?_
      refine x_next ?_
      refine c_seq ?_
      refine c_region ?_
      refine w_pure (y_move rfl) rfl ?_
      (refine w_call rfl rfl rfl (l11Set_c _ _ (by omega) (by omega) (by omega)) rfl ?_; rintro _ w45 ⟨d45, ⟨rfl, ⟨hp1_45, hx45⟩⟩⟩)
      have hl_hp1_45 := hp1_45.lt
      have hz_hx45 := hx45.size
      replace EL := EL.trans hx45
      replace E := E.trans hx45
      replace h := h.ext hx45
      refine w_alloc (k := fun b9 w9 hb9 hx9 hl9 hs9 => ?_)
      have hz_hx9 := hx9.size
      replace hp1_45 := hp1_45.ext hx9
      replace EL := EL.trans hx9
      replace E := E.trans hx9
      replace h := h.ext hx9
      refine w_store_boxs rfl rfl (next := fun ws62 hbs62 hxs62 hss62 => ?_)
      (replace hb9 := hbs62; clear hbs62)
      have hz_hxs62 := hxs62.size
      replace hp1_45 := hp1_45.chg hxs62 (by omega)
      replace EL := EL.next hxs62 (by omega)
      replace E := E.next hxs62 (by omega)
      replace h := h.chg hxs62 (by omega)
      refine w_nil ?_
      refine x_next ?_
      refine c_seq ?_
      refine c_seq ?_
      refine c_region ?_
      refine w_pure (y_assign rfl) rfl ?_
      refine w_nil ?_
      refine x_next ?_
      refine c_block ?_
      rotate_left
    · have hn : ¬ numOk k xs := fun g => hc43 (g _ (getD_mem (by omega)))
      exact x_retv [_, _, _] rfl ⟨rfl, rfl, rfl, trivial⟩ ⟨by rw [balR, if_neg (by simpa using hs), if_pos hn]; rfl, E.go⟩
    · exact x_again (i + 1) (by repeat (first | exact trivial | refine ⟨rfl, ?_⟩)) ⟨EL.go, by omega, fun m hm => by
        by_cases g : m = i
        · subst g; exact Decidable.not_not.1 hc43
        · exact hall m (by omega)⟩ (by omega)
    · have hn : numOk k xs := fun x hx => by
        obtain ⟨m, hm, rfl⟩ := List.mem_iff_getElem.1 hx
        have := hall m (by omega)
        rwa [List.getD_eq_getElem?_getD, List.getElem?_eq_getElem hm] at this
      refine c_loopC b9 (b9 + 1) (ι := Nat × Value) (fun x => [(0, .int .i64 k), (1, v), (9, ptr b9 0), (10, .int .i64 x.1)]) (fun x w' => Box w' b9 [x.2] ∧ Own w' 2 0 x.2 (balD k xs x.1) ∧ x.1 ≤ xs.length ∧ (∀ m, m < x.1 → topOk k (balD k xs (m + 1))) ∧ (bH x.2 ≤ b9 ∨ b9 < bL x.2)) (fun x => xs.length - x.1) (0, d45) (by repeat (first | exact trivial | refine ⟨rfl, ?_⟩)) ⟨hb9, hp1_45.base (by omega), by simp, fun m hm => by simp at hm, by dsimp only; omega⟩ ?_
      rintro ⟨r, y⟩ wM hxM EM ⟨hby, hoy, hr, htop, hdis⟩
      dsimp only at *
      clear hp1_45 hb9
      have hg : xs.getD (r : Int).toNat 0 = xs.getD r 0 := rfl
      obtain ⟨q1, q2⟩ := balD_ok k xs r
      have q12 : (10 : Int) ^ (balD k xs r).length = 10 ^ k.toNat := by rw [q2]
      by_cases hlt : r < xs.length
      · have q3 := hn _ (getD_mem hlt)
        have q4 := (addS_bd q1 (xs.getD r 0) (balD k xs r).length).2.2.2.2
        have q5 := (addS_bd q1 (10 ^ (balD k xs r).length - 1 - -xs.getD r 0) (balD k xs r).length).2.2.2.2
        have q6 := addS_len (balD k xs r) (xs.getD r 0) (balD k xs r).length
        have q7 := addS_len (balD k xs r) (10 ^ (balD k xs r).length - 1 - -xs.getD r 0) (balD k xs r).length
        have q8 := addS_len (addS (balD k xs r) (xs.getD r 0) (balD k xs r).length).1 1 (addS (balD k xs r) (xs.getD r 0) (balD k xs r).length).1.length
        have q9 := addS_len (addS (balD k xs r) (10 ^ (balD k xs r).length - 1 - -xs.getD r 0) (balD k xs r).length).1 1 (addS (balD k xs r) (10 ^ (balD k xs r).length - 1 - -xs.getD r 0) (balD k xs r).length).1.length
        focus
          have hl_hoy := hoy.lt
          have hz_hxM := hxM.size
          replace EL := EL.next hxM (by omega)
          replace E := E.next hxM (by omega)
          replace h := h.chg hxM (by omega)
          refine c_seq ?_
          refine c_seq ?_
          refine c_region ?_
          refine w_pure (y_move rfl) rfl ?_
          refine w_pure (y_move rfl) rfl ?_
          refine w_pure (y_len rfl) rfl ?_
          refine w_pure (y_lt rfl rfl) rfl ?_
          refine w_nil ?_
          refine x_next ?_
          (refine c_dec rfl (fun hc49 => ?_) (fun hc49 => ?_) <;> try (first | exact absurd rfl hc49 | contradiction | exact Bool.noConfusion (show false = true from hc49.symm.trans (by assumption)) | exact Bool.noConfusion (show true = false from hc49.symm.trans (by assumption)) | (exfalso; omega) | (exfalso; simp only [*, Bool.not_true, Bool.not_false, reduceCtorEq] at hc49; done)))
          refine c_skip ?_
          refine x_next ?_
          refine c_seq ?_
          refine c_block ?_
          refine c_seq ?_
          refine c_region ?_
          refine w_pure (y_move rfl) rfl ?_
          refine w_pure (y_move rfl) rfl ?_
          refine w_pure (y_index rfl rfl) rfl ?_
          refine w_pure (y_load_inte rfl hg) rfl ?_
          refine w_pure (y_assign rfl) rfl ?_
          refine w_nil ?_
          refine x_next ?_
          refine c_seq ?_
          refine c_seq ?_
          refine c_region ?_
          refine w_pure (y_move rfl) rfl ?_
          refine w_pure (y_lt rfl rfl) rfl ?_
          refine w_nil ?_
          refine x_next ?_
          (refine c_dec rfl (fun hc57 => ?_) (fun hc57 => ?_) <;> try (first | exact absurd rfl hc57 | contradiction | exact Bool.noConfusion (show false = true from hc57.symm.trans (by assumption)) | exact Bool.noConfusion (show true = false from hc57.symm.trans (by assumption)) | (exfalso; omega) | (exfalso; simp only [*, Bool.not_true, Bool.not_false, reduceCtorEq] at hc57; done)))
          refine c_region ?_
          refine w_pure (y_move rfl) rfl ?_
          refine w_pure (y_neg rfl) rfl ?_
          refine w_val rfl rfl rfl (l11Nines_c _) rfl (fun w60 hx60 hz60 => ?_)
          have hz_hx60 := hx60.size
          replace EM := EM.next hx60 (by omega)
          replace hby := hby.ext hx60
          replace hoy := hoy.ext hx60
          replace EL := EL.trans hx60
          replace E := E.trans hx60
          replace h := h.ext hx60
          refine w_pure (y_assign rfl) rfl ?_
          refine w_nil ?_
          refine x_next ?_
          refine c_seq ?_
          refine c_region ?_
          refine w_pure (y_move rfl) rfl ?_
          (refine w_call rfl rfl rfl (l11Add_c _) rfl ?_; rintro _ w63 ⟨d63, ⟨rfl, ⟨hp1_63, hx63⟩⟩⟩)
          have hl_hp1_63 := hp1_63.lt
          have hz_hx63 := hx63.size
          replace EM := EM.next hx63 (by omega)
          replace hby := hby.ext hx63
          replace hoy := hoy.ext hx63
          replace EL := EL.trans hx63
          replace E := E.trans hx63
          replace h := h.ext hx63
          refine w_pure (y_move rfl) rfl ?_
          refine w_pure (y_extract rfl rfl) rfl ?_
          refine w_pure (y_extract rfl rfl) rfl ?_
          refine w_pure (y_extract rfl rfl) rfl ?_
          refine w_alloc (k := fun b12 w12 hb12 hx12 hl12 hs12 => ?_)
          have hz_hx12 := hx12.size
          replace hp1_63 := hp1_63.ext hx12
          replace EM := EM.next hx12 (by omega)
          replace hby := hby.ext hx12
          replace hoy := hoy.ext hx12
          replace EL := EL.trans hx12
          replace E := E.trans hx12
          replace h := h.ext hx12
          refine w_store_boxs rfl rfl (next := fun ws48 hbs48 hxs48 hss48 => ?_)
          (replace hb12 := hbs48; clear hbs48)
          have hz_hxs48 := hxs48.size
          replace hp1_63 := hp1_63.chg hxs48 (by omega)
          replace EM := EM.next hxs48 (by omega)
          replace hby := hby.chg hxs48 (by omega)
          replace hoy := hoy.chg hxs48 (by omega)
          replace EL := EL.next hxs48 (by omega)
          replace E := E.next hxs48 (by omega)
          replace h := h.chg hxs48 (by omega)
          refine w_pure (y_assign rfl) rfl ?_
          refine w_pure (y_assign rfl) rfl ?_
          refine w_nil ?_
          refine x_next ?_
          refine c_seq ?_
          refine c_seq ?_
          refine c_region ?_
          refine w_pure (y_move rfl) rfl ?_
          refine w_nil ?_
          refine x_next ?_
          (refine c_dec rfl (fun hc67 => ?_) (fun hc67 => ?_) <;> try (first | exact absurd rfl hc67 | contradiction | exact Bool.noConfusion (show false = true from hc67.symm.trans (by assumption)) | exact Bool.noConfusion (show true = false from hc67.symm.trans (by assumption)) | (exfalso; omega) | (exfalso; simp only [*, Bool.not_true, Bool.not_false, reduceCtorEq] at hc67; done)))
          refine c_region ?_
          (refine w_call rfl rfl rfl (l11Add_c _) rfl ?_; rintro _ w69 ⟨d69, ⟨rfl, ⟨hp1_69, hx69⟩⟩⟩)
          have hl_hp1_69 := hp1_69.lt
          have hz_hx69 := hx69.size
          replace hb12 := hb12.ext hx69
          replace hp1_63 := hp1_63.ext hx69
          replace EM := EM.next hx69 (by omega)
          replace hby := hby.ext hx69
          replace hoy := hoy.ext hx69
          replace EL := EL.trans hx69
          replace E := E.trans hx69
          replace h := h.ext hx69
          refine w_pure (y_move rfl) rfl ?_
          refine w_pure (y_extract rfl rfl) rfl ?_
          refine w_pure (y_extract rfl rfl) rfl ?_
          refine w_pure (y_extract rfl rfl) rfl ?_
          refine w_store_boxs rfl rfl (next := fun ws66 hbs66 hxs66 hss66 => ?_)
          (replace hb12 := hbs66; clear hbs66)
          have hz_hxs66 := hxs66.size
          replace hp1_69 := hp1_69.chg hxs66 (by omega)
          replace hp1_63 := hp1_63.chg hxs66 (by omega)
          replace EM := EM.next hxs66 (by omega)
          replace hby := hby.chg hxs66 (by omega)
          replace hoy := hoy.chg hxs66 (by omega)
          replace EL := EL.next hxs66 (by omega)
          replace E := E.next hxs66 (by omega)
          replace h := h.chg hxs66 (by omega)
          refine w_nil ?_
          refine x_next ?_
          refine c_seq ?_
          refine c_region ?_
          refine w_pure (y_load_boxs rfl) rfl ?_
          refine w_store_boxs rfl rfl (next := fun ws72 hbs72 hxs72 hss72 => ?_)
          (replace hby := hbs72; clear hbs72)
          have hz_hxs72 := hxs72.size
          replace hb12 := hb12.chg hxs72 (by omega)
          replace hp1_69 := hp1_69.chg hxs72 (by omega)
          replace hp1_63 := hp1_63.chg hxs72 (by omega)
          replace EM := EM.trans hxs72
          replace hoy := hoy.chg hxs72 (by omega)
          replace EL := EL.next hxs72 (by omega)
          replace E := E.next hxs72 (by omega)
          replace h := h.chg hxs72 (by omega)
          refine w_nil ?_
          refine x_next ?_
          refine c_seq ?_
          refine c_region ?_
          refine w_pure (y_field rfl) rfl ?_
          refine w_pure (y_load_box rfl) rfl ?_
          refine w_pure (y_move rfl) rfl ?_
          refine w_pure (y_sub rfl rfl) rfl ?_
          refine w_pure (y_index rfl rfl) rfl ?_
          refine w_pure (y_load_int rfl) rfl ?_
          refine w_pure (y_assign rfl) rfl ?_
          refine w_nil ?_
          refine x_next ?_
          refine c_seq ?_
          refine c_region ?_
          refine w_pure (y_move rfl) rfl ?_
          refine w_pure (y_ne rfl rfl) rfl ?_
          refine w_pure (y_move rfl) rfl ?_
          (refine w_part_dec rfl rfl (fun hc83 => ?_) (fun hc83 => ?_) <;> try (first | exact absurd rfl hc83 | contradiction | exact Bool.noConfusion (show false = true from hc83.symm.trans (by assumption)) | exact Bool.noConfusion (show true = false from hc83.symm.trans (by assumption)) | (exfalso; omega) | (exfalso; simp only [*, Bool.not_true, Bool.not_false, reduceCtorEq] at hc83; done)))
          refine w_yes rfl rfl ?_
          refine w_pure (y_move rfl) rfl ?_
          refine w_yes rfl rfl ?_
          refine w_pure (y_ne rfl rfl) rfl ?_
          refine w_pure (y_pick_t rfl rfl) rfl ?_
          refine w_nil ?_
          refine x_next ?_
          (refine c_dec rfl (fun hc85 => ?_) (fun hc85 => ?_) <;> try (first | exact absurd rfl hc85 | contradiction | exact Bool.noConfusion (show false = true from hc85.symm.trans (by assumption)) | exact Bool.noConfusion (show true = false from hc85.symm.trans (by assumption)) | (exfalso; omega) | (exfalso; simp only [*, Bool.not_true, Bool.not_false, reduceCtorEq] at hc85; done)))
          refine c_seq ?_
          refine c_region ?_
          refine w_pure (y_assign rfl) rfl ?_
          refine w_pure (y_assign rfl) rfl ?_
          refine w_pure (y_assign rfl) rfl ?_
          refine w_nil ?_
          refine x_next ?_
          refine c_ret ?_
          refine x_block_ret ?_
          refine x_then_ret ?_
          refine x_then_ret ?_
          refine x_block_ret ?_
          refine x_then_ret ?_
          rotate_left
          refine c_skip ?_
          refine x_block_norm ?_
          refine x_next ?_
          refine c_region ?_
          refine w_pure (y_move rfl) rfl ?_
          refine w_pure (y_add rfl rfl) rfl ?_
          refine w_pure (y_assign rfl) rfl ?_
          refine w_nil ?_
          rotate_left
          refine w_no rfl rfl rfl rfl ?_
          refine w_no rfl rfl rfl rfl ?_
          refine w_pure (y_pick_f rfl rfl) rfl ?_
          refine w_nil ?_
          refine x_next ?_
          refine c_false rfl ?_
          refine c_skip ?_
          refine x_block_norm ?_
          refine x_next ?_
          refine c_region ?_
          refine w_pure (y_move rfl) rfl ?_
          refine w_pure (y_add rfl rfl) rfl ?_
          refine w_pure (y_assign rfl) rfl ?_
          refine w_nil ?_
          rotate_left
          refine c_skip ?_
          refine x_next ?_
          refine c_seq ?_
          refine c_region ?_
          refine w_pure (y_load_boxs rfl) rfl ?_
          refine w_store_boxs rfl rfl (next := fun ws143 hbs143 hxs143 hss143 => ?_)
          (replace hby := hbs143; clear hbs143)
          have hz_hxs143 := hxs143.size
          replace hb12 := hb12.chg hxs143 (by omega)
          replace hp1_63 := hp1_63.chg hxs143 (by omega)
          replace EM := EM.trans hxs143
          replace hoy := hoy.chg hxs143 (by omega)
          replace EL := EL.next hxs143 (by omega)
          replace E := E.next hxs143 (by omega)
          replace h := h.chg hxs143 (by omega)
          refine w_nil ?_
          refine x_next ?_
          refine c_seq ?_
          refine c_region ?_
          refine w_pure (y_field rfl) rfl ?_
          refine w_pure (y_load_box rfl) rfl ?_
          refine w_pure (y_move rfl) rfl ?_
          refine w_pure (y_sub rfl rfl) rfl ?_
          refine w_pure (y_index rfl rfl) rfl ?_
          refine w_pure (y_load_int rfl) rfl ?_
          refine w_pure (y_assign rfl) rfl ?_
          refine w_nil ?_
          refine x_next ?_
          refine c_seq ?_
          refine c_region ?_
          refine w_pure (y_move rfl) rfl ?_
          refine w_pure (y_ne rfl rfl) rfl ?_
          refine w_pure (y_move rfl) rfl ?_
          (refine w_part_dec rfl rfl (fun hc83 => ?_) (fun hc83 => ?_) <;> try (first | exact absurd rfl hc83 | contradiction | exact Bool.noConfusion (show false = true from hc83.symm.trans (by assumption)) | exact Bool.noConfusion (show true = false from hc83.symm.trans (by assumption)) | (exfalso; omega) | (exfalso; simp only [*, Bool.not_true, Bool.not_false, reduceCtorEq] at hc83; done)))
          refine w_yes rfl rfl ?_
          refine w_pure (y_move rfl) rfl ?_
          refine w_yes rfl rfl ?_
          refine w_pure (y_ne rfl rfl) rfl ?_
          refine w_pure (y_pick_t rfl rfl) rfl ?_
          refine w_nil ?_
          refine x_next ?_
          (refine c_dec rfl (fun hc85 => ?_) (fun hc85 => ?_) <;> try (first | exact absurd rfl hc85 | contradiction | exact Bool.noConfusion (show false = true from hc85.symm.trans (by assumption)) | exact Bool.noConfusion (show true = false from hc85.symm.trans (by assumption)) | (exfalso; omega) | (exfalso; simp only [*, Bool.not_true, Bool.not_false, reduceCtorEq] at hc85; done)))
          refine c_seq ?_
          refine c_region ?_
          refine w_pure (y_assign rfl) rfl ?_
          refine w_pure (y_assign rfl) rfl ?_
          refine w_pure (y_assign rfl) rfl ?_
          refine w_nil ?_
          refine x_next ?_
          refine c_ret ?_
          refine x_block_ret ?_
          refine x_then_ret ?_
          refine x_then_ret ?_
          refine x_block_ret ?_
          refine x_then_ret ?_
          rotate_left
          refine c_skip ?_
          refine x_block_norm ?_
          refine x_next ?_
          refine c_region ?_
          refine w_pure (y_move rfl) rfl ?_
          refine w_pure (y_add rfl rfl) rfl ?_
          refine w_pure (y_assign rfl) rfl ?_
          refine w_nil ?_
          rotate_left
          refine w_no rfl rfl rfl rfl ?_
          refine w_no rfl rfl rfl rfl ?_
          refine w_pure (y_pick_f rfl rfl) rfl ?_
          refine w_nil ?_
          refine x_next ?_
          refine c_false rfl ?_
          refine c_skip ?_
          refine x_block_norm ?_
          refine x_next ?_
          refine c_region ?_
          refine w_pure (y_move rfl) rfl ?_
          refine w_pure (y_add rfl rfl) rfl ?_
          refine w_pure (y_assign rfl) rfl ?_
          refine w_nil ?_
          rotate_left
          refine c_skip ?_
          refine x_next ?_
          refine c_seq ?_
          refine c_region ?_
          refine w_pure (y_move rfl) rfl ?_
          (refine w_call rfl rfl rfl (l11Add_c _) rfl ?_; rintro _ w63 ⟨d63, ⟨rfl, ⟨hp1_63, hx63⟩⟩⟩)
          have hl_hp1_63 := hp1_63.lt
          have hz_hx63 := hx63.size
          replace EM := EM.next hx63 (by omega)
          replace hby := hby.ext hx63
          replace hoy := hoy.ext hx63
          replace EL := EL.trans hx63
          replace E := E.trans hx63
          replace h := h.ext hx63
          refine w_pure (y_move rfl) rfl ?_
          refine w_pure (y_extract rfl rfl) rfl ?_
          refine w_pure (y_extract rfl rfl) rfl ?_
          refine w_pure (y_extract rfl rfl) rfl ?_
          refine w_alloc (k := fun b12 w12 hb12 hx12 hl12 hs12 => ?_)
          have hz_hx12 := hx12.size
          replace hp1_63 := hp1_63.ext hx12
          replace EM := EM.next hx12 (by omega)
          replace hby := hby.ext hx12
          replace hoy := hoy.ext hx12
          replace EL := EL.trans hx12
          replace E := E.trans hx12
          replace h := h.ext hx12
          refine w_store_boxs rfl rfl (next := fun ws220 hbs220 hxs220 hss220 => ?_)
          (replace hb12 := hbs220; clear hbs220)
          have hz_hxs220 := hxs220.size
          replace hp1_63 := hp1_63.chg hxs220 (by omega)
          replace EM := EM.next hxs220 (by omega)
          replace hby := hby.chg hxs220 (by omega)
          replace hoy := hoy.chg hxs220 (by omega)
          replace EL := EL.next hxs220 (by omega)
          replace E := E.next hxs220 (by omega)
          replace h := h.chg hxs220 (by omega)
          refine w_pure (y_assign rfl) rfl ?_
          refine w_pure (y_assign rfl) rfl ?_
          refine w_nil ?_
          refine x_next ?_
          refine c_seq ?_
          refine c_seq ?_
          refine c_region ?_
          refine w_pure (y_move rfl) rfl ?_
          refine w_nil ?_
          refine x_next ?_
          (refine c_dec rfl (fun hc67 => ?_) (fun hc67 => ?_) <;> try (first | exact absurd rfl hc67 | contradiction | exact Bool.noConfusion (show false = true from hc67.symm.trans (by assumption)) | exact Bool.noConfusion (show true = false from hc67.symm.trans (by assumption)) | (exfalso; omega) | (exfalso; simp only [*, Bool.not_true, Bool.not_false, reduceCtorEq] at hc67; done)))
          refine c_region ?_
          (refine w_call rfl rfl rfl (l11Add_c _) rfl ?_; rintro _ w69 ⟨d69, ⟨rfl, ⟨hp1_69, hx69⟩⟩⟩)
          have hl_hp1_69 := hp1_69.lt
          have hz_hx69 := hx69.size
          replace hb12 := hb12.ext hx69
          replace hp1_63 := hp1_63.ext hx69
          replace EM := EM.next hx69 (by omega)
          replace hby := hby.ext hx69
          replace hoy := hoy.ext hx69
          replace EL := EL.trans hx69
          replace E := E.trans hx69
          replace h := h.ext hx69
          refine w_pure (y_move rfl) rfl ?_
          refine w_pure (y_extract rfl rfl) rfl ?_
          refine w_pure (y_extract rfl rfl) rfl ?_
          refine w_pure (y_extract rfl rfl) rfl ?_
          refine w_store_boxs rfl rfl (next := fun ws238 hbs238 hxs238 hss238 => ?_)
          (replace hb12 := hbs238; clear hbs238)
          have hz_hxs238 := hxs238.size
          replace hp1_69 := hp1_69.chg hxs238 (by omega)
          replace hp1_63 := hp1_63.chg hxs238 (by omega)
          replace EM := EM.next hxs238 (by omega)
          replace hby := hby.chg hxs238 (by omega)
          replace hoy := hoy.chg hxs238 (by omega)
          replace EL := EL.next hxs238 (by omega)
          replace E := E.next hxs238 (by omega)
          replace h := h.chg hxs238 (by omega)
          refine w_nil ?_
          refine x_next ?_
          refine c_seq ?_
          refine c_region ?_
          refine w_pure (y_load_boxs rfl) rfl ?_
          refine w_store_boxs rfl rfl (next := fun ws244 hbs244 hxs244 hss244 => ?_)
          (replace hby := hbs244; clear hbs244)
          have hz_hxs244 := hxs244.size
          replace hb12 := hb12.chg hxs244 (by omega)
          replace hp1_69 := hp1_69.chg hxs244 (by omega)
          replace hp1_63 := hp1_63.chg hxs244 (by omega)
          replace EM := EM.trans hxs244
          replace hoy := hoy.chg hxs244 (by omega)
          replace EL := EL.next hxs244 (by omega)
          replace E := E.next hxs244 (by omega)
          replace h := h.chg hxs244 (by omega)
          refine w_nil ?_
          refine x_next ?_
          refine c_seq ?_
          refine c_region ?_
          refine w_pure (y_field rfl) rfl ?_
          refine w_pure (y_load_box rfl) rfl ?_
          refine w_pure (y_move rfl) rfl ?_
          refine w_pure (y_sub rfl rfl) rfl ?_
          refine w_pure (y_index rfl rfl) rfl ?_
          refine w_pure (y_load_int rfl) rfl ?_
          refine w_pure (y_assign rfl) rfl ?_
          refine w_nil ?_
          refine x_next ?_
          refine c_seq ?_
          refine c_region ?_
          refine w_pure (y_move rfl) rfl ?_
          refine w_pure (y_ne rfl rfl) rfl ?_
          refine w_pure (y_move rfl) rfl ?_
          (refine w_part_dec rfl rfl (fun hc83 => ?_) (fun hc83 => ?_) <;> try (first | exact absurd rfl hc83 | contradiction | exact Bool.noConfusion (show false = true from hc83.symm.trans (by assumption)) | exact Bool.noConfusion (show true = false from hc83.symm.trans (by assumption)) | (exfalso; omega) | (exfalso; simp only [*, Bool.not_true, Bool.not_false, reduceCtorEq] at hc83; done)))
          refine w_yes rfl rfl ?_
          refine w_pure (y_move rfl) rfl ?_
          refine w_yes rfl rfl ?_
          refine w_pure (y_ne rfl rfl) rfl ?_
          refine w_pure (y_pick_t rfl rfl) rfl ?_
          refine w_nil ?_
          refine x_next ?_
          (refine c_dec rfl (fun hc85 => ?_) (fun hc85 => ?_) <;> try (first | exact absurd rfl hc85 | contradiction | exact Bool.noConfusion (show false = true from hc85.symm.trans (by assumption)) | exact Bool.noConfusion (show true = false from hc85.symm.trans (by assumption)) | (exfalso; omega) | (exfalso; simp only [*, Bool.not_true, Bool.not_false, reduceCtorEq] at hc85; done)))
          refine c_seq ?_
          refine c_region ?_
          refine w_pure (y_assign rfl) rfl ?_
          refine w_pure (y_assign rfl) rfl ?_
          refine w_pure (y_assign rfl) rfl ?_
          refine w_nil ?_
          refine x_next ?_
          refine c_ret ?_
          refine x_block_ret ?_
          refine x_then_ret ?_
          refine x_then_ret ?_
          refine x_block_ret ?_
          refine x_then_ret ?_
          rotate_left
          refine c_skip ?_
          refine x_block_norm ?_
          refine x_next ?_
          refine c_region ?_
          refine w_pure (y_move rfl) rfl ?_
          refine w_pure (y_add rfl rfl) rfl ?_
          refine w_pure (y_assign rfl) rfl ?_
          refine w_nil ?_
          rotate_left
          refine w_no rfl rfl rfl rfl ?_
          refine w_no rfl rfl rfl rfl ?_
          refine w_pure (y_pick_f rfl rfl) rfl ?_
          refine w_nil ?_
          refine x_next ?_
          refine c_false rfl ?_
          refine c_skip ?_
          refine x_block_norm ?_
          refine x_next ?_
          refine c_region ?_
          refine w_pure (y_move rfl) rfl ?_
          refine w_pure (y_add rfl rfl) rfl ?_
          refine w_pure (y_assign rfl) rfl ?_
          refine w_nil ?_
          rotate_left
          refine c_skip ?_
          refine x_next ?_
          refine c_seq ?_
          refine c_region ?_
          refine w_pure (y_load_boxs rfl) rfl ?_
          refine w_store_boxs rfl rfl (next := fun ws315 hbs315 hxs315 hss315 => ?_)
          (replace hby := hbs315; clear hbs315)
          have hz_hxs315 := hxs315.size
          replace hb12 := hb12.chg hxs315 (by omega)
          replace hp1_63 := hp1_63.chg hxs315 (by omega)
          replace EM := EM.trans hxs315
          replace hoy := hoy.chg hxs315 (by omega)
          replace EL := EL.next hxs315 (by omega)
          replace E := E.next hxs315 (by omega)
          replace h := h.chg hxs315 (by omega)
          refine w_nil ?_
          refine x_next ?_
          refine c_seq ?_
          refine c_region ?_
          refine w_pure (y_field rfl) rfl ?_
          refine w_pure (y_load_box rfl) rfl ?_
          refine w_pure (y_move rfl) rfl ?_
          refine w_pure (y_sub rfl rfl) rfl ?_
          refine w_pure (y_index rfl rfl) rfl ?_
          refine w_pure (y_load_int rfl) rfl ?_
          refine w_pure (y_assign rfl) rfl ?_
          refine w_nil ?_
          refine x_next ?_
          refine c_seq ?_
          refine c_region ?_
          refine w_pure (y_move rfl) rfl ?_
          refine w_pure (y_ne rfl rfl) rfl ?_
          refine w_pure (y_move rfl) rfl ?_
          (refine w_part_dec rfl rfl (fun hc83 => ?_) (fun hc83 => ?_) <;> try (first | exact absurd rfl hc83 | contradiction | exact Bool.noConfusion (show false = true from hc83.symm.trans (by assumption)) | exact Bool.noConfusion (show true = false from hc83.symm.trans (by assumption)) | (exfalso; omega) | (exfalso; simp only [*, Bool.not_true, Bool.not_false, reduceCtorEq] at hc83; done)))
          refine w_yes rfl rfl ?_
          refine w_pure (y_move rfl) rfl ?_
          refine w_yes rfl rfl ?_
          refine w_pure (y_ne rfl rfl) rfl ?_
          refine w_pure (y_pick_t rfl rfl) rfl ?_
          refine w_nil ?_
          refine x_next ?_
          (refine c_dec rfl (fun hc85 => ?_) (fun hc85 => ?_) <;> try (first | exact absurd rfl hc85 | contradiction | exact Bool.noConfusion (show false = true from hc85.symm.trans (by assumption)) | exact Bool.noConfusion (show true = false from hc85.symm.trans (by assumption)) | (exfalso; omega) | (exfalso; simp only [*, Bool.not_true, Bool.not_false, reduceCtorEq] at hc85; done)))
          refine c_seq ?_
          refine c_region ?_
          refine w_pure (y_assign rfl) rfl ?_
          refine w_pure (y_assign rfl) rfl ?_
          refine w_pure (y_assign rfl) rfl ?_
          refine w_nil ?_
          refine x_next ?_
          refine c_ret ?_
          refine x_block_ret ?_
          refine x_then_ret ?_
          refine x_then_ret ?_
          refine x_block_ret ?_
          refine x_then_ret ?_
          rotate_left
          refine c_skip ?_
          refine x_block_norm ?_
          refine x_next ?_
          refine c_region ?_
          refine w_pure (y_move rfl) rfl ?_
          refine w_pure (y_add rfl rfl) rfl ?_
          refine w_pure (y_assign rfl) rfl ?_
          refine w_nil ?_
          rotate_left
          refine w_no rfl rfl rfl rfl ?_
          refine w_no rfl rfl rfl rfl ?_
          refine w_pure (y_pick_f rfl rfl) rfl ?_
          refine w_nil ?_
          refine x_next ?_
          refine c_false rfl ?_
          refine c_skip ?_
          refine x_block_norm ?_
          refine x_next ?_
          refine c_region ?_
          refine w_pure (y_move rfl) rfl ?_
          refine w_pure (y_add rfl rfl) rfl ?_
          refine w_pure (y_assign rfl) rfl ?_
          refine w_nil ?_
          rotate_left
        all_goals
          first
          | (have hst := sx_pp hc57 q2 hc67
             first
             | (exact x_retv [_, _, _] rfl ⟨rfl, rfl, rfl, trivial⟩ ⟨by rw [balR, if_neg (Classical.not_not.2 hs), if_neg (Classical.not_not.2 hn), if_pos (fun g => by have := g r hlt; rw [topOk, balD, hst] at this; omega)]; rfl, E.go⟩)
             | (refine x_again (r + 1, _) (by repeat (first | exact trivial | refine ⟨rfl, ?_⟩)) ⟨EM.go, by assumption, ?_, by dsimp only; omega, ?_, ?_⟩ (by dsimp only; omega)
                · dsimp only; rw [balD, hst]; exact Own.base (by assumption) (by omega)
                · intro m hm
                  dsimp only at hm
                  by_cases g : m = r
                  · subst g; rw [topOk, balD, hst]; omega
                  · exact htop m (by omega)
                · dsimp only; omega))
          | (have hst := sx_pn hc57 q2 hc67
             first
             | (exact x_retv [_, _, _] rfl ⟨rfl, rfl, rfl, trivial⟩ ⟨by rw [balR, if_neg (Classical.not_not.2 hs), if_neg (Classical.not_not.2 hn), if_pos (fun g => by have := g r hlt; rw [topOk, balD, hst] at this; omega)]; rfl, E.go⟩)
             | (refine x_again (r + 1, _) (by repeat (first | exact trivial | refine ⟨rfl, ?_⟩)) ⟨EM.go, by assumption, ?_, by dsimp only; omega, ?_, ?_⟩ (by dsimp only; omega)
                · dsimp only; rw [balD, hst]; exact Own.base (by assumption) (by omega)
                · intro m hm
                  dsimp only at hm
                  by_cases g : m = r
                  · subst g; rw [topOk, balD, hst]; omega
                  · exact htop m (by omega)
                · dsimp only; omega))
          | (have hst := st_nn (k := k) hc57 hc67
             first
             | (exact x_retv [_, _, _] rfl ⟨rfl, rfl, rfl, trivial⟩ ⟨by rw [balR, if_neg (Classical.not_not.2 hs), if_neg (Classical.not_not.2 hn), if_pos (fun g => by have := g r hlt; rw [topOk, balD, hst] at this; omega)]; rfl, E.go⟩)
             | (refine x_again (r + 1, _) (by repeat (first | exact trivial | refine ⟨rfl, ?_⟩)) ⟨EM.go, by assumption, ?_, by dsimp only; omega, ?_, ?_⟩ (by dsimp only; omega)
                · dsimp only; rw [balD, hst]; exact Own.base (by assumption) (by omega)
                · intro m hm
                  dsimp only at hm
                  by_cases g : m = r
                  · subst g; rw [topOk, balD, hst]; omega
                  · exact htop m (by omega)
                · dsimp only; omega))
          | (have hst := st_np (k := k) hc57 hc67
             first
             | (exact x_retv [_, _, _] rfl ⟨rfl, rfl, rfl, trivial⟩ ⟨by rw [balR, if_neg (Classical.not_not.2 hs), if_neg (Classical.not_not.2 hn), if_pos (fun g => by have := g r hlt; rw [topOk, balD, hst] at this; omega)]; rfl, E.go⟩)
             | (refine x_again (r + 1, _) (by repeat (first | exact trivial | refine ⟨rfl, ?_⟩)) ⟨EM.go, by assumption, ?_, by dsimp only; omega, ?_, ?_⟩ (by dsimp only; omega)
                · dsimp only; rw [balD, hst]; exact Own.base (by assumption) (by omega)
                · intro m hm
                  dsimp only at hm
                  by_cases g : m = r
                  · subst g; rw [topOk, balD, hst]; omega
                  · exact htop m (by omega)
                · dsimp only; omega))
      · have q10 := okC_of q1 (by omega) (by omega)
        have q11 : 0 ≤ valD (balD k xs r) ∧ valD (balD k xs r) < 10 ^ k.toNat := by have := valD_bd q1; rwa [q2] at this
        have hall2 : ∀ i, i < xs.length → topOk k (balD k xs (i + 1)) := fun m hm => htop m (by omega)
        have hrl : r = xs.length := by omega
        focus
          have hl_hoy := hoy.lt
          have hz_hxM := hxM.size
          replace EL := EL.next hxM (by omega)
          replace E := E.next hxM (by omega)
          replace h := h.chg hxM (by omega)
          refine c_seq ?_
          refine c_seq ?_
          refine c_region ?_
          refine w_pure (y_move rfl) rfl ?_
          refine w_pure (y_move rfl) rfl ?_
          refine w_pure (y_len rfl) rfl ?_
          refine w_pure (y_lt rfl rfl) rfl ?_
          refine w_nil ?_
          refine x_next ?_
          (refine c_dec rfl (fun hc49 => ?_) (fun hc49 => ?_) <;> try (first | exact absurd rfl hc49 | contradiction | exact Bool.noConfusion (show false = true from hc49.symm.trans (by assumption)) | exact Bool.noConfusion (show true = false from hc49.symm.trans (by assumption)) | (exfalso; omega) | (exfalso; simp only [*, Bool.not_true, Bool.not_false, reduceCtorEq] at hc49; done)))
          refine c_exit ?_
          refine x_then_exit ?_
          refine x_then_exit ?_
          refine x_block_hit ?_
          refine x_next ?_
          refine c_seq ?_
          refine c_seq ?_
          refine c_region ?_
          refine w_pure (y_field rfl) rfl ?_
          refine w_pure (y_load_box rfl) rfl ?_
          refine w_pure (y_move rfl) rfl ?_
          refine w_pure (y_sub rfl rfl) rfl ?_
          refine w_pure (y_index rfl rfl) rfl ?_
          refine w_pure (y_load_int rfl) rfl ?_
          refine w_pure (y_eq rfl rfl) rfl ?_
          refine w_nil ?_
          refine x_next ?_
          (refine c_dec rfl (fun hc92 => ?_) (fun hc92 => ?_) <;> try (first | exact absurd rfl hc92 | contradiction | exact Bool.noConfusion (show false = true from hc92.symm.trans (by assumption)) | exact Bool.noConfusion (show true = false from hc92.symm.trans (by assumption)) | (exfalso; omega) | (exfalso; simp only [*, Bool.not_true, Bool.not_false, reduceCtorEq] at hc92; done)))
          refine c_seq ?_
          refine c_region ?_
          refine w_val rfl rfl rfl (l11Value_z) rfl (fun w93 hx93 hz93 => ?_)
          have hz_hx93 := hx93.size
          replace EM := EM.next hx93 (by omega)
          replace hby := hby.ext hx93
          replace hoy := hoy.ext hx93
          replace EL := EL.trans hx93
          replace E := E.trans hx93
          replace h := h.ext hx93
          refine w_val rfl rfl rfl (l11Nines_c _) rfl (fun w94 hx94 hz94 => ?_)
          have hz_hx94 := hx94.size
          replace EM := EM.next hx94 (by omega)
          replace hby := hby.ext hx94
          replace hoy := hoy.ext hx94
          replace EL := EL.trans hx94
          replace E := E.trans hx94
          replace h := h.ext hx94
          refine w_pure (y_assign rfl) rfl ?_
          refine w_nil ?_
          refine x_next ?_
          refine c_seq ?_
          refine c_region ?_
          refine w_pure (y_move rfl) rfl ?_
          refine w_pure (y_neg rfl) rfl ?_
          refine w_pure (y_assign rfl) rfl ?_
          refine w_pure (y_assign rfl) rfl ?_
          refine w_pure (y_assign rfl) rfl ?_
          refine w_nil ?_
          refine x_next ?_
          refine c_ret ?_
          refine x_then_ret ?_
          rotate_left
          refine c_skip ?_
          refine x_next ?_
          refine c_seq ?_
          refine c_region ?_
          refine w_val rfl rfl rfl (l11Value_z) rfl (fun w97 hx97 hz97 => ?_)
          have hz_hx97 := hx97.size
          replace EM := EM.next hx97 (by omega)
          replace hby := hby.ext hx97
          replace hoy := hoy.ext hx97
          replace EL := EL.trans hx97
          replace E := E.trans hx97
          replace h := h.ext hx97
          refine w_pure (y_assign rfl) rfl ?_
          refine w_pure (y_assign rfl) rfl ?_
          refine w_pure (y_assign rfl) rfl ?_
          refine w_nil ?_
          refine x_next ?_
          refine c_ret ?_
          rotate_left
        · refine x_retv [_, _, _] rfl ⟨rfl, rfl, rfl, trivial⟩ ⟨?_, E.go⟩
          rw [balR, if_neg (Classical.not_not.2 hs), if_neg (Classical.not_not.2 hn), if_neg (Classical.not_not.2 hall2), ← hrl, if_pos hc92]; show _ = Value.tuple #[.int .i64 (valD (balD k xs r) - (10 ^ k.toNat - 1)), .bool true, .int .i64 0]; rw [← q12]; simp only [ofResults]; congr 4; omega
        · refine x_retv [_, _, _] rfl ⟨rfl, rfl, rfl, trivial⟩ ⟨?_, E.go⟩
          rw [balR, if_neg (Classical.not_not.2 hs), if_neg (Classical.not_not.2 hn), if_neg (Classical.not_not.2 hall2), ← hrl, if_neg hc92]; rfl
  · refine ret_enter Try.func21 rfl Try.ntmps21 rfl ?_
    have hs2 : ¬ (2 ≤ k ∧ k ≤ 12 ∧ xs.length ≤ 40) := hs
    focus
      have ht_h := h.top
      have hz_hx0 := hx0.size
      replace h := h.ext hx0
      refine c_seq ?_
      refine c_region ?_
      refine w_pure (y_assign rfl) rfl ?_
      refine w_pure (y_assign rfl) rfl ?_
      refine w_pure (y_assign rfl) rfl ?_
      refine w_nil ?_
      refine x_next ?_
      refine c_seq ?_
      refine c_seq ?_
      refine c_region ?_
      refine w_pure (y_move rfl) rfl ?_
      refine w_pur rfl rfl rfl (l00In_c _ _ _) rfl ?_
      refine w_pure (y_not_dec rfl) rfl ?_
      refine w_pure (y_move rfl) rfl ?_
      (refine w_part_dec rfl rfl (fun hc21 => ?_) (fun hc21 => ?_) <;> try (first | exact absurd rfl hc21 | contradiction | exact Bool.noConfusion (show false = true from hc21.symm.trans (by assumption)) | exact Bool.noConfusion (show true = false from hc21.symm.trans (by assumption)) | (exfalso; omega) | (exfalso; simp only [*, Bool.not_true, Bool.not_false, reduceCtorEq] at hc21; done)))
      refine w_no rfl rfl rfl rfl ?_
      refine w_no rfl rfl rfl rfl ?_
      refine w_no rfl rfl rfl rfl ?_
      refine w_pure (y_pick_t rfl rfl) rfl ?_
      refine w_nil ?_
      refine x_next ?_
      refine c_true rfl ?_
      refine c_seq ?_
      refine c_region ?_
      refine w_pure (y_assign rfl) rfl ?_
      refine w_pure (y_assign rfl) rfl ?_
      refine w_pure (y_assign rfl) rfl ?_
      refine w_nil ?_
      refine x_next ?_
      refine c_ret ?_
      refine x_then_ret ?_
      rotate_left
      refine w_yes rfl rfl ?_
      refine w_pure (y_move rfl) rfl ?_
      refine w_yes rfl rfl ?_
      refine w_pure (y_len rfl) rfl ?_
      refine w_yes rfl rfl ?_
      refine w_pure (y_gt rfl rfl) rfl ?_
      refine w_pure (y_pick_f rfl rfl) rfl ?_
      refine w_nil ?_
      refine x_next ?_
      (refine c_dec rfl (fun hc24 => ?_) (fun hc24 => ?_) <;> try (first | exact absurd rfl hc24 | contradiction | exact Bool.noConfusion (show false = true from hc24.symm.trans (by assumption)) | exact Bool.noConfusion (show true = false from hc24.symm.trans (by assumption)) | (exfalso; omega) | (exfalso; simp only [*, Bool.not_true, Bool.not_false, reduceCtorEq] at hc24; done)))
      refine c_seq ?_
      refine c_region ?_
      refine w_pure (y_assign rfl) rfl ?_
      refine w_pure (y_assign rfl) rfl ?_
      refine w_pure (y_assign rfl) rfl ?_
      refine w_nil ?_
      refine x_next ?_
      refine c_ret ?_
      refine x_then_ret ?_
      rotate_left
    all_goals exact x_retv [_, _, _] rfl ⟨rfl, rfl, rfl, trivial⟩ ⟨by rw [balR, if_pos hs]; rfl, E.go⟩
end
end Go.Proofs.Ythigkbkaeopipaa

/- Contracts: balances. -/
import Derived.Test.YtgkljfncpgbngaaDoorCntJ
namespace Go.Proofs.YtgkljfncpgbngaaDoor
open Go Go.Gw
set_option linter.unusedVariables false
set_option linter.unusedSimpArgs false
/-- the counter after one more number -/
def balStep (k : Int) (ds : List Int) (n : Int) : List Int :=
  if (addS ds (if n < 0 then n + (10 ^ k.toNat - 1) else n) ds.length).2.2 = 1
  then (addS (addS ds (if n < 0 then n + (10 ^ k.toNat - 1) else n) ds.length).1 1 (addS ds (if n < 0 then n + (10 ^ k.toNat - 1) else n) ds.length).1.length).1
  else (addS ds (if n < 0 then n + (10 ^ k.toNat - 1) else n) ds.length).1
def balD (k : Int) (xs : List Int) : Nat → List Int
  | 0 => digs k.toNat 0
  | i + 1 => balStep k (balD k xs i) (xs.getD i 0)
theorem digs0 : ∀ (k : Nat), Digs (digs k 0)
  | 0 => fun d hd => by simp [digs] at hd
  | k + 1 => fun d hd => by
    simp only [digs, Int.zero_ediv] at hd
    rcases List.mem_cons.1 hd with rfl | hd
    · simp
    · exact digs0 k d hd
theorem st_pp {k : Int} {ds : List Int} {n : Int} (h : n < 0) (hc : (addS ds (n + (10 ^ k.toNat - 1)) ds.length).2.2 = 1) : balStep k ds n = (addS (addS ds (n + (10 ^ k.toNat - 1)) ds.length).1 1 (addS ds (n + (10 ^ k.toNat - 1)) ds.length).1.length).1 := by
  simp only [balStep, if_pos h, if_pos hc]
theorem st_pn {k : Int} {ds : List Int} {n : Int} (h : n < 0) (hc : ¬ (addS ds (n + (10 ^ k.toNat - 1)) ds.length).2.2 = 1) : balStep k ds n = (addS ds (n + (10 ^ k.toNat - 1)) ds.length).1 := by
  simp only [balStep, if_pos h, if_neg hc]
theorem st_np {k : Int} {ds : List Int} {n : Int} (h : ¬ n < 0) (hc : (addS ds n ds.length).2.2 = 1) : balStep k ds n = (addS (addS ds n ds.length).1 1 (addS ds n ds.length).1.length).1 := by
  simp only [balStep, if_neg h, if_pos hc]
theorem st_nn {k : Int} {ds : List Int} {n : Int} (h : ¬ n < 0) (hc : ¬ (addS ds n ds.length).2.2 = 1) : balStep k ds n = (addS ds n ds.length).1 := by
  simp only [balStep, if_neg h, if_neg hc]
theorem balStep_ok {k : Int} {ds : List Int} (n : Int) (h : Digs ds) : Digs (balStep k ds n) ∧ (balStep k ds n).length = ds.length := by
  unfold balStep
  generalize (if n < 0 then n + (10 ^ k.toNat - 1) else n) = m
  have h1 := (addS_bd h m ds.length).2.2.2.2
  split
  · exact ⟨(addS_bd h1 _ _).2.2.2.2, by rw [addS_len, addS_len]⟩
  · exact ⟨h1, addS_len _ _ _⟩
theorem balD_ok (k : Int) (xs : List Int) : ∀ i, Digs (balD k xs i) ∧ (balD k xs i).length = k.toNat
  | 0 => ⟨digs0 _, digs_len _ _⟩
  | i + 1 => by
    obtain ⟨h1, h2⟩ := balD_ok k xs i
    obtain ⟨h3, h4⟩ := balStep_ok (k := k) (xs.getD i 0) h1
    exact ⟨h3, by rw [balD, h4, h2]⟩
/-- the last wheel tells the sign -/
def topOk (k : Int) (ds : List Int) : Prop := ds.getD (k - 1).toNat 0 = 0 ∨ ds.getD (k - 1).toNat 0 = 9
def numOk (k : Int) (xs : List Int) : Prop := ∀ x ∈ xs, -(10 ^ (k - 1).toNat - 1) ≤ x ∧ x ≤ 10 ^ (k - 1).toNat - 1
def sizeOk (k : Int) (xs : List Int) : Prop := 2 ≤ k ∧ k ≤ 12 ∧ xs.length ≤ 40
open Classical in
noncomputable def balR (k : Int) (xs : List Int) : Int × Bool × Int :=
  if ¬ sizeOk k xs then (0, false, 2) else if ¬ numOk k xs then (0, false, 2)
  else if ¬ (∀ i, i < xs.length → topOk k (balD k xs (i + 1))) then (0, false, 5)
  else if (balD k xs xs.length).getD (k - 1).toNat 0 = 9 then (valD (balD k xs xs.length) - (10 ^ k.toNat - 1), true, 0)
  else (valD (balD k xs xs.length), false, 0)
section
variable {w : World} {v v' : Value} {xs ys : List Int} {lo hi lo' hi' b b' : Nat}
theorem getD_mem {xs : List Int} {i : Nat} (h : i < xs.length) : xs.getD i 0 ∈ xs := by
  rw [List.getD_eq_getElem?_getD, List.getElem?_eq_getElem h]; simp
theorem pow_mono10 {a b : Nat} (h : a ≤ b) : (10 : Int) ^ a ≤ 10 ^ b := pow10_le h
theorem okC_of {xs : List Int} (h : Digs xs) (h1 : 1 ≤ xs.length) (h2 : xs.length ≤ 12) : okC xs = true := by
  have : xs.any (fun d => !decide (0 ≤ d ∧ d ≤ 9)) = false := by
    rw [List.any_eq_false]; intro d hd; have := h d hd; simp; omega
  simp only [okC, this, Bool.not_false, Bool.and_true]; exact decide_eq_true ⟨h1, h2⟩
theorem shown_z (h : SL w lo hi v xs := by repeat (first | assumption | exact Go.Gw.Own.sl (by assumption) | exact Go.Gw.Box.at (by assumption) | exact Go.Gw.SLL.el (by first | assumption | exact Go.Gw.OwnD.sll (by assumption)) _ (by omega) | exact Go.Gw.SLL.at (by first | assumption | exact Go.Gw.OwnD.sll (by assumption)) (by omega) | exact Go.Gw.OwnD.sll (by assumption) | (apply Go.Gw.SL.chg; case hx => assumption) | (apply Go.Gw.Own.chg; case hx => assumption) | (apply Go.Gw.Box.chg; case hx => assumption) | (apply Go.Gw.At.chg; case hx => assumption) | exact .inl (Nat.zero_le _) | exact .inr (Nat.zero_le _) | (show _ ∨ _; omega))) (hk : okC xs = true := by assumption) : Val Tryd.prog 89 [.agg #[v]] w (.int .i64 (valD xs)) := shown_c hk (h := h)
theorem l11Set_c (k n : Int) (hk : 0 ≤ k ∧ k ≤ 20) (hn : 0 ≤ n) (hm : n ≤ 9223372036854775807) : Ret Tryd.prog 91 [.int .i64 k, .int .i64 n] w fun u w' => ∃ d, u = .agg #[d] ∧ Own w' 2 w.heap.size d (digs k.toNat n) ∧ Ext w w' := by
  have E : Since 0 0 w w := Since.refl 0 0 w
  refine ret_enter Tryd.func91 rfl Tryd.ntmps91 rfl ?_
  focus
    refine c_seq ?_
    refine c_region ?_
    refine w_alloc (k := fun b4 w4 hb4 hx4 hl4 hs4 => ?_)
    have hz_hx4 := hx4.size
    replace E := E.trans hx4
    refine w_nil ?_
    refine x_next ?_
    refine c_seq ?_
    refine c_region ?_
    refine w_pure (y_build rfl) rfl ?_
    refine w_alloc (k := fun b5 w5 hb5 hx5 hl5 hs5 => ?_)
    have hz_hx5 := hx5.size
    replace hb4 := hb4.ext hx5
    replace E := E.trans hx5
    refine w_store_boxs rfl rfl (next := fun ws10 hbs10 hxs10 hss10 => ?_)
    (replace hb5 := hbs10; clear hbs10)
    have hz_hxs10 := hxs10.size
    replace hb4 := hb4.chg hxs10 (by omega)
    replace E := E.next hxs10 (by omega)
    refine w_nil ?_
    refine x_next ?_
    refine c_seq ?_
    refine c_seq ?_
    refine c_region ?_
    refine w_pure (y_assign rfl) rfl ?_
    refine w_nil ?_
    refine x_next ?_
    refine c_block ?_
    rotate_left
  refine c_loopC b5 (b5 + 1) (ι := Nat × Value) (fun x => [(0, .int .i64 k), (1, .int .i64 (n / 10 ^ x.1)), (4, ptr b4 0), (5, ptr b5 0), (6, .int .i64 x.1)])
    (fun x w' => Box w' b5 [x.2] ∧ Own w' 2 (b5 + 1) x.2 (digs x.1 n) ∧ (x.1 : Int) ≤ k) (fun x => k.toNat - x.1) (0, .slice none 0 0) ⟨rfl, by simp; rfl, rfl, rfl, rfl, trivial⟩ ⟨by assumption, Own.nil _ _ _, by simp; omega⟩ ?_
  rintro ⟨i, u⟩ wL hxL EL ⟨hbu, ho, hi⟩
  dsimp only at *
  have q3 : 0 ≤ n / 10 ^ i := Int.ediv_nonneg hn (Int.le_of_lt (pow10_pos _))
  have q4 : n / 10 ^ i ≤ n := Int.ediv_le_self _ hn
  have q5 := digs_len i n
  focus
    have hl_ho := ho.lt
    have hz_hxL := hxL.size
    replace hb4 := hb4.chg hxL (by omega)
    replace E := E.next hxL (by omega)
    refine c_seq ?_
    refine c_seq ?_
    refine c_region ?_
    refine w_pure (y_move rfl) rfl ?_
    refine w_pure (y_move rfl) rfl ?_
    refine w_pure (y_lt rfl rfl) rfl ?_
    refine w_nil ?_
    refine x_next ?_
    (refine c_dec rfl (fun hc10 => ?_) (fun hc10 => ?_) <;> try (first | exact absurd rfl hc10 | contradiction | exact Bool.noConfusion (show false = true from hc10.symm.trans (by assumption)) | exact Bool.noConfusion (show true = false from hc10.symm.trans (by assumption)) | (exfalso; omega) | (exfalso; simp only [*, Bool.not_true, Bool.not_false, reduceCtorEq] at hc10; done)))
    refine c_skip ?_
    refine x_next ?_
    refine c_seq ?_
    refine c_block ?_
    refine c_seq ?_
    refine c_region ?_
    refine w_pure (y_field rfl) rfl ?_
    refine w_pure (y_load_box rfl) rfl ?_
    refine w_pure (y_move rfl) rfl ?_
    refine w_pure (y_rem rfl rfl) rfl ?_
    refine w_lit (α := Int) rfl rfl rfl rfl rfl rfl rfl rfl (fun v17 w17 ho17 hx17 hl17 hh17 hs17 => ?_)
    have hl_ho17 := ho17.lt
    have hz_hx17 := hx17.size
    replace EL := EL.next hx17 (by omega)
    replace hbu := hbu.ext hx17
    replace ho := ho.ext hx17
    replace hb4 := hb4.ext hx17
    replace E := E.trans hx17
    refine w_append rfl rfl (k := fun v18 w18 ho18 hx18 hr18 => ?_)
    have hl_ho18 := ho18.lt
    have hz_hx18 := hx18.size
    replace ho17 := ho17.chg hx18 (by omega)
    replace EL := EL.next hx18 (by omega)
    replace hbu := hbu.chg hx18 (by omega)
    replace hb4 := hb4.chg hx18 (by omega)
    replace E := E.next hx18 (by omega)
    refine w_pure (y_field rfl) rfl ?_
    refine w_store_box rfl rfl (next := fun ws23 hbs23 hxs23 hss23 => ?_)
    (replace hb5 := hbs23; clear hbs23)
    have hz_hxs23 := hxs23.size
    replace ho18 := ho18.chg hxs23 (by omega)
    replace ho17 := ho17.chg hxs23 (by omega)
    replace EL := EL.trans hxs23
    replace hb4 := hb4.chg hxs23 (by omega)
    replace E := E.next hxs23 (by omega)
    refine w_nil ?_
    refine x_next ?_
    refine c_region ?_
    refine w_pure (y_move rfl) rfl ?_
    refine w_pure (y_quo rfl rfl) rfl ?_
    refine w_pure (y_assign rfl) rfl ?_
    refine w_nil ?_
    refine x_block_norm ?_
    refine x_next ?_
    refine c_region ?_
    refine w_pure (y_move rfl) rfl ?_
    refine w_pure (y_add rfl rfl) rfl ?_
    refine w_pure (y_assign rfl) rfl ?_
    refine w_nil ?_
    rotate_left
    refine c_exit ?_
    refine x_then_exit ?_
    refine x_then_exit ?_
    refine x_block_hit ?_
    refine x_next ?_
    refine c_seq ?_
    refine c_region ?_
    refine w_pure (y_load_boxs rfl) rfl ?_
    refine w_store_boxs rfl rfl (next := fun ws47 hbs47 hxs47 hss47 => ?_)
    (replace hb4 := hbs47; clear hbs47)
    have hz_hxs47 := hxs47.size
    replace hbu := hbu.chg hxs47 (by omega)
    replace ho := ho.chg hxs47 (by omega)
    replace E := E.next hxs47 (by omega)
    refine w_nil ?_
    refine x_next ?_
    refine c_ret ?_
    rotate_left
  · refine x_again (i + 1, v18) ⟨rfl, by dsimp only; rw [← dpow]; rfl, rfl, rfl, rfl, trivial⟩ ⟨EL.go, by assumption, ?_, by dsimp only; omega⟩ (by dsimp only; omega)
    dsimp only
    rw [digs_snoc]
    assumption
  · refine x_retv [_] rfl ⟨⟨_, rfl, run_load_str (Box.at (by assumption)) (by rfl)⟩, trivial⟩ ⟨_, rfl, ?_, E.go⟩
    rw [show k.toNat = i by omega]; exact Own.base (by assumption) (by omega)
theorem sx_pp {k : Int} {ds : List Int} {n : Int} (h : n < 0) (hl : ds.length = k.toNat) (hc : (addS ds (10 ^ ds.length - 1 - -n) ds.length).2.2 = 1) : balStep k ds n = (addS (addS ds (10 ^ ds.length - 1 - -n) ds.length).1 1 (addS ds (10 ^ ds.length - 1 - -n) ds.length).1.length).1 := by
  have e : (10 : Int) ^ ds.length - 1 - -n = n + (10 ^ k.toNat - 1) := by rw [hl]; omega
  rw [e] at hc ⊢; exact st_pp h hc
theorem sx_pn {k : Int} {ds : List Int} {n : Int} (h : n < 0) (hl : ds.length = k.toNat) (hc : ¬ (addS ds (10 ^ ds.length - 1 - -n) ds.length).2.2 = 1) : balStep k ds n = (addS ds (10 ^ ds.length - 1 - -n) ds.length).1 := by
  have e : (10 : Int) ^ ds.length - 1 - -n = n + (10 ^ k.toNat - 1) := by rw [hl]; omega
  rw [e] at hc ⊢; exact st_pn h hc
end
end Go.Proofs.YtgkljfncpgbngaaDoor

/- Contracts: reading a counter from its text. -/
import Derived.Test.YtgkljfncpgbngaaDoorCntF
namespace Go.Proofs.YtgkljfncpgbngaaDoor
open Go Go.Gw
set_option linter.unusedVariables false
set_option linter.unusedSimpArgs false
theorem okC_take (xs : List Int) : okC (xs.take 13) = okC xs := by
  by_cases h : xs.length ≤ 13
  · rw [List.take_of_length_le h]
  · have h1 : okC (xs.take 13) = false := by
      cases hk : okC (xs.take 13)
      · rfl
      · have := okC_len hk; simp at this; omega
    have h2 : okC xs = false := by
      cases hk : okC xs
      · rfl
      · have := okC_len hk; omega
    rw [h1, h2]
theorem rdg_split (s : List UInt8) (k : Nat) : rdg s = rdg (s.drop k) ++ rdg (s.take k) := by
  have := congrArg rdg (List.take_append_drop k s)
  rw [← this]; simp [rdg]
theorem okC_long {xs : List Int} (h : 12 < xs.length) : okC xs = false := by
  cases hk : okC xs
  · rfl
  · have := okC_len hk; omega
theorem okC_rdg_drop {s : List UInt8} {i : Int} (h0 : -1 ≤ i) (hi : i < s.length) (h : i < 0 ∨ 12 < (rdg (s.drop (i + 1).toNat)).length) : okC (rdg (s.drop (i + 1).toNat)) = okC (rdg s) ∧ (okC (rdg s) = true → rdg (s.drop (i + 1).toNat) = rdg s) := by
  rcases h with h | h
  · have : (i + 1).toNat = 0 := by omega
    rw [this]; exact ⟨rfl, fun _ => rfl⟩
  · have h2 : okC (rdg s) = false := okC_long (by rw [rdg_len] at h ⊢; simp at h; omega)
    rw [okC_long h, h2]; exact ⟨rfl, fun h => by cases h⟩
section
variable {w : World} {v : Value} {xs : List Int} {lo hi b : Nat}
theorem iReadCounter_c (w0 : World) (s : List UInt8) (hs : s.length ≤ 1048576) : Ret Tryd.prog 43 [str s] w0 fun u w' => ∃ d, u = .tuple #[.agg #[d], .bool (okC (rdg s))] ∧ Own w' 2 w0.heap.size d (if okC (rdg s) then rdg s else []) ∧ Ext w0 w' := by
  refine ret_enter Tryd.func43 rfl Tryd.ntmps43 rfl ?_
  focus
    refine c_seq ?_
    refine c_region ?_
    rotate_left
  refine w_alloc (k := fun b1 w1 hb1 hx1 hl1 hs1 => ?_)
  focus
    refine w_pure (y_assign rfl) rfl ?_
    refine w_nil ?_
    refine x_next ?_
    refine c_seq ?_
    refine c_region ?_
    rotate_left
  refine w_lit (α := Int) rfl rfl rfl rfl rfl rfl rfl rfl (fun v2 w2 ho2 hx2 hl2 hh2 hs2 => ?_)
  focus
    refine w_pure (y_build rfl) rfl ?_
    rotate_left
  refine w_alloc (k := fun b3 w3 hb3 hx3 hl3 hs3 => ?_)
  refine w_store_boxs rfl rfl (next := fun w4 hb4 hx4 hs4 => ?_)
  focus
    refine w_nil ?_
    refine x_next ?_
    refine c_seq ?_
    refine c_seq ?_
    refine c_region ?_
    refine w_pure (y_move rfl) rfl ?_
    refine w_pure (y_slen rfl) rfl ?_
    refine w_pure (y_sub rfl rfl) rfl ?_
    refine w_pure (y_assign rfl) rfl ?_
    refine w_nil ?_
    refine x_next ?_
    refine c_block ?_
    rotate_left
  refine c_loop (ι := Int × Value) (fun x => [(0, str s), (2, ptr b1 0), (4, ptr b3 0), (5, .int .i64 x.1)])
    (fun x w => Ext w0 w ∧ Box w b1 [.slice none 0 0] ∧ Box w b3 [x.2] ∧ Own w 2 w0.heap.size x.2 (rdg (s.drop (x.1 + 1).toNat)) ∧ (bH x.2 ≤ b1 ∨ b1 < bL x.2) ∧ (bH x.2 ≤ b3 ∨ b3 < bL x.2) ∧ -1 ≤ x.1 ∧ x.1 < s.length)
    (fun x => (x.1 + 1).toNat) (s.length - 1, v2) ⟨rfl, rfl, rfl, rfl, trivial⟩ ⟨by (repeat (first | exact Chg.refl _ _ _ | assumption | refine Chg.next ?_ (by assumption) (by omega))), (by repeat (first | assumption | exact Go.Gw.Own.sl (by assumption) | exact Go.Gw.Box.at (by assumption) | exact Go.Gw.SLL.el (by first | assumption | exact Go.Gw.OwnD.sll (by assumption)) _ (by omega) | exact Go.Gw.SLL.at (by first | assumption | exact Go.Gw.OwnD.sll (by assumption)) (by omega) | exact Go.Gw.OwnD.sll (by assumption) | (apply Go.Gw.SL.chg; case hx => assumption) | (apply Go.Gw.Own.chg; case hx => assumption) | (apply Go.Gw.Box.chg; case hx => assumption) | (apply Go.Gw.At.chg; case hx => assumption) | exact .inl (Nat.zero_le _) | exact .inr (Nat.zero_le _) | (show _ ∨ _; omega))), (by repeat (first | assumption | exact Go.Gw.Own.sl (by assumption) | exact Go.Gw.Box.at (by assumption) | exact Go.Gw.SLL.el (by first | assumption | exact Go.Gw.OwnD.sll (by assumption)) _ (by omega) | exact Go.Gw.SLL.at (by first | assumption | exact Go.Gw.OwnD.sll (by assumption)) (by omega) | exact Go.Gw.OwnD.sll (by assumption) | (apply Go.Gw.SL.chg; case hx => assumption) | (apply Go.Gw.Own.chg; case hx => assumption) | (apply Go.Gw.Box.chg; case hx => assumption) | (apply Go.Gw.At.chg; case hx => assumption) | exact .inl (Nat.zero_le _) | exact .inr (Nat.zero_le _) | (show _ ∨ _; omega))), ?_, by dsimp only; omega, by dsimp only; omega, by dsimp only; omega, by dsimp only; omega⟩ ?_
  · dsimp only
    rw [show ((s.length : Int) - 1 + 1).toNat = s.length by omega, List.drop_length]
    exact ((by repeat (first | assumption | exact Go.Gw.Own.sl (by assumption) | exact Go.Gw.Box.at (by assumption) | exact Go.Gw.SLL.el (by first | assumption | exact Go.Gw.OwnD.sll (by assumption)) _ (by omega) | exact Go.Gw.SLL.at (by first | assumption | exact Go.Gw.OwnD.sll (by assumption)) (by omega) | exact Go.Gw.OwnD.sll (by assumption) | (apply Go.Gw.SL.chg; case hx => assumption) | (apply Go.Gw.Own.chg; case hx => assumption) | (apply Go.Gw.Box.chg; case hx => assumption) | (apply Go.Gw.At.chg; case hx => assumption) | exact .inl (Nat.zero_le _) | exact .inr (Nat.zero_le _) | (show _ ∨ _; omega))) : Own (α := Int) w4 2 _ v2 []).base (by omega)
  rintro ⟨i, v⟩ w ⟨hx, hb1, hb3, ho, hd1, hd3, hi0, hik⟩
  dsimp only at *
  have hbL := hb1.lt
  have hbL3 := hb3.lt
  have hsz := hx.size
  have hlen : (rdg (s.drop (i + 1).toNat)).length = s.length - (i + 1).toNat := by rw [rdg_len]; simp
  have hol := ho.lt
  have hu8 := (s.getD i.toNat 0).toNat_lt
  focus
    refine c_seq ?_
    refine c_seq ?_
    refine c_region ?_
    refine w_pure (y_move rfl) rfl ?_
    refine w_pure (y_ge rfl rfl) rfl ?_
    refine w_pure (y_move rfl) rfl ?_
    (refine w_part_dec rfl rfl (fun hc => ?_) (fun hc => ?_) <;> try (first | (exfalso; omega) | exact absurd rfl hc))
    refine w_yes rfl rfl ?_
    refine w_pure (y_field rfl) rfl ?_
    refine w_yes rfl rfl ?_
    refine w_pure (y_load_box rfl) rfl ?_
    refine w_yes rfl rfl ?_
    refine w_pure (y_len rfl) rfl ?_
    refine w_yes rfl rfl ?_
    refine w_pure (y_le rfl rfl) rfl ?_
    refine w_pure (y_pick_t rfl rfl) rfl ?_
    refine w_nil ?_
    refine x_next ?_
    (refine c_dec rfl (fun hc => ?_) (fun hc => ?_) <;> try (first | (exfalso; omega) | exact absurd rfl hc))
    refine c_skip ?_
    refine x_next ?_
    refine c_seq ?_
    refine c_block ?_
    refine c_region_held mixed (fun wd hxd hzd => ?_)
    refine h_pure rfl (y_field rfl) rfl ?_
    refine h_pure rfl (y_load_box rfl) rfl ?_
    refine h_pure rfl (y_move rfl) rfl ?_
    refine h_pure rfl (y_move rfl) rfl ?_
    refine h_pure rfl (y_at_str rfl rfl) rfl ?_
    refine h_pure rfl (y_conv64 rfl) rfl ?_
    refine h_pure rfl (y_sub rfl rfl) rfl ?_
    refine h_one rfl ?_
    rotate_left
    refine c_exit ?_
    refine x_then_exit ?_
    refine x_then_exit ?_
    refine x_block_hit ?_
    refine x_next ?_
    refine c_seq ?_
    refine c_seq ?_
    refine c_region ?_
    refine w_pure (y_load_boxs rfl) rfl ?_
    rotate_left
    refine w_no rfl rfl rfl rfl ?_
    refine w_no rfl rfl rfl rfl ?_
    refine w_no rfl rfl rfl rfl ?_
    refine w_no rfl rfl rfl rfl ?_
    refine w_pure (y_pick_f rfl rfl) rfl ?_
    refine w_nil ?_
    refine x_next ?_
    refine c_false rfl ?_
    refine c_exit ?_
    refine x_then_exit ?_
    refine x_then_exit ?_
    refine x_block_hit ?_
    refine x_next ?_
    refine c_seq ?_
    refine c_seq ?_
    refine c_region ?_
    refine w_pure (y_load_boxs rfl) rfl ?_
    rotate_left
  · focus
      refine w_lit (α := Int) rfl rfl rfl rfl rfl rfl rfl rfl (fun v5 w5 ho5 hx5 hl5 hh5 hs5 => ?_)
      refine w_nil ?_
      refine x_held ?_
      refine h_one rfl ?_
      refine w_append rfl rfl (k := fun v6 w6 ho6 hx6 hr6 => ?_)
      refine w_nil ?_
      refine x_heldk ?_
      refine h_pure rfl (y_field rfl) rfl ?_
      refine h_one rfl ?_
      refine w_store_box rfl rfl (next := fun w7 hb7 hx7 hs7 => ?_)
      refine w_nil ?_
      refine x_heldk ?_
      refine h_nil ?_
      refine x_block_norm ?_
      refine x_next ?_
      refine c_region ?_
      refine w_pure (y_move rfl) rfl ?_
      refine w_pure (y_sub rfl rfl) rfl ?_
      refine w_pure (y_assign rfl) rfl ?_
      refine w_nil ?_
      rotate_left
    have := hx6.size
    refine x_again (i - 1, v6) ⟨rfl, rfl, rfl, rfl, trivial⟩ ⟨by (repeat (first | exact Chg.refl _ _ _ | assumption | refine Chg.next ?_ (by assumption) (by omega))), (by repeat (first | assumption | exact Go.Gw.Own.sl (by assumption) | exact Go.Gw.Box.at (by assumption) | exact Go.Gw.SLL.el (by first | assumption | exact Go.Gw.OwnD.sll (by assumption)) _ (by omega) | exact Go.Gw.SLL.at (by first | assumption | exact Go.Gw.OwnD.sll (by assumption)) (by omega) | exact Go.Gw.OwnD.sll (by assumption) | (apply Go.Gw.SL.chg; case hx => assumption) | (apply Go.Gw.Own.chg; case hx => assumption) | (apply Go.Gw.Box.chg; case hx => assumption) | (apply Go.Gw.At.chg; case hx => assumption) | exact .inl (Nat.zero_le _) | exact .inr (Nat.zero_le _) | (show _ ∨ _; omega))), (by repeat (first | assumption | exact Go.Gw.Own.sl (by assumption) | exact Go.Gw.Box.at (by assumption) | exact Go.Gw.SLL.el (by first | assumption | exact Go.Gw.OwnD.sll (by assumption)) _ (by omega) | exact Go.Gw.SLL.at (by first | assumption | exact Go.Gw.OwnD.sll (by assumption)) (by omega) | exact Go.Gw.OwnD.sll (by assumption) | (apply Go.Gw.SL.chg; case hx => assumption) | (apply Go.Gw.Own.chg; case hx => assumption) | (apply Go.Gw.Box.chg; case hx => assumption) | (apply Go.Gw.At.chg; case hx => assumption) | exact .inl (Nat.zero_le _) | exact .inr (Nat.zero_le _) | (show _ ∨ _; omega))), ?_, by dsimp only; omega, by dsimp only; omega, by dsimp only; omega, by dsimp only; omega⟩ (by dsimp only; omega)
    dsimp only
    rw [show (i - 1 + 1).toNat = i.toNat by omega, rdg_drop (by omega), show i.toNat + 1 = (i + 1).toNat by omega]
    exact (by repeat (first | assumption | exact Go.Gw.Own.sl (by assumption) | exact Go.Gw.Box.at (by assumption) | exact Go.Gw.SLL.el (by first | assumption | exact Go.Gw.OwnD.sll (by assumption)) _ (by omega) | exact Go.Gw.SLL.at (by first | assumption | exact Go.Gw.OwnD.sll (by assumption)) (by omega) | exact Go.Gw.OwnD.sll (by assumption) | (apply Go.Gw.SL.chg; case hx => assumption) | (apply Go.Gw.Own.chg; case hx => assumption) | (apply Go.Gw.Box.chg; case hx => assumption) | (apply Go.Gw.At.chg; case hx => assumption) | exact .inl (Nat.zero_le _) | exact .inr (Nat.zero_le _) | (show _ ∨ _; omega)))
  · have hq := okC_rdg_drop hi0 hik (by first | exact .inl (by omega) | exact .inr (by omega))
    focus
      refine w_val rfl rfl rfl (iValidCounter_c (xs := rdg (s.drop (i + 1).toNat))) rfl (fun w5 hx5 hz5 => ?_)
      refine w_pure (y_not rfl) rfl ?_
      refine w_nil ?_
      refine x_next ?_
      (refine c_not rfl (fun hc => ?_) (fun hc => ?_))
      refine c_seq ?_
      refine c_region ?_
      refine w_pure (y_build rfl) rfl ?_
      refine w_store_boxs rfl rfl (next := fun wst hbst hxst hsst => ?_)
      refine w_pure (y_assign rfl) rfl ?_
      refine w_nil ?_
      refine x_next ?_
      refine c_ret ?_
      refine x_then_ret ?_
      rotate_left
      refine c_skip ?_
      refine x_next ?_
      refine c_seq ?_
      refine c_region ?_
      refine w_pure (y_load_boxs rfl) rfl ?_
      refine w_store_boxs rfl rfl (next := fun wst hbst hxst hsst => ?_)
      refine w_pure (y_assign rfl) rfl ?_
      refine w_nil ?_
      refine x_next ?_
      refine c_ret ?_
      rotate_left
    · have hk : ¬ okC (rdg s) = true := by rw [← hq.1]; simpa using hc
      exact x_retv [_, _] rfl ⟨⟨_, rfl, run_load_str hbst.at rfl⟩, rfl, trivial⟩ ⟨_, by rw [Bool.eq_false_iff.2 hk]; rfl, by rw [if_neg hk]; exact Own.nil _ _ _, by (repeat (first | exact Chg.refl _ _ _ | assumption | refine Chg.next ?_ (by assumption) (by omega)))⟩
    · have hk : okC (rdg s) = true := by rw [← hq.1]; simpa using hc
      refine x_retv [_, _] rfl ⟨⟨_, rfl, run_load_str hbst.at rfl⟩, rfl, trivial⟩ ⟨v, by rw [hk]; rfl, ?_, by (repeat (first | exact Chg.refl _ _ _ | assumption | refine Chg.next ?_ (by assumption) (by omega)))⟩
      rw [if_pos hk, ← hq.2 hk]
      exact (by repeat (first | assumption | exact Go.Gw.Own.sl (by assumption) | exact Go.Gw.Box.at (by assumption) | exact Go.Gw.SLL.el (by first | assumption | exact Go.Gw.OwnD.sll (by assumption)) _ (by omega) | exact Go.Gw.SLL.at (by first | assumption | exact Go.Gw.OwnD.sll (by assumption)) (by omega) | exact Go.Gw.OwnD.sll (by assumption) | (apply Go.Gw.SL.chg; case hx => assumption) | (apply Go.Gw.Own.chg; case hx => assumption) | (apply Go.Gw.Box.chg; case hx => assumption) | (apply Go.Gw.At.chg; case hx => assumption) | exact .inl (Nat.zero_le _) | exact .inr (Nat.zero_le _) | (show _ ∨ _; omega)))
  · have hq := okC_rdg_drop hi0 hik (by first | exact .inl (by omega) | exact .inr (by omega))
    focus
      refine w_val rfl rfl rfl (iValidCounter_c (xs := rdg (s.drop (i + 1).toNat))) rfl (fun w5 hx5 hz5 => ?_)
      refine w_pure (y_not rfl) rfl ?_
      refine w_nil ?_
      refine x_next ?_
      (refine c_not rfl (fun hc => ?_) (fun hc => ?_))
      refine c_seq ?_
      refine c_region ?_
      refine w_pure (y_build rfl) rfl ?_
      refine w_store_boxs rfl rfl (next := fun wst hbst hxst hsst => ?_)
      refine w_pure (y_assign rfl) rfl ?_
      refine w_nil ?_
      refine x_next ?_
      refine c_ret ?_
      refine x_then_ret ?_
      rotate_left
      refine c_skip ?_
      refine x_next ?_
      refine c_seq ?_
      refine c_region ?_
      refine w_pure (y_load_boxs rfl) rfl ?_
      refine w_store_boxs rfl rfl (next := fun wst hbst hxst hsst => ?_)
      refine w_pure (y_assign rfl) rfl ?_
      refine w_nil ?_
      refine x_next ?_
      refine c_ret ?_
      rotate_left
    · have hk : ¬ okC (rdg s) = true := by rw [← hq.1]; simpa using hc
      exact x_retv [_, _] rfl ⟨⟨_, rfl, run_load_str hbst.at rfl⟩, rfl, trivial⟩ ⟨_, by rw [Bool.eq_false_iff.2 hk]; rfl, by rw [if_neg hk]; exact Own.nil _ _ _, by (repeat (first | exact Chg.refl _ _ _ | assumption | refine Chg.next ?_ (by assumption) (by omega)))⟩
    · have hk : okC (rdg s) = true := by rw [← hq.1]; simpa using hc
      refine x_retv [_, _] rfl ⟨⟨_, rfl, run_load_str hbst.at rfl⟩, rfl, trivial⟩ ⟨v, by rw [hk]; rfl, ?_, by (repeat (first | exact Chg.refl _ _ _ | assumption | refine Chg.next ?_ (by assumption) (by omega)))⟩
      rw [if_pos hk, ← hq.2 hk]
      exact (by repeat (first | assumption | exact Go.Gw.Own.sl (by assumption) | exact Go.Gw.Box.at (by assumption) | exact Go.Gw.SLL.el (by first | assumption | exact Go.Gw.OwnD.sll (by assumption)) _ (by omega) | exact Go.Gw.SLL.at (by first | assumption | exact Go.Gw.OwnD.sll (by assumption)) (by omega) | exact Go.Gw.OwnD.sll (by assumption) | (apply Go.Gw.SL.chg; case hx => assumption) | (apply Go.Gw.Own.chg; case hx => assumption) | (apply Go.Gw.Box.chg; case hx => assumption) | (apply Go.Gw.At.chg; case hx => assumption) | exact .inl (Nat.zero_le _) | exact .inr (Nat.zero_le _) | (show _ ∨ _; omega)))
theorem sReadCounter_c (w0 : World) (s : List UInt8) (hs : s.length ≤ 1048576) : Ret Tryd.prog 45 [str s] w0 fun u w' => ∃ d, u = .tuple #[.agg #[d], .bool (okC (rdg s))] ∧ Own w' 2 w0.heap.size d (if okC (rdg s) then rdg s else []) ∧ Ext w0 w' := by
  refine ret_enter Tryd.func45 rfl Tryd.ntmps45 rfl ?_
  focus
    refine c_seq ?_
    refine c_region ?_
    rotate_left
  refine w_alloc (k := fun b1 w1 hb1 hx1 hl1 hs1 => ?_)
  focus
    refine w_pure (y_assign rfl) rfl ?_
    refine w_nil ?_
    refine x_next ?_
    refine c_seq ?_
    refine c_region ?_
    refine w_pure (y_build rfl) rfl ?_
    rotate_left
  refine w_alloc (k := fun b3 w3 hb3 hx3 hl3 hs3 => ?_)
  refine w_store_boxs rfl rfl (next := fun w4 hb4 hx4 hs4 => ?_)
  focus
    refine w_nil ?_
    refine x_next ?_
    refine c_seq ?_
    refine c_seq ?_
    refine c_region ?_
    refine w_pure (y_move rfl) rfl ?_
    refine w_pure (y_slen rfl) rfl ?_
    refine w_pure (y_sub rfl rfl) rfl ?_
    refine w_pure (y_assign rfl) rfl ?_
    refine w_nil ?_
    refine x_next ?_
    refine c_block ?_
    rotate_left
  refine c_loop (ι := Int × Value) (fun x => [(0, str s), (2, ptr b1 0), (4, ptr b3 0), (5, .int .i64 x.1)])
    (fun x w => Ext w0 w ∧ Box w b1 [.slice none 0 0] ∧ Box w b3 [x.2] ∧ Own w 2 w0.heap.size x.2 (rdg (s.drop (x.1 + 1).toNat)) ∧ (bH x.2 ≤ b1 ∨ b1 < bL x.2) ∧ (bH x.2 ≤ b3 ∨ b3 < bL x.2) ∧ -1 ≤ x.1 ∧ x.1 < s.length)
    (fun x => (x.1 + 1).toNat) (s.length - 1, .slice none 0 0) ⟨rfl, rfl, rfl, rfl, trivial⟩ ⟨by (repeat (first | exact Chg.refl _ _ _ | assumption | refine Chg.next ?_ (by assumption) (by omega))), (by repeat (first | assumption | exact Go.Gw.Own.sl (by assumption) | exact Go.Gw.Box.at (by assumption) | exact Go.Gw.SLL.el (by first | assumption | exact Go.Gw.OwnD.sll (by assumption)) _ (by omega) | exact Go.Gw.SLL.at (by first | assumption | exact Go.Gw.OwnD.sll (by assumption)) (by omega) | exact Go.Gw.OwnD.sll (by assumption) | (apply Go.Gw.SL.chg; case hx => assumption) | (apply Go.Gw.Own.chg; case hx => assumption) | (apply Go.Gw.Box.chg; case hx => assumption) | (apply Go.Gw.At.chg; case hx => assumption) | exact .inl (Nat.zero_le _) | exact .inr (Nat.zero_le _) | (show _ ∨ _; omega))), (by repeat (first | assumption | exact Go.Gw.Own.sl (by assumption) | exact Go.Gw.Box.at (by assumption) | exact Go.Gw.SLL.el (by first | assumption | exact Go.Gw.OwnD.sll (by assumption)) _ (by omega) | exact Go.Gw.SLL.at (by first | assumption | exact Go.Gw.OwnD.sll (by assumption)) (by omega) | exact Go.Gw.OwnD.sll (by assumption) | (apply Go.Gw.SL.chg; case hx => assumption) | (apply Go.Gw.Own.chg; case hx => assumption) | (apply Go.Gw.Box.chg; case hx => assumption) | (apply Go.Gw.At.chg; case hx => assumption) | exact .inl (Nat.zero_le _) | exact .inr (Nat.zero_le _) | (show _ ∨ _; omega))), ?_, .inl (Nat.zero_le _), .inl (Nat.zero_le _), by dsimp only; omega, by dsimp only; omega⟩ ?_
  · dsimp only
    rw [show ((s.length : Int) - 1 + 1).toNat = s.length by omega, List.drop_length]
    exact Own.nil _ _ _
  rintro ⟨i, v⟩ w ⟨hx, hb1, hb3, ho, hd1, hd3, hi0, hik⟩
  dsimp only at *
  have hbL := hb1.lt
  have hbL3 := hb3.lt
  have hsz := hx.size
  have hlen : (rdg (s.drop (i + 1).toNat)).length = s.length - (i + 1).toNat := by rw [rdg_len]; simp
  have hol := ho.lt
  have hu8 := (s.getD i.toNat 0).toNat_lt
  focus
    refine c_seq ?_
    refine c_seq ?_
    refine c_region ?_
    refine w_pure (y_move rfl) rfl ?_
    refine w_pure (y_ge rfl rfl) rfl ?_
    refine w_nil ?_
    refine x_next ?_
    (refine c_dec rfl (fun hc => ?_) (fun hc => ?_) <;> try (first | (exfalso; omega) | exact absurd rfl hc))
    refine c_skip ?_
    refine x_next ?_
    refine c_seq ?_
    refine c_block ?_
    refine c_region_held mixed (fun wd hxd hzd => ?_)
    refine h_pure rfl (y_field rfl) rfl ?_
    refine h_pure rfl (y_load_box rfl) rfl ?_
    refine h_pure rfl (y_move rfl) rfl ?_
    refine h_pure rfl (y_move rfl) rfl ?_
    refine h_pure rfl (y_at_str rfl rfl) rfl ?_
    refine h_pure rfl (y_conv64 rfl) rfl ?_
    refine h_pure rfl (y_sub rfl rfl) rfl ?_
    refine h_one rfl ?_
    rotate_left
    refine c_exit ?_
    refine x_then_exit ?_
    refine x_then_exit ?_
    refine x_block_hit ?_
    refine x_next ?_
    refine c_seq ?_
    refine c_seq ?_
    refine c_region ?_
    rotate_left
  · focus
      refine w_lit (α := Int) rfl rfl rfl rfl rfl rfl rfl rfl (fun v5 w5 ho5 hx5 hl5 hh5 hs5 => ?_)
      refine w_nil ?_
      refine x_held ?_
      refine h_one rfl ?_
      refine w_append rfl rfl (k := fun v6 w6 ho6 hx6 hr6 => ?_)
      refine w_nil ?_
      refine x_heldk ?_
      refine h_pure rfl (y_field rfl) rfl ?_
      refine h_one rfl ?_
      refine w_store_box rfl rfl (next := fun w7 hb7 hx7 hs7 => ?_)
      refine w_nil ?_
      refine x_heldk ?_
      refine h_nil ?_
      refine x_block_norm ?_
      refine x_next ?_
      refine c_region ?_
      refine w_pure (y_move rfl) rfl ?_
      refine w_pure (y_sub rfl rfl) rfl ?_
      refine w_pure (y_assign rfl) rfl ?_
      refine w_nil ?_
      rotate_left
    have := hx6.size
    refine x_again (i - 1, v6) ⟨rfl, rfl, rfl, rfl, trivial⟩ ⟨by (repeat (first | exact Chg.refl _ _ _ | assumption | refine Chg.next ?_ (by assumption) (by omega))), (by repeat (first | assumption | exact Go.Gw.Own.sl (by assumption) | exact Go.Gw.Box.at (by assumption) | exact Go.Gw.SLL.el (by first | assumption | exact Go.Gw.OwnD.sll (by assumption)) _ (by omega) | exact Go.Gw.SLL.at (by first | assumption | exact Go.Gw.OwnD.sll (by assumption)) (by omega) | exact Go.Gw.OwnD.sll (by assumption) | (apply Go.Gw.SL.chg; case hx => assumption) | (apply Go.Gw.Own.chg; case hx => assumption) | (apply Go.Gw.Box.chg; case hx => assumption) | (apply Go.Gw.At.chg; case hx => assumption) | exact .inl (Nat.zero_le _) | exact .inr (Nat.zero_le _) | (show _ ∨ _; omega))), (by repeat (first | assumption | exact Go.Gw.Own.sl (by assumption) | exact Go.Gw.Box.at (by assumption) | exact Go.Gw.SLL.el (by first | assumption | exact Go.Gw.OwnD.sll (by assumption)) _ (by omega) | exact Go.Gw.SLL.at (by first | assumption | exact Go.Gw.OwnD.sll (by assumption)) (by omega) | exact Go.Gw.OwnD.sll (by assumption) | (apply Go.Gw.SL.chg; case hx => assumption) | (apply Go.Gw.Own.chg; case hx => assumption) | (apply Go.Gw.Box.chg; case hx => assumption) | (apply Go.Gw.At.chg; case hx => assumption) | exact .inl (Nat.zero_le _) | exact .inr (Nat.zero_le _) | (show _ ∨ _; omega))), ?_, by dsimp only; omega, by dsimp only; omega, by dsimp only; omega, by dsimp only; omega⟩ (by dsimp only; omega)
    dsimp only
    rw [show (i - 1 + 1).toNat = i.toNat by omega, rdg_drop (by omega), show i.toNat + 1 = (i + 1).toNat by omega]
    exact (by repeat (first | assumption | exact Go.Gw.Own.sl (by assumption) | exact Go.Gw.Box.at (by assumption) | exact Go.Gw.SLL.el (by first | assumption | exact Go.Gw.OwnD.sll (by assumption)) _ (by omega) | exact Go.Gw.SLL.at (by first | assumption | exact Go.Gw.OwnD.sll (by assumption)) (by omega) | exact Go.Gw.OwnD.sll (by assumption) | (apply Go.Gw.SL.chg; case hx => assumption) | (apply Go.Gw.Own.chg; case hx => assumption) | (apply Go.Gw.Box.chg; case hx => assumption) | (apply Go.Gw.At.chg; case hx => assumption) | exact .inl (Nat.zero_le _) | exact .inr (Nat.zero_le _) | (show _ ∨ _; omega)))
  · have hq := okC_rdg_drop hi0 hik (by first | exact .inl (by omega) | exact .inr (by omega))
    focus
      refine w_val rfl rfl rfl (l11Ok_c (xs := rdg (s.drop (i + 1).toNat)) (hp := by exact Box.at (by repeat (first | assumption | exact Go.Gw.Own.sl (by assumption) | exact Go.Gw.Box.at (by assumption) | exact Go.Gw.SLL.el (by first | assumption | exact Go.Gw.OwnD.sll (by assumption)) _ (by omega) | exact Go.Gw.SLL.at (by first | assumption | exact Go.Gw.OwnD.sll (by assumption)) (by omega) | exact Go.Gw.OwnD.sll (by assumption) | (apply Go.Gw.SL.chg; case hx => assumption) | (apply Go.Gw.Own.chg; case hx => assumption) | (apply Go.Gw.Box.chg; case hx => assumption) | (apply Go.Gw.At.chg; case hx => assumption) | exact .inl (Nat.zero_le _) | exact .inr (Nat.zero_le _) | (show _ ∨ _; omega))))) rfl (fun w5 hx5 hz5 => ?_)
      refine w_pure (y_not rfl) rfl ?_
      refine w_nil ?_
      refine x_next ?_
      (refine c_not rfl (fun hc => ?_) (fun hc => ?_))
      refine c_seq ?_
      refine c_region ?_
      refine w_pure (y_build rfl) rfl ?_
      refine w_store_boxs rfl rfl (next := fun wst hbst hxst hsst => ?_)
      refine w_pure (y_assign rfl) rfl ?_
      refine w_nil ?_
      refine x_next ?_
      refine c_ret ?_
      refine x_then_ret ?_
      rotate_left
      refine c_skip ?_
      refine x_next ?_
      refine c_seq ?_
      refine c_region ?_
      refine w_pure (y_load_boxs rfl) rfl ?_
      refine w_store_boxs rfl rfl (next := fun wst hbst hxst hsst => ?_)
      refine w_pure (y_assign rfl) rfl ?_
      refine w_nil ?_
      refine x_next ?_
      refine c_ret ?_
      rotate_left
    · have hk : ¬ okC (rdg s) = true := by rw [← hq.1]; simpa using hc
      exact x_retv [_, _] rfl ⟨⟨_, rfl, run_load_str hbst.at rfl⟩, rfl, trivial⟩ ⟨_, by rw [Bool.eq_false_iff.2 hk]; rfl, by rw [if_neg hk]; exact Own.nil _ _ _, by (repeat (first | exact Chg.refl _ _ _ | assumption | refine Chg.next ?_ (by assumption) (by omega)))⟩
    · have hk : okC (rdg s) = true := by rw [← hq.1]; simpa using hc
      refine x_retv [_, _] rfl ⟨⟨_, rfl, run_load_str hbst.at rfl⟩, rfl, trivial⟩ ⟨v, by rw [hk]; rfl, ?_, by (repeat (first | exact Chg.refl _ _ _ | assumption | refine Chg.next ?_ (by assumption) (by omega)))⟩
      rw [if_pos hk, ← hq.2 hk]
      exact (by repeat (first | assumption | exact Go.Gw.Own.sl (by assumption) | exact Go.Gw.Box.at (by assumption) | exact Go.Gw.SLL.el (by first | assumption | exact Go.Gw.OwnD.sll (by assumption)) _ (by omega) | exact Go.Gw.SLL.at (by first | assumption | exact Go.Gw.OwnD.sll (by assumption)) (by omega) | exact Go.Gw.OwnD.sll (by assumption) | (apply Go.Gw.SL.chg; case hx => assumption) | (apply Go.Gw.Own.chg; case hx => assumption) | (apply Go.Gw.Box.chg; case hx => assumption) | (apply Go.Gw.At.chg; case hx => assumption) | exact .inl (Nat.zero_le _) | exact .inr (Nat.zero_le _) | (show _ ∨ _; omega)))
end
end Go.Proofs.YtgkljfncpgbngaaDoor

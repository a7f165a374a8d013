/- Contracts of the counters' small functions. -/
import Derived.Test.YtgkljfncpgbngaaDoorCntC
namespace Go.Proofs.YtgkljfncpgbngaaDoor
open Go Go.Gw
set_option linter.unusedVariables false
set_option linter.unusedSimpArgs false

/-- the k lowest digits of a number, the lowest first -/
def digs : Nat → Int → List Int
  | 0, _ => []
  | k + 1, n => n % 10 :: digs k (n / 10)
theorem digs_snoc : ∀ (k : Nat) (n : Int), digs (k + 1) n = digs k n ++ [n / 10 ^ k % 10]
  | 0, n => by simp [digs]
  | k + 1, n => by
    rw [digs, digs_snoc k (n / 10), digs]
    simp only [List.cons_append]
    congr 2
    rw [Int.ediv_ediv_of_nonneg (by omega), Int.pow_succ, Int.mul_comm]
theorem digs_len : ∀ (k : Nat) (n : Int), (digs k n).length = k
  | 0, n => rfl
  | k + 1, n => by simp [digs, digs_len k]

theorem wheelsShow_c (k n : Int) (w0 : World) (hk : 0 ≤ k ∧ k ≤ 20) (hn : 0 ≤ n) (hm : n ≤ 9223372036854775807) :
    Ret Tryd.prog 88 [.int .i64 k, .int .i64 n] w0 fun v w' => ∃ d, v = .agg #[d] ∧ Own w' 2 w0.heap.size d (digs k.toNat n) ∧ Ext w0 w' := by
  refine ret_enter Tryd.func88 rfl Tryd.ntmps88 rfl ?_
  focus
    refine c_seq ?_
    refine c_region ?_
    rotate_left
  refine w_alloc (k := fun b1 w1 hb1 hx1 hl1 hs1 => ?_)
  focus
    refine w_nil ?_
    refine x_next ?_
    refine c_seq ?_
    refine c_region ?_
    rotate_left
  refine w_lit (α := Int) rfl rfl rfl rfl rfl rfl rfl rfl (fun v2 w2 ho2 hx2 hl2 hh2 hs2 => ?_)
  focus
    refine w_pure (y_build rfl) rfl ?_
    rotate_left
  refine w_alloc (k := fun b3 w3 hb3 hx3 hl3 hs3 => ?_)
  refine w_store_boxs rfl rfl (next := fun w4 hb4 hx4 hs4 => ?_)
  focus
    refine w_nil ?_
    refine x_next ?_
    refine c_seq ?_
    refine c_seq ?_
    refine c_region ?_
    refine w_pure (y_move rfl) rfl ?_
    refine w_pure (y_move rfl) rfl ?_
    refine w_nil ?_
    refine x_next ?_
    refine c_block ?_
    rotate_left
  refine c_loop (ι := Int × Int × Value) (fun x => [(1, .int .i64 x.2.1), (4, ptr b1 0), (5, ptr b3 0), (8, .int .i64 k), (9, .int .i64 x.1)])
    (fun x w => Ext w0 w ∧ Box w b1 [.slice none 0 0] ∧ Box w b3 [x.2.2] ∧ Own w 2 w0.heap.size x.2.2 (digs x.1.toNat n) ∧ (bH x.2.2 ≤ b1 ∨ b1 < bL x.2.2) ∧ (bH x.2.2 ≤ b3 ∨ b3 < bL x.2.2) ∧ 0 ≤ x.1 ∧ x.1 ≤ k ∧ x.2.1 = n / 10 ^ x.1.toNat)
    (fun x => (k - x.1).toNat) (0, n, v2) ⟨rfl, rfl, rfl, rfl, rfl, trivial⟩ ⟨by (repeat (first | exact Chg.refl _ _ _ | assumption | refine Chg.next ?_ (by assumption) (by omega))), (by repeat (first | assumption | exact Go.Gw.Own.sl (by assumption) | exact Go.Gw.Box.at (by assumption) | exact Go.Gw.SLL.el (by first | assumption | exact Go.Gw.OwnD.sll (by assumption)) _ (by omega) | exact Go.Gw.SLL.at (by first | assumption | exact Go.Gw.OwnD.sll (by assumption)) (by omega) | exact Go.Gw.OwnD.sll (by assumption) | (apply Go.Gw.SL.chg; case hx => assumption) | (apply Go.Gw.Own.chg; case hx => assumption) | (apply Go.Gw.Box.chg; case hx => assumption) | (apply Go.Gw.At.chg; case hx => assumption) | exact .inl (Nat.zero_le _) | exact .inr (Nat.zero_le _) | (show _ ∨ _; omega))), (by repeat (first | assumption | exact Go.Gw.Own.sl (by assumption) | exact Go.Gw.Box.at (by assumption) | exact Go.Gw.SLL.el (by first | assumption | exact Go.Gw.OwnD.sll (by assumption)) _ (by omega) | exact Go.Gw.SLL.at (by first | assumption | exact Go.Gw.OwnD.sll (by assumption)) (by omega) | exact Go.Gw.OwnD.sll (by assumption) | (apply Go.Gw.SL.chg; case hx => assumption) | (apply Go.Gw.Own.chg; case hx => assumption) | (apply Go.Gw.Box.chg; case hx => assumption) | (apply Go.Gw.At.chg; case hx => assumption) | exact .inl (Nat.zero_le _) | exact .inr (Nat.zero_le _) | (show _ ∨ _; omega))), ((by repeat (first | assumption | exact Go.Gw.Own.sl (by assumption) | exact Go.Gw.Box.at (by assumption) | exact Go.Gw.SLL.el (by first | assumption | exact Go.Gw.OwnD.sll (by assumption)) _ (by omega) | exact Go.Gw.SLL.at (by first | assumption | exact Go.Gw.OwnD.sll (by assumption)) (by omega) | exact Go.Gw.OwnD.sll (by assumption) | (apply Go.Gw.SL.chg; case hx => assumption) | (apply Go.Gw.Own.chg; case hx => assumption) | (apply Go.Gw.Box.chg; case hx => assumption) | (apply Go.Gw.At.chg; case hx => assumption) | exact .inl (Nat.zero_le _) | exact .inr (Nat.zero_le _) | (show _ ∨ _; omega))) : Own (α := Int) w4 2 _ v2 []).base (by omega), by dsimp only; omega, by dsimp only; omega, by simp, by simp; omega, by simp⟩ ?_
  rintro ⟨i, m, v⟩ w ⟨hx, hb1, hb3, ho, hd1, hd3, hi0, hik, hm'⟩
  dsimp only at *
  have hm0 : 0 ≤ m := by rw [hm']; exact Int.ediv_nonneg hn (Int.le_of_lt (pow10_pos _))
  have hm1 : m ≤ n := by rw [hm']; exact Int.ediv_le_self _ hn
  have hbL := hb1.lt
  have hbL3 := hb3.lt
  have hsz := hx.size
  have hlen := digs_len i.toNat n
  have hol := ho.lt
  focus
    refine c_seq ?_
    refine c_region ?_
    refine w_pure (y_lt rfl rfl) rfl ?_
    refine w_nil ?_
    refine x_next ?_
    refine c_seq ?_
    (refine c_dec rfl (fun hc => ?_) (fun hc => ?_) <;> try (first | (exfalso; omega) | exact absurd rfl hc))
    refine c_skip ?_
    refine x_next ?_
    refine c_seq ?_
    refine c_block ?_
    refine c_seq ?_
    refine c_region ?_
    refine w_pure (y_field rfl) rfl ?_
    refine w_pure (y_load_box rfl) rfl ?_
    refine w_pure (y_move rfl) rfl ?_
    refine w_pure (y_rem rfl rfl) rfl ?_
    rotate_left
    refine c_exit ?_
    refine x_then_exit ?_
    refine x_then_exit ?_
    refine x_block_hit ?_
    refine x_next ?_
    refine c_seq ?_
    refine c_region ?_
    refine w_pure (y_load_boxs rfl) rfl ?_
    rotate_left
  · refine w_lit (α := Int) rfl rfl rfl rfl rfl rfl rfl rfl (fun v5 w5 ho5 hx5 hl5 hh5 hs5 => ?_)
    refine w_append rfl rfl (k := fun v6 w6 ho6 hx6 hr6 => ?_)
    focus
      refine w_pure (y_field rfl) rfl ?_
      rotate_left
    refine w_store_box rfl rfl (next := fun w7 hb7 hx7 hs7 => ?_)
    focus
      refine w_nil ?_
      refine x_next ?_
      refine c_region ?_
      refine w_pure (y_move rfl) rfl ?_
      refine w_pure (y_quo rfl rfl) rfl ?_
      refine w_pure (y_assign rfl) rfl ?_
      refine w_nil ?_
      refine x_block_norm ?_
      refine x_next ?_
      refine c_region ?_
      refine w_pure (y_add rfl rfl) rfl ?_
      refine w_pure (y_move rfl) rfl ?_
      refine w_nil ?_
      rotate_left
    refine x_again (i + 1, m / 10, v6) ⟨rfl, rfl, rfl, rfl, rfl, trivial⟩ ⟨by (repeat (first | exact Chg.refl _ _ _ | assumption | refine Chg.next ?_ (by assumption) (by omega))), (by repeat (first | assumption | exact Go.Gw.Own.sl (by assumption) | exact Go.Gw.Box.at (by assumption) | exact Go.Gw.SLL.el (by first | assumption | exact Go.Gw.OwnD.sll (by assumption)) _ (by omega) | exact Go.Gw.SLL.at (by first | assumption | exact Go.Gw.OwnD.sll (by assumption)) (by omega) | exact Go.Gw.OwnD.sll (by assumption) | (apply Go.Gw.SL.chg; case hx => assumption) | (apply Go.Gw.Own.chg; case hx => assumption) | (apply Go.Gw.Box.chg; case hx => assumption) | (apply Go.Gw.At.chg; case hx => assumption) | exact .inl (Nat.zero_le _) | exact .inr (Nat.zero_le _) | (show _ ∨ _; omega))), (by repeat (first | assumption | exact Go.Gw.Own.sl (by assumption) | exact Go.Gw.Box.at (by assumption) | exact Go.Gw.SLL.el (by first | assumption | exact Go.Gw.OwnD.sll (by assumption)) _ (by omega) | exact Go.Gw.SLL.at (by first | assumption | exact Go.Gw.OwnD.sll (by assumption)) (by omega) | exact Go.Gw.OwnD.sll (by assumption) | (apply Go.Gw.SL.chg; case hx => assumption) | (apply Go.Gw.Own.chg; case hx => assumption) | (apply Go.Gw.Box.chg; case hx => assumption) | (apply Go.Gw.At.chg; case hx => assumption) | exact .inl (Nat.zero_le _) | exact .inr (Nat.zero_le _) | (show _ ∨ _; omega))), ?_, ?_, ?_, ?_, ?_, ?_⟩ ?_
    · have := ((by repeat (first | assumption | exact Go.Gw.Own.sl (by assumption) | exact Go.Gw.Box.at (by assumption) | exact Go.Gw.SLL.el (by first | assumption | exact Go.Gw.OwnD.sll (by assumption)) _ (by omega) | exact Go.Gw.SLL.at (by first | assumption | exact Go.Gw.OwnD.sll (by assumption)) (by omega) | exact Go.Gw.OwnD.sll (by assumption) | (apply Go.Gw.SL.chg; case hx => assumption) | (apply Go.Gw.Own.chg; case hx => assumption) | (apply Go.Gw.Box.chg; case hx => assumption) | (apply Go.Gw.At.chg; case hx => assumption) | exact .inl (Nat.zero_le _) | exact .inr (Nat.zero_le _) | (show _ ∨ _; omega))) : Own w7 2 w0.heap.size v6 (digs i.toNat n ++ [m % 10]))
      dsimp only
      rw [show (i + 1).toNat = i.toNat + 1 by omega, digs_snoc, ← hm']
      exact this
    all_goals dsimp only
    · omega
    · omega
    · omega
    · omega
    · rw [hm', Int.ediv_ediv_of_nonneg (Int.le_of_lt (pow10_pos _)), pow10_succ _ hi0]
    · omega
  · refine w_store_boxs rfl rfl (next := fun w8 hb8 hx8 hs8 => ?_)
    focus
      refine w_nil ?_
      refine x_next ?_
      refine c_ret ?_
      rotate_left
    refine x_retv [_] rfl ⟨⟨_, rfl, run_load_str hb8.at rfl⟩, trivial⟩ ⟨v, rfl, ?_, by (repeat (first | exact Chg.refl _ _ _ | assumption | refine Chg.next ?_ (by assumption) (by omega)))⟩
    rw [← show i = k by omega]
    exact (by repeat (first | assumption | exact Go.Gw.Own.sl (by assumption) | exact Go.Gw.Box.at (by assumption) | exact Go.Gw.SLL.el (by first | assumption | exact Go.Gw.OwnD.sll (by assumption)) _ (by omega) | exact Go.Gw.SLL.at (by first | assumption | exact Go.Gw.OwnD.sll (by assumption)) (by omega) | exact Go.Gw.OwnD.sll (by assumption) | (apply Go.Gw.SL.chg; case hx => assumption) | (apply Go.Gw.Own.chg; case hx => assumption) | (apply Go.Gw.Box.chg; case hx => assumption) | (apply Go.Gw.At.chg; case hx => assumption) | exact .inl (Nat.zero_le _) | exact .inr (Nat.zero_le _) | (show _ ∨ _; omega)))
end Go.Proofs.YtgkljfncpgbngaaDoor

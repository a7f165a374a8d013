/- Contracts: the columns of a number. -/
import Derived.Test.YtihnhelkfiaimaaGreatDoorNmB
import Derived.Test.YtihnhelkfiaimaaGreatDoorL22
namespace Go.Proofs.YtihnhelkfiaimaaGreatDoor
open Go Go.Gw
set_option linter.unusedVariables false
set_option linter.unusedSimpArgs false
/-- the columns of a number that is not negative -/
def pun (x : Int) : Nat → List Int
  | 0 => []
  | k + 1 => pun (x / 10) k ++ [bitI (x % 10)]
theorem pun_len : ∀ (k : Nat) (x : Int), (pun x k).length = k
  | 0, x => rfl
  | k + 1, x => by rw [pun, List.length_append, pun_len k]; rfl
/-- what is left of a number behind k digits -/
def sft (x : Int) : Nat → Int
  | 0 => x
  | k + 1 => sft (x / 10) k
theorem sft_zero : ∀ (k : Nat) (x : Int), 0 ≤ x → (sft x k = 0 ↔ x < 10 ^ k)
  | 0, x, h => by rw [sft, Int.pow_zero]; omega
  | k + 1, x, h => by
    have := sft_zero k (x / 10) (by omega)
    rw [sft, this, Int.pow_succ]; omega
theorem rep_set {m : Nat} {b : Int} {R : List Int} : (List.replicate (m + 1) (0 : Int) ++ R).set m b = List.replicate m 0 ++ ([b] ++ R) := by
  rw [List.replicate_succ', List.append_assoc, List.set_append_right _ _ (by simp), List.length_replicate, Nat.sub_self]; rfl
/-- the columns of a number below 0 -/
def punN (n : Int) (k : Int) : List Int := (pun (-n) k.toNat).set (k - 1).toNat (orI ((pun (-n) k.toNat).getD (k - 1).toNat 0) 2)
theorem bitI_rg (r : Int) : 0 ≤ bitI r ∧ bitI r ≤ 2048 := by
  unfold bitI
  split
  · omega
  · split
    · omega
    · split
      · rename_i h
        have h1 : (2 : Int) ^ r.toNat ≤ 2 ^ 9 := by
          have : r.toNat ≤ 9 := by omega
          exact_mod_cast Nat.pow_le_pow_right (by decide) this
        have h2 : (0 : Int) < 2 ^ r.toNat := Int.pow_pos (by decide)
        have e : (2 : Int) ^ 9 = 512 := by decide
        omega
      · omega
theorem pun_rg : ∀ (k : Nat) (x : Int), ∀ m ∈ pun x k, 0 ≤ m ∧ m ≤ 4095
  | 0, x, m, h => by simp [pun] at h
  | k + 1, x, m, h => by
    rw [pun, List.mem_append] at h
    rcases h with h | h
    · exact pun_rg k _ m h
    · simp only [List.mem_singleton] at h
      have := bitI_rg (x % 10)
      omega
section
variable {w : World} {lo hi B : Nat} {v : Value} {xs : List Int}
theorem l03Put_c (n k : Int) (hn : 0 ≤ n ∧ n ≤ 9223372036854775807 := by omega) (hk : 1 ≤ k ∧ k ≤ 1000 := by omega) : Ret Tryz.prog 123 [.int .i64 n, .int .i64 k] w fun u w' => ∃ d, u = .tuple #[d, .bool (decide (sft n k.toNat = 0))] ∧ Own w' 2 w.heap.size d (pun n k.toNat) ∧ Ext w w' := by
  have E : Since 0 0 w w := Since.refl 0 0 w
  refine ret_enter Tryz.func123 rfl Tryz.ntmps123 rfl ?_
  focus
    refine c_seq ?_
    refine c_region ?_
    refine w_pure (y_assign rfl) rfl ?_
    refine w_pure (y_assign rfl) rfl ?_
    refine w_nil ?_
    refine x_next ?_
    refine c_seq ?_
    refine c_region ?_
    refine w_pure (y_move rfl) rfl ?_
    refine w_make (α := Int) rfl rfl (k := fun v10 w10 ho10 hx10 hl10 hh10 hs10 => ?_)
    have hl_ho10 := ho10.lt
    have hz_hx10 := hx10.size
    replace E := E.trans hx10
    refine w_pure (y_assign rfl) rfl ?_
    refine w_nil ?_
    refine x_next ?_
    refine c_seq ?_
    refine c_region ?_
    refine w_pure (y_move rfl) rfl ?_
    refine w_pure (y_assign rfl) rfl ?_
    refine w_nil ?_
    refine x_next ?_
    refine c_seq ?_
    refine c_seq ?_
    refine c_region ?_
    refine w_pure (y_move rfl) rfl ?_
    refine w_pure (y_lt rfl rfl) rfl ?_
    refine w_nil ?_
    refine x_next ?_
    (refine c_dec rfl (fun hc13 => ?_) (fun hc13 => ?_) <;> try (first | exact absurd rfl hc13 | contradiction | exact Bool.noConfusion (show false = true from hc13.symm.trans (by assumption)) | exact Bool.noConfusion (show true = false from hc13.symm.trans (by assumption)) | (exfalso; omega) | (exfalso; simp only [*, Bool.not_true, Bool.not_false, reduceCtorEq] at hc13; done)))
    refine c_skip ?_
    refine x_next ?_
    refine c_seq ?_
    refine c_seq ?_
    refine c_region ?_
    refine w_pure (y_move rfl) rfl ?_
    refine w_pure (y_sub rfl rfl) rfl ?_
    refine w_pure (y_assign rfl) rfl ?_
    refine w_nil ?_
    refine x_next ?_
    refine c_block ?_
    rotate_left
  refine c_loopC (bL v10) (bH v10) (ι := Int × Int × List Int) (fun x => [(0, .int .i64 n), (1, .int .i64 k), (6, v10), (7, .int .i64 x.1), (8, .int .i64 x.2.1)])
    (fun x w' => Own w' 2 w.heap.size v10 (List.replicate (x.2.1 + 1).toNat 0 ++ x.2.2) ∧ -1 ≤ x.2.1 ∧ x.2.1 ≤ k - 1 ∧ 0 ≤ x.1 ∧ x.1 ≤ n ∧ pun x.1 (x.2.1 + 1).toNat ++ x.2.2 = pun n k.toNat ∧ sft x.1 (x.2.1 + 1).toNat = sft n k.toNat) (fun x => (x.2.1 + 1).toNat) (n, k - 1, [])
    (by repeat (first | exact trivial | refine ⟨rfl, ?_⟩)) ⟨by dsimp only; rw [List.append_nil, show k - 1 + 1 = k by omega]; exact Own.base (by assumption) (by omega), by dsimp only; omega, by dsimp only; omega, by dsimp only; omega, by dsimp only; omega, by dsimp only; rw [List.append_nil, show k - 1 + 1 = k by omega], by dsimp only; rw [show k - 1 + 1 = k by omega]⟩ ?_
  clear ho10
  rintro ⟨x, j, R⟩ wL hxL EL ⟨g1, hj0, hj1, hx0, hx1, hp, hs⟩
  dsimp only at *
  by_cases hj : 0 ≤ j
  · have ej : (j + 1).toNat = j.toNat + 1 := by omega
    have hrl : (List.replicate (j + 1).toNat (0 : Int) ++ R).length = j.toNat + 1 + R.length := by rw [List.length_append, List.length_replicate, ej]
    focus
      have hl_g1 := g1.lt
      have hz_hxL := hxL.size
      replace E := E.next hxL (by omega)
      refine c_seq ?_
      refine c_seq ?_
      refine c_region ?_
      refine w_pure (y_move rfl) rfl ?_
      refine w_pure (y_ge rfl rfl) rfl ?_
      refine w_nil ?_
      refine x_next ?_
      (refine c_dec rfl (fun hc19 => ?_) (fun hc19 => ?_) <;> try (first | exact absurd rfl hc19 | contradiction | exact Bool.noConfusion (show false = true from hc19.symm.trans (by assumption)) | exact Bool.noConfusion (show true = false from hc19.symm.trans (by assumption)) | (exfalso; omega) | (exfalso; simp only [*, Bool.not_true, Bool.not_false, reduceCtorEq] at hc19; done)))
      refine c_skip ?_
      refine x_next ?_
      refine c_seq ?_
      refine c_block ?_
      refine c_seq ?_
      refine c_region ?_
      refine w_pure (y_move rfl) rfl ?_
      refine w_pure (y_move rfl) rfl ?_
      refine w_pure (y_move rfl) rfl ?_
      refine w_pure (y_rem rfl rfl) rfl ?_
      refine w_pur rfl rfl rfl (l02Bit_c _) rfl ?_
      refine w_pure (y_index rfl rfl) rfl ?_
      refine w_store_own rfl rfl (next := fun ws21 hos21 hxs21 hss21 => ?_)
      (replace g1 := hos21; clear hos21)
      have hz_hxs21 := hxs21.size
      replace EL := EL.trans hxs21
      replace E := E.next hxs21 (by omega)
      refine w_nil ?_
      refine x_next ?_
      refine c_region ?_
      refine w_pure (y_move rfl) rfl ?_
      refine w_pure (y_quo rfl rfl) rfl ?_
      refine w_pure (y_assign rfl) rfl ?_
      refine w_nil ?_
      refine x_block_norm ?_
      refine x_next ?_
      refine c_region ?_
      refine w_pure (y_move rfl) rfl ?_
      refine w_pure (y_sub rfl rfl) rfl ?_
      refine w_pure (y_assign rfl) rfl ?_
      refine w_nil ?_
      rotate_left
    refine x_again (x / 10, j - 1, [bitI (x % 10)] ++ R) (by repeat (first | exact trivial | refine ⟨rfl, ?_⟩)) ⟨EL.go, ?_, by dsimp only; omega, by dsimp only; omega, by dsimp only; omega, by dsimp only; omega, ?_, ?_⟩ (by dsimp only; omega)
    · dsimp only
      rw [show (j - 1 + 1).toNat = j.toNat by omega, ← rep_set, ← ej]
      assumption
    · dsimp only
      rw [← hp, ej, pun, show (j - 1 + 1).toNat = j.toNat by omega, List.append_assoc]
    · dsimp only
      rw [← hs, ej, sft, show (j - 1 + 1).toNat = j.toNat by omega]
  · focus
      have hl_g1 := g1.lt
      have hz_hxL := hxL.size
      replace E := E.next hxL (by omega)
      refine c_seq ?_
      refine c_seq ?_
      refine c_region ?_
      refine w_pure (y_move rfl) rfl ?_
      refine w_pure (y_ge rfl rfl) rfl ?_
      refine w_nil ?_
      refine x_next ?_
      (refine c_dec rfl (fun hc19 => ?_) (fun hc19 => ?_) <;> try (first | exact absurd rfl hc19 | contradiction | exact Bool.noConfusion (show false = true from hc19.symm.trans (by assumption)) | exact Bool.noConfusion (show true = false from hc19.symm.trans (by assumption)) | (exfalso; omega) | (exfalso; simp only [*, Bool.not_true, Bool.not_false, reduceCtorEq] at hc19; done)))
      refine c_exit ?_
      refine x_then_exit ?_
      refine x_then_exit ?_
      refine x_block_hit ?_
      refine x_next ?_
      refine c_seq ?_
      refine c_seq ?_
      refine c_region ?_
      refine w_pure (y_move rfl) rfl ?_
      refine w_pure (y_lt rfl rfl) rfl ?_
      refine w_nil ?_
      refine x_next ?_
      (refine c_dec rfl (fun hc31 => ?_) (fun hc31 => ?_) <;> try (first | exact absurd rfl hc31 | contradiction | exact Bool.noConfusion (show false = true from hc31.symm.trans (by assumption)) | exact Bool.noConfusion (show true = false from hc31.symm.trans (by assumption)) | (exfalso; omega) | (exfalso; simp only [*, Bool.not_true, Bool.not_false, reduceCtorEq] at hc31; done)))
      refine c_skip ?_
      refine x_next ?_
      refine c_seq ?_
      refine c_region ?_
      refine w_pure (y_move rfl) rfl ?_
      refine w_pure (y_move rfl) rfl ?_
      refine w_pure (y_eq rfl rfl) rfl ?_
      refine w_pure (y_assign rfl) rfl ?_
      refine w_pure (y_assign rfl) rfl ?_
      refine w_nil ?_
      refine x_next ?_
      refine c_ret ?_
      rotate_left
    rw [show (j + 1).toNat = 0 by omega] at g1 hp hs
    refine x_retv [_, _] rfl ⟨rfl, rfl, trivial⟩ ⟨_, by rw [← hs]; rfl, ?_, E.go⟩
    rw [← hp]; exact g1
theorem l03Put_n (n k : Int) (hn : -1000000000000 ≤ n ∧ n < 0 := by omega) (hk : 1 ≤ k ∧ k ≤ 1000 := by omega) : Ret Tryz.prog 123 [.int .i64 n, .int .i64 k] w fun u w' => ∃ d, u = .tuple #[d, .bool (decide (sft (-n) k.toNat = 0))] ∧ Own w' 2 w.heap.size d (punN n k) ∧ Ext w w' := by
  have E : Since 0 0 w w := Since.refl 0 0 w
  refine ret_enter Tryz.func123 rfl Tryz.ntmps123 rfl ?_
  focus
    refine c_seq ?_
    refine c_region ?_
    refine w_pure (y_assign rfl) rfl ?_
    refine w_pure (y_assign rfl) rfl ?_
    refine w_nil ?_
    refine x_next ?_
    refine c_seq ?_
    refine c_region ?_
    refine w_pure (y_move rfl) rfl ?_
    refine w_make (α := Int) rfl rfl (k := fun v10 w10 ho10 hx10 hl10 hh10 hs10 => ?_)
    have hl_ho10 := ho10.lt
    have hz_hx10 := hx10.size
    replace E := E.trans hx10
    refine w_pure (y_assign rfl) rfl ?_
    refine w_nil ?_
    refine x_next ?_
    refine c_seq ?_
    refine c_region ?_
    refine w_pure (y_move rfl) rfl ?_
    refine w_pure (y_assign rfl) rfl ?_
    refine w_nil ?_
    refine x_next ?_
    refine c_seq ?_
    refine c_seq ?_
    refine c_region ?_
    refine w_pure (y_move rfl) rfl ?_
    refine w_pure (y_lt rfl rfl) rfl ?_
    refine w_nil ?_
    refine x_next ?_
    (refine c_dec rfl (fun hc13 => ?_) (fun hc13 => ?_) <;> try (first | exact absurd rfl hc13 | contradiction | exact Bool.noConfusion (show false = true from hc13.symm.trans (by assumption)) | exact Bool.noConfusion (show true = false from hc13.symm.trans (by assumption)) | (exfalso; omega) | (exfalso; simp only [*, Bool.not_true, Bool.not_false, reduceCtorEq] at hc13; done)))
    refine c_region ?_
    refine w_pure (y_move rfl) rfl ?_
    refine w_pure (y_neg rfl) rfl ?_
    refine w_pure (y_assign rfl) rfl ?_
    refine w_nil ?_
    refine x_next ?_
    refine c_seq ?_
    refine c_seq ?_
    refine c_region ?_
    refine w_pure (y_move rfl) rfl ?_
    refine w_pure (y_sub rfl rfl) rfl ?_
    refine w_pure (y_assign rfl) rfl ?_
    refine w_nil ?_
    refine x_next ?_
    refine c_block ?_
    rotate_left
  refine c_loopC (bL v10) (bH v10) (ι := Int × Int × List Int) (fun x => [(0, .int .i64 n), (1, .int .i64 k), (6, v10), (7, .int .i64 x.1), (8, .int .i64 x.2.1)])
    (fun x w' => Own w' 2 w.heap.size v10 (List.replicate (x.2.1 + 1).toNat 0 ++ x.2.2) ∧ -1 ≤ x.2.1 ∧ x.2.1 ≤ k - 1 ∧ 0 ≤ x.1 ∧ x.1 ≤ -n ∧ pun x.1 (x.2.1 + 1).toNat ++ x.2.2 = pun (-n) k.toNat ∧ sft x.1 (x.2.1 + 1).toNat = sft (-n) k.toNat) (fun x => (x.2.1 + 1).toNat) (-n, k - 1, [])
    (by repeat (first | exact trivial | refine ⟨rfl, ?_⟩)) ⟨by dsimp only; rw [List.append_nil, show k - 1 + 1 = k by omega]; exact Own.base (by assumption) (by omega), by dsimp only; omega, by dsimp only; omega, by dsimp only; omega, by dsimp only; omega, by dsimp only; rw [List.append_nil, show k - 1 + 1 = k by omega], by dsimp only; rw [show k - 1 + 1 = k by omega]⟩ ?_
  clear ho10
  rintro ⟨x, j, R⟩ wL hxL EL ⟨g1, hj0, hj1, hx0, hx1, hp, hs⟩
  dsimp only at *
  by_cases hj : 0 ≤ j
  · have ej : (j + 1).toNat = j.toNat + 1 := by omega
    have hrl : (List.replicate (j + 1).toNat (0 : Int) ++ R).length = j.toNat + 1 + R.length := by rw [List.length_append, List.length_replicate, ej]
    focus
      have hl_g1 := g1.lt
      have hz_hxL := hxL.size
      replace E := E.next hxL (by omega)
      refine c_seq ?_
      refine c_seq ?_
      refine c_region ?_
      refine w_pure (y_move rfl) rfl ?_
      refine w_pure (y_ge rfl rfl) rfl ?_
      refine w_nil ?_
      refine x_next ?_
      (refine c_dec rfl (fun hc19 => ?_) (fun hc19 => ?_) <;> try (first | exact absurd rfl hc19 | contradiction | exact Bool.noConfusion (show false = true from hc19.symm.trans (by assumption)) | exact Bool.noConfusion (show true = false from hc19.symm.trans (by assumption)) | (exfalso; omega) | (exfalso; simp only [*, Bool.not_true, Bool.not_false, reduceCtorEq] at hc19; done)))
      refine c_skip ?_
      refine x_next ?_
      refine c_seq ?_
      refine c_block ?_
      refine c_seq ?_
      refine c_region ?_
      refine w_pure (y_move rfl) rfl ?_
      refine w_pure (y_move rfl) rfl ?_
      refine w_pure (y_move rfl) rfl ?_
      refine w_pure (y_rem rfl rfl) rfl ?_
      refine w_pur rfl rfl rfl (l02Bit_c _) rfl ?_
      refine w_pure (y_index rfl rfl) rfl ?_
      refine w_store_own rfl rfl (next := fun ws21 hos21 hxs21 hss21 => ?_)
      (replace g1 := hos21; clear hos21)
      have hz_hxs21 := hxs21.size
      replace EL := EL.trans hxs21
      replace E := E.next hxs21 (by omega)
      refine w_nil ?_
      refine x_next ?_
      refine c_region ?_
      refine w_pure (y_move rfl) rfl ?_
      refine w_pure (y_quo rfl rfl) rfl ?_
      refine w_pure (y_assign rfl) rfl ?_
      refine w_nil ?_
      refine x_block_norm ?_
      refine x_next ?_
      refine c_region ?_
      refine w_pure (y_move rfl) rfl ?_
      refine w_pure (y_sub rfl rfl) rfl ?_
      refine w_pure (y_assign rfl) rfl ?_
      refine w_nil ?_
      rotate_left
    refine x_again (x / 10, j - 1, [bitI (x % 10)] ++ R) (by repeat (first | exact trivial | refine ⟨rfl, ?_⟩)) ⟨EL.go, ?_, by dsimp only; omega, by dsimp only; omega, by dsimp only; omega, by dsimp only; omega, ?_, ?_⟩ (by dsimp only; omega)
    · dsimp only
      rw [show (j - 1 + 1).toNat = j.toNat by omega, ← rep_set, ← ej]
      assumption
    · dsimp only
      rw [← hp, ej, pun, show (j - 1 + 1).toNat = j.toNat by omega, List.append_assoc]
    · dsimp only
      rw [← hs, ej, sft, show (j - 1 + 1).toNat = j.toNat by omega]
  · rw [show (j + 1).toNat = 0 by omega] at g1 hp hs
    rw [show pun x 0 ++ R = R from rfl] at hp
    rw [show List.replicate 0 (0 : Int) ++ R = R from rfl, hp] at g1
    have hpl := pun_len k.toNat (-n)
    have hbd : 0 ≤ (pun (-n) k.toNat).getD (k - 1).toNat 0 ∧ (pun (-n) k.toNat).getD (k - 1).toNat 0 ≤ 4095 := by
      rw [List.getD_eq_getElem?_getD, List.getElem?_eq_getElem (by omega)]
      exact pun_rg _ _ _ (List.getElem_mem _)
    focus
      have hl_g1 := g1.lt
      have hz_hxL := hxL.size
      replace E := E.next hxL (by omega)
      refine c_seq ?_
      refine c_seq ?_
      refine c_region ?_
      refine w_pure (y_move rfl) rfl ?_
      refine w_pure (y_ge rfl rfl) rfl ?_
      refine w_nil ?_
      refine x_next ?_
      (refine c_dec rfl (fun hc19 => ?_) (fun hc19 => ?_) <;> try (first | exact absurd rfl hc19 | contradiction | exact Bool.noConfusion (show false = true from hc19.symm.trans (by assumption)) | exact Bool.noConfusion (show true = false from hc19.symm.trans (by assumption)) | (exfalso; omega) | (exfalso; simp only [*, Bool.not_true, Bool.not_false, reduceCtorEq] at hc19; done)))
      refine c_exit ?_
      refine x_then_exit ?_
      refine x_then_exit ?_
      refine x_block_hit ?_
      refine x_next ?_
      refine c_seq ?_
      refine c_seq ?_
      refine c_region ?_
      refine w_pure (y_move rfl) rfl ?_
      refine w_pure (y_lt rfl rfl) rfl ?_
      refine w_nil ?_
      refine x_next ?_
      (refine c_dec rfl (fun hc31 => ?_) (fun hc31 => ?_) <;> try (first | exact absurd rfl hc31 | contradiction | exact Bool.noConfusion (show false = true from hc31.symm.trans (by assumption)) | exact Bool.noConfusion (show true = false from hc31.symm.trans (by assumption)) | (exfalso; omega) | (exfalso; simp only [*, Bool.not_true, Bool.not_false, reduceCtorEq] at hc31; done)))
      refine c_region ?_
      refine w_pure (y_move rfl) rfl ?_
      refine w_pure (y_move rfl) rfl ?_
      refine w_pure (y_sub rfl rfl) rfl ?_
      refine w_pure (y_index rfl rfl) rfl ?_
      refine w_pure (y_load_int rfl) rfl ?_
      refine w_pure (y_or rfl rfl) rfl ?_
      refine w_pure (y_index rfl rfl) rfl ?_
      refine w_store_own rfl rfl (next := fun ws30 hos30 hxs30 hss30 => ?_)
      (replace g1 := hos30; clear hos30)
      have hz_hxs30 := hxs30.size
      replace EL := EL.trans hxs30
      replace E := E.next hxs30 (by omega)
      refine w_nil ?_
      refine x_next ?_
      refine c_seq ?_
      refine c_region ?_
      refine w_pure (y_move rfl) rfl ?_
      refine w_pure (y_move rfl) rfl ?_
      refine w_pure (y_eq rfl rfl) rfl ?_
      refine w_pure (y_assign rfl) rfl ?_
      refine w_pure (y_assign rfl) rfl ?_
      refine w_nil ?_
      refine x_next ?_
      refine c_ret ?_
      rotate_left
    exact x_retv [_, _] rfl ⟨rfl, rfl, trivial⟩ ⟨_, by rw [← hs]; rfl, g1, E.go⟩
end
end Go.Proofs.YtihnhelkfiaimaaGreatDoor

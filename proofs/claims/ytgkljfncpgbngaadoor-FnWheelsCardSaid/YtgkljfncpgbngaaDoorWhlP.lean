/- The plain laws of counters: adding leads back what was taken away, a set counter shows its number, a text is read back. -/
import Derived.Test.YtgkljfncpgbngaaDoorCntG
import Derived.Test.YtgkljfncpgbngaaDoorCntJ
import Derived.Test.YtgkljfncpgbngaaDoorSetC
import Derived.Test.YtgkljfncpgbngaaDoorBalP
namespace Go.Proofs.YtgkljfncpgbngaaDoor
open Go Go.Gw
set_option linter.unusedVariables false
set_option linter.unusedSimpArgs false
/-- a fact that the walk is not to look at -/
structure Hid (p : Prop) : Prop where
  go : p
theorem valD_inj : ∀ {xs ys : List Int}, xs.length = ys.length → Digs xs → Digs ys → valD xs = valD ys → xs = ys
  | [], [], _, _, _, _ => rfl
  | [], _ :: _, h, _, _, _ => by simp at h
  | _ :: _, [], h, _, _, _ => by simp at h
  | x :: xs, y :: ys, hl, hx, hy, h => by
    have h1 := hx x (by simp)
    have h2 := hy y (by simp)
    rw [valD, valD] at h
    have e : x = y := by omega
    have e2 := valD_inj (xs := xs) (ys := ys) (by simpa using hl) (fun d hd => hx d (by simp [hd])) (fun d hd => hy d (by simp [hd])) (by omega)
    rw [e, e2]
theorem valD_digs : ∀ (k : Nat) (n : Int), 0 ≤ n → n < 10 ^ k → valD (digs k n) = n
  | 0, n, h0, h1 => by simp at h1; simp [digs, valD]; omega
  | k + 1, n, h0, h1 => by
    rw [digs, valD, valD_digs k (n / 10) (by omega) (by rw [Int.pow_succ] at h1; omega)]
    omega
theorem digs_digs : ∀ (k : Nat) (n : Int), Digs (digs k n)
  | 0, n => fun d hd => by simp [digs] at hd
  | k + 1, n => fun d hd => by
    rw [digs, List.mem_cons] at hd
    rcases hd with rfl | hd
    · omega
    · exact digs_digs k _ d hd
theorem set_law {k n : Int} (h : cSet k n = 0) : okC (resSet k n) = true ∧ valD (resSet k n) = n := by
  have e : resSet k n = digs k.toNat n := by rw [resSet, if_pos h]
  have h1 : (1 ≤ k ∧ k ≤ 12) ∧ 0 ≤ n := by
    by_cases h1 : (1 ≤ k ∧ k ≤ 12) ∧ 0 ≤ n
    · exact h1
    · rw [cSet_2 h1] at h; omega
  have h2 : n < 10 ^ k.toNat := by
    by_cases h2 : n < 10 ^ k.toNat
    · exact h2
    · rw [cSet_5 h1 h2] at h; omega
  rw [e]
  exact ⟨okC_of (digs_digs _ _) (by rw [digs_len]; omega) (by rw [digs_len]; omega), valD_digs _ _ h1.2 h2⟩
/-- what a number that is added makes of a counter -/
theorem add_law {xs : List Int} {n : Int} (h : codeN xs n = 0) :
    okC xs = true ∧ okC (resAdd xs n) = true ∧ valD (resAdd xs n) = (valD xs + n).tmod (10 ^ xs.length) ∧ topAdd xs n = decide (10 ^ xs.length ≤ valD xs + n) ∧ (0 ≤ carAdd xs n ∧ carAdd xs n ≤ xs.length) ∧ (0 ≤ valD xs + n ∧ valD xs + n ≤ 2000000000000) := by
  have h1 := codeN_ok h
  have hl := okC_len h1.1
  have hd : Digs xs := okC_dig h1.1
  have hv := valD_bd hd
  have hP := pow10_12 (k := xs.length) hl.2
  have a1 := addS_all hd h1.2.1 (by omega)
  have a2 := addS_bd hd n xs.length
  have a3 := addS_len xs n xs.length
  have e1 : resAdd xs n = (addS xs n xs.length).1 := by rw [resAdd, if_pos h]
  have e2 : carAdd xs n = (addS xs n xs.length).2.1 := by rw [carAdd, if_pos h]
  have e3 : topAdd xs n = decide ((addS xs n xs.length).2.2 = 1) := by rw [topAdd]; congr 1; simp [h]
  rw [e1, e2, e3]
  have hc : (addS xs n xs.length).2.2 = 0 ∨ (addS xs n xs.length).2.2 = 1 := by omega
  refine ⟨h1.1, okC_of a2.2.2.2.2 (by omega) (by omega), ?_, ?_, by omega, by omega⟩
  · rw [Int.tmod_eq_emod_of_nonneg (by omega)]
    rcases hc with g | g
    · rw [g, Int.zero_mul] at a1
      rw [Int.emod_eq_of_lt (by omega) (by omega)]; omega
    · rw [g, Int.one_mul] at a1
      rw [← Int.sub_emod_right, Int.emod_eq_of_lt (by omega) (by omega)]; omega
  · rcases hc with g | g
    · rw [g, Int.zero_mul] at a1
      rw [g, decide_eq_false (by omega), decide_eq_false (by omega)]
    · rw [g, Int.one_mul] at a1
      rw [g, decide_eq_true (by omega), decide_eq_true (by omega)]
/-- a number that was taken away, with a carry left, leads back when it is added -/
theorem take_law {xs : List Int} {n : Int} (h : codeN xs n = 0) (ht : topTake xs n = true) : codeN (resTake xs n) n = 0 ∧ resAdd (resTake xs n) n = xs := by
  have h1 := codeN_ok h
  have hl := okC_len h1.1
  have hd : Digs xs := okC_dig h1.1
  have hv := valD_bd hd
  have hc : (takeP xs n).2.2 = 1 := by
    rw [topTake, decide_eq_true_eq] at ht; exact ht.2
  have er : resTake xs n = (addS (takeP xs n).1 1 (takeP xs n).1.length).1 := by rw [resTake, if_pos h, takeD, if_pos hc]
  have hpl := takeP_len xs n
  unfold takeP at hc hpl er
  have a1 := addS_all hd (m := 10 ^ xs.length - 1 - n) (by omega) (by omega)
  have a2 := addS_bd hd (10 ^ xs.length - 1 - n) xs.length
  rw [hc, Int.one_mul] at a1
  have hd2 := a2.2.2.2.2
  generalize (addS xs (10 ^ xs.length - 1 - n) xs.length).1 = es at *
  have ep : (10 : Int) ^ es.length = 10 ^ xs.length := by rw [hpl]
  have b1 := addS_all (ds := es) hd2 (m := 1) (by omega) (by omega)
  have b2 := addS_bd hd2 1 es.length
  have b3 := addS_len es 1 es.length
  rw [ep] at b1
  have g : (addS es 1 es.length).2.2 = 0 := by
    rcases (show (addS es 1 es.length).2.2 = 0 ∨ (addS es 1 es.length).2.2 = 1 by omega) with g | g
    · exact g
    · rw [g, Int.one_mul] at b1; omega
  rw [g, Int.zero_mul] at b1
  rw [← er] at b1 b2 b3
  generalize resTake xs n = rs at *
  have k1 : okC rs = true := okC_of b2.2.2.2.2 (by omega) (by omega)
  have kl : rs.length = xs.length := by omega
  have kp : (10 : Int) ^ rs.length = 10 ^ xs.length := by rw [kl]
  have k2 : codeN rs n = 0 := by rw [codeN, if_pos k1, if_pos ⟨h1.2.1, by rw [kp]; exact h1.2.2.1⟩]
  refine ⟨k2, ?_⟩
  have c := add_law k2
  have c2 : valD rs + n = valD xs := by omega
  rw [c2, kp, Int.tmod_eq_emod_of_nonneg (by omega), Int.emod_eq_of_lt (by omega) (by omega)] at c
  have e5 : resAdd rs n = (addS rs n rs.length).1 := by rw [resAdd, if_pos k2]
  exact valD_inj (by rw [e5, addS_len, kl]) (okC_dig c.2.1) hd c.2.2.1
theorem rdg_ctext {xs : List Int} (h : Digs xs) : rdg (ctext xs) = xs := by
  unfold rdg ctext
  rw [← List.map_reverse, List.reverse_reverse, List.map_map]
  conv => rhs; rw [← List.map_id xs]
  refine List.map_congr_left fun d hd => ?_
  have := h d hd
  simp only [Function.comp, id]
  rw [show (UInt8.ofNat (48 + d).toNat).toNat = (48 + d).toNat % 256 from rfl]
  omega
/-- the text of a counter, and what is read from it -/
def txtC (xs : List Int) : List UInt8 := if okC xs then ctext xs else []
theorem txt_law (xs : List Int) : okC (rdg (txtC xs)) = okC xs ∧ (okC xs = true → rdg (txtC xs) = xs) ∧ (okC xs = decide (txtC xs ≠ [])) ∧ (txtC xs).length ≤ 12 := by
  cases h : okC xs
  · have e : txtC xs = [] := by rw [txtC, if_neg (by rw [h]; decide)]
    rw [e]
    exact ⟨by rfl, fun h2 => Bool.noConfusion h2, by rfl, by decide⟩
  · have e : txtC xs = ctext xs := by rw [txtC, if_pos h]
    have hl := okC_len h
    have el : (ctext xs).length = xs.length := by simp [ctext]
    rw [e, rdg_ctext (okC_dig h)]
    refine ⟨h, fun _ => rfl, ?_, by omega⟩
    have : ctext xs ≠ [] := fun q => by rw [q] at el; simp at el; omega
    simp [this]
theorem txt_f {xs : List Int} (h : okC xs = false) : txtC xs = [] := by rw [txtC, if_neg (by rw [h]; decide)]
theorem txt_t {xs : List Int} (h : okC xs = true) : ∃ c r, txtC xs = c :: r := by
  cases e : txtC xs with
  | nil => have := (txt_law xs).2.2.1; rw [h, e] at this; simp at this
  | cons c r => exact ⟨c, r, rfl⟩
attribute [irreducible] txtC
end Go.Proofs.YtgkljfncpgbngaaDoor

/- Contracts: calculations. -/
import Derived.Test.YtgkljfncpgbngaaDoorNumD
namespace Go.Proofs.YtgkljfncpgbngaaDoor
open Go Go.Gw
set_option linter.unusedVariables false
set_option linter.unusedSimpArgs false
def isNum (a : Int) : Prop := -999999999999 ≤ a ∧ a ≤ 999999999999
instance (a : Int) : Decidable (isNum a) := by unfold isNum; infer_instance
def addR (a b n : Int) : Int × Int × Int := if isNum a ∧ isNum b then (if isNum n then (n, 2, 0) else (0, 0, 5)) else (0, 0, 2)
def calcR (k a b : Int) : Int × Int × Int :=
  if k = 3 then (orZ (cPrd a b) (a * b), orZ (cPrd a b) (cyc b), cPrd a b)
  else if k = 4 then (orZ (cQuo a b) (a.tdiv b), orZ (cQuo a b) (turnQ (a.tdiv b)), cQuo a b)
  else if k = 1 then addR a b (a + b)
  else if k = 2 then addR a b (a - b)
  else (0, 0, 2)
theorem orZ_no {c x : Int} (h : ¬ c = 0) : orZ c x = 0 := by rw [orZ, if_neg h]
theorem orZ_yes {c x : Int} (h : c = 0) : orZ c x = x := by rw [orZ, if_pos h]
theorem cPrd_in {a b : Int} (h : cPrd a b = 0) : -999998000001 ≤ a * b ∧ a * b ≤ 999998000001 := by
  by_cases hk : (-999999 ≤ a ∧ a ≤ 999999) ∧ -999999 ≤ b ∧ b ≤ 999999
  · exact prod_in hk
  · rw [cPrd_2 hk] at h; omega
theorem cQuo_in {a b : Int} (h : cQuo a b = 0) : -999999999999 ≤ a.tdiv b ∧ a.tdiv b ≤ 999999999999 := by
  by_cases hk : (-999999999999 ≤ a ∧ a ≤ 999999999999) ∧ -999999 ≤ b ∧ b ≤ 999999
  · by_cases hk2 : b = 0
    · rw [cQuo_6 hk hk2] at h; omega
    · exact tdiv_bd hk.1 hk2
  · rw [cQuo_2 hk] at h; omega
theorem addR_2 {a b n : Int} (h : ¬ (isNum a ∧ isNum b)) : addR a b n = (0, 0, 2) := by rw [addR, if_neg h]
theorem addR_5 {a b n : Int} (h : isNum a ∧ isNum b) (h2 : ¬ isNum n) : addR a b n = (0, 0, 5) := by rw [addR, if_pos h, if_neg h2]
theorem addR_0 {a b n : Int} (h : isNum a ∧ isNum b) (h2 : isNum n) : addR a b n = (n, 2, 0) := by rw [addR, if_pos h, if_pos h2]
section
variable {w : World} {lo hi B : Nat} {v : Value} {xs : List Int}
theorem iCalculate_c (k a b : Int) (hT : Tab B w := by assumption) : Val Tryd.prog 22 [.int .i64 k, .int .i64 a, .int .i64 b] w (.tuple #[.int .i64 (calcR k a b).1, .int .i64 (calcR k a b).2.1, .int .i64 (calcR k a b).2.2]) := by
  refine ⟨fun w1 hx1 => ?_⟩
  replace hT := hT.ext hx1
  have E : Since 0 0 w1 w1 := Since.refl 0 0 w1
  by_cases h3 : k = 3
  · subst h3
    have e : calcR 3 a b = (orZ (cPrd a b) (a * b), orZ (cPrd a b) (cyc b), cPrd a b) := rfl
    rw [e]
    have hin := cPrd_in (a := a) (b := b)
    by_cases hc : cPrd a b = 0
    · have hi := hin hc
      rw [hc, orZ_yes rfl, orZ_yes rfl]
      have hc' := iProductBy_c (w := w1) a b hT
      rw [hc, orZ_yes rfl, orZ_yes rfl] at hc'
      refine ret_enter Tryd.func22 rfl Tryd.ntmps22 rfl ?_
      focus
        have ht_hT := hT.top
        refine c_seq ?_
        refine c_region ?_
        refine w_pure (y_assign rfl) rfl ?_
        refine w_pure (y_assign rfl) rfl ?_
        refine w_pure (y_assign rfl) rfl ?_
        refine w_nil ?_
        refine x_next ?_
        refine c_seq ?_
        refine c_region ?_
        refine w_pure (y_assign rfl) rfl ?_
        refine w_pure (y_assign rfl) rfl ?_
        refine w_pure (y_assign rfl) rfl ?_
        refine w_nil ?_
        refine x_next ?_
        refine c_seq ?_
        refine c_seq ?_
        refine c_region ?_
        refine w_pure (y_move rfl) rfl ?_
        refine w_nil ?_
        refine x_next ?_
        refine c_block ?_
        refine c_seq ?_
        refine c_seq ?_
        refine c_region ?_
        refine w_pure (y_eq rfl rfl) rfl ?_
        refine w_pure (y_assign rfl) rfl ?_
        refine w_nil ?_
        refine x_next ?_
        refine c_false rfl ?_
        refine c_region ?_
        refine w_pure (y_eq rfl rfl) rfl ?_
        refine w_pure (y_assign rfl) rfl ?_
        refine w_nil ?_
        refine x_next ?_
        refine c_false rfl ?_
        refine c_seq ?_
        refine c_region ?_
        refine w_pure (y_eq rfl rfl) rfl ?_
        refine w_pure (y_assign rfl) rfl ?_
        refine w_nil ?_
        refine x_next ?_
        refine c_true rfl ?_
        refine c_region ?_
        refine w_pure (y_move rfl) rfl ?_
        refine w_pure (y_move rfl) rfl ?_
        refine w_val rfl rfl rfl (hc') rfl (fun w37 hx37 hz37 => ?_)
        have hz_hx37 := hx37.size
        replace hT := hT.ext hx37
        replace E := E.trans hx37
        refine w_pure (y_move rfl) rfl ?_
        refine w_pure (y_extract rfl rfl) rfl ?_
        refine w_pure (y_extract rfl rfl) rfl ?_
        refine w_pure (y_extract rfl rfl) rfl ?_
        refine w_pure (y_assign rfl) rfl ?_
        refine w_pure (y_assign rfl) rfl ?_
        refine w_pure (y_assign rfl) rfl ?_
        refine w_nil ?_
        refine x_block_norm ?_
        refine x_next ?_
        refine c_seq ?_
        refine c_block ?_
        refine c_seq ?_
        refine c_region ?_
        refine w_pure (y_move rfl) rfl ?_
        refine w_pure (y_ne rfl rfl) rfl ?_
        refine w_pure (y_assign rfl) rfl ?_
        refine w_nil ?_
        refine x_next ?_
        refine c_false rfl ?_
        refine c_seq ?_
        refine c_region ?_
        refine w_pure (y_move rfl) rfl ?_
        refine w_pur rfl rfl rfl (isNumber_c _) rfl ?_
        refine w_pure (y_not_dec rfl) rfl ?_
        refine w_pure (y_assign rfl) rfl ?_
        refine w_nil ?_
        refine x_next ?_
        (refine c_dec rfl (fun hc55 => ?_) (fun hc55 => ?_) <;> try (first | exact absurd rfl hc55 | contradiction | exact Bool.noConfusion (show false = true from hc55.symm.trans (by assumption)) | exact Bool.noConfusion (show true = false from hc55.symm.trans (by assumption)) | (exfalso; omega) | (exfalso; simp only [*, Bool.not_true, Bool.not_false, reduceCtorEq] at hc55; done)))
        refine c_skip ?_
        refine x_block_norm ?_
        refine x_next ?_
        refine c_seq ?_
        refine c_region ?_
        refine w_pure (y_move rfl) rfl ?_
        refine w_pure (y_move rfl) rfl ?_
        refine w_pure (y_assign rfl) rfl ?_
        refine w_pure (y_assign rfl) rfl ?_
        refine w_pure (y_assign rfl) rfl ?_
        refine w_nil ?_
        refine x_next ?_
        refine c_ret ?_
        rotate_left
      exact x_retv [_, _, _] rfl ⟨rfl, rfl, rfl, trivial⟩ ⟨rfl, E.go⟩
    · refine ret_enter Tryd.func22 rfl Tryd.ntmps22 rfl ?_
      focus
        have ht_hT := hT.top
        refine c_seq ?_
        refine c_region ?_
        refine w_pure (y_assign rfl) rfl ?_
        refine w_pure (y_assign rfl) rfl ?_
        refine w_pure (y_assign rfl) rfl ?_
        refine w_nil ?_
        refine x_next ?_
        refine c_seq ?_
        refine c_region ?_
        refine w_pure (y_assign rfl) rfl ?_
        refine w_pure (y_assign rfl) rfl ?_
        refine w_pure (y_assign rfl) rfl ?_
        refine w_nil ?_
        refine x_next ?_
        refine c_seq ?_
        refine c_seq ?_
        refine c_region ?_
        refine w_pure (y_move rfl) rfl ?_
        refine w_nil ?_
        refine x_next ?_
        refine c_block ?_
        refine c_seq ?_
        refine c_seq ?_
        refine c_region ?_
        refine w_pure (y_eq rfl rfl) rfl ?_
        refine w_pure (y_assign rfl) rfl ?_
        refine w_nil ?_
        refine x_next ?_
        refine c_false rfl ?_
        refine c_region ?_
        refine w_pure (y_eq rfl rfl) rfl ?_
        refine w_pure (y_assign rfl) rfl ?_
        refine w_nil ?_
        refine x_next ?_
        refine c_false rfl ?_
        refine c_seq ?_
        refine c_region ?_
        refine w_pure (y_eq rfl rfl) rfl ?_
        refine w_pure (y_assign rfl) rfl ?_
        refine w_nil ?_
        refine x_next ?_
        refine c_true rfl ?_
        refine c_region ?_
        refine w_pure (y_move rfl) rfl ?_
        refine w_pure (y_move rfl) rfl ?_
        refine w_val rfl rfl rfl (iProductBy_c _ _) rfl (fun w37 hx37 hz37 => ?_)
        have hz_hx37 := hx37.size
        replace hT := hT.ext hx37
        replace E := E.trans hx37
        refine w_pure (y_move rfl) rfl ?_
        refine w_pure (y_extract rfl rfl) rfl ?_
        refine w_pure (y_extract rfl rfl) rfl ?_
        refine w_pure (y_extract rfl rfl) rfl ?_
        refine w_pure (y_assign rfl) rfl ?_
        refine w_pure (y_assign rfl) rfl ?_
        refine w_pure (y_assign rfl) rfl ?_
        refine w_nil ?_
        refine x_block_norm ?_
        refine x_next ?_
        refine c_seq ?_
        refine c_block ?_
        refine c_seq ?_
        refine c_region ?_
        refine w_pure (y_move rfl) rfl ?_
        refine w_pure (y_ne rfl rfl) rfl ?_
        refine w_pure (y_assign rfl) rfl ?_
        refine w_nil ?_
        refine x_next ?_
        (refine c_dec rfl (fun hc51 => ?_) (fun hc51 => ?_) <;> try (first | exact absurd rfl hc51 | contradiction | exact Bool.noConfusion (show false = true from hc51.symm.trans (by assumption)) | exact Bool.noConfusion (show true = false from hc51.symm.trans (by assumption)) | (exfalso; omega) | (exfalso; simp only [*, Bool.not_true, Bool.not_false, reduceCtorEq] at hc51; done)))
        refine c_seq ?_
        refine c_region ?_
        refine w_pure (y_move rfl) rfl ?_
        refine w_pure (y_assign rfl) rfl ?_
        refine w_pure (y_assign rfl) rfl ?_
        refine w_pure (y_assign rfl) rfl ?_
        refine w_nil ?_
        refine x_next ?_
        refine c_ret ?_
        refine x_block_ret ?_
        refine x_then_ret ?_
        rotate_left
      exact x_retv [_, _, _] rfl ⟨rfl, rfl, rfl, trivial⟩ ⟨by rw [orZ_no hc, orZ_no hc]; rfl, E.go⟩
  by_cases h4 : k = 4
  · subst h4
    have e : calcR 4 a b = (orZ (cQuo a b) (a.tdiv b), orZ (cQuo a b) (turnQ (a.tdiv b)), cQuo a b) := rfl
    rw [e]
    have hin := cQuo_in (a := a) (b := b)
    by_cases hc : cQuo a b = 0
    · have hi := hin hc
      rw [hc, orZ_yes rfl, orZ_yes rfl]
      have hc' := iQuotientBy_c (w := w1) a b hT
      rw [hc, orZ_yes rfl, orZ_yes rfl, orZ_yes rfl] at hc'
      refine ret_enter Tryd.func22 rfl Tryd.ntmps22 rfl ?_
      focus
        have ht_hT := hT.top
        refine c_seq ?_
        refine c_region ?_
        refine w_pure (y_assign rfl) rfl ?_
        refine w_pure (y_assign rfl) rfl ?_
        refine w_pure (y_assign rfl) rfl ?_
        refine w_nil ?_
        refine x_next ?_
        refine c_seq ?_
        refine c_region ?_
        refine w_pure (y_assign rfl) rfl ?_
        refine w_pure (y_assign rfl) rfl ?_
        refine w_pure (y_assign rfl) rfl ?_
        refine w_nil ?_
        refine x_next ?_
        refine c_seq ?_
        refine c_seq ?_
        refine c_region ?_
        refine w_pure (y_move rfl) rfl ?_
        refine w_nil ?_
        refine x_next ?_
        refine c_block ?_
        refine c_seq ?_
        refine c_seq ?_
        refine c_region ?_
        refine w_pure (y_eq rfl rfl) rfl ?_
        refine w_pure (y_assign rfl) rfl ?_
        refine w_nil ?_
        refine x_next ?_
        refine c_false rfl ?_
        refine c_region ?_
        refine w_pure (y_eq rfl rfl) rfl ?_
        refine w_pure (y_assign rfl) rfl ?_
        refine w_nil ?_
        refine x_next ?_
        refine c_false rfl ?_
        refine c_seq ?_
        refine c_region ?_
        refine w_pure (y_eq rfl rfl) rfl ?_
        refine w_pure (y_assign rfl) rfl ?_
        refine w_nil ?_
        refine x_next ?_
        refine c_false rfl ?_
        refine c_seq ?_
        refine c_region ?_
        refine w_pure (y_eq rfl rfl) rfl ?_
        refine w_pure (y_assign rfl) rfl ?_
        refine w_nil ?_
        refine x_next ?_
        refine c_true rfl ?_
        refine c_region ?_
        refine w_pure (y_move rfl) rfl ?_
        refine w_pure (y_move rfl) rfl ?_
        refine w_val rfl rfl rfl (hc') rfl (fun w46 hx46 hz46 => ?_)
        have hz_hx46 := hx46.size
        replace hT := hT.ext hx46
        replace E := E.trans hx46
        refine w_pure (y_move rfl) rfl ?_
        refine w_pure (y_extract rfl rfl) rfl ?_
        refine w_pure (y_extract rfl rfl) rfl ?_
        refine w_pure (y_extract rfl rfl) rfl ?_
        refine w_pure (y_extract rfl rfl) rfl ?_
        refine w_pure (y_assign rfl) rfl ?_
        refine w_pure (y_assign rfl) rfl ?_
        refine w_pure (y_assign rfl) rfl ?_
        refine w_nil ?_
        refine x_block_norm ?_
        refine x_next ?_
        refine c_seq ?_
        refine c_block ?_
        refine c_seq ?_
        refine c_region ?_
        refine w_pure (y_move rfl) rfl ?_
        refine w_pure (y_ne rfl rfl) rfl ?_
        refine w_pure (y_assign rfl) rfl ?_
        refine w_nil ?_
        refine x_next ?_
        refine c_false rfl ?_
        refine c_seq ?_
        refine c_region ?_
        refine w_pure (y_move rfl) rfl ?_
        refine w_pur rfl rfl rfl (isNumber_c _) rfl ?_
        refine w_pure (y_not_dec rfl) rfl ?_
        refine w_pure (y_assign rfl) rfl ?_
        refine w_nil ?_
        refine x_next ?_
        (refine c_dec rfl (fun hc55 => ?_) (fun hc55 => ?_) <;> try (first | exact absurd rfl hc55 | contradiction | exact Bool.noConfusion (show false = true from hc55.symm.trans (by assumption)) | exact Bool.noConfusion (show true = false from hc55.symm.trans (by assumption)) | (exfalso; omega) | (exfalso; simp only [*, Bool.not_true, Bool.not_false, reduceCtorEq] at hc55; done)))
        refine c_skip ?_
        refine x_block_norm ?_
        refine x_next ?_
        refine c_seq ?_
        refine c_region ?_
        refine w_pure (y_move rfl) rfl ?_
        refine w_pure (y_move rfl) rfl ?_
        refine w_pure (y_assign rfl) rfl ?_
        refine w_pure (y_assign rfl) rfl ?_
        refine w_pure (y_assign rfl) rfl ?_
        refine w_nil ?_
        refine x_next ?_
        refine c_ret ?_
        rotate_left
      exact x_retv [_, _, _] rfl ⟨rfl, rfl, rfl, trivial⟩ ⟨rfl, E.go⟩
    · refine ret_enter Tryd.func22 rfl Tryd.ntmps22 rfl ?_
      focus
        have ht_hT := hT.top
        refine c_seq ?_
        refine c_region ?_
        refine w_pure (y_assign rfl) rfl ?_
        refine w_pure (y_assign rfl) rfl ?_
        refine w_pure (y_assign rfl) rfl ?_
        refine w_nil ?_
        refine x_next ?_
        refine c_seq ?_
        refine c_region ?_
        refine w_pure (y_assign rfl) rfl ?_
        refine w_pure (y_assign rfl) rfl ?_
        refine w_pure (y_assign rfl) rfl ?_
        refine w_nil ?_
        refine x_next ?_
        refine c_seq ?_
        refine c_seq ?_
        refine c_region ?_
        refine w_pure (y_move rfl) rfl ?_
        refine w_nil ?_
        refine x_next ?_
        refine c_block ?_
        refine c_seq ?_
        refine c_seq ?_
        refine c_region ?_
        refine w_pure (y_eq rfl rfl) rfl ?_
        refine w_pure (y_assign rfl) rfl ?_
        refine w_nil ?_
        refine x_next ?_
        refine c_false rfl ?_
        refine c_region ?_
        refine w_pure (y_eq rfl rfl) rfl ?_
        refine w_pure (y_assign rfl) rfl ?_
        refine w_nil ?_
        refine x_next ?_
        refine c_false rfl ?_
        refine c_seq ?_
        refine c_region ?_
        refine w_pure (y_eq rfl rfl) rfl ?_
        refine w_pure (y_assign rfl) rfl ?_
        refine w_nil ?_
        refine x_next ?_
        refine c_false rfl ?_
        refine c_seq ?_
        refine c_region ?_
        refine w_pure (y_eq rfl rfl) rfl ?_
        refine w_pure (y_assign rfl) rfl ?_
        refine w_nil ?_
        refine x_next ?_
        refine c_true rfl ?_
        refine c_region ?_
        refine w_pure (y_move rfl) rfl ?_
        refine w_pure (y_move rfl) rfl ?_
        refine w_val rfl rfl rfl (iQuotientBy_c _ _) rfl (fun w46 hx46 hz46 => ?_)
        have hz_hx46 := hx46.size
        replace hT := hT.ext hx46
        replace E := E.trans hx46
        refine w_pure (y_move rfl) rfl ?_
        refine w_pure (y_extract rfl rfl) rfl ?_
        refine w_pure (y_extract rfl rfl) rfl ?_
        refine w_pure (y_extract rfl rfl) rfl ?_
        refine w_pure (y_extract rfl rfl) rfl ?_
        refine w_pure (y_assign rfl) rfl ?_
        refine w_pure (y_assign rfl) rfl ?_
        refine w_pure (y_assign rfl) rfl ?_
        refine w_nil ?_
        refine x_block_norm ?_
        refine x_next ?_
        refine c_seq ?_
        refine c_block ?_
        refine c_seq ?_
        refine c_region ?_
        refine w_pure (y_move rfl) rfl ?_
        refine w_pure (y_ne rfl rfl) rfl ?_
        refine w_pure (y_assign rfl) rfl ?_
        refine w_nil ?_
        refine x_next ?_
        (refine c_dec rfl (fun hc51 => ?_) (fun hc51 => ?_) <;> try (first | exact absurd rfl hc51 | contradiction | exact Bool.noConfusion (show false = true from hc51.symm.trans (by assumption)) | exact Bool.noConfusion (show true = false from hc51.symm.trans (by assumption)) | (exfalso; omega) | (exfalso; simp only [*, Bool.not_true, Bool.not_false, reduceCtorEq] at hc51; done)))
        refine c_seq ?_
        refine c_region ?_
        refine w_pure (y_move rfl) rfl ?_
        refine w_pure (y_assign rfl) rfl ?_
        refine w_pure (y_assign rfl) rfl ?_
        refine w_pure (y_assign rfl) rfl ?_
        refine w_nil ?_
        refine x_next ?_
        refine c_ret ?_
        refine x_block_ret ?_
        refine x_then_ret ?_
        rotate_left
      exact x_retv [_, _, _] rfl ⟨rfl, rfl, rfl, trivial⟩ ⟨by rw [orZ_no hc, orZ_no hc]; rfl, E.go⟩
  by_cases h1 : k = 1
  · subst h1
    have e : calcR 1 a b = addR a b (a + b) := rfl
    rw [e]
    refine ret_enter Tryd.func22 rfl Tryd.ntmps22 rfl ?_
    focus
      have ht_hT := hT.top
      refine c_seq ?_
      refine c_region ?_
      refine w_pure (y_assign rfl) rfl ?_
      refine w_pure (y_assign rfl) rfl ?_
      refine w_pure (y_assign rfl) rfl ?_
      refine w_nil ?_
      refine x_next ?_
      refine c_seq ?_
      refine c_region ?_
      refine w_pure (y_assign rfl) rfl ?_
      refine w_pure (y_assign rfl) rfl ?_
      refine w_pure (y_assign rfl) rfl ?_
      refine w_nil ?_
      refine x_next ?_
      refine c_seq ?_
      refine c_seq ?_
      refine c_region ?_
      refine w_pure (y_move rfl) rfl ?_
      refine w_nil ?_
      refine x_next ?_
      refine c_block ?_
      refine c_seq ?_
      refine c_seq ?_
      refine c_region ?_
      refine w_pure (y_eq rfl rfl) rfl ?_
      refine w_pure (y_assign rfl) rfl ?_
      refine w_nil ?_
      refine x_next ?_
      refine c_true rfl ?_
      refine c_skip ?_
      refine x_next ?_
      refine c_true rfl ?_
      refine c_seq ?_
      refine c_seq ?_
      refine c_region ?_
      refine w_pure (y_move rfl) rfl ?_
      refine w_pur rfl rfl rfl (isNumber_c _) rfl ?_
      refine w_pure (y_not_dec rfl) rfl ?_
      refine w_pure (y_move rfl) rfl ?_
      (refine w_part_dec rfl rfl (fun hc20 => ?_) (fun hc20 => ?_) <;> try (first | exact absurd rfl hc20 | contradiction | exact Bool.noConfusion (show false = true from hc20.symm.trans (by assumption)) | exact Bool.noConfusion (show true = false from hc20.symm.trans (by assumption)) | (exfalso; omega) | (exfalso; simp only [*, Bool.not_true, Bool.not_false, reduceCtorEq] at hc20; done)))
      refine w_no rfl rfl rfl rfl ?_
      refine w_no rfl rfl rfl rfl ?_
      refine w_no rfl rfl rfl rfl ?_
      refine w_pure (y_pick_t rfl rfl) rfl ?_
      refine w_nil ?_
      refine x_next ?_
      refine c_true rfl ?_
      refine c_seq ?_
      refine c_region ?_
      refine w_pure (y_assign rfl) rfl ?_
      refine w_pure (y_assign rfl) rfl ?_
      refine w_pure (y_assign rfl) rfl ?_
      refine w_nil ?_
      refine x_next ?_
      refine c_ret ?_
      refine x_then_ret ?_
      refine x_block_ret ?_
      refine x_then_ret ?_
      rotate_left
      refine w_yes rfl rfl ?_
      refine w_pure (y_move rfl) rfl ?_
      refine w_yes rfl rfl ?_
      refine w_pur rfl rfl rfl (isNumber_c _) rfl ?_
      refine w_yes rfl rfl ?_
      refine w_pure (y_not_dec rfl) rfl ?_
      refine w_pure (y_pick_f rfl rfl) rfl ?_
      refine w_nil ?_
      refine x_next ?_
      (refine c_dec rfl (fun hc23 => ?_) (fun hc23 => ?_) <;> try (first | exact absurd rfl hc23 | contradiction | exact Bool.noConfusion (show false = true from hc23.symm.trans (by assumption)) | exact Bool.noConfusion (show true = false from hc23.symm.trans (by assumption)) | (exfalso; omega) | (exfalso; simp only [*, Bool.not_true, Bool.not_false, reduceCtorEq] at hc23; done)))
      refine c_seq ?_
      refine c_region ?_
      refine w_pure (y_assign rfl) rfl ?_
      refine w_pure (y_assign rfl) rfl ?_
      refine w_pure (y_assign rfl) rfl ?_
      refine w_nil ?_
      refine x_next ?_
      refine c_ret ?_
      refine x_then_ret ?_
      refine x_block_ret ?_
      refine x_then_ret ?_
      rotate_left
      refine c_skip ?_
      refine x_next ?_
      refine c_seq ?_
      refine c_region ?_
      refine w_pure (y_move rfl) rfl ?_
      refine w_pure (y_move rfl) rfl ?_
      refine w_pure (y_add rfl rfl) rfl ?_
      refine w_pure (y_assign rfl) rfl ?_
      refine w_nil ?_
      refine x_next ?_
      refine c_seq ?_
      refine c_region ?_
      refine w_pure (y_move rfl) rfl ?_
      refine w_pure (y_eq rfl rfl) rfl ?_
      refine w_nil ?_
      refine x_next ?_
      refine c_false rfl ?_
      refine c_skip ?_
      refine x_block_norm ?_
      refine x_next ?_
      refine c_seq ?_
      refine c_block ?_
      refine c_seq ?_
      refine c_region ?_
      refine w_pure (y_move rfl) rfl ?_
      refine w_pure (y_ne rfl rfl) rfl ?_
      refine w_pure (y_assign rfl) rfl ?_
      refine w_nil ?_
      refine x_next ?_
      refine c_false rfl ?_
      refine c_seq ?_
      refine c_region ?_
      refine w_pure (y_move rfl) rfl ?_
      refine w_pur rfl rfl rfl (isNumber_c _) rfl ?_
      refine w_pure (y_not_dec rfl) rfl ?_
      refine w_pure (y_assign rfl) rfl ?_
      refine w_nil ?_
      refine x_next ?_
      (refine c_dec rfl (fun hc55 => ?_) (fun hc55 => ?_) <;> try (first | exact absurd rfl hc55 | contradiction | exact Bool.noConfusion (show false = true from hc55.symm.trans (by assumption)) | exact Bool.noConfusion (show true = false from hc55.symm.trans (by assumption)) | (exfalso; omega) | (exfalso; simp only [*, Bool.not_true, Bool.not_false, reduceCtorEq] at hc55; done)))
      refine c_seq ?_
      refine c_region ?_
      refine w_pure (y_assign rfl) rfl ?_
      refine w_pure (y_assign rfl) rfl ?_
      refine w_pure (y_assign rfl) rfl ?_
      refine w_nil ?_
      refine x_next ?_
      refine c_ret ?_
      refine x_block_ret ?_
      refine x_then_ret ?_
      rotate_left
      refine c_skip ?_
      refine x_block_norm ?_
      refine x_next ?_
      refine c_seq ?_
      refine c_region ?_
      refine w_pure (y_move rfl) rfl ?_
      refine w_pure (y_move rfl) rfl ?_
      refine w_pure (y_assign rfl) rfl ?_
      refine w_pure (y_assign rfl) rfl ?_
      refine w_pure (y_assign rfl) rfl ?_
      refine w_nil ?_
      refine x_next ?_
      refine c_ret ?_
      rotate_left
    · exact x_retv [_, _, _] rfl ⟨rfl, rfl, rfl, trivial⟩ ⟨by rw [addR_2 (fun hh => hc20 hh.1)]; rfl, E.go⟩
    · exact x_retv [_, _, _] rfl ⟨rfl, rfl, rfl, trivial⟩ ⟨by rw [addR_2 (fun hh => hc23 hh.2)]; rfl, E.go⟩
    · exact x_retv [_, _, _] rfl ⟨rfl, rfl, rfl, trivial⟩ ⟨by rw [addR_5 ⟨Decidable.not_not.1 hc20, Decidable.not_not.1 hc23⟩ hc55]; rfl, E.go⟩
    · exact x_retv [_, _, _] rfl ⟨rfl, rfl, rfl, trivial⟩ ⟨by rw [addR_0 ⟨Decidable.not_not.1 hc20, Decidable.not_not.1 hc23⟩ (Decidable.not_not.1 hc55)]; rfl, E.go⟩
  by_cases h2 : k = 2
  · subst h2
    have e : calcR 2 a b = addR a b (a - b) := rfl
    rw [e]
    refine ret_enter Tryd.func22 rfl Tryd.ntmps22 rfl ?_
    focus
      have ht_hT := hT.top
      refine c_seq ?_
      refine c_region ?_
      refine w_pure (y_assign rfl) rfl ?_
      refine w_pure (y_assign rfl) rfl ?_
      refine w_pure (y_assign rfl) rfl ?_
      refine w_nil ?_
      refine x_next ?_
      refine c_seq ?_
      refine c_region ?_
      refine w_pure (y_assign rfl) rfl ?_
      refine w_pure (y_assign rfl) rfl ?_
      refine w_pure (y_assign rfl) rfl ?_
      refine w_nil ?_
      refine x_next ?_
      refine c_seq ?_
      refine c_seq ?_
      refine c_region ?_
      refine w_pure (y_move rfl) rfl ?_
      refine w_nil ?_
      refine x_next ?_
      refine c_block ?_
      refine c_seq ?_
      refine c_seq ?_
      refine c_region ?_
      refine w_pure (y_eq rfl rfl) rfl ?_
      refine w_pure (y_assign rfl) rfl ?_
      refine w_nil ?_
      refine x_next ?_
      refine c_false rfl ?_
      refine c_region ?_
      refine w_pure (y_eq rfl rfl) rfl ?_
      refine w_pure (y_assign rfl) rfl ?_
      refine w_nil ?_
      refine x_next ?_
      refine c_true rfl ?_
      refine c_seq ?_
      refine c_seq ?_
      refine c_region ?_
      refine w_pure (y_move rfl) rfl ?_
      refine w_pur rfl rfl rfl (isNumber_c _) rfl ?_
      refine w_pure (y_not_dec rfl) rfl ?_
      refine w_pure (y_move rfl) rfl ?_
      (refine w_part_dec rfl rfl (fun hc20 => ?_) (fun hc20 => ?_) <;> try (first | exact absurd rfl hc20 | contradiction | exact Bool.noConfusion (show false = true from hc20.symm.trans (by assumption)) | exact Bool.noConfusion (show true = false from hc20.symm.trans (by assumption)) | (exfalso; omega) | (exfalso; simp only [*, Bool.not_true, Bool.not_false, reduceCtorEq] at hc20; done)))
      refine w_no rfl rfl rfl rfl ?_
      refine w_no rfl rfl rfl rfl ?_
      refine w_no rfl rfl rfl rfl ?_
      refine w_pure (y_pick_t rfl rfl) rfl ?_
      refine w_nil ?_
      refine x_next ?_
      refine c_true rfl ?_
      refine c_seq ?_
      refine c_region ?_
      refine w_pure (y_assign rfl) rfl ?_
      refine w_pure (y_assign rfl) rfl ?_
      refine w_pure (y_assign rfl) rfl ?_
      refine w_nil ?_
      refine x_next ?_
      refine c_ret ?_
      refine x_then_ret ?_
      refine x_block_ret ?_
      refine x_then_ret ?_
      rotate_left
      refine w_yes rfl rfl ?_
      refine w_pure (y_move rfl) rfl ?_
      refine w_yes rfl rfl ?_
      refine w_pur rfl rfl rfl (isNumber_c _) rfl ?_
      refine w_yes rfl rfl ?_
      refine w_pure (y_not_dec rfl) rfl ?_
      refine w_pure (y_pick_f rfl rfl) rfl ?_
      refine w_nil ?_
      refine x_next ?_
      (refine c_dec rfl (fun hc23 => ?_) (fun hc23 => ?_) <;> try (first | exact absurd rfl hc23 | contradiction | exact Bool.noConfusion (show false = true from hc23.symm.trans (by assumption)) | exact Bool.noConfusion (show true = false from hc23.symm.trans (by assumption)) | (exfalso; omega) | (exfalso; simp only [*, Bool.not_true, Bool.not_false, reduceCtorEq] at hc23; done)))
      refine c_seq ?_
      refine c_region ?_
      refine w_pure (y_assign rfl) rfl ?_
      refine w_pure (y_assign rfl) rfl ?_
      refine w_pure (y_assign rfl) rfl ?_
      refine w_nil ?_
      refine x_next ?_
      refine c_ret ?_
      refine x_then_ret ?_
      refine x_block_ret ?_
      refine x_then_ret ?_
      rotate_left
      refine c_skip ?_
      refine x_next ?_
      refine c_seq ?_
      refine c_region ?_
      refine w_pure (y_move rfl) rfl ?_
      refine w_pure (y_move rfl) rfl ?_
      refine w_pure (y_add rfl rfl) rfl ?_
      refine w_pure (y_assign rfl) rfl ?_
      refine w_nil ?_
      refine x_next ?_
      refine c_seq ?_
      refine c_region ?_
      refine w_pure (y_move rfl) rfl ?_
      refine w_pure (y_eq rfl rfl) rfl ?_
      refine w_nil ?_
      refine x_next ?_
      refine c_true rfl ?_
      refine c_region ?_
      refine w_pure (y_move rfl) rfl ?_
      refine w_pure (y_move rfl) rfl ?_
      refine w_pure (y_sub rfl rfl) rfl ?_
      refine w_pure (y_assign rfl) rfl ?_
      refine w_nil ?_
      refine x_block_norm ?_
      refine x_next ?_
      refine c_seq ?_
      refine c_block ?_
      refine c_seq ?_
      refine c_region ?_
      refine w_pure (y_move rfl) rfl ?_
      refine w_pure (y_ne rfl rfl) rfl ?_
      refine w_pure (y_assign rfl) rfl ?_
      refine w_nil ?_
      refine x_next ?_
      refine c_false rfl ?_
      refine c_seq ?_
      refine c_region ?_
      refine w_pure (y_move rfl) rfl ?_
      refine w_pur rfl rfl rfl (isNumber_c _) rfl ?_
      refine w_pure (y_not_dec rfl) rfl ?_
      refine w_pure (y_assign rfl) rfl ?_
      refine w_nil ?_
      refine x_next ?_
      (refine c_dec rfl (fun hc55 => ?_) (fun hc55 => ?_) <;> try (first | exact absurd rfl hc55 | contradiction | exact Bool.noConfusion (show false = true from hc55.symm.trans (by assumption)) | exact Bool.noConfusion (show true = false from hc55.symm.trans (by assumption)) | (exfalso; omega) | (exfalso; simp only [*, Bool.not_true, Bool.not_false, reduceCtorEq] at hc55; done)))
      refine c_seq ?_
      refine c_region ?_
      refine w_pure (y_assign rfl) rfl ?_
      refine w_pure (y_assign rfl) rfl ?_
      refine w_pure (y_assign rfl) rfl ?_
      refine w_nil ?_
      refine x_next ?_
      refine c_ret ?_
      refine x_block_ret ?_
      refine x_then_ret ?_
      rotate_left
      refine c_skip ?_
      refine x_block_norm ?_
      refine x_next ?_
      refine c_seq ?_
      refine c_region ?_
      refine w_pure (y_move rfl) rfl ?_
      refine w_pure (y_move rfl) rfl ?_
      refine w_pure (y_assign rfl) rfl ?_
      refine w_pure (y_assign rfl) rfl ?_
      refine w_pure (y_assign rfl) rfl ?_
      refine w_nil ?_
      refine x_next ?_
      refine c_ret ?_
      rotate_left
    · exact x_retv [_, _, _] rfl ⟨rfl, rfl, rfl, trivial⟩ ⟨by rw [addR_2 (fun hh => hc20 hh.1)]; rfl, E.go⟩
    · exact x_retv [_, _, _] rfl ⟨rfl, rfl, rfl, trivial⟩ ⟨by rw [addR_2 (fun hh => hc23 hh.2)]; rfl, E.go⟩
    · exact x_retv [_, _, _] rfl ⟨rfl, rfl, rfl, trivial⟩ ⟨by rw [addR_5 ⟨Decidable.not_not.1 hc20, Decidable.not_not.1 hc23⟩ hc55]; rfl, E.go⟩
    · exact x_retv [_, _, _] rfl ⟨rfl, rfl, rfl, trivial⟩ ⟨by rw [addR_0 ⟨Decidable.not_not.1 hc20, Decidable.not_not.1 hc23⟩ (Decidable.not_not.1 hc55)]; rfl, E.go⟩
  · have e : calcR k a b = (0, 0, 2) := by rw [calcR, if_neg h3, if_neg h4, if_neg h1, if_neg h2]
    rw [e]
    refine ret_enter Tryd.func22 rfl Tryd.ntmps22 rfl ?_
    focus
      have ht_hT := hT.top
      refine c_seq ?_
      refine c_region ?_
      refine w_pure (y_assign rfl) rfl ?_
      refine w_pure (y_assign rfl) rfl ?_
      refine w_pure (y_assign rfl) rfl ?_
      refine w_nil ?_
      refine x_next ?_
      refine c_seq ?_
      refine c_region ?_
      refine w_pure (y_assign rfl) rfl ?_
      refine w_pure (y_assign rfl) rfl ?_
      refine w_pure (y_assign rfl) rfl ?_
      refine w_nil ?_
      refine x_next ?_
      refine c_seq ?_
      refine c_seq ?_
      refine c_region ?_
      refine w_pure (y_move rfl) rfl ?_
      refine w_nil ?_
      refine x_next ?_
      refine c_block ?_
      refine c_seq ?_
      refine c_seq ?_
      refine c_region ?_
      refine w_pure (y_eq rfl rfl) rfl ?_
      refine w_pure (y_assign rfl) rfl ?_
      refine w_nil ?_
      refine x_next ?_
      (refine c_dec rfl (fun hc13 => ?_) (fun hc13 => ?_) <;> try (first | exact absurd rfl hc13 | contradiction | exact Bool.noConfusion (show false = true from hc13.symm.trans (by assumption)) | exact Bool.noConfusion (show true = false from hc13.symm.trans (by assumption)) | (exfalso; omega) | (exfalso; simp only [*, Bool.not_true, Bool.not_false, reduceCtorEq] at hc13; done)))
      refine c_region ?_
      refine w_pure (y_eq rfl rfl) rfl ?_
      refine w_pure (y_assign rfl) rfl ?_
      refine w_nil ?_
      refine x_next ?_
      (refine c_dec rfl (fun hc13x7_35 => ?_) (fun hc13x7_35 => ?_) <;> try (first | exact absurd rfl hc13x7_35 | contradiction | exact Bool.noConfusion (show false = true from hc13x7_35.symm.trans (by assumption)) | exact Bool.noConfusion (show true = false from hc13x7_35.symm.trans (by assumption)) | (exfalso; omega) | (exfalso; simp only [*, Bool.not_true, Bool.not_false, reduceCtorEq] at hc13x7_35; done)))
      refine c_seq ?_
      refine c_region ?_
      refine w_pure (y_eq rfl rfl) rfl ?_
      refine w_pure (y_assign rfl) rfl ?_
      refine w_nil ?_
      refine x_next ?_
      (refine c_dec rfl (fun hc32 => ?_) (fun hc32 => ?_) <;> try (first | exact absurd rfl hc32 | contradiction | exact Bool.noConfusion (show false = true from hc32.symm.trans (by assumption)) | exact Bool.noConfusion (show true = false from hc32.symm.trans (by assumption)) | (exfalso; omega) | (exfalso; simp only [*, Bool.not_true, Bool.not_false, reduceCtorEq] at hc32; done)))
      refine c_seq ?_
      refine c_region ?_
      refine w_pure (y_eq rfl rfl) rfl ?_
      refine w_pure (y_assign rfl) rfl ?_
      refine w_nil ?_
      refine x_next ?_
      (refine c_dec rfl (fun hc41 => ?_) (fun hc41 => ?_) <;> try (first | exact absurd rfl hc41 | contradiction | exact Bool.noConfusion (show false = true from hc41.symm.trans (by assumption)) | exact Bool.noConfusion (show true = false from hc41.symm.trans (by assumption)) | (exfalso; omega) | (exfalso; simp only [*, Bool.not_true, Bool.not_false, reduceCtorEq] at hc41; done)))
      refine c_seq ?_
      refine c_region ?_
      refine w_pure (y_assign rfl) rfl ?_
      refine w_pure (y_assign rfl) rfl ?_
      refine w_pure (y_assign rfl) rfl ?_
      refine w_nil ?_
      refine x_next ?_
      refine c_ret ?_
      refine x_block_ret ?_
      refine x_then_ret ?_
      rotate_left
    exact x_retv [_, _, _] rfl ⟨rfl, rfl, rfl, trivial⟩ ⟨rfl, E.go⟩
theorem l14Do_c (k a b : Int) (hk : 1 ≤ k ∧ k ≤ 4 := by omega) : Pur Tryd.prog 76 [.int .i64 k, .int .i64 a, .int .i64 b] (.tuple #[.int .i64 (calcR k a b).1, .int .i64 (calcR k a b).2.1, .int .i64 (calcR k a b).2.2]) := by
  refine ⟨fun w1 => ?_⟩
  by_cases h3 : k = 3
  · subst h3
    refine ret_enter Tryd.func76 rfl Tryd.ntmps76 rfl ?_
    focus
      refine c_seq ?_
      refine c_region ?_
      refine w_pure (y_assign rfl) rfl ?_
      refine w_pure (y_assign rfl) rfl ?_
      refine w_pure (y_assign rfl) rfl ?_
      refine w_nil ?_
      refine x_next ?_
      refine c_seq ?_
      refine c_seq ?_
      refine c_region ?_
      refine w_pure (y_move rfl) rfl ?_
      refine w_nil ?_
      refine x_next ?_
      refine c_block ?_
      refine c_seq ?_
      refine c_region ?_
      refine w_pure (y_eq rfl rfl) rfl ?_
      refine w_pure (y_assign rfl) rfl ?_
      refine w_nil ?_
      refine x_next ?_
      refine c_true rfl ?_
      refine c_seq ?_
      refine c_region ?_
      refine w_pure (y_move rfl) rfl ?_
      refine w_pure (y_move rfl) rfl ?_
      refine w_pur rfl rfl rfl (sProductBy_c _ _) rfl ?_
      refine w_pure (y_extract rfl rfl) rfl ?_
      refine w_pure (y_extract rfl rfl) rfl ?_
      refine w_pure (y_extract rfl rfl) rfl ?_
      refine w_pure (y_assign rfl) rfl ?_
      refine w_pure (y_assign rfl) rfl ?_
      refine w_pure (y_assign rfl) rfl ?_
      refine w_nil ?_
      refine x_next ?_
      refine c_ret ?_
      refine x_block_ret ?_
      refine x_then_ret ?_
      rotate_left
    exact x_retv [_, _, _] rfl ⟨rfl, rfl, rfl, trivial⟩ ⟨rfl, rfl⟩
  by_cases h4 : k = 4
  · subst h4
    refine ret_enter Tryd.func76 rfl Tryd.ntmps76 rfl ?_
    focus
      refine c_seq ?_
      refine c_region ?_
      refine w_pure (y_assign rfl) rfl ?_
      refine w_pure (y_assign rfl) rfl ?_
      refine w_pure (y_assign rfl) rfl ?_
      refine w_nil ?_
      refine x_next ?_
      refine c_seq ?_
      refine c_seq ?_
      refine c_region ?_
      refine w_pure (y_move rfl) rfl ?_
      refine w_nil ?_
      refine x_next ?_
      refine c_block ?_
      refine c_seq ?_
      refine c_region ?_
      refine w_pure (y_eq rfl rfl) rfl ?_
      refine w_pure (y_assign rfl) rfl ?_
      refine w_nil ?_
      refine x_next ?_
      refine c_false rfl ?_
      refine c_seq ?_
      refine c_region ?_
      refine w_pure (y_eq rfl rfl) rfl ?_
      refine w_pure (y_assign rfl) rfl ?_
      refine w_nil ?_
      refine x_next ?_
      refine c_true rfl ?_
      refine c_seq ?_
      refine c_region ?_
      refine w_pure (y_move rfl) rfl ?_
      refine w_pure (y_move rfl) rfl ?_
      refine w_pur rfl rfl rfl (sQuotientBy_c _ _) rfl ?_
      refine w_pure (y_move rfl) rfl ?_
      refine w_pure (y_extract rfl rfl) rfl ?_
      refine w_pure (y_extract rfl rfl) rfl ?_
      refine w_pure (y_extract rfl rfl) rfl ?_
      refine w_pure (y_extract rfl rfl) rfl ?_
      refine w_pure (y_assign rfl) rfl ?_
      refine w_pure (y_assign rfl) rfl ?_
      refine w_pure (y_assign rfl) rfl ?_
      refine w_pure (y_assign rfl) rfl ?_
      refine w_nil ?_
      refine x_next ?_
      refine c_seq ?_
      refine c_region ?_
      refine w_pure (y_move rfl) rfl ?_
      refine w_pure (y_move rfl) rfl ?_
      refine w_pure (y_move rfl) rfl ?_
      refine w_pure (y_assign rfl) rfl ?_
      refine w_pure (y_assign rfl) rfl ?_
      refine w_pure (y_assign rfl) rfl ?_
      refine w_nil ?_
      refine x_next ?_
      refine c_ret ?_
      refine x_block_ret ?_
      refine x_then_ret ?_
      rotate_left
    exact x_retv [_, _, _] rfl ⟨rfl, rfl, rfl, trivial⟩ ⟨rfl, rfl⟩
  by_cases h1 : k = 1
  · subst h1
    have e : calcR 1 a b = addR a b (a + b) := rfl
    rw [e]
    refine ret_enter Tryd.func76 rfl Tryd.ntmps76 rfl ?_
    focus
      refine c_seq ?_
      refine c_region ?_
      refine w_pure (y_assign rfl) rfl ?_
      refine w_pure (y_assign rfl) rfl ?_
      refine w_pure (y_assign rfl) rfl ?_
      refine w_nil ?_
      refine x_next ?_
      refine c_seq ?_
      refine c_seq ?_
      refine c_region ?_
      refine w_pure (y_move rfl) rfl ?_
      refine w_nil ?_
      refine x_next ?_
      refine c_block ?_
      refine c_seq ?_
      refine c_region ?_
      refine w_pure (y_eq rfl rfl) rfl ?_
      refine w_pure (y_assign rfl) rfl ?_
      refine w_nil ?_
      refine x_next ?_
      refine c_false rfl ?_
      refine c_seq ?_
      refine c_region ?_
      refine w_pure (y_eq rfl rfl) rfl ?_
      refine w_pure (y_assign rfl) rfl ?_
      refine w_nil ?_
      refine x_next ?_
      refine c_false rfl ?_
      refine c_skip ?_
      refine x_block_norm ?_
      refine x_next ?_
      refine c_seq ?_
      refine c_seq ?_
      refine c_region ?_
      refine w_pure (y_move rfl) rfl ?_
      refine w_pur rfl rfl rfl (l14Number_c _) rfl ?_
      refine w_pure (y_not_dec rfl) rfl ?_
      refine w_pure (y_move rfl) rfl ?_
      (refine w_part_dec rfl rfl (fun hc40 => ?_) (fun hc40 => ?_) <;> try (first | exact absurd rfl hc40 | contradiction | exact Bool.noConfusion (show false = true from hc40.symm.trans (by assumption)) | exact Bool.noConfusion (show true = false from hc40.symm.trans (by assumption)) | (exfalso; omega) | (exfalso; simp only [*, Bool.not_true, Bool.not_false, reduceCtorEq] at hc40; done)))
      refine w_no rfl rfl rfl rfl ?_
      refine w_no rfl rfl rfl rfl ?_
      refine w_no rfl rfl rfl rfl ?_
      refine w_pure (y_pick_t rfl rfl) rfl ?_
      refine w_nil ?_
      refine x_next ?_
      refine c_true rfl ?_
      refine c_seq ?_
      refine c_region ?_
      refine w_pure (y_assign rfl) rfl ?_
      refine w_pure (y_assign rfl) rfl ?_
      refine w_pure (y_assign rfl) rfl ?_
      refine w_nil ?_
      refine x_next ?_
      refine c_ret ?_
      refine x_then_ret ?_
      rotate_left
      refine w_yes rfl rfl ?_
      refine w_pure (y_move rfl) rfl ?_
      refine w_yes rfl rfl ?_
      refine w_pur rfl rfl rfl (l14Number_c _) rfl ?_
      refine w_yes rfl rfl ?_
      refine w_pure (y_not_dec rfl) rfl ?_
      refine w_pure (y_pick_f rfl rfl) rfl ?_
      refine w_nil ?_
      refine x_next ?_
      (refine c_dec rfl (fun hc43 => ?_) (fun hc43 => ?_) <;> try (first | exact absurd rfl hc43 | contradiction | exact Bool.noConfusion (show false = true from hc43.symm.trans (by assumption)) | exact Bool.noConfusion (show true = false from hc43.symm.trans (by assumption)) | (exfalso; omega) | (exfalso; simp only [*, Bool.not_true, Bool.not_false, reduceCtorEq] at hc43; done)))
      refine c_seq ?_
      refine c_region ?_
      refine w_pure (y_assign rfl) rfl ?_
      refine w_pure (y_assign rfl) rfl ?_
      refine w_pure (y_assign rfl) rfl ?_
      refine w_nil ?_
      refine x_next ?_
      refine c_ret ?_
      refine x_then_ret ?_
      rotate_left
      refine c_skip ?_
      refine x_next ?_
      refine c_seq ?_
      refine c_region ?_
      refine w_pure (y_move rfl) rfl ?_
      refine w_pure (y_move rfl) rfl ?_
      refine w_pure (y_add rfl rfl) rfl ?_
      refine w_pure (y_assign rfl) rfl ?_
      refine w_nil ?_
      refine x_next ?_
      refine c_seq ?_
      refine c_seq ?_
      refine c_region ?_
      refine w_pure (y_move rfl) rfl ?_
      refine w_pure (y_eq rfl rfl) rfl ?_
      refine w_nil ?_
      refine x_next ?_
      refine c_false rfl ?_
      refine c_skip ?_
      refine x_next ?_
      refine c_seq ?_
      refine c_seq ?_
      refine c_region ?_
      refine w_pure (y_move rfl) rfl ?_
      refine w_pur rfl rfl rfl (l14Number_c _) rfl ?_
      refine w_pure (y_not_dec rfl) rfl ?_
      refine w_nil ?_
      refine x_next ?_
      (refine c_dec rfl (fun hc54 => ?_) (fun hc54 => ?_) <;> try (first | exact absurd rfl hc54 | contradiction | exact Bool.noConfusion (show false = true from hc54.symm.trans (by assumption)) | exact Bool.noConfusion (show true = false from hc54.symm.trans (by assumption)) | (exfalso; omega) | (exfalso; simp only [*, Bool.not_true, Bool.not_false, reduceCtorEq] at hc54; done)))
      refine c_seq ?_
      refine c_region ?_
      refine w_pure (y_assign rfl) rfl ?_
      refine w_pure (y_assign rfl) rfl ?_
      refine w_pure (y_assign rfl) rfl ?_
      refine w_nil ?_
      refine x_next ?_
      refine c_ret ?_
      refine x_then_ret ?_
      rotate_left
      refine c_skip ?_
      refine x_next ?_
      refine c_seq ?_
      refine c_region ?_
      refine w_pure (y_move rfl) rfl ?_
      refine w_pure (y_assign rfl) rfl ?_
      refine w_pure (y_assign rfl) rfl ?_
      refine w_pure (y_assign rfl) rfl ?_
      refine w_nil ?_
      refine x_next ?_
      refine c_ret ?_
      rotate_left
    · exact x_retv [_, _, _] rfl ⟨rfl, rfl, rfl, trivial⟩ ⟨by rw [addR_2 (fun hh => hc40 hh.1)]; rfl, rfl⟩
    · exact x_retv [_, _, _] rfl ⟨rfl, rfl, rfl, trivial⟩ ⟨by rw [addR_2 (fun hh => hc43 hh.2)]; rfl, rfl⟩
    · exact x_retv [_, _, _] rfl ⟨rfl, rfl, rfl, trivial⟩ ⟨by rw [addR_5 ⟨Decidable.not_not.1 hc40, Decidable.not_not.1 hc43⟩ hc54]; rfl, rfl⟩
    · exact x_retv [_, _, _] rfl ⟨rfl, rfl, rfl, trivial⟩ ⟨by rw [addR_0 ⟨Decidable.not_not.1 hc40, Decidable.not_not.1 hc43⟩ (Decidable.not_not.1 hc54)]; rfl, rfl⟩
  by_cases h2 : k = 2
  · subst h2
    have e : calcR 2 a b = addR a b (a - b) := rfl
    rw [e]
    refine ret_enter Tryd.func76 rfl Tryd.ntmps76 rfl ?_
    focus
      refine c_seq ?_
      refine c_region ?_
      refine w_pure (y_assign rfl) rfl ?_
      refine w_pure (y_assign rfl) rfl ?_
      refine w_pure (y_assign rfl) rfl ?_
      refine w_nil ?_
      refine x_next ?_
      refine c_seq ?_
      refine c_seq ?_
      refine c_region ?_
      refine w_pure (y_move rfl) rfl ?_
      refine w_nil ?_
      refine x_next ?_
      refine c_block ?_
      refine c_seq ?_
      refine c_region ?_
      refine w_pure (y_eq rfl rfl) rfl ?_
      refine w_pure (y_assign rfl) rfl ?_
      refine w_nil ?_
      refine x_next ?_
      refine c_false rfl ?_
      refine c_seq ?_
      refine c_region ?_
      refine w_pure (y_eq rfl rfl) rfl ?_
      refine w_pure (y_assign rfl) rfl ?_
      refine w_nil ?_
      refine x_next ?_
      refine c_false rfl ?_
      refine c_skip ?_
      refine x_block_norm ?_
      refine x_next ?_
      refine c_seq ?_
      refine c_seq ?_
      refine c_region ?_
      refine w_pure (y_move rfl) rfl ?_
      refine w_pur rfl rfl rfl (l14Number_c _) rfl ?_
      refine w_pure (y_not_dec rfl) rfl ?_
      refine w_pure (y_move rfl) rfl ?_
      (refine w_part_dec rfl rfl (fun hc40 => ?_) (fun hc40 => ?_) <;> try (first | exact absurd rfl hc40 | contradiction | exact Bool.noConfusion (show false = true from hc40.symm.trans (by assumption)) | exact Bool.noConfusion (show true = false from hc40.symm.trans (by assumption)) | (exfalso; omega) | (exfalso; simp only [*, Bool.not_true, Bool.not_false, reduceCtorEq] at hc40; done)))
      refine w_no rfl rfl rfl rfl ?_
      refine w_no rfl rfl rfl rfl ?_
      refine w_no rfl rfl rfl rfl ?_
      refine w_pure (y_pick_t rfl rfl) rfl ?_
      refine w_nil ?_
      refine x_next ?_
      refine c_true rfl ?_
      refine c_seq ?_
      refine c_region ?_
      refine w_pure (y_assign rfl) rfl ?_
      refine w_pure (y_assign rfl) rfl ?_
      refine w_pure (y_assign rfl) rfl ?_
      refine w_nil ?_
      refine x_next ?_
      refine c_ret ?_
      refine x_then_ret ?_
      rotate_left
      refine w_yes rfl rfl ?_
      refine w_pure (y_move rfl) rfl ?_
      refine w_yes rfl rfl ?_
      refine w_pur rfl rfl rfl (l14Number_c _) rfl ?_
      refine w_yes rfl rfl ?_
      refine w_pure (y_not_dec rfl) rfl ?_
      refine w_pure (y_pick_f rfl rfl) rfl ?_
      refine w_nil ?_
      refine x_next ?_
      (refine c_dec rfl (fun hc43 => ?_) (fun hc43 => ?_) <;> try (first | exact absurd rfl hc43 | contradiction | exact Bool.noConfusion (show false = true from hc43.symm.trans (by assumption)) | exact Bool.noConfusion (show true = false from hc43.symm.trans (by assumption)) | (exfalso; omega) | (exfalso; simp only [*, Bool.not_true, Bool.not_false, reduceCtorEq] at hc43; done)))
      refine c_seq ?_
      refine c_region ?_
      refine w_pure (y_assign rfl) rfl ?_
      refine w_pure (y_assign rfl) rfl ?_
      refine w_pure (y_assign rfl) rfl ?_
      refine w_nil ?_
      refine x_next ?_
      refine c_ret ?_
      refine x_then_ret ?_
      rotate_left
      refine c_skip ?_
      refine x_next ?_
      refine c_seq ?_
      refine c_region ?_
      refine w_pure (y_move rfl) rfl ?_
      refine w_pure (y_move rfl) rfl ?_
      refine w_pure (y_add rfl rfl) rfl ?_
      refine w_pure (y_assign rfl) rfl ?_
      refine w_nil ?_
      refine x_next ?_
      refine c_seq ?_
      refine c_seq ?_
      refine c_region ?_
      refine w_pure (y_move rfl) rfl ?_
      refine w_pure (y_eq rfl rfl) rfl ?_
      refine w_nil ?_
      refine x_next ?_
      refine c_true rfl ?_
      refine c_region ?_
      refine w_pure (y_move rfl) rfl ?_
      refine w_pure (y_move rfl) rfl ?_
      refine w_pure (y_sub rfl rfl) rfl ?_
      refine w_pure (y_assign rfl) rfl ?_
      refine w_nil ?_
      refine x_next ?_
      refine c_seq ?_
      refine c_seq ?_
      refine c_region ?_
      refine w_pure (y_move rfl) rfl ?_
      refine w_pur rfl rfl rfl (l14Number_c _) rfl ?_
      refine w_pure (y_not_dec rfl) rfl ?_
      refine w_nil ?_
      refine x_next ?_
      (refine c_dec rfl (fun hc54 => ?_) (fun hc54 => ?_) <;> try (first | exact absurd rfl hc54 | contradiction | exact Bool.noConfusion (show false = true from hc54.symm.trans (by assumption)) | exact Bool.noConfusion (show true = false from hc54.symm.trans (by assumption)) | (exfalso; omega) | (exfalso; simp only [*, Bool.not_true, Bool.not_false, reduceCtorEq] at hc54; done)))
      refine c_seq ?_
      refine c_region ?_
      refine w_pure (y_assign rfl) rfl ?_
      refine w_pure (y_assign rfl) rfl ?_
      refine w_pure (y_assign rfl) rfl ?_
      refine w_nil ?_
      refine x_next ?_
      refine c_ret ?_
      refine x_then_ret ?_
      rotate_left
      refine c_skip ?_
      refine x_next ?_
      refine c_seq ?_
      refine c_region ?_
      refine w_pure (y_move rfl) rfl ?_
      refine w_pure (y_assign rfl) rfl ?_
      refine w_pure (y_assign rfl) rfl ?_
      refine w_pure (y_assign rfl) rfl ?_
      refine w_nil ?_
      refine x_next ?_
      refine c_ret ?_
      rotate_left
    · exact x_retv [_, _, _] rfl ⟨rfl, rfl, rfl, trivial⟩ ⟨by rw [addR_2 (fun hh => hc40 hh.1)]; rfl, rfl⟩
    · exact x_retv [_, _, _] rfl ⟨rfl, rfl, rfl, trivial⟩ ⟨by rw [addR_2 (fun hh => hc43 hh.2)]; rfl, rfl⟩
    · exact x_retv [_, _, _] rfl ⟨rfl, rfl, rfl, trivial⟩ ⟨by rw [addR_5 ⟨Decidable.not_not.1 hc40, Decidable.not_not.1 hc43⟩ hc54]; rfl, rfl⟩
    · exact x_retv [_, _, _] rfl ⟨rfl, rfl, rfl, trivial⟩ ⟨by rw [addR_0 ⟨Decidable.not_not.1 hc40, Decidable.not_not.1 hc43⟩ (Decidable.not_not.1 hc54)]; rfl, rfl⟩
  · omega
theorem sCalculate_c (k a b : Int) : Pur Tryd.prog 23 [.int .i64 k, .int .i64 a, .int .i64 b] (.tuple #[.int .i64 (calcR k a b).1, .int .i64 (calcR k a b).2.1, .int .i64 (calcR k a b).2.2]) := by
  refine ⟨fun w1 => ?_⟩
  by_cases hk : 1 ≤ k ∧ k ≤ 4
  · refine ret_enter Tryd.func23 rfl Tryd.ntmps23 rfl ?_
    focus
      refine c_seq ?_
      refine c_region ?_
      refine w_pure (y_assign rfl) rfl ?_
      refine w_pure (y_assign rfl) rfl ?_
      refine w_pure (y_assign rfl) rfl ?_
      refine w_nil ?_
      refine x_next ?_
      refine c_seq ?_
      refine c_seq ?_
      refine c_region ?_
      refine w_pure (y_move rfl) rfl ?_
      refine w_pur rfl rfl rfl (l14Kind_c _) rfl ?_
      refine w_pure (y_not_dec rfl) rfl ?_
      refine w_nil ?_
      refine x_next ?_
      (refine c_dec rfl (fun hc11 => ?_) (fun hc11 => ?_) <;> try (first | exact absurd rfl hc11 | contradiction | exact Bool.noConfusion (show false = true from hc11.symm.trans (by assumption)) | exact Bool.noConfusion (show true = false from hc11.symm.trans (by assumption)) | (exfalso; omega) | (exfalso; simp only [*, Bool.not_true, Bool.not_false, reduceCtorEq] at hc11; done)))
      refine c_skip ?_
      refine x_next ?_
      refine c_seq ?_
      refine c_region ?_
      refine w_pure (y_move rfl) rfl ?_
      refine w_pure (y_move rfl) rfl ?_
      refine w_pure (y_move rfl) rfl ?_
      refine w_pur rfl rfl rfl (l14Do_c _ _ _) rfl ?_
      refine w_pure (y_extract rfl rfl) rfl ?_
      refine w_pure (y_extract rfl rfl) rfl ?_
      refine w_pure (y_extract rfl rfl) rfl ?_
      refine w_pure (y_assign rfl) rfl ?_
      refine w_pure (y_assign rfl) rfl ?_
      refine w_pure (y_assign rfl) rfl ?_
      refine w_nil ?_
      refine x_next ?_
      refine c_ret ?_
      rotate_left
    exact x_retv [_, _, _] rfl ⟨rfl, rfl, rfl, trivial⟩ ⟨rfl, rfl⟩
  · have e : calcR k a b = (0, 0, 2) := by rw [calcR, if_neg (by omega), if_neg (by omega), if_neg (by omega), if_neg (by omega)]
    rw [e]
    refine ret_enter Tryd.func23 rfl Tryd.ntmps23 rfl ?_
    focus
      refine c_seq ?_
      refine c_region ?_
      refine w_pure (y_assign rfl) rfl ?_
      refine w_pure (y_assign rfl) rfl ?_
      refine w_pure (y_assign rfl) rfl ?_
      refine w_nil ?_
      refine x_next ?_
      refine c_seq ?_
      refine c_seq ?_
      refine c_region ?_
      refine w_pure (y_move rfl) rfl ?_
      refine w_pur rfl rfl rfl (l14Kind_c _) rfl ?_
      refine w_pure (y_not_dec rfl) rfl ?_
      refine w_nil ?_
      refine x_next ?_
      (refine c_dec rfl (fun hc11 => ?_) (fun hc11 => ?_) <;> try (first | exact absurd rfl hc11 | contradiction | exact Bool.noConfusion (show false = true from hc11.symm.trans (by assumption)) | exact Bool.noConfusion (show true = false from hc11.symm.trans (by assumption)) | (exfalso; omega) | (exfalso; simp only [*, Bool.not_true, Bool.not_false, reduceCtorEq] at hc11; done)))
      refine c_seq ?_
      refine c_region ?_
      refine w_pure (y_assign rfl) rfl ?_
      refine w_pure (y_assign rfl) rfl ?_
      refine w_pure (y_assign rfl) rfl ?_
      refine w_nil ?_
      refine x_next ?_
      refine c_ret ?_
      refine x_then_ret ?_
      rotate_left
    exact x_retv [_, _, _] rfl ⟨rfl, rfl, rfl, trivial⟩ ⟨rfl, rfl⟩
end
end Go.Proofs.YtgkljfncpgbngaaDoor

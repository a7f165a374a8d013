/- Contracts: decks that are reproduced. -/
import Derived.Test.YtdkedajdgllilaaDoorCpyB
namespace Go.Proofs.YtdkedajdgllilaaDoor
open Go Go.Gw
set_option linter.unusedVariables false
set_option linter.unusedSimpArgs false
def cRep (xss : List (List Int)) (ps : List (Int × Int)) (k : Int) : Int := if okD xss = true then (if okCp ps (widD xss) k = true then 0 else 2) else 1
def repF (ps : List (Int × Int)) (k : Int) (xs : List Int) : List Int := copyF xs ps (List.replicate k.toNat 0) ps.length
def resRep (xss : List (List Int)) (ps : List (Int × Int)) (k : Int) : List (List Int) := if cRep xss ps k = 0 then xss.map (repF ps k) else []
theorem take_map_all {α β : Type} (g : α → β) {xs : List α} {i : Nat} (h : i = xs.length) : (xs.take i).map g = xs.map g := by rw [List.take_of_length_le (by omega)]
theorem cRep_1 {xss : List (List Int)} {ps : List (Int × Int)} {k : Int} (h : okD xss = false) : cRep xss ps k = 1 := by simp [cRep, h]
theorem cRep_2 {xss : List (List Int)} {ps : List (Int × Int)} {k : Int} (h : okD xss = true) (h2 : okCp ps (widD xss) k = false) : cRep xss ps k = 2 := by simp [cRep, h, h2]
theorem cRep_0 {xss : List (List Int)} {ps : List (Int × Int)} {k : Int} (h : okD xss = true) (h2 : okCp ps (widD xss) k = true) : cRep xss ps k = 0 := by simp [cRep, h, h2]
theorem totD_le {xss : List (List Int)} (m : Nat) (h : ∀ i, i < xss.length → (xss.getD i []).length ≤ m) : totD xss ≤ xss.length * m := by
  have : ∀ j, j ≤ xss.length → tot xss j ≤ j * m := by
    intro j
    induction j with
    | zero => intro _; simp [tot_zero]
    | succ j ih =>
      intro hj
      rw [tot_succ (by omega), Nat.succ_mul]
      have := ih (by omega)
      have := h j (by omega)
      omega
  exact this _ (Nat.le_refl _)
theorem map_getD {α β : Type} {d : α} {d' : β} (g : α → β) {xs : List α} {i : Nat} (h : i < xs.length) : (xs.map g).getD i d' = g (xs.getD i d) := by
  rw [List.getD_eq_getElem?_getD, List.getElem?_map, List.getElem?_eq_getElem h, List.getD_eq_getElem?_getD, List.getElem?_eq_getElem h]; rfl
theorem resRep_bd (xss : List (List Int)) (ps : List (Int × Int)) (k : Int) : totD (resRep xss ps k) ≤ 800 ∧ (resRep xss ps k).length ≤ 40 := by
  unfold resRep
  split
  · rename_i h
    cases hk : okD xss
    · rw [cRep_1 hk] at h; cases h
    cases hk2 : okCp ps (widD xss) k
    · rw [cRep_2 hk hk2] at h; cases h
    have hb := okCp_bd hk2
    have hb2 := okD_len hk
    have h1 := totD_le (xss := xss.map (repF ps k)) 20 (fun i hi => by
      simp only [List.length_map] at hi
      rw [map_getD (d := []) _ hi, repF, copyF_len]
      simp; omega)
    simp only [List.length_map] at h1 ⊢
    omega
  · simp [totD, tot]
section
variable {w : World} {lo hi lo' hi' l2 h2 e b b' o o' : Nat} {v v' v2 d : Value} {xs ys : List Int} {ps : List (Int × Int)} {xss : List (List Int)} {svs : List SV} {f t : Int}
end
end Go.Proofs.YtdkedajdgllilaaDoor

/- The plain law of copies that are turned round: sorted by their targets, they are one list. -/
import Derived.Test.YtihnhelkfiaimaaCpyA
namespace Go.Proofs.Ytihnhelkfiaimaa
open Go Go.Gw
set_option linter.unusedVariables false
set_option linter.unusedSimpArgs false
def swapP (p : Int × Int) : Int × Int := (p.2, p.1)
def Srt (ys : List (Int × Int)) : Prop := ys.Pairwise fun a b => a.2 < b.2
def cBck (ps : List (Int × Int)) : Int := if plainB ps = true then (if (ps.map Prod.fst).Nodup then 0 else 9) else 2
def resBck (ps : List (Int × Int)) : List (Int × Int) := if cBck ps = 0 then (ps.map swapP).mergeSort (fun a b => decide (a.2 ≤ b.2)) else []
theorem srt_nodup {ys : List (Int × Int)} (h : Srt ys) : (ys.map Prod.snd).Nodup := by
  unfold List.Nodup
  rw [List.pairwise_map]
  exact h.imp fun hab => by omega
theorem srt_of {ys : List (Int × Int)} (h : ys.Pairwise fun a b => a.2 ≤ b.2) (hn : (ys.map Prod.snd).Nodup) : Srt ys := by
  unfold List.Nodup at hn
  rw [List.pairwise_map] at hn
  exact (h.and hn).imp fun ⟨h1, h2⟩ => by omega
theorem swap_nodup {ps ys : List (Int × Int)} (h : ys.Perm (ps.map swapP)) : (ys.map Prod.snd).Nodup ↔ (ps.map Prod.fst).Nodup := by
  have h1 := (h.map Prod.snd).nodup_iff
  rw [List.map_map, show Prod.snd ∘ swapP = Prod.fst from rfl] at h1
  exact h1
theorem cBck_2 {ps : List (Int × Int)} (h : plainB ps = false) : cBck ps = 2 := by rw [cBck, if_neg (by rw [h]; decide)]
theorem cBck_9 {ps : List (Int × Int)} (h : plainB ps = true) (h2 : ¬ (ps.map Prod.fst).Nodup) : cBck ps = 9 := by rw [cBck, if_pos h, if_neg h2]
theorem bck_of {ps ys : List (Int × Int)} (hp : plainB ps = true) (hz : ys.Perm (ps.map swapP)) (hs : Srt ys) : cBck ps = 0 ∧ resBck ps = ys := by
  have h0 : cBck ps = 0 := by rw [cBck, if_pos hp, if_pos ((swap_nodup hz).1 (srt_nodup hs))]
  refine ⟨h0, ?_⟩
  rw [resBck, if_pos h0]
  have hm := List.mergeSort_perm (ps.map swapP) (fun a b => decide (a.2 ≤ b.2))
  have hq : ((ps.map swapP).mergeSort (fun a b => decide (a.2 ≤ b.2))).Pairwise fun a b => a.2 ≤ b.2 :=
    (List.pairwise_mergeSort (le := fun (a b : Int × Int) => decide (a.2 ≤ b.2)) (fun a b c h1 h2 => by simp only [decide_eq_true_eq] at *; omega) (fun a b => by simp only [Bool.or_eq_true, decide_eq_true_eq]; omega) (ps.map swapP)).imp fun h => by simpa using h
  have hms : Srt _ := srt_of hq ((swap_nodup hm).2 ((swap_nodup hz).1 (srt_nodup hs)))
  exact List.Perm.eq_of_pairwise (le := fun a b : Int × Int => a.2 < b.2) (fun a b _ _ h1 h2 => by omega) hms hs (hm.trans hz.symm)
theorem plain_srt {qs : List (Int × Int)} (h : plainB qs = true) : Srt qs := by
  have key : ∀ d i : Nat, i + d + 1 < qs.length → (qs.getD i (0, 0)).2 < (qs.getD (i + d + 1) (0, 0)).2 := by
    intro d
    induction d with
    | zero => intro i hi; have := (plainB_at h (i + 1) hi).2.2.2.2 (by omega); simpa using this
    | succ d ih =>
      intro i hi
      have h1 := ih i (by omega)
      have h2 := (plainB_at h (i + d + 1 + 1) (by omega)).2.2.2.2 (by omega)
      simp only [Nat.add_sub_cancel] at h2
      have e : i + (d + 1) + 1 = i + d + 1 + 1 := by omega
      rw [e]; omega
  refine List.pairwise_iff_getElem.2 fun i j hi hj hij => ?_
  have := key (j - i - 1) i (by omega)
  rw [show i + (j - i - 1) + 1 = j by omega] at this
  rw [List.getD_eq_getElem?_getD, List.getD_eq_getElem?_getD, List.getElem?_eq_getElem hi, List.getElem?_eq_getElem hj] at this
  exact this
theorem srt_plain {qs : List (Int × Int)} (hr : ∀ p ∈ qs, (0 ≤ p.1 ∧ p.1 ≤ 19) ∧ (0 ≤ p.2 ∧ p.2 ≤ 19)) (h : Srt qs) : plainB qs = true := plainB_yes fun i hi => by
  have h1 := hr (qs.getD i (0, 0)) (by rw [List.getD_eq_getElem?_getD, List.getElem?_eq_getElem hi]; exact List.getElem_mem hi)
  refine ⟨h1.1.1, h1.1.2, h1.2.1, h1.2.2, fun h0 => ?_⟩
  have h2 := List.pairwise_iff_getElem.1 h (i - 1) i (by omega) hi (by omega)
  rw [List.getD_eq_getElem?_getD, List.getD_eq_getElem?_getD, List.getElem?_eq_getElem hi, List.getElem?_eq_getElem (show i - 1 < qs.length by omega)]
  exact h2
theorem plain_rng {ps : List (Int × Int)} (h : plainB ps = true) : ∀ p ∈ ps, (0 ≤ p.1 ∧ p.1 ≤ 19) ∧ (0 ≤ p.2 ∧ p.2 ≤ 19) := fun p hp => by
  obtain ⟨i, hi, rfl⟩ := List.mem_iff_getElem.1 hp
  have := plainB_at h i hi
  unfold plainAt at this
  rw [List.getD_eq_getElem?_getD, List.getElem?_eq_getElem hi] at this
  exact ⟨⟨this.1, this.2.1⟩, this.2.2.1, this.2.2.2.1⟩
theorem swap_rng {ps ys : List (Int × Int)} (h : plainB ps = true) (hz : ys.Perm (ps.map swapP)) : ∀ p ∈ ys, (0 ≤ p.1 ∧ p.1 ≤ 19) ∧ (0 ≤ p.2 ∧ p.2 ≤ 19) := fun p hp => by
  obtain ⟨q, hq, rfl⟩ := List.mem_map.1 (hz.mem_iff.1 hp)
  have := plain_rng h q hq
  exact ⟨this.2, this.1⟩
/-- what the sorted slice tells: it is plain where no column is the source of two copies -/
theorem bck_sorted {ps qs : List (Int × Int)} (hp : plainB ps = true) (hz : qs.Perm (ps.map swapP)) (hs : qs.Pairwise fun a b => a.2 ≤ b.2) : (plainB qs = true → cBck ps = 0 ∧ resBck ps = qs) ∧ (plainB qs = false → cBck ps = 9) := by
  refine ⟨fun h => bck_of hp hz (plain_srt h), fun h => cBck_9 hp fun hn => ?_⟩
  have := srt_plain (swap_rng hp hz) (srt_of hs ((swap_nodup hz).2 hn))
  rw [h] at this; cases this
theorem resBck_len (ps : List (Int × Int)) : (resBck ps).length ≤ 20 := by
  unfold resBck
  split
  · rename_i h
    rw [List.length_mergeSort, List.length_map]
    unfold cBck at h
    split at h
    · rename_i h1; exact plainB_len h1
    · omega
  · simp
theorem resBck_no {ps : List (Int × Int)} (h : ¬ cBck ps = 0) : resBck ps = [] := by rw [resBck, if_neg h]
/-- the same, as a word that is not unfolded -/
def plB (ps : List (Int × Int)) : Bool := plainB ps
theorem plB_eq (ps : List (Int × Int)) : plB ps = plainB ps := rfl
attribute [irreducible] plB
section
variable {w : World} {lo hi : Nat} {v : Value} {ps : List (Int × Int)}
theorem isPlain_z (h : SL w lo hi v ps := by repeat (first | assumption | exact Go.Gw.Own.sl (by assumption) | exact Go.Gw.Box.at (by assumption) | exact Go.Gw.SLL.el (by first | assumption | exact Go.Gw.OwnD.sll (by assumption)) _ (by omega) | exact Go.Gw.SLL.at (by first | assumption | exact Go.Gw.OwnD.sll (by assumption)) (by omega) | exact Go.Gw.OwnD.sll (by assumption) | (apply Go.Gw.SL.chg; case hx => assumption) | (apply Go.Gw.Own.chg; case hx => assumption) | (apply Go.Gw.Box.chg; case hx => assumption) | (apply Go.Gw.At.chg; case hx => assumption) | exact .inl (Nat.zero_le _) | exact .inr (Nat.zero_le _) | (show _ ∨ _; omega))) : Val Try.prog 14 [v] w (.bool (plB ps)) := by rw [plB_eq]; exact isPlain_c
theorem l10Plain_z (h : SL w lo hi v ps := by repeat (first | assumption | exact Go.Gw.Own.sl (by assumption) | exact Go.Gw.Box.at (by assumption) | exact Go.Gw.SLL.el (by first | assumption | exact Go.Gw.OwnD.sll (by assumption)) _ (by omega) | exact Go.Gw.SLL.at (by first | assumption | exact Go.Gw.OwnD.sll (by assumption)) (by omega) | exact Go.Gw.OwnD.sll (by assumption) | (apply Go.Gw.SL.chg; case hx => assumption) | (apply Go.Gw.Own.chg; case hx => assumption) | (apply Go.Gw.Box.chg; case hx => assumption) | (apply Go.Gw.At.chg; case hx => assumption) | exact .inl (Nat.zero_le _) | exact .inr (Nat.zero_le _) | (show _ ∨ _; omega))) : Val Try.prog 11 [v] w (.bool (plB ps)) := by rw [plB_eq]; exact l10Plain_c
end
end Go.Proofs.Ytihnhelkfiaimaa

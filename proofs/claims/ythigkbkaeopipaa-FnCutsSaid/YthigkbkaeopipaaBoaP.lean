/- Plain laws of boards: joined hubs, spare wires, routed masks. -/
import Derived.Test.YthigkbkaeopipaaCutQ
import Derived.Test.YthigkbkaeopipaaBrdE
namespace Go.Proofs.Ythigkbkaeopipaa
open Go Go.Gw
set_option linter.unusedVariables false
set_option linter.unusedSimpArgs false
theorem hubsF_self {e n j k : Int} {ws : List (Int × Int)} (h : 0 ≤ k ∧ k < e + n + j) : k ∈ hubsF e n j ws k := (colsP_iff _ _ _).2 ⟨⟨h.1, by omega⟩, by simp⟩
theorem hubsF_pos {e n j k : Int} {ws : List (Int × Int)} (h : 0 ≤ k ∧ k < e + n + j) : 0 < (hubsF e n j ws k).length := List.length_pos_of_mem (hubsF_self h)
theorem hubsF_get {e n j k : Int} {ws : List (Int × Int)} (he : 0 ≤ e + n + j) {i : Nat} (hi : i < (hubsF e n j ws k).length) :
    0 ≤ (hubsF e n j ws k).getD i 0 ∧ (hubsF e n j ws k).getD i 0 < e + n + j ∧ hubsF e n j ws ((hubsF e n j ws k).getD i 0) = hubsF e n j ws k := by
  have hm : (hubsF e n j ws k).getD i 0 ∈ hubsF e n j ws k := by rw [List.getD_eq_getElem?_getD, List.getElem?_eq_getElem hi]; exact List.getElem_mem hi
  generalize (hubsF e n j ws k).getD i 0 = x at *
  rw [hubsF, colsP_iff] at hm
  refine ⟨hm.1.1, by omega, ?_⟩
  have h2 := of_decide_eq_true hm.2
  unfold hubsF
  rw [h2]
theorem joinM_same (r : List Int) (a : Int) : joinM r a a = r := by
  have : (fun x => if x = max a a then min a a else x) = (id : Int → Int) := by funext x; simp only [id]; split <;> omega
  rw [joinM, this, List.map_id]
/-- the wires but one -/
def remW (ws : List (Int × Int)) (k : Nat) : List (Int × Int) := ws.take k ++ ws.drop (k + 1)
theorem remW_len {ws : List (Int × Int)} {k : Nat} (h : k < ws.length) : (remW ws k).length = ws.length - 1 := by simp [remW]; omega
theorem remW_lt {ws : List (Int × Int)} {k m : Nat} (hm : m < k) (hk : k ≤ ws.length) : (remW ws k).getD m (0, 0) = ws.getD m (0, 0) := by
  rw [remW, getD_low _ _ _ (by simp; omega), List.getD_eq_getElem?_getD, List.getElem?_take, if_pos hm, List.getD_eq_getElem?_getD]
theorem remW_ge {ws : List (Int × Int)} {k m : Nat} (hm : k ≤ m) (hk : k < ws.length) : (remW ws k).getD m (0, 0) = ws.getD (m + 1) (0, 0) := by
  rw [remW, List.getD_eq_getElem?_getD, List.getElem?_append_right (by simp; omega), List.length_take, Nat.min_eq_left (by omega), List.getElem?_drop, show k + 1 + (m - k) = m + 1 by omega, List.getD_eq_getElem?_getD]
theorem remW_okB {e n j : Int} {ws : List (Int × Int)} (h : okB e n j ws = true) {k : Nat} (hk : k < ws.length) : okB e n j (remW ws k) = true := by
  have h1 := okB_num h
  have h2 := okB_wire h
  simp only [okB, Bool.and_eq_true, decide_eq_true_eq, Bool.not_eq_true', List.any_eq_false]
  rw [remW_len hk]
  refine ⟨by omega, fun p hp => ?_⟩
  rw [remW, List.mem_append] at hp
  have := h2 p (by rcases hp with hp | hp; exact List.mem_of_mem_take hp; exact List.mem_of_mem_drop hp)
  simp [wireB]; omega
theorem roots_skip {h : Nat} {ws : List (Int × Int)} {k : Nat} (hk : k < ws.length) (hs : (rootsF h ws k).getD (ws.getD k (0, 0)).1.toNat 0 = (rootsF h ws k).getD (ws.getD k (0, 0)).2.toNat 0) : ∀ d, rootsF h (remW ws k) (k + d) = rootsF h ws (k + d + 1)
  | 0 => by rw [Nat.add_zero, rootsF_congr h (us := ws) k (fun m hm => remW_lt hm (by omega)), rootsF, hs, joinM_same]
  | d + 1 => by rw [show k + (d + 1) = k + d + 1 by omega, rootsF, roots_skip hk hs d, remW_ge (by omega) hk, rootsF.eq_2 h ws (k + d + 1)]
/-- while spare wires are being removed from behind: those below m stand, the nets too -/
structure SpI (h : Nat) (ws us : List (Int × Int)) (m : Nat) : Prop where
  len : m ≤ us.length
  top : m ≤ ws.length
  low : ∀ t, t < m → us.getD t (0, 0) = ws.getD t (0, 0)
  rt : rootsF h us us.length = rootsF h ws ws.length
theorem SpI.zero (h : Nat) (ws : List (Int × Int)) : SpI h ws ws ws.length := ⟨Nat.le_refl _, Nat.le_refl _, fun _ _ => rfl, rfl⟩
theorem SpI.step {h : Nat} {ws us : List (Int × Int)} {m k : Nat} (g : SpI h ws us m) (hk : k < m) (hs : (rootsF h ws k).getD (ws.getD k (0, 0)).1.toNat 0 = (rootsF h ws k).getD (ws.getD k (0, 0)).2.toNat 0) : SpI h ws (remW us k) k := by
  have h1 := g.len
  have h2 := g.top
  have hc := rootsF_congr h (ws := us) (us := ws) k (fun t ht => g.low t (by omega))
  refine ⟨by rw [remW_len (by omega)]; omega, by omega, fun t ht => by rw [remW_lt ht (by omega), g.low t (by omega)], ?_⟩
  rw [remW_len (by omega), ← g.rt]
  have := roots_skip (h := h) (ws := us) (k := k) (by omega) (by rw [hc, g.low k hk]; exact hs) (us.length - 1 - k)
  rwa [show k + (us.length - 1 - k) = us.length - 1 by omega, show us.length - 1 + 1 = us.length by omega] at this
theorem getD_mem {l : List Int} {i : Nat} (h : i < l.length) : l.getD i 0 ∈ l := by rw [List.getD_eq_getElem?_getD, List.getElem?_eq_getElem h]; exact List.getElem_mem h
theorem lt_getD {l : List Int} (hl : l.Pairwise (· < ·)) {i k : Nat} (hi : i < k) (hk : k < l.length) : l.getD i 0 < l.getD k 0 := by
  rw [List.getD_eq_getElem?_getD, List.getElem?_eq_getElem (by omega), List.getD_eq_getElem?_getD, List.getElem?_eq_getElem hk]
  exact List.pairwise_iff_getElem.1 hl i k (by omega) hk hi
/-- where the next spare wire must lie below -/
def topS (e n j : Int) (ws : List (Int × Int)) (i : Nat) : Nat := if i < (resSpare e n j ws).length then ((resSpare e n j ws).getD i 0).toNat else ws.length
theorem spare_get {e n j : Int} {ws : List (Int × Int)} (hk : okB e n j ws = true) {i : Nat} (hi : i < (resSpare e n j ws).length) :
    0 ≤ (resSpare e n j ws).getD i 0 ∧ ((resSpare e n j ws).getD i 0).toNat < topS e n j ws (i + 1) ∧ ((resSpare e n j ws).getD i 0).toNat = topS e n j ws i ∧
    (rootsF (e + n + j).toNat ws ((resSpare e n j ws).getD i 0).toNat).getD (ws.getD ((resSpare e n j ws).getD i 0).toNat (0, 0)).1.toNat 0 = (rootsF (e + n + j).toNat ws ((resSpare e n j ws).getD i 0).toNat).getD (ws.getD ((resSpare e n j ws).getD i 0).toNat (0, 0)).2.toNat 0 := by
  have hm := getD_mem hi
  have e0 : resSpare e n j ws = colsP (spareB e n j ws) ws.length := by rw [resSpare, if_pos hk]
  have h2 := (colsP_iff (spareB e n j ws) ((resSpare e n j ws).getD i 0) ws.length).1 (by rw [← e0]; exact hm)
  refine ⟨h2.1.1, ?_, by rw [topS, if_pos hi], of_decide_eq_true h2.2⟩
  rw [topS]
  split
  · rename_i hlt
    have := lt_getD (l := resSpare e n j ws) (by rw [e0]; exact colsP_lt _ _) (show i < i + 1 by omega) hlt
    omega
  · omega
theorem resNets_same {e n j : Int} {ws us : List (Int × Int)} (h1 : okB e n j ws = true) (h2 : okB e n j us = true) (h : rootsF (e + n + j).toNat us us.length = rootsF (e + n + j).toNat ws ws.length) : resNets e n j us = resNets e n j ws := by
  rw [resNets, resNets, if_pos h1, if_pos h2, netsR, netsR, h]
end Go.Proofs.Ythigkbkaeopipaa

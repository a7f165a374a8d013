/- The plain law of the fewest cuts: without all wires of nets with two exits no exits are joined. -/
import Derived.Test.YthigkbkaeopipaaCutP
import Derived.Test.YthigkbkaeopipaaBrdG
namespace Go.Proofs.Ythigkbkaeopipaa
open Go Go.Gw
set_option linter.unusedVariables false
set_option linter.unusedSimpArgs false
theorem colsP_iff (p : Int → Bool) (x : Int) : ∀ i : Nat, x ∈ colsP p i ↔ (0 ≤ x ∧ x < i) ∧ p x = true
  | 0 => by simp [colsP]; omega
  | i + 1 => by
    rw [colsP, List.mem_append, colsP_iff p x i]
    constructor
    · rintro (h | h)
      · exact ⟨⟨h.1.1, by omega⟩, h.2⟩
      · split at h
        · rename_i g; simp at h; subst h; exact ⟨⟨by omega, by omega⟩, g⟩
        · simp at h
    · rintro ⟨⟨h0, h1⟩, h2⟩
      by_cases hx : x = i
      · right; subst hx; rw [if_pos h2]; simp
      · left; exact ⟨⟨h0, by omega⟩, h2⟩
theorem colsP_lt (p : Int → Bool) : ∀ i : Nat, (colsP p i).Pairwise (· < ·)
  | 0 => by simp [colsP]
  | i + 1 => by
    rw [colsP, List.pairwise_append]
    refine ⟨colsP_lt p i, by split <;> simp, ?_⟩
    intro a ha b hb
    have h1 := (colsP_iff p a i).1 ha
    split at hb
    · simp at hb; omega
    · simp at hb
theorem two_mem {l : List Int} {x y : Int} (hx : x ∈ l) (hy : y ∈ l) (hn : x ≠ y) : 2 ≤ l.length := by
  match l, hx, hy with
  | [], hx, _ => simp at hx
  | [a], hx, hy => simp at hx hy; omega
  | a :: b :: r, _, _ => simp
theorem rowP_nil (r : List Int) (i : Int) : ∀ n : Nat, rowP r i n = [] ↔ ∀ m : Nat, m < n → r.getD i.toNat 0 ≠ r.getD (i + 1 + m).toNat 0
  | 0 => by simp [rowP]
  | n + 1 => by
    rw [rowP, List.append_eq_nil_iff, rowP_nil r i n]
    constructor
    · rintro ⟨h1, h2⟩ m hm
      by_cases e : m = n
      · subst e; intro g; rw [if_pos g] at h2; cases h2
      · exact h1 m (by omega)
    · intro h
      exact ⟨fun m hm => h m (by omega), if_neg (h n (by omega))⟩
theorem pairP_nil (r : List Int) (e : Nat) : ∀ i : Nat, pairP r e i = [] ↔ ∀ a : Nat, a < i → rowP r a (e - a - 1) = []
  | 0 => by simp [pairP]
  | i + 1 => by
    rw [pairP, List.append_eq_nil_iff, pairP_nil r e i]
    constructor
    · rintro ⟨h1, h2⟩ m hm
      by_cases g : m = i
      · subst g; exact h2
      · exact h1 m (by omega)
    · intro h
      exact ⟨fun m hm => h m (by omega), h i (by omega)⟩
theorem pairP_none {r : List Int} {e : Nat} (h : ∀ x y : Nat, x < y → y < e → r.getD x 0 ≠ r.getD y 0) : pairP r e e = [] := by
  rw [pairP_nil]
  intro a ha
  rw [rowP_nil]
  intro m hm
  have := h a (a + 1 + m) (by omega) (by omega)
  rwa [show ((a : Int)).toNat = a from rfl, show ((a : Int) + 1 + m).toNat = a + 1 + m by omega]
theorem rootsF_ends (h : Nat) (ws : List (Int × Int)) (hw : ∀ i, i < ws.length → 0 ≤ (ws.getD i (0, 0)).1 ∧ (ws.getD i (0, 0)).1 < (ws.getD i (0, 0)).2 ∧ (ws.getD i (0, 0)).2 < h) : ∀ i, i ≤ ws.length → ∀ m, m < i →
    (rootsF h ws i).getD (ws.getD m (0, 0)).1.toNat 0 = (rootsF h ws i).getD (ws.getD m (0, 0)).2.toNat 0
  | 0, _, m, hm => by omega
  | i + 1, hi, m, hm => by
    have hl := rootsF_len h ws i
    have g := hw m (by omega)
    rw [rootsF, joinM_getD _ _ _ _ (by omega), joinM_getD _ _ _ _ (by omega)]
    by_cases e : m = i
    · subst e
      generalize (rootsF h ws m).getD (ws.getD m (0, 0)).1.toNat 0 = a
      generalize (rootsF h ws m).getD (ws.getD m (0, 0)).2.toNat 0 = b
      split <;> split <;> omega
    · rw [rootsF_ends h ws hw i (by omega) m (by omega)]
/-- the exits of a hub's net -/
def exitsF (F : List Int) (e : Nat) (x : Nat) : List Int := colsP (fun y => decide (F.getD y.toNat 0 = F.getD x 0)) e
/-- the wires of nets with two exits at least -/
def ownF (F : List Int) (e : Nat) (ws : List (Int × Int)) : List Int := colsP (fun k => decide (2 ≤ (exitsF F e (ws.getD k.toNat (0, 0)).1.toNat).length)) ws.length
/-- without some wires no two exits are joined -/
def worksB (h e : Nat) (ws : List (Int × Int)) (c : List Int) : Bool := decide ((pairP (rootsW h ws c ws.length) e e).length = 0)
theorem ownF_mem {F : List Int} {e : Nat} {ws : List (Int × Int)} {i : Nat} (hi : i < ws.length) : ((i : Int) ∈ ownF F e ws) ↔ 2 ≤ (exitsF F e (ws.getD i (0, 0)).1.toNat).length := by
  rw [ownF, colsP_iff]
  simp only [decide_eq_true_eq, show ((i : Int)).toNat = i from rfl]
  exact ⟨fun h => h.2, fun h => ⟨⟨by omega, by omega⟩, h⟩⟩
theorem own_inv (h e : Nat) (ws : List (Int × Int)) (hw : ∀ i, i < ws.length → 0 ≤ (ws.getD i (0, 0)).1 ∧ (ws.getD i (0, 0)).1 < (ws.getD i (0, 0)).2 ∧ (ws.getD i (0, 0)).2 < h) (F : List Int) (hF : F = rootsF h ws ws.length) : ∀ i, i ≤ ws.length → ∀ x, x < h →
    (0 ≤ (rootsW h ws (ownF F e ws) i).getD x 0 ∧ (rootsW h ws (ownF F e ws) i).getD x 0 < h) ∧ F.getD ((rootsW h ws (ownF F e ws) i).getD x 0).toNat 0 = F.getD x 0 ∧ (2 ≤ (exitsF F e x).length → (rootsW h ws (ownF F e ws) i).getD x 0 = x)
  | 0, _, x, hx => by
    have g : (rootsW h ws (ownF F e ws) 0).getD x 0 = (x : Int) := by simp [rootsW, upto, List.getD_eq_getElem?_getD, hx]
    rw [g]
    exact ⟨by omega, rfl, fun _ => rfl⟩
  | i + 1, hi, x, hx => by
    have ih := own_inv h e ws hw F hF i (by omega)
    have hl := rootsW_len h ws (ownF F e ws) i
    rw [rootsW]
    split
    · exact ih x hx
    · rename_i hno
      rw [ownF_mem (by omega)] at hno
      have gw := hw i (by omega)
      have gA := ih (ws.getD i (0, 0)).1.toNat (by omega)
      have gB := ih (ws.getD i (0, 0)).2.toNat (by omega)
      have gE : F.getD (ws.getD i (0, 0)).1.toNat 0 = F.getD (ws.getD i (0, 0)).2.toNat 0 := by rw [hF]; exact rootsF_ends h ws hw _ (Nat.le_refl _) i (by omega)
      have gx := ih x hx
      rw [joinM_getD _ _ _ _ (by omega)]
      generalize hR : rootsW h ws (ownF F e ws) i = R at *
      generalize (ws.getD i (0, 0)).1.toNat = A at *
      generalize (ws.getD i (0, 0)).2.toNat = B at *
      have hex : ∀ p q : Nat, F.getD p 0 = F.getD q 0 → exitsF F e p = exitsF F e q := fun p q g => by unfold exitsF; rw [g]
      have hm1 : F.getD (max (R.getD A 0) (R.getD B 0)).toNat 0 = F.getD A 0 := by
        rcases Int.le_total (R.getD A 0) (R.getD B 0) with g | g
        · rw [Int.max_eq_right g, gB.2.1, gE]
        · rw [Int.max_eq_left g, gA.2.1]
      have hm2 : F.getD (min (R.getD A 0) (R.getD B 0)).toNat 0 = F.getD A 0 := by
        rcases Int.le_total (R.getD A 0) (R.getD B 0) with g | g
        · rw [Int.min_eq_left g, gA.2.1]
        · rw [Int.min_eq_right g, gB.2.1, gE]
      split
      · rename_i hc
        refine ⟨by omega, ?_, fun hs => ?_⟩
        · rw [hm2, ← hm1, ← hc, gx.2.1]
        · have g1 := gx.2.2 hs
          exfalso
          apply hno
          rw [← hex x A (by rw [← hm1, ← hc, gx.2.1])]
          exact hs
      · exact gx
theorem own_works (h e : Nat) (he : e ≤ h) (ws : List (Int × Int)) (hw : ∀ i, i < ws.length → 0 ≤ (ws.getD i (0, 0)).1 ∧ (ws.getD i (0, 0)).1 < (ws.getD i (0, 0)).2 ∧ (ws.getD i (0, 0)).2 < h) : worksB h e ws (ownF (rootsF h ws ws.length) e ws) = true := by
  rw [worksB, decide_eq_true_eq, List.length_eq_zero_iff]
  refine pairP_none fun x y hxy hy => ?_
  have gx := own_inv h e ws hw _ rfl ws.length (Nat.le_refl _) x (by omega)
  have gy := own_inv h e ws hw _ rfl ws.length (Nat.le_refl _) y (by omega)
  generalize rootsF h ws ws.length = F at *
  intro hq
  have hF : F.getD x 0 = F.getD y 0 := by rw [← gx.2.1, hq, gy.2.1]
  have hs : 2 ≤ (exitsF F e x).length := two_mem (x := x) (y := y) ((colsP_iff _ _ _).2 ⟨by omega, by simp⟩) ((colsP_iff _ _ _).2 ⟨by omega, by simp only [show ((y : Int)).toNat = y from rfl, decide_eq_true_eq]; exact hF.symm⟩) (by omega)
  have hs2 : 2 ≤ (exitsF F e y).length := by unfold exitsF at hs ⊢; rw [← hF]; exact hs
  have := gx.2.2 hs
  have := gy.2.2 hs2
  omega
theorem rootsF_congr (h : Nat) {ws us : List (Int × Int)} : ∀ i, (∀ m, m < i → ws.getD m (0, 0) = us.getD m (0, 0)) → rootsF h ws i = rootsF h us i
  | 0, _ => rfl
  | i + 1, g => by rw [rootsF, rootsF, rootsF_congr h i (fun m hm => g m (by omega)), g i (by omega)]
/-- the first wires but some -/
def keepW (ws : List (Int × Int)) (c : List Int) : Nat → List (Int × Int)
  | 0 => []
  | i + 1 => if (i : Int) ∈ c then keepW ws c i else keepW ws c i ++ [ws.getD i (0, 0)]
theorem keepW_len (ws : List (Int × Int)) (c : List Int) : ∀ i, (keepW ws c i).length ≤ i
  | 0 => by simp [keepW]
  | i + 1 => by
    have := keepW_len ws c i
    rw [keepW]; split
    · omega
    · rw [List.length_append, List.length_singleton]; omega
theorem keepW_mem {ws : List (Int × Int)} {c : List Int} {x : Int × Int} : ∀ i, i ≤ ws.length → x ∈ keepW ws c i → x ∈ ws
  | 0, _, h => by simp [keepW] at h
  | i + 1, hi, h => by
    rw [keepW] at h
    split at h
    · exact keepW_mem i (by omega) h
    · rw [List.mem_append, List.mem_singleton] at h
      rcases h with h | rfl
      · exact keepW_mem i (by omega) h
      · rw [List.getD_eq_getElem?_getD, List.getElem?_eq_getElem (by omega)]; exact List.getElem_mem _
theorem getD_mid {α : Type} (l : List α) (x d : α) : (l ++ [x]).getD l.length d = x := by
  rw [List.getD_eq_getElem?_getD, List.getElem?_append_right (Nat.le_refl _), Nat.sub_self]; rfl
theorem getD_low {α : Type} (l r : List α) (d : α) {m : Nat} (h : m < l.length) : (l ++ r).getD m d = l.getD m d := by
  rw [List.getD_eq_getElem?_getD, List.getElem?_append_left h, List.getD_eq_getElem?_getD]
theorem keep_roots (h : Nat) (ws : List (Int × Int)) (c : List Int) : ∀ i, rootsF h (keepW ws c i) (keepW ws c i).length = rootsW h ws c i
  | 0 => rfl
  | i + 1 => by
    rw [keepW, rootsW]
    split
    · exact keep_roots h ws c i
    · have ih := keep_roots h ws c i
      rw [List.length_append, List.length_singleton, rootsF, getD_mid, rootsF_congr h (us := keepW ws c i) _ (fun m hm => getD_low _ _ _ hm), ih]
end Go.Proofs.Ythigkbkaeopipaa

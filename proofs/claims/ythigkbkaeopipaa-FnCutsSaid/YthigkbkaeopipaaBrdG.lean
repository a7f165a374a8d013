/- The nets of a board, and its pairs of exits that are joined. -/
import Derived.Test.YthigkbkaeopipaaBrdD
import Derived.Test.YthigkbkaeopipaaDkA
namespace Go.Proofs.Ythigkbkaeopipaa
open Go Go.Gw
set_option linter.unusedVariables false
set_option linter.unusedSimpArgs false
/-- each has the least of its net as its root -/
def RootOk (r : List Int) : Prop := ∀ i, i < r.length → 0 ≤ r.getD i 0 ∧ r.getD i 0 ≤ i ∧ r.getD (r.getD i 0).toNat 0 = r.getD i 0
theorem rootOk_join {r : List Int} (h : RootOk r) {A B : Nat} (hA : A < r.length) (hB : B < r.length) : RootOk (joinM r (r.getD A 0) (r.getD B 0)) := by
  have gA := h A hA
  have gB := h B hB
  generalize ha : r.getD A 0 = a at *
  generalize hb : r.getD B 0 = b at *
  intro i hi
  rw [joinM_len] at hi
  have gi := h i hi
  have hrt : ∀ c : Int, 0 ≤ c → c.toNat < r.length → r.getD c.toNat 0 = c → (joinM r a b).getD c.toNat 0 = if c = max a b then min a b else c := fun c _ hc he => by rw [joinM_getD _ _ _ _ hc, he]
  have hm : r.getD (min a b).toNat 0 = min a b := by
    rcases Int.le_total a b with h1 | h1
    · rw [show min a b = a by omega]; exact gA.2.2
    · rw [show min a b = b by omega]; exact gB.2.2
  rw [joinM_getD _ _ _ _ hi]
  split
  · rename_i e
    refine ⟨by omega, by omega, ?_⟩
    rw [hrt _ (by omega) (by omega) hm]
    split <;> omega
  · rename_i e
    refine ⟨gi.1, gi.2.1, ?_⟩
    rw [hrt _ gi.1 (by omega) gi.2.2, if_neg e]
theorem rootOk_rootsF (h : Nat) (ws : List (Int × Int)) (hw : ∀ i, i < ws.length → 0 ≤ (ws.getD i (0, 0)).1 ∧ (ws.getD i (0, 0)).1 < (ws.getD i (0, 0)).2 ∧ (ws.getD i (0, 0)).2 < h) : ∀ n, n ≤ ws.length → RootOk (rootsF h ws n)
  | 0, _ => fun i hi => by
    have e : ∀ j, j < h → (rootsF h ws 0).getD j 0 = (j : Int) := fun j hj => by simp [rootsF, List.getD_eq_getElem?_getD, hj]
    rw [rootsF_len] at hi
    rw [e i hi, Int.toNat_natCast, e i hi]
    omega
  | n + 1, hn => by
    have ih := rootOk_rootsF h ws hw n (by omega)
    have := hw n (by omega)
    have hl := rootsF_len h ws n
    exact rootOk_join ih (by omega) (by omega)
/-- the pairs with i of the first n hubs behind it -/
def rowP (r : List Int) (i : Int) : Nat → List (List Int)
  | 0 => []
  | n + 1 => rowP r i n ++ (if r.getD i.toNat 0 = r.getD (i + 1 + n).toNat 0 then [[i, i + 1 + n]] else [])
def pairP (r : List Int) (e : Nat) : Nat → List (List Int)
  | 0 => []
  | i + 1 => pairP r e i ++ rowP r i (e - i - 1)
theorem rowP_len (r : List Int) (i : Int) : ∀ n, (rowP r i n).length ≤ n ∧ ∀ x ∈ rowP r i n, x.length = 2
  | 0 => by simp [rowP]
  | n + 1 => by
    have ih := rowP_len r i n
    simp only [rowP]
    split
    · refine ⟨by simp; omega, fun x hx => ?_⟩
      rcases List.mem_append.1 hx with hx | hx
      · exact ih.2 x hx
      · simp at hx; subst hx; rfl
    · refine ⟨by simp; omega, fun x hx => ih.2 x (by simpa using hx)⟩
theorem pairP_len (r : List Int) (e : Nat) : ∀ i, (pairP r e i).length ≤ i * e ∧ ∀ x ∈ pairP r e i, x.length = 2
  | 0 => by simp [pairP]
  | i + 1 => by
    have ih := pairP_len r e i
    have h2 := rowP_len r i (e - i - 1)
    simp only [pairP, Nat.succ_mul]
    refine ⟨by simp; omega, fun x hx => ?_⟩
    rcases List.mem_append.1 hx with hx | hx
    · exact ih.2 x hx
    · exact h2.2 x hx
theorem totD_mem {xss : List (List Int)} (m : Nat) (h : ∀ x ∈ xss, x.length ≤ m) : totD xss ≤ xss.length * m := by
  have : ∀ j, j ≤ xss.length → tot xss j ≤ j * m := by
    intro j
    induction j with
    | zero => intro _; simp [tot_zero]
    | succ j ih =>
      intro hj
      rw [tot_succ (by omega), Nat.succ_mul]
      have := ih (by omega)
      have := h (xss.getD j []) (by rw [List.getD_eq_getElem?_getD, List.getElem?_eq_getElem (show j < xss.length by omega)]; exact List.getElem_mem (show j < xss.length by omega))
      omega
  exact this _ (Nat.le_refl _)
def resPair (e n j : Int) (ws : List (Int × Int)) : List (List Int) := if okB e n j ws = true then pairP (netsR e n j ws) e.toNat e.toNat else []
theorem resPair_bd (e n j : Int) (ws : List (Int × Int)) : totD (resPair e n j ws) ≤ 1800 ∧ (resPair e n j ws).length ≤ 900 := by
  unfold resPair; split
  · rename_i h
    have h1 := okB_num h
    have h2 := pairP_len (netsR e n j ws) e.toNat e.toNat
    have h3 := totD_mem 2 (fun x hx => by rw [h2.2 x hx]; exact Nat.le_refl _)
    have h4 : e.toNat * e.toNat ≤ 30 * 30 := Nat.mul_le_mul (by omega) (by omega)
    omega
  · simp [totD, tot]
/-- the hubs whose root is k -/
def netP (r : List Int) (k : Int) : List Int := colsP (fun x => decide (r.getD x.toNat 0 = k)) r.length
/-- the nets of the first n hubs that have two hubs at least -/
def netsP (r : List Int) : Nat → List (List Int)
  | 0 => []
  | i + 1 => netsP r i ++ (if 2 ≤ (netP r i).length then [netP r i] else [])
theorem netsP_len (r : List Int) : ∀ i, (netsP r i).length ≤ i ∧ ∀ x ∈ netsP r i, x.length ≤ r.length
  | 0 => by simp [netsP]
  | i + 1 => by
    have ih := netsP_len r i
    have hc : (netP r i).length ≤ r.length := colsP_len _ _
    simp only [netsP]
    split
    · refine ⟨by simp; omega, fun x hx => ?_⟩
      rcases List.mem_append.1 hx with hx | hx
      · exact ih.2 x hx
      · simp only [List.mem_singleton] at hx; subst hx; exact hc
    · refine ⟨by simp; omega, fun x hx => ih.2 x (by simpa using hx)⟩
theorem colsP_mem {p : Int → Bool} {x : Int} : ∀ {n : Nat}, x ∈ colsP p n ↔ (0 ≤ x ∧ x < n ∧ p x = true)
  | 0 => by simp [colsP]; omega
  | n + 1 => by
    rw [colsP, List.mem_append, colsP_mem (n := n)]
    split
    · rename_i h
      simp only [List.mem_singleton]
      constructor
      · rintro (⟨a, b, c⟩ | rfl)
        · exact ⟨a, by push_cast; omega, c⟩
        · exact ⟨by omega, by push_cast; omega, h⟩
      · rintro ⟨a, b, c⟩
        by_cases hx : x = n
        · exact .inr hx
        · exact .inl ⟨a, by push_cast at b; omega, c⟩
    · rename_i h
      simp only [List.not_mem_nil, or_false]
      constructor
      · rintro ⟨a, b, c⟩
        exact ⟨a, by push_cast; omega, c⟩
      · rintro ⟨a, b, c⟩
        refine ⟨a, ?_, c⟩
        push_cast at b
        rcases Int.lt_or_le x n with h1 | h1
        · exact h1
        · obtain rfl : x = n := by omega
          exact absurd c h
theorem getD_append_lt' {α : Type} {xs ys : List α} {d : α} {i : Nat} (h : i < xs.length) : (xs ++ ys).getD i d = xs.getD i d := by
  simp [List.getD_eq_getElem?_getD, List.getElem?_append_left h]
/-- the first of those that are chosen is the least -/
theorem colsP_head {p : Int → Bool} {x : Int} {n : Nat} (h : x ∈ colsP p n) : 0 < (colsP p n).length ∧ (colsP p n).getD 0 0 ≤ x ∧ (colsP p n).getD 0 0 ∈ colsP p n := by
  induction n with
  | zero => simp [colsP] at h
  | succ n ih =>
    rw [colsP] at h ⊢
    rcases List.mem_append.1 h with h | h
    · obtain ⟨h1, h2, h3⟩ := ih h
      rw [getD_append_lt' h1]
      refine ⟨by simp; omega, h2, List.mem_append_left _ h3⟩
    · split at h
      · rename_i hp
        simp only [List.mem_singleton] at h
        subst h
        rw [if_pos hp]
        cases hc : colsP p n with
        | nil => simp
        | cons y r =>
          have hy : y ∈ colsP p n := by rw [hc]; simp
          have := (colsP_mem.1 hy).2.1
          simp; omega
      · simp at h
theorem netP_root {r : List Int} (h : RootOk r) {k : Nat} (hk : k < r.length) :
    0 < (colsP (fun x => decide (r.getD x.toNat 0 = r.getD k 0)) r.length).length ∧ ((colsP (fun x => decide (r.getD x.toNat 0 = r.getD k 0)) r.length).getD 0 0 = k → colsP (fun x => decide (r.getD x.toNat 0 = r.getD k 0)) r.length = netP r k) ∧
    (¬ (colsP (fun x => decide (r.getD x.toNat 0 = r.getD k 0)) r.length).getD 0 0 = k → (netP r k).length = 0) := by
  have hk0 := h k hk
  have hin : (r.getD k 0) ∈ colsP (fun x => decide (r.getD x.toNat 0 = r.getD k 0)) r.length := colsP_mem.2 ⟨hk0.1, by omega, by simpa using hk0.2.2⟩
  obtain ⟨h1, h2, h3⟩ := colsP_head hin
  refine ⟨h1, fun e => ?_, fun e => ?_⟩
  · have : r.getD k 0 = k := by omega
    unfold netP; rw [this]
  · by_cases hr : r.getD k 0 = k
    · exfalso
      obtain ⟨g1, g2, g3⟩ := colsP_mem.1 h3
      have g4 := h _ (show ((colsP (fun x => decide (r.getD x.toNat 0 = r.getD k 0)) r.length).getD 0 0).toNat < r.length by omega)
      simp only [decide_eq_true_eq] at g3
      omega
    · cases hc : netP r k with
      | nil => rfl
      | cons y l =>
        exfalso
        have hy : y ∈ netP r k := by rw [hc]; simp
        obtain ⟨g1, g2, g3⟩ := colsP_mem.1 hy
        simp only [decide_eq_true_eq] at g3
        have g4 := (h y.toNat (by omega)).2.2
        rw [g3, Int.toNat_natCast] at g4
        exact hr g4
def resNets (e n j : Int) (ws : List (Int × Int)) : List (List Int) := if okB e n j ws = true then netsP (netsR e n j ws) (e + n + j).toNat else []
theorem resNets_bd (e n j : Int) (ws : List (Int × Int)) : totD (resNets e n j ws) ≤ 900 ∧ (resNets e n j ws).length ≤ 30 := by
  unfold resNets; split
  · rename_i h
    have h1 := okB_num h
    have h2 := netsP_len (netsR e n j ws) (e + n + j).toNat
    have hl : (netsR e n j ws).length = (e + n + j).toNat := rootsF_len _ _ _
    have h3 := totD_mem 30 (fun x hx => Nat.le_trans (h2.2 x hx) (by omega))
    omega
  · simp [totD, tot]
end Go.Proofs.Ythigkbkaeopipaa

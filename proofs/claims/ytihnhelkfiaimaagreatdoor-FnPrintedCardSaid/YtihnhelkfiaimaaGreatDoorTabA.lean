/- Sums of columns; groups of cards: plain laws. -/
import Derived.Test.YtihnhelkfiaimaaGreatDoorKeyB
import Derived.Test.YtihnhelkfiaimaaGreatDoorDkB
import Derived.Test.YtihnhelkfiaimaaGreatDoorSetA
namespace Go.Proofs.YtihnhelkfiaimaaGreatDoor
open Go Go.Gw
set_option linter.unusedVariables false
set_option linter.unusedSimpArgs false
/-- the number of card i in a field -/
def nmF (xss : List (List Int)) (p : Int × Int) (i : Nat) : Int × Bool := numL (prt (xss.getD i []) p.1 p.2)
/-- the sum of the first i cards -/
def sumC (xss : List (List Int)) (p : Int × Int) : Nat → Int
  | 0 => 0
  | i + 1 => sumC xss p i + (nmF xss p i).1
def okN (xss : List (List Int)) (ps : List (Int × Int)) : Bool := decide (∀ k, k < ps.length → ∀ i, i < xss.length → (nmF xss (ps.getD k (0, 0)) i).2 = true)
theorem okN_at {xss : List (List Int)} {ps : List (Int × Int)} (h : okN xss ps = true) {k i : Nat} (hk : k < ps.length) (hi : i < xss.length) : (nmF xss (ps.getD k (0, 0)) i).2 = true := of_decide_eq_true h k hk i hi
theorem okN_no {xss : List (List Int)} {ps : List (Int × Int)} {k i : Nat} (hk : k < ps.length) (hi : i < xss.length) (h : (nmF xss (ps.getD k (0, 0)) i).2 = false) : okN xss ps = false := by
  cases hh : okN xss ps
  · rfl
  · rw [okN_at hh hk hi] at h; cases h
theorem okN_yes {xss : List (List Int)} {ps : List (Int × Int)} (h : ∀ k, k < ps.length → ∀ i, i < xss.length → (nmF xss (ps.getD k (0, 0)) i).2 = true) : okN xss ps = true := decide_eq_true h
attribute [irreducible] okN
def sumL (xss : List (List Int)) (ps : List (Int × Int)) : List Int := ps.map fun p => sumC xss p xss.length
def sumR (xss : List (List Int)) (ps : List (Int × Int)) (a b : Int) : List Int := ps.map fun p => sumC xss p b.toNat - sumC xss p a.toNat
theorem sumL_len (xss : List (List Int)) (ps : List (Int × Int)) : (sumL xss ps).length = ps.length := by simp [sumL]
theorem sumR_len (xss : List (List Int)) (ps : List (Int × Int)) (a b : Int) : (sumR xss ps a b).length = ps.length := by simp [sumR]
theorem sumL_get {xss : List (List Int)} {ps : List (Int × Int)} {k : Nat} (h : k < ps.length) : (sumL xss ps)[k]? = some (sumC xss (ps.getD k (0, 0)) xss.length) := by simp [sumL, List.getD_eq_getElem?_getD, h]
theorem sumR_get {xss : List (List Int)} {ps : List (Int × Int)} {a b : Int} {k : Nat} (h : k < ps.length) : (sumR xss ps a b)[k]? = some (sumC xss (ps.getD k (0, 0)) b.toNat - sumC xss (ps.getD k (0, 0)) a.toNat) := by simp [sumR, List.getD_eq_getElem?_getD, h]
theorem sumL_R (xss : List (List Int)) (ps : List (Int × Int)) : sumR xss ps 0 xss.length = sumL xss ps := by
  simp [sumR, sumL, sumC]
/-- cards of so many columns, and fields for numbers among these -/
structure TabOK (xss : List (List Int)) (ps : List (Int × Int)) (W : Int) : Prop where
  wid : 1 ≤ W ∧ W ≤ 20
  len : xss.length ≤ 40
  pl : ps.length ≤ 4
  cd : ∀ i, i < xss.length → okK (xss.getD i []) = true ∧ ((xss.getD i []).length : Int) = W
  fd : ∀ k, k < ps.length → (0 ≤ (ps.getD k (0, 0)).1 ∧ (ps.getD k (0, 0)).1 < (ps.getD k (0, 0)).2 ∧ (ps.getD k (0, 0)).2 ≤ W) ∧ (ps.getD k (0, 0)).2 - (ps.getD k (0, 0)).1 ≤ 12
theorem TabOK.of {xss : List (List Int)} {ps : List (Int × Int)} {g h : Int} (hd : okD xss = true) (hs : okSet g h ps (widD xss) = true) : TabOK xss ps (widD xss) :=
  ⟨widD_bd hd, okD_len hd, (okSet_at hs).1.2.2, fun i hi => ⟨(okD_at hd i hi).1, widD_at hd i hi⟩, (okSet_at hs).2⟩
section
variable {xss : List (List Int)} {ps : List (Int × Int)} {W : Int}
theorem TabOK.sub (h : TabOK xss ps W) (a b : Nat) : TabOK ((xss.take b).drop a) ps W :=
  ⟨h.wid, by have := h.len; simp only [List.length_drop, List.length_take]; omega, h.pl, fun i hi => by
    rw [drop_take_getD hi]
    exact h.cd _ (by simp only [List.length_drop, List.length_take] at hi; omega), h.fd⟩
theorem TabOK.one (h : TabOK xss ps W) {i : Nat} (hi : i < xss.length) : TabOK [xss.getD i []] ps W :=
  ⟨h.wid, by simp, h.pl, fun j hj => by
    obtain rfl : j = 0 := by simpa using hj
    exact h.cd i hi, h.fd⟩
theorem TabOK.nm (h : TabOK xss ps W) {k i : Nat} (hk : k < ps.length) (hi : i < xss.length) : -999999999999 ≤ (nmF xss (ps.getD k (0, 0)) i).1 ∧ (nmF xss (ps.getD k (0, 0)) i).1 ≤ 999999999999 := by
  refine numL_bd ?_
  have h1 := h.fd k hk
  have h2 := h.cd i hi
  have := prt_len (xs := xss.getD i []) (f := (ps.getD k (0, 0)).1) (t := (ps.getD k (0, 0)).2) (by omega)
  omega
theorem TabOK.sum (h : TabOK xss ps W) {k : Nat} (hk : k < ps.length) : ∀ i, i ≤ xss.length → -(999999999999 * i) ≤ sumC xss (ps.getD k (0, 0)) i ∧ sumC xss (ps.getD k (0, 0)) i ≤ 999999999999 * i
  | 0, _ => by simp [sumC]
  | i + 1, hi => by
    have h1 := h.sum hk i (by omega)
    have h2 := h.nm hk (i := i) (by omega)
    simp only [sumC]; omega
theorem TabOK.sum64 (h : TabOK xss ps W) {k : Nat} (hk : k < ps.length) {i : Nat} (hi : i ≤ xss.length) : -40000000000000 ≤ sumC xss (ps.getD k (0, 0)) i ∧ sumC xss (ps.getD k (0, 0)) i ≤ 40000000000000 := by
  have h1 := h.sum hk i hi
  have h2 := h.len
  omega
theorem TabOK.in64 (h : TabOK xss ps W) : ∀ n ∈ sumL xss ps, In64 n := fun n hn => by
  obtain ⟨p, hp, rfl⟩ := List.mem_map.1 hn
  obtain ⟨j, hj, rfl⟩ := List.mem_iff_getElem.1 hp
  have := h.sum64 hj (Nat.le_refl _)
  rw [List.getD_eq_getElem?_getD, List.getElem?_eq_getElem hj] at this
  exact ⟨by simp only [Option.getD_some] at this; omega, by simp only [Option.getD_some] at this; omega⟩
theorem sumC_sub (p : Int × Int) {a b : Nat} (hb : b ≤ xss.length) : ∀ j, a + j ≤ b → sumC ((xss.take b).drop a) p j = sumC xss p (a + j) - sumC xss p a
  | 0, _ => by simp [sumC]
  | j + 1, hj => by
    have h1 := sumC_sub (a := a) p hb j (by omega)
    have e : nmF ((xss.take b).drop a) p j = nmF xss p (a + j) := by
      unfold nmF; rw [drop_take_getD (xs := xss) (a := a) (b := b) (i := j) (by simp only [List.length_drop, List.length_take]; omega)]
    rw [← Nat.add_assoc, sumC, sumC, h1, e]; omega
theorem sumL_sub {a b : Int} (h : 0 ≤ a ∧ a ≤ b ∧ b ≤ xss.length) : sumL ((xss.take b.toNat).drop a.toNat) ps = sumR xss ps a b := by
  have e : ((xss.take b.toNat).drop a.toNat).length = b.toNat - a.toNat := by simp only [List.length_drop, List.length_take]; omega
  unfold sumL sumR
  refine List.map_congr_left fun p _ => ?_
  rw [e, sumC_sub p (by omega) _ (by omega), show a.toNat + (b.toNat - a.toNat) = b.toNat by omega]
theorem okN_sub {a b : Nat} (h : okN xss ps = true) : okN ((xss.take b).drop a) ps = true := okN_yes fun k hk i hi => by
  have := okN_at h hk (i := a + i) (by simp only [List.length_drop, List.length_take] at hi; omega)
  unfold nmF at this ⊢
  rwa [drop_take_getD hi]
theorem okN_one {i : Nat} (h : okN xss ps = true) (hi : i < xss.length) : okN [xss.getD i []] ps = true := okN_yes fun k hk j hj => by
  obtain rfl : j = 0 := by simpa using hj
  exact okN_at h hk hi
end
/-! ### Groups -/
/-- the places up to n at which p holds -/
def hdG (p : Nat → Bool) : Nat → List Int
  | 0 => []
  | i + 1 => if p i = true then hdG p i ++ [(i : Int)] else hdG p i
theorem hdG_congr {p q : Nat → Bool} : ∀ n, (∀ i, i < n → p i = q i) → hdG p n = hdG q n
  | 0, _ => rfl
  | n + 1, h => by rw [hdG, hdG, hdG_congr n (fun i hi => h i (by omega)), h n (by omega)]
theorem hdG_len (p : Nat → Bool) : ∀ n, (hdG p n).length ≤ n
  | 0 => Nat.le_refl _
  | n + 1 => by
    have := hdG_len p n
    rw [hdG]; split
    · simp; omega
    · omega
theorem hdG_bd (p : Nat → Bool) : ∀ n i, i < (hdG p n).length → 0 ≤ (hdG p n).getD i 0 ∧ (hdG p n).getD i 0 < n ∧ (i + 1 < (hdG p n).length → (hdG p n).getD i 0 < (hdG p n).getD (i + 1) 0)
  | 0, i, h => by simp [hdG] at h
  | n + 1, i, h => by
    have ih := hdG_bd p n
    rw [hdG] at h ⊢
    split at h
    · rename_i hp
      rw [if_pos hp]
      by_cases hi : i < (hdG p n).length
      · rw [getD_append_lt hi]
        have h1 := ih i hi
        refine ⟨h1.1, by omega, fun h2 => ?_⟩
        by_cases h3 : i + 1 < (hdG p n).length
        · rw [getD_append_lt h3]; exact h1.2.2 h3
        · rw [getD_append_eq (by simp at h2; omega)]; omega
      · have e : i = (hdG p n).length := by simp at h; omega
        rw [getD_append_eq e]
        exact ⟨by omega, by omega, fun h2 => by simp at h2; omega⟩
    · rename_i hp
      rw [if_neg hp]
      have h1 := ih i h
      exact ⟨h1.1, by omega, h1.2.2⟩
/-- where the first element is marked it comes first -/
theorem hdG_zero {p : Nat → Bool} (h : p 0 = true) : ∀ n, 0 < n → 0 < (hdG p n).length ∧ (hdG p n).getD 0 0 = 0
  | 1, _ => by simp [hdG, h]
  | n + 2, _ => by
    have ih := hdG_zero h (n + 1) (by omega)
    rw [hdG]; split
    · exact ⟨by simp, by rw [getD_append_lt ih.1]; exact ih.2⟩
    · exact ih
/-- card i begins a group -/
def isHd (xss : List (List Int)) (f t : Int) (i : Nat) : Bool := decide (i = 0 ∨ ¬ prt (xss.getD (i - 1) []) f t = prt (xss.getD i []) f t)
def hdL (xss : List (List Int)) (f t : Int) : List Int := hdG (isHd xss f t) xss.length
theorem hdL_len (xss : List (List Int)) (f t : Int) : (hdL xss f t).length ≤ xss.length := hdG_len _ _
/-- the index behind the last card of group i -/
def toI (n : Nat) (hs : List Int) (i : Nat) : Int := if i + 1 < hs.length then hs.getD (i + 1) 0 else n
theorem hdL_bd {xss : List (List Int)} {f t : Int} {i : Nat} (h : i < (hdL xss f t).length) : 0 ≤ (hdL xss f t).getD i 0 ∧ (hdL xss f t).getD i 0 < toI xss.length (hdL xss f t) i ∧ toI xss.length (hdL xss f t) i ≤ xss.length := by
  have h1 := hdG_bd (isHd xss f t) xss.length i h
  have h2 := hdG_bd (isHd xss f t) xss.length (i + 1)
  unfold toI
  split
  · rename_i hh
    have h3 := h2 hh
    exact ⟨h1.1, h1.2.2 hh, Int.le_of_lt h3.2.1⟩
  · exact ⟨h1.1, h1.2.1, by omega⟩
/-- the fields' texts -/
def keysL (xss : List (List Int)) (f t : Int) : List (List UInt8) := xss.map fun c => textL (prt c f t)
theorem keysL_len (xss : List (List Int)) (f t : Int) : (keysL xss f t).length = xss.length := by simp [keysL]
theorem keysL_get {xss : List (List Int)} {f t : Int} {i : Nat} (h : i < xss.length) : (keysL xss f t)[i]? = some (textL (prt (xss.getD i []) f t)) := by simp [keysL, List.getD_eq_getElem?_getD, h]
theorem keysL_getD {xss : List (List Int)} {f t : Int} {i : Nat} (h : i < xss.length) : (keysL xss f t).getD i [] = textL (prt (xss.getD i []) f t) := by rw [List.getD_eq_getElem?_getD, keysL_get h]; rfl
/-- all fields have characters -/
def okF (xss : List (List Int)) (f t : Int) : Bool := decide (∀ i, i < xss.length → okT (prt (xss.getD i []) f t) = true)
theorem okF_at {xss : List (List Int)} {f t : Int} (h : okF xss f t = true) {i : Nat} (hi : i < xss.length) : okT (prt (xss.getD i []) f t) = true := of_decide_eq_true h i hi
theorem okF_no {xss : List (List Int)} {f t : Int} {i : Nat} (hi : i < xss.length) (h : okT (prt (xss.getD i []) f t) = false) : okF xss f t = false := by
  cases hh : okF xss f t
  · rfl
  · rw [okF_at hh hi] at h; cases h
theorem okF_yes {xss : List (List Int)} {f t : Int} (h : ∀ i, i < xss.length → okT (prt (xss.getD i []) f t) = true) : okF xss f t = true := decide_eq_true h
theorem okF_def (xss : List (List Int)) (f t : Int) : okF xss f t = decide (∀ i, i < xss.length → okT (prt (xss.getD i []) f t) = true) := rfl
attribute [irreducible] okF
/-- a text begins a group -/
def isHk (ks : List (List UInt8)) (i : Nat) : Bool := decide (i = 0 ∨ ¬ ks.getD i [] = ks.getD (i - 1) [])
theorem hdL_keys {xss : List (List Int)} {f t : Int} (h : okF xss f t = true) : hdG (isHk (keysL xss f t)) xss.length = hdL xss f t := by
  refine hdG_congr _ fun i hi => ?_
  unfold isHk isHd
  refine decide_eq_decide.2 ?_
  rcases Nat.eq_zero_or_pos i with h0 | h0
  · exact ⟨fun _ => .inl h0, fun _ => .inl h0⟩
  · rw [keysL_getD hi, keysL_getD (by omega)]
    have a1 := okF_at h hi
    have a2 := okF_at h (i := i - 1) (by omega)
    constructor
    · rintro (h1 | h1)
      · exact .inl h1
      · exact .inr fun e => h1 (by rw [e])
    · rintro (h1 | h1)
      · exact .inl h1
      · exact .inr fun e => h1 (textL_inj a1 a2 e).symm
/-- the code of a setup and a deck -/
def cTab (g h : Int) (ps : List (Int × Int)) (xss : List (List Int)) : Int :=
  if okD xss = true then (if okSet g h ps (widD xss) = true then (if okN xss ps = true ∧ okF xss g h = true then 0 else 8) else 2) else 1
section
variable {g h : Int} {ps : List (Int × Int)} {xss : List (List Int)}
theorem cTab_1 (h1 : okD xss = false) : cTab g h ps xss = 1 := by simp [cTab, h1]
theorem cTab_2 (h1 : okD xss = true) (h2 : okSet g h ps (widD xss) = false) : cTab g h ps xss = 2 := by simp [cTab, h1, h2]
theorem cTab_8 (h1 : okD xss = true) (h2 : okSet g h ps (widD xss) = true) (h3 : okN xss ps = false ∨ okF xss g h = false) : cTab g h ps xss = 8 := by
  rw [cTab, if_pos h1, if_pos h2, if_neg]
  rintro ⟨a, b⟩
  rcases h3 with h3 | h3
  · rw [h3] at a; cases a
  · rw [h3] at b; cases b
theorem cTab_0 (h1 : okD xss = true) (h2 : okSet g h ps (widD xss) = true) (h3 : okN xss ps = true) (h4 : okF xss g h = true) : cTab g h ps xss = 0 := by
  rw [cTab, if_pos h1, if_pos h2, if_pos ⟨h3, h4⟩]
theorem cTab_ok (h0 : cTab g h ps xss = 0) : okD xss = true ∧ okSet g h ps (widD xss) = true ∧ okN xss ps = true ∧ okF xss g h = true := by
  cases h1 : okD xss
  · rw [cTab_1 h1] at h0; cases h0
  cases h2 : okSet g h ps (widD xss)
  · rw [cTab_2 h1 h2] at h0; cases h0
  cases h3 : okN xss ps
  · rw [cTab_8 h1 h2 (.inl h3)] at h0; cases h0
  cases h4 : okF xss g h
  · rw [cTab_8 h1 h2 (.inr h4)] at h0; cases h0
  exact ⟨rfl, rfl, rfl, rfl⟩
end
end Go.Proofs.YtihnhelkfiaimaaGreatDoor

/- The plain laws of reading numbers and copies from texts. -/
import Derived.Test.YticnemjjjceiaaaDoorJoA
import Derived.Lib.ParseIntBTie
namespace Go.Proofs.YticnemjjjceiaaaDoor
open Go Go.Gw
set_option linter.unusedVariables false
set_option linter.unusedSimpArgs false
/-- digits -/
def isDig (c : UInt8) : Prop := 48 ≤ c.toNat ∧ c.toNat ≤ 57
instance (c : UInt8) : Decidable (isDig c) := by unfold isDig; infer_instance
theorem dig_of {k : Nat} (h : k < 10) : isDig (UInt8.ofNat (48 + k)) ∧ (UInt8.ofNat (48 + k)).toNat = 48 + k := by
  have : ∀ k : Fin 10, isDig (UInt8.ofNat (48 + k.val)) ∧ (UInt8.ofNat (48 + k.val)).toNat = 48 + k.val := by decide
  exact this ⟨k, h⟩
/-- the number that digits spell -/
def valU (l : List UInt8) : Int := l.foldl (fun a c => 10 * a + ((c.toNat : Int) - 48)) 0
theorem valU_snoc (l : List UInt8) (c : UInt8) : valU (l ++ [c]) = 10 * valU l + ((c.toNat : Int) - 48) := by
  unfold valU; rw [List.foldl_append]; rfl
theorem decDigits_step {u : Nat} (h : ¬ u < 10) : Lib.decDigits u = Lib.decDigits (u / 10) ++ [UInt8.ofNat (48 + u % 10)] := by
  rw [Lib.decDigits, dif_neg h]
theorem dec_all (u : Nat) : (∀ c ∈ Lib.decDigits u, isDig c) ∧ valU (Lib.decDigits u) = u := by
  induction u using Nat.strongRecOn with
  | _ u ih =>
    by_cases h : u < 10
    · have := dig_of h
      rw [Lib.decDigits_one h]
      refine ⟨fun c hc => by rw [List.mem_singleton] at hc; rw [hc]; exact this.1, ?_⟩
      rw [show [UInt8.ofNat (48 + u)] = [] ++ [UInt8.ofNat (48 + u)] from rfl, valU_snoc, this.2]
      show 10 * 0 + _ = _
      omega
    · have h1 := ih (u / 10) (by omega)
      have h2 := dig_of (k := u % 10) (by omega)
      rw [decDigits_step h]
      refine ⟨fun c hc => ?_, ?_⟩
      · rw [List.mem_append, List.mem_singleton] at hc
        rcases hc with hc | rfl
        · exact h1.1 c hc
        · exact h2.1
      · rw [valU_snoc, h1.2, h2.2]; omega
/-- without its sign -/
def bodyU (s : List UInt8) : List UInt8 := if s.head? = some 45 then s.drop 1 else s
theorem dec_head (u : Nat) : (Lib.decDigits u).head? ≠ some 45 := by
  intro h
  have h1 : (45 : UInt8) ∈ Lib.decDigits u := List.mem_of_head? h
  have := (dec_all u).1 45 h1
  revert this; decide
def numU (s : List UInt8) : Int := if (bodyU s).length < s.length then -(valU (bodyU s)) else valU (bodyU s)
theorem body_itoa (n : Int) : bodyU (Lib.itoa n) = Lib.decDigits n.natAbs ∧ numU (Lib.itoa n) = n := by
  by_cases h : n < 0
  · have e : Lib.itoa n = 45 :: Lib.decDigits n.natAbs := by rw [Lib.itoa, if_pos h]
    have eb : bodyU (45 :: Lib.decDigits n.natAbs) = Lib.decDigits n.natAbs := by simp [bodyU]
    refine ⟨by rw [e, eb], ?_⟩
    rw [e, numU, eb, if_pos (by simp), (dec_all _).2]; omega
  · have e : Lib.itoa n = Lib.decDigits n.natAbs := by rw [Lib.itoa, if_neg h, show n.toNat = n.natAbs by omega]
    have eb : bodyU (Lib.decDigits n.natAbs) = Lib.decDigits n.natAbs := by rw [bodyU, if_neg (dec_head _)]
    refine ⟨by rw [e, eb], ?_⟩
    rw [e, numU, eb, if_neg (by omega), (dec_all _).2]; omega
theorem itoa_inj {a b : Int} (h : Lib.itoa a = Lib.itoa b) : a = b := by
  have h1 := (body_itoa a).2
  have h2 := (body_itoa b).2
  rw [h, h2] at h1; exact h1.symm
theorem len18 (n : Int) : (bodyU (Lib.itoa n)).length ≤ 18 ↔ n.natAbs < 1000000000000000000 := by
  rw [(body_itoa n).1, Lib.decDigits_length]
  have e : (10 : Nat) ^ (17 + 1) = 1000000000000000000 := by decide
  constructor
  · intro h
    apply Decidable.byContradiction
    intro hn
    have := pow_nDigits 18 n.natAbs (by rw [show (18 : Nat) = 17 + 1 from rfl, e]; omega)
    omega
  · intro h
    exact nDigits_pow 17 _ (by rw [e]; exact h)
open Classical in
/-- the number with this decimal form of at most 18 digits -/
noncomputable def rdN (s : List UInt8) : Int × Bool := if h : ∃ n : Int, n.natAbs < 1000000000000000000 ∧ s = Lib.itoa n then (h.choose, true) else (0, false)
theorem rdN_yes {n : Int} (h : n.natAbs < 1000000000000000000) : rdN (Lib.itoa n) = (n, true) := by
  have hx : ∃ m : Int, m.natAbs < 1000000000000000000 ∧ Lib.itoa n = Lib.itoa m := ⟨n, h, rfl⟩
  unfold rdN
  rw [dif_pos hx, ← itoa_inj hx.choose_spec.2]
theorem rdN_of {s : List UInt8} {n : Int} (h : n.natAbs < 1000000000000000000) (e : Lib.itoa n = s) : rdN s = (n, true) := by rw [← e]; exact rdN_yes h
theorem rdN_no {s : List UInt8} (h : ∀ n : Int, n.natAbs < 1000000000000000000 → s ≠ Lib.itoa n) : rdN s = (0, false) := by
  unfold rdN
  rw [dif_neg (fun ⟨n, h1, h2⟩ => h n h1 h2)]
theorem rdN_get {s : List UInt8} (h : (rdN s).2 = true) : (rdN s).1.natAbs < 1000000000000000000 ∧ s = Lib.itoa (rdN s).1 := by
  unfold rdN at h ⊢
  split at h
  · rename_i hx
    rw [dif_pos hx]; exact hx.choose_spec
  · cases h
theorem rdN_bd (s : List UInt8) : In64 (rdN s).1 := by
  cases h : (rdN s).2
  · have : rdN s = (0, false) := by
      refine rdN_no fun n hn e => ?_
      rw [rdN_of hn e.symm] at h; cases h
    rw [this]; exact ⟨by decide, by decide⟩
  · have := (rdN_get h).1
    exact ⟨by omega, by omega⟩
/-- what a text that is read looks like -/
theorem rd_len {s : List UInt8} (h : ¬ (1 ≤ (bodyU s).length ∧ (bodyU s).length ≤ 18)) : rdN s = (0, false) := rdN_no fun n hn e => h (by
  rw [e]
  have h1 := (len18 n).2 hn
  have h2 := nDigits_pos n.natAbs
  rw [(body_itoa n).1, Lib.decDigits_length] at *
  exact ⟨h2, h1⟩)
theorem rd_dig {s : List UInt8} {c : UInt8} (h : c ∈ bodyU s) (hc : ¬ isDig c) : rdN s = (0, false) := rdN_no fun n hn e => hc (by
  rw [e, (body_itoa n).1] at h
  exact (dec_all _).1 c h)
theorem rd_val {s : List UInt8} (h : Lib.itoa (numU s) ≠ s) : rdN s = (0, false) := rdN_no fun n hn e => h (by rw [e, (body_itoa n).2])
theorem rd_nil : rdN [] = (0, false) := rd_len (by decide)
theorem rd_chr {s : List UInt8} {c : UInt8} (h : c ∈ s) (h1 : ¬ isDig c) (h2 : c ≠ 45) : rdN s = (0, false) := by
  refine rd_dig (c := c) ?_ h1
  unfold bodyU
  split
  · rename_i hh
    cases s with
    | nil => cases h
    | cons x r =>
      rcases List.mem_cons.1 h with rfl | h
      · exact absurd (Option.some.inj hh) h2
      · exact h
  · exact h
theorem valU_bd : ∀ (k : Nat) (l : List UInt8), l.length ≤ k → (∀ c ∈ l, isDig c) → 0 ≤ valU l ∧ valU l < 10 ^ k
  | 0, l, hl, _ => by
    obtain rfl : l = [] := List.eq_nil_of_length_eq_zero (by omega)
    decide
  | k + 1, l, hl, hd => by
    rcases List.eq_nil_or_concat l with rfl | ⟨r, c, rfl⟩
    · have : (0 : Int) < 10 ^ (k + 1) := Int.pow_pos (by decide)
      exact ⟨by decide, this⟩
    · rw [List.concat_eq_append] at *
      rw [List.length_append] at hl
      have ih := valU_bd k r (by simp at hl; omega) (fun x hx => hd x (by simp [hx]))
      have hc := hd c (by simp)
      unfold isDig at hc
      rw [valU_snoc, Int.pow_succ]
      omega
/-- the library's reading, and ours -/
theorem p10_snoc {c : UInt8} (hc : isDig c) : ∀ (l : List UInt8) (a u : Nat), Lib.parseUint10 a l = .ok u → u * 10 + (c.toNat - 48) < 18446744073709551616 → Lib.parseUint10 a (l ++ [c]) = .ok (u * 10 + (c.toNat - 48))
  | [], a, u, h, hb => by
    simp only [Lib.parseUint10] at h
    injection h with h
    subst h
    unfold isDig at hc
    simp only [List.nil_append, Lib.parseUint10]
    rw [if_pos hc, if_neg (by omega), if_neg (by omega)]
  | x :: r, a, u, h, hb => by
    simp only [Lib.parseUint10] at h
    split at h
    · rename_i h1
      split at h
      · cases h
      · rename_i h2
        split at h
        · cases h
        · rename_i h3
          simp only [List.cons_append, Lib.parseUint10]
          rw [if_pos h1, if_neg h2, if_neg h3]
          exact p10_snoc hc r _ u h hb
    · cases h
theorem p10_dec (u : Nat) (hu : u < 18446744073709551616) : Lib.parseUint10 0 (Lib.decDigits u) = .ok u := by
  induction u using Nat.strongRecOn with
  | _ u ih =>
    by_cases h : u < 10
    · have h1 := dig_of h
      have := p10_snoc h1.1 [] 0 0 rfl (by rw [h1.2]; omega)
      rw [h1.2] at this
      rw [Lib.decDigits_one h]
      rw [show 0 * 10 + (48 + u - 48) = u by omega] at this
      exact this
    · have h1 := dig_of (k := u % 10) (by omega)
      have h2 := p10_snoc h1.1 _ 0 _ (ih (u / 10) (by omega) (by omega)) (by rw [h1.2]; omega)
      rw [decDigits_step h, h2, h1.2]
      congr 1; omega
theorem dec_ne (u : Nat) : Lib.decDigits u ≠ [] := fun e => by
  have := nDigits_pos u
  rw [← Lib.decDigits_length, e] at this; simp at this
theorem parse_itoa {n : Int} (h : n.natAbs < 1000000000000000000) : Lib.parseIntB 64 (Lib.itoa n) = .ok n := by
  have hp := p10_dec n.natAbs (by omega)
  have hm : Lib.parseMag (Lib.decDigits n.natAbs) = .ok n.natAbs := by rw [Lib.parseMag, if_neg (dec_ne _)]; exact hp
  rw [Lib.parseIntB_64]
  by_cases h0 : n < 0
  · rw [show Lib.itoa n = 45 :: Lib.decDigits n.natAbs by rw [Lib.itoa, if_pos h0]]
    simp only [Lib.atoiAll]
    rw [if_pos (by decide), hm]
    simp only
    rw [if_neg (by simp), if_neg (by omega), if_pos (by decide)]
    congr 1; omega
  · rw [show Lib.itoa n = Lib.decDigits n.natAbs by rw [Lib.itoa, if_neg h0, show n.toNat = n.natAbs by omega]]
    have hd := (dec_all n.natAbs).1
    have hne := dec_ne n.natAbs
    cases hl : Lib.decDigits n.natAbs with
    | nil => exact absurd hl hne
    | cons c r =>
      have hc := hd c (by rw [hl]; simp)
      unfold isDig at hc
      rw [hl] at hm
      simp only [Lib.atoiAll]
      rw [if_neg (by omega), hm]
      simp only
      rw [if_neg (by omega), if_neg (by omega), if_neg (by omega)]
      congr 1; omega
/-- no number of ours is what the library does not read -/
theorem rd_lib {s : List UInt8} (h : ∀ n : Int, n.natAbs < 1000000000000000000 → Lib.parseIntB 64 s ≠ .ok n) : rdN s = (0, false) := rdN_no fun n hn e => h n hn (by rw [e]; exact parse_itoa hn)
/-- the parts of a text between bytes -/
def spl (c : UInt8) : List UInt8 → List (List UInt8)
  | [] => [[]]
  | x :: r => if x = c then [] :: spl c r else match spl c r with
    | [] => [[x]]
    | y :: ys => (x :: y) :: ys
theorem spl_ne (c : UInt8) : ∀ s, spl c s ≠ []
  | [] => by simp [spl]
  | x :: r => by
    rw [spl]; split
    · simp
    · split <;> simp
/-- parts with more ahead of the first -/
def glue (a : List UInt8) : List (List UInt8) → List (List UInt8)
  | [] => [a]
  | y :: ys => (a ++ y) :: ys
theorem spl_cons_ne {c x : UInt8} (r : List UInt8) (h : x ≠ c) : spl c (x :: r) = glue [x] (spl c r) := by
  rw [spl, if_neg h]
  cases spl c r <;> rfl
theorem spl_cons_eq {c : UInt8} (r : List UInt8) : spl c (c :: r) = [] :: spl c r := by rw [spl, if_pos rfl]
theorem glue_glue (a b : List UInt8) (l : List (List UInt8)) (h : l ≠ []) : glue a (glue b l) = glue (a ++ b) l := by
  cases l with
  | nil => exact absurd rfl h
  | cons y ys => simp [glue]
theorem glue_nil (l : List (List UInt8)) (h : l ≠ []) : glue [] l = l := by
  cases l with
  | nil => exact absurd rfl h
  | cons y ys => simp [glue]
theorem spl_clear {c : UInt8} (r : List UInt8) : ∀ a : List UInt8, c ∉ a → spl c (a ++ r) = glue a (spl c r)
  | [], _ => (glue_nil _ (spl_ne c r)).symm
  | x :: a, h => by
    have hx : x ≠ c := fun e => h (by rw [e]; simp)
    rw [List.cons_append, spl_cons_ne _ hx, spl_clear r a (fun hm => h (by simp [hm])), glue_glue _ _ _ (spl_ne c r)]; rfl
theorem spl_hit {c : UInt8} {a : List UInt8} (r : List UInt8) (h : c ∉ a) : spl c (a ++ c :: r) = a :: spl c r := by
  rw [spl_clear _ a h, spl_cons_eq]; simp [glue]
theorem spl_miss {c : UInt8} {a : List UInt8} (h : c ∉ a) : spl c a = [a] := by
  have := spl_clear (c := c) [] a h
  rw [List.append_nil] at this
  rw [this]; simp [spl, glue]
theorem spl_join (c : UInt8) : ∀ s, Lib.join (spl c s) [c] = s
  | [] => Lib.join_one _ _
  | x :: r => by
    have ih := spl_join c r
    by_cases h : x = c
    · subst h
      rw [spl_cons_eq, Lib.join_cons]
      cases hs : spl x r with
      | nil => exact absurd hs (spl_ne x r)
      | cons y ys =>
        rw [hs, Lib.join_cons] at ih
        rw [show Lib.joinTail [x] (y :: ys) = [x] ++ y ++ Lib.joinTail [x] ys by simp [Lib.joinTail]]
        rw [List.nil_append, List.append_assoc, ih]; rfl
    · rw [spl_cons_ne _ h]
      cases hs : spl c r with
      | nil => exact absurd hs (spl_ne c r)
      | cons y ys =>
        rw [hs, Lib.join_cons] at ih
        rw [show glue [x] (y :: ys) = ([x] ++ y) :: ys from rfl, Lib.join_cons, List.append_assoc, ih]; rfl
theorem spl_len (c : UInt8) : ∀ s, (spl c s).length = s.count c + 1
  | [] => rfl
  | x :: r => by
    have ih := spl_len c r
    by_cases h : x = c
    · subst h; rw [spl_cons_eq, List.length_cons, ih, List.count_cons_self]
    · rw [spl_cons_ne _ h, List.count_cons_of_ne (by simpa using h)]
      cases hs : spl c r with
      | nil => exact absurd hs (spl_ne c r)
      | cons y ys => rw [hs] at ih; exact ih
/-- a word: two numbers -/
noncomputable def wrd (x : List UInt8) : Option (Int × Int) := match spl 62 x with
  | [a, b] => if (rdN a).2 = true ∧ (rdN b).2 = true then some ((rdN a).1, (rdN b).1) else none
  | _ => none
theorem wrd_two {x a b : List UInt8} (h : spl 62 x = [a, b]) : wrd x = if (rdN a).2 = true ∧ (rdN b).2 = true then some ((rdN a).1, (rdN b).1) else none := by
  unfold wrd; rw [h]
theorem wrd_not {x : List UInt8} (h : (spl 62 x).length ≠ 2) : wrd x = none := by
  unfold wrd
  split
  · rename_i a b e; rw [e] at h; exact absurd rfl h
  · rfl
theorem two_of {l : List (List UInt8)} (h : l.length = 2) : l = [l.getD 0 [], l.getD 1 []] := by
  match l, h with
  | [a, b], _ => rfl
theorem wrd_some {x : List UInt8} {p : Int × Int} (h : wrd x = some p) : Lib.itoa p.1 ++ [62] ++ Lib.itoa p.2 = x ∧ p.1.natAbs < 1000000000000000000 ∧ p.2.natAbs < 1000000000000000000 := by
  by_cases hl : (spl 62 x).length = 2
  · have e := two_of hl
    rw [wrd_two e] at h
    split at h
    · rename_i hc
      have h1 := rdN_get hc.1
      have h2 := rdN_get hc.2
      have e1 := Option.some.inj h
      rw [← e1]
      refine ⟨?_, h1.1, h2.1⟩
      have ej := spl_join 62 x
      rw [e, Lib.join_cons] at ej
      simp only
      rw [← h1.2, ← h2.2]
      simpa [Lib.joinTail, List.append_assoc] using ej
    · cases h
  · rw [wrd_not hl] at h; cases h
/-- a word cut at its first mark -/
theorem wrd_cut {a b : List UInt8} (h : (62 : UInt8) ∉ a) : wrd (a ++ 62 :: b) = if (rdN a).2 = true ∧ (rdN b).2 = true then some ((rdN a).1, (rdN b).1) else none := by
  by_cases hb : (62 : UInt8) ∈ b
  · have h1 : rdN b = (0, false) := rd_chr hb (by decide) (by decide)
    rw [wrd_not (by rw [spl_hit _ h, List.length_cons, spl_len]; have := List.count_pos_iff.2 hb; omega), if_neg (by rw [h1]; simp)]
  · rw [wrd_two (a := a) (b := b) (by rw [spl_hit _ h, spl_miss hb])]
theorem wrd_uncut {a : List UInt8} (h : (62 : UInt8) ∉ a) : wrd a = none := wrd_not (by rw [spl_miss h]; simp)
end Go.Proofs.YticnemjjjceiaaaDoor

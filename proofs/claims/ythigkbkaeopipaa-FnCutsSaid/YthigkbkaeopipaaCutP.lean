/- The plain law of the fewest cuts: the least of all sets of wires, by size and then number by number. -/
import Derived.Test.YthigkbkaeopipaaBrdC
namespace Go.Proofs.Ythigkbkaeopipaa
open Go Go.Gw
set_option linter.unusedVariables false
set_option linter.unusedSimpArgs false
/-- ahead, number by number -/
def lexB : List Int → List Int → Bool
  | _, [] => false
  | [], _ :: _ => true
  | x :: r, y :: s => decide (x < y) || (decide (x = y) && lexB r s)
theorem lexB_irrefl : ∀ a, lexB a a = false
  | [] => rfl
  | x :: r => by simp [lexB, lexB_irrefl r]
theorem lexB_tot : ∀ a b : List Int, a.length = b.length → lexB a b = false → lexB b a = false → a = b
  | [], [], _, _, _ => rfl
  | [], _ :: _, h, _, _ => by simp at h
  | _ :: _, [], h, _, _ => by simp at h
  | x :: r, y :: s, h, h1, h2 => by
    simp only [lexB, Bool.or_eq_false_iff, decide_eq_false_iff_not] at h1 h2
    have e : x = y := by omega
    subst e
    simp only [decide_true, Bool.true_and] at h1 h2
    rw [lexB_tot r s (by simpa using h) h1.2 h2.2]
theorem lexB_trans : ∀ a b c : List Int, lexB a b = true → lexB b c = true → lexB a c = true
  | a, [], _, h1, _ => by cases a <;> simp [lexB] at h1
  | _, _ :: _, [], _, h2 => by simp [lexB] at h2
  | [], _ :: _, _ :: _, _, _ => rfl
  | x :: r, y :: s, z :: t, h1, h2 => by
    simp only [lexB, Bool.or_eq_true, Bool.and_eq_true, decide_eq_true_eq] at *
    rcases h1 with h1 | ⟨h1, h1'⟩ <;> rcases h2 with h2 | ⟨h2, h2'⟩
    · left; omega
    · left; omega
    · left; omega
    · right; exact ⟨by omega, lexB_trans r s t h1' h2'⟩
/-- smaller, or as large and ahead -/
def less (a b : List Int) : Prop := a.length < b.length ∨ (a.length = b.length ∧ lexB a b = true)
theorem less_trans {a b c : List Int} (h1 : less a b) (h2 : less b c) : less a c := by
  rcases h1 with h1 | h1 <;> rcases h2 with h2 | h2
  · left; omega
  · left; omega
  · left; omega
  · right; exact ⟨by omega, lexB_trans _ _ _ h1.2 h2.2⟩
/-- the parts of a list with n elements, in order -/
def subs : Nat → List Int → List (List Int)
  | 0, _ => [[]]
  | _ + 1, [] => []
  | n + 1, x :: l => (subs n l).map (x :: ·) ++ subs (n + 1) l
theorem subs_zero (l : List Int) : subs 0 l = [[]] := by cases l <;> rfl
theorem subs_len : ∀ (l : List Int) (n : Nat), ∀ c ∈ subs n l, c.length = n
  | l, 0, c, h => by rw [subs_zero] at h; simp at h; subst h; rfl
  | [], n + 1, c, h => by simp [subs] at h
  | x :: l, n + 1, c, h => by
    rw [subs, List.mem_append, List.mem_map] at h
    rcases h with ⟨d, hd, rfl⟩ | h
    · simp [subs_len l n d hd]
    · exact subs_len l (n + 1) c h
theorem subs_mem : ∀ (l : List Int) (n : Nat), ∀ c ∈ subs n l, ∀ x ∈ c, x ∈ l
  | l, 0, c, h, x, hx => by rw [subs_zero] at h; simp at h; subst h; simp at hx
  | [], n + 1, c, h, x, hx => by simp [subs] at h
  | y :: l, n + 1, c, h, x, hx => by
    rw [subs, List.mem_append, List.mem_map] at h
    rcases h with ⟨d, hd, rfl⟩ | h
    · rcases List.mem_cons.1 hx with rfl | hx
      · exact List.mem_cons_self
      · exact List.mem_cons_of_mem _ (subs_mem l n d hd x hx)
    · exact List.mem_cons_of_mem _ (subs_mem l (n + 1) c h x hx)
theorem subs_lt : ∀ (l : List Int) (n : Nat), l.Pairwise (· < ·) → ∀ c ∈ subs n l, c.Pairwise (· < ·)
  | l, 0, _, c, h => by rw [subs_zero] at h; simp at h; subst h; exact List.Pairwise.nil
  | [], n + 1, _, c, h => by simp [subs] at h
  | y :: l, n + 1, hl, c, h => by
    rw [List.pairwise_cons] at hl
    rw [subs, List.mem_append, List.mem_map] at h
    rcases h with ⟨d, hd, rfl⟩ | h
    · exact List.pairwise_cons.2 ⟨fun x hx => hl.1 x (subs_mem l n d hd x hx), subs_lt l n hl.2 d hd⟩
    · exact subs_lt l (n + 1) hl.2 c h
theorem subs_sorted : ∀ (l : List Int) (n : Nat), l.Pairwise (· < ·) → (subs n l).Pairwise (fun a b => lexB a b = true)
  | l, 0, _ => by rw [subs_zero]; simp
  | [], n + 1, _ => by simp [subs]
  | x :: l, n + 1, hl => by
    rw [List.pairwise_cons] at hl
    rw [subs, List.pairwise_append]
    refine ⟨?_, subs_sorted l (n + 1) hl.2, ?_⟩
    · rw [List.pairwise_map]
      refine (subs_sorted l n hl.2).imp ?_
      intro a b h
      simp [lexB, h]
    · intro a ha b hb
      rw [List.mem_map] at ha
      obtain ⟨d, hd, rfl⟩ := ha
      have hbl := subs_len l (n + 1) b hb
      match b, hbl, hb with
      | y :: r, _, hb =>
        have := hl.1 y (subs_mem l (n + 1) _ hb y List.mem_cons_self)
        simp [lexB, this]
theorem subs_nil {n : Nat} {l : List Int} (h : l.length < n) : subs n l = [] := by
  induction l generalizing n with
  | nil => cases n with
    | zero => simp at h
    | succ n => rfl
  | cons x l ih => cases n with
    | zero => simp at h
    | succ n =>
      simp only [List.length_cons] at h
      rw [subs, ih (by omega), ih (by omega)]; rfl
/-- the first part with n more elements that will do, behind those that stand -/
def cutF (p : List Int → Bool) : Nat → List Int → List Int → Option (List Int)
  | 0, _, gone => if p gone then some gone else none
  | _ + 1, [], _ => none
  | n + 1, x :: l, gone => match cutF p n l (gone ++ [x]) with
    | some r => some r
    | none => cutF p (n + 1) l gone
theorem cutF_zero (p : List Int → Bool) (l gone : List Int) : cutF p 0 l gone = if p gone then some gone else none := by cases l <;> rfl
theorem cutF_eq (p : List Int → Bool) : ∀ (l : List Int) (n : Nat) (gone : List Int), cutF p n l gone = ((subs n l).find? (fun c => p (gone ++ c))).map (gone ++ ·)
  | l, 0, gone => by
    rw [cutF_zero, subs_zero]
    by_cases h : p gone = true
    · simp [List.find?, h]
    · simp [List.find?, h]
  | [], n + 1, gone => rfl
  | x :: l, n + 1, gone => by
    rw [cutF, cutF_eq p l n, cutF_eq p l (n + 1), subs, List.find?_append, List.find?_map]
    have e : ((fun c => p (gone ++ c)) ∘ (x :: ·)) = fun c => p (gone ++ [x] ++ c) := by funext c; simp
    rw [e]
    cases (subs n l).find? (fun c => p (gone ++ [x] ++ c)) with
    | none => simp
    | some c => simp
theorem cutF_short {p : List Int → Bool} {n : Nat} {l gone : List Int} (h : l.length < n) : cutF p n l gone = none := by rw [cutF_eq, subs_nil h]; rfl
/-- a part that will do, with none that will do ahead of it -/
structure Least (p : List Int → Bool) (own r : List Int) : Prop where
  ok : p r = true
  mem : r ∈ subs r.length own
  min : ∀ c, c ∈ subs c.length own → p c = true → ¬ less c r
theorem least_uniq {p : List Int → Bool} {own r s : List Int} (h : Least p own r) (k : Least p own s) : r = s := by
  have h1 := h.min s k.mem k.ok
  have h2 := k.min r h.mem h.ok
  unfold less at h1 h2
  have hl : r.length = s.length := by omega
  refine lexB_tot r s hl ?_ ?_
  · cases hb : lexB r s with
    | false => rfl
    | true => exact absurd (Or.inr ⟨hl, hb⟩) h2
  · cases hb : lexB s r with
    | false => rfl
    | true => exact absurd (Or.inr ⟨hl.symm, hb⟩) h1
theorem find_sorted {l : List (List Int)} {p : List Int → Bool} {r : List Int} (hs : l.Pairwise (fun a b => lexB a b = true)) (h : l.find? p = some r) : ∀ c ∈ l, p c = true → lexB c r = false := by
  induction l with
  | nil => simp at h
  | cons x l ih =>
    rw [List.pairwise_cons] at hs
    intro c hc hp
    rw [List.find?_cons] at h
    split at h
    · simp at h; subst h
      rcases List.mem_cons.1 hc with rfl | hc
      · exact lexB_irrefl _
      · cases hb : lexB c x with
        | false => rfl
        | true => have := lexB_trans _ _ _ hb (hs.1 c hc); rw [lexB_irrefl] at this; cases this
    · rcases List.mem_cons.1 hc with rfl | hc
      · simp_all
      · exact ih hs.2 h c hc hp
theorem cutF_least {p : List Int → Bool} {own r : List Int} {n : Nat} (hs : own.Pairwise (· < ·)) (hn : ∀ m, m < n → cutF p m own [] = none) (h : cutF p n own [] = some r) : Least p own r := by
  rw [cutF_eq] at h
  simp only [List.nil_append, Option.map_id', id_eq] at h
  have hm := List.mem_of_find?_eq_some h
  have hl := subs_len own n _ hm
  refine ⟨by simpa using List.find?_some h, by rw [hl]; exact hm, fun c hc hp => ?_⟩
  intro hl2
  rcases hl2 with hl2 | ⟨hl2, hl3⟩
  · have h2 := hn c.length (by omega)
    rw [cutF_eq] at h2
    simp only [List.nil_append, Option.map_eq_none_iff, List.find?_eq_none] at h2
    exact h2 c hc hp
  · rw [hl2, hl] at hc
    have := find_sorted (subs_sorted own n hs) h c hc hp
    rw [this] at hl3; cases hl3
/-- the first size with a part that will do -/
def fewR (p : List Int → Bool) (own : List Int) : Nat → Option (List Int)
  | 0 => none
  | n + 1 => match fewR p own n with
    | some r => some r
    | none => cutF p n own []
theorem fewR_none {p : List Int → Bool} {own : List Int} : ∀ {n : Nat}, fewR p own n = none → ∀ m, m < n → cutF p m own [] = none
  | 0, _, m, hm => by omega
  | n + 1, h, m, hm => by
    rw [fewR] at h
    split at h
    · cases h
    · rename_i g
      by_cases e : m = n
      · subst e; exact h
      · exact fewR_none g m (by omega)
theorem fewR_least {p : List Int → Bool} {own r : List Int} (hs : own.Pairwise (· < ·)) : ∀ {n : Nat}, fewR p own n = some r → Least p own r
  | 0, h => by simp [fewR] at h
  | n + 1, h => by
    rw [fewR] at h
    split at h
    · rename_i s g
      cases h
      exact fewR_least hs g
    · rename_i g
      exact cutF_least hs (fewR_none g) h
theorem subs_self : ∀ l : List Int, l ∈ subs l.length l
  | [] => by simp [subs]
  | x :: l => by
    rw [List.length_cons, subs, List.mem_append, List.mem_map]
    exact .inl ⟨l, subs_self l, rfl⟩
theorem fewR_some {p : List Int → Bool} {own : List Int} (h : p own = true) : ∃ r, fewR p own (own.length + 1) = some r := by
  cases g : fewR p own (own.length + 1) with
  | some r => exact ⟨r, rfl⟩
  | none =>
    have := fewR_none g own.length (by omega)
    rw [cutF_eq] at this
    simp only [List.nil_append, Option.map_eq_none_iff, List.find?_eq_none] at this
    exact absurd h (this own (subs_self own))
/-- the part that the bits of a number tell -/
def decL : List Int → Nat → List Int
  | [], _ => []
  | x :: l, s => if s % 2 = 1 then x :: decL l (s / 2) else decL l (s / 2)
theorem decL_mem : ∀ (l : List Int) (s : Nat), decL l s ∈ subs (decL l s).length l
  | [], s => by simp [decL, subs]
  | x :: l, s => by
    have ih := decL_mem l (s / 2)
    rw [decL]
    split
    · rw [List.length_cons, subs, List.mem_append, List.mem_map]
      exact .inl ⟨_, ih, rfl⟩
    · generalize decL l (s / 2) = d at *
      cases d with
      | nil => simp [subs_zero]
      | cons y r =>
        rw [List.length_cons] at ih ⊢
        rw [subs, List.mem_append]
        exact .inr ih
theorem decL_zero : ∀ l : List Int, decL l 0 = []
  | [] => rfl
  | x :: l => by rw [decL, if_neg (by omega)]; exact decL_zero l
theorem subs_dec : ∀ (l : List Int) (n : Nat), ∀ c ∈ subs n l, ∃ s, s < 2 ^ l.length ∧ decL l s = c
  | l, 0, c, h => by
    rw [subs_zero] at h; simp at h; subst h
    exact ⟨0, Nat.two_pow_pos _, decL_zero l⟩
  | [], n + 1, c, h => by simp [subs] at h
  | x :: l, n + 1, c, h => by
    rw [subs, List.mem_append, List.mem_map] at h
    rw [List.length_cons, Nat.pow_succ]
    rcases h with ⟨d, hd, rfl⟩ | h
    · obtain ⟨s, h1, h2⟩ := subs_dec l n d hd
      refine ⟨2 * s + 1, by omega, ?_⟩
      rw [decL, if_pos (by omega), show (2 * s + 1) / 2 = s by omega, h2]
    · obtain ⟨s, h1, h2⟩ := subs_dec l (n + 1) c h
      refine ⟨2 * s, by omega, ?_⟩
      rw [decL, if_neg (by omega), show 2 * s / 2 = s by omega, h2]
theorem decL_take : ∀ (l : List Int) (s i : Nat), i < l.length → decL (l.take (i + 1)) s = decL (l.take i) s ++ (if s / 2 ^ i % 2 = 1 then [l.getD i 0] else [])
  | [], s, i, h => by simp at h
  | x :: l, s, 0, h => by simp [decL]
  | x :: l, s, i + 1, h => by
    have ih := decL_take l (s / 2) i (by simpa using h)
    rw [List.take_succ_cons, List.take_succ_cons, decL, decL, ih, Nat.div_div_eq_div_mul, Nat.pow_succ, Nat.mul_comm 2, show (x :: l).getD (i + 1) 0 = l.getD i 0 from rfl]
    split
    · rw [List.cons_append]
    · rfl
/-- what the program has found among the first sets -/
structure BestI (p : List Int → Bool) (own : List Int) (s : Nat) (found : Bool) (best : List Int) : Prop where
  yes : found = true → p best = true ∧ best ∈ subs best.length own ∧ ∀ t, t < s → p (decL own t) = true → ¬ less (decL own t) best
  no : found = false → best = [] ∧ ∀ t, t < s → p (decL own t) = false
theorem BestI.zero (p : List Int → Bool) (own : List Int) : BestI p own 0 false [] := ⟨fun h => by simp at h, fun _ => ⟨rfl, fun t h => by omega⟩⟩
theorem BestI.skip {p : List Int → Bool} {own best : List Int} {s : Nat} (h : BestI p own s true best) (hl : best.length < (decL own s).length) : BestI p own (s + 1) true best := by
  obtain ⟨h1, h2, h3⟩ := h.yes rfl
  refine ⟨fun _ => ⟨h1, h2, fun t ht hp => ?_⟩, fun e => by simp at e⟩
  by_cases e : t = s
  · subst e; rintro (g | g) <;> omega
  · exact h3 t (by omega) hp
theorem BestI.stay {p : List Int → Bool} {own best : List Int} {s : Nat} {found : Bool} (h : BestI p own s found best) (hn : p (decL own s) = true → found = true ∧ ¬ less (decL own s) best) : BestI p own (s + 1) found best := by
  refine ⟨fun e => ?_, fun e => ?_⟩
  · obtain ⟨h1, h2, h3⟩ := h.yes e
    refine ⟨h1, h2, fun t ht hp => ?_⟩
    by_cases e : t = s
    · subst e; exact (hn hp).2
    · exact h3 t (by omega) hp
  · obtain ⟨h1, h2⟩ := h.no e
    refine ⟨h1, fun t ht => ?_⟩
    by_cases e2 : t = s
    · subst e2
      cases hp : p (decL own t) with
      | false => rfl
      | true => rw [(hn hp).1] at e; cases e
    · exact h2 t (by omega)
theorem BestI.take {p : List Int → Bool} {own best : List Int} {s : Nat} {found : Bool} (h : BestI p own s found best) (hp : p (decL own s) = true) (hn : found = true → less (decL own s) best) : BestI p own (s + 1) true (decL own s) := by
  refine ⟨fun _ => ⟨hp, decL_mem own s, fun t ht hq => ?_⟩, fun e => by simp at e⟩
  by_cases e : t = s
  · subst e; rintro (g | g)
    · omega
    · rw [lexB_irrefl] at g; simp at g
  · cases hf : found with
    | true => exact fun g => (h.yes hf).2.2 t (by omega) hq (less_trans g (hn hf))
    | false => have := (h.no hf).2 t (by omega); rw [this] at hq; cases hq
theorem BestI.done {p : List Int → Bool} {own best : List Int} {found : Bool} (h : BestI p own (2 ^ own.length) found best) (hx : p own = true) (hs : own.Pairwise (· < ·)) : fewR p own (own.length + 1) = some best := by
  have hf : found = true := by
    cases hf : found with
    | true => rfl
    | false =>
      obtain ⟨s, h1, h2⟩ := subs_dec own own.length own (subs_self own)
      have := (h.no hf).2 s h1
      rw [h2, hx] at this; cases this
  obtain ⟨h1, h2, h3⟩ := h.yes hf
  obtain ⟨r, hr⟩ := fewR_some hx
  rw [hr, least_uniq (fewR_least hs hr) ⟨h1, h2, fun c hc hp => ?_⟩]
  obtain ⟨s, g1, g2⟩ := subs_dec own c.length c hc
  rw [← g2] at hp ⊢
  exact h3 s g1 hp
end Go.Proofs.Ythigkbkaeopipaa

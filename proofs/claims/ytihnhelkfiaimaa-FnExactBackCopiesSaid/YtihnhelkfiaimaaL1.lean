/- Rules of my own for walking the model's code: frames as association lists, control flow, calls. No program is named here. -/
import Derived.WalkKit
import Derived.WalkLawsBesides
import Derived.WalkSpells
import Derived.BigQuiet
import Derived.Deep.LoopGhost
namespace Go.Gw
open Go

/-! ### Frames -/
abbrev Fm := List (Nat × Value)
def look : Fm → Nat → Option Value
  | [], _ => none
  | (k, v) :: r, t => match Nat.beq k t with
    | true => some v
    | false => look r t
def ev (σ : Fm) : Operand → Option Value
  | .tmp t => look σ t
  | .const v => some v
  | .global g => some (.pointer (some ⟨g, 0, none⟩))
  | .func f => some (.func (.func f) #[] #[])
def evs (σ : Fm) : List Operand → Option (List Value)
  | [] => some []
  | x :: r => match ev σ x, evs σ r with
    | some v, some vs => some (v :: vs)
    | _, _ => none
def args0 : Nat → List Value → Fm
  | _, [] => []
  | k, v :: r => (k, v) :: args0 (k + 1) r

structure Fr (N : Nat) (σ : Fm) (a : Act) : Prop where
  defers : a.defers = []
  size : a.tmps.size = N
  val : ∀ t v, look σ t = some v → a.tmps[t]? = some v

theorem look_cons (d : Nat) (v : Value) (σ : Fm) (t : Nat) : look ((d, v) :: σ) t = if d = t then some v else look σ t := by
  simp only [look]
  by_cases h : d = t
  · subst h; simp
  · have : Nat.beq d t = false := by
      cases hb : Nat.beq d t
      · rfl
      · exact absurd (Nat.eq_of_beq_eq_true hb) h
    simp [this, h]

theorem Fr.eval {N : Nat} {σ : Fm} {a : Act} (h : Fr N σ a) {x : Operand} {v : Value} (hx : ev σ x = some v) : a.eval x = v := by
  cases x with
  | tmp t =>
    have := h.val t v hx
    show a.tmps.getD t undef = v
    rw [Array.getD_eq_getD_getElem?, this]; rfl
  | const c => exact Option.some.inj hx
  | global g => exact Option.some.inj hx
  | func f => exact Option.some.inj hx

theorem Fr.put {N : Nat} {σ : Fm} {a : Act} (h : Fr N σ a) {d : Nat} (hd : Nat.blt d N = true) (v : Value) : Fr N ((d, v) :: σ) (a.put (some d) v) := by
  have hd' : d < N := by simpa [Nat.blt_eq] using hd
  refine ⟨h.defers, ?_, ?_⟩
  · simp only [Act.put, Array.size_setIfInBounds]; exact h.size
  · intro t u hu
    rw [look_cons] at hu
    simp only [Act.put]
    by_cases e : d = t
    · subst e
      simp only [if_true, Option.some.injEq] at hu
      subst hu
      rw [Array.getElem?_setIfInBounds]
      simp [h.size, hd']
    · rw [if_neg e] at hu
      rw [Array.getElem?_setIfInBounds_ne e]
      exact h.val t u hu

theorem Fr.put_none {N : Nat} {σ : Fm} {a : Act} (h : Fr N σ a) (v : Value) : Fr N σ (a.put none v) := h

/-- 's' holds in 'σ'. -/
def Sub : Fm → Fm → Prop
  | [], _ => True
  | p :: r, σ => look σ p.1 = some p.2 ∧ Sub r σ
theorem Sub.look {s σ : Fm} (h : Sub s σ) : ∀ t v, look s t = some v → look σ t = some v := by
  induction s with
  | nil => intro t v hv; simp [Gw.look] at hv
  | cons p r ih =>
    intro t v hv
    obtain ⟨h1, h2⟩ := h
    obtain ⟨k, u⟩ := p
    rw [look_cons] at hv
    split at hv
    · rename_i e; subst e; rw [← hv]; exact h1
    · exact ih h2 t v hv
theorem Fr.sub {N : Nat} {s σ : Fm} {a : Act} (h : Fr N σ a) (hs : Sub s σ) : Fr N s a := ⟨h.defers, h.size, fun t v hv => h.val t v (hs.look t v hv)⟩

/-! ### The forms of a goal -/
abbrev Post := Exit → Act → World → Prop
structure W (P : Program) (N : Nat) (ops : Array Oper) (Q : Post) (l : List Oper) (σ : Fm) (w : World) : Prop where
  go : ∀ a, Fr N σ a → wpList P ops Q l a w
structure C (P : Program) (N : Nat) (c : Code) (Q : Post) (σ : Fm) (w : World) : Prop where
  go : ∀ a, Fr N σ a → c.wp P Q a w
structure X (N : Nat) (e : Exit) (Q : Post) (σ : Fm) (w : World) : Prop where
  go : ∀ a, Fr N σ a → Q e a w

section
variable {P : Program} {N : Nat} {Q : Post} {σ : Fm} {w : World} {ops : Array Oper}

theorem C.sub {c : Code} (s : Fm) (hs : Sub s σ) (h : C P N c Q s w) : C P N c Q σ w := ⟨fun a ha => h.go a (ha.sub hs)⟩
theorem W.sub {l : List Oper} (s : Fm) (hs : Sub s σ) (h : W P N ops Q l s w) : W P N ops Q l σ w := ⟨fun a ha => h.go a (ha.sub hs)⟩
theorem X.sub {e : Exit} (s : Fm) (hs : Sub s σ) (h : X N e Q s w) : X N e Q σ w := ⟨fun a ha => h.go a (ha.sub hs)⟩

theorem args0_look (vs : List Value) : ∀ k t v, look (args0 k vs) t = some v → k ≤ t ∧ vs[t - k]? = some v := by
  induction vs with
  | nil => intro k t v h; simp [args0, look] at h
  | cons x r ih =>
    intro k t v h
    simp only [args0] at h
    rw [look_cons] at h
    split at h
    · rename_i e; subst e; simp at h; subst h; simp
    · obtain ⟨h1, h2⟩ := ih (k + 1) t v h
      refine ⟨by omega, ?_⟩
      have : t - k = (t - (k + 1)) + 1 := by omega
      rw [this]; simpa using h2

/-- Into a function. -/
theorem enter {f : FuncId} {fn : Func} {c : Code} {vs : List Value} {R : Ending → World → Prop} (hf : P.funcs[f]? = some fn) (hb : fn.body = some c) (hn : fn.ntmps = N) (hs : Nat.ble vs.length N = true)
    (h : C P N c (bodyPost P fn R) (args0 0 vs) w) : Calls P f vs.toArray w R := by
  have hs' : vs.length ≤ N := by simpa using hs
  refine calls_of_wp hf hb (h.go _ ⟨rfl, ?_, ?_⟩)
  · simp [hn]; omega
  · intro t v hv
    obtain ⟨_, h2⟩ := args0_look vs 0 t v hv
    simp only [Nat.sub_zero] at h2
    have hlt : t < vs.length := (List.getElem?_eq_some_iff.1 h2).1
    rw [Array.getElem?_append_left (by simpa using hlt)]
    simpa using h2

theorem c_skip (h : X N .normal Q σ w) : C P N .skip Q σ w := ⟨fun a ha => wp_skip (h.go a ha)⟩
theorem c_ret (h : X N .ret Q σ w) : C P N .ret Q σ w := ⟨fun a ha => wp_ret (h.go a ha)⟩
theorem c_exit {i : Nat} (h : X N (.exit i) Q σ w) : C P N (.exit i) Q σ w := ⟨fun a ha => wp_exit (h.go a ha)⟩
theorem c_seq {x y : Code} (h : C P N x (Exit.then (y.wp P Q) Q) σ w) : C P N (.seq x y) Q σ w := ⟨fun a ha => wp_seq (h.go a ha)⟩
theorem c_block {i : Nat} {c : Code} (h : C P N c (Exit.inBlock i Q) σ w) : C P N (.block i c) Q σ w := ⟨fun a ha => wp_block (h.go a ha)⟩
theorem c_region {i : Nat} {l : List Oper} (h : W P N l.toArray Q l σ w) : C P N (.region i l.toArray false) Q σ w := ⟨fun a ha => wp_region_lit (h.go a ha)⟩
theorem c_true {x : Operand} {t e : Code} (hx : ev σ x = some (.bool true)) (h : C P N t Q σ w) : C P N (.cond x t e) Q σ w := ⟨fun a ha => wp_cond_true (ha.eval hx) (h.go a ha)⟩
theorem c_false {x : Operand} {t e : Code} (hx : ev σ x = some (.bool false)) (h : C P N e Q σ w) : C P N (.cond x t e) Q σ w := ⟨fun a ha => wp_cond_false (ha.eval hx) (h.go a ha)⟩
theorem c_if {x : Operand} {t e : Code} {b : Bool} (hx : ev σ x = some (.bool b)) (ht : b = true → C P N t Q σ w) (he : b = false → C P N e Q σ w) : C P N (.cond x t e) Q σ w := by
  cases b
  · exact c_false hx (he rfl)
  · exact c_true hx (ht rfl)
theorem c_dec {x : Operand} {t e : Code} {p : Prop} {d : Decidable p} (hx : ev σ x = some (.bool (decide p))) (ht : p → C P N t Q σ w) (he : ¬ p → C P N e Q σ w) : C P N (.cond x t e) Q σ w :=
  c_if hx (fun h => ht (of_decide_eq_true h)) (fun h => he (of_decide_eq_false h))
theorem c_ndec {x : Operand} {t e : Code} {p : Prop} {d : Decidable p} (hx : ev σ x = some (.bool (!decide p))) (ht : ¬ p → C P N t Q σ w) (he : p → C P N e Q σ w) : C P N (.cond x t e) Q σ w :=
  c_if hx (fun h => ht (by simpa using h)) (fun h => he (by simpa using h))
theorem c_same {α : Sort _} {p : α} {x : Operand} {t e : Code} {d : Decidable (p = p)} (hx : ev σ x = some (.bool (@decide (p = p) d))) (h : C P N t Q σ w) : C P N (.cond x t e) Q σ w := c_true (by rw [hx]; simp) h
theorem c_nsame {α : Sort _} {p : α} {x : Operand} {t e : Code} {d : Decidable (¬ p = p)} (hx : ev σ x = some (.bool (@decide (¬ p = p) d))) (h : C P N e Q σ w) : C P N (.cond x t e) Q σ w := c_false (by rw [hx]; simp) h
theorem c_not {x : Operand} {t e : Code} {b : Bool} (hx : ev σ x = some (.bool (!b))) (ht : b = false → C P N t Q σ w) (he : b = true → C P N e Q σ w) : C P N (.cond x t e) Q σ w :=
  c_if hx (fun h => ht (by simpa using h)) (fun h => he (by simpa using h))

theorem w_nil (h : X N .normal Q σ w) : W P N ops Q [] σ w := ⟨h.go⟩
theorem x_next {y : Code} (h : C P N y Q σ w) : X N .normal (Exit.then (y.wp P Q) Q) σ w := ⟨h.go⟩
theorem x_then_exit {K : Act → World → Prop} {i : Nat} (h : X N (.exit i) Q σ w) : X N (.exit i) (Exit.then K Q) σ w := ⟨h.go⟩
theorem x_then_ret {K : Act → World → Prop} (h : X N .ret Q σ w) : X N .ret (Exit.then K Q) σ w := ⟨h.go⟩
theorem x_block_norm {i : Nat} (h : X N .normal Q σ w) : X N .normal (Exit.inBlock i Q) σ w := ⟨h.go⟩
theorem x_block_ret {i : Nat} (h : X N .ret Q σ w) : X N .ret (Exit.inBlock i Q) σ w := ⟨h.go⟩
theorem x_block_hit {i : Nat} (h : X N .normal Q σ w) : X N (.exit i) (Exit.inBlock i Q) σ w := ⟨fun a ha => by simp only [Exit.inBlock, if_true]; exact h.go a ha⟩
theorem x_block_miss {i j : Nat} (hij : Nat.beq j i = false) (h : X N (.exit j) Q σ w) : X N (.exit j) (Exit.inBlock i Q) σ w := ⟨fun a ha => by
  have : j ≠ i := by intro e; subst e; simp [Nat.beq_refl] at hij
  simp only [Exit.inBlock, if_neg this]; exact h.go a ha⟩

/-- A loop: the relation names a frame and a world; a measure goes down. -/
def Again (N : Nat) {ι : Type} (S : ι → Fm) (R : ι → World → Prop) (μ : ι → Nat) (m : Nat) (a : Act) (w : World) : Prop := ∃ x, Fr N (S x) a ∧ R x w ∧ μ x < m
theorem c_loop {c : Code} {ι : Type} (S : ι → Fm) (R : ι → World → Prop) (μ : ι → Nat) (x0 : ι) (hs : Sub (S x0) σ) (h0 : R x0 w)
    (round : ∀ x w, R x w → C P N c (Exit.then (Again N S R μ (μ x)) Q) (S x) w) : C P N (.loop c) Q σ w := by
  refine ⟨fun a ha => ?_⟩
  refine wp_loop_ghost (fun n a w => ∃ x, Fr N (S x) a ∧ R x w ∧ μ x = n) (μ x0) ⟨x0, ha.sub hs, h0, rfl⟩ ?_
  rintro n a w ⟨x, hf, hr, rfl⟩
  refine Code.wp_mono ?_ ((round x w hr).go a hf)
  intro e a' w' q
  cases e with
  | normal => obtain ⟨y, h1, h2, h3⟩ := q; exact ⟨μ y, h3, y, h1, h2, rfl⟩
  | exit i => exact q
  | goto l => exact q
  | ret => exact q
  | panic ch => exact q
  | outgrown => exact q
/-- the same; what has changed since the loop began is borne along -/
theorem c_loopG {c : Code} {ι : Type} (G : World → Prop) (S : ι → Fm) (R : ι → World → Prop) (μ : ι → Nat) (x0 : ι) (hs : Sub (S x0) σ) (hg : G w) (h0 : R x0 w)
    (round : ∀ x w', G w' → G w' → R x w' → C P N c (Exit.then (Again N S (fun x w' => G w' ∧ R x w') μ (μ x)) Q) (S x) w') : C P N (.loop c) Q σ w :=
  c_loop S (fun x w' => G w' ∧ R x w') μ x0 hs ⟨hg, h0⟩ (fun x w' h => round x w' h.1 h.1 h.2)
theorem x_again {ι : Type} {S : ι → Fm} {R : ι → World → Prop} {μ : ι → Nat} {m : Nat} (x : ι) (hs : Sub (S x) σ) (hr : R x w) (hm : μ x < m) : X N .normal (Exit.then (Again N S R μ m) Q) σ w :=
  ⟨fun _ ha => ⟨x, ha.sub hs, hr, hm⟩⟩
end
end Go.Gw

/- Rules of my own for walking the model's code: frames as association lists, control flow, calls. No program is named here.  Rules of my own: what may have changed between two worlds; operations that only read; guards; calls; the end of a function. Rules of my own: types; integers; memory that is read; boxes. Rules of my own: slices: read, indexed, made, appended to, stored into. -/
import Derived.WalkKit
import Derived.WalkLawsBesides
import Derived.WalkSpells
import Derived.BigQuiet
import Derived.Deep.LoopGhost
namespace Go.Gw
open Go

/-! ### Frames -/
abbrev Fm := List (Nat × Value)
def look : Fm → Nat → Option Value
  | [], _ => none
  | (k, v) :: r, t => match Nat.beq k t with
    | true => some v
    | false => look r t
def ev (σ : Fm) : Operand → Option Value
  | .tmp t => look σ t
  | .const v => some v
  | .global g => some (.pointer (some ⟨g, 0, none⟩))
  | .func f => some (.func (.func f) #[] #[])
def evs (σ : Fm) : List Operand → Option (List Value)
  | [] => some []
  | x :: r => match ev σ x, evs σ r with
    | some v, some vs => some (v :: vs)
    | _, _ => none
def args0 : Nat → List Value → Fm
  | _, [] => []
  | k, v :: r => (k, v) :: args0 (k + 1) r

structure Fr (N : Nat) (σ : Fm) (a : Act) : Prop where
  defers : a.defers = []
  size : a.tmps.size = N
  val : ∀ t v, look σ t = some v → a.tmps[t]? = some v

theorem look_cons (d : Nat) (v : Value) (σ : Fm) (t : Nat) : look ((d, v) :: σ) t = if d = t then some v else look σ t := by
  simp only [look]
  by_cases h : d = t
  · subst h; simp
  · have : Nat.beq d t = false := by
      cases hb : Nat.beq d t
      · rfl
      · exact absurd (Nat.eq_of_beq_eq_true hb) h
    simp [this, h]

theorem Fr.eval {N : Nat} {σ : Fm} {a : Act} (h : Fr N σ a) {x : Operand} {v : Value} (hx : ev σ x = some v) : a.eval x = v := by
  cases x with
  | tmp t =>
    have := h.val t v hx
    show a.tmps.getD t undef = v
    rw [Array.getD_eq_getD_getElem?, this]; rfl
  | const c => exact Option.some.inj hx
  | global g => exact Option.some.inj hx
  | func f => exact Option.some.inj hx

theorem Fr.put {N : Nat} {σ : Fm} {a : Act} (h : Fr N σ a) {d : Nat} (hd : Nat.blt d N = true) (v : Value) : Fr N ((d, v) :: σ) (a.put (some d) v) := by
  have hd' : d < N := by simpa [Nat.blt_eq] using hd
  refine ⟨h.defers, ?_, ?_⟩
  · simp only [Act.put, Array.size_setIfInBounds]; exact h.size
  · intro t u hu
    rw [look_cons] at hu
    simp only [Act.put]
    by_cases e : d = t
    · subst e
      simp only [if_true, Option.some.injEq] at hu
      subst hu
      rw [Array.getElem?_setIfInBounds]
      simp [h.size, hd']
    · rw [if_neg e] at hu
      rw [Array.getElem?_setIfInBounds_ne e]
      exact h.val t u hu

theorem Fr.put_none {N : Nat} {σ : Fm} {a : Act} (h : Fr N σ a) (v : Value) : Fr N σ (a.put none v) := h

/-- 's' holds in 'σ'. -/
def Sub : Fm → Fm → Prop
  | [], _ => True
  | p :: r, σ => look σ p.1 = some p.2 ∧ Sub r σ
theorem Sub.look {s σ : Fm} (h : Sub s σ) : ∀ t v, look s t = some v → look σ t = some v := by
  induction s with
  | nil => intro t v hv; simp [Gw.look] at hv
  | cons p r ih =>
    intro t v hv
    obtain ⟨h1, h2⟩ := h
    obtain ⟨k, u⟩ := p
    rw [look_cons] at hv
    split at hv
    · rename_i e; subst e; rw [← hv]; exact h1
    · exact ih h2 t v hv
theorem Fr.sub {N : Nat} {s σ : Fm} {a : Act} (h : Fr N σ a) (hs : Sub s σ) : Fr N s a := ⟨h.defers, h.size, fun t v hv => h.val t v (hs.look t v hv)⟩

/-! ### The forms of a goal -/
abbrev Post := Exit → Act → World → Prop
structure W (P : Program) (N : Nat) (ops : Array Oper) (Q : Post) (l : List Oper) (σ : Fm) (w : World) : Prop where
  go : ∀ a, Fr N σ a → wpList P ops Q l a w
structure C (P : Program) (N : Nat) (c : Code) (Q : Post) (σ : Fm) (w : World) : Prop where
  go : ∀ a, Fr N σ a → c.wp P Q a w
structure X (N : Nat) (e : Exit) (Q : Post) (σ : Fm) (w : World) : Prop where
  go : ∀ a, Fr N σ a → Q e a w

section
variable {P : Program} {N : Nat} {Q : Post} {σ : Fm} {w : World} {ops : Array Oper}

theorem C.sub {c : Code} (s : Fm) (hs : Sub s σ) (h : C P N c Q s w) : C P N c Q σ w := ⟨fun a ha => h.go a (ha.sub hs)⟩
theorem W.sub {l : List Oper} (s : Fm) (hs : Sub s σ) (h : W P N ops Q l s w) : W P N ops Q l σ w := ⟨fun a ha => h.go a (ha.sub hs)⟩
theorem X.sub {e : Exit} (s : Fm) (hs : Sub s σ) (h : X N e Q s w) : X N e Q σ w := ⟨fun a ha => h.go a (ha.sub hs)⟩

theorem args0_look (vs : List Value) : ∀ k t v, look (args0 k vs) t = some v → k ≤ t ∧ vs[t - k]? = some v := by
  induction vs with
  | nil => intro k t v h; simp [args0, look] at h
  | cons x r ih =>
    intro k t v h
    simp only [args0] at h
    rw [look_cons] at h
    split at h
    · rename_i e; subst e; simp at h; subst h; simp
    · obtain ⟨h1, h2⟩ := ih (k + 1) t v h
      refine ⟨by omega, ?_⟩
      have : t - k = (t - (k + 1)) + 1 := by omega
      rw [this]; simpa using h2

/-- Into a function. -/
theorem enter {f : FuncId} {fn : Func} {c : Code} {vs : List Value} {R : Ending → World → Prop} (hf : P.funcs[f]? = some fn) (hb : fn.body = some c) (hn : fn.ntmps = N) (hs : Nat.ble vs.length N = true)
    (h : C P N c (bodyPost P fn R) (args0 0 vs) w) : Calls P f vs.toArray w R := by
  have hs' : vs.length ≤ N := by simpa using hs
  refine calls_of_wp hf hb (h.go _ ⟨rfl, ?_, ?_⟩)
  · simp [hn]; omega
  · intro t v hv
    obtain ⟨_, h2⟩ := args0_look vs 0 t v hv
    simp only [Nat.sub_zero] at h2
    have hlt : t < vs.length := (List.getElem?_eq_some_iff.1 h2).1
    rw [Array.getElem?_append_left (by simpa using hlt)]
    simpa using h2

theorem c_skip (h : X N .normal Q σ w) : C P N .skip Q σ w := ⟨fun a ha => wp_skip (h.go a ha)⟩
theorem c_ret (h : X N .ret Q σ w) : C P N .ret Q σ w := ⟨fun a ha => wp_ret (h.go a ha)⟩
theorem c_exit {i : Nat} (h : X N (.exit i) Q σ w) : C P N (.exit i) Q σ w := ⟨fun a ha => wp_exit (h.go a ha)⟩
theorem c_seq {x y : Code} (h : C P N x (Exit.then (y.wp P Q) Q) σ w) : C P N (.seq x y) Q σ w := ⟨fun a ha => wp_seq (h.go a ha)⟩
theorem c_block {i : Nat} {c : Code} (h : C P N c (Exit.inBlock i Q) σ w) : C P N (.block i c) Q σ w := ⟨fun a ha => wp_block (h.go a ha)⟩
theorem c_region {i : Nat} {l : List Oper} (h : W P N l.toArray Q l σ w) : C P N (.region i l.toArray false) Q σ w := ⟨fun a ha => wp_region_lit (h.go a ha)⟩
theorem c_true {x : Operand} {t e : Code} (hx : ev σ x = some (.bool true)) (h : C P N t Q σ w) : C P N (.cond x t e) Q σ w := ⟨fun a ha => wp_cond_true (ha.eval hx) (h.go a ha)⟩
theorem c_false {x : Operand} {t e : Code} (hx : ev σ x = some (.bool false)) (h : C P N e Q σ w) : C P N (.cond x t e) Q σ w := ⟨fun a ha => wp_cond_false (ha.eval hx) (h.go a ha)⟩
theorem c_if {x : Operand} {t e : Code} {b : Bool} (hx : ev σ x = some (.bool b)) (ht : b = true → C P N t Q σ w) (he : b = false → C P N e Q σ w) : C P N (.cond x t e) Q σ w := by
  cases b
  · exact c_false hx (he rfl)
  · exact c_true hx (ht rfl)
theorem c_dec {x : Operand} {t e : Code} {p : Prop} {d : Decidable p} (hx : ev σ x = some (.bool (decide p))) (ht : p → C P N t Q σ w) (he : ¬ p → C P N e Q σ w) : C P N (.cond x t e) Q σ w :=
  c_if hx (fun h => ht (of_decide_eq_true h)) (fun h => he (of_decide_eq_false h))
theorem c_ndec {x : Operand} {t e : Code} {p : Prop} {d : Decidable p} (hx : ev σ x = some (.bool (!decide p))) (ht : ¬ p → C P N t Q σ w) (he : p → C P N e Q σ w) : C P N (.cond x t e) Q σ w :=
  c_if hx (fun h => ht (by simpa using h)) (fun h => he (by simpa using h))
theorem c_same {α : Sort _} {p : α} {x : Operand} {t e : Code} {d : Decidable (p = p)} (hx : ev σ x = some (.bool (@decide (p = p) d))) (h : C P N t Q σ w) : C P N (.cond x t e) Q σ w := c_true (by rw [hx]; simp) h
theorem c_nsame {α : Sort _} {p : α} {x : Operand} {t e : Code} {d : Decidable (¬ p = p)} (hx : ev σ x = some (.bool (@decide (¬ p = p) d))) (h : C P N e Q σ w) : C P N (.cond x t e) Q σ w := c_false (by rw [hx]; simp) h
theorem c_not {x : Operand} {t e : Code} {b : Bool} (hx : ev σ x = some (.bool (!b))) (ht : b = false → C P N t Q σ w) (he : b = true → C P N e Q σ w) : C P N (.cond x t e) Q σ w :=
  c_if hx (fun h => ht (by simpa using h)) (fun h => he (by simpa using h))

theorem w_nil (h : X N .normal Q σ w) : W P N ops Q [] σ w := ⟨h.go⟩
theorem x_next {y : Code} (h : C P N y Q σ w) : X N .normal (Exit.then (y.wp P Q) Q) σ w := ⟨h.go⟩
theorem x_then_exit {K : Act → World → Prop} {i : Nat} (h : X N (.exit i) Q σ w) : X N (.exit i) (Exit.then K Q) σ w := ⟨h.go⟩
theorem x_then_ret {K : Act → World → Prop} (h : X N .ret Q σ w) : X N .ret (Exit.then K Q) σ w := ⟨h.go⟩
theorem x_block_norm {i : Nat} (h : X N .normal Q σ w) : X N .normal (Exit.inBlock i Q) σ w := ⟨h.go⟩
theorem x_block_ret {i : Nat} (h : X N .ret Q σ w) : X N .ret (Exit.inBlock i Q) σ w := ⟨h.go⟩
theorem x_block_hit {i : Nat} (h : X N .normal Q σ w) : X N (.exit i) (Exit.inBlock i Q) σ w := ⟨fun a ha => by simp only [Exit.inBlock, if_true]; exact h.go a ha⟩
theorem x_block_miss {i j : Nat} (hij : Nat.beq j i = false) (h : X N (.exit j) Q σ w) : X N (.exit j) (Exit.inBlock i Q) σ w := ⟨fun a ha => by
  have : j ≠ i := by intro e; subst e; simp [Nat.beq_refl] at hij
  simp only [Exit.inBlock, if_neg this]; exact h.go a ha⟩

/-- A loop: the relation names a frame and a world; a measure goes down. -/
def Again (N : Nat) {ι : Type} (S : ι → Fm) (R : ι → World → Prop) (μ : ι → Nat) (m : Nat) (a : Act) (w : World) : Prop := ∃ x, Fr N (S x) a ∧ R x w ∧ μ x < m
theorem c_loop {c : Code} {ι : Type} (S : ι → Fm) (R : ι → World → Prop) (μ : ι → Nat) (x0 : ι) (hs : Sub (S x0) σ) (h0 : R x0 w)
    (round : ∀ x w, R x w → C P N c (Exit.then (Again N S R μ (μ x)) Q) (S x) w) : C P N (.loop c) Q σ w := by
  refine ⟨fun a ha => ?_⟩
  refine wp_loop_ghost (fun n a w => ∃ x, Fr N (S x) a ∧ R x w ∧ μ x = n) (μ x0) ⟨x0, ha.sub hs, h0, rfl⟩ ?_
  rintro n a w ⟨x, hf, hr, rfl⟩
  refine Code.wp_mono ?_ ((round x w hr).go a hf)
  intro e a' w' q
  cases e with
  | normal => obtain ⟨y, h1, h2, h3⟩ := q; exact ⟨μ y, h3, y, h1, h2, rfl⟩
  | exit i => exact q
  | goto l => exact q
  | ret => exact q
  | panic ch => exact q
  | outgrown => exact q
/-- the same; what has changed since the loop began is borne along -/
theorem c_loopG {c : Code} {ι : Type} (G : World → Prop) (S : ι → Fm) (R : ι → World → Prop) (μ : ι → Nat) (x0 : ι) (hs : Sub (S x0) σ) (hg : G w) (h0 : R x0 w)
    (round : ∀ x w', G w' → G w' → R x w' → C P N c (Exit.then (Again N S (fun x w' => G w' ∧ R x w') μ (μ x)) Q) (S x) w') : C P N (.loop c) Q σ w :=
  c_loop S (fun x w' => G w' ∧ R x w') μ x0 hs ⟨hg, h0⟩ (fun x w' h => round x w' h.1 h.1 h.2)
theorem x_again {ι : Type} {S : ι → Fm} {R : ι → World → Prop} {μ : ι → Nat} {m : Nat} (x : ι) (hs : Sub (S x) σ) (hr : R x w) (hm : μ x < m) : X N .normal (Exit.then (Again N S R μ m) Q) σ w :=
  ⟨fun _ ha => ⟨x, ha.sub hs, hr, hm⟩⟩
end
end Go.Gw

namespace Go.Gw
open Go
set_option linter.unusedVariables false
set_option linter.unusedSimpArgs false

/-! ### What may have changed: blocks from lo up to hi, and new ones -/
structure Chg (lo hi : Nat) (w w' : World) : Prop where
  os : w'.os = w.os
  tape : w'.tape = w.tape
  output : w'.output = w.output
  size : w.heap.size ≤ w'.heap.size
  block : ∀ k, k < w.heap.size → (k < lo ∨ hi ≤ k) → w'.heap[k]? = w.heap[k]?
abbrev Ext (w w' : World) : Prop := Chg 0 0 w w'
theorem Chg.refl (lo hi : Nat) (w : World) : Chg lo hi w w := ⟨rfl, rfl, rfl, Nat.le_refl _, fun _ _ _ => rfl⟩
theorem Chg.trans {lo hi : Nat} {a b c : World} (h : Chg lo hi a b) (k : Chg lo hi b c) : Chg lo hi a c :=
  ⟨k.os.trans h.os, k.tape.trans h.tape, k.output.trans h.output, Nat.le_trans h.size k.size, fun i hi ho => (k.block i (Nat.lt_of_lt_of_le hi h.size) ho).trans (h.block i hi ho)⟩
theorem Chg.wide {lo hi lo' hi' : Nat} {a b : World} (h : Chg lo hi a b) (hl : lo' ≤ lo ∨ hi ≤ lo) (hh : hi ≤ hi' ∨ hi ≤ lo) : Chg lo' hi' a b :=
  ⟨h.os, h.tape, h.output, h.size, fun i hi ho => h.block i hi (by omega)⟩
/-- behind an 'Ext', a change of what is new since then -/
theorem Chg.next {l h l' h' : Nat} {a b c : World} (h1 : Chg l h a b) (h2 : Chg l' h' b c) (hn : h' ≤ l' ∨ a.heap.size ≤ l' ∨ (l ≤ l' ∧ h' ≤ h)) : Chg l h a c :=
  ⟨h2.os.trans h1.os, h2.tape.trans h1.tape, h2.output.trans h1.output, Nat.le_trans h1.size h2.size, fun i hi ho =>
    (h2.block i (Nat.lt_of_lt_of_le hi h1.size) (by omega)).trans (h1.block i hi ho)⟩
theorem Chg.below {w w' : World} (h : Ext w w') : RowKit.Below w.heap.size w w' := ⟨h.os, h.tape, h.output, h.size, fun k hk => h.block k hk (.inr (Nat.zero_le _))⟩
theorem Chg.of_below {w w' : World} (h : RowKit.Below w.heap.size w w') : Ext w w' := ⟨h.os, h.tape, h.output, h.size, fun k hk _ => h.block k hk⟩
theorem Chg.drew (w : World) : Ext w w.drew := ⟨rfl, rfl, rfl, Nat.le_refl _, fun _ _ _ => rfl⟩
theorem Chg.alloc (w : World) (o : Obj) : Ext w (w.alloc o) := ⟨rfl, rfl, rfl, by simp, fun k hk _ => RowKit.Below.heap_alloc w o k hk⟩
theorem Chg.cell {lo hi : Nat} {w w' : World} (h : Chg lo hi w w') {a : Addr} {v : Value} (hc : w.cell? a = some v) (ho : a.block < lo ∨ hi ≤ a.block) : w'.cell? a = some v := by
  have := World.block_lt_of_cell? w a hc
  rw [World.cell?_of_block (w := w) (h.block _ this ho)]; exact hc
theorem Chg.frozen {lo hi : Nat} {w w' : World} (h : Chg lo hi w w') {a : Addr} (hb : a.block < w.heap.size) (ho : a.block < lo ∨ hi ≤ a.block) : w'.frozen? a = w.frozen? a :=
  World.frozen?_of_block (w := w) (h.block _ hb ho)

/-- a change that is borne along: what has changed since w -/
structure Since (lo hi : Nat) (w w' : World) : Prop where
  go : Chg lo hi w w'
theorem Since.refl (lo hi : Nat) (w : World) : Since lo hi w w := ⟨Chg.refl _ _ _⟩
theorem Since.trans {lo hi : Nat} {a b c : World} (h : Since lo hi a b) (k : Chg lo hi b c) : Since lo hi a c := ⟨h.go.trans k⟩
theorem Since.next {l h l' h' : Nat} {a b c : World} (h1 : Since l h a b) (h2 : Chg l' h' b c) (hn : h' ≤ l' ∨ a.heap.size ≤ l' ∨ (l ≤ l' ∧ h' ≤ h)) : Since l h a c := ⟨h1.go.next h2 hn⟩
theorem c_loopC {P : Program} {N : Nat} {Q : Post} {σ : Fm} {w : World} {c : Code} {ι : Type} (lo hi : Nat) (S : ι → Fm) (R : ι → World → Prop) (μ : ι → Nat) (x0 : ι) (hs : Sub (S x0) σ) (h0 : R x0 w)
    (round : ∀ x w', Chg lo hi w w' → Since lo hi w w' → R x w' → C P N c (Exit.then (Again N S (fun x w' => Chg lo hi w w' ∧ R x w') μ (μ x)) Q) (S x) w') : C P N (.loop c) Q σ w :=
  c_loopG (fun w' => Chg lo hi w w') S R μ x0 hs (Chg.refl _ _ _) h0 fun x w' h _ hr => round x w' h ⟨h⟩ hr

/-! ### Operations that only read -/
structure YE (P : Program) (σ : Fm) (op : Op) (ty : TypeId) (w : World) (v : Value) : Prop where
  go : ∀ w', Ext w w' → ∀ ρ : Operand → Value, (∀ x v, ev σ x = some v → ρ x = v) → (execOp ρ { dst := none, op := op, type := ty, pos := "", after := #[], guard := none }).run P w' = .ok (.value v) w'
theorem execOp_eq (ρ : Operand → Value) (d : Option Tmp) (op : Op) (ty : TypeId) (pos : String) (af : Array Edge) (g : Option (Nat × Bool)) :
    execOp ρ ⟨d, op, ty, pos, af, g⟩ = execOp ρ ⟨none, op, ty, "", #[], none⟩ := rfl

structure WQ (P : Program) (N : Nat) (ops : Array Oper) (Cl : World → Prop) (Q : Act → Prop) (l : List Oper) (σ : Fm) : Prop where
  go : ∀ a, Fr N σ a → wpQuiet P ops Cl Q l a

section
variable {P : Program} {N : Nat} {Q : Post} {σ : Fm} {w : World} {ops : Array Oper} {rest : List Oper} {op : Op} {ty : TypeId} {pos : String} {af : Array Edge} {d : Nat} {v : Value}

theorem w_pure (h : YE P σ op ty w v) (hd : Nat.blt d N = true) (k : W P N ops Q rest ((d, v) :: σ) w) : W P N ops Q (⟨some d, op, ty, pos, af, none⟩ :: rest) σ w := by
  refine ⟨fun a ha => ?_⟩
  refine wpList_plain rfl fun K hK => ?_
  unfold Oper.wp
  rw [execOp_eq, h.go w (Chg.refl _ _ _) _ fun x v hx => ha.eval hx]
  exact hK _ _ (k.go _ (ha.put hd v))

theorem q_pure {Q : Act → Prop} (h : YE P σ op ty w v) (hd : Nat.blt d N = true) (k : WQ P N ops (Ext w) Q rest ((d, v) :: σ)) : WQ P N ops (Ext w) Q (⟨some d, op, ty, pos, af, none⟩ :: rest) σ := by
  refine ⟨fun a ha => ?_⟩
  refine wpQuiet_step fun K hK => ?_
  rw [if_pos (by simp [Region.wanted])]
  refine ⟨v, fun w' hw' => ?_, hK _ (k.go _ (ha.put hd v))⟩
  unfold Oper.quietAt
  rw [execOp_eq, h.go w' hw' _ fun x v hx => ha.eval hx]
  exact ⟨rfl, rfl⟩

theorem q_nil {w0 : World} (h : ∀ w', Ext w0 w' → w0.heap.size ≤ w'.heap.size → X N .normal Q σ w') : WQ P N ops (Ext w0) (fun a' => ∀ w', Ext w0 w' → Q .normal a' w') [] σ := ⟨fun a ha w' hw' => (h w' hw' hw'.size).go a ha⟩

theorem c_region_quiet {i : Nat} {l : List Oper} (hm : P.follows .mixedOrders = true) (hB : Region.lexB .any l.toArray = true)
    (h : WQ P N l.toArray (Ext w) (fun a' => ∀ w', Ext w w' → Q .normal a' w') l σ) : C P N (.region i l.toArray true) Q σ w :=
  ⟨fun a ha => wp_region_quiet hm hB (Chg.drew w) (by simpa using h.go a ha)⟩

/-! ### Guards -/
theorem Fr.same {a : Act} (ha : Fr N σ a) {t : Nat} (hv : a.tmps[t]? = some v) : Fr N ((t, v) :: σ) a := by
  refine ⟨ha.defers, ha.size, fun s u hu => ?_⟩
  rw [look_cons] at hu
  split at hu
  · rename_i e; subst e; rw [← hu]; exact hv
  · exact ha.val s u hu
theorem yielded_of {a : Act} (ha : Fr N σ a) {j t : Nat} {b : Bool} (hj : (ops[j]?).bind (·.dst) = some t) (ht : look σ t = some (.bool b)) : yielded ops a.tmps j = some b := by
  unfold yielded
  rw [hj]
  simp [ha.val t _ ht]
theorem yielded_undef {a : Act} (ha : Fr N σ a) {j t : Nat} (hj : (ops[j]?).bind (·.dst) = some t) (ht : look σ t = some undef) : yielded ops a.tmps j = none := by
  unfold yielded
  rw [hj]
  simp [ha.val t _ ht, undef]

theorem wpList_guard {a : Act} {o : Oper} (hw : Region.wanted o (yielded ops a.tmps) = true) (h : wpList P ops Q ({ o with guard := none } :: rest) a w) : wpList P ops Q (o :: rest) a w := by
  have e1 : Region.wanted ({ o with guard := none } : Oper) (yielded ops a.tmps) = true := by simp [Region.wanted]
  unfold wpList at h ⊢
  rw [if_pos e1] at h
  rw [if_pos hw]
  exact h
theorem wpQuiet_guard {Cl : World → Prop} {Q : Act → Prop} {a : Act} {o : Oper} (hw : Region.wanted o (yielded ops a.tmps) = true) (h : wpQuiet P ops Cl Q ({ o with guard := none } :: rest) a) : wpQuiet P ops Cl Q (o :: rest) a := by
  have e1 : Region.wanted ({ o with guard := none } : Oper) (yielded ops a.tmps) = true := by simp [Region.wanted]
  unfold wpQuiet at h ⊢
  rw [if_pos e1] at h
  rw [if_pos hw]
  exact h
theorem wpQuiet_unguard {Cl : World → Prop} {Q : Act → Prop} {a : Act} {o : Oper} (hw : Region.wanted o (yielded ops a.tmps) = false) (h : wpQuiet P ops Cl Q rest (a.put o.dst undef)) : wpQuiet P ops Cl Q (o :: rest) a := by
  unfold wpQuiet
  rw [if_neg (by simp [hw])]
  exact h

/-- the guard's answer is known: it is what is wanted -/
theorem w_yes {o : Option Tmp} {j t : Nat} {b : Bool} (hj : (ops[j]?).bind (·.dst) = some t) (ht : look σ t = some (.bool b)) (k : W P N ops Q (⟨o, op, ty, pos, af, none⟩ :: rest) σ w) : W P N ops Q (⟨o, op, ty, pos, af, some (j, b)⟩ :: rest) σ w := ⟨fun a ha =>
  wpList_guard (by simp [Region.wanted, yielded_of ha hj ht]) (k.go a ha)⟩
/-- it is the other one -/
theorem w_no {j t : Nat} {b b' : Bool} (hj : (ops[j]?).bind (·.dst) = some t) (ht : look σ t = some (.bool b)) (hb : (b == b') = false) (hd : Nat.blt d N = true) (k : W P N ops Q rest ((d, undef) :: σ) w) : W P N ops Q (⟨some d, op, ty, pos, af, some (j, b')⟩ :: rest) σ w := ⟨fun a ha =>
  wpList_skip (by simp [Region.wanted, yielded_of ha hj ht, hb]) (k.go _ (ha.put hd _))⟩
theorem w_none {j t : Nat} {b' : Bool} (hj : (ops[j]?).bind (·.dst) = some t) (ht : look σ t = some undef) (hd : Nat.blt d N = true) (k : W P N ops Q rest ((d, undef) :: σ) w) : W P N ops Q (⟨some d, op, ty, pos, af, some (j, b')⟩ :: rest) σ w := ⟨fun a ha =>
  wpList_skip (by simp [Region.wanted, yielded_undef ha hj ht]) (k.go _ (ha.put hd _))⟩
/-- not known: both ways; behind it the guard's slot holds a literal -/
theorem w_part {o : Option Tmp} {j t : Nat} {b b' : Bool} (hj : (ops[j]?).bind (·.dst) = some t) (ht : look σ t = some (.bool b))
    (k1 : b = true → W P N ops Q (⟨o, op, ty, pos, af, some (j, b')⟩ :: rest) ((t, .bool true) :: σ) w) (k2 : b = false → W P N ops Q (⟨o, op, ty, pos, af, some (j, b')⟩ :: rest) ((t, .bool false) :: σ) w) : W P N ops Q (⟨o, op, ty, pos, af, some (j, b')⟩ :: rest) σ w := by
  refine ⟨fun a ha => ?_⟩
  have hv := ha.val t _ ht
  have hf : Fr N ((t, .bool b) :: σ) a := ha.same hv
  cases b
  · exact (k2 rfl).go a hf
  · exact (k1 rfl).go a hf
theorem w_part_dec {o : Option Tmp} {j t : Nat} {b' : Bool} {p : Prop} {dp : Decidable p} (hj : (ops[j]?).bind (·.dst) = some t) (ht : look σ t = some (.bool (decide p)))
    (k1 : p → W P N ops Q (⟨o, op, ty, pos, af, some (j, b')⟩ :: rest) ((t, .bool true) :: σ) w) (k2 : ¬ p → W P N ops Q (⟨o, op, ty, pos, af, some (j, b')⟩ :: rest) ((t, .bool false) :: σ) w) : W P N ops Q (⟨o, op, ty, pos, af, some (j, b')⟩ :: rest) σ w :=
  w_part hj ht (fun h => k1 (of_decide_eq_true h)) (fun h => k2 (of_decide_eq_false h))
theorem q_yes {Cl : World → Prop} {Q : Act → Prop} {o : Option Tmp} {j t : Nat} {b : Bool} (hj : (ops[j]?).bind (·.dst) = some t) (ht : look σ t = some (.bool b)) (k : WQ P N ops Cl Q (⟨o, op, ty, pos, af, none⟩ :: rest) σ) : WQ P N ops Cl Q (⟨o, op, ty, pos, af, some (j, b)⟩ :: rest) σ := ⟨fun a ha =>
  wpQuiet_guard (by simp [Region.wanted, yielded_of ha hj ht]) (k.go a ha)⟩
theorem q_no {Cl : World → Prop} {Q : Act → Prop} {j t : Nat} {b b' : Bool} (hj : (ops[j]?).bind (·.dst) = some t) (ht : look σ t = some (.bool b)) (hb : (b == b') = false) (hd : Nat.blt d N = true) (k : WQ P N ops Cl Q rest ((d, undef) :: σ)) : WQ P N ops Cl Q (⟨some d, op, ty, pos, af, some (j, b')⟩ :: rest) σ := ⟨fun a ha =>
  wpQuiet_unguard (by simp [Region.wanted, yielded_of ha hj ht, hb]) (k.go _ (ha.put hd _))⟩
theorem q_none {Cl : World → Prop} {Q : Act → Prop} {j t : Nat} {b' : Bool} (hj : (ops[j]?).bind (·.dst) = some t) (ht : look σ t = some undef) (hd : Nat.blt d N = true) (k : WQ P N ops Cl Q rest ((d, undef) :: σ)) : WQ P N ops Cl Q (⟨some d, op, ty, pos, af, some (j, b')⟩ :: rest) σ := ⟨fun a ha =>
  wpQuiet_unguard (by simp [Region.wanted, yielded_undef ha hj ht]) (k.go _ (ha.put hd _))⟩
theorem q_part {Cl : World → Prop} {Q : Act → Prop} {o : Option Tmp} {j t : Nat} {b b' : Bool} (hj : (ops[j]?).bind (·.dst) = some t) (ht : look σ t = some (.bool b))
    (k1 : b = true → WQ P N ops Cl Q (⟨o, op, ty, pos, af, some (j, b')⟩ :: rest) ((t, .bool true) :: σ)) (k2 : b = false → WQ P N ops Cl Q (⟨o, op, ty, pos, af, some (j, b')⟩ :: rest) ((t, .bool false) :: σ)) : WQ P N ops Cl Q (⟨o, op, ty, pos, af, some (j, b')⟩ :: rest) σ := by
  refine ⟨fun a ha => ?_⟩
  have hv := ha.val t _ ht
  have hf : Fr N ((t, .bool b) :: σ) a := ha.same hv
  cases b
  · exact (k2 rfl).go a hf
  · exact (k1 rfl).go a hf

/-! ### Calls -/
class Callable (P : Program) (f : FuncId) : Prop where
  run : ∀ args w, (callFunc f args).run P w = .ok (.enter f args) w
theorem callable {f : FuncId} {fn : Func} (hf : P.funcs[f]? = some fn) (hn : (fn.name == "runtime.NumGoroutine") = false) (hb : fn.body.isNone = false) : Callable P f :=
  ⟨fun args w => by
    have hn' : fn.name ≠ "runtime.NumGoroutine" := by simpa using hn
    have hb' : ¬ fn.body = none := by intro e; simp [e] at hb
    simp [callFunc, hf, hn', hb']⟩

/-- a call that hands back a value, whatever has become of the world is told by R -/
structure Ret (P : Program) (f : FuncId) (args : List Value) (w : World) (R : Value → World → Prop) : Prop where
  go : Calls P f args.toArray w fun e w' => ∃ v, e = .returned v ∧ R v w'
/-- a call that hands back v and turns nothing that was there -/
structure Val (P : Program) (f : FuncId) (args : List Value) (w : World) (v : Value) : Prop where
  go : ∀ w', Ext w w' → Ret P f args w' fun u w'' => u = v ∧ Ext w' w''
/-- a call that hands back v and leaves the world as it is -/
structure Pur (P : Program) (f : FuncId) (args : List Value) (v : Value) : Prop where
  go : ∀ w, Ret P f args w fun u w' => u = v ∧ w' = w
theorem Ret.mono {f : FuncId} {args : List Value} {R R' : Value → World → Prop} (h : Ret P f args w R) (hr : ∀ v w', R v w' → R' v w') : Ret P f args w R' := ⟨Calls.mono h.go fun _ _ ⟨v, he, h1⟩ => ⟨v, he, hr _ _ h1⟩⟩
theorem Pur.val {f : FuncId} {args : List Value} (h : Pur P f args v) : Val P f args w v := ⟨fun w' _ => (h.go w').mono fun _ _ ⟨h1, h2⟩ => ⟨h1, by rw [h2]; exact Chg.refl _ _ _⟩⟩
theorem Val.ret {f : FuncId} {args : List Value} (h : Val P f args w v) : Ret P f args w fun u w' => u = v ∧ Ext w w' := h.go w (Chg.refl _ _ _)
/-- Into a function, towards a contract. -/
theorem ret_enter {f : FuncId} {fn : Func} {c : Code} {vs : List Value} {R : Value → World → Prop} (hf : P.funcs[f]? = some fn) (hb : fn.body = some c) (hn : fn.ntmps = N) (hs : Nat.ble vs.length N = true)
    (h : C P N c (bodyPost P fn fun e w' => ∃ v, e = .returned v ∧ R v w') (args0 0 vs) w) : Ret P f vs w R := ⟨enter hf hb hn hs h⟩

theorem evs_spec {a : Act} (ha : Fr N σ a) : ∀ {xs : List Operand} {vs : List Value}, evs σ xs = some vs → xs.map a.eval = vs
  | [], vs, h => by simp [evs] at h; simp [h]
  | x :: r, vs, h => by
    simp only [evs] at h
    split at h
    · rename_i v' vs' h1 h2
      simp only [Option.some.injEq] at h
      subst h
      simp [ha.eval h1, evs_spec ha h2]
    · cases h

theorem exec_call {a : Act} (ha : Fr N σ a) {fo : Operand} {f : FuncId} {first cap : List Value} {xs : List Operand} {vs all : List Value} {ats : Array TypeId} [hc : Callable P f]
    (hf : ev σ fo = some (.func (.func f) first.toArray cap.toArray)) (hx : evs σ xs = some vs) (hall : first ++ vs ++ cap = all) (w : World) :
    (execOp a.eval ⟨none, .call { callee := .value fo, args := xs.toArray, argTypes := ats }, ty, "", #[], none⟩).run P w = .ok (.enter f all.toArray) w := by
  subst hall
  simp only [execOp, resolve, ha.eval hf, Deferred.ofValue, Sem.run_bind, Sem.run_pure, Result.andThen_ok, invoke]
  rw [show Array.map a.eval xs.toArray = vs.toArray by rw [List.map_toArray, evs_spec ha hx]]
  rw [List.append_toArray, List.append_toArray]
  exact hc.run _ _

theorem w_call {fo : Operand} {f : FuncId} {first cap : List Value} {xs : List Operand} {vs all : List Value} {ats : Array TypeId} {R : Value → World → Prop} [hc : Callable P f]
    (hf : ev σ fo = some (.func (.func f) first.toArray cap.toArray)) (hx : evs σ xs = some vs) (hall : first ++ vs ++ cap = all)
    (h : Ret P f all w R) (hd : Nat.blt d N = true) (k : ∀ v w', R v w' → W P N ops Q rest ((d, v) :: σ) w') :
    W P N ops Q (⟨some d, .call { callee := .value fo, args := xs.toArray, argTypes := ats }, ty, pos, af, none⟩ :: rest) σ w := by
  refine ⟨fun a ha => ?_⟩
  refine wpList_plain rfl fun K hK => ?_
  unfold Oper.wp
  rw [execOp_eq, exec_call ha hf hx hall]
  rw [Oper.upon_enter]
  refine Calls.mono h.go ?_
  rintro e w' ⟨v, rfl, hr⟩
  exact hK _ _ ((k v w' hr).go _ (ha.put hd v))
/-- no result is kept -/
theorem w_call0 {fo : Operand} {f : FuncId} {first cap : List Value} {xs : List Operand} {vs all : List Value} {ats : Array TypeId} {R : Value → World → Prop} [hc : Callable P f]
    (hf : ev σ fo = some (.func (.func f) first.toArray cap.toArray)) (hx : evs σ xs = some vs) (hall : first ++ vs ++ cap = all)
    (h : Ret P f all w R) (k : ∀ v w', R v w' → W P N ops Q rest σ w') :
    W P N ops Q (⟨none, .call { callee := .value fo, args := xs.toArray, argTypes := ats }, ty, pos, af, none⟩ :: rest) σ w := by
  refine ⟨fun a ha => ?_⟩
  refine wpList_plain rfl fun K hK => ?_
  unfold Oper.wp
  rw [execOp_eq, exec_call ha hf hx hall]
  rw [Oper.upon_enter]
  refine Calls.mono h.go ?_
  rintro e w' ⟨v, rfl, hr⟩
  exact hK _ _ ((k v w' hr).go _ ha)
theorem w_val {fo : Operand} {f : FuncId} {first cap : List Value} {xs : List Operand} {vs all : List Value} {ats : Array TypeId} [hc : Callable P f]
    (hf : ev σ fo = some (.func (.func f) first.toArray cap.toArray)) (hx : evs σ xs = some vs) (hall : first ++ vs ++ cap = all)
    (h : Val P f all w v) (hd : Nat.blt d N = true) (k : ∀ w', Ext w w' → w.heap.size ≤ w'.heap.size → W P N ops Q rest ((d, v) :: σ) w') :
    W P N ops Q (⟨some d, .call { callee := .value fo, args := xs.toArray, argTypes := ats }, ty, pos, af, none⟩ :: rest) σ w :=
  w_call hf hx hall h.ret hd fun _ w' ⟨e, h'⟩ => by subst e; exact k w' h' h'.size
theorem w_pur {fo : Operand} {f : FuncId} {first cap : List Value} {xs : List Operand} {vs all : List Value} {ats : Array TypeId} [hc : Callable P f]
    (hf : ev σ fo = some (.func (.func f) first.toArray cap.toArray)) (hx : evs σ xs = some vs) (hall : first ++ vs ++ cap = all)
    (h : Pur P f all v) (hd : Nat.blt d N = true) (k : W P N ops Q rest ((d, v) :: σ) w) :
    W P N ops Q (⟨some d, .call { callee := .value fo, args := xs.toArray, argTypes := ats }, ty, pos, af, none⟩ :: rest) σ w :=
  w_call hf hx hall (h.go w) hd fun _ w' ⟨e, h'⟩ => by subst e; subst h'; exact k
theorem q_val {Q : Act → Prop} {fo : Operand} {f : FuncId} {first cap : List Value} {xs : List Operand} {vs all : List Value} {ats : Array TypeId} [hc : Callable P f]
    (hf : ev σ fo = some (.func (.func f) first.toArray cap.toArray)) (hx : evs σ xs = some vs) (hall : first ++ vs ++ cap = all)
    (h : Val P f all w v) (hd : Nat.blt d N = true) (k : WQ P N ops (Ext w) Q rest ((d, v) :: σ)) :
    WQ P N ops (Ext w) Q (⟨some d, .call { callee := .value fo, args := xs.toArray, argTypes := ats }, ty, pos, af, none⟩ :: rest) σ := by
  refine ⟨fun a ha => ?_⟩
  refine wpQuiet_step fun K hK => ?_
  rw [if_pos (by simp [Region.wanted])]
  refine ⟨v, fun w' hw' => ?_, hK _ (k.go _ (ha.put hd v))⟩
  unfold Oper.quietAt
  rw [execOp_eq, exec_call ha hf hx hall]
  refine ⟨rfl, Calls.mono (h.go w' hw').go ?_⟩
  rintro e w'' ⟨u, rfl, rfl, hx⟩
  exact ⟨rfl, hw'.trans hx⟩

theorem Pur.law {f : FuncId} {args : List Value} (h : Pur P f args (.bool true)) (w : World) : Ret P f args w fun u w' => u = .bool true ∧ Ext w w' := (h.val (w := w)).ret

/-! ### The end -/
theorem x_ret1 {fn : Func} {R : Ending → World → Prop} {t : Tmp} (hr : fn.results = #[.tmp t]) (ht : look σ t = some v) (h : R (.returned v) w) : X N .ret (bodyPost P fn R) σ w := ⟨fun a ha =>
  bodyPost_ret (v := v) (by rw [results_tmp hr, Array.getD_eq_getD_getElem?, ha.val t v ht]; rfl) ha.defers h⟩
theorem x_ret0 {fn : Func} {R : Ending → World → Prop} (hr : fn.results = #[]) (h : R (.returned (.tuple #[])) w) : X N .ret (bodyPost P fn R) σ w := ⟨fun a ha =>
  bodyPost_ret (results_none hr _ _ _) ha.defers h⟩
theorem x_end0 {fn : Func} {R : Ending → World → Prop} (hr : fn.results = #[]) (h : R (.returned (.tuple #[])) w) : X N .normal (bodyPost P fn R) σ w := ⟨fun a ha =>
  bodyPost_end (results_none hr _ _ _) ha.defers h⟩
/-- what the results' places hold -/
def Res (P : Program) (σ : Fm) (w : World) : List ResultVar → List Value → Prop
  | [], [] => True
  | .tmp t :: r, v :: vs => look σ t = some v ∧ Res P σ w r vs
  | .cell c t :: r, v :: vs => (∃ a, look σ c = some (.pointer (some a)) ∧ (loadVar t a).run P w = .ok v w) ∧ Res P σ w r vs
  | _, _ => False
def ofResults : List Value → Value
  | [v] => v
  | vs => .tuple vs.toArray
def resOf (a : Act) : ResultVar → Sem Value
  | .tmp t => pure (a.tmps.getD t undef)
  | .cell c t => do loadVar t (← asAddr (a.tmps.getD c undef))
theorem run_resList {a : Act} (ha : Fr N σ a) : ∀ (rs : List ResultVar) (vs : List Value), Res P σ w rs vs → (rs.mapM (resOf a)).run P w = .ok vs w
  | [], [], _ => by simp
  | .tmp t :: r, v :: vs, ⟨h1, h2⟩ => by
    have e : a.tmps.getD t undef = v := by rw [Array.getD_eq_getD_getElem?, ha.val t v h1]; rfl
    simp [run_resList ha r vs h2, resOf, e]
  | .cell c t :: r, v :: vs, ⟨⟨ad, h1, h3⟩, h2⟩ => by
    have e : a.tmps.getD c undef = .pointer (some ad) := by rw [Array.getD_eq_getD_getElem?, ha.val c _ h1]; rfl
    simp [run_resList ha r vs h2, resOf, e, asAddr, h3]
theorem run_results {a : Act} (ha : Fr N σ a) {fn : Func} {rs : List ResultVar} {vs : List Value} (hr : fn.results = rs.toArray) (h : Res P σ w rs vs) : (results fn a.tmps).run P w = .ok (ofResults vs) w := by
  have h1 : (results fn a.tmps) = (do let vs ← fn.results.mapM (resOf a); pure (if h : vs.size = 1 then vs[0] else .tuple vs)) := by
    unfold results
    congr 1
  rw [h1, hr, List.mapM_toArray]
  have h2 := run_resList ha rs vs h
  simp only [Sem.run_bind, Sem.run_map]
  rw [h2]
  simp only [Result.andThen_ok, Sem.run_pure]
  match vs with
  | [] => simp [ofResults]
  | [v] => simp [ofResults]
  | v :: u :: r => simp [ofResults]
theorem x_ret {fn : Func} {R : Ending → World → Prop} {rs : List ResultVar} (vs : List Value) (hr : fn.results = rs.toArray) (h : Res P σ w rs vs) (hR : R (.returned (ofResults vs)) w) : X N .ret (bodyPost P fn R) σ w := ⟨fun a ha =>
  bodyPost_ret (run_results ha hr h) ha.defers hR⟩
/-- the contract's form -/
theorem x_retv {fn : Func} {R : Value → World → Prop} {rs : List ResultVar} (vs : List Value) (hr : fn.results = rs.toArray) (h : Res P σ w rs vs) (hR : R (ofResults vs) w) : X N .ret (bodyPost P fn fun e w' => ∃ v, e = .returned v ∧ R v w') σ w :=
  x_ret vs hr h ⟨_, rfl, hR⟩
end
end Go.Gw

namespace Go.Gw
open Go
set_option linter.unusedVariables false
set_option linter.unusedSimpArgs false

/-! ### What is known of types -/
def notAgg : TypeDesc → Bool
  | .struct _ => false
  | .array _ _ => false
  | _ => true
class TScal (P : Program) (T : TypeId) : Prop where
  und : ∃ d, P.underlying T = some d ∧ notAgg d = true
  size : (P.info? T).map (·.size) = some 1
class TStr (P : Program) (T : TypeId) (n : outParam Nat) : Prop where
  und : ∃ fs, P.underlying T = some (.struct fs)
  size : (P.info? T).map (·.size) = some n
class TSli (P : Program) (T : TypeId) (E sz bytes : outParam Nat) : Prop where
  und : P.underlying T = some (.slice E)
  size : (P.info? E).map (·.size) = some sz
  bytes : (P.info? E).map (·.bytes) = some bytes
  zero : ((P.info? E).bind (·.zero)).isSome = true
  zlen : ∀ z, (P.info? E).bind (·.zero) = some z → z.cells.size = sz
class TZero (P : Program) (T : TypeId) (z : outParam Value) : Prop where
  zero : (P.info? T).bind (·.zero) = some z
class TFld (P : Program) (T : TypeId) (k : Nat) (off : outParam Nat) : Prop where
  und : ∃ fs f, P.underlying T = some (.struct fs) ∧ fs[k]? = some f ∧ f.offset = off ∧ ∃ n, (P.info? f.type).map (·.size) = some (n + 1)

theorem zlen_of {P : Program} {E : TypeId} {z : Value} {n : Nat} (h : (P.info? E).bind (·.zero) = some z) (hn : z.cells.size = n) : ∀ u, (P.info? E).bind (·.zero) = some u → u.cells.size = n := fun u hu => by
  rw [h] at hu; cases hu; exact hn
section
variable {P : Program} (w : World)
theorem isAgg_scal (T : TypeId) [h : TScal P T] : (isAgg T).run P w = .ok false w := by
  obtain ⟨d, hd, hn⟩ := h.und
  cases d <;> simp_all [isAgg, run_underlying hd, notAgg]
theorem isAgg_str (T : TypeId) {n : Nat} [h : TStr P T n] : (isAgg T).run P w = .ok true w := by
  obtain ⟨fs, hd⟩ := h.und
  simp [isAgg, run_underlying hd]
theorem run_size {T : TypeId} {n : Nat} (h : (P.info? T).map (·.size) = some n) : (sizeOf T).run P w = .ok n w := by
  cases hi : P.info? T with
  | none => simp [hi] at h
  | some i => simp [hi] at h; simp [sizeOf, typeInfo, hi, h]
theorem run_zero {T : TypeId} {z : Value} [h : TZero P T z] : (zeroValue T).run P w = .ok z w := by
  have := h.zero
  cases hi : P.info? T with
  | none => simp [hi] at this
  | some i => simp [hi] at this; simp [zeroValue, typeInfo, hi, this]
end

/-! ### Integers -/
section
variable {P : Program} {N : Nat} {σ : Fm} {w : World} {ty t t' : TypeId} {x y z : Operand} {k : IntKind} {a b : Int} {v u : Value}
theorem y_move (hx : ev σ x = some v) : YE P σ (.move x) ty w v := ⟨fun w' _ ρ hρ => by simp [execOp, hρ _ _ hx]⟩
theorem y_assign (hx : ev σ x = some v) : YE P σ (.assign x) ty w v := ⟨fun w' _ ρ hρ => by simp [execOp, hρ _ _ hx]⟩
theorem y_pick_t (hx : ev σ x = some (.bool true)) (hy : ev σ y = some v) : YE P σ (.pick x y z) ty w v := ⟨fun w' _ ρ hρ => by simp [execOp, hρ _ _ hx, hρ _ _ hy, asBool]⟩
theorem y_pick_f (hx : ev σ x = some (.bool false)) (hy : ev σ z = some v) : YE P σ (.pick x y z) ty w v := ⟨fun w' _ ρ hρ => by simp [execOp, hρ _ _ hx, hρ _ _ hy, asBool]⟩
theorem y_extract {vs : List Value} {i : Nat} (hx : ev σ x = some (.tuple vs.toArray)) (hi : vs[i]? = some v) : YE P σ (.extract x i) ty w v := ⟨fun w' _ ρ hρ => by simp [execOp, hρ _ _ hx, Instr.extract, hi]⟩
theorem y_add_wrap (hx : ev σ x = some (.int k a)) (hy : ev σ y = some (.int k b)) : YE P σ (.binOp .add t x y t') ty w (.int k (k.wrap (a + b))) := ⟨fun w' _ ρ hρ => by simp [execOp, hρ _ _ hx, hρ _ _ hy, eqGuard, binOp, Op.intArith]⟩
theorem y_sub_wrap (hx : ev σ x = some (.int k a)) (hy : ev σ y = some (.int k b)) : YE P σ (.binOp .sub t x y t') ty w (.int k (k.wrap (a - b))) := ⟨fun w' _ ρ hρ => by simp [execOp, hρ _ _ hx, hρ _ _ hy, eqGuard, binOp, Op.intArith]⟩
theorem y_mul_wrap (hx : ev σ x = some (.int k a)) (hy : ev σ y = some (.int k b)) : YE P σ (.binOp .mul t x y t') ty w (.int k (k.wrap (a * b))) := ⟨fun w' _ ρ hρ => by simp [execOp, hρ _ _ hx, hρ _ _ hy, eqGuard, binOp, Op.intArith]⟩
theorem y_quo_wrap (hx : ev σ x = some (.int k a)) (hy : ev σ y = some (.int k b)) (hb : b ≠ 0) : YE P σ (.binOp .quo t x y t') ty w (.int k (k.wrap (a.tdiv b))) := ⟨fun w' _ ρ hρ => by simp [execOp, hρ _ _ hx, hρ _ _ hy, eqGuard, binOp, Op.intDiv, hb]⟩
theorem y_rem_wrap (hx : ev σ x = some (.int k a)) (hy : ev σ y = some (.int k b)) (hb : b ≠ 0) : YE P σ (.binOp .rem t x y t') ty w (.int k (a.tmod b)) := ⟨fun w' _ ρ hρ => by simp [execOp, hρ _ _ hx, hρ _ _ hy, eqGuard, binOp, Op.intDiv, hb]⟩
theorem y_neg_wrap (hx : ev σ x = some (.int k a)) : YE P σ (.unOp .neg t x) ty w (.int k (k.wrap (0 - a))) := ⟨fun w' _ ρ hρ => by simp [execOp, hρ _ _ hx, Op.unary, Op.intArith]⟩
theorem y_conv_wrap {k' : IntKind} {s d : TypeId} (hx : ev σ x = some (.int k a)) (hs : ∃ e, P.underlying s = some e) (hd : P.underlying d = some (.int k')) : YE P σ (.convert s d x) ty w (.int k' (k'.wrap a)) := ⟨fun w' _ ρ hρ => by
  obtain ⟨e, he⟩ := hs
  simp [execOp, hρ _ _ hx, convert, run_underlying he, run_underlying hd, Conv.intToInt]⟩
abbrev In64 (a : Int) : Prop := -9223372036854775808 ≤ a ∧ a ≤ 9223372036854775807
theorem wrap_in {a : Int} (h : In64 a) : IntKind.i64.wrap a = a := IntWalk.i64_in a h
theorem y_add (hx : ev σ x = some (.int .i64 a)) (hy : ev σ y = some (.int .i64 b)) (h : In64 (a + b) := by exact ⟨by omega, by omega⟩) : YE P σ (.binOp .add t x y t') ty w (.int .i64 (a + b)) := by have := y_add_wrap (P := P) (w := w) (ty := ty) (t := t) (t' := t') hx hy; rwa [wrap_in h] at this
theorem y_sub (hx : ev σ x = some (.int .i64 a)) (hy : ev σ y = some (.int .i64 b)) (h : In64 (a - b) := by exact ⟨by omega, by omega⟩) : YE P σ (.binOp .sub t x y t') ty w (.int .i64 (a - b)) := by have := y_sub_wrap (P := P) (w := w) (ty := ty) (t := t) (t' := t') hx hy; rwa [wrap_in h] at this
theorem y_mul (hx : ev σ x = some (.int .i64 a)) (hy : ev σ y = some (.int .i64 b)) (h : In64 (a * b) := by exact ⟨by omega, by omega⟩) : YE P σ (.binOp .mul t x y t') ty w (.int .i64 (a * b)) := by have := y_mul_wrap (P := P) (w := w) (ty := ty) (t := t) (t' := t') hx hy; rwa [wrap_in h] at this
theorem y_neg (hx : ev σ x = some (.int .i64 a)) (h : In64 (-a) := by exact ⟨by omega, by omega⟩) : YE P σ (.unOp .neg t x) ty w (.int .i64 (-a)) := by
  have := y_neg_wrap (P := P) (w := w) (ty := ty) (t := t) hx
  rwa [Int.zero_sub, wrap_in h] at this
/-- a numerator that is not negative, a positive divisor -/
theorem y_quo (hx : ev σ x = some (.int .i64 a)) (hy : ev σ y = some (.int .i64 b)) (ha : 0 ≤ a := by omega) (hb : 0 < b := by omega) (hm : a ≤ 9223372036854775807 := by omega) : YE P σ (.binOp .quo t x y t') ty w (.int .i64 (a / b)) := by
  have := y_quo_wrap (P := P) (w := w) (ty := ty) (t := t) (t' := t') hx hy (by omega)
  rw [Int.tdiv_eq_ediv_of_nonneg ha] at this
  have h1 : 0 ≤ a / b := Int.ediv_nonneg ha (by omega)
  have h2 : a / b ≤ a := Int.ediv_le_self b ha
  rwa [wrap_in ⟨by omega, by omega⟩] at this
theorem y_rem (hx : ev σ x = some (.int .i64 a)) (hy : ev σ y = some (.int .i64 b)) (ha : 0 ≤ a := by omega) (hb : b ≠ 0 := by omega) : YE P σ (.binOp .rem t x y t') ty w (.int .i64 (a % b)) := by
  have := y_rem_wrap (P := P) (w := w) (ty := ty) (t := t) (t' := t') hx hy hb
  rwa [Int.tmod_eq_emod_of_nonneg ha] at this
theorem y_lt (hx : ev σ x = some (.int k a)) (hy : ev σ y = some (.int k b)) : YE P σ (.binOp .lss t x y t') ty w (.bool (decide (a < b))) := ⟨fun w' _ ρ hρ => by simp [execOp, hρ _ _ hx, hρ _ _ hy, eqGuard, binOp, Op.intCmp]⟩
theorem y_le (hx : ev σ x = some (.int k a)) (hy : ev σ y = some (.int k b)) : YE P σ (.binOp .leq t x y t') ty w (.bool (decide (a ≤ b))) := ⟨fun w' _ ρ hρ => by simp [execOp, hρ _ _ hx, hρ _ _ hy, eqGuard, binOp, Op.intCmp]⟩
theorem y_gt (hx : ev σ x = some (.int k a)) (hy : ev σ y = some (.int k b)) : YE P σ (.binOp .gtr t x y t') ty w (.bool (decide (b < a))) := ⟨fun w' _ ρ hρ => by simp [execOp, hρ _ _ hx, hρ _ _ hy, eqGuard, binOp, Op.intCmp]⟩
theorem y_ge (hx : ev σ x = some (.int k a)) (hy : ev σ y = some (.int k b)) : YE P σ (.binOp .geq t x y t') ty w (.bool (decide (b ≤ a))) := ⟨fun w' _ ρ hρ => by simp [execOp, hρ _ _ hx, hρ _ _ hy, eqGuard, binOp, Op.intCmp]⟩
theorem y_eq (hx : ev σ x = some (.int k a)) (hy : ev σ y = some (.int k b)) : YE P σ (.binOp .eql t x y t') ty w (.bool (decide (a = b))) := ⟨fun w' _ ρ hρ => by
  have e : (a == b) = decide (a = b) := by by_cases h : a = b <;> simp [h]
  simp [execOp, hρ _ _ hx, hρ _ _ hy, eqGuard, binOp, Op.intCmp, e]⟩
theorem y_ne (hx : ev σ x = some (.int k a)) (hy : ev σ y = some (.int k b)) : YE P σ (.binOp .neq t x y t') ty w (.bool (decide (¬ a = b))) := ⟨fun w' _ ρ hρ => by
  have e : (a != b) = decide (¬ a = b) := by by_cases h : a = b <;> simp [h]
  simp [execOp, hρ _ _ hx, hρ _ _ hy, eqGuard, binOp, Op.intCmp, e]⟩
class TBool (P : Program) (T : TypeId) : Prop where
  und : P.underlying T = some .bool
theorem run_equal_bool [h : TBool P t] {w : World} (p q : Bool) : (Op.equal t (.bool p) (.bool q)).run P w = .ok (p == q) w := by
  have e : ∀ d, (Op.equalIn (d + 1) t (.bool p) (.bool q)).run P w = .ok (p == q) w := fun d => by simp [Op.equalIn, run_underlying h.und]
  exact e 9999
theorem y_eqb [TBool P t] {p q : Bool} (hx : ev σ x = some (.bool p)) (hy : ev σ y = some (.bool q)) : YE P σ (.binOp .eql t x y t') ty w (.bool (decide (p = q))) := ⟨fun w' _ ρ hρ => by
  have e : (p == q) = decide (p = q) := by cases p <;> cases q <;> rfl
  simp [execOp, hρ _ _ hx, hρ _ _ hy, eqGuard, binOp, run_equal_bool, e]⟩
theorem y_neb [TBool P t] {p q : Bool} (hx : ev σ x = some (.bool p)) (hy : ev σ y = some (.bool q)) : YE P σ (.binOp .neq t x y t') ty w (.bool (decide (¬ p = q))) := ⟨fun w' _ ρ hρ => by
  have e : (!(p == q)) = decide (¬ p = q) := by cases p <;> cases q <;> rfl
  simp only [execOp, hρ _ _ hx, hρ _ _ hy, eqGuard, binOp, run_equal_bool, Sem.run_bind, Sem.run_pure, Result.andThen_ok, e]
  rfl⟩
theorem y_not {b : Bool} (hx : ev σ x = some (.bool b)) : YE P σ (.unOp .not t x) ty w (.bool (!b)) := ⟨fun w' _ ρ hρ => by simp [execOp, hρ _ _ hx, Op.unary]⟩
theorem y_not_dec {p : Prop} {dp : Decidable p} (hx : ev σ x = some (.bool (decide p))) : YE P σ (.unOp .not t x) ty w (.bool (decide (¬ p))) := ⟨fun w' _ ρ hρ => by simp [execOp, hρ _ _ hx, Op.unary]⟩
theorem y_max {t1 t2 : TypeId} (hx : ev σ x = some (.int k a)) (hy : ev σ y = some (.int k b)) : YE P σ (.call { callee := .builtin .max, args := #[x, y], argTypes := #[t1, t2] }) ty w (.int k (max a b)) := ⟨fun w' _ ρ hρ => by
  have e : (if b > a then b else a) = max a b := by split <;> omega
  simp [execOp, resolve, hρ _ _ hx, hρ _ _ hy, invoke, builtin, Builtin.max_, Builtin.max2, e]⟩
theorem y_min {t1 t2 : TypeId} (hx : ev σ x = some (.int k a)) (hy : ev σ y = some (.int k b)) : YE P σ (.call { callee := .builtin .min, args := #[x, y], argTypes := #[t1, t2] }) ty w (.int k (min a b)) := ⟨fun w' _ ρ hρ => by
  have e : (if b < a then b else a) = min a b := by split <;> omega
  simp [execOp, resolve, hρ _ _ hx, hρ _ _ hy, invoke, builtin, Builtin.min_, Builtin.min2, e]⟩
theorem y_nil {ad : Addr} (hx : ev σ x = some (.pointer (some ad))) : YE P σ (.nilCheck x) ty w (.pointer (some ad)) := ⟨fun w' _ ρ hρ => by simp [execOp, hρ _ _ hx]⟩
theorem y_func {f : FuncId} {xs : List Operand} {vs : List Value} (hx : evs σ xs = some vs) : YE P σ (.makeFunc (.func f) #[] xs.toArray) ty w (.func (.func f) #[] vs.toArray) := ⟨fun w' _ ρ hρ => by
  have : ∀ (xs : List Operand) (vs : List Value), evs σ xs = some vs → xs.map ρ = vs := by
    intro xs
    induction xs with
    | nil => intro vs h; simp [evs] at h; simp [h]
    | cons x r ih =>
      intro vs h
      simp only [evs] at h
      split at h
      · rename_i v' vs' h1 h2
        simp only [Option.some.injEq] at h
        subst h
        simp [hρ _ _ h1, ih _ h2]
      · cases h
  simp [execOp, Instr.makeFunc, this _ _ hx]⟩
end

/-! ### Cells -/
abbrev ptr (b o : Nat) : Value := .pointer (some ⟨b, o, none⟩)
theorem add_lit (b o n : Nat) : (⟨b, o, none⟩ : Addr).add n = ⟨b, o + n, none⟩ := by unfold Addr.add; split <;> simp_all
/-- from place o of block b on lie the cells cs -/
structure At (w : World) (b o : Nat) (cs : List Value) : Prop where
  go : ∀ i v, cs[i]? = some v → w.cell? ⟨b, o + i, none⟩ = some v
theorem At.chg {lo hi : Nat} {w w' : World} {b o : Nat} {cs : List Value} (h : At w b o cs) (hx : Chg lo hi w w') (ho : b < lo ∨ hi ≤ b) : At w' b o cs := ⟨fun i v hv => hx.cell (h.go i v hv) ho⟩
theorem At.ext {w w' : World} {b o : Nat} {cs : List Value} (h : At w b o cs) (hx : Ext w w') : At w' b o cs := h.chg hx (.inr (Nat.zero_le _))
/-- block b is a variable of the call's own, with these cells -/
structure Box (w : World) (b : Nat) (cs : List Value) : Prop where
  go : ∃ e, w.heap[b]? = some (.cells cs.toArray e (0, 0))
theorem Box.lt {w : World} {b : Nat} {cs : List Value} (h : Box w b cs) : b < w.heap.size := by obtain ⟨e, h⟩ := h.go; exact (Array.getElem?_eq_some_iff.1 h).1
theorem Box.chg {lo hi : Nat} {w w' : World} {b : Nat} {cs : List Value} (h : Box w b cs) (hx : Chg lo hi w w') (ho : b < lo ∨ hi ≤ b) : Box w' b cs := by
  have := h.lt
  obtain ⟨e, h⟩ := h.go
  exact ⟨e, by rw [hx.block b this ho]; exact h⟩
theorem Box.ext {w w' : World} {b : Nat} {cs : List Value} (h : Box w b cs) (hx : Ext w w') : Box w' b cs := h.chg hx (.inr (Nat.zero_le _))
theorem Box.at {w : World} {b : Nat} {cs : List Value} (h : Box w b cs) : At w b 0 cs := by
  obtain ⟨e, h⟩ := h.go
  refine ⟨fun i v hv => ?_⟩
  simp only [World.cell?, h, Nat.zero_add]
  simpa using hv
theorem Box.free {w : World} {b : Nat} {cs : List Value} (h : Box w b cs) (o : Nat) : w.frozen? ⟨b, o, none⟩ = false := by
  obtain ⟨e, h⟩ := h.go
  simp [World.frozen?, h]

section
variable {P : Program} {N : Nat} {σ : Fm} {w : World} {T ty : TypeId} {x y : Operand} {v u : Value} {b o : Nat} {cs : List Value}
theorem run_loadCellsFrom {a : Addr} : ∀ (cs : List Value) (i : Nat) (acc : Array Value), (∀ j v, cs[j]? = some v → w.cell? (a.add (i + j)) = some v) →
    (loadCellsFrom a i cs.length acc).run P w = .ok (acc ++ cs.toArray) w
  | [], i, acc, _ => by simp [loadCellsFrom]
  | c :: r, i, acc, h => by
    have h0 := h 0 c (by simp)
    simp only [Nat.add_zero] at h0
    simp only [List.length_cons, loadCellsFrom, Sem.run_bind, run_load, h0, Result.andThen_ok]
    rw [run_loadCellsFrom r (i + 1) (acc.push c) (fun j v hv => by have := h (j + 1) v (by simpa using hv); rwa [show i + 1 + j = i + (j + 1) by omega])]
    simp
theorem run_loadCells {a : Addr} (h : ∀ j v, cs[j]? = some v → w.cell? (a.add j) = some v) : (loadCells a cs.length).run P w = .ok cs.toArray w := by
  have := run_loadCellsFrom (P := P) (w := w) (a := a) cs 0 #[] (by simpa using h)
  simpa [loadCells] using this
theorem run_load_scal [TScal P T] (h : At w b o [v]) : (loadVar T ⟨b, o, none⟩).run P w = .ok v w := by
  have h0 := h.go 0 v (by simp)
  simp only [Nat.add_zero] at h0
  simp [loadVar, isAgg_scal, h0]
theorem run_load_str {n : Nat} [hT : TStr P T n] (h : At w b o cs) (hn : cs.length = n) : (loadVar T ⟨b, o, none⟩).run P w = .ok (.agg cs.toArray) w := by
  subst hn
  have e : (loadCells ⟨b, o, none⟩ cs.length).run P w = .ok cs.toArray w := run_loadCells fun j v hv => by rw [add_lit]; exact h.go j v hv
  simp [loadVar, isAgg_str, run_size w hT.size, e]
theorem At.one (h : At w b 0 cs) (hk : cs[o]? = some v) : At w b o [v] := ⟨fun i u hu => by
  cases i with
  | zero => simp at hu; subst hu; have := h.go o v hk; simpa using this
  | succ i => simp at hu⟩
theorem At.part {k n : Nat} (h : At w b o cs) : At w b (o + k) ((cs.drop k).take n) := ⟨fun i u hu => by
  rw [List.getElem?_take] at hu
  split at hu
  · rw [List.getElem?_drop] at hu
    have := h.go _ _ hu
    rwa [← Nat.add_assoc] at this
  · cases hu⟩
theorem At.cell (h : At w b o cs) {k : Nat} (hk : cs[k]? = some v) : At w b (o + k) [v] := ⟨fun i u hu => by
  cases i with
  | zero => simp at hu; subst hu; have := h.go k v hk; simpa using this
  | succ i => simp at hu⟩

theorem y_load [TScal P T] (hx : ev σ x = some (ptr b o)) (h : At w b o [v] := by repeat (first | assumption | exact Go.Gw.Own.sl (by assumption) | exact Go.Gw.Box.at (by assumption) | exact Go.Gw.SLL.el (by first | assumption | exact Go.Gw.OwnD.sll (by assumption)) _ (by omega) | exact Go.Gw.SLL.at (by first | assumption | exact Go.Gw.OwnD.sll (by assumption)) (by omega) | exact Go.Gw.OwnD.sll (by assumption) | (apply Go.Gw.SL.chg; case hx => assumption) | (apply Go.Gw.Own.chg; case hx => assumption) | (apply Go.Gw.Box.chg; case hx => assumption) | (apply Go.Gw.At.chg; case hx => assumption) | exact .inl (Nat.zero_le _) | exact .inr (Nat.zero_le _) | (show _ ∨ _; omega))) : YE P σ (.load T x) ty w v := ⟨fun w' hw ρ hρ => by
  simp [execOp, hρ _ _ hx, Instr.loadAt, Instr.sureAddr, run_load_scal (h.ext hw)]⟩
theorem y_loads {n : Nat} [TStr P T n] (hx : ev σ x = some (ptr b o)) (h : At w b o cs := by repeat (first | assumption | exact Go.Gw.Own.sl (by assumption) | exact Go.Gw.Box.at (by assumption) | exact Go.Gw.SLL.el (by first | assumption | exact Go.Gw.OwnD.sll (by assumption)) _ (by omega) | exact Go.Gw.SLL.at (by first | assumption | exact Go.Gw.OwnD.sll (by assumption)) (by omega) | exact Go.Gw.OwnD.sll (by assumption) | (apply Go.Gw.SL.chg; case hx => assumption) | (apply Go.Gw.Own.chg; case hx => assumption) | (apply Go.Gw.Box.chg; case hx => assumption) | (apply Go.Gw.At.chg; case hx => assumption) | exact .inl (Nat.zero_le _) | exact .inr (Nat.zero_le _) | (show _ ∨ _; omega))) (hn : cs.length = n := by rfl) : YE P σ (.load T x) ty w (.agg cs.toArray) := ⟨fun w' hw ρ hρ => by
  simp [execOp, hρ _ _ hx, Instr.loadAt, Instr.sureAddr, run_load_str (h.ext hw) hn]⟩
theorem y_loadk [TScal P T] {k : Nat} (hx : ev σ x = some (ptr b (o + k))) (h : At w b o cs := by repeat (first | assumption | exact Go.Gw.Own.sl (by assumption) | exact Go.Gw.Box.at (by assumption) | exact Go.Gw.SLL.el (by first | assumption | exact Go.Gw.OwnD.sll (by assumption)) _ (by omega) | exact Go.Gw.SLL.at (by first | assumption | exact Go.Gw.OwnD.sll (by assumption)) (by omega) | exact Go.Gw.OwnD.sll (by assumption) | (apply Go.Gw.SL.chg; case hx => assumption) | (apply Go.Gw.Own.chg; case hx => assumption) | (apply Go.Gw.Box.chg; case hx => assumption) | (apply Go.Gw.At.chg; case hx => assumption) | exact .inl (Nat.zero_le _) | exact .inr (Nat.zero_le _) | (show _ ∨ _; omega))) (hk : cs[k]? = some v := by rfl) : YE P σ (.load T x) ty w v := y_load hx (h.cell hk)
/-- a field of one cell in a variable of the call's own -/
theorem y_load_box [TScal P T] (hx : ev σ x = some (ptr b o)) (h : Box w b cs := by repeat (first | assumption | exact Go.Gw.Own.sl (by assumption) | exact Go.Gw.Box.at (by assumption) | exact Go.Gw.SLL.el (by first | assumption | exact Go.Gw.OwnD.sll (by assumption)) _ (by omega) | exact Go.Gw.SLL.at (by first | assumption | exact Go.Gw.OwnD.sll (by assumption)) (by omega) | exact Go.Gw.OwnD.sll (by assumption) | (apply Go.Gw.SL.chg; case hx => assumption) | (apply Go.Gw.Own.chg; case hx => assumption) | (apply Go.Gw.Box.chg; case hx => assumption) | (apply Go.Gw.At.chg; case hx => assumption) | exact .inl (Nat.zero_le _) | exact .inr (Nat.zero_le _) | (show _ ∨ _; omega))) (hk : cs[o]? = some v := by rfl) : YE P σ (.load T x) ty w v := y_load hx (h.at.one hk)
/-- a whole struct -/
theorem y_load_boxs {n : Nat} [TStr P T n] (hx : ev σ x = some (ptr b 0)) (h : Box w b cs := by repeat (first | assumption | exact Go.Gw.Own.sl (by assumption) | exact Go.Gw.Box.at (by assumption) | exact Go.Gw.SLL.el (by first | assumption | exact Go.Gw.OwnD.sll (by assumption)) _ (by omega) | exact Go.Gw.SLL.at (by first | assumption | exact Go.Gw.OwnD.sll (by assumption)) (by omega) | exact Go.Gw.OwnD.sll (by assumption) | (apply Go.Gw.SL.chg; case hx => assumption) | (apply Go.Gw.Own.chg; case hx => assumption) | (apply Go.Gw.Box.chg; case hx => assumption) | (apply Go.Gw.At.chg; case hx => assumption) | exact .inl (Nat.zero_le _) | exact .inr (Nat.zero_le _) | (show _ ∨ _; omega))) (hn : cs.length = n := by rfl) : YE P σ (.load T x) ty w (.agg cs.toArray) := y_loads hx h.at hn
/-- a struct that is a field -/
theorem y_load_boxp {n : Nat} {ds : List Value} [TStr P T n] (hx : ev σ x = some (ptr b o)) (h : Box w b cs := by repeat (first | assumption | exact Go.Gw.Own.sl (by assumption) | exact Go.Gw.Box.at (by assumption) | exact Go.Gw.SLL.el (by first | assumption | exact Go.Gw.OwnD.sll (by assumption)) _ (by omega) | exact Go.Gw.SLL.at (by first | assumption | exact Go.Gw.OwnD.sll (by assumption)) (by omega) | exact Go.Gw.OwnD.sll (by assumption) | (apply Go.Gw.SL.chg; case hx => assumption) | (apply Go.Gw.Own.chg; case hx => assumption) | (apply Go.Gw.Box.chg; case hx => assumption) | (apply Go.Gw.At.chg; case hx => assumption) | exact .inl (Nat.zero_le _) | exact .inr (Nat.zero_le _) | (show _ ∨ _; omega))) (hd : (cs.drop o).take n = ds := by rfl) (hn : ds.length = n := by rfl) : YE P σ (.load T x) ty w (.agg ds.toArray) := y_loads hx (by have := h.at.part (k := o) (n := n); rw [Nat.zero_add, hd] at this; exact this) hn
theorem y_field {S k off : Nat} [hT : TFld P S k off] (hx : ev σ x = some (ptr b o)) : YE P σ (.fieldAddr S x k) ty w (ptr b (o + off)) := ⟨fun w' hw ρ hρ => by
  obtain ⟨fs, f, h1, h2, h3, n, h4⟩ := hT.und
  simp [execOp, hρ _ _ hx, Instr.fieldAt, run_underlying h1, h2, Instr.sureAddr, fieldPlace, run_size _ h4, add_lit, h3]⟩

/-! a struct that is a value -/
theorem y_fieldv [TScal P T] {S k off : Nat} (hx : ev σ x = some (.agg cs.toArray)) (hT : ∃ fs f, P.underlying S = some (.struct fs) ∧ fs[k]? = some f ∧ f.offset = off ∧ f.type = T) (hv : cs[off]? = some v) : YE P σ (.field S x k) ty w v := ⟨fun w' hw ρ hρ => by
  obtain ⟨fs, f, h1, h2, h3, h4⟩ := hT
  subst h3
  subst h4
  simp [execOp, hρ _ _ hx, Instr.field, run_underlying h1, h2, asAgg, Go.part, isAgg_scal, hv]⟩
class TFldT (P : Program) (S : TypeId) (k : Nat) (off T : outParam Nat) : Prop where
  und : ∃ fs f, P.underlying S = some (.struct fs) ∧ fs[k]? = some f ∧ f.offset = off ∧ f.type = T
theorem y_fld {S k off T : Nat} [hT : TFldT P S k off T] [TScal P T] (hx : ev σ x = some (.agg cs.toArray)) (hv : cs[off]? = some v := by rfl) : YE P σ (.field S x k) ty w v := y_fieldv (T := T) hx hT.und hv
theorem y_flds {S k off T n : Nat} {ds : List Value} [hT : TFldT P S k off T] [hs : TStr P T n] (hx : ev σ x = some (.agg cs.toArray)) (hd : (cs.drop off).take n = ds := by rfl) : YE P σ (.field S x k) ty w (.agg ds.toArray) := ⟨fun w' hw ρ hρ => by
  subst hd
  obtain ⟨fs, f, h1, h2, h3, h4⟩ := hT.und
  subst h4
  have e : cs.toArray.extract f.offset (f.offset + n) = ((cs.drop off).take n).toArray := by
    subst h3
    apply Array.ext'
    simp [List.take_drop, List.extract_eq_take_drop]
  simp [execOp, hρ _ _ hx, Instr.field, run_underlying h1, h2, asAgg, Go.part, isAgg_str, run_size w' hs.size, e, h3]⟩
end
end Go.Gw

namespace Go.Gw
open Go
set_option linter.unusedVariables false
set_option linter.unusedSimpArgs false

/-! ### Elements -/
class Enc (α : Type) where
  sz : Nat
  enc : α → List Value
  len : ∀ x, (enc x).length = sz
  one : ∀ x, ∀ v ∈ enc x, v.oneCell' = true
  pos : 0 < sz
  dec : Value → Option α
  dec_ok : ∀ v x, dec v = some x → v.cells.toList = enc x
def decInt : Value → Option Int
  | .int .i64 n => some n
  | _ => none
/-- a string by its bytes -/
abbrev str (l : List UInt8) : Value := .string ⟨l.toArray⟩
def decStr : Value → Option (List UInt8)
  | .string s => some s.data.toList
  | _ => none
def decPair : Value → Option (Int × Int)
  | .agg ⟨[.int .i64 a, .int .i64 b]⟩ => some (a, b)
  | _ => none
instance : Enc Int := ⟨1, fun n => [.int .i64 n], fun _ => rfl, fun _ v hv => by simp at hv; subst hv; rfl, Nat.one_pos, decInt, fun v x h => by
  unfold decInt at h; split at h
  · cases h; rfl
  · cases h⟩
instance : Enc UInt8 := ⟨1, fun b => [.int .u8 b.toNat], fun _ => rfl, fun _ v hv => by simp at hv; subst hv; rfl, Nat.one_pos, fun _ => none, fun v x h => by cases h⟩
instance : Enc (List UInt8) := ⟨1, fun s => [str s], fun _ => rfl, fun _ v hv => by simp at hv; subst hv; rfl, Nat.one_pos, decStr, fun v x h => by
  unfold decStr at h; split at h
  · cases h; rfl
  · cases h⟩
/-- a slice that is an element -/
structure SV where
  a : Option Addr
  n : Nat
  c : Nat
def SV.v (s : SV) : Value := .slice s.a s.n s.c
/-- elements that are slices, or structs of one slice -/
class TSvE (P : Program) (e : TypeId) : Prop where
  yes : True
def decSV : Value → Option SV
  | .slice a n c => some ⟨a, n, c⟩
  | .agg ⟨[.slice a n c]⟩ => some ⟨a, n, c⟩
  | _ => none
instance : Enc SV := ⟨1, fun s => [s.v], fun _ => rfl, fun _ v hv => by simp at hv; subst hv; rfl, Nat.one_pos, decSV, fun v x h => by
  unfold decSV at h; split at h
  · cases h; rfl
  · cases h; rfl
  · cases h⟩
instance : Enc (Int × Int) := ⟨2, fun p => [.int .i64 p.1, .int .i64 p.2], fun _ => rfl, fun _ v hv => by simp at hv; rcases hv with rfl | rfl <;> rfl, by decide, decPair, fun v x h => by
  unfold decPair at h; split at h
  · cases h; rfl
  · cases h⟩

def sb : Value → Nat
  | .slice (some a) _ _ => a.block
  | _ => 0
def so : Value → Nat
  | .slice (some a) _ _ => a.off
  | _ => 0

/-- v is a slice; its elements read as xs; they lie in a block from lo up to hi, and may be written. -/
structure SL {α : Type} [Enc α] (w : World) (lo hi : Nat) (v : Value) (xs : List α) : Prop where
  form : ∃ a cap, v = .slice a xs.length cap ∧ xs.length ≤ cap ∧ cap ≤ maxLen ∧ (0 < xs.length → a = some ⟨sb v, so v, none⟩)
  el : ∀ i x, xs[i]? = some x → At w (sb v) (so v + i * Enc.sz α) (Enc.enc x)
  inn : 0 < xs.length → lo ≤ sb v ∧ sb v < hi
  top : hi ≤ w.heap.size
  free : ∀ i, i < xs.length * Enc.sz α → w.frozen? ⟨sb v, so v + i, none⟩ = false

section
variable {α : Type} {E : Enc α} {w w' : World} {lo hi : Nat} {v : Value} {xs : List α}
theorem SL.len_le (h : SL w lo hi v xs) : xs.length ≤ maxLen := by obtain ⟨a, c, _, h1, h2, _⟩ := h.form; omega
theorem SL.small (h : SL w lo hi v xs) : (xs.length : Int) ≤ 9223372036854775807 := by have := h.len_le; unfold maxLen at this; omega
theorem SL.chg {l k : Nat} (h : SL w lo hi v xs) (hx : Chg l k w w') (ho : k ≤ lo ∨ hi ≤ l) : SL w' lo hi v xs := by
  refine ⟨h.form, fun i x hi => ?_, h.inn, Nat.le_trans h.top hx.size, fun i hi => ?_⟩
  · have hl := (List.getElem?_eq_some_iff.1 hi).1
    have := h.inn (by omega)
    exact (h.el i x hi).chg hx (by omega)
  · have h0 : 0 < xs.length := by rcases Nat.eq_zero_or_pos xs.length with e | e; (rw [e] at hi; omega); exact e
    have := h.inn h0
    have := h.top
    rw [hx.frozen (by show sb v < _; omega) (by show sb v < l ∨ k ≤ sb v; omega)]
    exact h.free i hi
theorem SL.ext (h : SL w lo hi v xs) (hx : Ext w w') : SL w' lo hi v xs := h.chg hx (.inl (Nat.zero_le _))
theorem SL.wide {lo' hi' : Nat} (h : SL w lo hi v xs) (h1 : lo' ≤ lo) (h2 : hi ≤ hi') (h3 : hi' ≤ w.heap.size) : SL w lo' hi' v xs :=
  ⟨h.form, h.el, fun h0 => by have := h.inn h0; omega, h3, h.free⟩
theorem SL.block (h : SL w lo hi v xs) (h0 : 0 < xs.length) : lo ≤ sb v ∧ sb v < hi := h.inn h0
end

section
variable {P : Program} {N : Nat} {σ : Fm} {w w' : World} {T ty : TypeId} {x y : Operand} {v u : Value} {α : Type} {E : Enc α} {lo hi : Nat} {xs : List α}
theorem y_len {e s b : Nat} [hT : TSli P T e s b] (hx : ev σ x = some v) (h : SL w lo hi v xs := by repeat (first | assumption | exact Go.Gw.Own.sl (by assumption) | exact Go.Gw.Box.at (by assumption) | exact Go.Gw.SLL.el (by first | assumption | exact Go.Gw.OwnD.sll (by assumption)) _ (by omega) | exact Go.Gw.SLL.at (by first | assumption | exact Go.Gw.OwnD.sll (by assumption)) (by omega) | exact Go.Gw.OwnD.sll (by assumption) | (apply Go.Gw.SL.chg; case hx => assumption) | (apply Go.Gw.Own.chg; case hx => assumption) | (apply Go.Gw.Box.chg; case hx => assumption) | (apply Go.Gw.At.chg; case hx => assumption) | exact .inl (Nat.zero_le _) | exact .inr (Nat.zero_le _) | (show _ ∨ _; omega))) : YE P σ (.call { callee := .builtin .len, args := #[x], argTypes := #[T] }) ty w (.int .i64 xs.length) := ⟨fun w' hw ρ hρ => by
  obtain ⟨a, c, hv, _⟩ := h.form
  simp only [execOp, resolve, Sem.run_bind, Sem.run_pure, Result.andThen_ok, invoke, builtin, List.map_toArray, List.map_cons, List.map_nil, hρ _ _ hx]
  rw [hv]
  simp [Builtin.len_, run_underlying hT.und, goInt]⟩
theorem y_index {e s b : Nat} {k : IntKind} {i : Int} [hT : TSli P T e s b] (hx : ev σ x = some v) (hy : ev σ y = some (.int k i)) (h : SL w lo hi v xs := by repeat (first | assumption | exact Go.Gw.Own.sl (by assumption) | exact Go.Gw.Box.at (by assumption) | exact Go.Gw.SLL.el (by first | assumption | exact Go.Gw.OwnD.sll (by assumption)) _ (by omega) | exact Go.Gw.SLL.at (by first | assumption | exact Go.Gw.OwnD.sll (by assumption)) (by omega) | exact Go.Gw.OwnD.sll (by assumption) | (apply Go.Gw.SL.chg; case hx => assumption) | (apply Go.Gw.Own.chg; case hx => assumption) | (apply Go.Gw.Box.chg; case hx => assumption) | (apply Go.Gw.At.chg; case hx => assumption) | exact .inl (Nat.zero_le _) | exact .inr (Nat.zero_le _) | (show _ ∨ _; omega))) (hi : 0 ≤ i ∧ i < xs.length := by first | omega | (simp only [List.length_set]; omega) | (simp only [List.length_set, List.length_append, List.length_cons, List.length_nil]; omega)) : YE P σ (.indexAddr T x y) ty w (ptr (sb v) (so v + i.toNat * s)) := ⟨fun w' hw ρ hρ => by
  obtain ⟨a, c, hv, _, _, ha⟩ := h.form
  have ha := ha (by omega)
  subst ha
  have h2 : 0 ≤ i ∧ i < (xs.length : Int) := hi
  simp only [execOp, Sem.run_bind, Sem.run_pure, hρ _ _ hx, hρ _ _ hy]
  rw [hv]
  simp [Instr.indexAt, asIntOf, run_underlying hT.und, h2, run_size _ hT.size, add_lit, sb, so]⟩
/-- an element of one cell -/
theorem y_load_el [TScal P T] {n : Nat} {d : α} (hx : ev σ x = some (ptr (sb v) (so v + n * Enc.sz α))) (h : SL w lo hi v xs) (hn : n < xs.length) (hu : Enc.enc (xs.getD n d) = [u]) : YE P σ (.load T x) ty w u := by
  have hel := h.el n (xs.getD n d) (by rw [List.getD_eq_getElem?_getD, List.getElem?_eq_getElem hn]; rfl)
  rw [hu] at hel
  exact y_load hx hel
/-- a field of one cell of an element -/
theorem y_load_elf [TScal P T] {n k s : Nat} {d : α} (hx : ev σ x = some (ptr (sb v) (so v + n * s + k))) (h : SL w lo hi v xs := by repeat (first | assumption | exact Go.Gw.Own.sl (by assumption) | exact Go.Gw.Box.at (by assumption) | exact Go.Gw.SLL.el (by first | assumption | exact Go.Gw.OwnD.sll (by assumption)) _ (by omega) | exact Go.Gw.SLL.at (by first | assumption | exact Go.Gw.OwnD.sll (by assumption)) (by omega) | exact Go.Gw.OwnD.sll (by assumption) | (apply Go.Gw.SL.chg; case hx => assumption) | (apply Go.Gw.Own.chg; case hx => assumption) | (apply Go.Gw.Box.chg; case hx => assumption) | (apply Go.Gw.At.chg; case hx => assumption) | exact .inl (Nat.zero_le _) | exact .inr (Nat.zero_le _) | (show _ ∨ _; omega))) (hs : s = Enc.sz α := by rfl) (hn : n < xs.length := by first | omega | (simp only [List.length_set]; omega) | (simp only [List.length_set, List.length_append, List.length_cons, List.length_nil]; omega)) (hu : (Enc.enc (xs.getD n d))[k]? = some u := by rfl) : YE P σ (.load T x) ty w u := by
  have hel := h.el n (xs.getD n d) (by rw [List.getD_eq_getElem?_getD, List.getElem?_eq_getElem hn]; rfl)
  subst hs
  exact y_load hx (hel.cell hu)
/-- an element that is a struct -/
theorem y_load_els {n m s : Nat} {d : α} [TStr P T m] (hx : ev σ x = some (ptr (sb v) (so v + n * s))) (h : SL w lo hi v xs := by repeat (first | assumption | exact Go.Gw.Own.sl (by assumption) | exact Go.Gw.Box.at (by assumption) | exact Go.Gw.SLL.el (by first | assumption | exact Go.Gw.OwnD.sll (by assumption)) _ (by omega) | exact Go.Gw.SLL.at (by first | assumption | exact Go.Gw.OwnD.sll (by assumption)) (by omega) | exact Go.Gw.OwnD.sll (by assumption) | (apply Go.Gw.SL.chg; case hx => assumption) | (apply Go.Gw.Own.chg; case hx => assumption) | (apply Go.Gw.Box.chg; case hx => assumption) | (apply Go.Gw.At.chg; case hx => assumption) | exact .inl (Nat.zero_le _) | exact .inr (Nat.zero_le _) | (show _ ∨ _; omega))) (hs : s = Enc.sz α := by rfl) (hn : n < xs.length := by first | omega | (simp only [List.length_set]; omega) | (simp only [List.length_set, List.length_append, List.length_cons, List.length_nil]; omega)) (hm : Enc.sz α = m := by rfl) : YE P σ (.load T x) ty w (.agg (Enc.enc (xs.getD n d)).toArray) := by
  have hel := h.el n (xs.getD n d) (by rw [List.getD_eq_getElem?_getD, List.getElem?_eq_getElem hn]; rfl)
  subst hs
  exact y_loads hx hel (by rw [Enc.len, hm])
end

/-! ### The same for the kinds of elements at hand -/
section
variable {P : Program} {N : Nat} {σ : Fm} {w w' : World} {T ty : TypeId} {x y : Operand} {v u : Value} {lo hi : Nat}
theorem y_load_int [TScal P T] {n : Nat} {xs : List Int} (hx : ev σ x = some (ptr (sb v) (so v + n * 1))) (h : SL w lo hi v xs := by repeat (first | assumption | exact Go.Gw.Own.sl (by assumption) | exact Go.Gw.Box.at (by assumption) | exact Go.Gw.SLL.el (by first | assumption | exact Go.Gw.OwnD.sll (by assumption)) _ (by omega) | exact Go.Gw.SLL.at (by first | assumption | exact Go.Gw.OwnD.sll (by assumption)) (by omega) | exact Go.Gw.OwnD.sll (by assumption) | (apply Go.Gw.SL.chg; case hx => assumption) | (apply Go.Gw.Own.chg; case hx => assumption) | (apply Go.Gw.Box.chg; case hx => assumption) | (apply Go.Gw.At.chg; case hx => assumption) | exact .inl (Nat.zero_le _) | exact .inr (Nat.zero_le _) | (show _ ∨ _; omega))) (hn : n < xs.length := by first | omega | (simp only [List.length_set]; omega) | (simp only [List.length_set, List.length_append, List.length_cons, List.length_nil]; omega)) : YE P σ (.load T x) ty w (.int .i64 (xs.getD n 0)) := y_load_el hx h hn rfl
theorem y_load_inte [TScal P T] {n : Nat} {xs : List Int} {a : Int} (hx : ev σ x = some (ptr (sb v) (so v + n * 1))) (hg : xs.getD n 0 = a) (h : SL w lo hi v xs := by repeat (first | assumption | exact Go.Gw.Own.sl (by assumption) | exact Go.Gw.Box.at (by assumption) | exact Go.Gw.SLL.el (by first | assumption | exact Go.Gw.OwnD.sll (by assumption)) _ (by omega) | exact Go.Gw.SLL.at (by first | assumption | exact Go.Gw.OwnD.sll (by assumption)) (by omega) | exact Go.Gw.OwnD.sll (by assumption) | (apply Go.Gw.SL.chg; case hx => assumption) | (apply Go.Gw.Own.chg; case hx => assumption) | (apply Go.Gw.Box.chg; case hx => assumption) | (apply Go.Gw.At.chg; case hx => assumption) | exact .inl (Nat.zero_le _) | exact .inr (Nat.zero_le _) | (show _ ∨ _; omega))) (hn : n < xs.length := by first | omega | (simp only [List.length_set]; omega) | (simp only [List.length_set, List.length_append, List.length_cons, List.length_nil]; omega)) : YE P σ (.load T x) ty w (.int .i64 a) := by subst hg; exact y_load_el hx h hn rfl
theorem y_load_u8 [TScal P T] {n : Nat} {xs : List UInt8} (hx : ev σ x = some (ptr (sb v) (so v + n * 1))) (h : SL w lo hi v xs := by repeat (first | assumption | exact Go.Gw.Own.sl (by assumption) | exact Go.Gw.Box.at (by assumption) | exact Go.Gw.SLL.el (by first | assumption | exact Go.Gw.OwnD.sll (by assumption)) _ (by omega) | exact Go.Gw.SLL.at (by first | assumption | exact Go.Gw.OwnD.sll (by assumption)) (by omega) | exact Go.Gw.OwnD.sll (by assumption) | (apply Go.Gw.SL.chg; case hx => assumption) | (apply Go.Gw.Own.chg; case hx => assumption) | (apply Go.Gw.Box.chg; case hx => assumption) | (apply Go.Gw.At.chg; case hx => assumption) | exact .inl (Nat.zero_le _) | exact .inr (Nat.zero_le _) | (show _ ∨ _; omega))) (hn : n < xs.length := by first | omega | (simp only [List.length_set]; omega) | (simp only [List.length_set, List.length_append, List.length_cons, List.length_nil]; omega)) : YE P σ (.load T x) ty w (.int .u8 (xs.getD n 0).toNat) := y_load_el hx h hn rfl
theorem y_load_str [TScal P T] {n : Nat} {xs : List (List UInt8)} (hx : ev σ x = some (ptr (sb v) (so v + n * 1))) (h : SL w lo hi v xs := by repeat (first | assumption | exact Go.Gw.Own.sl (by assumption) | exact Go.Gw.Box.at (by assumption) | exact Go.Gw.SLL.el (by first | assumption | exact Go.Gw.OwnD.sll (by assumption)) _ (by omega) | exact Go.Gw.SLL.at (by first | assumption | exact Go.Gw.OwnD.sll (by assumption)) (by omega) | exact Go.Gw.OwnD.sll (by assumption) | (apply Go.Gw.SL.chg; case hx => assumption) | (apply Go.Gw.Own.chg; case hx => assumption) | (apply Go.Gw.Box.chg; case hx => assumption) | (apply Go.Gw.At.chg; case hx => assumption) | exact .inl (Nat.zero_le _) | exact .inr (Nat.zero_le _) | (show _ ∨ _; omega))) (hn : n < xs.length := by first | omega | (simp only [List.length_set]; omega) | (simp only [List.length_set, List.length_append, List.length_cons, List.length_nil]; omega)) : YE P σ (.load T x) ty w (str (xs.getD n [])) := y_load_el hx h hn rfl
end

/-! ### Slices of the call's own -/
def bL : Value → Nat := sb
def bH : Value → Nat
  | .slice (some a) _ _ => a.block + 1
  | _ => 0
/-- v is a slice that has a block of its own, from B on (or nil): its elements are xs -/
structure Own {α : Type} [Enc α] (w : World) (e : TypeId) (B : Nat) (v : Value) (xs : List α) : Prop where
  go : w.ownsRow B e (Enc.sz α) v xs.length (xs.flatMap Enc.enc)

section
variable {α : Type} {E : Enc α} {w w' : World} {e : TypeId} {B : Nat} {v : Value} {xs : List α}
theorem flat_len (xs : List α) : (xs.flatMap Enc.enc).length = xs.length * Enc.sz α := by
  induction xs with
  | nil => simp
  | cons x r ih => simp only [List.flatMap_cons, List.length_append, ih, Enc.len, List.length_cons, Nat.add_mul, Nat.one_mul]; omega
theorem flat_get (xs : List α) : ∀ (i : Nat) (x : α) (j : Nat) (u : Value), xs[i]? = some x → (Enc.enc x)[j]? = some u → (xs.flatMap Enc.enc)[i * Enc.sz α + j]? = some u := by
  induction xs with
  | nil => intro i x j u hx; simp at hx
  | cons y r ih =>
    intro i x j u hx hu
    simp only [List.flatMap_cons]
    cases i with
    | zero =>
      simp at hx
      subst hx
      have hj : j < (Enc.enc y).length := (List.getElem?_eq_some_iff.1 hu).1
      rw [Nat.zero_mul, Nat.zero_add, List.getElem?_append_left hj]
      exact hu
    | succ i =>
      have e : (i + 1) * Enc.sz α + j = (Enc.enc y).length + (i * Enc.sz α + j) := by rw [Enc.len, Nat.add_mul, Nat.one_mul]; omega
      rw [e, List.getElem?_append_right (by omega), Nat.add_sub_cancel_left]
      exact ih i x j u (by simpa using hx) hu
theorem Own.lt (h : Own w e B v xs) : (bH v = 0 ∧ bL v = 0) ∨ (B ≤ bL v ∧ bL v < w.heap.size ∧ bH v = bL v + 1) := by
  rcases h.go.2 with ⟨rfl, _⟩ | ⟨g, cap, cur, rfl, hb, hg, _⟩
  · exact .inl ⟨rfl, rfl⟩
  · exact .inr ⟨hb, (Array.getElem?_eq_some_iff.1 hg).1, rfl⟩
theorem Own.sl (h : Own w e B v xs) : SL w (bL v) (bH v) v xs := by
  rcases h.go with ⟨hlen, ⟨rfl, hn⟩ | ⟨g, cap, cur, rfl, hb, hg, hnc, hcm, hcs, htk⟩⟩
  · have : xs = [] := List.eq_nil_of_length_eq_zero hn
    subst this
    exact ⟨⟨none, 0, rfl, Nat.le_refl _, Nat.zero_le _, fun h => by simp at h⟩, fun i x hi => by simp at hi, fun h => by simp at h, Nat.zero_le _, fun i hi => by simp at hi⟩
  · refine ⟨⟨_, cap, rfl, hnc, hcm, fun _ => rfl⟩, fun i x hx => ⟨fun j u hu => ?_⟩, fun _ => ⟨Nat.le_refl _, Nat.lt_succ_self _⟩, (Array.getElem?_eq_some_iff.1 hg).1, fun i hi => ?_⟩
    · show w.cell? ⟨g, 0 + i * Enc.sz α + j, none⟩ = some u
      have hf := flat_get xs i x j u hx hu
      rw [← htk, List.getElem?_take] at hf
      simp only [World.cell?, hg, Nat.zero_add]
      split at hf
      · simpa using hf
      · cases hf
    · show w.frozen? ⟨g, 0 + i, none⟩ = false
      simp [World.frozen?, hg]
theorem Own.chg {l k : Nat} (h : Own w e B v xs) (hx : Chg l k w w') (ho : k ≤ bL v ∨ bH v ≤ l) : Own w' e B v xs := by
  rcases h.go with ⟨hlen, hn | ⟨g, cap, cur, rfl, hb, hg, rest⟩⟩
  · exact ⟨hlen, .inl hn⟩
  · refine ⟨hlen, .inr ⟨g, cap, cur, rfl, hb, ?_, rest⟩⟩
    rw [hx.block g (Array.getElem?_eq_some_iff.1 hg).1 (by simp only [bL, bH, sb] at ho; omega)]
    exact hg
theorem Own.ext (h : Own w e B v xs) (hx : Ext w w') : Own w' e B v xs := h.chg hx (.inl (Nat.zero_le _))
theorem Own.base {B' : Nat} (h : Own w e B v xs) (hb : B' ≤ B) : Own w e B' v xs := by
  rcases h.go with ⟨hlen, hn | ⟨g, cap, cur, rfl, hb', rest⟩⟩
  · exact ⟨hlen, .inl hn⟩
  · exact ⟨hlen, .inr ⟨g, cap, cur, rfl, by omega, rest⟩⟩
/-- what is its own lies between the worlds -/
theorem Own.fresh (h : Own w e B v xs) : SL w B w.heap.size v xs := by
  have hs := h.sl
  refine ⟨hs.form, hs.el, fun h0 => ?_, Nat.le_refl _, hs.free⟩
  rcases h.go.2 with ⟨rfl, hz⟩ | ⟨g, cap, cur, rfl, hb, hg, _⟩
  · omega
  · exact ⟨hb, (Array.getElem?_eq_some_iff.1 hg).1⟩
/-- a better bound, where the block is known to lie higher -/
theorem Own.rebase {B' : Nat} (h : Own w e B v xs) (hb : bH v = 0 ∨ B' ≤ bL v) : Own w e B' v xs := by
  rcases h.go with ⟨hlen, hn | ⟨g, cap, cur, rfl, hb', rest⟩⟩
  · exact ⟨hlen, .inl hn⟩
  · exact ⟨hlen, .inr ⟨g, cap, cur, rfl, by simp only [bL, bH, sb] at hb; omega, rest⟩⟩
theorem Own.nil (w : World) (e : TypeId) (B : Nat) : Own (α := α) w e B (.slice none 0 0) [] := ⟨by simpa using World.ownsRow_nil w B e (Enc.sz α)⟩
/-- Chg of the block alone -/
theorem chg_of_grown {P : Prop} (h : w.grownBy w' v.ownBlock) : Chg (bL v) (bH v) w w' :=
  ⟨h.os, h.tape, h.output, h.size, fun k hk ho => h.block k hk (by
    cases v with
    | slice a n c =>
      cases a with
      | none => simp [Value.ownBlock]
      | some ad => simp only [Value.ownBlock, bL, bH, sb] at ho ⊢; intro e; simp at e; omega
    | _ => simp [Value.ownBlock])⟩
end

/-! ### Values of one cell -/
def AllOne : List Value → Prop
  | [] => True
  | v :: r => v.oneCell' = true ∧ AllOne r
theorem AllOne.all : ∀ {vs : List Value}, AllOne vs → ∀ u ∈ vs, u.oneCell' = true
  | [], _, u, hu => by simp at hu
  | v :: r, ⟨h1, h2⟩, u, hu => by
    rcases List.mem_cons.1 hu with rfl | h
    · exact h1
    · exact h2.all u h
theorem SL.one {α : Type} {E : Enc α} {w : World} {lo hi : Nat} {v : Value} {xs : List α} (h : SL w lo hi v xs) : v.oneCell' = true := by
  obtain ⟨a, c, hv, _⟩ := h.form
  rw [hv]; rfl
theorem Own.one {α : Type} {E : Enc α} {w : World} {e : TypeId} {B : Nat} {v : Value} {xs : List α} (h : Own w e B v xs) : v.oneCell' = true := h.sl.one
theorem cells_one {u : Value} (h : u.oneCell' = true) : u.cells = #[u] := by cases u <;> first | rfl | simp [Value.oneCell'] at h

section
variable {P : Program} {N : Nat} {Q : Post} {σ : Fm} {w : World} {ops : Array Oper} {rest : List Oper} {ty T : TypeId} {pos : String} {af : Array Edge} {d : Nat} {v u : Value} {x y : Operand} {e s b : Nat}
variable {α : Type} [E : Enc α]

/-! ### New variables -/
theorem box_new (w : World) (cs : Array Value) (e : TypeId) : Box (w.alloc (.cells cs e)) w.heap.size cs.toList := ⟨e, by rw [heap_alloc_new]⟩
theorem w_alloc {z : Value} {cs : List Value} [hz : TZero P T z] (hc : z.cells = cs.toArray := by rfl) (hd : Nat.blt d N = true := by rfl)
    (k : ∀ b w', Box w' b cs → Ext w w' → w.heap.size ≤ b → w'.heap.size = b + 1 → W P N ops Q rest ((d, ptr b 0) :: σ) w') : W P N ops Q (⟨some d, .alloc T, ty, pos, af, none⟩ :: rest) σ w := by
  refine ⟨fun a ha => ?_⟩
  refine wpList_plain rfl fun K hK => ?_
  unfold Oper.wp
  have : (execOp a.eval ⟨some d, .alloc T, ty, pos, af, none⟩).run P w = .ok (.value (ptr w.heap.size 0)) (w.alloc (.cells z.cells T)) := by
    simp [execOp, Instr.alloc, run_zero w (z := z), newVar, newRow]
  rw [this, hc]
  exact hK _ _ ((k w.heap.size _ (box_new w cs.toArray _) (Chg.alloc w _) (Nat.le_refl _) (by simp)).go _ (ha.put hd _))
theorem w_box {cs : List Value} (hx : ev σ x = some v) (hc : v.cells = cs.toArray := by rfl) (hd : Nat.blt d N = true := by rfl)
    (k : ∀ b w', Box w' b cs → Ext w w' → w.heap.size ≤ b → w'.heap.size = b + 1 → W P N ops Q rest ((d, ptr b 0) :: σ) w') : W P N ops Q (⟨some d, .box T x, ty, pos, af, none⟩ :: rest) σ w := by
  refine ⟨fun a ha => ?_⟩
  refine wpList_plain rfl fun K hK => ?_
  unfold Oper.wp
  have : (execOp a.eval ⟨some d, .box T x, ty, pos, af, none⟩).run P w = .ok (.value (ptr w.heap.size 0)) (w.alloc (.cells v.cells T)) := by
    simp [execOp, Instr.box, ha.eval hx, newVar, newRow]
  rw [this, hc]
  exact hK _ _ ((k w.heap.size _ (box_new w cs.toArray _) (Chg.alloc w _) (Nat.le_refl _) (by simp)).go _ (ha.put hd _))

/-- of one cell -/
theorem w_box1 (hx : ev σ x = some v) (hu : v.oneCell' = true := by first | rfl | exact Go.Gw.SL.one (by assumption) | exact Go.Gw.Own.one (by assumption)) (hd : Nat.blt d N = true := by rfl)
    (k : ∀ b w', Box w' b [v] → Ext w w' → w.heap.size ≤ b → w'.heap.size = b + 1 → W P N ops Q rest ((d, ptr b 0) :: σ) w') : W P N ops Q (⟨some d, .box T x, ty, pos, af, none⟩ :: rest) σ w :=
  w_box hx (cells_one hu) hd k

/-! ### Stores into variables of the call's own -/

theorem setCell_box {cs : List Value} {b k : Nat} (h : Box w b cs) (hk : k < cs.length) (u : Value) : Box (w.setCell ⟨b, k, none⟩ u) b (cs.set k u) ∧ Chg b (b + 1) w (w.setCell ⟨b, k, none⟩ u) := by
  obtain ⟨e, hb⟩ := h.go
  have e1 := setCell_eq_setRow w b k cs.toArray e (0, 0) u hb
  rw [e1]
  refine ⟨⟨e, ?_⟩, ⟨rfl, rfl, rfl, by simp, fun j hj ho => setRow_other w b j _ (by omega)⟩⟩
  rw [setRow_heap w b _ _ e (0, 0) hb]
  simp
theorem w_store_box [hT : TScal P T] {b k : Nat} {cs cs' : List Value} (hx : ev σ x = some (ptr b k)) (hy : ev σ y = some u) (hu : u.oneCell' = true := by first | rfl | exact Go.Gw.SL.one (by assumption) | exact Go.Gw.Own.one (by assumption)) (h : Box w b cs := by repeat (first | assumption | exact Go.Gw.Own.sl (by assumption) | exact Go.Gw.Box.at (by assumption) | exact Go.Gw.SLL.el (by first | assumption | exact Go.Gw.OwnD.sll (by assumption)) _ (by omega) | exact Go.Gw.SLL.at (by first | assumption | exact Go.Gw.OwnD.sll (by assumption)) (by omega) | exact Go.Gw.OwnD.sll (by assumption) | (apply Go.Gw.SL.chg; case hx => assumption) | (apply Go.Gw.Own.chg; case hx => assumption) | (apply Go.Gw.Box.chg; case hx => assumption) | (apply Go.Gw.At.chg; case hx => assumption) | exact .inl (Nat.zero_le _) | exact .inr (Nat.zero_le _) | (show _ ∨ _; omega))) (hk : Nat.blt k cs.length = true := by rfl) (hset : cs.set k u = cs' := by dsimp only [Nat.reduceAdd, List.set])
    (next : ∀ w', Box w' b cs' → Chg b (b + 1) w w' → w'.heap.size = w.heap.size → W P N ops Q rest σ w') : W P N ops Q (⟨none, .store T x y, ty, pos, af, none⟩ :: rest) σ w := by
  subst hset
  have hk : k < cs.length := by simpa [Nat.blt_eq] using hk
  refine ⟨fun a ha => ?_⟩
  refine wpList_plain rfl fun K hK => ?_
  unfold Oper.wp
  have hc : w.cell? ⟨b, k, none⟩ = some cs[k] := by have := h.at.go k cs[k] (by simp [hk]); simpa using this
  have hcells : u.cells = #[u] := by cases u <;> first | rfl | simp [Value.oneCell'] at hu
  have : (execOp a.eval ⟨none, .store T x y, ty, pos, af, none⟩).run P w = .ok .skip (w.setCell ⟨b, k, none⟩ u) := by
    simp [execOp, ha.eval hx, ha.eval hy, Instr.storeAt, Instr.sureAddr, storeVar, run_size w hT.size, hcells, storeCells, run_store, hu, add_lit, hc, h.free]
  rw [this]
  obtain ⟨h1, h2⟩ := setCell_box h hk u
  exact hK _ _ ((next _ h1 h2 (by simp)).go _ (ha.put_none _))
theorem w_store_boxs {n : Nat} [hT : TStr P T n] {b : Nat} {cs vs : List Value} (hx : ev σ x = some (ptr b 0)) (hy : ev σ y = some (.agg vs.toArray)) (hu : AllOne vs := by repeat (first | exact trivial | refine ⟨by first | rfl | exact Go.Gw.SL.one (by assumption) | exact Go.Gw.Own.one (by assumption), ?_⟩)) (h : Box w b cs := by repeat (first | assumption | exact Go.Gw.Own.sl (by assumption) | exact Go.Gw.Box.at (by assumption) | exact Go.Gw.SLL.el (by first | assumption | exact Go.Gw.OwnD.sll (by assumption)) _ (by omega) | exact Go.Gw.SLL.at (by first | assumption | exact Go.Gw.OwnD.sll (by assumption)) (by omega) | exact Go.Gw.OwnD.sll (by assumption) | (apply Go.Gw.SL.chg; case hx => assumption) | (apply Go.Gw.Own.chg; case hx => assumption) | (apply Go.Gw.Box.chg; case hx => assumption) | (apply Go.Gw.At.chg; case hx => assumption) | exact .inl (Nat.zero_le _) | exact .inr (Nat.zero_le _) | (show _ ∨ _; omega))) (hn : vs.length = n := by rfl) (hl : cs.length = vs.length := by rfl)
    (next : ∀ w', Box w' b vs → Chg b (b + 1) w w' → w'.heap.size = w.heap.size → W P N ops Q rest σ w') : W P N ops Q (⟨none, .store T x y, ty, pos, af, none⟩ :: rest) σ w := by
  subst hn
  refine ⟨fun a ha => ?_⟩
  refine wpList_plain rfl fun K hK => ?_
  unfold Oper.wp
  obtain ⟨e, hb⟩ := h.go
  have hst := run_storeVar_row (P := P) w b e T cs.toArray vs.toArray hb (by simpa using hT.size) (by simpa using hl) (by simpa using hu.all)
  have : (execOp a.eval ⟨none, .store T x y, ty, pos, af, none⟩).run P w = .ok .skip (w.setRow b vs.toArray) := by
    simp [execOp, ha.eval hx, ha.eval hy, Instr.storeAt, Instr.sureAddr, hst]
  rw [this]
  exact hK _ _ ((next _ ⟨e, setRow_heap w b _ _ e (0, 0) hb⟩ ⟨rfl, rfl, rfl, by simp, fun j hj ho => setRow_other w b j _ (by omega)⟩ (by simp)).go _ (ha.put_none _))
end
end Go.Gw

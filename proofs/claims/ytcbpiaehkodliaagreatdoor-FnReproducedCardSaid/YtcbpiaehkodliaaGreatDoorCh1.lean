/- Rules, contracts and plain laws towards the law FnReproduced, part 1. -/
import Derived.Test.YtcbpiaehkodliaaGreatDoorRows
import Derived.WalkKit
import Derived.WalkLawsBesides
import Derived.WalkSpells
import Derived.BigQuiet
import Derived.Deep.LoopGhost
import Derived.ProofKit
import Derived.OpenShut
import Derived.Carry
import Derived.OrdersHeld
import Derived.Laws.IdiomStrings
import Derived.Laws.BytesArg
import Derived.Laws.StructEq
import Derived.Test.YtcbpiaehkodliaaGreatDoorChecked
import Derived.Lib.AppendZeros
import Derived.Lib.ItoaNum
import Derived.Shelf.Strings.Builder1
import Derived.Shelf.Strings.Builder2
import Derived.Shelf.Strings.OnBuilder
import Derived.Shelf.Small.Bits
import Derived.Shelf.Strconv.Itoa0
import Derived.Shelf.Strconv.Itoa1
import Derived.Shelf.LaysM
import Derived.Shelf.Strconv.Itoa2
import Derived.Shelf.Strconv.Itoa3
import Derived.Shelf.Strconv.Itoa4
import Derived.Shelf.Strconv.ParseIntEmpty
import Derived.Shelf.Strconv.Clone
import Derived.Shelf.Strconv.SyntaxError
import Derived.Shelf.LaysC
import Derived.Shelf.Strconv.ToError
import Derived.Shelf.Strconv.Lower
import Derived.Shelf.Strconv.ParseUint10
import Derived.Shelf.Strconv.ParseUint10Empty
import Derived.Shelf.Strconv.ParseUint10Any
import Derived.Shelf.Strconv.ParseInt10
import Derived.Shelf.Strconv.RangeError
import Derived.Shelf.Strconv.ToErrorRange
import Derived.Shelf.Strconv.ParseUintEmpty
import Derived.Shelf.Strconv.ParseUint10b64
import Derived.Shelf.Strconv.ParseUint10b32
import Derived.Shelf.Strconv.ParseUint10b16
import Derived.Shelf.Strconv.ParseUint10b8
import Derived.Shelf.Strconv.ParseUint10At
import Derived.Shelf.Strconv.ParseInt10At64
import Derived.Shelf.Strconv.ParseInt10At32
import Derived.Shelf.Strconv.ParseInt10At16
import Derived.Shelf.Strconv.ParseInt10At8
import Derived.Shelf.Strconv.ParseInt10All
import Derived.Shelf.Strconv.ParseIntPublic10
import Derived.Shelf.Strings.Search1
import Derived.Shelf.Strings.Search2
import Derived.Shelf.Strings.Search3
import Derived.Shelf.Strings.Cut
import Derived.Shelf.Strings.Count
import Derived.Shelf.Strings.Shaped
import Derived.Shelf.Strings.Prefix
import Derived.Shelf.Unicode.DecodeSlow
import Derived.Ground.SlsfProg
import Derived.Shelf.SlSortCmp.WholeK
import Derived.Shelf.SlSortCmp.NoneTotal
import Derived.Test.YtcbpiaehkodliaaGreatDoorProg
import Derived.Lib.LaidTab
import Derived.LaidMore
import Derived.Lib.Join
import Derived.Lib.ParseIntBTie
import Derived.WideLaws
import Derived.Stop.LaidErr
import Derived.ShutString
import Derived.ChangeOld
import Derived.Below
import Derived.Lay
import Derived.LaidOnce
import Derived.Stop.Joined
import Derived.SevenTiedAt
import Derived.Test.YtcbpiaehkodliaaGreatDoorCards
import Derived.Test.YtcbpiaehkodliaaGreatDoorTie
/- L4 -/
namespace Go.Gw
open Go

/-! ### Frames -/
abbrev Fm := List (Nat × Value)
def look : Fm → Nat → Option Value
  | [], _ => none
  | (k, v) :: r, t => match Nat.beq k t with
    | true => some v
    | false => look r t
def ev (σ : Fm) : Operand → Option Value
  | .tmp t => look σ t
  | .const v => some v
  | .global g => some (.pointer (some ⟨g, 0, none⟩))
  | .func f => some (.func (.func f) #[] #[])
def evs (σ : Fm) : List Operand → Option (List Value)
  | [] => some []
  | x :: r => match ev σ x, evs σ r with
    | some v, some vs => some (v :: vs)
    | _, _ => none
def args0 : Nat → List Value → Fm
  | _, [] => []
  | k, v :: r => (k, v) :: args0 (k + 1) r

structure Fr (N : Nat) (σ : Fm) (a : Act) : Prop where
  defers : a.defers = []
  size : a.tmps.size = N
  val : ∀ t v, look σ t = some v → a.tmps[t]? = some v

theorem look_cons (d : Nat) (v : Value) (σ : Fm) (t : Nat) : look ((d, v) :: σ) t = if d = t then some v else look σ t := by
  simp only [look]
  by_cases h : d = t
  · subst h; simp
  · have : Nat.beq d t = false := by
      cases hb : Nat.beq d t
      · rfl
      · exact absurd (Nat.eq_of_beq_eq_true hb) h
    simp [this, h]

theorem Fr.eval {N : Nat} {σ : Fm} {a : Act} (h : Fr N σ a) {x : Operand} {v : Value} (hx : ev σ x = some v) : a.eval x = v := by
  cases x with
  | tmp t =>
    have := h.val t v hx
    show a.tmps.getD t undef = v
    rw [Array.getD_eq_getD_getElem?, this]; rfl
  | const c => exact Option.some.inj hx
  | global g => exact Option.some.inj hx
  | func f => exact Option.some.inj hx

theorem Fr.put {N : Nat} {σ : Fm} {a : Act} (h : Fr N σ a) {d : Nat} (hd : Nat.blt d N = true) (v : Value) : Fr N ((d, v) :: σ) (a.put (some d) v) := by
  have hd' : d < N := by simpa [Nat.blt_eq] using hd
  refine ⟨h.defers, ?_, ?_⟩
  · simp only [Act.put, Array.size_setIfInBounds]; exact h.size
  · intro t u hu
    rw [look_cons] at hu
    simp only [Act.put]
    by_cases e : d = t
    · subst e
      simp only [if_true, Option.some.injEq] at hu
      subst hu
      rw [Array.getElem?_setIfInBounds]
      simp [h.size, hd']
    · rw [if_neg e] at hu
      rw [Array.getElem?_setIfInBounds_ne e]
      exact h.val t u hu

theorem Fr.put_none {N : Nat} {σ : Fm} {a : Act} (h : Fr N σ a) (v : Value) : Fr N σ (a.put none v) := h

/-- 's' holds in 'σ'. -/
def Sub : Fm → Fm → Prop
  | [], _ => True
  | p :: r, σ => look σ p.1 = some p.2 ∧ Sub r σ
theorem Sub.look {s σ : Fm} (h : Sub s σ) : ∀ t v, look s t = some v → look σ t = some v := by
  induction s with
  | nil => intro t v hv; simp [Gw.look] at hv
  | cons p r ih =>
    intro t v hv
    obtain ⟨h1, h2⟩ := h
    obtain ⟨k, u⟩ := p
    rw [look_cons] at hv
    split at hv
    · rename_i e; subst e; rw [← hv]; exact h1
    · exact ih h2 t v hv
theorem Fr.sub {N : Nat} {s σ : Fm} {a : Act} (h : Fr N σ a) (hs : Sub s σ) : Fr N s a := ⟨h.defers, h.size, fun t v hv => h.val t v (hs.look t v hv)⟩

/-! ### The forms of a goal -/
abbrev Post := Exit → Act → World → Prop
structure W (P : Program) (N : Nat) (ops : Array Oper) (Q : Post) (l : List Oper) (σ : Fm) (w : World) : Prop where
  go : ∀ a, Fr N σ a → wpList P ops Q l a w
structure C (P : Program) (N : Nat) (c : Code) (Q : Post) (σ : Fm) (w : World) : Prop where
  go : ∀ a, Fr N σ a → c.wp P Q a w
structure X (N : Nat) (e : Exit) (Q : Post) (σ : Fm) (w : World) : Prop where
  go : ∀ a, Fr N σ a → Q e a w

section
variable {P : Program} {N : Nat} {Q : Post} {σ : Fm} {w : World} {ops : Array Oper}

theorem C.sub {c : Code} (s : Fm) (hs : Sub s σ) (h : C P N c Q s w) : C P N c Q σ w := ⟨fun a ha => h.go a (ha.sub hs)⟩
theorem W.sub {l : List Oper} (s : Fm) (hs : Sub s σ) (h : W P N ops Q l s w) : W P N ops Q l σ w := ⟨fun a ha => h.go a (ha.sub hs)⟩
theorem X.sub {e : Exit} (s : Fm) (hs : Sub s σ) (h : X N e Q s w) : X N e Q σ w := ⟨fun a ha => h.go a (ha.sub hs)⟩

theorem args0_look (vs : List Value) : ∀ k t v, look (args0 k vs) t = some v → k ≤ t ∧ vs[t - k]? = some v := by
  induction vs with
  | nil => intro k t v h; simp [args0, look] at h
  | cons x r ih =>
    intro k t v h
    simp only [args0] at h
    rw [look_cons] at h
    split at h
    · rename_i e; subst e; simp at h; subst h; simp
    · obtain ⟨h1, h2⟩ := ih (k + 1) t v h
      refine ⟨by omega, ?_⟩
      have : t - k = (t - (k + 1)) + 1 := by omega
      rw [this]; simpa using h2

/-- Into a function. -/
theorem enter {f : FuncId} {fn : Func} {c : Code} {vs : List Value} {R : Ending → World → Prop} (hf : P.funcs[f]? = some fn) (hb : fn.body = some c) (hn : fn.ntmps = N) (hs : Nat.ble vs.length N = true)
    (h : C P N c (bodyPost P fn R) (args0 0 vs) w) : Calls P f vs.toArray w R := by
  have hs' : vs.length ≤ N := by simpa using hs
  refine calls_of_wp hf hb (h.go _ ⟨rfl, ?_, ?_⟩)
  · simp [hn]; omega
  · intro t v hv
    obtain ⟨_, h2⟩ := args0_look vs 0 t v hv
    simp only [Nat.sub_zero] at h2
    have hlt : t < vs.length := (List.getElem?_eq_some_iff.1 h2).1
    rw [Array.getElem?_append_left (by simpa using hlt)]
    simpa using h2

theorem c_skip (h : X N .normal Q σ w) : C P N .skip Q σ w := ⟨fun a ha => wp_skip (h.go a ha)⟩
theorem c_ret (h : X N .ret Q σ w) : C P N .ret Q σ w := ⟨fun a ha => wp_ret (h.go a ha)⟩
theorem c_exit {i : Nat} (h : X N (.exit i) Q σ w) : C P N (.exit i) Q σ w := ⟨fun a ha => wp_exit (h.go a ha)⟩
theorem c_seq {x y : Code} (h : C P N x (Exit.then (y.wp P Q) Q) σ w) : C P N (.seq x y) Q σ w := ⟨fun a ha => wp_seq (h.go a ha)⟩
theorem c_block {i : Nat} {c : Code} (h : C P N c (Exit.inBlock i Q) σ w) : C P N (.block i c) Q σ w := ⟨fun a ha => wp_block (h.go a ha)⟩
theorem c_region {i : Nat} {l : List Oper} (h : W P N l.toArray Q l σ w) : C P N (.region i l.toArray false) Q σ w := ⟨fun a ha => wp_region_lit (h.go a ha)⟩
theorem c_true {x : Operand} {t e : Code} (hx : ev σ x = some (.bool true)) (h : C P N t Q σ w) : C P N (.cond x t e) Q σ w := ⟨fun a ha => wp_cond_true (ha.eval hx) (h.go a ha)⟩
theorem c_false {x : Operand} {t e : Code} (hx : ev σ x = some (.bool false)) (h : C P N e Q σ w) : C P N (.cond x t e) Q σ w := ⟨fun a ha => wp_cond_false (ha.eval hx) (h.go a ha)⟩
theorem c_if {x : Operand} {t e : Code} {b : Bool} (hx : ev σ x = some (.bool b)) (ht : b = true → C P N t Q σ w) (he : b = false → C P N e Q σ w) : C P N (.cond x t e) Q σ w := by
  cases b
  · exact c_false hx (he rfl)
  · exact c_true hx (ht rfl)
theorem c_dec {x : Operand} {t e : Code} {p : Prop} {d : Decidable p} (hx : ev σ x = some (.bool (decide p))) (ht : p → C P N t Q σ w) (he : ¬ p → C P N e Q σ w) : C P N (.cond x t e) Q σ w :=
  c_if hx (fun h => ht (of_decide_eq_true h)) (fun h => he (of_decide_eq_false h))
theorem c_ndec {x : Operand} {t e : Code} {p : Prop} {d : Decidable p} (hx : ev σ x = some (.bool (!decide p))) (ht : ¬ p → C P N t Q σ w) (he : p → C P N e Q σ w) : C P N (.cond x t e) Q σ w :=
  c_if hx (fun h => ht (by simpa using h)) (fun h => he (by simpa using h))
theorem c_same {α : Sort _} {p : α} {x : Operand} {t e : Code} {d : Decidable (p = p)} (hx : ev σ x = some (.bool (@decide (p = p) d))) (h : C P N t Q σ w) : C P N (.cond x t e) Q σ w := c_true (by rw [hx]; simp) h
theorem c_nsame {α : Sort _} {p : α} {x : Operand} {t e : Code} {d : Decidable (¬ p = p)} (hx : ev σ x = some (.bool (@decide (¬ p = p) d))) (h : C P N e Q σ w) : C P N (.cond x t e) Q σ w := c_false (by rw [hx]; simp) h
theorem c_not {x : Operand} {t e : Code} {b : Bool} (hx : ev σ x = some (.bool (!b))) (ht : b = false → C P N t Q σ w) (he : b = true → C P N e Q σ w) : C P N (.cond x t e) Q σ w :=
  c_if hx (fun h => ht (by simpa using h)) (fun h => he (by simpa using h))

theorem w_nil (h : X N .normal Q σ w) : W P N ops Q [] σ w := ⟨h.go⟩
theorem x_next {y : Code} (h : C P N y Q σ w) : X N .normal (Exit.then (y.wp P Q) Q) σ w := ⟨h.go⟩
theorem x_then_exit {K : Act → World → Prop} {i : Nat} (h : X N (.exit i) Q σ w) : X N (.exit i) (Exit.then K Q) σ w := ⟨h.go⟩
theorem x_then_ret {K : Act → World → Prop} (h : X N .ret Q σ w) : X N .ret (Exit.then K Q) σ w := ⟨h.go⟩
theorem x_block_norm {i : Nat} (h : X N .normal Q σ w) : X N .normal (Exit.inBlock i Q) σ w := ⟨h.go⟩
theorem x_block_ret {i : Nat} (h : X N .ret Q σ w) : X N .ret (Exit.inBlock i Q) σ w := ⟨h.go⟩
theorem x_block_hit {i : Nat} (h : X N .normal Q σ w) : X N (.exit i) (Exit.inBlock i Q) σ w := ⟨fun a ha => by simp only [Exit.inBlock, if_true]; exact h.go a ha⟩
theorem x_block_miss {i j : Nat} (hij : Nat.beq j i = false) (h : X N (.exit j) Q σ w) : X N (.exit j) (Exit.inBlock i Q) σ w := ⟨fun a ha => by
  have : j ≠ i := by intro e; subst e; simp [Nat.beq_refl] at hij
  simp only [Exit.inBlock, if_neg this]; exact h.go a ha⟩

/-- A loop: the relation names a frame and a world; a measure goes down. -/
def Again (N : Nat) {ι : Type} (S : ι → Fm) (R : ι → World → Prop) (μ : ι → Nat) (m : Nat) (a : Act) (w : World) : Prop := ∃ x, Fr N (S x) a ∧ R x w ∧ μ x < m
theorem c_loop {c : Code} {ι : Type} (S : ι → Fm) (R : ι → World → Prop) (μ : ι → Nat) (x0 : ι) (hs : Sub (S x0) σ) (h0 : R x0 w)
    (round : ∀ x w, R x w → C P N c (Exit.then (Again N S R μ (μ x)) Q) (S x) w) : C P N (.loop c) Q σ w := by
  refine ⟨fun a ha => ?_⟩
  refine wp_loop_ghost (fun n a w => ∃ x, Fr N (S x) a ∧ R x w ∧ μ x = n) (μ x0) ⟨x0, ha.sub hs, h0, rfl⟩ ?_
  rintro n a w ⟨x, hf, hr, rfl⟩
  refine Code.wp_mono ?_ ((round x w hr).go a hf)
  intro e a' w' q
  cases e with
  | normal => obtain ⟨y, h1, h2, h3⟩ := q; exact ⟨μ y, h3, y, h1, h2, rfl⟩
  | exit i => exact q
  | goto l => exact q
  | ret => exact q
  | panic ch => exact q
  | outgrown => exact q
/-- the same; what has changed since the loop began is borne along -/
theorem c_loopG {c : Code} {ι : Type} (G : World → Prop) (S : ι → Fm) (R : ι → World → Prop) (μ : ι → Nat) (x0 : ι) (hs : Sub (S x0) σ) (hg : G w) (h0 : R x0 w)
    (round : ∀ x w', G w' → G w' → R x w' → C P N c (Exit.then (Again N S (fun x w' => G w' ∧ R x w') μ (μ x)) Q) (S x) w') : C P N (.loop c) Q σ w :=
  c_loop S (fun x w' => G w' ∧ R x w') μ x0 hs ⟨hg, h0⟩ (fun x w' h => round x w' h.1 h.1 h.2)
theorem x_again {ι : Type} {S : ι → Fm} {R : ι → World → Prop} {μ : ι → Nat} {m : Nat} (x : ι) (hs : Sub (S x) σ) (hr : R x w) (hm : μ x < m) : X N .normal (Exit.then (Again N S R μ m) Q) σ w :=
  ⟨fun _ ha => ⟨x, ha.sub hs, hr, hm⟩⟩
end
end Go.Gw

namespace Go.Gw
open Go
set_option linter.unusedVariables false
set_option linter.unusedSimpArgs false

/-! ### What may have changed: blocks from lo up to hi, and new ones -/
structure Chg (lo hi : Nat) (w w' : World) : Prop where
  os : w'.os = w.os
  tape : w'.tape = w.tape
  output : w'.output = w.output
  size : w.heap.size ≤ w'.heap.size
  block : ∀ k, k < w.heap.size → (k < lo ∨ hi ≤ k) → w'.heap[k]? = w.heap[k]?
abbrev Ext (w w' : World) : Prop := Chg 0 0 w w'
theorem Chg.refl (lo hi : Nat) (w : World) : Chg lo hi w w := ⟨rfl, rfl, rfl, Nat.le_refl _, fun _ _ _ => rfl⟩
theorem Chg.trans {lo hi : Nat} {a b c : World} (h : Chg lo hi a b) (k : Chg lo hi b c) : Chg lo hi a c :=
  ⟨k.os.trans h.os, k.tape.trans h.tape, k.output.trans h.output, Nat.le_trans h.size k.size, fun i hi ho => (k.block i (Nat.lt_of_lt_of_le hi h.size) ho).trans (h.block i hi ho)⟩
theorem Chg.wide {lo hi lo' hi' : Nat} {a b : World} (h : Chg lo hi a b) (hl : lo' ≤ lo ∨ hi ≤ lo) (hh : hi ≤ hi' ∨ hi ≤ lo) : Chg lo' hi' a b :=
  ⟨h.os, h.tape, h.output, h.size, fun i hi ho => h.block i hi (by omega)⟩
/-- behind an 'Ext', a change of what is new since then -/
theorem Chg.next {l h l' h' : Nat} {a b c : World} (h1 : Chg l h a b) (h2 : Chg l' h' b c) (hn : h' ≤ l' ∨ a.heap.size ≤ l' ∨ (l ≤ l' ∧ h' ≤ h)) : Chg l h a c :=
  ⟨h2.os.trans h1.os, h2.tape.trans h1.tape, h2.output.trans h1.output, Nat.le_trans h1.size h2.size, fun i hi ho =>
    (h2.block i (Nat.lt_of_lt_of_le hi h1.size) (by omega)).trans (h1.block i hi ho)⟩
theorem Chg.below {w w' : World} (h : Ext w w') : RowKit.Below w.heap.size w w' := ⟨h.os, h.tape, h.output, h.size, fun k hk => h.block k hk (.inr (Nat.zero_le _))⟩
theorem Chg.of_below {w w' : World} (h : RowKit.Below w.heap.size w w') : Ext w w' := ⟨h.os, h.tape, h.output, h.size, fun k hk _ => h.block k hk⟩
theorem Chg.drew (w : World) : Ext w w.drew := ⟨rfl, rfl, rfl, Nat.le_refl _, fun _ _ _ => rfl⟩
theorem Chg.alloc (w : World) (o : Obj) : Ext w (w.alloc o) := ⟨rfl, rfl, rfl, by simp, fun k hk _ => RowKit.Below.heap_alloc w o k hk⟩
theorem Chg.cell {lo hi : Nat} {w w' : World} (h : Chg lo hi w w') {a : Addr} {v : Value} (hc : w.cell? a = some v) (ho : a.block < lo ∨ hi ≤ a.block) : w'.cell? a = some v := by
  have := World.block_lt_of_cell? w a hc
  rw [World.cell?_of_block (w := w) (h.block _ this ho)]; exact hc
theorem Chg.frozen {lo hi : Nat} {w w' : World} (h : Chg lo hi w w') {a : Addr} (hb : a.block < w.heap.size) (ho : a.block < lo ∨ hi ≤ a.block) : w'.frozen? a = w.frozen? a :=
  World.frozen?_of_block (w := w) (h.block _ hb ho)

/-- a change that is borne along: what has changed since w -/
structure Since (lo hi : Nat) (w w' : World) : Prop where
  go : Chg lo hi w w'
theorem Since.refl (lo hi : Nat) (w : World) : Since lo hi w w := ⟨Chg.refl _ _ _⟩
theorem Since.trans {lo hi : Nat} {a b c : World} (h : Since lo hi a b) (k : Chg lo hi b c) : Since lo hi a c := ⟨h.go.trans k⟩
theorem Since.next {l h l' h' : Nat} {a b c : World} (h1 : Since l h a b) (h2 : Chg l' h' b c) (hn : h' ≤ l' ∨ a.heap.size ≤ l' ∨ (l ≤ l' ∧ h' ≤ h)) : Since l h a c := ⟨h1.go.next h2 hn⟩
theorem c_loopC {P : Program} {N : Nat} {Q : Post} {σ : Fm} {w : World} {c : Code} {ι : Type} (lo hi : Nat) (S : ι → Fm) (R : ι → World → Prop) (μ : ι → Nat) (x0 : ι) (hs : Sub (S x0) σ) (h0 : R x0 w)
    (round : ∀ x w', Chg lo hi w w' → Since lo hi w w' → R x w' → C P N c (Exit.then (Again N S (fun x w' => Chg lo hi w w' ∧ R x w') μ (μ x)) Q) (S x) w') : C P N (.loop c) Q σ w :=
  c_loopG (fun w' => Chg lo hi w w') S R μ x0 hs (Chg.refl _ _ _) h0 fun x w' h _ hr => round x w' h ⟨h⟩ hr

/-! ### Operations that only read -/
structure YE (P : Program) (σ : Fm) (op : Op) (ty : TypeId) (w : World) (v : Value) : Prop where
  go : ∀ w', Ext w w' → ∀ ρ : Operand → Value, (∀ x v, ev σ x = some v → ρ x = v) → (execOp ρ { dst := none, op := op, type := ty, pos := "", after := #[], guard := none }).run P w' = .ok (.value v) w'
theorem execOp_eq (ρ : Operand → Value) (d : Option Tmp) (op : Op) (ty : TypeId) (pos : String) (af : Array Edge) (g : Option (Nat × Bool)) :
    execOp ρ ⟨d, op, ty, pos, af, g⟩ = execOp ρ ⟨none, op, ty, "", #[], none⟩ := rfl

structure WQ (P : Program) (N : Nat) (ops : Array Oper) (Cl : World → Prop) (Q : Act → Prop) (l : List Oper) (σ : Fm) : Prop where
  go : ∀ a, Fr N σ a → wpQuiet P ops Cl Q l a

section
variable {P : Program} {N : Nat} {Q : Post} {σ : Fm} {w : World} {ops : Array Oper} {rest : List Oper} {op : Op} {ty : TypeId} {pos : String} {af : Array Edge} {d : Nat} {v : Value}

theorem w_pure (h : YE P σ op ty w v) (hd : Nat.blt d N = true) (k : W P N ops Q rest ((d, v) :: σ) w) : W P N ops Q (⟨some d, op, ty, pos, af, none⟩ :: rest) σ w := by
  refine ⟨fun a ha => ?_⟩
  refine wpList_plain rfl fun K hK => ?_
  unfold Oper.wp
  rw [execOp_eq, h.go w (Chg.refl _ _ _) _ fun x v hx => ha.eval hx]
  exact hK _ _ (k.go _ (ha.put hd v))

theorem q_pure {Q : Act → Prop} (h : YE P σ op ty w v) (hd : Nat.blt d N = true) (k : WQ P N ops (Ext w) Q rest ((d, v) :: σ)) : WQ P N ops (Ext w) Q (⟨some d, op, ty, pos, af, none⟩ :: rest) σ := by
  refine ⟨fun a ha => ?_⟩
  refine wpQuiet_step fun K hK => ?_
  rw [if_pos (by simp [Region.wanted])]
  refine ⟨v, fun w' hw' => ?_, hK _ (k.go _ (ha.put hd v))⟩
  unfold Oper.quietAt
  rw [execOp_eq, h.go w' hw' _ fun x v hx => ha.eval hx]
  exact ⟨rfl, rfl⟩

theorem q_nil {w0 : World} (h : ∀ w', Ext w0 w' → w0.heap.size ≤ w'.heap.size → X N .normal Q σ w') : WQ P N ops (Ext w0) (fun a' => ∀ w', Ext w0 w' → Q .normal a' w') [] σ := ⟨fun a ha w' hw' => (h w' hw' hw'.size).go a ha⟩

theorem c_region_quiet {i : Nat} {l : List Oper} (hm : P.follows .mixedOrders = true) (hB : Region.lexB .any l.toArray = true)
    (h : WQ P N l.toArray (Ext w) (fun a' => ∀ w', Ext w w' → Q .normal a' w') l σ) : C P N (.region i l.toArray true) Q σ w :=
  ⟨fun a ha => wp_region_quiet hm hB (Chg.drew w) (by simpa using h.go a ha)⟩

/-! ### Guards -/
theorem Fr.same {a : Act} (ha : Fr N σ a) {t : Nat} (hv : a.tmps[t]? = some v) : Fr N ((t, v) :: σ) a := by
  refine ⟨ha.defers, ha.size, fun s u hu => ?_⟩
  rw [look_cons] at hu
  split at hu
  · rename_i e; subst e; rw [← hu]; exact hv
  · exact ha.val s u hu
theorem yielded_of {a : Act} (ha : Fr N σ a) {j t : Nat} {b : Bool} (hj : (ops[j]?).bind (·.dst) = some t) (ht : look σ t = some (.bool b)) : yielded ops a.tmps j = some b := by
  unfold yielded
  rw [hj]
  simp [ha.val t _ ht]
theorem yielded_undef {a : Act} (ha : Fr N σ a) {j t : Nat} (hj : (ops[j]?).bind (·.dst) = some t) (ht : look σ t = some undef) : yielded ops a.tmps j = none := by
  unfold yielded
  rw [hj]
  simp [ha.val t _ ht, undef]

theorem wpList_guard {a : Act} {o : Oper} (hw : Region.wanted o (yielded ops a.tmps) = true) (h : wpList P ops Q ({ o with guard := none } :: rest) a w) : wpList P ops Q (o :: rest) a w := by
  have e1 : Region.wanted ({ o with guard := none } : Oper) (yielded ops a.tmps) = true := by simp [Region.wanted]
  unfold wpList at h ⊢
  rw [if_pos e1] at h
  rw [if_pos hw]
  exact h
theorem wpQuiet_guard {Cl : World → Prop} {Q : Act → Prop} {a : Act} {o : Oper} (hw : Region.wanted o (yielded ops a.tmps) = true) (h : wpQuiet P ops Cl Q ({ o with guard := none } :: rest) a) : wpQuiet P ops Cl Q (o :: rest) a := by
  have e1 : Region.wanted ({ o with guard := none } : Oper) (yielded ops a.tmps) = true := by simp [Region.wanted]
  unfold wpQuiet at h ⊢
  rw [if_pos e1] at h
  rw [if_pos hw]
  exact h
theorem wpQuiet_unguard {Cl : World → Prop} {Q : Act → Prop} {a : Act} {o : Oper} (hw : Region.wanted o (yielded ops a.tmps) = false) (h : wpQuiet P ops Cl Q rest (a.put o.dst undef)) : wpQuiet P ops Cl Q (o :: rest) a := by
  unfold wpQuiet
  rw [if_neg (by simp [hw])]
  exact h

/-- the guard's answer is known: it is what is wanted -/
theorem w_yes {o : Option Tmp} {j t : Nat} {b : Bool} (hj : (ops[j]?).bind (·.dst) = some t) (ht : look σ t = some (.bool b)) (k : W P N ops Q (⟨o, op, ty, pos, af, none⟩ :: rest) σ w) : W P N ops Q (⟨o, op, ty, pos, af, some (j, b)⟩ :: rest) σ w := ⟨fun a ha =>
  wpList_guard (by simp [Region.wanted, yielded_of ha hj ht]) (k.go a ha)⟩
/-- it is the other one -/
theorem w_no {j t : Nat} {b b' : Bool} (hj : (ops[j]?).bind (·.dst) = some t) (ht : look σ t = some (.bool b)) (hb : (b == b') = false) (hd : Nat.blt d N = true) (k : W P N ops Q rest ((d, undef) :: σ) w) : W P N ops Q (⟨some d, op, ty, pos, af, some (j, b')⟩ :: rest) σ w := ⟨fun a ha =>
  wpList_skip (by simp [Region.wanted, yielded_of ha hj ht, hb]) (k.go _ (ha.put hd _))⟩
theorem w_none {j t : Nat} {b' : Bool} (hj : (ops[j]?).bind (·.dst) = some t) (ht : look σ t = some undef) (hd : Nat.blt d N = true) (k : W P N ops Q rest ((d, undef) :: σ) w) : W P N ops Q (⟨some d, op, ty, pos, af, some (j, b')⟩ :: rest) σ w := ⟨fun a ha =>
  wpList_skip (by simp [Region.wanted, yielded_undef ha hj ht]) (k.go _ (ha.put hd _))⟩
/-- not known: both ways; behind it the guard's slot holds a literal -/
theorem w_part {o : Option Tmp} {j t : Nat} {b b' : Bool} (hj : (ops[j]?).bind (·.dst) = some t) (ht : look σ t = some (.bool b))
    (k1 : b = true → W P N ops Q (⟨o, op, ty, pos, af, some (j, b')⟩ :: rest) ((t, .bool true) :: σ) w) (k2 : b = false → W P N ops Q (⟨o, op, ty, pos, af, some (j, b')⟩ :: rest) ((t, .bool false) :: σ) w) : W P N ops Q (⟨o, op, ty, pos, af, some (j, b')⟩ :: rest) σ w := by
  refine ⟨fun a ha => ?_⟩
  have hv := ha.val t _ ht
  have hf : Fr N ((t, .bool b) :: σ) a := ha.same hv
  cases b
  · exact (k2 rfl).go a hf
  · exact (k1 rfl).go a hf
theorem w_part_dec {o : Option Tmp} {j t : Nat} {b' : Bool} {p : Prop} {dp : Decidable p} (hj : (ops[j]?).bind (·.dst) = some t) (ht : look σ t = some (.bool (decide p)))
    (k1 : p → W P N ops Q (⟨o, op, ty, pos, af, some (j, b')⟩ :: rest) ((t, .bool true) :: σ) w) (k2 : ¬ p → W P N ops Q (⟨o, op, ty, pos, af, some (j, b')⟩ :: rest) ((t, .bool false) :: σ) w) : W P N ops Q (⟨o, op, ty, pos, af, some (j, b')⟩ :: rest) σ w :=
  w_part hj ht (fun h => k1 (of_decide_eq_true h)) (fun h => k2 (of_decide_eq_false h))
theorem q_yes {Cl : World → Prop} {Q : Act → Prop} {o : Option Tmp} {j t : Nat} {b : Bool} (hj : (ops[j]?).bind (·.dst) = some t) (ht : look σ t = some (.bool b)) (k : WQ P N ops Cl Q (⟨o, op, ty, pos, af, none⟩ :: rest) σ) : WQ P N ops Cl Q (⟨o, op, ty, pos, af, some (j, b)⟩ :: rest) σ := ⟨fun a ha =>
  wpQuiet_guard (by simp [Region.wanted, yielded_of ha hj ht]) (k.go a ha)⟩
theorem q_no {Cl : World → Prop} {Q : Act → Prop} {j t : Nat} {b b' : Bool} (hj : (ops[j]?).bind (·.dst) = some t) (ht : look σ t = some (.bool b)) (hb : (b == b') = false) (hd : Nat.blt d N = true) (k : WQ P N ops Cl Q rest ((d, undef) :: σ)) : WQ P N ops Cl Q (⟨some d, op, ty, pos, af, some (j, b')⟩ :: rest) σ := ⟨fun a ha =>
  wpQuiet_unguard (by simp [Region.wanted, yielded_of ha hj ht, hb]) (k.go _ (ha.put hd _))⟩
theorem q_none {Cl : World → Prop} {Q : Act → Prop} {j t : Nat} {b' : Bool} (hj : (ops[j]?).bind (·.dst) = some t) (ht : look σ t = some undef) (hd : Nat.blt d N = true) (k : WQ P N ops Cl Q rest ((d, undef) :: σ)) : WQ P N ops Cl Q (⟨some d, op, ty, pos, af, some (j, b')⟩ :: rest) σ := ⟨fun a ha =>
  wpQuiet_unguard (by simp [Region.wanted, yielded_undef ha hj ht]) (k.go _ (ha.put hd _))⟩
theorem q_part {Cl : World → Prop} {Q : Act → Prop} {o : Option Tmp} {j t : Nat} {b b' : Bool} (hj : (ops[j]?).bind (·.dst) = some t) (ht : look σ t = some (.bool b))
    (k1 : b = true → WQ P N ops Cl Q (⟨o, op, ty, pos, af, some (j, b')⟩ :: rest) ((t, .bool true) :: σ)) (k2 : b = false → WQ P N ops Cl Q (⟨o, op, ty, pos, af, some (j, b')⟩ :: rest) ((t, .bool false) :: σ)) : WQ P N ops Cl Q (⟨o, op, ty, pos, af, some (j, b')⟩ :: rest) σ := by
  refine ⟨fun a ha => ?_⟩
  have hv := ha.val t _ ht
  have hf : Fr N ((t, .bool b) :: σ) a := ha.same hv
  cases b
  · exact (k2 rfl).go a hf
  · exact (k1 rfl).go a hf

/-! ### Calls -/
class Callable (P : Program) (f : FuncId) : Prop where
  run : ∀ args w, (callFunc f args).run P w = .ok (.enter f args) w
theorem callable {f : FuncId} {fn : Func} (hf : P.funcs[f]? = some fn) (hn : (fn.name == "runtime.NumGoroutine") = false) (hb : fn.body.isNone = false) : Callable P f :=
  ⟨fun args w => by
    have hn' : fn.name ≠ "runtime.NumGoroutine" := by simpa using hn
    have hb' : ¬ fn.body = none := by intro e; simp [e] at hb
    simp [callFunc, hf, hn', hb']⟩

/-- a call that hands back a value, whatever has become of the world is told by R -/
structure Ret (P : Program) (f : FuncId) (args : List Value) (w : World) (R : Value → World → Prop) : Prop where
  go : Calls P f args.toArray w fun e w' => ∃ v, e = .returned v ∧ R v w'
/-- a call that hands back v and turns nothing that was there -/
structure Val (P : Program) (f : FuncId) (args : List Value) (w : World) (v : Value) : Prop where
  go : ∀ w', Ext w w' → Ret P f args w' fun u w'' => u = v ∧ Ext w' w''
/-- a call that hands back v and leaves the world as it is -/
structure Pur (P : Program) (f : FuncId) (args : List Value) (v : Value) : Prop where
  go : ∀ w, Ret P f args w fun u w' => u = v ∧ w' = w
theorem Ret.mono {f : FuncId} {args : List Value} {R R' : Value → World → Prop} (h : Ret P f args w R) (hr : ∀ v w', R v w' → R' v w') : Ret P f args w R' := ⟨Calls.mono h.go fun _ _ ⟨v, he, h1⟩ => ⟨v, he, hr _ _ h1⟩⟩
theorem Pur.val {f : FuncId} {args : List Value} (h : Pur P f args v) : Val P f args w v := ⟨fun w' _ => (h.go w').mono fun _ _ ⟨h1, h2⟩ => ⟨h1, by rw [h2]; exact Chg.refl _ _ _⟩⟩
theorem Val.ret {f : FuncId} {args : List Value} (h : Val P f args w v) : Ret P f args w fun u w' => u = v ∧ Ext w w' := h.go w (Chg.refl _ _ _)
/-- Into a function, towards a contract. -/
theorem ret_enter {f : FuncId} {fn : Func} {c : Code} {vs : List Value} {R : Value → World → Prop} (hf : P.funcs[f]? = some fn) (hb : fn.body = some c) (hn : fn.ntmps = N) (hs : Nat.ble vs.length N = true)
    (h : C P N c (bodyPost P fn fun e w' => ∃ v, e = .returned v ∧ R v w') (args0 0 vs) w) : Ret P f vs w R := ⟨enter hf hb hn hs h⟩

theorem evs_spec {a : Act} (ha : Fr N σ a) : ∀ {xs : List Operand} {vs : List Value}, evs σ xs = some vs → xs.map a.eval = vs
  | [], vs, h => by simp [evs] at h; simp [h]
  | x :: r, vs, h => by
    simp only [evs] at h
    split at h
    · rename_i v' vs' h1 h2
      simp only [Option.some.injEq] at h
      subst h
      simp [ha.eval h1, evs_spec ha h2]
    · cases h

theorem exec_call {a : Act} (ha : Fr N σ a) {fo : Operand} {f : FuncId} {first cap : List Value} {xs : List Operand} {vs all : List Value} {ats : Array TypeId} [hc : Callable P f]
    (hf : ev σ fo = some (.func (.func f) first.toArray cap.toArray)) (hx : evs σ xs = some vs) (hall : first ++ vs ++ cap = all) (w : World) :
    (execOp a.eval ⟨none, .call { callee := .value fo, args := xs.toArray, argTypes := ats }, ty, "", #[], none⟩).run P w = .ok (.enter f all.toArray) w := by
  subst hall
  simp only [execOp, resolve, ha.eval hf, Deferred.ofValue, Sem.run_bind, Sem.run_pure, Result.andThen_ok, invoke]
  rw [show Array.map a.eval xs.toArray = vs.toArray by rw [List.map_toArray, evs_spec ha hx]]
  rw [List.append_toArray, List.append_toArray]
  exact hc.run _ _

theorem w_call {fo : Operand} {f : FuncId} {first cap : List Value} {xs : List Operand} {vs all : List Value} {ats : Array TypeId} {R : Value → World → Prop} [hc : Callable P f]
    (hf : ev σ fo = some (.func (.func f) first.toArray cap.toArray)) (hx : evs σ xs = some vs) (hall : first ++ vs ++ cap = all)
    (h : Ret P f all w R) (hd : Nat.blt d N = true) (k : ∀ v w', R v w' → W P N ops Q rest ((d, v) :: σ) w') :
    W P N ops Q (⟨some d, .call { callee := .value fo, args := xs.toArray, argTypes := ats }, ty, pos, af, none⟩ :: rest) σ w := by
  refine ⟨fun a ha => ?_⟩
  refine wpList_plain rfl fun K hK => ?_
  unfold Oper.wp
  rw [execOp_eq, exec_call ha hf hx hall]
  rw [Oper.upon_enter]
  refine Calls.mono h.go ?_
  rintro e w' ⟨v, rfl, hr⟩
  exact hK _ _ ((k v w' hr).go _ (ha.put hd v))
/-- no result is kept -/
theorem w_call0 {fo : Operand} {f : FuncId} {first cap : List Value} {xs : List Operand} {vs all : List Value} {ats : Array TypeId} {R : Value → World → Prop} [hc : Callable P f]
    (hf : ev σ fo = some (.func (.func f) first.toArray cap.toArray)) (hx : evs σ xs = some vs) (hall : first ++ vs ++ cap = all)
    (h : Ret P f all w R) (k : ∀ v w', R v w' → W P N ops Q rest σ w') :
    W P N ops Q (⟨none, .call { callee := .value fo, args := xs.toArray, argTypes := ats }, ty, pos, af, none⟩ :: rest) σ w := by
  refine ⟨fun a ha => ?_⟩
  refine wpList_plain rfl fun K hK => ?_
  unfold Oper.wp
  rw [execOp_eq, exec_call ha hf hx hall]
  rw [Oper.upon_enter]
  refine Calls.mono h.go ?_
  rintro e w' ⟨v, rfl, hr⟩
  exact hK _ _ ((k v w' hr).go _ ha)
theorem w_val {fo : Operand} {f : FuncId} {first cap : List Value} {xs : List Operand} {vs all : List Value} {ats : Array TypeId} [hc : Callable P f]
    (hf : ev σ fo = some (.func (.func f) first.toArray cap.toArray)) (hx : evs σ xs = some vs) (hall : first ++ vs ++ cap = all)
    (h : Val P f all w v) (hd : Nat.blt d N = true) (k : ∀ w', Ext w w' → w.heap.size ≤ w'.heap.size → W P N ops Q rest ((d, v) :: σ) w') :
    W P N ops Q (⟨some d, .call { callee := .value fo, args := xs.toArray, argTypes := ats }, ty, pos, af, none⟩ :: rest) σ w :=
  w_call hf hx hall h.ret hd fun _ w' ⟨e, h'⟩ => by subst e; exact k w' h' h'.size
theorem w_pur {fo : Operand} {f : FuncId} {first cap : List Value} {xs : List Operand} {vs all : List Value} {ats : Array TypeId} [hc : Callable P f]
    (hf : ev σ fo = some (.func (.func f) first.toArray cap.toArray)) (hx : evs σ xs = some vs) (hall : first ++ vs ++ cap = all)
    (h : Pur P f all v) (hd : Nat.blt d N = true) (k : W P N ops Q rest ((d, v) :: σ) w) :
    W P N ops Q (⟨some d, .call { callee := .value fo, args := xs.toArray, argTypes := ats }, ty, pos, af, none⟩ :: rest) σ w :=
  w_call hf hx hall (h.go w) hd fun _ w' ⟨e, h'⟩ => by subst e; subst h'; exact k
theorem q_val {Q : Act → Prop} {fo : Operand} {f : FuncId} {first cap : List Value} {xs : List Operand} {vs all : List Value} {ats : Array TypeId} [hc : Callable P f]
    (hf : ev σ fo = some (.func (.func f) first.toArray cap.toArray)) (hx : evs σ xs = some vs) (hall : first ++ vs ++ cap = all)
    (h : Val P f all w v) (hd : Nat.blt d N = true) (k : WQ P N ops (Ext w) Q rest ((d, v) :: σ)) :
    WQ P N ops (Ext w) Q (⟨some d, .call { callee := .value fo, args := xs.toArray, argTypes := ats }, ty, pos, af, none⟩ :: rest) σ := by
  refine ⟨fun a ha => ?_⟩
  refine wpQuiet_step fun K hK => ?_
  rw [if_pos (by simp [Region.wanted])]
  refine ⟨v, fun w' hw' => ?_, hK _ (k.go _ (ha.put hd v))⟩
  unfold Oper.quietAt
  rw [execOp_eq, exec_call ha hf hx hall]
  refine ⟨rfl, Calls.mono (h.go w' hw').go ?_⟩
  rintro e w'' ⟨u, rfl, rfl, hx⟩
  exact ⟨rfl, hw'.trans hx⟩

theorem Pur.law {f : FuncId} {args : List Value} (h : Pur P f args (.bool true)) (w : World) : Ret P f args w fun u w' => u = .bool true ∧ Ext w w' := (h.val (w := w)).ret

/-! ### The end -/
theorem x_ret1 {fn : Func} {R : Ending → World → Prop} {t : Tmp} (hr : fn.results = #[.tmp t]) (ht : look σ t = some v) (h : R (.returned v) w) : X N .ret (bodyPost P fn R) σ w := ⟨fun a ha =>
  bodyPost_ret (v := v) (by rw [results_tmp hr, Array.getD_eq_getD_getElem?, ha.val t v ht]; rfl) ha.defers h⟩
theorem x_ret0 {fn : Func} {R : Ending → World → Prop} (hr : fn.results = #[]) (h : R (.returned (.tuple #[])) w) : X N .ret (bodyPost P fn R) σ w := ⟨fun a ha =>
  bodyPost_ret (results_none hr _ _ _) ha.defers h⟩
theorem x_end0 {fn : Func} {R : Ending → World → Prop} (hr : fn.results = #[]) (h : R (.returned (.tuple #[])) w) : X N .normal (bodyPost P fn R) σ w := ⟨fun a ha =>
  bodyPost_end (results_none hr _ _ _) ha.defers h⟩
/-- what the results' places hold -/
def Res (P : Program) (σ : Fm) (w : World) : List ResultVar → List Value → Prop
  | [], [] => True
  | .tmp t :: r, v :: vs => look σ t = some v ∧ Res P σ w r vs
  | .cell c t :: r, v :: vs => (∃ a, look σ c = some (.pointer (some a)) ∧ (loadVar t a).run P w = .ok v w) ∧ Res P σ w r vs
  | _, _ => False
def ofResults : List Value → Value
  | [v] => v
  | vs => .tuple vs.toArray
def resOf (a : Act) : ResultVar → Sem Value
  | .tmp t => pure (a.tmps.getD t undef)
  | .cell c t => do loadVar t (← asAddr (a.tmps.getD c undef))
theorem run_resList {a : Act} (ha : Fr N σ a) : ∀ (rs : List ResultVar) (vs : List Value), Res P σ w rs vs → (rs.mapM (resOf a)).run P w = .ok vs w
  | [], [], _ => by simp
  | .tmp t :: r, v :: vs, ⟨h1, h2⟩ => by
    have e : a.tmps.getD t undef = v := by rw [Array.getD_eq_getD_getElem?, ha.val t v h1]; rfl
    simp [run_resList ha r vs h2, resOf, e]
  | .cell c t :: r, v :: vs, ⟨⟨ad, h1, h3⟩, h2⟩ => by
    have e : a.tmps.getD c undef = .pointer (some ad) := by rw [Array.getD_eq_getD_getElem?, ha.val c _ h1]; rfl
    simp [run_resList ha r vs h2, resOf, e, asAddr, h3]
theorem run_results {a : Act} (ha : Fr N σ a) {fn : Func} {rs : List ResultVar} {vs : List Value} (hr : fn.results = rs.toArray) (h : Res P σ w rs vs) : (results fn a.tmps).run P w = .ok (ofResults vs) w := by
  have h1 : (results fn a.tmps) = (do let vs ← fn.results.mapM (resOf a); pure (if h : vs.size = 1 then vs[0] else .tuple vs)) := by
    unfold results
    congr 1
  rw [h1, hr, List.mapM_toArray]
  have h2 := run_resList ha rs vs h
  simp only [Sem.run_bind, Sem.run_map]
  rw [h2]
  simp only [Result.andThen_ok, Sem.run_pure]
  match vs with
  | [] => simp [ofResults]
  | [v] => simp [ofResults]
  | v :: u :: r => simp [ofResults]
theorem x_ret {fn : Func} {R : Ending → World → Prop} {rs : List ResultVar} (vs : List Value) (hr : fn.results = rs.toArray) (h : Res P σ w rs vs) (hR : R (.returned (ofResults vs)) w) : X N .ret (bodyPost P fn R) σ w := ⟨fun a ha =>
  bodyPost_ret (run_results ha hr h) ha.defers hR⟩
/-- the contract's form -/
theorem x_retv {fn : Func} {R : Value → World → Prop} {rs : List ResultVar} (vs : List Value) (hr : fn.results = rs.toArray) (h : Res P σ w rs vs) (hR : R (ofResults vs) w) : X N .ret (bodyPost P fn fun e w' => ∃ v, e = .returned v ∧ R v w') σ w :=
  x_ret vs hr h ⟨_, rfl, hR⟩
end
end Go.Gw

namespace Go.Gw
open Go
set_option linter.unusedVariables false
set_option linter.unusedSimpArgs false

/-! ### What is known of types -/
def notAgg : TypeDesc → Bool
  | .struct _ => false
  | .array _ _ => false
  | _ => true
class TScal (P : Program) (T : TypeId) : Prop where
  und : ∃ d, P.underlying T = some d ∧ notAgg d = true
  size : (P.info? T).map (·.size) = some 1
class TStr (P : Program) (T : TypeId) (n : outParam Nat) : Prop where
  und : ∃ fs, P.underlying T = some (.struct fs)
  size : (P.info? T).map (·.size) = some n
class TSli (P : Program) (T : TypeId) (E sz bytes : outParam Nat) : Prop where
  und : P.underlying T = some (.slice E)
  size : (P.info? E).map (·.size) = some sz
  bytes : (P.info? E).map (·.bytes) = some bytes
  zero : ((P.info? E).bind (·.zero)).isSome = true
  zlen : ∀ z, (P.info? E).bind (·.zero) = some z → z.cells.size = sz
class TZero (P : Program) (T : TypeId) (z : outParam Value) : Prop where
  zero : (P.info? T).bind (·.zero) = some z
class TFld (P : Program) (T : TypeId) (k : Nat) (off : outParam Nat) : Prop where
  und : ∃ fs f, P.underlying T = some (.struct fs) ∧ fs[k]? = some f ∧ f.offset = off ∧ ∃ n, (P.info? f.type).map (·.size) = some (n + 1)

theorem zlen_of {P : Program} {E : TypeId} {z : Value} {n : Nat} (h : (P.info? E).bind (·.zero) = some z) (hn : z.cells.size = n) : ∀ u, (P.info? E).bind (·.zero) = some u → u.cells.size = n := fun u hu => by
  rw [h] at hu; cases hu; exact hn
section
variable {P : Program} (w : World)
theorem isAgg_scal (T : TypeId) [h : TScal P T] : (isAgg T).run P w = .ok false w := by
  obtain ⟨d, hd, hn⟩ := h.und
  cases d <;> simp_all [isAgg, run_underlying hd, notAgg]
theorem isAgg_str (T : TypeId) {n : Nat} [h : TStr P T n] : (isAgg T).run P w = .ok true w := by
  obtain ⟨fs, hd⟩ := h.und
  simp [isAgg, run_underlying hd]
theorem run_size {T : TypeId} {n : Nat} (h : (P.info? T).map (·.size) = some n) : (sizeOf T).run P w = .ok n w := by
  cases hi : P.info? T with
  | none => simp [hi] at h
  | some i => simp [hi] at h; simp [sizeOf, typeInfo, hi, h]
theorem run_zero {T : TypeId} {z : Value} [h : TZero P T z] : (zeroValue T).run P w = .ok z w := by
  have := h.zero
  cases hi : P.info? T with
  | none => simp [hi] at this
  | some i => simp [hi] at this; simp [zeroValue, typeInfo, hi, this]
end

/-! ### Integers -/
section
variable {P : Program} {N : Nat} {σ : Fm} {w : World} {ty t t' : TypeId} {x y z : Operand} {k : IntKind} {a b : Int} {v u : Value}
theorem y_move (hx : ev σ x = some v) : YE P σ (.move x) ty w v := ⟨fun w' _ ρ hρ => by simp [execOp, hρ _ _ hx]⟩
theorem y_assign (hx : ev σ x = some v) : YE P σ (.assign x) ty w v := ⟨fun w' _ ρ hρ => by simp [execOp, hρ _ _ hx]⟩
theorem y_pick_t (hx : ev σ x = some (.bool true)) (hy : ev σ y = some v) : YE P σ (.pick x y z) ty w v := ⟨fun w' _ ρ hρ => by simp [execOp, hρ _ _ hx, hρ _ _ hy, asBool]⟩
theorem y_pick_f (hx : ev σ x = some (.bool false)) (hy : ev σ z = some v) : YE P σ (.pick x y z) ty w v := ⟨fun w' _ ρ hρ => by simp [execOp, hρ _ _ hx, hρ _ _ hy, asBool]⟩
theorem y_extract {vs : List Value} {i : Nat} (hx : ev σ x = some (.tuple vs.toArray)) (hi : vs[i]? = some v) : YE P σ (.extract x i) ty w v := ⟨fun w' _ ρ hρ => by simp [execOp, hρ _ _ hx, Instr.extract, hi]⟩
theorem y_add_wrap (hx : ev σ x = some (.int k a)) (hy : ev σ y = some (.int k b)) : YE P σ (.binOp .add t x y t') ty w (.int k (k.wrap (a + b))) := ⟨fun w' _ ρ hρ => by simp [execOp, hρ _ _ hx, hρ _ _ hy, eqGuard, binOp, Op.intArith]⟩
theorem y_sub_wrap (hx : ev σ x = some (.int k a)) (hy : ev σ y = some (.int k b)) : YE P σ (.binOp .sub t x y t') ty w (.int k (k.wrap (a - b))) := ⟨fun w' _ ρ hρ => by simp [execOp, hρ _ _ hx, hρ _ _ hy, eqGuard, binOp, Op.intArith]⟩
theorem y_mul_wrap (hx : ev σ x = some (.int k a)) (hy : ev σ y = some (.int k b)) : YE P σ (.binOp .mul t x y t') ty w (.int k (k.wrap (a * b))) := ⟨fun w' _ ρ hρ => by simp [execOp, hρ _ _ hx, hρ _ _ hy, eqGuard, binOp, Op.intArith]⟩
theorem y_quo_wrap (hx : ev σ x = some (.int k a)) (hy : ev σ y = some (.int k b)) (hb : b ≠ 0) : YE P σ (.binOp .quo t x y t') ty w (.int k (k.wrap (a.tdiv b))) := ⟨fun w' _ ρ hρ => by simp [execOp, hρ _ _ hx, hρ _ _ hy, eqGuard, binOp, Op.intDiv, hb]⟩
theorem y_rem_wrap (hx : ev σ x = some (.int k a)) (hy : ev σ y = some (.int k b)) (hb : b ≠ 0) : YE P σ (.binOp .rem t x y t') ty w (.int k (a.tmod b)) := ⟨fun w' _ ρ hρ => by simp [execOp, hρ _ _ hx, hρ _ _ hy, eqGuard, binOp, Op.intDiv, hb]⟩
theorem y_neg_wrap (hx : ev σ x = some (.int k a)) : YE P σ (.unOp .neg t x) ty w (.int k (k.wrap (0 - a))) := ⟨fun w' _ ρ hρ => by simp [execOp, hρ _ _ hx, Op.unary, Op.intArith]⟩
theorem y_conv_wrap {k' : IntKind} {s d : TypeId} (hx : ev σ x = some (.int k a)) (hs : ∃ e, P.underlying s = some e) (hd : P.underlying d = some (.int k')) : YE P σ (.convert s d x) ty w (.int k' (k'.wrap a)) := ⟨fun w' _ ρ hρ => by
  obtain ⟨e, he⟩ := hs
  simp [execOp, hρ _ _ hx, convert, run_underlying he, run_underlying hd, Conv.intToInt]⟩
abbrev In64 (a : Int) : Prop := -9223372036854775808 ≤ a ∧ a ≤ 9223372036854775807
theorem wrap_in {a : Int} (h : In64 a) : IntKind.i64.wrap a = a := IntWalk.i64_in a h
theorem y_add (hx : ev σ x = some (.int .i64 a)) (hy : ev σ y = some (.int .i64 b)) (h : In64 (a + b) := by exact ⟨by omega, by omega⟩) : YE P σ (.binOp .add t x y t') ty w (.int .i64 (a + b)) := by have := y_add_wrap (P := P) (w := w) (ty := ty) (t := t) (t' := t') hx hy; rwa [wrap_in h] at this
theorem y_sub (hx : ev σ x = some (.int .i64 a)) (hy : ev σ y = some (.int .i64 b)) (h : In64 (a - b) := by exact ⟨by omega, by omega⟩) : YE P σ (.binOp .sub t x y t') ty w (.int .i64 (a - b)) := by have := y_sub_wrap (P := P) (w := w) (ty := ty) (t := t) (t' := t') hx hy; rwa [wrap_in h] at this
theorem y_mul (hx : ev σ x = some (.int .i64 a)) (hy : ev σ y = some (.int .i64 b)) (h : In64 (a * b) := by exact ⟨by omega, by omega⟩) : YE P σ (.binOp .mul t x y t') ty w (.int .i64 (a * b)) := by have := y_mul_wrap (P := P) (w := w) (ty := ty) (t := t) (t' := t') hx hy; rwa [wrap_in h] at this
theorem y_neg (hx : ev σ x = some (.int .i64 a)) (h : In64 (-a) := by exact ⟨by omega, by omega⟩) : YE P σ (.unOp .neg t x) ty w (.int .i64 (-a)) := by
  have := y_neg_wrap (P := P) (w := w) (ty := ty) (t := t) hx
  rwa [Int.zero_sub, wrap_in h] at this
/-- a numerator that is not negative, a positive divisor -/
theorem y_quo (hx : ev σ x = some (.int .i64 a)) (hy : ev σ y = some (.int .i64 b)) (ha : 0 ≤ a := by omega) (hb : 0 < b := by omega) (hm : a ≤ 9223372036854775807 := by omega) : YE P σ (.binOp .quo t x y t') ty w (.int .i64 (a / b)) := by
  have := y_quo_wrap (P := P) (w := w) (ty := ty) (t := t) (t' := t') hx hy (by omega)
  rw [Int.tdiv_eq_ediv_of_nonneg ha] at this
  have h1 : 0 ≤ a / b := Int.ediv_nonneg ha (by omega)
  have h2 : a / b ≤ a := Int.ediv_le_self b ha
  rwa [wrap_in ⟨by omega, by omega⟩] at this
theorem y_rem (hx : ev σ x = some (.int .i64 a)) (hy : ev σ y = some (.int .i64 b)) (ha : 0 ≤ a := by omega) (hb : b ≠ 0 := by omega) : YE P σ (.binOp .rem t x y t') ty w (.int .i64 (a % b)) := by
  have := y_rem_wrap (P := P) (w := w) (ty := ty) (t := t) (t' := t') hx hy hb
  rwa [Int.tmod_eq_emod_of_nonneg ha] at this
theorem y_lt (hx : ev σ x = some (.int k a)) (hy : ev σ y = some (.int k b)) : YE P σ (.binOp .lss t x y t') ty w (.bool (decide (a < b))) := ⟨fun w' _ ρ hρ => by simp [execOp, hρ _ _ hx, hρ _ _ hy, eqGuard, binOp, Op.intCmp]⟩
theorem y_le (hx : ev σ x = some (.int k a)) (hy : ev σ y = some (.int k b)) : YE P σ (.binOp .leq t x y t') ty w (.bool (decide (a ≤ b))) := ⟨fun w' _ ρ hρ => by simp [execOp, hρ _ _ hx, hρ _ _ hy, eqGuard, binOp, Op.intCmp]⟩
theorem y_gt (hx : ev σ x = some (.int k a)) (hy : ev σ y = some (.int k b)) : YE P σ (.binOp .gtr t x y t') ty w (.bool (decide (b < a))) := ⟨fun w' _ ρ hρ => by simp [execOp, hρ _ _ hx, hρ _ _ hy, eqGuard, binOp, Op.intCmp]⟩
theorem y_ge (hx : ev σ x = some (.int k a)) (hy : ev σ y = some (.int k b)) : YE P σ (.binOp .geq t x y t') ty w (.bool (decide (b ≤ a))) := ⟨fun w' _ ρ hρ => by simp [execOp, hρ _ _ hx, hρ _ _ hy, eqGuard, binOp, Op.intCmp]⟩
theorem y_eq (hx : ev σ x = some (.int k a)) (hy : ev σ y = some (.int k b)) : YE P σ (.binOp .eql t x y t') ty w (.bool (decide (a = b))) := ⟨fun w' _ ρ hρ => by
  have e : (a == b) = decide (a = b) := by by_cases h : a = b <;> simp [h]
  simp [execOp, hρ _ _ hx, hρ _ _ hy, eqGuard, binOp, Op.intCmp, e]⟩
theorem y_ne (hx : ev σ x = some (.int k a)) (hy : ev σ y = some (.int k b)) : YE P σ (.binOp .neq t x y t') ty w (.bool (decide (¬ a = b))) := ⟨fun w' _ ρ hρ => by
  have e : (a != b) = decide (¬ a = b) := by by_cases h : a = b <;> simp [h]
  simp [execOp, hρ _ _ hx, hρ _ _ hy, eqGuard, binOp, Op.intCmp, e]⟩
class TBool (P : Program) (T : TypeId) : Prop where
  und : P.underlying T = some .bool
theorem run_equal_bool [h : TBool P t] {w : World} (p q : Bool) : (Op.equal t (.bool p) (.bool q)).run P w = .ok (p == q) w := by
  have e : ∀ d, (Op.equalIn (d + 1) t (.bool p) (.bool q)).run P w = .ok (p == q) w := fun d => by simp [Op.equalIn, run_underlying h.und]
  exact e 9999
theorem y_eqb [TBool P t] {p q : Bool} (hx : ev σ x = some (.bool p)) (hy : ev σ y = some (.bool q)) : YE P σ (.binOp .eql t x y t') ty w (.bool (decide (p = q))) := ⟨fun w' _ ρ hρ => by
  have e : (p == q) = decide (p = q) := by cases p <;> cases q <;> rfl
  simp [execOp, hρ _ _ hx, hρ _ _ hy, eqGuard, binOp, run_equal_bool, e]⟩
theorem y_neb [TBool P t] {p q : Bool} (hx : ev σ x = some (.bool p)) (hy : ev σ y = some (.bool q)) : YE P σ (.binOp .neq t x y t') ty w (.bool (decide (¬ p = q))) := ⟨fun w' _ ρ hρ => by
  have e : (!(p == q)) = decide (¬ p = q) := by cases p <;> cases q <;> rfl
  simp only [execOp, hρ _ _ hx, hρ _ _ hy, eqGuard, binOp, run_equal_bool, Sem.run_bind, Sem.run_pure, Result.andThen_ok, e]
  rfl⟩
theorem y_not {b : Bool} (hx : ev σ x = some (.bool b)) : YE P σ (.unOp .not t x) ty w (.bool (!b)) := ⟨fun w' _ ρ hρ => by simp [execOp, hρ _ _ hx, Op.unary]⟩
theorem y_not_dec {p : Prop} {dp : Decidable p} (hx : ev σ x = some (.bool (decide p))) : YE P σ (.unOp .not t x) ty w (.bool (decide (¬ p))) := ⟨fun w' _ ρ hρ => by simp [execOp, hρ _ _ hx, Op.unary]⟩
theorem y_max {t1 t2 : TypeId} (hx : ev σ x = some (.int k a)) (hy : ev σ y = some (.int k b)) : YE P σ (.call { callee := .builtin .max, args := #[x, y], argTypes := #[t1, t2] }) ty w (.int k (max a b)) := ⟨fun w' _ ρ hρ => by
  have e : (if b > a then b else a) = max a b := by split <;> omega
  simp [execOp, resolve, hρ _ _ hx, hρ _ _ hy, invoke, builtin, Builtin.max_, Builtin.max2, e]⟩
theorem y_min {t1 t2 : TypeId} (hx : ev σ x = some (.int k a)) (hy : ev σ y = some (.int k b)) : YE P σ (.call { callee := .builtin .min, args := #[x, y], argTypes := #[t1, t2] }) ty w (.int k (min a b)) := ⟨fun w' _ ρ hρ => by
  have e : (if b < a then b else a) = min a b := by split <;> omega
  simp [execOp, resolve, hρ _ _ hx, hρ _ _ hy, invoke, builtin, Builtin.min_, Builtin.min2, e]⟩
theorem y_nil {ad : Addr} (hx : ev σ x = some (.pointer (some ad))) : YE P σ (.nilCheck x) ty w (.pointer (some ad)) := ⟨fun w' _ ρ hρ => by simp [execOp, hρ _ _ hx]⟩
theorem y_func {f : FuncId} {xs : List Operand} {vs : List Value} (hx : evs σ xs = some vs) : YE P σ (.makeFunc (.func f) #[] xs.toArray) ty w (.func (.func f) #[] vs.toArray) := ⟨fun w' _ ρ hρ => by
  have : ∀ (xs : List Operand) (vs : List Value), evs σ xs = some vs → xs.map ρ = vs := by
    intro xs
    induction xs with
    | nil => intro vs h; simp [evs] at h; simp [h]
    | cons x r ih =>
      intro vs h
      simp only [evs] at h
      split at h
      · rename_i v' vs' h1 h2
        simp only [Option.some.injEq] at h
        subst h
        simp [hρ _ _ h1, ih _ h2]
      · cases h
  simp [execOp, Instr.makeFunc, this _ _ hx]⟩
end

/-! ### Cells -/
abbrev ptr (b o : Nat) : Value := .pointer (some ⟨b, o, none⟩)
theorem add_lit (b o n : Nat) : (⟨b, o, none⟩ : Addr).add n = ⟨b, o + n, none⟩ := by unfold Addr.add; split <;> simp_all
/-- from place o of block b on lie the cells cs -/
structure At (w : World) (b o : Nat) (cs : List Value) : Prop where
  go : ∀ i v, cs[i]? = some v → w.cell? ⟨b, o + i, none⟩ = some v
theorem At.chg {lo hi : Nat} {w w' : World} {b o : Nat} {cs : List Value} (h : At w b o cs) (hx : Chg lo hi w w') (ho : b < lo ∨ hi ≤ b) : At w' b o cs := ⟨fun i v hv => hx.cell (h.go i v hv) ho⟩
theorem At.ext {w w' : World} {b o : Nat} {cs : List Value} (h : At w b o cs) (hx : Ext w w') : At w' b o cs := h.chg hx (.inr (Nat.zero_le _))
/-- block b is a variable of the call's own, with these cells -/
structure Box (w : World) (b : Nat) (cs : List Value) : Prop where
  go : ∃ e, w.heap[b]? = some (.cells cs.toArray e (0, 0))
theorem Box.lt {w : World} {b : Nat} {cs : List Value} (h : Box w b cs) : b < w.heap.size := by obtain ⟨e, h⟩ := h.go; exact (Array.getElem?_eq_some_iff.1 h).1
theorem Box.chg {lo hi : Nat} {w w' : World} {b : Nat} {cs : List Value} (h : Box w b cs) (hx : Chg lo hi w w') (ho : b < lo ∨ hi ≤ b) : Box w' b cs := by
  have := h.lt
  obtain ⟨e, h⟩ := h.go
  exact ⟨e, by rw [hx.block b this ho]; exact h⟩
theorem Box.ext {w w' : World} {b : Nat} {cs : List Value} (h : Box w b cs) (hx : Ext w w') : Box w' b cs := h.chg hx (.inr (Nat.zero_le _))
theorem Box.at {w : World} {b : Nat} {cs : List Value} (h : Box w b cs) : At w b 0 cs := by
  obtain ⟨e, h⟩ := h.go
  refine ⟨fun i v hv => ?_⟩
  simp only [World.cell?, h, Nat.zero_add]
  simpa using hv
theorem Box.free {w : World} {b : Nat} {cs : List Value} (h : Box w b cs) (o : Nat) : w.frozen? ⟨b, o, none⟩ = false := by
  obtain ⟨e, h⟩ := h.go
  simp [World.frozen?, h]

section
variable {P : Program} {N : Nat} {σ : Fm} {w : World} {T ty : TypeId} {x y : Operand} {v u : Value} {b o : Nat} {cs : List Value}
theorem run_loadCellsFrom {a : Addr} : ∀ (cs : List Value) (i : Nat) (acc : Array Value), (∀ j v, cs[j]? = some v → w.cell? (a.add (i + j)) = some v) →
    (loadCellsFrom a i cs.length acc).run P w = .ok (acc ++ cs.toArray) w
  | [], i, acc, _ => by simp [loadCellsFrom]
  | c :: r, i, acc, h => by
    have h0 := h 0 c (by simp)
    simp only [Nat.add_zero] at h0
    simp only [List.length_cons, loadCellsFrom, Sem.run_bind, run_load, h0, Result.andThen_ok]
    rw [run_loadCellsFrom r (i + 1) (acc.push c) (fun j v hv => by have := h (j + 1) v (by simpa using hv); rwa [show i + 1 + j = i + (j + 1) by omega])]
    simp
theorem run_loadCells {a : Addr} (h : ∀ j v, cs[j]? = some v → w.cell? (a.add j) = some v) : (loadCells a cs.length).run P w = .ok cs.toArray w := by
  have := run_loadCellsFrom (P := P) (w := w) (a := a) cs 0 #[] (by simpa using h)
  simpa [loadCells] using this
theorem run_load_scal [TScal P T] (h : At w b o [v]) : (loadVar T ⟨b, o, none⟩).run P w = .ok v w := by
  have h0 := h.go 0 v (by simp)
  simp only [Nat.add_zero] at h0
  simp [loadVar, isAgg_scal, h0]
theorem run_load_str {n : Nat} [hT : TStr P T n] (h : At w b o cs) (hn : cs.length = n) : (loadVar T ⟨b, o, none⟩).run P w = .ok (.agg cs.toArray) w := by
  subst hn
  have e : (loadCells ⟨b, o, none⟩ cs.length).run P w = .ok cs.toArray w := run_loadCells fun j v hv => by rw [add_lit]; exact h.go j v hv
  simp [loadVar, isAgg_str, run_size w hT.size, e]
theorem At.one (h : At w b 0 cs) (hk : cs[o]? = some v) : At w b o [v] := ⟨fun i u hu => by
  cases i with
  | zero => simp at hu; subst hu; have := h.go o v hk; simpa using this
  | succ i => simp at hu⟩
theorem At.part {k n : Nat} (h : At w b o cs) : At w b (o + k) ((cs.drop k).take n) := ⟨fun i u hu => by
  rw [List.getElem?_take] at hu
  split at hu
  · rw [List.getElem?_drop] at hu
    have := h.go _ _ hu
    rwa [← Nat.add_assoc] at this
  · cases hu⟩
theorem At.cell (h : At w b o cs) {k : Nat} (hk : cs[k]? = some v) : At w b (o + k) [v] := ⟨fun i u hu => by
  cases i with
  | zero => simp at hu; subst hu; have := h.go k v hk; simpa using this
  | succ i => simp at hu⟩

theorem y_load [TScal P T] (hx : ev σ x = some (ptr b o)) (h : At w b o [v] := by repeat (first | assumption | exact Go.Gw.Own.sl (by assumption) | exact Go.Gw.Box.at (by assumption) | exact Go.Gw.SLL.el (by first | assumption | exact Go.Gw.OwnD.sll (by assumption)) _ (by omega) | exact Go.Gw.SLL.at (by first | assumption | exact Go.Gw.OwnD.sll (by assumption)) (by omega) | exact Go.Gw.OwnD.sll (by assumption) | (apply Go.Gw.SL.chg; case hx => assumption) | (apply Go.Gw.Own.chg; case hx => assumption) | (apply Go.Gw.Box.chg; case hx => assumption) | (apply Go.Gw.At.chg; case hx => assumption) | exact .inl (Nat.zero_le _) | exact .inr (Nat.zero_le _) | (show _ ∨ _; omega))) : YE P σ (.load T x) ty w v := ⟨fun w' hw ρ hρ => by
  simp [execOp, hρ _ _ hx, Instr.loadAt, Instr.sureAddr, run_load_scal (h.ext hw)]⟩
theorem y_loads {n : Nat} [TStr P T n] (hx : ev σ x = some (ptr b o)) (h : At w b o cs := by repeat (first | assumption | exact Go.Gw.Own.sl (by assumption) | exact Go.Gw.Box.at (by assumption) | exact Go.Gw.SLL.el (by first | assumption | exact Go.Gw.OwnD.sll (by assumption)) _ (by omega) | exact Go.Gw.SLL.at (by first | assumption | exact Go.Gw.OwnD.sll (by assumption)) (by omega) | exact Go.Gw.OwnD.sll (by assumption) | (apply Go.Gw.SL.chg; case hx => assumption) | (apply Go.Gw.Own.chg; case hx => assumption) | (apply Go.Gw.Box.chg; case hx => assumption) | (apply Go.Gw.At.chg; case hx => assumption) | exact .inl (Nat.zero_le _) | exact .inr (Nat.zero_le _) | (show _ ∨ _; omega))) (hn : cs.length = n := by rfl) : YE P σ (.load T x) ty w (.agg cs.toArray) := ⟨fun w' hw ρ hρ => by
  simp [execOp, hρ _ _ hx, Instr.loadAt, Instr.sureAddr, run_load_str (h.ext hw) hn]⟩
theorem y_loadk [TScal P T] {k : Nat} (hx : ev σ x = some (ptr b (o + k))) (h : At w b o cs := by repeat (first | assumption | exact Go.Gw.Own.sl (by assumption) | exact Go.Gw.Box.at (by assumption) | exact Go.Gw.SLL.el (by first | assumption | exact Go.Gw.OwnD.sll (by assumption)) _ (by omega) | exact Go.Gw.SLL.at (by first | assumption | exact Go.Gw.OwnD.sll (by assumption)) (by omega) | exact Go.Gw.OwnD.sll (by assumption) | (apply Go.Gw.SL.chg; case hx => assumption) | (apply Go.Gw.Own.chg; case hx => assumption) | (apply Go.Gw.Box.chg; case hx => assumption) | (apply Go.Gw.At.chg; case hx => assumption) | exact .inl (Nat.zero_le _) | exact .inr (Nat.zero_le _) | (show _ ∨ _; omega))) (hk : cs[k]? = some v := by rfl) : YE P σ (.load T x) ty w v := y_load hx (h.cell hk)
/-- a field of one cell in a variable of the call's own -/
theorem y_load_box [TScal P T] (hx : ev σ x = some (ptr b o)) (h : Box w b cs := by repeat (first | assumption | exact Go.Gw.Own.sl (by assumption) | exact Go.Gw.Box.at (by assumption) | exact Go.Gw.SLL.el (by first | assumption | exact Go.Gw.OwnD.sll (by assumption)) _ (by omega) | exact Go.Gw.SLL.at (by first | assumption | exact Go.Gw.OwnD.sll (by assumption)) (by omega) | exact Go.Gw.OwnD.sll (by assumption) | (apply Go.Gw.SL.chg; case hx => assumption) | (apply Go.Gw.Own.chg; case hx => assumption) | (apply Go.Gw.Box.chg; case hx => assumption) | (apply Go.Gw.At.chg; case hx => assumption) | exact .inl (Nat.zero_le _) | exact .inr (Nat.zero_le _) | (show _ ∨ _; omega))) (hk : cs[o]? = some v := by rfl) : YE P σ (.load T x) ty w v := y_load hx (h.at.one hk)
/-- a whole struct -/
theorem y_load_boxs {n : Nat} [TStr P T n] (hx : ev σ x = some (ptr b 0)) (h : Box w b cs := by repeat (first | assumption | exact Go.Gw.Own.sl (by assumption) | exact Go.Gw.Box.at (by assumption) | exact Go.Gw.SLL.el (by first | assumption | exact Go.Gw.OwnD.sll (by assumption)) _ (by omega) | exact Go.Gw.SLL.at (by first | assumption | exact Go.Gw.OwnD.sll (by assumption)) (by omega) | exact Go.Gw.OwnD.sll (by assumption) | (apply Go.Gw.SL.chg; case hx => assumption) | (apply Go.Gw.Own.chg; case hx => assumption) | (apply Go.Gw.Box.chg; case hx => assumption) | (apply Go.Gw.At.chg; case hx => assumption) | exact .inl (Nat.zero_le _) | exact .inr (Nat.zero_le _) | (show _ ∨ _; omega))) (hn : cs.length = n := by rfl) : YE P σ (.load T x) ty w (.agg cs.toArray) := y_loads hx h.at hn
/-- a struct that is a field -/
theorem y_load_boxp {n : Nat} {ds : List Value} [TStr P T n] (hx : ev σ x = some (ptr b o)) (h : Box w b cs := by repeat (first | assumption | exact Go.Gw.Own.sl (by assumption) | exact Go.Gw.Box.at (by assumption) | exact Go.Gw.SLL.el (by first | assumption | exact Go.Gw.OwnD.sll (by assumption)) _ (by omega) | exact Go.Gw.SLL.at (by first | assumption | exact Go.Gw.OwnD.sll (by assumption)) (by omega) | exact Go.Gw.OwnD.sll (by assumption) | (apply Go.Gw.SL.chg; case hx => assumption) | (apply Go.Gw.Own.chg; case hx => assumption) | (apply Go.Gw.Box.chg; case hx => assumption) | (apply Go.Gw.At.chg; case hx => assumption) | exact .inl (Nat.zero_le _) | exact .inr (Nat.zero_le _) | (show _ ∨ _; omega))) (hd : (cs.drop o).take n = ds := by rfl) (hn : ds.length = n := by rfl) : YE P σ (.load T x) ty w (.agg ds.toArray) := y_loads hx (by have := h.at.part (k := o) (n := n); rw [Nat.zero_add, hd] at this; exact this) hn
theorem y_field {S k off : Nat} [hT : TFld P S k off] (hx : ev σ x = some (ptr b o)) : YE P σ (.fieldAddr S x k) ty w (ptr b (o + off)) := ⟨fun w' hw ρ hρ => by
  obtain ⟨fs, f, h1, h2, h3, n, h4⟩ := hT.und
  simp [execOp, hρ _ _ hx, Instr.fieldAt, run_underlying h1, h2, Instr.sureAddr, fieldPlace, run_size _ h4, add_lit, h3]⟩

/-! a struct that is a value -/
theorem y_fieldv [TScal P T] {S k off : Nat} (hx : ev σ x = some (.agg cs.toArray)) (hT : ∃ fs f, P.underlying S = some (.struct fs) ∧ fs[k]? = some f ∧ f.offset = off ∧ f.type = T) (hv : cs[off]? = some v) : YE P σ (.field S x k) ty w v := ⟨fun w' hw ρ hρ => by
  obtain ⟨fs, f, h1, h2, h3, h4⟩ := hT
  subst h3
  subst h4
  simp [execOp, hρ _ _ hx, Instr.field, run_underlying h1, h2, asAgg, Go.part, isAgg_scal, hv]⟩
class TFldT (P : Program) (S : TypeId) (k : Nat) (off T : outParam Nat) : Prop where
  und : ∃ fs f, P.underlying S = some (.struct fs) ∧ fs[k]? = some f ∧ f.offset = off ∧ f.type = T
theorem y_fld {S k off T : Nat} [hT : TFldT P S k off T] [TScal P T] (hx : ev σ x = some (.agg cs.toArray)) (hv : cs[off]? = some v := by rfl) : YE P σ (.field S x k) ty w v := y_fieldv (T := T) hx hT.und hv
theorem y_flds {S k off T n : Nat} {ds : List Value} [hT : TFldT P S k off T] [hs : TStr P T n] (hx : ev σ x = some (.agg cs.toArray)) (hd : (cs.drop off).take n = ds := by rfl) : YE P σ (.field S x k) ty w (.agg ds.toArray) := ⟨fun w' hw ρ hρ => by
  subst hd
  obtain ⟨fs, f, h1, h2, h3, h4⟩ := hT.und
  subst h4
  have e : cs.toArray.extract f.offset (f.offset + n) = ((cs.drop off).take n).toArray := by
    subst h3
    apply Array.ext'
    simp [List.take_drop, List.extract_eq_take_drop]
  simp [execOp, hρ _ _ hx, Instr.field, run_underlying h1, h2, asAgg, Go.part, isAgg_str, run_size w' hs.size, e, h3]⟩
end
end Go.Gw

namespace Go.Gw
open Go
set_option linter.unusedVariables false
set_option linter.unusedSimpArgs false

/-! ### Elements -/
class Enc (α : Type) where
  sz : Nat
  enc : α → List Value
  len : ∀ x, (enc x).length = sz
  one : ∀ x, ∀ v ∈ enc x, v.oneCell' = true
  pos : 0 < sz
  dec : Value → Option α
  dec_ok : ∀ v x, dec v = some x → v.cells.toList = enc x
def decInt : Value → Option Int
  | .int .i64 n => some n
  | _ => none
/-- a string by its bytes -/
abbrev str (l : List UInt8) : Value := .string ⟨l.toArray⟩
def decStr : Value → Option (List UInt8)
  | .string s => some s.data.toList
  | _ => none
def decPair : Value → Option (Int × Int)
  | .agg ⟨[.int .i64 a, .int .i64 b]⟩ => some (a, b)
  | _ => none
instance : Enc Int := ⟨1, fun n => [.int .i64 n], fun _ => rfl, fun _ v hv => by simp at hv; subst hv; rfl, Nat.one_pos, decInt, fun v x h => by
  unfold decInt at h; split at h
  · cases h; rfl
  · cases h⟩
instance : Enc UInt8 := ⟨1, fun b => [.int .u8 b.toNat], fun _ => rfl, fun _ v hv => by simp at hv; subst hv; rfl, Nat.one_pos, fun _ => none, fun v x h => by cases h⟩
instance : Enc (List UInt8) := ⟨1, fun s => [str s], fun _ => rfl, fun _ v hv => by simp at hv; subst hv; rfl, Nat.one_pos, decStr, fun v x h => by
  unfold decStr at h; split at h
  · cases h; rfl
  · cases h⟩
/-- a slice that is an element -/
structure SV where
  a : Option Addr
  n : Nat
  c : Nat
def SV.v (s : SV) : Value := .slice s.a s.n s.c
/-- elements that are slices, or structs of one slice -/
class TSvE (P : Program) (e : TypeId) : Prop where
  yes : True
def decSV : Value → Option SV
  | .slice a n c => some ⟨a, n, c⟩
  | .agg ⟨[.slice a n c]⟩ => some ⟨a, n, c⟩
  | _ => none
instance : Enc SV := ⟨1, fun s => [s.v], fun _ => rfl, fun _ v hv => by simp at hv; subst hv; rfl, Nat.one_pos, decSV, fun v x h => by
  unfold decSV at h; split at h
  · cases h; rfl
  · cases h; rfl
  · cases h⟩
instance : Enc (Int × Int) := ⟨2, fun p => [.int .i64 p.1, .int .i64 p.2], fun _ => rfl, fun _ v hv => by simp at hv; rcases hv with rfl | rfl <;> rfl, by decide, decPair, fun v x h => by
  unfold decPair at h; split at h
  · cases h; rfl
  · cases h⟩

def sb : Value → Nat
  | .slice (some a) _ _ => a.block
  | _ => 0
def so : Value → Nat
  | .slice (some a) _ _ => a.off
  | _ => 0

/-- v is a slice; its elements read as xs; they lie in a block from lo up to hi, and may be written. -/
structure SL {α : Type} [Enc α] (w : World) (lo hi : Nat) (v : Value) (xs : List α) : Prop where
  form : ∃ a cap, v = .slice a xs.length cap ∧ xs.length ≤ cap ∧ cap ≤ maxLen ∧ (0 < xs.length → a = some ⟨sb v, so v, none⟩)
  el : ∀ i x, xs[i]? = some x → At w (sb v) (so v + i * Enc.sz α) (Enc.enc x)
  inn : 0 < xs.length → lo ≤ sb v ∧ sb v < hi
  top : hi ≤ w.heap.size
  free : ∀ i, i < xs.length * Enc.sz α → w.frozen? ⟨sb v, so v + i, none⟩ = false

section
variable {α : Type} {E : Enc α} {w w' : World} {lo hi : Nat} {v : Value} {xs : List α}
theorem SL.len_le (h : SL w lo hi v xs) : xs.length ≤ maxLen := by obtain ⟨a, c, _, h1, h2, _⟩ := h.form; omega
theorem SL.small (h : SL w lo hi v xs) : (xs.length : Int) ≤ 9223372036854775807 := by have := h.len_le; unfold maxLen at this; omega
theorem SL.chg {l k : Nat} (h : SL w lo hi v xs) (hx : Chg l k w w') (ho : k ≤ lo ∨ hi ≤ l) : SL w' lo hi v xs := by
  refine ⟨h.form, fun i x hi => ?_, h.inn, Nat.le_trans h.top hx.size, fun i hi => ?_⟩
  · have hl := (List.getElem?_eq_some_iff.1 hi).1
    have := h.inn (by omega)
    exact (h.el i x hi).chg hx (by omega)
  · have h0 : 0 < xs.length := by rcases Nat.eq_zero_or_pos xs.length with e | e; (rw [e] at hi; omega); exact e
    have := h.inn h0
    have := h.top
    rw [hx.frozen (by show sb v < _; omega) (by show sb v < l ∨ k ≤ sb v; omega)]
    exact h.free i hi
theorem SL.ext (h : SL w lo hi v xs) (hx : Ext w w') : SL w' lo hi v xs := h.chg hx (.inl (Nat.zero_le _))
theorem SL.wide {lo' hi' : Nat} (h : SL w lo hi v xs) (h1 : lo' ≤ lo) (h2 : hi ≤ hi') (h3 : hi' ≤ w.heap.size) : SL w lo' hi' v xs :=
  ⟨h.form, h.el, fun h0 => by have := h.inn h0; omega, h3, h.free⟩
theorem SL.block (h : SL w lo hi v xs) (h0 : 0 < xs.length) : lo ≤ sb v ∧ sb v < hi := h.inn h0
end

section
variable {P : Program} {N : Nat} {σ : Fm} {w w' : World} {T ty : TypeId} {x y : Operand} {v u : Value} {α : Type} {E : Enc α} {lo hi : Nat} {xs : List α}
theorem y_len {e s b : Nat} [hT : TSli P T e s b] (hx : ev σ x = some v) (h : SL w lo hi v xs := by repeat (first | assumption | exact Go.Gw.Own.sl (by assumption) | exact Go.Gw.Box.at (by assumption) | exact Go.Gw.SLL.el (by first | assumption | exact Go.Gw.OwnD.sll (by assumption)) _ (by omega) | exact Go.Gw.SLL.at (by first | assumption | exact Go.Gw.OwnD.sll (by assumption)) (by omega) | exact Go.Gw.OwnD.sll (by assumption) | (apply Go.Gw.SL.chg; case hx => assumption) | (apply Go.Gw.Own.chg; case hx => assumption) | (apply Go.Gw.Box.chg; case hx => assumption) | (apply Go.Gw.At.chg; case hx => assumption) | exact .inl (Nat.zero_le _) | exact .inr (Nat.zero_le _) | (show _ ∨ _; omega))) : YE P σ (.call { callee := .builtin .len, args := #[x], argTypes := #[T] }) ty w (.int .i64 xs.length) := ⟨fun w' hw ρ hρ => by
  obtain ⟨a, c, hv, _⟩ := h.form
  simp only [execOp, resolve, Sem.run_bind, Sem.run_pure, Result.andThen_ok, invoke, builtin, List.map_toArray, List.map_cons, List.map_nil, hρ _ _ hx]
  rw [hv]
  simp [Builtin.len_, run_underlying hT.und, goInt]⟩
theorem y_index {e s b : Nat} {k : IntKind} {i : Int} [hT : TSli P T e s b] (hx : ev σ x = some v) (hy : ev σ y = some (.int k i)) (h : SL w lo hi v xs := by repeat (first | assumption | exact Go.Gw.Own.sl (by assumption) | exact Go.Gw.Box.at (by assumption) | exact Go.Gw.SLL.el (by first | assumption | exact Go.Gw.OwnD.sll (by assumption)) _ (by omega) | exact Go.Gw.SLL.at (by first | assumption | exact Go.Gw.OwnD.sll (by assumption)) (by omega) | exact Go.Gw.OwnD.sll (by assumption) | (apply Go.Gw.SL.chg; case hx => assumption) | (apply Go.Gw.Own.chg; case hx => assumption) | (apply Go.Gw.Box.chg; case hx => assumption) | (apply Go.Gw.At.chg; case hx => assumption) | exact .inl (Nat.zero_le _) | exact .inr (Nat.zero_le _) | (show _ ∨ _; omega))) (hi : 0 ≤ i ∧ i < xs.length := by first | omega | (simp only [List.length_set]; omega) | (simp only [List.length_set, List.length_append, List.length_cons, List.length_nil]; omega)) : YE P σ (.indexAddr T x y) ty w (ptr (sb v) (so v + i.toNat * s)) := ⟨fun w' hw ρ hρ => by
  obtain ⟨a, c, hv, _, _, ha⟩ := h.form
  have ha := ha (by omega)
  subst ha
  have h2 : 0 ≤ i ∧ i < (xs.length : Int) := hi
  simp only [execOp, Sem.run_bind, Sem.run_pure, hρ _ _ hx, hρ _ _ hy]
  rw [hv]
  simp [Instr.indexAt, asIntOf, run_underlying hT.und, h2, run_size _ hT.size, add_lit, sb, so]⟩
/-- an element of one cell -/
theorem y_load_el [TScal P T] {n : Nat} {d : α} (hx : ev σ x = some (ptr (sb v) (so v + n * Enc.sz α))) (h : SL w lo hi v xs) (hn : n < xs.length) (hu : Enc.enc (xs.getD n d) = [u]) : YE P σ (.load T x) ty w u := by
  have hel := h.el n (xs.getD n d) (by rw [List.getD_eq_getElem?_getD, List.getElem?_eq_getElem hn]; rfl)
  rw [hu] at hel
  exact y_load hx hel
/-- a field of one cell of an element -/
theorem y_load_elf [TScal P T] {n k s : Nat} {d : α} (hx : ev σ x = some (ptr (sb v) (so v + n * s + k))) (h : SL w lo hi v xs := by repeat (first | assumption | exact Go.Gw.Own.sl (by assumption) | exact Go.Gw.Box.at (by assumption) | exact Go.Gw.SLL.el (by first | assumption | exact Go.Gw.OwnD.sll (by assumption)) _ (by omega) | exact Go.Gw.SLL.at (by first | assumption | exact Go.Gw.OwnD.sll (by assumption)) (by omega) | exact Go.Gw.OwnD.sll (by assumption) | (apply Go.Gw.SL.chg; case hx => assumption) | (apply Go.Gw.Own.chg; case hx => assumption) | (apply Go.Gw.Box.chg; case hx => assumption) | (apply Go.Gw.At.chg; case hx => assumption) | exact .inl (Nat.zero_le _) | exact .inr (Nat.zero_le _) | (show _ ∨ _; omega))) (hs : s = Enc.sz α := by rfl) (hn : n < xs.length := by first | omega | (simp only [List.length_set]; omega) | (simp only [List.length_set, List.length_append, List.length_cons, List.length_nil]; omega)) (hu : (Enc.enc (xs.getD n d))[k]? = some u := by rfl) : YE P σ (.load T x) ty w u := by
  have hel := h.el n (xs.getD n d) (by rw [List.getD_eq_getElem?_getD, List.getElem?_eq_getElem hn]; rfl)
  subst hs
  exact y_load hx (hel.cell hu)
/-- an element that is a struct -/
theorem y_load_els {n m s : Nat} {d : α} [TStr P T m] (hx : ev σ x = some (ptr (sb v) (so v + n * s))) (h : SL w lo hi v xs := by repeat (first | assumption | exact Go.Gw.Own.sl (by assumption) | exact Go.Gw.Box.at (by assumption) | exact Go.Gw.SLL.el (by first | assumption | exact Go.Gw.OwnD.sll (by assumption)) _ (by omega) | exact Go.Gw.SLL.at (by first | assumption | exact Go.Gw.OwnD.sll (by assumption)) (by omega) | exact Go.Gw.OwnD.sll (by assumption) | (apply Go.Gw.SL.chg; case hx => assumption) | (apply Go.Gw.Own.chg; case hx => assumption) | (apply Go.Gw.Box.chg; case hx => assumption) | (apply Go.Gw.At.chg; case hx => assumption) | exact .inl (Nat.zero_le _) | exact .inr (Nat.zero_le _) | (show _ ∨ _; omega))) (hs : s = Enc.sz α := by rfl) (hn : n < xs.length := by first | omega | (simp only [List.length_set]; omega) | (simp only [List.length_set, List.length_append, List.length_cons, List.length_nil]; omega)) (hm : Enc.sz α = m := by rfl) : YE P σ (.load T x) ty w (.agg (Enc.enc (xs.getD n d)).toArray) := by
  have hel := h.el n (xs.getD n d) (by rw [List.getD_eq_getElem?_getD, List.getElem?_eq_getElem hn]; rfl)
  subst hs
  exact y_loads hx hel (by rw [Enc.len, hm])
end

/-! ### The same for the kinds of elements at hand -/
section
variable {P : Program} {N : Nat} {σ : Fm} {w w' : World} {T ty : TypeId} {x y : Operand} {v u : Value} {lo hi : Nat}
theorem y_load_int [TScal P T] {n : Nat} {xs : List Int} (hx : ev σ x = some (ptr (sb v) (so v + n * 1))) (h : SL w lo hi v xs := by repeat (first | assumption | exact Go.Gw.Own.sl (by assumption) | exact Go.Gw.Box.at (by assumption) | exact Go.Gw.SLL.el (by first | assumption | exact Go.Gw.OwnD.sll (by assumption)) _ (by omega) | exact Go.Gw.SLL.at (by first | assumption | exact Go.Gw.OwnD.sll (by assumption)) (by omega) | exact Go.Gw.OwnD.sll (by assumption) | (apply Go.Gw.SL.chg; case hx => assumption) | (apply Go.Gw.Own.chg; case hx => assumption) | (apply Go.Gw.Box.chg; case hx => assumption) | (apply Go.Gw.At.chg; case hx => assumption) | exact .inl (Nat.zero_le _) | exact .inr (Nat.zero_le _) | (show _ ∨ _; omega))) (hn : n < xs.length := by first | omega | (simp only [List.length_set]; omega) | (simp only [List.length_set, List.length_append, List.length_cons, List.length_nil]; omega)) : YE P σ (.load T x) ty w (.int .i64 (xs.getD n 0)) := y_load_el hx h hn rfl
theorem y_load_inte [TScal P T] {n : Nat} {xs : List Int} {a : Int} (hx : ev σ x = some (ptr (sb v) (so v + n * 1))) (hg : xs.getD n 0 = a) (h : SL w lo hi v xs := by repeat (first | assumption | exact Go.Gw.Own.sl (by assumption) | exact Go.Gw.Box.at (by assumption) | exact Go.Gw.SLL.el (by first | assumption | exact Go.Gw.OwnD.sll (by assumption)) _ (by omega) | exact Go.Gw.SLL.at (by first | assumption | exact Go.Gw.OwnD.sll (by assumption)) (by omega) | exact Go.Gw.OwnD.sll (by assumption) | (apply Go.Gw.SL.chg; case hx => assumption) | (apply Go.Gw.Own.chg; case hx => assumption) | (apply Go.Gw.Box.chg; case hx => assumption) | (apply Go.Gw.At.chg; case hx => assumption) | exact .inl (Nat.zero_le _) | exact .inr (Nat.zero_le _) | (show _ ∨ _; omega))) (hn : n < xs.length := by first | omega | (simp only [List.length_set]; omega) | (simp only [List.length_set, List.length_append, List.length_cons, List.length_nil]; omega)) : YE P σ (.load T x) ty w (.int .i64 a) := by subst hg; exact y_load_el hx h hn rfl
theorem y_load_u8 [TScal P T] {n : Nat} {xs : List UInt8} (hx : ev σ x = some (ptr (sb v) (so v + n * 1))) (h : SL w lo hi v xs := by repeat (first | assumption | exact Go.Gw.Own.sl (by assumption) | exact Go.Gw.Box.at (by assumption) | exact Go.Gw.SLL.el (by first | assumption | exact Go.Gw.OwnD.sll (by assumption)) _ (by omega) | exact Go.Gw.SLL.at (by first | assumption | exact Go.Gw.OwnD.sll (by assumption)) (by omega) | exact Go.Gw.OwnD.sll (by assumption) | (apply Go.Gw.SL.chg; case hx => assumption) | (apply Go.Gw.Own.chg; case hx => assumption) | (apply Go.Gw.Box.chg; case hx => assumption) | (apply Go.Gw.At.chg; case hx => assumption) | exact .inl (Nat.zero_le _) | exact .inr (Nat.zero_le _) | (show _ ∨ _; omega))) (hn : n < xs.length := by first | omega | (simp only [List.length_set]; omega) | (simp only [List.length_set, List.length_append, List.length_cons, List.length_nil]; omega)) : YE P σ (.load T x) ty w (.int .u8 (xs.getD n 0).toNat) := y_load_el hx h hn rfl
theorem y_load_str [TScal P T] {n : Nat} {xs : List (List UInt8)} (hx : ev σ x = some (ptr (sb v) (so v + n * 1))) (h : SL w lo hi v xs := by repeat (first | assumption | exact Go.Gw.Own.sl (by assumption) | exact Go.Gw.Box.at (by assumption) | exact Go.Gw.SLL.el (by first | assumption | exact Go.Gw.OwnD.sll (by assumption)) _ (by omega) | exact Go.Gw.SLL.at (by first | assumption | exact Go.Gw.OwnD.sll (by assumption)) (by omega) | exact Go.Gw.OwnD.sll (by assumption) | (apply Go.Gw.SL.chg; case hx => assumption) | (apply Go.Gw.Own.chg; case hx => assumption) | (apply Go.Gw.Box.chg; case hx => assumption) | (apply Go.Gw.At.chg; case hx => assumption) | exact .inl (Nat.zero_le _) | exact .inr (Nat.zero_le _) | (show _ ∨ _; omega))) (hn : n < xs.length := by first | omega | (simp only [List.length_set]; omega) | (simp only [List.length_set, List.length_append, List.length_cons, List.length_nil]; omega)) : YE P σ (.load T x) ty w (str (xs.getD n [])) := y_load_el hx h hn rfl
end

/-! ### Slices of the call's own -/
def bL : Value → Nat := sb
def bH : Value → Nat
  | .slice (some a) _ _ => a.block + 1
  | _ => 0
/-- v is a slice that has a block of its own, from B on (or nil): its elements are xs -/
structure Own {α : Type} [Enc α] (w : World) (e : TypeId) (B : Nat) (v : Value) (xs : List α) : Prop where
  go : w.ownsRow B e (Enc.sz α) v xs.length (xs.flatMap Enc.enc)

section
variable {α : Type} {E : Enc α} {w w' : World} {e : TypeId} {B : Nat} {v : Value} {xs : List α}
theorem flat_len (xs : List α) : (xs.flatMap Enc.enc).length = xs.length * Enc.sz α := by
  induction xs with
  | nil => simp
  | cons x r ih => simp only [List.flatMap_cons, List.length_append, ih, Enc.len, List.length_cons, Nat.add_mul, Nat.one_mul]; omega
theorem flat_get (xs : List α) : ∀ (i : Nat) (x : α) (j : Nat) (u : Value), xs[i]? = some x → (Enc.enc x)[j]? = some u → (xs.flatMap Enc.enc)[i * Enc.sz α + j]? = some u := by
  induction xs with
  | nil => intro i x j u hx; simp at hx
  | cons y r ih =>
    intro i x j u hx hu
    simp only [List.flatMap_cons]
    cases i with
    | zero =>
      simp at hx
      subst hx
      have hj : j < (Enc.enc y).length := (List.getElem?_eq_some_iff.1 hu).1
      rw [Nat.zero_mul, Nat.zero_add, List.getElem?_append_left hj]
      exact hu
    | succ i =>
      have e : (i + 1) * Enc.sz α + j = (Enc.enc y).length + (i * Enc.sz α + j) := by rw [Enc.len, Nat.add_mul, Nat.one_mul]; omega
      rw [e, List.getElem?_append_right (by omega), Nat.add_sub_cancel_left]
      exact ih i x j u (by simpa using hx) hu
theorem Own.lt (h : Own w e B v xs) : (bH v = 0 ∧ bL v = 0) ∨ (B ≤ bL v ∧ bL v < w.heap.size ∧ bH v = bL v + 1) := by
  rcases h.go.2 with ⟨rfl, _⟩ | ⟨g, cap, cur, rfl, hb, hg, _⟩
  · exact .inl ⟨rfl, rfl⟩
  · exact .inr ⟨hb, (Array.getElem?_eq_some_iff.1 hg).1, rfl⟩
theorem Own.sl (h : Own w e B v xs) : SL w (bL v) (bH v) v xs := by
  rcases h.go with ⟨hlen, ⟨rfl, hn⟩ | ⟨g, cap, cur, rfl, hb, hg, hnc, hcm, hcs, htk⟩⟩
  · have : xs = [] := List.eq_nil_of_length_eq_zero hn
    subst this
    exact ⟨⟨none, 0, rfl, Nat.le_refl _, Nat.zero_le _, fun h => by simp at h⟩, fun i x hi => by simp at hi, fun h => by simp at h, Nat.zero_le _, fun i hi => by simp at hi⟩
  · refine ⟨⟨_, cap, rfl, hnc, hcm, fun _ => rfl⟩, fun i x hx => ⟨fun j u hu => ?_⟩, fun _ => ⟨Nat.le_refl _, Nat.lt_succ_self _⟩, (Array.getElem?_eq_some_iff.1 hg).1, fun i hi => ?_⟩
    · show w.cell? ⟨g, 0 + i * Enc.sz α + j, none⟩ = some u
      have hf := flat_get xs i x j u hx hu
      rw [← htk, List.getElem?_take] at hf
      simp only [World.cell?, hg, Nat.zero_add]
      split at hf
      · simpa using hf
      · cases hf
    · show w.frozen? ⟨g, 0 + i, none⟩ = false
      simp [World.frozen?, hg]
theorem Own.chg {l k : Nat} (h : Own w e B v xs) (hx : Chg l k w w') (ho : k ≤ bL v ∨ bH v ≤ l) : Own w' e B v xs := by
  rcases h.go with ⟨hlen, hn | ⟨g, cap, cur, rfl, hb, hg, rest⟩⟩
  · exact ⟨hlen, .inl hn⟩
  · refine ⟨hlen, .inr ⟨g, cap, cur, rfl, hb, ?_, rest⟩⟩
    rw [hx.block g (Array.getElem?_eq_some_iff.1 hg).1 (by simp only [bL, bH, sb] at ho; omega)]
    exact hg
theorem Own.ext (h : Own w e B v xs) (hx : Ext w w') : Own w' e B v xs := h.chg hx (.inl (Nat.zero_le _))
theorem Own.base {B' : Nat} (h : Own w e B v xs) (hb : B' ≤ B) : Own w e B' v xs := by
  rcases h.go with ⟨hlen, hn | ⟨g, cap, cur, rfl, hb', rest⟩⟩
  · exact ⟨hlen, .inl hn⟩
  · exact ⟨hlen, .inr ⟨g, cap, cur, rfl, by omega, rest⟩⟩
/-- what is its own lies between the worlds -/
theorem Own.fresh (h : Own w e B v xs) : SL w B w.heap.size v xs := by
  have hs := h.sl
  refine ⟨hs.form, hs.el, fun h0 => ?_, Nat.le_refl _, hs.free⟩
  rcases h.go.2 with ⟨rfl, hz⟩ | ⟨g, cap, cur, rfl, hb, hg, _⟩
  · omega
  · exact ⟨hb, (Array.getElem?_eq_some_iff.1 hg).1⟩
/-- a better bound, where the block is known to lie higher -/
theorem Own.rebase {B' : Nat} (h : Own w e B v xs) (hb : bH v = 0 ∨ B' ≤ bL v) : Own w e B' v xs := by
  rcases h.go with ⟨hlen, hn | ⟨g, cap, cur, rfl, hb', rest⟩⟩
  · exact ⟨hlen, .inl hn⟩
  · exact ⟨hlen, .inr ⟨g, cap, cur, rfl, by simp only [bL, bH, sb] at hb; omega, rest⟩⟩
theorem Own.nil (w : World) (e : TypeId) (B : Nat) : Own (α := α) w e B (.slice none 0 0) [] := ⟨by simpa using World.ownsRow_nil w B e (Enc.sz α)⟩
/-- Chg of the block alone -/
theorem chg_of_grown {P : Prop} (h : w.grownBy w' v.ownBlock) : Chg (bL v) (bH v) w w' :=
  ⟨h.os, h.tape, h.output, h.size, fun k hk ho => h.block k hk (by
    cases v with
    | slice a n c =>
      cases a with
      | none => simp [Value.ownBlock]
      | some ad => simp only [Value.ownBlock, bL, bH, sb] at ho ⊢; intro e; simp at e; omega
    | _ => simp [Value.ownBlock])⟩
end

/-! ### Values of one cell -/
def AllOne : List Value → Prop
  | [] => True
  | v :: r => v.oneCell' = true ∧ AllOne r
theorem AllOne.all : ∀ {vs : List Value}, AllOne vs → ∀ u ∈ vs, u.oneCell' = true
  | [], _, u, hu => by simp at hu
  | v :: r, ⟨h1, h2⟩, u, hu => by
    rcases List.mem_cons.1 hu with rfl | h
    · exact h1
    · exact h2.all u h
theorem SL.one {α : Type} {E : Enc α} {w : World} {lo hi : Nat} {v : Value} {xs : List α} (h : SL w lo hi v xs) : v.oneCell' = true := by
  obtain ⟨a, c, hv, _⟩ := h.form
  rw [hv]; rfl
theorem Own.one {α : Type} {E : Enc α} {w : World} {e : TypeId} {B : Nat} {v : Value} {xs : List α} (h : Own w e B v xs) : v.oneCell' = true := h.sl.one
theorem cells_one {u : Value} (h : u.oneCell' = true) : u.cells = #[u] := by cases u <;> first | rfl | simp [Value.oneCell'] at h

section
variable {P : Program} {N : Nat} {Q : Post} {σ : Fm} {w : World} {ops : Array Oper} {rest : List Oper} {ty T : TypeId} {pos : String} {af : Array Edge} {d : Nat} {v u : Value} {x y : Operand} {e s b : Nat}
variable {α : Type} [E : Enc α]

/-! ### New variables -/
theorem box_new (w : World) (cs : Array Value) (e : TypeId) : Box (w.alloc (.cells cs e)) w.heap.size cs.toList := ⟨e, by rw [heap_alloc_new]⟩
theorem w_alloc {z : Value} {cs : List Value} [hz : TZero P T z] (hc : z.cells = cs.toArray := by rfl) (hd : Nat.blt d N = true := by rfl)
    (k : ∀ b w', Box w' b cs → Ext w w' → w.heap.size ≤ b → w'.heap.size = b + 1 → W P N ops Q rest ((d, ptr b 0) :: σ) w') : W P N ops Q (⟨some d, .alloc T, ty, pos, af, none⟩ :: rest) σ w := by
  refine ⟨fun a ha => ?_⟩
  refine wpList_plain rfl fun K hK => ?_
  unfold Oper.wp
  have : (execOp a.eval ⟨some d, .alloc T, ty, pos, af, none⟩).run P w = .ok (.value (ptr w.heap.size 0)) (w.alloc (.cells z.cells T)) := by
    simp [execOp, Instr.alloc, run_zero w (z := z), newVar, newRow]
  rw [this, hc]
  exact hK _ _ ((k w.heap.size _ (box_new w cs.toArray _) (Chg.alloc w _) (Nat.le_refl _) (by simp)).go _ (ha.put hd _))
theorem w_box {cs : List Value} (hx : ev σ x = some v) (hc : v.cells = cs.toArray := by rfl) (hd : Nat.blt d N = true := by rfl)
    (k : ∀ b w', Box w' b cs → Ext w w' → w.heap.size ≤ b → w'.heap.size = b + 1 → W P N ops Q rest ((d, ptr b 0) :: σ) w') : W P N ops Q (⟨some d, .box T x, ty, pos, af, none⟩ :: rest) σ w := by
  refine ⟨fun a ha => ?_⟩
  refine wpList_plain rfl fun K hK => ?_
  unfold Oper.wp
  have : (execOp a.eval ⟨some d, .box T x, ty, pos, af, none⟩).run P w = .ok (.value (ptr w.heap.size 0)) (w.alloc (.cells v.cells T)) := by
    simp [execOp, Instr.box, ha.eval hx, newVar, newRow]
  rw [this, hc]
  exact hK _ _ ((k w.heap.size _ (box_new w cs.toArray _) (Chg.alloc w _) (Nat.le_refl _) (by simp)).go _ (ha.put hd _))

/-- of one cell -/
theorem w_box1 (hx : ev σ x = some v) (hu : v.oneCell' = true := by first | rfl | exact Go.Gw.SL.one (by assumption) | exact Go.Gw.Own.one (by assumption)) (hd : Nat.blt d N = true := by rfl)
    (k : ∀ b w', Box w' b [v] → Ext w w' → w.heap.size ≤ b → w'.heap.size = b + 1 → W P N ops Q rest ((d, ptr b 0) :: σ) w') : W P N ops Q (⟨some d, .box T x, ty, pos, af, none⟩ :: rest) σ w :=
  w_box hx (cells_one hu) hd k

/-! ### Stores into variables of the call's own -/

theorem setCell_box {cs : List Value} {b k : Nat} (h : Box w b cs) (hk : k < cs.length) (u : Value) : Box (w.setCell ⟨b, k, none⟩ u) b (cs.set k u) ∧ Chg b (b + 1) w (w.setCell ⟨b, k, none⟩ u) := by
  obtain ⟨e, hb⟩ := h.go
  have e1 := setCell_eq_setRow w b k cs.toArray e (0, 0) u hb
  rw [e1]
  refine ⟨⟨e, ?_⟩, ⟨rfl, rfl, rfl, by simp, fun j hj ho => setRow_other w b j _ (by omega)⟩⟩
  rw [setRow_heap w b _ _ e (0, 0) hb]
  simp
theorem w_store_box [hT : TScal P T] {b k : Nat} {cs cs' : List Value} (hx : ev σ x = some (ptr b k)) (hy : ev σ y = some u) (hu : u.oneCell' = true := by first | rfl | exact Go.Gw.SL.one (by assumption) | exact Go.Gw.Own.one (by assumption)) (h : Box w b cs := by repeat (first | assumption | exact Go.Gw.Own.sl (by assumption) | exact Go.Gw.Box.at (by assumption) | exact Go.Gw.SLL.el (by first | assumption | exact Go.Gw.OwnD.sll (by assumption)) _ (by omega) | exact Go.Gw.SLL.at (by first | assumption | exact Go.Gw.OwnD.sll (by assumption)) (by omega) | exact Go.Gw.OwnD.sll (by assumption) | (apply Go.Gw.SL.chg; case hx => assumption) | (apply Go.Gw.Own.chg; case hx => assumption) | (apply Go.Gw.Box.chg; case hx => assumption) | (apply Go.Gw.At.chg; case hx => assumption) | exact .inl (Nat.zero_le _) | exact .inr (Nat.zero_le _) | (show _ ∨ _; omega))) (hk : Nat.blt k cs.length = true := by rfl) (hset : cs.set k u = cs' := by dsimp only [Nat.reduceAdd, List.set])
    (next : ∀ w', Box w' b cs' → Chg b (b + 1) w w' → w'.heap.size = w.heap.size → W P N ops Q rest σ w') : W P N ops Q (⟨none, .store T x y, ty, pos, af, none⟩ :: rest) σ w := by
  subst hset
  have hk : k < cs.length := by simpa [Nat.blt_eq] using hk
  refine ⟨fun a ha => ?_⟩
  refine wpList_plain rfl fun K hK => ?_
  unfold Oper.wp
  have hc : w.cell? ⟨b, k, none⟩ = some cs[k] := by have := h.at.go k cs[k] (by simp [hk]); simpa using this
  have hcells : u.cells = #[u] := by cases u <;> first | rfl | simp [Value.oneCell'] at hu
  have : (execOp a.eval ⟨none, .store T x y, ty, pos, af, none⟩).run P w = .ok .skip (w.setCell ⟨b, k, none⟩ u) := by
    simp [execOp, ha.eval hx, ha.eval hy, Instr.storeAt, Instr.sureAddr, storeVar, run_size w hT.size, hcells, storeCells, run_store, hu, add_lit, hc, h.free]
  rw [this]
  obtain ⟨h1, h2⟩ := setCell_box h hk u
  exact hK _ _ ((next _ h1 h2 (by simp)).go _ (ha.put_none _))
theorem w_store_boxs {n : Nat} [hT : TStr P T n] {b : Nat} {cs vs : List Value} (hx : ev σ x = some (ptr b 0)) (hy : ev σ y = some (.agg vs.toArray)) (hu : AllOne vs := by repeat (first | exact trivial | refine ⟨by first | rfl | exact Go.Gw.SL.one (by assumption) | exact Go.Gw.Own.one (by assumption), ?_⟩)) (h : Box w b cs := by repeat (first | assumption | exact Go.Gw.Own.sl (by assumption) | exact Go.Gw.Box.at (by assumption) | exact Go.Gw.SLL.el (by first | assumption | exact Go.Gw.OwnD.sll (by assumption)) _ (by omega) | exact Go.Gw.SLL.at (by first | assumption | exact Go.Gw.OwnD.sll (by assumption)) (by omega) | exact Go.Gw.OwnD.sll (by assumption) | (apply Go.Gw.SL.chg; case hx => assumption) | (apply Go.Gw.Own.chg; case hx => assumption) | (apply Go.Gw.Box.chg; case hx => assumption) | (apply Go.Gw.At.chg; case hx => assumption) | exact .inl (Nat.zero_le _) | exact .inr (Nat.zero_le _) | (show _ ∨ _; omega))) (hn : vs.length = n := by rfl) (hl : cs.length = vs.length := by rfl)
    (next : ∀ w', Box w' b vs → Chg b (b + 1) w w' → w'.heap.size = w.heap.size → W P N ops Q rest σ w') : W P N ops Q (⟨none, .store T x y, ty, pos, af, none⟩ :: rest) σ w := by
  subst hn
  refine ⟨fun a ha => ?_⟩
  refine wpList_plain rfl fun K hK => ?_
  unfold Oper.wp
  obtain ⟨e, hb⟩ := h.go
  have hst := run_storeVar_row (P := P) w b e T cs.toArray vs.toArray hb (by simpa using hT.size) (by simpa using hl) (by simpa using hu.all)
  have : (execOp a.eval ⟨none, .store T x y, ty, pos, af, none⟩).run P w = .ok .skip (w.setRow b vs.toArray) := by
    simp [execOp, ha.eval hx, ha.eval hy, Instr.storeAt, Instr.sureAddr, hst]
  rw [this]
  exact hK _ _ ((next _ ⟨e, setRow_heap w b _ _ e (0, 0) hb⟩ ⟨rfl, rfl, rfl, by simp, fun j hj ho => setRow_other w b j _ (by omega)⟩ (by simp)).go _ (ha.put_none _))
end
end Go.Gw
/- L6 -/
namespace Go.Gw
open Go
set_option linter.unusedVariables false
set_option linter.unusedSimpArgs false

/-! ### A struct of fields of one cell each -/
class TFlat (P : Program) (T : TypeId) (zs : outParam (List Value)) : Prop where
  zero : (P.info? T).bind (·.zero) = some (.agg zs.toArray)
  und : ∃ fs, P.underlying T = some (.struct fs) ∧ fs.mapM (fun f => (P.info? f.type).map fun i => (f.offset, i.size)) = some ((List.range zs.length).map fun i => (i, 1)).toArray
def putAll (zs : List Value) : List (Nat × Value) → List Value
  | [] => zs
  | (i, v) :: r => putAll (zs.set i v) r
theorem putAll_len : ∀ (ps : List (Nat × Value)) (zs : List Value), (putAll zs ps).length = zs.length
  | [], zs => rfl
  | (i, v) :: r, zs => by simp [putAll, putAll_len r]
def evp (σ : Fm) : List (Nat × Operand) → Option (List (Nat × Value))
  | [] => some []
  | (i, x) :: r => match ev σ x, evp σ r with
    | some v, some vs => some ((i, v) :: vs)
    | _, _ => none
theorem evp_spec {σ : Fm} {ρ : Operand → Value} (hρ : ∀ x v, ev σ x = some v → ρ x = v) : ∀ {xs : List (Nat × Operand)} {vs : List (Nat × Value)}, evp σ xs = some vs → xs.map (fun p => (p.1, ρ p.2)) = vs
  | [], vs, h => by simp [evp] at h; simp [h]
  | (i, x) :: r, vs, h => by
    simp only [evp] at h
    split at h
    · rename_i v' vs' h1 h2
      simp only [Option.some.injEq] at h
      subst h
      simp [hρ _ _ h1, evp_spec hρ h2]
    · cases h
def Below' (n : Nat) : List (Nat × Value) → Prop
  | [] => True
  | (i, v) :: r => (Nat.blt i n = true ∧ v.oneCell' = true) ∧ Below' n r

theorem fill_one {n : Nat} {place : Nat → Option (Nat × Nat)} (hp : ∀ i, i < n → place i = some (i, 1)) : ∀ (ps : List (Nat × Value)) (zs : List Value), zs.length = n → Below' n ps →
    Instr.fill place zs.toArray ps = some (putAll zs ps).toArray
  | [], zs, _, _ => rfl
  | (i, v) :: r, zs, hz, ⟨⟨h1, h2⟩, h3⟩ => by
    have hi : i < n := by simpa [Nat.blt_eq] using h1
    have hc := cells_one h2
    simp only [Instr.fill, hp i hi, hc]
    rw [if_neg (by simp; omega)]
    have := fill_one hp r (zs.set i v) (by simp [hz]) h3
    simpa [putAll] using this

section
variable {P : Program} {N : Nat} {Q : Post} {σ : Fm} {w : World} {ops : Array Oper} {rest : List Oper} {ty T : TypeId} {pos : String} {af : Array Edge} {d : Nat} {v u : Value} {x y : Operand} {e s b : Nat}

theorem y_build {zs : List Value} [hT : TFlat P T zs] {parts : List (Nat × Operand)} {ps : List (Nat × Value)} {cs : List Value} (hx : evp σ parts = some ps) (h : Below' zs.length ps := by repeat (first | exact trivial | refine ⟨⟨rfl, by first | rfl | exact Go.Gw.SL.one (by assumption) | exact Go.Gw.Own.one (by assumption)⟩, ?_⟩)) (hc : putAll zs ps = cs := by dsimp only [putAll, List.set]) : YE P σ (.build T parts.toArray) ty w (.agg cs.toArray) := ⟨fun w' hw ρ hρ => by
  subst hc
  obtain ⟨fs, hu, hm⟩ := hT.und
  have hz : (zeroValue T).run P w' = .ok (.agg zs.toArray) w' := run_zero w' (z := .agg zs.toArray) (h := ⟨hT.zero⟩)
  have hpl : (fs.mapM fun f => do pure (f.offset, ← sizeOf f.type) : Sem (Array (Nat × Nat))).run P w' = .ok ((List.range zs.length).map fun i => (i, 1)).toArray w' := by
    have e1 : fs = fs.toList.toArray := by simp
    rw [e1, List.mapM_toArray] at hm ⊢
    simp only [Sem.run_map]
    cases hq : fs.toList.mapM (fun f => (P.info? f.type).map fun i => (f.offset, i.size)) with
    | none => simp [hq] at hm
    | some pl =>
      simp [hq] at hm
      have := run_places (P := P) w' fs.toList pl hq
      have e2 : (fs.toList.mapM fun f => do pure (f.offset, ← sizeOf f.type) : Sem (List (Nat × Nat))) = fs.toList.mapM fun f => Prod.mk f.offset <$> sizeOf f.type := by simp
      rw [e2, this]
      simp [hm]
  have hf := fill_one (n := zs.length) (place := fun i => (((List.range zs.length).map fun i => (i, 1)).toArray)[i]?) (fun i hi => by simp [hi]) ps zs rfl h
  have hparts : parts.toArray.map (fun (i, x) => (i, ρ x)) = ps.toArray := by rw [List.map_toArray, ← evp_spec hρ hx]
  simp only [execOp, Instr.build, hparts, Sem.run_bind, hz, Result.andThen_ok, Value.cells, run_underlying hu, hpl]
  rw [show (fun x => (((List.range zs.length).map fun i => (i, 1)).toArray)[x]?) = (fun i => (((List.range zs.length).map fun i => (i, 1)).toArray)[i]?) from rfl, hf]
  simp⟩
end

/-! ### A slice that is built -/
section
variable {P : Program} {N : Nat} {Q : Post} {σ : Fm} {w : World} {ops : Array Oper} {rest : List Oper} {ty T : TypeId} {pos : String} {af : Array Edge} {d : Nat} {v u : Value} {x y : Operand} {e s b : Nat}
variable {α : Type} [E : Enc α]

theorem own_new (w : World) (e : TypeId) (xs : List α) (hm : xs.length ≤ maxLen) (B : Nat) (hB : B ≤ w.heap.size) : Own (w.alloc (.cells (xs.flatMap Enc.enc).toArray e)) e B (.slice (some ⟨w.heap.size, 0, none⟩) xs.length xs.length) xs :=
  ⟨flat_len xs, .inr ⟨w.heap.size, xs.length, _, rfl, hB, heap_alloc_new w _, Nat.le_refl _, hm, by simp only [List.size_toArray, flat_len], by show (xs.flatMap Enc.enc).take _ = _; rw [← flat_len xs, List.take_length]⟩⟩

theorem fill_row {sz : Nat} (hsz : 0 < sz) : ∀ (vs : List Value) (k : Nat) (cs : List Value), (∀ v ∈ vs, v.cells.size = sz) → cs.length = (k + vs.length) * sz →
    Instr.fill (fun i => some (i * sz, sz)) cs.toArray (vs.zipIdx k |>.map fun p => (p.2, p.1)) = some (cs.take (k * sz) ++ vs.flatMap fun v => v.cells.toList).toArray := by
  intro vs
  induction vs with
  | nil => intro k cs _ hl; simp [Instr.fill]; rw [List.take_of_length_le (by simp at hl; omega)]
  | cons v r ih =>
    intro k cs hv hl
    have h1 : v.cells.size = sz := hv v (by simp)
    have hfold : ∀ (l : List Value) (j : Nat) (cs : List Value), k * sz + j + l.length ≤ cs.length →
        (l.zipIdx j).foldl (fun (cs : Array Value) p => cs.setIfInBounds (k * sz + p.2) p.1) cs.toArray = (cs.take (k * sz + j) ++ l ++ cs.drop (k * sz + j + l.length)).toArray := by
      intro l
      induction l with
      | nil => intro j cs _; simp
      | cons c l ihl =>
        intro j cs hle
        simp only [List.zipIdx_cons, List.foldl_cons]
        rw [List.setIfInBounds_toArray]
        rw [ihl (j + 1) (cs.set (k * sz + j) c) (by simp at hle ⊢; omega)]
        congr 1
        simp only [List.length_cons] at hle ⊢
        rw [show k * sz + (j + 1) = (k * sz + j) + 1 by omega, List.take_set]
        rw [List.drop_set_of_lt (by omega)]
        rw [show k * sz + j + 1 + l.length = k * sz + j + (l.length + 1) by omega]
        congr 1
        rw [List.append_cons]
        congr 1
        apply List.ext_getElem?
        intro i
        simp only [List.getElem?_set, List.getElem?_append, List.length_take, List.getElem?_take]
        by_cases hi : i < k * sz + j
        · simp [hi, show min (k * sz + j) cs.length = k * sz + j by omega, show ¬ k * sz + j = i by omega, show i < k * sz + j + 1 by omega]
        · by_cases hi2 : i = k * sz + j
          · subst hi2; simp [show min (k * sz + j) cs.length = k * sz + j by omega, show k * sz + j < cs.length by omega]; omega
          · simp [hi, show min (k * sz + j) cs.length = k * sz + j by omega, show ¬ k * sz + j = i by omega, show ¬ i < k * sz + j + 1 by omega]
            omega
    simp only [List.zipIdx_cons, List.map_cons, Instr.fill]
    have hle : k * sz + sz ≤ cs.length := by rw [hl, List.length_cons, ← Nat.succ_mul]; exact Nat.mul_le_mul_right _ (by omega)
    rw [if_neg (by simp [h1]; omega)]
    have hf := hfold v.cells.toList 0 cs (by simp [h1]; omega)
    have e1 : Array.foldl (fun (cs : Array Value) (p : Value × Nat) => cs.setIfInBounds (k * sz + p.2) p.1) cs.toArray v.cells.zipIdx = (cs.take (k * sz) ++ v.cells.toList ++ cs.drop (k * sz + sz)).toArray := by
      rw [← Array.foldl_toList, Array.toList_zipIdx, hf]
      simp [h1]
    have e2 : Array.foldl (fun cs x => match x with | (c, j) => cs.setIfInBounds (k * sz + j) c) cs.toArray v.cells.zipIdx = (cs.take (k * sz) ++ v.cells.toList ++ cs.drop (k * sz + sz)).toArray := e1
    rw [e2]
    have h3 := ih (k + 1) (cs.take (k * sz) ++ v.cells.toList ++ cs.drop (k * sz + sz)) (fun u hu => hv u (by simp [hu])) (by
      simp only [List.length_append, List.length_take, List.length_drop, Array.length_toList, h1, hl, List.length_cons]
      have : k * sz ≤ (k + (r.length + 1)) * sz := Nat.mul_le_mul_right _ (by omega)
      have : (k + (r.length + 1)) * sz = (k + 1 + r.length) * sz := by congr 1; omega
      have : (k + 1 + r.length) * sz = k * sz + sz + r.length * sz := by rw [Nat.add_mul, Nat.add_mul, Nat.one_mul]
      omega)
    rw [h3]
    congr 2
    rw [List.flatMap_cons, ← List.append_assoc]
    congr 1
    have hk : (cs.take (k * sz) ++ v.cells.toList).length = (k + 1) * sz := by
      simp only [List.length_append, List.length_take, Array.length_toList, h1]
      rw [Nat.min_eq_left (by omega), Nat.add_mul, Nat.one_mul]
    rw [← hk, List.take_left]

theorem run_zero' (w : World) [hT : TSli P T e s b] : ∃ z, (zeroValue e).run P w = .ok z w ∧ z.cells.size = s := by
  have h := hT.zero
  cases hz : (P.info? e).bind (·.zero) with
  | none => simp [hz] at h
  | some z => exact ⟨z, run_zero w (h := ⟨hz⟩), hT.zlen z hz⟩
theorem run_lit [hT : TSli P T e s b] (hs0 : 0 < s) (vs : List Value) (hv : ∀ v ∈ vs, v.cells.size = s) (hsm : vs.length * s ≤ 16777216) :
    (Instr.buildSlice T vs.length (vs.zipIdx.map fun p => (p.2, p.1)).toArray).run P w = .ok (.slice (some ⟨w.heap.size, 0, none⟩) vs.length vs.length) (w.alloc (.cells (vs.flatMap fun v => v.cells.toList).toArray e)) := by
  obtain ⟨z, hz, hzs⟩ := run_zero' (P := P) (T := T) w
  have hfill : ∀ (zs : Array Value), zs.size = vs.length * s → Instr.fill (fun i => some (i * s, s)) zs (vs.zipIdx.map fun p => (p.2, p.1)) = some (vs.flatMap fun v => v.cells.toList).toArray := by
    intro zs hzl
    have := fill_row hs0 vs 0 zs.toList hv (by simpa using hzl)
    simpa using this
  have hno : ¬ vs.length * s > 2 ^ 24 := by omega
  simp only [Instr.buildSlice, run_underlying hT.und, run_size w hT.size, Sem.run_bind, Result.andThen_ok, Sem.run_ite, if_neg hno, Sem.run_pure]
  by_cases h0 : vs.length * s = 0
  · rw [if_pos h0]
    try simp only [Result.andThen_ok]
    rw [hfill _ (by simp [h0])]
    simp [newRow, h0]
  · rw [if_neg h0, hz]
    simp only [Result.andThen_ok]
    rw [hfill _ (by simp)]
    simp [newRow]
def decs : List Value → Option (List α)
  | [] => some []
  | v :: r => match E.dec v, decs r with
    | some x, some xs => some (x :: xs)
    | _, _ => none
theorem decs_ok : ∀ {vs : List Value} {xs : List α}, decs vs = some xs → vs.length = xs.length ∧ (vs.flatMap fun v => v.cells.toList) = xs.flatMap Enc.enc ∧ ∀ v ∈ vs, v.cells.size = Enc.sz α
  | [], xs, h => by simp [decs] at h; subst h; simp
  | v :: r, xs, h => by
    unfold decs at h
    split at h
    · rename_i x xs' h1 h2
      simp only [Option.some.injEq] at h
      subst h
      obtain ⟨g1, g2, g3⟩ := decs_ok h2
      have := E.dec_ok v x h1
      refine ⟨by simp [g1], by simp only [List.flatMap_cons, this, g2], fun u hu => ?_⟩
      rcases List.mem_cons.1 hu with rfl | hu
      · rw [← Array.length_toList, this, Enc.len]
      · exact g3 u hu
    · cases h
def num : Nat → List Value → List (Nat × Value)
  | _, [] => []
  | k, v :: r => (k, v) :: num (k + 1) r
theorem num_eq : ∀ (vs : List Value) (k : Nat), num k vs = (vs.zipIdx k).map fun p => (p.2, p.1)
  | [], k => rfl
  | v :: r, k => by simp [num, num_eq r]
/-- what a literal lays -/
def Lit' (w : World) (e : TypeId) (xs : List α) (v : Value) (w' : World) : Prop := Own w' e w.heap.size v xs ∧ Ext w w' ∧ bL v = w.heap.size ∧ bH v = w.heap.size + 1 ∧ w'.heap.size = w.heap.size + 1
theorem w_lit' [hT : TSli P T e s b] {n : Nat} {parts : List (Nat × Operand)} {vs : List Value} {xs : List α} (hs : s = Enc.sz α) (hp : evp σ parts = some (num 0 vs)) (hl : vs.length = xs.length) (hf : (vs.flatMap fun v => v.cells.toList) = xs.flatMap Enc.enc) (hv : ∀ v ∈ vs, v.cells.size = Enc.sz α)
    (hn : vs.length = n) (hsm : n ≤ 1000) (hss : s ≤ 1000) (hd : Nat.blt d N = true)
    (k : ∀ v w', Own w' e w.heap.size v xs → Ext w w' → bL v = w.heap.size → bH v = w.heap.size + 1 → w'.heap.size = w.heap.size + 1 → W P N ops Q rest ((d, v) :: σ) w') : W P N ops Q (⟨some d, .buildSlice T n parts.toArray, ty, pos, af, none⟩ :: rest) σ w := by
  subst hn
  subst hs
  refine ⟨fun a ha => ?_⟩
  refine wpList_plain rfl fun K hK => ?_
  unfold Oper.wp
  have hparts : parts.toArray.map (fun (i, x) => (i, a.eval x)) = (vs.zipIdx.map fun p => (p.2, p.1)).toArray := by
    rw [List.map_toArray, ← num_eq vs 0, ← evp_spec (fun x v hx => ha.eval hx) hp]
  have hb : vs.length * Enc.sz α ≤ 1000 * 1000 := Nat.mul_le_mul hsm hss
  have : (execOp a.eval ⟨some d, .buildSlice T vs.length parts.toArray, ty, pos, af, none⟩).run P w = .ok (.value (.slice (some ⟨w.heap.size, 0, none⟩) vs.length vs.length)) (w.alloc (.cells (xs.flatMap Enc.enc).toArray e)) := by
    simp only [execOp, hparts, Sem.run_bind, run_lit (P := P) (T := T) (w := w) E.pos vs hv (by omega), Result.andThen_ok, Sem.run_pure, hf]
  rw [this, hl]
  have h0 := own_new w e xs (by unfold maxLen; omega) w.heap.size (Nat.le_refl _)
  exact hK _ _ ((k _ _ h0 (Chg.alloc w _) rfl rfl (by simp)).go _ (ha.put hd _))
/-- a literal -/
theorem w_lit [hT : TSli P T e s b] {n : Nat} {parts : List (Nat × Operand)} {ps : List (Nat × Value)} {xs : List α} (hs : s = Enc.sz α) (hp : evp σ parts = some ps) (hi : num 0 (ps.map (·.2)) = ps) (hx : decs (ps.map (·.2)) = some xs)
    (hn : ps.length = n) (hsm : Nat.ble n 1000 = true) (hss : Nat.ble s 1000 = true) (hd : Nat.blt d N = true)
    (k : ∀ v w', Own w' e w.heap.size v xs → Ext w w' → bL v = w.heap.size → bH v = w.heap.size + 1 → w'.heap.size = w.heap.size + 1 → W P N ops Q rest ((d, v) :: σ) w') : W P N ops Q (⟨some d, .buildSlice T n parts.toArray, ty, pos, af, none⟩ :: rest) σ w :=
  let ⟨h1, h2, h3⟩ := decs_ok hx
  w_lit' hs (by rw [hi]; exact hp) h1 h2 h3 (by simpa using hn) (Nat.le_of_ble_eq_true hsm) (Nat.le_of_ble_eq_true hss) hd k
end
end Go.Gw

namespace Go.Gw
open Go
set_option linter.unusedVariables false
set_option linter.unusedSimpArgs false

section
variable {P : Program} {N : Nat} {Q : Post} {σ : Fm} {w : World} {ops : Array Oper} {rest : List Oper} {ty T : TypeId} {pos : String} {af : Array Edge} {d : Nat} {v u : Value} {x y : Operand} {e s b : Nat}
variable {α : Type} {E : Enc α}

theorem info_of [hT : TSli P T e s b] : ∃ i z, P.info? e = some i ∧ i.zero = some z ∧ i.size = s ∧ i.bytes = b ∧ z.cells.size = s := by
  have h1 := hT.size
  have h2 := hT.bytes
  have h3 := hT.zero
  have h4 := hT.zlen
  cases hi : P.info? e with
  | none => simp [hi] at h1
  | some i =>
    simp only [hi, Option.map_some, Option.some.injEq, Option.bind_some] at h1 h2 h3 h4
    cases hz : i.zero with
    | none => simp [hz] at h3
    | some z => exact ⟨i, z, rfl, hz, h1, h2, h4 z hz⟩

theorem sl_cells {lo hi : Nat} {ys : List α} (h : SL w lo hi u ys) (h0 : 0 < ys.length) : ∀ j c, (ys.flatMap Enc.enc)[j]? = some c → w.cell? ((⟨sb u, so u, none⟩ : Addr).add j) = some c := by
  intro j c hj
  have hj' : j < ys.length * Enc.sz α := by rw [← flat_len]; exact (List.getElem?_eq_some_iff.1 hj).1
  have hs := E.pos
  have hd : j / Enc.sz α < ys.length := (Nat.div_lt_iff_lt_mul hs).2 hj'
  have hel := h.el (j / Enc.sz α) ys[j / Enc.sz α] (by simp [hd])
  have hm : j % Enc.sz α < (Enc.enc ys[j / Enc.sz α]).length := by rw [Enc.len]; exact Nat.mod_lt _ hs
  have hg := flat_get (E := E) ys (j / Enc.sz α) ys[j / Enc.sz α] (j % Enc.sz α) (Enc.enc ys[j / Enc.sz α])[j % Enc.sz α] (by simp [hd]) (by simp [hm])
  have e1 : j / Enc.sz α * Enc.sz α + j % Enc.sz α = j := by rw [Nat.mul_comm]; exact Nat.div_add_mod j _
  rw [e1, hj] at hg
  have hc := hel.go (j % Enc.sz α) c (by rw [hg]; simp [hm])
  rw [add_lit]
  rwa [Nat.add_assoc, e1] at hc
theorem enc_all (ys : List α) : ∀ c ∈ ys.flatMap Enc.enc, c.oneCell' = true := by
  intro c hc
  obtain ⟨y, _, hy⟩ := List.mem_flatMap.1 hc
  exact Enc.one y c hy

theorem run_append {lo hi B : Nat} {xs ys : List α} {t2 : TypeId} [hT : TSli P T e s b] (hs : s = Enc.sz α) (h : Own w e B v xs) (h2 : SL w lo hi u ys) (hb : (xs.length + ys.length) * b ≤ 140737488355328) (hm : xs.length + ys.length ≤ 140737488355328) (hB : B ≤ w.heap.size) :
    ∃ v' w', (Builtin.append_ #[T, T] t2 #[v, u]).run P w = .ok v' w' ∧ Own w' e B v' (xs ++ ys) ∧ Chg (bL v) (bH v) w w' ∧ ((bL v' = bL v ∧ bH v' = bH v) ∨ (w.heap.size ≤ bL v' ∧ bH v' = bL v' + 1 ∧ bL v' < w'.heap.size)) := by
  subst hs
  obtain ⟨i, z, hi, hz, his, hib, hzs⟩ := info_of (P := P) (T := T)
  obtain ⟨a, c, hu, hle, hcm, ha⟩ := h2.form
  rcases Nat.eq_zero_or_pos ys.length with h0 | h0
  · have : ys = [] := List.eq_nil_of_length_eq_zero h0
    subst this
    refine ⟨v, w, ?_, by simpa using h, Chg.refl _ _ _, .inl ⟨rfl, rfl⟩⟩
    rw [hu]
    obtain ⟨a', c', hv, hle', _⟩ := h.sl.form
    rw [hv]
    have hf : (Builtin.firstCells i.size 0 (.slice a 0 c)).run P w = .ok #[] w := by
      cases a <;> simp [Builtin.firstCells, loadCells, loadCellsFrom]
    have hlen : xs.length + 0 ≤ c' := by omega
    simp only [List.length_nil, Builtin.append_, run_underlying hT.und, sizeOf, typeInfo, hi, Builtin.lenOf]
    cases a' <;> simp [run_underlying hT.und, hi, hle', hf, storeCells]
  · have ha := ha h0
    subst ha
    have h63 : xs.length + ys.length ≤ maxLen := by unfold maxLen; omega
    have hbytes : (xs.length + ys.length) * b ≤ 140737488355328 := hb
    obtain ⟨v', w', hr, hown, hgr, _⟩ := run_append_own (P := P) w B T t2 e i z (Enc.sz α) b hT.und hi hz his hib hzs E.pos v xs.length (xs.flatMap Enc.enc) h.go ⟨sb u, so u, none⟩ ys.length c (ys.flatMap Enc.enc) (flat_len ys) (sl_cells h2 h0) (enc_all ys) h63 hbytes hB
    refine ⟨v', w', by rw [hu]; exact hr, ⟨by rw [List.flatMap_append, List.length_append]; exact hown⟩, chg_of_grown (P := True) hgr, ?_⟩
    have hown2 : Own w' e B v' (xs ++ ys) := ⟨by rw [List.flatMap_append, List.length_append]; exact hown⟩
    rcases h.go.2 with ⟨rfl, hn⟩ | ⟨g, cap, cur, rfl, hbg, hg, hnc, hcm', hcs, htk⟩
    · right
      have h' : w.ownsRow w.heap.size e (Enc.sz α) (.slice none 0 0) xs.length (xs.flatMap Enc.enc) := ⟨h.go.1, .inl ⟨rfl, hn⟩⟩
      obtain ⟨v2, w2, hr2, hown2', _, hnil⟩ := run_append_own (P := P) w w.heap.size T t2 e i z (Enc.sz α) b hT.und hi hz his hib hzs E.pos (.slice none 0 0) xs.length (xs.flatMap Enc.enc) h' ⟨sb u, so u, none⟩ ys.length c (ys.flatMap Enc.enc) (flat_len ys) (sl_cells h2 h0) (enc_all ys) h63 hbytes (Nat.le_refl _)
      rw [hr] at hr2
      cases hr2
      rcases hown2'.2 with ⟨_, hz0⟩ | ⟨g, cap, cur, rfl, hbg, hg, _⟩
      · omega
      · exact ⟨hbg, rfl, (Array.getElem?_eq_some_iff.1 hg).1⟩
    · by_cases hroom : xs.length + ys.length ≤ cap
      · left
        have hfit : xs.length * i.size + (ys.flatMap Enc.enc).length ≤ cur.size := by rw [flat_len, hcs, his, ← Nat.add_mul]; exact Nat.mul_le_mul_right _ hroom
        have hr2 := run_append_room (P := P) w T t2 e i hT.und hi g xs.length cap cur hg ⟨sb u, so u, none⟩ ys.length c (ys.flatMap Enc.enc) (by rw [his]; exact flat_len ys) (sl_cells h2 h0) (enc_all ys) hroom hfit
        rw [hr] at hr2
        cases hr2
        exact ⟨rfl, rfl⟩
      · right
        have hr2 := run_append_grow (P := P) w T t2 e i z hT.und hi hz ⟨g, 0, none⟩ xs.length cap (xs.flatMap Enc.enc) (by rw [his]; exact flat_len xs) (World.ownsRow.cells h.go rfl) ⟨sb u, so u, none⟩ ys.length c (ys.flatMap Enc.enc) (by rw [his]; exact flat_len ys) (sl_cells h2 h0) (by omega) (by omega) (by rw [hib]; exact growslice_fits (by omega) hbytes)
        rw [hr] at hr2
        cases hr2
        exact ⟨Nat.le_refl _, rfl, by simp [bL, sb]⟩

theorem w_append {lo hi B : Nat} {xs ys : List α} [hT : TSli P T e s b] (hx : ev σ x = some v) (hy : ev σ y = some u) (h : Own w e B v xs := by repeat (first | assumption | exact Go.Gw.Own.sl (by assumption) | exact Go.Gw.Box.at (by assumption) | exact Go.Gw.SLL.el (by first | assumption | exact Go.Gw.OwnD.sll (by assumption)) _ (by omega) | exact Go.Gw.SLL.at (by first | assumption | exact Go.Gw.OwnD.sll (by assumption)) (by omega) | exact Go.Gw.OwnD.sll (by assumption) | (apply Go.Gw.SL.chg; case hx => assumption) | (apply Go.Gw.Own.chg; case hx => assumption) | (apply Go.Gw.Box.chg; case hx => assumption) | (apply Go.Gw.At.chg; case hx => assumption) | exact .inl (Nat.zero_le _) | exact .inr (Nat.zero_le _) | (show _ ∨ _; omega))) (h2 : SL w lo hi u ys := by repeat (first | assumption | exact Go.Gw.Own.sl (by assumption) | exact Go.Gw.Box.at (by assumption) | exact Go.Gw.SLL.el (by first | assumption | exact Go.Gw.OwnD.sll (by assumption)) _ (by omega) | exact Go.Gw.SLL.at (by first | assumption | exact Go.Gw.OwnD.sll (by assumption)) (by omega) | exact Go.Gw.OwnD.sll (by assumption) | (apply Go.Gw.SL.chg; case hx => assumption) | (apply Go.Gw.Own.chg; case hx => assumption) | (apply Go.Gw.Box.chg; case hx => assumption) | (apply Go.Gw.At.chg; case hx => assumption) | exact .inl (Nat.zero_le _) | exact .inr (Nat.zero_le _) | (show _ ∨ _; omega))) (hs : s = Enc.sz α := by rfl) (hb : (xs.length + ys.length) * b ≤ 140737488355328 := by first | omega | (simp only [List.length_cons, List.length_nil]; omega) | (simp only [List.length_append, List.length_cons, List.length_nil]; omega)) (hm : xs.length + ys.length ≤ 140737488355328 := by first | omega | (simp only [List.length_cons, List.length_nil]; omega) | (simp only [List.length_append, List.length_cons, List.length_nil]; omega)) (hB : B ≤ w.heap.size := by omega) (hd : Nat.blt d N = true := by rfl)
    (k : ∀ v' w', Own w' e B v' (xs ++ ys) → Chg (bL v) (bH v) w w' → ((bL v' = bL v ∧ bH v' = bH v) ∨ (w.heap.size ≤ bL v' ∧ bH v' = bL v' + 1 ∧ bL v' < w'.heap.size)) → W P N ops Q rest ((d, v') :: σ) w') :
    W P N ops Q (⟨some d, .call { callee := .builtin .append, args := #[x, y], argTypes := #[T, T] }, ty, pos, af, none⟩ :: rest) σ w := by
  refine ⟨fun a ha => ?_⟩
  refine wpList_plain rfl fun K hK => ?_
  unfold Oper.wp
  obtain ⟨v', w', hr, h3, h4, h5⟩ := run_append (P := P) (T := T) (t2 := ty) hs h h2 hb hm hB
  have : (execOp a.eval ⟨some d, .call { callee := .builtin .append, args := #[x, y], argTypes := #[T, T] }, ty, pos, af, none⟩).run P w = .ok (.value v') w' := by
    simp only [execOp, resolve, Sem.run_bind, Sem.run_pure, Result.andThen_ok, invoke, builtin, List.map_toArray, List.map_cons, List.map_nil, ha.eval hx, ha.eval hy, hr]
  rw [this]
  exact hK _ _ ((k v' w' h3 h4 h5).go _ (ha.put hd _))

/-! ### make -/
theorem made_flat {α : Type} [E : Enc α] {z : Array Value} {x0 : α} (hz : z.toList = Enc.enc x0) (n : Nat) : (madeCells z (n * Enc.sz α)).toList = (List.replicate n x0).flatMap Enc.enc := by
  have hs := E.pos
  have hzs : z.size = Enc.sz α := by rw [← Array.length_toList, hz, Enc.len]
  apply List.ext_getElem?
  intro i
  by_cases hi : i < n * Enc.sz α
  · have hd : i / Enc.sz α < n := (Nat.div_lt_iff_lt_mul hs).2 hi
    have hm : i % Enc.sz α < (Enc.enc x0).length := by rw [Enc.len]; exact Nat.mod_lt _ hs
    have hg := flat_get (E := E) (List.replicate n x0) (i / Enc.sz α) x0 (i % Enc.sz α) (Enc.enc x0)[i % Enc.sz α] (by simp [hd]) (by simp [hm])
    have e1 : i / Enc.sz α * Enc.sz α + i % Enc.sz α = i := by rw [Nat.mul_comm]; exact Nat.div_add_mod i _
    rw [e1] at hg
    rw [hg]
    have hlt : i % z.size < z.size := by rw [hzs]; exact Nat.mod_lt _ hs
    have e2 : z[i % z.size]! = (Enc.enc x0)[i % Enc.sz α] := by
      rw [getElem!_pos z _ hlt]
      have : z[i % z.size] = z.toList[i % z.size]'(by simpa using hlt) := by simp
      rw [this]
      simp only [hz, hzs]
    simp [madeCells, Array.getElem?_range, hi, e2]
  · have h1 : (madeCells z (n * Enc.sz α)).toList.length ≤ i := by simp [size_madeCells]; omega
    have h2 : ((List.replicate n x0).flatMap Enc.enc).length ≤ i := by rw [flat_len, List.length_replicate]; omega
    rw [List.getElem?_eq_none h1, List.getElem?_eq_none h2]

theorem w_make {α : Type} [E : Enc α] {z : Value} {x0 : α} {n : Int} [hT : TSli P T e s b] [hz : TZero P e z] (hx : ev σ x = some (.int .i64 n)) (hy : ev σ y = some (.int .i64 n)) (hs : s = Enc.sz α := by rfl) (hdec : E.dec z = some x0 := by rfl) (h0 : 0 ≤ n := by omega) (hb : n.toNat * b ≤ 140737488355328 := by omega) (hm : n ≤ 140737488355328 := by omega) (hd : Nat.blt d N = true := by rfl)
    (k : ∀ v w', Own w' e w.heap.size v (List.replicate n.toNat x0) → Ext w w' → bL v = w.heap.size → bH v = w.heap.size + 1 → w'.heap.size = w.heap.size + 1 → W P N ops Q rest ((d, v) :: σ) w') :
    W P N ops Q (⟨some d, .makeSlice T x y, ty, pos, af, none⟩ :: rest) σ w := by
  subst hs
  refine ⟨fun a ha => ?_⟩
  refine wpList_plain rfl fun K hK => ?_
  unfold Oper.wp
  obtain ⟨i, z', hi, hz', his, hib, hzs⟩ := info_of (P := P) (T := T)
  obtain rfl : z' = z := by have := hz.zero; rw [hi] at this; simp only [Option.bind_some] at this; rw [hz'] at this; exact Option.some.inj this
  have hbi : (i.bytes : Int) * n ≤ 281474976710656 := by
    have h1 : ((n.toNat * b : Nat) : Int) ≤ 140737488355328 := by omega
    rw [Int.natCast_mul, Int.toNat_of_nonneg h0] at h1
    rw [hib, Int.mul_comm]
    omega
  have hr := run_make (P := P) w T e i z' hT.und hi hz' .i64 .i64 n n h0 (Int.le_refl _) hbi (by omega)
  have hfl := made_flat (E.dec_ok _ _ hdec) n.toNat
  have : (execOp a.eval ⟨some d, .makeSlice T x y, ty, pos, af, none⟩).run P w = .ok (.value (.slice (some ⟨w.heap.size, 0, none⟩) (List.replicate n.toNat x0).length (List.replicate n.toNat x0).length)) (w.alloc (.cells ((List.replicate n.toNat x0).flatMap Enc.enc).toArray e)) := by
    rw [his] at hr
    simp only [execOp, ha.eval hx, ha.eval hy, Sem.run_bind, hr, Result.andThen_ok, Sem.run_pure, List.length_replicate]
    rw [← hfl]
  rw [this]
  exact hK _ _ ((k _ _ (own_new w e _ (by rw [List.length_replicate]; unfold maxLen; omega) _ (Nat.le_refl _)) (Chg.alloc w _) rfl rfl (by simp)).go _ (ha.put hd _))

/-! ### A store into an element -/
theorem own_set {B n : Nat} {xs : List α} (h : Own w e B v xs) (hn : n < xs.length) {k : Nat} {x' : α} (hk : (Enc.enc xs[n]).set k u = Enc.enc x') (hks : k < Enc.sz α) :
    Own (w.setCell ⟨sb v, so v + n * Enc.sz α + k, none⟩ u) e B v (xs.set n x') ∧ Chg (bL v) (bH v) w (w.setCell ⟨sb v, so v + n * Enc.sz α + k, none⟩ u) := by
  rcases h.go with ⟨hlen, ⟨rfl, hz⟩ | ⟨g, cap, cur, rfl, hb, hg, hnc, hcm, hcs, htk⟩⟩
  · omega
  · simp only [sb, so, Nat.zero_add, bL, bH]
    have e1 := setCell_eq_setRow w g (n * Enc.sz α + k) cur e (0, 0) u hg
    rw [e1]
    have hfl : ((xs.set n x').flatMap Enc.enc) = (xs.flatMap Enc.enc).set (n * Enc.sz α + k) u := by
      clear htk hg hcs hnc e1 hlen h
      induction xs generalizing n with
      | nil => simp at hn
      | cons y r ih =>
        cases n with
        | zero =>
          simp only [List.set_cons_zero, List.flatMap_cons, Nat.zero_mul, Nat.zero_add]
          rw [List.set_append_left _ _ (by rw [Enc.len]; exact hks)]
          simp only [List.getElem_cons_zero] at hk
          rw [hk]
        | succ m =>
          simp only [List.set_cons_succ, List.flatMap_cons]
          rw [show (m + 1) * Enc.sz α + k = (Enc.enc y).length + (m * Enc.sz α + k) by rw [Enc.len, Nat.add_mul, Nat.one_mul]; omega]
          rw [List.set_append_right _ _ (by omega), Nat.add_sub_cancel_left]
          congr 1
          exact ih (by simpa using hn) (by simpa using hk)
    refine ⟨⟨by rw [flat_len], .inr ⟨g, cap, _, by simp, hb, setRow_heap w g cur _ e _ hg, by simpa using hnc, hcm, by simpa using hcs, ?_⟩⟩, ⟨rfl, rfl, rfl, by simp, fun j hj ho => setRow_other w g j _ (by omega)⟩⟩
    simp only [Array.toList_setIfInBounds, List.length_set]
    rw [hfl, List.take_set, htk]
theorem sl_set {lo hi n : Nat} {xs : List α} (h : SL w lo hi v xs) (hn : n < xs.length) {k : Nat} {x' : α} (hk : (Enc.enc xs[n]).set k u = Enc.enc x') (hks : k < Enc.sz α) :
    SL (w.setCell ⟨sb v, so v + n * Enc.sz α + k, none⟩ u) lo hi v (xs.set n x') ∧ Chg (sb v) (sb v + 1) w (w.setCell ⟨sb v, so v + n * Enc.sz α + k, none⟩ u) := by
  have h0 : 0 < xs.length := by omega
  have hin := h.inn h0
  have hch : Chg (sb v) (sb v + 1) w (w.setCell ⟨sb v, so v + n * Enc.sz α + k, none⟩ u) := ⟨rfl, rfl, rfl, by simp, fun j hj ho => RowKit.Below.heap_setCell _ _ _ _ (by simp only; omega)⟩
  refine ⟨⟨by simpa using h.form, ?_, by simpa using h.inn, by simpa using h.top, ?_⟩, hch⟩
  · intro i x hix
    refine ⟨fun j c hc => ?_⟩
    have hilt : i < xs.length := by have := (List.getElem?_eq_some_iff.1 hix).1; simpa using this
    have hjlt : j < Enc.sz α := by have := (List.getElem?_eq_some_iff.1 hc).1; rwa [Enc.len] at this
    have hold : w.cell? ⟨sb v, so v + i * Enc.sz α + j, none⟩ = some ((Enc.enc xs[i])[j]'(by rw [Enc.len]; exact hjlt)) := (h.el i xs[i] (by simp [hilt])).go j _ (by simp)
    by_cases hij : i = n ∧ j = k
    · obtain ⟨rfl, rfl⟩ := hij
      have hx : x = x' := by rw [List.getElem?_set] at hix; simp [hilt] at hix; exact hix.symm
      subst hx
      rw [World.cell?_setCell_same _ _ _ hold]
      rw [← hk, List.getElem?_set] at hc
      simp [Enc.len, hks] at hc
      rw [hc]
    · have hne : (⟨sb v, so v + n * Enc.sz α + k, none⟩ : Addr) ≠ ⟨sb v, so v + i * Enc.sz α + j, none⟩ := by
        intro he
        simp only [Addr.mk.injEq, true_and, and_true] at he
        apply hij
        have e2 : n * Enc.sz α + k = i * Enc.sz α + j := by omega
        have hdiv : n = i := by
          have h1 : (n * Enc.sz α + k) / Enc.sz α = n := by rw [Nat.mul_comm, Nat.mul_add_div (by omega), Nat.div_eq_of_lt hks]; rfl
          have h2 : (i * Enc.sz α + j) / Enc.sz α = i := by rw [Nat.mul_comm, Nat.mul_add_div (by omega), Nat.div_eq_of_lt hjlt]; rfl
          rw [← h1, e2, h2]
        subst hdiv
        exact ⟨rfl, by omega⟩
      rw [World.cell?_setCell_other _ _ _ _ hne, hold]
      by_cases hin' : i = n
      · subst hin'
        have hx : x = x' := by rw [List.getElem?_set] at hix; simp [hilt] at hix; exact hix.symm
        subst hx
        rw [← hk, List.getElem?_set] at hc
        have : k ≠ j := fun e => hij ⟨rfl, e.symm⟩
        simp only [this, if_false] at hc
        rw [← hc]; simp [Enc.len, hjlt]
      · have hx : xs[i] = x := by rw [List.getElem?_set] at hix; simp [Ne.symm hin', hilt] at hix; exact hix
        subst hx
        rw [← hc]; simp [Enc.len, hjlt]
  · intro i hi
    rw [World.frozen?_setCell]
    exact h.free i (by simpa using hi)

theorem run_store1 [hT : TScal P T] {bb o : Nat} {c : Value} (hu : u.oneCell' = true) (hc : w.cell? ⟨bb, o, none⟩ = some c) (hf : w.frozen? ⟨bb, o, none⟩ = false) : (Instr.storeAt T (ptr bb o) u).run P w = .ok () (w.setCell ⟨bb, o, none⟩ u) := by
  simp [Instr.storeAt, Instr.sureAddr, storeVar, run_size w hT.size, cells_one hu, storeCells, run_store, hu, add_lit, hc, hf]

/-- an element of one cell, of a slice of the call's own -/
theorem w_store_own [hT : TScal P T] {B n s' : Nat} {xs : List α} {x' : α} (hx : ev σ x = some (ptr (sb v) (so v + n * s'))) (hy : ev σ y = some u) (h : Own w e B v xs := by repeat (first | assumption | exact Go.Gw.Own.sl (by assumption) | exact Go.Gw.Box.at (by assumption) | exact Go.Gw.SLL.el (by first | assumption | exact Go.Gw.OwnD.sll (by assumption)) _ (by omega) | exact Go.Gw.SLL.at (by first | assumption | exact Go.Gw.OwnD.sll (by assumption)) (by omega) | exact Go.Gw.OwnD.sll (by assumption) | (apply Go.Gw.SL.chg; case hx => assumption) | (apply Go.Gw.Own.chg; case hx => assumption) | (apply Go.Gw.Box.chg; case hx => assumption) | (apply Go.Gw.At.chg; case hx => assumption) | exact .inl (Nat.zero_le _) | exact .inr (Nat.zero_le _) | (show _ ∨ _; omega))) (hs : s' = Enc.sz α := by rfl) (hn : n < xs.length := by first | omega | (simp only [List.length_set]; omega) | (simp only [List.length_set, List.length_append, List.length_cons, List.length_nil]; omega)) (he : Enc.enc x' = [u] := by rfl)
    (next : ∀ w', Own w' e B v (xs.set n x') → Chg (bL v) (bH v) w w' → w'.heap.size = w.heap.size → W P N ops Q rest σ w') : W P N ops Q (⟨none, .store T x y, ty, pos, af, none⟩ :: rest) σ w := by
  subst hs
  have hu : u.oneCell' = true := Enc.one x' u (by rw [he]; simp)
  have hs1 : Enc.sz α = 1 := by rw [← Enc.len x', he]; rfl
  obtain ⟨c0, hc0⟩ : ∃ c0, Enc.enc xs[n] = [c0] := by have := Enc.len xs[n]; rw [hs1] at this; exact List.length_eq_one_iff.1 this
  refine ⟨fun a ha => ?_⟩
  refine wpList_plain rfl fun K hK => ?_
  unfold Oper.wp
  have hcell := (h.sl.el n xs[n] (by simp [hn])).go 0 c0 (by rw [hc0]; rfl)
  have hf := h.sl.free (n * Enc.sz α + 0) (by rw [hs1]; omega)
  rw [← Nat.add_assoc] at hf
  have hr := run_store1 (P := P) (T := T) hu hcell hf
  obtain ⟨h1, h2⟩ := own_set (u := u) (k := 0) (x' := x') h hn (by rw [hc0, he]; rfl) (by omega)
  have : (execOp a.eval ⟨none, .store T x y, ty, pos, af, none⟩).run P w = .ok .skip (w.setCell ⟨sb v, so v + n * Enc.sz α + 0, none⟩ u) := by
    simp only [execOp, ha.eval hx, ha.eval hy, Sem.run_bind]
    rw [show so v + n * Enc.sz α = so v + n * Enc.sz α + 0 from rfl, hr]
    simp
  rw [this]
  exact hK _ _ ((next _ h1 h2 (by simp)).go _ (ha.put_none _))
/-- an element of one cell, of any slice that may be written -/
theorem w_store_sl [hT : TScal P T] {lo hi n s' : Nat} {xs : List α} {x' : α} (hx : ev σ x = some (ptr (sb v) (so v + n * s'))) (hy : ev σ y = some u) (h : SL w lo hi v xs := by repeat (first | assumption | exact Go.Gw.Own.sl (by assumption) | exact Go.Gw.Box.at (by assumption) | exact Go.Gw.SLL.el (by first | assumption | exact Go.Gw.OwnD.sll (by assumption)) _ (by omega) | exact Go.Gw.SLL.at (by first | assumption | exact Go.Gw.OwnD.sll (by assumption)) (by omega) | exact Go.Gw.OwnD.sll (by assumption) | (apply Go.Gw.SL.chg; case hx => assumption) | (apply Go.Gw.Own.chg; case hx => assumption) | (apply Go.Gw.Box.chg; case hx => assumption) | (apply Go.Gw.At.chg; case hx => assumption) | exact .inl (Nat.zero_le _) | exact .inr (Nat.zero_le _) | (show _ ∨ _; omega))) (hs : s' = Enc.sz α := by rfl) (hn : n < xs.length := by first | omega | (simp only [List.length_set]; omega) | (simp only [List.length_set, List.length_append, List.length_cons, List.length_nil]; omega)) (he : Enc.enc x' = [u] := by rfl)
    (next : ∀ w', SL w' lo hi v (xs.set n x') → Chg (sb v) (sb v + 1) w w' → w'.heap.size = w.heap.size → W P N ops Q rest σ w') : W P N ops Q (⟨none, .store T x y, ty, pos, af, none⟩ :: rest) σ w := by
  subst hs
  have hu : u.oneCell' = true := Enc.one x' u (by rw [he]; simp)
  have hs1 : Enc.sz α = 1 := by rw [← Enc.len x', he]; rfl
  obtain ⟨c0, hc0⟩ : ∃ c0, Enc.enc xs[n] = [c0] := by have := Enc.len xs[n]; rw [hs1] at this; exact List.length_eq_one_iff.1 this
  refine ⟨fun a ha => ?_⟩
  refine wpList_plain rfl fun K hK => ?_
  unfold Oper.wp
  have hcell := (h.el n xs[n] (by simp [hn])).go 0 c0 (by rw [hc0]; rfl)
  have hf := h.free (n * Enc.sz α + 0) (by rw [hs1]; omega)
  rw [← Nat.add_assoc] at hf
  have hr := run_store1 (P := P) (T := T) hu hcell hf
  obtain ⟨h1, h2⟩ := sl_set (u := u) (k := 0) (x' := x') h hn (by rw [hc0, he]; rfl) (by omega)
  have : (execOp a.eval ⟨none, .store T x y, ty, pos, af, none⟩).run P w = .ok .skip (w.setCell ⟨sb v, so v + n * Enc.sz α + 0, none⟩ u) := by
    simp only [execOp, ha.eval hx, ha.eval hy, Sem.run_bind]
    rw [show so v + n * Enc.sz α = so v + n * Enc.sz α + 0 from rfl, hr]
    simp
  rw [this]
  exact hK _ _ ((next _ h1 h2 (by simp)).go _ (ha.put_none _))
/-- a field of one cell of an element -/
theorem w_store_slf [hT : TScal P T] {lo hi n k s' : Nat} {xs : List α} {x' d : α} (hx : ev σ x = some (ptr (sb v) (so v + n * s' + k))) (hy : ev σ y = some u) (hu : u.oneCell' = true := by first | rfl | exact Go.Gw.SL.one (by assumption) | exact Go.Gw.Own.one (by assumption)) (h : SL w lo hi v xs := by repeat (first | assumption | exact Go.Gw.Own.sl (by assumption) | exact Go.Gw.Box.at (by assumption) | exact Go.Gw.SLL.el (by first | assumption | exact Go.Gw.OwnD.sll (by assumption)) _ (by omega) | exact Go.Gw.SLL.at (by first | assumption | exact Go.Gw.OwnD.sll (by assumption)) (by omega) | exact Go.Gw.OwnD.sll (by assumption) | (apply Go.Gw.SL.chg; case hx => assumption) | (apply Go.Gw.Own.chg; case hx => assumption) | (apply Go.Gw.Box.chg; case hx => assumption) | (apply Go.Gw.At.chg; case hx => assumption) | exact .inl (Nat.zero_le _) | exact .inr (Nat.zero_le _) | (show _ ∨ _; omega))) (hs : s' = Enc.sz α := by rfl) (hn : n < xs.length := by first | omega | (simp only [List.length_set]; omega) | (simp only [List.length_set, List.length_append, List.length_cons, List.length_nil]; omega)) (hk : k < Enc.sz α := by decide) (he : (Enc.enc (xs.getD n d)).set k u = Enc.enc x' := by rfl)
    (next : ∀ w', SL w' lo hi v (xs.set n x') → Chg (sb v) (sb v + 1) w w' → w'.heap.size = w.heap.size → W P N ops Q rest σ w') : W P N ops Q (⟨none, .store T x y, ty, pos, af, none⟩ :: rest) σ w := by
  subst hs
  have hg : xs.getD n d = xs[n] := by rw [List.getD_eq_getElem?_getD, List.getElem?_eq_getElem hn]; rfl
  rw [hg] at he
  refine ⟨fun a ha => ?_⟩
  refine wpList_plain rfl fun K hK => ?_
  unfold Oper.wp
  have hcell := (h.el n xs[n] (by simp [hn])).go k ((Enc.enc xs[n])[k]'(by rw [Enc.len]; exact hk)) (by simp)
  have hf := h.free (n * Enc.sz α + k) (by
    have : n * Enc.sz α + Enc.sz α ≤ xs.length * Enc.sz α := by rw [← Nat.succ_mul]; exact Nat.mul_le_mul_right _ hn
    omega)
  rw [← Nat.add_assoc] at hf
  have hr := run_store1 (P := P) (T := T) hu hcell hf
  obtain ⟨h1, h2⟩ := sl_set (u := u) (k := k) (x' := x') h hn he hk
  have : (execOp a.eval ⟨none, .store T x y, ty, pos, af, none⟩).run P w = .ok .skip (w.setCell ⟨sb v, so v + n * Enc.sz α + k, none⟩ u) := by
    simp only [execOp, ha.eval hx, ha.eval hy, Sem.run_bind, hr]
    simp
  rw [this]
  exact hK _ _ ((next _ h1 h2 (by simp)).go _ (ha.put_none _))

/-! ### A part of a slice -/
theorem y_slice {lo hi : Nat} {xs : List α} {l h : Int} {ol oh : Option Operand} [hT : TSli P T e s b] (hx : ev σ x = some v) (hl : (ol = none ∧ l = 0) ∨ ∃ y k, ol = some y ∧ ev σ y = some (.int k l)) (hh : (oh = none ∧ h = xs.length) ∨ ∃ y k, oh = some y ∧ ev σ y = some (.int k h))
    (H : SL w lo hi v xs) (hs : s = Enc.sz α) (hb : 0 ≤ l ∧ l ≤ h ∧ h ≤ xs.length) : ∃ u, YE P σ (.slice T x ol oh none) ty w u ∧ SL w lo hi u ((xs.take h.toNat).drop l.toNat) := by
  subst hs
  obtain ⟨a, c, hv, hle, hcm, ha⟩ := H.form
  let u : Value := .slice (if c = l.toNat then a else a.map (·.add (l.toNat * Enc.sz α))) (h.toNat - l.toNat) (c - l.toNat)
  refine ⟨u, ⟨fun w' hw ρ hρ => ?_⟩, ?_⟩
  · have e1 : ρ x = .slice a xs.length c := by rw [hρ _ _ hx, hv]
    have hlb : ∀ (k : IntKind), (Instr.sliceBound (.int k l) h.toNat .sliceB).run P w' = .ok l.toNat w' := fun k => by
      have h1 : 0 ≤ l ∧ l ≤ (h.toNat : Int) := by omega
      simp only [Instr.sliceBound, asIntOf, Sem.run_bind, Sem.run_pure, Result.andThen_ok, if_pos h1]
    have hhb : ∀ (k : IntKind), (Instr.sliceBound (.int k h) c .sliceAcap).run P w' = .ok h.toNat w' := fun k => by
      have h1 : 0 ≤ h ∧ h ≤ (c : Int) := by omega
      simp only [Instr.sliceBound, asIntOf, Sem.run_bind, Sem.run_pure, Result.andThen_ok, if_pos h1]
    have hbounds : (Instr.sliceBounds true xs.length c (ol.map ρ) (oh.map ρ) none).run P w' = .ok (l.toNat, h.toNat, c) w' := by
      rcases hh with ⟨rfl, rfl⟩ | ⟨y, k, rfl, hy⟩ <;> rcases hl with ⟨rfl, rfl⟩ | ⟨y', k', rfl, hy'⟩
      · simp [Instr.sliceBounds]
      · have := hlb k'
        simp only [Int.toNat_natCast] at this
        simp [Instr.sliceBounds, hρ _ _ hy', this]
      · simp [Instr.sliceBounds, hρ _ _ hy, hhb k]
      · simp [Instr.sliceBounds, hρ _ _ hy, hρ _ _ hy', hhb k, hlb k']
    have hsl : (Instr.sliceAt T (.slice a xs.length c) (ol.map ρ) (oh.map ρ) none).run P w' = .ok u w' := by
      simp only [Instr.sliceAt, Sem.run_bind, run_underlying hT.und, Result.andThen_ok, Instr.slice, hbounds, run_size w' hT.size, Sem.run_pure]
      rfl
    simp only [execOp, e1, Option.map_none, Sem.run_bind, hsl, Result.andThen_ok, Sem.run_pure]
  · have hlen : ((xs.take h.toNat).drop l.toNat).length = h.toNat - l.toNat := by simp; omega
    rcases Nat.eq_zero_or_pos (h.toNat - l.toNat) with h0 | h0
    · have hnil : (xs.take h.toNat).drop l.toNat = [] := List.eq_nil_of_length_eq_zero (by omega)
      rw [hnil]
      exact ⟨⟨_, c - l.toNat, by simp only [u, h0]; rfl, by simp, by omega, fun hh => by simp at hh⟩, fun i x hi => by simp at hi, fun hh => by simp at hh, H.top, fun i hi => by simp at hi⟩
    · have ha := ha (by omega)
      subst ha
      have hne : ¬ c = l.toNat := by omega
      have hu : u = .slice (some ⟨sb v, so v + l.toNat * Enc.sz α, none⟩) (h.toNat - l.toNat) (c - l.toNat) := by
        simp only [u, if_neg hne, Option.map_some, add_lit]
      rw [hu]
      refine ⟨⟨some ⟨sb v, so v + l.toNat * Enc.sz α, none⟩, c - l.toNat, by rw [hlen], by rw [hlen]; omega, by omega, fun _ => rfl⟩, fun i x hi => ?_, fun _ => H.inn (by omega), H.top, fun i hi => ?_⟩
      · rw [List.getElem?_drop, List.getElem?_take] at hi
        split at hi
        · have := H.el _ x hi
          show At w (sb v) (so v + l.toNat * Enc.sz α + i * Enc.sz α) _
          rwa [Nat.add_mul, ← Nat.add_assoc] at this
        · cases hi
      · show w.frozen? ⟨sb v, so v + l.toNat * Enc.sz α + i, none⟩ = false
        rw [hlen] at hi
        have h3 : l.toNat * Enc.sz α + i < xs.length * Enc.sz α := by
          have : l.toNat * Enc.sz α + (h.toNat - l.toNat) * Enc.sz α = h.toNat * Enc.sz α := by rw [← Nat.add_mul]; congr 1; omega
          have : h.toNat * Enc.sz α ≤ xs.length * Enc.sz α := Nat.mul_le_mul_right _ (by omega)
          omega
        have := H.free _ h3
        rwa [← Nat.add_assoc] at this
end
end Go.Gw
/- L7 -/
namespace Go.Gw
open Go Go.ChangeShapes Go.WideShapes
set_option linter.unusedVariables false
set_option linter.unusedSimpArgs false

/-- cells that read as data of a type, none of what they lead to frozen -/
structure Rd (P : Program) (w : World) (T : TypeId) (cs : List Value) : Prop where
  go : ∃ (H : Type) (enc : TypeId × Value → H) (fuel : Nat) (d : DataW H) (p : List MemPlace), DataW.trod enc P w 0 (fun _ => true) true fuel T cs = some (d, p) ∧ w.noneFrozen p
section
variable {P : Program} {w : World} {T e : TypeId} {cs : List Value}
theorem Rd.of {H : Type} {enc : TypeId × Value → H} {v : Value} {d : DataW H} {ps : List MemPlace} (h : DataW.Trod enc P w 0 (fun _ => true) true T v d ps) (hf : w.noneFrozen ps) : Rd P w T v.cells.toList :=
  let ⟨fuel, hh⟩ := h
  ⟨H, enc, fuel, d, ps, hh, hf⟩
theorem Rd.int {k : IntKind} (ht : P.underlying T = some (.int k)) (h : Rd P w T cs) : ∃ n, cs = [.int k n] ∧ (Lit.int k n).wf = true := by
  obtain ⟨H, enc, fuel, d, p, hh, _⟩ := h.go
  obtain ⟨n, h1, _, h2⟩ := DataW.trod_int ht hh
  exact ⟨n, h1, h2⟩
theorem Rd.bool (ht : P.underlying T = some .bool) (h : Rd P w T cs) : ∃ b, cs = [.bool b] := by
  obtain ⟨H, enc, fuel, d, p, hh, _⟩ := h.go
  obtain ⟨n, h1, _⟩ := DataW.trod_bool ht hh
  exact ⟨n, h1⟩
theorem Rd.string (ht : P.underlying T = some .string) (h : Rd P w T cs) : ∃ s, cs = [.string s] ∧ s.size ≤ maxLen := by
  obtain ⟨H, enc, fuel, d, p, hh, _⟩ := h.go
  obtain ⟨n, h1, _, h2⟩ := DataW.trod_string ht hh
  exact ⟨n, h1, h2⟩
theorem mapM_some {α β : Type} {f : α → Option β} : ∀ {l : List α} {ys : List β}, l.mapM f = some ys → ∀ (i : Nat) (x : α), l[i]? = some x → ∃ y, ys[i]? = some y ∧ f x = some y
  | [], ys, h, i, x, hx => by simp at hx
  | a :: l, ys, h, i, x, hx => by
    rw [List.mapM_cons] at h
    cases ha : f a with
    | none => simp [ha] at h
    | some b =>
      cases hl : l.mapM f with
      | none => simp [ha, hl] at h
      | some r =>
        simp [ha, hl] at h
        subst h
        cases i with
        | zero => simp at hx; subst hx; exact ⟨b, rfl, ha⟩
        | succ i => obtain ⟨y, h1, h2⟩ := mapM_some hl i x (by simpa using hx); exact ⟨y, by simpa using h1, h2⟩
theorem mapM_length {α β : Type} {f : α → Option β} : ∀ {l : List α} {ys : List β}, l.mapM f = some ys → ys.length = l.length
  | [], ys, h => by simp at h; simp [h]
  | a :: l, ys, h => by
    rw [List.mapM_cons] at h
    cases ha : f a with
    | none => simp [ha] at h
    | some b =>
      cases hl : l.mapM f with
      | none => simp [ha, hl] at h
      | some r => simp [ha, hl] at h; subst h; simp [mapM_length hl]
theorem Rd.struct {fs : Array Field} (ht : P.underlying T = some (.struct fs)) (h : Rd P w T cs) : cs.length = P.cellsOf T ∧ ∀ (i : Nat) f, fs[i]? = some f → Rd P w f.type ((cs.drop f.offset).take (P.cellsOf f.type)) := by
  obtain ⟨H, enc, fuel, d, p, hh, hf⟩ := h.go
  cases fuel with
  | zero => simp [DataW.trod] at hh
  | succ fuel =>
    simp only [DataW.trod, ht] at hh
    split at hh
    · rename_i hl
      refine ⟨hl, fun i f hi => ?_⟩
      obtain ⟨xs, hm, hx⟩ := Option.map_eq_some_iff.1 hh
      obtain ⟨y, hy, hfy⟩ := mapM_some hm i f (by simpa using hi)
      simp only [Prod.mk.injEq] at hx
      refine ⟨H, enc, fuel, y.1, y.2, hfy, fun b off hb => hf b off ?_⟩
      rw [← hx.2]
      exact List.mem_flatMap.2 ⟨y, List.mem_of_getElem? hy, hb⟩
    · cases hh
theorem Rd.fieldAt {fs : Array Field} {i : Nat} {f : Field} {ft : TypeId} {off n : Nat} (h : Rd P w T cs) (ht : P.underlying T = some (.struct fs)) (hi : fs[i]? = some f) (hft : f.type = ft) (ho : f.offset = off) (hn : P.cellsOf ft = n) : Rd P w ft ((cs.drop off).take n) := by
  subst hft; subst ho; subst hn
  exact (h.struct ht).2 i f hi
theorem Rd.slice (ht : P.underlying T = some (.slice e)) (h : Rd P w T cs) : ∃ a len cap, cs = [.slice a len cap] ∧ len ≤ cap ∧ cap ≤ maxLen ∧ (a = none → len = 0) ∧
    ∀ ad, a = some ad → ∀ i, i < len → ∃ ecs : List Value, ecs.length = P.cellsOf e ∧ (∀ j v, ecs[j]? = some v → w.cell? ((ad.add (i * P.cellsOf e)).add j) = some v) ∧ (∀ j, j < P.cellsOf e → w.frozen? ⟨ad.block, ad.off + (i * P.cellsOf e + j), none⟩ = false) ∧ Rd P w e ecs := by
  obtain ⟨H, enc, fuel, d, p, hh, hf⟩ := h.go
  cases fuel with
  | zero => simp [DataW.trod] at hh
  | succ fuel =>
    simp only [DataW.trod, ht] at hh
    split at hh <;> rename_i he <;> try (simp at he; done)
    all_goals (try (simp only [Option.some.injEq, TypeDesc.slice.injEq, reduceCtorEq] at he))
    all_goals (try (cases hh; done))
    · exact ⟨none, 0, 0, rfl, Nat.le_refl _, Nat.zero_le _, fun _ => rfl, (fun ad h => by cases h)⟩
    · rename_i e' a len cap
      subst he
      split at hh
      · rename_i hc
        refine ⟨some a, len, cap, rfl, hc.2.1, hc.2.2, (fun h => by cases h), fun ad had i hi => ?_⟩
        cases had
        obtain ⟨elems, hel, hh⟩ := Option.bind_eq_some_iff.1 hh
        simp only [if_true] at hh
        obtain ⟨spare, hsp, hx⟩ := Option.map_eq_some_iff.1 hh
        simp only [Prod.mk.injEq] at hx
        obtain ⟨y, hy, hfy⟩ := mapM_some hel i i (by simp [hi])
        obtain ⟨ecs, hec, htr⟩ := Option.bind_eq_some_iff.1 hfy
        have hlen := mapM_length hel
        rw [List.length_range] at hlen
        unfold World.cells? at hec
        rw [if_pos (Nat.zero_le _)] at hec
        have hl := mapM_length hec
        rw [List.length_range] at hl
        refine ⟨ecs, hl, fun j v hv => ?_, fun j hj => ?_, H, enc, fuel, y.1, y.2, htr, fun b off hb => hf b off ?_⟩
        · have hj : j < P.cellsOf e := by rw [← hl]; exact (List.getElem?_eq_some_iff.1 hv).1
          obtain ⟨y', h1, h2⟩ := mapM_some hec j j (by simp [hj])
          rw [hv] at h1
          cases h1
          exact h2
        · refine hf _ _ ?_
          rw [← hx.2]
          refine List.mem_append_left _ ?_
          unfold MemPlace.row
          refine List.mem_map.2 ⟨i * P.cellsOf e + j, List.mem_range.2 ?_, rfl⟩
          have : (i + 1) * P.cellsOf e ≤ (elems.length + spare.length) * P.cellsOf e := Nat.mul_le_mul_right _ (by omega)
          rw [Nat.add_mul, Nat.one_mul] at this
          omega
        · rw [← hx.2]
          refine List.mem_append_right _ (List.mem_flatMap.2 ⟨y, ?_, hb⟩)
          exact List.mem_append_left _ (List.mem_of_getElem? hy)
      · cases hh
theorem choose_list {α : Type} {p : Nat → α → Prop} : ∀ (n : Nat), (∀ i, i < n → ∃ x, p i x) → ∃ xs : List α, xs.length = n ∧ ∀ i x, xs[i]? = some x → p i x
  | 0, _ => ⟨[], rfl, fun i x h => by simp at h⟩
  | n + 1, h => by
    obtain ⟨xs, hl, hp⟩ := choose_list n (fun i hi => h i (by omega))
    obtain ⟨x, hx⟩ := h n (by omega)
    refine ⟨xs ++ [x], by simp [hl], fun i y hy => ?_⟩
    rw [List.getElem?_append] at hy
    split at hy
    · exact hp i y hy
    · rename_i hi
      have : i - xs.length = 0 := by
        rcases Nat.eq_zero_or_pos (i - xs.length) with h | h
        · exact h
        · rw [List.getElem?_eq_none (by simp; omega)] at hy; cases hy
      rw [this] at hy
      simp at hy
      subst hy
      obtain rfl : i = n := by omega
      exact hx
/-- a slice whose elements' readings are known -/
theorem SL.of_rd {α : Type} [E : Enc α] {Qp : α → Prop} (ht : P.underlying T = some (.slice e)) (hs : P.cellsOf e = Enc.sz α) (hdec : ∀ ecs, Rd P w e ecs → ∃ x : α, ecs = Enc.enc x ∧ Qp x) (h : Rd P w T cs) :
    ∃ v xs, cs = [v] ∧ SL w 0 w.heap.size v (xs : List α) ∧ ∀ x ∈ xs, Qp x := by
  obtain ⟨a, len, cap, rfl, h1, h2, h3, h4⟩ := h.slice ht
  rcases Nat.eq_zero_or_pos len with rfl | h0
  · exact ⟨_, [], rfl, ⟨⟨a, cap, rfl, h1, h2, fun h => by simp at h⟩, fun i x hi => by simp at hi, fun h => by simp at h, Nat.le_refl _, fun i hi => by simp at hi⟩, fun x hx => by simp at hx⟩
  · cases a with
    | none => have := h3 rfl; omega
    | some ad =>
      have h5 : ∀ i, i < len → ∃ x : α, (∀ j v, (Enc.enc x)[j]? = some v → w.cell? ((ad.add (i * P.cellsOf e)).add j) = some v) ∧ (∀ j, j < P.cellsOf e → w.frozen? ⟨ad.block, ad.off + (i * P.cellsOf e + j), none⟩ = false) ∧ Qp x := by
        intro i hi
        obtain ⟨ecs, hl, hc, hf, hr⟩ := h4 ad rfl i hi
        obtain ⟨x, rfl, hq⟩ := hdec ecs hr
        exact ⟨x, hc, hf, hq⟩
      obtain ⟨xs, hl, hp⟩ := choose_list len h5
      have hpos := E.pos
      -- the address bears no spot
      obtain ⟨x0, hx0⟩ : ∃ x, xs[0]? = some x := ⟨xs[0]'(by omega), by simp [show 0 < xs.length by omega]⟩
      obtain ⟨c0, hc0⟩ : ∃ c, (Enc.enc x0)[0]? = some c := ⟨(Enc.enc x0)[0]'(by rw [Enc.len]; exact hpos), by simp [Enc.len, hpos]⟩
      have hcell := (hp 0 x0 hx0).1 0 c0 hc0
      simp only [Nat.zero_mul] at hcell
      have e0 : ∀ b : Addr, b.add 0 = b := fun b => by unfold Addr.add; simp
      rw [e0, e0] at hcell
      have hspot : ad = ⟨ad.block, ad.off, none⟩ := by
        have hs : ad.spot = none := by
          unfold World.cell? at hcell
          split at hcell
          · cases hsp : ad.spot with
            | none => rfl
            | some q => simp [hsp] at hcell
          · cases hcell
        cases ad; simp_all
      have hblt := World.block_lt_of_cell? w ad hcell
      refine ⟨.slice (some ad) len cap, xs, rfl, ⟨⟨some ad, cap, by rw [hl], by omega, h2, fun _ => by rw [hspot]; rfl⟩, fun i x hi => ⟨fun j v hv => ?_⟩, fun _ => ⟨Nat.zero_le _, hblt⟩, Nat.le_refl _, fun i hi => ?_⟩, fun x hx => ?_⟩
      · have := (hp i x hi).1 j v hv
        rw [hspot, add_lit, add_lit, hs] at this
        exact this
      · have hd : i / Enc.sz α < xs.length := (Nat.div_lt_iff_lt_mul hpos).2 hi
        have hm : i % Enc.sz α < P.cellsOf e := by rw [hs]; exact Nat.mod_lt _ hpos
        have := (hp (i / Enc.sz α) xs[i / Enc.sz α] (by simp [hd])).2.1 (i % Enc.sz α) hm
        have e1 : i / Enc.sz α * Enc.sz α + i % Enc.sz α = i := by rw [Nat.mul_comm]; exact Nat.div_add_mod i _
        rw [hs, e1] at this
        exact this
      · obtain ⟨i, hi⟩ := List.mem_iff_getElem?.1 hx
        exact (hp i x hi).2.2
theorem wf64 {n : Int} (h : (Lit.int .i64 n).wf = true) : In64 n := by
  have := bounds_i64 h
  unfold In64
  omega
theorem wf8 {n : Int} (h : (Lit.int .u8 n).wf = true) : 0 ≤ n ∧ n < 256 := by
  have := bounds_u8 h
  omega
theorem dec_int (ht : P.underlying e = some (.int .i64)) : ∀ ecs, Rd P w e ecs → ∃ x : Int, ecs = Enc.enc x ∧ In64 x := fun ecs h => by
  obtain ⟨n, rfl, hw⟩ := h.int ht
  exact ⟨n, rfl, wf64 hw⟩
theorem dec_u8 (ht : P.underlying e = some (.int .u8)) : ∀ ecs, Rd P w e ecs → ∃ x : UInt8, ecs = Enc.enc x ∧ True := fun ecs h => by
  obtain ⟨n, rfl, hw⟩ := h.int ht
  have := wf8 hw
  refine ⟨UInt8.ofNat n.toNat, ?_, trivial⟩
  show _ = [Value.int .u8 ((UInt8.ofNat n.toNat).toNat : Int)]
  rw [UInt8.toNat_ofNat_of_lt' (by show n.toNat < 256; omega)]
  congr 2
  omega
theorem dec_pair {fs : Array Field} {f0 f1 : Field} (ht : P.underlying e = some (.struct fs)) (hc : P.cellsOf e = 2) (h0 : fs[0]? = some f0) (h1 : fs[1]? = some f1) (o0 : f0.offset = 0) (o1 : f1.offset = 1) (s0 : P.cellsOf f0.type = 1) (s1 : P.cellsOf f1.type = 1)
    (t0 : P.underlying f0.type = some (.int .i64)) (t1 : P.underlying f1.type = some (.int .i64)) : ∀ ecs, Rd P w e ecs → ∃ x : Int × Int, ecs = Enc.enc x ∧ (In64 x.1 ∧ In64 x.2) := fun ecs h => by
  obtain ⟨hl, hf⟩ := h.struct ht
  rw [hc] at hl
  match ecs, hl with
  | [a, b], _ =>
    have g0 := hf 0 f0 h0
    have g1 := hf 1 f1 h1
    rw [o0, s0] at g0
    rw [o1, s1] at g1
    obtain ⟨n, hn, wn⟩ := g0.int t0
    obtain ⟨m, hm, wm⟩ := g1.int t1
    simp at hn hm
    subst hn
    subst hm
    exact ⟨(n, m), rfl, wf64 wn, wf64 wm⟩

/-! ### a value of a type -/
theorem okWide_agg0 {r : Reach} {b0 : Nat} {t : TypeId} {v : Value} {fs : Array Field} (ht : P.underlying t = some (.struct fs)) (h : Value.okWide P w r b0 t v) : ∃ cs, v = .agg cs := by
  simp only [Value.okWide, ht] at h
  obtain ⟨cs, h, _⟩ := h
  exact ⟨cs, h⟩
end
end Go.Gw
/- L8 -/
namespace Go.Gw
open Go
set_option linter.unusedVariables false
set_option linter.unusedSimpArgs false

section
variable {P : Program} {N : Nat} {Q : Post} {σ : Fm} {w : World} {ops : Array Oper} {rest : List Oper} {op : Op} {ty : TypeId} {pos : String} {af : Array Edge} {d : Nat} {v : Value}

/-- what may turn what was there -/
def spoilOp : Op → Bool
  | .store _ _ _ => true
  | .mapUpdate _ _ _ _ => true
  | .insert _ _ _ _ => true
  | .entryStore _ _ _ _ => true
  | .call c => match c.callee with
    | .builtin .append => true
    | .builtin .copy => true
    | .builtin .clear => true
    | .builtin .delete => true
    | .value (.func f) => ([38, 48] : List Nat).any (Nat.beq f)
    | _ => false
  | _ => false
def spoil (ops : Array Oper) (k : Nat) : Bool := match ops[k]? with
  | some o => spoilOp o.op
  | none => false
/-- k comes behind i -/
def waitsB (ops : Array Oper) : Nat → Nat → Nat → Bool
  | 0, _, _ => false
  | n + 1, k, i => match ops[k]? with
    | some o => o.after.any fun e => Region.binds .any e && (Nat.beq e.on i || waitsB ops n e.on i)
    | none => false
def Closed (ops : Array Oper) (ls : Array Bool) : Prop := ∀ k o, ops[k]? = some o → ls.getD k false = true → ∀ e ∈ o.after, Region.binds .any e = true → ls.getD e.on false = true
def closedB (ops : Array Oper) (ls : Array Bool) : Bool := (List.range ops.size).all fun k => !ls.getD k false || match ops[k]? with
  | some o => o.after.all fun e => !Region.binds .any e || ls.getD e.on false
  | none => true
theorem closedB_spec {ls : Array Bool} (h : closedB ops ls = true) : Closed ops ls := fun k o hk hl e he hb => by
  simp only [closedB, List.all_eq_true, List.mem_range] at h
  have h1 := h k (Array.getElem?_eq_some_iff.1 hk).1
  rw [hl, hk] at h1
  simp only [Bool.not_true, Bool.false_or] at h1
  have := Array.all_eq_true_iff_forall_mem.1 h1 e he
  rw [hb] at this
  simpa using this
theorem waits_listed {ls : Array Bool} (hc : Closed ops ls) {i : Nat} : ∀ (n k : Nat) (o : Oper), ops[k]? = some o → (∀ e ∈ o.after, Region.binds .any e = true → ls.getD e.on false = true) → waitsB ops n k i = true → ls.getD i false = true
  | 0, _, _, _, _, h => by cases h
  | n + 1, k, o, hk, ha, h => by
    unfold waitsB at h
    rw [hk] at h
    obtain ⟨e, he, h1⟩ := Array.any_eq_true'.1 h
    simp only [Bool.and_eq_true, Bool.or_eq_true] at h1
    have hl := ha e he h1.1
    rcases h1.2 with h2 | h2
    · rw [← Nat.eq_of_beq_eq_true h2]; exact hl
    · cases n with
      | zero => cases h2
      | succ n =>
        have h3 := h2
        unfold waitsB at h3
        cases ho : ops[e.on]? with
        | none => rw [ho] at h3; cases h3
        | some o' => exact waits_listed hc (n + 1) e.on o' ho (hc _ _ ho hl) h2

/-- while nothing that may turn the world has come up since 'ls', only new things have come -/
def SS (sp : Nat → Bool) (ls : Array Bool) (w : World) (listed : Array Bool) (w' : World) : Prop :=
  (∀ k, sp k = true → listed.getD k false = true → ls.getD k false = true) → Ext w w'
def wpAnyS (P : Program) (ops : Array Oper) (Q : Post) (S : Array Bool → World → Prop) : Nat → Array Bool → Act → World → Prop
  | 0, listed, a, w => Region.ready .any ops listed = [] ∧ Q .normal a w
  | fuel + 1, listed, a, w =>
    (Region.ready .any ops listed = [] → Q .normal a w) ∧
    ∀ i ∈ Region.ready .any ops listed, wpOp P ops Q i (fun a' w' => S (listed.setIfInBounds i true) w' ∧ wpAnyS P ops Q S fuel (listed.setIfInBounds i true) a' w') a w
theorem wpAny_of_S {S : Array Bool → World → Prop} : ∀ (fuel : Nat) (listed : Array Bool) (a : Act) (w : World), wpAnyS P ops Q S fuel listed a w → wpAny P .any ops Q fuel listed a w
  | 0, _, _, _, h => h
  | fuel + 1, _, _, _, h => ⟨h.1, fun i hi => wpOp_mono (fun a' w' h' => wpAny_of_S fuel _ a' w' h'.2) (h.2 i hi)⟩
theorem wpAnyS_done {S : Array Bool → World → Prop} {listed : Array Bool} {a : Act} {w : World} (hr : Region.ready .any ops listed = []) (h : Q .normal a w) : ∀ fuel, wpAnyS P ops Q S fuel listed a w
  | 0 => ⟨hr, h⟩
  | _ + 1 => ⟨fun _ => h, by rw [hr]; simp⟩
theorem wpAnyS_mono {S S' : Array Bool → World → Prop} {L : Array Bool} (hS : ∀ ls w, (∀ k, L.getD k false = true → ls.getD k false = true) → S' ls w → S ls w) : ∀ (fuel : Nat) (ls : Array Bool) (a : Act) (w : World),
    (∀ k, L.getD k false = true → ls.getD k false = true) → wpAnyS P ops Q S' fuel ls a w → wpAnyS P ops Q S fuel ls a w
  | 0, _, _, _, _, k => k
  | fuel + 1, ls, a, w, hL, k => ⟨k.1, fun i hi => wpOp_mono (fun a' w' hk =>
      have hL' : ∀ k, L.getD k false = true → (ls.setIfInBounds i true).getD k false = true := fun k hk => getD_set_true (hL k hk)
      ⟨hS _ _ hL' hk.1, wpAnyS_mono hS fuel _ _ _ hL' hk.2⟩) (k.2 i hi)⟩
theorem getD_set_or {ls : Array Bool} {i k : Nat} (h : (ls.setIfInBounds i true).getD k false = true) : k = i ∨ ls.getD k false = true := by
  by_cases e : i = k
  · exact .inl e.symm
  · rw [getD_set_ne false e] at h; exact .inr h
theorem unlisted {ls : Array Bool} {i : Nat} (h : ls.getD i true = false) : ls.getD i false = false := by
  rcases Nat.lt_or_ge i ls.size with h' | h'
  · simp [h'] at h ⊢; exact h
  · simp [Array.getElem?_eq_none h'] at h
theorem wpAnyS_first {sp : Nat → Bool} {i : Nat} {oi : Oper} {L : Array Bool} {w0 : World} (hi : ops[i]? = some oi) (hsel : ∀ (j : Nat) (o : Oper) cs b, ops[j]? = some o → o.op ≠ .select cs b)
    (hQ : ∀ c a w, Q (.panic c) (a.put oi.dst v) w → Q (.panic c) a w) (hsp : sp i = false) :
    ∀ (fuel : Nat) (listed : Array Bool) (a : Act) (w : World), Closed ops listed → (∀ k, sp k = true → listed.getD k false = true → L.getD k false = true) →
      (∀ k, sp k = true → listed.getD k false = false → waitsB ops ops.size k i = true) →
      (∀ j oj, ops[j]? = some oj → j ≠ i → listed.getD j true = false → (∀ e ∈ oj.after, Region.binds .any e = true → e.on ≠ i) → oi.apart ops oj = true) →
      i ∈ Region.ready .any ops listed → YieldsIf P ops (fun w' => Ext w0 w') oi v a → Ext w0 w →
      wpAnyS P ops Q (SS sp L w0) fuel (listed.setIfInBounds i true) (a.put oi.dst v) w → wpAnyS P ops Q (SS sp L w0) (fuel + 1) listed a w := by
  intro fuel
  induction fuel with
  | zero =>
    intro listed a w hcl hK hw _ hr hy hS H
    refine ⟨fun h => (by rw [h] at hr; cases hr), fun j hj => ?_⟩
    by_cases hji : j = i
    · subst hji; exact hy.wpOp hi hS ⟨fun _ => hS, H⟩
    · have := ready_mono hj hji
      rw [H.1] at this
      cases this
  | succ fuel ih =>
    intro listed a w hcl hK hw hfree hr hy hS H
    refine ⟨fun h => (by rw [h] at hr; cases hr), fun j hj => ?_⟩
    by_cases hji : j = i
    · subst hji; exact hy.wpOp hi hS ⟨fun _ => hS, H⟩
    · have h1 := H.2 j (ready_mono hj hji)
      obtain ⟨hjun, oj, hoj, hall⟩ := mem_ready.1 hj
      have hiun := unlisted (mem_ready.1 hr).1
      have hjs : sp j = false := by
        cases hs : sp j
        · rfl
        · have := waits_listed hcl _ j oj hoj hall (hw j hs (unlisted hjun))
          rw [hiun] at this; cases this
      have hnot : ∀ e ∈ oj.after, Region.binds .any e = true → e.on ≠ i := fun e he hb heq => by
        have h1 := hall e he hb
        rw [heq, hiun] at h1
        cases h1
      have h2 := wpOp_putIf hoj (hfree j oj hoj hji hjun hnot) (fun cs b => hsel i oi cs b hi) (fun cs b => hsel j oj cs b hoj) hQ hy h1
      have hfree' : ∀ k ok, ops[k]? = some ok → k ≠ i → (listed.setIfInBounds j true).getD k true = false →
          (∀ e ∈ ok.after, Region.binds .any e = true → e.on ≠ i) → oi.apart ops ok = true := fun k ok hk hki hun hno => by
        refine hfree k ok hk hki ?_ hno
        by_cases hjk : j = k
        · subst hjk; exact hjun
        · rw [getD_set_ne true hjk] at hun; exact hun
      have hcl' : Closed ops (listed.setIfInBounds j true) := fun k o hk hl e he hb => by
        rcases getD_set_or hl with rfl | hl
        · rw [hoj] at hk; cases hk; exact getD_set_true (hall e he hb)
        · exact getD_set_true (hcl k o hk hl e he hb)
      have hK' : ∀ k, sp k = true → (listed.setIfInBounds j true).getD k false = true → L.getD k false = true := fun k hs hl => by
        rcases getD_set_or hl with rfl | hl
        · rw [hjs] at hs; cases hs
        · exact hK k hs hl
      have hw' : ∀ k, sp k = true → (listed.setIfInBounds j true).getD k false = false → waitsB ops ops.size k i = true := fun k hs hl => by
        refine hw k hs ?_
        cases h : listed.getD k false
        · rfl
        · rw [getD_set_true h] at hl; cases hl
      refine wpOp_mono (fun a' w' h3 => ?_) h2
      obtain ⟨h3y, h3s, h3k⟩ := h3
      have hx : Ext w0 w' := h3s fun k hs hl => by
        rcases getD_set_or hl with rfl | hl
        · rw [hjs] at hs; cases hs
        · rcases getD_set_or hl with rfl | hl
          · rw [hsp] at hs; cases hs
          · exact hK k hs hl
      refine ⟨fun _ => hx, ih (listed.setIfInBounds j true) a' w' hcl' hK' hw' hfree' (ready_mono hr (Ne.symm hji)) h3y hx ?_⟩
      rw [Array.setIfInBounds_comm _ _ hji]
      exact h3k

/-- the same for one that yields its value in whatever world -/
theorem wpAnyS_firstA {sp : Nat → Bool} {i : Nat} {oi : Oper} {L : Array Bool} {w0 : World} (hi : ops[i]? = some oi) (hsel : ∀ (j : Nat) (o : Oper) cs b, ops[j]? = some o → o.op ≠ .select cs b)
    (hQ : ∀ c a w, Q (.panic c) (a.put oi.dst v) w → Q (.panic c) a w) (hsp : sp i = false) :
    ∀ (fuel : Nat) (listed : Array Bool) (a : Act) (w : World),
      (∀ j oj, ops[j]? = some oj → j ≠ i → listed.getD j true = false → (∀ e ∈ oj.after, Region.binds .any e = true → e.on ≠ i) → oi.apart ops oj = true) →
      i ∈ Region.ready .any ops listed → YieldsIf P ops (fun _ => True) oi v a → SS sp L w0 listed w →
      wpAnyS P ops Q (SS sp L w0) fuel (listed.setIfInBounds i true) (a.put oi.dst v) w → wpAnyS P ops Q (SS sp L w0) (fuel + 1) listed a w := by
  have hdrop : ∀ (l : Array Bool) w', SS sp L w0 (l.setIfInBounds i true) w' → SS sp L w0 l w' := fun l w' h hk => h fun k hs hl => by
    rcases getD_set_or hl with rfl | hl
    · rw [hsp] at hs; cases hs
    · exact hk k hs hl
  have hadd : ∀ (l : Array Bool) w', SS sp L w0 l w' → SS sp L w0 (l.setIfInBounds i true) w' := fun l w' h hk => h fun k hs hl => hk k hs (getD_set_true hl)
  intro fuel
  induction fuel with
  | zero =>
    intro listed a w _ hr hy hS H
    refine ⟨fun h => (by rw [h] at hr; cases hr), fun j hj => ?_⟩
    by_cases hji : j = i
    · subst hji; exact hy.wpOp hi trivial ⟨hadd _ _ hS, H⟩
    · have := ready_mono hj hji
      rw [H.1] at this
      cases this
  | succ fuel ih =>
    intro listed a w hfree hr hy hS H
    refine ⟨fun h => (by rw [h] at hr; cases hr), fun j hj => ?_⟩
    by_cases hji : j = i
    · subst hji; exact hy.wpOp hi trivial ⟨hadd _ _ hS, H⟩
    · have h1 := H.2 j (ready_mono hj hji)
      obtain ⟨hjun, oj, hoj, hall⟩ := mem_ready.1 hj
      have hiun := unlisted (mem_ready.1 hr).1
      have hnot : ∀ e ∈ oj.after, Region.binds .any e = true → e.on ≠ i := fun e he hb heq => by
        have h1 := hall e he hb
        rw [heq, hiun] at h1
        cases h1
      have h2 := wpOp_putIf hoj (hfree j oj hoj hji hjun hnot) (fun cs b => hsel i oi cs b hi) (fun cs b => hsel j oj cs b hoj) hQ hy h1
      have hfree' : ∀ k ok, ops[k]? = some ok → k ≠ i → (listed.setIfInBounds j true).getD k true = false →
          (∀ e ∈ ok.after, Region.binds .any e = true → e.on ≠ i) → oi.apart ops ok = true := fun k ok hk hki hun hno => by
        refine hfree k ok hk hki ?_ hno
        by_cases hjk : j = k
        · subst hjk; exact hjun
        · rw [getD_set_ne true hjk] at hun; exact hun
      refine wpOp_mono (fun a' w' h3 => ?_) h2
      obtain ⟨h3y, h3s, h3k⟩ := h3
      rw [Array.setIfInBounds_comm _ _ (Ne.symm hji)] at h3s h3k
      have hs' := hdrop _ _ h3s
      exact ⟨hs', ih (listed.setIfInBounds j true) a' w' hfree' (ready_mono hr (Ne.symm hji)) h3y hs' h3k⟩
def mayTakeA (ops : Array Oper) (sp : Nat → Bool) (ls : Array Bool) (i : Nat) : Bool :=
  (Region.ready .any ops ls).contains i && (Region.free .any ops ls i && (Region.noSelect ops && !sp i))
theorem take_A {sp : Nat → Bool} {i fuel : Nat} {oi : Oper} {ls : Array Bool} {a : Act} (hi : ops[i]? = some oi) (hm : mayTakeA ops sp ls i = true) (hQ : ∀ c a w, Q (.panic c) (a.put oi.dst v) w → Q (.panic c) a w)
    (hy : YieldsIf P ops (fun _ => True) oi v a) (h : wpAnyS P ops Q (SS sp (ls.setIfInBounds i true) w) fuel (ls.setIfInBounds i true) (a.put oi.dst v) w) : wpAnyS P ops Q (SS sp ls w) (fuel + 1) ls a w := by
  unfold mayTakeA at hm
  simp only [Bool.and_eq_true] at hm
  obtain ⟨h1, h2, h3, h4⟩ := hm
  have hsp : sp i = false := by simpa using h4
  refine wpAnyS_firstA hi (Region.noSelect_spec h3) hQ hsp fuel ls a w (Region.free_spec hi h2) (by simpa using h1) hy (fun _ => Chg.refl _ _ _) ?_
  refine wpAnyS_mono (L := #[]) (fun l w' _ hs hk => hs fun k hsk hlk => ?_) _ _ _ _ (fun k hk => by simp at hk) h
  exact getD_set_true (hk k hsk hlk)

/-- may number i be taken now, ahead of the others? -/
def mayTake (ops : Array Oper) (sp : Nat → Bool) (ls : Array Bool) (i : Nat) : Bool :=
  (Region.ready .any ops ls).contains i && (Region.free .any ops ls i && (Region.noSelect ops && (!sp i && (closedB ops ls && (List.range ops.size).all fun k => !sp k || ls.getD k false || waitsB ops ops.size k i))))
theorem spoil_lt {k : Nat} (h : spoil ops k = true) : k < ops.size := by
  unfold spoil at h
  split at h
  · rename_i o ho; exact (Array.getElem?_eq_some_iff.1 ho).1
  · cases h
theorem take_S {sp : Nat → Bool} (hsz : ∀ k, sp k = true → k < ops.size) {i fuel : Nat} {oi : Oper} {ls : Array Bool} {a : Act} (hi : ops[i]? = some oi) (hm : mayTake ops sp ls i = true) (hQ : ∀ c a w, Q (.panic c) (a.put oi.dst v) w → Q (.panic c) a w)
    (hy : YieldsIf P ops (fun w' => Ext w w') oi v a) (h : wpAnyS P ops Q (SS sp (ls.setIfInBounds i true) w) fuel (ls.setIfInBounds i true) (a.put oi.dst v) w) : wpAnyS P ops Q (SS sp ls w) (fuel + 1) ls a w := by
  unfold mayTake at hm
  simp only [Bool.and_eq_true] at hm
  obtain ⟨h1, h2, h3, h4, h5, h6⟩ := hm
  have hsp : sp i = false := by simpa using h4
  refine wpAnyS_first hi (Region.noSelect_spec h3) hQ hsp fuel ls a w (closedB_spec h5) (fun _ _ h => h) (fun k hk hl => ?_) (Region.free_spec hi h2) (by simpa using h1) hy (Chg.refl _ _ _) ?_
  · have := List.all_eq_true.1 h6 k (List.mem_range.2 (hsz k hk))
    rw [hk, hl] at this
    simpa using this
  · refine wpAnyS_mono (L := #[]) (fun l w' _ hs hk => hs fun k hsk hlk => ?_) _ _ _ _ (fun k hk => by simp at hk) h
    exact getD_set_true (hk k hsk hlk)

/-- what is still to come: the queue q; n: how often it may still be turned -/
structure WH (P : Program) (N : Nat) (ops : Array Oper) (Q : Post) (fuel n : Nat) (q : List (Nat × Oper)) (ls : List Bool) (σ : Fm) (w : World) : Prop where
  go : ∀ a, Fr N σ a → wpAnyS P ops Q (SS (spoil ops) ls.toArray w) fuel ls.toArray a w
/-- behind one that may turn the world -/
def HK (P : Program) (N : Nat) (ops : Array Oper) (Q : Post) (fuel i : Nat) (q : List (Nat × Oper)) (ls : List Bool) (w : World) (a : Act) (w' : World) : Prop :=
  SS (spoil ops) ls.toArray w (ls.set i true).toArray w' ∧ wpAnyS P ops Q (SS (spoil ops) ls.toArray w) fuel (ls.set i true).toArray a w'
def numb : Nat → List Oper → List (Nat × Oper)
  | _, [] => []
  | k, o :: r => (k, o) :: numb (k + 1) r
def noes : List Oper → List Bool
  | [] => []
  | _ :: r => false :: noes r
theorem noes_eq : ∀ l : List Oper, noes l = List.replicate l.length false
  | [] => rfl
  | _ :: r => by simp [noes, noes_eq r, List.replicate_succ]

theorem c_region_held {i : Nat} {l : List Oper} (hm : P.follows .mixedOrders = true)
    (h : ∀ wd, Ext w wd → wd.heap.size = w.heap.size → WH P N l.toArray Q l.length l.length (numb 0 l) (noes l) σ wd) : C P N (.region i l.toArray true) Q σ w := by
  refine ⟨fun a ha => wp_region_any hm (wpAny_of_S (S := SS (spoil l.toArray) (List.replicate l.length false).toArray w.drew) _ _ _ _ ?_)⟩
  have := (h w.drew (Chg.drew w) rfl).go a ha
  rw [noes_eq] at this
  rw [List.size_toArray, ← List.toArray_replicate]
  exact this

/-- only what reads -/
def calm (l : List Oper) : Bool := l.all fun o => match o.op with
  | .call c => match c.callee with | .builtin .len => true | .builtin .max => true | .builtin .min => true | _ => false
  | .alloc _ => false
  | .box _ _ => false
  | .makeMap _ _ => false
  | .mapUpdate _ _ _ _ => false
  | .insert _ _ _ _ => false
  | .convert _ _ _ => true
  | .store _ _ _ => false
  | .buildSlice _ _ _ => false
  | .makeSlice _ _ _ => false
  | _ => true
theorem c_region_calm {i : Nat} {l : List Oper} (hm : P.follows .mixedOrders = true) (hc : calm l = true) (hB : Region.lexB .any l.toArray = true)
    (h : WQ P N l.toArray (Ext w) (fun a' => ∀ w', Ext w w' → Q .normal a' w') l σ) : C P N (.region i l.toArray true) Q σ w := c_region_quiet hm hB h
theorem set_arr (ls : List Bool) (i : Nat) : ls.toArray.setIfInBounds i true = (ls.set i true).toArray := by simp

theorem h_pure {i fuel n : Nat} {q : List (Nat × Oper)} {ls : List Bool} (hi : ops[i]? = some ⟨some d, op, ty, pos, af, none⟩) (h : YE P σ op ty w v) (hd : Nat.blt d N = true)
    (k : WH P N ops Q fuel q.length q (ls.set i true) ((d, v) :: σ) w)
    (hm : mayTake ops (spoil ops) ls.toArray i = true := by decide +kernel) (hQ : ∀ c a w, Q (.panic c) (a.put (some d) v) w → Q (.panic c) a w := by exact fun _ _ _ h => h) :
    WH P N ops Q (fuel + 1) n ((i, ⟨some d, op, ty, pos, af, none⟩) :: q) ls σ w := by
  refine ⟨fun a ha => take_S (fun _ => spoil_lt) hi hm hQ (.inl ⟨by simp [Region.wanted], fun w' hw' => ?_⟩) (by rw [set_arr]; exact k.go _ (ha.put hd v))⟩
  rw [execOp_eq]
  exact h.go w' hw' _ fun x v hx => ha.eval hx
theorem h_yes {i fuel n : Nat} {q : List (Nat × Oper)} {ls : List Bool} {j t : Nat} {b : Bool} (hi : ops[i]? = some ⟨some d, op, ty, pos, af, some (j, b)⟩) (hj : (ops[j]?).bind (·.dst) = some t) (ht : look σ t = some (.bool b)) (h : YE P σ op ty w v) (hd : Nat.blt d N = true)
    (k : WH P N ops Q fuel q.length q (ls.set i true) ((d, v) :: σ) w)
    (hm : mayTake ops (spoil ops) ls.toArray i = true := by decide +kernel) (hQ : ∀ c a w, Q (.panic c) (a.put (some d) v) w → Q (.panic c) a w := by exact fun _ _ _ h => h) :
    WH P N ops Q (fuel + 1) n ((i, ⟨some d, op, ty, pos, af, some (j, b)⟩) :: q) ls σ w := by
  refine ⟨fun a ha => take_S (fun _ => spoil_lt) hi hm hQ (.inl ⟨by simp [Region.wanted, yielded_of ha hj ht], fun w' hw' => ?_⟩) (by rw [set_arr]; exact k.go _ (ha.put hd v))⟩
  rw [execOp_eq]
  exact h.go w' hw' _ fun x v hx => ha.eval hx
theorem h_no {i fuel n : Nat} {q : List (Nat × Oper)} {ls : List Bool} {j t : Nat} {b b' : Bool} (hi : ops[i]? = some ⟨some d, op, ty, pos, af, some (j, b')⟩) (hj : (ops[j]?).bind (·.dst) = some t) (ht : look σ t = some (.bool b)) (hb : (b == b') = false) (hd : Nat.blt d N = true)
    (k : WH P N ops Q fuel q.length q (ls.set i true) ((d, undef) :: σ) w)
    (hm : mayTake ops (spoil ops) ls.toArray i = true := by decide +kernel) (hQ : ∀ c a w, Q (.panic c) (a.put (some d) undef) w → Q (.panic c) a w := by exact fun _ _ _ h => h) :
    WH P N ops Q (fuel + 1) n ((i, ⟨some d, op, ty, pos, af, some (j, b')⟩) :: q) ls σ w :=
  ⟨fun a ha => take_S (fun _ => spoil_lt) hi hm hQ (.inr ⟨by simp [Region.wanted, yielded_of ha hj ht, hb], rfl⟩) (by rw [set_arr]; exact k.go _ (ha.put hd _))⟩
theorem h_none {i fuel n : Nat} {q : List (Nat × Oper)} {ls : List Bool} {j t : Nat} {b' : Bool} (hi : ops[i]? = some ⟨some d, op, ty, pos, af, some (j, b')⟩) (hj : (ops[j]?).bind (·.dst) = some t) (ht : look σ t = some undef) (hd : Nat.blt d N = true)
    (k : WH P N ops Q fuel q.length q (ls.set i true) ((d, undef) :: σ) w)
    (hm : mayTake ops (spoil ops) ls.toArray i = true := by decide +kernel) (hQ : ∀ c a w, Q (.panic c) (a.put (some d) undef) w → Q (.panic c) a w := by exact fun _ _ _ h => h) :
    WH P N ops Q (fuel + 1) n ((i, ⟨some d, op, ty, pos, af, some (j, b')⟩) :: q) ls σ w :=
  ⟨fun a ha => take_S (fun _ => spoil_lt) hi hm hQ (.inr ⟨by simp [Region.wanted, yielded_undef ha hj ht], rfl⟩) (by rw [set_arr]; exact k.go _ (ha.put hd _))⟩
theorem h_part_dec {i fuel n : Nat} {o : Option Tmp} {q : List (Nat × Oper)} {ls : List Bool} {j t : Nat} {b' : Bool} {p : Prop} {dp : Decidable p} (hj : (ops[j]?).bind (·.dst) = some t) (ht : look σ t = some (.bool (decide p)))
    (k1 : p → WH P N ops Q fuel n ((i, ⟨o, op, ty, pos, af, some (j, b')⟩) :: q) ls ((t, .bool true) :: σ) w) (k2 : ¬ p → WH P N ops Q fuel n ((i, ⟨o, op, ty, pos, af, some (j, b')⟩) :: q) ls ((t, .bool false) :: σ) w) :
    WH P N ops Q fuel n ((i, ⟨o, op, ty, pos, af, some (j, b')⟩) :: q) ls σ w := by
  refine ⟨fun a ha => ?_⟩
  have hv := ha.val t _ ht
  have hf : Fr N ((t, .bool (decide p)) :: σ) a := ha.same hv
  by_cases hp : p
  · exact (k1 hp).go a (by simpa [hp] using hf)
  · exact (k2 hp).go a (by simpa [hp] using hf)
theorem h_part {i fuel n : Nat} {o : Option Tmp} {q : List (Nat × Oper)} {ls : List Bool} {j t : Nat} {b b' : Bool} (hj : (ops[j]?).bind (·.dst) = some t) (ht : look σ t = some (.bool b))
    (k1 : b = true → WH P N ops Q fuel n ((i, ⟨o, op, ty, pos, af, some (j, b')⟩) :: q) ls ((t, .bool true) :: σ) w) (k2 : b = false → WH P N ops Q fuel n ((i, ⟨o, op, ty, pos, af, some (j, b')⟩) :: q) ls ((t, .bool false) :: σ) w) :
    WH P N ops Q fuel n ((i, ⟨o, op, ty, pos, af, some (j, b')⟩) :: q) ls σ w := by
  refine ⟨fun a ha => ?_⟩
  have hv := ha.val t _ ht
  have hf : Fr N ((t, .bool b) :: σ) a := ha.same hv
  cases b
  · exact (k2 rfl).go a hf
  · exact (k1 rfl).go a hf
/-- one that yields its value in whatever world -/
theorem h_any {i fuel n : Nat} {q : List (Nat × Oper)} {ls : List Bool} (hi : ops[i]? = some ⟨some d, op, ty, pos, af, none⟩) (h : ∀ w, YE P σ op ty w v) (hd : Nat.blt d N = true)
    (k : WH P N ops Q fuel q.length q (ls.set i true) ((d, v) :: σ) w)
    (hm : mayTakeA ops (spoil ops) ls.toArray i = true := by decide +kernel) (hQ : ∀ c a w, Q (.panic c) (a.put (some d) v) w → Q (.panic c) a w := by exact fun _ _ _ h => h) :
    WH P N ops Q (fuel + 1) n ((i, ⟨some d, op, ty, pos, af, none⟩) :: q) ls σ w := by
  refine ⟨fun a ha => take_A hi hm hQ (.inl ⟨by simp [Region.wanted], fun w' _ => ?_⟩) (by rw [set_arr]; exact k.go _ (ha.put hd v))⟩
  rw [execOp_eq]
  exact (h w').go w' (Chg.refl _ _ _) _ fun x v hx => ha.eval hx
theorem h_turn {i fuel n : Nat} {o : Oper} {q : List (Nat × Oper)} {ls : List Bool} (k : WH P N ops Q fuel n (q ++ [(i, o)]) ls σ w) : WH P N ops Q fuel (n + 1) ((i, o) :: q) ls σ w := ⟨k.go⟩
theorem h_nil {fuel n : Nat} {ls : List Bool} (k : X N .normal Q σ w) (hr : Region.ready .any ops ls.toArray = [] := by decide +kernel) : WH P N ops Q fuel n [] ls σ w := ⟨fun a ha => wpAnyS_done hr (k.go a ha) fuel⟩

theorem wpOp_of_list {i : Nat} {o : Oper} {K : Act → World → Prop} {a : Act} (hi : ops[i]? = some o) (h : wpList P ops (Exit.then K Q) [o] a w) : wpOp P ops Q i K a w := by
  unfold wpOp
  simp only [hi]
  unfold wpList at h
  split
  · rename_i hw
    rw [if_pos hw] at h
    rcases h with h | ⟨h1, a', w', h2⟩
    · left
      unfold Oper.wp at *
      generalize (execOp a.eval o).run P w = r at *
      cases r with
      | ok n w' =>
        cases n <;> simp only [Oper.upon, wpList, Exit.then] at h ⊢ <;> first
          | exact h
          | exact Calls.mono h (fun e w'' he => by cases e <;> exact he)
          | exact Rows.mono h (fun _ _ he => he)
      | halt x w' => cases x <;> simp only [Oper.upon, Exit.then] at h ⊢ <;> exact h
    · exact .inr ⟨h1, a', w', h2⟩
  · rename_i hw
    rw [if_neg hw] at h
    exact h
/-- only this one may come up -/
theorem h_one {i fuel n : Nat} {o : Oper} {q : List (Nat × Oper)} {ls : List Bool} (hi : ops[i]? = some o) (k : W P N ops (Exit.then (HK P N ops Q fuel i q ls w) Q) [o] σ w)
    (hr : Region.ready .any ops ls.toArray = [i] := by decide +kernel) : WH P N ops Q (fuel + 1) n ((i, o) :: q) ls σ w :=
  ⟨fun a ha => ⟨fun h0 => (by rw [h0] at hr; cases hr), fun i' hi' => by
    rw [hr] at hi'
    obtain rfl : i' = i := by simpa using hi'
    rw [set_arr]
    exact wpOp_of_list hi (k.go a ha)⟩⟩
/-- one of two -/
theorem h_two {i j fuel n : Nat} {o o' : Oper} {q : List (Nat × Oper)} {ls : List Bool} (hi : ops[i]? = some o) (hj : ops[j]? = some o')
    (k : W P N ops (Exit.then (HK P N ops Q fuel i ((j, o') :: q) ls w) Q) [o] σ w) (k' : W P N ops (Exit.then (HK P N ops Q fuel j ((i, o) :: q) ls w) Q) [o'] σ w)
    (hr : Region.ready .any ops ls.toArray = [i, j] := by decide +kernel) : WH P N ops Q (fuel + 1) n ((i, o) :: (j, o') :: q) ls σ w :=
  ⟨fun a ha => ⟨fun h0 => (by rw [h0] at hr; cases hr), fun i' hi' => by
    rw [hr] at hi'
    rcases (by simpa using hi' : i' = i ∨ i' = j) with rfl | rfl
    · rw [set_arr]; exact wpOp_of_list hi (k.go a ha)
    · rw [set_arr]; exact wpOp_of_list hj (k'.go a ha)⟩⟩
/-- on, behind one that turns nothing that was there -/
theorem x_held {fuel i : Nat} {q : List (Nat × Oper)} {ls : List Bool} {w' : World} (k : WH P N ops Q fuel q.length q (ls.set i true) σ w') (hs : spoil ops i = false := by decide +kernel) (hx : Ext w w' := by repeat (first | exact Go.Gw.Chg.refl _ _ _ | assumption | refine Go.Gw.Chg.next ?_ (by assumption) (by omega))) : X N .normal (Exit.then (HK P N ops Q fuel i q ls w) Q) σ w' :=
  ⟨fun a ha => ⟨fun _ => hx, by
    refine wpAnyS_mono (L := #[]) (fun l w'' _ hk hp => hx.trans (hk fun k hsk hlk => ?_)) _ _ _ _ (fun k hk => by simp at hk) (k.go a ha)
    have := hp k hsk hlk
    rw [← set_arr]
    exact getD_set_true this⟩⟩
/-- on, behind one that may -/
theorem x_heldk {fuel i : Nat} {q : List (Nat × Oper)} {ls : List Bool} {w' : World} (k : WH P N ops Q fuel q.length q (ls.set i true) σ w') (hs : (spoil ops i && !ls.toArray.getD i true) = true := by decide +kernel) : X N .normal (Exit.then (HK P N ops Q fuel i q ls w) Q) σ w' := by
  have hs : spoil ops i = true ∧ ls.toArray.getD i true = false := by simpa only [Bool.and_eq_true, Bool.not_eq_true'] using hs
  have hlt : i < ls.toArray.size := by
    rcases Nat.lt_or_ge i ls.toArray.size with h' | h'
    · exact h'
    · have := hs.2; rw [Array.getD_eq_getD_getElem?, Array.getElem?_eq_none h'] at this; cases this
  have hin : (ls.toArray.setIfInBounds i true).getD i false = true := by rw [Array.getD_eq_getD_getElem?, Array.getElem?_setIfInBounds_self_of_lt hlt]; rfl
  have hno : ∀ l : Array Bool, l.getD i false = true → ∀ w'', SS (spoil ops) ls.toArray w l w'' := fun l hl w'' hp => by
    have := hp i hs.1 hl
    rw [unlisted hs.2] at this; cases this
  rw [set_arr] at hin
  exact ⟨fun a ha => ⟨hno _ hin _, wpAnyS_mono (L := (ls.set i true).toArray) (fun l w'' hL _ => hno l (hL i hin) w'') _ _ _ _ (fun _ h => h) (k.go a ha)⟩⟩
end
end Go.Gw
/- L9 -/
namespace Go.Gw
open Go
set_option linter.unusedVariables false
set_option linter.unusedSimpArgs false

class TInt (P : Program) (T : TypeId) (k : outParam IntKind) : Prop where
  und : P.underlying T = some (.int k)
class TStg (P : Program) (T : TypeId) : Prop where
  und : P.underlying T = some .string
class TArr (P : Program) (T : TypeId) (n e : outParam Nat) : Prop where
  und : P.underlying T = some (.array n e)
section
variable {P : Program} {N : Nat} {Q : Post} {σ : Fm} {w : World} {ops : Array Oper} {rest : List Oper} {ty t t' T e : TypeId} {pos : String} {af : Array Edge} {d s b B : Nat} {x y z : Operand} {v : Value} {p q : List UInt8} {k k' : IntKind} {a c : Int}

theorem str_of (s : ByteArray) : Value.string s = str s.data.toList := by cases s; rfl
theorem y_seq (hx : ev σ x = some (str p)) (hy : ev σ y = some (str q)) : YE P σ (.binOp .eql t x y t') ty w (.bool (decide (p = q))) := ⟨fun w' _ ρ hρ => by
  have e : (p == q) = decide (p = q) := by by_cases h : p = q <;> simp [h]
  simp [execOp, hρ _ _ hx, hρ _ _ hy, eqGuard, binOp, Op.stringOp, ByteArray.toList_eq, e]⟩
theorem y_sne (hx : ev σ x = some (str p)) (hy : ev σ y = some (str q)) : YE P σ (.binOp .neq t x y t') ty w (.bool (decide (¬ p = q))) := ⟨fun w' _ ρ hρ => by
  have e : (!(p == q)) = decide (¬ p = q) := by by_cases h : p = q <;> simp [h]
  simp [execOp, hρ _ _ hx, hρ _ _ hy, eqGuard, binOp, Op.stringOp, ByteArray.toList_eq, e, -decide_not]⟩
theorem y_scat (hx : ev σ x = some (str p)) (hy : ev σ y = some (str q)) (hm : p.length + q.length ≤ 9223372036854775807 := by omega) : YE P σ (.binOp .add t x y t') ty w (str (p ++ q)) := ⟨fun w' _ ρ hρ => by
  have h1 : ¬ (((⟨p.toArray⟩ : ByteArray).size + (⟨q.toArray⟩ : ByteArray).size : Nat) : Int) > IntKind.i64.max := by
    have e1 : (⟨p.toArray⟩ : ByteArray).size = p.length := List.size_toArray
    have e2 : (⟨q.toArray⟩ : ByteArray).size = q.length := List.size_toArray
    have e3 : IntKind.i64.max = 9223372036854775807 := by decide
    rw [e1, e2, e3]; omega
  have h2 : (⟨p.toArray⟩ : ByteArray) ++ ⟨q.toArray⟩ = ⟨(p ++ q).toArray⟩ := by
    apply ByteArray.ext; simp [ByteArray.data_append]
  simp only [execOp, hρ _ _ hx, hρ _ _ hy, eqGuard, binOp, Op.stringOp, if_neg h1, h2, Sem.run_bind, Sem.run_pure, Result.andThen_ok]
  rfl⟩
theorem y_slen [hT : TStg P t] (hx : ev σ x = some (str p)) : YE P σ (.call { callee := .builtin .len, args := #[x], argTypes := #[t] }) ty w (.int .i64 p.length) := ⟨fun w' hw ρ hρ => by
  have e : (⟨p.toArray⟩ : ByteArray).size = p.length := List.size_toArray
  simp [execOp, resolve, hρ _ _ hx, invoke, builtin, Builtin.len_, run_underlying hT.und, e, goInt]⟩
theorem y_at_str [hT : TStg P T] (hx : ev σ x = some (str p)) (hy : ev σ y = some (.int k a)) (ha : 0 ≤ a ∧ a < p.length := by omega) : YE P σ (.index T x y) ty w (.int .u8 (p.getD a.toNat 0).toNat) := ⟨fun w' hw ρ hρ => by
  have h1 : 0 ≤ a := ha.1
  have hlt : a.toNat < p.length := by omega
  have h2 : (⟨p.toArray⟩ : ByteArray)[a.toNat]? = some (p.getD a.toNat 0) := by
    have e1 : a.toNat < (⟨p.toArray⟩ : ByteArray).size := Nat.lt_of_lt_of_eq hlt List.size_toArray.symm
    rw [getElem?_pos (⟨p.toArray⟩ : ByteArray) a.toNat e1]
    simp [List.getD_eq_getElem?_getD, hlt]
    rfl
  simp [execOp, hρ _ _ hx, hρ _ _ hy, Instr.index, asIntOf, run_underlying hT.und, h1, h2]⟩
theorem y_at_arr {n : Nat} {cs : List Value} [hT : TArr P T n e] [TScal P e] (hx : ev σ x = some (.agg cs.toArray)) (hy : ev σ y = some (.int k a)) (ha : 0 ≤ a ∧ a < n := by omega) (hv : cs[a.toNat]? = some v := by rfl) : YE P σ (.index T x y) ty w v := ⟨fun w' hw ρ hρ => by
  have hsz : (P.info? e).map (·.size) = some 1 := TScal.size
  simp [execOp, hρ _ _ hx, hρ _ _ hy, Instr.index, asIntOf, run_underlying hT.und, ha, run_size w' hsz, Go.part, isAgg_scal, hv]⟩
theorem y_part_str {l h : Int} {ol oh : Option Operand} [hT : TStg P T] (hx : ev σ x = some (str p)) (hl : (ol = none ∧ l = 0) ∨ ∃ y k, ol = some y ∧ ev σ y = some (.int k l)) (hh : (oh = none ∧ h = p.length) ∨ ∃ y k, oh = some y ∧ ev σ y = some (.int k h))
    (hb : 0 ≤ l ∧ l ≤ h ∧ h ≤ p.length := by omega) : YE P σ (.slice T x ol oh none) ty w (str ((p.take h.toNat).drop l.toNat)) := ⟨fun w' hw ρ hρ => by
  have hlb : ∀ (k : IntKind), (Instr.sliceBound (.int k l) h.toNat .sliceB).run P w' = .ok l.toNat w' := fun k => by
    have h1 : 0 ≤ l ∧ l ≤ (h.toNat : Int) := by omega
    simp only [Instr.sliceBound, asIntOf, Sem.run_bind, Sem.run_pure, Result.andThen_ok, if_pos h1]
  have hhb : ∀ (k : IntKind), (Instr.sliceBound (.int k h) p.length .sliceAlen).run P w' = .ok h.toNat w' := fun k => by
    have h1 : 0 ≤ h ∧ h ≤ (p.length : Int) := by omega
    simp only [Instr.sliceBound, asIntOf, Sem.run_bind, Sem.run_pure, Result.andThen_ok, if_pos h1]
  have hbounds : (Instr.sliceBounds false p.length p.length (ol.map ρ) (oh.map ρ) none).run P w' = .ok (l.toNat, h.toNat, p.length) w' := by
    rcases hh with ⟨rfl, rfl⟩ | ⟨y, k, rfl, hy⟩ <;> rcases hl with ⟨rfl, rfl⟩ | ⟨y', k', rfl, hy'⟩
    · simp [Instr.sliceBounds]
    · have := hlb k'
      simp only [Int.toNat_natCast] at this
      simp [Instr.sliceBounds, hρ _ _ hy', this]
    · simp [Instr.sliceBounds, hρ _ _ hy, hhb k]
    · simp [Instr.sliceBounds, hρ _ _ hy, hρ _ _ hy', hhb k, hlb k']
  have hsize : (⟨p.toArray⟩ : ByteArray).size = p.length := List.size_toArray
  have hex : (⟨p.toArray⟩ : ByteArray).extract l.toNat h.toNat = ⟨((p.take h.toNat).drop l.toNat).toArray⟩ := by
    apply ByteArray.ext
    simp [ByteArray.data_extract, List.drop_take]
  simp [execOp, hρ _ _ hx, Instr.sliceAt, Instr.slice, run_underlying hT.und, hsize, hbounds, hex]⟩
theorem y_builda {n : Nat} {zs vs : List Value} [hT : TArr P T n e] [hs : TScal P e] [hz : TZero P T (.agg zs.toArray)] {parts : List (Nat × Operand)} {ps : List (Nat × Value)} (hx : evp σ parts = some ps) (hv : ps.map (·.2) = vs := by dsimp only [List.map]) (hi : num 0 vs = ps := by rfl) (hn : vs.length = n := by rfl) (hzl : zs.length = n := by rfl)
    (ho : AllOne vs := by repeat (first | exact trivial | refine ⟨by first | rfl | exact Go.Gw.SL.one (by assumption) | exact Go.Gw.Own.one (by assumption), ?_⟩)) : YE P σ (.build T parts.toArray) ty w (.agg vs.toArray) := ⟨fun w' hw ρ hρ => by
  have hsz : (P.info? e).map (·.size) = some 1 := hs.size
  have h1 : ∀ v ∈ vs, v.cells.size = 1 := fun v hv => by rw [cells_one (ho.all v hv)]; rfl
  have hf := fill_row (sz := 1) Nat.one_pos vs 0 zs h1 (by omega)
  rw [← num_eq, hi] at hf
  have hfl : (vs.flatMap fun v => v.cells.toList) = vs := by
    have : ∀ l : List Value, (∀ v ∈ l, v.oneCell' = true) → (l.flatMap fun v => v.cells.toList) = l := by
      intro l
      induction l with
      | nil => intro _; rfl
      | cons a r ih => intro h; rw [List.flatMap_cons, ih (fun v hv => h v (by simp [hv])), cells_one (h a (by simp))]; rfl
    exact this vs ho.all
  have hparts : parts.toArray.map (fun (i, x) => (i, ρ x)) = ps.toArray := by rw [List.map_toArray, ← evp_spec hρ hx]
  simp only [execOp, Instr.build, hparts, Sem.run_bind, run_zero w' (h := hz), Result.andThen_ok, Value.cells, run_underlying hT.und, run_size w' hsz]
  rw [hf, hfl]
  simp⟩
/-! conversions -/
theorem y_conv64 {s' d' : TypeId} [hs : TInt P s' k] [hd : TInt P d' .i64] (hx : ev σ x = some (.int k a)) (h : In64 a := by exact ⟨by omega, by omega⟩) : YE P σ (.convert s' d' x) ty w (.int .i64 a) := by
  have := y_conv_wrap (P := P) (w := w) (ty := ty) hx ⟨_, hs.und⟩ hd.und
  rwa [wrap_in h] at this
theorem y_conv8 {s' d' : TypeId} [hs : TInt P s' k] [hd : TInt P d' .u8] (hx : ev σ x = some (.int k a)) (h : 0 ≤ a ∧ a < 256 := by omega) : YE P σ (.convert s' d' x) ty w (.int .u8 (UInt8.ofNat a.toNat).toNat) := by
  have := y_conv_wrap (P := P) (w := w) (ty := ty) hx ⟨_, hs.und⟩ hd.und
  have e : IntKind.u8.wrap a = ((UInt8.ofNat a.toNat).toNat : Int) := by
    have : (UInt8.ofNat a.toNat).toNat = a.toNat := by rw [UInt8.toNat_ofNat']; omega
    rw [this]
    simp only [IntKind.wrap, show IntKind.u8.signed = false from rfl, show IntKind.u8.bits = 8 from rfl, Bool.false_eq_true, false_and, Bool.false_and, if_false]
    omega
  rwa [e] at this
theorem y_convs {s' d' : TypeId} [hs : TStg P s'] [hd : TStg P d'] (hx : ev σ x = some (str p)) : YE P σ (.convert s' d' x) ty w (str p) := ⟨fun w' _ ρ hρ => by
  simp [execOp, hρ _ _ hx, convert, run_underlying hs.und, run_underlying hd.und]⟩
theorem y_str8 {lo hi : Nat} {s' d' : TypeId} {l : List UInt8} [hs : TSli P s' e s b] [he : TInt P e .u8] [hd : TStg P d'] (hx : ev σ x = some v) (h : SL w lo hi v l := by repeat (first | assumption | exact Go.Gw.Own.sl (by assumption) | exact Go.Gw.Box.at (by assumption) | exact Go.Gw.SLL.el (by first | assumption | exact Go.Gw.OwnD.sll (by assumption)) _ (by omega) | exact Go.Gw.SLL.at (by first | assumption | exact Go.Gw.OwnD.sll (by assumption)) (by omega) | exact Go.Gw.OwnD.sll (by assumption) | (apply Go.Gw.SL.chg; case hx => assumption) | (apply Go.Gw.Own.chg; case hx => assumption) | (apply Go.Gw.Box.chg; case hx => assumption) | (apply Go.Gw.At.chg; case hx => assumption) | exact .inl (Nat.zero_le _) | exact .inr (Nat.zero_le _) | (show _ ∨ _; omega))) : YE P σ (.convert s' d' x) ty w (str l) := ⟨fun w' hw ρ hρ => by
  have h' := h.ext hw
  obtain ⟨a, cap, hv, h1, h2, h3⟩ := h'.form
  have key : (convert s' d' v).run P w' = .ok (str l) w' := by
    rcases Nat.eq_zero_or_pos l.length with h0 | h0
    · have hl : l = [] := List.eq_nil_of_length_eq_zero h0
      subst hl
      rw [hv]
      cases a with
      | none => exact run_convert_bytes_nil w' s' e hs.und he.und _ _ d' hd.und
      | some a => exact run_convert_bytes_back w' s' d' e a cap [] hs.und he.und hd.und (fun j hj => absurd hj (by simp))
    · rw [hv, h3 h0]
      refine run_convert_bytes_back w' s' d' e _ cap l hs.und he.und hd.und fun j hj => ?_
      rw [add_lit]
      have := (h'.el j l[j] (by simp [hj])).go 0 _ rfl
      simpa [Enc.sz] using this
  simp [execOp, hρ _ _ hx, key]⟩
theorem At.lt {w : World} {b o : Nat} {c : Value} {cs : List Value} (h : At w b o (c :: cs)) : b < w.heap.size := World.block_lt_of_cell? w _ (h.go 0 c rfl)
/-- a literal of one byte -/
theorem w_litb1 {c : UInt8} [hT : TSli P T e s b] (hx : ev σ x = some (.int .u8 (c.toNat : Int))) (hd : Nat.blt d N = true) (hs : s = 1)
    (k : ∀ v w', Own w' e w.heap.size v [c] → Ext w w' → bL v = w.heap.size → bH v = w.heap.size + 1 → w'.heap.size = w.heap.size + 1 → W P N ops Q rest ((d, v) :: σ) w') : W P N ops Q (⟨some d, .buildSlice T 1 #[(0, x)], ty, pos, af, none⟩ :: rest) σ w :=
  w_lit' (n := 1) (parts := [(0, x)]) (vs := [.int .u8 (c.toNat : Int)]) (xs := [c]) hs (by simp [evp, hx, num]) rfl rfl (fun v hv => by simp at hv; subst hv; rfl) rfl (by omega) (by omega) hd k
/-- a part of a slice -/
theorem w_slice {α : Type} {E : Enc α} {lo hi : Nat} {xs : List α} {l h : Int} {ol oh : Option Operand} [hT : TSli P T e s b] (hx : ev σ x = some v) (hl : (ol = none ∧ l = 0) ∨ ∃ y k, ol = some y ∧ ev σ y = some (.int k l)) (hh : (oh = none ∧ h = xs.length) ∨ ∃ y k, oh = some y ∧ ev σ y = some (.int k h))
    (hd : Nat.blt d N = true) (k : ∀ u, SL w lo hi u ((xs.take h.toNat).drop l.toNat) → W P N ops Q rest ((d, u) :: σ) w) (H : SL w lo hi v xs := by repeat (first | assumption | exact Go.Gw.Own.sl (by assumption) | exact Go.Gw.Box.at (by assumption) | exact Go.Gw.SLL.el (by first | assumption | exact Go.Gw.OwnD.sll (by assumption)) _ (by omega) | exact Go.Gw.SLL.at (by first | assumption | exact Go.Gw.OwnD.sll (by assumption)) (by omega) | exact Go.Gw.OwnD.sll (by assumption) | (apply Go.Gw.SL.chg; case hx => assumption) | (apply Go.Gw.Own.chg; case hx => assumption) | (apply Go.Gw.Box.chg; case hx => assumption) | (apply Go.Gw.At.chg; case hx => assumption) | exact .inl (Nat.zero_le _) | exact .inr (Nat.zero_le _) | (show _ ∨ _; omega))) (hs : s = Enc.sz α := by rfl) (hb : 0 ≤ l ∧ l ≤ h ∧ h ≤ xs.length := by omega) :
    W P N ops Q (⟨some d, .slice T x ol oh none, ty, pos, af, none⟩ :: rest) σ w := by
  obtain ⟨u, hy, hu⟩ := y_slice (P := P) (ty := ty) (T := T) hx hl hh H hs hb
  exact w_pure hy hd (k u hu)
theorem h_slice {α : Type} {E : Enc α} {lo hi : Nat} {xs : List α} {l h : Int} {ol oh : Option Operand} {i fuel n : Nat} {q : List (Nat × Oper)} {ls : List Bool} [hT : TSli P T e s b] (hi' : ops[i]? = some ⟨some d, .slice T x ol oh none, ty, pos, af, none⟩) (hx : ev σ x = some v) (hl : (ol = none ∧ l = 0) ∨ ∃ y k, ol = some y ∧ ev σ y = some (.int k l)) (hh : (oh = none ∧ h = xs.length) ∨ ∃ y k, oh = some y ∧ ev σ y = some (.int k h))
    (hd : Nat.blt d N = true) (k : ∀ u, SL w lo hi u ((xs.take h.toNat).drop l.toNat) → WH P N ops Q fuel q.length q (ls.set i true) ((d, u) :: σ) w) (H : SL w lo hi v xs := by repeat (first | assumption | exact Go.Gw.Own.sl (by assumption) | exact Go.Gw.Box.at (by assumption) | exact Go.Gw.SLL.el (by first | assumption | exact Go.Gw.OwnD.sll (by assumption)) _ (by omega) | exact Go.Gw.SLL.at (by first | assumption | exact Go.Gw.OwnD.sll (by assumption)) (by omega) | exact Go.Gw.OwnD.sll (by assumption) | (apply Go.Gw.SL.chg; case hx => assumption) | (apply Go.Gw.Own.chg; case hx => assumption) | (apply Go.Gw.Box.chg; case hx => assumption) | (apply Go.Gw.At.chg; case hx => assumption) | exact .inl (Nat.zero_le _) | exact .inr (Nat.zero_le _) | (show _ ∨ _; omega))) (hs : s = Enc.sz α := by rfl) (hb : 0 ≤ l ∧ l ≤ h ∧ h ≤ xs.length := by omega)
    (hm : mayTake ops (spoil ops) ls.toArray i = true := by decide +kernel) (hQ : ∀ c a u w, Q (.panic c) (a.put (some d) u) w → Q (.panic c) a w := by exact fun _ _ _ _ h => h) :
    WH P N ops Q (fuel + 1) n ((i, ⟨some d, .slice T x ol oh none, ty, pos, af, none⟩) :: q) ls σ w := by
  obtain ⟨u, hy, hu⟩ := y_slice (P := P) (ty := ty) (T := T) hx hl hh H hs hb
  exact h_pure hi' hy hd (k u hu) hm (fun c a w => hQ c a u w)
end
end Go.Gw
/- L10 -/
namespace Go.Gw
open Go
set_option linter.unusedVariables false
set_option linter.unusedSimpArgs false

/-- a new variable that waits on nothing: its number in the region, its slot, its cells -/
structure PA where
  i : Nat
  d : Nat
  cs : List Value
structure PA.ok (P : Program) (N : Nat) (ops : Array Oper) (p : PA) : Prop where
  run : ∃ T z ty pos, ops[p.i]? = some ⟨some p.d, .alloc T, ty, pos, #[], none⟩ ∧ (P.info? T).bind (·.zero) = some z ∧ z.cells = p.cs.toArray
  lt : Nat.blt p.d N = true
theorem PA.mk_ok {P : Program} {N : Nat} {ops : Array Oper} {i d : Nat} {cs : List Value} {T ty : TypeId} {z : Value} {pos : String} [hz : TZero P T z] (h : ops[i]? = some ⟨some d, .alloc T, ty, pos, #[], none⟩) (hc : z.cells = cs.toArray) (hd : Nat.blt d N = true) : PA.ok P N ops ⟨i, d, cs⟩ := ⟨⟨T, z, ty, pos, h, hz.zero, hc⟩, hd⟩
def Gaps (b : Nat) : List (Nat × Nat) → Prop
  | [] => True
  | g :: r => (b < g.1 ∨ g.2 ≤ b) ∧ Gaps b r
theorem Gaps.high {b : Nat} : ∀ {G : List (Nat × Nat)}, (∀ g ∈ G, g.2 ≤ b) → Gaps b G
  | [], _ => trivial
  | g :: r, h => ⟨.inr (h g (by simp)), Gaps.high fun g' hg' => h g' (by simp [hg'])⟩
structure PB (w : World) (b : Nat) (cs : List Value) (base : Nat) (G : List (Nat × Nat)) : Prop where
  box : Box w b cs
  low : base ≤ b
  gaps : Gaps b G
section
variable {P : Program} {N : Nat} {Q : Post} {σ : Fm} {w : World} {ops : Array Oper} {op : Op} {ty : TypeId} {pos : String} {af : Array Edge} {d : Nat} {v : Value} {base : Nat} {G : List (Nat × Nat)}
theorem PB.ext {w' : World} {b : Nat} {cs : List Value} (h : PB w b cs base G) (hx : Ext w w') : PB w' b cs base G := ⟨h.box.ext hx, h.low, h.gaps⟩
theorem PB.gap {b l k : Nat} {cs : List Value} (h : PB w b cs base G) (hl : w.heap.size ≤ l) : PB w b cs base ((l, k) :: G) := ⟨h.box, h.low, .inl (Nat.lt_of_lt_of_le h.box.lt hl), h.gaps⟩
theorem Fr.swap {a : Act} {x y : Nat × Value} (hne : x.1 ≠ y.1) (h : Fr N (x :: y :: σ) a) : Fr N (y :: x :: σ) a := ⟨h.defers, h.size, fun t u hu => h.val t u (by
  obtain ⟨x1, x2⟩ := x
  obtain ⟨y1, y2⟩ := y
  rw [look_cons, look_cons] at hu ⊢
  simp only at hne
  split at hu
  · rename_i e; subst e; rw [if_neg hne]; rw [if_pos rfl]; exact hu
  · rename_i e; split at hu
    · rename_i e2; rw [if_pos e2]; exact hu
    · rename_i e2; rw [if_neg e2, if_neg e]; exact hu)⟩
theorem Fr.swap2 {a : Act} {x y z : Nat × Value} (h1 : x.1 ≠ z.1) (h2 : y.1 ≠ z.1) (h : Fr N (z :: x :: y :: σ) a) : Fr N (x :: y :: z :: σ) a := ⟨h.defers, h.size, fun t u hu => h.val t u (by
  obtain ⟨x1, x2⟩ := x
  obtain ⟨y1, y2⟩ := y
  obtain ⟨z1, z2⟩ := z
  simp only at h1 h2
  rw [look_cons, look_cons, look_cons] at hu ⊢
  by_cases a : x1 = t
  · subst a; rw [if_pos rfl] at hu; rw [if_neg (Ne.symm h1), if_pos rfl]; exact hu
  · rw [if_neg a] at hu
    by_cases b : y1 = t
    · subst b; rw [if_pos rfl] at hu; rw [if_neg (Ne.symm h2), if_neg a, if_pos rfl]; exact hu
    · rw [if_neg b] at hu
      by_cases c : z1 = t
      · rw [if_pos c] at hu ⊢; exact hu
      · rw [if_neg c] at hu ⊢; rw [if_neg a, if_neg b]; exact hu)⟩
theorem Fr.tail {a : Act} {t : Nat} {u : Value} (hn : look σ t = none) (h : Fr N ((t, u) :: σ) a) : Fr N σ a := ⟨h.defers, h.size, fun k x hx => h.val k x (by
  rw [look_cons]
  have : t ≠ k := by rintro rfl; rw [hn] at hx; cases hx
  rw [if_neg this]; exact hx)⟩

/-- the state of a run of the region -/
def AA (P : Program) (ops : Array Oper) (Q : Post) (f : Nat) (l : List Bool) (a : Act) (w : World) : Prop := wpAnyS P ops Q (SS (spoil ops) l.toArray w) f l.toArray a w
def NX (P : Program) (ops : Array Oper) (Q : Post) (f k : Nat) (l : List Bool) (a : Act) (w : World) : Prop := wpOp P ops Q k (fun a' w' => SS (spoil ops) l.toArray w (l.set k true).toArray w' ∧ wpAnyS P ops Q (SS (spoil ops) l.toArray w) f (l.set k true).toArray a' w') a w
theorem AA.later {f k : Nat} {l : List Bool} {a : Act} {w w' : World} (hs : spoil ops k = false) (hx : Ext w w') (h : AA P ops Q f (l.set k true) a w') : SS (spoil ops) l.toArray w (l.set k true).toArray w' ∧ wpAnyS P ops Q (SS (spoil ops) l.toArray w) f (l.set k true).toArray a w' :=
  ⟨fun _ => hx, by
    refine wpAnyS_mono (L := #[]) (fun l' w'' _ hk hp => hx.trans (hk fun k' hsk hlk => ?_)) _ _ _ _ (fun k hk => by simp at hk) h
    have := hp k' hsk hlk
    rw [← set_arr]
    exact getD_set_true this⟩
theorem aa_step {f : Nat} {l : List Bool} {a : Act} (hne : Region.ready .any ops l.toArray ≠ []) (h : ∀ k ∈ Region.ready .any ops l.toArray, NX P ops Q f k l a w) : AA P ops Q (f + 1) l a w :=
  ⟨fun h0 => absurd h0 hne, fun k hk => by rw [set_arr]; exact h k hk⟩
theorem nx_alloc {f : Nat} {l : List Bool} {a : Act} {p : PA} (hp : PA.ok P N ops p) (h : ∀ w', Ext w w' → w.heap.size ≤ w'.heap.size → Box w' w.heap.size p.cs → AA P ops Q f (l.set p.i true) (a.put (some p.d) (ptr w.heap.size 0)) w') : NX P ops Q f p.i l a w := by
  obtain ⟨T, z, ty, pos, hi, hz, hc⟩ := hp.run
  have hz' : TZero P T z := ⟨hz⟩
  have hs : spoil ops p.i = false := by simp [spoil, hi, spoilOp]
  refine wpOp_of_list hi (wpList_plain rfl fun K hK => ?_)
  unfold Oper.wp
  have : (execOp a.eval ⟨some p.d, .alloc T, ty, pos, #[], none⟩).run P w = .ok (.value (ptr w.heap.size 0)) (w.alloc (.cells z.cells T)) := by
    simp [execOp, Instr.alloc, run_zero w (z := z), newVar, newRow]
  rw [this, hc]
  refine hK _ _ ?_
  unfold wpList
  exact AA.later hs (Chg.alloc w _) (h _ (Chg.alloc w _) (by simp) (box_new w p.cs.toArray T))
theorem nx_call {fo : Operand} {f : FuncId} {first cap : List Value} {xs : List Operand} {vs all : List Value} {ats : Array TypeId} [hc : Callable P f] {f0 k dk : Nat} {l : List Bool} {a : Act}
    (hi : ops[k]? = some ⟨some dk, .call { callee := .value fo, args := xs.toArray, argTypes := ats }, ty, pos, af, none⟩) (ha : Fr N σ a)
    (hf : ev σ fo = some (.func (.func f) first.toArray cap.toArray)) (hx : evs σ xs = some vs) (hall : first ++ vs ++ cap = all) (hs : spoil ops k = false)
    (h : Ret P f all w fun v w' => Ext w w' ∧ AA P ops Q f0 (l.set k true) (a.put (some dk) v) w') : NX P ops Q f0 k l a w := by
  refine wpOp_of_list hi (wpList_plain rfl fun K hK => ?_)
  unfold Oper.wp
  rw [execOp_eq, exec_call ha hf hx hall]
  rw [Oper.upon_enter]
  refine Calls.mono h.go ?_
  rintro e w' ⟨v, rfl, hxt, hr⟩
  refine hK _ _ ?_
  unfold wpList
  exact AA.later hs hxt hr

/-- no gap reaches beyond the world -/
def GD (w : World) (base : Nat) (G : List (Nat × Nat)) : Prop := (∀ g ∈ G, g.2 ≤ w.heap.size) ∧ base ≤ w.heap.size
theorem GD.call {w1 w' : World} (h : GD w base G) (hx : Ext w w1) (hx' : Ext w1 w') : GD w' base ((w1.heap.size, w'.heap.size) :: G) :=
  ⟨fun g hg => by
    rcases List.mem_cons.1 hg with rfl | hg
    · exact Nat.le_refl _
    · exact Nat.le_trans (h.1 g hg) (Nat.le_trans hx.size hx'.size), Nat.le_trans h.2 (Nat.le_trans hx.size hx'.size)⟩
def dropN (l : List Nat) : List (Nat × Oper) → List (Nat × Oper)
  | [] => []
  | (i, o) :: q => match l.any (Nat.beq i) with
    | true => dropN l q
    | false => (i, o) :: dropN l q

theorem mem_of_all {l m : List Nat} (h : (l.all fun x => m.contains x) = true) {x : Nat} (hx : x ∈ l) : x ∈ m := by
  have := List.all_eq_true.1 h x hx
  simpa using this
def onlyB (ops : Array Oper) (ls : List Bool) (m : List Nat) : Bool := !(Region.ready .any ops ls.toArray).isEmpty && (Region.ready .any ops ls.toArray).all fun x => m.contains x
theorem onlyB_ne {ls : List Bool} {m : List Nat} (h : onlyB ops ls m = true) : Region.ready .any ops ls.toArray ≠ [] := by
  simp only [onlyB, Bool.and_eq_true, Bool.not_eq_true', List.isEmpty_eq_false_iff] at h; exact h.1
theorem onlyB_mem {ls : List Bool} {m : List Nat} (h : onlyB ops ls m = true) {x : Nat} (hx : x ∈ Region.ready .any ops ls.toArray) : x ∈ m := by
  simp only [onlyB, Bool.and_eq_true] at h; exact mem_of_all h.2 hx
/-- one of two may come up, wherever the other stands -/
theorem h_twoX {i j fuel n : Nat} {o o' : Oper} {q : List (Nat × Oper)} {ls : List Bool} (hi : ops[i]? = some o) (hj : ops[j]? = some o')
    (k : W P N ops (Exit.then (HK P N ops Q fuel i q ls w) Q) [o] σ w) (k' : W P N ops (Exit.then (HK P N ops Q fuel j (dropN [j] ((i, o) :: q)) ls w) Q) [o'] σ w)
    (hr : onlyB ops ls [i, j] = true := by decide +kernel) : WH P N ops Q (fuel + 1) n ((i, o) :: q) ls σ w :=
  ⟨fun a ha => ⟨fun h0 => absurd h0 (onlyB_ne hr), fun i' hi' => by
    rcases (by simpa using onlyB_mem hr hi' : i' = i ∨ i' = j) with rfl | rfl
    · rw [set_arr]; exact wpOp_of_list hi (k.go a ha)
    · rw [set_arr]; exact wpOp_of_list hj (k'.go a ha)⟩⟩
/-- what a call brings -/
structure MC (P : Program) (f : FuncId) (all : List Value) (w1 : World) (K : Value → World → Prop) : Prop where
  go : Ret P f all w1 fun v w' => Ext w1 w' ∧ K v w'
theorem mc_ret {f : FuncId} {all : List Value} {K R : Value → World → Prop} (h : Ret P f all w R) (k : ∀ v w', R v w' → Ext w w' ∧ K v w') : MC P f all w K := ⟨h.mono k⟩
theorem mc_val {f : FuncId} {all : List Value} {K : Value → World → Prop} (h : Val P f all w v) (k : ∀ w', Ext w w' → w.heap.size ≤ w'.heap.size → K v w') : MC P f all w K := ⟨h.ret.mono fun u w' ⟨e, hx⟩ => by subst e; exact ⟨hx, k w' hx hx.size⟩⟩
theorem mc_pur {f : FuncId} {all : List Value} {K : Value → World → Prop} (h : Pur P f all v) (k : K v w) : MC P f all w K := ⟨(h.go w).mono fun u w' ⟨e, hx⟩ => by subst e; subst hx; exact ⟨Chg.refl _ _ _, k⟩⟩

/-! ### 1 of them -/
structure WI1 (P : Program) (N : Nat) (ops : Array Oper) (Q : Post) (p0 : PA) (base : Nat) (G : List (Nat × Nat)) (f0 : Nat) (ls : List Bool) (σ : Fm) (w : World) : Prop where
  st_ : ∀ w1, Ext w w1 → ∀ a, Fr N (σ) a → AA P ops Q (f0 + 1) ls a w1
  st0 : ∀ w1, Ext w w1 → ∀ b0, PB w1 b0 p0.cs base G → ∀ a, Fr N ((p0.d, ptr b0 0) :: σ) a → AA P ops Q (f0 + 0) (ls.set p0.i true) a w1
structure WM1 (P : Program) (N : Nat) (ops : Array Oper) (Q : Post) (p0 : PA) (base : Nat) (G : List (Nat × Nat)) (f0 n : Nat) (q : List (Nat × Oper)) (ls : List Bool) (σ : Fm) (w : World) : Prop where
  go : GD w base G → WI1 P N ops Q p0 base G f0 ls σ w
theorem h_maybe1 {f0 n : Nat} {q : List (Nat × Oper)} {ls : List Bool} {p0 : PA} (ok0 : PA.ok P N ops p0) (k : WM1 P N ops Q p0 w.heap.size [] f0 (dropN [p0.i] q).length (dropN [p0.i] q) ls σ w) : WH P N ops Q (f0 + 1) n q ls σ w := ⟨fun a ha => (k.go ⟨fun g hg => (by cases hg), Nat.le_refl _⟩).st_ w (Chg.refl _ _ _) a ha⟩
theorem m1_turn {p0 : PA} {f0 n i : Nat} {o : Oper} {q : List (Nat × Oper)} {ls : List Bool} (k : WM1 P N ops Q p0 base G f0 n (q ++ [(i, o)]) ls σ w) : WM1 P N ops Q p0 base G f0 (n + 1) ((i, o) :: q) ls σ w := ⟨k.go⟩
theorem m1_pure {p0 : PA} {i f0 n : Nat} {q : List (Nat × Oper)} {ls : List Bool} (hi : ops[i]? = some ⟨some d, op, ty, pos, af, none⟩) (h : YE P σ op ty w v) (hd : Nat.blt d N = true)
    (k : WM1 P N ops Q p0 base G f0 q.length q (ls.set i true) ((d, v) :: σ) w)
    (hm : (mayTake ops (spoil ops) ls.toArray i && mayTake ops (spoil ops) (ls.set p0.i true).toArray i) = true := by decide +kernel) (hn : ((look σ p0.d).isNone) = true := by rfl) (hn' : (!Nat.beq p0.d d) = true := by rfl) (hne : (!Nat.beq p0.i i) = true := by rfl) (hQ : ∀ c a w, Q (.panic c) (a.put (some d) v) w → Q (.panic c) a w := by exact fun _ _ _ h => h) :
    WM1 P N ops Q p0 base G (f0 + 1) n ((i, ⟨some d, op, ty, pos, af, none⟩) :: q) ls σ w := by
  simp only [Bool.and_eq_true, Bool.not_eq_true', Option.isNone_iff_eq_none] at hm hn hn' hne
  have bq : ∀ {x y : Nat}, Nat.beq x y = false → x ≠ y := fun h e => by subst e; rw [Nat.beq_refl] at h; cases h
  obtain ⟨mst_, mst0⟩ := hm
  have e0 := hn
  have g0 := hn'
  have y0 := hne
  refine ⟨fun gd => ?_⟩
  have k := k.go gd
  refine ⟨?_, ?_⟩
  · intro w1 hx   a ha
    have hf : Fr N σ a := ha
    show AA P ops Q (f0 + 1 + 1) _ a w1
    rw [show f0 + 1 + 1 = (f0 + 1) + 1 by omega]
    refine take_S (fun _ => spoil_lt) hi mst_ hQ (.inl ⟨by simp [Region.wanted], fun w' hw' => ?_⟩) ?_
    · rw [execOp_eq]; exact h.go w' (hx.trans hw') _ fun x v hx => hf.eval hx
    · rw [set_arr]
      exact k.st_ w1 hx   _ (ha.put hd v)
  · intro w1 hx b0 pb0  a ha
    have hf : Fr N σ a := (Fr.tail e0 ha)
    show AA P ops Q (f0 + 1 + 0) _ a w1
    rw [show f0 + 1 + 0 = (f0 + 0) + 1 by omega]
    have hc : (ls.set p0.i true).set i true = (ls.set i true).set p0.i true := by
      rw [List.set_comm _ _ (bq y0)]
    refine take_S (fun _ => spoil_lt) hi mst0 hQ (.inl ⟨by simp [Region.wanted], fun w' hw' => ?_⟩) ?_
    · rw [execOp_eq]; exact h.go w' (hx.trans hw') _ fun x v hx => hf.eval hx
    · rw [set_arr, hc]
      exact k.st0 w1 hx b0 pb0  _ (Fr.swap (bq g0).symm (ha.put hd v))
theorem m1_any {p0 : PA} {i f0 n : Nat} {q : List (Nat × Oper)} {ls : List Bool} (hi : ops[i]? = some ⟨some d, op, ty, pos, af, none⟩) (h : ∀ w, YE P σ op ty w v) (hd : Nat.blt d N = true)
    (k : WM1 P N ops Q p0 base G f0 q.length q (ls.set i true) ((d, v) :: σ) w)
    (hm : (mayTakeA ops (spoil ops) ls.toArray i && mayTakeA ops (spoil ops) (ls.set p0.i true).toArray i) = true := by decide +kernel) (hn : ((look σ p0.d).isNone) = true := by rfl) (hn' : (!Nat.beq p0.d d) = true := by rfl) (hne : (!Nat.beq p0.i i) = true := by rfl) (hQ : ∀ c a w, Q (.panic c) (a.put (some d) v) w → Q (.panic c) a w := by exact fun _ _ _ h => h) :
    WM1 P N ops Q p0 base G (f0 + 1) n ((i, ⟨some d, op, ty, pos, af, none⟩) :: q) ls σ w := by
  simp only [Bool.and_eq_true, Bool.not_eq_true', Option.isNone_iff_eq_none] at hm hn hn' hne
  have bq : ∀ {x y : Nat}, Nat.beq x y = false → x ≠ y := fun h e => by subst e; rw [Nat.beq_refl] at h; cases h
  obtain ⟨mst_, mst0⟩ := hm
  have e0 := hn
  have g0 := hn'
  have y0 := hne
  refine ⟨fun gd => ?_⟩
  have k := k.go gd
  refine ⟨?_, ?_⟩
  · intro w1 hx   a ha
    have hf : Fr N σ a := ha
    show AA P ops Q (f0 + 1 + 1) _ a w1
    rw [show f0 + 1 + 1 = (f0 + 1) + 1 by omega]
    refine take_A hi mst_ hQ (.inl ⟨by simp [Region.wanted], fun w' _ => ?_⟩) ?_
    · rw [execOp_eq]; exact (h w').go w' (Chg.refl _ _ _) _ fun x v hx => hf.eval hx
    · rw [set_arr]
      exact k.st_ w1 hx   _ (ha.put hd v)
  · intro w1 hx b0 pb0  a ha
    have hf : Fr N σ a := (Fr.tail e0 ha)
    show AA P ops Q (f0 + 1 + 0) _ a w1
    rw [show f0 + 1 + 0 = (f0 + 0) + 1 by omega]
    have hc : (ls.set p0.i true).set i true = (ls.set i true).set p0.i true := by
      rw [List.set_comm _ _ (bq y0)]
    refine take_A hi mst0 hQ (.inl ⟨by simp [Region.wanted], fun w' _ => ?_⟩) ?_
    · rw [execOp_eq]; exact (h w').go w' (Chg.refl _ _ _) _ fun x v hx => hf.eval hx
    · rw [set_arr, hc]
      exact k.st0 w1 hx b0 pb0  _ (Fr.swap (bq g0).symm (ha.put hd v))
theorem m1_call {p0 : PA} {fo : Operand} {f : FuncId} {first cap : List Value} {xs : List Operand} {vs all : List Value} {ats : Array TypeId} [hc : Callable P f] {i f0 n : Nat} {q : List (Nat × Oper)} {ls : List Bool} (ok0 : PA.ok P N ops p0)
    (hi : ops[i]? = some ⟨some d, .call { callee := .value fo, args := xs.toArray, argTypes := ats }, ty, pos, af, none⟩) (hf : ev σ fo = some (.func (.func f) first.toArray cap.toArray)) (hx : evs σ xs = some vs) (hall : first ++ vs ++ cap = all) (hd : Nat.blt d N = true)
    (k : ∀ w1, Ext w w1 → MC P f all w1 fun v w' => WM1 P N ops Q p0 base ((w1.heap.size, w'.heap.size) :: G) f0 q.length q (ls.set i true) ((d, v) :: σ) w')
    (hr : (onlyB ops ls [i, p0.i] && onlyB ops (ls.set p0.i true) [i]) = true := by decide +kernel) (hs : spoil ops i = false := by decide +kernel) (hn : ((look σ p0.d).isNone) = true := by rfl) (hn' : (!Nat.beq p0.d d) = true := by rfl) (hne : (!Nat.beq p0.i i) = true := by rfl) :
    WM1 P N ops Q p0 base G (f0 + 1) n ((i, ⟨some d, .call { callee := .value fo, args := xs.toArray, argTypes := ats }, ty, pos, af, none⟩) :: q) ls σ w := by
  simp only [Bool.and_eq_true, Bool.not_eq_true', Option.isNone_iff_eq_none] at hr hn hn' hne
  have bq : ∀ {x y : Nat}, Nat.beq x y = false → x ≠ y := fun h e => by subst e; rw [Nat.beq_refl] at h; cases h
  refine ⟨fun gd => ?_⟩
  have hgb : ∀ w1, Ext w w1 → Gaps w1.heap.size G := fun w1 h1 => Gaps.high fun g h => Nat.le_trans (gd.1 g h) h1.size
  have hb := gd.2
  obtain ⟨mst_, mst0⟩ := hr
  have e0 := hn
  have g0 := hn'
  have y0 := hne
  have hst0 : ∀ w1, Ext w w1 → ∀ b0, PB w1 b0 p0.cs base G → ∀ a, Fr N ((p0.d, ptr b0 0) :: σ) a → AA P ops Q (f0 + 1 + 0) (ls.set p0.i true) a w1 := by
    intro w1 hx1 b0 pb0  a ha
    have hfa : Fr N σ a := (Fr.tail e0 ha)
    rw [show f0 + 1 + 0 = (f0 + 0) + 1 by omega]
    have hcm : (ls.set p0.i true).set i true = (ls.set i true).set p0.i true := by
      rw [List.set_comm _ _ (bq y0)]
    refine aa_step (onlyB_ne mst0) fun j hj => ?_
    rcases (by simpa using onlyB_mem mst0 hj : j = i) with rfl
    · refine nx_call hi hfa hf hx hall hs ((k w1 hx1).go.mono fun v w' ⟨h1, h2⟩ => ⟨h1, ?_⟩)
      rw [hcm]; exact (h2.go (gd.call hx1 h1)).st0 w' (Chg.refl _ _ _) b0 ((pb0.gap (Nat.le_refl _)).ext h1)  _ (Fr.swap (bq g0).symm (ha.put hd v))
  have hst_ : ∀ w1, Ext w w1 → ∀ a, Fr N (σ) a → AA P ops Q (f0 + 1 + 1) ls a w1 := by
    intro w1 hx1   a ha
    have hfa : Fr N σ a := ha
    rw [show f0 + 1 + 1 = (f0 + 1) + 1 by omega]
    refine aa_step (onlyB_ne mst_) fun j hj => ?_
    rcases (by simpa using onlyB_mem mst_ hj : j = i ∨ j = p0.i) with rfl | rfl
    · refine nx_call hi hfa hf hx hall hs ((k w1 hx1).go.mono fun v w' ⟨h1, h2⟩ => ⟨h1, ?_⟩)
      exact (h2.go (gd.call hx1 h1)).st_ w' (Chg.refl _ _ _)   _ (ha.put hd v)
    · refine nx_alloc ok0 fun w' h1 h1s h1b => ?_
      rw [show f0 + 1 = f0 + 1 + 0 by omega]
      exact hst0 w' (hx1.trans h1) w1.heap.size ⟨h1b, Nat.le_trans hb hx1.size, hgb w1 hx1⟩  _ (ha.put ok0.lt _)
  exact ⟨hst_, hst0⟩
theorem m1_end {p0 : PA} {f0 n : Nat} {q : List (Nat × Oper)} {ls : List Bool} (ok0 : PA.ok P N ops p0)
    (k : ∀ w1, Ext w w1 → w.heap.size ≤ w1.heap.size → ∀ b0, Box w1 b0 p0.cs → base ≤ b0 → Gaps b0 G →  WH P N ops Q f0 q.length q (ls.set p0.i true) ((p0.d, ptr b0 0) :: σ) w1)
    (hr : (onlyB ops ls [p0.i]) = true := by decide +kernel) (hn : ((look σ p0.d).isNone) = true := by rfl) : WM1 P N ops Q p0 base G f0 n q ls σ w := by
  simp only [Bool.and_eq_true, Bool.not_eq_true', Option.isNone_iff_eq_none] at hr hn
  have bq : ∀ {x y : Nat}, Nat.beq x y = false → x ≠ y := fun h e => by subst e; rw [Nat.beq_refl] at h; cases h
  refine ⟨fun gd => ?_⟩
  have hgb : ∀ w1, Ext w w1 → Gaps w1.heap.size G := fun w1 h1 => Gaps.high fun g h => Nat.le_trans (gd.1 g h) h1.size
  have hb := gd.2
  have mst_ := hr
  have e0 := hn
  have hst0 : ∀ w1, Ext w w1 → ∀ b0, PB w1 b0 p0.cs base G → ∀ a, Fr N ((p0.d, ptr b0 0) :: σ) a → AA P ops Q (f0 + 0) (ls.set p0.i true) a w1 := by
    intro w1 hx1 b0 pb0  a ha
    exact (k w1 hx1 hx1.size b0 pb0.box pb0.low pb0.gaps ).go a ha
  have hst_ : ∀ w1, Ext w w1 → ∀ a, Fr N (σ) a → AA P ops Q (f0 + 1) ls a w1 := by
    intro w1 hx1   a ha
    refine aa_step (onlyB_ne mst_) fun j hj => ?_
    rcases (by simpa using onlyB_mem mst_ hj : j = p0.i) with rfl
    · refine nx_alloc ok0 fun w' h1 h1s h1b => ?_
      exact hst0 w' (hx1.trans h1) w1.heap.size ⟨h1b, Nat.le_trans hb hx1.size, hgb w1 hx1⟩  _ (ha.put ok0.lt _)
  exact ⟨hst_, hst0⟩

/-! ### 2 of them -/
structure WI2 (P : Program) (N : Nat) (ops : Array Oper) (Q : Post) (p0 p1 : PA) (base : Nat) (G : List (Nat × Nat)) (f0 : Nat) (ls : List Bool) (σ : Fm) (w : World) : Prop where
  st_ : ∀ w1, Ext w w1 → ∀ a, Fr N (σ) a → AA P ops Q (f0 + 2) ls a w1
  st0 : ∀ w1, Ext w w1 → ∀ b0, PB w1 b0 p0.cs base G → ∀ a, Fr N ((p0.d, ptr b0 0) :: σ) a → AA P ops Q (f0 + 1) (ls.set p0.i true) a w1
  st1 : ∀ w1, Ext w w1 → ∀ b1, PB w1 b1 p1.cs base G → ∀ a, Fr N ((p1.d, ptr b1 0) :: σ) a → AA P ops Q (f0 + 1) (ls.set p1.i true) a w1
  st01 : ∀ w1, Ext w w1 → ∀ b0, PB w1 b0 p0.cs base G → ∀ b1, PB w1 b1 p1.cs base G → b0 ≠ b1 → ∀ a, Fr N ((p1.d, ptr b1 0) :: (p0.d, ptr b0 0) :: σ) a → AA P ops Q (f0 + 0) ((ls.set p0.i true).set p1.i true) a w1
structure WM2 (P : Program) (N : Nat) (ops : Array Oper) (Q : Post) (p0 p1 : PA) (base : Nat) (G : List (Nat × Nat)) (f0 n : Nat) (q : List (Nat × Oper)) (ls : List Bool) (σ : Fm) (w : World) : Prop where
  go : GD w base G → WI2 P N ops Q p0 p1 base G f0 ls σ w
theorem h_maybe2 {f0 n : Nat} {q : List (Nat × Oper)} {ls : List Bool} {p0 p1 : PA} (ok0 : PA.ok P N ops p0) (ok1 : PA.ok P N ops p1) (k : WM2 P N ops Q p0 p1 w.heap.size [] f0 (dropN [p0.i, p1.i] q).length (dropN [p0.i, p1.i] q) ls σ w) : WH P N ops Q (f0 + 2) n q ls σ w := ⟨fun a ha => (k.go ⟨fun g hg => (by cases hg), Nat.le_refl _⟩).st_ w (Chg.refl _ _ _) a ha⟩
theorem m2_turn {p0 p1 : PA} {f0 n i : Nat} {o : Oper} {q : List (Nat × Oper)} {ls : List Bool} (k : WM2 P N ops Q p0 p1 base G f0 n (q ++ [(i, o)]) ls σ w) : WM2 P N ops Q p0 p1 base G f0 (n + 1) ((i, o) :: q) ls σ w := ⟨k.go⟩
theorem m2_pure {p0 p1 : PA} {i f0 n : Nat} {q : List (Nat × Oper)} {ls : List Bool} (hi : ops[i]? = some ⟨some d, op, ty, pos, af, none⟩) (h : YE P σ op ty w v) (hd : Nat.blt d N = true)
    (k : WM2 P N ops Q p0 p1 base G f0 q.length q (ls.set i true) ((d, v) :: σ) w)
    (hm : (mayTake ops (spoil ops) ls.toArray i && mayTake ops (spoil ops) (ls.set p0.i true).toArray i && mayTake ops (spoil ops) (ls.set p1.i true).toArray i && mayTake ops (spoil ops) ((ls.set p0.i true).set p1.i true).toArray i) = true := by decide +kernel) (hn : ((look σ p0.d).isNone && (look σ p1.d).isNone && !Nat.beq p0.d p1.d) = true := by rfl) (hn' : (!Nat.beq p0.d d && !Nat.beq p1.d d) = true := by rfl) (hne : (!Nat.beq p0.i i && !Nat.beq p1.i i && !Nat.beq p0.i p1.i) = true := by rfl) (hQ : ∀ c a w, Q (.panic c) (a.put (some d) v) w → Q (.panic c) a w := by exact fun _ _ _ h => h) :
    WM2 P N ops Q p0 p1 base G (f0 + 1) n ((i, ⟨some d, op, ty, pos, af, none⟩) :: q) ls σ w := by
  simp only [Bool.and_eq_true, Bool.not_eq_true', Option.isNone_iff_eq_none] at hm hn hn' hne
  have bq : ∀ {x y : Nat}, Nat.beq x y = false → x ≠ y := fun h e => by subst e; rw [Nat.beq_refl] at h; cases h
  obtain ⟨⟨⟨mst_, mst0⟩, mst1⟩, mst01⟩ := hm
  obtain ⟨⟨e0, e1⟩, x01⟩ := hn
  obtain ⟨g0, g1⟩ := hn'
  obtain ⟨⟨y0, y1⟩, z01⟩ := hne
  refine ⟨fun gd => ?_⟩
  have k := k.go gd
  refine ⟨?_, ?_, ?_, ?_⟩
  · intro w1 hx   a ha
    have hf : Fr N σ a := ha
    show AA P ops Q (f0 + 1 + 2) _ a w1
    rw [show f0 + 1 + 2 = (f0 + 2) + 1 by omega]
    refine take_S (fun _ => spoil_lt) hi mst_ hQ (.inl ⟨by simp [Region.wanted], fun w' hw' => ?_⟩) ?_
    · rw [execOp_eq]; exact h.go w' (hx.trans hw') _ fun x v hx => hf.eval hx
    · rw [set_arr]
      exact k.st_ w1 hx   _ (ha.put hd v)
  · intro w1 hx b0 pb0  a ha
    have hf : Fr N σ a := (Fr.tail e0 ha)
    show AA P ops Q (f0 + 1 + 1) _ a w1
    rw [show f0 + 1 + 1 = (f0 + 1) + 1 by omega]
    have hc : (ls.set p0.i true).set i true = (ls.set i true).set p0.i true := by
      rw [List.set_comm _ _ (bq y0)]
    refine take_S (fun _ => spoil_lt) hi mst0 hQ (.inl ⟨by simp [Region.wanted], fun w' hw' => ?_⟩) ?_
    · rw [execOp_eq]; exact h.go w' (hx.trans hw') _ fun x v hx => hf.eval hx
    · rw [set_arr, hc]
      exact k.st0 w1 hx b0 pb0  _ (Fr.swap (bq g0).symm (ha.put hd v))
  · intro w1 hx b1 pb1  a ha
    have hf : Fr N σ a := (Fr.tail e1 ha)
    show AA P ops Q (f0 + 1 + 1) _ a w1
    rw [show f0 + 1 + 1 = (f0 + 1) + 1 by omega]
    have hc : (ls.set p1.i true).set i true = (ls.set i true).set p1.i true := by
      rw [List.set_comm _ _ (bq y1)]
    refine take_S (fun _ => spoil_lt) hi mst1 hQ (.inl ⟨by simp [Region.wanted], fun w' hw' => ?_⟩) ?_
    · rw [execOp_eq]; exact h.go w' (hx.trans hw') _ fun x v hx => hf.eval hx
    · rw [set_arr, hc]
      exact k.st1 w1 hx b1 pb1  _ (Fr.swap (bq g1).symm (ha.put hd v))
  · intro w1 hx b0 pb0 b1 pb1 n01 a ha
    have hf : Fr N σ a := (Fr.tail e0 (Fr.tail (by simp only [look_cons]; rw [if_neg (bq x01)]; exact e1) ha))
    show AA P ops Q (f0 + 1 + 0) _ a w1
    rw [show f0 + 1 + 0 = (f0 + 0) + 1 by omega]
    have hc : ((ls.set p0.i true).set p1.i true).set i true = ((ls.set i true).set p0.i true).set p1.i true := by
      rw [List.set_comm _ _ (bq y1), List.set_comm _ _ (bq y0)]
    refine take_S (fun _ => spoil_lt) hi mst01 hQ (.inl ⟨by simp [Region.wanted], fun w' hw' => ?_⟩) ?_
    · rw [execOp_eq]; exact h.go w' (hx.trans hw') _ fun x v hx => hf.eval hx
    · rw [set_arr, hc]
      exact k.st01 w1 hx b0 pb0 b1 pb1 n01 _ (Fr.swap2 (bq g1) (bq g0) (ha.put hd v))
theorem m2_any {p0 p1 : PA} {i f0 n : Nat} {q : List (Nat × Oper)} {ls : List Bool} (hi : ops[i]? = some ⟨some d, op, ty, pos, af, none⟩) (h : ∀ w, YE P σ op ty w v) (hd : Nat.blt d N = true)
    (k : WM2 P N ops Q p0 p1 base G f0 q.length q (ls.set i true) ((d, v) :: σ) w)
    (hm : (mayTakeA ops (spoil ops) ls.toArray i && mayTakeA ops (spoil ops) (ls.set p0.i true).toArray i && mayTakeA ops (spoil ops) (ls.set p1.i true).toArray i && mayTakeA ops (spoil ops) ((ls.set p0.i true).set p1.i true).toArray i) = true := by decide +kernel) (hn : ((look σ p0.d).isNone && (look σ p1.d).isNone && !Nat.beq p0.d p1.d) = true := by rfl) (hn' : (!Nat.beq p0.d d && !Nat.beq p1.d d) = true := by rfl) (hne : (!Nat.beq p0.i i && !Nat.beq p1.i i && !Nat.beq p0.i p1.i) = true := by rfl) (hQ : ∀ c a w, Q (.panic c) (a.put (some d) v) w → Q (.panic c) a w := by exact fun _ _ _ h => h) :
    WM2 P N ops Q p0 p1 base G (f0 + 1) n ((i, ⟨some d, op, ty, pos, af, none⟩) :: q) ls σ w := by
  simp only [Bool.and_eq_true, Bool.not_eq_true', Option.isNone_iff_eq_none] at hm hn hn' hne
  have bq : ∀ {x y : Nat}, Nat.beq x y = false → x ≠ y := fun h e => by subst e; rw [Nat.beq_refl] at h; cases h
  obtain ⟨⟨⟨mst_, mst0⟩, mst1⟩, mst01⟩ := hm
  obtain ⟨⟨e0, e1⟩, x01⟩ := hn
  obtain ⟨g0, g1⟩ := hn'
  obtain ⟨⟨y0, y1⟩, z01⟩ := hne
  refine ⟨fun gd => ?_⟩
  have k := k.go gd
  refine ⟨?_, ?_, ?_, ?_⟩
  · intro w1 hx   a ha
    have hf : Fr N σ a := ha
    show AA P ops Q (f0 + 1 + 2) _ a w1
    rw [show f0 + 1 + 2 = (f0 + 2) + 1 by omega]
    refine take_A hi mst_ hQ (.inl ⟨by simp [Region.wanted], fun w' _ => ?_⟩) ?_
    · rw [execOp_eq]; exact (h w').go w' (Chg.refl _ _ _) _ fun x v hx => hf.eval hx
    · rw [set_arr]
      exact k.st_ w1 hx   _ (ha.put hd v)
  · intro w1 hx b0 pb0  a ha
    have hf : Fr N σ a := (Fr.tail e0 ha)
    show AA P ops Q (f0 + 1 + 1) _ a w1
    rw [show f0 + 1 + 1 = (f0 + 1) + 1 by omega]
    have hc : (ls.set p0.i true).set i true = (ls.set i true).set p0.i true := by
      rw [List.set_comm _ _ (bq y0)]
    refine take_A hi mst0 hQ (.inl ⟨by simp [Region.wanted], fun w' _ => ?_⟩) ?_
    · rw [execOp_eq]; exact (h w').go w' (Chg.refl _ _ _) _ fun x v hx => hf.eval hx
    · rw [set_arr, hc]
      exact k.st0 w1 hx b0 pb0  _ (Fr.swap (bq g0).symm (ha.put hd v))
  · intro w1 hx b1 pb1  a ha
    have hf : Fr N σ a := (Fr.tail e1 ha)
    show AA P ops Q (f0 + 1 + 1) _ a w1
    rw [show f0 + 1 + 1 = (f0 + 1) + 1 by omega]
    have hc : (ls.set p1.i true).set i true = (ls.set i true).set p1.i true := by
      rw [List.set_comm _ _ (bq y1)]
    refine take_A hi mst1 hQ (.inl ⟨by simp [Region.wanted], fun w' _ => ?_⟩) ?_
    · rw [execOp_eq]; exact (h w').go w' (Chg.refl _ _ _) _ fun x v hx => hf.eval hx
    · rw [set_arr, hc]
      exact k.st1 w1 hx b1 pb1  _ (Fr.swap (bq g1).symm (ha.put hd v))
  · intro w1 hx b0 pb0 b1 pb1 n01 a ha
    have hf : Fr N σ a := (Fr.tail e0 (Fr.tail (by simp only [look_cons]; rw [if_neg (bq x01)]; exact e1) ha))
    show AA P ops Q (f0 + 1 + 0) _ a w1
    rw [show f0 + 1 + 0 = (f0 + 0) + 1 by omega]
    have hc : ((ls.set p0.i true).set p1.i true).set i true = ((ls.set i true).set p0.i true).set p1.i true := by
      rw [List.set_comm _ _ (bq y1), List.set_comm _ _ (bq y0)]
    refine take_A hi mst01 hQ (.inl ⟨by simp [Region.wanted], fun w' _ => ?_⟩) ?_
    · rw [execOp_eq]; exact (h w').go w' (Chg.refl _ _ _) _ fun x v hx => hf.eval hx
    · rw [set_arr, hc]
      exact k.st01 w1 hx b0 pb0 b1 pb1 n01 _ (Fr.swap2 (bq g1) (bq g0) (ha.put hd v))
theorem m2_call {p0 p1 : PA} {fo : Operand} {f : FuncId} {first cap : List Value} {xs : List Operand} {vs all : List Value} {ats : Array TypeId} [hc : Callable P f] {i f0 n : Nat} {q : List (Nat × Oper)} {ls : List Bool} (ok0 : PA.ok P N ops p0) (ok1 : PA.ok P N ops p1)
    (hi : ops[i]? = some ⟨some d, .call { callee := .value fo, args := xs.toArray, argTypes := ats }, ty, pos, af, none⟩) (hf : ev σ fo = some (.func (.func f) first.toArray cap.toArray)) (hx : evs σ xs = some vs) (hall : first ++ vs ++ cap = all) (hd : Nat.blt d N = true)
    (k : ∀ w1, Ext w w1 → MC P f all w1 fun v w' => WM2 P N ops Q p0 p1 base ((w1.heap.size, w'.heap.size) :: G) f0 q.length q (ls.set i true) ((d, v) :: σ) w')
    (hr : (onlyB ops ls [i, p0.i, p1.i] && onlyB ops (ls.set p0.i true) [i, p1.i] && onlyB ops (ls.set p1.i true) [i, p0.i] && onlyB ops ((ls.set p0.i true).set p1.i true) [i]) = true := by decide +kernel) (hs : spoil ops i = false := by decide +kernel) (hn : ((look σ p0.d).isNone && (look σ p1.d).isNone && !Nat.beq p0.d p1.d) = true := by rfl) (hn' : (!Nat.beq p0.d d && !Nat.beq p1.d d) = true := by rfl) (hne : (!Nat.beq p0.i i && !Nat.beq p1.i i && !Nat.beq p0.i p1.i) = true := by rfl) :
    WM2 P N ops Q p0 p1 base G (f0 + 1) n ((i, ⟨some d, .call { callee := .value fo, args := xs.toArray, argTypes := ats }, ty, pos, af, none⟩) :: q) ls σ w := by
  simp only [Bool.and_eq_true, Bool.not_eq_true', Option.isNone_iff_eq_none] at hr hn hn' hne
  have bq : ∀ {x y : Nat}, Nat.beq x y = false → x ≠ y := fun h e => by subst e; rw [Nat.beq_refl] at h; cases h
  refine ⟨fun gd => ?_⟩
  have hgb : ∀ w1, Ext w w1 → Gaps w1.heap.size G := fun w1 h1 => Gaps.high fun g h => Nat.le_trans (gd.1 g h) h1.size
  have hb := gd.2
  obtain ⟨⟨⟨mst_, mst0⟩, mst1⟩, mst01⟩ := hr
  obtain ⟨⟨e0, e1⟩, x01⟩ := hn
  obtain ⟨g0, g1⟩ := hn'
  obtain ⟨⟨y0, y1⟩, z01⟩ := hne
  have hst01 : ∀ w1, Ext w w1 → ∀ b0, PB w1 b0 p0.cs base G → ∀ b1, PB w1 b1 p1.cs base G → b0 ≠ b1 → ∀ a, Fr N ((p1.d, ptr b1 0) :: (p0.d, ptr b0 0) :: σ) a → AA P ops Q (f0 + 1 + 0) ((ls.set p0.i true).set p1.i true) a w1 := by
    intro w1 hx1 b0 pb0 b1 pb1 n01 a ha
    have hfa : Fr N σ a := (Fr.tail e0 (Fr.tail (by simp only [look_cons]; rw [if_neg (bq x01)]; exact e1) ha))
    rw [show f0 + 1 + 0 = (f0 + 0) + 1 by omega]
    have hcm : ((ls.set p0.i true).set p1.i true).set i true = ((ls.set i true).set p0.i true).set p1.i true := by
      rw [List.set_comm _ _ (bq y1), List.set_comm _ _ (bq y0)]
    refine aa_step (onlyB_ne mst01) fun j hj => ?_
    rcases (by simpa using onlyB_mem mst01 hj : j = i) with rfl
    · refine nx_call hi hfa hf hx hall hs ((k w1 hx1).go.mono fun v w' ⟨h1, h2⟩ => ⟨h1, ?_⟩)
      rw [hcm]; exact (h2.go (gd.call hx1 h1)).st01 w' (Chg.refl _ _ _) b0 ((pb0.gap (Nat.le_refl _)).ext h1) b1 ((pb1.gap (Nat.le_refl _)).ext h1) n01 _ (Fr.swap2 (bq g1) (bq g0) (ha.put hd v))
  have hst1 : ∀ w1, Ext w w1 → ∀ b1, PB w1 b1 p1.cs base G → ∀ a, Fr N ((p1.d, ptr b1 0) :: σ) a → AA P ops Q (f0 + 1 + 1) (ls.set p1.i true) a w1 := by
    intro w1 hx1 b1 pb1  a ha
    have hfa : Fr N σ a := (Fr.tail e1 ha)
    rw [show f0 + 1 + 1 = (f0 + 1) + 1 by omega]
    have hcm : (ls.set p1.i true).set i true = (ls.set i true).set p1.i true := by
      rw [List.set_comm _ _ (bq y1)]
    refine aa_step (onlyB_ne mst1) fun j hj => ?_
    rcases (by simpa using onlyB_mem mst1 hj : j = i ∨ j = p0.i) with rfl | rfl
    · refine nx_call hi hfa hf hx hall hs ((k w1 hx1).go.mono fun v w' ⟨h1, h2⟩ => ⟨h1, ?_⟩)
      rw [hcm]; exact (h2.go (gd.call hx1 h1)).st1 w' (Chg.refl _ _ _) b1 ((pb1.gap (Nat.le_refl _)).ext h1)  _ (Fr.swap (bq g1).symm (ha.put hd v))
    · refine nx_alloc ok0 fun w' h1 h1s h1b => ?_
      rw [show f0 + 1 = f0 + 1 + 0 by omega]
      rw [List.set_comm _ _ (bq z01).symm]; exact hst01 w' (hx1.trans h1) w1.heap.size ⟨h1b, Nat.le_trans hb hx1.size, hgb w1 hx1⟩ b1 (pb1.ext h1) (by have := pb1.box.lt; omega) _ (Fr.swap (bq x01) (ha.put ok0.lt _))
  have hst0 : ∀ w1, Ext w w1 → ∀ b0, PB w1 b0 p0.cs base G → ∀ a, Fr N ((p0.d, ptr b0 0) :: σ) a → AA P ops Q (f0 + 1 + 1) (ls.set p0.i true) a w1 := by
    intro w1 hx1 b0 pb0  a ha
    have hfa : Fr N σ a := (Fr.tail e0 ha)
    rw [show f0 + 1 + 1 = (f0 + 1) + 1 by omega]
    have hcm : (ls.set p0.i true).set i true = (ls.set i true).set p0.i true := by
      rw [List.set_comm _ _ (bq y0)]
    refine aa_step (onlyB_ne mst0) fun j hj => ?_
    rcases (by simpa using onlyB_mem mst0 hj : j = i ∨ j = p1.i) with rfl | rfl
    · refine nx_call hi hfa hf hx hall hs ((k w1 hx1).go.mono fun v w' ⟨h1, h2⟩ => ⟨h1, ?_⟩)
      rw [hcm]; exact (h2.go (gd.call hx1 h1)).st0 w' (Chg.refl _ _ _) b0 ((pb0.gap (Nat.le_refl _)).ext h1)  _ (Fr.swap (bq g0).symm (ha.put hd v))
    · refine nx_alloc ok1 fun w' h1 h1s h1b => ?_
      rw [show f0 + 1 = f0 + 1 + 0 by omega]
      exact hst01 w' (hx1.trans h1) b0 (pb0.ext h1) w1.heap.size ⟨h1b, Nat.le_trans hb hx1.size, hgb w1 hx1⟩ (by have := pb0.box.lt; omega) _ (ha.put ok1.lt _)
  have hst_ : ∀ w1, Ext w w1 → ∀ a, Fr N (σ) a → AA P ops Q (f0 + 1 + 2) ls a w1 := by
    intro w1 hx1   a ha
    have hfa : Fr N σ a := ha
    rw [show f0 + 1 + 2 = (f0 + 2) + 1 by omega]
    refine aa_step (onlyB_ne mst_) fun j hj => ?_
    rcases (by simpa using onlyB_mem mst_ hj : j = i ∨ j = p0.i ∨ j = p1.i) with rfl | rfl | rfl
    · refine nx_call hi hfa hf hx hall hs ((k w1 hx1).go.mono fun v w' ⟨h1, h2⟩ => ⟨h1, ?_⟩)
      exact (h2.go (gd.call hx1 h1)).st_ w' (Chg.refl _ _ _)   _ (ha.put hd v)
    · refine nx_alloc ok0 fun w' h1 h1s h1b => ?_
      rw [show f0 + 2 = f0 + 1 + 1 by omega]
      exact hst0 w' (hx1.trans h1) w1.heap.size ⟨h1b, Nat.le_trans hb hx1.size, hgb w1 hx1⟩  _ (ha.put ok0.lt _)
    · refine nx_alloc ok1 fun w' h1 h1s h1b => ?_
      rw [show f0 + 2 = f0 + 1 + 1 by omega]
      exact hst1 w' (hx1.trans h1) w1.heap.size ⟨h1b, Nat.le_trans hb hx1.size, hgb w1 hx1⟩  _ (ha.put ok1.lt _)
  exact ⟨hst_, hst0, hst1, hst01⟩
theorem m2_end {p0 p1 : PA} {f0 n : Nat} {q : List (Nat × Oper)} {ls : List Bool} (ok0 : PA.ok P N ops p0) (ok1 : PA.ok P N ops p1)
    (k : ∀ w1, Ext w w1 → w.heap.size ≤ w1.heap.size → ∀ b0, Box w1 b0 p0.cs → base ≤ b0 → Gaps b0 G → ∀ b1, Box w1 b1 p1.cs → base ≤ b1 → Gaps b1 G → b0 ≠ b1 →  WH P N ops Q f0 q.length q ((ls.set p0.i true).set p1.i true) ((p1.d, ptr b1 0) :: (p0.d, ptr b0 0) :: σ) w1)
    (hr : (onlyB ops ls [p0.i, p1.i] && onlyB ops (ls.set p0.i true) [p1.i] && onlyB ops (ls.set p1.i true) [p0.i]) = true := by decide +kernel) (hn : ((look σ p0.d).isNone && (look σ p1.d).isNone && !Nat.beq p0.d p1.d) = true := by rfl) (hz : (!Nat.beq p0.i p1.i) = true := by rfl) : WM2 P N ops Q p0 p1 base G f0 n q ls σ w := by
  simp only [Bool.and_eq_true, Bool.not_eq_true', Option.isNone_iff_eq_none] at hr hn
  have bq : ∀ {x y : Nat}, Nat.beq x y = false → x ≠ y := fun h e => by subst e; rw [Nat.beq_refl] at h; cases h
  refine ⟨fun gd => ?_⟩
  have hgb : ∀ w1, Ext w w1 → Gaps w1.heap.size G := fun w1 h1 => Gaps.high fun g h => Nat.le_trans (gd.1 g h) h1.size
  have hb := gd.2
  have z01 : Nat.beq p0.i p1.i = false := by simpa using hz
  obtain ⟨⟨mst_, mst0⟩, mst1⟩ := hr
  obtain ⟨⟨e0, e1⟩, x01⟩ := hn
  have hst01 : ∀ w1, Ext w w1 → ∀ b0, PB w1 b0 p0.cs base G → ∀ b1, PB w1 b1 p1.cs base G → b0 ≠ b1 → ∀ a, Fr N ((p1.d, ptr b1 0) :: (p0.d, ptr b0 0) :: σ) a → AA P ops Q (f0 + 0) ((ls.set p0.i true).set p1.i true) a w1 := by
    intro w1 hx1 b0 pb0 b1 pb1 n01 a ha
    exact (k w1 hx1 hx1.size b0 pb0.box pb0.low pb0.gaps b1 pb1.box pb1.low pb1.gaps n01).go a ha
  have hst1 : ∀ w1, Ext w w1 → ∀ b1, PB w1 b1 p1.cs base G → ∀ a, Fr N ((p1.d, ptr b1 0) :: σ) a → AA P ops Q (f0 + 1) (ls.set p1.i true) a w1 := by
    intro w1 hx1 b1 pb1  a ha
    refine aa_step (onlyB_ne mst1) fun j hj => ?_
    rcases (by simpa using onlyB_mem mst1 hj : j = p0.i) with rfl
    · refine nx_alloc ok0 fun w' h1 h1s h1b => ?_
      rw [List.set_comm _ _ (bq z01).symm]; exact hst01 w' (hx1.trans h1) w1.heap.size ⟨h1b, Nat.le_trans hb hx1.size, hgb w1 hx1⟩ b1 (pb1.ext h1) (by have := pb1.box.lt; omega) _ (Fr.swap (bq x01) (ha.put ok0.lt _))
  have hst0 : ∀ w1, Ext w w1 → ∀ b0, PB w1 b0 p0.cs base G → ∀ a, Fr N ((p0.d, ptr b0 0) :: σ) a → AA P ops Q (f0 + 1) (ls.set p0.i true) a w1 := by
    intro w1 hx1 b0 pb0  a ha
    refine aa_step (onlyB_ne mst0) fun j hj => ?_
    rcases (by simpa using onlyB_mem mst0 hj : j = p1.i) with rfl
    · refine nx_alloc ok1 fun w' h1 h1s h1b => ?_
      exact hst01 w' (hx1.trans h1) b0 (pb0.ext h1) w1.heap.size ⟨h1b, Nat.le_trans hb hx1.size, hgb w1 hx1⟩ (by have := pb0.box.lt; omega) _ (ha.put ok1.lt _)
  have hst_ : ∀ w1, Ext w w1 → ∀ a, Fr N (σ) a → AA P ops Q (f0 + 2) ls a w1 := by
    intro w1 hx1   a ha
    refine aa_step (onlyB_ne mst_) fun j hj => ?_
    rcases (by simpa using onlyB_mem mst_ hj : j = p0.i ∨ j = p1.i) with rfl | rfl
    · refine nx_alloc ok0 fun w' h1 h1s h1b => ?_
      exact hst0 w' (hx1.trans h1) w1.heap.size ⟨h1b, Nat.le_trans hb hx1.size, hgb w1 hx1⟩  _ (ha.put ok0.lt _)
    · refine nx_alloc ok1 fun w' h1 h1s h1b => ?_
      exact hst1 w' (hx1.trans h1) w1.heap.size ⟨h1b, Nat.le_trans hb hx1.size, hgb w1 hx1⟩  _ (ha.put ok1.lt _)
  exact ⟨hst_, hst0, hst1, hst01⟩
end
end Go.Gw
/- L11 -/
namespace Go.Gw
open Go
set_option linter.unusedVariables false
set_option linter.unusedSimpArgs false
section
variable {P : Program} {N : Nat} {Q : Post} {σ : Fm} {w w' : World} {ops : Array Oper} {rest : List Oper} {T ty : TypeId} {x y : Operand} {v u : Value} {lo hi : Nat} {pos : String} {af : Array Edge} {d e B : Nat}
theorem y_load_pair [TStr P T 2] {n : Nat} {xs : List (Int × Int)} (hx : ev σ x = some (ptr (sb v) (so v + n * 2))) (h : SL w lo hi v xs := by repeat (first | assumption | exact Go.Gw.Own.sl (by assumption) | exact Go.Gw.Box.at (by assumption) | exact Go.Gw.SLL.el (by first | assumption | exact Go.Gw.OwnD.sll (by assumption)) _ (by omega) | exact Go.Gw.SLL.at (by first | assumption | exact Go.Gw.OwnD.sll (by assumption)) (by omega) | exact Go.Gw.OwnD.sll (by assumption) | (apply Go.Gw.SL.chg; case hx => assumption) | (apply Go.Gw.Own.chg; case hx => assumption) | (apply Go.Gw.Box.chg; case hx => assumption) | (apply Go.Gw.At.chg; case hx => assumption) | exact .inl (Nat.zero_le _) | exact .inr (Nat.zero_le _) | (show _ ∨ _; omega))) (hn : n < xs.length := by first | omega | (simp only [List.length_set]; omega) | (simp only [List.length_set, List.length_append, List.length_cons, List.length_nil]; omega)) : YE P σ (.load T x) ty w (.agg #[.int .i64 (xs.getD n (0, 0)).1, .int .i64 (xs.getD n (0, 0)).2]) :=
  y_load_els (d := (0, 0)) hx h rfl hn rfl
theorem y_load_paire [TStr P T 2] {n : Nat} {xs : List (Int × Int)} {a b : Int} (hx : ev σ x = some (ptr (sb v) (so v + n * 2))) (hg : xs.getD n (0, 0) = (a, b)) (h : SL w lo hi v xs := by repeat (first | assumption | exact Go.Gw.Own.sl (by assumption) | exact Go.Gw.Box.at (by assumption) | exact Go.Gw.SLL.el (by first | assumption | exact Go.Gw.OwnD.sll (by assumption)) _ (by omega) | exact Go.Gw.SLL.at (by first | assumption | exact Go.Gw.OwnD.sll (by assumption)) (by omega) | exact Go.Gw.OwnD.sll (by assumption) | (apply Go.Gw.SL.chg; case hx => assumption) | (apply Go.Gw.Own.chg; case hx => assumption) | (apply Go.Gw.Box.chg; case hx => assumption) | (apply Go.Gw.At.chg; case hx => assumption) | exact .inl (Nat.zero_le _) | exact .inr (Nat.zero_le _) | (show _ ∨ _; omega))) (hn : n < xs.length := by first | omega | (simp only [List.length_set]; omega) | (simp only [List.length_set, List.length_append, List.length_cons, List.length_nil]; omega)) : YE P σ (.load T x) ty w (.agg #[.int .i64 a, .int .i64 b]) := by
  have := y_load_pair (P := P) (T := T) (ty := ty) hx h hn; rwa [hg] at this
theorem y_load_p0 [TScal P T] {n : Nat} {xs : List (Int × Int)} (hx : ev σ x = some (ptr (sb v) (so v + n * 2 + 0))) (h : SL w lo hi v xs := by repeat (first | assumption | exact Go.Gw.Own.sl (by assumption) | exact Go.Gw.Box.at (by assumption) | exact Go.Gw.SLL.el (by first | assumption | exact Go.Gw.OwnD.sll (by assumption)) _ (by omega) | exact Go.Gw.SLL.at (by first | assumption | exact Go.Gw.OwnD.sll (by assumption)) (by omega) | exact Go.Gw.OwnD.sll (by assumption) | (apply Go.Gw.SL.chg; case hx => assumption) | (apply Go.Gw.Own.chg; case hx => assumption) | (apply Go.Gw.Box.chg; case hx => assumption) | (apply Go.Gw.At.chg; case hx => assumption) | exact .inl (Nat.zero_le _) | exact .inr (Nat.zero_le _) | (show _ ∨ _; omega))) (hn : n < xs.length := by first | omega | (simp only [List.length_set]; omega) | (simp only [List.length_set, List.length_append, List.length_cons, List.length_nil]; omega)) : YE P σ (.load T x) ty w (.int .i64 (xs.getD n (0, 0)).1) := y_load_elf hx h rfl hn rfl
theorem y_load_p1 [TScal P T] {n : Nat} {xs : List (Int × Int)} (hx : ev σ x = some (ptr (sb v) (so v + n * 2 + 1))) (h : SL w lo hi v xs := by repeat (first | assumption | exact Go.Gw.Own.sl (by assumption) | exact Go.Gw.Box.at (by assumption) | exact Go.Gw.SLL.el (by first | assumption | exact Go.Gw.OwnD.sll (by assumption)) _ (by omega) | exact Go.Gw.SLL.at (by first | assumption | exact Go.Gw.OwnD.sll (by assumption)) (by omega) | exact Go.Gw.OwnD.sll (by assumption) | (apply Go.Gw.SL.chg; case hx => assumption) | (apply Go.Gw.Own.chg; case hx => assumption) | (apply Go.Gw.Box.chg; case hx => assumption) | (apply Go.Gw.At.chg; case hx => assumption) | exact .inl (Nat.zero_le _) | exact .inr (Nat.zero_le _) | (show _ ∨ _; omega))) (hn : n < xs.length := by first | omega | (simp only [List.length_set]; omega) | (simp only [List.length_set, List.length_append, List.length_cons, List.length_nil]; omega)) : YE P σ (.load T x) ty w (.int .i64 (xs.getD n (0, 0)).2) := y_load_elf hx h rfl hn rfl
theorem w_store_p0 [hT : TScal P T] {n : Nat} {xs : List (Int × Int)} {a : Int} (hx : ev σ x = some (ptr (sb v) (so v + n * 2 + 0))) (hy : ev σ y = some (.int .i64 a)) (h : SL w lo hi v xs := by repeat (first | assumption | exact Go.Gw.Own.sl (by assumption) | exact Go.Gw.Box.at (by assumption) | exact Go.Gw.SLL.el (by first | assumption | exact Go.Gw.OwnD.sll (by assumption)) _ (by omega) | exact Go.Gw.SLL.at (by first | assumption | exact Go.Gw.OwnD.sll (by assumption)) (by omega) | exact Go.Gw.OwnD.sll (by assumption) | (apply Go.Gw.SL.chg; case hx => assumption) | (apply Go.Gw.Own.chg; case hx => assumption) | (apply Go.Gw.Box.chg; case hx => assumption) | (apply Go.Gw.At.chg; case hx => assumption) | exact .inl (Nat.zero_le _) | exact .inr (Nat.zero_le _) | (show _ ∨ _; omega))) (hn : n < xs.length := by first | omega | (simp only [List.length_set]; omega) | (simp only [List.length_set, List.length_append, List.length_cons, List.length_nil]; omega))
    (next : ∀ w', SL w' lo hi v (xs.set n (a, (xs.getD n (0, 0)).2)) → Chg (sb v) (sb v + 1) w w' → w'.heap.size = w.heap.size → W P N ops Q rest σ w') : W P N ops Q (⟨none, .store T x y, ty, pos, af, none⟩ :: rest) σ w :=
  w_store_slf (d := (0, 0)) (x' := (a, (xs.getD n (0, 0)).2)) hx hy rfl h rfl hn (by decide) rfl next
theorem w_store_p1 [hT : TScal P T] {n : Nat} {xs : List (Int × Int)} {a : Int} (hx : ev σ x = some (ptr (sb v) (so v + n * 2 + 1))) (hy : ev σ y = some (.int .i64 a)) (h : SL w lo hi v xs := by repeat (first | assumption | exact Go.Gw.Own.sl (by assumption) | exact Go.Gw.Box.at (by assumption) | exact Go.Gw.SLL.el (by first | assumption | exact Go.Gw.OwnD.sll (by assumption)) _ (by omega) | exact Go.Gw.SLL.at (by first | assumption | exact Go.Gw.OwnD.sll (by assumption)) (by omega) | exact Go.Gw.OwnD.sll (by assumption) | (apply Go.Gw.SL.chg; case hx => assumption) | (apply Go.Gw.Own.chg; case hx => assumption) | (apply Go.Gw.Box.chg; case hx => assumption) | (apply Go.Gw.At.chg; case hx => assumption) | exact .inl (Nat.zero_le _) | exact .inr (Nat.zero_le _) | (show _ ∨ _; omega))) (hn : n < xs.length := by first | omega | (simp only [List.length_set]; omega) | (simp only [List.length_set, List.length_append, List.length_cons, List.length_nil]; omega))
    (next : ∀ w', SL w' lo hi v (xs.set n ((xs.getD n (0, 0)).1, a)) → Chg (sb v) (sb v + 1) w w' → w'.heap.size = w.heap.size → W P N ops Q rest σ w') : W P N ops Q (⟨none, .store T x y, ty, pos, af, none⟩ :: rest) σ w :=
  w_store_slf (d := (0, 0)) (x' := ((xs.getD n (0, 0)).1, a)) hx hy rfl h rfl hn (by decide) rfl next
/-- a pair, into a slice of the call's own -/
theorem w_store_ownp [hT : TStr P T 2] {n : Nat} {xs : List (Int × Int)} {a b : Int} (hx : ev σ x = some (ptr (sb v) (so v + n * 2))) (hy : ev σ y = some (.agg #[.int .i64 a, .int .i64 b])) (h : Own w e B v xs := by repeat (first | assumption | exact Go.Gw.Own.sl (by assumption) | exact Go.Gw.Box.at (by assumption) | exact Go.Gw.SLL.el (by first | assumption | exact Go.Gw.OwnD.sll (by assumption)) _ (by omega) | exact Go.Gw.SLL.at (by first | assumption | exact Go.Gw.OwnD.sll (by assumption)) (by omega) | exact Go.Gw.OwnD.sll (by assumption) | (apply Go.Gw.SL.chg; case hx => assumption) | (apply Go.Gw.Own.chg; case hx => assumption) | (apply Go.Gw.Box.chg; case hx => assumption) | (apply Go.Gw.At.chg; case hx => assumption) | exact .inl (Nat.zero_le _) | exact .inr (Nat.zero_le _) | (show _ ∨ _; omega))) (hn : n < xs.length := by first | omega | (simp only [List.length_set]; omega) | (simp only [List.length_set, List.length_append, List.length_cons, List.length_nil]; omega))
    (next : ∀ w', Own w' e B v (xs.set n (a, b)) → Chg (bL v) (bH v) w w' → w'.heap.size = w.heap.size → W P N ops Q rest σ w') : W P N ops Q (⟨none, .store T x y, ty, pos, af, none⟩ :: rest) σ w := by
  refine ⟨fun ac ha => ?_⟩
  refine wpList_plain rfl fun K hK => ?_
  unfold Oper.wp
  have h1 := own_set (u := .int .i64 a) (k := 0) (x' := (a, xs[n].2)) h hn rfl (by decide)
  have hn' : n < (xs.set n (a, xs[n].2)).length := by simpa using hn
  have h2 := own_set (u := .int .i64 b) (k := 1) (x' := (a, b)) h1.1 hn' (by simp; rfl) (by decide)
  have c0 := (h.sl.el n xs[n] (by simp [hn])).go 0 (.int .i64 xs[n].1) rfl
  have c1 := (h1.1.sl.el n (a, xs[n].2) (by simp [hn])).go 1 (.int .i64 xs[n].2) rfl
  have f0 := h.sl.free (n * 2 + 0) (by show n * 2 + 0 < xs.length * 2; omega)
  have f1 := h1.1.sl.free (n * 2 + 1) (by show n * 2 + 1 < (xs.set n (a, xs[n].2)).length * 2; simp; omega)
  rw [← Nat.add_assoc] at f0 f1
  change w.cell? ⟨sb v, so v + n * 2 + 0, none⟩ = some _ at c0
  change (w.setCell ⟨sb v, so v + n * 2 + 0, none⟩ (.int .i64 a)).cell? ⟨sb v, so v + n * 2 + 1, none⟩ = some _ at c1
  change (w.setCell ⟨sb v, so v + n * 2 + 0, none⟩ (.int .i64 a)).frozen? ⟨sb v, so v + n * 2 + 1, none⟩ = false at f1
  have : (execOp ac.eval ⟨none, .store T x y, ty, pos, af, none⟩).run P w = .ok .skip ((w.setCell ⟨sb v, so v + n * 2 + 0, none⟩ (.int .i64 a)).setCell ⟨sb v, so v + n * 2 + 1, none⟩ (.int .i64 b)) := by
    simp only [Nat.add_zero] at c0 c1 f0 f1
    have o1 : ∀ m, (Value.int .i64 m).oneCell' = true := fun _ => rfl
    simp [execOp, ha.eval hx, ha.eval hy, Instr.storeAt, Instr.sureAddr, storeVar, run_size w hT.size, Value.cells, storeCells, run_store, add_lit, c0, f0, c1, f1, o1]
  rw [this]
  have hs : (xs.set n (a, xs[n].2)).set n (a, b) = xs.set n (a, b) := by simp
  have h2' := h2.1
  rw [hs] at h2'
  exact hK _ _ ((next _ h2' (h1.2.trans h2.2) (by simp)).go _ (ha.put_none _))
/-- a struct of two numbers -/
class TPair (P : Program) (T : TypeId) : Prop where
  held : P.stoodInHeld T = false
  plain : P.eqGuardType P.depth T = false
  und : ∃ f0 f1 : Field, P.underlying T = some (.struct #[f0, f1]) ∧ f0.name ≠ "_" ∧ f1.name ≠ "_" ∧ f0.offset = 0 ∧ f1.offset = 1 ∧ P.underlying f0.type = some (.int .i64) ∧ P.underlying f1.type = some (.int .i64)
theorem run_equalIn_pair [h : TPair P T] (w : World) (dd : Nat) (a b c e : Int) : (Op.equalIn (dd + 2) T (.agg #[.int .i64 a, .int .i64 b]) (.agg #[.int .i64 c, .int .i64 e])).run P w = .ok (decide ((a, b) = (c, e))) w := by
  obtain ⟨f0, f1, hu, n0, n1, o0, o1, t0, t1⟩ := h.und
  have hf : P.fieldsOf T = #[f0, f1] := by simp [Program.fieldsOf, hu]
  rw [run_equalIn_struct w (dd + 1) T _ _ (by rw [hf]; exact hu) h.held, hf]
  have g0 : (isAgg f0.type).run P w = .ok false w := by simp [isAgg, run_underlying t0]
  have g1 : (isAgg f1.type).run P w = .ok false w := by simp [isAgg, run_underlying t1]
  have e0 := run_equalIn_int (P := P) w dd f0.type .i64 .i64 a c t0
  have e1 := run_equalIn_int (P := P) w dd f1.type .i64 .i64 b e t1
  by_cases h0 : a = c
  · by_cases h1 : b = e
    · subst h0; subst h1
      simp [Op.eqFields, n0, n1, o0, o1, Go.part, g0, g1, e0, e1]
    · subst h0
      simp [Op.eqFields, n0, n1, o0, o1, Go.part, g0, g1, e0, e1, h1]
  · simp [Op.eqFields, n0, n1, o0, o1, Go.part, g0, g1, e0, e1, h0]
theorem y_peq {t t' : TypeId} {a b c e : Int} [h : TPair P t] (hx : ev σ x = some (.agg #[.int .i64 a, .int .i64 b])) (hy : ev σ y = some (.agg #[.int .i64 c, .int .i64 e])) : YE P σ (.binOp .eql t x y t') ty w (.bool (decide ((a, b) = (c, e)))) := ⟨fun w' _ ρ hρ => by
  have := run_equalIn_pair (P := P) (T := t) w' 9998 a b c e
  simp [execOp, hρ _ _ hx, hρ _ _ hy, run_eqGuard_agg w' _ t _ _ _ _ h.plain, run_eql_struct, this]⟩
theorem y_pne {t t' : TypeId} {a b c e : Int} [h : TPair P t] (hx : ev σ x = some (.agg #[.int .i64 a, .int .i64 b])) (hy : ev σ y = some (.agg #[.int .i64 c, .int .i64 e])) : YE P σ (.binOp .neq t x y t') ty w (.bool (decide (¬ (a, b) = (c, e)))) := ⟨fun w' _ ρ hρ => by
  have := run_equalIn_pair (P := P) (T := t) w' 9998 a b c e
  have e2 : (decide (¬ (a, b) = (c, e))) = !decide ((a, b) = (c, e)) := by by_cases hh : (a, b) = (c, e) <;> simp [hh]
  rw [e2]
  simp only [execOp, hρ _ _ hx, hρ _ _ hy, run_eqGuard_agg w' _ t _ _ _ _ h.plain, run_neq_struct, this, Sem.run_bind, Sem.run_pure, Result.andThen_ok]⟩
end
end Go.Gw
/- L12 -/
namespace Go.Gw
open Go
set_option linter.unusedVariables false
set_option linter.unusedSimpArgs false
section
variable {P : Program} {N : Nat} {Q : Post} {σ : Fm} {w wb : World} {ops : Array Oper} {op : Op} {ty : TypeId} {pos : String} {af : Array Edge} {d : Nat} {v : Value}
def isApp (ops : Array Oper) (k : Nat) : Bool := match ops[k]? with
  | some o => match o.op with
    | .call c => match c.callee with
      | .builtin .append => true
      | _ => false
    | _ => false
  | none => false
def spoilB (ops : Array Oper) (k : Nat) : Bool := spoil ops k && !isApp ops k
theorem spoilB_lt {k : Nat} (h : spoilB ops k = true) : k < ops.size := by
  simp only [spoilB, Bool.and_eq_true] at h; exact spoil_lt h.1
structure WB (P : Program) (N : Nat) (ops : Array Oper) (Q : Post) (wb : World) (fuel n : Nat) (q : List (Nat × Oper)) (ls : List Bool) (σ : Fm) (w : World) : Prop where
  go : ∀ a, Fr N σ a → wpAnyS P ops Q (SS (spoilB ops) ls.toArray wb) fuel ls.toArray a w
def HB (P : Program) (N : Nat) (ops : Array Oper) (Q : Post) (wb : World) (fuel i : Nat) (q : List (Nat × Oper)) (ls : List Bool) (a : Act) (w' : World) : Prop :=
  SS (spoilB ops) ls.toArray wb (ls.set i true).toArray w' ∧ wpAnyS P ops Q (SS (spoilB ops) ls.toArray wb) fuel (ls.set i true).toArray a w'
theorem c_region_base {i : Nat} {l : List Oper} (hm : P.follows .mixedOrders = true)
    (h : ∀ wd, Ext w wd → wd.heap.size = w.heap.size → Since 0 0 wd wd → WB P N l.toArray Q wd l.length l.length (numb 0 l) (noes l) σ wd) : C P N (.region i l.toArray true) Q σ w := by
  refine ⟨fun a ha => wp_region_any hm (wpAny_of_S (S := SS (spoilB l.toArray) (List.replicate l.length false).toArray w.drew) _ _ _ _ ?_)⟩
  have := (h w.drew (Chg.drew w) rfl (Since.refl _ _ _)).go a ha
  rw [noes_eq] at this
  rw [List.size_toArray, ← List.toArray_replicate]
  exact this
theorem b_pure {i fuel n : Nat} {q : List (Nat × Oper)} {ls : List Bool} (hi : ops[i]? = some ⟨some d, op, ty, pos, af, none⟩) (h : YE P σ op ty w v) (hd : Nat.blt d N = true)
    (k : WB P N ops Q w fuel q.length q (ls.set i true) ((d, v) :: σ) w)
    (hm : mayTake ops (spoilB ops) ls.toArray i = true := by decide +kernel) (hQ : ∀ c a w, Q (.panic c) (a.put (some d) v) w → Q (.panic c) a w := by exact fun _ _ _ h => h) :
    WB P N ops Q w (fuel + 1) n ((i, ⟨some d, op, ty, pos, af, none⟩) :: q) ls σ w := by
  refine ⟨fun a ha => take_S (fun _ => spoilB_lt) hi hm hQ (.inl ⟨by simp [Region.wanted], fun w' hw' => ?_⟩) (by rw [set_arr]; exact k.go _ (ha.put hd v))⟩
  rw [execOp_eq]
  exact h.go w' hw' _ fun x v hx => ha.eval hx
theorem b_any {i fuel n : Nat} {q : List (Nat × Oper)} {ls : List Bool} (hi : ops[i]? = some ⟨some d, op, ty, pos, af, none⟩) (h : ∀ w, YE P σ op ty w v) (hd : Nat.blt d N = true)
    (k : WB P N ops Q wb fuel q.length q (ls.set i true) ((d, v) :: σ) w)
    (hm : mayTakeA ops (spoilB ops) ls.toArray i = true := by decide +kernel) (hQ : ∀ c a w, Q (.panic c) (a.put (some d) v) w → Q (.panic c) a w := by exact fun _ _ _ h => h) (hx : Ext wb w := by exact Since.go (by assumption)) :
    WB P N ops Q wb (fuel + 1) n ((i, ⟨some d, op, ty, pos, af, none⟩) :: q) ls σ w := by
  refine ⟨fun a ha => ?_⟩
  unfold mayTakeA at hm
  simp only [Bool.and_eq_true] at hm
  obtain ⟨h1, h2, h3, h4⟩ := hm
  have hsp : spoilB ops i = false := by simpa using h4
  refine wpAnyS_firstA hi (Region.noSelect_spec h3) hQ hsp fuel ls.toArray a w (Region.free_spec hi h2) (by simpa using h1) (.inl ⟨by simp [Region.wanted], fun w' _ => ?_⟩) (fun _ => hx) ?_
  · rw [execOp_eq]
    exact (h w').go w' (Chg.refl _ _ _) _ fun x v hx => ha.eval hx
  · have := k.go _ (ha.put hd v)
    rw [← set_arr] at this
    exact wpAnyS_mono (L := #[]) (fun l w' _ hs hk => hs fun k hsk hlk => getD_set_true (hk k hsk hlk)) _ _ _ _ (fun k hk => by simp at hk) this
theorem b_turn {fuel n i : Nat} {o : Oper} {q : List (Nat × Oper)} {ls : List Bool} (k : WB P N ops Q wb fuel n (q ++ [(i, o)]) ls σ w) : WB P N ops Q wb fuel (n + 1) ((i, o) :: q) ls σ w := ⟨k.go⟩
theorem b_nil {fuel n : Nat} {ls : List Bool} (k : X N .normal Q σ w) (hr : Region.ready .any ops ls.toArray = [] := by decide +kernel) : WB P N ops Q wb fuel n [] ls σ w := ⟨fun a ha => wpAnyS_done hr (k.go a ha) fuel⟩
theorem b_one {i fuel n : Nat} {o : Oper} {q : List (Nat × Oper)} {ls : List Bool} (hi : ops[i]? = some o) (k : W P N ops (Exit.then (HB P N ops Q wb fuel i q ls) Q) [o] σ w)
    (hr : Region.ready .any ops ls.toArray = [i] := by decide +kernel) : WB P N ops Q wb (fuel + 1) n ((i, o) :: q) ls σ w :=
  ⟨fun a ha => ⟨fun h0 => (by rw [h0] at hr; cases hr), fun i' hi' => by
    rw [hr] at hi'
    obtain rfl : i' = i := by simpa using hi'
    rw [set_arr]
    exact wpOp_of_list hi (k.go a ha)⟩⟩
theorem b_two {i j fuel n : Nat} {o o' : Oper} {q : List (Nat × Oper)} {ls : List Bool} (hi : ops[i]? = some o) (hj : ops[j]? = some o')
    (k : W P N ops (Exit.then (HB P N ops Q wb fuel i q ls) Q) [o] σ w) (k' : W P N ops (Exit.then (HB P N ops Q wb fuel j (dropN [j] ((i, o) :: q)) ls) Q) [o'] σ w)
    (hr : onlyB ops ls [i, j] = true := by decide +kernel) : WB P N ops Q wb (fuel + 1) n ((i, o) :: q) ls σ w :=
  ⟨fun a ha => ⟨fun h0 => absurd h0 (onlyB_ne hr), fun i' hi' => by
    rcases (by simpa using onlyB_mem hr hi' : i' = i ∨ i' = j) with rfl | rfl
    · rw [set_arr]; exact wpOp_of_list hi (k.go a ha)
    · rw [set_arr]; exact wpOp_of_list hj (k'.go a ha)⟩⟩
/-- on, behind one that turns nothing that was there when the region began -/
theorem x_hb {fuel i : Nat} {q : List (Nat × Oper)} {ls : List Bool} {w' : World} (k : WB P N ops Q wb fuel q.length q (ls.set i true) σ w') (hs : spoilB ops i = false := by decide +kernel) (hx : Ext wb w' := by exact Since.go (by assumption)) : X N .normal (Exit.then (HB P N ops Q wb fuel i q ls) Q) σ w' :=
  ⟨fun a ha => ⟨fun _ => hx, by
    refine wpAnyS_mono (L := #[]) (fun l w'' _ hk hp => hk fun k hsk hlk => ?_) _ _ _ _ (fun k hk => by simp at hk) (k.go a ha)
    have := hp k hsk hlk
    rw [← set_arr]
    exact getD_set_true this⟩⟩
/-- on, behind one that may -/
theorem x_hbk {fuel i : Nat} {q : List (Nat × Oper)} {ls : List Bool} {w' : World} (k : WB P N ops Q w' fuel q.length q (ls.set i true) σ w') (hs : (spoilB ops i && !ls.toArray.getD i true) = true := by decide +kernel) : X N .normal (Exit.then (HB P N ops Q wb fuel i q ls) Q) σ w' := by
  have hs : spoilB ops i = true ∧ ls.toArray.getD i true = false := by simpa only [Bool.and_eq_true, Bool.not_eq_true'] using hs
  have hlt : i < ls.toArray.size := by
    rcases Nat.lt_or_ge i ls.toArray.size with h' | h'
    · exact h'
    · have := hs.2; rw [Array.getD_eq_getD_getElem?, Array.getElem?_eq_none h'] at this; cases this
  have hin : (ls.toArray.setIfInBounds i true).getD i false = true := by rw [Array.getD_eq_getD_getElem?, Array.getElem?_setIfInBounds_self_of_lt hlt]; rfl
  have hno : ∀ l : Array Bool, l.getD i false = true → ∀ w'', SS (spoilB ops) ls.toArray wb l w'' := fun l hl w'' hp => by
    have := hp i hs.1 hl
    rw [unlisted hs.2] at this; cases this
  rw [set_arr] at hin
  exact ⟨fun a ha => ⟨hno _ hin _, wpAnyS_mono (L := (ls.set i true).toArray) (fun l w'' hL _ => hno l (hL i hin) w'') _ _ _ _ (fun _ h => h) (k.go a ha)⟩⟩
end
end Go.Gw

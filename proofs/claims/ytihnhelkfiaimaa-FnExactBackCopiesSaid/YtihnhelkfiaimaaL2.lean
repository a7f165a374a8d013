/- Rules of my own: what may have changed between two worlds; operations that only read; guards; calls; the end of a function. -/
import Derived.Test.YtihnhelkfiaimaaL1
namespace Go.Gw
open Go
set_option linter.unusedVariables false
set_option linter.unusedSimpArgs false

/-! ### What may have changed: blocks from lo up to hi, and new ones -/
structure Chg (lo hi : Nat) (w w' : World) : Prop where
  os : w'.os = w.os
  tape : w'.tape = w.tape
  output : w'.output = w.output
  size : w.heap.size ≤ w'.heap.size
  block : ∀ k, k < w.heap.size → (k < lo ∨ hi ≤ k) → w'.heap[k]? = w.heap[k]?
abbrev Ext (w w' : World) : Prop := Chg 0 0 w w'
theorem Chg.refl (lo hi : Nat) (w : World) : Chg lo hi w w := ⟨rfl, rfl, rfl, Nat.le_refl _, fun _ _ _ => rfl⟩
theorem Chg.trans {lo hi : Nat} {a b c : World} (h : Chg lo hi a b) (k : Chg lo hi b c) : Chg lo hi a c :=
  ⟨k.os.trans h.os, k.tape.trans h.tape, k.output.trans h.output, Nat.le_trans h.size k.size, fun i hi ho => (k.block i (Nat.lt_of_lt_of_le hi h.size) ho).trans (h.block i hi ho)⟩
theorem Chg.wide {lo hi lo' hi' : Nat} {a b : World} (h : Chg lo hi a b) (hl : lo' ≤ lo ∨ hi ≤ lo) (hh : hi ≤ hi' ∨ hi ≤ lo) : Chg lo' hi' a b :=
  ⟨h.os, h.tape, h.output, h.size, fun i hi ho => h.block i hi (by omega)⟩
/-- behind an 'Ext', a change of what is new since then -/
theorem Chg.next {l h l' h' : Nat} {a b c : World} (h1 : Chg l h a b) (h2 : Chg l' h' b c) (hn : h' ≤ l' ∨ a.heap.size ≤ l' ∨ (l ≤ l' ∧ h' ≤ h)) : Chg l h a c :=
  ⟨h2.os.trans h1.os, h2.tape.trans h1.tape, h2.output.trans h1.output, Nat.le_trans h1.size h2.size, fun i hi ho =>
    (h2.block i (Nat.lt_of_lt_of_le hi h1.size) (by omega)).trans (h1.block i hi ho)⟩
theorem Chg.below {w w' : World} (h : Ext w w') : RowKit.Below w.heap.size w w' := ⟨h.os, h.tape, h.output, h.size, fun k hk => h.block k hk (.inr (Nat.zero_le _))⟩
theorem Chg.of_below {w w' : World} (h : RowKit.Below w.heap.size w w') : Ext w w' := ⟨h.os, h.tape, h.output, h.size, fun k hk _ => h.block k hk⟩
theorem Chg.drew (w : World) : Ext w w.drew := ⟨rfl, rfl, rfl, Nat.le_refl _, fun _ _ _ => rfl⟩
theorem Chg.alloc (w : World) (o : Obj) : Ext w (w.alloc o) := ⟨rfl, rfl, rfl, by simp, fun k hk _ => RowKit.Below.heap_alloc w o k hk⟩
theorem Chg.cell {lo hi : Nat} {w w' : World} (h : Chg lo hi w w') {a : Addr} {v : Value} (hc : w.cell? a = some v) (ho : a.block < lo ∨ hi ≤ a.block) : w'.cell? a = some v := by
  have := World.block_lt_of_cell? w a hc
  rw [World.cell?_of_block (w := w) (h.block _ this ho)]; exact hc
theorem Chg.frozen {lo hi : Nat} {w w' : World} (h : Chg lo hi w w') {a : Addr} (hb : a.block < w.heap.size) (ho : a.block < lo ∨ hi ≤ a.block) : w'.frozen? a = w.frozen? a :=
  World.frozen?_of_block (w := w) (h.block _ hb ho)

/-- a change that is borne along: what has changed since w -/
structure Since (lo hi : Nat) (w w' : World) : Prop where
  go : Chg lo hi w w'
theorem Since.refl (lo hi : Nat) (w : World) : Since lo hi w w := ⟨Chg.refl _ _ _⟩
theorem Since.trans {lo hi : Nat} {a b c : World} (h : Since lo hi a b) (k : Chg lo hi b c) : Since lo hi a c := ⟨h.go.trans k⟩
theorem Since.next {l h l' h' : Nat} {a b c : World} (h1 : Since l h a b) (h2 : Chg l' h' b c) (hn : h' ≤ l' ∨ a.heap.size ≤ l' ∨ (l ≤ l' ∧ h' ≤ h)) : Since l h a c := ⟨h1.go.next h2 hn⟩
theorem c_loopC {P : Program} {N : Nat} {Q : Post} {σ : Fm} {w : World} {c : Code} {ι : Type} (lo hi : Nat) (S : ι → Fm) (R : ι → World → Prop) (μ : ι → Nat) (x0 : ι) (hs : Sub (S x0) σ) (h0 : R x0 w)
    (round : ∀ x w', Chg lo hi w w' → Since lo hi w w' → R x w' → C P N c (Exit.then (Again N S (fun x w' => Chg lo hi w w' ∧ R x w') μ (μ x)) Q) (S x) w') : C P N (.loop c) Q σ w :=
  c_loopG (fun w' => Chg lo hi w w') S R μ x0 hs (Chg.refl _ _ _) h0 fun x w' h _ hr => round x w' h ⟨h⟩ hr

/-! ### Operations that only read -/
structure YE (P : Program) (σ : Fm) (op : Op) (ty : TypeId) (w : World) (v : Value) : Prop where
  go : ∀ w', Ext w w' → ∀ ρ : Operand → Value, (∀ x v, ev σ x = some v → ρ x = v) → (execOp ρ { dst := none, op := op, type := ty, pos := "", after := #[], guard := none }).run P w' = .ok (.value v) w'
theorem execOp_eq (ρ : Operand → Value) (d : Option Tmp) (op : Op) (ty : TypeId) (pos : String) (af : Array Edge) (g : Option (Nat × Bool)) :
    execOp ρ ⟨d, op, ty, pos, af, g⟩ = execOp ρ ⟨none, op, ty, "", #[], none⟩ := rfl

structure WQ (P : Program) (N : Nat) (ops : Array Oper) (Cl : World → Prop) (Q : Act → Prop) (l : List Oper) (σ : Fm) : Prop where
  go : ∀ a, Fr N σ a → wpQuiet P ops Cl Q l a

section
variable {P : Program} {N : Nat} {Q : Post} {σ : Fm} {w : World} {ops : Array Oper} {rest : List Oper} {op : Op} {ty : TypeId} {pos : String} {af : Array Edge} {d : Nat} {v : Value}

theorem w_pure (h : YE P σ op ty w v) (hd : Nat.blt d N = true) (k : W P N ops Q rest ((d, v) :: σ) w) : W P N ops Q (⟨some d, op, ty, pos, af, none⟩ :: rest) σ w := by
  refine ⟨fun a ha => ?_⟩
  refine wpList_plain rfl fun K hK => ?_
  unfold Oper.wp
  rw [execOp_eq, h.go w (Chg.refl _ _ _) _ fun x v hx => ha.eval hx]
  exact hK _ _ (k.go _ (ha.put hd v))

theorem q_pure {Q : Act → Prop} (h : YE P σ op ty w v) (hd : Nat.blt d N = true) (k : WQ P N ops (Ext w) Q rest ((d, v) :: σ)) : WQ P N ops (Ext w) Q (⟨some d, op, ty, pos, af, none⟩ :: rest) σ := by
  refine ⟨fun a ha => ?_⟩
  refine wpQuiet_step fun K hK => ?_
  rw [if_pos (by simp [Region.wanted])]
  refine ⟨v, fun w' hw' => ?_, hK _ (k.go _ (ha.put hd v))⟩
  unfold Oper.quietAt
  rw [execOp_eq, h.go w' hw' _ fun x v hx => ha.eval hx]
  exact ⟨rfl, rfl⟩

theorem q_nil {w0 : World} (h : ∀ w', Ext w0 w' → w0.heap.size ≤ w'.heap.size → X N .normal Q σ w') : WQ P N ops (Ext w0) (fun a' => ∀ w', Ext w0 w' → Q .normal a' w') [] σ := ⟨fun a ha w' hw' => (h w' hw' hw'.size).go a ha⟩

theorem c_region_quiet {i : Nat} {l : List Oper} (hm : P.follows .mixedOrders = true) (hB : Region.lexB .any l.toArray = true)
    (h : WQ P N l.toArray (Ext w) (fun a' => ∀ w', Ext w w' → Q .normal a' w') l σ) : C P N (.region i l.toArray true) Q σ w :=
  ⟨fun a ha => wp_region_quiet hm hB (Chg.drew w) (by simpa using h.go a ha)⟩

/-! ### Guards -/
theorem Fr.same {a : Act} (ha : Fr N σ a) {t : Nat} (hv : a.tmps[t]? = some v) : Fr N ((t, v) :: σ) a := by
  refine ⟨ha.defers, ha.size, fun s u hu => ?_⟩
  rw [look_cons] at hu
  split at hu
  · rename_i e; subst e; rw [← hu]; exact hv
  · exact ha.val s u hu
theorem yielded_of {a : Act} (ha : Fr N σ a) {j t : Nat} {b : Bool} (hj : (ops[j]?).bind (·.dst) = some t) (ht : look σ t = some (.bool b)) : yielded ops a.tmps j = some b := by
  unfold yielded
  rw [hj]
  simp [ha.val t _ ht]
theorem yielded_undef {a : Act} (ha : Fr N σ a) {j t : Nat} (hj : (ops[j]?).bind (·.dst) = some t) (ht : look σ t = some undef) : yielded ops a.tmps j = none := by
  unfold yielded
  rw [hj]
  simp [ha.val t _ ht, undef]

theorem wpList_guard {a : Act} {o : Oper} (hw : Region.wanted o (yielded ops a.tmps) = true) (h : wpList P ops Q ({ o with guard := none } :: rest) a w) : wpList P ops Q (o :: rest) a w := by
  have e1 : Region.wanted ({ o with guard := none } : Oper) (yielded ops a.tmps) = true := by simp [Region.wanted]
  unfold wpList at h ⊢
  rw [if_pos e1] at h
  rw [if_pos hw]
  exact h
theorem wpQuiet_guard {Cl : World → Prop} {Q : Act → Prop} {a : Act} {o : Oper} (hw : Region.wanted o (yielded ops a.tmps) = true) (h : wpQuiet P ops Cl Q ({ o with guard := none } :: rest) a) : wpQuiet P ops Cl Q (o :: rest) a := by
  have e1 : Region.wanted ({ o with guard := none } : Oper) (yielded ops a.tmps) = true := by simp [Region.wanted]
  unfold wpQuiet at h ⊢
  rw [if_pos e1] at h
  rw [if_pos hw]
  exact h
theorem wpQuiet_unguard {Cl : World → Prop} {Q : Act → Prop} {a : Act} {o : Oper} (hw : Region.wanted o (yielded ops a.tmps) = false) (h : wpQuiet P ops Cl Q rest (a.put o.dst undef)) : wpQuiet P ops Cl Q (o :: rest) a := by
  unfold wpQuiet
  rw [if_neg (by simp [hw])]
  exact h

/-- the guard's answer is known: it is what is wanted -/
theorem w_yes {o : Option Tmp} {j t : Nat} {b : Bool} (hj : (ops[j]?).bind (·.dst) = some t) (ht : look σ t = some (.bool b)) (k : W P N ops Q (⟨o, op, ty, pos, af, none⟩ :: rest) σ w) : W P N ops Q (⟨o, op, ty, pos, af, some (j, b)⟩ :: rest) σ w := ⟨fun a ha =>
  wpList_guard (by simp [Region.wanted, yielded_of ha hj ht]) (k.go a ha)⟩
/-- it is the other one -/
theorem w_no {j t : Nat} {b b' : Bool} (hj : (ops[j]?).bind (·.dst) = some t) (ht : look σ t = some (.bool b)) (hb : (b == b') = false) (hd : Nat.blt d N = true) (k : W P N ops Q rest ((d, undef) :: σ) w) : W P N ops Q (⟨some d, op, ty, pos, af, some (j, b')⟩ :: rest) σ w := ⟨fun a ha =>
  wpList_skip (by simp [Region.wanted, yielded_of ha hj ht, hb]) (k.go _ (ha.put hd _))⟩
theorem w_none {j t : Nat} {b' : Bool} (hj : (ops[j]?).bind (·.dst) = some t) (ht : look σ t = some undef) (hd : Nat.blt d N = true) (k : W P N ops Q rest ((d, undef) :: σ) w) : W P N ops Q (⟨some d, op, ty, pos, af, some (j, b')⟩ :: rest) σ w := ⟨fun a ha =>
  wpList_skip (by simp [Region.wanted, yielded_undef ha hj ht]) (k.go _ (ha.put hd _))⟩
/-- not known: both ways; behind it the guard's slot holds a literal -/
theorem w_part {o : Option Tmp} {j t : Nat} {b b' : Bool} (hj : (ops[j]?).bind (·.dst) = some t) (ht : look σ t = some (.bool b))
    (k1 : b = true → W P N ops Q (⟨o, op, ty, pos, af, some (j, b')⟩ :: rest) ((t, .bool true) :: σ) w) (k2 : b = false → W P N ops Q (⟨o, op, ty, pos, af, some (j, b')⟩ :: rest) ((t, .bool false) :: σ) w) : W P N ops Q (⟨o, op, ty, pos, af, some (j, b')⟩ :: rest) σ w := by
  refine ⟨fun a ha => ?_⟩
  have hv := ha.val t _ ht
  have hf : Fr N ((t, .bool b) :: σ) a := ha.same hv
  cases b
  · exact (k2 rfl).go a hf
  · exact (k1 rfl).go a hf
theorem w_part_dec {o : Option Tmp} {j t : Nat} {b' : Bool} {p : Prop} {dp : Decidable p} (hj : (ops[j]?).bind (·.dst) = some t) (ht : look σ t = some (.bool (decide p)))
    (k1 : p → W P N ops Q (⟨o, op, ty, pos, af, some (j, b')⟩ :: rest) ((t, .bool true) :: σ) w) (k2 : ¬ p → W P N ops Q (⟨o, op, ty, pos, af, some (j, b')⟩ :: rest) ((t, .bool false) :: σ) w) : W P N ops Q (⟨o, op, ty, pos, af, some (j, b')⟩ :: rest) σ w :=
  w_part hj ht (fun h => k1 (of_decide_eq_true h)) (fun h => k2 (of_decide_eq_false h))
theorem q_yes {Cl : World → Prop} {Q : Act → Prop} {o : Option Tmp} {j t : Nat} {b : Bool} (hj : (ops[j]?).bind (·.dst) = some t) (ht : look σ t = some (.bool b)) (k : WQ P N ops Cl Q (⟨o, op, ty, pos, af, none⟩ :: rest) σ) : WQ P N ops Cl Q (⟨o, op, ty, pos, af, some (j, b)⟩ :: rest) σ := ⟨fun a ha =>
  wpQuiet_guard (by simp [Region.wanted, yielded_of ha hj ht]) (k.go a ha)⟩
theorem q_no {Cl : World → Prop} {Q : Act → Prop} {j t : Nat} {b b' : Bool} (hj : (ops[j]?).bind (·.dst) = some t) (ht : look σ t = some (.bool b)) (hb : (b == b') = false) (hd : Nat.blt d N = true) (k : WQ P N ops Cl Q rest ((d, undef) :: σ)) : WQ P N ops Cl Q (⟨some d, op, ty, pos, af, some (j, b')⟩ :: rest) σ := ⟨fun a ha =>
  wpQuiet_unguard (by simp [Region.wanted, yielded_of ha hj ht, hb]) (k.go _ (ha.put hd _))⟩
theorem q_none {Cl : World → Prop} {Q : Act → Prop} {j t : Nat} {b' : Bool} (hj : (ops[j]?).bind (·.dst) = some t) (ht : look σ t = some undef) (hd : Nat.blt d N = true) (k : WQ P N ops Cl Q rest ((d, undef) :: σ)) : WQ P N ops Cl Q (⟨some d, op, ty, pos, af, some (j, b')⟩ :: rest) σ := ⟨fun a ha =>
  wpQuiet_unguard (by simp [Region.wanted, yielded_undef ha hj ht]) (k.go _ (ha.put hd _))⟩
theorem q_part {Cl : World → Prop} {Q : Act → Prop} {o : Option Tmp} {j t : Nat} {b b' : Bool} (hj : (ops[j]?).bind (·.dst) = some t) (ht : look σ t = some (.bool b))
    (k1 : b = true → WQ P N ops Cl Q (⟨o, op, ty, pos, af, some (j, b')⟩ :: rest) ((t, .bool true) :: σ)) (k2 : b = false → WQ P N ops Cl Q (⟨o, op, ty, pos, af, some (j, b')⟩ :: rest) ((t, .bool false) :: σ)) : WQ P N ops Cl Q (⟨o, op, ty, pos, af, some (j, b')⟩ :: rest) σ := by
  refine ⟨fun a ha => ?_⟩
  have hv := ha.val t _ ht
  have hf : Fr N ((t, .bool b) :: σ) a := ha.same hv
  cases b
  · exact (k2 rfl).go a hf
  · exact (k1 rfl).go a hf

/-! ### Calls -/
class Callable (P : Program) (f : FuncId) : Prop where
  run : ∀ args w, (callFunc f args).run P w = .ok (.enter f args) w
theorem callable {f : FuncId} {fn : Func} (hf : P.funcs[f]? = some fn) (hn : (fn.name == "runtime.NumGoroutine") = false) (hb : fn.body.isNone = false) : Callable P f :=
  ⟨fun args w => by
    have hn' : fn.name ≠ "runtime.NumGoroutine" := by simpa using hn
    have hb' : ¬ fn.body = none := by intro e; simp [e] at hb
    simp [callFunc, hf, hn', hb']⟩

/-- a call that hands back a value, whatever has become of the world is told by R -/
structure Ret (P : Program) (f : FuncId) (args : List Value) (w : World) (R : Value → World → Prop) : Prop where
  go : Calls P f args.toArray w fun e w' => ∃ v, e = .returned v ∧ R v w'
/-- a call that hands back v and turns nothing that was there -/
structure Val (P : Program) (f : FuncId) (args : List Value) (w : World) (v : Value) : Prop where
  go : ∀ w', Ext w w' → Ret P f args w' fun u w'' => u = v ∧ Ext w' w''
/-- a call that hands back v and leaves the world as it is -/
structure Pur (P : Program) (f : FuncId) (args : List Value) (v : Value) : Prop where
  go : ∀ w, Ret P f args w fun u w' => u = v ∧ w' = w
theorem Ret.mono {f : FuncId} {args : List Value} {R R' : Value → World → Prop} (h : Ret P f args w R) (hr : ∀ v w', R v w' → R' v w') : Ret P f args w R' := ⟨Calls.mono h.go fun _ _ ⟨v, he, h1⟩ => ⟨v, he, hr _ _ h1⟩⟩
theorem Pur.val {f : FuncId} {args : List Value} (h : Pur P f args v) : Val P f args w v := ⟨fun w' _ => (h.go w').mono fun _ _ ⟨h1, h2⟩ => ⟨h1, by rw [h2]; exact Chg.refl _ _ _⟩⟩
theorem Val.ret {f : FuncId} {args : List Value} (h : Val P f args w v) : Ret P f args w fun u w' => u = v ∧ Ext w w' := h.go w (Chg.refl _ _ _)
/-- Into a function, towards a contract. -/
theorem ret_enter {f : FuncId} {fn : Func} {c : Code} {vs : List Value} {R : Value → World → Prop} (hf : P.funcs[f]? = some fn) (hb : fn.body = some c) (hn : fn.ntmps = N) (hs : Nat.ble vs.length N = true)
    (h : C P N c (bodyPost P fn fun e w' => ∃ v, e = .returned v ∧ R v w') (args0 0 vs) w) : Ret P f vs w R := ⟨enter hf hb hn hs h⟩

theorem evs_spec {a : Act} (ha : Fr N σ a) : ∀ {xs : List Operand} {vs : List Value}, evs σ xs = some vs → xs.map a.eval = vs
  | [], vs, h => by simp [evs] at h; simp [h]
  | x :: r, vs, h => by
    simp only [evs] at h
    split at h
    · rename_i v' vs' h1 h2
      simp only [Option.some.injEq] at h
      subst h
      simp [ha.eval h1, evs_spec ha h2]
    · cases h

theorem exec_call {a : Act} (ha : Fr N σ a) {fo : Operand} {f : FuncId} {first cap : List Value} {xs : List Operand} {vs all : List Value} {ats : Array TypeId} [hc : Callable P f]
    (hf : ev σ fo = some (.func (.func f) first.toArray cap.toArray)) (hx : evs σ xs = some vs) (hall : first ++ vs ++ cap = all) (w : World) :
    (execOp a.eval ⟨none, .call { callee := .value fo, args := xs.toArray, argTypes := ats }, ty, "", #[], none⟩).run P w = .ok (.enter f all.toArray) w := by
  subst hall
  simp only [execOp, resolve, ha.eval hf, Deferred.ofValue, Sem.run_bind, Sem.run_pure, Result.andThen_ok, invoke]
  rw [show Array.map a.eval xs.toArray = vs.toArray by rw [List.map_toArray, evs_spec ha hx]]
  rw [List.append_toArray, List.append_toArray]
  exact hc.run _ _

theorem w_call {fo : Operand} {f : FuncId} {first cap : List Value} {xs : List Operand} {vs all : List Value} {ats : Array TypeId} {R : Value → World → Prop} [hc : Callable P f]
    (hf : ev σ fo = some (.func (.func f) first.toArray cap.toArray)) (hx : evs σ xs = some vs) (hall : first ++ vs ++ cap = all)
    (h : Ret P f all w R) (hd : Nat.blt d N = true) (k : ∀ v w', R v w' → W P N ops Q rest ((d, v) :: σ) w') :
    W P N ops Q (⟨some d, .call { callee := .value fo, args := xs.toArray, argTypes := ats }, ty, pos, af, none⟩ :: rest) σ w := by
  refine ⟨fun a ha => ?_⟩
  refine wpList_plain rfl fun K hK => ?_
  unfold Oper.wp
  rw [execOp_eq, exec_call ha hf hx hall]
  rw [Oper.upon_enter]
  refine Calls.mono h.go ?_
  rintro e w' ⟨v, rfl, hr⟩
  exact hK _ _ ((k v w' hr).go _ (ha.put hd v))
/-- no result is kept -/
theorem w_call0 {fo : Operand} {f : FuncId} {first cap : List Value} {xs : List Operand} {vs all : List Value} {ats : Array TypeId} {R : Value → World → Prop} [hc : Callable P f]
    (hf : ev σ fo = some (.func (.func f) first.toArray cap.toArray)) (hx : evs σ xs = some vs) (hall : first ++ vs ++ cap = all)
    (h : Ret P f all w R) (k : ∀ v w', R v w' → W P N ops Q rest σ w') :
    W P N ops Q (⟨none, .call { callee := .value fo, args := xs.toArray, argTypes := ats }, ty, pos, af, none⟩ :: rest) σ w := by
  refine ⟨fun a ha => ?_⟩
  refine wpList_plain rfl fun K hK => ?_
  unfold Oper.wp
  rw [execOp_eq, exec_call ha hf hx hall]
  rw [Oper.upon_enter]
  refine Calls.mono h.go ?_
  rintro e w' ⟨v, rfl, hr⟩
  exact hK _ _ ((k v w' hr).go _ ha)
theorem w_val {fo : Operand} {f : FuncId} {first cap : List Value} {xs : List Operand} {vs all : List Value} {ats : Array TypeId} [hc : Callable P f]
    (hf : ev σ fo = some (.func (.func f) first.toArray cap.toArray)) (hx : evs σ xs = some vs) (hall : first ++ vs ++ cap = all)
    (h : Val P f all w v) (hd : Nat.blt d N = true) (k : ∀ w', Ext w w' → w.heap.size ≤ w'.heap.size → W P N ops Q rest ((d, v) :: σ) w') :
    W P N ops Q (⟨some d, .call { callee := .value fo, args := xs.toArray, argTypes := ats }, ty, pos, af, none⟩ :: rest) σ w :=
  w_call hf hx hall h.ret hd fun _ w' ⟨e, h'⟩ => by subst e; exact k w' h' h'.size
theorem w_pur {fo : Operand} {f : FuncId} {first cap : List Value} {xs : List Operand} {vs all : List Value} {ats : Array TypeId} [hc : Callable P f]
    (hf : ev σ fo = some (.func (.func f) first.toArray cap.toArray)) (hx : evs σ xs = some vs) (hall : first ++ vs ++ cap = all)
    (h : Pur P f all v) (hd : Nat.blt d N = true) (k : W P N ops Q rest ((d, v) :: σ) w) :
    W P N ops Q (⟨some d, .call { callee := .value fo, args := xs.toArray, argTypes := ats }, ty, pos, af, none⟩ :: rest) σ w :=
  w_call hf hx hall (h.go w) hd fun _ w' ⟨e, h'⟩ => by subst e; subst h'; exact k
theorem q_val {Q : Act → Prop} {fo : Operand} {f : FuncId} {first cap : List Value} {xs : List Operand} {vs all : List Value} {ats : Array TypeId} [hc : Callable P f]
    (hf : ev σ fo = some (.func (.func f) first.toArray cap.toArray)) (hx : evs σ xs = some vs) (hall : first ++ vs ++ cap = all)
    (h : Val P f all w v) (hd : Nat.blt d N = true) (k : WQ P N ops (Ext w) Q rest ((d, v) :: σ)) :
    WQ P N ops (Ext w) Q (⟨some d, .call { callee := .value fo, args := xs.toArray, argTypes := ats }, ty, pos, af, none⟩ :: rest) σ := by
  refine ⟨fun a ha => ?_⟩
  refine wpQuiet_step fun K hK => ?_
  rw [if_pos (by simp [Region.wanted])]
  refine ⟨v, fun w' hw' => ?_, hK _ (k.go _ (ha.put hd v))⟩
  unfold Oper.quietAt
  rw [execOp_eq, exec_call ha hf hx hall]
  refine ⟨rfl, Calls.mono (h.go w' hw').go ?_⟩
  rintro e w'' ⟨u, rfl, rfl, hx⟩
  exact ⟨rfl, hw'.trans hx⟩

theorem Pur.law {f : FuncId} {args : List Value} (h : Pur P f args (.bool true)) (w : World) : Ret P f args w fun u w' => u = .bool true ∧ Ext w w' := (h.val (w := w)).ret

/-! ### The end -/
theorem x_ret1 {fn : Func} {R : Ending → World → Prop} {t : Tmp} (hr : fn.results = #[.tmp t]) (ht : look σ t = some v) (h : R (.returned v) w) : X N .ret (bodyPost P fn R) σ w := ⟨fun a ha =>
  bodyPost_ret (v := v) (by rw [results_tmp hr, Array.getD_eq_getD_getElem?, ha.val t v ht]; rfl) ha.defers h⟩
theorem x_ret0 {fn : Func} {R : Ending → World → Prop} (hr : fn.results = #[]) (h : R (.returned (.tuple #[])) w) : X N .ret (bodyPost P fn R) σ w := ⟨fun a ha =>
  bodyPost_ret (results_none hr _ _ _) ha.defers h⟩
theorem x_end0 {fn : Func} {R : Ending → World → Prop} (hr : fn.results = #[]) (h : R (.returned (.tuple #[])) w) : X N .normal (bodyPost P fn R) σ w := ⟨fun a ha =>
  bodyPost_end (results_none hr _ _ _) ha.defers h⟩
/-- what the results' places hold -/
def Res (P : Program) (σ : Fm) (w : World) : List ResultVar → List Value → Prop
  | [], [] => True
  | .tmp t :: r, v :: vs => look σ t = some v ∧ Res P σ w r vs
  | .cell c t :: r, v :: vs => (∃ a, look σ c = some (.pointer (some a)) ∧ (loadVar t a).run P w = .ok v w) ∧ Res P σ w r vs
  | _, _ => False
def ofResults : List Value → Value
  | [v] => v
  | vs => .tuple vs.toArray
def resOf (a : Act) : ResultVar → Sem Value
  | .tmp t => pure (a.tmps.getD t undef)
  | .cell c t => do loadVar t (← asAddr (a.tmps.getD c undef))
theorem run_resList {a : Act} (ha : Fr N σ a) : ∀ (rs : List ResultVar) (vs : List Value), Res P σ w rs vs → (rs.mapM (resOf a)).run P w = .ok vs w
  | [], [], _ => by simp
  | .tmp t :: r, v :: vs, ⟨h1, h2⟩ => by
    have e : a.tmps.getD t undef = v := by rw [Array.getD_eq_getD_getElem?, ha.val t v h1]; rfl
    simp [run_resList ha r vs h2, resOf, e]
  | .cell c t :: r, v :: vs, ⟨⟨ad, h1, h3⟩, h2⟩ => by
    have e : a.tmps.getD c undef = .pointer (some ad) := by rw [Array.getD_eq_getD_getElem?, ha.val c _ h1]; rfl
    simp [run_resList ha r vs h2, resOf, e, asAddr, h3]
theorem run_results {a : Act} (ha : Fr N σ a) {fn : Func} {rs : List ResultVar} {vs : List Value} (hr : fn.results = rs.toArray) (h : Res P σ w rs vs) : (results fn a.tmps).run P w = .ok (ofResults vs) w := by
  have h1 : (results fn a.tmps) = (do let vs ← fn.results.mapM (resOf a); pure (if h : vs.size = 1 then vs[0] else .tuple vs)) := by
    unfold results
    congr 1
  rw [h1, hr, List.mapM_toArray]
  have h2 := run_resList ha rs vs h
  simp only [Sem.run_bind, Sem.run_map]
  rw [h2]
  simp only [Result.andThen_ok, Sem.run_pure]
  match vs with
  | [] => simp [ofResults]
  | [v] => simp [ofResults]
  | v :: u :: r => simp [ofResults]
theorem x_ret {fn : Func} {R : Ending → World → Prop} {rs : List ResultVar} (vs : List Value) (hr : fn.results = rs.toArray) (h : Res P σ w rs vs) (hR : R (.returned (ofResults vs)) w) : X N .ret (bodyPost P fn R) σ w := ⟨fun a ha =>
  bodyPost_ret (run_results ha hr h) ha.defers hR⟩
/-- the contract's form -/
theorem x_retv {fn : Func} {R : Value → World → Prop} {rs : List ResultVar} (vs : List Value) (hr : fn.results = rs.toArray) (h : Res P σ w rs vs) (hR : R (ofResults vs) w) : X N .ret (bodyPost P fn fun e w' => ∃ v, e = .returned v ∧ R v w') σ w :=
  x_ret vs hr h ⟨_, rfl, hR⟩
end
end Go.Gw

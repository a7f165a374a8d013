/- Rules of my own: regions that draw their order and hold calls, new objects or stores among what only reads. -/
import Derived.Test.YtmmpnlhanljhiaaL7
import Derived.OrdersHeld
namespace Go.Gw
open Go
set_option linter.unusedVariables false
set_option linter.unusedSimpArgs false

section
variable {P : Program} {N : Nat} {Q : Post} {σ : Fm} {w : World} {ops : Array Oper} {rest : List Oper} {op : Op} {ty : TypeId} {pos : String} {af : Array Edge} {d : Nat} {v : Value}

theorem held_mono {S S' : World → Prop} (h : ∀ w, S' w → S w) : ∀ (fuel : Nat) (ls : Array Bool) (a : Act) (w : World), wpAnyH P .any ops Q S' fuel ls a w → wpAnyH P .any ops Q S fuel ls a w
  | 0, _, _, _, k => k
  | fuel + 1, ls, a, w, k => ⟨k.1, fun i hi => wpOp_mono (fun a' w' hk => ⟨h _ hk.1, held_mono h fuel _ _ _ hk.2⟩) (k.2 i hi)⟩

/-- what is still to come: the queue q; n: how often it may still be turned -/
structure WH (P : Program) (N : Nat) (ops : Array Oper) (Q : Post) (fuel n : Nat) (q : List (Nat × Oper)) (ls : List Bool) (σ : Fm) (w : World) : Prop where
  go : ∀ a, Fr N σ a → wpAnyH P .any ops Q (fun w' => Ext w w') fuel ls.toArray a w
/-- behind one that may turn the world -/
def HK (P : Program) (N : Nat) (ops : Array Oper) (Q : Post) (fuel : Nat) (q : List (Nat × Oper)) (ls : List Bool) (w : World) (a : Act) (w' : World) : Prop :=
  Ext w w' ∧ wpAnyH P .any ops Q (fun w' => Ext w w') fuel ls.toArray a w'
def numb : Nat → List Oper → List (Nat × Oper)
  | _, [] => []
  | k, o :: r => (k, o) :: numb (k + 1) r
def noes : List Oper → List Bool
  | [] => []
  | _ :: r => false :: noes r
theorem noes_eq : ∀ l : List Oper, noes l = List.replicate l.length false
  | [] => rfl
  | _ :: r => by simp [noes, noes_eq r, List.replicate_succ]

theorem c_region_held {i : Nat} {l : List Oper} (hm : P.follows .mixedOrders = true)
    (h : ∀ wd, Ext w wd → wd.heap.size = w.heap.size → WH P N l.toArray Q l.length l.length (numb 0 l) (noes l) σ wd) : C P N (.region i l.toArray true) Q σ w := by
  refine ⟨fun a ha => wp_region_held (S := fun w' => Ext w.drew w') hm ?_⟩
  have := (h w.drew (Chg.drew w) rfl).go a ha
  rw [noes_eq] at this
  rw [List.size_toArray, ← List.toArray_replicate]
  exact this

/-- only what reads -/
def calm (l : List Oper) : Bool := l.all fun o => match o.op with
  | .call c => match c.callee with | .builtin .len => true | .builtin .max => true | .builtin .min => true | _ => false
  | .alloc _ => false
  | .box _ _ => false
  | .makeMap _ _ => false
  | .mapUpdate _ _ _ _ => false
  | .insert _ _ _ _ => false
  | .convert _ _ _ => true
  | .store _ _ _ => false
  | .buildSlice _ _ _ => false
  | .makeSlice _ _ _ => false
  | _ => true
theorem c_region_calm {i : Nat} {l : List Oper} (hm : P.follows .mixedOrders = true) (hc : calm l = true) (hB : Region.lexB .any l.toArray = true)
    (h : WQ P N l.toArray (Ext w) (fun a' => ∀ w', Ext w w' → Q .normal a' w') l σ) : C P N (.region i l.toArray true) Q σ w := c_region_quiet hm hB h
theorem set_arr (ls : List Bool) (i : Nat) : ls.toArray.setIfInBounds i true = (ls.set i true).toArray := by simp

theorem h_pure {i fuel n : Nat} {q : List (Nat × Oper)} {ls : List Bool} (hi : ops[i]? = some ⟨some d, op, ty, pos, af, none⟩) (h : YE P σ op ty w v) (hd : Nat.blt d N = true)
    (k : WH P N ops Q fuel q.length q (ls.set i true) ((d, v) :: σ) w)
    (hr : (Region.ready .any ops ls.toArray).contains i = true := by decide +kernel) (hf : Region.free .any ops ls.toArray i = true := by decide +kernel)
    (hs : Region.noSelect ops = true := by decide +kernel) (hQ : ∀ c a w, Q (.panic c) (a.put (some d) v) w → Q (.panic c) a w := by exact fun _ _ _ h => h) :
    WH P N ops Q (fuel + 1) n ((i, ⟨some d, op, ty, pos, af, none⟩) :: q) ls σ w := by
  refine ⟨fun a ha => wpAnyH_take hi hs hf hr hQ (.inl ⟨by simp [Region.wanted], fun w' hw' => ?_⟩) (Chg.refl _ _ _) (by rw [set_arr]; exact k.go _ (ha.put hd v))⟩
  rw [execOp_eq]
  exact h.go w' hw' _ fun x v hx => ha.eval hx
theorem h_yes {i fuel n : Nat} {q : List (Nat × Oper)} {ls : List Bool} {j t : Nat} {b : Bool} (hi : ops[i]? = some ⟨some d, op, ty, pos, af, some (j, b)⟩) (hj : (ops[j]?).bind (·.dst) = some t) (ht : look σ t = some (.bool b)) (h : YE P σ op ty w v) (hd : Nat.blt d N = true)
    (k : WH P N ops Q fuel q.length q (ls.set i true) ((d, v) :: σ) w)
    (hr : (Region.ready .any ops ls.toArray).contains i = true := by decide +kernel) (hf : Region.free .any ops ls.toArray i = true := by decide +kernel)
    (hs : Region.noSelect ops = true := by decide +kernel) (hQ : ∀ c a w, Q (.panic c) (a.put (some d) v) w → Q (.panic c) a w := by exact fun _ _ _ h => h) :
    WH P N ops Q (fuel + 1) n ((i, ⟨some d, op, ty, pos, af, some (j, b)⟩) :: q) ls σ w := by
  refine ⟨fun a ha => wpAnyH_take hi hs hf hr hQ (.inl ⟨by simp [Region.wanted, yielded_of ha hj ht], fun w' hw' => ?_⟩) (Chg.refl _ _ _) (by rw [set_arr]; exact k.go _ (ha.put hd v))⟩
  rw [execOp_eq]
  exact h.go w' hw' _ fun x v hx => ha.eval hx
theorem h_no {i fuel n : Nat} {q : List (Nat × Oper)} {ls : List Bool} {j t : Nat} {b b' : Bool} (hi : ops[i]? = some ⟨some d, op, ty, pos, af, some (j, b')⟩) (hj : (ops[j]?).bind (·.dst) = some t) (ht : look σ t = some (.bool b)) (hb : (b == b') = false) (hd : Nat.blt d N = true)
    (k : WH P N ops Q fuel q.length q (ls.set i true) ((d, undef) :: σ) w)
    (hr : (Region.ready .any ops ls.toArray).contains i = true := by decide +kernel) (hf : Region.free .any ops ls.toArray i = true := by decide +kernel)
    (hs : Region.noSelect ops = true := by decide +kernel) (hQ : ∀ c a w, Q (.panic c) (a.put (some d) undef) w → Q (.panic c) a w := by exact fun _ _ _ h => h) :
    WH P N ops Q (fuel + 1) n ((i, ⟨some d, op, ty, pos, af, some (j, b')⟩) :: q) ls σ w :=
  ⟨fun a ha => wpAnyH_take hi hs hf hr hQ (.inr ⟨by simp [Region.wanted, yielded_of ha hj ht, hb], rfl⟩) (Chg.refl _ _ _) (by rw [set_arr]; exact k.go _ (ha.put hd _))⟩
theorem h_none {i fuel n : Nat} {q : List (Nat × Oper)} {ls : List Bool} {j t : Nat} {b' : Bool} (hi : ops[i]? = some ⟨some d, op, ty, pos, af, some (j, b')⟩) (hj : (ops[j]?).bind (·.dst) = some t) (ht : look σ t = some undef) (hd : Nat.blt d N = true)
    (k : WH P N ops Q fuel q.length q (ls.set i true) ((d, undef) :: σ) w)
    (hr : (Region.ready .any ops ls.toArray).contains i = true := by decide +kernel) (hf : Region.free .any ops ls.toArray i = true := by decide +kernel)
    (hs : Region.noSelect ops = true := by decide +kernel) (hQ : ∀ c a w, Q (.panic c) (a.put (some d) undef) w → Q (.panic c) a w := by exact fun _ _ _ h => h) :
    WH P N ops Q (fuel + 1) n ((i, ⟨some d, op, ty, pos, af, some (j, b')⟩) :: q) ls σ w :=
  ⟨fun a ha => wpAnyH_take hi hs hf hr hQ (.inr ⟨by simp [Region.wanted, yielded_undef ha hj ht], rfl⟩) (Chg.refl _ _ _) (by rw [set_arr]; exact k.go _ (ha.put hd _))⟩
theorem h_part_dec {i fuel n : Nat} {o : Option Tmp} {q : List (Nat × Oper)} {ls : List Bool} {j t : Nat} {b' : Bool} {p : Prop} {dp : Decidable p} (hj : (ops[j]?).bind (·.dst) = some t) (ht : look σ t = some (.bool (decide p)))
    (k1 : p → WH P N ops Q fuel n ((i, ⟨o, op, ty, pos, af, some (j, b')⟩) :: q) ls ((t, .bool true) :: σ) w) (k2 : ¬ p → WH P N ops Q fuel n ((i, ⟨o, op, ty, pos, af, some (j, b')⟩) :: q) ls ((t, .bool false) :: σ) w) :
    WH P N ops Q fuel n ((i, ⟨o, op, ty, pos, af, some (j, b')⟩) :: q) ls σ w := by
  refine ⟨fun a ha => ?_⟩
  have hv := ha.val t _ ht
  have hf : Fr N ((t, .bool (decide p)) :: σ) a := ha.same hv
  by_cases hp : p
  · exact (k1 hp).go a (by simpa [hp] using hf)
  · exact (k2 hp).go a (by simpa [hp] using hf)
theorem h_part {i fuel n : Nat} {o : Option Tmp} {q : List (Nat × Oper)} {ls : List Bool} {j t : Nat} {b b' : Bool} (hj : (ops[j]?).bind (·.dst) = some t) (ht : look σ t = some (.bool b))
    (k1 : b = true → WH P N ops Q fuel n ((i, ⟨o, op, ty, pos, af, some (j, b')⟩) :: q) ls ((t, .bool true) :: σ) w) (k2 : b = false → WH P N ops Q fuel n ((i, ⟨o, op, ty, pos, af, some (j, b')⟩) :: q) ls ((t, .bool false) :: σ) w) :
    WH P N ops Q fuel n ((i, ⟨o, op, ty, pos, af, some (j, b')⟩) :: q) ls σ w := by
  refine ⟨fun a ha => ?_⟩
  have hv := ha.val t _ ht
  have hf : Fr N ((t, .bool b) :: σ) a := ha.same hv
  cases b
  · exact (k2 rfl).go a hf
  · exact (k1 rfl).go a hf
theorem h_turn {i fuel n : Nat} {o : Oper} {q : List (Nat × Oper)} {ls : List Bool} (k : WH P N ops Q fuel n (q ++ [(i, o)]) ls σ w) : WH P N ops Q fuel (n + 1) ((i, o) :: q) ls σ w := ⟨k.go⟩
theorem h_nil {fuel n : Nat} {ls : List Bool} (k : X N .normal Q σ w) (hr : Region.ready .any ops ls.toArray = [] := by decide +kernel) : WH P N ops Q fuel n [] ls σ w := ⟨fun a ha => wpAnyH_done hr (k.go a ha) fuel⟩

theorem wpOp_of_list {i : Nat} {o : Oper} {K : Act → World → Prop} {a : Act} (hi : ops[i]? = some o) (h : wpList P ops (Exit.then K Q) [o] a w) : wpOp P ops Q i K a w := by
  unfold wpOp
  simp only [hi]
  unfold wpList at h
  split
  · rename_i hw
    rw [if_pos hw] at h
    rcases h with h | ⟨h1, a', w', h2⟩
    · left
      unfold Oper.wp at *
      generalize (execOp a.eval o).run P w = r at *
      cases r with
      | ok n w' =>
        cases n <;> simp only [Oper.upon, wpList, Exit.then] at h ⊢ <;> first
          | exact h
          | exact Calls.mono h (fun e w'' he => by cases e <;> exact he)
          | exact Rows.mono h (fun _ _ he => he)
      | halt x w' => cases x <;> simp only [Oper.upon, Exit.then] at h ⊢ <;> exact h
    · exact .inr ⟨h1, a', w', h2⟩
  · rename_i hw
    rw [if_neg hw] at h
    exact h
/-- only this one may come up -/
theorem h_one {i fuel n : Nat} {o : Oper} {q : List (Nat × Oper)} {ls : List Bool} (hi : ops[i]? = some o) (k : W P N ops (Exit.then (HK P N ops Q fuel q (ls.set i true) w) Q) [o] σ w)
    (hr : Region.ready .any ops ls.toArray = [i] := by decide +kernel) : WH P N ops Q (fuel + 1) n ((i, o) :: q) ls σ w :=
  ⟨fun a ha => wpAnyH_all hr (by simp) fun i' hi' => by
    obtain rfl : i' = i := by simpa using hi'
    rw [set_arr]
    exact wpOp_of_list hi (k.go a ha)⟩
/-- one of two -/
theorem h_two {i j fuel n : Nat} {o o' : Oper} {q : List (Nat × Oper)} {ls : List Bool} (hi : ops[i]? = some o) (hj : ops[j]? = some o')
    (k : W P N ops (Exit.then (HK P N ops Q fuel ((j, o') :: q) (ls.set i true) w) Q) [o] σ w) (k' : W P N ops (Exit.then (HK P N ops Q fuel ((i, o) :: q) (ls.set j true) w) Q) [o'] σ w)
    (hr : Region.ready .any ops ls.toArray = [i, j] := by decide +kernel) : WH P N ops Q (fuel + 1) n ((i, o) :: (j, o') :: q) ls σ w :=
  ⟨fun a ha => wpAnyH_all hr (by simp) fun i' hi' => by
    rw [set_arr]
    rcases (by simpa using hi' : i' = i ∨ i' = j) with rfl | rfl
    · exact wpOp_of_list hi (k.go a ha)
    · exact wpOp_of_list hj (k'.go a ha)⟩
/-- on, behind one that may have turned the world -/
theorem x_held {fuel : Nat} {q : List (Nat × Oper)} {ls : List Bool} {w' : World} (k : WH P N ops Q fuel q.length q ls σ w') (hx : Ext w w' := by repeat (first | exact Go.Gw.Chg.refl _ _ _ | assumption | refine Go.Gw.Chg.next ?_ (by assumption) (by omega))) : X N .normal (Exit.then (HK P N ops Q fuel q ls w) Q) σ w' :=
  ⟨fun a ha => ⟨hx, held_mono (fun w'' h => hx.trans h) _ _ _ _ (k.go a ha)⟩⟩
end
end Go.Gw

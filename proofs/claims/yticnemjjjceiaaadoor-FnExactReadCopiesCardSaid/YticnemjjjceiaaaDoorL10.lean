/- Rules of my own: regions that draw their order and hold calls while new variables may be made at any time. -/
import Derived.Test.YticnemjjjceiaaaDoorL9
namespace Go.Gw
open Go
set_option linter.unusedVariables false
set_option linter.unusedSimpArgs false

/-- a new variable that waits on nothing: its number in the region, its slot, its cells -/
structure PA where
  i : Nat
  d : Nat
  cs : List Value
structure PA.ok (P : Program) (N : Nat) (ops : Array Oper) (p : PA) : Prop where
  run : ∃ T z ty pos, ops[p.i]? = some ⟨some p.d, .alloc T, ty, pos, #[], none⟩ ∧ (P.info? T).bind (·.zero) = some z ∧ z.cells = p.cs.toArray
  lt : Nat.blt p.d N = true
theorem PA.mk_ok {P : Program} {N : Nat} {ops : Array Oper} {i d : Nat} {cs : List Value} {T ty : TypeId} {z : Value} {pos : String} [hz : TZero P T z] (h : ops[i]? = some ⟨some d, .alloc T, ty, pos, #[], none⟩) (hc : z.cells = cs.toArray) (hd : Nat.blt d N = true) : PA.ok P N ops ⟨i, d, cs⟩ := ⟨⟨T, z, ty, pos, h, hz.zero, hc⟩, hd⟩
def Gaps (b : Nat) : List (Nat × Nat) → Prop
  | [] => True
  | g :: r => (b < g.1 ∨ g.2 ≤ b) ∧ Gaps b r
theorem Gaps.high {b : Nat} : ∀ {G : List (Nat × Nat)}, (∀ g ∈ G, g.2 ≤ b) → Gaps b G
  | [], _ => trivial
  | g :: r, h => ⟨.inr (h g (by simp)), Gaps.high fun g' hg' => h g' (by simp [hg'])⟩
structure PB (w : World) (b : Nat) (cs : List Value) (base : Nat) (G : List (Nat × Nat)) : Prop where
  box : Box w b cs
  low : base ≤ b
  gaps : Gaps b G
section
variable {P : Program} {N : Nat} {Q : Post} {σ : Fm} {w : World} {ops : Array Oper} {op : Op} {ty : TypeId} {pos : String} {af : Array Edge} {d : Nat} {v : Value} {base : Nat} {G : List (Nat × Nat)}
theorem PB.ext {w' : World} {b : Nat} {cs : List Value} (h : PB w b cs base G) (hx : Ext w w') : PB w' b cs base G := ⟨h.box.ext hx, h.low, h.gaps⟩
theorem PB.gap {b l k : Nat} {cs : List Value} (h : PB w b cs base G) (hl : w.heap.size ≤ l) : PB w b cs base ((l, k) :: G) := ⟨h.box, h.low, .inl (Nat.lt_of_lt_of_le h.box.lt hl), h.gaps⟩
theorem Fr.swap {a : Act} {x y : Nat × Value} (hne : x.1 ≠ y.1) (h : Fr N (x :: y :: σ) a) : Fr N (y :: x :: σ) a := ⟨h.defers, h.size, fun t u hu => h.val t u (by
  obtain ⟨x1, x2⟩ := x
  obtain ⟨y1, y2⟩ := y
  rw [look_cons, look_cons] at hu ⊢
  simp only at hne
  split at hu
  · rename_i e; subst e; rw [if_neg hne]; rw [if_pos rfl]; exact hu
  · rename_i e; split at hu
    · rename_i e2; rw [if_pos e2]; exact hu
    · rename_i e2; rw [if_neg e2, if_neg e]; exact hu)⟩
theorem Fr.swap2 {a : Act} {x y z : Nat × Value} (h1 : x.1 ≠ z.1) (h2 : y.1 ≠ z.1) (h : Fr N (z :: x :: y :: σ) a) : Fr N (x :: y :: z :: σ) a := ⟨h.defers, h.size, fun t u hu => h.val t u (by
  obtain ⟨x1, x2⟩ := x
  obtain ⟨y1, y2⟩ := y
  obtain ⟨z1, z2⟩ := z
  simp only at h1 h2
  rw [look_cons, look_cons, look_cons] at hu ⊢
  by_cases a : x1 = t
  · subst a; rw [if_pos rfl] at hu; rw [if_neg (Ne.symm h1), if_pos rfl]; exact hu
  · rw [if_neg a] at hu
    by_cases b : y1 = t
    · subst b; rw [if_pos rfl] at hu; rw [if_neg (Ne.symm h2), if_neg a, if_pos rfl]; exact hu
    · rw [if_neg b] at hu
      by_cases c : z1 = t
      · rw [if_pos c] at hu ⊢; exact hu
      · rw [if_neg c] at hu ⊢; rw [if_neg a, if_neg b]; exact hu)⟩
theorem Fr.tail {a : Act} {t : Nat} {u : Value} (hn : look σ t = none) (h : Fr N ((t, u) :: σ) a) : Fr N σ a := ⟨h.defers, h.size, fun k x hx => h.val k x (by
  rw [look_cons]
  have : t ≠ k := by rintro rfl; rw [hn] at hx; cases hx
  rw [if_neg this]; exact hx)⟩

/-- the state of a run of the region -/
def AA (P : Program) (ops : Array Oper) (Q : Post) (f : Nat) (l : List Bool) (a : Act) (w : World) : Prop := wpAnyS P ops Q (SS (spoil ops) l.toArray w) f l.toArray a w
def NX (P : Program) (ops : Array Oper) (Q : Post) (f k : Nat) (l : List Bool) (a : Act) (w : World) : Prop := wpOp P ops Q k (fun a' w' => SS (spoil ops) l.toArray w (l.set k true).toArray w' ∧ wpAnyS P ops Q (SS (spoil ops) l.toArray w) f (l.set k true).toArray a' w') a w
theorem AA.later {f k : Nat} {l : List Bool} {a : Act} {w w' : World} (hs : spoil ops k = false) (hx : Ext w w') (h : AA P ops Q f (l.set k true) a w') : SS (spoil ops) l.toArray w (l.set k true).toArray w' ∧ wpAnyS P ops Q (SS (spoil ops) l.toArray w) f (l.set k true).toArray a w' :=
  ⟨fun _ => hx, by
    refine wpAnyS_mono (L := #[]) (fun l' w'' _ hk hp => hx.trans (hk fun k' hsk hlk => ?_)) _ _ _ _ (fun k hk => by simp at hk) h
    have := hp k' hsk hlk
    rw [← set_arr]
    exact getD_set_true this⟩
theorem aa_step {f : Nat} {l : List Bool} {a : Act} (hne : Region.ready .any ops l.toArray ≠ []) (h : ∀ k ∈ Region.ready .any ops l.toArray, NX P ops Q f k l a w) : AA P ops Q (f + 1) l a w :=
  ⟨fun h0 => absurd h0 hne, fun k hk => by rw [set_arr]; exact h k hk⟩
theorem nx_alloc {f : Nat} {l : List Bool} {a : Act} {p : PA} (hp : PA.ok P N ops p) (h : ∀ w', Ext w w' → w.heap.size ≤ w'.heap.size → Box w' w.heap.size p.cs → AA P ops Q f (l.set p.i true) (a.put (some p.d) (ptr w.heap.size 0)) w') : NX P ops Q f p.i l a w := by
  obtain ⟨T, z, ty, pos, hi, hz, hc⟩ := hp.run
  have hz' : TZero P T z := ⟨hz⟩
  have hs : spoil ops p.i = false := by simp [spoil, hi, spoilOp]
  refine wpOp_of_list hi (wpList_plain rfl fun K hK => ?_)
  unfold Oper.wp
  have : (execOp a.eval ⟨some p.d, .alloc T, ty, pos, #[], none⟩).run P w = .ok (.value (ptr w.heap.size 0)) (w.alloc (.cells z.cells T)) := by
    simp [execOp, Instr.alloc, run_zero w (z := z), newVar, newRow]
  rw [this, hc]
  refine hK _ _ ?_
  unfold wpList
  exact AA.later hs (Chg.alloc w _) (h _ (Chg.alloc w _) (by simp) (box_new w p.cs.toArray T))
theorem nx_call {fo : Operand} {f : FuncId} {first cap : List Value} {xs : List Operand} {vs all : List Value} {ats : Array TypeId} [hc : Callable P f] {f0 k dk : Nat} {l : List Bool} {a : Act}
    (hi : ops[k]? = some ⟨some dk, .call { callee := .value fo, args := xs.toArray, argTypes := ats }, ty, pos, af, none⟩) (ha : Fr N σ a)
    (hf : ev σ fo = some (.func (.func f) first.toArray cap.toArray)) (hx : evs σ xs = some vs) (hall : first ++ vs ++ cap = all) (hs : spoil ops k = false)
    (h : Ret P f all w fun v w' => Ext w w' ∧ AA P ops Q f0 (l.set k true) (a.put (some dk) v) w') : NX P ops Q f0 k l a w := by
  refine wpOp_of_list hi (wpList_plain rfl fun K hK => ?_)
  unfold Oper.wp
  rw [execOp_eq, exec_call ha hf hx hall]
  rw [Oper.upon_enter]
  refine Calls.mono h.go ?_
  rintro e w' ⟨v, rfl, hxt, hr⟩
  refine hK _ _ ?_
  unfold wpList
  exact AA.later hs hxt hr

/-- no gap reaches beyond the world -/
def GD (w : World) (base : Nat) (G : List (Nat × Nat)) : Prop := (∀ g ∈ G, g.2 ≤ w.heap.size) ∧ base ≤ w.heap.size
theorem GD.call {w1 w' : World} (h : GD w base G) (hx : Ext w w1) (hx' : Ext w1 w') : GD w' base ((w1.heap.size, w'.heap.size) :: G) :=
  ⟨fun g hg => by
    rcases List.mem_cons.1 hg with rfl | hg
    · exact Nat.le_refl _
    · exact Nat.le_trans (h.1 g hg) (Nat.le_trans hx.size hx'.size), Nat.le_trans h.2 (Nat.le_trans hx.size hx'.size)⟩
def dropN (l : List Nat) : List (Nat × Oper) → List (Nat × Oper)
  | [] => []
  | (i, o) :: q => match l.any (Nat.beq i) with
    | true => dropN l q
    | false => (i, o) :: dropN l q

theorem mem_of_all {l m : List Nat} (h : (l.all fun x => m.contains x) = true) {x : Nat} (hx : x ∈ l) : x ∈ m := by
  have := List.all_eq_true.1 h x hx
  simpa using this
def onlyB (ops : Array Oper) (ls : List Bool) (m : List Nat) : Bool := !(Region.ready .any ops ls.toArray).isEmpty && (Region.ready .any ops ls.toArray).all fun x => m.contains x
theorem onlyB_ne {ls : List Bool} {m : List Nat} (h : onlyB ops ls m = true) : Region.ready .any ops ls.toArray ≠ [] := by
  simp only [onlyB, Bool.and_eq_true, Bool.not_eq_true', List.isEmpty_eq_false_iff] at h; exact h.1
theorem onlyB_mem {ls : List Bool} {m : List Nat} (h : onlyB ops ls m = true) {x : Nat} (hx : x ∈ Region.ready .any ops ls.toArray) : x ∈ m := by
  simp only [onlyB, Bool.and_eq_true] at h; exact mem_of_all h.2 hx
/-- one of two may come up, wherever the other stands -/
theorem h_twoX {i j fuel n : Nat} {o o' : Oper} {q : List (Nat × Oper)} {ls : List Bool} (hi : ops[i]? = some o) (hj : ops[j]? = some o')
    (k : W P N ops (Exit.then (HK P N ops Q fuel i q ls w) Q) [o] σ w) (k' : W P N ops (Exit.then (HK P N ops Q fuel j (dropN [j] ((i, o) :: q)) ls w) Q) [o'] σ w)
    (hr : onlyB ops ls [i, j] = true := by decide +kernel) : WH P N ops Q (fuel + 1) n ((i, o) :: q) ls σ w :=
  ⟨fun a ha => ⟨fun h0 => absurd h0 (onlyB_ne hr), fun i' hi' => by
    rcases (by simpa using onlyB_mem hr hi' : i' = i ∨ i' = j) with rfl | rfl
    · rw [set_arr]; exact wpOp_of_list hi (k.go a ha)
    · rw [set_arr]; exact wpOp_of_list hj (k'.go a ha)⟩⟩
/-- what a call brings -/
structure MC (P : Program) (f : FuncId) (all : List Value) (w1 : World) (K : Value → World → Prop) : Prop where
  go : Ret P f all w1 fun v w' => Ext w1 w' ∧ K v w'
theorem mc_ret {f : FuncId} {all : List Value} {K R : Value → World → Prop} (h : Ret P f all w R) (k : ∀ v w', R v w' → Ext w w' ∧ K v w') : MC P f all w K := ⟨h.mono k⟩
theorem mc_val {f : FuncId} {all : List Value} {K : Value → World → Prop} (h : Val P f all w v) (k : ∀ w', Ext w w' → w.heap.size ≤ w'.heap.size → K v w') : MC P f all w K := ⟨h.ret.mono fun u w' ⟨e, hx⟩ => by subst e; exact ⟨hx, k w' hx hx.size⟩⟩
theorem mc_pur {f : FuncId} {all : List Value} {K : Value → World → Prop} (h : Pur P f all v) (k : K v w) : MC P f all w K := ⟨(h.go w).mono fun u w' ⟨e, hx⟩ => by subst e; subst hx; exact ⟨Chg.refl _ _ _, k⟩⟩

/-! ### 1 of them -/
structure WI1 (P : Program) (N : Nat) (ops : Array Oper) (Q : Post) (p0 : PA) (base : Nat) (G : List (Nat × Nat)) (f0 : Nat) (ls : List Bool) (σ : Fm) (w : World) : Prop where
  st_ : ∀ w1, Ext w w1 → ∀ a, Fr N (σ) a → AA P ops Q (f0 + 1) ls a w1
  st0 : ∀ w1, Ext w w1 → ∀ b0, PB w1 b0 p0.cs base G → ∀ a, Fr N ((p0.d, ptr b0 0) :: σ) a → AA P ops Q (f0 + 0) (ls.set p0.i true) a w1
structure WM1 (P : Program) (N : Nat) (ops : Array Oper) (Q : Post) (p0 : PA) (base : Nat) (G : List (Nat × Nat)) (f0 n : Nat) (q : List (Nat × Oper)) (ls : List Bool) (σ : Fm) (w : World) : Prop where
  go : GD w base G → WI1 P N ops Q p0 base G f0 ls σ w
theorem h_maybe1 {f0 n : Nat} {q : List (Nat × Oper)} {ls : List Bool} {p0 : PA} (ok0 : PA.ok P N ops p0) (k : WM1 P N ops Q p0 w.heap.size [] f0 (dropN [p0.i] q).length (dropN [p0.i] q) ls σ w) : WH P N ops Q (f0 + 1) n q ls σ w := ⟨fun a ha => (k.go ⟨fun g hg => (by cases hg), Nat.le_refl _⟩).st_ w (Chg.refl _ _ _) a ha⟩
theorem m1_turn {p0 : PA} {f0 n i : Nat} {o : Oper} {q : List (Nat × Oper)} {ls : List Bool} (k : WM1 P N ops Q p0 base G f0 n (q ++ [(i, o)]) ls σ w) : WM1 P N ops Q p0 base G f0 (n + 1) ((i, o) :: q) ls σ w := ⟨k.go⟩
theorem m1_pure {p0 : PA} {i f0 n : Nat} {q : List (Nat × Oper)} {ls : List Bool} (hi : ops[i]? = some ⟨some d, op, ty, pos, af, none⟩) (h : YE P σ op ty w v) (hd : Nat.blt d N = true)
    (k : WM1 P N ops Q p0 base G f0 q.length q (ls.set i true) ((d, v) :: σ) w)
    (hm : (mayTake ops (spoil ops) ls.toArray i && mayTake ops (spoil ops) (ls.set p0.i true).toArray i) = true := by decide +kernel) (hn : ((look σ p0.d).isNone) = true := by rfl) (hn' : (!Nat.beq p0.d d) = true := by rfl) (hne : (!Nat.beq p0.i i) = true := by rfl) (hQ : ∀ c a w, Q (.panic c) (a.put (some d) v) w → Q (.panic c) a w := by exact fun _ _ _ h => h) :
    WM1 P N ops Q p0 base G (f0 + 1) n ((i, ⟨some d, op, ty, pos, af, none⟩) :: q) ls σ w := by
  simp only [Bool.and_eq_true, Bool.not_eq_true', Option.isNone_iff_eq_none] at hm hn hn' hne
  have bq : ∀ {x y : Nat}, Nat.beq x y = false → x ≠ y := fun h e => by subst e; rw [Nat.beq_refl] at h; cases h
  obtain ⟨mst_, mst0⟩ := hm
  have e0 := hn
  have g0 := hn'
  have y0 := hne
  refine ⟨fun gd => ?_⟩
  have k := k.go gd
  refine ⟨?_, ?_⟩
  · intro w1 hx   a ha
    have hf : Fr N σ a := ha
    show AA P ops Q (f0 + 1 + 1) _ a w1
    rw [show f0 + 1 + 1 = (f0 + 1) + 1 by omega]
    refine take_S (fun _ => spoil_lt) hi mst_ hQ (.inl ⟨by simp [Region.wanted], fun w' hw' => ?_⟩) ?_
    · rw [execOp_eq]; exact h.go w' (hx.trans hw') _ fun x v hx => hf.eval hx
    · rw [set_arr]
      exact k.st_ w1 hx   _ (ha.put hd v)
  · intro w1 hx b0 pb0  a ha
    have hf : Fr N σ a := (Fr.tail e0 ha)
    show AA P ops Q (f0 + 1 + 0) _ a w1
    rw [show f0 + 1 + 0 = (f0 + 0) + 1 by omega]
    have hc : (ls.set p0.i true).set i true = (ls.set i true).set p0.i true := by
      rw [List.set_comm _ _ (bq y0)]
    refine take_S (fun _ => spoil_lt) hi mst0 hQ (.inl ⟨by simp [Region.wanted], fun w' hw' => ?_⟩) ?_
    · rw [execOp_eq]; exact h.go w' (hx.trans hw') _ fun x v hx => hf.eval hx
    · rw [set_arr, hc]
      exact k.st0 w1 hx b0 pb0  _ (Fr.swap (bq g0).symm (ha.put hd v))
theorem m1_any {p0 : PA} {i f0 n : Nat} {q : List (Nat × Oper)} {ls : List Bool} (hi : ops[i]? = some ⟨some d, op, ty, pos, af, none⟩) (h : ∀ w, YE P σ op ty w v) (hd : Nat.blt d N = true)
    (k : WM1 P N ops Q p0 base G f0 q.length q (ls.set i true) ((d, v) :: σ) w)
    (hm : (mayTakeA ops (spoil ops) ls.toArray i && mayTakeA ops (spoil ops) (ls.set p0.i true).toArray i) = true := by decide +kernel) (hn : ((look σ p0.d).isNone) = true := by rfl) (hn' : (!Nat.beq p0.d d) = true := by rfl) (hne : (!Nat.beq p0.i i) = true := by rfl) (hQ : ∀ c a w, Q (.panic c) (a.put (some d) v) w → Q (.panic c) a w := by exact fun _ _ _ h => h) :
    WM1 P N ops Q p0 base G (f0 + 1) n ((i, ⟨some d, op, ty, pos, af, none⟩) :: q) ls σ w := by
  simp only [Bool.and_eq_true, Bool.not_eq_true', Option.isNone_iff_eq_none] at hm hn hn' hne
  have bq : ∀ {x y : Nat}, Nat.beq x y = false → x ≠ y := fun h e => by subst e; rw [Nat.beq_refl] at h; cases h
  obtain ⟨mst_, mst0⟩ := hm
  have e0 := hn
  have g0 := hn'
  have y0 := hne
  refine ⟨fun gd => ?_⟩
  have k := k.go gd
  refine ⟨?_, ?_⟩
  · intro w1 hx   a ha
    have hf : Fr N σ a := ha
    show AA P ops Q (f0 + 1 + 1) _ a w1
    rw [show f0 + 1 + 1 = (f0 + 1) + 1 by omega]
    refine take_A hi mst_ hQ (.inl ⟨by simp [Region.wanted], fun w' _ => ?_⟩) ?_
    · rw [execOp_eq]; exact (h w').go w' (Chg.refl _ _ _) _ fun x v hx => hf.eval hx
    · rw [set_arr]
      exact k.st_ w1 hx   _ (ha.put hd v)
  · intro w1 hx b0 pb0  a ha
    have hf : Fr N σ a := (Fr.tail e0 ha)
    show AA P ops Q (f0 + 1 + 0) _ a w1
    rw [show f0 + 1 + 0 = (f0 + 0) + 1 by omega]
    have hc : (ls.set p0.i true).set i true = (ls.set i true).set p0.i true := by
      rw [List.set_comm _ _ (bq y0)]
    refine take_A hi mst0 hQ (.inl ⟨by simp [Region.wanted], fun w' _ => ?_⟩) ?_
    · rw [execOp_eq]; exact (h w').go w' (Chg.refl _ _ _) _ fun x v hx => hf.eval hx
    · rw [set_arr, hc]
      exact k.st0 w1 hx b0 pb0  _ (Fr.swap (bq g0).symm (ha.put hd v))
theorem m1_call {p0 : PA} {fo : Operand} {f : FuncId} {first cap : List Value} {xs : List Operand} {vs all : List Value} {ats : Array TypeId} [hc : Callable P f] {i f0 n : Nat} {q : List (Nat × Oper)} {ls : List Bool} (ok0 : PA.ok P N ops p0)
    (hi : ops[i]? = some ⟨some d, .call { callee := .value fo, args := xs.toArray, argTypes := ats }, ty, pos, af, none⟩) (hf : ev σ fo = some (.func (.func f) first.toArray cap.toArray)) (hx : evs σ xs = some vs) (hall : first ++ vs ++ cap = all) (hd : Nat.blt d N = true)
    (k : ∀ w1, Ext w w1 → MC P f all w1 fun v w' => WM1 P N ops Q p0 base ((w1.heap.size, w'.heap.size) :: G) f0 q.length q (ls.set i true) ((d, v) :: σ) w')
    (hr : (onlyB ops ls [i, p0.i] && onlyB ops (ls.set p0.i true) [i]) = true := by decide +kernel) (hs : spoil ops i = false := by decide +kernel) (hn : ((look σ p0.d).isNone) = true := by rfl) (hn' : (!Nat.beq p0.d d) = true := by rfl) (hne : (!Nat.beq p0.i i) = true := by rfl) :
    WM1 P N ops Q p0 base G (f0 + 1) n ((i, ⟨some d, .call { callee := .value fo, args := xs.toArray, argTypes := ats }, ty, pos, af, none⟩) :: q) ls σ w := by
  simp only [Bool.and_eq_true, Bool.not_eq_true', Option.isNone_iff_eq_none] at hr hn hn' hne
  have bq : ∀ {x y : Nat}, Nat.beq x y = false → x ≠ y := fun h e => by subst e; rw [Nat.beq_refl] at h; cases h
  refine ⟨fun gd => ?_⟩
  have hgb : ∀ w1, Ext w w1 → Gaps w1.heap.size G := fun w1 h1 => Gaps.high fun g h => Nat.le_trans (gd.1 g h) h1.size
  have hb := gd.2
  obtain ⟨mst_, mst0⟩ := hr
  have e0 := hn
  have g0 := hn'
  have y0 := hne
  have hst0 : ∀ w1, Ext w w1 → ∀ b0, PB w1 b0 p0.cs base G → ∀ a, Fr N ((p0.d, ptr b0 0) :: σ) a → AA P ops Q (f0 + 1 + 0) (ls.set p0.i true) a w1 := by
    intro w1 hx1 b0 pb0  a ha
    have hfa : Fr N σ a := (Fr.tail e0 ha)
    rw [show f0 + 1 + 0 = (f0 + 0) + 1 by omega]
    have hcm : (ls.set p0.i true).set i true = (ls.set i true).set p0.i true := by
      rw [List.set_comm _ _ (bq y0)]
    refine aa_step (onlyB_ne mst0) fun j hj => ?_
    rcases (by simpa using onlyB_mem mst0 hj : j = i) with rfl
    · refine nx_call hi hfa hf hx hall hs ((k w1 hx1).go.mono fun v w' ⟨h1, h2⟩ => ⟨h1, ?_⟩)
      rw [hcm]; exact (h2.go (gd.call hx1 h1)).st0 w' (Chg.refl _ _ _) b0 ((pb0.gap (Nat.le_refl _)).ext h1)  _ (Fr.swap (bq g0).symm (ha.put hd v))
  have hst_ : ∀ w1, Ext w w1 → ∀ a, Fr N (σ) a → AA P ops Q (f0 + 1 + 1) ls a w1 := by
    intro w1 hx1   a ha
    have hfa : Fr N σ a := ha
    rw [show f0 + 1 + 1 = (f0 + 1) + 1 by omega]
    refine aa_step (onlyB_ne mst_) fun j hj => ?_
    rcases (by simpa using onlyB_mem mst_ hj : j = i ∨ j = p0.i) with rfl | rfl
    · refine nx_call hi hfa hf hx hall hs ((k w1 hx1).go.mono fun v w' ⟨h1, h2⟩ => ⟨h1, ?_⟩)
      exact (h2.go (gd.call hx1 h1)).st_ w' (Chg.refl _ _ _)   _ (ha.put hd v)
    · refine nx_alloc ok0 fun w' h1 h1s h1b => ?_
      rw [show f0 + 1 = f0 + 1 + 0 by omega]
      exact hst0 w' (hx1.trans h1) w1.heap.size ⟨h1b, Nat.le_trans hb hx1.size, hgb w1 hx1⟩  _ (ha.put ok0.lt _)
  exact ⟨hst_, hst0⟩
theorem m1_end {p0 : PA} {f0 n : Nat} {q : List (Nat × Oper)} {ls : List Bool} (ok0 : PA.ok P N ops p0)
    (k : ∀ w1, Ext w w1 → w.heap.size ≤ w1.heap.size → ∀ b0, Box w1 b0 p0.cs → base ≤ b0 → Gaps b0 G →  WH P N ops Q f0 q.length q (ls.set p0.i true) ((p0.d, ptr b0 0) :: σ) w1)
    (hr : (onlyB ops ls [p0.i]) = true := by decide +kernel) (hn : ((look σ p0.d).isNone) = true := by rfl) : WM1 P N ops Q p0 base G f0 n q ls σ w := by
  simp only [Bool.and_eq_true, Bool.not_eq_true', Option.isNone_iff_eq_none] at hr hn
  have bq : ∀ {x y : Nat}, Nat.beq x y = false → x ≠ y := fun h e => by subst e; rw [Nat.beq_refl] at h; cases h
  refine ⟨fun gd => ?_⟩
  have hgb : ∀ w1, Ext w w1 → Gaps w1.heap.size G := fun w1 h1 => Gaps.high fun g h => Nat.le_trans (gd.1 g h) h1.size
  have hb := gd.2
  have mst_ := hr
  have e0 := hn
  have hst0 : ∀ w1, Ext w w1 → ∀ b0, PB w1 b0 p0.cs base G → ∀ a, Fr N ((p0.d, ptr b0 0) :: σ) a → AA P ops Q (f0 + 0) (ls.set p0.i true) a w1 := by
    intro w1 hx1 b0 pb0  a ha
    exact (k w1 hx1 hx1.size b0 pb0.box pb0.low pb0.gaps ).go a ha
  have hst_ : ∀ w1, Ext w w1 → ∀ a, Fr N (σ) a → AA P ops Q (f0 + 1) ls a w1 := by
    intro w1 hx1   a ha
    refine aa_step (onlyB_ne mst_) fun j hj => ?_
    rcases (by simpa using onlyB_mem mst_ hj : j = p0.i) with rfl
    · refine nx_alloc ok0 fun w' h1 h1s h1b => ?_
      exact hst0 w' (hx1.trans h1) w1.heap.size ⟨h1b, Nat.le_trans hb hx1.size, hgb w1 hx1⟩  _ (ha.put ok0.lt _)
  exact ⟨hst_, hst0⟩

/-! ### 2 of them -/
structure WI2 (P : Program) (N : Nat) (ops : Array Oper) (Q : Post) (p0 p1 : PA) (base : Nat) (G : List (Nat × Nat)) (f0 : Nat) (ls : List Bool) (σ : Fm) (w : World) : Prop where
  st_ : ∀ w1, Ext w w1 → ∀ a, Fr N (σ) a → AA P ops Q (f0 + 2) ls a w1
  st0 : ∀ w1, Ext w w1 → ∀ b0, PB w1 b0 p0.cs base G → ∀ a, Fr N ((p0.d, ptr b0 0) :: σ) a → AA P ops Q (f0 + 1) (ls.set p0.i true) a w1
  st1 : ∀ w1, Ext w w1 → ∀ b1, PB w1 b1 p1.cs base G → ∀ a, Fr N ((p1.d, ptr b1 0) :: σ) a → AA P ops Q (f0 + 1) (ls.set p1.i true) a w1
  st01 : ∀ w1, Ext w w1 → ∀ b0, PB w1 b0 p0.cs base G → ∀ b1, PB w1 b1 p1.cs base G → b0 ≠ b1 → ∀ a, Fr N ((p1.d, ptr b1 0) :: (p0.d, ptr b0 0) :: σ) a → AA P ops Q (f0 + 0) ((ls.set p0.i true).set p1.i true) a w1
structure WM2 (P : Program) (N : Nat) (ops : Array Oper) (Q : Post) (p0 p1 : PA) (base : Nat) (G : List (Nat × Nat)) (f0 n : Nat) (q : List (Nat × Oper)) (ls : List Bool) (σ : Fm) (w : World) : Prop where
  go : GD w base G → WI2 P N ops Q p0 p1 base G f0 ls σ w
theorem h_maybe2 {f0 n : Nat} {q : List (Nat × Oper)} {ls : List Bool} {p0 p1 : PA} (ok0 : PA.ok P N ops p0) (ok1 : PA.ok P N ops p1) (k : WM2 P N ops Q p0 p1 w.heap.size [] f0 (dropN [p0.i, p1.i] q).length (dropN [p0.i, p1.i] q) ls σ w) : WH P N ops Q (f0 + 2) n q ls σ w := ⟨fun a ha => (k.go ⟨fun g hg => (by cases hg), Nat.le_refl _⟩).st_ w (Chg.refl _ _ _) a ha⟩
theorem m2_turn {p0 p1 : PA} {f0 n i : Nat} {o : Oper} {q : List (Nat × Oper)} {ls : List Bool} (k : WM2 P N ops Q p0 p1 base G f0 n (q ++ [(i, o)]) ls σ w) : WM2 P N ops Q p0 p1 base G f0 (n + 1) ((i, o) :: q) ls σ w := ⟨k.go⟩
theorem m2_pure {p0 p1 : PA} {i f0 n : Nat} {q : List (Nat × Oper)} {ls : List Bool} (hi : ops[i]? = some ⟨some d, op, ty, pos, af, none⟩) (h : YE P σ op ty w v) (hd : Nat.blt d N = true)
    (k : WM2 P N ops Q p0 p1 base G f0 q.length q (ls.set i true) ((d, v) :: σ) w)
    (hm : (mayTake ops (spoil ops) ls.toArray i && mayTake ops (spoil ops) (ls.set p0.i true).toArray i && mayTake ops (spoil ops) (ls.set p1.i true).toArray i && mayTake ops (spoil ops) ((ls.set p0.i true).set p1.i true).toArray i) = true := by decide +kernel) (hn : ((look σ p0.d).isNone && (look σ p1.d).isNone && !Nat.beq p0.d p1.d) = true := by rfl) (hn' : (!Nat.beq p0.d d && !Nat.beq p1.d d) = true := by rfl) (hne : (!Nat.beq p0.i i && !Nat.beq p1.i i && !Nat.beq p0.i p1.i) = true := by rfl) (hQ : ∀ c a w, Q (.panic c) (a.put (some d) v) w → Q (.panic c) a w := by exact fun _ _ _ h => h) :
    WM2 P N ops Q p0 p1 base G (f0 + 1) n ((i, ⟨some d, op, ty, pos, af, none⟩) :: q) ls σ w := by
  simp only [Bool.and_eq_true, Bool.not_eq_true', Option.isNone_iff_eq_none] at hm hn hn' hne
  have bq : ∀ {x y : Nat}, Nat.beq x y = false → x ≠ y := fun h e => by subst e; rw [Nat.beq_refl] at h; cases h
  obtain ⟨⟨⟨mst_, mst0⟩, mst1⟩, mst01⟩ := hm
  obtain ⟨⟨e0, e1⟩, x01⟩ := hn
  obtain ⟨g0, g1⟩ := hn'
  obtain ⟨⟨y0, y1⟩, z01⟩ := hne
  refine ⟨fun gd => ?_⟩
  have k := k.go gd
  refine ⟨?_, ?_, ?_, ?_⟩
  · intro w1 hx   a ha
    have hf : Fr N σ a := ha
    show AA P ops Q (f0 + 1 + 2) _ a w1
    rw [show f0 + 1 + 2 = (f0 + 2) + 1 by omega]
    refine take_S (fun _ => spoil_lt) hi mst_ hQ (.inl ⟨by simp [Region.wanted], fun w' hw' => ?_⟩) ?_
    · rw [execOp_eq]; exact h.go w' (hx.trans hw') _ fun x v hx => hf.eval hx
    · rw [set_arr]
      exact k.st_ w1 hx   _ (ha.put hd v)
  · intro w1 hx b0 pb0  a ha
    have hf : Fr N σ a := (Fr.tail e0 ha)
    show AA P ops Q (f0 + 1 + 1) _ a w1
    rw [show f0 + 1 + 1 = (f0 + 1) + 1 by omega]
    have hc : (ls.set p0.i true).set i true = (ls.set i true).set p0.i true := by
      rw [List.set_comm _ _ (bq y0)]
    refine take_S (fun _ => spoil_lt) hi mst0 hQ (.inl ⟨by simp [Region.wanted], fun w' hw' => ?_⟩) ?_
    · rw [execOp_eq]; exact h.go w' (hx.trans hw') _ fun x v hx => hf.eval hx
    · rw [set_arr, hc]
      exact k.st0 w1 hx b0 pb0  _ (Fr.swap (bq g0).symm (ha.put hd v))
  · intro w1 hx b1 pb1  a ha
    have hf : Fr N σ a := (Fr.tail e1 ha)
    show AA P ops Q (f0 + 1 + 1) _ a w1
    rw [show f0 + 1 + 1 = (f0 + 1) + 1 by omega]
    have hc : (ls.set p1.i true).set i true = (ls.set i true).set p1.i true := by
      rw [List.set_comm _ _ (bq y1)]
    refine take_S (fun _ => spoil_lt) hi mst1 hQ (.inl ⟨by simp [Region.wanted], fun w' hw' => ?_⟩) ?_
    · rw [execOp_eq]; exact h.go w' (hx.trans hw') _ fun x v hx => hf.eval hx
    · rw [set_arr, hc]
      exact k.st1 w1 hx b1 pb1  _ (Fr.swap (bq g1).symm (ha.put hd v))
  · intro w1 hx b0 pb0 b1 pb1 n01 a ha
    have hf : Fr N σ a := (Fr.tail e0 (Fr.tail (by simp only [look_cons]; rw [if_neg (bq x01)]; exact e1) ha))
    show AA P ops Q (f0 + 1 + 0) _ a w1
    rw [show f0 + 1 + 0 = (f0 + 0) + 1 by omega]
    have hc : ((ls.set p0.i true).set p1.i true).set i true = ((ls.set i true).set p0.i true).set p1.i true := by
      rw [List.set_comm _ _ (bq y1), List.set_comm _ _ (bq y0)]
    refine take_S (fun _ => spoil_lt) hi mst01 hQ (.inl ⟨by simp [Region.wanted], fun w' hw' => ?_⟩) ?_
    · rw [execOp_eq]; exact h.go w' (hx.trans hw') _ fun x v hx => hf.eval hx
    · rw [set_arr, hc]
      exact k.st01 w1 hx b0 pb0 b1 pb1 n01 _ (Fr.swap2 (bq g1) (bq g0) (ha.put hd v))
theorem m2_any {p0 p1 : PA} {i f0 n : Nat} {q : List (Nat × Oper)} {ls : List Bool} (hi : ops[i]? = some ⟨some d, op, ty, pos, af, none⟩) (h : ∀ w, YE P σ op ty w v) (hd : Nat.blt d N = true)
    (k : WM2 P N ops Q p0 p1 base G f0 q.length q (ls.set i true) ((d, v) :: σ) w)
    (hm : (mayTakeA ops (spoil ops) ls.toArray i && mayTakeA ops (spoil ops) (ls.set p0.i true).toArray i && mayTakeA ops (spoil ops) (ls.set p1.i true).toArray i && mayTakeA ops (spoil ops) ((ls.set p0.i true).set p1.i true).toArray i) = true := by decide +kernel) (hn : ((look σ p0.d).isNone && (look σ p1.d).isNone && !Nat.beq p0.d p1.d) = true := by rfl) (hn' : (!Nat.beq p0.d d && !Nat.beq p1.d d) = true := by rfl) (hne : (!Nat.beq p0.i i && !Nat.beq p1.i i && !Nat.beq p0.i p1.i) = true := by rfl) (hQ : ∀ c a w, Q (.panic c) (a.put (some d) v) w → Q (.panic c) a w := by exact fun _ _ _ h => h) :
    WM2 P N ops Q p0 p1 base G (f0 + 1) n ((i, ⟨some d, op, ty, pos, af, none⟩) :: q) ls σ w := by
  simp only [Bool.and_eq_true, Bool.not_eq_true', Option.isNone_iff_eq_none] at hm hn hn' hne
  have bq : ∀ {x y : Nat}, Nat.beq x y = false → x ≠ y := fun h e => by subst e; rw [Nat.beq_refl] at h; cases h
  obtain ⟨⟨⟨mst_, mst0⟩, mst1⟩, mst01⟩ := hm
  obtain ⟨⟨e0, e1⟩, x01⟩ := hn
  obtain ⟨g0, g1⟩ := hn'
  obtain ⟨⟨y0, y1⟩, z01⟩ := hne
  refine ⟨fun gd => ?_⟩
  have k := k.go gd
  refine ⟨?_, ?_, ?_, ?_⟩
  · intro w1 hx   a ha
    have hf : Fr N σ a := ha
    show AA P ops Q (f0 + 1 + 2) _ a w1
    rw [show f0 + 1 + 2 = (f0 + 2) + 1 by omega]
    refine take_A hi mst_ hQ (.inl ⟨by simp [Region.wanted], fun w' _ => ?_⟩) ?_
    · rw [execOp_eq]; exact (h w').go w' (Chg.refl _ _ _) _ fun x v hx => hf.eval hx
    · rw [set_arr]
      exact k.st_ w1 hx   _ (ha.put hd v)
  · intro w1 hx b0 pb0  a ha
    have hf : Fr N σ a := (Fr.tail e0 ha)
    show AA P ops Q (f0 + 1 + 1) _ a w1
    rw [show f0 + 1 + 1 = (f0 + 1) + 1 by omega]
    have hc : (ls.set p0.i true).set i true = (ls.set i true).set p0.i true := by
      rw [List.set_comm _ _ (bq y0)]
    refine take_A hi mst0 hQ (.inl ⟨by simp [Region.wanted], fun w' _ => ?_⟩) ?_
    · rw [execOp_eq]; exact (h w').go w' (Chg.refl _ _ _) _ fun x v hx => hf.eval hx
    · rw [set_arr, hc]
      exact k.st0 w1 hx b0 pb0  _ (Fr.swap (bq g0).symm (ha.put hd v))
  · intro w1 hx b1 pb1  a ha
    have hf : Fr N σ a := (Fr.tail e1 ha)
    show AA P ops Q (f0 + 1 + 1) _ a w1
    rw [show f0 + 1 + 1 = (f0 + 1) + 1 by omega]
    have hc : (ls.set p1.i true).set i true = (ls.set i true).set p1.i true := by
      rw [List.set_comm _ _ (bq y1)]
    refine take_A hi mst1 hQ (.inl ⟨by simp [Region.wanted], fun w' _ => ?_⟩) ?_
    · rw [execOp_eq]; exact (h w').go w' (Chg.refl _ _ _) _ fun x v hx => hf.eval hx
    · rw [set_arr, hc]
      exact k.st1 w1 hx b1 pb1  _ (Fr.swap (bq g1).symm (ha.put hd v))
  · intro w1 hx b0 pb0 b1 pb1 n01 a ha
    have hf : Fr N σ a := (Fr.tail e0 (Fr.tail (by simp only [look_cons]; rw [if_neg (bq x01)]; exact e1) ha))
    show AA P ops Q (f0 + 1 + 0) _ a w1
    rw [show f0 + 1 + 0 = (f0 + 0) + 1 by omega]
    have hc : ((ls.set p0.i true).set p1.i true).set i true = ((ls.set i true).set p0.i true).set p1.i true := by
      rw [List.set_comm _ _ (bq y1), List.set_comm _ _ (bq y0)]
    refine take_A hi mst01 hQ (.inl ⟨by simp [Region.wanted], fun w' _ => ?_⟩) ?_
    · rw [execOp_eq]; exact (h w').go w' (Chg.refl _ _ _) _ fun x v hx => hf.eval hx
    · rw [set_arr, hc]
      exact k.st01 w1 hx b0 pb0 b1 pb1 n01 _ (Fr.swap2 (bq g1) (bq g0) (ha.put hd v))
theorem m2_call {p0 p1 : PA} {fo : Operand} {f : FuncId} {first cap : List Value} {xs : List Operand} {vs all : List Value} {ats : Array TypeId} [hc : Callable P f] {i f0 n : Nat} {q : List (Nat × Oper)} {ls : List Bool} (ok0 : PA.ok P N ops p0) (ok1 : PA.ok P N ops p1)
    (hi : ops[i]? = some ⟨some d, .call { callee := .value fo, args := xs.toArray, argTypes := ats }, ty, pos, af, none⟩) (hf : ev σ fo = some (.func (.func f) first.toArray cap.toArray)) (hx : evs σ xs = some vs) (hall : first ++ vs ++ cap = all) (hd : Nat.blt d N = true)
    (k : ∀ w1, Ext w w1 → MC P f all w1 fun v w' => WM2 P N ops Q p0 p1 base ((w1.heap.size, w'.heap.size) :: G) f0 q.length q (ls.set i true) ((d, v) :: σ) w')
    (hr : (onlyB ops ls [i, p0.i, p1.i] && onlyB ops (ls.set p0.i true) [i, p1.i] && onlyB ops (ls.set p1.i true) [i, p0.i] && onlyB ops ((ls.set p0.i true).set p1.i true) [i]) = true := by decide +kernel) (hs : spoil ops i = false := by decide +kernel) (hn : ((look σ p0.d).isNone && (look σ p1.d).isNone && !Nat.beq p0.d p1.d) = true := by rfl) (hn' : (!Nat.beq p0.d d && !Nat.beq p1.d d) = true := by rfl) (hne : (!Nat.beq p0.i i && !Nat.beq p1.i i && !Nat.beq p0.i p1.i) = true := by rfl) :
    WM2 P N ops Q p0 p1 base G (f0 + 1) n ((i, ⟨some d, .call { callee := .value fo, args := xs.toArray, argTypes := ats }, ty, pos, af, none⟩) :: q) ls σ w := by
  simp only [Bool.and_eq_true, Bool.not_eq_true', Option.isNone_iff_eq_none] at hr hn hn' hne
  have bq : ∀ {x y : Nat}, Nat.beq x y = false → x ≠ y := fun h e => by subst e; rw [Nat.beq_refl] at h; cases h
  refine ⟨fun gd => ?_⟩
  have hgb : ∀ w1, Ext w w1 → Gaps w1.heap.size G := fun w1 h1 => Gaps.high fun g h => Nat.le_trans (gd.1 g h) h1.size
  have hb := gd.2
  obtain ⟨⟨⟨mst_, mst0⟩, mst1⟩, mst01⟩ := hr
  obtain ⟨⟨e0, e1⟩, x01⟩ := hn
  obtain ⟨g0, g1⟩ := hn'
  obtain ⟨⟨y0, y1⟩, z01⟩ := hne
  have hst01 : ∀ w1, Ext w w1 → ∀ b0, PB w1 b0 p0.cs base G → ∀ b1, PB w1 b1 p1.cs base G → b0 ≠ b1 → ∀ a, Fr N ((p1.d, ptr b1 0) :: (p0.d, ptr b0 0) :: σ) a → AA P ops Q (f0 + 1 + 0) ((ls.set p0.i true).set p1.i true) a w1 := by
    intro w1 hx1 b0 pb0 b1 pb1 n01 a ha
    have hfa : Fr N σ a := (Fr.tail e0 (Fr.tail (by simp only [look_cons]; rw [if_neg (bq x01)]; exact e1) ha))
    rw [show f0 + 1 + 0 = (f0 + 0) + 1 by omega]
    have hcm : ((ls.set p0.i true).set p1.i true).set i true = ((ls.set i true).set p0.i true).set p1.i true := by
      rw [List.set_comm _ _ (bq y1), List.set_comm _ _ (bq y0)]
    refine aa_step (onlyB_ne mst01) fun j hj => ?_
    rcases (by simpa using onlyB_mem mst01 hj : j = i) with rfl
    · refine nx_call hi hfa hf hx hall hs ((k w1 hx1).go.mono fun v w' ⟨h1, h2⟩ => ⟨h1, ?_⟩)
      rw [hcm]; exact (h2.go (gd.call hx1 h1)).st01 w' (Chg.refl _ _ _) b0 ((pb0.gap (Nat.le_refl _)).ext h1) b1 ((pb1.gap (Nat.le_refl _)).ext h1) n01 _ (Fr.swap2 (bq g1) (bq g0) (ha.put hd v))
  have hst1 : ∀ w1, Ext w w1 → ∀ b1, PB w1 b1 p1.cs base G → ∀ a, Fr N ((p1.d, ptr b1 0) :: σ) a → AA P ops Q (f0 + 1 + 1) (ls.set p1.i true) a w1 := by
    intro w1 hx1 b1 pb1  a ha
    have hfa : Fr N σ a := (Fr.tail e1 ha)
    rw [show f0 + 1 + 1 = (f0 + 1) + 1 by omega]
    have hcm : (ls.set p1.i true).set i true = (ls.set i true).set p1.i true := by
      rw [List.set_comm _ _ (bq y1)]
    refine aa_step (onlyB_ne mst1) fun j hj => ?_
    rcases (by simpa using onlyB_mem mst1 hj : j = i ∨ j = p0.i) with rfl | rfl
    · refine nx_call hi hfa hf hx hall hs ((k w1 hx1).go.mono fun v w' ⟨h1, h2⟩ => ⟨h1, ?_⟩)
      rw [hcm]; exact (h2.go (gd.call hx1 h1)).st1 w' (Chg.refl _ _ _) b1 ((pb1.gap (Nat.le_refl _)).ext h1)  _ (Fr.swap (bq g1).symm (ha.put hd v))
    · refine nx_alloc ok0 fun w' h1 h1s h1b => ?_
      rw [show f0 + 1 = f0 + 1 + 0 by omega]
      rw [List.set_comm _ _ (bq z01).symm]; exact hst01 w' (hx1.trans h1) w1.heap.size ⟨h1b, Nat.le_trans hb hx1.size, hgb w1 hx1⟩ b1 (pb1.ext h1) (by have := pb1.box.lt; omega) _ (Fr.swap (bq x01) (ha.put ok0.lt _))
  have hst0 : ∀ w1, Ext w w1 → ∀ b0, PB w1 b0 p0.cs base G → ∀ a, Fr N ((p0.d, ptr b0 0) :: σ) a → AA P ops Q (f0 + 1 + 1) (ls.set p0.i true) a w1 := by
    intro w1 hx1 b0 pb0  a ha
    have hfa : Fr N σ a := (Fr.tail e0 ha)
    rw [show f0 + 1 + 1 = (f0 + 1) + 1 by omega]
    have hcm : (ls.set p0.i true).set i true = (ls.set i true).set p0.i true := by
      rw [List.set_comm _ _ (bq y0)]
    refine aa_step (onlyB_ne mst0) fun j hj => ?_
    rcases (by simpa using onlyB_mem mst0 hj : j = i ∨ j = p1.i) with rfl | rfl
    · refine nx_call hi hfa hf hx hall hs ((k w1 hx1).go.mono fun v w' ⟨h1, h2⟩ => ⟨h1, ?_⟩)
      rw [hcm]; exact (h2.go (gd.call hx1 h1)).st0 w' (Chg.refl _ _ _) b0 ((pb0.gap (Nat.le_refl _)).ext h1)  _ (Fr.swap (bq g0).symm (ha.put hd v))
    · refine nx_alloc ok1 fun w' h1 h1s h1b => ?_
      rw [show f0 + 1 = f0 + 1 + 0 by omega]
      exact hst01 w' (hx1.trans h1) b0 (pb0.ext h1) w1.heap.size ⟨h1b, Nat.le_trans hb hx1.size, hgb w1 hx1⟩ (by have := pb0.box.lt; omega) _ (ha.put ok1.lt _)
  have hst_ : ∀ w1, Ext w w1 → ∀ a, Fr N (σ) a → AA P ops Q (f0 + 1 + 2) ls a w1 := by
    intro w1 hx1   a ha
    have hfa : Fr N σ a := ha
    rw [show f0 + 1 + 2 = (f0 + 2) + 1 by omega]
    refine aa_step (onlyB_ne mst_) fun j hj => ?_
    rcases (by simpa using onlyB_mem mst_ hj : j = i ∨ j = p0.i ∨ j = p1.i) with rfl | rfl | rfl
    · refine nx_call hi hfa hf hx hall hs ((k w1 hx1).go.mono fun v w' ⟨h1, h2⟩ => ⟨h1, ?_⟩)
      exact (h2.go (gd.call hx1 h1)).st_ w' (Chg.refl _ _ _)   _ (ha.put hd v)
    · refine nx_alloc ok0 fun w' h1 h1s h1b => ?_
      rw [show f0 + 2 = f0 + 1 + 1 by omega]
      exact hst0 w' (hx1.trans h1) w1.heap.size ⟨h1b, Nat.le_trans hb hx1.size, hgb w1 hx1⟩  _ (ha.put ok0.lt _)
    · refine nx_alloc ok1 fun w' h1 h1s h1b => ?_
      rw [show f0 + 2 = f0 + 1 + 1 by omega]
      exact hst1 w' (hx1.trans h1) w1.heap.size ⟨h1b, Nat.le_trans hb hx1.size, hgb w1 hx1⟩  _ (ha.put ok1.lt _)
  exact ⟨hst_, hst0, hst1, hst01⟩
theorem m2_end {p0 p1 : PA} {f0 n : Nat} {q : List (Nat × Oper)} {ls : List Bool} (ok0 : PA.ok P N ops p0) (ok1 : PA.ok P N ops p1)
    (k : ∀ w1, Ext w w1 → w.heap.size ≤ w1.heap.size → ∀ b0, Box w1 b0 p0.cs → base ≤ b0 → Gaps b0 G → ∀ b1, Box w1 b1 p1.cs → base ≤ b1 → Gaps b1 G → b0 ≠ b1 →  WH P N ops Q f0 q.length q ((ls.set p0.i true).set p1.i true) ((p1.d, ptr b1 0) :: (p0.d, ptr b0 0) :: σ) w1)
    (hr : (onlyB ops ls [p0.i, p1.i] && onlyB ops (ls.set p0.i true) [p1.i] && onlyB ops (ls.set p1.i true) [p0.i]) = true := by decide +kernel) (hn : ((look σ p0.d).isNone && (look σ p1.d).isNone && !Nat.beq p0.d p1.d) = true := by rfl) (hz : (!Nat.beq p0.i p1.i) = true := by rfl) : WM2 P N ops Q p0 p1 base G f0 n q ls σ w := by
  simp only [Bool.and_eq_true, Bool.not_eq_true', Option.isNone_iff_eq_none] at hr hn
  have bq : ∀ {x y : Nat}, Nat.beq x y = false → x ≠ y := fun h e => by subst e; rw [Nat.beq_refl] at h; cases h
  refine ⟨fun gd => ?_⟩
  have hgb : ∀ w1, Ext w w1 → Gaps w1.heap.size G := fun w1 h1 => Gaps.high fun g h => Nat.le_trans (gd.1 g h) h1.size
  have hb := gd.2
  have z01 : Nat.beq p0.i p1.i = false := by simpa using hz
  obtain ⟨⟨mst_, mst0⟩, mst1⟩ := hr
  obtain ⟨⟨e0, e1⟩, x01⟩ := hn
  have hst01 : ∀ w1, Ext w w1 → ∀ b0, PB w1 b0 p0.cs base G → ∀ b1, PB w1 b1 p1.cs base G → b0 ≠ b1 → ∀ a, Fr N ((p1.d, ptr b1 0) :: (p0.d, ptr b0 0) :: σ) a → AA P ops Q (f0 + 0) ((ls.set p0.i true).set p1.i true) a w1 := by
    intro w1 hx1 b0 pb0 b1 pb1 n01 a ha
    exact (k w1 hx1 hx1.size b0 pb0.box pb0.low pb0.gaps b1 pb1.box pb1.low pb1.gaps n01).go a ha
  have hst1 : ∀ w1, Ext w w1 → ∀ b1, PB w1 b1 p1.cs base G → ∀ a, Fr N ((p1.d, ptr b1 0) :: σ) a → AA P ops Q (f0 + 1) (ls.set p1.i true) a w1 := by
    intro w1 hx1 b1 pb1  a ha
    refine aa_step (onlyB_ne mst1) fun j hj => ?_
    rcases (by simpa using onlyB_mem mst1 hj : j = p0.i) with rfl
    · refine nx_alloc ok0 fun w' h1 h1s h1b => ?_
      rw [List.set_comm _ _ (bq z01).symm]; exact hst01 w' (hx1.trans h1) w1.heap.size ⟨h1b, Nat.le_trans hb hx1.size, hgb w1 hx1⟩ b1 (pb1.ext h1) (by have := pb1.box.lt; omega) _ (Fr.swap (bq x01) (ha.put ok0.lt _))
  have hst0 : ∀ w1, Ext w w1 → ∀ b0, PB w1 b0 p0.cs base G → ∀ a, Fr N ((p0.d, ptr b0 0) :: σ) a → AA P ops Q (f0 + 1) (ls.set p0.i true) a w1 := by
    intro w1 hx1 b0 pb0  a ha
    refine aa_step (onlyB_ne mst0) fun j hj => ?_
    rcases (by simpa using onlyB_mem mst0 hj : j = p1.i) with rfl
    · refine nx_alloc ok1 fun w' h1 h1s h1b => ?_
      exact hst01 w' (hx1.trans h1) b0 (pb0.ext h1) w1.heap.size ⟨h1b, Nat.le_trans hb hx1.size, hgb w1 hx1⟩ (by have := pb0.box.lt; omega) _ (ha.put ok1.lt _)
  have hst_ : ∀ w1, Ext w w1 → ∀ a, Fr N (σ) a → AA P ops Q (f0 + 2) ls a w1 := by
    intro w1 hx1   a ha
    refine aa_step (onlyB_ne mst_) fun j hj => ?_
    rcases (by simpa using onlyB_mem mst_ hj : j = p0.i ∨ j = p1.i) with rfl | rfl
    · refine nx_alloc ok0 fun w' h1 h1s h1b => ?_
      exact hst0 w' (hx1.trans h1) w1.heap.size ⟨h1b, Nat.le_trans hb hx1.size, hgb w1 hx1⟩  _ (ha.put ok0.lt _)
    · refine nx_alloc ok1 fun w' h1 h1s h1b => ?_
      exact hst1 w' (hx1.trans h1) w1.heap.size ⟨h1b, Nat.le_trans hb hx1.size, hgb w1 hx1⟩  _ (ha.put ok1.lt _)
  exact ⟨hst_, hst0, hst1, hst01⟩
end
end Go.Gw

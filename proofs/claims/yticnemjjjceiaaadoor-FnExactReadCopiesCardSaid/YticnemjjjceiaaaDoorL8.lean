/- Rules of my own: regions that draw their order and hold calls, new objects or stores among what only reads. -/
import Derived.Test.YticnemjjjceiaaaDoorL7
import Derived.OrdersHeld
namespace Go.Gw
open Go
set_option linter.unusedVariables false
set_option linter.unusedSimpArgs false

section
variable {P : Program} {N : Nat} {Q : Post} {σ : Fm} {w : World} {ops : Array Oper} {rest : List Oper} {op : Op} {ty : TypeId} {pos : String} {af : Array Edge} {d : Nat} {v : Value}

/-- what may turn what was there -/
def spoilOp : Op → Bool
  | .store _ _ _ => true
  | .mapUpdate _ _ _ _ => true
  | .insert _ _ _ _ => true
  | .entryStore _ _ _ _ => true
  | .call c => match c.callee with
    | .builtin .append => true
    | .builtin .copy => true
    | .builtin .clear => true
    | .builtin .delete => true
    | .value (.func f) => ([7] : List Nat).any (Nat.beq f)
    | _ => false
  | _ => false
def spoil (ops : Array Oper) (k : Nat) : Bool := match ops[k]? with
  | some o => spoilOp o.op
  | none => false
/-- k comes behind i -/
def waitsB (ops : Array Oper) : Nat → Nat → Nat → Bool
  | 0, _, _ => false
  | n + 1, k, i => match ops[k]? with
    | some o => o.after.any fun e => Region.binds .any e && (Nat.beq e.on i || waitsB ops n e.on i)
    | none => false
def Closed (ops : Array Oper) (ls : Array Bool) : Prop := ∀ k o, ops[k]? = some o → ls.getD k false = true → ∀ e ∈ o.after, Region.binds .any e = true → ls.getD e.on false = true
def closedB (ops : Array Oper) (ls : Array Bool) : Bool := (List.range ops.size).all fun k => !ls.getD k false || match ops[k]? with
  | some o => o.after.all fun e => !Region.binds .any e || ls.getD e.on false
  | none => true
theorem closedB_spec {ls : Array Bool} (h : closedB ops ls = true) : Closed ops ls := fun k o hk hl e he hb => by
  simp only [closedB, List.all_eq_true, List.mem_range] at h
  have h1 := h k (Array.getElem?_eq_some_iff.1 hk).1
  rw [hl, hk] at h1
  simp only [Bool.not_true, Bool.false_or] at h1
  have := Array.all_eq_true_iff_forall_mem.1 h1 e he
  rw [hb] at this
  simpa using this
theorem waits_listed {ls : Array Bool} (hc : Closed ops ls) {i : Nat} : ∀ (n k : Nat) (o : Oper), ops[k]? = some o → (∀ e ∈ o.after, Region.binds .any e = true → ls.getD e.on false = true) → waitsB ops n k i = true → ls.getD i false = true
  | 0, _, _, _, _, h => by cases h
  | n + 1, k, o, hk, ha, h => by
    unfold waitsB at h
    rw [hk] at h
    obtain ⟨e, he, h1⟩ := Array.any_eq_true'.1 h
    simp only [Bool.and_eq_true, Bool.or_eq_true] at h1
    have hl := ha e he h1.1
    rcases h1.2 with h2 | h2
    · rw [← Nat.eq_of_beq_eq_true h2]; exact hl
    · cases n with
      | zero => cases h2
      | succ n =>
        have h3 := h2
        unfold waitsB at h3
        cases ho : ops[e.on]? with
        | none => rw [ho] at h3; cases h3
        | some o' => exact waits_listed hc (n + 1) e.on o' ho (hc _ _ ho hl) h2

/-- while nothing that may turn the world has come up since 'ls', only new things have come -/
def SS (sp : Nat → Bool) (ls : Array Bool) (w : World) (listed : Array Bool) (w' : World) : Prop :=
  (∀ k, sp k = true → listed.getD k false = true → ls.getD k false = true) → Ext w w'
def wpAnyS (P : Program) (ops : Array Oper) (Q : Post) (S : Array Bool → World → Prop) : Nat → Array Bool → Act → World → Prop
  | 0, listed, a, w => Region.ready .any ops listed = [] ∧ Q .normal a w
  | fuel + 1, listed, a, w =>
    (Region.ready .any ops listed = [] → Q .normal a w) ∧
    ∀ i ∈ Region.ready .any ops listed, wpOp P ops Q i (fun a' w' => S (listed.setIfInBounds i true) w' ∧ wpAnyS P ops Q S fuel (listed.setIfInBounds i true) a' w') a w
theorem wpAny_of_S {S : Array Bool → World → Prop} : ∀ (fuel : Nat) (listed : Array Bool) (a : Act) (w : World), wpAnyS P ops Q S fuel listed a w → wpAny P .any ops Q fuel listed a w
  | 0, _, _, _, h => h
  | fuel + 1, _, _, _, h => ⟨h.1, fun i hi => wpOp_mono (fun a' w' h' => wpAny_of_S fuel _ a' w' h'.2) (h.2 i hi)⟩
theorem wpAnyS_done {S : Array Bool → World → Prop} {listed : Array Bool} {a : Act} {w : World} (hr : Region.ready .any ops listed = []) (h : Q .normal a w) : ∀ fuel, wpAnyS P ops Q S fuel listed a w
  | 0 => ⟨hr, h⟩
  | _ + 1 => ⟨fun _ => h, by rw [hr]; simp⟩
theorem wpAnyS_mono {S S' : Array Bool → World → Prop} {L : Array Bool} (hS : ∀ ls w, (∀ k, L.getD k false = true → ls.getD k false = true) → S' ls w → S ls w) : ∀ (fuel : Nat) (ls : Array Bool) (a : Act) (w : World),
    (∀ k, L.getD k false = true → ls.getD k false = true) → wpAnyS P ops Q S' fuel ls a w → wpAnyS P ops Q S fuel ls a w
  | 0, _, _, _, _, k => k
  | fuel + 1, ls, a, w, hL, k => ⟨k.1, fun i hi => wpOp_mono (fun a' w' hk =>
      have hL' : ∀ k, L.getD k false = true → (ls.setIfInBounds i true).getD k false = true := fun k hk => getD_set_true (hL k hk)
      ⟨hS _ _ hL' hk.1, wpAnyS_mono hS fuel _ _ _ hL' hk.2⟩) (k.2 i hi)⟩
theorem getD_set_or {ls : Array Bool} {i k : Nat} (h : (ls.setIfInBounds i true).getD k false = true) : k = i ∨ ls.getD k false = true := by
  by_cases e : i = k
  · exact .inl e.symm
  · rw [getD_set_ne false e] at h; exact .inr h
theorem unlisted {ls : Array Bool} {i : Nat} (h : ls.getD i true = false) : ls.getD i false = false := by
  rcases Nat.lt_or_ge i ls.size with h' | h'
  · simp [h'] at h ⊢; exact h
  · simp [Array.getElem?_eq_none h'] at h
theorem wpAnyS_first {sp : Nat → Bool} {i : Nat} {oi : Oper} {L : Array Bool} {w0 : World} (hi : ops[i]? = some oi) (hsel : ∀ (j : Nat) (o : Oper) cs b, ops[j]? = some o → o.op ≠ .select cs b)
    (hQ : ∀ c a w, Q (.panic c) (a.put oi.dst v) w → Q (.panic c) a w) (hsp : sp i = false) :
    ∀ (fuel : Nat) (listed : Array Bool) (a : Act) (w : World), Closed ops listed → (∀ k, sp k = true → listed.getD k false = true → L.getD k false = true) →
      (∀ k, sp k = true → listed.getD k false = false → waitsB ops ops.size k i = true) →
      (∀ j oj, ops[j]? = some oj → j ≠ i → listed.getD j true = false → (∀ e ∈ oj.after, Region.binds .any e = true → e.on ≠ i) → oi.apart ops oj = true) →
      i ∈ Region.ready .any ops listed → YieldsIf P ops (fun w' => Ext w0 w') oi v a → Ext w0 w →
      wpAnyS P ops Q (SS sp L w0) fuel (listed.setIfInBounds i true) (a.put oi.dst v) w → wpAnyS P ops Q (SS sp L w0) (fuel + 1) listed a w := by
  intro fuel
  induction fuel with
  | zero =>
    intro listed a w hcl hK hw _ hr hy hS H
    refine ⟨fun h => (by rw [h] at hr; cases hr), fun j hj => ?_⟩
    by_cases hji : j = i
    · subst hji; exact hy.wpOp hi hS ⟨fun _ => hS, H⟩
    · have := ready_mono hj hji
      rw [H.1] at this
      cases this
  | succ fuel ih =>
    intro listed a w hcl hK hw hfree hr hy hS H
    refine ⟨fun h => (by rw [h] at hr; cases hr), fun j hj => ?_⟩
    by_cases hji : j = i
    · subst hji; exact hy.wpOp hi hS ⟨fun _ => hS, H⟩
    · have h1 := H.2 j (ready_mono hj hji)
      obtain ⟨hjun, oj, hoj, hall⟩ := mem_ready.1 hj
      have hiun := unlisted (mem_ready.1 hr).1
      have hjs : sp j = false := by
        cases hs : sp j
        · rfl
        · have := waits_listed hcl _ j oj hoj hall (hw j hs (unlisted hjun))
          rw [hiun] at this; cases this
      have hnot : ∀ e ∈ oj.after, Region.binds .any e = true → e.on ≠ i := fun e he hb heq => by
        have h1 := hall e he hb
        rw [heq, hiun] at h1
        cases h1
      have h2 := wpOp_putIf hoj (hfree j oj hoj hji hjun hnot) (fun cs b => hsel i oi cs b hi) (fun cs b => hsel j oj cs b hoj) hQ hy h1
      have hfree' : ∀ k ok, ops[k]? = some ok → k ≠ i → (listed.setIfInBounds j true).getD k true = false →
          (∀ e ∈ ok.after, Region.binds .any e = true → e.on ≠ i) → oi.apart ops ok = true := fun k ok hk hki hun hno => by
        refine hfree k ok hk hki ?_ hno
        by_cases hjk : j = k
        · subst hjk; exact hjun
        · rw [getD_set_ne true hjk] at hun; exact hun
      have hcl' : Closed ops (listed.setIfInBounds j true) := fun k o hk hl e he hb => by
        rcases getD_set_or hl with rfl | hl
        · rw [hoj] at hk; cases hk; exact getD_set_true (hall e he hb)
        · exact getD_set_true (hcl k o hk hl e he hb)
      have hK' : ∀ k, sp k = true → (listed.setIfInBounds j true).getD k false = true → L.getD k false = true := fun k hs hl => by
        rcases getD_set_or hl with rfl | hl
        · rw [hjs] at hs; cases hs
        · exact hK k hs hl
      have hw' : ∀ k, sp k = true → (listed.setIfInBounds j true).getD k false = false → waitsB ops ops.size k i = true := fun k hs hl => by
        refine hw k hs ?_
        cases h : listed.getD k false
        · rfl
        · rw [getD_set_true h] at hl; cases hl
      refine wpOp_mono (fun a' w' h3 => ?_) h2
      obtain ⟨h3y, h3s, h3k⟩ := h3
      have hx : Ext w0 w' := h3s fun k hs hl => by
        rcases getD_set_or hl with rfl | hl
        · rw [hjs] at hs; cases hs
        · rcases getD_set_or hl with rfl | hl
          · rw [hsp] at hs; cases hs
          · exact hK k hs hl
      refine ⟨fun _ => hx, ih (listed.setIfInBounds j true) a' w' hcl' hK' hw' hfree' (ready_mono hr (Ne.symm hji)) h3y hx ?_⟩
      rw [Array.setIfInBounds_comm _ _ hji]
      exact h3k

/-- the same for one that yields its value in whatever world -/
theorem wpAnyS_firstA {sp : Nat → Bool} {i : Nat} {oi : Oper} {L : Array Bool} {w0 : World} (hi : ops[i]? = some oi) (hsel : ∀ (j : Nat) (o : Oper) cs b, ops[j]? = some o → o.op ≠ .select cs b)
    (hQ : ∀ c a w, Q (.panic c) (a.put oi.dst v) w → Q (.panic c) a w) (hsp : sp i = false) :
    ∀ (fuel : Nat) (listed : Array Bool) (a : Act) (w : World),
      (∀ j oj, ops[j]? = some oj → j ≠ i → listed.getD j true = false → (∀ e ∈ oj.after, Region.binds .any e = true → e.on ≠ i) → oi.apart ops oj = true) →
      i ∈ Region.ready .any ops listed → YieldsIf P ops (fun _ => True) oi v a → SS sp L w0 listed w →
      wpAnyS P ops Q (SS sp L w0) fuel (listed.setIfInBounds i true) (a.put oi.dst v) w → wpAnyS P ops Q (SS sp L w0) (fuel + 1) listed a w := by
  have hdrop : ∀ (l : Array Bool) w', SS sp L w0 (l.setIfInBounds i true) w' → SS sp L w0 l w' := fun l w' h hk => h fun k hs hl => by
    rcases getD_set_or hl with rfl | hl
    · rw [hsp] at hs; cases hs
    · exact hk k hs hl
  have hadd : ∀ (l : Array Bool) w', SS sp L w0 l w' → SS sp L w0 (l.setIfInBounds i true) w' := fun l w' h hk => h fun k hs hl => hk k hs (getD_set_true hl)
  intro fuel
  induction fuel with
  | zero =>
    intro listed a w _ hr hy hS H
    refine ⟨fun h => (by rw [h] at hr; cases hr), fun j hj => ?_⟩
    by_cases hji : j = i
    · subst hji; exact hy.wpOp hi trivial ⟨hadd _ _ hS, H⟩
    · have := ready_mono hj hji
      rw [H.1] at this
      cases this
  | succ fuel ih =>
    intro listed a w hfree hr hy hS H
    refine ⟨fun h => (by rw [h] at hr; cases hr), fun j hj => ?_⟩
    by_cases hji : j = i
    · subst hji; exact hy.wpOp hi trivial ⟨hadd _ _ hS, H⟩
    · have h1 := H.2 j (ready_mono hj hji)
      obtain ⟨hjun, oj, hoj, hall⟩ := mem_ready.1 hj
      have hiun := unlisted (mem_ready.1 hr).1
      have hnot : ∀ e ∈ oj.after, Region.binds .any e = true → e.on ≠ i := fun e he hb heq => by
        have h1 := hall e he hb
        rw [heq, hiun] at h1
        cases h1
      have h2 := wpOp_putIf hoj (hfree j oj hoj hji hjun hnot) (fun cs b => hsel i oi cs b hi) (fun cs b => hsel j oj cs b hoj) hQ hy h1
      have hfree' : ∀ k ok, ops[k]? = some ok → k ≠ i → (listed.setIfInBounds j true).getD k true = false →
          (∀ e ∈ ok.after, Region.binds .any e = true → e.on ≠ i) → oi.apart ops ok = true := fun k ok hk hki hun hno => by
        refine hfree k ok hk hki ?_ hno
        by_cases hjk : j = k
        · subst hjk; exact hjun
        · rw [getD_set_ne true hjk] at hun; exact hun
      refine wpOp_mono (fun a' w' h3 => ?_) h2
      obtain ⟨h3y, h3s, h3k⟩ := h3
      rw [Array.setIfInBounds_comm _ _ (Ne.symm hji)] at h3s h3k
      have hs' := hdrop _ _ h3s
      exact ⟨hs', ih (listed.setIfInBounds j true) a' w' hfree' (ready_mono hr (Ne.symm hji)) h3y hs' h3k⟩
def mayTakeA (ops : Array Oper) (sp : Nat → Bool) (ls : Array Bool) (i : Nat) : Bool :=
  (Region.ready .any ops ls).contains i && (Region.free .any ops ls i && (Region.noSelect ops && !sp i))
theorem take_A {sp : Nat → Bool} {i fuel : Nat} {oi : Oper} {ls : Array Bool} {a : Act} (hi : ops[i]? = some oi) (hm : mayTakeA ops sp ls i = true) (hQ : ∀ c a w, Q (.panic c) (a.put oi.dst v) w → Q (.panic c) a w)
    (hy : YieldsIf P ops (fun _ => True) oi v a) (h : wpAnyS P ops Q (SS sp (ls.setIfInBounds i true) w) fuel (ls.setIfInBounds i true) (a.put oi.dst v) w) : wpAnyS P ops Q (SS sp ls w) (fuel + 1) ls a w := by
  unfold mayTakeA at hm
  simp only [Bool.and_eq_true] at hm
  obtain ⟨h1, h2, h3, h4⟩ := hm
  have hsp : sp i = false := by simpa using h4
  refine wpAnyS_firstA hi (Region.noSelect_spec h3) hQ hsp fuel ls a w (Region.free_spec hi h2) (by simpa using h1) hy (fun _ => Chg.refl _ _ _) ?_
  refine wpAnyS_mono (L := #[]) (fun l w' _ hs hk => hs fun k hsk hlk => ?_) _ _ _ _ (fun k hk => by simp at hk) h
  exact getD_set_true (hk k hsk hlk)

/-- may number i be taken now, ahead of the others? -/
def mayTake (ops : Array Oper) (sp : Nat → Bool) (ls : Array Bool) (i : Nat) : Bool :=
  (Region.ready .any ops ls).contains i && (Region.free .any ops ls i && (Region.noSelect ops && (!sp i && (closedB ops ls && (List.range ops.size).all fun k => !sp k || ls.getD k false || waitsB ops ops.size k i))))
theorem spoil_lt {k : Nat} (h : spoil ops k = true) : k < ops.size := by
  unfold spoil at h
  split at h
  · rename_i o ho; exact (Array.getElem?_eq_some_iff.1 ho).1
  · cases h
theorem take_S {sp : Nat → Bool} (hsz : ∀ k, sp k = true → k < ops.size) {i fuel : Nat} {oi : Oper} {ls : Array Bool} {a : Act} (hi : ops[i]? = some oi) (hm : mayTake ops sp ls i = true) (hQ : ∀ c a w, Q (.panic c) (a.put oi.dst v) w → Q (.panic c) a w)
    (hy : YieldsIf P ops (fun w' => Ext w w') oi v a) (h : wpAnyS P ops Q (SS sp (ls.setIfInBounds i true) w) fuel (ls.setIfInBounds i true) (a.put oi.dst v) w) : wpAnyS P ops Q (SS sp ls w) (fuel + 1) ls a w := by
  unfold mayTake at hm
  simp only [Bool.and_eq_true] at hm
  obtain ⟨h1, h2, h3, h4, h5, h6⟩ := hm
  have hsp : sp i = false := by simpa using h4
  refine wpAnyS_first hi (Region.noSelect_spec h3) hQ hsp fuel ls a w (closedB_spec h5) (fun _ _ h => h) (fun k hk hl => ?_) (Region.free_spec hi h2) (by simpa using h1) hy (Chg.refl _ _ _) ?_
  · have := List.all_eq_true.1 h6 k (List.mem_range.2 (hsz k hk))
    rw [hk, hl] at this
    simpa using this
  · refine wpAnyS_mono (L := #[]) (fun l w' _ hs hk => hs fun k hsk hlk => ?_) _ _ _ _ (fun k hk => by simp at hk) h
    exact getD_set_true (hk k hsk hlk)

/-- what is still to come: the queue q; n: how often it may still be turned -/
structure WH (P : Program) (N : Nat) (ops : Array Oper) (Q : Post) (fuel n : Nat) (q : List (Nat × Oper)) (ls : List Bool) (σ : Fm) (w : World) : Prop where
  go : ∀ a, Fr N σ a → wpAnyS P ops Q (SS (spoil ops) ls.toArray w) fuel ls.toArray a w
/-- behind one that may turn the world -/
def HK (P : Program) (N : Nat) (ops : Array Oper) (Q : Post) (fuel i : Nat) (q : List (Nat × Oper)) (ls : List Bool) (w : World) (a : Act) (w' : World) : Prop :=
  SS (spoil ops) ls.toArray w (ls.set i true).toArray w' ∧ wpAnyS P ops Q (SS (spoil ops) ls.toArray w) fuel (ls.set i true).toArray a w'
def numb : Nat → List Oper → List (Nat × Oper)
  | _, [] => []
  | k, o :: r => (k, o) :: numb (k + 1) r
def noes : List Oper → List Bool
  | [] => []
  | _ :: r => false :: noes r
theorem noes_eq : ∀ l : List Oper, noes l = List.replicate l.length false
  | [] => rfl
  | _ :: r => by simp [noes, noes_eq r, List.replicate_succ]

theorem c_region_held {i : Nat} {l : List Oper} (hm : P.follows .mixedOrders = true)
    (h : ∀ wd, Ext w wd → wd.heap.size = w.heap.size → WH P N l.toArray Q l.length l.length (numb 0 l) (noes l) σ wd) : C P N (.region i l.toArray true) Q σ w := by
  refine ⟨fun a ha => wp_region_any hm (wpAny_of_S (S := SS (spoil l.toArray) (List.replicate l.length false).toArray w.drew) _ _ _ _ ?_)⟩
  have := (h w.drew (Chg.drew w) rfl).go a ha
  rw [noes_eq] at this
  rw [List.size_toArray, ← List.toArray_replicate]
  exact this

/-- only what reads -/
def calm (l : List Oper) : Bool := l.all fun o => match o.op with
  | .call c => match c.callee with | .builtin .len => true | .builtin .max => true | .builtin .min => true | _ => false
  | .alloc _ => false
  | .box _ _ => false
  | .makeMap _ _ => false
  | .mapUpdate _ _ _ _ => false
  | .insert _ _ _ _ => false
  | .convert _ _ _ => true
  | .store _ _ _ => false
  | .buildSlice _ _ _ => false
  | .makeSlice _ _ _ => false
  | _ => true
theorem c_region_calm {i : Nat} {l : List Oper} (hm : P.follows .mixedOrders = true) (hc : calm l = true) (hB : Region.lexB .any l.toArray = true)
    (h : WQ P N l.toArray (Ext w) (fun a' => ∀ w', Ext w w' → Q .normal a' w') l σ) : C P N (.region i l.toArray true) Q σ w := c_region_quiet hm hB h
theorem set_arr (ls : List Bool) (i : Nat) : ls.toArray.setIfInBounds i true = (ls.set i true).toArray := by simp

theorem h_pure {i fuel n : Nat} {q : List (Nat × Oper)} {ls : List Bool} (hi : ops[i]? = some ⟨some d, op, ty, pos, af, none⟩) (h : YE P σ op ty w v) (hd : Nat.blt d N = true)
    (k : WH P N ops Q fuel q.length q (ls.set i true) ((d, v) :: σ) w)
    (hm : mayTake ops (spoil ops) ls.toArray i = true := by decide +kernel) (hQ : ∀ c a w, Q (.panic c) (a.put (some d) v) w → Q (.panic c) a w := by exact fun _ _ _ h => h) :
    WH P N ops Q (fuel + 1) n ((i, ⟨some d, op, ty, pos, af, none⟩) :: q) ls σ w := by
  refine ⟨fun a ha => take_S (fun _ => spoil_lt) hi hm hQ (.inl ⟨by simp [Region.wanted], fun w' hw' => ?_⟩) (by rw [set_arr]; exact k.go _ (ha.put hd v))⟩
  rw [execOp_eq]
  exact h.go w' hw' _ fun x v hx => ha.eval hx
theorem h_yes {i fuel n : Nat} {q : List (Nat × Oper)} {ls : List Bool} {j t : Nat} {b : Bool} (hi : ops[i]? = some ⟨some d, op, ty, pos, af, some (j, b)⟩) (hj : (ops[j]?).bind (·.dst) = some t) (ht : look σ t = some (.bool b)) (h : YE P σ op ty w v) (hd : Nat.blt d N = true)
    (k : WH P N ops Q fuel q.length q (ls.set i true) ((d, v) :: σ) w)
    (hm : mayTake ops (spoil ops) ls.toArray i = true := by decide +kernel) (hQ : ∀ c a w, Q (.panic c) (a.put (some d) v) w → Q (.panic c) a w := by exact fun _ _ _ h => h) :
    WH P N ops Q (fuel + 1) n ((i, ⟨some d, op, ty, pos, af, some (j, b)⟩) :: q) ls σ w := by
  refine ⟨fun a ha => take_S (fun _ => spoil_lt) hi hm hQ (.inl ⟨by simp [Region.wanted, yielded_of ha hj ht], fun w' hw' => ?_⟩) (by rw [set_arr]; exact k.go _ (ha.put hd v))⟩
  rw [execOp_eq]
  exact h.go w' hw' _ fun x v hx => ha.eval hx
theorem h_no {i fuel n : Nat} {q : List (Nat × Oper)} {ls : List Bool} {j t : Nat} {b b' : Bool} (hi : ops[i]? = some ⟨some d, op, ty, pos, af, some (j, b')⟩) (hj : (ops[j]?).bind (·.dst) = some t) (ht : look σ t = some (.bool b)) (hb : (b == b') = false) (hd : Nat.blt d N = true)
    (k : WH P N ops Q fuel q.length q (ls.set i true) ((d, undef) :: σ) w)
    (hm : mayTake ops (spoil ops) ls.toArray i = true := by decide +kernel) (hQ : ∀ c a w, Q (.panic c) (a.put (some d) undef) w → Q (.panic c) a w := by exact fun _ _ _ h => h) :
    WH P N ops Q (fuel + 1) n ((i, ⟨some d, op, ty, pos, af, some (j, b')⟩) :: q) ls σ w :=
  ⟨fun a ha => take_S (fun _ => spoil_lt) hi hm hQ (.inr ⟨by simp [Region.wanted, yielded_of ha hj ht, hb], rfl⟩) (by rw [set_arr]; exact k.go _ (ha.put hd _))⟩
theorem h_none {i fuel n : Nat} {q : List (Nat × Oper)} {ls : List Bool} {j t : Nat} {b' : Bool} (hi : ops[i]? = some ⟨some d, op, ty, pos, af, some (j, b')⟩) (hj : (ops[j]?).bind (·.dst) = some t) (ht : look σ t = some undef) (hd : Nat.blt d N = true)
    (k : WH P N ops Q fuel q.length q (ls.set i true) ((d, undef) :: σ) w)
    (hm : mayTake ops (spoil ops) ls.toArray i = true := by decide +kernel) (hQ : ∀ c a w, Q (.panic c) (a.put (some d) undef) w → Q (.panic c) a w := by exact fun _ _ _ h => h) :
    WH P N ops Q (fuel + 1) n ((i, ⟨some d, op, ty, pos, af, some (j, b')⟩) :: q) ls σ w :=
  ⟨fun a ha => take_S (fun _ => spoil_lt) hi hm hQ (.inr ⟨by simp [Region.wanted, yielded_undef ha hj ht], rfl⟩) (by rw [set_arr]; exact k.go _ (ha.put hd _))⟩
theorem h_part_dec {i fuel n : Nat} {o : Option Tmp} {q : List (Nat × Oper)} {ls : List Bool} {j t : Nat} {b' : Bool} {p : Prop} {dp : Decidable p} (hj : (ops[j]?).bind (·.dst) = some t) (ht : look σ t = some (.bool (decide p)))
    (k1 : p → WH P N ops Q fuel n ((i, ⟨o, op, ty, pos, af, some (j, b')⟩) :: q) ls ((t, .bool true) :: σ) w) (k2 : ¬ p → WH P N ops Q fuel n ((i, ⟨o, op, ty, pos, af, some (j, b')⟩) :: q) ls ((t, .bool false) :: σ) w) :
    WH P N ops Q fuel n ((i, ⟨o, op, ty, pos, af, some (j, b')⟩) :: q) ls σ w := by
  refine ⟨fun a ha => ?_⟩
  have hv := ha.val t _ ht
  have hf : Fr N ((t, .bool (decide p)) :: σ) a := ha.same hv
  by_cases hp : p
  · exact (k1 hp).go a (by simpa [hp] using hf)
  · exact (k2 hp).go a (by simpa [hp] using hf)
theorem h_part {i fuel n : Nat} {o : Option Tmp} {q : List (Nat × Oper)} {ls : List Bool} {j t : Nat} {b b' : Bool} (hj : (ops[j]?).bind (·.dst) = some t) (ht : look σ t = some (.bool b))
    (k1 : b = true → WH P N ops Q fuel n ((i, ⟨o, op, ty, pos, af, some (j, b')⟩) :: q) ls ((t, .bool true) :: σ) w) (k2 : b = false → WH P N ops Q fuel n ((i, ⟨o, op, ty, pos, af, some (j, b')⟩) :: q) ls ((t, .bool false) :: σ) w) :
    WH P N ops Q fuel n ((i, ⟨o, op, ty, pos, af, some (j, b')⟩) :: q) ls σ w := by
  refine ⟨fun a ha => ?_⟩
  have hv := ha.val t _ ht
  have hf : Fr N ((t, .bool b) :: σ) a := ha.same hv
  cases b
  · exact (k2 rfl).go a hf
  · exact (k1 rfl).go a hf
/-- one that yields its value in whatever world -/
theorem h_any {i fuel n : Nat} {q : List (Nat × Oper)} {ls : List Bool} (hi : ops[i]? = some ⟨some d, op, ty, pos, af, none⟩) (h : ∀ w, YE P σ op ty w v) (hd : Nat.blt d N = true)
    (k : WH P N ops Q fuel q.length q (ls.set i true) ((d, v) :: σ) w)
    (hm : mayTakeA ops (spoil ops) ls.toArray i = true := by decide +kernel) (hQ : ∀ c a w, Q (.panic c) (a.put (some d) v) w → Q (.panic c) a w := by exact fun _ _ _ h => h) :
    WH P N ops Q (fuel + 1) n ((i, ⟨some d, op, ty, pos, af, none⟩) :: q) ls σ w := by
  refine ⟨fun a ha => take_A hi hm hQ (.inl ⟨by simp [Region.wanted], fun w' _ => ?_⟩) (by rw [set_arr]; exact k.go _ (ha.put hd v))⟩
  rw [execOp_eq]
  exact (h w').go w' (Chg.refl _ _ _) _ fun x v hx => ha.eval hx
theorem h_turn {i fuel n : Nat} {o : Oper} {q : List (Nat × Oper)} {ls : List Bool} (k : WH P N ops Q fuel n (q ++ [(i, o)]) ls σ w) : WH P N ops Q fuel (n + 1) ((i, o) :: q) ls σ w := ⟨k.go⟩
theorem h_nil {fuel n : Nat} {ls : List Bool} (k : X N .normal Q σ w) (hr : Region.ready .any ops ls.toArray = [] := by decide +kernel) : WH P N ops Q fuel n [] ls σ w := ⟨fun a ha => wpAnyS_done hr (k.go a ha) fuel⟩

theorem wpOp_of_list {i : Nat} {o : Oper} {K : Act → World → Prop} {a : Act} (hi : ops[i]? = some o) (h : wpList P ops (Exit.then K Q) [o] a w) : wpOp P ops Q i K a w := by
  unfold wpOp
  simp only [hi]
  unfold wpList at h
  split
  · rename_i hw
    rw [if_pos hw] at h
    rcases h with h | ⟨h1, a', w', h2⟩
    · left
      unfold Oper.wp at *
      generalize (execOp a.eval o).run P w = r at *
      cases r with
      | ok n w' =>
        cases n <;> simp only [Oper.upon, wpList, Exit.then] at h ⊢ <;> first
          | exact h
          | exact Calls.mono h (fun e w'' he => by cases e <;> exact he)
          | exact Rows.mono h (fun _ _ he => he)
      | halt x w' => cases x <;> simp only [Oper.upon, Exit.then] at h ⊢ <;> exact h
    · exact .inr ⟨h1, a', w', h2⟩
  · rename_i hw
    rw [if_neg hw] at h
    exact h
/-- only this one may come up -/
theorem h_one {i fuel n : Nat} {o : Oper} {q : List (Nat × Oper)} {ls : List Bool} (hi : ops[i]? = some o) (k : W P N ops (Exit.then (HK P N ops Q fuel i q ls w) Q) [o] σ w)
    (hr : Region.ready .any ops ls.toArray = [i] := by decide +kernel) : WH P N ops Q (fuel + 1) n ((i, o) :: q) ls σ w :=
  ⟨fun a ha => ⟨fun h0 => (by rw [h0] at hr; cases hr), fun i' hi' => by
    rw [hr] at hi'
    obtain rfl : i' = i := by simpa using hi'
    rw [set_arr]
    exact wpOp_of_list hi (k.go a ha)⟩⟩
/-- one of two -/
theorem h_two {i j fuel n : Nat} {o o' : Oper} {q : List (Nat × Oper)} {ls : List Bool} (hi : ops[i]? = some o) (hj : ops[j]? = some o')
    (k : W P N ops (Exit.then (HK P N ops Q fuel i ((j, o') :: q) ls w) Q) [o] σ w) (k' : W P N ops (Exit.then (HK P N ops Q fuel j ((i, o) :: q) ls w) Q) [o'] σ w)
    (hr : Region.ready .any ops ls.toArray = [i, j] := by decide +kernel) : WH P N ops Q (fuel + 1) n ((i, o) :: (j, o') :: q) ls σ w :=
  ⟨fun a ha => ⟨fun h0 => (by rw [h0] at hr; cases hr), fun i' hi' => by
    rw [hr] at hi'
    rcases (by simpa using hi' : i' = i ∨ i' = j) with rfl | rfl
    · rw [set_arr]; exact wpOp_of_list hi (k.go a ha)
    · rw [set_arr]; exact wpOp_of_list hj (k'.go a ha)⟩⟩
/-- on, behind one that turns nothing that was there -/
theorem x_held {fuel i : Nat} {q : List (Nat × Oper)} {ls : List Bool} {w' : World} (k : WH P N ops Q fuel q.length q (ls.set i true) σ w') (hs : spoil ops i = false := by decide +kernel) (hx : Ext w w' := by repeat (first | exact Go.Gw.Chg.refl _ _ _ | assumption | refine Go.Gw.Chg.next ?_ (by assumption) (by omega))) : X N .normal (Exit.then (HK P N ops Q fuel i q ls w) Q) σ w' :=
  ⟨fun a ha => ⟨fun _ => hx, by
    refine wpAnyS_mono (L := #[]) (fun l w'' _ hk hp => hx.trans (hk fun k hsk hlk => ?_)) _ _ _ _ (fun k hk => by simp at hk) (k.go a ha)
    have := hp k hsk hlk
    rw [← set_arr]
    exact getD_set_true this⟩⟩
/-- on, behind one that may -/
theorem x_heldk {fuel i : Nat} {q : List (Nat × Oper)} {ls : List Bool} {w' : World} (k : WH P N ops Q fuel q.length q (ls.set i true) σ w') (hs : (spoil ops i && !ls.toArray.getD i true) = true := by decide +kernel) : X N .normal (Exit.then (HK P N ops Q fuel i q ls w) Q) σ w' := by
  have hs : spoil ops i = true ∧ ls.toArray.getD i true = false := by simpa only [Bool.and_eq_true, Bool.not_eq_true'] using hs
  have hlt : i < ls.toArray.size := by
    rcases Nat.lt_or_ge i ls.toArray.size with h' | h'
    · exact h'
    · have := hs.2; rw [Array.getD_eq_getD_getElem?, Array.getElem?_eq_none h'] at this; cases this
  have hin : (ls.toArray.setIfInBounds i true).getD i false = true := by rw [Array.getD_eq_getD_getElem?, Array.getElem?_setIfInBounds_self_of_lt hlt]; rfl
  have hno : ∀ l : Array Bool, l.getD i false = true → ∀ w'', SS (spoil ops) ls.toArray w l w'' := fun l hl w'' hp => by
    have := hp i hs.1 hl
    rw [unlisted hs.2] at this; cases this
  rw [set_arr] at hin
  exact ⟨fun a ha => ⟨hno _ hin _, wpAnyS_mono (L := (ls.set i true).toArray) (fun l w'' hL _ => hno l (hL i hin) w'') _ _ _ _ (fun _ h => h) (k.go a ha)⟩⟩
end
end Go.Gw

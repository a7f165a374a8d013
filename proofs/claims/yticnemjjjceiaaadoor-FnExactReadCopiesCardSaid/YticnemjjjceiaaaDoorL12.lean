/- Rules of my own: regions that draw their order, read first, and then append to what they make themselves. -/
import Derived.Test.YticnemjjjceiaaaDoorL11
namespace Go.Gw
open Go
set_option linter.unusedVariables false
set_option linter.unusedSimpArgs false
section
variable {P : Program} {N : Nat} {Q : Post} {σ : Fm} {w wb : World} {ops : Array Oper} {op : Op} {ty : TypeId} {pos : String} {af : Array Edge} {d : Nat} {v : Value}
def isApp (ops : Array Oper) (k : Nat) : Bool := match ops[k]? with
  | some o => match o.op with
    | .call c => match c.callee with
      | .builtin .append => true
      | _ => false
    | _ => false
  | none => false
def spoilB (ops : Array Oper) (k : Nat) : Bool := spoil ops k && !isApp ops k
theorem spoilB_lt {k : Nat} (h : spoilB ops k = true) : k < ops.size := by
  simp only [spoilB, Bool.and_eq_true] at h; exact spoil_lt h.1
structure WB (P : Program) (N : Nat) (ops : Array Oper) (Q : Post) (wb : World) (fuel n : Nat) (q : List (Nat × Oper)) (ls : List Bool) (σ : Fm) (w : World) : Prop where
  go : ∀ a, Fr N σ a → wpAnyS P ops Q (SS (spoilB ops) ls.toArray wb) fuel ls.toArray a w
def HB (P : Program) (N : Nat) (ops : Array Oper) (Q : Post) (wb : World) (fuel i : Nat) (q : List (Nat × Oper)) (ls : List Bool) (a : Act) (w' : World) : Prop :=
  SS (spoilB ops) ls.toArray wb (ls.set i true).toArray w' ∧ wpAnyS P ops Q (SS (spoilB ops) ls.toArray wb) fuel (ls.set i true).toArray a w'
theorem c_region_base {i : Nat} {l : List Oper} (hm : P.follows .mixedOrders = true)
    (h : ∀ wd, Ext w wd → wd.heap.size = w.heap.size → Since 0 0 wd wd → WB P N l.toArray Q wd l.length l.length (numb 0 l) (noes l) σ wd) : C P N (.region i l.toArray true) Q σ w := by
  refine ⟨fun a ha => wp_region_any hm (wpAny_of_S (S := SS (spoilB l.toArray) (List.replicate l.length false).toArray w.drew) _ _ _ _ ?_)⟩
  have := (h w.drew (Chg.drew w) rfl (Since.refl _ _ _)).go a ha
  rw [noes_eq] at this
  rw [List.size_toArray, ← List.toArray_replicate]
  exact this
theorem b_pure {i fuel n : Nat} {q : List (Nat × Oper)} {ls : List Bool} (hi : ops[i]? = some ⟨some d, op, ty, pos, af, none⟩) (h : YE P σ op ty w v) (hd : Nat.blt d N = true)
    (k : WB P N ops Q w fuel q.length q (ls.set i true) ((d, v) :: σ) w)
    (hm : mayTake ops (spoilB ops) ls.toArray i = true := by decide +kernel) (hQ : ∀ c a w, Q (.panic c) (a.put (some d) v) w → Q (.panic c) a w := by exact fun _ _ _ h => h) :
    WB P N ops Q w (fuel + 1) n ((i, ⟨some d, op, ty, pos, af, none⟩) :: q) ls σ w := by
  refine ⟨fun a ha => take_S (fun _ => spoilB_lt) hi hm hQ (.inl ⟨by simp [Region.wanted], fun w' hw' => ?_⟩) (by rw [set_arr]; exact k.go _ (ha.put hd v))⟩
  rw [execOp_eq]
  exact h.go w' hw' _ fun x v hx => ha.eval hx
theorem b_any {i fuel n : Nat} {q : List (Nat × Oper)} {ls : List Bool} (hi : ops[i]? = some ⟨some d, op, ty, pos, af, none⟩) (h : ∀ w, YE P σ op ty w v) (hd : Nat.blt d N = true)
    (k : WB P N ops Q wb fuel q.length q (ls.set i true) ((d, v) :: σ) w)
    (hm : mayTakeA ops (spoilB ops) ls.toArray i = true := by decide +kernel) (hQ : ∀ c a w, Q (.panic c) (a.put (some d) v) w → Q (.panic c) a w := by exact fun _ _ _ h => h) (hx : Ext wb w := by exact Since.go (by assumption)) :
    WB P N ops Q wb (fuel + 1) n ((i, ⟨some d, op, ty, pos, af, none⟩) :: q) ls σ w := by
  refine ⟨fun a ha => ?_⟩
  unfold mayTakeA at hm
  simp only [Bool.and_eq_true] at hm
  obtain ⟨h1, h2, h3, h4⟩ := hm
  have hsp : spoilB ops i = false := by simpa using h4
  refine wpAnyS_firstA hi (Region.noSelect_spec h3) hQ hsp fuel ls.toArray a w (Region.free_spec hi h2) (by simpa using h1) (.inl ⟨by simp [Region.wanted], fun w' _ => ?_⟩) (fun _ => hx) ?_
  · rw [execOp_eq]
    exact (h w').go w' (Chg.refl _ _ _) _ fun x v hx => ha.eval hx
  · have := k.go _ (ha.put hd v)
    rw [← set_arr] at this
    exact wpAnyS_mono (L := #[]) (fun l w' _ hs hk => hs fun k hsk hlk => getD_set_true (hk k hsk hlk)) _ _ _ _ (fun k hk => by simp at hk) this
theorem b_turn {fuel n i : Nat} {o : Oper} {q : List (Nat × Oper)} {ls : List Bool} (k : WB P N ops Q wb fuel n (q ++ [(i, o)]) ls σ w) : WB P N ops Q wb fuel (n + 1) ((i, o) :: q) ls σ w := ⟨k.go⟩
theorem b_nil {fuel n : Nat} {ls : List Bool} (k : X N .normal Q σ w) (hr : Region.ready .any ops ls.toArray = [] := by decide +kernel) : WB P N ops Q wb fuel n [] ls σ w := ⟨fun a ha => wpAnyS_done hr (k.go a ha) fuel⟩
theorem b_one {i fuel n : Nat} {o : Oper} {q : List (Nat × Oper)} {ls : List Bool} (hi : ops[i]? = some o) (k : W P N ops (Exit.then (HB P N ops Q wb fuel i q ls) Q) [o] σ w)
    (hr : Region.ready .any ops ls.toArray = [i] := by decide +kernel) : WB P N ops Q wb (fuel + 1) n ((i, o) :: q) ls σ w :=
  ⟨fun a ha => ⟨fun h0 => (by rw [h0] at hr; cases hr), fun i' hi' => by
    rw [hr] at hi'
    obtain rfl : i' = i := by simpa using hi'
    rw [set_arr]
    exact wpOp_of_list hi (k.go a ha)⟩⟩
theorem b_two {i j fuel n : Nat} {o o' : Oper} {q : List (Nat × Oper)} {ls : List Bool} (hi : ops[i]? = some o) (hj : ops[j]? = some o')
    (k : W P N ops (Exit.then (HB P N ops Q wb fuel i q ls) Q) [o] σ w) (k' : W P N ops (Exit.then (HB P N ops Q wb fuel j (dropN [j] ((i, o) :: q)) ls) Q) [o'] σ w)
    (hr : onlyB ops ls [i, j] = true := by decide +kernel) : WB P N ops Q wb (fuel + 1) n ((i, o) :: q) ls σ w :=
  ⟨fun a ha => ⟨fun h0 => absurd h0 (onlyB_ne hr), fun i' hi' => by
    rcases (by simpa using onlyB_mem hr hi' : i' = i ∨ i' = j) with rfl | rfl
    · rw [set_arr]; exact wpOp_of_list hi (k.go a ha)
    · rw [set_arr]; exact wpOp_of_list hj (k'.go a ha)⟩⟩
/-- on, behind one that turns nothing that was there when the region began -/
theorem x_hb {fuel i : Nat} {q : List (Nat × Oper)} {ls : List Bool} {w' : World} (k : WB P N ops Q wb fuel q.length q (ls.set i true) σ w') (hs : spoilB ops i = false := by decide +kernel) (hx : Ext wb w' := by exact Since.go (by assumption)) : X N .normal (Exit.then (HB P N ops Q wb fuel i q ls) Q) σ w' :=
  ⟨fun a ha => ⟨fun _ => hx, by
    refine wpAnyS_mono (L := #[]) (fun l w'' _ hk hp => hk fun k hsk hlk => ?_) _ _ _ _ (fun k hk => by simp at hk) (k.go a ha)
    have := hp k hsk hlk
    rw [← set_arr]
    exact getD_set_true this⟩⟩
/-- on, behind one that may -/
theorem x_hbk {fuel i : Nat} {q : List (Nat × Oper)} {ls : List Bool} {w' : World} (k : WB P N ops Q w' fuel q.length q (ls.set i true) σ w') (hs : (spoilB ops i && !ls.toArray.getD i true) = true := by decide +kernel) : X N .normal (Exit.then (HB P N ops Q wb fuel i q ls) Q) σ w' := by
  have hs : spoilB ops i = true ∧ ls.toArray.getD i true = false := by simpa only [Bool.and_eq_true, Bool.not_eq_true'] using hs
  have hlt : i < ls.toArray.size := by
    rcases Nat.lt_or_ge i ls.toArray.size with h' | h'
    · exact h'
    · have := hs.2; rw [Array.getD_eq_getD_getElem?, Array.getElem?_eq_none h'] at this; cases this
  have hin : (ls.toArray.setIfInBounds i true).getD i false = true := by rw [Array.getD_eq_getD_getElem?, Array.getElem?_setIfInBounds_self_of_lt hlt]; rfl
  have hno : ∀ l : Array Bool, l.getD i false = true → ∀ w'', SS (spoilB ops) ls.toArray wb l w'' := fun l hl w'' hp => by
    have := hp i hs.1 hl
    rw [unlisted hs.2] at this; cases this
  rw [set_arr] at hin
  exact ⟨fun a ha => ⟨hno _ hin _, wpAnyS_mono (L := (ls.set i true).toArray) (fun l w'' hL _ => hno l (hL i hin) w'') _ _ _ _ (fun _ h => h) (k.go a ha)⟩⟩
end
end Go.Gw

/- Rules of my own: regions that draw their order, hold calls that change a few blocks, and read elsewhere. -/
import Derived.Test.YtgkljfncpgbngaaDoorL22
namespace Go.Gw
open Go
set_option linter.unusedVariables false
set_option linter.unusedSimpArgs false
section
variable {P : Program} {N : Nat} {Q : Post} {σ : Fm} {w : World} {ops : Array Oper} {op : Op} {ty : TypeId} {pos : String} {af : Array Edge} {d lo hi : Nat} {v : Value}
/-- the last operation, where it stores and all others come ahead of it: behind it nothing is asked of the world -/
def spI (ops : Array Oper) (k : Nat) : Bool := Nat.beq (k + 1) ops.size && ((match ops[k]? with
  | some o => match o.op with
    | .store _ _ _ => true
    | _ => false
  | none => false) && (List.range k).all fun j => waitsB ops ops.size k j)
theorem spI_lt {k : Nat} (h : spI ops k = true) : k < ops.size := by
  unfold spI at h
  simp only [Bool.and_eq_true] at h
  have := Nat.eq_of_beq_eq_true h.1
  omega
/-- while the last has not come up since 'ls', only lo..hi has changed -/
def SI (lo hi : Nat) (sp : Nat → Bool) (ls : Array Bool) (w : World) (listed : Array Bool) (w' : World) : Prop :=
  (∀ k, sp k = true → listed.getD k false = true → ls.getD k false = true) → Chg lo hi w w'
theorem wpAnyI_first {sp : Nat → Bool} {i : Nat} {oi : Oper} {L : Array Bool} {w0 : World} (hi' : ops[i]? = some oi) (hsel : ∀ (j : Nat) (o : Oper) cs b, ops[j]? = some o → o.op ≠ .select cs b)
    (hQ : ∀ c a w, Q (.panic c) (a.put oi.dst v) w → Q (.panic c) a w) (hsp : sp i = false) :
    ∀ (fuel : Nat) (listed : Array Bool) (a : Act) (w : World), Closed ops listed → (∀ k, sp k = true → listed.getD k false = true → L.getD k false = true) →
      (∀ k, sp k = true → listed.getD k false = false → waitsB ops ops.size k i = true) →
      (∀ j oj, ops[j]? = some oj → j ≠ i → listed.getD j true = false → (∀ e ∈ oj.after, Region.binds .any e = true → e.on ≠ i) → oi.apart ops oj = true) →
      i ∈ Region.ready .any ops listed → YieldsIf P ops (fun w' => Chg lo hi w0 w') oi v a → Chg lo hi w0 w →
      wpAnyS P ops Q (SI lo hi sp L w0) fuel (listed.setIfInBounds i true) (a.put oi.dst v) w → wpAnyS P ops Q (SI lo hi sp L w0) (fuel + 1) listed a w := by
  intro fuel
  induction fuel with
  | zero =>
    intro listed a w hcl hK hw _ hr hy hS H
    refine ⟨fun h => (by rw [h] at hr; cases hr), fun j hj => ?_⟩
    by_cases hji : j = i
    · subst hji; exact hy.wpOp hi' hS ⟨fun _ => hS, H⟩
    · have := ready_mono hj hji
      rw [H.1] at this
      cases this
  | succ fuel ih =>
    intro listed a w hcl hK hw hfree hr hy hS H
    refine ⟨fun h => (by rw [h] at hr; cases hr), fun j hj => ?_⟩
    by_cases hji : j = i
    · subst hji; exact hy.wpOp hi' hS ⟨fun _ => hS, H⟩
    · have h1 := H.2 j (ready_mono hj hji)
      obtain ⟨hjun, oj, hoj, hall⟩ := mem_ready.1 hj
      have hiun := unlisted (mem_ready.1 hr).1
      have hjs : sp j = false := by
        cases hs : sp j
        · rfl
        · have := waits_listed hcl _ j oj hoj hall (hw j hs (unlisted hjun))
          rw [hiun] at this; cases this
      have hnot : ∀ e ∈ oj.after, Region.binds .any e = true → e.on ≠ i := fun e he hb heq => by
        have h1 := hall e he hb
        rw [heq, hiun] at h1
        cases h1
      have h2 := wpOp_putIf hoj (hfree j oj hoj hji hjun hnot) (fun cs b => hsel i oi cs b hi') (fun cs b => hsel j oj cs b hoj) hQ hy h1
      have hfree' : ∀ k ok, ops[k]? = some ok → k ≠ i → (listed.setIfInBounds j true).getD k true = false →
          (∀ e ∈ ok.after, Region.binds .any e = true → e.on ≠ i) → oi.apart ops ok = true := fun k ok hk hki hun hno => by
        refine hfree k ok hk hki ?_ hno
        by_cases hjk : j = k
        · subst hjk; exact hjun
        · rw [getD_set_ne true hjk] at hun; exact hun
      have hcl' : Closed ops (listed.setIfInBounds j true) := fun k o hk hl e he hb => by
        rcases getD_set_or hl with rfl | hl
        · rw [hoj] at hk; cases hk; exact getD_set_true (hall e he hb)
        · exact getD_set_true (hcl k o hk hl e he hb)
      have hK' : ∀ k, sp k = true → (listed.setIfInBounds j true).getD k false = true → L.getD k false = true := fun k hs hl => by
        rcases getD_set_or hl with rfl | hl
        · rw [hjs] at hs; cases hs
        · exact hK k hs hl
      have hw' : ∀ k, sp k = true → (listed.setIfInBounds j true).getD k false = false → waitsB ops ops.size k i = true := fun k hs hl => by
        refine hw k hs ?_
        cases h : listed.getD k false
        · rfl
        · rw [getD_set_true h] at hl; cases hl
      refine wpOp_mono (fun a' w' h3 => ?_) h2
      obtain ⟨h3y, h3s, h3k⟩ := h3
      have hx : Chg lo hi w0 w' := h3s fun k hs hl => by
        rcases getD_set_or hl with rfl | hl
        · rw [hjs] at hs; cases hs
        · rcases getD_set_or hl with rfl | hl
          · rw [hsp] at hs; cases hs
          · exact hK k hs hl
      refine ⟨fun _ => hx, ih (listed.setIfInBounds j true) a' w' hcl' hK' hw' hfree' (ready_mono hr (Ne.symm hji)) h3y hx ?_⟩
      rw [Array.setIfInBounds_comm _ _ hji]
      exact h3k

def mayTakeI (ops : Array Oper) (ls : Array Bool) (i : Nat) : Bool :=
  (Region.ready .any ops ls).contains i && (Region.free .any ops ls i && (Region.noSelect ops && (!spI ops i && (closedB ops ls && (List.range ops.size).all fun k => !spI ops k || ls.getD k false || waitsB ops ops.size k i))))
theorem take_I {i fuel : Nat} {oi : Oper} {ls : Array Bool} {a : Act} (hi' : ops[i]? = some oi) (hm : mayTakeI ops ls i = true) (hQ : ∀ c a w, Q (.panic c) (a.put oi.dst v) w → Q (.panic c) a w)
    (hy : YieldsIf P ops (fun w' => Chg lo hi w w') oi v a) (h : wpAnyS P ops Q (SI lo hi (spI ops) (ls.setIfInBounds i true) w) fuel (ls.setIfInBounds i true) (a.put oi.dst v) w) : wpAnyS P ops Q (SI lo hi (spI ops) ls w) (fuel + 1) ls a w := by
  unfold mayTakeI at hm
  simp only [Bool.and_eq_true] at hm
  obtain ⟨h1, h2, h3, h4, h5, h6⟩ := hm
  have hsp : spI ops i = false := by simpa using h4
  refine wpAnyI_first hi' (Region.noSelect_spec h3) hQ hsp fuel ls a w (closedB_spec h5) (fun _ _ h => h) (fun k hk hl => ?_) (Region.free_spec hi' h2) (by simpa using h1) hy (Chg.refl _ _ _) ?_
  · have := List.all_eq_true.1 h6 k (List.mem_range.2 (spI_lt hk))
    rw [hk, hl] at this
    simpa using this
  · refine wpAnyS_mono (L := #[]) (fun l w' _ hs hk => hs fun k hsk hlk => ?_) _ _ _ _ (fun k hk => by simp at hk) h
    exact getD_set_true (hk k hsk hlk)
structure WI (P : Program) (N : Nat) (ops : Array Oper) (Q : Post) (lo hi : Nat) (fuel n : Nat) (q : List (Nat × Oper)) (ls : List Bool) (σ : Fm) (w : World) : Prop where
  go : ∀ a, Fr N σ a → wpAnyS P ops Q (SI lo hi (spI ops) ls.toArray w) fuel ls.toArray a w
def HI (P : Program) (N : Nat) (ops : Array Oper) (Q : Post) (lo hi : Nat) (fuel i : Nat) (q : List (Nat × Oper)) (ls : List Bool) (w : World) (a : Act) (w' : World) : Prop :=
  SI lo hi (spI ops) ls.toArray w (ls.set i true).toArray w' ∧ wpAnyS P ops Q (SI lo hi (spI ops) ls.toArray w) fuel (ls.set i true).toArray a w'
theorem c_region_inv {i : Nat} {l : List Oper} (lo hi : Nat) (hm : P.follows .mixedOrders = true)
    (h : ∀ wd, Ext w wd → wd.heap.size = w.heap.size → WI P N l.toArray Q lo hi l.length l.length (numb 0 l) (noes l) σ wd) : C P N (.region i l.toArray true) Q σ w := by
  refine ⟨fun a ha => wp_region_any hm (wpAny_of_S (S := SI lo hi (spI l.toArray) (List.replicate l.length false).toArray w.drew) _ _ _ _ ?_)⟩
  have := (h w.drew (Chg.drew w) rfl).go a ha
  rw [noes_eq] at this
  rw [List.size_toArray, ← List.toArray_replicate]
  exact this
theorem i_pure {i fuel n : Nat} {q : List (Nat × Oper)} {ls : List Bool} (hi' : ops[i]? = some ⟨some d, op, ty, pos, af, none⟩) (h : ∀ w', Chg lo hi w w' → YE P σ op ty w' v) (hd : Nat.blt d N = true)
    (k : WI P N ops Q lo hi fuel q.length q (ls.set i true) ((d, v) :: σ) w)
    (hm : mayTakeI ops ls.toArray i = true := by decide +kernel) (hQ : ∀ c a w, Q (.panic c) (a.put (some d) v) w → Q (.panic c) a w := by exact fun _ _ _ h => h) :
    WI P N ops Q lo hi (fuel + 1) n ((i, ⟨some d, op, ty, pos, af, none⟩) :: q) ls σ w := by
  refine ⟨fun a ha => take_I hi' hm hQ (.inl ⟨by simp [Region.wanted], fun w' hw' => ?_⟩) (by rw [set_arr]; exact k.go _ (ha.put hd v))⟩
  rw [execOp_eq]
  exact (h w' hw').go w' (Chg.refl _ _ _) _ fun x v hx => ha.eval hx
theorem i_yes {i fuel n : Nat} {q : List (Nat × Oper)} {ls : List Bool} {j t : Nat} {b : Bool} (hi' : ops[i]? = some ⟨some d, op, ty, pos, af, some (j, b)⟩) (hj : (ops[j]?).bind (·.dst) = some t) (ht : look σ t = some (.bool b)) (h : ∀ w', Chg lo hi w w' → YE P σ op ty w' v) (hd : Nat.blt d N = true)
    (k : WI P N ops Q lo hi fuel q.length q (ls.set i true) ((d, v) :: σ) w)
    (hm : mayTakeI ops ls.toArray i = true := by decide +kernel) (hQ : ∀ c a w, Q (.panic c) (a.put (some d) v) w → Q (.panic c) a w := by exact fun _ _ _ h => h) :
    WI P N ops Q lo hi (fuel + 1) n ((i, ⟨some d, op, ty, pos, af, some (j, b)⟩) :: q) ls σ w := by
  refine ⟨fun a ha => take_I hi' hm hQ (.inl ⟨by simp [Region.wanted, yielded_of ha hj ht], fun w' hw' => ?_⟩) (by rw [set_arr]; exact k.go _ (ha.put hd v))⟩
  rw [execOp_eq]
  exact (h w' hw').go w' (Chg.refl _ _ _) _ fun x v hx => ha.eval hx
theorem i_no {i fuel n : Nat} {q : List (Nat × Oper)} {ls : List Bool} {j t : Nat} {b b' : Bool} (hi' : ops[i]? = some ⟨some d, op, ty, pos, af, some (j, b')⟩) (hj : (ops[j]?).bind (·.dst) = some t) (ht : look σ t = some (.bool b)) (hb : (b == b') = false) (hd : Nat.blt d N = true)
    (k : WI P N ops Q lo hi fuel q.length q (ls.set i true) ((d, undef) :: σ) w)
    (hm : mayTakeI ops ls.toArray i = true := by decide +kernel) (hQ : ∀ c a w, Q (.panic c) (a.put (some d) undef) w → Q (.panic c) a w := by exact fun _ _ _ h => h) :
    WI P N ops Q lo hi (fuel + 1) n ((i, ⟨some d, op, ty, pos, af, some (j, b')⟩) :: q) ls σ w :=
  ⟨fun a ha => take_I hi' hm hQ (.inr ⟨by simp [Region.wanted, yielded_of ha hj ht, hb], rfl⟩) (by rw [set_arr]; exact k.go _ (ha.put hd _))⟩
theorem i_none {i fuel n : Nat} {q : List (Nat × Oper)} {ls : List Bool} {j t : Nat} {b' : Bool} (hi' : ops[i]? = some ⟨some d, op, ty, pos, af, some (j, b')⟩) (hj : (ops[j]?).bind (·.dst) = some t) (ht : look σ t = some undef) (hd : Nat.blt d N = true)
    (k : WI P N ops Q lo hi fuel q.length q (ls.set i true) ((d, undef) :: σ) w)
    (hm : mayTakeI ops ls.toArray i = true := by decide +kernel) (hQ : ∀ c a w, Q (.panic c) (a.put (some d) undef) w → Q (.panic c) a w := by exact fun _ _ _ h => h) :
    WI P N ops Q lo hi (fuel + 1) n ((i, ⟨some d, op, ty, pos, af, some (j, b')⟩) :: q) ls σ w :=
  ⟨fun a ha => take_I hi' hm hQ (.inr ⟨by simp [Region.wanted, yielded_undef ha hj ht], rfl⟩) (by rw [set_arr]; exact k.go _ (ha.put hd _))⟩
theorem i_part_dec {i fuel n : Nat} {o : Option Tmp} {q : List (Nat × Oper)} {ls : List Bool} {j t : Nat} {b' : Bool} {p : Prop} {dp : Decidable p} (hj : (ops[j]?).bind (·.dst) = some t) (ht : look σ t = some (.bool (decide p)))
    (k1 : p → WI P N ops Q lo hi fuel n ((i, ⟨o, op, ty, pos, af, some (j, b')⟩) :: q) ls ((t, .bool true) :: σ) w) (k2 : ¬ p → WI P N ops Q lo hi fuel n ((i, ⟨o, op, ty, pos, af, some (j, b')⟩) :: q) ls ((t, .bool false) :: σ) w) :
    WI P N ops Q lo hi fuel n ((i, ⟨o, op, ty, pos, af, some (j, b')⟩) :: q) ls σ w := by
  refine ⟨fun a ha => ?_⟩
  have hv := ha.val t _ ht
  have hf : Fr N ((t, .bool (decide p)) :: σ) a := ha.same hv
  by_cases hp : p
  · exact (k1 hp).go a (by simpa [hp] using hf)
  · exact (k2 hp).go a (by simpa [hp] using hf)
theorem i_part {i fuel n : Nat} {o : Option Tmp} {q : List (Nat × Oper)} {ls : List Bool} {j t : Nat} {b b' : Bool} (hj : (ops[j]?).bind (·.dst) = some t) (ht : look σ t = some (.bool b))
    (k1 : b = true → WI P N ops Q lo hi fuel n ((i, ⟨o, op, ty, pos, af, some (j, b')⟩) :: q) ls ((t, .bool true) :: σ) w) (k2 : b = false → WI P N ops Q lo hi fuel n ((i, ⟨o, op, ty, pos, af, some (j, b')⟩) :: q) ls ((t, .bool false) :: σ) w) :
    WI P N ops Q lo hi fuel n ((i, ⟨o, op, ty, pos, af, some (j, b')⟩) :: q) ls σ w := by
  refine ⟨fun a ha => ?_⟩
  have hv := ha.val t _ ht
  have hf : Fr N ((t, .bool b) :: σ) a := ha.same hv
  cases b
  · exact (k2 rfl).go a hf
  · exact (k1 rfl).go a hf
theorem i_turn {fuel n i : Nat} {o : Oper} {q : List (Nat × Oper)} {ls : List Bool} (k : WI P N ops Q lo hi fuel n (q ++ [(i, o)]) ls σ w) : WI P N ops Q lo hi fuel (n + 1) ((i, o) :: q) ls σ w := ⟨k.go⟩
theorem i_nil {fuel n : Nat} {ls : List Bool} (k : X N .normal Q σ w) (hr : Region.ready .any ops ls.toArray = [] := by decide +kernel) : WI P N ops Q lo hi fuel n [] ls σ w := ⟨fun a ha => wpAnyS_done hr (k.go a ha) fuel⟩
theorem i_one {i fuel n : Nat} {o : Oper} {q : List (Nat × Oper)} {ls : List Bool} (hi' : ops[i]? = some o) (k : W P N ops (Exit.then (HI P N ops Q lo hi fuel i q ls w) Q) [o] σ w)
    (hr : Region.ready .any ops ls.toArray = [i] := by decide +kernel) : WI P N ops Q lo hi (fuel + 1) n ((i, o) :: q) ls σ w :=
  ⟨fun a ha => ⟨fun h0 => (by rw [h0] at hr; cases hr), fun i' hii => by
    rw [hr] at hii
    obtain rfl : i' = i := by simpa using hii
    rw [set_arr]
    exact wpOp_of_list hi' (k.go a ha)⟩⟩
theorem i_two {i j fuel n : Nat} {o o' : Oper} {q : List (Nat × Oper)} {ls : List Bool} (hi' : ops[i]? = some o) (hj : ops[j]? = some o')
    (k : W P N ops (Exit.then (HI P N ops Q lo hi fuel i q ls w) Q) [o] σ w) (k' : W P N ops (Exit.then (HI P N ops Q lo hi fuel j (dropN [j] ((i, o) :: q)) ls w) Q) [o'] σ w)
    (hr : onlyB ops ls [i, j] = true := by decide +kernel) : WI P N ops Q lo hi (fuel + 1) n ((i, o) :: q) ls σ w :=
  ⟨fun a ha => ⟨fun h0 => absurd h0 (onlyB_ne hr), fun i' hii => by
    rcases (by simpa using onlyB_mem hr hii : i' = i ∨ i' = j) with rfl | rfl
    · rw [set_arr]; exact wpOp_of_list hi' (k.go a ha)
    · rw [set_arr]; exact wpOp_of_list hj (k'.go a ha)⟩⟩
theorem x_hi {fuel i : Nat} {q : List (Nat × Oper)} {ls : List Bool} {w' : World} (k : WI P N ops Q lo hi fuel q.length q (ls.set i true) σ w') (hx : Chg lo hi w w' := by repeat (first | exact Go.Gw.Chg.refl _ _ _ | assumption | refine Go.Gw.Chg.next ?_ (by assumption) (by omega))) : X N .normal (Exit.then (HI P N ops Q lo hi fuel i q ls w) Q) σ w' :=
  ⟨fun a ha => ⟨fun _ => hx, by
    refine wpAnyS_mono (L := #[]) (fun l w'' _ hk hp => hx.trans (hk fun k hsk hlk => ?_)) _ _ _ _ (fun k hk => by simp at hk) (k.go a ha)
    have := hp k hsk hlk
    rw [← set_arr]
    exact getD_set_true this⟩⟩
/-- on, behind the last one, which may turn what it likes -/
theorem x_hik {fuel i : Nat} {q : List (Nat × Oper)} {ls : List Bool} {w' : World} (k : WI P N ops Q lo hi fuel q.length q (ls.set i true) σ w') (hs : (spI ops i && !ls.toArray.getD i true) = true := by decide +kernel) : X N .normal (Exit.then (HI P N ops Q lo hi fuel i q ls w) Q) σ w' := by
  have hs : spI ops i = true ∧ ls.toArray.getD i true = false := by simpa only [Bool.and_eq_true, Bool.not_eq_true'] using hs
  have hlt : i < ls.toArray.size := by
    rcases Nat.lt_or_ge i ls.toArray.size with h' | h'
    · exact h'
    · have := hs.2; rw [Array.getD_eq_getD_getElem?, Array.getElem?_eq_none h'] at this; cases this
  have hin : (ls.toArray.setIfInBounds i true).getD i false = true := by rw [Array.getD_eq_getD_getElem?, Array.getElem?_setIfInBounds_self_of_lt hlt]; rfl
  have hno : ∀ l : Array Bool, l.getD i false = true → ∀ w'', SI lo hi (spI ops) ls.toArray w l w'' := fun l hl w'' hp => by
    have := hp i hs.1 hl
    rw [unlisted hs.2] at this; cases this
  rw [set_arr] at hin
  exact ⟨fun a ha => ⟨hno _ hin _, wpAnyS_mono (L := (ls.set i true).toArray) (fun l w'' hL _ => hno l (hL i hin) w'') _ _ _ _ (fun _ h => h) (k.go a ha)⟩⟩
theorem b_slice {α : Type} {E : Enc α} {e s b lo hi : Nat} {T : TypeId} {x : Operand} {v : Value} {xs : List α} {l h : Int} {ol oh : Option Operand} {i fuel n : Nat} {q : List (Nat × Oper)} {ls : List Bool} [hT : TSli P T e s b] (hi' : ops[i]? = some ⟨some d, .slice T x ol oh none, ty, pos, af, none⟩) (hx : ev σ x = some v) (hl : (ol = none ∧ l = 0) ∨ ∃ y k, ol = some y ∧ ev σ y = some (.int k l)) (hh : (oh = none ∧ h = xs.length) ∨ ∃ y k, oh = some y ∧ ev σ y = some (.int k h))
    (hd : Nat.blt d N = true) (k : ∀ u, SL w lo hi u ((xs.take h.toNat).drop l.toNat) → WB P N ops Q w fuel q.length q (ls.set i true) ((d, u) :: σ) w) (H : SL w lo hi v xs := by repeat (first | assumption | exact Go.Gw.Own.sl (by assumption) | exact Go.Gw.Box.at (by assumption) | exact Go.Gw.SLL.el (by first | assumption | exact Go.Gw.OwnD.sll (by assumption)) _ (by omega) | exact Go.Gw.SLL.at (by first | assumption | exact Go.Gw.OwnD.sll (by assumption)) (by omega) | exact Go.Gw.OwnD.sll (by assumption) | (apply Go.Gw.SL.chg; case hx => assumption) | (apply Go.Gw.Own.chg; case hx => assumption) | (apply Go.Gw.Box.chg; case hx => assumption) | (apply Go.Gw.At.chg; case hx => assumption) | exact .inl (Nat.zero_le _) | exact .inr (Nat.zero_le _) | (show _ ∨ _; omega))) (hs : s = Enc.sz α := by rfl) (hb : 0 ≤ l ∧ l ≤ h ∧ h ≤ xs.length := by omega)
    (hm : mayTake ops (spoilB ops) ls.toArray i = true := by decide +kernel) (hQ : ∀ c a u w, Q (.panic c) (a.put (some d) u) w → Q (.panic c) a w := by exact fun _ _ _ _ h => h) :
    WB P N ops Q w (fuel + 1) n ((i, ⟨some d, .slice T x ol oh none, ty, pos, af, none⟩) :: q) ls σ w := by
  obtain ⟨u, hy, hu⟩ := y_slice (P := P) (ty := ty) (T := T) hx hl hh H hs hb
  exact b_pure hi' hy hd (k u hu) hm (fun c a w => hQ c a u w)
end
end Go.Gw

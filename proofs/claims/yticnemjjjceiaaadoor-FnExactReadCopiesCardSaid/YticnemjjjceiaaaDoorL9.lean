/- Rules of my own: strings by their bytes; conversions; arrays that are values. -/
import Derived.Test.YticnemjjjceiaaaDoorL8
import Derived.Laws.IdiomStrings
import Derived.Laws.BytesArg
namespace Go.Gw
open Go
set_option linter.unusedVariables false
set_option linter.unusedSimpArgs false

class TInt (P : Program) (T : TypeId) (k : outParam IntKind) : Prop where
  und : P.underlying T = some (.int k)
class TStg (P : Program) (T : TypeId) : Prop where
  und : P.underlying T = some .string
class TArr (P : Program) (T : TypeId) (n e : outParam Nat) : Prop where
  und : P.underlying T = some (.array n e)
section
variable {P : Program} {N : Nat} {Q : Post} {σ : Fm} {w : World} {ops : Array Oper} {rest : List Oper} {ty t t' T e : TypeId} {pos : String} {af : Array Edge} {d s b B : Nat} {x y z : Operand} {v : Value} {p q : List UInt8} {k k' : IntKind} {a c : Int}

theorem str_of (s : ByteArray) : Value.string s = str s.data.toList := by cases s; rfl
theorem y_seq (hx : ev σ x = some (str p)) (hy : ev σ y = some (str q)) : YE P σ (.binOp .eql t x y t') ty w (.bool (decide (p = q))) := ⟨fun w' _ ρ hρ => by
  have e : (p == q) = decide (p = q) := by by_cases h : p = q <;> simp [h]
  simp [execOp, hρ _ _ hx, hρ _ _ hy, eqGuard, binOp, Op.stringOp, ByteArray.toList_eq, e]⟩
theorem y_sne (hx : ev σ x = some (str p)) (hy : ev σ y = some (str q)) : YE P σ (.binOp .neq t x y t') ty w (.bool (decide (¬ p = q))) := ⟨fun w' _ ρ hρ => by
  have e : (!(p == q)) = decide (¬ p = q) := by by_cases h : p = q <;> simp [h]
  simp [execOp, hρ _ _ hx, hρ _ _ hy, eqGuard, binOp, Op.stringOp, ByteArray.toList_eq, e, -decide_not]⟩
theorem y_scat (hx : ev σ x = some (str p)) (hy : ev σ y = some (str q)) (hm : p.length + q.length ≤ 9223372036854775807 := by omega) : YE P σ (.binOp .add t x y t') ty w (str (p ++ q)) := ⟨fun w' _ ρ hρ => by
  have h1 : ¬ (((⟨p.toArray⟩ : ByteArray).size + (⟨q.toArray⟩ : ByteArray).size : Nat) : Int) > IntKind.i64.max := by
    have e1 : (⟨p.toArray⟩ : ByteArray).size = p.length := List.size_toArray
    have e2 : (⟨q.toArray⟩ : ByteArray).size = q.length := List.size_toArray
    have e3 : IntKind.i64.max = 9223372036854775807 := by decide
    rw [e1, e2, e3]; omega
  have h2 : (⟨p.toArray⟩ : ByteArray) ++ ⟨q.toArray⟩ = ⟨(p ++ q).toArray⟩ := by
    apply ByteArray.ext; simp [ByteArray.data_append]
  simp only [execOp, hρ _ _ hx, hρ _ _ hy, eqGuard, binOp, Op.stringOp, if_neg h1, h2, Sem.run_bind, Sem.run_pure, Result.andThen_ok]
  rfl⟩
theorem y_slen [hT : TStg P t] (hx : ev σ x = some (str p)) : YE P σ (.call { callee := .builtin .len, args := #[x], argTypes := #[t] }) ty w (.int .i64 p.length) := ⟨fun w' hw ρ hρ => by
  have e : (⟨p.toArray⟩ : ByteArray).size = p.length := List.size_toArray
  simp [execOp, resolve, hρ _ _ hx, invoke, builtin, Builtin.len_, run_underlying hT.und, e, goInt]⟩
theorem y_at_str [hT : TStg P T] (hx : ev σ x = some (str p)) (hy : ev σ y = some (.int k a)) (ha : 0 ≤ a ∧ a < p.length := by omega) : YE P σ (.index T x y) ty w (.int .u8 (p.getD a.toNat 0).toNat) := ⟨fun w' hw ρ hρ => by
  have h1 : 0 ≤ a := ha.1
  have hlt : a.toNat < p.length := by omega
  have h2 : (⟨p.toArray⟩ : ByteArray)[a.toNat]? = some (p.getD a.toNat 0) := by
    have e1 : a.toNat < (⟨p.toArray⟩ : ByteArray).size := Nat.lt_of_lt_of_eq hlt List.size_toArray.symm
    rw [getElem?_pos (⟨p.toArray⟩ : ByteArray) a.toNat e1]
    simp [List.getD_eq_getElem?_getD, hlt]
    rfl
  simp [execOp, hρ _ _ hx, hρ _ _ hy, Instr.index, asIntOf, run_underlying hT.und, h1, h2]⟩
theorem y_at_arr {n : Nat} {cs : List Value} [hT : TArr P T n e] [TScal P e] (hx : ev σ x = some (.agg cs.toArray)) (hy : ev σ y = some (.int k a)) (ha : 0 ≤ a ∧ a < n := by omega) (hv : cs[a.toNat]? = some v := by rfl) : YE P σ (.index T x y) ty w v := ⟨fun w' hw ρ hρ => by
  have hsz : (P.info? e).map (·.size) = some 1 := TScal.size
  simp [execOp, hρ _ _ hx, hρ _ _ hy, Instr.index, asIntOf, run_underlying hT.und, ha, run_size w' hsz, Go.part, isAgg_scal, hv]⟩
theorem y_part_str {l h : Int} {ol oh : Option Operand} [hT : TStg P T] (hx : ev σ x = some (str p)) (hl : (ol = none ∧ l = 0) ∨ ∃ y k, ol = some y ∧ ev σ y = some (.int k l)) (hh : (oh = none ∧ h = p.length) ∨ ∃ y k, oh = some y ∧ ev σ y = some (.int k h))
    (hb : 0 ≤ l ∧ l ≤ h ∧ h ≤ p.length := by omega) : YE P σ (.slice T x ol oh none) ty w (str ((p.take h.toNat).drop l.toNat)) := ⟨fun w' hw ρ hρ => by
  have hlb : ∀ (k : IntKind), (Instr.sliceBound (.int k l) h.toNat .sliceB).run P w' = .ok l.toNat w' := fun k => by
    have h1 : 0 ≤ l ∧ l ≤ (h.toNat : Int) := by omega
    simp only [Instr.sliceBound, asIntOf, Sem.run_bind, Sem.run_pure, Result.andThen_ok, if_pos h1]
  have hhb : ∀ (k : IntKind), (Instr.sliceBound (.int k h) p.length .sliceAlen).run P w' = .ok h.toNat w' := fun k => by
    have h1 : 0 ≤ h ∧ h ≤ (p.length : Int) := by omega
    simp only [Instr.sliceBound, asIntOf, Sem.run_bind, Sem.run_pure, Result.andThen_ok, if_pos h1]
  have hbounds : (Instr.sliceBounds false p.length p.length (ol.map ρ) (oh.map ρ) none).run P w' = .ok (l.toNat, h.toNat, p.length) w' := by
    rcases hh with ⟨rfl, rfl⟩ | ⟨y, k, rfl, hy⟩ <;> rcases hl with ⟨rfl, rfl⟩ | ⟨y', k', rfl, hy'⟩
    · simp [Instr.sliceBounds]
    · have := hlb k'
      simp only [Int.toNat_natCast] at this
      simp [Instr.sliceBounds, hρ _ _ hy', this]
    · simp [Instr.sliceBounds, hρ _ _ hy, hhb k]
    · simp [Instr.sliceBounds, hρ _ _ hy, hρ _ _ hy', hhb k, hlb k']
  have hsize : (⟨p.toArray⟩ : ByteArray).size = p.length := List.size_toArray
  have hex : (⟨p.toArray⟩ : ByteArray).extract l.toNat h.toNat = ⟨((p.take h.toNat).drop l.toNat).toArray⟩ := by
    apply ByteArray.ext
    simp [ByteArray.data_extract, List.drop_take]
  simp [execOp, hρ _ _ hx, Instr.sliceAt, Instr.slice, run_underlying hT.und, hsize, hbounds, hex]⟩
theorem y_builda {n : Nat} {zs vs : List Value} [hT : TArr P T n e] [hs : TScal P e] [hz : TZero P T (.agg zs.toArray)] {parts : List (Nat × Operand)} {ps : List (Nat × Value)} (hx : evp σ parts = some ps) (hv : ps.map (·.2) = vs := by dsimp only [List.map]) (hi : num 0 vs = ps := by rfl) (hn : vs.length = n := by rfl) (hzl : zs.length = n := by rfl)
    (ho : AllOne vs := by repeat (first | exact trivial | refine ⟨by first | rfl | exact Go.Gw.SL.one (by assumption) | exact Go.Gw.Own.one (by assumption), ?_⟩)) : YE P σ (.build T parts.toArray) ty w (.agg vs.toArray) := ⟨fun w' hw ρ hρ => by
  have hsz : (P.info? e).map (·.size) = some 1 := hs.size
  have h1 : ∀ v ∈ vs, v.cells.size = 1 := fun v hv => by rw [cells_one (ho.all v hv)]; rfl
  have hf := fill_row (sz := 1) Nat.one_pos vs 0 zs h1 (by omega)
  rw [← num_eq, hi] at hf
  have hfl : (vs.flatMap fun v => v.cells.toList) = vs := by
    have : ∀ l : List Value, (∀ v ∈ l, v.oneCell' = true) → (l.flatMap fun v => v.cells.toList) = l := by
      intro l
      induction l with
      | nil => intro _; rfl
      | cons a r ih => intro h; rw [List.flatMap_cons, ih (fun v hv => h v (by simp [hv])), cells_one (h a (by simp))]; rfl
    exact this vs ho.all
  have hparts : parts.toArray.map (fun (i, x) => (i, ρ x)) = ps.toArray := by rw [List.map_toArray, ← evp_spec hρ hx]
  simp only [execOp, Instr.build, hparts, Sem.run_bind, run_zero w' (h := hz), Result.andThen_ok, Value.cells, run_underlying hT.und, run_size w' hsz]
  rw [hf, hfl]
  simp⟩
/-! conversions -/
theorem y_conv64 {s' d' : TypeId} [hs : TInt P s' k] [hd : TInt P d' .i64] (hx : ev σ x = some (.int k a)) (h : In64 a := by exact ⟨by omega, by omega⟩) : YE P σ (.convert s' d' x) ty w (.int .i64 a) := by
  have := y_conv_wrap (P := P) (w := w) (ty := ty) hx ⟨_, hs.und⟩ hd.und
  rwa [wrap_in h] at this
theorem y_conv8 {s' d' : TypeId} [hs : TInt P s' k] [hd : TInt P d' .u8] (hx : ev σ x = some (.int k a)) (h : 0 ≤ a ∧ a < 256 := by omega) : YE P σ (.convert s' d' x) ty w (.int .u8 (UInt8.ofNat a.toNat).toNat) := by
  have := y_conv_wrap (P := P) (w := w) (ty := ty) hx ⟨_, hs.und⟩ hd.und
  have e : IntKind.u8.wrap a = ((UInt8.ofNat a.toNat).toNat : Int) := by
    have : (UInt8.ofNat a.toNat).toNat = a.toNat := by rw [UInt8.toNat_ofNat']; omega
    rw [this]
    simp only [IntKind.wrap, show IntKind.u8.signed = false from rfl, show IntKind.u8.bits = 8 from rfl, Bool.false_eq_true, false_and, Bool.false_and, if_false]
    omega
  rwa [e] at this
theorem y_convs {s' d' : TypeId} [hs : TStg P s'] [hd : TStg P d'] (hx : ev σ x = some (str p)) : YE P σ (.convert s' d' x) ty w (str p) := ⟨fun w' _ ρ hρ => by
  simp [execOp, hρ _ _ hx, convert, run_underlying hs.und, run_underlying hd.und]⟩
theorem y_str8 {lo hi : Nat} {s' d' : TypeId} {l : List UInt8} [hs : TSli P s' e s b] [he : TInt P e .u8] [hd : TStg P d'] (hx : ev σ x = some v) (h : SL w lo hi v l := by repeat (first | assumption | exact Go.Gw.Own.sl (by assumption) | exact Go.Gw.Box.at (by assumption) | exact Go.Gw.SLL.el (by first | assumption | exact Go.Gw.OwnD.sll (by assumption)) _ (by omega) | exact Go.Gw.SLL.at (by first | assumption | exact Go.Gw.OwnD.sll (by assumption)) (by omega) | exact Go.Gw.OwnD.sll (by assumption) | (apply Go.Gw.SL.chg; case hx => assumption) | (apply Go.Gw.Own.chg; case hx => assumption) | (apply Go.Gw.Box.chg; case hx => assumption) | (apply Go.Gw.At.chg; case hx => assumption) | exact .inl (Nat.zero_le _) | exact .inr (Nat.zero_le _) | (show _ ∨ _; omega))) : YE P σ (.convert s' d' x) ty w (str l) := ⟨fun w' hw ρ hρ => by
  have h' := h.ext hw
  obtain ⟨a, cap, hv, h1, h2, h3⟩ := h'.form
  have key : (convert s' d' v).run P w' = .ok (str l) w' := by
    rcases Nat.eq_zero_or_pos l.length with h0 | h0
    · have hl : l = [] := List.eq_nil_of_length_eq_zero h0
      subst hl
      rw [hv]
      cases a with
      | none => exact run_convert_bytes_nil w' s' e hs.und he.und _ _ d' hd.und
      | some a => exact run_convert_bytes_back w' s' d' e a cap [] hs.und he.und hd.und (fun j hj => absurd hj (by simp))
    · rw [hv, h3 h0]
      refine run_convert_bytes_back w' s' d' e _ cap l hs.und he.und hd.und fun j hj => ?_
      rw [add_lit]
      have := (h'.el j l[j] (by simp [hj])).go 0 _ rfl
      simpa [Enc.sz] using this
  simp [execOp, hρ _ _ hx, key]⟩
theorem At.lt {w : World} {b o : Nat} {c : Value} {cs : List Value} (h : At w b o (c :: cs)) : b < w.heap.size := World.block_lt_of_cell? w _ (h.go 0 c rfl)
/-- a literal of one byte -/
theorem w_litb1 {c : UInt8} [hT : TSli P T e s b] (hx : ev σ x = some (.int .u8 (c.toNat : Int))) (hd : Nat.blt d N = true) (hs : s = 1)
    (k : ∀ v w', Own w' e w.heap.size v [c] → Ext w w' → bL v = w.heap.size → bH v = w.heap.size + 1 → w'.heap.size = w.heap.size + 1 → W P N ops Q rest ((d, v) :: σ) w') : W P N ops Q (⟨some d, .buildSlice T 1 #[(0, x)], ty, pos, af, none⟩ :: rest) σ w :=
  w_lit' (n := 1) (parts := [(0, x)]) (vs := [.int .u8 (c.toNat : Int)]) (xs := [c]) hs (by simp [evp, hx, num]) rfl rfl (fun v hv => by simp at hv; subst hv; rfl) rfl (by omega) (by omega) hd k
/-- a part of a slice -/
theorem w_slice {α : Type} {E : Enc α} {lo hi : Nat} {xs : List α} {l h : Int} {ol oh : Option Operand} [hT : TSli P T e s b] (hx : ev σ x = some v) (hl : (ol = none ∧ l = 0) ∨ ∃ y k, ol = some y ∧ ev σ y = some (.int k l)) (hh : (oh = none ∧ h = xs.length) ∨ ∃ y k, oh = some y ∧ ev σ y = some (.int k h))
    (hd : Nat.blt d N = true) (k : ∀ u, SL w lo hi u ((xs.take h.toNat).drop l.toNat) → W P N ops Q rest ((d, u) :: σ) w) (H : SL w lo hi v xs := by repeat (first | assumption | exact Go.Gw.Own.sl (by assumption) | exact Go.Gw.Box.at (by assumption) | exact Go.Gw.SLL.el (by first | assumption | exact Go.Gw.OwnD.sll (by assumption)) _ (by omega) | exact Go.Gw.SLL.at (by first | assumption | exact Go.Gw.OwnD.sll (by assumption)) (by omega) | exact Go.Gw.OwnD.sll (by assumption) | (apply Go.Gw.SL.chg; case hx => assumption) | (apply Go.Gw.Own.chg; case hx => assumption) | (apply Go.Gw.Box.chg; case hx => assumption) | (apply Go.Gw.At.chg; case hx => assumption) | exact .inl (Nat.zero_le _) | exact .inr (Nat.zero_le _) | (show _ ∨ _; omega))) (hs : s = Enc.sz α := by rfl) (hb : 0 ≤ l ∧ l ≤ h ∧ h ≤ xs.length := by omega) :
    W P N ops Q (⟨some d, .slice T x ol oh none, ty, pos, af, none⟩ :: rest) σ w := by
  obtain ⟨u, hy, hu⟩ := y_slice (P := P) (ty := ty) (T := T) hx hl hh H hs hb
  exact w_pure hy hd (k u hu)
theorem h_slice {α : Type} {E : Enc α} {lo hi : Nat} {xs : List α} {l h : Int} {ol oh : Option Operand} {i fuel n : Nat} {q : List (Nat × Oper)} {ls : List Bool} [hT : TSli P T e s b] (hi' : ops[i]? = some ⟨some d, .slice T x ol oh none, ty, pos, af, none⟩) (hx : ev σ x = some v) (hl : (ol = none ∧ l = 0) ∨ ∃ y k, ol = some y ∧ ev σ y = some (.int k l)) (hh : (oh = none ∧ h = xs.length) ∨ ∃ y k, oh = some y ∧ ev σ y = some (.int k h))
    (hd : Nat.blt d N = true) (k : ∀ u, SL w lo hi u ((xs.take h.toNat).drop l.toNat) → WH P N ops Q fuel q.length q (ls.set i true) ((d, u) :: σ) w) (H : SL w lo hi v xs := by repeat (first | assumption | exact Go.Gw.Own.sl (by assumption) | exact Go.Gw.Box.at (by assumption) | exact Go.Gw.SLL.el (by first | assumption | exact Go.Gw.OwnD.sll (by assumption)) _ (by omega) | exact Go.Gw.SLL.at (by first | assumption | exact Go.Gw.OwnD.sll (by assumption)) (by omega) | exact Go.Gw.OwnD.sll (by assumption) | (apply Go.Gw.SL.chg; case hx => assumption) | (apply Go.Gw.Own.chg; case hx => assumption) | (apply Go.Gw.Box.chg; case hx => assumption) | (apply Go.Gw.At.chg; case hx => assumption) | exact .inl (Nat.zero_le _) | exact .inr (Nat.zero_le _) | (show _ ∨ _; omega))) (hs : s = Enc.sz α := by rfl) (hb : 0 ≤ l ∧ l ≤ h ∧ h ≤ xs.length := by omega)
    (hm : mayTake ops (spoil ops) ls.toArray i = true := by decide +kernel) (hQ : ∀ c a u w, Q (.panic c) (a.put (some d) u) w → Q (.panic c) a w := by exact fun _ _ _ _ h => h) :
    WH P N ops Q (fuel + 1) n ((i, ⟨some d, .slice T x ol oh none, ty, pos, af, none⟩) :: q) ls σ w := by
  obtain ⟨u, hy, hu⟩ := y_slice (P := P) (ty := ty) (T := T) hx hl hh H hs hb
  exact h_pure hi' hy hd (k u hu) hm (fun c a w => hQ c a u w)
end
end Go.Gw

/- Rules, contracts and plain laws towards the law FnReproduced, part 3. -/
import Derived.Test.YtcbpiaehkodliaaGreatDoorCh2
/- L19 -/
namespace Go.Gw
open Go
set_option linter.unusedVariables false
set_option linter.unusedSimpArgs false
/-- a fresh row of zeros -/
structure Zed (w : World) (e : TypeId) (sz B : Nat) (v : Value) : Prop where
  go : ∃ (g n c : Nat) (cur : Array Value), v = .slice (some ⟨g, 0, none⟩) n c ∧ w.heap[g]? = some (.cells cur e (0, 0)) ∧ cur.size = c * sz ∧ B ≤ g ∧ n ≤ c ∧ c ≤ maxLen
section
variable {P : Program} {N : Nat} {Q : Post} {σ : Fm} {w : World} {ops : Array Oper} {rest : List Oper} {T T2 ty e : TypeId} {x y z : Operand} {v u : Value} {s b d : Nat} {pos : String} {af : Array Edge} {k : IntKind}
theorem y_cap0 [hT : TSli P T e s b] (hx : ev σ x = some (.slice none 0 0)) : YE P σ (.call { callee := .builtin .cap, args := #[x], argTypes := #[T] }) ty w (.int .i64 0) := ⟨fun w' hw ρ hρ => by
  simp [execOp, resolve, hρ _ _ hx, invoke, builtin, Builtin.cap_, run_underlying hT.und, goInt]⟩
theorem y_len0 [hT : TSli P T e s b] (hx : ev σ x = some (.slice none 0 0)) : YE P σ (.call { callee := .builtin .len, args := #[x], argTypes := #[T] }) ty w (.int .i64 0) := ⟨fun w' hw ρ hρ => by
  simp [execOp, resolve, hρ _ _ hx, invoke, builtin, Builtin.len_, run_underlying hT.und, goInt]⟩
theorem y_slice0n [hT : TSli P T e s b] (hx : ev σ x = some (.slice none 0 0)) (hh : ev σ y = some (.int k 0)) : YE P σ (.slice T x none (some y) none) ty w (.slice none 0 0) := ⟨fun w' hw ρ hρ => by
  have h2 : (Instr.sliceBound (.int k 0) 0 .sliceAcap).run P w' = .ok 0 w' := by
    simp [Instr.sliceBound, asIntOf]
  have hsl : (Instr.sliceAt T (.slice none 0 0) none (some (ρ y)) none).run P w' = .ok (.slice none 0 0) w' := by
    simp [Instr.sliceAt, Instr.slice, Instr.sliceBounds, run_underlying hT.und, run_size w' hT.size, hρ _ _ hh, h2]
  simp only [execOp, hρ _ _ hx, Option.map_some, Option.map_none, Sem.run_bind, hsl, Result.andThen_ok, Sem.run_pure]⟩
theorem w_append_zeros [hT : TSli P T e s b] [hT2 : TInt P T2 k] {n : Int} (hx : ev σ x = some (.slice none 0 0)) (hy : ev σ y = some (.int k n)) (h0 : 0 < n ∧ n ≤ 1000 := by omega) (hs : 0 < s := by decide) (hb : Nat.ble b 1000 = true := by rfl) (hd : Nat.blt d N = true := by rfl)
    (kk : ∀ v w', Zed w' e s w.heap.size v → Ext w w' → W P N ops Q rest ((d, v) :: σ) w') :
    W P N ops Q (⟨some d, .call { callee := .builtin .append, args := #[x, y], argTypes := #[T, T2] }, ty, pos, af, none⟩ :: rest) σ w := by
  refine ⟨fun a ha => ?_⟩
  obtain ⟨i, z, hi, hz, his, hib, hzs⟩ := info_of (P := P) (T := T)
  have hb' := Nat.le_of_ble_eq_true hb
  have hn : ((n.toNat : Nat) : Int) = n := by omega
  have h48 : n.toNat * i.bytes ≤ 281474976710656 := by
    rw [hib]
    have : n.toNat * b ≤ 1000 * 1000 := Nat.mul_le_mul (by omega) hb'
    omega
  have hr := Lib.run_append_nil_zeros (P := P) w T T2 ty e i z k k hT.und hT2.und hi hz n.toNat (by omega) (by rw [his]; exact hs) (by omega) h48
  rw [hn] at hr
  refine Lib.wpList_append_run w rfl x y T T2 rfl _ _ (ha.eval hx) (ha.eval hy) _ _ hr ?_
  have hge := grownCap_ge w n.toNat 0 e
  refine (kk _ _ ⟨w.heap.size, n.toNat, grownCap w n.toNat 0 e, Builtin.zeroCells z.cells n.toNat ++ Builtin.zeroCells z.cells (grownCap w n.toNat 0 e - n.toNat), rfl, ?_, ?_, Nat.le_refl _, hge, grownCap_le_maxLen w n.toNat 0 e (by unfold maxLen; omega)⟩ ((Chg.drew w).trans (Chg.alloc _ _))).go _ (ha.put hd _)
  · exact heap_alloc_new _ _
  · rw [Array.size_append, size_zeroCells, size_zeroCells, hzs, ← Nat.add_mul, Nat.add_sub_cancel' hge]
theorem w_slice_zed {α : Type} [E : Enc α] {B : Nat} [hT : TSli P T e s b] (hx : ev σ x = some v) (hh : ev σ y = some (.int k 0)) (hd : Nat.blt d N = true) (kk : ∀ u, Own (α := α) w e B u [] → W P N ops Q rest ((d, u) :: σ) w) (hz : Zed w e s B v := by assumption) (hs : s = Enc.sz α := by rfl) :
    W P N ops Q (⟨some d, .slice T x none (some y) none, ty, pos, af, none⟩ :: rest) σ w := by
  obtain ⟨g, n, c, cur, rfl, hg, hcs, hB, hnc, hcm⟩ := hz.go
  have hy : YE P σ (.slice T x none (some y) none) ty w (.slice (if c = 0 then (some ⟨g, 0, none⟩ : Option Addr) else (some (⟨g, 0, none⟩ : Addr)).map (·.add (0 * s))) 0 c) := ⟨fun w' hw ρ hρ => by
    have h2 : (Instr.sliceBound (.int k 0) c .sliceAcap).run P w' = .ok 0 w' := by
      have h1 : (0 : Int) ≤ 0 ∧ (0 : Int) ≤ (c : Int) := by omega
      simp only [Instr.sliceBound, asIntOf, Sem.run_bind, Sem.run_pure, Result.andThen_ok, if_pos h1]; rfl
    have hsl : (Instr.sliceAt T (.slice (some ⟨g, 0, none⟩) n c) none (some (ρ y)) none).run P w' = .ok (.slice (if c = 0 then (some ⟨g, 0, none⟩ : Option Addr) else (some (⟨g, 0, none⟩ : Addr)).map (·.add (0 * s))) 0 c) w' := by
      simp [Instr.sliceAt, Instr.slice, Instr.sliceBounds, run_underlying hT.und, run_size w' hT.size, hρ _ _ hh, h2]
    simp only [execOp, hρ _ _ hx, Option.map_some, Option.map_none, Sem.run_bind, hsl, Result.andThen_ok, Sem.run_pure]⟩
  refine w_pure hy hd (kk _ ?_)
  have ea : (if c = 0 then (some ⟨g, 0, none⟩ : Option Addr) else (some (⟨g, 0, none⟩ : Addr)).map (·.add (0 * s))) = some ⟨g, 0, none⟩ := by
    split
    · rfl
    · rw [Nat.zero_mul, Option.map_some, Addr.add_lit]
  rw [ea]
  refine ⟨⟨by simp, .inr ⟨g, c, cur, rfl, hB, hg, Nat.zero_le _, hcm, by rw [hcs, hs], by simp⟩⟩⟩
theorem w_lit_sv2 {α : Type} {E : Enc α} {l h l' h' : Nat} {ys zs : List α} [hT : TSli P T e s b] (hs1 : s = 1) (hx : ev σ x = some u) (hy : ev σ y = some v) (hu : SL w l h u ys := by repeat (first | assumption | exact Go.Gw.Own.sl (by assumption) | exact Go.Gw.Box.at (by assumption) | exact Go.Gw.SLL.el (by first | assumption | exact Go.Gw.OwnD.sll (by assumption)) _ (by omega) | exact Go.Gw.SLL.at (by first | assumption | exact Go.Gw.OwnD.sll (by assumption)) (by omega) | exact Go.Gw.OwnD.sll (by assumption) | (apply Go.Gw.SL.chg; case hx => assumption) | (apply Go.Gw.Own.chg; case hx => assumption) | (apply Go.Gw.Box.chg; case hx => assumption) | (apply Go.Gw.At.chg; case hx => assumption) | exact .inl (Nat.zero_le _) | exact .inr (Nat.zero_le _) | (show _ ∨ _; omega))) (hv : SL w l' h' v zs := by repeat (first | assumption | exact Go.Gw.Own.sl (by assumption) | exact Go.Gw.Box.at (by assumption) | exact Go.Gw.SLL.el (by first | assumption | exact Go.Gw.OwnD.sll (by assumption)) _ (by omega) | exact Go.Gw.SLL.at (by first | assumption | exact Go.Gw.OwnD.sll (by assumption)) (by omega) | exact Go.Gw.OwnD.sll (by assumption) | (apply Go.Gw.SL.chg; case hx => assumption) | (apply Go.Gw.Own.chg; case hx => assumption) | (apply Go.Gw.Box.chg; case hx => assumption) | (apply Go.Gw.At.chg; case hx => assumption) | exact .inl (Nat.zero_le _) | exact .inr (Nat.zero_le _) | (show _ ∨ _; omega))) (hd : Nat.blt d N = true := by rfl)
    (k : ∀ t w', Own w' e w.heap.size t [svOf u, svOf v] → Ext w w' → bL t = w.heap.size → bH t = w.heap.size + 1 → w'.heap.size = w.heap.size + 1 → W P N ops Q rest ((d, t) :: σ) w') : W P N ops Q (⟨some d, .buildSlice T 2 #[(0, x), (1, y)], ty, pos, af, none⟩ :: rest) σ w :=
  w_lit' (n := 2) (parts := [(0, x), (1, y)]) (vs := [u, v]) (xs := [svOf u, svOf v]) hs1 (by simp [evp, hx, hy, num]) rfl (by
    have h1 := cells_one hu.one
    have h2 := cells_one hv.one
    simp only [List.flatMap_cons, List.flatMap_nil, List.append_nil, h1, h2]
    show [u, v] = [(svOf u).v, (svOf v).v]; rw [svOf_v hu, svOf_v hv]) (fun t ht => by
    simp at ht
    rcases ht with rfl | rfl
    · rw [cells_one hu.one]; rfl
    · rw [cells_one hv.one]; rfl) rfl (by omega) (by omega) hd k
end
end Go.Gw
/- L22 -/
namespace Go.Gw
open Go
set_option linter.unusedVariables false
set_option linter.unusedSimpArgs false
section
variable {P : Program} {N : Nat} {Q : Post} {σ : Fm} {w : World} {ops : Array Oper} {rest : List Oper} {T ty : TypeId} {x y : Operand} {v : Value} {lo hi e : Nat} {pos : String} {af : Array Edge} {svs : List SV} {xss : List (List Int)} {a : Int}
theorem bL_sb {α : Type} {E : Enc α} {lo hi : Nat} {xs : List α} (h : SL w lo hi v xs) (h0 : 0 < xs.length) : bL v = sb v ∧ bH v = sb v + 1 := by
  obtain ⟨a, c, hv, _, _, h3⟩ := h.form
  have := h3 h0
  subst this
  rw [hv]
  exact ⟨rfl, rfl⟩
theorem w_store_eld [hT : TScal P T] {i n : Nat} (hx : ev σ x = some (ptr (sb (svD svs i)) (so (svD svs i) + n * 1))) (hy : ev σ y = some (.int .i64 a)) (h : OwnD w e lo hi svs v xss := by assumption) (hi' : i < xss.length := by omega) (hn : n < (xss.getD i []).length := by omega)
    (next : ∀ w', OwnD w' e lo hi svs v (xss.set i ((xss.getD i []).set n a)) → Chg lo hi w w' → w'.heap.size = w.heap.size → W P N ops Q rest σ w') : W P N ops Q (⟨none, .store T x y, ty, pos, af, none⟩ :: rest) σ w := by
  have hel := h.el i hi'
  have hb := bL_sb hel (by omega)
  have hr := (h.plc i hi').rng
  refine w_store_sl (α := Int) (x' := a) hx hy hel rfl hn rfl (fun w' hs hc hz => next w' ?_ (hc.wide (by omega) (by omega)) hz)
  refine h.upd hi' hc hb.1.symm hb.2.symm hs
end
end Go.Gw

namespace Go.Gw
open Go
set_option linter.unusedVariables false
set_option linter.unusedSimpArgs false
section
variable {P : Program} {N : Nat} {σ : Fm} {w : World} {ty t t' : TypeId} {x y : Operand} {a b : Int} {k : IntKind}
theorem wrap_u64 (a : Int) : 0 ≤ IntKind.u64.wrap a ∧ IntKind.u64.wrap a < 18446744073709551616 := by
  simp only [IntKind.wrap, show IntKind.u64.signed = false from rfl, show IntKind.u64.bits = 64 from rfl, Bool.false_eq_true, false_and, Bool.false_and, if_false]
  omega
theorem wrap_in64 {a : Int} (h : 0 ≤ a ∧ a < 18446744073709551616) : IntKind.u64.wrap a = a := by
  simp only [IntKind.wrap, show IntKind.u64.signed = false from rfl, show IntKind.u64.bits = 64 from rfl, Bool.false_eq_true, false_and, Bool.false_and, if_false]
  omega
theorem y_shr40 (hx : ev σ x = some (.int .u64 a)) (hy : ev σ y = some (.int .u64 40)) : YE P σ (.binOp .shr t x y t') ty w (.int .u64 (a / 1099511627776)) := ⟨fun w' _ ρ hρ => by
  have e : min (40 : Int).toNat IntKind.u64.bits = 40 := by decide
  have hf : a.fdiv (2 ^ 40) = a / 1099511627776 := by rw [Int.fdiv_eq_ediv_of_nonneg _ (by decide)]; rfl
  have hn : ¬ (40 : Int) < 0 := by decide
  simp only [execOp, hρ _ _ hx, hρ _ _ hy, eqGuard, binOp, Op.shift, hn, e, if_false, hf]
  rfl⟩
theorem y_and255 (hx : ev σ x = some (.int .u64 a)) (hy : ev σ y = some (.int .u64 255)) (ha : 0 ≤ a ∧ a ≤ 9223372036854775807 := by omega) : YE P σ (.binOp .and t x y t') ty w (.int .u64 (andI a 255)) := by
  have hw : IntKind.u64.wrap ((BitVec.ofInt 64 a &&& BitVec.ofInt 64 255).toNat : Int) = andI a 255 := by
    rw [BitVec.toNat_and, bits_of ha.1 ha.2, bits_of (by decide) (by decide)]
    have := andI_le (a := a) (b := 255) (by decide)
    exact wrap_in64 ⟨by unfold andI at this; omega, by unfold andI at this; omega⟩
  exact ⟨fun w' _ ρ hρ => by
    simp [execOp, hρ _ _ hx, hρ _ _ hy, eqGuard, binOp, Op.intBits]
    first
      | exact ⟨hw, by assumption⟩
      | exact hw
      | (intro; exact hw)
      | skip⟩
end
end Go.Gw

namespace Go.Gw
open Go
set_option linter.unusedVariables false
set_option linter.unusedSimpArgs false
section
variable {P : Program} {N : Nat} {σ : Fm} {w : World} {ty t t' : TypeId} {x y : Operand} {a b : Int} {k : IntKind}
theorem y_shru (hx : ev σ x = some (.int .u64 a)) (hy : ev σ y = some (.int .u64 b)) (n : Nat) (hb : b = n := by rfl) (hn : n ≤ 64 := by decide) : YE P σ (.binOp .shr t x y t') ty w (.int .u64 (a / 2 ^ n)) := ⟨fun w' _ ρ hρ => by
  subst hb
  have e : min (n : Int).toNat IntKind.u64.bits = n := by
    have : IntKind.u64.bits = 64 := by decide
    omega
  have hf : a.fdiv (2 ^ n) = a / 2 ^ n := by rw [Int.fdiv_eq_ediv_of_nonneg _ (Int.pow_nonneg (by decide))]
  have hn0 : ¬ (n : Int) < 0 := by omega
  simp only [execOp, hρ _ _ hx, hρ _ _ hy, eqGuard, binOp, Op.shift, hn0, e, if_false, hf]
  rfl⟩
theorem y_shri (hx : ev σ x = some (.int .i64 a)) (hy : ev σ y = some (.int k b)) (n : Nat) (hb : b = n := by rfl) (hn : n ≤ 64 := by omega) : YE P σ (.binOp .shr t x y t') ty w (.int .i64 (a / 2 ^ n)) := ⟨fun w' _ ρ hρ => by
  subst hb
  have e : min (n : Int).toNat IntKind.i64.bits = n := by
    have : IntKind.i64.bits = 64 := by decide
    omega
  have hf : a.fdiv (2 ^ n) = a / 2 ^ n := by rw [Int.fdiv_eq_ediv_of_nonneg _ (Int.pow_nonneg (by decide))]
  have hn0 : ¬ (n : Int) < 0 := by omega
  simp only [execOp, hρ _ _ hx, hρ _ _ hy, eqGuard, binOp, Op.shift, hn0, e, if_false, hf]
  rfl⟩
theorem y_andu (hx : ev σ x = some (.int .u64 a)) (hy : ev σ y = some (.int .u64 b)) (ha : 0 ≤ a ∧ a ≤ 9223372036854775807 := by omega) (hb : 0 ≤ b ∧ b ≤ 9223372036854775807 := by decide) : YE P σ (.binOp .and t x y t') ty w (.int .u64 (andI a b)) := by
  have hw : IntKind.u64.wrap ((BitVec.ofInt 64 a &&& BitVec.ofInt 64 b).toNat : Int) = andI a b := by
    rw [BitVec.toNat_and, bits_of ha.1 ha.2, bits_of hb.1 hb.2]
    have := andI_le (a := a) (b := b) hb.1
    exact wrap_in64 ⟨by unfold andI at this; omega, by unfold andI at this; omega⟩
  exact ⟨fun w' _ ρ hρ => by
    simp [execOp, hρ _ _ hx, hρ _ _ hy, eqGuard, binOp, Op.intBits]
    first
      | exact ⟨hw, by assumption⟩
      | exact hw
      | (intro; exact hw)
      | skip⟩
end
end Go.Gw
/- PutA -/
namespace Go.Proofs.YtcbpiaehkodliaaGreatDoor
open Go Go.Gw
set_option linter.unusedVariables false
set_option linter.unusedSimpArgs false
/-- the columns of a number that is not negative -/
def pun (x : Int) : Nat → List Int
  | 0 => []
  | k + 1 => pun (x / 10) k ++ [bitI (x % 10)]
theorem pun_len : ∀ (k : Nat) (x : Int), (pun x k).length = k
  | 0, x => rfl
  | k + 1, x => by rw [pun, List.length_append, pun_len k]; rfl
/-- what is left of a number behind k digits -/
def sft (x : Int) : Nat → Int
  | 0 => x
  | k + 1 => sft (x / 10) k
theorem sft_zero : ∀ (k : Nat) (x : Int), 0 ≤ x → (sft x k = 0 ↔ x < 10 ^ k)
  | 0, x, h => by rw [sft, Int.pow_zero]; omega
  | k + 1, x, h => by
    have := sft_zero k (x / 10) (by omega)
    rw [sft, this, Int.pow_succ]; omega
theorem rep_set {m : Nat} {b : Int} {R : List Int} : (List.replicate (m + 1) (0 : Int) ++ R).set m b = List.replicate m 0 ++ ([b] ++ R) := by
  rw [List.replicate_succ', List.append_assoc, List.set_append_right _ _ (by simp), List.length_replicate, Nat.sub_self]; rfl
/-- the columns of a number below 0 -/
def punN (n : Int) (k : Int) : List Int := (pun (-n) k.toNat).set (k - 1).toNat (orI ((pun (-n) k.toNat).getD (k - 1).toNat 0) 2)
theorem bitI_rg (r : Int) : 0 ≤ bitI r ∧ bitI r ≤ 2048 := by
  unfold bitI
  split
  · omega
  · split
    · omega
    · split
      · rename_i h
        have h1 : (2 : Int) ^ r.toNat ≤ 2 ^ 9 := by
          have : r.toNat ≤ 9 := by omega
          exact_mod_cast Nat.pow_le_pow_right (by decide) this
        have h2 : (0 : Int) < 2 ^ r.toNat := Int.pow_pos (by decide)
        have e : (2 : Int) ^ 9 = 512 := by decide
        omega
      · omega
theorem pun_rg : ∀ (k : Nat) (x : Int), ∀ m ∈ pun x k, 0 ≤ m ∧ m ≤ 4095
  | 0, x, m, h => by simp [pun] at h
  | k + 1, x, m, h => by
    rw [pun, List.mem_append] at h
    rcases h with h | h
    · exact pun_rg k _ m h
    · simp only [List.mem_singleton] at h
      have := bitI_rg (x % 10)
      omega
section
variable {w : World} {lo hi B : Nat} {v : Value} {xs : List Int}
end
end Go.Proofs.YtcbpiaehkodliaaGreatDoor
/- GngP -/
namespace Go.Proofs.YtcbpiaehkodliaaGreatDoor
open Go Go.Gw
set_option linter.unusedVariables false
set_option linter.unusedSimpArgs false
theorem orI_assoc (a b c : Int) : orI a (orI b c) = orI (orI a b) c := by
  unfold orI
  rw [Int.toNat_natCast, Int.toNat_natCast, Nat.or_assoc]
theorem orI_self {a : Int} (h : 0 ≤ a) : orI a a = a := by
  unfold orI; rw [Nat.or_self]; omega
theorem orI_zero {a : Int} (h : 0 ≤ a) : orI 0 a = a := by
  unfold orI
  rw [show (0 : Int).toNat = 0 from rfl, Nat.zero_or]; omega
/-- what gang punching makes of a card holds the card's own holes -/
theorem over_copy {ms ys : List Int} {ps : List (Int × Int)} (hy : ∀ i, 0 ≤ ys.getD i 0) : ∀ n k, orI (ys.getD k 0) ((copyF ms ps ys n).getD k 0) = (copyF ms ps ys n).getD k 0
  | 0, k => orI_self (hy k)
  | n + 1, k => by
    have ih := over_copy (ms := ms) (ps := ps) hy n k
    rw [copyF]
    generalize hc : copyF ms ps ys n = c at *
    rw [List.getD_eq_getElem?_getD (l := c.set _ _), List.getElem?_set]
    split
    · rename_i e
      subst e
      split
      · show orI _ (orI _ _) = orI _ _
        rw [orI_assoc, ih]
      · rename_i hl
        have hcl := copyF_len ms ps ys n
        rw [hc] at hcl
        rw [List.getD_eq_getElem?_getD (l := ys), List.getElem?_eq_none (by omega)]
        exact orI_zero (a := 0) (by decide)
    · rw [← List.getD_eq_getElem?_getD]; exact ih
theorem getD_nn {ys : List Int} (h : ∀ i, i < ys.length → 0 ≤ ys.getD i 0 ∧ ys.getD i 0 ≤ 4095) (i : Nat) : 0 ≤ ys.getD i 0 := by
  by_cases hi : i < ys.length
  · exact (h i hi).1
  · rw [List.getD_eq_getElem?_getD, List.getElem?_eq_none (by omega)]; simp
theorem cpy_rise {ps : List (Int × Int)} (h : plainB ps = true) {i j : Nat} (hij : i < j) (hj : j < ps.length) : (ps.getD i (0, 0)).2 < (ps.getD j (0, 0)).2 := by
  have key : ∀ d : Nat, i + d + 1 < ps.length → (ps.getD i (0, 0)).2 < (ps.getD (i + d + 1) (0, 0)).2 := by
    intro d
    induction d with
    | zero => intro hi; have := (plainB_at h (i + 1) hi).2.2.2.2 (by omega); simpa using this
    | succ d ih =>
      intro hi
      have h1 := ih (by omega)
      have h2 := (plainB_at h (i + d + 1 + 1) (by omega)).2.2.2.2 (by omega)
      simp only [Nat.add_sub_cancel] at h2
      rw [show i + (d + 1) + 1 = i + d + 1 + 1 by omega]; omega
  have := key (j - i - 1) (by omega)
  rwa [show i + (j - i - 1) + 1 = j by omega] at this
/-- on a blank card each target has its source's holes -/
theorem copy_meets {xs : List Int} {ps : List (Int × Int)} {T : Nat} (hx : ∀ i, 0 ≤ xs.getD i 0) (h : plainB ps = true) (hT : ∀ i, i < ps.length → (ps.getD i (0, 0)).2.toNat < T) : ∀ n, n ≤ ps.length →
    (∀ i, i < n → (copyF xs ps (List.replicate T 0) n).getD (ps.getD i (0, 0)).2.toNat 0 = xs.getD (ps.getD i (0, 0)).1.toNat 0) ∧ (∀ k, (∀ i, i < n → (ps.getD i (0, 0)).2.toNat ≠ k) → (copyF xs ps (List.replicate T 0) n).getD k 0 = 0)
  | 0, _ => ⟨fun i hi => absurd hi (by omega), fun k _ => by
    rw [copyF, List.getD_eq_getElem?_getD, List.getElem?_replicate]; split <;> rfl⟩
  | n + 1, hn => by
    have ih := copy_meets hx h hT n (by omega)
    have hl := copyF_len xs ps (List.replicate T 0) n
    rw [List.length_replicate] at hl
    have hz := ih.2 (ps.getD n (0, 0)).2.toNat fun i hi e => by
      have h1 := cpy_rise h hi (show n < ps.length by omega)
      have h2 := (plainB_at h i (by omega)).2.2.1
      omega
    rw [copyF]
    generalize copyF xs ps (List.replicate T 0) n = c at *
    rw [hz, orI_zero (hx _)]
    refine ⟨fun i hi => ?_, fun k hk => ?_⟩
    · rw [List.getD_eq_getElem?_getD (l := c.set _ _), List.getElem?_set]
      by_cases e : i = n
      · subst e
        rw [if_pos rfl, if_pos (by rw [hl]; exact hT i (by omega))]; rfl
      · have h1 := cpy_rise h (show i < n by omega) (show n < ps.length by omega)
        have h2 := (plainB_at h i (by omega)).2.2.1
        rw [if_neg (by omega), ← List.getD_eq_getElem?_getD]
        exact ih.1 i (by omega)
    · rw [List.getD_eq_getElem?_getD (l := c.set _ _), List.getElem?_set, if_neg (hk n (by omega)), ← List.getD_eq_getElem?_getD]
      exact ih.2 k fun i hi => hk i (by omega)
/-- digits, the highest first -/
def dsg (x : Int) : Nat → List Int
  | 0 => []
  | k + 1 => dsg (x / 10) k ++ [x % 10]
theorem pun_dsg : ∀ (k : Nat) (x : Int), pun x k = (dsg x k).map bitI
  | 0, _ => rfl
  | k + 1, x => by rw [pun, dsg, List.map_append, pun_dsg k]; rfl
theorem dsg_bd : ∀ (k : Nat) (x : Int), ∀ d ∈ dsg x k, 0 ≤ d ∧ d ≤ 9
  | 0, _, d, h => by simp [dsg] at h
  | k + 1, x, d, h => by
    rw [dsg, List.mem_append, List.mem_singleton] at h
    rcases h with h | rfl
    · exact dsg_bd k _ d h
    · omega
theorem dsg_val : ∀ (k : Nat) (x n : Int), 0 ≤ x → x < 10 ^ k → (dsg x k).foldl (fun a d => 10 * a + d) n = n * 10 ^ k + x
  | 0, x, n, h0, h1 => by simp at h1; simp [dsg]; omega
  | k + 1, x, n, h0, h1 => by
    rw [dsg, List.foldl_append, dsg_val k (x / 10) n (by omega) (by rw [Int.pow_succ] at h1; omega)]
    show 10 * (n * 10 ^ k + x / 10) + x % 10 = _
    rw [Int.pow_succ, ← Int.mul_assoc]
    omega
theorem bit_fin : ∀ k : Fin 10, andI (bitI ((k.val : Nat) : Int)) 2 = 0 ∧ digFrom (bitI ((k.val : Nat) : Int)) 0 = ((k.val : Nat) : Int) ∧ ¬ bitI ((k.val : Nat) : Int) = 0 := by decide +kernel
theorem bit_law {d : Int} (h : 0 ≤ d ∧ d ≤ 9) : andI (bitI d) 2 = 0 ∧ digFrom (bitI d) 0 = d ∧ ¬ bitI d = 0 := by
  have := bit_fin ⟨d.toNat, by omega⟩
  have e : ((d.toNat : Nat) : Int) = d := by omega
  rwa [e] at this
theorem numS_bits : ∀ (ds : List Int) (n : Int) (b : Bool), (∀ d ∈ ds, 0 ≤ d ∧ d ≤ 9) → ds ≠ [] → numS (ds.map bitI) n b = (ds.foldl (fun a d => 10 * a + d) n, true)
  | [], _, _, _, h => absurd rfl h
  | [d], n, b, h, _ => by
    have h1 := bit_law (h d (by simp))
    have h2 := h d (by simp)
    show numE (bitI d) n b = _
    rw [numE, if_pos h1.1, if_neg (fun q => h1.2.2 q.1), h1.2.1, if_neg (by omega)]; rfl
  | d :: e :: r, n, b, h, _ => by
    have h1 := bit_law (h d (by simp))
    have h2 := h d (by simp)
    have ih := numS_bits (e :: r) (10 * n + d) true (fun x hx => h x (by simp [List.mem_cons.1 hx])) (by simp)
    show numS (bitI d :: bitI e :: r.map bitI) n b = _
    rw [numS, if_neg (fun q => h1.2.2 q.1), h1.2.1, if_neg (by omega)]
    exact ih
/-- a number that was punched is read back -/
theorem num_pun {x : Int} {k : Nat} (h0 : 0 ≤ x) (h1 : x < 10 ^ k) (hk : 1 ≤ k) : numL (pun x k) = (x, true) := by
  unfold numL
  rw [pun_dsg, numS_bits _ _ _ (dsg_bd k x) (fun e => by
    have := congrArg List.length (pun_dsg k x)
    rw [e, pun_len] at this; simp at this; omega), dsg_val k x 0 h0 h1]
  simp
end Go.Proofs.YtcbpiaehkodliaaGreatDoor
/- GngA -/
namespace Go.Proofs.YtcbpiaehkodliaaGreatDoor
open Go Go.Gw
set_option linter.unusedVariables false
set_option linter.unusedSimpArgs false
/-- two cards differ in the n-th copy -/
def difAt (xs ys : List Int) (ps : List (Int × Int)) (n : Nat) : Prop := ¬ xs.getD (ps.getD n (0, 0)).1.toNat 0 = ys.getD (ps.getD n (0, 0)).2.toNat 0
instance (xs ys : List Int) (ps : List (Int × Int)) (n : Nat) : Decidable (difAt xs ys ps n) := by unfold difAt; infer_instance
def difN (xs ys : List Int) (ps : List (Int × Int)) : Nat → List Int
  | 0 => []
  | n + 1 => difN xs ys ps n ++ (if difAt xs ys ps n then [(n : Int)] else [])
theorem difN_len (xs ys : List Int) (ps : List (Int × Int)) : ∀ n, (difN xs ys ps n).length ≤ n
  | 0 => Nat.le_refl _
  | n + 1 => by
    have := difN_len xs ys ps n
    rw [difN]; split <;> simp <;> omega
theorem difN_none {xs ys : List Int} {ps : List (Int × Int)} : ∀ n, (∀ i, i < n → ¬ difAt xs ys ps i) → difN xs ys ps n = []
  | 0, _ => rfl
  | n + 1, h => by rw [difN, difN_none n (fun i hi => h i (by omega)), if_neg (h n (by omega))]; rfl
theorem difN_yes {xs ys : List Int} {ps : List (Int × Int)} {i : Int} (h0 : 0 ≤ i) (h : ¬ xs.getD (ps.getD i.toNat (0, 0)).1.toNat 0 = ys.getD (ps.getD i.toNat (0, 0)).2.toNat 0) : difN xs ys ps (i + 1).toNat = difN xs ys ps i.toNat ++ [i] := by
  rw [show (i + 1).toNat = i.toNat + 1 by omega, difN, if_pos (show difAt xs ys ps i.toNat from h), show ((i.toNat : Nat) : Int) = i by omega]
theorem difN_no {xs ys : List Int} {ps : List (Int × Int)} {i : Int} (h0 : 0 ≤ i) (h : xs.getD (ps.getD i.toNat (0, 0)).1.toNat 0 = ys.getD (ps.getD i.toNat (0, 0)).2.toNat 0) : difN xs ys ps (i + 1).toNat = difN xs ys ps i.toNat := by
  rw [show (i + 1).toNat = i.toNat + 1 by omega, difN, if_neg (show ¬ difAt xs ys ps i.toNat from fun q => q h), List.append_nil]
section
variable {w : World} {lo hi lo' hi' l2 h2 b b' o o' : Nat} {v v' v2 : Value} {xs ys : List Int} {ps : List (Int × Int)} {f t : Int}
theorem compared_c (h : SL w lo hi v xs := by repeat (first | assumption | exact Go.Gw.Own.sl (by assumption) | exact Go.Gw.Box.at (by assumption) | exact Go.Gw.SLL.el (by first | assumption | exact Go.Gw.OwnD.sll (by assumption)) _ (by omega) | exact Go.Gw.SLL.at (by first | assumption | exact Go.Gw.OwnD.sll (by assumption)) (by omega) | exact Go.Gw.OwnD.sll (by assumption) | (apply Go.Gw.SL.chg; case hx => assumption) | (apply Go.Gw.Own.chg; case hx => assumption) | (apply Go.Gw.Box.chg; case hx => assumption) | (apply Go.Gw.At.chg; case hx => assumption) | exact .inl (Nat.zero_le _) | exact .inr (Nat.zero_le _) | (show _ ∨ _; omega))) (h' : SL w lo' hi' v' ys := by repeat (first | assumption | exact Go.Gw.Own.sl (by assumption) | exact Go.Gw.Box.at (by assumption) | exact Go.Gw.SLL.el (by first | assumption | exact Go.Gw.OwnD.sll (by assumption)) _ (by omega) | exact Go.Gw.SLL.at (by first | assumption | exact Go.Gw.OwnD.sll (by assumption)) (by omega) | exact Go.Gw.OwnD.sll (by assumption) | (apply Go.Gw.SL.chg; case hx => assumption) | (apply Go.Gw.Own.chg; case hx => assumption) | (apply Go.Gw.Box.chg; case hx => assumption) | (apply Go.Gw.At.chg; case hx => assumption) | exact .inl (Nat.zero_le _) | exact .inr (Nat.zero_le _) | (show _ ∨ _; omega))) (hl : SL w l2 h2 v2 ps := by repeat (first | assumption | exact Go.Gw.Own.sl (by assumption) | exact Go.Gw.Box.at (by assumption) | exact Go.Gw.SLL.el (by first | assumption | exact Go.Gw.OwnD.sll (by assumption)) _ (by omega) | exact Go.Gw.SLL.at (by first | assumption | exact Go.Gw.OwnD.sll (by assumption)) (by omega) | exact Go.Gw.OwnD.sll (by assumption) | (apply Go.Gw.SL.chg; case hx => assumption) | (apply Go.Gw.Own.chg; case hx => assumption) | (apply Go.Gw.Box.chg; case hx => assumption) | (apply Go.Gw.At.chg; case hx => assumption) | exact .inl (Nat.zero_le _) | exact .inr (Nat.zero_le _) | (show _ ∨ _; omega))) (hc : okCp ps f t = true := by assumption) (hf : f = xs.length := by first | assumption | omega) (ht : t = ys.length := by first | assumption | omega) : Ret Tryz.prog 43 [.agg #[v], .agg #[v'], v2] w fun u w' => Own w' 2 w.heap.size u (difN xs ys ps ps.length) ∧ Ext w w' := by
  have hb := okCp_bd hc
  have E : Since 0 0 w w := Since.refl 0 0 w
  refine ret_enter Tryz.func43 rfl Tryz.ntmps43 rfl ?_
  focus have ht_h := h.top; have ht_h' := h'.top; have ht_hl := hl.top; refine c_seq ?_; refine c_region ?_; refine w_box rfl (k := fun b3 w3 hb3 hx3 hl3 hs3 => ?_); have hz_hx3 := hx3.size; replace h := h.ext hx3; replace h' := h'.ext hx3; replace hl := hl.ext hx3; replace E := E.trans hx3; refine w_box rfl (k := fun b4 w4 hb4 hx4 hl4 hs4 => ?_); have hz_hx4 := hx4.size; replace hb3 := hb3.ext hx4; replace h := h.ext hx4; replace h' := h'.ext hx4; replace hl := hl.ext hx4; replace E := E.trans hx4; refine w_pure (y_assign rfl) rfl ?_; refine w_nil ?_; refine x_next ?_; refine c_seq ?_; refine c_region ?_; refine w_lit (α := Int) rfl rfl rfl rfl rfl rfl rfl rfl (fun v10 w10 ho10 hx10 hl10 hh10 hs10 => ?_); have hl_ho10 := ho10.lt; have hz_hx10 := hx10.size; replace hb4 := hb4.ext hx10; replace hb3 := hb3.ext hx10; replace h := h.ext hx10; replace h' := h'.ext hx10; replace hl := hl.ext hx10; replace E := E.trans hx10; refine w_pure (y_assign rfl) rfl ?_; refine w_nil ?_; refine x_next ?_; refine c_seq ?_; refine c_seq ?_; refine c_region ?_; refine w_pure (y_move rfl) rfl ?_; refine w_pure (y_len rfl) rfl ?_; refine w_pure (y_move rfl) rfl ?_; refine w_nil ?_; refine x_next ?_; refine c_block ?_; rotate_left
  refine c_loopC (bL v10) (bH v10) (ι := Int × Value) (fun x => [(3, ptr b3 0), (4, ptr b4 0), (7, x.2), (11, v2), (12, .int .i64 ps.length), (13, .int .i64 x.1)])
    (fun x w' => Own w' 2 w.heap.size x.2 (difN xs ys ps x.1.toNat) ∧ ((bL x.2 = bL v10 ∧ bH x.2 = bH v10) ∨ w10.heap.size ≤ bL x.2) ∧ (0 ≤ x.1 ∧ x.1 ≤ ps.length) ∧ Since 0 0 w w') (fun x => (ps.length - x.1).toNat) (0, v10)
    (by repeat (first | exact trivial | refine ⟨rfl, ?_⟩)) ⟨Own.base (by assumption) (by omega), .inl ⟨rfl, rfl⟩, by dsimp only; omega, by assumption⟩ ?_
  clear ho10 E
  rintro ⟨i, u⟩ wL hxL EL ⟨g1, g2, g3, E⟩
  dsimp only at *
  have hzL := hxL.size
  have hdl := difN_len xs ys ps i.toNat
  by_cases hlt : i < ps.length
  · have hat := okCp_at hc i.toNat (by omega)
    focus have hl_g1 := g1.lt; have hz_hxL := hxL.size; replace hb4 := hb4.chg hxL (by omega); replace hb3 := hb3.chg hxL (by omega); replace h := h.chg hxL (by omega); replace h' := h'.chg hxL (by omega); replace hl := hl.chg hxL (by omega); refine c_seq ?_; refine c_region ?_; refine w_pure (y_lt rfl rfl) rfl ?_; refine w_nil ?_; refine x_next ?_; refine c_seq ?_; (refine c_dec rfl (fun hc14 => ?_) (fun hc14 => ?_) <;> try (first | exact absurd rfl hc14 | contradiction | exact Bool.noConfusion (show false = true from hc14.symm.trans (by assumption)) | exact Bool.noConfusion (show true = false from hc14.symm.trans (by assumption)) | (exfalso; omega) | (exfalso; simp only [*, Bool.not_true, Bool.not_false, reduceCtorEq] at hc14; done))); refine c_skip ?_; refine x_next ?_; refine c_seq ?_; refine c_block ?_; refine c_seq ?_; refine c_region ?_; refine w_pure (y_move rfl) rfl ?_; refine w_pure (y_index rfl rfl) rfl ?_; refine w_pure (y_load_pair rfl) rfl ?_; refine w_alloc (k := fun b9 w9 hb9 hx9 hl9 hs9 => ?_); have hz_hx9 := hx9.size; replace EL := EL.next hx9 (by omega); replace g1 := g1.ext hx9; replace E := E.trans hx9; replace hb4 := hb4.ext hx9; replace hb3 := hb3.ext hx9; replace h := h.ext hx9; replace h' := h'.ext hx9; replace hl := hl.ext hx9; refine w_pure (y_assign rfl) rfl ?_; refine w_store_boxs rfl rfl (next := fun ws19 hbs19 hxs19 hss19 => ?_); (replace hb9 := hbs19; clear hbs19); have hz_hxs19 := hxs19.size; replace EL := EL.next hxs19 (by omega); replace g1 := g1.chg hxs19 (by omega); replace E := E.next hxs19 (by omega); replace hb4 := hb4.chg hxs19 (by omega); replace hb3 := hb3.chg hxs19 (by omega); replace h := h.chg hxs19 (by omega); replace h' := h'.chg hxs19 (by omega); replace hl := hl.chg hxs19 (by omega); refine w_nil ?_; refine x_next ?_; refine c_seq ?_; refine c_region_calm mixed (by decide +kernel) (by kernel_rfl) ?_; refine q_pure (y_field rfl) rfl ?_; refine q_pure (y_load_box rfl) rfl ?_; refine q_pure (y_field rfl) rfl ?_; refine q_pure (y_load_box rfl) rfl ?_; refine q_pure (y_index rfl rfl) rfl ?_; refine q_pure (y_load_int rfl) rfl ?_; refine q_pure (y_field rfl) rfl ?_; refine q_pure (y_load_box rfl) rfl ?_; refine q_pure (y_field rfl) rfl ?_; refine q_pure (y_load_box rfl) rfl ?_; refine q_pure (y_index rfl rfl) rfl ?_; refine q_pure (y_load_int rfl) rfl ?_; refine q_pure (y_ne rfl rfl) rfl ?_; refine q_nil (fun ws37 hxs37 hzs37 => ?_); have hz_hxs37 := hxs37.size; replace hb9 := hb9.ext hxs37; replace EL := EL.next hxs37 (by omega); replace g1 := g1.ext hxs37; replace E := E.trans hxs37; replace hb4 := hb4.ext hxs37; replace hb3 := hb3.ext hxs37; replace h := h.ext hxs37; replace h' := h'.ext hxs37; replace hl := hl.ext hxs37; refine x_next ?_; (refine c_dec rfl (fun hc30 => ?_) (fun hc30 => ?_) <;> try (first | exact absurd rfl hc30 | contradiction | exact Bool.noConfusion (show false = true from hc30.symm.trans (by assumption)) | exact Bool.noConfusion (show true = false from hc30.symm.trans (by assumption)) | (exfalso; omega) | (exfalso; simp only [*, Bool.not_true, Bool.not_false, reduceCtorEq] at hc30; done))); refine c_region ?_; refine w_pure (y_move rfl) rfl ?_; refine w_pure (y_move rfl) rfl ?_; refine w_lit (α := Int) rfl rfl rfl rfl rfl rfl rfl rfl (fun v33 w33 ho33 hx33 hl33 hh33 hs33 => ?_); have hl_ho33 := ho33.lt; have hz_hx33 := hx33.size; replace hb9 := hb9.ext hx33; replace EL := EL.next hx33 (by omega); replace g1 := g1.ext hx33; replace E := E.trans hx33; replace hb4 := hb4.ext hx33; replace hb3 := hb3.ext hx33; replace h := h.ext hx33; replace h' := h'.ext hx33; replace hl := hl.ext hx33; refine w_append rfl rfl (k := fun v34 w34 ho34 hx34 hr34 => ?_); have hl_ho34 := ho34.lt; have hz_hx34 := hx34.size; replace ho33 := ho33.chg hx34 (by omega); replace hb9 := hb9.chg hx34 (by omega); replace EL := EL.next hx34 (by omega); replace E := E.next hx34 (by omega); replace hb4 := hb4.chg hx34 (by omega); replace hb3 := hb3.chg hx34 (by omega); replace h := h.chg hx34 (by omega); replace h' := h'.chg hx34 (by omega); replace hl := hl.chg hx34 (by omega); refine w_pure (y_assign rfl) rfl ?_; refine w_nil ?_; refine x_block_norm ?_; refine x_next ?_; refine c_region ?_; refine w_pure (y_add rfl rfl) rfl ?_; refine w_pure (y_move rfl) rfl ?_; refine w_nil ?_; rotate_left; refine c_skip ?_; refine x_block_norm ?_; refine x_next ?_; refine c_region ?_; refine w_pure (y_add rfl rfl) rfl ?_; refine w_pure (y_move rfl) rfl ?_; refine w_nil ?_; rotate_left
    · have e := difN_yes g3.1 hc30
      exact x_again (i + 1, _) (by repeat (first | exact trivial | refine ⟨rfl, ?_⟩)) ⟨EL.go, by dsimp only; rw [e]; assumption, by dsimp only; omega, by dsimp only; omega, by assumption⟩ (by dsimp only; omega)
    · have e := difN_no g3.1 (Decidable.not_not.1 hc30)
      exact x_again (i + 1, u) (by repeat (first | exact trivial | refine ⟨rfl, ?_⟩)) ⟨EL.go, by dsimp only; rw [e]; assumption, by dsimp only; omega, by dsimp only; omega, by assumption⟩ (by dsimp only; omega)
  · focus have hl_g1 := g1.lt; have hz_hxL := hxL.size; replace hb4 := hb4.chg hxL (by omega); replace hb3 := hb3.chg hxL (by omega); replace h := h.chg hxL (by omega); replace h' := h'.chg hxL (by omega); replace hl := hl.chg hxL (by omega); refine c_seq ?_; refine c_region ?_; refine w_pure (y_lt rfl rfl) rfl ?_; refine w_nil ?_; refine x_next ?_; refine c_seq ?_; (refine c_dec rfl (fun hc14 => ?_) (fun hc14 => ?_) <;> try (first | exact absurd rfl hc14 | contradiction | exact Bool.noConfusion (show false = true from hc14.symm.trans (by assumption)) | exact Bool.noConfusion (show true = false from hc14.symm.trans (by assumption)) | (exfalso; omega) | (exfalso; simp only [*, Bool.not_true, Bool.not_false, reduceCtorEq] at hc14; done))); refine c_exit ?_; refine x_then_exit ?_; refine x_then_exit ?_; refine x_block_hit ?_; refine x_next ?_; refine c_seq ?_; refine c_region ?_; refine w_pure (y_move rfl) rfl ?_; refine w_pure (y_assign rfl) rfl ?_; refine w_nil ?_; refine x_next ?_; refine c_ret ?_; rotate_left
    rw [show i.toNat = ps.length by omega] at g1
    exact x_retv [_] rfl ⟨rfl, trivial⟩ ⟨by assumption, E.go⟩
theorem l10Differ_c (hp : At w b o [v] := by repeat (first | assumption | exact Go.Gw.Own.sl (by assumption) | exact Go.Gw.Box.at (by assumption) | exact Go.Gw.SLL.el (by first | assumption | exact Go.Gw.OwnD.sll (by assumption)) _ (by omega) | exact Go.Gw.SLL.at (by first | assumption | exact Go.Gw.OwnD.sll (by assumption)) (by omega) | exact Go.Gw.OwnD.sll (by assumption) | (apply Go.Gw.SL.chg; case hx => assumption) | (apply Go.Gw.Own.chg; case hx => assumption) | (apply Go.Gw.Box.chg; case hx => assumption) | (apply Go.Gw.At.chg; case hx => assumption) | exact .inl (Nat.zero_le _) | exact .inr (Nat.zero_le _) | (show _ ∨ _; omega))) (hp' : At w b' o' [v'] := by repeat (first | assumption | exact Go.Gw.Own.sl (by assumption) | exact Go.Gw.Box.at (by assumption) | exact Go.Gw.SLL.el (by first | assumption | exact Go.Gw.OwnD.sll (by assumption)) _ (by omega) | exact Go.Gw.SLL.at (by first | assumption | exact Go.Gw.OwnD.sll (by assumption)) (by omega) | exact Go.Gw.OwnD.sll (by assumption) | (apply Go.Gw.SL.chg; case hx => assumption) | (apply Go.Gw.Own.chg; case hx => assumption) | (apply Go.Gw.Box.chg; case hx => assumption) | (apply Go.Gw.At.chg; case hx => assumption) | exact .inl (Nat.zero_le _) | exact .inr (Nat.zero_le _) | (show _ ∨ _; omega))) (h : SL w lo hi v xs := by repeat (first | assumption | exact Go.Gw.Own.sl (by assumption) | exact Go.Gw.Box.at (by assumption) | exact Go.Gw.SLL.el (by first | assumption | exact Go.Gw.OwnD.sll (by assumption)) _ (by omega) | exact Go.Gw.SLL.at (by first | assumption | exact Go.Gw.OwnD.sll (by assumption)) (by omega) | exact Go.Gw.OwnD.sll (by assumption) | (apply Go.Gw.SL.chg; case hx => assumption) | (apply Go.Gw.Own.chg; case hx => assumption) | (apply Go.Gw.Box.chg; case hx => assumption) | (apply Go.Gw.At.chg; case hx => assumption) | exact .inl (Nat.zero_le _) | exact .inr (Nat.zero_le _) | (show _ ∨ _; omega))) (h' : SL w lo' hi' v' ys := by repeat (first | assumption | exact Go.Gw.Own.sl (by assumption) | exact Go.Gw.Box.at (by assumption) | exact Go.Gw.SLL.el (by first | assumption | exact Go.Gw.OwnD.sll (by assumption)) _ (by omega) | exact Go.Gw.SLL.at (by first | assumption | exact Go.Gw.OwnD.sll (by assumption)) (by omega) | exact Go.Gw.OwnD.sll (by assumption) | (apply Go.Gw.SL.chg; case hx => assumption) | (apply Go.Gw.Own.chg; case hx => assumption) | (apply Go.Gw.Box.chg; case hx => assumption) | (apply Go.Gw.At.chg; case hx => assumption) | exact .inl (Nat.zero_le _) | exact .inr (Nat.zero_le _) | (show _ ∨ _; omega))) (hl : SL w l2 h2 v2 ps := by repeat (first | assumption | exact Go.Gw.Own.sl (by assumption) | exact Go.Gw.Box.at (by assumption) | exact Go.Gw.SLL.el (by first | assumption | exact Go.Gw.OwnD.sll (by assumption)) _ (by omega) | exact Go.Gw.SLL.at (by first | assumption | exact Go.Gw.OwnD.sll (by assumption)) (by omega) | exact Go.Gw.OwnD.sll (by assumption) | (apply Go.Gw.SL.chg; case hx => assumption) | (apply Go.Gw.Own.chg; case hx => assumption) | (apply Go.Gw.Box.chg; case hx => assumption) | (apply Go.Gw.At.chg; case hx => assumption) | exact .inl (Nat.zero_le _) | exact .inr (Nat.zero_le _) | (show _ ∨ _; omega))) (hc : okCp ps f t = true := by assumption) (hf : f = xs.length := by first | assumption | omega) (ht : t = ys.length := by first | assumption | omega) : Ret Tryz.prog 45 [ptr b o, ptr b' o', v2] w fun u w' => Own w' 2 w.heap.size u (difN xs ys ps ps.length) ∧ Ext w w' := by
  have hb := okCp_bd hc
  have hbl := hp.lt
  have hbl' := hp'.lt
  have E : Since 0 0 w w := Since.refl 0 0 w
  refine ret_enter Tryz.func45 rfl Tryz.ntmps45 rfl ?_
  focus have ht_h := h.top; have ht_h' := h'.top; have ht_hl := hl.top; refine c_seq ?_; refine c_region ?_; refine w_pure (y_assign rfl) rfl ?_; refine w_nil ?_; refine x_next ?_; refine c_seq ?_; refine c_region ?_; refine w_lit (α := Int) rfl rfl rfl rfl rfl rfl rfl rfl (fun v9 w9 ho9 hx9 hl9 hh9 hs9 => ?_); have hl_ho9 := ho9.lt; have hz_hx9 := hx9.size; replace hp := hp.ext hx9; replace hp' := hp'.ext hx9; replace h := h.ext hx9; replace h' := h'.ext hx9; replace hl := hl.ext hx9; replace E := E.trans hx9; refine w_pure (y_assign rfl) rfl ?_; refine w_nil ?_; refine x_next ?_; refine c_seq ?_; refine c_seq ?_; refine c_region ?_; refine w_pure (y_assign rfl) rfl ?_; refine w_nil ?_; refine x_next ?_; refine c_block ?_; rotate_left
  refine c_loopC (bL v9) (bH v9) (ι := Int × Value) (fun x => [(0, ptr b o), (1, ptr b' o'), (2, v2), (7, x.2), (8, .int .i64 x.1)])
    (fun x w' => Own w' 2 w.heap.size x.2 (difN xs ys ps x.1.toNat) ∧ ((bL x.2 = bL v9 ∧ bH x.2 = bH v9) ∨ w9.heap.size ≤ bL x.2) ∧ (0 ≤ x.1 ∧ x.1 ≤ ps.length) ∧ Since 0 0 w w') (fun x => (ps.length - x.1).toNat) (0, v9)
    (by repeat (first | exact trivial | refine ⟨rfl, ?_⟩)) ⟨Own.base (by assumption) (by omega), .inl ⟨rfl, rfl⟩, by dsimp only; omega, by assumption⟩ ?_
  clear ho9 E
  rintro ⟨i, u⟩ wL hxL EL ⟨g1, g2, g3, E⟩
  dsimp only at *
  have hzL := hxL.size
  have hdl := difN_len xs ys ps i.toNat
  by_cases hlt : i < ps.length
  · have hat := okCp_at hc i.toNat (by omega)
    focus have hl_g1 := g1.lt; have hz_hxL := hxL.size; replace hp := hp.chg hxL (by omega); replace hp' := hp'.chg hxL (by omega); replace h := h.chg hxL (by omega); replace h' := h'.chg hxL (by omega); replace hl := hl.chg hxL (by omega); refine c_seq ?_; refine c_seq ?_; refine c_region ?_; refine w_pure (y_move rfl) rfl ?_; refine w_pure (y_move rfl) rfl ?_; refine w_pure (y_len rfl) rfl ?_; refine w_pure (y_lt rfl rfl) rfl ?_; refine w_nil ?_; refine x_next ?_; (refine c_dec rfl (fun hc13 => ?_) (fun hc13 => ?_) <;> try (first | exact absurd rfl hc13 | contradiction | exact Bool.noConfusion (show false = true from hc13.symm.trans (by assumption)) | exact Bool.noConfusion (show true = false from hc13.symm.trans (by assumption)) | (exfalso; omega) | (exfalso; simp only [*, Bool.not_true, Bool.not_false, reduceCtorEq] at hc13; done))); refine c_skip ?_; refine x_next ?_; refine c_seq ?_; refine c_block ?_; refine c_seq ?_; refine c_region_calm mixed (by decide +kernel) (by kernel_rfl) ?_; refine q_pure (y_move rfl) rfl ?_; refine q_pure (y_nil rfl) rfl ?_; refine q_pure (y_field rfl) rfl ?_; refine q_pure (y_loadk rfl) rfl ?_; refine q_pure (y_move rfl) rfl ?_; refine q_pure (y_move rfl) rfl ?_; refine q_pure (y_index rfl rfl) rfl ?_; refine q_pure (y_field rfl) rfl ?_; refine q_pure (y_load_p0 rfl) rfl ?_; refine q_pure (y_index rfl rfl) rfl ?_; refine q_pure (y_load_int rfl) rfl ?_; refine q_pure (y_move rfl) rfl ?_; refine q_pure (y_nil rfl) rfl ?_; refine q_pure (y_field rfl) rfl ?_; refine q_pure (y_loadk rfl) rfl ?_; refine q_pure (y_move rfl) rfl ?_; refine q_pure (y_move rfl) rfl ?_; refine q_pure (y_index rfl rfl) rfl ?_; refine q_pure (y_field rfl) rfl ?_; refine q_pure (y_load_p1 rfl) rfl ?_; refine q_pure (y_index rfl rfl) rfl ?_; refine q_pure (y_load_int rfl) rfl ?_; refine q_pure (y_ne rfl rfl) rfl ?_; refine q_nil (fun ws40 hxs40 hzs40 => ?_); have hz_hxs40 := hxs40.size; replace EL := EL.next hxs40 (by omega); replace g1 := g1.ext hxs40; replace E := E.trans hxs40; replace hp := hp.ext hxs40; replace hp' := hp'.ext hxs40; replace h := h.ext hxs40; replace h' := h'.ext hxs40; replace hl := hl.ext hxs40; refine x_next ?_; (refine c_dec rfl (fun hc38 => ?_) (fun hc38 => ?_) <;> try (first | exact absurd rfl hc38 | contradiction | exact Bool.noConfusion (show false = true from hc38.symm.trans (by assumption)) | exact Bool.noConfusion (show true = false from hc38.symm.trans (by assumption)) | (exfalso; omega) | (exfalso; simp only [*, Bool.not_true, Bool.not_false, reduceCtorEq] at hc38; done))); refine c_region ?_; refine w_pure (y_move rfl) rfl ?_; refine w_pure (y_move rfl) rfl ?_; refine w_lit (α := Int) rfl rfl rfl rfl rfl rfl rfl rfl (fun v41 w41 ho41 hx41 hl41 hh41 hs41 => ?_); have hl_ho41 := ho41.lt; have hz_hx41 := hx41.size; replace EL := EL.next hx41 (by omega); replace g1 := g1.ext hx41; replace E := E.trans hx41; replace hp := hp.ext hx41; replace hp' := hp'.ext hx41; replace h := h.ext hx41; replace h' := h'.ext hx41; replace hl := hl.ext hx41; refine w_append rfl rfl (k := fun v42 w42 ho42 hx42 hr42 => ?_); have hl_ho42 := ho42.lt; have hz_hx42 := hx42.size; replace ho41 := ho41.chg hx42 (by omega); replace EL := EL.next hx42 (by omega); replace E := E.next hx42 (by omega); replace hp := hp.chg hx42 (by omega); replace hp' := hp'.chg hx42 (by omega); replace h := h.chg hx42 (by omega); replace h' := h'.chg hx42 (by omega); replace hl := hl.chg hx42 (by omega); refine w_pure (y_assign rfl) rfl ?_; refine w_nil ?_; refine x_block_norm ?_; refine x_next ?_; refine c_region ?_; refine w_pure (y_move rfl) rfl ?_; refine w_pure (y_add rfl rfl) rfl ?_; refine w_pure (y_assign rfl) rfl ?_; refine w_nil ?_; rotate_left; refine c_skip ?_; refine x_block_norm ?_; refine x_next ?_; refine c_region ?_; refine w_pure (y_move rfl) rfl ?_; refine w_pure (y_add rfl rfl) rfl ?_; refine w_pure (y_assign rfl) rfl ?_; refine w_nil ?_; rotate_left
    · have e := difN_yes g3.1 hc38
      exact x_again (i + 1, _) (by repeat (first | exact trivial | refine ⟨rfl, ?_⟩)) ⟨EL.go, by dsimp only; rw [e]; assumption, by dsimp only; omega, by dsimp only; omega, by assumption⟩ (by dsimp only; omega)
    · have e := difN_no g3.1 (Decidable.not_not.1 hc38)
      exact x_again (i + 1, u) (by repeat (first | exact trivial | refine ⟨rfl, ?_⟩)) ⟨EL.go, by dsimp only; rw [e]; assumption, by dsimp only; omega, by dsimp only; omega, by assumption⟩ (by dsimp only; omega)
  · focus have hl_g1 := g1.lt; have hz_hxL := hxL.size; replace hp := hp.chg hxL (by omega); replace hp' := hp'.chg hxL (by omega); replace h := h.chg hxL (by omega); replace h' := h'.chg hxL (by omega); replace hl := hl.chg hxL (by omega); refine c_seq ?_; refine c_seq ?_; refine c_region ?_; refine w_pure (y_move rfl) rfl ?_; refine w_pure (y_move rfl) rfl ?_; refine w_pure (y_len rfl) rfl ?_; refine w_pure (y_lt rfl rfl) rfl ?_; refine w_nil ?_; refine x_next ?_; (refine c_dec rfl (fun hc13 => ?_) (fun hc13 => ?_) <;> try (first | exact absurd rfl hc13 | contradiction | exact Bool.noConfusion (show false = true from hc13.symm.trans (by assumption)) | exact Bool.noConfusion (show true = false from hc13.symm.trans (by assumption)) | (exfalso; omega) | (exfalso; simp only [*, Bool.not_true, Bool.not_false, reduceCtorEq] at hc13; done))); refine c_exit ?_; refine x_then_exit ?_; refine x_then_exit ?_; refine x_block_hit ?_; refine x_next ?_; refine c_seq ?_; refine c_region ?_; refine w_pure (y_move rfl) rfl ?_; refine w_pure (y_assign rfl) rfl ?_; refine w_nil ?_; refine x_next ?_; refine c_ret ?_; rotate_left
    rw [show i.toNat = ps.length by omega] at g1
    exact x_retv [_] rfl ⟨rfl, trivial⟩ ⟨by assumption, E.go⟩
end
end Go.Proofs.YtcbpiaehkodliaaGreatDoor
/- SrcA -/
namespace Go.Proofs.YtcbpiaehkodliaaGreatDoor
open Go Go.Gw
set_option linter.unusedVariables false
set_option linter.unusedSimpArgs false
/-- a source of choices in block b, at most B bytes on -/
structure Src (w : World) (lo hi b : Nat) (B : Int) : Prop where
  go : ∃ v xs a s, Box w b [v, .int .i64 a, .int .u64 s] ∧ SL (α := UInt8) w lo hi v xs ∧ (0 ≤ a ∧ a ≤ B) ∧ (0 ≤ s ∧ s < 18446744073709551616)
  out : b < lo ∨ hi ≤ b
  top : b < w.heap.size
theorem Src.chg {w w' : World} {lo hi b l k : Nat} {B : Int} (h : Src w lo hi b B) (hx : Chg l k w w') (ho : (k ≤ lo ∨ hi ≤ l) ∧ (b < l ∨ k ≤ b)) : Src w' lo hi b B := by
  obtain ⟨v, xs, a, s, h1, h2, h3, h4⟩ := h.go
  exact ⟨⟨v, xs, a, s, h1.chg hx ho.2, h2.chg hx ho.1, h3, h4⟩, h.out, Nat.lt_of_lt_of_le h.top hx.size⟩
theorem Src.ext {w w' : World} {lo hi b : Nat} {B : Int} (h : Src w lo hi b B) (hx : Ext w w') : Src w' lo hi b B := h.chg hx ⟨.inl (Nat.zero_le _), .inr (Nat.zero_le _)⟩
theorem Src.lim {w : World} {lo hi b : Nat} {B : Int} (h : Src w lo hi b B) : hi ≤ w.heap.size := by
  obtain ⟨v, xs, a, s, h1, h2, h3, h4⟩ := h.go
  exact h2.top
theorem Src.more {w : World} {lo hi b : Nat} {B C : Int} (h : Src w lo hi b B) (hc : B ≤ C) : Src w lo hi b C := by
  obtain ⟨v, xs, a, s, h1, h2, h3, h4⟩ := h.go
  exact ⟨⟨v, xs, a, s, h1, h2, ⟨h3.1, by omega⟩, h4⟩, h.out, h.top⟩
section
variable {w : World} {lo hi b : Nat} {B : Int}
theorem srcNext_c (h : Src w lo hi b B := by assumption) (hB : B ≤ 1000000000000 := by omega) : Ret Tryz.prog 72 [ptr b 0] w fun u w' => ∃ x, u = .int .i64 x ∧ (0 ≤ x ∧ x ≤ 255) ∧ Src w' lo hi b (B + 1) ∧ Chg b (b + 1) w w' := by
  obtain ⟨v, xs, a, s, h1, h2, h3, h4⟩ := h.go
  have hout := h.out
  have htop := h.top
  clear h
  have hsm := h2.small
  have hby := (xs.getD a.toNat 0).toNat_lt
  have hwr := wrap_u64 (IntKind.u64.wrap (IntKind.u64.wrap (s * 6364136223846793005) + 0) + 1442695040888963407)
  have E : Since b (b + 1) w w := Since.refl _ _ _
  refine ret_enter Tryz.func72 rfl Tryz.ntmps72 rfl ?_
  focus have ht_h2 := h2.top; refine c_seq ?_; refine c_region ?_; refine w_pure (y_assign rfl) rfl ?_; refine w_nil ?_; refine x_next ?_; refine c_seq ?_; refine c_region ?_; refine w_pure (y_assign rfl) rfl ?_; refine w_nil ?_; refine x_next ?_; refine c_seq ?_; refine c_seq ?_; refine c_region_base mixed (fun wr2 hxr2 hzr2 EBr2 => ?_); have hz_hxr2 := hxr2.size; replace h1 := h1.ext hxr2; replace h2 := h2.ext hxr2; replace E := E.next hxr2 (by omega); refine b_pure rfl (y_move rfl) rfl ?_; refine b_pure rfl (y_nil rfl) rfl ?_; refine b_pure rfl (y_field rfl) rfl ?_; refine b_pure rfl (y_load_box rfl) rfl ?_; refine b_pure rfl (y_move rfl) rfl ?_; refine b_pure rfl (y_nil rfl) rfl ?_; refine b_pure rfl (y_field rfl) rfl ?_; refine b_pure rfl (y_load_box rfl) rfl ?_; refine b_pure rfl (y_len rfl) rfl ?_; refine b_pure rfl (y_lt rfl rfl) rfl ?_; refine b_nil ?_; refine x_next ?_; (refine c_dec rfl (fun hc13 => ?_) (fun hc13 => ?_) <;> try (first | exact absurd rfl hc13 | contradiction | exact Bool.noConfusion (show false = true from hc13.symm.trans (by assumption)) | exact Bool.noConfusion (show true = false from hc13.symm.trans (by assumption)) | (exfalso; omega) | (exfalso; simp only [*, Bool.not_true, Bool.not_false, reduceCtorEq] at hc13; done))); refine c_region_base mixed (fun wr3 hxr3 hzr3 EBr3 => ?_); have hz_hxr3 := hxr3.size; replace EBr2 := EBr2.trans hxr3; replace h1 := h1.ext hxr3; replace h2 := h2.ext hxr3; replace E := E.next hxr3 (by omega); refine b_pure rfl (y_move rfl) rfl ?_; refine b_pure rfl (y_nil rfl) rfl ?_; refine b_pure rfl (y_field rfl) rfl ?_; refine b_pure rfl (y_load_box rfl) rfl ?_; refine b_pure rfl (y_move rfl) rfl ?_; refine b_pure rfl (y_nil rfl) rfl ?_; refine b_pure rfl (y_field rfl) rfl ?_; refine b_pure rfl (y_load_box rfl) rfl ?_; refine b_pure rfl (y_index rfl rfl) rfl ?_; refine b_pure rfl (y_load_u8 rfl) rfl ?_; refine b_pure rfl (y_conv64 rfl) rfl ?_; refine b_pure rfl (y_assign rfl) rfl ?_; refine b_nil ?_; refine x_next ?_; refine c_seq ?_; refine c_region ?_; refine w_pure (y_move rfl) rfl ?_; refine w_pure (y_nil rfl) rfl ?_; refine w_pure (y_field rfl) rfl ?_; refine w_pure (y_load_box rfl) rfl ?_; refine w_pure (y_add rfl rfl) rfl ?_; refine w_pure (y_nil rfl) rfl ?_; refine w_pure (y_field rfl) rfl ?_; refine w_store_box rfl rfl (next := fun ws51 hbs51 hxs51 hss51 => ?_); (replace h1 := hbs51; clear hbs51); have hz_hxs51 := hxs51.size; replace h2 := h2.chg hxs51 (by omega); replace E := E.trans hxs51; refine w_nil ?_; refine x_next ?_; refine c_seq ?_; refine c_region ?_; refine w_pure (y_move rfl) rfl ?_; refine w_pure (y_move rfl) rfl ?_; refine w_pure (y_nil rfl) rfl ?_; refine w_pure (y_field rfl) rfl ?_; refine w_pure (y_load_box rfl) rfl ?_; refine w_pure (y_mul_wrap (k := .u64) rfl rfl) rfl ?_; refine w_pure (y_move rfl) rfl ?_; refine w_pure (y_convu rfl (by omega)) rfl ?_; refine w_pure (y_add_wrap (k := .u64) rfl rfl) rfl ?_; refine w_pure (y_add_wrap (k := .u64) rfl rfl) rfl ?_; refine w_pure (y_nil rfl) rfl ?_; refine w_pure (y_field rfl) rfl ?_; refine w_store_box rfl rfl (next := fun ws68 hbs68 hxs68 hss68 => ?_); (replace h1 := hbs68; clear hbs68); have hz_hxs68 := hxs68.size; replace h2 := h2.chg hxs68 (by omega); replace E := E.trans hxs68; refine w_nil ?_; refine x_next ?_; refine c_seq ?_; refine c_seq ?_; refine c_region_base mixed (fun wr6 hxr6 hzr6 EBr6 => ?_); have hz_hxr6 := hxr6.size; replace h1 := h1.ext hxr6; replace h2 := h2.ext hxr6; replace E := E.next hxr6 (by omega); refine b_pure rfl (y_move rfl) rfl ?_; refine b_pure rfl (y_nil rfl) rfl ?_; refine b_pure rfl (y_field rfl) rfl ?_; refine b_pure rfl (y_load_box rfl) rfl ?_; refine b_pure rfl (y_move rfl) rfl ?_; refine b_pure rfl (y_nil rfl) rfl ?_; refine b_pure rfl (y_field rfl) rfl ?_; refine b_pure rfl (y_load_box rfl) rfl ?_; refine b_pure rfl (y_len rfl) rfl ?_; refine b_pure rfl (y_le rfl rfl) rfl ?_; refine b_nil ?_; refine x_next ?_; (refine c_dec rfl (fun hc53 => ?_) (fun hc53 => ?_) <;> try (first | exact absurd rfl hc53 | contradiction | exact Bool.noConfusion (show false = true from hc53.symm.trans (by assumption)) | exact Bool.noConfusion (show true = false from hc53.symm.trans (by assumption)) | (exfalso; omega) | (exfalso; simp only [*, Bool.not_true, Bool.not_false, reduceCtorEq] at hc53; done))); refine c_seq ?_; refine c_region ?_; refine w_pure (y_move rfl) rfl ?_; refine w_pure (y_assign rfl) rfl ?_; refine w_nil ?_; refine x_next ?_; refine c_ret ?_; refine x_then_ret ?_; rotate_left; refine c_skip ?_; refine x_next ?_; refine c_seq ?_; refine c_region ?_; refine w_pure (y_move rfl) rfl ?_; refine w_pure (y_nil rfl) rfl ?_; refine w_pure (y_field rfl) rfl ?_; refine w_pure (y_load_box rfl) rfl ?_; refine w_pure (y_add rfl rfl) rfl ?_; refine w_pure (y_nil rfl) rfl ?_; refine w_pure (y_field rfl) rfl ?_; refine w_store_box rfl rfl (next := fun ws107 hbs107 hxs107 hss107 => ?_); (replace h1 := hbs107; clear hbs107); have hz_hxs107 := hxs107.size; replace h2 := h2.chg hxs107 (by omega); replace E := E.trans hxs107; refine w_nil ?_; refine x_next ?_; refine c_seq ?_; refine c_region ?_; refine w_pure (y_move rfl) rfl ?_; refine w_pure (y_move rfl) rfl ?_; refine w_pure (y_nil rfl) rfl ?_; refine w_pure (y_field rfl) rfl ?_; refine w_pure (y_load_box rfl) rfl ?_; refine w_pure (y_mul_wrap (k := .u64) rfl rfl) rfl ?_; refine w_pure (y_move rfl) rfl ?_; refine w_pure (y_convu rfl (by omega)) rfl ?_; refine w_pure (y_add_wrap (k := .u64) rfl rfl) rfl ?_; refine w_pure (y_add_wrap (k := .u64) rfl rfl) rfl ?_; refine w_pure (y_nil rfl) rfl ?_; refine w_pure (y_field rfl) rfl ?_; refine w_store_box rfl rfl (next := fun ws124 hbs124 hxs124 hss124 => ?_); (replace h1 := hbs124; clear hbs124); have hz_hxs124 := hxs124.size; replace h2 := h2.chg hxs124 (by omega); replace E := E.trans hxs124; refine w_nil ?_; refine x_next ?_; refine c_seq ?_; refine c_seq ?_; refine c_region_base mixed (fun wr6 hxr6 hzr6 EBr6 => ?_); have hz_hxr6 := hxr6.size; replace h1 := h1.ext hxr6; replace h2 := h2.ext hxr6; replace E := E.next hxr6 (by omega); refine b_pure rfl (y_move rfl) rfl ?_; refine b_pure rfl (y_nil rfl) rfl ?_; refine b_pure rfl (y_field rfl) rfl ?_; refine b_pure rfl (y_load_box rfl) rfl ?_; refine b_pure rfl (y_move rfl) rfl ?_; refine b_pure rfl (y_nil rfl) rfl ?_; refine b_pure rfl (y_field rfl) rfl ?_; refine b_pure rfl (y_load_box rfl) rfl ?_; refine b_pure rfl (y_len rfl) rfl ?_; refine b_pure rfl (y_le rfl rfl) rfl ?_; refine b_nil ?_; refine x_next ?_; (refine c_dec rfl (fun hc53 => ?_) (fun hc53 => ?_) <;> try (first | exact absurd rfl hc53 | contradiction | exact Bool.noConfusion (show false = true from hc53.symm.trans (by assumption)) | exact Bool.noConfusion (show true = false from hc53.symm.trans (by assumption)) | (exfalso; omega) | (exfalso; simp only [*, Bool.not_true, Bool.not_false, reduceCtorEq] at hc53; done))); refine c_skip ?_; refine x_next ?_; refine c_seq ?_; refine c_region ?_; refine w_pure (y_move rfl) rfl ?_; refine w_pure (y_nil rfl) rfl ?_; refine w_pure (y_field rfl) rfl ?_; refine w_pure (y_load_box rfl) rfl ?_; refine w_pure (y_shr40 rfl rfl) rfl ?_; refine w_pure (y_and255 rfl rfl (by omega)) rfl ?_; refine w_pure (y_conv64 rfl (by have := andI_le (a := (IntKind.u64.wrap (IntKind.u64.wrap (IntKind.u64.wrap (s * 6364136223846793005) + 0) + 1442695040888963407)) / 1099511627776) (b := 255) (by decide); exact ⟨by omega, by omega⟩)) rfl ?_; refine w_pure (y_assign rfl) rfl ?_; refine w_nil ?_; refine x_next ?_; refine c_ret ?_; rotate_left
  · exact x_retv [_] rfl ⟨rfl, trivial⟩ ⟨_, rfl, by omega, ⟨⟨v, xs, _, _, h1, h2, by omega, wrap_u64 _⟩, hout, Nat.lt_of_lt_of_le htop E.go.size⟩, E.go⟩
  · have hx := andI_le (a := (IntKind.u64.wrap (IntKind.u64.wrap (IntKind.u64.wrap (s * 6364136223846793005) + 0) + 1442695040888963407)) / 1099511627776) (b := 255) (by decide)
    exact x_retv [_] rfl ⟨rfl, trivial⟩ ⟨_, rfl, hx, ⟨⟨v, xs, _, _, h1, h2, by omega, wrap_u64 _⟩, hout, Nat.lt_of_lt_of_le htop E.go.size⟩, E.go⟩
theorem srcPick_c (n : Int) (h : Src w lo hi b B := by assumption) (hB : B ≤ 100000000000 := by omega) (hn : n ≤ 1000000000000 := by omega) : Ret Tryz.prog 39 [ptr b 0, .int .i64 n] w fun u w' => ∃ x, u = .int .i64 x ∧ (0 ≤ x ∧ (x < n ∨ x = 0)) ∧ Src w' lo hi b (B + 2) ∧ Chg b (b + 1) w w' := by
  have hout := h.out
  have E : Since b (b + 1) w w := Since.refl _ _ _
  refine ret_enter Tryz.func39 rfl Tryz.ntmps39 rfl ?_
  focus have ht_h := h.top; refine c_seq ?_; refine c_region ?_; refine w_pure (y_assign rfl) rfl ?_; refine w_nil ?_; refine x_next ?_; refine c_seq ?_; refine c_seq ?_; refine c_region ?_; refine w_pure (y_move rfl) rfl ?_; refine w_pure (y_le rfl rfl) rfl ?_; refine w_nil ?_; refine x_next ?_; (refine c_dec rfl (fun hc7 => ?_) (fun hc7 => ?_) <;> try (first | exact absurd rfl hc7 | contradiction | exact Bool.noConfusion (show false = true from hc7.symm.trans (by assumption)) | exact Bool.noConfusion (show true = false from hc7.symm.trans (by assumption)) | (exfalso; omega) | (exfalso; simp only [*, Bool.not_true, Bool.not_false, reduceCtorEq] at hc7; done))); refine c_seq ?_; refine c_region ?_; refine w_pure (y_assign rfl) rfl ?_; refine w_nil ?_; refine x_next ?_; refine c_ret ?_; refine x_then_ret ?_; rotate_left; refine c_skip ?_; refine x_next ?_; refine c_seq ?_; refine c_region ?_; refine w_pure (y_move rfl) rfl ?_; (refine w_call rfl rfl rfl (srcNext_c) rfl ?_; rintro _ w9 ⟨x9, ⟨rfl, ⟨⟨hp1_9, hp2_9⟩, ⟨hp3_9, hx9⟩⟩⟩⟩); have hz_hx9 := hx9.size; replace E := E.trans hx9; refine w_pure (y_assign rfl) rfl ?_; refine w_nil ?_; refine x_next ?_; refine c_seq ?_; refine c_seq ?_; refine c_region ?_; refine w_pure (y_move rfl) rfl ?_; refine w_pure (y_gt rfl rfl) rfl ?_; refine w_nil ?_; refine x_next ?_; (refine c_dec rfl (fun hc11 => ?_) (fun hc11 => ?_) <;> try (first | exact absurd rfl hc11 | contradiction | exact Bool.noConfusion (show false = true from hc11.symm.trans (by assumption)) | exact Bool.noConfusion (show true = false from hc11.symm.trans (by assumption)) | (exfalso; omega) | (exfalso; simp only [*, Bool.not_true, Bool.not_false, reduceCtorEq] at hc11; done))); refine c_region ?_; refine w_pure (y_move rfl) rfl ?_; refine w_pure (y_mul rfl rfl) rfl ?_; refine w_pure (y_move rfl) rfl ?_; (refine w_call rfl rfl rfl (srcNext_c) rfl ?_; rintro _ w15 ⟨x15, ⟨rfl, ⟨⟨hp1_15, hp2_15⟩, ⟨hp3_15, hx15⟩⟩⟩⟩); have hz_hx15 := hx15.size; replace E := E.trans hx15; refine w_pure (y_add rfl rfl) rfl ?_; refine w_pure (y_assign rfl) rfl ?_; refine w_nil ?_; refine x_next ?_; refine c_seq ?_; refine c_region ?_; refine w_pure (y_move rfl) rfl ?_; refine w_pure (y_move rfl) rfl ?_; refine w_pure (y_rem rfl rfl) rfl ?_; refine w_pure (y_assign rfl) rfl ?_; refine w_nil ?_; refine x_next ?_; refine c_ret ?_; rotate_left; refine c_skip ?_; refine x_next ?_; refine c_seq ?_; refine c_region ?_; refine w_pure (y_move rfl) rfl ?_; refine w_pure (y_move rfl) rfl ?_; refine w_pure (y_rem rfl rfl) rfl ?_; refine w_pure (y_assign rfl) rfl ?_; refine w_nil ?_; refine x_next ?_; refine c_ret ?_; rotate_left
  · exact x_retv [_] rfl ⟨rfl, trivial⟩ ⟨0, rfl, by omega, (by assumption : Src _ _ _ _ _).more (by omega), E.go⟩
  · exact x_retv [_] rfl ⟨rfl, trivial⟩ ⟨_, rfl, ⟨Int.emod_nonneg _ (by omega), .inl (Int.emod_lt_of_pos _ (by omega))⟩, hp3_15.more (by omega), E.go⟩
  · exact x_retv [_] rfl ⟨rfl, trivial⟩ ⟨_, rfl, ⟨Int.emod_nonneg _ (by omega), .inl (Int.emod_lt_of_pos _ (by omega))⟩, hp3_9.more (by omega), E.go⟩
theorem srcPick_z (n : Int) (hn : 1 ≤ n ∧ n ≤ 1000000000000 := by omega) (h : Src w lo hi b B := by assumption) (hB : B ≤ 100000000000 := by omega) : Ret Tryz.prog 39 [ptr b 0, .int .i64 n] w fun u w' => ∃ x, u = .int .i64 x ∧ (0 ≤ x ∧ x < n) ∧ Src w' lo hi b (B + 2) ∧ Chg b (b + 1) w w' := by
  refine (srcPick_c n h hB hn.2).mono ?_
  rintro u w' ⟨x, h1, h2, h3⟩
  exact ⟨x, h1, by omega, h3⟩
theorem srcOne_c (n : Int) (h : Src w lo hi b B := by assumption) (hB : B ≤ 100000000000 := by omega) (hn : n ≤ 1000000000000 := by omega) : Ret Tryz.prog 40 [ptr b 0, .int .i64 n] w fun u w' => ∃ q, u = .bool q ∧ Src w' lo hi b (B + 2) ∧ Chg b (b + 1) w w' := by
  have E : Since b (b + 1) w w := Since.refl _ _ _
  refine ret_enter Tryz.func40 rfl Tryz.ntmps40 rfl ?_
  focus have ht_h := h.top; refine c_seq ?_; refine c_region ?_; refine w_pure (y_assign rfl) rfl ?_; refine w_nil ?_; refine x_next ?_; refine c_seq ?_; refine c_region ?_; refine w_pure (y_move rfl) rfl ?_; refine w_pure (y_move rfl) rfl ?_; (refine w_call rfl rfl rfl (srcPick_c _) rfl ?_; rintro _ w7 ⟨x7, ⟨rfl, ⟨⟨hp1_7, hp2_7⟩, ⟨hp3_7, hx7⟩⟩⟩⟩); have hz_hx7 := hx7.size; replace E := E.trans hx7; refine w_pure (y_eq rfl rfl) rfl ?_; refine w_pure (y_assign rfl) rfl ?_; refine w_nil ?_; refine x_next ?_; refine c_ret ?_; rotate_left
  exact x_retv [_] rfl ⟨rfl, trivial⟩ ⟨_, rfl, by assumption, E.go⟩
theorem srcFrom_c {v : Value} {xs : List UInt8} (h : SL w lo hi v xs := by repeat (first | assumption | exact Go.Gw.Own.sl (by assumption) | exact Go.Gw.Box.at (by assumption) | exact Go.Gw.SLL.el (by first | assumption | exact Go.Gw.OwnD.sll (by assumption)) _ (by omega) | exact Go.Gw.SLL.at (by first | assumption | exact Go.Gw.OwnD.sll (by assumption)) (by omega) | exact Go.Gw.OwnD.sll (by assumption) | (apply Go.Gw.SL.chg; case hx => assumption) | (apply Go.Gw.Own.chg; case hx => assumption) | (apply Go.Gw.Box.chg; case hx => assumption) | (apply Go.Gw.At.chg; case hx => assumption) | exact .inl (Nat.zero_le _) | exact .inr (Nat.zero_le _) | (show _ ∨ _; omega))) : Ret Tryz.prog 29 [v] w fun u w' => ∃ c, u = ptr c 0 ∧ w.heap.size ≤ c ∧ Src w' lo hi c 0 ∧ Ext w w' := by
  have ht := h.top
  have E : Since 0 0 w w := Since.refl 0 0 w
  refine ret_enter Tryz.func29 rfl Tryz.ntmps29 rfl ?_
  focus have ht_h := h.top; refine c_seq ?_; refine c_region ?_; refine w_pure (y_assign rfl) rfl ?_; refine w_nil ?_; refine x_next ?_; refine c_seq ?_; refine c_region ?_; refine w_pure (y_move rfl) rfl ?_; refine w_pure (y_build rfl) rfl ?_; refine w_box rfl (k := fun b5 w5 hb5 hx5 hl5 hs5 => ?_); have hz_hx5 := hx5.size; replace h := h.ext hx5; replace E := E.trans hx5; refine w_pure (y_assign rfl) rfl ?_; refine w_nil ?_; refine x_next ?_; refine c_ret ?_; rotate_left
  exact x_retv [_] rfl ⟨rfl, trivial⟩ ⟨b5, rfl, by omega, ⟨⟨v, xs, 0, 0, hb5, h, by omega, by omega⟩, by omega, hb5.lt⟩, E.go⟩
end
end Go.Proofs.YtcbpiaehkodliaaGreatDoor
/- L23 -/
namespace Go.Gw
open Go
set_option linter.unusedVariables false
set_option linter.unusedSimpArgs false
section
variable {P : Program} {N : Nat} {Q : Post} {σ : Fm} {w : World} {ops : Array Oper} {op : Op} {ty : TypeId} {pos : String} {af : Array Edge} {d lo hi : Nat} {v : Value}
/-- the last operation, where it stores and all others come ahead of it: behind it nothing is asked of the world -/
def spI (ops : Array Oper) (k : Nat) : Bool := Nat.beq (k + 1) ops.size && ((match ops[k]? with
  | some o => match o.op with
    | .store _ _ _ => true
    | _ => false
  | none => false) && (List.range k).all fun j => waitsB ops ops.size k j)
theorem spI_lt {k : Nat} (h : spI ops k = true) : k < ops.size := by
  unfold spI at h
  simp only [Bool.and_eq_true] at h
  have := Nat.eq_of_beq_eq_true h.1
  omega
/-- while the last has not come up since 'ls', only lo..hi has changed -/
def SI (lo hi : Nat) (sp : Nat → Bool) (ls : Array Bool) (w : World) (listed : Array Bool) (w' : World) : Prop :=
  (∀ k, sp k = true → listed.getD k false = true → ls.getD k false = true) → Chg lo hi w w'
theorem wpAnyI_first {sp : Nat → Bool} {i : Nat} {oi : Oper} {L : Array Bool} {w0 : World} (hi' : ops[i]? = some oi) (hsel : ∀ (j : Nat) (o : Oper) cs b, ops[j]? = some o → o.op ≠ .select cs b)
    (hQ : ∀ c a w, Q (.panic c) (a.put oi.dst v) w → Q (.panic c) a w) (hsp : sp i = false) :
    ∀ (fuel : Nat) (listed : Array Bool) (a : Act) (w : World), Closed ops listed → (∀ k, sp k = true → listed.getD k false = true → L.getD k false = true) →
      (∀ k, sp k = true → listed.getD k false = false → waitsB ops ops.size k i = true) →
      (∀ j oj, ops[j]? = some oj → j ≠ i → listed.getD j true = false → (∀ e ∈ oj.after, Region.binds .any e = true → e.on ≠ i) → oi.apart ops oj = true) →
      i ∈ Region.ready .any ops listed → YieldsIf P ops (fun w' => Chg lo hi w0 w') oi v a → Chg lo hi w0 w →
      wpAnyS P ops Q (SI lo hi sp L w0) fuel (listed.setIfInBounds i true) (a.put oi.dst v) w → wpAnyS P ops Q (SI lo hi sp L w0) (fuel + 1) listed a w := by
  intro fuel
  induction fuel with
  | zero =>
    intro listed a w hcl hK hw _ hr hy hS H
    refine ⟨fun h => (by rw [h] at hr; cases hr), fun j hj => ?_⟩
    by_cases hji : j = i
    · subst hji; exact hy.wpOp hi' hS ⟨fun _ => hS, H⟩
    · have := ready_mono hj hji
      rw [H.1] at this
      cases this
  | succ fuel ih =>
    intro listed a w hcl hK hw hfree hr hy hS H
    refine ⟨fun h => (by rw [h] at hr; cases hr), fun j hj => ?_⟩
    by_cases hji : j = i
    · subst hji; exact hy.wpOp hi' hS ⟨fun _ => hS, H⟩
    · have h1 := H.2 j (ready_mono hj hji)
      obtain ⟨hjun, oj, hoj, hall⟩ := mem_ready.1 hj
      have hiun := unlisted (mem_ready.1 hr).1
      have hjs : sp j = false := by
        cases hs : sp j
        · rfl
        · have := waits_listed hcl _ j oj hoj hall (hw j hs (unlisted hjun))
          rw [hiun] at this; cases this
      have hnot : ∀ e ∈ oj.after, Region.binds .any e = true → e.on ≠ i := fun e he hb heq => by
        have h1 := hall e he hb
        rw [heq, hiun] at h1
        cases h1
      have h2 := wpOp_putIf hoj (hfree j oj hoj hji hjun hnot) (fun cs b => hsel i oi cs b hi') (fun cs b => hsel j oj cs b hoj) hQ hy h1
      have hfree' : ∀ k ok, ops[k]? = some ok → k ≠ i → (listed.setIfInBounds j true).getD k true = false →
          (∀ e ∈ ok.after, Region.binds .any e = true → e.on ≠ i) → oi.apart ops ok = true := fun k ok hk hki hun hno => by
        refine hfree k ok hk hki ?_ hno
        by_cases hjk : j = k
        · subst hjk; exact hjun
        · rw [getD_set_ne true hjk] at hun; exact hun
      have hcl' : Closed ops (listed.setIfInBounds j true) := fun k o hk hl e he hb => by
        rcases getD_set_or hl with rfl | hl
        · rw [hoj] at hk; cases hk; exact getD_set_true (hall e he hb)
        · exact getD_set_true (hcl k o hk hl e he hb)
      have hK' : ∀ k, sp k = true → (listed.setIfInBounds j true).getD k false = true → L.getD k false = true := fun k hs hl => by
        rcases getD_set_or hl with rfl | hl
        · rw [hjs] at hs; cases hs
        · exact hK k hs hl
      have hw' : ∀ k, sp k = true → (listed.setIfInBounds j true).getD k false = false → waitsB ops ops.size k i = true := fun k hs hl => by
        refine hw k hs ?_
        cases h : listed.getD k false
        · rfl
        · rw [getD_set_true h] at hl; cases hl
      refine wpOp_mono (fun a' w' h3 => ?_) h2
      obtain ⟨h3y, h3s, h3k⟩ := h3
      have hx : Chg lo hi w0 w' := h3s fun k hs hl => by
        rcases getD_set_or hl with rfl | hl
        · rw [hjs] at hs; cases hs
        · rcases getD_set_or hl with rfl | hl
          · rw [hsp] at hs; cases hs
          · exact hK k hs hl
      refine ⟨fun _ => hx, ih (listed.setIfInBounds j true) a' w' hcl' hK' hw' hfree' (ready_mono hr (Ne.symm hji)) h3y hx ?_⟩
      rw [Array.setIfInBounds_comm _ _ hji]
      exact h3k

def mayTakeI (ops : Array Oper) (ls : Array Bool) (i : Nat) : Bool :=
  (Region.ready .any ops ls).contains i && (Region.free .any ops ls i && (Region.noSelect ops && (!spI ops i && (closedB ops ls && (List.range ops.size).all fun k => !spI ops k || ls.getD k false || waitsB ops ops.size k i))))
theorem take_I {i fuel : Nat} {oi : Oper} {ls : Array Bool} {a : Act} (hi' : ops[i]? = some oi) (hm : mayTakeI ops ls i = true) (hQ : ∀ c a w, Q (.panic c) (a.put oi.dst v) w → Q (.panic c) a w)
    (hy : YieldsIf P ops (fun w' => Chg lo hi w w') oi v a) (h : wpAnyS P ops Q (SI lo hi (spI ops) (ls.setIfInBounds i true) w) fuel (ls.setIfInBounds i true) (a.put oi.dst v) w) : wpAnyS P ops Q (SI lo hi (spI ops) ls w) (fuel + 1) ls a w := by
  unfold mayTakeI at hm
  simp only [Bool.and_eq_true] at hm
  obtain ⟨h1, h2, h3, h4, h5, h6⟩ := hm
  have hsp : spI ops i = false := by simpa using h4
  refine wpAnyI_first hi' (Region.noSelect_spec h3) hQ hsp fuel ls a w (closedB_spec h5) (fun _ _ h => h) (fun k hk hl => ?_) (Region.free_spec hi' h2) (by simpa using h1) hy (Chg.refl _ _ _) ?_
  · have := List.all_eq_true.1 h6 k (List.mem_range.2 (spI_lt hk))
    rw [hk, hl] at this
    simpa using this
  · refine wpAnyS_mono (L := #[]) (fun l w' _ hs hk => hs fun k hsk hlk => ?_) _ _ _ _ (fun k hk => by simp at hk) h
    exact getD_set_true (hk k hsk hlk)
structure WI (P : Program) (N : Nat) (ops : Array Oper) (Q : Post) (lo hi : Nat) (fuel n : Nat) (q : List (Nat × Oper)) (ls : List Bool) (σ : Fm) (w : World) : Prop where
  go : ∀ a, Fr N σ a → wpAnyS P ops Q (SI lo hi (spI ops) ls.toArray w) fuel ls.toArray a w
def HI (P : Program) (N : Nat) (ops : Array Oper) (Q : Post) (lo hi : Nat) (fuel i : Nat) (q : List (Nat × Oper)) (ls : List Bool) (w : World) (a : Act) (w' : World) : Prop :=
  SI lo hi (spI ops) ls.toArray w (ls.set i true).toArray w' ∧ wpAnyS P ops Q (SI lo hi (spI ops) ls.toArray w) fuel (ls.set i true).toArray a w'
theorem c_region_inv {i : Nat} {l : List Oper} (lo hi : Nat) (hm : P.follows .mixedOrders = true)
    (h : ∀ wd, Ext w wd → wd.heap.size = w.heap.size → WI P N l.toArray Q lo hi l.length l.length (numb 0 l) (noes l) σ wd) : C P N (.region i l.toArray true) Q σ w := by
  refine ⟨fun a ha => wp_region_any hm (wpAny_of_S (S := SI lo hi (spI l.toArray) (List.replicate l.length false).toArray w.drew) _ _ _ _ ?_)⟩
  have := (h w.drew (Chg.drew w) rfl).go a ha
  rw [noes_eq] at this
  rw [List.size_toArray, ← List.toArray_replicate]
  exact this
theorem i_pure {i fuel n : Nat} {q : List (Nat × Oper)} {ls : List Bool} (hi' : ops[i]? = some ⟨some d, op, ty, pos, af, none⟩) (h : ∀ w', Chg lo hi w w' → YE P σ op ty w' v) (hd : Nat.blt d N = true)
    (k : WI P N ops Q lo hi fuel q.length q (ls.set i true) ((d, v) :: σ) w)
    (hm : mayTakeI ops ls.toArray i = true := by decide +kernel) (hQ : ∀ c a w, Q (.panic c) (a.put (some d) v) w → Q (.panic c) a w := by exact fun _ _ _ h => h) :
    WI P N ops Q lo hi (fuel + 1) n ((i, ⟨some d, op, ty, pos, af, none⟩) :: q) ls σ w := by
  refine ⟨fun a ha => take_I hi' hm hQ (.inl ⟨by simp [Region.wanted], fun w' hw' => ?_⟩) (by rw [set_arr]; exact k.go _ (ha.put hd v))⟩
  rw [execOp_eq]
  exact (h w' hw').go w' (Chg.refl _ _ _) _ fun x v hx => ha.eval hx
theorem i_yes {i fuel n : Nat} {q : List (Nat × Oper)} {ls : List Bool} {j t : Nat} {b : Bool} (hi' : ops[i]? = some ⟨some d, op, ty, pos, af, some (j, b)⟩) (hj : (ops[j]?).bind (·.dst) = some t) (ht : look σ t = some (.bool b)) (h : ∀ w', Chg lo hi w w' → YE P σ op ty w' v) (hd : Nat.blt d N = true)
    (k : WI P N ops Q lo hi fuel q.length q (ls.set i true) ((d, v) :: σ) w)
    (hm : mayTakeI ops ls.toArray i = true := by decide +kernel) (hQ : ∀ c a w, Q (.panic c) (a.put (some d) v) w → Q (.panic c) a w := by exact fun _ _ _ h => h) :
    WI P N ops Q lo hi (fuel + 1) n ((i, ⟨some d, op, ty, pos, af, some (j, b)⟩) :: q) ls σ w := by
  refine ⟨fun a ha => take_I hi' hm hQ (.inl ⟨by simp [Region.wanted, yielded_of ha hj ht], fun w' hw' => ?_⟩) (by rw [set_arr]; exact k.go _ (ha.put hd v))⟩
  rw [execOp_eq]
  exact (h w' hw').go w' (Chg.refl _ _ _) _ fun x v hx => ha.eval hx
theorem i_no {i fuel n : Nat} {q : List (Nat × Oper)} {ls : List Bool} {j t : Nat} {b b' : Bool} (hi' : ops[i]? = some ⟨some d, op, ty, pos, af, some (j, b')⟩) (hj : (ops[j]?).bind (·.dst) = some t) (ht : look σ t = some (.bool b)) (hb : (b == b') = false) (hd : Nat.blt d N = true)
    (k : WI P N ops Q lo hi fuel q.length q (ls.set i true) ((d, undef) :: σ) w)
    (hm : mayTakeI ops ls.toArray i = true := by decide +kernel) (hQ : ∀ c a w, Q (.panic c) (a.put (some d) undef) w → Q (.panic c) a w := by exact fun _ _ _ h => h) :
    WI P N ops Q lo hi (fuel + 1) n ((i, ⟨some d, op, ty, pos, af, some (j, b')⟩) :: q) ls σ w :=
  ⟨fun a ha => take_I hi' hm hQ (.inr ⟨by simp [Region.wanted, yielded_of ha hj ht, hb], rfl⟩) (by rw [set_arr]; exact k.go _ (ha.put hd _))⟩
theorem i_none {i fuel n : Nat} {q : List (Nat × Oper)} {ls : List Bool} {j t : Nat} {b' : Bool} (hi' : ops[i]? = some ⟨some d, op, ty, pos, af, some (j, b')⟩) (hj : (ops[j]?).bind (·.dst) = some t) (ht : look σ t = some undef) (hd : Nat.blt d N = true)
    (k : WI P N ops Q lo hi fuel q.length q (ls.set i true) ((d, undef) :: σ) w)
    (hm : mayTakeI ops ls.toArray i = true := by decide +kernel) (hQ : ∀ c a w, Q (.panic c) (a.put (some d) undef) w → Q (.panic c) a w := by exact fun _ _ _ h => h) :
    WI P N ops Q lo hi (fuel + 1) n ((i, ⟨some d, op, ty, pos, af, some (j, b')⟩) :: q) ls σ w :=
  ⟨fun a ha => take_I hi' hm hQ (.inr ⟨by simp [Region.wanted, yielded_undef ha hj ht], rfl⟩) (by rw [set_arr]; exact k.go _ (ha.put hd _))⟩
theorem i_part_dec {i fuel n : Nat} {o : Option Tmp} {q : List (Nat × Oper)} {ls : List Bool} {j t : Nat} {b' : Bool} {p : Prop} {dp : Decidable p} (hj : (ops[j]?).bind (·.dst) = some t) (ht : look σ t = some (.bool (decide p)))
    (k1 : p → WI P N ops Q lo hi fuel n ((i, ⟨o, op, ty, pos, af, some (j, b')⟩) :: q) ls ((t, .bool true) :: σ) w) (k2 : ¬ p → WI P N ops Q lo hi fuel n ((i, ⟨o, op, ty, pos, af, some (j, b')⟩) :: q) ls ((t, .bool false) :: σ) w) :
    WI P N ops Q lo hi fuel n ((i, ⟨o, op, ty, pos, af, some (j, b')⟩) :: q) ls σ w := by
  refine ⟨fun a ha => ?_⟩
  have hv := ha.val t _ ht
  have hf : Fr N ((t, .bool (decide p)) :: σ) a := ha.same hv
  by_cases hp : p
  · exact (k1 hp).go a (by simpa [hp] using hf)
  · exact (k2 hp).go a (by simpa [hp] using hf)
theorem i_part {i fuel n : Nat} {o : Option Tmp} {q : List (Nat × Oper)} {ls : List Bool} {j t : Nat} {b b' : Bool} (hj : (ops[j]?).bind (·.dst) = some t) (ht : look σ t = some (.bool b))
    (k1 : b = true → WI P N ops Q lo hi fuel n ((i, ⟨o, op, ty, pos, af, some (j, b')⟩) :: q) ls ((t, .bool true) :: σ) w) (k2 : b = false → WI P N ops Q lo hi fuel n ((i, ⟨o, op, ty, pos, af, some (j, b')⟩) :: q) ls ((t, .bool false) :: σ) w) :
    WI P N ops Q lo hi fuel n ((i, ⟨o, op, ty, pos, af, some (j, b')⟩) :: q) ls σ w := by
  refine ⟨fun a ha => ?_⟩
  have hv := ha.val t _ ht
  have hf : Fr N ((t, .bool b) :: σ) a := ha.same hv
  cases b
  · exact (k2 rfl).go a hf
  · exact (k1 rfl).go a hf
theorem i_turn {fuel n i : Nat} {o : Oper} {q : List (Nat × Oper)} {ls : List Bool} (k : WI P N ops Q lo hi fuel n (q ++ [(i, o)]) ls σ w) : WI P N ops Q lo hi fuel (n + 1) ((i, o) :: q) ls σ w := ⟨k.go⟩
theorem i_nil {fuel n : Nat} {ls : List Bool} (k : X N .normal Q σ w) (hr : Region.ready .any ops ls.toArray = [] := by decide +kernel) : WI P N ops Q lo hi fuel n [] ls σ w := ⟨fun a ha => wpAnyS_done hr (k.go a ha) fuel⟩
theorem i_one {i fuel n : Nat} {o : Oper} {q : List (Nat × Oper)} {ls : List Bool} (hi' : ops[i]? = some o) (k : W P N ops (Exit.then (HI P N ops Q lo hi fuel i q ls w) Q) [o] σ w)
    (hr : Region.ready .any ops ls.toArray = [i] := by decide +kernel) : WI P N ops Q lo hi (fuel + 1) n ((i, o) :: q) ls σ w :=
  ⟨fun a ha => ⟨fun h0 => (by rw [h0] at hr; cases hr), fun i' hii => by
    rw [hr] at hii
    obtain rfl : i' = i := by simpa using hii
    rw [set_arr]
    exact wpOp_of_list hi' (k.go a ha)⟩⟩
theorem i_two {i j fuel n : Nat} {o o' : Oper} {q : List (Nat × Oper)} {ls : List Bool} (hi' : ops[i]? = some o) (hj : ops[j]? = some o')
    (k : W P N ops (Exit.then (HI P N ops Q lo hi fuel i q ls w) Q) [o] σ w) (k' : W P N ops (Exit.then (HI P N ops Q lo hi fuel j (dropN [j] ((i, o) :: q)) ls w) Q) [o'] σ w)
    (hr : onlyB ops ls [i, j] = true := by decide +kernel) : WI P N ops Q lo hi (fuel + 1) n ((i, o) :: q) ls σ w :=
  ⟨fun a ha => ⟨fun h0 => absurd h0 (onlyB_ne hr), fun i' hii => by
    rcases (by simpa using onlyB_mem hr hii : i' = i ∨ i' = j) with rfl | rfl
    · rw [set_arr]; exact wpOp_of_list hi' (k.go a ha)
    · rw [set_arr]; exact wpOp_of_list hj (k'.go a ha)⟩⟩
theorem x_hi {fuel i : Nat} {q : List (Nat × Oper)} {ls : List Bool} {w' : World} (k : WI P N ops Q lo hi fuel q.length q (ls.set i true) σ w') (hx : Chg lo hi w w' := by repeat (first | exact Go.Gw.Chg.refl _ _ _ | assumption | refine Go.Gw.Chg.next ?_ (by assumption) (by omega))) : X N .normal (Exit.then (HI P N ops Q lo hi fuel i q ls w) Q) σ w' :=
  ⟨fun a ha => ⟨fun _ => hx, by
    refine wpAnyS_mono (L := #[]) (fun l w'' _ hk hp => hx.trans (hk fun k hsk hlk => ?_)) _ _ _ _ (fun k hk => by simp at hk) (k.go a ha)
    have := hp k hsk hlk
    rw [← set_arr]
    exact getD_set_true this⟩⟩
/-- on, behind the last one, which may turn what it likes -/
theorem x_hik {fuel i : Nat} {q : List (Nat × Oper)} {ls : List Bool} {w' : World} (k : WI P N ops Q lo hi fuel q.length q (ls.set i true) σ w') (hs : (spI ops i && !ls.toArray.getD i true) = true := by decide +kernel) : X N .normal (Exit.then (HI P N ops Q lo hi fuel i q ls w) Q) σ w' := by
  have hs : spI ops i = true ∧ ls.toArray.getD i true = false := by simpa only [Bool.and_eq_true, Bool.not_eq_true'] using hs
  have hlt : i < ls.toArray.size := by
    rcases Nat.lt_or_ge i ls.toArray.size with h' | h'
    · exact h'
    · have := hs.2; rw [Array.getD_eq_getD_getElem?, Array.getElem?_eq_none h'] at this; cases this
  have hin : (ls.toArray.setIfInBounds i true).getD i false = true := by rw [Array.getD_eq_getD_getElem?, Array.getElem?_setIfInBounds_self_of_lt hlt]; rfl
  have hno : ∀ l : Array Bool, l.getD i false = true → ∀ w'', SI lo hi (spI ops) ls.toArray w l w'' := fun l hl w'' hp => by
    have := hp i hs.1 hl
    rw [unlisted hs.2] at this; cases this
  rw [set_arr] at hin
  exact ⟨fun a ha => ⟨hno _ hin _, wpAnyS_mono (L := (ls.set i true).toArray) (fun l w'' hL _ => hno l (hL i hin) w'') _ _ _ _ (fun _ h => h) (k.go a ha)⟩⟩
theorem b_slice {α : Type} {E : Enc α} {e s b lo hi : Nat} {T : TypeId} {x : Operand} {v : Value} {xs : List α} {l h : Int} {ol oh : Option Operand} {i fuel n : Nat} {q : List (Nat × Oper)} {ls : List Bool} [hT : TSli P T e s b] (hi' : ops[i]? = some ⟨some d, .slice T x ol oh none, ty, pos, af, none⟩) (hx : ev σ x = some v) (hl : (ol = none ∧ l = 0) ∨ ∃ y k, ol = some y ∧ ev σ y = some (.int k l)) (hh : (oh = none ∧ h = xs.length) ∨ ∃ y k, oh = some y ∧ ev σ y = some (.int k h))
    (hd : Nat.blt d N = true) (k : ∀ u, SL w lo hi u ((xs.take h.toNat).drop l.toNat) → WB P N ops Q w fuel q.length q (ls.set i true) ((d, u) :: σ) w) (H : SL w lo hi v xs := by repeat (first | assumption | exact Go.Gw.Own.sl (by assumption) | exact Go.Gw.Box.at (by assumption) | exact Go.Gw.SLL.el (by first | assumption | exact Go.Gw.OwnD.sll (by assumption)) _ (by omega) | exact Go.Gw.SLL.at (by first | assumption | exact Go.Gw.OwnD.sll (by assumption)) (by omega) | exact Go.Gw.OwnD.sll (by assumption) | (apply Go.Gw.SL.chg; case hx => assumption) | (apply Go.Gw.Own.chg; case hx => assumption) | (apply Go.Gw.Box.chg; case hx => assumption) | (apply Go.Gw.At.chg; case hx => assumption) | exact .inl (Nat.zero_le _) | exact .inr (Nat.zero_le _) | (show _ ∨ _; omega))) (hs : s = Enc.sz α := by rfl) (hb : 0 ≤ l ∧ l ≤ h ∧ h ≤ xs.length := by omega)
    (hm : mayTake ops (spoilB ops) ls.toArray i = true := by decide +kernel) (hQ : ∀ c a u w, Q (.panic c) (a.put (some d) u) w → Q (.panic c) a w := by exact fun _ _ _ _ h => h) :
    WB P N ops Q w (fuel + 1) n ((i, ⟨some d, .slice T x ol oh none, ty, pos, af, none⟩) :: q) ls σ w := by
  obtain ⟨u, hy, hu⟩ := y_slice (P := P) (ty := ty) (T := T) hx hl hh H hs hb
  exact b_pure hi' hy hd (k u hu) hm (fun c a w => hQ c a u w)
end
end Go.Gw
/- L24 -/
namespace Go.Gw
open Go
set_option linter.unusedVariables false
set_option linter.unusedSimpArgs false
section
variable {P : Program} {N : Nat} {Q : Post} {σ : Fm} {w : World} {ops : Array Oper} {lo hi : Nat}
theorem b_twoQ {wb : World} {i j fuel n : Nat} {o o' : Oper} {q : List (Nat × Oper)} {ls : List Bool} (hi' : ops[i]? = some o) (hj : ops[j]? = some o')
    (k : W P N ops (Exit.then (HB P N ops Q wb fuel i (dropN [i] q) ls) Q) [o] σ w) (k' : W P N ops (Exit.then (HB P N ops Q wb fuel j (dropN [j] q) ls) Q) [o'] σ w)
    (hr : onlyB ops ls [i, j] = true := by decide +kernel) : WB P N ops Q wb (fuel + 1) n q ls σ w :=
  ⟨fun a ha => ⟨fun h0 => absurd h0 (onlyB_ne hr), fun i' hii => by
    rcases (by simpa using onlyB_mem hr hii : i' = i ∨ i' = j) with rfl | rfl
    · rw [set_arr]; exact wpOp_of_list hi' (k.go a ha)
    · rw [set_arr]; exact wpOp_of_list hj (k'.go a ha)⟩⟩
theorem i_twoQ {i j fuel n : Nat} {o o' : Oper} {q : List (Nat × Oper)} {ls : List Bool} (hi' : ops[i]? = some o) (hj : ops[j]? = some o')
    (k : W P N ops (Exit.then (HI P N ops Q lo hi fuel i (dropN [i] q) ls w) Q) [o] σ w) (k' : W P N ops (Exit.then (HI P N ops Q lo hi fuel j (dropN [j] q) ls w) Q) [o'] σ w)
    (hr : onlyB ops ls [i, j] = true := by decide +kernel) : WI P N ops Q lo hi (fuel + 1) n q ls σ w :=
  ⟨fun a ha => ⟨fun h0 => absurd h0 (onlyB_ne hr), fun i' hii => by
    rcases (by simpa using onlyB_mem hr hii : i' = i ∨ i' = j) with rfl | rfl
    · rw [set_arr]; exact wpOp_of_list hi' (k.go a ha)
    · rw [set_arr]; exact wpOp_of_list hj (k'.go a ha)⟩⟩
theorem h_twoQ {i j fuel n : Nat} {o o' : Oper} {q : List (Nat × Oper)} {ls : List Bool} (hi' : ops[i]? = some o) (hj : ops[j]? = some o')
    (k : W P N ops (Exit.then (HK P N ops Q fuel i (dropN [i] q) ls w) Q) [o] σ w) (k' : W P N ops (Exit.then (HK P N ops Q fuel j (dropN [j] q) ls w) Q) [o'] σ w)
    (hr : onlyB ops ls [i, j] = true := by decide +kernel) : WH P N ops Q (fuel + 1) n q ls σ w :=
  ⟨fun a ha => ⟨fun h0 => absurd h0 (onlyB_ne hr), fun i' hii => by
    rcases (by simpa using onlyB_mem hr hii : i' = i ∨ i' = j) with rfl | rfl
    · rw [set_arr]; exact wpOp_of_list hi' (k.go a ha)
    · rw [set_arr]; exact wpOp_of_list hj (k'.go a ha)⟩⟩
end
end Go.Gw
/- Cnt -/
namespace Go.Proofs.YtcbpiaehkodliaaGreatDoor
open Go Go.Gw
set_option linter.unusedVariables false
set_option linter.unusedSimpArgs false

/-- the k lowest digits of a number, the lowest first -/
def digs : Nat → Int → List Int
  | 0, _ => []
  | k + 1, n => n % 10 :: digs k (n / 10)
theorem digs_snoc : ∀ (k : Nat) (n : Int), digs (k + 1) n = digs k n ++ [n / 10 ^ k % 10]
  | 0, n => by simp [digs]
  | k + 1, n => by
    rw [digs, digs_snoc k (n / 10), digs]
    simp only [List.cons_append]
    congr 2
    rw [Int.ediv_ediv_of_nonneg (by omega), Int.pow_succ, Int.mul_comm]
theorem digs_len : ∀ (k : Nat) (n : Int), (digs k n).length = k
  | 0, n => rfl
  | k + 1, n => by simp [digs, digs_len k]

end Go.Proofs.YtcbpiaehkodliaaGreatDoor
/- CntD -/
namespace Go.Proofs.YtcbpiaehkodliaaGreatDoor
open Go Go.Gw
set_option linter.unusedVariables false
set_option linter.unusedSimpArgs false

/-- the number of digits, the lowest first -/
def valD : List Int → Int
  | [] => 0
  | d :: r => d + 10 * valD r
theorem valD_drop {xs : List Int} {i : Nat} (h : i < xs.length) : valD (xs.drop i) = xs.getD i 0 + 10 * valD (xs.drop (i + 1)) := by
  rw [List.drop_eq_getElem_cons h, valD, List.getD_eq_getElem?_getD, List.getElem?_eq_getElem h]; rfl
theorem valD_bd : ∀ {xs : List Int}, (∀ d ∈ xs, 0 ≤ d ∧ d ≤ 9) → 0 ≤ valD xs ∧ valD xs < 10 ^ xs.length
  | [], _ => by simp [valD]
  | d :: r, h => by
    have h1 := valD_bd (xs := r) (fun d hd => h d (by simp [hd]))
    have h2 := h d (by simp)
    rw [valD, List.length_cons, Int.pow_succ]
    omega
theorem valD_drop_bd {xs : List Int} (h : okC xs = true) (i : Nat) : 0 ≤ valD (xs.drop i) ∧ valD (xs.drop i) < 1000000000000 := by
  have h1 := valD_bd (xs := xs.drop i) (fun d hd => okC_dig h d (List.mem_of_mem_drop hd))
  have h2 := okC_len h
  have h3 : (10 : Int) ^ (xs.drop i).length ≤ 10 ^ 12 := pow10_le (by simp; omega)
  have h4 : (10 : Int) ^ 12 = 1000000000000 := by decide
  omega
section
variable {w : World} {v : Value} {xs : List Int} {lo hi b : Nat}
end
end Go.Proofs.YtcbpiaehkodliaaGreatDoor
/- Open -/
namespace Go.Proofs.YtcbpiaehkodliaaGreatDoor
open Go Go.Gw Go.ChangeShapes Go.WideShapes
set_option linter.unusedVariables false
set_option maxRecDepth 100000
section
variable {w : World} {r : Reach} {b0 : Nat} {v : Value}
/-- a slice of numbers -/
structure OSl where
  v : Value
  xs : List Int
structure OSl.ok (w : World) (x : OSl) : Prop where
  sl : SL w 0 w.heap.size x.v x.xs
  in64 : ∀ n ∈ x.xs, In64 n
theorem rd_ints {cs : List Value} (h : Rd Tryz.prog w 24 cs) : ∃ v xs, cs = [v] ∧ SL w 0 w.heap.size v (xs : List Int) ∧ ∀ x ∈ xs, In64 x :=
  SL.of_rd Tryz.underlying24 (by kernel_rfl) (dec_int Tryz.underlying2) h
theorem open_Sl_int64 (hv : Value.okWide Tryz.prog w r b0 24 v) (h : Rd Tryz.prog w 24 v.cells.toList) : ∃ x : { x : OSl // x.ok w }, v = x.1.v := by
  obtain ⟨a, l, c, rfl⟩ := okWide_slice Tryz.underlying24 hv
  obtain ⟨u, xs, hu, hs, hq⟩ := rd_ints h
  simp only [Value.cells, List.cons.injEq, and_true] at hu
  subst hu
  exact ⟨⟨⟨_, xs⟩, hs, hq⟩, rfl⟩
/-- a slice of pairs of numbers -/
structure OPs where
  v : Value
  xs : List (Int × Int)
structure OPs.ok (w : World) (x : OPs) : Prop where
  sl : SL w 0 w.heap.size x.v x.xs
  in64 : ∀ p ∈ x.xs, In64 p.1 ∧ In64 p.2
end
end Go.Proofs.YtcbpiaehkodliaaGreatDoor
/- CntE -/
namespace Go.Proofs.YtcbpiaehkodliaaGreatDoor
open Go Go.Gw
set_option linter.unusedVariables false
set_option linter.unusedSimpArgs false

/-- the text of digits, the lowest first -/
def ctext (xs : List Int) : List UInt8 := xs.reverse.map fun d => UInt8.ofNat (48 + d).toNat
theorem ctext_drop {xs : List Int} {i : Nat} (h : i < xs.length) : ctext (xs.drop i) = ctext (xs.drop (i + 1)) ++ [UInt8.ofNat (48 + xs.getD i 0).toNat] := by
  rw [List.drop_eq_getElem_cons h, ctext, List.reverse_cons, List.map_append, List.getD_eq_getElem?_getD, List.getElem?_eq_getElem h]; rfl
section
variable {w : World} {v : Value} {xs : List Int} {lo hi b : Nat}
end
end Go.Proofs.YtcbpiaehkodliaaGreatDoor
/- CntF -/
namespace Go.Proofs.YtcbpiaehkodliaaGreatDoor
open Go Go.Gw
set_option linter.unusedVariables false
set_option linter.unusedSimpArgs false

def rdg (s : List UInt8) : List Int := s.reverse.map fun b => (b.toNat : Int) - 48
theorem rdg_drop {s : List UInt8} {i : Nat} (h : i < s.length) : rdg (s.drop i) = rdg (s.drop (i + 1)) ++ [((s.getD i 0).toNat : Int) - 48] := by
  rw [List.drop_eq_getElem_cons h, rdg, List.reverse_cons, List.map_append, List.getD_eq_getElem?_getD, List.getElem?_eq_getElem h]; rfl
theorem rdg_len (s : List UInt8) : (rdg s).length = s.length := by simp [rdg]
section
variable {w : World} {v : Value} {xs : List Int} {lo hi b : Nat}
end
end Go.Proofs.YtcbpiaehkodliaaGreatDoor
/- CntH -/
namespace Go.Proofs.YtcbpiaehkodliaaGreatDoor
open Go Go.Gw
set_option linter.unusedVariables false
set_option linter.unusedSimpArgs false
def joinC (xs ys : List Int) : Int := if okC xs = true ∧ okC ys = true then (if xs.length + ys.length ≤ 12 then 0 else 5) else 1
def resJoin (xs ys : List Int) : List Int := if joinC xs ys = 0 then xs ++ ys else []
theorem resJoin_len (xs ys : List Int) : (resJoin xs ys).length ≤ 12 := by
  by_cases h : okC xs = true ∧ okC ys = true
  · by_cases h2 : xs.length + ys.length ≤ 12
    · simp [resJoin, joinC, h, h2]
    · simp [resJoin, joinC, h, h2]
  · simp [resJoin, joinC, if_neg h]
section
variable {w : World} {v v' : Value} {xs ys : List Int} {lo hi lo' hi' b b' : Nat}
end
end Go.Proofs.YtcbpiaehkodliaaGreatDoor
/- CntI -/
namespace Go.Proofs.YtcbpiaehkodliaaGreatDoor
open Go Go.Gw
set_option linter.unusedVariables false
set_option linter.unusedSimpArgs false
/-- i wheels of a counter after a number has been added: the digits, the carries, the last one's carry -/
def addS (xs : List Int) (n : Int) : Nat → List Int × Int × Int
  | 0 => ([], 0, 0)
  | i + 1 => ((addS xs n i).1 ++ [(xs.getD i 0 + n / 10 ^ i % 10 + (addS xs n i).2.2) % 10], (addS xs n i).2.1 + (xs.getD i 0 + n / 10 ^ i % 10 + (addS xs n i).2.2) / 10, (xs.getD i 0 + n / 10 ^ i % 10 + (addS xs n i).2.2) / 10)
theorem addS_len (xs : List Int) (n : Int) : ∀ i, (addS xs n i).1.length = i
  | 0 => rfl
  | i + 1 => by rw [addS, List.length_append, addS_len xs n i]; rfl
def Digs (xs : List Int) : Prop := ∀ d ∈ xs, 0 ≤ d ∧ d ≤ 9
theorem Digs.getD {xs : List Int} (h : Digs xs) (i : Nat) : 0 ≤ xs.getD i 0 ∧ xs.getD i 0 ≤ 9 := by
  by_cases hi : i < xs.length
  · rw [List.getD_eq_getElem?_getD, List.getElem?_eq_getElem hi]; exact h _ (List.getElem_mem hi)
  · rw [List.getD_eq_getElem?_getD, List.getElem?_eq_none (by omega)]; simp
theorem addS_bd {xs : List Int} (h : Digs xs) (n : Int) : ∀ i, 0 ≤ (addS xs n i).2.2 ∧ (addS xs n i).2.2 ≤ 1 ∧ 0 ≤ (addS xs n i).2.1 ∧ (addS xs n i).2.1 ≤ i ∧ Digs (addS xs n i).1
  | 0 => ⟨by simp [addS], by simp [addS], by simp [addS], by simp [addS], fun d hd => by simp [addS] at hd⟩
  | i + 1 => by
    obtain ⟨h1, h2, h3, h4, h5⟩ := addS_bd h n i
    have h6 := h.getD i
    simp only [addS]
    refine ⟨by omega, by omega, by omega, by omega, fun d hd => ?_⟩
    rcases List.mem_append.1 hd with hd | hd
    · exact h5 d hd
    · simp only [List.mem_singleton] at hd
      omega
theorem digs_getD : ∀ (k : Nat) (n : Int) (i : Nat), i < k → (digs k n).getD i 0 = n / 10 ^ i % 10
  | 0, n, i, h => by omega
  | k + 1, n, 0, h => by simp [digs]
  | k + 1, n, i + 1, h => by
    rw [digs, List.getD_cons_succ, digs_getD k (n / 10) i (by omega), Int.ediv_ediv_of_nonneg (by omega), Int.pow_succ, Int.mul_comm]
theorem getD_app {a b : List Int} {i : Nat} (h : a.length = i) : (a ++ b.drop i).getD i 0 = b.getD i 0 := by
  rw [List.getD_eq_getElem?_getD, List.getD_eq_getElem?_getD, List.getElem?_append_right (by omega), h, Nat.sub_self, List.getElem?_drop, Nat.add_zero]
theorem set_app {a b : List Int} {i : Nat} {y : Int} (h : a.length = i) (hi : i < b.length) : (a ++ b.drop i).set i y = (a ++ [y]) ++ b.drop (i + 1) := by
  rw [List.set_append_right _ _ (by omega), h, Nat.sub_self, List.drop_eq_getElem_cons hi, List.set_cons_zero, List.append_assoc]; rfl
theorem dpow (n : Int) (i : Nat) : n / 10 ^ i / 10 = n / 10 ^ (i + 1) := by
  rw [Int.ediv_ediv_of_nonneg (Int.le_of_lt (pow10_pos _)), Int.pow_succ]
section
variable {w : World} {v v' : Value} {xs ys : List Int} {lo hi lo' hi' b b' : Nat}

/-! ### what the laws' functions answer -/
def codeN (xs : List Int) (n : Int) : Int := if okC xs = true then (if 0 ≤ n ∧ n ≤ 10 ^ xs.length - 1 then 0 else 2) else 1
theorem codeN_ok {xs : List Int} {n : Int} (h : codeN xs n = 0) : okC xs = true ∧ 0 ≤ n ∧ n ≤ 10 ^ xs.length - 1 ∧ n ≤ 999999999999 := by
  by_cases hk : okC xs = true
  · by_cases hn : 0 ≤ n ∧ n ≤ 10 ^ xs.length - 1
    · have h1 := pow10_12 (k := xs.length) (okC_len hk).2
      exact ⟨hk, hn.1, hn.2, by omega⟩
    · simp [codeN, hk, hn] at h
  · simp [codeN, hk] at h
def resAdd (xs : List Int) (n : Int) : List Int := if codeN xs n = 0 then (addS xs n xs.length).1 else []
def topAdd (xs : List Int) (n : Int) : Bool := decide (codeN xs n = 0 ∧ (addS xs n xs.length).2.2 = 1)
def carAdd (xs : List Int) (n : Int) : Int := if codeN xs n = 0 then (addS xs n xs.length).2.1 else 0
theorem resAdd_len (xs : List Int) (n : Int) : (resAdd xs n).length ≤ 12 := by
  unfold resAdd; split
  · rename_i h; rw [addS_len]; exact (okC_len (codeN_ok h).1).2
  · simp
end
end Go.Proofs.YtcbpiaehkodliaaGreatDoor
/- CntJ -/
namespace Go.Proofs.YtcbpiaehkodliaaGreatDoor
open Go Go.Gw
set_option linter.unusedVariables false
set_option linter.unusedSimpArgs false
/-- the digits after a number has been taken away, by its complement -/
def takeP (xs : List Int) (n : Int) : List Int × Int × Int := addS xs (10 ^ xs.length - 1 - n) xs.length
def takeD (xs : List Int) (n : Int) : List Int := if (takeP xs n).2.2 = 1 then (addS (takeP xs n).1 1 (takeP xs n).1.length).1 else (takeP xs n).1
def resTake (xs : List Int) (n : Int) : List Int := if codeN xs n = 0 then takeD xs n else []
def topTake (xs : List Int) (n : Int) : Bool := decide (codeN xs n = 0 ∧ (takeP xs n).2.2 = 1)
theorem takeP_len (xs : List Int) (n : Int) : (takeP xs n).1.length = xs.length := addS_len _ _ _
theorem takeD_len (xs : List Int) (n : Int) : (takeD xs n).length = xs.length := by
  unfold takeD; split
  · rw [addS_len, takeP_len]
  · rw [takeP_len]
theorem resTake_len (xs : List Int) (n : Int) : (resTake xs n).length ≤ 12 := by
  unfold resTake; split
  · rename_i h; rw [takeD_len]; exact (okC_len (codeN_ok h).1).2
  · simp
section
variable {w : World} {v v' : Value} {xs ys : List Int} {lo hi lo' hi' b b' : Nat}

/-! ### complements -/
def comp (xs : List Int) : List Int := (List.range xs.length).map fun j => 9 - xs.getD j 0
theorem comp_len (xs : List Int) : (comp xs).length = xs.length := by simp [comp]
theorem comp_map (xs : List Int) : comp xs = xs.map fun d => 9 - d := by
  apply List.ext_getElem (by simp [comp])
  intro i h1 h2
  have hi : i < xs.length := by simpa [comp] using h1
  simp [comp, List.getD_eq_getElem?_getD, hi]
theorem digs_comp : ∀ (xs : List Int), Digs xs → digs xs.length (10 ^ xs.length - 1 - valD xs) = xs.map fun d => 9 - d
  | [], _ => rfl
  | d :: r, h => by
    have h1 := h d (by simp)
    have h2 := valD_bd (xs := r) (fun x hx => h x (by simp [hx]))
    have ih := digs_comp r (fun x hx => h x (by simp [hx]))
    rw [List.length_cons, digs, valD, Int.pow_succ]
    rw [show (10 ^ r.length * 10 - 1 - (d + 10 * valD r)) % 10 = 9 - d by omega, show (10 ^ r.length * 10 - 1 - (d + 10 * valD r)) / 10 = 10 ^ r.length - 1 - valD r by omega, ih]
    rfl
def resComp (xs : List Int) : List Int := if okC xs = true then comp xs else []
def codeOk (xs : List Int) : Int := if okC xs = true then 0 else 1
theorem resComp_len (xs : List Int) : (resComp xs).length ≤ 12 := by
  unfold resComp; split
  · rename_i h; rw [comp_len]; exact (okC_len h).2
  · simp

/-! ### splitting -/
def splitC (xs : List Int) (k : Int) : Int := if okC xs = true then (if 1 ≤ k ∧ k ≤ xs.length - 1 then 0 else 2) else 1
def resLow (xs : List Int) (k : Int) : List Int := if splitC xs k = 0 then xs.take k.toNat else []
def resHigh (xs : List Int) (k : Int) : List Int := if splitC xs k = 0 then xs.drop k.toNat else []
theorem splitC_ok {xs : List Int} {k : Int} (h : splitC xs k = 0) : okC xs = true ∧ 1 ≤ k ∧ k ≤ xs.length - 1 := by
  by_cases hk : okC xs = true
  · by_cases hn : 1 ≤ k ∧ k ≤ xs.length - 1
    · exact ⟨hk, hn⟩
    · simp only [splitC, hk, if_true, if_neg hn] at h; omega
  · simp [splitC, hk] at h
theorem resSplit_len (xs : List Int) (k : Int) : (resLow xs k).length ≤ 12 ∧ (resHigh xs k).length ≤ 12 := by
  unfold resLow resHigh; split
  · rename_i h; have := okC_len (splitC_ok h).1; simp; omega
  · simp
end
end Go.Proofs.YtcbpiaehkodliaaGreatDoor
/- OpB -/
namespace Go.Proofs.YtcbpiaehkodliaaGreatDoor
open Go Go.Gw Go.ChangeShapes Go.WideShapes
set_option linter.unusedVariables false
set_option maxRecDepth 100000
section
variable {w : World} {r : Reach} {b0 : Nat} {v : Value}
/-- a slice of bytes -/
structure OBy where
  v : Value
  xs : List UInt8
structure OBy.ok (w : World) (x : OBy) : Prop where
  sl : SL w 0 w.heap.size x.v x.xs
theorem rd_bytes {cs : List Value} (h : Rd Tryz.prog w 22 cs) : ∃ v xs, cs = [v] ∧ SL w 0 w.heap.size v (xs : List UInt8) ∧ ∀ x ∈ xs, True :=
  SL.of_rd Tryz.underlying22 (by kernel_rfl) (dec_u8 Tryz.underlying5) h
theorem open_Sl_uint8 (hv : Value.okWide Tryz.prog w r b0 22 v) (h : Rd Tryz.prog w 22 v.cells.toList) : ∃ x : { x : OBy // x.ok w }, v = x.1.v := by
  obtain ⟨a, l, c, rfl⟩ := okWide_slice Tryz.underlying22 hv
  obtain ⟨u, xs, hu, hs, hq⟩ := rd_bytes h
  simp only [Value.cells, List.cons.injEq, and_true] at hu
  subst hu
  exact ⟨⟨⟨_, xs⟩, ⟨hs⟩⟩, rfl⟩
end
end Go.Proofs.YtcbpiaehkodliaaGreatDoor
/- BalA -/
namespace Go.Proofs.YtcbpiaehkodliaaGreatDoor
open Go Go.Gw
set_option linter.unusedVariables false
set_option linter.unusedSimpArgs false
theorem getD_in {xs : List Int} {i : Nat} (h : i < xs.length) : xs.getD i 0 ∈ xs := by rw [List.getD_eq_getElem?_getD, List.getElem?_eq_getElem h]; exact List.getElem_mem h
section
variable {w : World} {lo hi b l9 k9 : Nat} {B : Int} {v : Value} {p : List UInt8} {xs : List Int}
theorem f6big_c (h : SL w lo hi v p := by repeat (first | assumption | exact Go.Gw.Own.sl (by assumption) | exact Go.Gw.Box.at (by assumption) | exact Go.Gw.SLL.el (by first | assumption | exact Go.Gw.OwnD.sll (by assumption)) _ (by omega) | exact Go.Gw.SLL.at (by first | assumption | exact Go.Gw.OwnD.sll (by assumption)) (by omega) | exact Go.Gw.OwnD.sll (by assumption) | (apply Go.Gw.SL.chg; case hx => assumption) | (apply Go.Gw.Own.chg; case hx => assumption) | (apply Go.Gw.Box.chg; case hx => assumption) | (apply Go.Gw.At.chg; case hx => assumption) | exact .inl (Nat.zero_le _) | exact .inr (Nat.zero_le _) | (show _ ∨ _; omega))) : Ret Tryz.prog 4 [v] w fun u w' => ∃ z, u = .bool z ∧ Ext w w' := by
  have E : Since 0 0 w w := Since.refl 0 0 w
  refine ret_enter Tryz.func4 rfl Tryz.ntmps4 rfl ?_
  focus have ht_h := h.top; refine c_seq ?_; refine c_region ?_; refine w_pure (y_assign rfl) rfl ?_; refine w_nil ?_; refine x_next ?_; refine c_seq ?_; refine c_region ?_; refine w_pure (y_move rfl) rfl ?_; refine w_pure (y_len rfl) rfl ?_; refine w_pure (y_gt rfl rfl) rfl ?_; refine w_pure (y_assign rfl) rfl ?_; refine w_nil ?_; refine x_next ?_; refine c_ret ?_; rotate_left
  exact x_retv [_] rfl ⟨rfl, trivial⟩ ⟨_, rfl, E.go⟩
theorem srcFrom_z (h : SL w lo hi v p := by repeat (first | assumption | exact Go.Gw.Own.sl (by assumption) | exact Go.Gw.Box.at (by assumption) | exact Go.Gw.SLL.el (by first | assumption | exact Go.Gw.OwnD.sll (by assumption)) _ (by omega) | exact Go.Gw.SLL.at (by first | assumption | exact Go.Gw.OwnD.sll (by assumption)) (by omega) | exact Go.Gw.OwnD.sll (by assumption) | (apply Go.Gw.SL.chg; case hx => assumption) | (apply Go.Gw.Own.chg; case hx => assumption) | (apply Go.Gw.Box.chg; case hx => assumption) | (apply Go.Gw.At.chg; case hx => assumption) | exact .inl (Nat.zero_le _) | exact .inr (Nat.zero_le _) | (show _ ∨ _; omega))) : Ret Tryz.prog 29 [v] w fun u w' => ∃ c, u = ptr c 0 ∧ w.heap.size ≤ c ∧ Src w' lo hi c 0 ∧ c < w'.heap.size ∧ Ext w w' :=
  (srcFrom_c h).mono fun u w' ⟨c, h1, h2, h3, h4⟩ => ⟨c, h1, h2, h3, h3.top, h4⟩
theorem srcAmong_c (hs : SL w l9 k9 v xs := by repeat (first | assumption | exact Go.Gw.Own.sl (by assumption) | exact Go.Gw.Box.at (by assumption) | exact Go.Gw.SLL.el (by first | assumption | exact Go.Gw.OwnD.sll (by assumption)) _ (by omega) | exact Go.Gw.SLL.at (by first | assumption | exact Go.Gw.OwnD.sll (by assumption)) (by omega) | exact Go.Gw.OwnD.sll (by assumption) | (apply Go.Gw.SL.chg; case hx => assumption) | (apply Go.Gw.Own.chg; case hx => assumption) | (apply Go.Gw.Box.chg; case hx => assumption) | (apply Go.Gw.At.chg; case hx => assumption) | exact .inl (Nat.zero_le _) | exact .inr (Nat.zero_le _) | (show _ ∨ _; omega))) (h : Src w lo hi b B := by assumption) (hB : B ≤ 10000000000 := by omega) (hn : 1 ≤ xs.length ∧ xs.length ≤ 1000 := by first | omega | (simp only [List.length_cons, List.length_nil]; omega)) (hm : ∀ x ∈ xs, In64 x := by intro x hx; simp only [List.mem_cons, List.not_mem_nil, or_false] at hx; exact ⟨by omega, by omega⟩) (hd : b < l9 ∨ k9 ≤ b := by omega) : Ret Tryz.prog 67 [ptr b 0, v] w fun u w' => ∃ x, u = .int .i64 x ∧ In64 x ∧ Src w' lo hi b (B + 2) ∧ Chg b (b + 1) w w' := by
  have htop := h.top
  have E : Since b (b + 1) w w := Since.refl _ _ _
  refine ret_enter Tryz.func67 rfl Tryz.ntmps67 rfl ?_
  focus have ht_hs := hs.top; have ht_h := h.top; refine c_seq ?_; refine c_region ?_; refine w_pure (y_assign rfl) rfl ?_; refine w_nil ?_; refine x_next ?_; refine c_seq ?_; refine c_region ?_; refine w_pure (y_move rfl) rfl ?_; refine w_pure (y_move rfl) rfl ?_; refine w_pure (y_move rfl) rfl ?_; refine w_pure (y_len rfl) rfl ?_; (refine w_call rfl rfl rfl (srcPick_z _) rfl ?_; rintro _ w9 ⟨x9, ⟨rfl, ⟨⟨hp1_9, hp2_9⟩, ⟨hp3_9, hx9⟩⟩⟩⟩); have hz_hx9 := hx9.size; replace hs := hs.chg hx9 (by omega); replace E := E.trans hx9; refine w_pure (y_index rfl rfl) rfl ?_; refine w_pure (y_load_int rfl) rfl ?_; refine w_pure (y_assign rfl) rfl ?_; refine w_nil ?_; refine x_next ?_; refine c_ret ?_; rotate_left
  exact x_retv [_] rfl ⟨rfl, trivial⟩ ⟨_, rfl, hm _ (getD_in (by omega)), hp3_9, E.go⟩
end
end Go.Proofs.YtcbpiaehkodliaaGreatDoor
/- BalD -/
namespace Go.Proofs.YtcbpiaehkodliaaGreatDoor
open Go Go.Gw
set_option linter.unusedVariables false
set_option linter.unusedSimpArgs false
theorem powB {k : Nat} (h : k ≤ 4) : 1 ≤ (10 : Int) ^ k ∧ (10 : Int) ^ k ≤ 10000 := ⟨by have := pow10_pos k; omega, pow10_le h⟩
theorem last_bd {xs : List Int} (h : ∀ x ∈ xs, -10000 ≤ x ∧ x ≤ 10000) (i : Nat) : -10000 ≤ xs.getD i 0 ∧ xs.getD i 0 ≤ 10000 := by
  by_cases hi : i < xs.length
  · exact h _ (getD_in hi)
  · rw [List.getD_eq_getElem?_getD, List.getElem?_eq_none (by omega)]; simp
theorem snoc_bd {xs : List Int} {y : Int} (h : ∀ x ∈ xs, -10000 ≤ x ∧ x ≤ 10000) (hy : -10000 ≤ y ∧ y ≤ 10000) : ∀ x ∈ xs ++ [y], -10000 ≤ x ∧ x ≤ 10000 := fun x hx => by
  rw [List.mem_append, List.mem_singleton] at hx
  rcases hx with hx | rfl
  · exact h x hx
  · exact hy
section
variable {w : World} {lo hi b l9 k9 : Nat} {B : Int} {v : Value} {p : List UInt8} {xs : List Int}
theorem srcAmong_z (hs : SL w l9 k9 v xs := by repeat (first | assumption | exact Go.Gw.Own.sl (by assumption) | exact Go.Gw.Box.at (by assumption) | exact Go.Gw.SLL.el (by first | assumption | exact Go.Gw.OwnD.sll (by assumption)) _ (by omega) | exact Go.Gw.SLL.at (by first | assumption | exact Go.Gw.OwnD.sll (by assumption)) (by omega) | exact Go.Gw.OwnD.sll (by assumption) | (apply Go.Gw.SL.chg; case hx => assumption) | (apply Go.Gw.Own.chg; case hx => assumption) | (apply Go.Gw.Box.chg; case hx => assumption) | (apply Go.Gw.At.chg; case hx => assumption) | exact .inl (Nat.zero_le _) | exact .inr (Nat.zero_le _) | (show _ ∨ _; omega))) (h : Src w lo hi b B := by assumption) (hB : B ≤ 10000000000 := by omega) (hn : 1 ≤ xs.length ∧ xs.length ≤ 1000 := by first | omega | (simp only [List.length_cons, List.length_nil]; omega)) (hd : b < l9 ∨ k9 ≤ b := by omega) : Ret Tryz.prog 67 [ptr b 0, v] w fun u w' => ∃ x, u = .int .i64 x ∧ x ∈ xs ∧ Src w' lo hi b (B + 2) ∧ Chg b (b + 1) w w' := by
  have htop := h.top
  have E : Since b (b + 1) w w := Since.refl _ _ _
  refine ret_enter Tryz.func67 rfl Tryz.ntmps67 rfl ?_
  focus have ht_hs := hs.top; have ht_h := h.top; refine c_seq ?_; refine c_region ?_; refine w_pure (y_assign rfl) rfl ?_; refine w_nil ?_; refine x_next ?_; refine c_seq ?_; refine c_region ?_; refine w_pure (y_move rfl) rfl ?_; refine w_pure (y_move rfl) rfl ?_; refine w_pure (y_move rfl) rfl ?_; refine w_pure (y_len rfl) rfl ?_; (refine w_call rfl rfl rfl (srcPick_z _) rfl ?_; rintro _ w9 ⟨x9, ⟨rfl, ⟨⟨hp1_9, hp2_9⟩, ⟨hp3_9, hx9⟩⟩⟩⟩); have hz_hx9 := hx9.size; replace hs := hs.chg hx9 (by omega); replace E := E.trans hx9; refine w_pure (y_index rfl rfl) rfl ?_; refine w_pure (y_load_int rfl) rfl ?_; refine w_pure (y_assign rfl) rfl ?_; refine w_nil ?_; refine x_next ?_; refine c_ret ?_; rotate_left
  exact x_retv [_] rfl ⟨rfl, trivial⟩ ⟨_, rfl, getD_in (by omega), hp3_9, E.go⟩
end
end Go.Proofs.YtcbpiaehkodliaaGreatDoor
/- GngB -/
namespace Go.Proofs.YtcbpiaehkodliaaGreatDoor
open Go Go.Gw
set_option linter.unusedVariables false
set_option linter.unusedSimpArgs false
section
variable (xss yss : List (List Int)) (ps : List (Int × Int))
/-- the first card from i on that differs; -2 if there is none among m -/
def cmpD (m i : Nat) : Int := if h : i < m then (if (difN (xss.getD i []) (yss.getD i []) ps ps.length).length = 0 then cmpD m (i + 1) else i) else -2
termination_by m - i
theorem cmpD_end {m i : Nat} (h : ¬ i < m) : cmpD xss yss ps m i = -2 := by rw [cmpD, dif_neg h]
theorem cmpD_hit {m i : Nat} (h : i < m) (e : ¬ (difN (xss.getD i []) (yss.getD i []) ps ps.length).length = 0) : cmpD xss yss ps m i = i := by rw [cmpD, dif_pos h, if_neg e]
theorem cmpD_on {m i : Nat} (h : i < m) (e : (difN (xss.getD i []) (yss.getD i []) ps ps.length).length = 0) : cmpD xss yss ps m i = cmpD xss yss ps m (i + 1) := by
  conv => lhs; rw [cmpD, dif_pos h, if_pos e]
def cCmp : Int := if okD xss = true ∧ okD yss = true then (if okCp ps (widD xss) (widD yss) = true then 0 else 2) else 1
def resCmp : Int :=
  if cCmp xss yss ps = 0 then
    (if 0 ≤ cmpD xss yss ps (min xss.length yss.length) 0 then cmpD xss yss ps (min xss.length yss.length) 0 else if (xss.length : Int) = yss.length then -1 else min (xss.length : Int) yss.length)
  else 0
end
section
variable {w : World} {lo hi lo' hi' l2 h2 b b' o o' : Nat} {v v' v2 : Value} {svs sus : List SV} {xss yss : List (List Int)} {ps : List (Int × Int)} {f t : Int}
theorem cCmp_1 (h : okD xss = false ∨ okD yss = false) : cCmp xss yss ps = 1 := by
  rw [cCmp, if_neg]; rcases h with h | h <;> simp [h]
theorem cCmp_2 (h : okD xss = true) (h1 : okD yss = true) (h2 : okCp ps (widD xss) (widD yss) = false) : cCmp xss yss ps = 2 := by
  rw [cCmp, if_pos ⟨h, h1⟩, if_neg (by rw [h2]; decide)]
theorem cCmp_0 (h : okD xss = true) (h1 : okD yss = true) (h2 : okCp ps (widD xss) (widD yss) = true) : cCmp xss yss ps = 0 := by
  rw [cCmp, if_pos ⟨h, h1⟩, if_pos h2]
theorem resCmp_no (h : ¬ cCmp xss yss ps = 0) : resCmp xss yss ps = 0 := by rw [resCmp, if_neg h]
theorem resCmp_hit {i : Nat} (h : cCmp xss yss ps = 0) (e : cmpD xss yss ps (min xss.length yss.length) 0 = i) : resCmp xss yss ps = i := by
  rw [resCmp, if_pos h, e, if_pos (by omega)]
theorem resCmp_end (h : cCmp xss yss ps = 0) (e : cmpD xss yss ps (min xss.length yss.length) 0 = -2) : resCmp xss yss ps = if (xss.length : Int) = yss.length then -1 else min (xss.length : Int) yss.length := by
  rw [resCmp, if_pos h, e, if_neg (by decide)]
end
end Go.Proofs.YtcbpiaehkodliaaGreatDoor
/- SetA -/
namespace Go.Proofs.YtcbpiaehkodliaaGreatDoor
open Go Go.Gw Go.ChangeShapes Go.WideShapes
set_option linter.unusedVariables false
set_option linter.unusedSimpArgs false
/-- a field of so many columns -/
def fldB (a b W : Int) : Bool := decide (0 ≤ a ∧ a < b ∧ b ≤ W)
def numB (a b W : Int) : Bool := decide ((0 ≤ a ∧ a < b ∧ b ≤ W) ∧ b - a ≤ 12)
def okSet (g h : Int) (ps : List (Int × Int)) (W : Int) : Bool := decide ((1 ≤ W ∧ W ≤ 20) ∧ (0 ≤ g ∧ g < h ∧ h ≤ W) ∧ ps.length ≤ 4) && !ps.any fun p => !numB p.1 p.2 W
theorem okSet_no {g h W : Int} {ps : List (Int × Int)} (hn : ¬ ((1 ≤ W ∧ W ≤ 20) ∧ (0 ≤ g ∧ g < h ∧ h ≤ W) ∧ ps.length ≤ 4)) : okSet g h ps W = false := by unfold okSet; rw [decide_eq_false hn]; rfl
theorem okSet_yes {g h W : Int} {ps : List (Int × Int)} (hn : (1 ≤ W ∧ W ≤ 20) ∧ (0 ≤ g ∧ g < h ∧ h ≤ W) ∧ ps.length ≤ 4) : okSet g h ps W = !ps.any fun p => !numB p.1 p.2 W := by unfold okSet; rw [decide_eq_true hn]; rfl
theorem okSet_at {g h W : Int} {ps : List (Int × Int)} (hk : okSet g h ps W = true) : ((1 ≤ W ∧ W ≤ 20) ∧ (0 ≤ g ∧ g < h ∧ h ≤ W) ∧ ps.length ≤ 4) ∧ ∀ i, i < ps.length → (0 ≤ (ps.getD i (0, 0)).1 ∧ (ps.getD i (0, 0)).1 < (ps.getD i (0, 0)).2 ∧ (ps.getD i (0, 0)).2 ≤ W) ∧ (ps.getD i (0, 0)).2 - (ps.getD i (0, 0)).1 ≤ 12 := by
  by_cases hn : (1 ≤ W ∧ W ≤ 20) ∧ (0 ≤ g ∧ g < h ∧ h ≤ W) ∧ ps.length ≤ 4
  · refine ⟨hn, fun i hi => ?_⟩
    rw [okSet_yes hn] at hk
    simp only [Bool.not_eq_true', List.any_eq_false] at hk
    have := hk (ps.getD i (0, 0)) (by rw [List.getD_eq_getElem?_getD, List.getElem?_eq_getElem hi]; exact List.getElem_mem hi)
    have h2 : numB (ps.getD i (0, 0)).1 (ps.getD i (0, 0)).2 W = true := by
      rcases Bool.eq_false_or_eq_true (numB (ps.getD i (0, 0)).1 (ps.getD i (0, 0)).2 W) with hb | hb
      · exact hb
      · rw [hb] at this; exact absurd rfl this
    exact of_decide_eq_true h2
  · rw [okSet_no hn] at hk; cases hk
theorem okSet_no' {g h W : Int} {ps : List (Int × Int)} (i : Nat) (hi : i < ps.length) (hn : ¬ ((0 ≤ (ps.getD i (0, 0)).1 ∧ (ps.getD i (0, 0)).1 < (ps.getD i (0, 0)).2 ∧ (ps.getD i (0, 0)).2 ≤ W) ∧ (ps.getD i (0, 0)).2 - (ps.getD i (0, 0)).1 ≤ 12)) : okSet g h ps W = false := by
  cases hk : okSet g h ps W
  · rfl
  · exact absurd ((okSet_at hk).2 i hi) hn
theorem okSet_all {g h W : Int} {ps : List (Int × Int)} (h0 : (1 ≤ W ∧ W ≤ 20) ∧ (0 ≤ g ∧ g < h ∧ h ≤ W)) (ha : ∀ i, i < ps.length → ((0 ≤ (ps.getD i (0, 0)).1 ∧ (ps.getD i (0, 0)).1 < (ps.getD i (0, 0)).2 ∧ (ps.getD i (0, 0)).2 ≤ W) ∧ (ps.getD i (0, 0)).2 - (ps.getD i (0, 0)).1 ≤ 12)) : okSet g h ps W = decide ((ps.length : Int) ≤ 4) := by
  by_cases hn : (ps.length : Int) ≤ 4
  · rw [okSet_yes ⟨h0.1, h0.2, by omega⟩, decide_eq_true hn]
    simp only [Bool.not_eq_true', List.any_eq_false]
    intro p hp
    obtain ⟨j, hj, rfl⟩ := List.mem_iff_getElem.1 hp
    have := ha j hj
    rw [List.getD_eq_getElem?_getD, List.getElem?_eq_getElem hj] at this
    have h2 : numB ps[j].1 ps[j].2 W = true := decide_eq_true this
    rw [h2]; simp
  · rw [okSet_no (by omega), decide_eq_false hn]
section
variable {w : World} {lo hi lo' hi' b o : Nat} {v v' : Value} {ps qs : List (Int × Int)} {g h g' h' : Int} {dt dt' : Bool}
end
end Go.Proofs.YtcbpiaehkodliaaGreatDoor
/- Dec -/
namespace Go.Proofs.YtcbpiaehkodliaaGreatDoor
open Go Go.Gw
set_option linter.unusedVariables false
set_option linter.unusedSimpArgs false
/-- the decimal digits of a number, none for 0 -/
def dec0 (u : Nat) : List UInt8 := if u = 0 then [] else Lib.decDigits u
theorem dec0_step {u : Nat} (h : u ≠ 0) : dec0 u = dec0 (u / 10) ++ [UInt8.ofNat (48 + u % 10)] := by
  unfold dec0
  rw [if_neg h, Lib.decDigits]
  by_cases h1 : u < 10
  · rw [dif_pos h1, if_pos (by omega), show u % 10 = u by omega]; rfl
  · rw [dif_neg h1, if_neg (by omega)]
theorem nDigits_pow : ∀ (k u : Nat), u < 10 ^ (k + 1) → Lib.nDigits u ≤ k + 1
  | 0, u, h => by rw [Lib.nDigits_small (by simpa using h)]; omega
  | k + 1, u, h => by
    by_cases h1 : u < 10
    · rw [Lib.nDigits_small h1]; omega
    · rw [Lib.nDigits_big h1]
      have := nDigits_pow k (u / 10) (by rw [Nat.pow_succ] at h; omega)
      omega
theorem nDigits_pos (u : Nat) : 1 ≤ Lib.nDigits u := by
  by_cases h : u < 10
  · rw [Lib.nDigits_small h]; omega
  · rw [Lib.nDigits_big h]; omega
theorem pow_nDigits : ∀ (k u : Nat), 10 ^ k ≤ u → k + 1 ≤ Lib.nDigits u
  | 0, u, h => nDigits_pos u
  | k + 1, u, h => by
    have h0 : 10 ^ 1 ≤ 10 ^ (k + 1) := Nat.pow_le_pow_right (by omega) (by omega)
    rw [Lib.nDigits_big (by omega)]
    have := pow_nDigits k (u / 10) (by rw [Nat.pow_succ] at h; omega)
    omega
theorem dec0_len (u : Nat) (h : u < 10 ^ 19) : (dec0 u).length ≤ 19 := by
  unfold dec0; split
  · simp
  · rw [Lib.decDigits_length]; exact nDigits_pow 18 u h
theorem itoa_len {n : Int} (h : In64 n) : (Lib.itoa n).length ≤ 20 := by
  unfold Lib.itoa In64 at *
  have e : (10 : Nat) ^ 19 = 10000000000000000000 := by decide
  split
  · rw [List.length_cons, Lib.decDigits_length]
    have := nDigits_pow 18 n.natAbs (by omega)
    omega
  · rw [Lib.decDigits_length]
    have := nDigits_pow 18 n.toNat (by omega)
    omega
theorem itoa_dec0 (n : Int) : Lib.itoa n = if n = 0 then [48] else if n < 0 then 45 :: dec0 n.natAbs else dec0 n.natAbs := by
  unfold Lib.itoa dec0
  by_cases h0 : n = 0
  · subst h0; simp [Lib.decDigits]
  · rw [if_neg h0, if_neg (show ¬ n.natAbs = 0 by omega)]
    split
    · rfl
    · rw [show n.toNat = n.natAbs by omega]
end Go.Proofs.YtcbpiaehkodliaaGreatDoor
/- Shelf -/
namespace Go.Proofs
open Go.Shelf
def Tryz.lays156_ren : Go.Shelf.Ren := ⟨fun | 156 => 52 | 165 => 80 | 166 => 81 | 169 => 82 | 240 => 108 | 241 => 109 | 276 => 127 | 277 => 128 | n => n, fun | 31 => 77 | 9 => 9 | 3 => 3 | 4 => 4 | 0 => 0 | 20 => 20 | 72 => 107 | 76 => 111 | 70 => 105 | 37 => 22 | 75 => 110 | 127 => 136 | 164 => 151 | 5 => 5 | 80 => 113 | n => n, fun | n => n⟩
theorem Tryz.lays156 : Go.Proofs.Lays.n156 Tryz.prog Tryz.lays156_ren := {
  mixed := by kernel_rfl
  f156 := Tryz.func52.trans (congrArg some (by kernel_rfl))
  f165 := Tryz.func80.trans (congrArg some (by kernel_rfl))
  f166 := Tryz.func81.trans (congrArg some (by kernel_rfl))
  f169 := Tryz.func82.trans (congrArg some (by kernel_rfl))
  f240 := Tryz.func108.trans (congrArg some (by kernel_rfl))
  f241 := Tryz.func109.trans (congrArg some (by kernel_rfl))
  f276 := Tryz.func127.trans (congrArg some (by kernel_rfl))
  f277 := Tryz.func128.trans (congrArg some (by kernel_rfl))
  t0 := Tryz.underlying0
  a0 := Tryz.isAgg0
  z0 := Tryz.sizeOf0
  v0 := Tryz.zeroValue0
  t3 := Tryz.underlying3
  a3 := Tryz.isAgg3
  z3 := Tryz.sizeOf3
  v3 := Tryz.zeroValue3
  t4 := Tryz.underlying4
  a4 := Tryz.isAgg4
  z4 := Tryz.sizeOf4
  v4 := Tryz.zeroValue4
  t9 := Tryz.underlying9
  a9 := Tryz.isAgg9
  z9 := Tryz.sizeOf9
  v9 := Tryz.zeroValue9
  t20 := Tryz.underlying20
  a20 := Tryz.isAgg20
  z20 := Tryz.sizeOf20
  v20 := Tryz.zeroValue20
  t31 := Tryz.underlying77
  a31 := Tryz.isAgg77
  z31 := Tryz.sizeOf77
  v31 := Tryz.zeroValue77
  t37 := Tryz.underlying22
  a37 := Tryz.isAgg22
  z37 := Tryz.sizeOf22
  v37 := Tryz.zeroValue22
  t70 := Tryz.underlying105
  a70 := Tryz.isAgg105
  z70 := Tryz.sizeOf105
  v70 := Tryz.zeroValue105
  t72 := Tryz.underlying107
  a72 := Tryz.isAgg107
  z72 := Tryz.sizeOf107
  v72 := Tryz.zeroValue107
  t75 := Tryz.underlying110
  a75 := Tryz.isAgg110
  z75 := Tryz.sizeOf110
  v75 := Tryz.zeroValue110
  t76 := Tryz.underlying111
  a76 := Tryz.isAgg111
  z76 := Tryz.sizeOf111
  v76 := Tryz.zeroValue111
  t127 := Tryz.underlying136
  a127 := Tryz.isAgg136
  z127 := Tryz.sizeOf136
  v127 := Tryz.zeroValue136
  t164 := Tryz.underlying151
  a164 := Tryz.isAgg151
  z164 := Tryz.sizeOf151
  v164 := Tryz.zeroValue151 }
theorem Tryz.Builder_Extra_156 : Builder.Extra Tryz.prog Tryz.lays156_ren := {
  sizeBuilder := by kernel_rfl
  liesBuilder := by kernel_rfl
  t5 := Tryz.underlying5
  a5 := Tryz.isAgg5
  z5 := Tryz.sizeOf5
  v5 := Tryz.zeroValue5
  infoByte := by kernel_rfl
  cellsByte := by kernel_rfl
  sizeByte := by kernel_rfl
  neB5 := by decide }
open Go.RowKit in
/-- No element: the empty string; the world is as it was. (Whatever the slice's address and capacity: a nil slice too.) (LAID: no walk: one application.) -/
theorem Tryz.strings_Join_none (a : Option Addr) (c : Nat) (sep : ByteArray) (w : World) :
    Calls Tryz.prog 52 #[.slice a 0 c, .string sep] w fun e w' => e = .returned (.string ⟨#[]⟩) ∧ w' = w := Any.strings_Join_none Tryz.lays156 Tryz.Builder_Extra_156 a c sep w
open Go.RowKit in
/-- strings.Join: "Join concatenates the elements of its first argument to create a single string. The separator string sep is placed between elements in the resulting string.": HOWEVER MANY ELEMENTS. Below the heap's end the world is as it was. (LAID: no walk: one application.) -/
theorem Tryz.strings_Join (bk o c : Nat) (xs : List ByteArray) (sep : ByteArray) (w : World) (hcells : ∀ (j : Nat) x, xs[j]? = some x → w.cell? ⟨bk, o + j, none⟩ = some (.string x)) (hbk : bk < w.heap.size) (hN : xs.length ≤ 140737488355328) (hcap : xs.length ≤ c) (hlen : (Lib.join (xs.map (·.data.toList)) sep.data.toList).length ≤ 140737488355328) :
    Calls Tryz.prog 52 #[.slice (some ⟨bk, o, none⟩) xs.length c, .string sep] w fun e w' => e = .returned (.string ⟨(Lib.join (xs.map (·.data.toList)) sep.data.toList).toArray⟩) ∧ Below w.heap.size w w' := Any.strings_Join Tryz.lays156 Tryz.Builder_Extra_156 bk o c xs sep w hcells hbk hN hcap hlen
def Tryz.laysM173_ren : Go.Shelf.Ren := ⟨fun | 173 => 79 | 246 => 107 | 283 => 123 | 284 => 124 | 285 => 125 | 286 => 126 | 129 => 106 | 317 => 143 | 318 => 144 | 319 => 145 | 320 => 146 | 337 => 155 | 338 => 156 | n => n, fun | 2 => 2 | 3 => 3 | 9 => 9 | 4 => 4 | 171 => 147 | 0 => 0 | 53 => 90 | 37 => 22 | 5 => 5 | 173 => 149 | 212 => 170 | 51 => 134 | 20 => 20 | 213 => 171 | 46 => 101 | 232 => 188 | 233 => 189 | n => n, fun | 17 => 1 | 18 => 6 | 19 => 7 | n => n⟩
theorem Tryz.laysM173 : Go.Proofs.LaysM.n173 Tryz.prog Tryz.laysM173_ren := {
  mixed := by kernel_rfl
  f129 := Tryz.func106.trans (congrArg some (by kernel_rfl))
  f173 := Tryz.func79.trans (congrArg some (by kernel_rfl))
  f246 := Tryz.func107.trans (congrArg some (by kernel_rfl))
  f283 := Tryz.func123.trans (congrArg some (by kernel_rfl))
  f284 := Tryz.func124.trans (congrArg some (by kernel_rfl))
  f285 := Tryz.func125.trans (congrArg some (by kernel_rfl))
  f286 := Tryz.func126.trans (congrArg some (by kernel_rfl))
  f317 := Tryz.func143.trans (congrArg some (by kernel_rfl))
  f318 := Tryz.func144.trans (congrArg some (by kernel_rfl))
  f319 := Tryz.func145.trans (congrArg some (by kernel_rfl))
  f320 := Tryz.func146.trans (congrArg some (by kernel_rfl))
  f337 := Tryz.func155.trans (congrArg some (by kernel_rfl))
  f338 := Tryz.func156.trans (congrArg some (by kernel_rfl))
  t0 := Tryz.underlying0
  a0 := Tryz.isAgg0
  z0 := Tryz.sizeOf0
  v0 := Tryz.zeroValue0
  t2 := Tryz.underlying2
  a2 := Tryz.isAgg2
  z2 := Tryz.sizeOf2
  v2 := Tryz.zeroValue2
  t3 := Tryz.underlying3
  a3 := Tryz.isAgg3
  z3 := Tryz.sizeOf3
  v3 := Tryz.zeroValue3
  t4 := Tryz.underlying4
  a4 := Tryz.isAgg4
  z4 := Tryz.sizeOf4
  v4 := Tryz.zeroValue4
  t5 := Tryz.underlying5
  a5 := Tryz.isAgg5
  z5 := Tryz.sizeOf5
  v5 := Tryz.zeroValue5
  t9 := Tryz.underlying9
  a9 := Tryz.isAgg9
  z9 := Tryz.sizeOf9
  v9 := Tryz.zeroValue9
  t20 := Tryz.underlying20
  a20 := Tryz.isAgg20
  z20 := Tryz.sizeOf20
  v20 := Tryz.zeroValue20
  t37 := Tryz.underlying22
  a37 := Tryz.isAgg22
  z37 := Tryz.sizeOf22
  v37 := Tryz.zeroValue22
  t46 := Tryz.underlying101
  a46 := Tryz.isAgg101
  z46 := Tryz.sizeOf101
  v46 := Tryz.zeroValue101
  t51 := Tryz.underlying134
  a51 := Tryz.isAgg134
  z51 := Tryz.sizeOf134
  v51 := Tryz.zeroValue134
  t53 := Tryz.underlying90
  a53 := Tryz.isAgg90
  z53 := Tryz.sizeOf90
  v53 := Tryz.zeroValue90
  t171 := Tryz.underlying147
  a171 := Tryz.isAgg147
  z171 := Tryz.sizeOf147
  v171 := Tryz.zeroValue147
  t173 := Tryz.underlying149
  a173 := Tryz.isAgg149
  z173 := Tryz.sizeOf149
  v173 := Tryz.zeroValue149
  t212 := Tryz.underlying170
  a212 := Tryz.isAgg170
  z212 := Tryz.sizeOf170
  v212 := Tryz.zeroValue170
  t213 := Tryz.underlying171
  a213 := Tryz.isAgg171
  z213 := Tryz.sizeOf171
  t232 := Tryz.underlying188
  a232 := Tryz.isAgg188
  z232 := Tryz.sizeOf188
  v232 := Tryz.zeroValue188
  t233 := Tryz.underlying189
  a233 := Tryz.isAgg189
  z233 := Tryz.sizeOf189
  v233 := Tryz.zeroValue189
  g17 := by kernel_rfl
  g18 := by kernel_rfl
  g19 := by kernel_rfl
  i0 := by kernel_rfl
  i2 := by kernel_rfl
  i3 := by kernel_rfl
  i4 := by kernel_rfl
  i5 := by kernel_rfl
  i9 := by kernel_rfl
  i20 := by kernel_rfl
  i37 := by kernel_rfl
  i46 := by kernel_rfl
  i51 := by kernel_rfl
  i53 := by kernel_rfl
  i171 := by kernel_rfl
  i173 := by kernel_rfl
  i212 := by kernel_rfl
  i232 := by kernel_rfl
  i233 := by kernel_rfl
  m17 := by kernel_rfl
  m18 := by kernel_rfl
  m19 := by kernel_rfl }
open Go.RowKit Go.Sort Go.Lib in
/-- strconv.FormatInt: "FormatInt returns the string representation of i in the given base": AT BASE 10: i's decimal numeral, for every int64. (LAID: no walk: one application.) -/
theorem Tryz.strconv_FormatInt_10 (n : Int) (h0 : -9223372036854775808 ≤ n) (h1 : n ≤ 9223372036854775807) (w : World) (htab : Lib.TabIs Tryz.prog w "internal/strconv.uint64pow10" .u64 Lib.pow10Tab) :
    Calls Tryz.prog 79 #[.int .i64 n, .int .i64 10] w fun e w' => e = .returned (.string ⟨(Lib.itoa n).toArray⟩) ∧ ∃ k os, w' = grow (w.drewN k) os := Any.strconv_FormatInt_10 Tryz.laysM173 n h0 h1 w htab
def Tryz.laysC174_ren : Go.Shelf.Ren := ⟨fun | 174 => 85 | 247 => 114 | 245 => 115 | 287 => 136 | 279 => 137 | 280 => 138 | 281 => 139 | 282 => 140 | 321 => 150 | 322 => 151 | 316 => 152 | 171 => 154 | 205 => 153 | 243 => 157 | 246 => 107 | 283 => 123 | 284 => 124 | 285 => 125 | 286 => 126 | 129 => 106 | 317 => 143 | 318 => 144 | 319 => 145 | 320 => 146 | 337 => 155 | 338 => 156 | n => n, fun | 9 => 9 | 3 => 3 | 2 => 2 | 75 => 110 | 85 => 115 | 4 => 4 | 167 => 159 | 5 => 5 | 53 => 90 | 175 => 160 | 46 => 101 | 168 => 162 | 37 => 22 | 0 => 0 | 210 => 179 | 21 => 21 | 127 => 136 | 145 => 187 | 143 => 185 | 171 => 147 | 173 => 149 | 212 => 170 | 51 => 134 | 20 => 20 | 213 => 171 | 232 => 188 | 233 => 189 | 80 => 113 | n => n, fun | 15 => 2 | 16 => 3 | 17 => 1 | 18 => 6 | 19 => 7 | n => n⟩
theorem Tryz.laysC174 : Go.Proofs.LaysC.n174 Tryz.prog Tryz.laysC174_ren := {
  mixed := by kernel_rfl
  f129 := Tryz.func106.trans (congrArg some (by kernel_rfl))
  f171 := Tryz.func154.trans (congrArg some (by kernel_rfl))
  f174 := Tryz.func85.trans (congrArg some (by kernel_rfl))
  f205 := Tryz.func153.trans (congrArg some (by kernel_rfl))
  f243 := Tryz.func157.trans (congrArg some (by kernel_rfl))
  f245 := Tryz.func115.trans (congrArg some (by kernel_rfl))
  f246 := Tryz.func107.trans (congrArg some (by kernel_rfl))
  f247 := Tryz.func114.trans (congrArg some (by kernel_rfl))
  f279 := Tryz.func137.trans (congrArg some (by kernel_rfl))
  f280 := Tryz.func138.trans (congrArg some (by kernel_rfl))
  f281 := Tryz.func139.trans (congrArg some (by kernel_rfl))
  f282 := Tryz.func140.trans (congrArg some (by kernel_rfl))
  f283 := Tryz.func123.trans (congrArg some (by kernel_rfl))
  f284 := Tryz.func124.trans (congrArg some (by kernel_rfl))
  f285 := Tryz.func125.trans (congrArg some (by kernel_rfl))
  f286 := Tryz.func126.trans (congrArg some (by kernel_rfl))
  f287 := Tryz.func136.trans (congrArg some (by kernel_rfl))
  f316 := Tryz.func152.trans (congrArg some (by kernel_rfl))
  f317 := Tryz.func143.trans (congrArg some (by kernel_rfl))
  f318 := Tryz.func144.trans (congrArg some (by kernel_rfl))
  f319 := Tryz.func145.trans (congrArg some (by kernel_rfl))
  f320 := Tryz.func146.trans (congrArg some (by kernel_rfl))
  f321 := Tryz.func150.trans (congrArg some (by kernel_rfl))
  f322 := Tryz.func151.trans (congrArg some (by kernel_rfl))
  f337 := Tryz.func155.trans (congrArg some (by kernel_rfl))
  f338 := Tryz.func156.trans (congrArg some (by kernel_rfl))
  t0 := Tryz.underlying0
  a0 := Tryz.isAgg0
  z0 := Tryz.sizeOf0
  v0 := Tryz.zeroValue0
  t2 := Tryz.underlying2
  a2 := Tryz.isAgg2
  z2 := Tryz.sizeOf2
  v2 := Tryz.zeroValue2
  t3 := Tryz.underlying3
  a3 := Tryz.isAgg3
  z3 := Tryz.sizeOf3
  v3 := Tryz.zeroValue3
  t4 := Tryz.underlying4
  a4 := Tryz.isAgg4
  z4 := Tryz.sizeOf4
  v4 := Tryz.zeroValue4
  t5 := Tryz.underlying5
  a5 := Tryz.isAgg5
  z5 := Tryz.sizeOf5
  v5 := Tryz.zeroValue5
  t9 := Tryz.underlying9
  a9 := Tryz.isAgg9
  z9 := Tryz.sizeOf9
  v9 := Tryz.zeroValue9
  t20 := Tryz.underlying20
  a20 := Tryz.isAgg20
  z20 := Tryz.sizeOf20
  v20 := Tryz.zeroValue20
  t21 := Tryz.underlying21
  a21 := Tryz.isAgg21
  z21 := Tryz.sizeOf21
  v21 := Tryz.zeroValue21
  t37 := Tryz.underlying22
  a37 := Tryz.isAgg22
  z37 := Tryz.sizeOf22
  v37 := Tryz.zeroValue22
  t46 := Tryz.underlying101
  a46 := Tryz.isAgg101
  z46 := Tryz.sizeOf101
  v46 := Tryz.zeroValue101
  t51 := Tryz.underlying134
  a51 := Tryz.isAgg134
  z51 := Tryz.sizeOf134
  v51 := Tryz.zeroValue134
  t53 := Tryz.underlying90
  a53 := Tryz.isAgg90
  z53 := Tryz.sizeOf90
  v53 := Tryz.zeroValue90
  t75 := Tryz.underlying110
  a75 := Tryz.isAgg110
  z75 := Tryz.sizeOf110
  v75 := Tryz.zeroValue110
  t85 := Tryz.underlying115
  a85 := Tryz.isAgg115
  z85 := Tryz.sizeOf115
  v85 := Tryz.zeroValue115
  t127 := Tryz.underlying136
  a127 := Tryz.isAgg136
  z127 := Tryz.sizeOf136
  v127 := Tryz.zeroValue136
  t143 := Tryz.underlying185
  a143 := Tryz.isAgg185
  z143 := Tryz.sizeOf185
  v143 := Tryz.zeroValue185
  t145 := Tryz.underlying187
  a145 := Tryz.isAgg187
  z145 := Tryz.sizeOf187
  v145 := Tryz.zeroValue187
  t167 := Tryz.underlying159
  a167 := Tryz.isAgg159
  z167 := Tryz.sizeOf159
  v167 := Tryz.zeroValue159
  t168 := Tryz.underlying162
  a168 := Tryz.isAgg162
  z168 := Tryz.sizeOf162
  v168 := Tryz.zeroValue162
  t171 := Tryz.underlying147
  a171 := Tryz.isAgg147
  z171 := Tryz.sizeOf147
  v171 := Tryz.zeroValue147
  t173 := Tryz.underlying149
  a173 := Tryz.isAgg149
  z173 := Tryz.sizeOf149
  v173 := Tryz.zeroValue149
  t175 := Tryz.underlying160
  a175 := Tryz.isAgg160
  z175 := Tryz.sizeOf160
  v175 := Tryz.zeroValue160
  t210 := Tryz.underlying179
  a210 := Tryz.isAgg179
  z210 := Tryz.sizeOf179
  v210 := Tryz.zeroValue179
  t212 := Tryz.underlying170
  a212 := Tryz.isAgg170
  z212 := Tryz.sizeOf170
  v212 := Tryz.zeroValue170
  t213 := Tryz.underlying171
  a213 := Tryz.isAgg171
  z213 := Tryz.sizeOf171
  t232 := Tryz.underlying188
  a232 := Tryz.isAgg188
  z232 := Tryz.sizeOf188
  v232 := Tryz.zeroValue188
  t233 := Tryz.underlying189
  a233 := Tryz.isAgg189
  z233 := Tryz.sizeOf189
  v233 := Tryz.zeroValue189
  g15 := by kernel_rfl
  g16 := by kernel_rfl
  g17 := by kernel_rfl
  g18 := by kernel_rfl
  g19 := by kernel_rfl
  t80 := Tryz.underlying113
  a80 := Tryz.isAgg113
  z80 := Tryz.sizeOf113
  v80 := Tryz.zeroValue113
  i0 := by kernel_rfl
  i2 := by kernel_rfl
  i3 := by kernel_rfl
  i4 := by kernel_rfl
  i5 := by kernel_rfl
  i9 := by kernel_rfl
  i20 := by kernel_rfl
  i21 := by kernel_rfl
  i37 := by kernel_rfl
  i46 := by kernel_rfl
  i51 := by kernel_rfl
  i53 := by kernel_rfl
  i75 := by kernel_rfl
  i80 := by kernel_rfl
  i85 := by kernel_rfl
  i127 := by kernel_rfl
  i143 := by kernel_rfl
  i145 := by kernel_rfl
  i167 := by kernel_rfl
  i168 := by kernel_rfl
  i171 := by kernel_rfl
  i173 := by kernel_rfl
  i175 := by kernel_rfl
  i210 := by kernel_rfl
  i212 := by kernel_rfl
  i232 := by kernel_rfl
  i233 := by kernel_rfl
  m15 := by kernel_rfl
  m16 := by kernel_rfl
  m17 := by kernel_rfl
  m18 := by kernel_rfl
  m19 := by kernel_rfl
  c0 := by kernel_rfl
  c2 := by kernel_rfl
  c3 := by kernel_rfl
  c4 := by kernel_rfl
  c5 := by kernel_rfl
  c9 := by kernel_rfl
  c20 := by kernel_rfl
  c21 := by kernel_rfl
  c37 := by kernel_rfl
  c46 := by kernel_rfl
  c51 := by kernel_rfl
  c53 := by kernel_rfl
  c75 := by kernel_rfl
  c80 := by kernel_rfl
  c85 := by kernel_rfl
  c127 := by kernel_rfl
  c143 := by kernel_rfl
  c145 := by kernel_rfl
  c167 := by kernel_rfl
  c168 := by kernel_rfl
  c171 := by kernel_rfl
  c173 := by kernel_rfl
  c175 := by kernel_rfl
  c210 := by kernel_rfl
  c212 := by kernel_rfl
  c213 := by kernel_rfl
  c232 := by kernel_rfl
  c233 := by kernel_rfl }
open Go.RowKit in
/-- strconv.ParseInt(s, 10, 64), AT EVERY STRING THAT SPELLS AN int64 ('Lib.parseIntB 64 s.data.toList = .ok v'): v, AND NO ERROR. (LAID: no walk: one application.) -/
theorem Tryz.strconv_ParseInt_10_at64_ok (s : ByteArray) (hmax : s.size ≤ 9223372036854775806) (v : Int) (h : Lib.parseIntB 64 s.data.toList = .ok v) (w : World) :
    Calls Tryz.prog 85 #[.string s, .int .i64 10, .int .i64 64] w fun e w' => e = .returned (.tuple #[.int .i64 v, .nilIface]) ∧ (w' = w ∨ ∃ t, w' = Lib.bytesWorld w 5 t) := Any.strconv_ParseInt_10_at64_ok Tryz.laysC174 s hmax v h w
open Go.RowKit in
/-- strconv.ParseInt(s, 10, 64), AT EVERY STRING THAT IS NO DECIMAL NUMERAL: 0, AND AN ERROR THAT IS NOT nil: a *NumError in a new block N: {Func: "ParseInt", Num: s's bytes, Err: what the variable ErrSyntax holds}. Of what was there nothing has turned. (LAID: no walk: one application.) -/
theorem Tryz.strconv_ParseInt_10_at64_syntax (s : ByteArray) (hlim : s.size ≤ 281474976710656) (h : Lib.parseIntB 64 s.data.toList = Lib.NumEnd.syntax) (ev : Value) (w : World) (hv : w.cell? ⟨2, 0, none⟩ = some ev) (hev : ev = .nilIface ∨ ∃ te pe, ev = .iface te pe) :
    Calls Tryz.prog 85 #[.string s, .int .i64 10, .int .i64 64] w fun e w' => ∃ N, e = .returned (.tuple #[.int .i64 (0), .iface 162 (.pointer (some ⟨N, 0, none⟩))]) ∧ w.heap.size ≤ N ∧ w'.heap[N]? = some (.cells #[.string ⟨#[80, 97, 114, 115, 101, 73, 110, 116]⟩, .string s, ev] 179 (0, 0)) ∧ Below w.heap.size w w' := Any.strconv_ParseInt_10_at64_syntax Tryz.laysC174 s hlim h ev w hv hev
open Go.RowKit in
/-- strconv.ParseInt(s, 10, 64), AT EVERY NUMERAL THAT NO int64 HOLDS: THE GREATEST OR THE LEAST int64, BY THE SIGN ('Lib.intSat 64'), AND AN ERROR THAT IS NOT nil: a *NumError in a new block N: {Func: "ParseInt", Num: s's bytes, Err: what the variable ErrRange holds}. Of what was there nothing has turned. (LAID: no walk: one application.) -/
theorem Tryz.strconv_ParseInt_10_at64_range (s : ByteArray) (hlim : s.size ≤ 281474976710656) (h : Lib.parseIntB 64 s.data.toList = .range) (ev : Value) (w : World) (hv : w.cell? ⟨3, 0, none⟩ = some ev) (hev : ev = .nilIface ∨ ∃ te pe, ev = .iface te pe) :
    Calls Tryz.prog 85 #[.string s, .int .i64 10, .int .i64 64] w fun e w' => ∃ N, e = .returned (.tuple #[.int .i64 (Lib.intSat 64 s.data.toList), .iface 162 (.pointer (some ⟨N, 0, none⟩))]) ∧ w.heap.size ≤ N ∧ w'.heap[N]? = some (.cells #[.string ⟨#[80, 97, 114, 115, 101, 73, 110, 116]⟩, .string s, ev] 179 (0, 0)) ∧ Below w.heap.size w w' := Any.strconv_ParseInt_10_at64_range Tryz.laysC174 s hlim h ev w hv hev
def Tryz.lays219_ren : Go.Shelf.Ren := ⟨fun | 219 => 113 | 217 => 132 | 225 => 133 | 224 => 134 | 267 => 135 | 266 => 148 | 314 => 149 | n => n, fun | 9 => 9 | 3 => 3 | 4 => 4 | 5 => 5 | 46 => 101 | 146 => 173 | 51 => 134 | n => n, fun | 1 => 0 | n => n⟩
theorem Tryz.lays219 : Go.Proofs.Lays.n219 Tryz.prog Tryz.lays219_ren := {
  mixed := by kernel_rfl
  f217 := Tryz.func132.trans (congrArg some (by kernel_rfl))
  f219 := Tryz.func113.trans (congrArg some (by kernel_rfl))
  f224 := Tryz.func134.trans (congrArg some (by kernel_rfl))
  f225 := Tryz.func133.trans (congrArg some (by kernel_rfl))
  f266 := Tryz.func148.trans (congrArg some (by kernel_rfl))
  f267 := Tryz.func135.trans (congrArg some (by kernel_rfl))
  f314 := Tryz.func149.trans (congrArg some (by kernel_rfl))
  t3 := Tryz.underlying3
  a3 := Tryz.isAgg3
  z3 := Tryz.sizeOf3
  v3 := Tryz.zeroValue3
  t4 := Tryz.underlying4
  a4 := Tryz.isAgg4
  z4 := Tryz.sizeOf4
  v4 := Tryz.zeroValue4
  t5 := Tryz.underlying5
  a5 := Tryz.isAgg5
  z5 := Tryz.sizeOf5
  v5 := Tryz.zeroValue5
  t9 := Tryz.underlying9
  a9 := Tryz.isAgg9
  z9 := Tryz.sizeOf9
  v9 := Tryz.zeroValue9
  t46 := Tryz.underlying101
  a46 := Tryz.isAgg101
  z46 := Tryz.sizeOf101
  v46 := Tryz.zeroValue101
  t51 := Tryz.underlying134
  a51 := Tryz.isAgg134
  z51 := Tryz.sizeOf134
  v51 := Tryz.zeroValue134
  t146 := Tryz.underlying173
  a146 := Tryz.isAgg173
  z146 := Tryz.sizeOf173
  v146 := Tryz.zeroValue173
  g1 := by kernel_rfl }
open Go.RowKit Go.Lib in
/-- internal/stringslite.Index (what strings.Index calls) AT A substr OF ONE BYTE c: IT RETURNS 'Lib.indexByte s c'; the world is as it was. (LAID: no walk: one application.) -/
theorem Tryz.stringslite_Index_one (s : ByteArray) (c : UInt8) (w : World) :
    Calls Tryz.prog 113 #[.string s, .string ⟨#[c]⟩] w fun e w' => e = .returned (.int .i64 (Lib.indexByte s.data.toList c)) ∧ w' = w := Any.stringslite_Index_one Tryz.lays219 s c w
def Tryz.lays143_ren : Go.Shelf.Ren := ⟨fun | 143 => 112 | 219 => 113 | 217 => 132 | 225 => 133 | 224 => 134 | 267 => 135 | 266 => 148 | 314 => 149 | n => n, fun | 9 => 9 | 3 => 3 | 4 => 4 | 5 => 5 | 46 => 101 | 146 => 173 | 51 => 134 | n => n, fun | 1 => 0 | n => n⟩
theorem Tryz.lays143 : Go.Proofs.Lays.n143 Tryz.prog Tryz.lays143_ren := {
  mixed := by kernel_rfl
  f143 := Tryz.func112.trans (congrArg some (by kernel_rfl))
  f217 := Tryz.func132.trans (congrArg some (by kernel_rfl))
  f219 := Tryz.func113.trans (congrArg some (by kernel_rfl))
  f224 := Tryz.func134.trans (congrArg some (by kernel_rfl))
  f225 := Tryz.func133.trans (congrArg some (by kernel_rfl))
  f266 := Tryz.func148.trans (congrArg some (by kernel_rfl))
  f267 := Tryz.func135.trans (congrArg some (by kernel_rfl))
  f314 := Tryz.func149.trans (congrArg some (by kernel_rfl))
  t3 := Tryz.underlying3
  a3 := Tryz.isAgg3
  z3 := Tryz.sizeOf3
  v3 := Tryz.zeroValue3
  t4 := Tryz.underlying4
  a4 := Tryz.isAgg4
  z4 := Tryz.sizeOf4
  v4 := Tryz.zeroValue4
  t5 := Tryz.underlying5
  a5 := Tryz.isAgg5
  z5 := Tryz.sizeOf5
  v5 := Tryz.zeroValue5
  t9 := Tryz.underlying9
  a9 := Tryz.isAgg9
  z9 := Tryz.sizeOf9
  v9 := Tryz.zeroValue9
  t46 := Tryz.underlying101
  a46 := Tryz.isAgg101
  z46 := Tryz.sizeOf101
  v46 := Tryz.zeroValue101
  t51 := Tryz.underlying134
  a51 := Tryz.isAgg134
  z51 := Tryz.sizeOf134
  v51 := Tryz.zeroValue134
  t146 := Tryz.underlying173
  a146 := Tryz.isAgg173
  z146 := Tryz.sizeOf173
  v146 := Tryz.zeroValue173
  g1 := by kernel_rfl }
open Go.RowKit Go.Lib in
/-- strings.Index: "Index returns the index of the first instance of substr in s, or -1 if substr is not present in s.": AT A substr OF ONE BYTE c: IT RETURNS 'Lib.indexByte s c'; the world is as it was. (LAID: no walk: one application.) -/
theorem Tryz.strings_Index_one (s : ByteArray) (c : UInt8) (w : World) :
    Calls Tryz.prog 112 #[.string s, .string ⟨#[c]⟩] w fun e w' => e = .returned (.int .i64 (Lib.indexByte s.data.toList c)) ∧ w' = w := Any.strings_Index_one Tryz.lays143 s c w
def Tryz.lays138_ren : Go.Shelf.Ren := ⟨fun | 138 => 111 | 195 => 129 | 218 => 131 | 143 => 112 | 219 => 113 | 217 => 132 | 225 => 133 | 224 => 134 | 267 => 135 | 266 => 148 | 314 => 149 | n => n, fun | 9 => 9 | 3 => 3 | 4 => 4 | 5 => 5 | 0 => 0 | 46 => 101 | 146 => 173 | 51 => 134 | n => n, fun | 1 => 0 | n => n⟩
theorem Tryz.lays138 : Go.Proofs.Lays.n138 Tryz.prog Tryz.lays138_ren := {
  mixed := by kernel_rfl
  f138 := Tryz.func111.trans (congrArg some (by kernel_rfl))
  f143 := Tryz.func112.trans (congrArg some (by kernel_rfl))
  f195 := Tryz.func129.trans (congrArg some (by kernel_rfl))
  f217 := Tryz.func132.trans (congrArg some (by kernel_rfl))
  f218 := Tryz.func131.trans (congrArg some (by kernel_rfl))
  f219 := Tryz.func113.trans (congrArg some (by kernel_rfl))
  f224 := Tryz.func134.trans (congrArg some (by kernel_rfl))
  f225 := Tryz.func133.trans (congrArg some (by kernel_rfl))
  f266 := Tryz.func148.trans (congrArg some (by kernel_rfl))
  f267 := Tryz.func135.trans (congrArg some (by kernel_rfl))
  f314 := Tryz.func149.trans (congrArg some (by kernel_rfl))
  t0 := Tryz.underlying0
  a0 := Tryz.isAgg0
  z0 := Tryz.sizeOf0
  v0 := Tryz.zeroValue0
  t3 := Tryz.underlying3
  a3 := Tryz.isAgg3
  z3 := Tryz.sizeOf3
  v3 := Tryz.zeroValue3
  t4 := Tryz.underlying4
  a4 := Tryz.isAgg4
  z4 := Tryz.sizeOf4
  v4 := Tryz.zeroValue4
  t5 := Tryz.underlying5
  a5 := Tryz.isAgg5
  z5 := Tryz.sizeOf5
  v5 := Tryz.zeroValue5
  t9 := Tryz.underlying9
  a9 := Tryz.isAgg9
  z9 := Tryz.sizeOf9
  v9 := Tryz.zeroValue9
  t46 := Tryz.underlying101
  a46 := Tryz.isAgg101
  z46 := Tryz.sizeOf101
  v46 := Tryz.zeroValue101
  t51 := Tryz.underlying134
  a51 := Tryz.isAgg134
  z51 := Tryz.sizeOf134
  v51 := Tryz.zeroValue134
  t146 := Tryz.underlying173
  a146 := Tryz.isAgg173
  z146 := Tryz.sizeOf173
  v146 := Tryz.zeroValue173
  g1 := by kernel_rfl }
open Go.RowKit Go.Lib in
/-- strings.Count AT A substr OF ONE BYTE ('hp'): "Count counts the number of non-overlapping instances of substr in s.": IT RETURNS 'Lib.countByte s (that byte)'; the world is as it was. ✋ NO CONTRACT HERE YET at an empty substr (utf8.RuneCountInString) or at a longer one (a loop over strings.Index). (LAID: no walk: one application.) -/
theorem Tryz.strings_Count_one (s : ByteArray) (c : UInt8) (w : World) :
    Calls Tryz.prog 111 #[.string s, .string ⟨#[c]⟩] w fun e w' => e = .returned (.int .i64 (Lib.countByte s.data.toList c)) ∧ w' = w := Any.strings_Count_one Tryz.lays138 s c w
def Tryz.lays101_ren : Go.Shelf.Ren := ⟨fun | 101 => 86 | 208 => 116 | 206 => 141 | n => n, fun | 9 => 9 | 4 => 4 | 3 => 3 | n => n, fun | n => n⟩
theorem Tryz.lays101 : Go.Proofs.Lays.n101 Tryz.prog Tryz.lays101_ren := {
  mixed := by kernel_rfl
  f101 := Tryz.func86.trans (congrArg some (by kernel_rfl))
  f206 := Tryz.func141.trans (congrArg some (by kernel_rfl))
  f208 := Tryz.func116.trans (congrArg some (by kernel_rfl))
  t3 := Tryz.underlying3
  a3 := Tryz.isAgg3
  z3 := Tryz.sizeOf3
  v3 := Tryz.zeroValue3
  t4 := Tryz.underlying4
  a4 := Tryz.isAgg4
  z4 := Tryz.sizeOf4
  v4 := Tryz.zeroValue4
  t9 := Tryz.underlying9
  a9 := Tryz.isAgg9
  z9 := Tryz.sizeOf9
  v9 := Tryz.zeroValue9 }
open Go.RowKit Go.Lib in
/-- strings.TrimPrefix: "TrimPrefix returns s without the provided leading prefix string. If s doesn't start with prefix, s is returned unchanged.": IT RETURNS 'Lib.trimPrefix s prefix'; the world is as it was. (LAID: no walk: one application.) -/
theorem Tryz.strings_TrimPrefix (s p : ByteArray) (w : World) :
    Calls Tryz.prog 86 #[.string s, .string p] w fun e w' => e = .returned (.string ⟨(Lib.trimPrefix s.data.toList p.data.toList).toArray⟩) ∧ w' = w := Any.strings_TrimPrefix Tryz.lays101 s p w
def Tryz.laysSlF06_f48_ren : Go.Shelf.Ren := ⟨fun | 6 => 48 | 15 => 78 | 14 => 77 | 28 => 105 | 29 => 106 | 20 => 97 | 21 => 98 | 22 => 99 | 23 => 100 | 24 => 101 | 25 => 102 | 26 => 103 | 27 => 104 | 46 => 118 | 47 => 119 | 48 => 120 | 49 => 121 | 50 => 122 | 57 => 142 | n => n, fun | 22 => 27 | 24 => 73 | 25 => 75 | 3 => 3 | 39 => 101 | 0 => 0 | 53 => 134 | 55 => 90 | 4 => 4 | 46 => 127 | 45 => 126 | 50 => 131 | 5 => 5 | 9 => 9 | 66 => 140 | 70 => 144 | 76 => 166 | 77 => 167 | n => n, fun | n => n⟩
theorem Tryz.laysSlF06_f48 : Go.Proofs.SlLaysF0.n6 Tryz.prog Tryz.laysSlF06_f48_ren := {
  mixed := by kernel_rfl
  f6 := ⟨Tryz.f48.name, by decide, Tryz.func48.trans (congrArg some (by kernel_rfl))⟩
  f14 := ⟨Tryz.f77.name, by decide, Tryz.func77.trans (congrArg some (by kernel_rfl))⟩
  f15 := Tryz.func78.trans (congrArg some (by kernel_rfl))
  f20 := ⟨Tryz.f97.name, by decide, Tryz.func97.trans (congrArg some (by kernel_rfl))⟩
  f21 := ⟨Tryz.f98.name, by decide, Tryz.func98.trans (congrArg some (by kernel_rfl))⟩
  f22 := ⟨Tryz.f99.name, by decide, Tryz.func99.trans (congrArg some (by kernel_rfl))⟩
  f23 := ⟨Tryz.f100.name, by decide, Tryz.func100.trans (congrArg some (by kernel_rfl))⟩
  f24 := ⟨Tryz.f101.name, by decide, Tryz.func101.trans (congrArg some (by kernel_rfl))⟩
  f25 := ⟨Tryz.f102.name, by decide, Tryz.func102.trans (congrArg some (by kernel_rfl))⟩
  f26 := ⟨Tryz.f103.name, by decide, Tryz.func103.trans (congrArg some (by kernel_rfl))⟩
  f27 := ⟨Tryz.f104.name, by decide, Tryz.func104.trans (congrArg some (by kernel_rfl))⟩
  f28 := Tryz.func105.trans (congrArg some (by kernel_rfl))
  f29 := Tryz.func106.trans (congrArg some (by kernel_rfl))
  f46 := ⟨Tryz.f118.name, by decide, Tryz.func118.trans (congrArg some (by kernel_rfl))⟩
  f47 := Tryz.func119.trans (congrArg some (by kernel_rfl))
  f48 := Tryz.func120.trans (congrArg some (by kernel_rfl))
  f49 := ⟨Tryz.f121.name, by decide, Tryz.func121.trans (congrArg some (by kernel_rfl))⟩
  f50 := ⟨Tryz.f122.name, by decide, Tryz.func122.trans (congrArg some (by kernel_rfl))⟩
  f57 := ⟨Tryz.f142.name, by decide, Tryz.func142.trans (congrArg some (by kernel_rfl))⟩
  t0 := Tryz.underlying0
  a0 := Tryz.isAgg0
  z0 := Tryz.sizeOf0
  v0 := Tryz.zeroValue0
  t3 := Tryz.underlying3
  a3 := Tryz.isAgg3
  z3 := Tryz.sizeOf3
  v3 := Tryz.zeroValue3
  t4 := Tryz.underlying4
  a4 := Tryz.isAgg4
  z4 := Tryz.sizeOf4
  v4 := Tryz.zeroValue4
  t5 := Tryz.underlying5
  a5 := Tryz.isAgg5
  z5 := Tryz.sizeOf5
  v5 := Tryz.zeroValue5
  t9 := Tryz.underlying9
  a9 := Tryz.isAgg9
  z9 := Tryz.sizeOf9
  v9 := Tryz.zeroValue9
  t22 := Tryz.underlying27
  a22 := Tryz.isAgg27
  z22 := Tryz.sizeOf27
  v22 := Tryz.zeroValue27
  t25 := Tryz.underlying75
  a25 := Tryz.isAgg75
  z25 := Tryz.sizeOf75
  v25 := Tryz.zeroValue75
  t39 := Tryz.underlying101
  a39 := Tryz.isAgg101
  z39 := Tryz.sizeOf101
  v39 := Tryz.zeroValue101
  t45 := Tryz.underlying126
  a45 := Tryz.isAgg126
  z45 := Tryz.sizeOf126
  v45 := Tryz.zeroValue126
  t46 := Tryz.underlying127
  a46 := Tryz.isAgg127
  z46 := Tryz.sizeOf127
  v46 := Tryz.zeroValue127
  t50 := Tryz.underlying131
  a50 := Tryz.isAgg131
  z50 := Tryz.sizeOf131
  v50 := Tryz.zeroValue131
  t53 := Tryz.underlying134
  a53 := Tryz.isAgg134
  z53 := Tryz.sizeOf134
  v53 := Tryz.zeroValue134
  t55 := Tryz.underlying90
  a55 := Tryz.isAgg90
  z55 := Tryz.sizeOf90
  v55 := Tryz.zeroValue90
  t66 := Tryz.underlying140
  a66 := Tryz.isAgg140
  z66 := Tryz.sizeOf140
  v66 := Tryz.zeroValue140
  t70 := Tryz.underlying144
  a70 := Tryz.isAgg144
  z70 := Tryz.sizeOf144
  v70 := Tryz.zeroValue144
  t76 := Tryz.underlying166
  a76 := Tryz.isAgg166
  z76 := Tryz.sizeOf166
  v76 := Tryz.zeroValue166
  t77 := Tryz.underlying167
  a77 := Tryz.isAgg167
  z77 := Tryz.sizeOf167
  v77 := Tryz.zeroValue167 }
open Go.RowKit Go.Lib Go.Sort in
/-- **slices.SortFunc, IN THE DOCUMENTATION's OWN TERMS: A PERMUTATION OF WHAT THE ROW HELD, SORTED BY 'cmp(a, b) < 0'.** Which of two equals comes first is left open ("The sort is not guaranteed to be stable"). (LAID AT THE INSTANCE 'slices.SortFunc[[]loop.example/g01012/impl.Copy,loop.example/g01012/impl.Copy]': no walk: one application.) -/
theorem Tryz.slices_SortFunc {α : Type} [Inhabited α] (k : Nat) (aE : ∀ w, (isAgg (Tryz.laysSlF06_f48_ren.t 24)).run Tryz.prog w = .ok true w) (zE : ∀ w, (Go.sizeOf (Tryz.laysSlF06_f48_ren.t 24)).run Tryz.prog w = .ok k w) (enc : α → List Value) (hk : ∀ x, (enc x).length = k) (h1 : ∀ x, ∀ v ∈ enc x, v.oneCell' = true) (cf : α → α → Int) (hO : SWO (ltOf cf)) (g : Nat) (cb : Array Value) (blk off cap : Nat) (d : Array α) (w : World) (eg : ∀ args w, (callFunc g args).run Tryz.prog w = .ok (.enter g args) w) (hcmp : CmpLays Tryz.prog g cb enc k cf blk off d.size w) (hH : HoldsK enc k w blk off d) (hblk : blk < w.heap.size) (hsz : d.size < 4611686018427387904) :
    Calls Tryz.prog 48 #[.slice (some ⟨blk, off, none⟩) d.size cap, .func (.func g) #[] cb] w fun e w' =>
      e = .returned (.tuple #[]) ∧ ∃ d' n os, PermIn 0 d.size d d' ∧ SortedIn (ltOf cf) 0 d.size d' ∧ w' = sortWorldK enc k w blk off n d' os := AnyQ.slices_SortFunc Tryz.laysSlF06_f48 k aE zE enc hk h1 cf hO g cb blk off cap d w eg hcmp hH hblk hsz
open Go.RowKit Go.Lib Go.Sort in
/-- **slices.SortFunc AT NO ELEMENT, A nil SLICE TOO: nothing turns.** (LAID AT THE INSTANCE 'slices.SortFunc[[]loop.example/g01012/impl.Copy,loop.example/g01012/impl.Copy]': no walk: one application.) -/
theorem Tryz.slices_SortFunc_none {α : Type} [Inhabited α] (p : Option Addr) (cap : Nat) (fv : Value) (w : World) :
    Calls Tryz.prog 48 #[.slice p 0 cap, fv] w fun e w' => e = .returned (.tuple #[]) ∧ w' = w := AnyF.slices_SortFunc_none Tryz.laysSlF06_f48 p cap fv w

end Go.Proofs
/- TieA -/
namespace Go.Proofs.YtcbpiaehkodliaaGreatDoor
open Go Go.Gw
set_option linter.unusedVariables false
set_option linter.unusedSimpArgs false
/-- the library's table of powers of ten stands, in a block below B -/
structure Tab (B : Nat) (w : World) : Prop where
  go : Lib.TabIs Tryz.prog w "internal/strconv.uint64pow10" .u64 Lib.pow10Tab
  low : 1 < B
  top : B ≤ w.heap.size
theorem gPow : Tryz.prog.globalNamed "internal/strconv.uint64pow10" = some 1 := by kernel_rfl
theorem Tab.chg {B l k : Nat} {w w' : World} (h : Tab B w) (hx : Chg l k w w') (ho : k = 0 ∨ B ≤ l) : Tab B w' := by
  have hl := h.low
  have ht := h.top
  refine ⟨?_, h.low, Nat.le_trans h.top hx.size⟩
  have h1 := h.go
  unfold Lib.TabIs World.var? at h1 ⊢
  rw [gPow] at h1 ⊢
  simp only [Option.bind_some] at h1 ⊢
  rw [hx.block _ (by omega) (by omega)]
  exact h1
theorem Tab.ext {B : Nat} {w w' : World} (h : Tab B w) (hx : Ext w w') : Tab B w' := h.chg hx (.inl rfl)
theorem tab_of {W : World} {rest : List (String × DataW Unit)} (h : laidMet Tryz.prog (("internal/strconv.uint64pow10", Rows.laid_internal_strconv_uint64pow10) :: rest) W) : Tab W.heap.size W := by
  have h1 : Lib.TabIs Tryz.prog W "internal/strconv.uint64pow10" .u64 Lib.pow10Tab :=
    Lib.tabIs_of_head (n := 20) (e := 90) (t := 170) gPow (by kernel_rfl) Tryz.underlying170 Tryz.underlying90 (by kernel_rfl) (by kernel_rfl) (show laidMet Tryz.prog (("internal/strconv.uint64pow10", Lib.tabData .u64 Lib.pow10Tab) :: rest) W from h)
  refine ⟨h1, ?_, Nat.le_refl _⟩
  unfold Lib.TabIs World.var? at h1
  rw [gPow] at h1
  simp only [Option.bind_some] at h1
  rcases Nat.lt_or_ge 1 W.heap.size with h2 | h2
  · exact h2
  · rw [Array.getElem?_eq_none h2] at h1; cases h1
theorem grow_ext (w : World) (k : Nat) (os : Array Obj) : Ext w (Sort.grow (w.drewN k) os) :=
  ⟨rfl, rfl, rfl, by simp [Sort.grow], fun i hi _ => by simp only [Sort.grow, World.heap_drewN]; rw [Array.getElem?_append_left hi]⟩
section
variable {w : World} {lo hi B : Nat} {v : Value} {xs : List Int}
theorem FormatInt_c (n : Int) (hT : Tab B w := by assumption) (hn : In64 n := by first | assumption | exact ⟨by omega, by omega⟩) : Val Tryz.prog 79 [.int .i64 n, .int .i64 10] w (str (Lib.itoa n)) := by
  refine ⟨fun w1 hx1 => ⟨?_⟩⟩
  refine Calls.mono (Tryz.strconv_FormatInt_10 n hn.1 hn.2 w1 (hT.ext hx1).go) ?_
  rintro e w' ⟨rfl, k, os, rfl⟩
  exact ⟨_, rfl, rfl, grow_ext _ _ _⟩
theorem iDecimal_c (n : Int) (hT : Tab B w := by assumption) (hn : In64 n := by first | assumption | exact ⟨by omega, by omega⟩) : Val Tryz.prog 51 [.int .i64 n] w (str (Lib.itoa n)) := by
  refine ⟨fun w1 hx1 => ?_⟩
  replace hT := hT.ext hx1
  have E : Since 0 0 w1 w1 := Since.refl 0 0 w1
  refine ret_enter Tryz.func51 rfl Tryz.ntmps51 rfl ?_
  focus have ht_hT := hT.top; refine c_seq ?_; refine c_region ?_; refine w_pure (y_assign rfl) rfl ?_; refine w_nil ?_; refine x_next ?_; refine c_seq ?_; refine c_region ?_; refine w_pure (y_move rfl) rfl ?_; refine w_val rfl rfl rfl (FormatInt_c _) rfl (fun w4 hx4 hz4 => ?_); have hz_hx4 := hx4.size; replace hT := hT.ext hx4; replace E := E.trans hx4; refine w_pure (y_assign rfl) rfl ?_; refine w_nil ?_; refine x_next ?_; refine c_ret ?_; rotate_left
  exact x_retv [_] rfl ⟨rfl, trivial⟩ ⟨rfl, E.go⟩
/-- how many digits a number has that is not negative -/
def nDig (n : Int) : Int := Lib.nDigits n.toNat
theorem nDig_bd {n : Int} (h : 0 ≤ n ∧ n ≤ 9223372036854775807) : 1 ≤ nDig n ∧ nDig n ≤ 19 := by
  have h1 := nDigits_pos n.toNat
  have e : (10 : Nat) ^ 19 = 10000000000000000000 := by decide
  have h2 := nDigits_pow 18 n.toNat (by omega)
  unfold nDig; omega
theorem nDig_le {n k : Int} (h : 0 ≤ n) (hk : 1 ≤ k) : nDig n ≤ k ↔ n < 10 ^ k.toNat := by
  obtain ⟨j, hj⟩ : ∃ j : Nat, k.toNat = j + 1 := ⟨k.toNat - 1, by omega⟩
  have e : ((10 ^ (j + 1) : Nat) : Int) = 10 ^ (j + 1) := by push_cast; rfl
  unfold nDig
  rw [hj, ← e]
  constructor
  · intro h1
    rcases Nat.lt_or_ge n.toNat (10 ^ (j + 1)) with h2 | h2
    · omega
    · have := pow_nDigits (j + 1) n.toNat h2; omega
  · intro h1
    have := nDigits_pow j n.toNat (by omega)
    omega
end
end Go.Proofs.YtcbpiaehkodliaaGreatDoor
/- SerA -/
namespace Go.Proofs.YtcbpiaehkodliaaGreatDoor
open Go Go.Gw
set_option linter.unusedVariables false
set_option linter.unusedSimpArgs false
/-- a field of a card, its columns put in -/
def putF (xs : List Int) (f t : Int) (p : List Int) : List Int := xs.take f.toNat ++ p ++ xs.drop t.toNat
theorem putF_len {xs : List Int} {f t : Int} {p : List Int} (h : 0 ≤ f ∧ f < t ∧ t ≤ xs.length) (hp : (p.length : Int) = t - f) : (putF xs f t p).length = xs.length := by
  simp only [putF, List.length_append, List.length_take, List.length_drop]; omega
/-- no column of the field has a hole -/
def blkB (xs : List Int) (f t : Int) : Bool := !(prt xs f t).any fun m => decide (¬ m = 0)
theorem blkB_at {xs : List Int} {f t : Int} (h : blkB xs f t = true) {k : Nat} (hk : k < (prt xs f t).length) : (prt xs f t).getD k 0 = 0 := by
  simp only [blkB, Bool.not_eq_true', List.any_eq_false, decide_eq_true_eq, Decidable.not_not] at h
  rw [List.getD_eq_getElem?_getD, List.getElem?_eq_getElem hk]
  exact h _ (List.getElem_mem hk)
theorem blkB_no {xs : List Int} {f t : Int} {k : Nat} (hk : k < (prt xs f t).length) (h : ¬ (prt xs f t).getD k 0 = 0) : blkB xs f t = false := by
  cases hb : blkB xs f t
  · rfl
  · exact absurd (blkB_at hb hk) h
theorem blkB_yes {xs : List Int} {f t : Int} (h : ∀ k, k < (prt xs f t).length → (prt xs f t).getD k 0 = 0) : blkB xs f t = true := by
  simp only [blkB, Bool.not_eq_true', List.any_eq_false, decide_eq_true_eq, Decidable.not_not]
  intro m hm
  obtain ⟨j, hj, rfl⟩ := List.mem_iff_getElem.1 hm
  have := h j hj
  rwa [List.getD_eq_getElem?_getD, List.getElem?_eq_getElem hj] at this
/-- the code from card i on -/
def serF (xss : List (List Int)) (f t first : Int) (i : Nat) : Int :=
  if h : i < xss.length then (if first + i < 10 ^ (t - f).toNat then (if blkB (xss.getD i []) f t = true then serF xss f t first (i + 1) else 9) else 5) else 0
termination_by xss.length - i
section
variable {xss : List (List Int)} {f t first : Int} {i : Nat}
theorem serF_end (h : ¬ i < xss.length) : serF xss f t first i = 0 := by rw [serF, dif_neg h]
theorem serF_5 (h : i < xss.length) (h1 : ¬ first + i < 10 ^ (t - f).toNat) : serF xss f t first i = 5 := by rw [serF, dif_pos h, if_neg h1]
theorem serF_9 (h : i < xss.length) (h1 : first + i < 10 ^ (t - f).toNat) (h2 : blkB (xss.getD i []) f t = false) : serF xss f t first i = 9 := by rw [serF, dif_pos h, if_pos h1, if_neg (by rw [h2]; decide)]
theorem serF_on (h : i < xss.length) (h1 : first + i < 10 ^ (t - f).toNat) (h2 : blkB (xss.getD i []) f t = true) : serF xss f t first i = serF xss f t first (i + 1) := by
  conv => lhs; rw [serF, dif_pos h, if_pos h1, if_pos h2]
end
def serAt (xss : List (List Int)) (f t first : Int) (i : Nat) : List Int := putF (xss.getD i []) f t (pun (first + i) (t - f).toNat)
def serL (xss : List (List Int)) (f t first : Int) : List (List Int) := (List.range xss.length).map (serAt xss f t first)
theorem serL_len (xss : List (List Int)) (f t first : Int) : (serL xss f t first).length = xss.length := by simp [serL]
theorem serL_get {xss : List (List Int)} {f t first : Int} {i : Nat} (h : i < xss.length) : (serL xss f t first)[i]? = some (serAt xss f t first i) := by simp [serL, h]
def cSer (xss : List (List Int)) (f t first : Int) : Int :=
  if okD xss = true then (if (0 ≤ f ∧ f < t ∧ t ≤ widD xss) ∧ t - f ≤ 12 ∧ 0 ≤ first ∧ first ≤ 999999999999 then serF xss f t first 0 else 2) else 1
def resSer (xss : List (List Int)) (f t first : Int) : List (List Int) := if cSer xss f t first = 0 then serL xss f t first else []
end Go.Proofs.YtcbpiaehkodliaaGreatDoor
/- SerB -/
namespace Go.Proofs.YtcbpiaehkodliaaGreatDoor
open Go Go.Gw
set_option linter.unusedVariables false
set_option linter.unusedSimpArgs false
theorem take_put {xs D R : List Int} {c : Nat} {b : Int} (h : c < xs.length) : (xs.take (c + 1) ++ R ++ D).set c b = xs.take c ++ ([b] ++ R) ++ D := by
  have h1 : (xs.take c).length = c := by rw [List.length_take]; omega
  rw [List.take_add_one, List.getElem?_eq_getElem h, Option.toList_some, List.append_assoc, List.append_assoc, List.set_append_right _ _ (by omega), h1, Nat.sub_self]
  simp
section
variable {w : World} {lo hi B : Nat} {v : Value} {xs : List Int}
end
end Go.Proofs.YtcbpiaehkodliaaGreatDoor
/- SerC -/
namespace Go.Proofs.YtcbpiaehkodliaaGreatDoor
open Go Go.Gw
set_option linter.unusedVariables false
set_option linter.unusedSimpArgs false
theorem cSer_1 {xss : List (List Int)} {f t first : Int} (h : okD xss = false) : cSer xss f t first = 1 := by simp [cSer, h]
theorem cSer_2 {xss : List (List Int)} {f t first : Int} (h : okD xss = true) (h2 : ¬ ((0 ≤ f ∧ f < t ∧ t ≤ widD xss) ∧ t - f ≤ 12 ∧ 0 ≤ first ∧ first ≤ 999999999999)) : cSer xss f t first = 2 := by rw [cSer, if_pos h, if_neg h2]
theorem cSer_s {xss : List (List Int)} {f t first : Int} (h : okD xss = true) (h2 : (0 ≤ f ∧ f < t ∧ t ≤ widD xss) ∧ t - f ≤ 12 ∧ 0 ≤ first ∧ first ≤ 999999999999) : cSer xss f t first = serF xss f t first 0 := by rw [cSer, if_pos h, if_pos h2]
theorem serAt_len {xss : List (List Int)} {f t first : Int} (h : okD xss = true) (h2 : 0 ≤ f ∧ f < t ∧ t ≤ widD xss) {i : Nat} (hi : i < xss.length) : (serAt xss f t first i).length = (xss.getD i []).length := by
  have := widD_at h i hi
  exact putF_len (by omega) (by rw [pun_len]; omega)
theorem set_own {α : Type} {d : α} {xs : List α} {i : Nat} : xs.set i (xs.getD i d) = xs := by
  apply List.ext_getElem?
  intro j
  rw [List.getElem?_set]
  split
  · rename_i e
    subst e
    split
    · rename_i h; rw [List.getD_eq_getElem?_getD, List.getElem?_eq_getElem h]; rfl
    · rename_i h; rw [List.getElem?_eq_none (by omega)]
  · rfl
theorem put_step {c P : List Int} {f x : Int} (h0 : 0 ≤ f ∧ 0 ≤ x) (h1 : f + x < c.length) (h2 : x < P.length) : (putF c f (f + x) (P.take x.toNat)).set (f + x).toNat (P.getD x.toNat 0) = putF c f (f + (x + 1)) (P.take (x + 1).toNat) := by
  have a1 : (c.take f.toNat).length = f.toNat := by rw [List.length_take]; omega
  have a2 : (P.take x.toNat).length = x.toNat := by rw [List.length_take]; omega
  have a3 : (c.take f.toNat ++ P.take x.toNat).length = (f + x).toNat := by rw [List.length_append]; omega
  unfold putF
  rw [List.set_append_right _ _ (by omega), a3, Nat.sub_self, List.drop_eq_getElem_cons (show (f + x).toNat < c.length by omega), List.set_cons_zero, show (x + 1).toNat = x.toNat + 1 by omega, List.take_add_one, show P[x.toNat]? = some (P.getD x.toNat 0) by rw [List.getD_eq_getElem?_getD, List.getElem?_eq_getElem (by omega)]; rfl, show (f + (x + 1)).toNat = (f + x).toNat + 1 by omega]
  simp
theorem put_zero {c P : List Int} {f : Int} : putF c f (f + 0) (P.take (Int.toNat 0)) = c := by
  unfold putF
  rw [Int.add_zero, show Int.toNat 0 = 0 from rfl, List.take_zero, List.append_nil, List.take_append_drop]
theorem put_lenx {c P : List Int} {f x : Int} (h0 : 0 ≤ f ∧ 0 ≤ x) (h1 : f + x ≤ c.length) (h2 : x ≤ P.length) : (putF c f (f + x) (P.take x.toNat)).length = c.length := by
  simp only [putF, List.length_append, List.length_take, List.length_drop]; omega
theorem put_get {c P : List Int} {f x : Int} (h0 : 0 ≤ f ∧ 0 ≤ x) (h1 : f + x < c.length) (h2 : x ≤ P.length) : (putF c f (f + x) (P.take x.toNat)).getD (f + x).toNat 0 = c.getD (f + x).toNat 0 := by
  have a3 : (c.take f.toNat ++ P.take x.toNat).length = (f + x).toNat := by rw [List.length_append, List.length_take, List.length_take]; omega
  unfold putF
  rw [List.getD_eq_getElem?_getD, List.getElem?_append_right (by omega), a3, Nat.sub_self, List.getElem?_drop, Nat.add_zero, List.getD_eq_getElem?_getD]
theorem resSer_bd (xss : List (List Int)) (f t first : Int) : totD (resSer xss f t first) ≤ 800 ∧ (resSer xss f t first).length ≤ 40 := by
  unfold resSer
  split
  · rename_i h
    cases hk : okD xss
    · rw [cSer_1 hk] at h; cases h
    by_cases h2 : (0 ≤ f ∧ f < t ∧ t ≤ widD xss) ∧ t - f ≤ 12 ∧ 0 ≤ first ∧ first ≤ 999999999999
    · refine deck_bd hk (serL_len _ _ _ _) (fun i hi => ?_)
      rw [List.getD_eq_getElem?_getD, serL_get hi]
      exact serAt_len hk h2.1 hi
    · rw [cSer_2 hk h2] at h; cases h
  · simp [totD, tot]
section
variable {w : World} {lo hi B e : Nat} {v : Value} {xs : List Int} {xss : List (List Int)} {svs : List SV} {f t first : Int}
end
end Go.Proofs.YtcbpiaehkodliaaGreatDoor
/- GngC -/
namespace Go.Proofs.YtcbpiaehkodliaaGreatDoor
open Go Go.Gw
set_option linter.unusedVariables false
set_option linter.unusedSimpArgs false
/-- the first n columns of one card over another's -/
def ovlF (ys xs : List Int) : Nat → List Int
  | 0 => xs
  | n + 1 => (ovlF ys xs n).set n (orI ((ovlF ys xs n).getD n 0) (ys.getD n 0))
theorem ovlF_len (ys xs : List Int) : ∀ n, (ovlF ys xs n).length = xs.length
  | 0 => rfl
  | n + 1 => by rw [ovlF, List.length_set, ovlF_len ys xs n]
theorem ovlF_get (ys xs : List Int) : ∀ n k, (ovlF ys xs n).getD k 0 = if k < n ∧ k < xs.length then orI (xs.getD k 0) (ys.getD k 0) else xs.getD k 0
  | 0, k => by rw [if_neg (by omega)]; rfl
  | n + 1, k => by
    have ih := ovlF_get ys xs n
    have hl := ovlF_len ys xs n
    rw [ovlF, List.getD_eq_getElem?_getD, List.getElem?_set]
    by_cases e : n = k
    · subst e
      rw [if_pos rfl]
      by_cases h : n < xs.length
      · rw [if_pos (by omega), if_pos ⟨by omega, h⟩, ih n, if_neg (by omega)]; rfl
      · rw [if_neg (by omega), if_neg (by omega), List.getD_eq_getElem?_getD, List.getElem?_eq_none (by omega)]
    · rw [if_neg e, ← List.getD_eq_getElem?_getD, ih k]
      by_cases h : k < n ∧ k < xs.length
      · rw [if_pos h, if_pos ⟨by omega, h.2⟩]
      · rw [if_neg h, if_neg (by omega)]
section
variable {w : World} {lo hi lo' hi' b b' o o' : Nat} {v v' v2 : Value} {xs ys : List Int} {xss yss : List (List Int)} {svs sus : List SV} {f t : Int}
theorem sSameCard_c (h : SL w lo hi v xs := by repeat (first | assumption | exact Go.Gw.Own.sl (by assumption) | exact Go.Gw.Box.at (by assumption) | exact Go.Gw.SLL.el (by first | assumption | exact Go.Gw.OwnD.sll (by assumption)) _ (by omega) | exact Go.Gw.SLL.at (by first | assumption | exact Go.Gw.OwnD.sll (by assumption)) (by omega) | exact Go.Gw.OwnD.sll (by assumption) | (apply Go.Gw.SL.chg; case hx => assumption) | (apply Go.Gw.Own.chg; case hx => assumption) | (apply Go.Gw.Box.chg; case hx => assumption) | (apply Go.Gw.At.chg; case hx => assumption) | exact .inl (Nat.zero_le _) | exact .inr (Nat.zero_le _) | (show _ ∨ _; omega))) (h' : SL w lo' hi' v' ys := by repeat (first | assumption | exact Go.Gw.Own.sl (by assumption) | exact Go.Gw.Box.at (by assumption) | exact Go.Gw.SLL.el (by first | assumption | exact Go.Gw.OwnD.sll (by assumption)) _ (by omega) | exact Go.Gw.SLL.at (by first | assumption | exact Go.Gw.OwnD.sll (by assumption)) (by omega) | exact Go.Gw.OwnD.sll (by assumption) | (apply Go.Gw.SL.chg; case hx => assumption) | (apply Go.Gw.Own.chg; case hx => assumption) | (apply Go.Gw.Box.chg; case hx => assumption) | (apply Go.Gw.At.chg; case hx => assumption) | exact .inl (Nat.zero_le _) | exact .inr (Nat.zero_le _) | (show _ ∨ _; omega))) : Val Tryz.prog 23 [.agg #[v], .agg #[v']] w (.bool (decide (xs = ys))) := by
  refine ⟨fun w1 hx1 => ?_⟩
  replace h := h.ext hx1
  replace h' := h'.ext hx1
  have E : Since 0 0 w1 w1 := Since.refl 0 0 w1
  refine ret_enter Tryz.func23 rfl Tryz.ntmps23 rfl ?_
  focus have ht_h := h.top; have ht_h' := h'.top; refine c_seq ?_; refine c_region ?_; refine w_box rfl (k := fun b2 w2 hb2 hx2 hl2 hs2 => ?_); have hz_hx2 := hx2.size; replace h := h.ext hx2; replace h' := h'.ext hx2; replace E := E.trans hx2; refine w_box rfl (k := fun b3 w3 hb3 hx3 hl3 hs3 => ?_); have hz_hx3 := hx3.size; replace hb2 := hb2.ext hx3; replace h := h.ext hx3; replace h' := h'.ext hx3; replace E := E.trans hx3; refine w_pure (y_assign rfl) rfl ?_; refine w_nil ?_; refine x_next ?_; refine c_seq ?_; refine c_region ?_; refine w_pure (y_field rfl) rfl ?_; refine w_pure (y_load_box rfl) rfl ?_; refine w_pure (y_field rfl) rfl ?_; refine w_pure (y_load_box rfl) rfl ?_; refine w_val rfl rfl rfl (l00Same_c) rfl (fun w9 hx9 hz9 => ?_); have hz_hx9 := hx9.size; replace hb3 := hb3.ext hx9; replace hb2 := hb2.ext hx9; replace h := h.ext hx9; replace h' := h'.ext hx9; replace E := E.trans hx9; refine w_pure (y_assign rfl) rfl ?_; refine w_nil ?_; refine x_next ?_; refine c_ret ?_; rotate_left
  exact x_retv [_] rfl ⟨rfl, trivial⟩ ⟨rfl, E.go⟩
end
end Go.Proofs.YtcbpiaehkodliaaGreatDoor
/- RepC -/
namespace Go.Proofs.YtcbpiaehkodliaaGreatDoor
open Go Go.Gw
set_option linter.unusedVariables false
set_option linter.unusedSimpArgs false
/-- whether card i has a hole in row 11 of a column -/
def isMst (xss : List (List Int)) (k : Int) (i : Nat) : Prop := ¬ andI ((xss.getD i []).getD k.toNat 0) 2 = 0
instance (xss : List (List Int)) (k : Int) (i : Nat) : Decidable (isMst xss k i) := by unfold isMst; infer_instance
/-- the last master among the first i cards, -1 if there is none -/
def mstF (xss : List (List Int)) (k : Int) : Nat → Int
  | 0 => -1
  | i + 1 => if isMst xss k i then (i : Int) else mstF xss k i
theorem mstF_lt (xss : List (List Int)) (k : Int) : ∀ i, -1 ≤ mstF xss k i ∧ mstF xss k i < i
  | 0 => by simp [mstF]
  | i + 1 => by
    have := mstF_lt xss k i
    simp only [mstF]; split <;> omega
def intAt (xss : List (List Int)) (ps : List (Int × Int)) (k : Int) (i : Nat) : List Int := if isMst xss k i then xss.getD i [] else copyF (xss.getD (mstF xss k i).toNat []) ps (xss.getD i []) ps.length
def intL (xss : List (List Int)) (ps : List (Int × Int)) (k : Int) : List (List Int) := (List.range xss.length).map (intAt xss ps k)
def cInt (xss : List (List Int)) (ps : List (Int × Int)) (k : Int) : Int :=
  if okD xss = true then (if okCp ps (widD xss) (widD xss) = true ∧ 0 ≤ k ∧ k ≤ widD xss - 1 then (if 0 < xss.length ∧ ¬ isMst xss k 0 then 6 else 0) else 2) else 1
def resInt (xss : List (List Int)) (ps : List (Int × Int)) (k : Int) : List (List Int) := if cInt xss ps k = 0 then intL xss ps k else []
theorem cInt_1 {xss : List (List Int)} {ps : List (Int × Int)} {k : Int} (h : okD xss = false) : cInt xss ps k = 1 := by simp [cInt, h]
theorem cInt_2 {xss : List (List Int)} {ps : List (Int × Int)} {k : Int} (h : okD xss = true) (h2 : okCp ps (widD xss) (widD xss) = false ∨ ¬ (0 ≤ k ∧ k ≤ widD xss - 1)) : cInt xss ps k = 2 := by
  rw [cInt, if_pos h, if_neg]
  rintro ⟨h3, h4⟩
  rcases h2 with h2 | h2
  · rw [h2] at h3; cases h3
  · exact h2 h4
theorem cInt_6 {xss : List (List Int)} {ps : List (Int × Int)} {k : Int} (h : okD xss = true) (h2 : okCp ps (widD xss) (widD xss) = true) (h3 : 0 ≤ k ∧ k ≤ widD xss - 1) (h4 : 0 < xss.length) (h5 : ¬ isMst xss k 0) : cInt xss ps k = 6 := by
  rw [cInt, if_pos h, if_pos ⟨h2, h3⟩, if_pos ⟨h4, h5⟩]
theorem cInt_0 {xss : List (List Int)} {ps : List (Int × Int)} {k : Int} (h : okD xss = true) (h2 : okCp ps (widD xss) (widD xss) = true) (h3 : 0 ≤ k ∧ k ≤ widD xss - 1) (h4 : 0 < xss.length → isMst xss k 0) : cInt xss ps k = 0 := by
  rw [cInt, if_pos h, if_pos ⟨h2, h3⟩, if_neg (fun hh => hh.2 (h4 hh.1))]
/-- where there is no master yet the first card is none -/
theorem mst_none {xss : List (List Int)} {k : Int} : ∀ {i : Nat}, mstF xss k i < 0 → 0 < i → ¬ isMst xss k 0
  | 0, _, h0 => by omega
  | 1, h, _ => by
    simp only [mstF] at h
    split at h
    · omega
    · assumption
  | i + 2, h, _ => by
    simp only [mstF] at h
    split at h
    · omega
    · exact mst_none (i := i + 1) (by simp only [mstF]; exact h) (by omega)
theorem intL_len (xss : List (List Int)) (ps : List (Int × Int)) (k : Int) : (intL xss ps k).length = xss.length := by simp [intL]
theorem intL_get {xss : List (List Int)} {ps : List (Int × Int)} {k : Int} {i : Nat} (h : i < xss.length) : (intL xss ps k)[i]? = some (intAt xss ps k i) := by simp [intL, h]
theorem resInt_bd (xss : List (List Int)) (ps : List (Int × Int)) (k : Int) : totD (resInt xss ps k) ≤ 800 ∧ (resInt xss ps k).length ≤ 40 := by
  unfold resInt
  split
  · rename_i h
    cases hk : okD xss
    · rw [cInt_1 hk] at h; cases h
    refine deck_bd hk (intL_len _ _ _) (fun i hi => ?_)
    rw [List.getD_eq_getElem?_getD, intL_get hi]
    simp only [Option.getD_some, intAt]
    split
    · rfl
    · rw [copyF_len]
  · simp [totD, tot]
theorem set_same {α : Type} {d : α} {xs : List α} {i : Nat} : xs.set i (xs.getD i d) = xs := by
  apply List.ext_getElem?
  intro j
  rw [List.getElem?_set]
  split
  · rename_i e
    subst e
    split
    · rename_i h; rw [List.getD_eq_getElem?_getD, List.getElem?_eq_getElem h]; rfl
    · rename_i h; rw [List.getElem?_eq_none (by omega)]
  · rfl
section
variable {w : World} {lo hi lo' hi' l2 h2 e b b' o o' lo3 hi3 : Nat} {v v' v2 d vo : Value} {xs ys ms : List Int} {ps : List (Int × Int)} {xss yss : List (List Int)} {svs sus : List SV} {f t : Int}
end
end Go.Proofs.YtcbpiaehkodliaaGreatDoor
/- GngQ -/
namespace Go.Proofs.YtcbpiaehkodliaaGreatDoor
open Go Go.Gw
set_option linter.unusedVariables false
set_option linter.unusedSimpArgs false
theorem okK_rng {xs : List Int} (h : 1 ≤ xs.length ∧ xs.length ≤ 20) (hr : Rng xs) : okK xs = true := by
  unfold okK
  rw [decide_eq_true h, Bool.true_and, Bool.not_eq_true', List.any_eq_false]
  intro d hd
  obtain ⟨j, hj, rfl⟩ := List.mem_iff_getElem.1 hd
  have h1 := hr j hj
  rw [List.getD_eq_getElem?_getD, List.getElem?_eq_getElem hj] at h1
  have h2 : (0 ≤ xs[j] ∧ xs[j] ≤ 4095) := h1
  rw [decide_eq_true h2]; decide
theorem ext_getD {xs ys : List Int} (h : xs.length = ys.length) (he : ∀ k, k < xs.length → xs.getD k 0 = ys.getD k 0) : xs = ys := by
  apply List.ext_getElem h
  intro k h1 h2
  have := he k h1
  rw [List.getD_eq_getElem?_getD, List.getD_eq_getElem?_getD, List.getElem?_eq_getElem h1, List.getElem?_eq_getElem h2] at this
  exact this
theorem rng_copy' {xs ys : List Int} {ps : List (Int × Int)} (hx : Rng xs) (hy : Rng ys) : ∀ n, Rng (copyF xs ps ys n)
  | 0 => hy
  | n + 1 => by
    have ih := rng_copy' (ps := ps) hx hy n
    have hv : ∀ (l : List Int) (i : Nat), Rng l → 0 ≤ l.getD i 0 ∧ l.getD i 0 ≤ 4095 := fun l i h => by
      by_cases hi : i < l.length
      · exact h i hi
      · rw [List.getD_eq_getElem?_getD, List.getElem?_eq_none (by omega)]; simp
    rw [copyF]
    intro i hi
    rw [List.length_set] at hi
    rw [List.getD_eq_getElem?_getD, List.getElem?_set]
    split
    · split
      · exact orI_12 (hv _ _ ih).2 (hv _ _ hx).2
      · simp
    · rw [← List.getD_eq_getElem?_getD]; exact ih i hi
theorem gng_law {ms : List Int} {xss : List (List Int)} {ps : List (Int × Int)} (h : cGng ms xss ps = 0) : okD xss = true ∧ (resGng ms xss ps).length = xss.length ∧ ∀ i, i < xss.length → okK (xss.getD i []) = true ∧ okK ((resGng ms xss ps).getD i []) = true ∧ (xss.getD i []).length = ((resGng ms xss ps).getD i []).length ∧ ovlF ((resGng ms xss ps).getD i []) (xss.getD i []) (xss.getD i []).length = (resGng ms xss ps).getD i [] := by
  cases hk0 : okK ms
  · rw [cGng_1 (.inl hk0)] at h; cases h
  cases hk : okD xss
  · rw [cGng_1 (.inr hk)] at h; cases h
  have er : resGng ms xss ps = xss.map (gngF ms ps) := by rw [resGng, if_pos h]
  refine ⟨rfl, by rw [er, List.length_map], fun i hi => ?_⟩
  have hx := (okD_at hk i hi).1
  have eg : (resGng ms xss ps).getD i [] = copyF ms ps (xss.getD i []) ps.length := by rw [er, map_getD (d := []) _ hi]; rfl
  have hl : ((resGng ms xss ps).getD i []).length = (xss.getD i []).length := by rw [eg, copyF_len]
  have hb := okK_len hx
  have hr := rng_of hx
  refine ⟨hx, okK_rng (by rw [hl]; exact hb) (by rw [eg]; exact rng_copy' (rng_of hk0) hr _), hl.symm, ?_⟩
  refine ext_getD (by rw [ovlF_len, hl]) fun k hk => ?_
  rw [ovlF_len] at hk
  rw [ovlF_get, if_pos ⟨hk, hk⟩, eg]
  exact over_copy (getD_nn hr) _ _
theorem prt_put {xs p : List Int} {f t : Int} (h : 0 ≤ f ∧ f < t ∧ t ≤ xs.length) (hp : (p.length : Int) = t - f) : prt (putF xs f t p) f t = p := by
  have a1 : (xs.take f.toNat).length = f.toNat := by rw [List.length_take]; omega
  have a2 : (xs.take f.toNat ++ p).length = t.toNat := by rw [List.length_append]; omega
  unfold prt putF
  rw [List.take_left' a2, List.drop_left' a1]
theorem serF_at {xss : List (List Int)} {f t first : Int} {d : Nat} : ∀ i, xss.length - i = d → serF xss f t first i = 0 → ∀ j, i ≤ j → j < xss.length → first + j < 10 ^ (t - f).toNat := by
  induction d with
  | zero => intro i hd _ j h1 h2; omega
  | succ d ih =>
    intro i hd h j h1 h2
    have hi : i < xss.length := by omega
    by_cases hc : first + i < 10 ^ (t - f).toNat
    · cases hb : blkB (xss.getD i []) f t
      · rw [serF_9 hi hc hb] at h; cases h
      · rw [serF_on hi hc hb] at h
        rcases Nat.eq_or_lt_of_le h1 with rfl | h3
        · exact hc
        · exact ih (i + 1) (by omega) h j h3 h2
    · rw [serF_5 hi hc] at h; cases h
theorem ser_law {xss : List (List Int)} {f t first : Int} (h : cSer xss f t first = 0) : okD xss = true ∧ (0 ≤ f ∧ f < t ∧ t ≤ widD xss) ∧ t - f ≤ 12 ∧ (0 ≤ first ∧ first ≤ 999999999999) ∧ (resSer xss f t first).length = xss.length ∧ ∀ i, i < xss.length → okK ((resSer xss f t first).getD i []) = true ∧ fldB f t ((resSer xss f t first).getD i []).length = true ∧ numL (prt ((resSer xss f t first).getD i []) f t) = (first + i, true) := by
  cases hk : okD xss
  · rw [cSer_1 hk] at h; cases h
  by_cases h2 : (0 ≤ f ∧ f < t ∧ t ≤ widD xss) ∧ t - f ≤ 12 ∧ 0 ≤ first ∧ first ≤ 999999999999
  · have hs := h
    rw [cSer_s hk h2] at hs
    have hall := serF_at 0 rfl hs
    refine ⟨rfl, h2.1, h2.2.1, h2.2.2, by rw [resSer, if_pos h, serL_len], fun i hi => ?_⟩
    have eg : (resSer xss f t first).getD i [] = serAt xss f t first i := by rw [resSer, if_pos h, List.getD_eq_getElem?_getD, serL_get hi]; rfl
    have hl := serAt_len (f := f) (t := t) (first := first) hk h2.1 hi
    have hw := widD_at hk i hi
    have hx := (okD_at hk i hi).1
    have hb := okK_len hx
    rw [eg]
    have hpl : ((pun (first + i) (t - f).toNat).length : Int) = t - f := by rw [pun_len]; omega
    refine ⟨?_, by rw [fldB, hl]; exact decide_eq_true ⟨h2.1.1, h2.1.2.1, by omega⟩, ?_⟩
    · refine okK_rng (by rw [hl]; exact hb) fun j hj => ?_
      have hm : (serAt xss f t first i).getD j 0 ∈ serAt xss f t first i := by
        rw [List.getD_eq_getElem?_getD, List.getElem?_eq_getElem hj]; exact List.getElem_mem hj
      generalize (serAt xss f t first i).getD j 0 = m at hm
      unfold serAt putF at hm
      rcases List.mem_append.1 hm with hm | hm
      · rcases List.mem_append.1 hm with hm | hm
        · exact okK_dig hx _ (List.mem_of_mem_take hm)
        · exact pun_rg _ _ _ hm
      · exact okK_dig hx _ (List.mem_of_mem_drop hm)
    · unfold serAt
      rw [prt_put ⟨h2.1.1, h2.1.2.1, by omega⟩ hpl]
      exact num_pun (by omega) (hall i (Nat.zero_le _) hi) (by omega)
  · rw [cSer_2 hk h2] at h; cases h
theorem cmp_none {xss yss : List (List Int)} {ps : List (Int × Int)} {m : Nat} (h : ∀ i, i < m → (difN (xss.getD i []) (yss.getD i []) ps ps.length).length = 0) : ∀ (d i : Nat), m - i = d → cmpD xss yss ps m i = -2
  | 0, i, hd => cmpD_end xss yss ps (by omega)
  | d + 1, i, hd => by rw [cmpD_on xss yss ps (by omega) (h i (by omega)), cmp_none h d (i + 1) (by omega)]
theorem rep_law {xss : List (List Int)} {ps : List (Int × Int)} {k : Int} (h : cRep xss ps k = 0) (h0 : ¬ xss.length = 0) : cCmp xss (resRep xss ps k) ps = 0 ∧ resCmp xss (resRep xss ps k) ps = -1 := by
  cases hk : okD xss
  · rw [cRep_1 hk] at h; cases h
  cases hk2 : okCp ps (widD xss) k
  · rw [cRep_2 hk hk2] at h; cases h
  have er : resRep xss ps k = xss.map (repF ps k) := by rw [resRep, if_pos h]
  have hbd := okCp_bd hk2
  have hel : ∀ i, i < xss.length → (resRep xss ps k).getD i [] = copyF (xss.getD i []) ps (List.replicate k.toNat 0) ps.length := fun i hi => by rw [er, map_getD (d := []) _ hi]; rfl
  have hlen : (resRep xss ps k).length = xss.length := by rw [er, List.length_map]
  have hll : ∀ i, i < xss.length → (((resRep xss ps k).getD i []).length : Int) = k := fun i hi => by rw [hel i hi, copyF_len, List.length_replicate]; omega
  have hw : widD (resRep xss ps k) = k := by rw [widD, if_neg (by omega)]; exact hll 0 (by omega)
  have hok : okD (resRep xss ps k) = true := by
    rw [okD_yes (fun i hi => ?_)]
    · have := okD_len hk
      exact decide_eq_true (by rw [hlen]; omega)
    · rw [hlen] at hi
      have h1 := hll i hi
      have h2 := hll 0 (by omega)
      refine ⟨okK_rng (by omega) ?_, ?_⟩
      · rw [hel i hi]; exact rng_copy' (rng_of (okD_at hk i hi).1) (rng_zero _) _
      · show _ = _
        omega
  have hc : cCmp xss (resRep xss ps k) ps = 0 := cCmp_0 hk hok (by rw [hw]; exact hk2)
  refine ⟨hc, ?_⟩
  have hpl : plainB ps = true := by
    cases hp : plainB ps
    · rw [okCp_no2 hp] at hk2; cases hk2
    · rfl
  have hd : ∀ i, i < min xss.length (resRep xss ps k).length → (difN (xss.getD i []) ((resRep xss ps k).getD i []) ps ps.length).length = 0 := fun i hi => by
    have hi' : i < xss.length := by omega
    rw [hel i hi']
    have hr := rng_of (okD_at hk i hi').1
    have hm := copy_meets (xs := xss.getD i []) (T := k.toNat) (getD_nn hr) hpl (fun j hj => by have := okCp_at hk2 j hj; omega) ps.length (Nat.le_refl _)
    rw [difN_none]
    · rfl
    · intro j hj hdf
      exact hdf (hm.1 j hj).symm
  rw [resCmp_end hc (cmp_none hd _ 0 rfl), if_pos (by rw [hlen])]
end Go.Proofs.YtcbpiaehkodliaaGreatDoor
/- BckP -/
namespace Go.Proofs.YtcbpiaehkodliaaGreatDoor
open Go Go.Gw
set_option linter.unusedVariables false
set_option linter.unusedSimpArgs false
def swapP (p : Int × Int) : Int × Int := (p.2, p.1)
def Srt (ys : List (Int × Int)) : Prop := ys.Pairwise fun a b => a.2 < b.2
def cBck (ps : List (Int × Int)) : Int := if plainB ps = true then (if (ps.map Prod.fst).Nodup then 0 else 9) else 2
def resBck (ps : List (Int × Int)) : List (Int × Int) := if cBck ps = 0 then (ps.map swapP).mergeSort (fun a b => decide (a.2 ≤ b.2)) else []
theorem srt_nodup {ys : List (Int × Int)} (h : Srt ys) : (ys.map Prod.snd).Nodup := by
  unfold List.Nodup
  rw [List.pairwise_map]
  exact h.imp fun hab => by omega
theorem srt_of {ys : List (Int × Int)} (h : ys.Pairwise fun a b => a.2 ≤ b.2) (hn : (ys.map Prod.snd).Nodup) : Srt ys := by
  unfold List.Nodup at hn
  rw [List.pairwise_map] at hn
  exact (h.and hn).imp fun ⟨h1, h2⟩ => by omega
theorem swap_nodup {ps ys : List (Int × Int)} (h : ys.Perm (ps.map swapP)) : (ys.map Prod.snd).Nodup ↔ (ps.map Prod.fst).Nodup := by
  have h1 := (h.map Prod.snd).nodup_iff
  rw [List.map_map, show Prod.snd ∘ swapP = Prod.fst from rfl] at h1
  exact h1
theorem cBck_2 {ps : List (Int × Int)} (h : plainB ps = false) : cBck ps = 2 := by rw [cBck, if_neg (by rw [h]; decide)]
theorem cBck_9 {ps : List (Int × Int)} (h : plainB ps = true) (h2 : ¬ (ps.map Prod.fst).Nodup) : cBck ps = 9 := by rw [cBck, if_pos h, if_neg h2]
theorem bck_of {ps ys : List (Int × Int)} (hp : plainB ps = true) (hz : ys.Perm (ps.map swapP)) (hs : Srt ys) : cBck ps = 0 ∧ resBck ps = ys := by
  have h0 : cBck ps = 0 := by rw [cBck, if_pos hp, if_pos ((swap_nodup hz).1 (srt_nodup hs))]
  refine ⟨h0, ?_⟩
  rw [resBck, if_pos h0]
  have hm := List.mergeSort_perm (ps.map swapP) (fun a b => decide (a.2 ≤ b.2))
  have hq : ((ps.map swapP).mergeSort (fun a b => decide (a.2 ≤ b.2))).Pairwise fun a b => a.2 ≤ b.2 :=
    (List.pairwise_mergeSort (le := fun (a b : Int × Int) => decide (a.2 ≤ b.2)) (fun a b c h1 h2 => by simp only [decide_eq_true_eq] at *; omega) (fun a b => by simp only [Bool.or_eq_true, decide_eq_true_eq]; omega) (ps.map swapP)).imp fun h => by simpa using h
  have hms : Srt _ := srt_of hq ((swap_nodup hm).2 ((swap_nodup hz).1 (srt_nodup hs)))
  exact List.Perm.eq_of_pairwise (le := fun a b : Int × Int => a.2 < b.2) (fun a b _ _ h1 h2 => by omega) hms hs (hm.trans hz.symm)
theorem plain_srt {qs : List (Int × Int)} (h : plainB qs = true) : Srt qs := by
  have key : ∀ d i : Nat, i + d + 1 < qs.length → (qs.getD i (0, 0)).2 < (qs.getD (i + d + 1) (0, 0)).2 := by
    intro d
    induction d with
    | zero => intro i hi; have := (plainB_at h (i + 1) hi).2.2.2.2 (by omega); simpa using this
    | succ d ih =>
      intro i hi
      have h1 := ih i (by omega)
      have h2 := (plainB_at h (i + d + 1 + 1) (by omega)).2.2.2.2 (by omega)
      simp only [Nat.add_sub_cancel] at h2
      have e : i + (d + 1) + 1 = i + d + 1 + 1 := by omega
      rw [e]; omega
  refine List.pairwise_iff_getElem.2 fun i j hi hj hij => ?_
  have := key (j - i - 1) i (by omega)
  rw [show i + (j - i - 1) + 1 = j by omega] at this
  rw [List.getD_eq_getElem?_getD, List.getD_eq_getElem?_getD, List.getElem?_eq_getElem hi, List.getElem?_eq_getElem hj] at this
  exact this
theorem srt_plain {qs : List (Int × Int)} (hr : ∀ p ∈ qs, (0 ≤ p.1 ∧ p.1 ≤ 19) ∧ (0 ≤ p.2 ∧ p.2 ≤ 19)) (h : Srt qs) : plainB qs = true := plainB_yes fun i hi => by
  have h1 := hr (qs.getD i (0, 0)) (by rw [List.getD_eq_getElem?_getD, List.getElem?_eq_getElem hi]; exact List.getElem_mem hi)
  refine ⟨h1.1.1, h1.1.2, h1.2.1, h1.2.2, fun h0 => ?_⟩
  have h2 := List.pairwise_iff_getElem.1 h (i - 1) i (by omega) hi (by omega)
  rw [List.getD_eq_getElem?_getD, List.getD_eq_getElem?_getD, List.getElem?_eq_getElem hi, List.getElem?_eq_getElem (show i - 1 < qs.length by omega)]
  exact h2
theorem plain_rng {ps : List (Int × Int)} (h : plainB ps = true) : ∀ p ∈ ps, (0 ≤ p.1 ∧ p.1 ≤ 19) ∧ (0 ≤ p.2 ∧ p.2 ≤ 19) := fun p hp => by
  obtain ⟨i, hi, rfl⟩ := List.mem_iff_getElem.1 hp
  have := plainB_at h i hi
  unfold plainAt at this
  rw [List.getD_eq_getElem?_getD, List.getElem?_eq_getElem hi] at this
  exact ⟨⟨this.1, this.2.1⟩, this.2.2.1, this.2.2.2.1⟩
theorem swap_rng {ps ys : List (Int × Int)} (h : plainB ps = true) (hz : ys.Perm (ps.map swapP)) : ∀ p ∈ ys, (0 ≤ p.1 ∧ p.1 ≤ 19) ∧ (0 ≤ p.2 ∧ p.2 ≤ 19) := fun p hp => by
  obtain ⟨q, hq, rfl⟩ := List.mem_map.1 (hz.mem_iff.1 hp)
  have := plain_rng h q hq
  exact ⟨this.2, this.1⟩
/-- what the sorted slice tells: it is plain where no column is the source of two copies -/
theorem bck_sorted {ps qs : List (Int × Int)} (hp : plainB ps = true) (hz : qs.Perm (ps.map swapP)) (hs : qs.Pairwise fun a b => a.2 ≤ b.2) : (plainB qs = true → cBck ps = 0 ∧ resBck ps = qs) ∧ (plainB qs = false → cBck ps = 9) := by
  refine ⟨fun h => bck_of hp hz (plain_srt h), fun h => cBck_9 hp fun hn => ?_⟩
  have := srt_plain (swap_rng hp hz) (srt_of hs ((swap_nodup hz).2 hn))
  rw [h] at this; cases this
theorem resBck_len (ps : List (Int × Int)) : (resBck ps).length ≤ 20 := by
  unfold resBck
  split
  · rename_i h
    rw [List.length_mergeSort, List.length_map]
    unfold cBck at h
    split at h
    · rename_i h1; exact plainB_len h1
    · omega
  · simp
theorem resBck_no {ps : List (Int × Int)} (h : ¬ cBck ps = 0) : resBck ps = [] := by rw [resBck, if_neg h]
/-- the same, as a word that is not unfolded -/
def plB (ps : List (Int × Int)) : Bool := plainB ps
theorem plB_eq (ps : List (Int × Int)) : plB ps = plainB ps := rfl
attribute [irreducible] plB
section
variable {w : World} {lo hi : Nat} {v : Value} {ps : List (Int × Int)}
theorem isPlain_z (h : SL w lo hi v ps := by repeat (first | assumption | exact Go.Gw.Own.sl (by assumption) | exact Go.Gw.Box.at (by assumption) | exact Go.Gw.SLL.el (by first | assumption | exact Go.Gw.OwnD.sll (by assumption)) _ (by omega) | exact Go.Gw.SLL.at (by first | assumption | exact Go.Gw.OwnD.sll (by assumption)) (by omega) | exact Go.Gw.OwnD.sll (by assumption) | (apply Go.Gw.SL.chg; case hx => assumption) | (apply Go.Gw.Own.chg; case hx => assumption) | (apply Go.Gw.Box.chg; case hx => assumption) | (apply Go.Gw.At.chg; case hx => assumption) | exact .inl (Nat.zero_le _) | exact .inr (Nat.zero_le _) | (show _ ∨ _; omega))) : Val Tryz.prog 46 [v] w (.bool (plB ps)) := by rw [plB_eq]; exact isPlain_c
theorem l10Plain_z (h : SL w lo hi v ps := by repeat (first | assumption | exact Go.Gw.Own.sl (by assumption) | exact Go.Gw.Box.at (by assumption) | exact Go.Gw.SLL.el (by first | assumption | exact Go.Gw.OwnD.sll (by assumption)) _ (by omega) | exact Go.Gw.SLL.at (by first | assumption | exact Go.Gw.OwnD.sll (by assumption)) (by omega) | exact Go.Gw.OwnD.sll (by assumption) | (apply Go.Gw.SL.chg; case hx => assumption) | (apply Go.Gw.Own.chg; case hx => assumption) | (apply Go.Gw.Box.chg; case hx => assumption) | (apply Go.Gw.At.chg; case hx => assumption) | exact .inl (Nat.zero_le _) | exact .inr (Nat.zero_le _) | (show _ ∨ _; omega))) : Val Tryz.prog 47 [v] w (.bool (plB ps)) := by rw [plB_eq]; exact l10Plain_c
end
end Go.Proofs.YtcbpiaehkodliaaGreatDoor
/- RprP -/
namespace Go.Proofs.YtcbpiaehkodliaaGreatDoor
open Go Go.Gw
set_option linter.unusedVariables false
set_option linter.unusedSimpArgs false
def cRpc (xs : List Int) (ps : List (Int × Int)) (k : Int) : Int := if okK xs = true then (if okCp ps xs.length k = true then 0 else 2) else 1
def resRpc (xs : List Int) (ps : List (Int × Int)) (k : Int) : List Int := if cRpc xs ps k = 0 then repF ps k xs else []
theorem cRpc_1 {xs : List Int} {ps : List (Int × Int)} {k : Int} (h : okK xs = false) : cRpc xs ps k = 1 := by simp [cRpc, h]
theorem cRpc_2 {xs : List Int} {ps : List (Int × Int)} {k : Int} (h : okK xs = true) (h2 : okCp ps xs.length k = false) : cRpc xs ps k = 2 := by simp [cRpc, h, h2]
theorem cRpc_0 {xs : List Int} {ps : List (Int × Int)} {k : Int} (h : okK xs = true) (h2 : okCp ps xs.length k = true) : cRpc xs ps k = 0 := by simp [cRpc, h, h2]
theorem cRpc_ok {xs : List Int} {ps : List (Int × Int)} {k : Int} (h : cRpc xs ps k = 0) : okK xs = true ∧ okCp ps xs.length k = true := by
  cases hk : okK xs
  · rw [cRpc_1 hk] at h; cases h
  cases hk2 : okCp ps xs.length k
  · rw [cRpc_2 hk hk2] at h; cases h
  · exact ⟨rfl, rfl⟩
theorem resRpc_bd (xs : List Int) (ps : List (Int × Int)) (k : Int) : (resRpc xs ps k).length ≤ 20 ∧ Rng (resRpc xs ps k) := by
  unfold resRpc
  split
  · rename_i h
    have hk := cRpc_ok h
    have hb := okCp_bd hk.2
    rw [repF]
    exact ⟨by rw [copyF_len, List.length_replicate]; omega, rng_copy' (rng_of hk.1) (rng_zero _) _⟩
  · exact ⟨by simp, fun i hi => by simp at hi⟩
def cCpc (xs ys : List Int) (ps : List (Int × Int)) : Int := if okK xs = true ∧ okK ys = true then (if okCp ps xs.length ys.length = true then 0 else 2) else 1
def resCpc (xs ys : List Int) (ps : List (Int × Int)) : List Int := if cCpc xs ys ps = 0 then difN xs ys ps ps.length else []
theorem cCpc_1 {xs ys : List Int} {ps : List (Int × Int)} (h : okK xs = false ∨ okK ys = false) : cCpc xs ys ps = 1 := by
  rw [cCpc, if_neg]; rintro ⟨h1, h2⟩; simp [h1, h2] at h
theorem cCpc_2 {xs ys : List Int} {ps : List (Int × Int)} (h0 : okK xs = true) (h : okK ys = true) (h2 : okCp ps xs.length ys.length = false) : cCpc xs ys ps = 2 := by simp [cCpc, h, h2, h0]
theorem cCpc_0 {xs ys : List Int} {ps : List (Int × Int)} (h0 : okK xs = true) (h : okK ys = true) (h2 : okCp ps xs.length ys.length = true) : cCpc xs ys ps = 0 := by simp [cCpc, h, h2, h0]
theorem resCpc_len (xs ys : List Int) (ps : List (Int × Int)) : (resCpc xs ys ps).length ≤ 20 := by
  unfold resCpc
  split
  · rename_i h
    have : ps.length ≤ 20 := by
      cases h1 : okCp ps xs.length ys.length
      · unfold cCpc at h; rw [h1] at h; split at h <;> simp at h
      · exact (okCp_bd h1).2.2.2.2
    have := difN_len xs ys ps ps.length
    omega
  · simp
theorem okCp_pl {ps : List (Int × Int)} {f t : Int} (h : okCp ps f t = true) : plainB ps = true := by
  cases hp : plainB ps
  · rw [okCp_no2 hp] at h; cases h
  · rfl
theorem rpc_len {xs : List Int} {ps : List (Int × Int)} {k : Int} (h : cRpc xs ps k = 0) : ((resRpc xs ps k).length : Int) = k ∧ okK (resRpc xs ps k) = true ∧ resRpc xs ps k = copyF xs ps (List.replicate k.toNat 0) ps.length := by
  have hk := cRpc_ok h
  have hb := okCp_bd hk.2
  have e : resRpc xs ps k = copyF xs ps (List.replicate k.toNat 0) ps.length := by rw [resRpc, if_pos h]; rfl
  have hl : ((resRpc xs ps k).length : Int) = k := by rw [e, copyF_len, List.length_replicate]; omega
  exact ⟨hl, okK_rng (by omega) (resRpc_bd _ _ _).2, e⟩
/-- a card that is reproduced does not differ in its copies -/
theorem rpc_law {xs : List Int} {ps : List (Int × Int)} {k : Int} (h : cRpc xs ps k = 0) : cCpc xs (resRpc xs ps k) ps = 0 ∧ resCpc xs (resRpc xs ps k) ps = [] := by
  have hk := cRpc_ok h
  have hr := rpc_len h
  have hc : cCpc xs (resRpc xs ps k) ps = 0 := cCpc_0 hk.1 hr.2.1 (by rw [hr.1]; exact hk.2)
  refine ⟨hc, ?_⟩
  rw [resCpc, if_pos hc, hr.2.2]
  have hm := copy_meets (xs := xs) (T := k.toNat) (getD_nn (rng_of hk.1)) (okCp_pl hk.2) (fun j hj => by have := okCp_at hk.2 j hj; omega) ps.length (Nat.le_refl _)
  refine difN_none _ fun j hj hdf => hdf (hm.1 j hj).symm
/-- copies turned round twice -/
theorem bck_law {f : List (Int × Int)} (h : cBck f = 0) : cBck (resBck f) = 0 ∧ resBck (resBck f) = f := by
  have hp : plainB f = true := by
    cases hp : plainB f
    · rw [cBck_2 hp] at h; cases h
    · rfl
  have hn : (f.map Prod.fst).Nodup := by
    apply Decidable.byContradiction
    intro hn
    rw [cBck_9 hp hn] at h; cases h
  have e : resBck f = (f.map swapP).mergeSort (fun a b => decide (a.2 ≤ b.2)) := by rw [resBck, if_pos h]
  have hm := List.mergeSort_perm (f.map swapP) (fun a b => decide (a.2 ≤ b.2))
  rw [← e] at hm
  have hq : (resBck f).Pairwise fun a b => a.2 ≤ b.2 := by
    rw [e]
    exact (List.pairwise_mergeSort (le := fun (a b : Int × Int) => decide (a.2 ≤ b.2)) (fun a b c h1 h2 => by simp only [decide_eq_true_eq] at *; omega) (fun a b => by simp only [Bool.or_eq_true, decide_eq_true_eq]; omega) _).imp fun h => by simpa using h
  have hs := srt_of hq ((swap_nodup hm).2 hn)
  have hp2 := srt_plain (swap_rng hp hm) hs
  refine bck_of hp2 ?_ (plain_srt hp)
  have h2 := hm.map swapP
  rw [List.map_map, show swapP ∘ swapP = id from rfl, List.map_id] at h2
  exact h2.symm
/-- the copies that meet in one column -/
def joiR (a : List (Int × Int)) (y : Int × Int) : Nat → List (Int × Int)
  | 0 => []
  | k + 1 => joiR a y k ++ (if (a.getD k (0, 0)).2 = y.1 then [((a.getD k (0, 0)).1, y.2)] else [])
def joiL (a b : List (Int × Int)) : Nat → List (Int × Int)
  | 0 => []
  | i + 1 => joiL a b i ++ joiR a (b.getD i (0, 0)) a.length
def cJoi (a b : List (Int × Int)) : Int := if plainB a = true ∧ plainB b = true then 0 else 2
def resJoi (a b : List (Int × Int)) : List (Int × Int) := if cJoi a b = 0 then joiL a b b.length else []
theorem cJoi_2 {a b : List (Int × Int)} (h : plainB a = false ∨ plainB b = false) : cJoi a b = 2 := by
  rw [cJoi, if_neg]; rintro ⟨h1, h2⟩; simp [h1, h2] at h
theorem cJoi_0 {a b : List (Int × Int)} (h : plainB a = true) (h2 : plainB b = true) : cJoi a b = 0 := by rw [cJoi, if_pos ⟨h, h2⟩]
theorem joiR_yes {a : List (Int × Int)} {y : Int × Int} {k : Nat} (h : (a.getD k (0, 0)).2 = y.1) : joiR a y (k + 1) = joiR a y k ++ [((a.getD k (0, 0)).1, y.2)] := by rw [joiR, if_pos h]
theorem joiR_no {a : List (Int × Int)} {y : Int × Int} {k : Nat} (h : ¬ (a.getD k (0, 0)).2 = y.1) : joiR a y (k + 1) = joiR a y k := by rw [joiR, if_neg h, List.append_nil]
theorem joiR_len (a : List (Int × Int)) (y : Int × Int) : ∀ k, (joiR a y k).length ≤ k
  | 0 => Nat.le_refl _
  | k + 1 => by
    have := joiR_len a y k
    rw [joiR]; split <;> simp <;> omega
theorem joiL_len (a b : List (Int × Int)) : ∀ i, (joiL a b i).length ≤ i * a.length
  | 0 => by simp [joiL]
  | i + 1 => by
    have := joiL_len a b i
    have := joiR_len a (b.getD i (0, 0)) a.length
    rw [joiL, List.length_append, Nat.succ_mul]; omega
theorem joiR_mem {a : List (Int × Int)} {y p : Int × Int} : ∀ k, p ∈ joiR a y k ↔ ∃ j, j < k ∧ (a.getD j (0, 0)).2 = y.1 ∧ p = ((a.getD j (0, 0)).1, y.2)
  | 0 => by simp [joiR]
  | k + 1 => by
    rw [joiR, List.mem_append, joiR_mem k]
    constructor
    · rintro (⟨j, h1, h2, h3⟩ | h)
      · exact ⟨j, by omega, h2, h3⟩
      · split at h
        · rename_i hc
          rw [List.mem_singleton] at h
          exact ⟨k, by omega, hc, h⟩
        · simp at h
    · rintro ⟨j, h1, h2, h3⟩
      by_cases e : j = k
      · subst e
        right; rw [if_pos h2, List.mem_singleton]; exact h3
      · exact .inl ⟨j, by omega, h2, h3⟩
theorem joiL_mem {a b : List (Int × Int)} {p : Int × Int} : ∀ i, p ∈ joiL a b i ↔ ∃ j, j < i ∧ ∃ k, k < a.length ∧ (a.getD k (0, 0)).2 = (b.getD j (0, 0)).1 ∧ p = ((a.getD k (0, 0)).1, (b.getD j (0, 0)).2)
  | 0 => by simp [joiL]
  | i + 1 => by
    rw [joiL, List.mem_append, joiL_mem i, joiR_mem]
    constructor
    · rintro (⟨j, h1, h2⟩ | h)
      · exact ⟨j, by omega, h2⟩
      · exact ⟨i, by omega, h⟩
    · rintro ⟨j, h1, h2⟩
      by_cases e : j = i
      · subst e; exact .inr h2
      · exact .inl ⟨j, by omega, h2⟩
theorem joiR_one {a : List (Int × Int)} {y : Int × Int} (h : plainB a = true) : ∀ n, n ≤ a.length → (joiR a y n).length ≤ 1 ∧ ((joiR a y n).length = 1 → ∃ k, k < n ∧ (a.getD k (0, 0)).2 = y.1)
  | 0, _ => by simp [joiR]
  | n + 1, hn => by
    have ih := joiR_one (y := y) h n (by omega)
    by_cases hc : (a.getD n (0, 0)).2 = y.1
    · rw [joiR_yes hc]
      have h0 : (joiR a y n).length = 0 := by
        rcases Nat.lt_or_ge 0 (joiR a y n).length with h1 | h1
        · obtain ⟨k, hk, hk2⟩ := ih.2 (by omega)
          have := cpy_rise h hk (show n < a.length by omega)
          omega
        · omega
      exact ⟨by rw [List.length_append, h0]; simp, fun _ => ⟨n, by omega, hc⟩⟩
    · rw [joiR_no hc]
      exact ⟨ih.1, fun hh => by obtain ⟨k, hk, hk2⟩ := ih.2 hh; exact ⟨k, by omega, hk2⟩⟩
theorem joiL_srt {a b : List (Int × Int)} (ha : plainB a = true) (hb : plainB b = true) : ∀ i, i ≤ b.length → Srt (joiL a b i)
  | 0, _ => List.Pairwise.nil
  | i + 1, hi => by
    have ih := joiL_srt ha hb i (by omega)
    unfold Srt
    rw [joiL, List.pairwise_append]
    refine ⟨ih, ?_, fun p hp q hq => ?_⟩
    · have h1 := (joiR_one (y := b.getD i (0, 0)) ha a.length (Nat.le_refl _)).1
      match h2 : joiR a (b.getD i (0, 0)) a.length with
      | [] => exact List.Pairwise.nil
      | [x] => exact List.pairwise_singleton _ _
      | x :: y :: r => rw [h2] at h1; simp at h1
    · obtain ⟨j, hj, k, hk, _, rfl⟩ := (joiL_mem i).1 hp
      obtain ⟨k', hk', _, rfl⟩ := (joiR_mem a.length).1 hq
      exact cpy_rise hb hj (show i < b.length by omega)
theorem getD_mem2 {l : List (Int × Int)} {k : Nat} (h : k < l.length) : l.getD k (0, 0) ∈ l := by
  rw [List.getD_eq_getElem?_getD, List.getElem?_eq_getElem h]; exact List.getElem_mem h
theorem joiL_plain {a b : List (Int × Int)} (ha : plainB a = true) (hb : plainB b = true) : plainB (joiL a b b.length) = true := by
  refine srt_plain (fun p hp => ?_) (joiL_srt ha hb _ (Nat.le_refl _))
  obtain ⟨j, hj, k, hk, _, rfl⟩ := (joiL_mem _).1 hp
  exact ⟨(plain_rng ha _ (getD_mem2 hk)).1, (plain_rng hb _ (getD_mem2 hj)).2⟩
theorem resJoi_len (a b : List (Int × Int)) : (resJoi a b).length ≤ 20 := by
  unfold resJoi
  split
  · rename_i h
    have : plainB a = true ∧ plainB b = true := by
      apply Decidable.byContradiction
      intro hn
      rw [cJoi, if_neg hn] at h; cases h
    exact plainB_len (joiL_plain this.1 this.2)
  · simp
/-- copies after copies are the joined copies -/
theorem join_law {xs : List Int} {a b : List (Int × Int)} (hk : okK xs = true) (ha : okCp a xs.length 20 = true) (hb : okCp b 20 20 = true) (hc : cJoi a b = 0) :
    cRpc xs a 20 = 0 ∧ cRpc (resRpc xs a 20) b 20 = 0 ∧ cRpc xs (resJoi a b) 20 = 0 ∧ resRpc (resRpc xs a 20) b 20 = resRpc xs (resJoi a b) 20 := by
  have pa := okCp_pl ha
  have pb := okCp_pl hb
  have ej : resJoi a b = joiL a b b.length := by rw [resJoi, if_pos hc]
  have pj := joiL_plain pa pb
  have h1 := cRpc_0 hk ha
  have r1 := rpc_len h1
  have h2 : cRpc (resRpc xs a 20) b 20 = 0 := cRpc_0 r1.2.1 (by rw [r1.1]; exact hb)
  have hxl := okK_len hk
  have hj : okCp (joiL a b b.length) xs.length 20 = true := by
    refine okCp_yes' (by omega) pj fun j hj => ?_
    obtain ⟨i, hi, k, hkk, _, e⟩ := (joiL_mem _).1 (getD_mem2 hj)
    rw [e]
    have := okCp_at ha k hkk
    have := okCp_at hb i hi
    simp only
    omega
  have h3 : cRpc xs (resJoi a b) 20 = 0 := by rw [ej]; exact cRpc_0 hk hj
  refine ⟨h1, h2, h3, ?_⟩
  have r2 := rpc_len h2
  have r3 := rpc_len h3
  rw [ej] at r3 ⊢
  have hx := getD_nn (rng_of hk)
  have hy := getD_nn (resRpc_bd xs a 20).2
  have ma := copy_meets (xs := xs) (T := 20) hx pa (fun j hj => by have := okCp_at ha j hj; omega) a.length (Nat.le_refl _)
  have mb := copy_meets (xs := resRpc xs a 20) (T := 20) hy pb (fun j hj => by have := okCp_at hb j hj; omega) b.length (Nat.le_refl _)
  have mj := copy_meets (xs := xs) (T := 20) hx pj (fun j hj' => by have := okCp_at hj j hj'; omega) (joiL a b b.length).length (Nat.le_refl _)
  refine ext_getD (by omega) fun c _ => ?_
  rw [r2.2.2, r3.2.2]
  show (copyF (resRpc xs a 20) b (List.replicate 20 0) b.length).getD c 0 = (copyF xs (joiL a b b.length) (List.replicate 20 0) (joiL a b b.length).length).getD c 0
  have ey : resRpc xs a 20 = copyF xs a (List.replicate 20 0) a.length := r1.2.2
  by_cases hcb : ∃ j, j < b.length ∧ (b.getD j (0, 0)).2.toNat = c
  · obtain ⟨j, hjb, hjc⟩ := hcb
    rw [← hjc, mb.1 j hjb]
    have hbj := okCp_at hb j hjb
    by_cases hka : ∃ k, k < a.length ∧ (a.getD k (0, 0)).2 = (b.getD j (0, 0)).1
    · obtain ⟨k, hk1, hk2⟩ := hka
      have hm : ((a.getD k (0, 0)).1, (b.getD j (0, 0)).2) ∈ joiL a b b.length := (joiL_mem _).2 ⟨j, hjb, k, hk1, hk2, rfl⟩
      obtain ⟨m, hm1, hm2⟩ := List.mem_iff_getElem.1 hm
      have e : (joiL a b b.length).getD m (0, 0) = ((a.getD k (0, 0)).1, (b.getD j (0, 0)).2) := by rw [List.getD_eq_getElem?_getD, List.getElem?_eq_getElem hm1]; exact hm2
      have h5 := mj.1 m hm1
      rw [e] at h5
      rw [h5, ← hk2, ey]
      exact ma.1 k hk1
    · have e0 : (resRpc xs a 20).getD (b.getD j (0, 0)).1.toNat 0 = 0 := by
        rw [ey]
        refine ma.2 _ fun k hk1 e => hka ⟨k, hk1, ?_⟩
        have := okCp_at ha k hk1
        omega
      rw [e0]
      symm
      refine mj.2 _ fun m hm e => ?_
      obtain ⟨i, hi, k, hk1, hk2, e2⟩ := (joiL_mem _).1 (getD_mem2 hm)
      rw [e2] at e
      simp only at e
      have hbi := okCp_at hb i hi
      have : i = j := by
        rcases Nat.lt_trichotomy i j with h | h | h
        · have := cpy_rise pb h hjb; omega
        · exact h
        · have := cpy_rise pb h hi; omega
      subst this
      exact hka ⟨k, hk1, hk2⟩
  · rw [mb.2 c fun j hjb e => hcb ⟨j, hjb, e⟩]
    symm
    refine mj.2 _ fun m hm e => ?_
    obtain ⟨i, hi, k, hk1, hk2, e2⟩ := (joiL_mem _).1 (getD_mem2 hm)
    rw [e2] at e
    exact hcb ⟨i, hi, e⟩
end Go.Proofs.YtcbpiaehkodliaaGreatDoor

/- Rules of my own: slices.Grow of nothing; a slice of two slices. -/
import Derived.Test.YtgkljfncpgbngaaDoorL18
import Derived.Lib.AppendZeros
namespace Go.Gw
open Go
set_option linter.unusedVariables false
set_option linter.unusedSimpArgs false
/-- a fresh row of zeros -/
structure Zed (w : World) (e : TypeId) (sz B : Nat) (v : Value) : Prop where
  go : ∃ (g n c : Nat) (cur : Array Value), v = .slice (some ⟨g, 0, none⟩) n c ∧ w.heap[g]? = some (.cells cur e (0, 0)) ∧ cur.size = c * sz ∧ B ≤ g ∧ n ≤ c ∧ c ≤ maxLen
section
variable {P : Program} {N : Nat} {Q : Post} {σ : Fm} {w : World} {ops : Array Oper} {rest : List Oper} {T T2 ty e : TypeId} {x y z : Operand} {v u : Value} {s b d : Nat} {pos : String} {af : Array Edge} {k : IntKind}
theorem y_cap0 [hT : TSli P T e s b] (hx : ev σ x = some (.slice none 0 0)) : YE P σ (.call { callee := .builtin .cap, args := #[x], argTypes := #[T] }) ty w (.int .i64 0) := ⟨fun w' hw ρ hρ => by
  simp [execOp, resolve, hρ _ _ hx, invoke, builtin, Builtin.cap_, run_underlying hT.und, goInt]⟩
theorem y_len0 [hT : TSli P T e s b] (hx : ev σ x = some (.slice none 0 0)) : YE P σ (.call { callee := .builtin .len, args := #[x], argTypes := #[T] }) ty w (.int .i64 0) := ⟨fun w' hw ρ hρ => by
  simp [execOp, resolve, hρ _ _ hx, invoke, builtin, Builtin.len_, run_underlying hT.und, goInt]⟩
theorem y_slice0n [hT : TSli P T e s b] (hx : ev σ x = some (.slice none 0 0)) (hh : ev σ y = some (.int k 0)) : YE P σ (.slice T x none (some y) none) ty w (.slice none 0 0) := ⟨fun w' hw ρ hρ => by
  have h2 : (Instr.sliceBound (.int k 0) 0 .sliceAcap).run P w' = .ok 0 w' := by
    simp [Instr.sliceBound, asIntOf]
  have hsl : (Instr.sliceAt T (.slice none 0 0) none (some (ρ y)) none).run P w' = .ok (.slice none 0 0) w' := by
    simp [Instr.sliceAt, Instr.slice, Instr.sliceBounds, run_underlying hT.und, run_size w' hT.size, hρ _ _ hh, h2]
  simp only [execOp, hρ _ _ hx, Option.map_some, Option.map_none, Sem.run_bind, hsl, Result.andThen_ok, Sem.run_pure]⟩
theorem w_append_zeros [hT : TSli P T e s b] [hT2 : TInt P T2 k] {n : Int} (hx : ev σ x = some (.slice none 0 0)) (hy : ev σ y = some (.int k n)) (h0 : 0 < n ∧ n ≤ 1000 := by omega) (hs : 0 < s := by decide) (hb : Nat.ble b 1000 = true := by rfl) (hd : Nat.blt d N = true := by rfl)
    (kk : ∀ v w', Zed w' e s w.heap.size v → Ext w w' → W P N ops Q rest ((d, v) :: σ) w') :
    W P N ops Q (⟨some d, .call { callee := .builtin .append, args := #[x, y], argTypes := #[T, T2] }, ty, pos, af, none⟩ :: rest) σ w := by
  refine ⟨fun a ha => ?_⟩
  obtain ⟨i, z, hi, hz, his, hib, hzs⟩ := info_of (P := P) (T := T)
  have hb' := Nat.le_of_ble_eq_true hb
  have hn : ((n.toNat : Nat) : Int) = n := by omega
  have h48 : n.toNat * i.bytes ≤ 281474976710656 := by
    rw [hib]
    have : n.toNat * b ≤ 1000 * 1000 := Nat.mul_le_mul (by omega) hb'
    omega
  have hr := Lib.run_append_nil_zeros (P := P) w T T2 ty e i z k k hT.und hT2.und hi hz n.toNat (by omega) (by rw [his]; exact hs) (by omega) h48
  rw [hn] at hr
  refine Lib.wpList_append_run w rfl x y T T2 rfl _ _ (ha.eval hx) (ha.eval hy) _ _ hr ?_
  have hge := grownCap_ge w n.toNat 0 e
  refine (kk _ _ ⟨w.heap.size, n.toNat, grownCap w n.toNat 0 e, Builtin.zeroCells z.cells n.toNat ++ Builtin.zeroCells z.cells (grownCap w n.toNat 0 e - n.toNat), rfl, ?_, ?_, Nat.le_refl _, hge, grownCap_le_maxLen w n.toNat 0 e (by unfold maxLen; omega)⟩ ((Chg.drew w).trans (Chg.alloc _ _))).go _ (ha.put hd _)
  · exact heap_alloc_new _ _
  · rw [Array.size_append, size_zeroCells, size_zeroCells, hzs, ← Nat.add_mul, Nat.add_sub_cancel' hge]
theorem w_slice_zed {α : Type} [E : Enc α] {B : Nat} [hT : TSli P T e s b] (hx : ev σ x = some v) (hh : ev σ y = some (.int k 0)) (hd : Nat.blt d N = true) (kk : ∀ u, Own (α := α) w e B u [] → W P N ops Q rest ((d, u) :: σ) w) (hz : Zed w e s B v := by assumption) (hs : s = Enc.sz α := by rfl) :
    W P N ops Q (⟨some d, .slice T x none (some y) none, ty, pos, af, none⟩ :: rest) σ w := by
  obtain ⟨g, n, c, cur, rfl, hg, hcs, hB, hnc, hcm⟩ := hz.go
  have hy : YE P σ (.slice T x none (some y) none) ty w (.slice (if c = 0 then (some ⟨g, 0, none⟩ : Option Addr) else (some (⟨g, 0, none⟩ : Addr)).map (·.add (0 * s))) 0 c) := ⟨fun w' hw ρ hρ => by
    have h2 : (Instr.sliceBound (.int k 0) c .sliceAcap).run P w' = .ok 0 w' := by
      have h1 : (0 : Int) ≤ 0 ∧ (0 : Int) ≤ (c : Int) := by omega
      simp only [Instr.sliceBound, asIntOf, Sem.run_bind, Sem.run_pure, Result.andThen_ok, if_pos h1]; rfl
    have hsl : (Instr.sliceAt T (.slice (some ⟨g, 0, none⟩) n c) none (some (ρ y)) none).run P w' = .ok (.slice (if c = 0 then (some ⟨g, 0, none⟩ : Option Addr) else (some (⟨g, 0, none⟩ : Addr)).map (·.add (0 * s))) 0 c) w' := by
      simp [Instr.sliceAt, Instr.slice, Instr.sliceBounds, run_underlying hT.und, run_size w' hT.size, hρ _ _ hh, h2]
    simp only [execOp, hρ _ _ hx, Option.map_some, Option.map_none, Sem.run_bind, hsl, Result.andThen_ok, Sem.run_pure]⟩
  refine w_pure hy hd (kk _ ?_)
  have ea : (if c = 0 then (some ⟨g, 0, none⟩ : Option Addr) else (some (⟨g, 0, none⟩ : Addr)).map (·.add (0 * s))) = some ⟨g, 0, none⟩ := by
    split
    · rfl
    · rw [Nat.zero_mul, Option.map_some, Addr.add_lit]
  rw [ea]
  refine ⟨⟨by simp, .inr ⟨g, c, cur, rfl, hB, hg, Nat.zero_le _, hcm, by rw [hcs, hs], by simp⟩⟩⟩
theorem w_lit_sv2 {α : Type} {E : Enc α} {l h l' h' : Nat} {ys zs : List α} [hT : TSli P T e s b] (hs1 : s = 1) (hx : ev σ x = some u) (hy : ev σ y = some v) (hu : SL w l h u ys := by repeat (first | assumption | exact Go.Gw.Own.sl (by assumption) | exact Go.Gw.Box.at (by assumption) | exact Go.Gw.SLL.el (by first | assumption | exact Go.Gw.OwnD.sll (by assumption)) _ (by omega) | exact Go.Gw.SLL.at (by first | assumption | exact Go.Gw.OwnD.sll (by assumption)) (by omega) | exact Go.Gw.OwnD.sll (by assumption) | (apply Go.Gw.SL.chg; case hx => assumption) | (apply Go.Gw.Own.chg; case hx => assumption) | (apply Go.Gw.Box.chg; case hx => assumption) | (apply Go.Gw.At.chg; case hx => assumption) | exact .inl (Nat.zero_le _) | exact .inr (Nat.zero_le _) | (show _ ∨ _; omega))) (hv : SL w l' h' v zs := by repeat (first | assumption | exact Go.Gw.Own.sl (by assumption) | exact Go.Gw.Box.at (by assumption) | exact Go.Gw.SLL.el (by first | assumption | exact Go.Gw.OwnD.sll (by assumption)) _ (by omega) | exact Go.Gw.SLL.at (by first | assumption | exact Go.Gw.OwnD.sll (by assumption)) (by omega) | exact Go.Gw.OwnD.sll (by assumption) | (apply Go.Gw.SL.chg; case hx => assumption) | (apply Go.Gw.Own.chg; case hx => assumption) | (apply Go.Gw.Box.chg; case hx => assumption) | (apply Go.Gw.At.chg; case hx => assumption) | exact .inl (Nat.zero_le _) | exact .inr (Nat.zero_le _) | (show _ ∨ _; omega))) (hd : Nat.blt d N = true := by rfl)
    (k : ∀ t w', Own w' e w.heap.size t [svOf u, svOf v] → Ext w w' → bL t = w.heap.size → bH t = w.heap.size + 1 → w'.heap.size = w.heap.size + 1 → W P N ops Q rest ((d, t) :: σ) w') : W P N ops Q (⟨some d, .buildSlice T 2 #[(0, x), (1, y)], ty, pos, af, none⟩ :: rest) σ w :=
  w_lit' (n := 2) (parts := [(0, x), (1, y)]) (vs := [u, v]) (xs := [svOf u, svOf v]) hs1 (by simp [evp, hx, hy, num]) rfl (by
    have h1 := cells_one hu.one
    have h2 := cells_one hv.one
    simp only [List.flatMap_cons, List.flatMap_nil, List.append_nil, h1, h2]
    show [u, v] = [(svOf u).v, (svOf v).v]; rw [svOf_v hu, svOf_v hv]) (fun t ht => by
    simp at ht
    rcases ht with rfl | rfl
    · rw [cells_one hu.one]; rfl
    · rw [cells_one hv.one]; rfl) rfl (by omega) (by omega) hd k
end
end Go.Gw

/- Rules of my own: how a law's arguments read. -/
import Derived.Test.YticnemjjjceiaaaDoorL6
import Derived.ProofKit
import Derived.OpenShut
import Derived.Carry
namespace Go.Gw
open Go Go.ChangeShapes Go.WideShapes
set_option linter.unusedVariables false
set_option linter.unusedSimpArgs false

/-- cells that read as data of a type, none of what they lead to frozen -/
structure Rd (P : Program) (w : World) (T : TypeId) (cs : List Value) : Prop where
  go : ∃ (H : Type) (enc : TypeId × Value → H) (fuel : Nat) (d : DataW H) (p : List MemPlace), DataW.trod enc P w 0 (fun _ => true) true fuel T cs = some (d, p) ∧ w.noneFrozen p
section
variable {P : Program} {w : World} {T e : TypeId} {cs : List Value}
theorem Rd.of {H : Type} {enc : TypeId × Value → H} {v : Value} {d : DataW H} {ps : List MemPlace} (h : DataW.Trod enc P w 0 (fun _ => true) true T v d ps) (hf : w.noneFrozen ps) : Rd P w T v.cells.toList :=
  let ⟨fuel, hh⟩ := h
  ⟨H, enc, fuel, d, ps, hh, hf⟩
theorem Rd.int {k : IntKind} (ht : P.underlying T = some (.int k)) (h : Rd P w T cs) : ∃ n, cs = [.int k n] ∧ (Lit.int k n).wf = true := by
  obtain ⟨H, enc, fuel, d, p, hh, _⟩ := h.go
  obtain ⟨n, h1, _, h2⟩ := DataW.trod_int ht hh
  exact ⟨n, h1, h2⟩
theorem Rd.bool (ht : P.underlying T = some .bool) (h : Rd P w T cs) : ∃ b, cs = [.bool b] := by
  obtain ⟨H, enc, fuel, d, p, hh, _⟩ := h.go
  obtain ⟨n, h1, _⟩ := DataW.trod_bool ht hh
  exact ⟨n, h1⟩
theorem Rd.string (ht : P.underlying T = some .string) (h : Rd P w T cs) : ∃ s, cs = [.string s] ∧ s.size ≤ maxLen := by
  obtain ⟨H, enc, fuel, d, p, hh, _⟩ := h.go
  obtain ⟨n, h1, _, h2⟩ := DataW.trod_string ht hh
  exact ⟨n, h1, h2⟩
theorem mapM_some {α β : Type} {f : α → Option β} : ∀ {l : List α} {ys : List β}, l.mapM f = some ys → ∀ (i : Nat) (x : α), l[i]? = some x → ∃ y, ys[i]? = some y ∧ f x = some y
  | [], ys, h, i, x, hx => by simp at hx
  | a :: l, ys, h, i, x, hx => by
    rw [List.mapM_cons] at h
    cases ha : f a with
    | none => simp [ha] at h
    | some b =>
      cases hl : l.mapM f with
      | none => simp [ha, hl] at h
      | some r =>
        simp [ha, hl] at h
        subst h
        cases i with
        | zero => simp at hx; subst hx; exact ⟨b, rfl, ha⟩
        | succ i => obtain ⟨y, h1, h2⟩ := mapM_some hl i x (by simpa using hx); exact ⟨y, by simpa using h1, h2⟩
theorem mapM_length {α β : Type} {f : α → Option β} : ∀ {l : List α} {ys : List β}, l.mapM f = some ys → ys.length = l.length
  | [], ys, h => by simp at h; simp [h]
  | a :: l, ys, h => by
    rw [List.mapM_cons] at h
    cases ha : f a with
    | none => simp [ha] at h
    | some b =>
      cases hl : l.mapM f with
      | none => simp [ha, hl] at h
      | some r => simp [ha, hl] at h; subst h; simp [mapM_length hl]
theorem Rd.struct {fs : Array Field} (ht : P.underlying T = some (.struct fs)) (h : Rd P w T cs) : cs.length = P.cellsOf T ∧ ∀ (i : Nat) f, fs[i]? = some f → Rd P w f.type ((cs.drop f.offset).take (P.cellsOf f.type)) := by
  obtain ⟨H, enc, fuel, d, p, hh, hf⟩ := h.go
  cases fuel with
  | zero => simp [DataW.trod] at hh
  | succ fuel =>
    simp only [DataW.trod, ht] at hh
    split at hh
    · rename_i hl
      refine ⟨hl, fun i f hi => ?_⟩
      obtain ⟨xs, hm, hx⟩ := Option.map_eq_some_iff.1 hh
      obtain ⟨y, hy, hfy⟩ := mapM_some hm i f (by simpa using hi)
      simp only [Prod.mk.injEq] at hx
      refine ⟨H, enc, fuel, y.1, y.2, hfy, fun b off hb => hf b off ?_⟩
      rw [← hx.2]
      exact List.mem_flatMap.2 ⟨y, List.mem_of_getElem? hy, hb⟩
    · cases hh
theorem Rd.fieldAt {fs : Array Field} {i : Nat} {f : Field} {ft : TypeId} {off n : Nat} (h : Rd P w T cs) (ht : P.underlying T = some (.struct fs)) (hi : fs[i]? = some f) (hft : f.type = ft) (ho : f.offset = off) (hn : P.cellsOf ft = n) : Rd P w ft ((cs.drop off).take n) := by
  subst hft; subst ho; subst hn
  exact (h.struct ht).2 i f hi
theorem Rd.slice (ht : P.underlying T = some (.slice e)) (h : Rd P w T cs) : ∃ a len cap, cs = [.slice a len cap] ∧ len ≤ cap ∧ cap ≤ maxLen ∧ (a = none → len = 0) ∧
    ∀ ad, a = some ad → ∀ i, i < len → ∃ ecs : List Value, ecs.length = P.cellsOf e ∧ (∀ j v, ecs[j]? = some v → w.cell? ((ad.add (i * P.cellsOf e)).add j) = some v) ∧ (∀ j, j < P.cellsOf e → w.frozen? ⟨ad.block, ad.off + (i * P.cellsOf e + j), none⟩ = false) ∧ Rd P w e ecs := by
  obtain ⟨H, enc, fuel, d, p, hh, hf⟩ := h.go
  cases fuel with
  | zero => simp [DataW.trod] at hh
  | succ fuel =>
    simp only [DataW.trod, ht] at hh
    split at hh <;> rename_i he <;> try (simp at he; done)
    all_goals (try (simp only [Option.some.injEq, TypeDesc.slice.injEq, reduceCtorEq] at he))
    all_goals (try (cases hh; done))
    · exact ⟨none, 0, 0, rfl, Nat.le_refl _, Nat.zero_le _, fun _ => rfl, (fun ad h => by cases h)⟩
    · rename_i e' a len cap
      subst he
      split at hh
      · rename_i hc
        refine ⟨some a, len, cap, rfl, hc.2.1, hc.2.2, (fun h => by cases h), fun ad had i hi => ?_⟩
        cases had
        obtain ⟨elems, hel, hh⟩ := Option.bind_eq_some_iff.1 hh
        simp only [if_true] at hh
        obtain ⟨spare, hsp, hx⟩ := Option.map_eq_some_iff.1 hh
        simp only [Prod.mk.injEq] at hx
        obtain ⟨y, hy, hfy⟩ := mapM_some hel i i (by simp [hi])
        obtain ⟨ecs, hec, htr⟩ := Option.bind_eq_some_iff.1 hfy
        have hlen := mapM_length hel
        rw [List.length_range] at hlen
        unfold World.cells? at hec
        rw [if_pos (Nat.zero_le _)] at hec
        have hl := mapM_length hec
        rw [List.length_range] at hl
        refine ⟨ecs, hl, fun j v hv => ?_, fun j hj => ?_, H, enc, fuel, y.1, y.2, htr, fun b off hb => hf b off ?_⟩
        · have hj : j < P.cellsOf e := by rw [← hl]; exact (List.getElem?_eq_some_iff.1 hv).1
          obtain ⟨y', h1, h2⟩ := mapM_some hec j j (by simp [hj])
          rw [hv] at h1
          cases h1
          exact h2
        · refine hf _ _ ?_
          rw [← hx.2]
          refine List.mem_append_left _ ?_
          unfold MemPlace.row
          refine List.mem_map.2 ⟨i * P.cellsOf e + j, List.mem_range.2 ?_, rfl⟩
          have : (i + 1) * P.cellsOf e ≤ (elems.length + spare.length) * P.cellsOf e := Nat.mul_le_mul_right _ (by omega)
          rw [Nat.add_mul, Nat.one_mul] at this
          omega
        · rw [← hx.2]
          refine List.mem_append_right _ (List.mem_flatMap.2 ⟨y, ?_, hb⟩)
          exact List.mem_append_left _ (List.mem_of_getElem? hy)
      · cases hh
theorem choose_list {α : Type} {p : Nat → α → Prop} : ∀ (n : Nat), (∀ i, i < n → ∃ x, p i x) → ∃ xs : List α, xs.length = n ∧ ∀ i x, xs[i]? = some x → p i x
  | 0, _ => ⟨[], rfl, fun i x h => by simp at h⟩
  | n + 1, h => by
    obtain ⟨xs, hl, hp⟩ := choose_list n (fun i hi => h i (by omega))
    obtain ⟨x, hx⟩ := h n (by omega)
    refine ⟨xs ++ [x], by simp [hl], fun i y hy => ?_⟩
    rw [List.getElem?_append] at hy
    split at hy
    · exact hp i y hy
    · rename_i hi
      have : i - xs.length = 0 := by
        rcases Nat.eq_zero_or_pos (i - xs.length) with h | h
        · exact h
        · rw [List.getElem?_eq_none (by simp; omega)] at hy; cases hy
      rw [this] at hy
      simp at hy
      subst hy
      obtain rfl : i = n := by omega
      exact hx
/-- a slice whose elements' readings are known -/
theorem SL.of_rd {α : Type} [E : Enc α] {Qp : α → Prop} (ht : P.underlying T = some (.slice e)) (hs : P.cellsOf e = Enc.sz α) (hdec : ∀ ecs, Rd P w e ecs → ∃ x : α, ecs = Enc.enc x ∧ Qp x) (h : Rd P w T cs) :
    ∃ v xs, cs = [v] ∧ SL w 0 w.heap.size v (xs : List α) ∧ ∀ x ∈ xs, Qp x := by
  obtain ⟨a, len, cap, rfl, h1, h2, h3, h4⟩ := h.slice ht
  rcases Nat.eq_zero_or_pos len with rfl | h0
  · exact ⟨_, [], rfl, ⟨⟨a, cap, rfl, h1, h2, fun h => by simp at h⟩, fun i x hi => by simp at hi, fun h => by simp at h, Nat.le_refl _, fun i hi => by simp at hi⟩, fun x hx => by simp at hx⟩
  · cases a with
    | none => have := h3 rfl; omega
    | some ad =>
      have h5 : ∀ i, i < len → ∃ x : α, (∀ j v, (Enc.enc x)[j]? = some v → w.cell? ((ad.add (i * P.cellsOf e)).add j) = some v) ∧ (∀ j, j < P.cellsOf e → w.frozen? ⟨ad.block, ad.off + (i * P.cellsOf e + j), none⟩ = false) ∧ Qp x := by
        intro i hi
        obtain ⟨ecs, hl, hc, hf, hr⟩ := h4 ad rfl i hi
        obtain ⟨x, rfl, hq⟩ := hdec ecs hr
        exact ⟨x, hc, hf, hq⟩
      obtain ⟨xs, hl, hp⟩ := choose_list len h5
      have hpos := E.pos
      -- the address bears no spot
      obtain ⟨x0, hx0⟩ : ∃ x, xs[0]? = some x := ⟨xs[0]'(by omega), by simp [show 0 < xs.length by omega]⟩
      obtain ⟨c0, hc0⟩ : ∃ c, (Enc.enc x0)[0]? = some c := ⟨(Enc.enc x0)[0]'(by rw [Enc.len]; exact hpos), by simp [Enc.len, hpos]⟩
      have hcell := (hp 0 x0 hx0).1 0 c0 hc0
      simp only [Nat.zero_mul] at hcell
      have e0 : ∀ b : Addr, b.add 0 = b := fun b => by unfold Addr.add; simp
      rw [e0, e0] at hcell
      have hspot : ad = ⟨ad.block, ad.off, none⟩ := by
        have hs : ad.spot = none := by
          unfold World.cell? at hcell
          split at hcell
          · cases hsp : ad.spot with
            | none => rfl
            | some q => simp [hsp] at hcell
          · cases hcell
        cases ad; simp_all
      have hblt := World.block_lt_of_cell? w ad hcell
      refine ⟨.slice (some ad) len cap, xs, rfl, ⟨⟨some ad, cap, by rw [hl], by omega, h2, fun _ => by rw [hspot]; rfl⟩, fun i x hi => ⟨fun j v hv => ?_⟩, fun _ => ⟨Nat.zero_le _, hblt⟩, Nat.le_refl _, fun i hi => ?_⟩, fun x hx => ?_⟩
      · have := (hp i x hi).1 j v hv
        rw [hspot, add_lit, add_lit, hs] at this
        exact this
      · have hd : i / Enc.sz α < xs.length := (Nat.div_lt_iff_lt_mul hpos).2 hi
        have hm : i % Enc.sz α < P.cellsOf e := by rw [hs]; exact Nat.mod_lt _ hpos
        have := (hp (i / Enc.sz α) xs[i / Enc.sz α] (by simp [hd])).2.1 (i % Enc.sz α) hm
        have e1 : i / Enc.sz α * Enc.sz α + i % Enc.sz α = i := by rw [Nat.mul_comm]; exact Nat.div_add_mod i _
        rw [hs, e1] at this
        exact this
      · obtain ⟨i, hi⟩ := List.mem_iff_getElem?.1 hx
        exact (hp i x hi).2.2
theorem wf64 {n : Int} (h : (Lit.int .i64 n).wf = true) : In64 n := by
  have := bounds_i64 h
  unfold In64
  omega
theorem wf8 {n : Int} (h : (Lit.int .u8 n).wf = true) : 0 ≤ n ∧ n < 256 := by
  have := bounds_u8 h
  omega
theorem dec_int (ht : P.underlying e = some (.int .i64)) : ∀ ecs, Rd P w e ecs → ∃ x : Int, ecs = Enc.enc x ∧ In64 x := fun ecs h => by
  obtain ⟨n, rfl, hw⟩ := h.int ht
  exact ⟨n, rfl, wf64 hw⟩
theorem dec_u8 (ht : P.underlying e = some (.int .u8)) : ∀ ecs, Rd P w e ecs → ∃ x : UInt8, ecs = Enc.enc x ∧ True := fun ecs h => by
  obtain ⟨n, rfl, hw⟩ := h.int ht
  have := wf8 hw
  refine ⟨UInt8.ofNat n.toNat, ?_, trivial⟩
  show _ = [Value.int .u8 ((UInt8.ofNat n.toNat).toNat : Int)]
  rw [UInt8.toNat_ofNat_of_lt' (by show n.toNat < 256; omega)]
  congr 2
  omega
theorem dec_pair {fs : Array Field} {f0 f1 : Field} (ht : P.underlying e = some (.struct fs)) (hc : P.cellsOf e = 2) (h0 : fs[0]? = some f0) (h1 : fs[1]? = some f1) (o0 : f0.offset = 0) (o1 : f1.offset = 1) (s0 : P.cellsOf f0.type = 1) (s1 : P.cellsOf f1.type = 1)
    (t0 : P.underlying f0.type = some (.int .i64)) (t1 : P.underlying f1.type = some (.int .i64)) : ∀ ecs, Rd P w e ecs → ∃ x : Int × Int, ecs = Enc.enc x ∧ (In64 x.1 ∧ In64 x.2) := fun ecs h => by
  obtain ⟨hl, hf⟩ := h.struct ht
  rw [hc] at hl
  match ecs, hl with
  | [a, b], _ =>
    have g0 := hf 0 f0 h0
    have g1 := hf 1 f1 h1
    rw [o0, s0] at g0
    rw [o1, s1] at g1
    obtain ⟨n, hn, wn⟩ := g0.int t0
    obtain ⟨m, hm, wm⟩ := g1.int t1
    simp at hn hm
    subst hn
    subst hm
    exact ⟨(n, m), rfl, wf64 wn, wf64 wm⟩

/-! ### a value of a type -/
theorem okWide_agg0 {r : Reach} {b0 : Nat} {t : TypeId} {v : Value} {fs : Array Field} (ht : P.underlying t = some (.struct fs)) (h : Value.okWide P w r b0 t v) : ∃ cs, v = .agg cs := by
  simp only [Value.okWide, ht] at h
  obtain ⟨cs, h, _⟩ := h
  exact ⟨cs, h⟩
end
end Go.Gw

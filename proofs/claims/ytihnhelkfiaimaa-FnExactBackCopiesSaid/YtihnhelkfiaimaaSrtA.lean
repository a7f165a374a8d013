/- The library's sort on a slice of pairs that the call owns: a permutation, sorted by the second number. -/
import Derived.Test.YtihnhelkfiaimaaShelf
import Derived.Test.YtihnhelkfiaimaaCpyA
import Derived.Shelf.SlSortCmp.NoneTotal
namespace Go.Proofs.Ytihnhelkfiaimaa
open Go Go.Gw
open Go.Sort (HoldsK putRowK putRow flatK PermIn SortedIn SWO grow putCells mapBlock onCells)
set_option linter.unusedVariables false
set_option linter.unusedSimpArgs false
/-- a pair whose second number is a column -/
abbrev PC := { p : Int × Int // 0 ≤ p.2 ∧ p.2 ≤ 19 }
instance : Inhabited PC := ⟨⟨(0, 0), by decide⟩⟩
def encC (p : PC) : List Value := [.int .i64 p.1.1, .int .i64 p.1.2]
def cfC (x y : PC) : Int := x.1.2 - y.1.2
theorem ltC (x y : PC) : Go.Proofs.ltOf cfC x y = decide (x.1.2 < y.1.2) := by
  unfold Go.Proofs.ltOf cfC
  congr 1
  exact propext ⟨fun h => by omega, fun h => by omega⟩
theorem swoC : SWO (Go.Proofs.ltOf cfC) where
  irrefl x := by rw [ltC]; simp
  trans x y z h1 h2 := by rw [ltC] at *; simp at *; omega
  ntrans x y z h1 h2 := by rw [ltC] at *; simp at *; omega
theorem take_put {cur F : Array Value} (hm : F.size ≤ cur.size) : (putCells id 0 F cur).toList.take F.size = F.toList := by
  apply List.ext_getElem?
  intro t
  rw [List.getElem?_take]
  split
  · rename_i ht
    rw [Array.getElem?_toList, Array.getElem?_toList, putCells, Array.getElem?_mapIdx, Array.getElem?_eq_getElem (by omega), Array.getElem?_eq_getElem ht]
    simp [ht]
  · rename_i ht
    rw [Array.getElem?_toList, Array.getElem?_eq_none (by omega)]
theorem flat_list (d : Array PC) : (flatK encC 2 d).toList = (d.toList.map Subtype.val).flatMap Enc.enc := by
  have hl : ((d.toList.map Subtype.val).flatMap Enc.enc).length = (d.toList.map Subtype.val).length * Enc.sz (Int × Int) := flat_len (α := Int × Int) (E := inferInstance) (d.toList.map Subtype.val)
  apply List.ext_getElem?
  intro t
  by_cases ht : t < d.size * 2
  · have h1 := Go.Sort.get_flatK encC 2 d t ht
    have hi : t / 2 < d.size := by omega
    have h2 : (d.toList.map Subtype.val)[t / 2]? = some (d[t / 2]!).1 := by
      rw [List.getElem?_map, Array.getElem?_toList, Array.getElem?_eq_getElem hi, getElem!_pos d (t / 2) hi]; rfl
    have h3 : (Enc.enc (d[t / 2]!).1)[t % 2]? = some ((encC d[t / 2]!)[t % 2]!) := by
      show [Value.int .i64 _, Value.int .i64 _][t % 2]? = some ([Value.int .i64 _, Value.int .i64 _][t % 2]!)
      rcases (show t % 2 = 0 ∨ t % 2 = 1 by omega) with e | e <;> rw [e] <;> rfl
    have h4 := flat_get (α := Int × Int) (d.toList.map Subtype.val) (t / 2) _ (t % 2) _ h2 h3
    rw [show t / 2 * Enc.sz (Int × Int) + t % 2 = t by show t / 2 * 2 + t % 2 = t; omega] at h4
    rw [h4, Array.getElem?_toList, Array.getElem?_eq_getElem (by rw [Go.Sort.size_flatK]; exact ht), ← h1, getElem!_pos _ t (by rw [Go.Sort.size_flatK]; exact ht)]
  · rw [List.getElem?_eq_none (by rw [Array.length_toList, Go.Sort.size_flatK]; omega), List.getElem?_eq_none (by rw [hl, List.length_map, Array.length_toList]; show d.size * 2 ≤ t; omega)]
def toPC (ps : List (Int × Int)) (hq : ∀ p ∈ ps, 0 ≤ p.2 ∧ p.2 ≤ 19) : Array PC := (ps.pmap (fun p h => (⟨p, h⟩ : PC)) hq).toArray
theorem toPC_val (ps : List (Int × Int)) (hq : ∀ p ∈ ps, 0 ≤ p.2 ∧ p.2 ≤ 19) : (toPC ps hq).toList.map Subtype.val = ps := by
  show (ps.pmap _ hq).map _ = ps
  rw [List.map_pmap, List.pmap_eq_map, List.map_id']
theorem toPC_size (ps : List (Int × Int)) (hq : ∀ p ∈ ps, 0 ≤ p.2 ∧ p.2 ≤ 19) : (toPC ps hq).size = ps.length := by simp [toPC]
section
variable {w : World} {lo : Nat} {v : Value} {ps : List (Int × Int)}
theorem cmpC (x y : PC) (W : World) : Calls Try.prog 16 #[.agg #[.int .i64 x.1.1, .int .i64 x.1.2], .agg #[.int .i64 y.1.1, .int .i64 y.1.2]] W fun e w' => e = .returned (.int .i64 (cfC x y)) ∧ ∃ q os', w' = grow (W.drewN q) os' := by
  have hx := x.2
  have hy := y.2
  have hw : IntKind.i64.wrap (x.1.2 - y.1.2) = x.1.2 - y.1.2 := by simp [IntKind.wrap, IntKind.bits, IntKind.signed]; omega
  unfold cfC
  go_enter Try.func16, Try.ntmps16
  go_wp2
  go_ret
  exact ⟨rfl, 0, _, by rw [Go.Sort.alloc_eq_grow, Go.Sort.alloc_eq_grow, Go.Sort.grow_grow]; rfl⟩
theorem SortFunc_c (hq : ∀ p ∈ ps, 0 ≤ p.2 ∧ p.2 ≤ 19) (h : Own w 35 lo v ps) (hl : ps.length ≤ 1048576 := by omega) : Ret Try.prog 15 [v, .func (.func 16) #[] #[]] w fun u w' => u = .tuple #[] ∧ ∃ qs : List (Int × Int), qs.Perm ps ∧ (qs.Pairwise fun a b => a.2 ≤ b.2) ∧ Own w' 35 lo v qs ∧ Chg (bL v) (bH v) w w' := by
  rcases h.go with ⟨hlen, ⟨rfl, hn⟩ | ⟨g, cap, cur, rfl, hb, hg, hnc, hcm, hcs, htk⟩⟩
  · obtain rfl := List.eq_nil_of_length_eq_zero hn
    refine ⟨Calls.mono (Try.slices_SortFunc_none (α := PC) none 0 _ w) ?_⟩
    rintro e w' ⟨rfl, rfl⟩
    exact ⟨_, rfl, rfl, [], .refl _, .nil, h, Chg.refl _ _ _⟩
  · have hF := (flat_list (toPC ps hq)).trans (show _ = cur.toList.take (ps.length * 2) by rw [toPC_val]; exact htk.symm)
    have hH : HoldsK encC 2 w g 0 (toPC ps hq) := fun t ht => by
      refine ⟨?_, by simp [World.frozen?, hg]⟩
      have h1 := congrArg (fun l : List Value => l[t]?) hF
      have ht2 : t < ps.length * 2 := by rw [Go.Sort.size_flatK, toPC_size] at ht; exact ht
      simp only [List.getElem?_take, if_pos ht2, Array.getElem?_toList] at h1
      rw [Array.getElem?_eq_getElem ht] at h1
      rw [getElem!_pos (flatK encC 2 (toPC ps hq)) t ht]
      simp only [World.cell?, hg, Nat.zero_add, id]
      simpa using h1.symm
    have eg : ∀ args w, (callFunc 16 args).run Try.prog w = .ok (.enter 16 args) w := enters_of Try.func16 (by kernel_rfl) rfl
    have hs := Try.slices_SortFunc 2 Try.isAgg35 Try.sizeOf35 encC (fun _ => rfl) (fun x v hv => by simp [encC] at hv; rcases hv with rfl | rfl <;> rfl) cfC swoC 16 #[] g 0 cap (toPC ps hq) w eg (fun _ _ _ _ x y => cmpC x y _) hH (Array.getElem?_eq_some_iff.1 hg).1 (by rw [toPC_size]; omega)
    rw [toPC_size] at hs
    refine ⟨Calls.mono hs ?_⟩
    rintro e w' ⟨rfl, d', n, os, hp, hso, rfl⟩
    obtain ⟨hp1, _, hp3⟩ := hp
    have e1 : d'.extract 0 ps.length = d' := by rw [← toPC_size ps hq, ← hp1, Array.extract_size]
    have e2 : (toPC ps hq).extract 0 ps.length = toPC ps hq := by rw [← toPC_size ps hq, Array.extract_size]
    rw [e1, e2] at hp3
    rw [toPC_size] at hp1
    have hql : (d'.toList.map Subtype.val).length = ps.length := by rw [List.length_map, Array.length_toList, hp1]
    have hFs : (flatK encC 2 d').size = ps.length * 2 := by rw [Go.Sort.size_flatK, hp1]
    have hgl := (Array.getElem?_eq_some_iff.1 hg).1
    refine ⟨_, rfl, rfl, d'.toList.map Subtype.val, ?_, ?_, ⟨?_, .inr ⟨g, cap, putCells id 0 (flatK encC 2 d') cur, by rw [hql], hb, ?_, by rw [hql]; exact hnc, hcm, by simp [putCells]; exact hcs, ?_⟩⟩, ⟨rfl, rfl, rfl, ?_, fun k hk ho => ?_⟩⟩
    · have := hp3.map Subtype.val
      rwa [toPC_val] at this
    · rw [List.pairwise_map]
      refine List.pairwise_iff_getElem.2 fun i j hi hj hij => ?_
      have := hso i j (Nat.zero_le _) hij (by rw [Array.length_toList] at hj; omega)
      rw [ltC, decide_eq_false_iff_not] at this
      rw [Array.length_toList] at hi hj
      rw [getElem!_pos d' i hi, getElem!_pos d' j hj] at this
      rw [Array.getElem_toList, Array.getElem_toList]
      omega
    · rw [flat_len]
    · show ((w.heap.modify g (onCells (putCells id 0 (flatK encC 2 d')))) ++ os)[g]? = _
      rw [Array.getElem?_append_left (by simpa using hgl), Array.getElem?_modify, if_pos rfl, hg]; rfl
    · rw [hql, ← flat_list]
      have := take_put (cur := cur) (F := flatK encC 2 d') (by rw [hFs, hcs]; exact Nat.mul_le_mul_right 2 hnc)
      rw [hFs] at this
      exact this
    · show w.heap.size ≤ ((w.heap.modify g (onCells (putCells id 0 (flatK encC 2 d')))) ++ os).size
      simp
    · show ((w.heap.modify g (onCells (putCells id 0 (flatK encC 2 d')))) ++ os)[k]? = _
      have : ¬ g = k := by simp only [bL, bH, sb] at ho; omega
      rw [Array.getElem?_append_left (by simpa using hk), Array.getElem?_modify, if_neg this]
end
end Go.Proofs.Ytihnhelkfiaimaa

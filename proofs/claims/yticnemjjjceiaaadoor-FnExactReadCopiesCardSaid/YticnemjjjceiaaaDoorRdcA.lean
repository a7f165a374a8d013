/- Contracts: the library's searching, cutting and splitting of texts at a byte, its reading of numbers. -/
import Derived.Test.YticnemjjjceiaaaDoorRdcP
import Derived.WideLaws
namespace Go.Proofs.YticnemjjjceiaaaDoor
open Go Go.Gw
set_option linter.unusedVariables false
set_option linter.unusedSimpArgs false
instance : Callable Tryd.prog 21 := callable Tryd.func21 (by kernel_rfl) rfl   -- strings.genSplit
instance : Callable Tryd.prog 22 := callable Tryd.func22 (by kernel_rfl) rfl   -- internal/stringslite.Cut
instance : Callable Tryd.prog 29 := callable Tryd.func29 (by kernel_rfl) rfl   -- strings.Count
instance : Callable Tryd.prog 30 := callable Tryd.func30 (by kernel_rfl) rfl   -- strings.Index
instance : Callable Tryd.prog 31 := callable Tryd.func31 (by kernel_rfl) rfl   -- internal/stringslite.Index
theorem y_nen {P : Program} {σ : Fm} {w : World} {ty t t' : TypeId} {x : Operand} (h : P.underlying t = some (.interface (P.methodsAt t))) (hx : ev σ x = some .nilIface) : YE P σ (.binOp .neq t x (.const .nilIface) t') ty w (.bool false) := ⟨fun w' _ ρ hρ => by
  simp [execOp, hρ _ _ hx, hρ (.const .nilIface) .nilIface rfl, eqGuard, run_neq_nil_nil w' t h]⟩
theorem y_nei {P : Program} {σ : Fm} {w : World} {ty t t' u : TypeId} {x y : Operand} {v : Value} (h : P.underlying t = some (.interface (P.methodsAt t))) (hx : ev σ x = some (.iface u v)) (hy : ev σ y = some .nilIface) : YE P σ (.binOp .neq t x y t') ty w (.bool true) := ⟨fun w' _ ρ hρ => by
  simp [execOp, hρ _ _ hx, hρ _ _ hy, eqGuard, run_neq_held_nil w' t u v h]⟩
/-- the library's two errors stand, in blocks below B -/
structure Ers (B : Nat) (w : World) : Prop where
  syn : ∃ e, w.cell? ⟨1, 0, none⟩ = some e ∧ (e = .nilIface ∨ ∃ te pe, e = .iface te pe)
  rng : ∃ e, w.cell? ⟨2, 0, none⟩ = some e ∧ (e = .nilIface ∨ ∃ te pe, e = .iface te pe)
  low : 1 < B ∧ 2 < B
  top : B ≤ w.heap.size
theorem Ers.chg {B l k : Nat} {w w' : World} (h : Ers B w) (hx : Chg l k w w') (ho : k = 0 ∨ B ≤ l) : Ers B w' := by
  obtain ⟨⟨e, h1, h2⟩, ⟨e', h3, h4⟩, h5, h6⟩ := h
  exact ⟨⟨e, hx.cell h1 (by show 1 < l ∨ k ≤ 1; omega), h2⟩, ⟨e', hx.cell h3 (by show 2 < l ∨ k ≤ 2; omega), h4⟩, h5, Nat.le_trans h6 hx.size⟩
theorem Ers.ext {B : Nat} {w w' : World} (h : Ers B w) (hx : Ext w w') : Ers B w' := h.chg hx (.inl rfl)
/-- what the library's reading answers -/
structure PI (s : List UInt8) (x : Int) (e : Value) : Prop where
  go : (e = .nilIface ∧ Lib.parseIntB 64 s = .ok x) ∨ (∃ t p, e = .iface t p ∧ ∀ n, Lib.parseIntB 64 s ≠ .ok n)
section
variable {w : World} {lo hi B : Nat} {v : Value} {s : List UInt8}
theorem Index_c (s : List UInt8) (c : UInt8) : Pur Tryd.prog 30 [str s, str [c]] (.int .i64 (Lib.indexByte s c)) := by
  refine ⟨fun w => ⟨?_⟩⟩
  refine Calls.mono (Tryd.strings_Index_one ⟨s.toArray⟩ c w) ?_
  rintro e w' ⟨rfl, rfl⟩
  exact ⟨_, rfl, rfl, rfl⟩
theorem IndexLite_c (s : List UInt8) (c : UInt8) : Pur Tryd.prog 31 [str s, str [c]] (.int .i64 (Lib.indexByte s c)) := by
  refine ⟨fun w => ⟨?_⟩⟩
  refine Calls.mono (Tryd.stringslite_Index_one ⟨s.toArray⟩ c w) ?_
  rintro e w' ⟨rfl, rfl⟩
  exact ⟨_, rfl, rfl, rfl⟩
theorem Count_c (s : List UInt8) (c : UInt8) : Pur Tryd.prog 29 [str s, str [c]] (.int .i64 (s.count c)) := by
  refine ⟨fun w => ⟨?_⟩⟩
  refine Calls.mono (Tryd.strings_Count_one ⟨s.toArray⟩ c w) ?_
  rintro e w' ⟨rfl, rfl⟩
  exact ⟨_, rfl, rfl, rfl⟩
theorem TrimPrefix_c (s p : List UInt8) : Pur Tryd.prog 25 [str s, str p] (str (Lib.trimPrefix s p)) := by
  refine ⟨fun w => ⟨?_⟩⟩
  refine Calls.mono (Tryd.strings_TrimPrefix ⟨s.toArray⟩ ⟨p.toArray⟩ w) ?_
  rintro e w' ⟨rfl, rfl⟩
  exact ⟨_, rfl, rfl, rfl⟩
theorem ParseInt_c (hE : Ers B w := by assumption) (hs : s.length ≤ 281474976710656 := by omega) : Ret Tryd.prog 23 [str s, .int .i64 10, .int .i64 64] w fun u w' => ∃ x e, u = .tuple #[.int .i64 x, e] ∧ PI s x e ∧ In64 x ∧ Ext w w' := by
  have hsz : (⟨s.toArray⟩ : ByteArray).size = s.length := by simp [ByteArray.size]
  have hb : ∀ (t : TypeId) (q : ByteArray), Ext w (Lib.bytesWorld w t q) := fun t q => Chg.of_below (Lib.bytesWorld_below w t q)
  match h : Lib.parseIntB 64 s with
  | .ok n =>
    have hn := Lib.parseIntB_bounds h
    refine ⟨Calls.mono (Tryd.strconv_ParseInt_10_at64_ok ⟨s.toArray⟩ (by omega) n h w) ?_⟩
    rintro e w' ⟨rfl, hw⟩
    refine ⟨_, rfl, n, _, rfl, ⟨.inl ⟨rfl, h⟩⟩, ?_, ?_⟩
    · have e1 : (2 : Nat) ^ (64 - 1) = 9223372036854775808 := by decide
      rw [e1] at hn
      exact ⟨by omega, by omega⟩
    · rcases hw with rfl | ⟨t, rfl⟩
      · exact Chg.refl _ _ _
      · exact hb _ _
  | Lib.NumEnd.syntax =>
    obtain ⟨ev, h1, h2⟩ := hE.syn
    refine ⟨Calls.mono (Tryd.strconv_ParseInt_10_at64_syntax ⟨s.toArray⟩ (by omega) h ev w h1 h2) ?_⟩
    rintro e w' ⟨N, rfl, _, _, hw⟩
    exact ⟨_, rfl, 0, _, rfl, ⟨.inr ⟨_, _, rfl, fun n hn => by rw [h] at hn; cases hn⟩⟩, ⟨by decide, by decide⟩, Chg.of_below hw⟩
  | .range =>
    obtain ⟨ev, h1, h2⟩ := hE.rng
    refine ⟨Calls.mono (Tryd.strconv_ParseInt_10_at64_range ⟨s.toArray⟩ (by omega) h ev w h1 h2) ?_⟩
    rintro e w' ⟨N, rfl, _, _, hw⟩
    refine ⟨_, rfl, _, _, rfl, ⟨.inr ⟨_, _, rfl, fun n hn => by rw [h] at hn; cases hn⟩⟩, ?_, Chg.of_below hw⟩
    rw [show (⟨s.toArray⟩ : ByteArray).data.toList = s from rfl, Lib.intSat_64]
    unfold Lib.atoiSat
    split <;> exact ⟨by decide, by decide⟩
end
end Go.Proofs.YticnemjjjceiaaaDoor

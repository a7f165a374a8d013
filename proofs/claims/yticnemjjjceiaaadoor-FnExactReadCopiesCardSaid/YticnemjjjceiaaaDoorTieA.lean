/- The library's table of powers of ten; numbers in decimal. -/
import Derived.Test.YticnemjjjceiaaaDoorDec
import Derived.Test.YticnemjjjceiaaaDoorShelf
import Derived.Test.YticnemjjjceiaaaDoorRows
import Derived.Lib.LaidTab
import Derived.LaidMore
namespace Go.Proofs.YticnemjjjceiaaaDoor
open Go Go.Gw
set_option linter.unusedVariables false
set_option linter.unusedSimpArgs false
/-- the library's table of powers of ten stands, in a block below B -/
structure Tab (B : Nat) (w : World) : Prop where
  go : Lib.TabIs Tryd.prog w "internal/strconv.uint64pow10" .u64 Lib.pow10Tab
  low : 5 < B
  top : B ≤ w.heap.size
theorem gPow : Tryd.prog.globalNamed "internal/strconv.uint64pow10" = some 5 := by kernel_rfl
theorem Tab.chg {B l k : Nat} {w w' : World} (h : Tab B w) (hx : Chg l k w w') (ho : k = 0 ∨ B ≤ l) : Tab B w' := by
  have hl := h.low
  have ht := h.top
  refine ⟨?_, h.low, Nat.le_trans h.top hx.size⟩
  have h1 := h.go
  unfold Lib.TabIs World.var? at h1 ⊢
  rw [gPow] at h1 ⊢
  simp only [Option.bind_some] at h1 ⊢
  rw [hx.block _ (by omega) (by omega)]
  exact h1
theorem Tab.ext {B : Nat} {w w' : World} (h : Tab B w) (hx : Ext w w') : Tab B w' := h.chg hx (.inl rfl)
theorem tab_of {W : World} {rest : List (String × DataW Unit)} (h : laidMet Tryd.prog (("internal/strconv.uint64pow10", Rows.laid_internal_strconv_uint64pow10) :: rest) W) : Tab W.heap.size W := by
  have h1 : Lib.TabIs Tryd.prog W "internal/strconv.uint64pow10" .u64 Lib.pow10Tab :=
    Lib.tabIs_of_head (n := 20) (e := 69) (t := 102) gPow (by kernel_rfl) Tryd.underlying102 Tryd.underlying69 (by kernel_rfl) (by kernel_rfl) (show laidMet Tryd.prog (("internal/strconv.uint64pow10", Lib.tabData .u64 Lib.pow10Tab) :: rest) W from h)
  refine ⟨h1, ?_, Nat.le_refl _⟩
  unfold Lib.TabIs World.var? at h1
  rw [gPow] at h1
  simp only [Option.bind_some] at h1
  rcases Nat.lt_or_ge 5 W.heap.size with h2 | h2
  · exact h2
  · rw [Array.getElem?_eq_none h2] at h1; cases h1
theorem grow_ext (w : World) (k : Nat) (os : Array Obj) : Ext w (Sort.grow (w.drewN k) os) :=
  ⟨rfl, rfl, rfl, by simp [Sort.grow], fun i hi _ => by simp only [Sort.grow, World.heap_drewN]; rw [Array.getElem?_append_left hi]⟩
section
variable {w : World} {lo hi B : Nat} {v : Value} {xs : List Int}
theorem FormatInt_c (n : Int) (hT : Tab B w := by assumption) (hn : In64 n := by first | assumption | exact ⟨by omega, by omega⟩) : Val Tryd.prog 34 [.int .i64 n, .int .i64 10] w (str (Lib.itoa n)) := by
  refine ⟨fun w1 hx1 => ⟨?_⟩⟩
  refine Calls.mono (Tryd.strconv_FormatInt_10 n hn.1 hn.2 w1 (hT.ext hx1).go) ?_
  rintro e w' ⟨rfl, k, os, rfl⟩
  exact ⟨_, rfl, rfl, grow_ext _ _ _⟩
theorem iDecimal_c (n : Int) (hT : Tab B w := by assumption) (hn : In64 n := by first | assumption | exact ⟨by omega, by omega⟩) : Val Tryd.prog 24 [.int .i64 n] w (str (Lib.itoa n)) := by
  refine ⟨fun w1 hx1 => ?_⟩
  replace hT := hT.ext hx1
  have E : Since 0 0 w1 w1 := Since.refl 0 0 w1
  refine ret_enter Tryd.func24 rfl Tryd.ntmps24 rfl ?_
  focus
    have ht_hT := hT.top
    refine c_seq ?_
    refine c_region ?_
    refine w_pure (y_assign rfl) rfl ?_
    refine w_nil ?_
    refine x_next ?_
    refine c_seq ?_
    refine c_region ?_
    refine w_pure (y_move rfl) rfl ?_
    refine w_val rfl rfl rfl (FormatInt_c _) rfl (fun w4 hx4 hz4 => ?_)
    have hz_hx4 := hx4.size
    replace hT := hT.ext hx4
    replace E := E.trans hx4
    refine w_pure (y_assign rfl) rfl ?_
    refine w_nil ?_
    refine x_next ?_
    refine c_ret ?_
    rotate_left
  exact x_retv [_] rfl ⟨rfl, trivial⟩ ⟨rfl, E.go⟩
/-- how many digits a number has that is not negative -/
def nDig (n : Int) : Int := Lib.nDigits n.toNat
theorem nDig_bd {n : Int} (h : 0 ≤ n ∧ n ≤ 9223372036854775807) : 1 ≤ nDig n ∧ nDig n ≤ 19 := by
  have h1 := nDigits_pos n.toNat
  have e : (10 : Nat) ^ 19 = 10000000000000000000 := by decide
  have h2 := nDigits_pow 18 n.toNat (by omega)
  unfold nDig; omega
theorem nDig_le {n k : Int} (h : 0 ≤ n) (hk : 1 ≤ k) : nDig n ≤ k ↔ n < 10 ^ k.toNat := by
  obtain ⟨j, hj⟩ : ∃ j : Nat, k.toNat = j + 1 := ⟨k.toNat - 1, by omega⟩
  have e : ((10 ^ (j + 1) : Nat) : Int) = 10 ^ (j + 1) := by push_cast; rfl
  unfold nDig
  rw [hj, ← e]
  constructor
  · intro h1
    rcases Nat.lt_or_ge n.toNat (10 ^ (j + 1)) with h2 | h2
    · omega
    · have := pow_nDigits (j + 1) n.toNat h2; omega
  · intro h1
    have := nDigits_pow j n.toNat (by omega)
    omega
end
end Go.Proofs.YticnemjjjceiaaaDoor

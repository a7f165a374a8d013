/- Rules of my own: a number stored into a slice that is an element of a deck of one's own. -/
import Derived.Test.YtgkljfncpgbngaaDoorL19
namespace Go.Gw
open Go
set_option linter.unusedVariables false
set_option linter.unusedSimpArgs false
section
variable {P : Program} {N : Nat} {Q : Post} {σ : Fm} {w : World} {ops : Array Oper} {rest : List Oper} {T ty : TypeId} {x y : Operand} {v : Value} {lo hi e : Nat} {pos : String} {af : Array Edge} {svs : List SV} {xss : List (List Int)} {a : Int}
theorem bL_sb {α : Type} {E : Enc α} {lo hi : Nat} {xs : List α} (h : SL w lo hi v xs) (h0 : 0 < xs.length) : bL v = sb v ∧ bH v = sb v + 1 := by
  obtain ⟨a, c, hv, _, _, h3⟩ := h.form
  have := h3 h0
  subst this
  rw [hv]
  exact ⟨rfl, rfl⟩
theorem w_store_eld [hT : TScal P T] {i n : Nat} (hx : ev σ x = some (ptr (sb (svD svs i)) (so (svD svs i) + n * 1))) (hy : ev σ y = some (.int .i64 a)) (h : OwnD w e lo hi svs v xss := by assumption) (hi' : i < xss.length := by omega) (hn : n < (xss.getD i []).length := by omega)
    (next : ∀ w', OwnD w' e lo hi svs v (xss.set i ((xss.getD i []).set n a)) → Chg lo hi w w' → w'.heap.size = w.heap.size → W P N ops Q rest σ w') : W P N ops Q (⟨none, .store T x y, ty, pos, af, none⟩ :: rest) σ w := by
  have hel := h.el i hi'
  have hb := bL_sb hel (by omega)
  have hr := (h.plc i hi').rng
  refine w_store_sl (α := Int) (x' := a) hx hy hel rfl hn rfl (fun w' hs hc hz => next w' ?_ (hc.wide (by omega) (by omega)) hz)
  refine h.upd hi' hc hb.1.symm hb.2.symm hs
end
end Go.Gw

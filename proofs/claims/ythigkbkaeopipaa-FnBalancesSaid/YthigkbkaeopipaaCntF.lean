/- Contracts: reading a counter from its text; the number that it shows. -/
import Derived.Test.YthigkbkaeopipaaCntE
namespace Go.Proofs.Ythigkbkaeopipaa
open Go Go.Gw
set_option linter.unusedVariables false
set_option linter.unusedSimpArgs false

def rdg (s : List UInt8) : List Int := s.reverse.map fun b => (b.toNat : Int) - 48
theorem rdg_drop {s : List UInt8} {i : Nat} (h : i < s.length) : rdg (s.drop i) = rdg (s.drop (i + 1)) ++ [((s.getD i 0).toNat : Int) - 48] := by
  rw [List.drop_eq_getElem_cons h, rdg, List.reverse_cons, List.map_append, List.getD_eq_getElem?_getD, List.getElem?_eq_getElem h]; rfl
theorem rdg_len (s : List UInt8) : (rdg s).length = s.length := by simp [rdg]
section
variable {w : World} {v : Value} {xs : List Int} {lo hi b : Nat}
end
end Go.Proofs.Ythigkbkaeopipaa

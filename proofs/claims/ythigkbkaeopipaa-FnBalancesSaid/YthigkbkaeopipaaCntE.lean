/- Contracts: a counter's text; reading it back. -/
import Derived.Test.YthigkbkaeopipaaCntD
import Derived.Test.YthigkbkaeopipaaOpen
namespace Go.Proofs.Ythigkbkaeopipaa
open Go Go.Gw
set_option linter.unusedVariables false
set_option linter.unusedSimpArgs false

/-- the text of digits, the lowest first -/
def ctext (xs : List Int) : List UInt8 := xs.reverse.map fun d => UInt8.ofNat (48 + d).toNat
theorem ctext_drop {xs : List Int} {i : Nat} (h : i < xs.length) : ctext (xs.drop i) = ctext (xs.drop (i + 1)) ++ [UInt8.ofNat (48 + xs.getD i 0).toNat] := by
  rw [List.drop_eq_getElem_cons h, ctext, List.reverse_cons, List.map_append, List.getD_eq_getElem?_getD, List.getElem?_eq_getElem h]; rfl
section
variable {w : World} {v : Value} {xs : List Int} {lo hi b : Nat}
end
end Go.Proofs.Ythigkbkaeopipaa

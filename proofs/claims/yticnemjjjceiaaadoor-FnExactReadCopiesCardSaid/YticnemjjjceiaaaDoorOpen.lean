/- How the laws' arguments read, type by type. -/
import Derived.Test.YticnemjjjceiaaaDoorL7
import Derived.Test.YticnemjjjceiaaaDoorTy
namespace Go.Proofs.YticnemjjjceiaaaDoor
open Go Go.Gw Go.ChangeShapes Go.WideShapes
set_option linter.unusedVariables false
set_option maxRecDepth 100000
section
variable {w : World} {r : Reach} {b0 : Nat} {v : Value}
/-- a slice of pairs of numbers -/
structure OPs where
  v : Value
  xs : List (Int × Int)
structure OPs.ok (w : World) (x : OPs) : Prop where
  sl : SL w 0 w.heap.size x.v x.xs
  in64 : ∀ p ∈ x.xs, In64 p.1 ∧ In64 p.2
end
end Go.Proofs.YticnemjjjceiaaaDoor

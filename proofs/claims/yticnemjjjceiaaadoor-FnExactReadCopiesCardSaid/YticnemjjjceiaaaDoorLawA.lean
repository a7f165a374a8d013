/- The laws' helpers: the sizes of slices of numbers and of what bears one. -/
import Derived.Test.YticnemjjjceiaaaDoorCntB
namespace Go.Proofs.YticnemjjjceiaaaDoor
open Go Go.Gw
set_option linter.unusedVariables false
set_option linter.unusedSimpArgs false
section
variable {w : World} {lo hi lo' hi' : Nat} {v v' : Value} {xs ys : List Int}
end
end Go.Proofs.YticnemjjjceiaaaDoor

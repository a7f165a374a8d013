/- Contracts: counters, the laws' helpers on them, whether a counter is valid. -/
import Derived.Test.YticnemjjjceiaaaDoorCntA
namespace Go.Proofs.YticnemjjjceiaaaDoor
open Go Go.Gw
set_option linter.unusedVariables false
set_option linter.unusedSimpArgs false

section
variable {w : World} {lo hi lo' hi' : Nat} {v v' : Value} {xs ys : List Int}

end
end Go.Proofs.YticnemjjjceiaaaDoor

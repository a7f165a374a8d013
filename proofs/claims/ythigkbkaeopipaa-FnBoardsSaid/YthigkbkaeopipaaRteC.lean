/- Contracts: a card is routed through a board, as the statement says it; the law's walk. -/
import Derived.Test.YthigkbkaeopipaaRteB
namespace Go.Proofs.Ythigkbkaeopipaa
open Go Go.Gw
set_option linter.unusedVariables false
set_option linter.unusedSimpArgs false
theorem resRte_len (e n j : Int) (ws : List (Int × Int)) (xs : List Int) : (resRte e n j ws xs).length ≤ 20 := by
  unfold resRte
  split
  · rename_i h
    rw [rteP_len]
    unfold cRte at h
    split at h
    · rename_i g
      have := okB_num g.1
      omega
    · simp at h
  · simp
section
variable {w : World} {lo hi lo' hi' : Nat} {v v' v2 : Value} {xs ys : List Int} {ws us : List (Int × Int)} {b b' b2 b3 : Nat} {e n j : Int}
end
end Go.Proofs.Ythigkbkaeopipaa

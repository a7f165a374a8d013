/- Contracts: joining and splitting. -/
import Derived.Test.YtcpglpegjdpliaaDoorCntF
import Derived.Test.YtcpglpegjdpliaaDoorLawA
namespace Go.Proofs.YtcpglpegjdpliaaDoor
open Go Go.Gw
set_option linter.unusedVariables false
set_option linter.unusedSimpArgs false
def joinC (xs ys : List Int) : Int := if okC xs = true ∧ okC ys = true then (if xs.length + ys.length ≤ 12 then 0 else 5) else 1
def resJoin (xs ys : List Int) : List Int := if joinC xs ys = 0 then xs ++ ys else []
theorem resJoin_len (xs ys : List Int) : (resJoin xs ys).length ≤ 12 := by
  by_cases h : okC xs = true ∧ okC ys = true
  · by_cases h2 : xs.length + ys.length ≤ 12
    · simp [resJoin, joinC, h, h2]
    · simp [resJoin, joinC, h, h2]
  · simp [resJoin, joinC, if_neg h]
section
variable {w : World} {v v' : Value} {xs ys : List Int} {lo hi lo' hi' b b' : Nat}
end
end Go.Proofs.YtcpglpegjdpliaaDoor

/- The declarations of Lxx4 that the claim Qs needs. -/
import Derived.Test.YtdldfdcedjmneaaQsLxx0
import Derived.Test.YtdldfdcedjmneaaQsLxx3
namespace Go.Proofs.Ytdldfdcedjmneaa.Lx
open Go.RowKit Go.Proofs.Ytdldfdcedjmneaa.Own Go.Proofs.YtdldfdcedjmneaaW.PrintWords Go.Proofs.YtdldfdcedjmneaaW.PrintLast Go.Proofs.YtdldfdcedjmneaaW.PrintMore
attribute [local go_sem] max2_int min2_int max_two min_two max_three min_three max_four min_four
set_option linter.unusedVariables false
set_option linter.unusedSimpArgs false
def gampref05_wrong.l0 : Nat → List Int → List Int → Int → Option (Int)
  | 0, _, _, _ => none
  | k + 1, x0, x1, x5 => if (wrap64 (x5 + 1)) < (x1.length : Int) then (if 0 ≤ x5 then (if x5 < (x1.length : Int) then (if 0 ≤ (wrap64 (x5 + 1)) then (if (rd x1 x5) > (rd x1 (wrap64 (x5 + 1))) then ((gampref05_at.f k x0 x5).bind fun t197 => ((gampref05_at.f k x0 (wrap64 (x5 + 1))).bind fun t198 => (if t197 < t198 then (some x5) else (gampref05_wrong.l0 k x0 x1 (wrap64 (x5 + 1)))))) else (gampref05_wrong.l0 k x0 x1 (wrap64 (x5 + 1)))) else (none)) else (none)) else (none)) else (some (-1))
def gampref05_wrong.f (k : Nat) (l0 : List Int) (l1 : List Int) : Option (Int) := gampref05_wrong.l0 k l0 l1 0
end Go.Proofs.Ytdldfdcedjmneaa.Lx

/- The declarations of Lxx10 that the claim Qs needs. -/
import Derived.Test.YtdldfdcedjmneaaQsLxx0
import Derived.Test.YtdldfdcedjmneaaQsLxx1
import Derived.Test.YtdldfdcedjmneaaQsLxx3
import Derived.Test.YtdldfdcedjmneaaQsLxx4
namespace Go.Proofs.Ytdldfdcedjmneaa.Lx
open Go.RowKit Go.Proofs.Ytdldfdcedjmneaa.Own Go.Proofs.YtdldfdcedjmneaaW.PrintWords Go.Proofs.YtdldfdcedjmneaaW.PrintLast Go.Proofs.YtdldfdcedjmneaaW.PrintMore
attribute [local go_sem] max2_int min2_int max_two min_two max_three min_three max_four min_four
set_option linter.unusedVariables false
set_option linter.unusedSimpArgs false
mutual
def gampref05_Permutation.l0 : Nat → List Int → Int → Int → Option (Bool)
  | 0, _, _, _ => none
  | k + 1, x0, x1, x5 => if x5 < (x0.length : Int) then (if 0 ≤ x5 then ((gampref05_in.f (rd x0 x5) 0 (wrap64 (x1 - 1))).bind fun t346 => (if t346 = true then (gampref05_Permutation.l1 k x0 x1 x5 0) else (some false))) else (none)) else (some ((x0.length : Int) == x1))
def gampref05_Permutation.l1 : Nat → List Int → Int → Int → Int → Option (Bool)
  | 0, _, _, _, _ => none
  | k + 1, x0, x1, x5, x6 => if x6 < x5 then (if 0 ≤ x6 then (if x6 < (x0.length : Int) then (if 0 ≤ x5 then (if x5 < (x0.length : Int) then (if (rd x0 x6) = (rd x0 x5) then (some false) else (gampref05_Permutation.l1 k x0 x1 x5 (wrap64 (x6 + 1)))) else (none)) else (none)) else (none)) else (none)) else (gampref05_Permutation.l0 k x0 x1 (wrap64 (x5 + 1)))
end
def gampref05_Permutation.f (k : Nat) (l0 : List Int) (a1 : Int) : Option (Bool) := gampref05_Permutation.l0 k l0 a1 0
def gampref05_Is.l0 : Nat → Int → Int → Int → List (List Int) → Option (Bool)
  | 0, _, _, _, _ => none
  | k + 1, x0, x5, x350000, x350001 => if x5 < (x350001.length : Int) then (if 0 ≤ x5 then ((gampref05_Permutation.f k (rd_L1 x350001 x5) x0).bind fun t351 => (if t351 = true then ((gampref05_One.f k x0).bind fun t352 => ((gampref05_Same.f k (rd_L1 x350001 x5) t352).bind fun t355 => (if t355 = true then (some false) else ((gampref05_Half.f k x0).bind fun t356 => ((gampref05_Same.f k (rd_L1 x350001 x5) t356).bind fun t359 => (if t359 = true then (some false) else (if x5 > 0 then (if 0 ≤ (wrap64 (x5 - 1)) then (if (wrap64 (x5 - 1)) < (x350001.length : Int) then ((gampref05_wrong.f k (rd_L1 x350001 (wrap64 (x5 - 1))) (rd_L1 x350001 x5)).bind fun t361 => (if t361 ≥ 0 then (some false) else (gampref05_Is.l0 k x0 (wrap64 (x5 + 1)) x350000 x350001))) else (none)) else (none)) else (gampref05_Is.l0 k x0 (wrap64 (x5 + 1)) x350000 x350001)))))))) else (some false))) else (none)) else (some true)
def gampref05_Is.f (k : Nat) (a0 : Int) (a1_0 : Int) (l1_1 : List (List Int)) : Option (Bool) := gampref05_Is.l0 k a0 0 a1_0 l1_1
end Go.Proofs.Ytdldfdcedjmneaa.Lx

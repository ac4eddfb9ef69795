/- The declarations of Lxx3 that the claim Qs needs. -/
import Derived.Test.YtdldfdcedjmneaaQsLxx0
namespace Go.Proofs.Ytdldfdcedjmneaa.Lx
open Go.RowKit Go.Proofs.Ytdldfdcedjmneaa.Own Go.Proofs.YtdldfdcedjmneaaW.PrintWords Go.Proofs.YtdldfdcedjmneaaW.PrintLast Go.Proofs.YtdldfdcedjmneaaW.PrintMore
attribute [local go_sem] max2_int min2_int max_two min_two max_three min_three max_four min_four
set_option linter.unusedVariables false
set_option linter.unusedSimpArgs false
def gampref05_Half.l0 : Nat → Int → List Int → Int → Option (List Int)
  | 0, _, _, _ => none
  | k + 1, x0, x3, x4 => if x4 < x0 then (if x3.length < 17592186044416 then (gampref05_Half.l0 k x0 (x3 ++ [wrap64 ((wrap64 (x0 - 1)) - x4)]) (wrap64 (x4 + 1))) else (none)) else (some x3)
def gampref05_Half.f (k : Nat) (a0 : Int) : Option (List Int) := gampref05_Half.l0 k a0 (([] : List Int)) 0
def gampref05_One.l0 : Nat → Int → List Int → Int → Option (List Int)
  | 0, _, _, _ => none
  | k + 1, x0, x3, x4 => if x4 < x0 then (if x3.length < 17592186044416 then (gampref05_One.l0 k x0 (x3 ++ [x4]) (wrap64 (x4 + 1))) else (none)) else (some x3)
def gampref05_One.f (k : Nat) (a0 : Int) : Option (List Int) := gampref05_One.l0 k a0 (([] : List Int)) 0
def gampref05_at.l0 : Nat → List Int → Int → Int → Option (Int)
  | 0, _, _, _ => none
  | k + 1, x0, x1, x5 => if x5 < (x0.length : Int) then (if 0 ≤ x5 then (if (rd x0 x5) = x1 then (some x5) else (gampref05_at.l0 k x0 x1 (wrap64 (x5 + 1)))) else (none)) else (some (-1))
def gampref05_at.f (k : Nat) (l0 : List Int) (a1 : Int) : Option (Int) := gampref05_at.l0 k l0 a1 0
end Go.Proofs.Ytdldfdcedjmneaa.Lx

/- The declarations of Lxx17 that the claim Qs needs. -/
import Derived.Test.YtdldfdcedjmneaaQsLxx0
namespace Go.Proofs.Ytdldfdcedjmneaa.Lx
open Go.RowKit Go.Proofs.Ytdldfdcedjmneaa.Own Go.Proofs.YtdldfdcedjmneaaW.PrintWords Go.Proofs.YtdldfdcedjmneaaW.PrintLast Go.Proofs.YtdldfdcedjmneaaW.PrintMore
attribute [local go_sem] max2_int min2_int max_two min_two max_three min_three max_four min_four
set_option linter.unusedVariables false
set_option linter.unusedSimpArgs false
mutual
def gampref05_Simple.l0 : Nat → List Int → List Int → Option (List Int)
  | 0, _, _ => none
  | k + 1, x3, x4 => gampref05_Simple.l1 k x3 x4 0
def gampref05_Simple.l1 : Nat → List Int → List Int → Int → Option (List Int)
  | 0, _, _, _ => none
  | k + 1, x3, x4, x5 => if (wrap64 (x5 + 1)) < (x4.length : Int) then (if 0 ≤ x5 then (if x5 < (x4.length : Int) then (if 0 ≤ (wrap64 (x5 + 1)) then (if (rd x4 x5) < (rd x4 (wrap64 (x5 + 1))) then (gampref05_Simple.l1 k x3 x4 (wrap64 (x5 + 1))) else (if (wrap64 (x5 + 1)) ≥ (x4.length : Int) then (some x3) else (if x3.length < 17592186044416 then (gampref05_Simple.l0 k (x3 ++ [wrap64 (x5 + 1)]) ((x4.set (x5 : Int).toNat (rd x4 (wrap64 (x5 + 1)))).set ((wrap64 (x5 + 1)) : Int).toNat (rd x4 x5))) else (none)))) else (none)) else (none)) else (none)) else (if (wrap64 (x5 + 1)) ≥ (x4.length : Int) then (some x3) else (if x3.length < 17592186044416 then (if 0 ≤ (wrap64 (x5 + 1)) then (none) else (none)) else (none)))
end
def gampref05_Simple.f (k : Nat) (l0 : List Int) : Option (List Int) := (some (([] : List Int) : List Int)).bind fun y463 => (if y463.length + l0.length < 17592186044416 then (gampref05_Simple.l0 k (([] : List Int)) (y463 ++ l0)) else (none))
end Go.Proofs.Ytdldfdcedjmneaa.Lx

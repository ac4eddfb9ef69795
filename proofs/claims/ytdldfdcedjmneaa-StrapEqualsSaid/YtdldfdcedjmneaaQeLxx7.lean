/- The declarations of Lxx7 that the claim Qe needs. -/
import Derived.Test.YtdldfdcedjmneaaQeLxx0
import Derived.Test.YtdldfdcedjmneaaQeLxx3
import Derived.Test.YtdldfdcedjmneaaQeLxx5
import Derived.Test.YtdldfdcedjmneaaQeLxx6
namespace Go.Proofs.Ytdldfdcedjmneaa.Lx
open Go.RowKit Go.Proofs.Ytdldfdcedjmneaa.Own Go.Proofs.YtdldfdcedjmneaaW.PrintWords Go.Proofs.YtdldfdcedjmneaaW.PrintLast Go.Proofs.YtdldfdcedjmneaaW.PrintMore
attribute [local go_sem] max2_int min2_int max_two min_two max_three min_three max_four min_four
set_option linter.unusedVariables false
set_option linter.unusedSimpArgs false
mutual
def gampref05_Normal.l0 : Nat → Int → List Int → Int → Int → List (List Int) → Option (Int × (List (List Int)))
  | 0, _, _, _, _, _ => none
  | k + 1, x0, x1, x6, x253000, x253001 => if x6 < (x1.length : Int) then ((some (([] : List (List Int)) : List (List Int))).bind fun y253 => (if y253.length + x253001.length < 5864062014805 then ((some (y253 ++ x253001 : List (List Int))).bind fun y256 => (if 0 ≤ x6 then (if (rd x1 x6) > 0 then ((gampref05_One.f k x0).bind fun t260 => ((gampref05_Then.f k t260 (wrap64 ((rd x1 x6) - 1))).bind fun t263 => (if y256.length < 5864062014805 then ((gampref05_Right.f k x0 x253000 (y256 ++ [t263])).bind fun bt269 => (gampref05_Normal.l0 k x0 x1 (wrap64 (x6 + 1)) bt269.1 bt269.2)) else (none)))) else (gampref05_Normal.l1 k x0 x1 x6 y256 0 x253000 x253001)) else (none))) else (none))) else (some (x253000, x253001))
def gampref05_Normal.l1 : Nat → Int → List Int → Int → List (List Int) → Int → Int → List (List Int) → Option (Int × (List (List Int)))
  | 0, _, _, _, _, _, _, _ => none
  | k + 1, x0, x1, x6, x7, x9, x253000, x253001 => if x9 < (x7.length : Int) then (if 0 ≤ x9 then ((gampref05_mirrored.f k (rd_L1 x7 x9)).bind fun t274 => (gampref05_Normal.l1 k x0 x1 x6 (x7.set (x9 : Int).toNat t274) (wrap64 (x9 + 1)) x253000 x253001)) else (none)) else ((gampref05_Half.f k x0).bind fun t278 => (if 0 ≤ x6 then (if x6 < (x1.length : Int) then ((gampref05_Then.f k t278 (wrap64 ((wrap64 (-(rd x1 x6))) - 1))).bind fun t282 => (if x7.length < 5864062014805 then ((gampref05_Right.f k x0 (wrap64 (x253000 - 1)) (x7 ++ [t282])).bind fun bt288 => (gampref05_Normal.l0 k x0 x1 (wrap64 (x6 + 1)) bt288.1 bt288.2)) else (none))) else (none)) else (none)))
end
def gampref05_Normal.f (k : Nat) (a0 : Int) (l1 : List Int) : Option (Int × (List (List Int))) := gampref05_Normal.l0 k a0 l1 0 0 ([] : List (List Int))
end Go.Proofs.Ytdldfdcedjmneaa.Lx

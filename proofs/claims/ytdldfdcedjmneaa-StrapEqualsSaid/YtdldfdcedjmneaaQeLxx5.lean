/- The declarations of Lxx5 that the claim Qe needs. -/
import Derived.Test.YtdldfdcedjmneaaQeLxx0
import Derived.Test.YtdldfdcedjmneaaQeLxx1
import Derived.Test.YtdldfdcedjmneaaQeLxx3
import Derived.Test.YtdldfdcedjmneaaQeLxx4
namespace Go.Proofs.Ytdldfdcedjmneaa.Lx
open Go.RowKit Go.Proofs.Ytdldfdcedjmneaa.Own Go.Proofs.YtdldfdcedjmneaaW.PrintWords Go.Proofs.YtdldfdcedjmneaaW.PrintLast Go.Proofs.YtdldfdcedjmneaaW.PrintMore
attribute [local go_sem] max2_int min2_int max_two min_two max_three min_three max_four min_four
set_option linter.unusedVariables false
set_option linter.unusedSimpArgs false
mutual
def gampref05_Right.l0 : Nat → Int → Int → List (List Int) → Bool → Option (Int × (List (List Int)))
  | 0, _, _, _, _ => none
  | k + 1, x0, x1, x7, x8 => if x8 = true then (gampref05_Right.l1 k x0 x1 x7 false 0) else (gampref05_Right.l3 k x0 x7 0 x1 ([] : List (List Int)))
def gampref05_Right.l1 : Nat → Int → Int → List (List Int) → Bool → Int → Option (Int × (List (List Int)))
  | 0, _, _, _, _, _ => none
  | k + 1, x0, x1, x7, x8, x9 => if (wrap64 (x9 + 1)) < (x7.length : Int) then (if 0 ≤ x9 then (if x9 < (x7.length : Int) then (if 0 ≤ (wrap64 (x9 + 1)) then ((gampref05_wrong.f k (rd_L1 x7 x9) (rd_L1 x7 (wrap64 (x9 + 1)))).bind fun t208 => (gampref05_Right.l2 k x0 x1 x7 x8 x9 t208)) else (none)) else (none)) else (none)) else (gampref05_Right.l0 k x0 x1 x7 x8)
def gampref05_Right.l2 : Nat → Int → Int → List (List Int) → Bool → Int → Int → Option (Int × (List (List Int)))
  | 0, _, _, _, _, _, _ => none
  | k + 1, x0, x1, x7, x8, x9, x10 => if x10 ≥ 0 then ((some (([] : List Int) : List Int)).bind fun y209 => (if 0 ≤ (wrap64 (x9 + 1)) then (if (wrap64 (x9 + 1)) < (x7.length : Int) then (if y209.length + (rd_L1 x7 (wrap64 (x9 + 1))).length < 17592186044416 then ((some (y209 ++ (rd_L1 x7 (wrap64 (x9 + 1))) : List Int)).bind fun y213 => (if 0 ≤ (wrap64 (x10 + 1)) then (if (wrap64 (x10 + 1)) < (y213.length : Int) then (if 0 ≤ x10 then (if x10 < (y213.length : Int) then (if 0 ≤ x9 then (if x9 < (x7.length : Int) then ((gampref05_Then.f k (rd_L1 x7 x9) x10).bind fun t221 => ((some ((x7.set (x9 : Int).toNat t221).set ((wrap64 (x9 + 1)) : Int).toNat ((y213.set (x10 : Int).toNat (rd y213 (wrap64 (x10 + 1)))).set ((wrap64 (x10 + 1)) : Int).toNat (rd y213 x10)) : List (List Int))).bind fun y225 => ((gampref05_wrong.f k (rd_L1 y225 x9) (rd_L1 y225 (wrap64 (x9 + 1)))).bind fun t228 => (gampref05_Right.l2 k x0 x1 y225 true x9 t228)))) else (none)) else (none)) else (none)) else (none)) else (none)) else (none))) else (none)) else (none)) else (none))) else (gampref05_Right.l1 k x0 x1 x7 x8 (wrap64 (x9 + 1)))
def gampref05_Right.l3 : Nat → Int → List (List Int) → Int → Int → List (List Int) → Option (Int × (List (List Int)))
  | 0, _, _, _, _, _ => none
  | k + 1, x0, x7, x13, x230000, x230001 => if x13 < (x7.length : Int) then (if 0 ≤ x13 then ((gampref05_Half.f k x0).bind fun t231 => ((gampref05_Same.f k (rd_L1 x7 x13) t231).bind fun t234 => (if t234 = true then (gampref05_Right.l3 k x0 x7 (wrap64 (x13 + 1)) (wrap64 (x230000 + 1)) x230001) else ((gampref05_One.f k x0).bind fun t236 => ((gampref05_Same.f k (rd_L1 x7 x13) t236).bind fun t239 => (if t239 = true then (gampref05_Right.l3 k x0 x7 (wrap64 (x13 + 1)) x230000 x230001) else (if x230001.length < 5864062014805 then (gampref05_Right.l3 k x0 x7 (wrap64 (x13 + 1)) x230000 (x230001 ++ [rd_L1 x7 x13])) else (none)))))))) else (none)) else (some (x230000, x230001))
end
def gampref05_Right.f (k : Nat) (a0 : Int) (a1 : Int) (l2 : List (List Int)) : Option (Int × (List (List Int))) := (some (([] : List (List Int)) : List (List Int))).bind fun y200 => (if y200.length + l2.length < 5864062014805 then (gampref05_Right.l0 k a0 a1 (y200 ++ l2) true) else (none))
end Go.Proofs.Ytdldfdcedjmneaa.Lx

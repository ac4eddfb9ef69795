/- The declarations of M4 that the claim Qi needs. -/
import Derived.Test.YtdldfdcedjmneaaQiLxx10
import Derived.Test.YtdldfdcedjmneaaQiTkP
import Derived.Test.YtdldfdcedjmneaaQiLxx0
import Derived.Test.YtdldfdcedjmneaaQiLxx1
import Derived.Test.YtdldfdcedjmneaaQiLxx2
import Derived.Test.YtdldfdcedjmneaaQiM2
namespace Go.Proofs.Ytdldfdcedjmneaa.Pure
open Go.RowKit Go.Proofs.YtdldfdcedjmneaaW.PrintWords Go.Proofs.YtdldfdcedjmneaaW.PrintLast Go.Proofs.YtdldfdcedjmneaaW.PrintMore Go.Proofs.Ytdldfdcedjmneaa.Lx Go.Proofs.Ytdldfdcedjmneaa.Br
open Go.Proofs.Ytdldfdcedjmneaa.Own (lst lst_len lst_getD lst_rd lst_inj lst_of getD_set' wrap_s rd_nat checkF checkF_zero badL normF normL normF_nf strap_Normal.f)
set_option linter.unusedVariables false
set_option linter.unusedSimpArgs false
section
variable {n : Nat}
variable {t : Pm}
theorem rd_map {L : List Pm} {i : Nat} (h : i < L.length) : rd_L1 (L.map (lst n)) (i : Int) = lst n L[i] := by
  unfold rd_L1
  rw [Int.toNat_natCast, List.getD_eq_getElem?_getD, List.getElem?_map, List.getElem?_eq_getElem h]; rfl
end
end Go.Proofs.Ytdldfdcedjmneaa.Pure

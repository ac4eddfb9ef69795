/- The declarations of M4 that the claim Qe needs. -/
import Derived.Test.YtdldfdcedjmneaaQeTkP
import Derived.Test.YtdldfdcedjmneaaQeLxx0
import Derived.Test.YtdldfdcedjmneaaQeLxx1
import Derived.Test.YtdldfdcedjmneaaQeLxx3
import Derived.Test.YtdldfdcedjmneaaQeLxx4
import Derived.Test.YtdldfdcedjmneaaQeLxx2
import Derived.Test.YtdldfdcedjmneaaQeM2
namespace Go.Proofs.Ytdldfdcedjmneaa.Pure
open Go.RowKit Go.Proofs.YtdldfdcedjmneaaW.PrintWords Go.Proofs.YtdldfdcedjmneaaW.PrintLast Go.Proofs.YtdldfdcedjmneaaW.PrintMore Go.Proofs.Ytdldfdcedjmneaa.Lx Go.Proofs.Ytdldfdcedjmneaa.Br
open Go.Proofs.Ytdldfdcedjmneaa.Own (lst lst_len lst_getD lst_rd lst_inj lst_of getD_set' wrap_s rd_nat checkF checkF_zero badL normF normL normF_nf strap_Normal.f)
set_option linter.unusedVariables false
set_option linter.unusedSimpArgs false
section
variable {n : Nat}
variable {t : Pm}
theorem rd_map {L : List Pm} {i : Nat} (h : i < L.length) : rd_L1 (L.map (lst n)) (i : Int) = lst n L[i] := by
  unfold rd_L1
  rw [Int.toNat_natCast, List.getD_eq_getElem?_getD, List.getElem?_map, List.getElem?_eq_getElem h]; rfl
end
end Go.Proofs.Ytdldfdcedjmneaa.Pure

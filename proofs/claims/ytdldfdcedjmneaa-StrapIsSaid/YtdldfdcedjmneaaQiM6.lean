/- The declarations of M6 that the claim Qi needs. -/
import Derived.Test.YtdldfdcedjmneaaQiLxx17
import Derived.Test.YtdldfdcedjmneaaQiTkP
import Derived.Test.YtdldfdcedjmneaaQiLxx0
import Derived.Test.YtdldfdcedjmneaaQiLxx2
import Derived.Test.YtdldfdcedjmneaaQiLxx1
import Derived.Test.YtdldfdcedjmneaaQiM4
namespace Go.Proofs.Ytdldfdcedjmneaa.Pure
open Go.RowKit Go.Proofs.YtdldfdcedjmneaaW.PrintWords Go.Proofs.YtdldfdcedjmneaaW.PrintLast Go.Proofs.YtdldfdcedjmneaaW.PrintMore Go.Proofs.Ytdldfdcedjmneaa.Lx Go.Proofs.Ytdldfdcedjmneaa.Br
open Go.Proofs.Ytdldfdcedjmneaa.Own (lst lst_len lst_getD lst_rd lst_inj lst_of getD_set' wrap_s rd_nat checkF checkF_zero badL normF normL normF_nf normF_eq strap_Normal.f strap_Equal.f)
set_option linter.unusedVariables false
set_option linter.unusedSimpArgs false
section
variable {n : Nat} {t : Pm}
theorem swap_lst (ht : Sup n t) {i : Nat} (hi : i + 1 < n) : ((lst n t).set i (t.f (i + 1) : Int)).set (i + 1) (t.f i : Int) = lst n (t.L i) := by
 refine lst_of (by rw [List.length_set, List.length_set, lst_len]) fun x hx => ?_
 show _ = ((t.f (sw i x) : Nat) : Int)
 rw [getD_set', getD_set', List.length_set, lst_len]
 by_cases h1 : i + 1 = x
 ·rw [if_pos ⟨h1, hx⟩, ← h1, sw_r]
 ·rw [if_neg (fun h => h1 h.1)]
  by_cases h2 : i = x
  ·rw [if_pos ⟨h2, hx⟩, ← h2, sw_l]
  ·rw [if_neg (fun h => h2 h.1), lst_getD hx, sw_o (fun h => h2 h.symm) (fun h => h1 h.symm)]
end
end Go.Proofs.Ytdldfdcedjmneaa.Pure

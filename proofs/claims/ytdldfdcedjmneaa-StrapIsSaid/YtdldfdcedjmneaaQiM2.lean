/- The declarations of M2 that the claim Qi needs. -/
import Derived.Test.YtdldfdcedjmneaaQiLxx2
import Derived.Test.YtdldfdcedjmneaaQiM0
import Derived.Test.YtdldfdcedjmneaaQiM1
namespace Go.Proofs.Ytdldfdcedjmneaa.Pure
open Go.RowKit Go.Proofs.YtdldfdcedjmneaaW.PrintWords Go.Proofs.YtdldfdcedjmneaaW.PrintLast Go.Proofs.Ytdldfdcedjmneaa.Lx Go.Proofs.Ytdldfdcedjmneaa.Br
open Go.Proofs.Ytdldfdcedjmneaa.Own (lst lst_len lst_getD lst_rd lst_inj lst_of getD_set' wrap_s rd_nat normF normL normF_nf normF_eq normL_eq strap_Normal.f strap_Equal.f strap_Alexander.f checkF alex_lives)
set_option linter.unusedVariables false
set_option linter.unusedSimpArgs false
theorem lives_ev : Ev (fun k => gamplaw05_lives.f k) true := by
 refine Ev.of (fun k => gamplaw05_lives.mono k) (k := 50) ?_
 unfold gamplaw05_lives.f
 rw [livesE, livesN, alex_lives]
 simp only [Option.bind_some]
 decide +kernel
end Go.Proofs.Ytdldfdcedjmneaa.Pure

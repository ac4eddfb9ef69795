/- The declarations of Lxx8 that the claim Qn needs. -/
import Derived.Test.YtdldfdcedjmneaaQnLxx0
import Derived.Test.YtdldfdcedjmneaaQnLxx1
import Derived.Test.YtdldfdcedjmneaaQnLxx2
import Derived.Test.YtdldfdcedjmneaaQnLxx7
namespace Go.Proofs.Ytdldfdcedjmneaa.Lx
open Go.RowKit Go.Proofs.Ytdldfdcedjmneaa.Own Go.Proofs.YtdldfdcedjmneaaW.PrintWords Go.Proofs.YtdldfdcedjmneaaW.PrintLast Go.Proofs.YtdldfdcedjmneaaW.PrintMore
attribute [local go_sem] max2_int min2_int max_two min_two max_three min_three max_four min_four
set_option linter.unusedVariables false
set_option linter.unusedSimpArgs false
noncomputable def gamplaw05_StrapNormals.f (k : Nat) (a0 : Int) (l1 : List Int) : Option (Bool) := (gamplaw05_cut.f l1 24).bind fun t292 => ((strap_Normal.f a0 t292).bind fun bt295 => ((gampref05_Check.f k a0 t292 60).bind fun t301 => (if t301 = 0 then ((gampref05_Normal.f k a0 t292).bind fun bt302 => ((gampref05_SameBraid.f k bt295.1 bt295.2.1 bt302.1 bt302.2).bind fun t306 => (if t306 = true then (if bt295.2.2 = 0 then ((gamplaw05_lives.f k).bind fun t307 => (some t307)) else (some false)) else (some false)))) else ((gamplaw05_empty.f bt295.1 bt295.2.1).bind fun t308 => (if t308 = true then (if bt295.2.2 = t301 then ((gamplaw05_lives.f k).bind fun t309 => (some t309)) else (some false)) else (some false))))))
def gamplaw05_StrapNormals.Pure : Prop := ∀ (a0 : Int) (l1 : List Int), (Lit.int .i64 a0).wf = true → l1.length ≤ maxLen → l1.length * 8 ≤ 140737488351232 → (∀ x ∈ l1, (Lit.int .i64 x).wf = true) → ∃ k, gamplaw05_StrapNormals.f k a0 l1 = some true
end Go.Proofs.Ytdldfdcedjmneaa.Lx

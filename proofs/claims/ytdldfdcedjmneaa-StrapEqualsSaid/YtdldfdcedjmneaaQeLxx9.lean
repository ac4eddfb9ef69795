/- The declarations of Lxx9 that the claim Qe needs. -/
import Derived.Test.YtdldfdcedjmneaaQeLxx0
import Derived.Test.YtdldfdcedjmneaaQeLxx1
import Derived.Test.YtdldfdcedjmneaaQeLxx2
import Derived.Test.YtdldfdcedjmneaaQeLxx7
import Derived.Test.YtdldfdcedjmneaaQeTkP
namespace Go.Proofs.Ytdldfdcedjmneaa.Lx
open Go.RowKit Go.Proofs.Ytdldfdcedjmneaa.Own Go.Proofs.YtdldfdcedjmneaaW.PrintWords Go.Proofs.YtdldfdcedjmneaaW.PrintLast Go.Proofs.YtdldfdcedjmneaaW.PrintMore
attribute [local go_sem] max2_int min2_int max_two min_two max_three min_three max_four min_four
set_option linter.unusedVariables false
set_option linter.unusedSimpArgs false
noncomputable def gamplaw05_StrapEquals.j0 : Nat → Int → List Int → List Int → Bool → Int → Int → Option (Bool)
  | 0, _, _, _, _, _, _ => none
  | k + 1, x0, x7, x8, x9, x10, x11 => if x11 = 0 then ((gampref05_Normal.f k x0 x7).bind fun bt321 => ((gampref05_Normal.f k x0 x8).bind fun bt325 => ((gampref05_SameBraid.f k bt321.1 bt321.2 bt325.1 bt325.2).bind fun t329 => (if (x9 == t329) = true then (if x10 = 0 then ((gamplaw05_lives.f k).bind fun t330 => (some t330)) else (some false)) else (some false))))) else (if x9 = true then (some false) else (if x10 = x11 then ((gamplaw05_lives.f k).bind fun t320 => (some t320)) else (some false)))
noncomputable def gamplaw05_StrapEquals.f (k : Nat) (a0 : Int) (l1 : List Int) (l2 : List Int) : Option (Bool) := (gamplaw05_cut.f l1 20).bind fun t310 => ((gamplaw05_cut.f l2 20).bind fun t313 => ((strap_Equal.f a0 t310 t313).bind fun bt316 => ((gampref05_Check.f k a0 t310 60).bind fun t318 => (if t318 = 0 then ((gampref05_Check.f k a0 t313 60).bind fun t319 => (gamplaw05_StrapEquals.j0 k a0 t310 t313 bt316.1 bt316.2 t319)) else (gamplaw05_StrapEquals.j0 k a0 t310 t313 bt316.1 bt316.2 t318)))))
def gamplaw05_StrapEquals.Pure : Prop := ∀ (a0 : Int) (l1 : List Int) (l2 : List Int), (Lit.int .i64 a0).wf = true → l1.length ≤ maxLen → l1.length * 8 ≤ 140737488351232 → (∀ x ∈ l1, (Lit.int .i64 x).wf = true) → l2.length ≤ maxLen → l2.length * 8 ≤ 140737488351232 → (∀ x ∈ l2, (Lit.int .i64 x).wf = true) → ∃ k, gamplaw05_StrapEquals.f k a0 l1 l2 = some true
end Go.Proofs.Ytdldfdcedjmneaa.Lx

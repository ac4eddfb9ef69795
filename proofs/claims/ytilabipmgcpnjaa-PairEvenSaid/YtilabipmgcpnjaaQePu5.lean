/- The declarations of Pu5 that the claim Qe needs. -/
import Derived.Test.YtilabipmgcpnjaaQePu4
namespace Go.Proofs.Ytilabipmgcpnjaa.Pure
open Go.RowKit Go.Proofs.Ytilabipmgcpnjaa.Own Go.Proofs.Ytilabipmgcpnjaa.Fn Go.Proofs.YtilabipmgcpnjaaW.PrintWords Go.Proofs.YtilabipmgcpnjaaW.PrintLast Go.Proofs.YtilabipmgcpnjaaW.PrintMore
set_option linter.unusedVariables false
set_option linter.unusedSimpArgs false
instance (n i : Nat) (l : List Int) : Decidable (RowOk n i l) := by unfold RowOk; exact inferInstance
instance (Ls : List (List Int)) : Decidable (Valid Ls) := by unfold Valid; exact inferInstance
end Go.Proofs.Ytilabipmgcpnjaa.Pure

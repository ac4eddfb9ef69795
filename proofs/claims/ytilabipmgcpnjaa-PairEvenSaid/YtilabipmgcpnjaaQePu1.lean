/- The declarations of Pu1 that the claim Qe needs. -/
import Derived.Test.YtilabipmgcpnjaaQeFnx3
import Derived.KernelRfl
namespace Go.Proofs.Ytilabipmgcpnjaa.Pure
open Go.RowKit Go.Proofs.Ytilabipmgcpnjaa.Own Go.Proofs.Ytilabipmgcpnjaa.Fn Go.Proofs.YtilabipmgcpnjaaW.PrintWords Go.Proofs.YtilabipmgcpnjaaW.PrintLast
theorem lives_50 : gamplaw07_lives.f 50 = some true := by kernel_rfl
theorem lives_ev : Ev (fun k => gamplaw07_lives.f k) true := Ev.of gamplaw07_lives.mono lives_50
end Go.Proofs.Ytilabipmgcpnjaa.Pure

/- The declarations of Pu18 that the claim Qe needs. -/
import Derived.Test.YtilabipmgcpnjaaQePu17
import Derived.Test.YtilabipmgcpnjaaQeFnx4
namespace Go.Proofs.Ytilabipmgcpnjaa.Pure
open Go.RowKit Go.Proofs.Ytilabipmgcpnjaa.Own Go.Proofs.Ytilabipmgcpnjaa.Fn Go.Proofs.YtilabipmgcpnjaaW.PrintWords Go.Proofs.YtilabipmgcpnjaaW.PrintLast Go.Proofs.YtilabipmgcpnjaaW.PrintMore Go.Proofs.Ytilabipmgcpnjaa.Tan Go.Proofs.Ytilabipmgcpnjaa.Cyc
set_option linter.unusedVariables false
set_option linter.unusedSimpArgs false
theorem alone_l0 (n : Nat) (hn : n ≤ 1000000) : ∀ (d i : Nat), i + d = n → Ev (fun k => gampref07_Alone.l0 k (n : Int) (List.replicate i (-1)) (i : Int)) (List.replicate n (-1))
  | 0, i, hd => by
    have e : i = n := by omega
    subst e
    exact Ev.step (f := fun _ => some (List.replicate i (-1))) (fun k => by simp only [gampref07_Alone.l0]; rw [if_neg (by omega)]) (Ev.now _)
  | d + 1, i, hd => by
    refine Ev.step (fun k => ?_) (alone_l0 n hn d (i + 1) (by omega))
    simp only [gampref07_Alone.l0]
    rw [if_pos (by omega), if_pos (by rw [List.length_replicate]; omega), wrap_s (by omega), ← List.replicate_succ']
theorem alone_ev (n : Nat) (hn : n ≤ 1000000) : Ev (fun k => gampref07_Alone.f k (n : Int)) (List.replicate n (-1)) := alone_l0 n hn n 0 (by omega)
section
variable {n : Nat}
theorem getD_rep (n i : Nat) (hi : i < n) : (List.replicate n (-1 : Int)).getD i 0 = -1 := by rw [rep_neg, if_pos hi]
variable {Ls P : List (List Int)}
end
end Go.Proofs.Ytilabipmgcpnjaa.Pure

/- The declarations of Pu6 that the claim Qe needs. -/
import Derived.Test.YtilabipmgcpnjaaQePu5
namespace Go.Proofs.Ytilabipmgcpnjaa.Pure
open Go.RowKit Go.Proofs.Ytilabipmgcpnjaa.Own Go.Proofs.Ytilabipmgcpnjaa.Fn Go.Proofs.YtilabipmgcpnjaaW.PrintWords Go.Proofs.YtilabipmgcpnjaaW.PrintLast Go.Proofs.YtilabipmgcpnjaaW.PrintMore
set_option linter.unusedVariables false
set_option linter.unusedSimpArgs false
theorem pref_eq {Ls P : List (List Int)} (h : readF Ls = some P) {i a b : Nat} (hi : i < Ls.length) (ha : a < Ls.length) (hb : b < Ls.length) : prefF P i a b = decide (rkOf Ls i a < rkOf Ls i b) := by
  have hv := valid_of_read h
  obtain ⟨P', e, _, hP⟩ := readF_valid hv
  rw [h] at e
  injection e with e
  subst e
  unfold prefF
  by_cases hbi : b = i
  · rw [if_pos hbi, hbi]
    apply decide_eq_decide.2
    rw [hv.self hi]
    by_cases hai : a = i
    · rw [hai, hv.self hi]; omega
    · have := hv.lt hi ha hai
      omega
  · rw [if_neg hbi, hP i hi b (hv.has hi hb hbi)]
    have hb1 := hv.lt hi hb hbi
    by_cases hai : a = i
    · rw [hai, hv.self hi]
      simp
      omega
    · rw [hP i hi a (hv.has hi ha hai)]
      simp [hai]
end Go.Proofs.Ytilabipmgcpnjaa.Pure

/- The declarations of Pu12 that the claim Qa needs. -/
import Derived.Test.YtilabipmgcpnjaaQaPu11
import Derived.Test.YtilabipmgcpnjaaQaFnx15
namespace Go.Proofs.Ytilabipmgcpnjaa.Pure
open Go.RowKit Go.Proofs.Ytilabipmgcpnjaa.Own Go.Proofs.Ytilabipmgcpnjaa.Fn Go.Proofs.YtilabipmgcpnjaaW.PrintWords Go.Proofs.YtilabipmgcpnjaaW.PrintLast Go.Proofs.YtilabipmgcpnjaaW.PrintMore Go.Proofs.Ytilabipmgcpnjaa.Tan Go.Proofs.Ytilabipmgcpnjaa.Cyc
set_option linter.unusedVariables false
set_option linter.unusedSimpArgs false
theorem few_len12 (l0 : List (List Int)) : (fewF l0).length ≤ 25 := by unfold fewF; rw [List.length_map, List.length_take]; omega
theorem few_rows12 (l0 : List (List Int)) (i : Nat) : ((fewF l0).getD i []).length ≤ 25 := by
  unfold fewF
  rw [List.getD_eq_getElem?_getD, List.getElem?_map]
  cases (l0.take 25)[i]? with
  | none => simp
  | some l => simp only [Option.map_some, Option.getD_some, List.length_take]; omega
theorem PairPartitions (l0 : List (List Int)) : ∃ k, gamplaw07_PairPartitions.f k l0 = some true := by
  refine Ev.rounds ?_
  have hr := ranks_ev (fewF l0) (by have := few_len12 l0; omega) (fun i _ => by have := few_rows12 l0 i; omega)
  unfold gamplaw07_PairPartitions.f
  refine Ev.bind (few_ev l0) ?_
  generalize hL : fewF l0 = Ls at hr
  by_cases hv : Valid Ls
  · have h24 := hv.2.1
    obtain ⟨R, hs, e1, e2, _⟩ := partition_ev hv
    have hp := sol_perm hv hs
    have hh := holds_ev hv hp
    rw [(holdsB_iff hv hp).2 (sol_part hv hs)] at hh
    have hpe := perm_ev R Ls.length (by rw [hp.2.2]; omega) (by omega)
    rw [decide_eq_true hp] at hpe
    rw [decide_eq_true hv] at hr
    refine Ev.bind e1 (Ev.bind e2 (Ev.bind hr ?_))
    simp only [if_true]
    refine Ev.bind hpe ?_
    simp only [if_true]
    refine Ev.bind hh ?_
    simp only [if_true]
    refine Ev.bind lives_ev ?_
    have hph := pholds_some hv hp
    rw [(holdsB_iff hv hp).2 (sol_part hv hs)] at hph
    refine Ev.step (fun k => by
      simp only [gamplaw07_PairPartitions.j0, Bool.not_true, Bool.false_eq_true, if_false]
      rw [hph, Option.bind_some]
      simp only [if_true]
      rfl) (Ev.bind (oddref_ev hp (by omega)) (Ev.bind (odds_same_ev (perm2_of hp) (by omega)) (Ev.now _)))
  · rw [decide_eq_false hv] at hr
    refine Ev.congr (fun k => by
      rw [(partition_no hv k).1, (partition_no hv k).2.1, Option.bind_some, Option.bind_some]) (Ev.bind hr ?_)
    simp only [Bool.false_eq_true, if_false]
    refine Ev.congr (fun k => by rw [if_pos (by simp [wrap64]), if_pos trivial, if_pos trivial]) (Ev.bind lives_ev (Ev.now _))
end Go.Proofs.Ytilabipmgcpnjaa.Pure

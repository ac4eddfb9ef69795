/- The declarations of Pu13 that the claim Qa needs. -/
import Derived.Test.YtilabipmgcpnjaaQaPu11
import Derived.Test.YtilabipmgcpnjaaQaFnx16
namespace Go.Proofs.Ytilabipmgcpnjaa.Pure
open Go.RowKit Go.Proofs.Ytilabipmgcpnjaa.Own Go.Proofs.Ytilabipmgcpnjaa.Fn Go.Proofs.YtilabipmgcpnjaaW.PrintWords Go.Proofs.YtilabipmgcpnjaaW.PrintLast Go.Proofs.YtilabipmgcpnjaaW.PrintMore Go.Proofs.Ytilabipmgcpnjaa.Tan Go.Proofs.Ytilabipmgcpnjaa.Cyc
set_option linter.unusedVariables false
set_option linter.unusedSimpArgs false
theorem few_len13 (l0 : List (List Int)) : (fewF l0).length ≤ 25 := by unfold fewF; rw [List.length_map, List.length_take]; omega
theorem few_rows13 (l0 : List (List Int)) (i : Nat) : ((fewF l0).getD i []).length ≤ 25 := by
  unfold fewF
  rw [List.getD_eq_getElem?_getD, List.getElem?_map]
  cases (l0.take 25)[i]? with
  | none => simp
  | some l => simp only [Option.map_some, Option.getD_some, List.length_take]; omega
theorem bad_ev (r : List (List Int)) (m : List Int) (e : Int) (he : e ≠ 0) : Ev (fun k => gamplaw07_PairHolds.j0 k r m false e e) true := by
  refine Ev.step (f := fun k => (gamplaw07_lives.f k).bind fun t => some t) (fun k => by
    simp only [gamplaw07_PairHolds.j0]
    rw [if_neg he, if_neg (by simp), if_pos trivial]) (Ev.bind lives_ev (Ev.now _))
theorem PairHolds (l0 : List (List Int)) (l1 : List Int) : ∃ k, gamplaw07_PairHolds.f k l0 l1 = some true := by
  refine Ev.rounds ?_
  have hr := ranks_ev (fewF l0) (by have := few_len13 l0; omega) (fun i _ => by have := few_rows13 l0 i; omega)
  unfold gamplaw07_PairHolds.f
  refine Ev.bind (few_ev l0) ?_
  generalize hL : fewF l0 = Ls at hr
  have hlen : Ls.length ≤ 25 := hL ▸ few_len13 l0
  refine Ev.congr (fun k => by rw [show gamplaw07_cut.f l1 26 = some (l1.take 26) from cut_eq l1 26 (by omega), Option.bind_some]) ?_
  have hm26 : (l1.take 26).length ≤ 26 := by rw [List.length_take]; omega
  generalize l1.take 26 = m at hm26
  by_cases hv : Valid Ls
  · rw [decide_eq_true hv] at hr
    have hpe := perm_ev m Ls.length (by omega) (by omega)
    by_cases hp : IsPerm m Ls.length
    · rw [decide_eq_true hp] at hpe
      refine Ev.congr (fun k => by rw [pholds_some hv hp, Option.bind_some]) (Ev.bind hr ?_)
      simp only [if_true]
      refine Ev.bind hpe ?_
      simp only [if_true]
      refine Ev.step (fun k => by simp only [gamplaw07_PairHolds.j0, if_true]; rfl) (Ev.bind (holds_ev hv hp) ?_)
      simp only [bne_self_eq_false, Bool.false_eq_true, if_false]
      refine Ev.bind lives_ev ?_
      obtain ⟨R, hs, e1, e2, _⟩ := partition_ev hv
      refine Ev.step (fun k => by simp only [gamplaw07_PairHolds.j1, Bool.not_true, Bool.false_eq_true, if_false]; rfl) (Ev.bind e2 ?_)
      cases hb : holdsB Ls m with
      | false => simp only [Bool.false_eq_true, if_false]; exact Ev.now _
      | true =>
        simp only [if_true]
        have e := odds_uniq hv hp (sol_perm hv hs) ((holdsB_iff hv hp).1 hb) (sol_part hv hs)
        rw [← e]
        exact Ev.bind (oddref_ev hp (by omega)) (Ev.bind (odds_same_ev (perm2_of hp) (by omega)) (Ev.now _))
    · rw [decide_eq_false hp] at hpe
      refine Ev.congr (fun k => by rw [pholds_form hv hp, Option.bind_some]) (Ev.bind hr ?_)
      simp only [if_true]
      refine Ev.bind hpe ?_
      simp only [Bool.false_eq_true, if_false]
      exact bad_ev _ _ 2 (by omega)
  · rw [decide_eq_false hv] at hr
    refine Ev.congr (fun k => by rw [pholds_arg hv, Option.bind_some]) (Ev.bind hr ?_)
    simp only [Bool.false_eq_true, if_false]
    exact bad_ev _ _ 1 (by omega)
end Go.Proofs.Ytilabipmgcpnjaa.Pure

/- The law PairBlocks, as a plain statement. -/
import Derived.Test.YtilabipmgcpnjaaPu8
import Derived.Test.YtilabipmgcpnjaaFnx17
namespace Go.Proofs.Ytilabipmgcpnjaa.Pure
open Go.RowKit Go.Proofs.Ytilabipmgcpnjaa.Own Go.Proofs.Ytilabipmgcpnjaa.Fn Go.Proofs.YtilabipmgcpnjaaW.PrintWords Go.Proofs.YtilabipmgcpnjaaW.PrintLast Go.Proofs.YtilabipmgcpnjaaW.PrintMore
set_option linter.unusedVariables false
set_option linter.unusedSimpArgs false

theorem fewF_len (l0 : List (List Int)) : (fewF l0).length ≤ 25 := by unfold fewF; rw [List.length_map, List.length_take]; omega
theorem fewF_rows (l0 : List (List Int)) (i : Nat) : ((fewF l0).getD i []).length ≤ 25 := by
  unfold fewF
  rw [List.getD_eq_getElem?_getD, List.getElem?_map]
  cases (l0.take 25)[i]? with
  | none => simp
  | some l => simp only [Option.map_some, Option.getD_some, List.length_take]; omega

theorem j0_ok (r : List (List Int)) (m : List Int) (a b e : Int) (h : e ≠ 0) : Ev (fun k => gamplaw07_PairBlocks.j0 k r m 0 0 e e) true := by
  refine Ev.step (f := fun k => (gamplaw07_lives.f k).bind fun t => some t) (fun k => by simp only [gamplaw07_PairBlocks.j0, if_neg h, if_true]) ?_
  exact Ev.bind lives_ev (Ev.now _)

theorem PairBlocks (l0 : List (List Int)) (l1 : List Int) : ∃ k, gamplaw07_PairBlocks.f k l0 l1 = some true := by
  refine Ev.rounds ?_
  have hr := ranks_ev (fewF l0) (by have := fewF_len l0; omega) (fun i _ => by have := fewF_rows l0 i; omega)
  unfold gamplaw07_PairBlocks.f
  refine Ev.bind (few_ev l0) ?_
  generalize hL : fewF l0 = Ls at hr
  have hlen : Ls.length ≤ 25 := hL ▸ fewF_len l0
  refine Ev.congr (fun k => by rw [show gamplaw07_cut.f l1 26 = some (l1.take 26) from cut_eq l1 26 (by omega), Option.bind_some]) ?_
  obtain ⟨m, hm⟩ : ∃ m, l1.take 26 = m := ⟨_, rfl⟩
  rw [hm]
  by_cases hv : Valid Ls
  · obtain ⟨P, hP, _⟩ := readF_valid hv
    rw [decide_eq_true hv] at hr
    by_cases hma : matchingF Ls.length m = true
    · have hml : m.length = Ls.length := by
        unfold matchingF at hma
        split at hma
        · assumption
        · cases hma
      have hb : pair_Blocks.f Ls m = blkRes (blkOut P m Ls.length Ls.length 0) := by
        unfold pair_Blocks.f
        rw [hP]
        simp only [hma, if_true, hml]
      have hmat := matching_ev m Ls.length (by omega)
      rw [hma] at hmat
      have hbl := blocks_ev hP hma
      cases hz : blkOut P m Ls.length Ls.length 0 with
      | none =>
        rw [hz] at hb hbl
        refine Ev.congr (fun k => by rw [hb]; simp only [blkRes, Option.bind_some]; rfl) (Ev.bind hr ?_)
        simp only [if_true]
        refine Ev.bind hmat ?_
        simp only [if_true]
        refine Ev.step (fun k => by simp only [gamplaw07_PairBlocks.j0, if_true]; rfl) (Ev.bind hbl ?_)
        simp only [refRes, Bool.false_eq_true, if_false, if_true]
        exact Ev.bind lives_ev (Ev.now _)
      | some z =>
        rw [hz] at hb hbl
        refine Ev.congr (fun k => by rw [hb]; simp only [blkRes, Option.bind_some]; rfl) (Ev.bind hr ?_)
        simp only [if_true]
        refine Ev.bind hmat ?_
        simp only [if_true]
        refine Ev.step (fun k => by simp only [gamplaw07_PairBlocks.j0, if_true]; rfl) (Ev.bind hbl ?_)
        simp only [refRes, if_true]
        exact Ev.bind lives_ev (Ev.now _)
    · have hma2 : matchingF Ls.length m = false := by simpa using hma
      have hb : pair_Blocks.f Ls m = some (0, 0, 2) := by
        unfold pair_Blocks.f
        rw [hP]
        simp [hma2]
      have hmat := matching_ev m Ls.length (by omega)
      rw [hma2] at hmat
      refine Ev.congr (fun k => by rw [hb, Option.bind_some]) (Ev.bind hr ?_)
      simp only [if_true]
      refine Ev.bind hmat ?_
      simp only [Bool.false_eq_true, if_false]
      exact j0_ok _ _ 0 0 2 (by omega)
  · rw [decide_eq_false hv] at hr
    have hb : pair_Blocks.f Ls m = some (0, 0, 1) := by
      unfold pair_Blocks.f
      rw [readF_none hv]
    refine Ev.congr (fun k => by rw [hb, Option.bind_some]) (Ev.bind hr ?_)
    simp only [Bool.false_eq_true, if_false]
    exact j0_ok _ _ 0 0 1 (by omega)
end Go.Proofs.Ytilabipmgcpnjaa.Pure

/- The declarations of Pu19 that the claim Qb needs. -/
import Derived.Test.YtilabipmgcpnjaaQbPu18
import Derived.Test.YtilabipmgcpnjaaQbFnx6
namespace Go.Proofs.Ytilabipmgcpnjaa.Pure
open Go.RowKit Go.Proofs.Ytilabipmgcpnjaa.Own Go.Proofs.Ytilabipmgcpnjaa.Fn Go.Proofs.YtilabipmgcpnjaaW.PrintWords Go.Proofs.YtilabipmgcpnjaaW.PrintLast Go.Proofs.YtilabipmgcpnjaaW.PrintMore Go.Proofs.Ytilabipmgcpnjaa.Tan Go.Proofs.Ytilabipmgcpnjaa.Cyc
set_option linter.unusedVariables false
set_option linter.unusedSimpArgs false
theorem few_len19 (l0 : List (List Int)) : (fewF l0).length ≤ 25 := by unfold fewF; rw [List.length_map, List.length_take]; omega
theorem few_rows19 (l0 : List (List Int)) (i : Nat) : ((fewF l0).getD i []).length ≤ 25 := by
  unfold fewF
  rw [List.getD_eq_getElem?_getD, List.getElem?_map]
  cases (l0.take 25)[i]? with
  | none => simp
  | some l => simp only [Option.map_some, Option.getD_some, List.length_take]; omega
def ones (o : List (List Int)) : Bool := o.all fun l => decide ((l.length : Int) = 1)
theorem long_ones {p q : Nat → Nat} {n : Nat} (h : Perm2 n p q) : ones ((odds p n).map ints) = !longF ((odds p n).map ints) := by
  unfold ones longF
  rw [Bool.eq_iff_iff]
  simp only [List.all_eq_true, Bool.not_eq_true', List.any_eq_false, decide_eq_true_eq]
  have hodd : ∀ l ∈ (odds p n).map ints, l.length % 2 = 1 := by
    intro l hl
    obtain ⟨l', hl', rfl⟩ := List.mem_map.1 hl
    rw [odds_of_parties, List.mem_filter] at hl'
    rw [ints_len]
    simpa using hl'.2
  constructor
  · intro h1 l hl
    have := h1 l hl
    omega
  · intro h1 l hl
    have := h1 l hl
    have := hodd l hl
    omega
theorem pm_l0 (Ls : List (List Int)) (m : List Int) (e f : Int) (o : List (List Int)) (ho : o.length ≤ 100000) {r : Bool} : ∀ (d i : Nat) (b : Bool), i + d = o.length →
    Ev (fun k => if (Ls.length : Int) ≤ 7 then ((gampref07_Stable.f k Ls).bind fun t272 => (gamplaw07_PairMatches.j1 k Ls m e f (decide ((t272.length : Int) > 0)))) else (gamplaw07_PairMatches.j1 k Ls m e f (b && ones (o.drop i)))) r →
    Ev (fun k => gamplaw07_PairMatches.l0 k Ls m e o f b (i : Int)) r
  | 0, i, b, hd, h => by
    rw [List.drop_of_length_le (by omega)] at h
    have e1 : (b && ones []) = b := by cases b <;> rfl
    rw [e1] at h
    refine Ev.step (fun k => ?_) h
    simp only [gamplaw07_PairMatches.l0]
    rw [if_neg (by omega)]
  | d + 1, i, b, hd, h => by
    have hi : i < o.length := by omega
    have hg : rd_L1 o (i : Int) = o[i] := by rw [rdL_get, List.getD_eq_getElem?_getD, List.getElem?_eq_getElem hi]; rfl
    rw [List.drop_eq_getElem_cons hi] at h
    have ea : ones (o[i] :: o.drop (i + 1)) = (decide ((o[i].length : Int) = 1) && ones (o.drop (i + 1))) := rfl
    rw [ea] at h
    cases b with
    | true =>
      rw [Bool.true_and] at h
      have ih := pm_l0 Ls m e f o ho d (i + 1) (decide ((o[i].length : Int) = 1)) (by omega) h
      refine Ev.step (fun k => ?_) ih
      simp only [gamplaw07_PairMatches.l0]
      rw [if_pos (by omega), if_pos trivial, if_pos (by omega), hg, wrap_s (by omega)]; rfl
    | false =>
      have ih := pm_l0 Ls m e f o ho d (i + 1) false (by omega) (by simpa using h)
      refine Ev.step (fun k => ?_) ih
      simp only [gamplaw07_PairMatches.l0]
      rw [if_pos (by omega), if_neg (by simp), wrap_s (by omega)]
theorem PairMatches (l0 : List (List Int)) : ∃ k, gamplaw07_PairMatches.f k l0 = some true := by
  refine Ev.rounds ?_
  have hr := ranks_ev (fewF l0) (by have := few_len19 l0; omega) (fun i _ => by have := few_rows19 l0 i; omega)
  unfold gamplaw07_PairMatches.f
  refine Ev.bind (few_ev l0) ?_
  generalize hL : fewF l0 = Ls at hr
  by_cases hv : Valid Ls
  · have h24 := hv.2.1
    obtain ⟨P, hP, _⟩ := readF_valid hv
    obtain ⟨R, hs, _, e2, e3⟩ := partition_ev hv
    have hp := sol_perm hv hs
    have h2 := perm2_of hp
    have hol := odds_len (nx R) Ls.length
    rw [decide_eq_true hv] at hr
    refine Ev.bind e3 (Ev.bind e2 (Ev.bind hr ?_))
    simp only [if_true]
    have hj : ∀ (m : List Int) (e : Int) (b : Bool), Ev (fun k => gamplaw07_PairMatches.j2 k Ls m e b (!true)) true → Ev (fun k => gamplaw07_PairMatches.j1 k Ls m e 0 b) true := by
      intro m e b h
      refine Ev.step (fun k => by simp only [gamplaw07_PairMatches.j1]; rw [if_pos trivial]) (Ev.bind (f := fun k t275 => gamplaw07_PairMatches.j2 k Ls m e b (!t275)) lives_ev h)
    cases hlong : longF ((odds (nx R) Ls.length).map ints) with
    | false =>
      simp only [Bool.false_eq_true, if_false]
      obtain ⟨hm, hst, _⟩ := solo_ok hv hs hlong
      have hmat := matching_ev (soloF 0 R) Ls.length (by omega)
      rw [matching_iff.2 hm] at hmat
      have hbl := blocks_ev hP (matching_iff.2 hm)
      rw [(stable_iff hP hm).2 hst] at hbl
      have hgo : Ev (fun k => gamplaw07_PairMatches.j1 k Ls (soloF 0 R) 0 0 true) true := by
        refine hj _ _ _ (Ev.step (fun k => by simp only [gamplaw07_PairMatches.j2, Bool.not_true, Bool.false_eq_true, if_false, if_true]; rfl) (Ev.bind hmat ?_))
        simp only [if_true]
        exact Ev.bind hbl (Ev.now _)
      refine pm_l0 Ls _ _ _ _ (by rw [List.length_map]; omega) _ 0 true (Nat.zero_add _) ?_
      rw [List.drop_zero, long_ones h2, hlong]
      by_cases h7 : Ls.length ≤ 7
      · obtain ⟨S, s1, s2, s3⟩ := stable_ev hP h7
        have hin := (s2 _).2 ⟨hm, hst⟩
        have hpos : 0 < S.length := List.length_pos_of_mem hin
        refine Ev.congr (fun k => by rw [if_pos (by omega)]) (Ev.bind s3 ?_)
        rw [show decide ((S.length : Int) > 0) = true from decide_eq_true (by omega)]
        exact hgo
      · exact Ev.congr (fun k => by rw [if_neg (by omega)]; rfl) hgo
    | true =>
      simp only [if_true]
      have hgo : Ev (fun k => gamplaw07_PairMatches.j1 k Ls [] 5 0 false) true := by
        refine hj _ _ _ (Ev.step (f := fun _ => some true) (fun k => ?_) (Ev.now _))
        simp only [gamplaw07_PairMatches.j2, Bool.not_true, Bool.false_eq_true, if_false]
        rfl
      refine pm_l0 Ls _ _ _ _ (by rw [List.length_map]; omega) _ 0 true (Nat.zero_add _) ?_
      rw [List.drop_zero, long_ones h2, hlong]
      by_cases h7 : Ls.length ≤ 7
      · obtain ⟨S, s1, s2, s3⟩ := stable_ev hP h7
        have hnil : S = [] := by
          cases S with
          | nil => rfl
          | cons s S =>
            exfalso
            obtain ⟨hm, hst⟩ := (s2 s).1 List.mem_cons_self
            rw [long_no hv hs hm hst] at hlong
            cases hlong
        rw [hnil] at s3
        refine Ev.congr (fun k => by rw [if_pos (by omega)]) (Ev.bind s3 ?_)
        exact hgo
      · exact Ev.congr (fun k => by rw [if_neg (by omega)]; rfl) hgo
  · rw [decide_eq_false hv] at hr
    refine Ev.congr (fun k => by
      rw [(partition_no hv k).2.2, (partition_no hv k).2.1, Option.bind_some, Option.bind_some]) (Ev.bind hr ?_)
    simp only [Bool.false_eq_true, if_false]
    refine Ev.congr (fun k => by rw [if_pos (by simp [wrap64]), if_pos trivial, if_pos trivial]) (Ev.bind lives_ev (Ev.now _))
end Go.Proofs.Ytilabipmgcpnjaa.Pure

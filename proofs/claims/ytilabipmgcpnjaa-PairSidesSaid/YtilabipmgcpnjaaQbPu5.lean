/- The declarations of Pu5 that the claim Qb needs. -/
import Derived.Test.YtilabipmgcpnjaaQbPu4
namespace Go.Proofs.Ytilabipmgcpnjaa.Pure
open Go.RowKit Go.Proofs.Ytilabipmgcpnjaa.Own Go.Proofs.Ytilabipmgcpnjaa.Fn Go.Proofs.YtilabipmgcpnjaaW.PrintWords Go.Proofs.YtilabipmgcpnjaaW.PrintLast Go.Proofs.YtilabipmgcpnjaaW.PrintMore
set_option linter.unusedVariables false
set_option linter.unusedSimpArgs false
instance (n i : Nat) (l : List Int) : Decidable (RowOk n i l) := by unfold RowOk; exact inferInstance
instance (Ls : List (List Int)) : Decidable (Valid Ls) := by unfold Valid; exact inferInstance
theorem perm_row {n i : Nat} {l : List Int} (hi : i < n) : IsPerm (l ++ [(i : Int)]) n ↔ RowOk n i l := by
  unfold IsPerm RowOk
  rw [List.nodup_append, List.length_append, List.length_singleton]
  constructor
  · rintro ⟨⟨h1, _, h2⟩, h3, h4⟩
    refine ⟨h1, fun j hj => ?_, by omega⟩
    have h5 := h3 j (List.mem_append_left _ hj)
    exact ⟨h5.1, h5.2, h2 j hj _ (by simp)⟩
  · rintro ⟨h1, h2, h3⟩
    refine ⟨⟨h1, by simp, fun x hx y hy e => ?_⟩, fun x hx => ?_, by omega⟩
    · rw [List.mem_singleton] at hy
      exact (h2 x hx).2.2 (by rw [e, hy])
    · rcases List.mem_append.1 hx with hx | hx
      · exact ⟨(h2 x hx).1, (h2 x hx).2.1⟩
      · rw [List.mem_singleton] at hx
        omega
theorem ranks_loop (Ls : List (List Int)) (hl : Ls.length ≤ 1000) (hr : ∀ i, i < Ls.length → (Ls.getD i []).length ≤ 1000) : ∀ (d i : Nat), i + d = Ls.length → (∀ t, t < i → RowOk Ls.length t (Ls.getD t [])) →
    Ev (fun k => gampref07_Ranks.l0 k Ls (Ls.length : Int) (i : Int)) (decide (Valid Ls))
  | 0, i, hd, h => by
    have hi : i = Ls.length := by omega
    subst hi
    refine Ev.step (f := fun _ => some (decide ((1 : Int) ≤ (Ls.length : Int) ∧ (Ls.length : Int) ≤ 24))) (fun k => by simp only [gampref07_Ranks.l0]; rw [if_neg (by omega), in_eq, Option.bind_some]) ?_
    have : decide ((1 : Int) ≤ (Ls.length : Int) ∧ (Ls.length : Int) ≤ 24) = decide (Valid Ls) := by
      apply decide_eq_decide.2
      exact ⟨fun e => ⟨by omega, by omega, h⟩, fun e => by have := e.1; have := e.2.1; omega⟩
    rw [this]
    exact Ev.now _
  | d + 1, i, hd, h => by
    have hi : i < Ls.length := by omega
    have hri := hr i hi
    have hp := perm_ev (Ls.getD i [] ++ [(i : Int)]) Ls.length (by rw [List.length_append, List.length_singleton]; omega) (by omega)
    refine Ev.step (f := fun k => (gampref07_Permutation.f k (Ls.getD i [] ++ [(i : Int)]) (Ls.length : Int)).bind fun t => if t = true then gampref07_Ranks.l0 k Ls (Ls.length : Int) ((i + 1 : Nat) : Int) else some false) (fun k => by
      simp only [gampref07_Ranks.l0]
      rw [if_pos (by omega), Option.bind_some, if_pos (by omega), if_pos (by omega), rdL_get, if_pos (by simp only [List.length_nil]; omega), Option.bind_some, List.nil_append, if_pos (by omega), wrap_succ (by omega)]) ?_
    by_cases hk : IsPerm (Ls.getD i [] ++ [(i : Int)]) Ls.length
    · rw [decide_eq_true hk] at hp
      refine Ev.bind hp ?_
      simp only [if_true]
      refine ranks_loop Ls hl hr d (i + 1) (by omega) (fun t ht => ?_)
      by_cases e : t = i
      · subst e; exact (perm_row hi).1 hk
      · exact h t (by omega)
    · rw [decide_eq_false hk] at hp
      refine Ev.bind hp ?_
      simp only [Bool.false_eq_true, if_false]
      rw [decide_eq_false (fun hv => hk ((perm_row hi).2 (hv.2.2 i hi)))]
      exact Ev.now _
theorem ranks_ev (Ls : List (List Int)) (hl : Ls.length ≤ 1000) (hr : ∀ i, i < Ls.length → (Ls.getD i []).length ≤ 1000) : Ev (fun k => gampref07_Ranks.f k Ls) (decide (Valid Ls)) :=
  ranks_loop Ls hl hr Ls.length 0 (by omega) (fun t ht => by omega)
end Go.Proofs.Ytilabipmgcpnjaa.Pure

/- The declarations of Pu4 that the claim Qe needs. -/
import Derived.Test.YtilabipmgcpnjaaQePu3
namespace Go.Proofs.Ytilabipmgcpnjaa.Pure
open Go.RowKit Go.Proofs.Ytilabipmgcpnjaa.Own Go.Proofs.Ytilabipmgcpnjaa.Fn Go.Proofs.YtilabipmgcpnjaaW.PrintWords Go.Proofs.YtilabipmgcpnjaaW.PrintLast Go.Proofs.YtilabipmgcpnjaaW.PrintMore
set_option linter.unusedVariables false
set_option linter.unusedSimpArgs false
theorem in_eq (a b c : Int) : gampref07_in.f a b c = some (decide (b ≤ a ∧ a ≤ c)) := by
  unfold gampref07_in.f
  by_cases h : a ≥ b
  · rw [if_pos h]
    have h' : b ≤ a := h
    simp [h']
  · rw [if_neg h]
    have h' : ¬ b ≤ a := h
    simp [h']
def IsPerm (l : List Int) (n : Nat) : Prop := l.Nodup ∧ (∀ x ∈ l, 0 ≤ x ∧ x < (n : Int)) ∧ l.length = n
instance (l : List Int) (n : Nat) : Decidable (IsPerm l n) := by unfold IsPerm; exact inferInstance
theorem perm_l1 (l : List Int) (n : Nat) (hl : l.length ≤ 1000000) {i : Nat} (hi : i < l.length) {r : Bool} (hc : Ev (fun k => gampref07_Permutation.l0 k l (n : Int) ((i + 1 : Nat) : Int)) r) :
    ∀ (d j : Nat), j + d = i → Ev (fun k => gampref07_Permutation.l1 k l (n : Int) (i : Int) (j : Int)) (if l[i] ∈ (l.take i).drop j then false else r)
  | 0, j, hd => by
    have : j = i := by omega
    subst this
    rw [List.drop_of_length_le (by rw [List.length_take]; omega), if_neg (by simp)]
    exact Ev.step (fun k => by simp only [gampref07_Permutation.l1]; rw [if_neg (by omega), wrap_succ (by omega)]) hc
  | d + 1, j, hd => by
    have hj : j < i := by omega
    have hjl : j < (l.take i).length := by rw [List.length_take]; omega
    rw [List.drop_eq_getElem_cons hjl, List.getElem_take]
    by_cases he : l[j] = l[i]
    · rw [if_pos (by rw [he]; exact List.mem_cons_self)]
      refine Ev.step (f := fun _ => some false) (fun k => by simp only [gampref07_Permutation.l1]; rw [if_pos (by omega), if_pos (by omega), if_pos (by omega), if_pos (by omega), if_pos (by omega), rd_get (by omega), rd_get hi, if_pos he]) (Ev.now _)
    · have ih := perm_l1 l n hl hi hc d (j + 1) (by omega)
      have e : (l[i] ∈ l[j] :: (l.take i).drop (j + 1)) ↔ l[i] ∈ (l.take i).drop (j + 1) := by
        rw [List.mem_cons]
        exact ⟨fun h => h.elim (fun h => absurd h.symm he) id, .inr⟩
      simp only [e]
      refine Ev.step (fun k => by simp only [gampref07_Permutation.l1]; rw [if_pos (by omega), if_pos (by omega), if_pos (by omega), if_pos (by omega), if_pos (by omega), rd_get (by omega), rd_get hi, if_neg he, wrap_succ (by omega)]) ih
theorem perm_l0 (l : List Int) (n : Nat) (hl : l.length ≤ 1000000) (hn : n ≤ 1000000) : ∀ (d i : Nat), i + d = l.length → (l.take i).Nodup → (∀ x ∈ l.take i, 0 ≤ x ∧ x < (n : Int)) →
    Ev (fun k => gampref07_Permutation.l0 k l (n : Int) (i : Int)) (decide (IsPerm l n))
  | 0, i, hd, hnd, hr => by
    have hi : i = l.length := by omega
    subst hi
    rw [List.take_length] at hnd hr
    refine Ev.step (f := fun _ => some ((l.length : Int) == (n : Int))) (fun k => by simp only [gampref07_Permutation.l0]; rw [if_neg (by omega)]) ?_
    have : ((l.length : Int) == (n : Int)) = decide (IsPerm l n) := by
      rw [Bool.eq_iff_iff]
      simp only [beq_iff_eq, decide_eq_true_eq]
      exact ⟨fun h => ⟨hnd, hr, by omega⟩, fun h => by have := h.2.2; omega⟩
    rw [this]
    exact Ev.now _
  | d + 1, i, hd, hnd, hr => by
    have hi : i < l.length := by omega
    have hw : wrap64 ((n : Int) - 1) = (n : Int) - 1 := by unfold wrap64; omega
    have htk : l.take (i + 1) = l.take i ++ [l[i]] := List.take_succ_eq_append_getElem hi
    by_cases hin : 0 ≤ l[i] ∧ l[i] ≤ (n : Int) - 1
    · refine Ev.step (f := fun k => gampref07_Permutation.l1 k l (n : Int) (i : Int) ((0 : Nat) : Int)) (fun k => by
        simp only [gampref07_Permutation.l0]
        rw [if_pos (by omega), if_pos (by omega), rd_get hi, in_eq, hw, Option.bind_some, decide_eq_true hin, if_pos rfl]; rfl) ?_
      by_cases hm : l[i] ∈ l.take i
      · have hno : ¬ IsPerm l n := fun h => by
          have h1 := h.1
          rw [← List.take_append_drop (i + 1) l, htk] at h1
          have h2 := (List.nodup_append.1 h1).1
          exact (List.nodup_append.1 h2).2.2 _ hm _ (by simp) rfl
        rw [decide_eq_false hno]
        -- what comes behind doesn't matter; it ends, too
        have : ∀ r, (if l[i] ∈ (l.take i).drop 0 then false else r) = false := fun r => by rw [List.drop_zero, if_pos hm]
        have go : ∀ (d j : Nat), j + d = i → l[i] ∈ (l.take i).drop j → Ev (fun k => gampref07_Permutation.l1 k l (n : Int) (i : Int) (j : Int)) false := by
          intro d
          induction d with
          | zero =>
            intro j hj hm
            rw [List.drop_of_length_le (by rw [List.length_take]; omega)] at hm
            cases hm
          | succ d ih =>
            intro j hj hm
            have hjl : j < (l.take i).length := by rw [List.length_take]; omega
            rw [List.drop_eq_getElem_cons hjl, List.getElem_take] at hm
            by_cases he : l[j] = l[i]
            · exact Ev.step (f := fun _ => some false) (fun k => by simp only [gampref07_Permutation.l1]; rw [if_pos (by omega), if_pos (by omega), if_pos (by omega), if_pos (by omega), if_pos (by omega), rd_get (by omega), rd_get hi, if_pos he]) (Ev.now _)
            · refine Ev.step (fun k => by simp only [gampref07_Permutation.l1]; rw [if_pos (by omega), if_pos (by omega), if_pos (by omega), if_pos (by omega), if_pos (by omega), rd_get (by omega), rd_get hi, if_neg he, wrap_succ (by omega)]) (ih (j + 1) (by omega) ?_)
              rcases List.mem_cons.1 hm with h | h
              · exact absurd h.symm he
              · exact h
        exact go i 0 (by omega) (by rw [List.drop_zero]; exact hm)
      · have ih := perm_l0 l n hl hn d (i + 1) (by omega) (by
          rw [htk, List.nodup_append]
          refine ⟨hnd, by simp, fun x hx y hy e => ?_⟩
          rw [List.mem_singleton] at hy
          exact hm (by rw [← hy, ← e]; exact hx)) (fun x hx => by
          rw [htk] at hx
          rcases List.mem_append.1 hx with hx | hx
          · exact hr x hx
          · rw [List.mem_singleton] at hx
            rw [hx]; omega)
        have h1 := perm_l1 l n hl hi ih i 0 (by omega)
        rw [List.drop_zero, if_neg hm] at h1
        exact h1
    · have hno : ¬ IsPerm l n := fun h => hin (by have := h.2.1 _ (List.getElem_mem hi); omega)
      rw [decide_eq_false hno]
      refine Ev.step (f := fun _ => some false) (fun k => by
        simp only [gampref07_Permutation.l0]
        rw [if_pos (by omega), if_pos (by omega), rd_get hi, in_eq, hw, Option.bind_some, decide_eq_false hin, if_neg (by simp)]) (Ev.now _)
theorem perm_ev (l : List Int) (n : Nat) (hl : l.length ≤ 1000000) (hn : n ≤ 1000000) : Ev (fun k => gampref07_Permutation.f k l (n : Int)) (decide (IsPerm l n)) :=
  perm_l0 l n hl hn l.length 0 (by omega) (by simp) (by simp)
end Go.Proofs.Ytilabipmgcpnjaa.Pure

/- The declarations of Pu7 that the claim Qe needs. -/
import Derived.Test.YtilabipmgcpnjaaQePu6
import Derived.Test.YtilabipmgcpnjaaQeFnx5
namespace Go.Proofs.Ytilabipmgcpnjaa.Pure
open Go.RowKit Go.Proofs.Ytilabipmgcpnjaa.Own Go.Proofs.Ytilabipmgcpnjaa.Fn Go.Proofs.YtilabipmgcpnjaaW.PrintWords Go.Proofs.YtilabipmgcpnjaaW.PrintLast Go.Proofs.YtilabipmgcpnjaaW.PrintMore
set_option linter.unusedVariables false
set_option linter.unusedSimpArgs false
theorem matching_loop (m : List Int) (n : Nat) (hl : m.length = n) (hn : n ≤ 1000000) : ∀ (d i : Nat), i + d = n → Ev (fun k => gampref07_Matching.l0 k (n : Int) m (i : Int)) (matchLoop m (m.drop i) i)
  | 0, i, hd => by
    rw [List.drop_of_length_le (by omega)]
    exact Ev.step (f := fun _ => some true) (fun k => by simp only [gampref07_Matching.l0]; rw [if_neg (by omega)]) (Ev.now _)
  | d + 1, i, hd => by
    have hi : i < m.length := by omega
    have hw : wrap64 ((n : Int) - 1) = (n : Int) - 1 := by unfold wrap64; omega
    rw [List.drop_eq_getElem_cons hi]
    unfold matchLoop
    obtain ⟨x, hx⟩ : ∃ x, m[i] = x := ⟨_, rfl⟩
    have hrd : rd m (i : Int) = x := by rw [rd_get hi, hx]
    rw [hx]
    have ih := matching_loop m n hl hn d (i + 1) (by omega)
    by_cases hin : -1 ≤ x ∧ x ≤ (n : Int) - 1
    · by_cases hxi : x = (i : Int)
      · rw [if_pos ⟨by omega, .inr (.inr (.inl hxi))⟩]
        exact Ev.step (f := fun _ => some false) (fun k => by
          simp only [gampref07_Matching.l0]
          rw [if_pos (by omega), if_pos (by omega), if_pos (by omega), hrd, in_eq, hw, Option.bind_some, decide_eq_true hin, if_pos rfl, if_pos hxi]) (Ev.now _)
      · by_cases h0 : x ≥ 0
        · obtain ⟨q, rfl⟩ := Int.eq_ofNat_of_zero_le h0
          have hq : q < m.length := by omega
          have hrq : rd m (q : Int) = m.getD q 0 := by simp [rd]
          by_cases hm : m.getD q 0 = (i : Int)
          · rw [if_neg (by
              rintro ⟨_, h | h | h | h⟩
              · omega
              · omega
              · exact hxi h
              · exact h (by simpa using hm))]
            refine Ev.step (fun k => by
              simp only [gampref07_Matching.l0]
              rw [if_pos (by omega), if_pos (by omega), if_pos (by omega), hrd, in_eq, hw, Option.bind_some, decide_eq_true hin, if_pos rfl, if_neg hxi, if_pos h0, if_pos (by omega), if_pos (by omega), hrq, if_pos hm, wrap_succ (by omega)]) ih
          · rw [if_pos ⟨by omega, .inr (.inr (.inr (by simpa using hm)))⟩]
            exact Ev.step (f := fun _ => some false) (fun k => by
              simp only [gampref07_Matching.l0]
              rw [if_pos (by omega), if_pos (by omega), if_pos (by omega), hrd, in_eq, hw, Option.bind_some, decide_eq_true hin, if_pos rfl, if_neg hxi, if_pos h0, if_pos (by omega), if_pos (by omega), hrq, if_neg hm]) (Ev.now _)
        · rw [if_neg (by rintro ⟨h, _⟩; omega)]
          refine Ev.step (fun k => by
            simp only [gampref07_Matching.l0]
            rw [if_pos (by omega), if_pos (by omega), if_pos (by omega), hrd, in_eq, hw, Option.bind_some, decide_eq_true hin, if_pos rfl, if_neg hxi, if_neg h0, wrap_succ (by omega)]) ih
    · rw [if_pos ⟨by omega, by omega⟩]
      exact Ev.step (f := fun _ => some false) (fun k => by
        simp only [gampref07_Matching.l0]
        rw [if_pos (by omega), if_pos (by omega), if_pos (by omega), hrd, in_eq, hw, Option.bind_some, decide_eq_false hin, if_neg (by simp)]) (Ev.now _)
theorem matching_ev (m : List Int) (n : Nat) (hn : n ≤ 1000000) : Ev (fun k => gampref07_Matching.f k (n : Int) m) (matchingF n m) := by
  unfold gampref07_Matching.f matchingF
  by_cases h : m.length = n
  · rw [if_pos h]
    refine Ev.congr (f := fun k => gampref07_Matching.l0 k (n : Int) m ((0 : Nat) : Int)) (fun k => by rw [if_pos (by omega)]; rfl) ?_
    exact matching_loop m n h hn n 0 (by omega)
  · rw [if_neg h]
    exact Ev.congr (f := fun _ => some false) (fun k => by rw [if_neg (by omega)]) (Ev.now _)
end Go.Proofs.Ytilabipmgcpnjaa.Pure

/- The declarations of Pu8 that the claim Qe needs. -/
import Derived.Test.YtilabipmgcpnjaaQePu7
namespace Go.Proofs.Ytilabipmgcpnjaa.Pure
open Go.RowKit Go.Proofs.Ytilabipmgcpnjaa.Own Go.Proofs.Ytilabipmgcpnjaa.Fn Go.Proofs.YtilabipmgcpnjaaW.PrintWords Go.Proofs.YtilabipmgcpnjaaW.PrintLast Go.Proofs.YtilabipmgcpnjaaW.PrintMore
set_option linter.unusedVariables false
set_option linter.unusedSimpArgs false
def refRes : Option (Nat × Nat) → Int × Int × Bool
  | some z => (z.1, z.2, true)
  | none => (0, 0, false)
section
variable {Ls P : List (List Int)} {m : List Int}
theorem own_idx (hv : Valid Ls) (hm : matchingF Ls.length m = true) {i : Nat} (hi : i < Ls.length) : ∃ q : Nat, ownF m i = q ∧ q < Ls.length ∧ (Ls.getD i []).idxOf (rd m (i : Int)) = rkOf Ls i q := by
  obtain ⟨q, h1, h2⟩ := ownF_in hm hi
  refine ⟨q, h1, h2, ?_⟩
  have hr : rd m (i : Int) = m.getD i 0 := by simp [rd]
  rw [hr]
  unfold ownF at h1
  split at h1
  · rename_i hneg
    have : q = i := by omega
    subst this
    rw [hv.self hi]
    rw [List.idxOf_eq_length (fun hmem => by have := (hv.2.2 q hi).2.1 _ hmem; omega)]
    exact (hv.2.2 q hi).2.2
  · rw [h1]; rfl
theorem blocks_in (h : readF Ls = some P) (hm : matchingF Ls.length m = true) {i : Nat} (hi : i < Ls.length) {r : Int × Int × Bool} (hc : Ev (fun k => gampref07_Blocks.l0 k Ls m ((i + 1 : Nat) : Int)) r) :
    ∀ (d j : Nat), j + d = Ls.length → Ev (fun k => gampref07_Blocks.l1 k Ls m (i : Int) (j : Int)) (match blkIn P m i d j with | some z => refRes (some z) | none => r)
  | 0, j, hd => by
    have hv := valid_of_read h
    have := hv.2.1
    exact Ev.step (fun k => by simp only [gampref07_Blocks.l1]; rw [if_neg (by omega), wrap_succ (by omega)]) hc
  | d + 1, j, hd => by
    have hv := valid_of_read h
    have h24 := hv.2.1
    have hj : j < Ls.length := by omega
    have hml : m.length = Ls.length := by
      unfold matchingF at hm
      split at hm
      · assumption
      · cases hm
    have ih := blocks_in h hm hi hc d (j + 1) (by omega)
    obtain ⟨qi, o1, o2, o3⟩ := own_idx hv hm hi
    obtain ⟨qj, o4, o5, o6⟩ := own_idx hv hm hj
    have hri : rd m (i : Int) = m.getD i 0 := by simp [rd]
    have p1 := prefers_ev Ls hi (by rw [(hv.2.2 i hi).2.2]; omega) (j : Int) (rd m (i : Int))
    have p2 := prefers_ev Ls hj (by rw [(hv.2.2 j hj).2.2]; omega) (i : Int) (rd m (j : Int))
    rw [o3] at p1
    rw [o6] at p2
    unfold blkIn blkF
    rw [o1, o4]
    simp only [Int.toNat_natCast]
    simp only [pref_eq h hi hj o2, pref_eq h hj hi o5]
    by_cases he : rd m (i : Int) = (j : Int)
    · have hq : qi = j := by
        unfold ownF at o1
        rw [← hri, he, if_neg (by omega)] at o1
        omega
      subst hq
      simp only [Nat.lt_irrefl, decide_false, Bool.false_and, Bool.false_eq_true, if_false]
      exact Ev.step (fun k => by simp only [gampref07_Blocks.l1]; rw [if_pos (by omega), if_pos (by omega), if_pos (by omega), if_pos he, wrap_succ (by omega)]) ih
    · refine Ev.step (fun k => by simp only [gampref07_Blocks.l1]; rw [if_pos (by omega), if_pos (by omega), if_pos (by omega), if_neg he]) (Ev.bind p1 ?_)
      by_cases h1 : rkOf Ls i j < rkOf Ls i qi
      · have h1' : (Ls.getD i []).idxOf (j : Int) < rkOf Ls i qi := h1
        simp only [decide_eq_true h1', decide_eq_true h1, if_true, Bool.true_and]
        refine Ev.congr (fun k => by rw [if_pos (by omega), if_pos (by omega)]) (Ev.bind p2 ?_)
        by_cases h2 : rkOf Ls j i < rkOf Ls j qj
        · have h2' : (Ls.getD j []).idxOf (i : Int) < rkOf Ls j qj := h2
          simp only [decide_eq_true h2', decide_eq_true h2, if_true]
          exact Ev.now _
        · have h2' : ¬ (Ls.getD j []).idxOf (i : Int) < rkOf Ls j qj := h2
          simp only [decide_eq_false h2', decide_eq_false h2, Bool.false_eq_true, if_false]
          exact Ev.congr (fun k => by rw [wrap_succ (by omega)]) ih
      · have h1' : ¬ (Ls.getD i []).idxOf (j : Int) < rkOf Ls i qi := h1
        simp only [decide_eq_false h1', decide_eq_false h1, Bool.false_eq_true, if_false, Bool.false_and]
        exact Ev.congr (fun k => by rw [wrap_succ (by omega)]) ih
theorem blocks_out (h : readF Ls = some P) (hm : matchingF Ls.length m = true) : ∀ (d i : Nat), i + d = Ls.length → Ev (fun k => gampref07_Blocks.l0 k Ls m (i : Int)) (refRes (blkOut P m Ls.length d i))
  | 0, i, hd => Ev.step (f := fun _ => some (0, 0, false)) (fun k => by simp only [gampref07_Blocks.l0]; rw [if_neg (by omega)]) (Ev.now _)
  | d + 1, i, hd => by
    have h24 := (valid_of_read h).2.1
    have ih := blocks_out h hm d (i + 1) (by omega)
    have h1 := blocks_in h hm (i := i) (by omega) ih (Ls.length - (i + 1)) (i + 1) (by omega)
    unfold blkOut
    refine Ev.step (fun k => by simp only [gampref07_Blocks.l0]; rw [if_pos (by omega), wrap_succ (by omega)]) ?_ (f := fun k => gampref07_Blocks.l1 k Ls m (i : Int) ((i + 1 : Nat) : Int))
    cases hb : blkIn P m i (Ls.length - (i + 1)) (i + 1) with
    | none => simp only [hb] at h1; exact h1
    | some z => simp only [hb] at h1; exact h1
theorem blocks_ev (h : readF Ls = some P) (hm : matchingF Ls.length m = true) : Ev (fun k => gampref07_Blocks.f k Ls m) (refRes (blkOut P m Ls.length Ls.length 0)) :=
  blocks_out h hm Ls.length 0 (by omega)
end
end Go.Proofs.Ytilabipmgcpnjaa.Pure

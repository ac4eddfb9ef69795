/- The declarations of Pu3 that the claim Qe needs. -/
import Derived.Test.YtilabipmgcpnjaaQePu2
namespace Go.Proofs.Ytilabipmgcpnjaa.Pure
open Go.RowKit Go.Proofs.Ytilabipmgcpnjaa.Own Go.Proofs.Ytilabipmgcpnjaa.Fn Go.Proofs.YtilabipmgcpnjaaW.PrintWords Go.Proofs.YtilabipmgcpnjaaW.PrintLast Go.Proofs.YtilabipmgcpnjaaW.PrintMore
set_option linter.unusedVariables false
set_option linter.unusedSimpArgs false
theorem rd_get {l : List Int} {i : Nat} (hi : i < l.length) : rd l (i : Int) = l[i] := by simp [rd, List.getD_eq_getElem?_getD, List.getElem?_eq_getElem hi]
theorem rdL_get {l : List (List Int)} (i : Nat) : rd_L1 l (i : Int) = l.getD i [] := by simp [rd_L1, rdOf]
theorem idx_at {l : List Int} {v : Int} {i : Nat} (hi : i < l.length) (hb : v ∉ l.take i) (he : l[i] = v) : l.idxOf v = i := by
  have h := ixOf_at l v i hi hb (by rw [List.getD_eq_getElem?_getD, List.getElem?_eq_getElem hi]; exact he)
  unfold ixOf at h
  rw [if_pos (he ▸ List.getElem_mem hi)] at h
  omega
theorem at_loop (l : List Int) (v : Int) (hl : l.length ≤ 1000000) : ∀ (d i : Nat), i + d = l.length → v ∉ l.take i → Ev (fun k => gampref07_at.l0 k l v (i : Int)) (l.idxOf v : Int)
  | 0, i, hd, hb => by
    have hi : i = l.length := by omega
    subst hi
    rw [List.take_length] at hb
    refine Ev.step (f := fun _ => some (l.length : Int)) (fun k => by simp only [gampref07_at.l0]; rw [if_neg (by omega)]) ?_
    rw [List.idxOf_eq_length hb]
    exact Ev.now _
  | d + 1, i, hd, hb => by
    have hi : i < l.length := by omega
    by_cases he : l[i] = v
    · refine Ev.step (f := fun _ => some (i : Int)) (fun k => by simp only [gampref07_at.l0]; rw [if_pos (by omega), if_pos (by omega), rd_get hi, if_pos he]) ?_
      rw [idx_at hi hb he]
      exact Ev.now _
    · refine Ev.step (f := fun k => gampref07_at.l0 k l v ((i + 1 : Nat) : Int)) (fun k => by simp only [gampref07_at.l0]; rw [if_pos (by omega), if_pos (by omega), rd_get hi, if_neg he, wrap_succ (by omega)]) ?_
      refine at_loop l v hl d (i + 1) (by omega) ?_
      rw [List.take_succ_eq_append_getElem hi]
      simp only [List.mem_append, List.mem_singleton, not_or]
      exact ⟨hb, fun e => he e.symm⟩
theorem at_ev (l : List Int) (v : Int) (hl : l.length ≤ 1000000) : Ev (fun k => gampref07_at.f k l v) (l.idxOf v : Int) := at_loop l v hl l.length 0 (by omega) (by simp)
theorem prefers_ev (Ls : List (List Int)) {i : Nat} (hi : i < Ls.length) (hl : (Ls.getD i []).length ≤ 1000000) (a b : Int) :
    Ev (fun k => gampref07_Prefers.f k Ls (i : Int) a b) (decide ((Ls.getD i []).idxOf a < (Ls.getD i []).idxOf b)) := by
  refine Ev.congr (f := fun k => (gampref07_at.f k (Ls.getD i []) a).bind fun t => (gampref07_at.f k (Ls.getD i []) b).bind fun s => some (decide (t < s))) (fun k => ?_) ?_
  · unfold gampref07_Prefers.f
    rw [if_pos (by omega), if_pos (by omega), rdL_get]
  · refine Ev.bind (at_ev _ a hl) (Ev.bind (at_ev _ b hl) ?_)
    have : decide (((Ls.getD i []).idxOf a : Int) < ((Ls.getD i []).idxOf b : Int)) = decide ((Ls.getD i []).idxOf a < (Ls.getD i []).idxOf b) := by
      apply decide_eq_decide.2; omega
    rw [this]
    exact Ev.now _
end Go.Proofs.Ytilabipmgcpnjaa.Pure

/- The declarations of Pu2 that the claim Qb needs. -/
import Derived.Test.YtilabipmgcpnjaaQbPu1
import Derived.Test.YtilabipmgcpnjaaQbFnx1
import Derived.Test.YtilabipmgcpnjaaQbSl6
namespace Go.Proofs.Ytilabipmgcpnjaa.Pure
open Go.RowKit Go.Proofs.Ytilabipmgcpnjaa.Own Go.Proofs.Ytilabipmgcpnjaa.Fn Go.Proofs.YtilabipmgcpnjaaW.PrintWords Go.Proofs.YtilabipmgcpnjaaW.PrintLast Go.Proofs.YtilabipmgcpnjaaW.PrintMore
set_option linter.unusedVariables false
set_option linter.unusedSimpArgs false
theorem cut_eq (l : List Int) (n : Nat) (hn : n ≤ 1000000) : gamplaw07_cut.f l (n : Int) = some (l.take n) := by
  unfold gamplaw07_cut.f
  rw [Option.bind_some]
  have h1 : 0 ≤ mn (l.length : Int) n := by unfold mn; split <;> omega
  have h2 : mn (l.length : Int) n ≤ (l.length : Int) := by unfold mn; split <;> omega
  have h3 : (l.take (mn (l.length : Int) n).toNat) = l.take n := by
    unfold mn
    split
    · simp
    · rw [List.take_of_length_le (by omega), List.take_of_length_le (by omega)]
  rw [if_pos h1, if_pos h2, h3, if_pos (by simp only [List.length_nil, List.length_take]; omega), List.nil_append]
theorem wrap_succ {i : Nat} (h : i ≤ 1000000) : wrap64 ((i : Int) + 1) = ((i + 1 : Nat) : Int) := by unfold wrap64; omega
def fewF (l0 : List (List Int)) : List (List Int) := (l0.take 25).map fun l => l.take 25
theorem few_loop (l0 : List (List Int)) : ∀ (d i : Nat) (acc : List (List Int)), i + d = 25 → acc.length = i ∨ (l0.length ≤ i) → acc.length ≤ 25 → Ev (fun k => gamplaw07_few.l0 k l0 acc (i : Int)) (acc ++ ((l0.drop i).take d).map fun l => l.take 25)
  | d, i, acc, hd, hl, hlen => by
    by_cases hi : i < l0.length
    · cases d with
      | zero =>
        refine Ev.step (f := fun _ => some acc) (fun k => by simp only [gamplaw07_few.l0]; rw [if_pos (by omega), if_neg (by omega)]) ?_
        simpa using Ev.now acc
      | succ d =>
        have hg : rd_L1 l0 (i : Int) = l0[i] := by simp [rd_L1, rdOf, List.getD_eq_getElem?_getD, List.getElem?_eq_getElem hi]
        have hc := cut_eq l0[i] 25 (by omega)
        refine Ev.step (f := fun k => gamplaw07_few.l0 k l0 (acc ++ [l0[i].take 25]) ((i + 1 : Nat) : Int)) (fun k => by
          simp only [gamplaw07_few.l0]
          rw [if_pos (by omega), if_pos (by omega), if_pos (by omega), hg]
          rw [show gamplaw07_cut.f l0[i] 25 = some (l0[i].take 25) from hc, Option.bind_some, if_pos (by omega), wrap_succ (by omega)]) ?_
        have ih := few_loop l0 d (i + 1) (acc ++ [l0[i].take 25]) (by omega) (by rw [List.length_append, List.length_singleton]; omega) (by rw [List.length_append, List.length_singleton]; omega)
        rw [List.drop_eq_getElem_cons hi, List.take_succ_cons, List.map_cons]
        simpa using ih
    · refine Ev.step (f := fun _ => some acc) (fun k => by simp only [gamplaw07_few.l0]; rw [if_neg (by omega)]) ?_
      rw [List.drop_of_length_le (by omega)]
      simpa using Ev.now acc
theorem few_ev (l0 : List (List Int)) : Ev (fun k => gamplaw07_few.f k l0) (fewF l0) := by
  have := few_loop l0 25 0 [] rfl (.inl rfl) (by simp)
  simpa [fewF, gamplaw07_few.f] using this
end Go.Proofs.Ytilabipmgcpnjaa.Pure

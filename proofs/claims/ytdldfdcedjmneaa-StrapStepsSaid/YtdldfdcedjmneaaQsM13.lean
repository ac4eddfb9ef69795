/- The declarations of M13 that the claim Qs needs. -/
import Derived.Test.YtdldfdcedjmneaaQsM7
import Derived.Test.YtdldfdcedjmneaaQsM12
namespace Go.Proofs.Ytdldfdcedjmneaa.Pure
open Go.RowKit Go.Proofs.YtdldfdcedjmneaaW.PrintWords Go.Proofs.YtdldfdcedjmneaaW.PrintLast Go.Proofs.YtdldfdcedjmneaaW.PrintMore Go.Proofs.Ytdldfdcedjmneaa.Lx Go.Proofs.Ytdldfdcedjmneaa.Br
set_option linter.unusedVariables false
set_option linter.unusedSimpArgs false
section
variable {n : Nat}
theorem let_pos {k : Int} (h1 : 1 ≤ k) (h2 : k < n) : Letter n k := ⟨by omega, by omega, h2⟩
theorem let_sgn {k s : Int} (h1 : 1 ≤ k) (h2 : k < n) (hs : s = 1 ∨ s = -1) : Letter n (s * k) := by
 rcases hs with rfl | rfl
 ·exact ⟨by omega, by omega, by omega⟩
 ·exact ⟨by omega, by omega, by omega⟩
theorem near_s (hn : 2 ≤ n) {k s : Int} (h1 : 1 ≤ k) (h2 : k + 1 < n) (hs : s = 1 ∨ s = -1) : WEq n [s * k, s * (k + 1), s * k] [s * (k + 1), s * k, s * (k + 1)] := by
  obtain ⟨i, rfl⟩ : ∃ i : Nat, k = (i : Int) + 1 := ⟨(k - 1).toNat, by omega⟩
  have h := weq_near (n := n) hn (i := i) (by omega)
  rcases hs with rfl | rfl
  · simp only [Int.one_mul, show (i : Int) + 1 + 1 = (i : Int) + 2 by omega]
    exact h
  · have hU : Word n [(i : Int) + 1, (i : Int) + 2, (i : Int) + 1] := fun k hk => by
      simp only [List.mem_cons, List.not_mem_nil, or_false] at hk
      rcases hk with rfl | rfl | rfl <;> exact ⟨by omega, by omega, by omega⟩
    have hV : Word n [(i : Int) + 2, (i : Int) + 1, (i : Int) + 2] := fun k hk => by
      simp only [List.mem_cons, List.not_mem_nil, or_false] at hk
      rcases hk with rfl | rfl | rfl <;> exact ⟨by omega, by omega, by omega⟩
    have h3 := WEq.inv hn hU hV h
    have e1 : invL [(i : Int) + 1, (i : Int) + 2, (i : Int) + 1] = [-((i : Int) + 1), -((i : Int) + 2), -((i : Int) + 1)] := rfl
    have e2 : invL [(i : Int) + 2, (i : Int) + 1, (i : Int) + 2] = [-((i : Int) + 2), -((i : Int) + 1), -((i : Int) + 2)] := rfl
    rw [e1, e2] at h3
    simp only [show (-1 : Int) * ((i : Int) + 1) = -((i : Int) + 1) by omega, show (-1 : Int) * ((i : Int) + 1 + 1) = -((i : Int) + 2) by omega]
    exact h3
theorem far_s (hn : 2 ≤ n) {k j s : Int} (h1 : 1 ≤ k) (h2 : k < n) (h3 : 1 ≤ j) (h4 : j < n) (hf : k + 2 ≤ j ∨ j + 2 ≤ k) (hs : s = 1 ∨ s = -1) : WEq n [s * k, j] [j, s * k] := by
 obtain ⟨i, rfl⟩ : ∃ i : Nat, k = (i : Int) + 1 := ⟨(k - 1).toNat, by omega⟩
 obtain ⟨m, rfl⟩ : ∃ m : Nat, j = (m : Int) + 1 := ⟨(j - 1).toNat, by omega⟩
 have h := weq_far (n := n) hn (i := i) (j := m) (by omega) (by omega) (by omega)
 rcases hs with rfl | rfl
 ·simp only [Int.one_mul]; exact h
 ·have h5 := weq_swap hn (let_pos h1 h2) (let_pos h3 h4) h
  simp only [show (-1 : Int) * ((i : Int) + 1) = -((i : Int) + 1) by omega]
  exact h5
theorem cancel_s (hn : 2 ≤ n) {k s : Int} (h1 : 1 ≤ k) (h2 : k < n) (hs : s = 1 ∨ s = -1) : WEq n [s * k, -s * k] [] := by
 have h := weq_cancel hn (let_sgn h1 h2 hs)
 rw [Int.neg_mul]
 exact h
theorem word_of3 {a m b : List Int} (ha : Word n a) (hm : Word n m) (hb : Word n b) : Word n (a ++ m ++ b) := fun k hk => by
 rcases List.mem_append.1 hk with hk | hk
 ·rcases List.mem_append.1 hk with hk | hk
  ·exact ha k hk
  ·exact hm k hk
 ·exact hb k hk
/-- Two middles of the same braid. -/
theorem mid_same (h1 : 2 ≤ n) (h2 : n ≤ 8) {a b U V : List Int} (ha : Word n a) (hb : Word n b) (hU : Word n U) (hV : Word n V) (hl : a.length + b.length ≤ 40) (lu : U.length ≤ 3) (lv : V.length ≤ 3) (h : WEq n U V) :
    ∃ k, gamplaw05_same.f k (n : Int) (a ++ U ++ b) (a ++ V ++ b) = some true :=
  (same_law h1 h2 (word_of3 ha hU hb) (word_of3 ha hV hb) (by simp only [List.length_append]; omega) (by simp only [List.length_append]; omega) (WEq.mid h1 ha hb h)).rounds
theorem join3 {a m b : List Int} (h1 : a.length ≤ 1000) (h2 : m.length ≤ 1000) (h3 : b.length ≤ 1000) : ∃ k, gamplaw05_joined.f k [a, m, b] = some (a ++ m ++ b) := by
 have j := joined_all (L := [a, m, b]) (fun x hx => by simp only [List.mem_cons, List.not_mem_nil, or_false] at hx; rcases hx with rfl | rfl | rfl <;> omega) (by simp)
 simp only [List.flatten_cons, List.flatten_nil, List.append_nil, ← List.append_assoc] at j
 exact j.rounds
end
end Go.Proofs.Ytdldfdcedjmneaa.Pure

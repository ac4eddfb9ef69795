/- The declarations of M3 that the claim Qe needs. -/
import Derived.Test.YtdldfdcedjmneaaQeTkP
import Derived.Test.YtdldfdcedjmneaaQeLxx0
import Derived.Test.YtdldfdcedjmneaaQeLxx1
import Derived.Test.YtdldfdcedjmneaaQeLxx2
import Derived.Test.YtdldfdcedjmneaaQeLxx13
import Derived.Test.YtdldfdcedjmneaaQeLxx3
import Derived.Test.YtdldfdcedjmneaaQeM2
namespace Go.Proofs.Ytdldfdcedjmneaa.Pure
open Go.RowKit Go.Proofs.YtdldfdcedjmneaaW.PrintWords Go.Proofs.YtdldfdcedjmneaaW.PrintLast Go.Proofs.YtdldfdcedjmneaaW.PrintMore Go.Proofs.Ytdldfdcedjmneaa.Lx Go.Proofs.Ytdldfdcedjmneaa.Br
open Go.Proofs.Ytdldfdcedjmneaa.Own (lst lst_len lst_getD lst_rd lst_inj lst_of getD_set' wrap_s rd_nat checkF checkF_zero badL)
set_option linter.unusedVariables false
set_option linter.unusedSimpArgs false
theorem chk_l0 {a0 : Int} (h1 : 2 ≤ a0) (h2 : a0 ≤ 8) {xs : List Int} (hm : xs.length ≤ 100000) (hw : ∀ k ∈ xs, -9223372036854775808 ≤ k ∧ k ≤ 9223372036854775807) : ∀ (d i : Nat), i + d = xs.length →
  Ev (fun k => gampref05_Check.l0 k a0 xs 60 (i : Int)) (if (xs.drop i).any (badL a0) = true then 2 else if 60 < xs.length then 3 else 0)
 | 0, i, hd => by
  rw [List.drop_of_length_le (by omega)]
  refine Ev.step (f := fun _ => some (if 60 < xs.length then (3 : Int) else 0)) (fun k => ?_) (Ev.now _)
  simp only [gampref05_Check.l0]
  rw [if_neg (by omega)]
  by_cases h : 60 < xs.length
  ·rw [if_pos h, if_pos (by omega)]
  ·rw [if_neg h, if_neg (by omega)]
 | d + 1, i, hd => by
  have hi : i < xs.length := by omega
  have e1 : rd xs (i : Int) = xs[i] := by rw [rd_nat, List.getD_eq_getElem?_getD, List.getElem?_eq_getElem hi]; rfl
  rw [List.drop_eq_getElem_cons hi, List.any_cons]
  have e2 : wrap64 (1 - a0) = 1 - a0 := by unfold wrap64; omega
  have e3 : wrap64 (a0 - 1) = a0 - 1 := by unfold wrap64; omega
  by_cases hb : badL a0 xs[i] = true
  ·rw [hb, Bool.true_or, if_pos rfl]
   refine Ev.step (f := fun _ => some 2) (fun k => ?_) (Ev.now _)
   simp only [gampref05_Check.l0, gampref05_in.f]
   rw [if_pos (by omega), if_pos (by omega), e1, e2, e3]
   have h3 := of_decide_eq_true hb
   by_cases h4 : xs[i] ≥ 1 - a0
   ·rw [if_pos h4, Option.bind_some]
    by_cases h5 : xs[i] ≤ a0 - 1
    ·rw [decide_eq_true h5, if_pos rfl, if_pos (by omega)]
    ·rw [decide_eq_false h5, if_neg (by decide)]
   ·rw [if_neg h4, Option.bind_some, if_neg (by decide)]
  ·have hb' : badL a0 xs[i] = false := by simpa using hb
   rw [hb', Bool.false_or]
   have h3 := of_decide_eq_false hb'
   refine Ev.step (fun k => ?_) (chk_l0 h1 h2 hm hw d (i + 1) (by omega))
   simp only [gampref05_Check.l0, gampref05_in.f]
   rw [if_pos (by omega), if_pos (by omega), e1, e2, e3, if_pos (by omega), Option.bind_some, decide_eq_true (show xs[i] ≤ a0 - 1 by omega), if_pos rfl, if_neg (by omega), wrap_s (by omega)]
theorem check_ev (a0 : Int) {xs : List Int} (hm : xs.length ≤ 100000) (hw : ∀ k ∈ xs, -9223372036854775808 ≤ k ∧ k ≤ 9223372036854775807) : Ev (fun k => gampref05_Check.f k a0 xs 60) (checkF a0 xs) := by
 unfold gampref05_Check.f checkF gampref05_in.f
 by_cases h : a0 < 2 ∨ 8 < a0
 ·rw [if_pos h]
  refine Ev.congr (f := fun _ => some 1) (fun k => ?_) (Ev.now _)
  by_cases h2 : a0 ≥ 2
  ·rw [if_pos h2, Option.bind_some, decide_eq_false (by omega), if_neg (by decide)]
  ·rw [if_neg h2, Option.bind_some, if_neg (by decide)]
 ·rw [if_neg h]
  refine Ev.congr (fun k => ?_) (chk_l0 (by omega) (by omega) hm hw xs.length 0 (by omega))
  rw [if_pos (by omega), Option.bind_some, decide_eq_true (by omega), if_pos rfl]
  rfl
section
variable {n : Nat}
variable {xs : List Int}
variable {t : Pm}
end
theorem cut_eq (l : List Int) (a : Nat) (ha : a ≤ 60) (hl : l.length ≤ maxLen) : ∃ m : Nat, gamplaw05_cut.f l (a : Int) = some (l.take m) ∧ m ≤ 61 := by
 unfold gamplaw05_cut.f
 by_cases h : (l.length : Int) > 60
 ·refine ⟨61, ?_, by omega⟩
  rw [if_pos h, Option.bind_some]
  have e : mn (l.length : Int) 61 = ((61 : Nat) : Int) := by unfold mn; omega
  rw [e, if_pos (by omega), if_pos (by omega), if_pos (by rw [List.length_take]; simp only [List.length_nil]; omega)]
  rfl
 ·refine ⟨a, ?_, by omega⟩
  rw [if_neg h, Option.bind_some]
  by_cases h2 : l.length ≤ a
  ·have e : mn (l.length : Int) (a : Int) = ((l.length : Nat) : Int) := by unfold mn; omega
   rw [e, if_pos (by omega), if_pos (by omega), if_pos (by rw [List.length_take]; simp only [List.length_nil]; omega), Int.toNat_natCast, List.take_of_length_le (Nat.le_refl _), List.take_of_length_le h2]
   rfl
  ·have e : mn (l.length : Int) (a : Int) = (a : Int) := by unfold mn; omega
   rw [e, if_pos (by omega), if_pos (by omega), if_pos (by rw [List.length_take]; simp only [List.length_nil]; omega), Int.toNat_natCast]
   rfl
end Go.Proofs.Ytdldfdcedjmneaa.Pure

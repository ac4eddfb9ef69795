/- The declarations of M5 that the claim Qv needs. -/
import Derived.Test.YtdldfdcedjmneaaQvLxx0
import Derived.Test.YtdldfdcedjmneaaQvLxx1
import Derived.Test.YtdldfdcedjmneaaQvLxx2
import Derived.Test.YtdldfdcedjmneaaQvLxx28
import Derived.Test.YtdldfdcedjmneaaQvM4
namespace Go.Proofs.Ytdldfdcedjmneaa.Pure
open Go.RowKit Go.Proofs.YtdldfdcedjmneaaW.PrintWords Go.Proofs.YtdldfdcedjmneaaW.PrintLast Go.Proofs.YtdldfdcedjmneaaW.PrintMore Go.Proofs.Ytdldfdcedjmneaa.Lx Go.Proofs.Ytdldfdcedjmneaa.Br
open Go.Proofs.Ytdldfdcedjmneaa.Own (lst lst_len lst_getD lst_rd lst_inj lst_of getD_set' wrap_s rd_nat checkF checkF_zero badL normF normL normF_nf normF_eq strap_Normal.f)
set_option linter.unusedVariables false
set_option linter.unusedSimpArgs false
section
variable {n : Nat} {t : Pm}
def invL (xs : List Int) : List Int := (xs.map fun k => -k).reverse
theorem word_inv {xs : List Int} (h : Word n xs) : Word n (invL xs) := fun k hk => by
 unfold invL at hk
 rw [List.mem_reverse, List.mem_map] at hk
 obtain ⟨j, hj, rfl⟩ := hk
 obtain ⟨h1, h2, h3⟩ := h j hj
 exact ⟨by omega, by omega, by omega⟩
theorem rawW_inv (hn : 2 ≤ n) : ∀ {xs : List Int} {x : Int × List Pm}, Word n xs → AllSup n x.2 → SEq n (rawW n x (xs ++ invL xs)) x
 | [], x, hw, hs => SEq.refl hs
 | k :: xs, x, hw, hs => by
  have hk := hw k (by simp)
  have hxs : Word n xs := fun j hj => hw j (by simp [hj])
  have e1 : invL (k :: xs) = invL xs ++ [-k] := by unfold invL; rw [List.map_cons, List.reverse_cons]
  have e2 : rawW n x (k :: xs ++ invL (k :: xs)) = rawStep n (rawW n (rawStep n x k) (xs ++ invL xs)) (-k) := by
   rw [e1, List.cons_append, ← List.append_assoc]
   show rawW n (rawStep n x k) (xs ++ invL xs ++ [-k]) = _
   rw [rawW_app]; rfl
  rw [e2]
  have hk2 : Letter n (-k) := ⟨by have := hk.1; omega, by have := hk.2.2; omega, by have := hk.2.1; omega⟩
  exact (raw_seq hn hk2 (rawW_inv hn (xs := xs) hxs (raw_sup hk hs))).trans hn (cancel hn hk hs)
/-- The power goes down by one a letter at most. -/
theorem rawW_low {w : List Int} : ∀ {x : Int × List Pm}, x.1 - w.length ≤ (rawW n x w).1 ∧ (rawW n x w).1 ≤ x.1 := by
 induction w with
 | nil => intro x; exact ⟨by simp [rawW], by simp [rawW]⟩
 | cons k w ih =>
  intro x
  have h := ih (x := rawStep n x k)
  have e : x.1 - 1 ≤ (rawStep n x k).1 ∧ (rawStep n x k).1 ≤ x.1 := by
   unfold rawStep
   by_cases hp : 0 < k
   ·rw [if_pos hp]; simp only; omega
   ·rw [if_neg hp]; simp only; omega
  show _ ≤ (rawW n (rawStep n x k) w).1 ∧ (rawW n (rawStep n x k) w).1 ≤ _
  rw [List.length_cons]
  omega
theorem sgn_le : ∀ (w : List Int), -(w.length : Int) ≤ (w.map sgn).sum ∧ (w.map sgn).sum ≤ w.length
 | [] => by simp
 | k :: w => by
  have := sgn_le w
  rw [List.map_cons, List.sum_cons, List.length_cons]
  by_cases h : 0 < k
  ·have e : sgn k = 1 := by unfold sgn; rw [if_pos h]
   rw [e]; omega
  ·have e : sgn k = -1 := by unfold sgn; rw [if_neg h]
   rw [e]; omega
theorem tri_pos (h1 : 2 ≤ n) (h2 : n ≤ 8) : 1 ≤ tri n ∧ tri n ≤ 28 := by
  have : n = 2 ∨ n = 3 ∨ n = 4 ∨ n = 5 ∨ n = 6 ∨ n = 7 ∨ n = 8 := by omega
  rcases this with rfl | rfl | rfl | rfl | rfl | rfl | rfl <;> decide
end
end Go.Proofs.Ytdldfdcedjmneaa.Pure

/- The declarations of M6 that the claim Qe needs. -/
import Derived.Test.YtdldfdcedjmneaaQeTkP
import Derived.Test.YtdldfdcedjmneaaQeLxx0
import Derived.Test.YtdldfdcedjmneaaQeLxx2
import Derived.Test.YtdldfdcedjmneaaQeLxx1
import Derived.Test.YtdldfdcedjmneaaQeM4
namespace Go.Proofs.Ytdldfdcedjmneaa.Pure
open Go.RowKit Go.Proofs.YtdldfdcedjmneaaW.PrintWords Go.Proofs.YtdldfdcedjmneaaW.PrintLast Go.Proofs.YtdldfdcedjmneaaW.PrintMore Go.Proofs.Ytdldfdcedjmneaa.Lx Go.Proofs.Ytdldfdcedjmneaa.Br
open Go.Proofs.Ytdldfdcedjmneaa.Own (lst lst_len lst_getD lst_rd lst_inj lst_of getD_set' wrap_s rd_nat checkF checkF_zero badL normF normL normF_nf normF_eq strap_Normal.f strap_Equal.f)
set_option linter.unusedVariables false
set_option linter.unusedSimpArgs false
section
variable {n : Nat} {t : Pm}
theorem swap_lst (ht : Sup n t) {i : Nat} (hi : i + 1 < n) : ((lst n t).set i (t.f (i + 1) : Int)).set (i + 1) (t.f i : Int) = lst n (t.L i) := by
 refine lst_of (by rw [List.length_set, List.length_set, lst_len]) fun x hx => ?_
 show _ = ((t.f (sw i x) : Nat) : Int)
 rw [getD_set', getD_set', List.length_set, lst_len]
 by_cases h1 : i + 1 = x
 ·rw [if_pos ⟨h1, hx⟩, ← h1, sw_r]
 ·rw [if_neg (fun h => h1 h.1)]
  by_cases h2 : i = x
  ·rw [if_pos ⟨h2, hx⟩, ← h2, sw_l]
  ·rw [if_neg (fun h => h2 h.1), lst_getD hx, sw_o (fun h => h2 h.symm) (fun h => h1 h.symm)]
theorem tot_len : ∀ (M : List Pm), Rgt n M → AllSup n M → M.length ≤ tot n M := by
 intro M
 induction M with
 | nil => intro _ _; simp [tot]
 | cons x M ih =>
  intro hr hsx
  have h11 := ih hr.2.2 (fun t ht => hsx t (by simp [ht]))
  rw [tot, List.length_cons]
  have h12 : 1 ≤ inv n x := by
   refine Classical.byContradiction fun hc => ?_
   exact hr.1 (eq_one (hsx x (by simp)) fun i hi hbx => by have := inv_L (hsx x (by simp)) hi hbx; omega)
  omega
theorem rawW_low' {w : List Int} : ∀ {x : Int × List Pm}, x.1 - w.length ≤ (rawW n x w).1 := by
 induction w with
 | nil => intro x; simp [rawW]
 | cons k w ih =>
  intro x
  have h := ih (x := rawStep n x k)
  have e : x.1 - 1 ≤ (rawStep n x k).1 := by
   unfold rawStep
   by_cases hp : 0 < k
   ·rw [if_pos hp]; simp only; omega
   ·rw [if_neg hp]; simp only; omega
  show _ ≤ (rawW n (rawStep n x k) w).1
  rw [List.length_cons]
  omega
theorem sgn_le' : ∀ (w : List Int), (w.map sgn).sum ≤ w.length
 | [] => by simp
 | k :: w => by
  have := sgn_le' w
  rw [List.map_cons, List.sum_cons, List.length_cons]
  by_cases h : 0 < k
  ·have e : sgn k = 1 := by unfold sgn; rw [if_pos h]
   rw [e]; omega
  ·have e : sgn k = -1 := by unfold sgn; rw [if_neg h]
   rw [e]; omega
/-- How long the normal form of a word is, at most. -/
theorem norm_len (h1 : 2 ≤ n) (h2 : n ≤ 8) {xs : List Int} (hw : Word n xs) (hl : xs.length ≤ 60) : (normF n xs).2.length ≤ 10000 := by
 have hnf := normF_nf (n := n) hw
 have hlen := tot_len (normF n xs).2 hnf.irr.rgt hnf.sup.2
 have h4 := hnf.wgt
 have h5 := rawW_wgt (n := n) (w := xs) (x := (0, [])) hw AllSup.nil
 have h6 : wgt n ((normF n xs).1, (normF n xs).2) = (normF n xs).1 * (tri n : Int) + (tot n (normF n xs).2 : Int) := rfl
 have h7 : wgt n ((rawW n (0, []) xs).1, (rawW n (0, []) xs).2) = wgt n (rawW n (0, []) xs) := rfl
 have h8 : wgt n (0, []) = 0 := by unfold wgt; simp [tot]
 rw [h6, h7, h5, h8] at h4
 obtain ⟨a, _, hpa⟩ := hnf.ex
 have hlow := rawW_low' (n := n) (w := xs) (x := (0, []))
 have hsg := sgn_le' xs
 have ht : 1 ≤ tri n ∧ tri n ≤ 28 := by
  have : n = 2 ∨ n = 3 ∨ n = 4 ∨ n = 5 ∨ n = 6 ∨ n = 7 ∨ n = 8 := by omega
  rcases this with rfl | rfl | rfl | rfl | rfl | rfl | rfl <;> decide
 generalize (normF n xs).1 = p at *
 have hp1 : -60 ≤ p := by simp only at hlow; omega
 by_cases hp0 : 0 ≤ p
 ·have := Int.mul_nonneg hp0 (show (0 : Int) ≤ (tri n : Int) by omega); omega
 ·have h10 : (-p) * (tri n : Int) ≤ (-p) * 28 := Int.mul_le_mul_of_nonneg_left (by omega) (by omega)
  rw [Int.neg_mul] at h10; omega
end
end Go.Proofs.Ytdldfdcedjmneaa.Pure

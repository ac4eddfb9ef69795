/- The declarations of M1 that the claim Qv needs. -/
import Derived.Test.YtdldfdcedjmneaaQvLxx1
import Derived.Test.YtdldfdcedjmneaaQvLxx0
namespace Go.Proofs.Ytdldfdcedjmneaa.Pure
open Go.RowKit Go.Proofs.YtdldfdcedjmneaaW.PrintWords Go.Proofs.YtdldfdcedjmneaaW.PrintLast Go.Proofs.Ytdldfdcedjmneaa.Lx Go.Proofs.Ytdldfdcedjmneaa.Br
open Go.Proofs.Ytdldfdcedjmneaa.Own (lst lst_len lst_getD lst_rd lst_inj lst_of getD_set' wrap_s rd_nat)
set_option linter.unusedVariables false
set_option linter.unusedSimpArgs false
section
variable {n : Nat} {s t : Pm}
/-- What 'wrong' tells of two factors. -/
theorem same_l0 {l0 l1 : List Int} (hl : l0.length = l1.length) (hm : l0.length ≤ 100000) : ∀ (d i : Nat), i + d = l0.length → (∀ x, x < i → l0.getD x 0 = l1.getD x 0) →
    Ev (fun k => gampref05_Same.l0 k l0 l1 (i : Int)) (decide (l0 = l1))
  | 0, i, hd, hv => by
    have : l0 = l1 := by
      refine List.ext_getElem hl fun j h1 h2 => ?_
      have h3 := hv j (by omega)
      rw [List.getD_eq_getElem?_getD, List.getD_eq_getElem?_getD, List.getElem?_eq_getElem h1, List.getElem?_eq_getElem h2] at h3
      simpa using h3
    rw [decide_eq_true this]
    exact Ev.step (f := fun _ => some true) (fun k => by simp only [gampref05_Same.l0]; rw [if_neg (by omega)]) (Ev.now _)
  | d + 1, i, hd, hv => by
    by_cases he : l0.getD i 0 = l1.getD i 0
    · refine Ev.step (fun k => ?_) (same_l0 hl hm d (i + 1) (by omega) (fun x hx => by
        by_cases e : x = i
        · rw [e]; exact he
        · exact hv x (by omega)))
      simp only [gampref05_Same.l0]
      rw [if_pos (by omega), if_pos (by omega), if_pos (by omega), rd_nat, rd_nat, if_pos he, Own.wrap_s (by omega)]
    · have hne : l0 ≠ l1 := fun e => he (by rw [e])
      rw [decide_eq_false hne]
      refine Ev.step (f := fun _ => some false) (fun k => ?_) (Ev.now _)
      simp only [gampref05_Same.l0]
      rw [if_pos (by omega), if_pos (by omega), if_pos (by omega), rd_nat, rd_nat, if_neg he]
theorem same_ev (l0 l1 : List Int) (hm : l0.length ≤ 100000) : Ev (fun k => gampref05_Same.f k l0 l1) (decide (l0 = l1)) := by
 unfold gampref05_Same.f
 by_cases hl : l0.length = l1.length
 ·refine Ev.congr (fun k => ?_) (same_l0 hl hm l0.length 0 (by omega) (fun x hx => by omega))
  rw [if_pos (by omega)]; rfl
 ·have hne : l0 ≠ l1 := fun e => hl (by rw [e])
  rw [decide_eq_false hne]
  exact Ev.congr (f := fun _ => some false) (fun k => by rw [if_neg (by omega)]) (Ev.now _)
end
end Go.Proofs.Ytdldfdcedjmneaa.Pure

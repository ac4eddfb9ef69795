/- The declarations of M0 that the claim Qe needs. -/
import Derived.Test.YtdldfdcedjmneaaQeB13
import Derived.Test.YtdldfdcedjmneaaQeB11
namespace Go.Proofs.Ytdldfdcedjmneaa.Pure
open Go.RowKit Go.Proofs.YtdldfdcedjmneaaW.PrintWords Go.Proofs.YtdldfdcedjmneaaW.PrintLast Go.Proofs.Ytdldfdcedjmneaa.Br
open Go.Proofs.Ytdldfdcedjmneaa.Own (lst lst_len lst_getD lst_rd lst_inj lst_of getD_set' wrap_s rd_nat normF normL normF_nf normF_eq normL_eq strap_Normal.f strap_Equal.f strap_Alexander.f checkF alex_lives)
set_option linter.unusedVariables false
set_option linter.unusedSimpArgs false
theorem normL_seq {n : Nat} (hn : 2 ≤ n) {xs ys : List Int} (hx : Word n xs) (hy : Word n ys) (h : SEq n (rawW n (0, []) xs) (rawW n (0, []) ys)) : normL n xs = normL n ys := by
  obtain ⟨q, m, h1, h2⟩ := h
  rw [normL_eq hn hx h1, normL_eq hn hy h2]
theorem word_of {n : Nat} {xs : List Int} (h : xs.all (fun k => decide (k ≠ 0 ∧ -(n : Int) < k ∧ k < n)) = true) : Word n xs := fun k hk => by
  have h2 : k ≠ 0 ∧ -(n : Int) < k ∧ k < n := of_decide_eq_true (List.all_eq_true.1 h k hk)
  exact h2
theorem lives1 : normL 3 [1, 2, 1] = normL 3 [2, 1, 2] := by
  refine normL_seq (by decide) (word_of (by decide)) (word_of (by decide)) ?_
  exact near_pos (n := 3) (by decide) (x := (0, [])) (i := 0) (by decide) AllSup.nil
theorem raw112 : rawW 3 (0, []) [1, 1, 2] = (0, [gen 0, gen 0, gen 1]) := by
 have h1 := pos_step (n := 3) (0, []) 0
 have h2 := pos_step (n := 3) (0, [gen 0]) 0
 have h3 := pos_step (n := 3) (0, [gen 0, gen 0]) 1
 show rawStep 3 (rawStep 3 (rawStep 3 (0, []) 1) 1) 2 = _
 have e1 : rawStep 3 (0, []) 1 = (0, [gen 0]) := h1
 have e2 : rawStep 3 (0, [gen 0]) 1 = (0, [gen 0, gen 0]) := h2
 have e3 : rawStep 3 (0, [gen 0, gen 0]) 2 = (0, [gen 0, gen 0, gen 1]) := h3
 rw [e1, e2, e3]
theorem lives2 : normL 3 [1, 1, 2] = (0, [[1, 0, 2], [2, 0, 1]]) := by
 have hg0 : Sup 3 (gen 0) := gen_sup (by decide)
 have hg1 : Sup 3 (gen 1) := gen_sup (by decide)
 have hst : Star 3 [gen 0, gen 0, gen 1] [gen 0, (gen 0).mul (gen 1)] := (join2 [] hg0 hg1 (red_gen (nB_gen (by decide)))).cons (gen 0)
 have hall : AllSup 3 [gen 0, gen 0, gen 1] := AllSup.cons hg0 (AllSup.cons hg0 (single hg1))
 have hnf : Nf 3 0 [gen 0, gen 0, gen 1] 0 [gen 0, (gen 0).mul (gen 1)] := by
  refine ⟨⟨0, Eqv.of hst hall, by decide⟩, Rgt.irr ⟨fun e => ?_, fun t ht i hi hb => ?_, fun e => ?_, (fun t ht => by cases ht), trivial⟩, fun e => ?_⟩
  ·have : (gen 0).f 0 = one.f 0 := by rw [e]
   exact absurd this (by decide)
  ·injection ht with ht
   subst ht
   have hi2 : i = 0 ∨ i = 1 := by omega
   rcases hi2 with rfl | rfl
   ·show (gen 0).g 1 < (gen 0).g 0
    decide
   ·exact absurd hb (by show ¬ ((gen 0).mul (gen 1)).f 2 < ((gen 0).mul (gen 1)).f 1; decide)
  ·have : ((gen 0).mul (gen 1)).f 0 = one.f 0 := by rw [e]
   exact absurd this (by decide)
  ·injection e with e
   have : (gen 0).f 0 = (half 3).f 0 := by rw [e]
   exact absurd this (by decide)
 have h := normL_eq (n := 3) (by decide) (xs := [1, 1, 2]) (word_of (by decide)) (p := 0) (Ps := [gen 0, (gen 0).mul (gen 1)]) (by rw [raw112]; exact hnf)
 rw [h]
 decide
theorem livesE : strap_Equal.f 3 [1, 2, 1] [2, 1, 2] = some (true, 0) := by
 unfold strap_Equal.f
 have c1 : checkF 3 [1, 2, 1] = 0 := by decide
 have c2 : checkF 3 [2, 1, 2] = 0 := by decide
 rw [c1, c2, if_neg (by decide), if_neg (by decide)]
 have : (3 : Int).toNat = 3 := rfl
 rw [this, decide_eq_true lives1]
theorem livesN : strap_Normal.f 3 [1, 1, 2] = some (0, [[1, 0, 2], [2, 0, 1]], 0) := by
 unfold strap_Normal.f
 have c1 : checkF 3 [1, 1, 2] = 0 := by decide
 rw [c1, if_neg (by decide)]
 have : (3 : Int).toNat = 3 := rfl
 rw [this, lives2]
end Go.Proofs.Ytdldfdcedjmneaa.Pure

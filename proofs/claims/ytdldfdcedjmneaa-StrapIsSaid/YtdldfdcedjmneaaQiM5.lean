/- The declarations of M5 that the claim Qi needs. -/
import Derived.Test.YtdldfdcedjmneaaQiTkP
import Derived.Test.YtdldfdcedjmneaaQiLxx0
import Derived.Test.YtdldfdcedjmneaaQiLxx1
import Derived.Test.YtdldfdcedjmneaaQiLxx2
import Derived.Test.YtdldfdcedjmneaaQiLxx10
import Derived.Test.YtdldfdcedjmneaaQiLxx11
import Derived.Test.YtdldfdcedjmneaaQiM4
namespace Go.Proofs.Ytdldfdcedjmneaa.Pure
open Go.RowKit Go.Proofs.YtdldfdcedjmneaaW.PrintWords Go.Proofs.YtdldfdcedjmneaaW.PrintLast Go.Proofs.YtdldfdcedjmneaaW.PrintMore Go.Proofs.Ytdldfdcedjmneaa.Lx Go.Proofs.Ytdldfdcedjmneaa.Br
open Go.Proofs.Ytdldfdcedjmneaa.Own (lst lst_len lst_getD lst_rd lst_inj lst_of getD_set' wrap_s rd_nat checkF checkF_zero badL normF normL normF_nf normF_eq strap_Normal.f)
set_option linter.unusedVariables false
set_option linter.unusedSimpArgs false
section
variable {n : Nat} {t : Pm}
theorem sumN_le {h : Nat → Nat} {b : Nat} : ∀ m, (∀ x, x < m → h x ≤ b) → sumN h m ≤ m * b
 | 0, _ => by simp [sumN]
 | m + 1, hb => by
  have h1 := sumN_le m (fun x hx => hb x (by omega))
  have h2 := hb m (by omega)
  rw [sumN, Nat.succ_mul]; omega
theorem cro_le (a b : Nat) : cro t a b ≤ 1 := by unfold cro; by_cases h : a < b ∧ t.f b < t.f a <;> simp [h]
theorem row_le (a m : Nat) : sumN (cro t a) m ≤ m := by have := sumN_le (h := cro t a) (b := 1) m (fun x _ => cro_le a x); omega
theorem rows_le (a : Nat) (ha : a ≤ n) : sumN (fun a => sumN (cro t a) n) a ≤ a * n := sumN_le a (fun x _ => row_le x n)
theorem row_zero (a : Nat) : ∀ m, m ≤ a + 1 → sumN (cro t a) m = 0 := fun m hm => sumN_zero m fun x hx => by unfold cro; rw [if_neg (by omega)]
theorem cross_l0 (hn : n ≤ 8) : ∀ (d i : Nat), i + d = n → Ev (fun k => gampref05_Crossings.l0 k (lst n t) ((sumN (fun a => sumN (cro t a) n) i : Nat) : Int) (i : Int)) ((inv n t : Nat) : Int) := by
 intro d
 induction d with
 | zero =>
  intro i hi
  obtain rfl : i = n := by omega
  refine Ev.step (f := fun _ => some ((inv i t : Nat) : Int)) (fun k => ?_) (Ev.now _)
  simp only [gampref05_Crossings.l0]
  rw [lst_len, if_neg (by omega)]; rfl
 | succ d ih =>
  intro i hi
  have hin : i < n := by omega
  have hb1 := rows_le (t := t) i (by omega : i ≤ n)
  have hb1' : i * n ≤ 8 * 8 := Nat.mul_le_mul (by omega) hn
  have inner : ∀ e j, j + e = n → i + 1 ≤ j → Ev (fun k => gampref05_Crossings.l1 k (lst n t) ((sumN (fun a => sumN (cro t a) n) i + sumN (cro t i) j : Nat) : Int) (i : Int) (j : Int)) ((inv n t : Nat) : Int) := by
   intro e
   induction e with
   | zero =>
    intro j hj hij
    obtain rfl : j = n := by omega
    refine Ev.step (fun k => ?_) (ih (i + 1) (by omega))
    simp only [gampref05_Crossings.l1]
    rw [lst_len, if_neg (by omega), wrap_s (by omega), sumN]
   | succ e ihe =>
    intro j hj hij
    have hjn : j < n := by omega
    have hb2 := row_le (t := t) i j
    refine Ev.step (fun k => ?_) (ihe (j + 1) (by omega) (by omega))
    simp only [gampref05_Crossings.l1]
    rw [lst_len, if_pos (by omega), if_pos (by omega), if_pos (by omega), if_pos (by omega), lst_rd hin, lst_rd hjn, wrap_s (i := j) (by omega), sumN]
    by_cases h : (t.f i : Int) > (t.f j : Int)
    ·have e1 : cro t i j = 1 := by unfold cro; rw [if_pos ⟨by omega, by omega⟩]
     rw [if_pos h, e1, wrap_s (by omega)]
     rfl
    ·have e1 : cro t i j = 0 := by unfold cro; rw [if_neg (by omega)]
     rw [if_neg h, e1]
     rfl
  have h3 := inner (n - (i + 1)) (i + 1) (by omega) (by omega)
  rw [row_zero (t := t) i (i + 1) (by omega), Nat.add_zero] at h3
  refine Ev.step (fun k => ?_) h3
  simp only [gampref05_Crossings.l0]
  rw [lst_len, if_pos (by omega), wrap_s (by omega)]
theorem cross_ev (hn : n ≤ 8) : Ev (fun k => gampref05_Crossings.f k (lst n t)) ((inv n t : Nat) : Int) := cross_l0 hn n 0 (by omega)
def invL (xs : List Int) : List Int := (xs.map fun k => -k).reverse
theorem inverse_l0 (hn : n ≤ 1000) {xs : List Int} (hw : Word n xs) (hm : xs.length ≤ 100000) : ∀ (d i : Nat), i + d = xs.length → Ev (fun k => gampref05_Inverse.l0 k xs (invL (xs.drop d)) ((d : Int) - 1)) (invL xs) := by
 intro d
 induction d with
 | zero =>
  intro i hi
  refine Ev.step (f := fun _ => some (invL xs)) (fun k => ?_) (Ev.now _)
  simp only [gampref05_Inverse.l0]
  rw [if_neg (by omega), List.drop_zero]
 | succ d ih =>
  intro i hi
  have hd : d < xs.length := by omega
  have e1 : rd xs (((d + 1 : Nat) : Int) - 1) = xs[d] := by rw [show ((d + 1 : Nat) : Int) - 1 = (d : Int) by omega, rd_nat, List.getD_eq_getElem?_getD, List.getElem?_eq_getElem hd]; rfl
  obtain ⟨h1, h2, h3⟩ := hw xs[d] (List.getElem_mem hd)
  have e2 : wrap64 (-xs[d]) = -xs[d] := by unfold wrap64; omega
  have e3 : wrap64 (((d + 1 : Nat) : Int) - 1 - 1) = (d : Int) - 1 := by unfold wrap64; omega
  have e4 : invL (xs.drop (d + 1)) ++ [-xs[d]] = invL (xs.drop d) := by
   unfold invL
   rw [List.drop_eq_getElem_cons hd, List.map_cons, List.reverse_cons]
  have hlen : (invL (xs.drop (d + 1))).length ≤ 100000 := by unfold invL; rw [List.length_reverse, List.length_map, List.length_drop]; omega
  refine Ev.step (fun k => ?_) (ih (i + 1) (by omega))
  simp only [gampref05_Inverse.l0]
  rw [if_pos (by omega), if_pos (by omega), if_pos (by omega), if_pos (by omega), e1, e2, e3, e4]
theorem inverse_ev (hn : n ≤ 1000) {xs : List Int} (hw : Word n xs) (hm : xs.length ≤ 100000) : Ev (fun k => gampref05_Inverse.f k xs) (invL xs) := by
 unfold gampref05_Inverse.f
 have h := inverse_l0 hn hw hm xs.length 0 (by omega)
 rw [List.drop_of_length_le (Nat.le_refl _)] at h
 have e : wrap64 ((xs.length : Int) - 1) = (xs.length : Int) - 1 := by unfold wrap64; omega
 rw [e]
 exact h
end
end Go.Proofs.Ytdldfdcedjmneaa.Pure

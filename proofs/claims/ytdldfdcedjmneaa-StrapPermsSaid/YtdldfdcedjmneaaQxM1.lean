/- The declarations of M1 that the claim Qx needs. -/
import Derived.Test.YtdldfdcedjmneaaQxLxx0
import Derived.Test.YtdldfdcedjmneaaQxLxx3
import Derived.Test.YtdldfdcedjmneaaQxLxx1
namespace Go.Proofs.Ytdldfdcedjmneaa.Pure
open Go.RowKit Go.Proofs.YtdldfdcedjmneaaW.PrintWords Go.Proofs.YtdldfdcedjmneaaW.PrintLast Go.Proofs.Ytdldfdcedjmneaa.Lx Go.Proofs.Ytdldfdcedjmneaa.Br
open Go.Proofs.Ytdldfdcedjmneaa.Own (lst lst_len lst_getD lst_rd lst_of getD_set' wrap_s rd_nat)
set_option linter.unusedVariables false
set_option linter.unusedSimpArgs false
section
variable {n : Nat} {s t : Pm}
theorem one_l0 (hn : n ≤ 1000) : ∀ (d i : Nat), i + d = n → Ev (fun k => gampref05_One.l0 k (n : Int) ((List.range i).map fun (x : Nat) => (x : Int)) (i : Int)) (lst n one)
 | 0, i, hd => by
  have : i = n := by omega
  subst this
  exact Ev.step (f := fun _ => some ((List.range i).map fun (x : Nat) => (x : Int))) (fun k => by simp only [gampref05_One.l0]; rw [if_neg (by omega)]) (Ev.now _)
 | d + 1, i, hd => by
  refine Ev.step (fun k => ?_) (one_l0 hn d (i + 1) (by omega))
  simp only [gampref05_One.l0]
  rw [if_pos (by omega), if_pos (by rw [List.length_map, List.length_range]; omega), wrap_s (by omega), List.range_succ, List.map_append]
  rfl
theorem refOne_ev (hn : n ≤ 1000) : Ev (fun k => gampref05_One.f k (n : Int)) (lst n one) := one_l0 hn n 0 (by omega)
theorem same_l0 {l0 l1 : List Int} (hl : l0.length = l1.length) (hm : l0.length ≤ 100000) : ∀ (d i : Nat), i + d = l0.length → (∀ x, x < i → l0.getD x 0 = l1.getD x 0) →
    Ev (fun k => gampref05_Same.l0 k l0 l1 (i : Int)) (decide (l0 = l1))
  | 0, i, hd, hv => by
    have : l0 = l1 := by
      refine List.ext_getElem hl fun j h1 h2 => ?_
      have h3 := hv j (by omega)
      rw [List.getD_eq_getElem?_getD, List.getD_eq_getElem?_getD, List.getElem?_eq_getElem h1, List.getElem?_eq_getElem h2] at h3
      simpa using h3
    rw [decide_eq_true this]
    exact Ev.step (f := fun _ => some true) (fun k => by simp only [gampref05_Same.l0]; rw [if_neg (by omega)]) (Ev.now _)
  | d + 1, i, hd, hv => by
    by_cases he : l0.getD i 0 = l1.getD i 0
    · refine Ev.step (fun k => ?_) (same_l0 hl hm d (i + 1) (by omega) (fun x hx => by
        by_cases e : x = i
        · rw [e]; exact he
        · exact hv x (by omega)))
      simp only [gampref05_Same.l0]
      rw [if_pos (by omega), if_pos (by omega), if_pos (by omega), rd_nat, rd_nat, if_pos he, Own.wrap_s (by omega)]
    · have hne : l0 ≠ l1 := fun e => he (by rw [e])
      rw [decide_eq_false hne]
      refine Ev.step (f := fun _ => some false) (fun k => ?_) (Ev.now _)
      simp only [gampref05_Same.l0]
      rw [if_pos (by omega), if_pos (by omega), if_pos (by omega), rd_nat, rd_nat, if_neg he]
theorem same_ev (l0 l1 : List Int) (hm : l0.length ≤ 100000) : Ev (fun k => gampref05_Same.f k l0 l1) (decide (l0 = l1)) := by
 unfold gampref05_Same.f
 by_cases hl : l0.length = l1.length
 ·refine Ev.congr (fun k => ?_) (same_l0 hl hm l0.length 0 (by omega) (fun x hx => by omega))
  rw [if_pos (by omega)]; rfl
 ·have hne : l0 ≠ l1 := fun e => hl (by rw [e])
  rw [decide_eq_false hne]
  exact Ev.congr (f := fun _ => some false) (fun k => by rw [if_neg (by omega)]) (Ev.now _)
theorem then_l0 (hs : Sup n t) (hn : n ≤ 1000) {i : Nat} (hi : i + 1 < n) : ∀ (d j : Nat) (l : List Int), j + d = n → l.length = n → (∀ x, x < n → l.getD x 0 = if x < j then ((t.R i).f x : Int) else (t.f x : Int)) →
  Ev (fun k => gampref05_Then.l0 k (lst n t) (i : Int) l (j : Int)) (lst n (t.R i))
 | 0, j, l, hd, hl, hv => by
  have : l = lst n (t.R i) := lst_of hl fun x hx => by rw [hv x hx, if_pos (by omega)]
  rw [← this]
  exact Ev.step (f := fun _ => some l) (fun k => by simp only [gampref05_Then.l0]; rw [lst_len, if_neg (by omega)]) (Ev.now _)
 | d + 1, j, l, hd, hl, hv => by
  have hj : j < n := by omega
  have hrf : (t.R i).f j = sw i (t.f j) := rfl
  have ew : wrap64 ((i : Int) + 1) = ((i + 1 : Nat) : Int) := Own.wrap_s (by omega)
  by_cases h1 : t.f j = i
  ·refine Ev.step (fun k => ?_) (then_l0 hs hn hi d (j + 1) (l.set j ((i + 1 : Nat) : Int)) (by omega) (by rw [List.length_set, hl]) (fun x hx => ?_))
   ·simp only [gampref05_Then.l0]
    rw [lst_len, if_pos (by omega), if_pos (by omega), lst_rd hj, if_pos (by omega), if_pos (by omega), ew]
    simp only [Option.bind_some]
    rw [if_neg (by omega), Int.toNat_natCast, Own.wrap_s (by omega)]
   ·rw [getD_set', hl]
    by_cases e : j = x
    ·rw [if_pos ⟨e, hx⟩, if_pos (by omega), ← e, hrf, h1, sw_l]
    ·rw [if_neg (fun h => e h.1), hv x hx]
     by_cases h2 : x < j
     ·rw [if_pos h2, if_pos (by omega)]
     ·rw [if_neg h2, if_neg (by omega)]
  ·by_cases h2 : t.f j = i + 1
   ·refine Ev.step (fun k => ?_) (then_l0 hs hn hi d (j + 1) (l.set j ((i : Nat) : Int)) (by omega) (by rw [List.length_set, hl]) (fun x hx => ?_))
    ·simp only [gampref05_Then.l0]
     rw [lst_len, if_pos (by omega), if_pos (by omega), lst_rd hj, if_neg (by omega), ew, if_pos (by omega), if_pos (by omega), Int.toNat_natCast, Own.wrap_s (by omega)]
    ·rw [getD_set', hl]
     by_cases e : j = x
     ·rw [if_pos ⟨e, hx⟩, if_pos (by omega), ← e, hrf, h2, sw_r]
     ·rw [if_neg (fun h => e h.1), hv x hx]
      by_cases h3 : x < j
      ·rw [if_pos h3, if_pos (by omega)]
      ·rw [if_neg h3, if_neg (by omega)]
   ·refine Ev.step (fun k => ?_) (then_l0 hs hn hi d (j + 1) l (by omega) hl (fun x hx => ?_))
    ·simp only [gampref05_Then.l0]
     rw [lst_len, if_pos (by omega), if_pos (by omega), lst_rd hj, if_neg (by omega), ew, if_neg (by omega), Own.wrap_s (by omega)]
    ·rw [hv x hx]
     by_cases e : j = x
     ·rw [if_neg (by omega), if_pos (by omega), ← e, hrf, sw_o h1 h2]
     ·by_cases h3 : x < j
      ·rw [if_pos h3, if_pos (by omega)]
      ·rw [if_neg h3, if_neg (by omega)]
theorem then_ev (hs : Sup n t) (hn : n ≤ 1000) {i : Nat} (hi : i + 1 < n) : Ev (fun k => gampref05_Then.f k (lst n t) (i : Int)) (lst n (t.R i)) := by
 unfold gampref05_Then.f
 refine Ev.congr (fun k => ?_) (then_l0 hs hn hi n 0 (lst n t) (by omega) (lst_len n t) (fun x hx => by rw [if_neg (by omega), lst_getD hx]))
 simp only [Option.bind_some, List.nil_append, List.length_nil, Nat.zero_add]
 rw [lst_len, if_pos (by omega)]
 rfl
end
end Go.Proofs.Ytdldfdcedjmneaa.Pure

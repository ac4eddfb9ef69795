/- The declarations of M1 that the claim Qe needs. -/
import Derived.Test.YtdldfdcedjmneaaQeLxx4
import Derived.Test.YtdldfdcedjmneaaQeLxx1
import Derived.Test.YtdldfdcedjmneaaQeLxx6
namespace Go.Proofs.Ytdldfdcedjmneaa.Pure
open Go.RowKit Go.Proofs.YtdldfdcedjmneaaW.PrintWords Go.Proofs.YtdldfdcedjmneaaW.PrintLast Go.Proofs.Ytdldfdcedjmneaa.Lx Go.Proofs.Ytdldfdcedjmneaa.Br
open Go.Proofs.Ytdldfdcedjmneaa.Own (lst lst_len lst_getD lst_rd lst_inj lst_of getD_set' wrap_s rd_nat)
set_option linter.unusedVariables false
set_option linter.unusedSimpArgs false
section
variable {n : Nat} {s t : Pm}
theorem at_l0 (hs : Sup n s) (hn : n ≤ 1000) {y : Nat} (hy : y < n) : ∀ (d i : Nat), i + d = n → i ≤ s.g y → Ev (fun k => gampref05_at.l0 k (lst n s) (y : Int) (i : Int)) ((s.g y : Nat) : Int)
  | 0, i, hd, hi => by have := hs.glt hy; omega
  | d + 1, i, hd, hi => by
    have hin : i < n := by omega
    by_cases e : i = s.g y
    · refine Ev.step (f := fun _ => some ((i : Nat) : Int)) (fun k => ?_) (by rw [← e]; exact Ev.now _)
      simp only [gampref05_at.l0]
      rw [lst_len, if_pos (by omega), if_pos (by omega), lst_rd hin, if_pos (by rw [e, s.fg])]
    · refine Ev.step (fun k => ?_) (at_l0 hs hn hy d (i + 1) (by omega) (by omega))
      simp only [gampref05_at.l0]
      rw [lst_len, if_pos (by omega), if_pos (by omega), lst_rd hin, if_neg (fun h => e (by have h2 : s.f i = y := by omega
                                                                                            rw [← h2, s.gf])), wrap_s (by omega)]
theorem at_ev (hs : Sup n s) (hn : n ≤ 1000) {y : Nat} (hy : y < n) : Ev (fun k => gampref05_at.f k (lst n s) (y : Int)) ((s.g y : Nat) : Int) := at_l0 hs hn hy n 0 (by omega) (Nat.zero_le _)
/-- What 'wrong' tells of two factors. -/
def WrongR (n : Nat) (s t : Pm) (w : Int) : Prop := (w = -1 ∧ ∀ i, i + 1 < n → t.B i → s.E i) ∨ ∃ i : Nat, w = (i : Int) ∧ i + 1 < n ∧ t.B i ∧ ¬ s.E i
theorem wrong_l0 (hs : Sup n s) (ht : Sup n t) (hn : n ≤ 1000) : ∀ (d i : Nat), i + d = n → (∀ j, j < i → j + 1 < n → t.B j → s.E j) → ∃ w, WrongR n s t w ∧ Ev (fun k => gampref05_wrong.l0 k (lst n s) (lst n t) (i : Int)) w
  | 0, i, hd, hi => by
    refine ⟨-1, .inl ⟨rfl, fun j hj => hi j (by omega) hj⟩, Ev.step (f := fun _ => some (-1)) (fun k => ?_) (Ev.now _)⟩
    simp only [gampref05_wrong.l0]
    rw [wrap_s (by omega), lst_len, if_neg (by omega)]
  | d + 1, i, hd, hi => by
    by_cases hi1 : i + 1 < n
    · have hin : i < n := by omega
      have e1 : (gampref05_wrong.l0 : _) = gampref05_wrong.l0 := rfl
      by_cases hb : t.B i
      · by_cases he : s.E i
        · obtain ⟨w, hw, hev⟩ := wrong_l0 hs ht hn d (i + 1) (by omega) (fun j hj hj1 hbj => by
            by_cases e : j = i
            · rw [e]; exact he
            · exact hi j (by omega) hj1 hbj)
          refine ⟨w, hw, Ev.step (f := fun k => (gampref05_at.f k (lst n s) (i : Int)).bind fun t197 => (gampref05_at.f k (lst n s) ((i + 1 : Nat) : Int)).bind fun t198 => if t197 < t198 then some (i : Int) else gampref05_wrong.l0 k (lst n s) (lst n t) ((i + 1 : Nat) : Int)) (fun k => ?_) ?_⟩
          · simp only [gampref05_wrong.l0]
            rw [wrap_s (by omega), lst_len, if_pos (by omega), if_pos (by omega), if_pos (by omega), if_pos (by omega), lst_rd hin, lst_rd hi1, if_pos (by unfold Pm.B at hb; omega)]
          · refine Ev.bind (f := fun k t197 => (gampref05_at.f k (lst n s) ((i + 1 : Nat) : Int)).bind fun t198 => if t197 < t198 then some (i : Int) else gampref05_wrong.l0 k (lst n s) (lst n t) ((i + 1 : Nat) : Int)) (at_ev hs hn hin) ?_
            refine Ev.bind (f := fun k t198 => if ((s.g i : Nat) : Int) < t198 then some (i : Int) else gampref05_wrong.l0 k (lst n s) (lst n t) ((i + 1 : Nat) : Int)) (at_ev hs hn hi1) ?_
            refine Ev.congr (fun k => ?_) hev
            rw [if_neg (by unfold Pm.E at he; omega)]
        · refine ⟨(i : Int), .inr ⟨i, rfl, hi1, hb, he⟩, Ev.step (f := fun k => (gampref05_at.f k (lst n s) (i : Int)).bind fun t197 => (gampref05_at.f k (lst n s) ((i + 1 : Nat) : Int)).bind fun t198 => if t197 < t198 then some (i : Int) else gampref05_wrong.l0 k (lst n s) (lst n t) ((i + 1 : Nat) : Int)) (fun k => ?_) ?_⟩
          · simp only [gampref05_wrong.l0]
            rw [wrap_s (by omega), lst_len, if_pos (by omega), if_pos (by omega), if_pos (by omega), if_pos (by omega), lst_rd hin, lst_rd hi1, if_pos (by unfold Pm.B at hb; omega)]
          · refine Ev.bind (f := fun k t197 => (gampref05_at.f k (lst n s) ((i + 1 : Nat) : Int)).bind fun t198 => if t197 < t198 then some (i : Int) else gampref05_wrong.l0 k (lst n s) (lst n t) ((i + 1 : Nat) : Int)) (at_ev hs hn hin) ?_
            refine Ev.bind (f := fun k t198 => if ((s.g i : Nat) : Int) < t198 then some (i : Int) else gampref05_wrong.l0 k (lst n s) (lst n t) ((i + 1 : Nat) : Int)) (at_ev hs hn hi1) ?_
            have hne : s.g i ≠ s.g (i + 1) := fun e => by have := s.ginj e; omega
            refine Ev.congr (f := fun _ => some (i : Int)) (fun k => ?_) (Ev.now _)
            rw [if_pos (by unfold Pm.E at he; omega)]
      · obtain ⟨w, hw, hev⟩ := wrong_l0 hs ht hn d (i + 1) (by omega) (fun j hj hj1 hbj => by
          by_cases e : j = i
          · rw [e] at hbj; exact absurd hbj hb
          · exact hi j (by omega) hj1 hbj)
        refine ⟨w, hw, Ev.step (fun k => ?_) hev⟩
        simp only [gampref05_wrong.l0]
        rw [wrap_s (by omega), lst_len, if_pos (by omega), if_pos (by omega), if_pos (by omega), if_pos (by omega), lst_rd hin, lst_rd hi1, if_neg (by unfold Pm.B at hb; omega)]
    · refine ⟨-1, .inl ⟨rfl, fun j hj => hi j (by omega) hj⟩, Ev.step (f := fun _ => some (-1)) (fun k => ?_) (Ev.now _)⟩
      simp only [gampref05_wrong.l0]
      rw [wrap_s (by omega), lst_len, if_neg (by omega)]
theorem wrong_ev (hs : Sup n s) (ht : Sup n t) (hn : n ≤ 1000) : ∃ w, WrongR n s t w ∧ Ev (fun k => gampref05_wrong.f k (lst n s) (lst n t)) w := wrong_l0 hs ht hn n 0 (by omega) (fun j hj => by omega)
theorem one_l0 (hn : n ≤ 1000) : ∀ (d i : Nat), i + d = n → Ev (fun k => gampref05_One.l0 k (n : Int) ((List.range i).map fun (x : Nat) => (x : Int)) (i : Int)) (lst n one)
 | 0, i, hd => by
  have : i = n := by omega
  subst this
  exact Ev.step (f := fun _ => some ((List.range i).map fun (x : Nat) => (x : Int))) (fun k => by simp only [gampref05_One.l0]; rw [if_neg (by omega)]) (Ev.now _)
 | d + 1, i, hd => by
  refine Ev.step (fun k => ?_) (one_l0 hn d (i + 1) (by omega))
  simp only [gampref05_One.l0]
  rw [if_pos (by omega), if_pos (by rw [List.length_map, List.length_range]; omega), wrap_s (by omega), List.range_succ, List.map_append]
  rfl
theorem refOne_ev (hn : n ≤ 1000) : Ev (fun k => gampref05_One.f k (n : Int)) (lst n one) := one_l0 hn n 0 (by omega)
theorem half_l0 (hn : n ≤ 1000) : ∀ (d i : Nat), i + d = n → Ev (fun k => gampref05_Half.l0 k (n : Int) ((List.range i).map fun (x : Nat) => ((dl n x : Nat) : Int)) (i : Int)) (lst n (half n))
 | 0, i, hd => by
  have : i = n := by omega
  subst this
  exact Ev.step (f := fun _ => some ((List.range i).map fun (x : Nat) => ((dl i x : Nat) : Int))) (fun k => by simp only [gampref05_Half.l0]; rw [if_neg (by omega)]) (Ev.now _)
 | d + 1, i, hd => by
  refine Ev.step (fun k => ?_) (half_l0 hn d (i + 1) (by omega))
  have e1 : wrap64 (wrap64 ((n : Int) - 1) - (i : Int)) = ((dl n i : Nat) : Int) := by rw [dl_in (by omega)]; unfold wrap64; omega
  simp only [gampref05_Half.l0]
  rw [if_pos (by omega), if_pos (by rw [List.length_map, List.length_range]; omega), wrap_s (by omega), e1, List.range_succ, List.map_append]
  rfl
theorem refHalf_ev (hn : n ≤ 1000) : Ev (fun k => gampref05_Half.f k (n : Int)) (lst n (half n)) := half_l0 hn n 0 (by omega)
theorem same_l0 {l0 l1 : List Int} (hl : l0.length = l1.length) (hm : l0.length ≤ 100000) : ∀ (d i : Nat), i + d = l0.length → (∀ x, x < i → l0.getD x 0 = l1.getD x 0) →
    Ev (fun k => gampref05_Same.l0 k l0 l1 (i : Int)) (decide (l0 = l1))
  | 0, i, hd, hv => by
    have : l0 = l1 := by
      refine List.ext_getElem hl fun j h1 h2 => ?_
      have h3 := hv j (by omega)
      rw [List.getD_eq_getElem?_getD, List.getD_eq_getElem?_getD, List.getElem?_eq_getElem h1, List.getElem?_eq_getElem h2] at h3
      simpa using h3
    rw [decide_eq_true this]
    exact Ev.step (f := fun _ => some true) (fun k => by simp only [gampref05_Same.l0]; rw [if_neg (by omega)]) (Ev.now _)
  | d + 1, i, hd, hv => by
    by_cases he : l0.getD i 0 = l1.getD i 0
    · refine Ev.step (fun k => ?_) (same_l0 hl hm d (i + 1) (by omega) (fun x hx => by
        by_cases e : x = i
        · rw [e]; exact he
        · exact hv x (by omega)))
      simp only [gampref05_Same.l0]
      rw [if_pos (by omega), if_pos (by omega), if_pos (by omega), rd_nat, rd_nat, if_pos he, Own.wrap_s (by omega)]
    · have hne : l0 ≠ l1 := fun e => he (by rw [e])
      rw [decide_eq_false hne]
      refine Ev.step (f := fun _ => some false) (fun k => ?_) (Ev.now _)
      simp only [gampref05_Same.l0]
      rw [if_pos (by omega), if_pos (by omega), if_pos (by omega), rd_nat, rd_nat, if_neg he]
theorem same_ev (l0 l1 : List Int) (hm : l0.length ≤ 100000) : Ev (fun k => gampref05_Same.f k l0 l1) (decide (l0 = l1)) := by
 unfold gampref05_Same.f
 by_cases hl : l0.length = l1.length
 ·refine Ev.congr (fun k => ?_) (same_l0 hl hm l0.length 0 (by omega) (fun x hx => by omega))
  rw [if_pos (by omega)]; rfl
 ·have hne : l0 ≠ l1 := fun e => hl (by rw [e])
  rw [decide_eq_false hne]
  exact Ev.congr (f := fun _ => some false) (fun k => by rw [if_neg (by omega)]) (Ev.now _)
theorem then_l0 (hs : Sup n t) (hn : n ≤ 1000) {i : Nat} (hi : i + 1 < n) : ∀ (d j : Nat) (l : List Int), j + d = n → l.length = n → (∀ x, x < n → l.getD x 0 = if x < j then ((t.R i).f x : Int) else (t.f x : Int)) →
  Ev (fun k => gampref05_Then.l0 k (lst n t) (i : Int) l (j : Int)) (lst n (t.R i))
 | 0, j, l, hd, hl, hv => by
  have : l = lst n (t.R i) := lst_of hl fun x hx => by rw [hv x hx, if_pos (by omega)]
  rw [← this]
  exact Ev.step (f := fun _ => some l) (fun k => by simp only [gampref05_Then.l0]; rw [lst_len, if_neg (by omega)]) (Ev.now _)
 | d + 1, j, l, hd, hl, hv => by
  have hj : j < n := by omega
  have hrf : (t.R i).f j = sw i (t.f j) := rfl
  have ew : wrap64 ((i : Int) + 1) = ((i + 1 : Nat) : Int) := Own.wrap_s (by omega)
  by_cases h1 : t.f j = i
  ·refine Ev.step (fun k => ?_) (then_l0 hs hn hi d (j + 1) (l.set j ((i + 1 : Nat) : Int)) (by omega) (by rw [List.length_set, hl]) (fun x hx => ?_))
   ·simp only [gampref05_Then.l0]
    rw [lst_len, if_pos (by omega), if_pos (by omega), lst_rd hj, if_pos (by omega), if_pos (by omega), ew]
    simp only [Option.bind_some]
    rw [if_neg (by omega), Int.toNat_natCast, Own.wrap_s (by omega)]
   ·rw [getD_set', hl]
    by_cases e : j = x
    ·rw [if_pos ⟨e, hx⟩, if_pos (by omega), ← e, hrf, h1, sw_l]
    ·rw [if_neg (fun h => e h.1), hv x hx]
     by_cases h2 : x < j
     ·rw [if_pos h2, if_pos (by omega)]
     ·rw [if_neg h2, if_neg (by omega)]
  ·by_cases h2 : t.f j = i + 1
   ·refine Ev.step (fun k => ?_) (then_l0 hs hn hi d (j + 1) (l.set j ((i : Nat) : Int)) (by omega) (by rw [List.length_set, hl]) (fun x hx => ?_))
    ·simp only [gampref05_Then.l0]
     rw [lst_len, if_pos (by omega), if_pos (by omega), lst_rd hj, if_neg (by omega), ew, if_pos (by omega), if_pos (by omega), Int.toNat_natCast, Own.wrap_s (by omega)]
    ·rw [getD_set', hl]
     by_cases e : j = x
     ·rw [if_pos ⟨e, hx⟩, if_pos (by omega), ← e, hrf, h2, sw_r]
     ·rw [if_neg (fun h => e h.1), hv x hx]
      by_cases h3 : x < j
      ·rw [if_pos h3, if_pos (by omega)]
      ·rw [if_neg h3, if_neg (by omega)]
   ·refine Ev.step (fun k => ?_) (then_l0 hs hn hi d (j + 1) l (by omega) hl (fun x hx => ?_))
    ·simp only [gampref05_Then.l0]
     rw [lst_len, if_pos (by omega), if_pos (by omega), lst_rd hj, if_neg (by omega), ew, if_neg (by omega), Own.wrap_s (by omega)]
    ·rw [hv x hx]
     by_cases e : j = x
     ·rw [if_neg (by omega), if_pos (by omega), ← e, hrf, sw_o h1 h2]
     ·by_cases h3 : x < j
      ·rw [if_pos h3, if_pos (by omega)]
      ·rw [if_neg h3, if_neg (by omega)]
theorem then_ev (hs : Sup n t) (hn : n ≤ 1000) {i : Nat} (hi : i + 1 < n) : Ev (fun k => gampref05_Then.f k (lst n t) (i : Int)) (lst n (t.R i)) := by
 unfold gampref05_Then.f
 refine Ev.congr (fun k => ?_) (then_l0 hs hn hi n 0 (lst n t) (by omega) (lst_len n t) (fun x hx => by rw [if_neg (by omega), lst_getD hx]))
 simp only [Option.bind_some, List.nil_append, List.length_nil, Nat.zero_add]
 rw [lst_len, if_pos (by omega)]
 rfl
end
end Go.Proofs.Ytdldfdcedjmneaa.Pure

/- The declarations of M3 that the claim Qx needs. -/
import Derived.Test.YtdldfdcedjmneaaQxLxx16
import Derived.Test.YtdldfdcedjmneaaQxM2
namespace Go.Proofs.Ytdldfdcedjmneaa.Pure
open Go.RowKit Go.Proofs.YtdldfdcedjmneaaW.PrintWords Go.Proofs.YtdldfdcedjmneaaW.PrintLast Go.Proofs.YtdldfdcedjmneaaW.PrintMore Go.Proofs.Ytdldfdcedjmneaa.Lx Go.Proofs.Ytdldfdcedjmneaa.Br
open Go.Proofs.Ytdldfdcedjmneaa.Own (lst lst_len lst_getD lst_rd lst_of getD_set' wrap_s rd_nat checkF checkF_zero badL strap_check.f)
set_option linter.unusedVariables false
set_option linter.unusedSimpArgs false
theorem chk_l0 {a0 : Int} (h1 : 2 ≤ a0) (h2 : a0 ≤ 8) {xs : List Int} (hm : xs.length ≤ 100000) (hw : ∀ k ∈ xs, -9223372036854775808 ≤ k ∧ k ≤ 9223372036854775807) : ∀ (d i : Nat), i + d = xs.length →
  Ev (fun k => gampref05_Check.l0 k a0 xs 60 (i : Int)) (if (xs.drop i).any (badL a0) = true then 2 else if 60 < xs.length then 3 else 0)
 | 0, i, hd => by
  rw [List.drop_of_length_le (by omega)]
  refine Ev.step (f := fun _ => some (if 60 < xs.length then (3 : Int) else 0)) (fun k => ?_) (Ev.now _)
  simp only [gampref05_Check.l0]
  rw [if_neg (by omega)]
  by_cases h : 60 < xs.length
  ·rw [if_pos h, if_pos (by omega)]
  ·rw [if_neg h, if_neg (by omega)]
 | d + 1, i, hd => by
  have hi : i < xs.length := by omega
  have e1 : rd xs (i : Int) = xs[i] := by rw [rd_nat, List.getD_eq_getElem?_getD, List.getElem?_eq_getElem hi]; rfl
  rw [List.drop_eq_getElem_cons hi, List.any_cons]
  have e2 : wrap64 (1 - a0) = 1 - a0 := by unfold wrap64; omega
  have e3 : wrap64 (a0 - 1) = a0 - 1 := by unfold wrap64; omega
  by_cases hb : badL a0 xs[i] = true
  ·rw [hb, Bool.true_or, if_pos rfl]
   refine Ev.step (f := fun _ => some 2) (fun k => ?_) (Ev.now _)
   simp only [gampref05_Check.l0, gampref05_in.f]
   rw [if_pos (by omega), if_pos (by omega), e1, e2, e3]
   have h3 := of_decide_eq_true hb
   by_cases h4 : xs[i] ≥ 1 - a0
   ·rw [if_pos h4, Option.bind_some]
    by_cases h5 : xs[i] ≤ a0 - 1
    ·rw [decide_eq_true h5, if_pos rfl, if_pos (by omega)]
    ·rw [decide_eq_false h5, if_neg (by decide)]
   ·rw [if_neg h4, Option.bind_some, if_neg (by decide)]
  ·have hb' : badL a0 xs[i] = false := by simpa using hb
   rw [hb', Bool.false_or]
   have h3 := of_decide_eq_false hb'
   refine Ev.step (fun k => ?_) (chk_l0 h1 h2 hm hw d (i + 1) (by omega))
   simp only [gampref05_Check.l0, gampref05_in.f]
   rw [if_pos (by omega), if_pos (by omega), e1, e2, e3, if_pos (by omega), Option.bind_some, decide_eq_true (show xs[i] ≤ a0 - 1 by omega), if_pos rfl, if_neg (by omega), wrap_s (by omega)]
theorem check_ev (a0 : Int) {xs : List Int} (hm : xs.length ≤ 100000) (hw : ∀ k ∈ xs, -9223372036854775808 ≤ k ∧ k ≤ 9223372036854775807) : Ev (fun k => gampref05_Check.f k a0 xs 60) (checkF a0 xs) := by
 unfold gampref05_Check.f checkF gampref05_in.f
 by_cases h : a0 < 2 ∨ 8 < a0
 ·rw [if_pos h]
  refine Ev.congr (f := fun _ => some 1) (fun k => ?_) (Ev.now _)
  by_cases h2 : a0 ≥ 2
  ·rw [if_pos h2, Option.bind_some, decide_eq_false (by omega), if_neg (by decide)]
  ·rw [if_neg h2, Option.bind_some, if_neg (by decide)]
 ·rw [if_neg h]
  refine Ev.congr (fun k => ?_) (chk_l0 (by omega) (by omega) hm hw xs.length 0 (by omega))
  rw [if_pos (by omega), Option.bind_some, decide_eq_true (by omega), if_pos rfl]
  rfl
def perW (t : Pm) (xs : List Int) : Pm := xs.foldl (fun t k => t.R (k.natAbs - 1)) t
section
variable {n : Nat}
theorem perW_sup : ∀ {xs : List Int} {t : Pm}, Word n xs → Sup n t → Sup n (perW t xs)
 | [], t, hw, ht => ht
 | k :: xs, t, hw, ht => by
  have h := hw k (by simp)
  exact perW_sup (xs := xs) (fun j hj => hw j (by simp [hj])) (ht.R (by have := h.1; have := h.2.1; have := h.2.2; omega))
theorem abs_eq {k : Int} (h : Letter n k) (hn : n ≤ 1000) : wrap64 ((mx k (wrap64 (-k))) - 1) = ((k.natAbs - 1 : Nat) : Int) := by
 have h1 := h.1; have h2 := h.2.1; have h3 := h.2.2
 have e : wrap64 (-k) = -k := by unfold wrap64; omega
 rw [e]
 unfold mx wrap64
 by_cases h4 : k < -k
 ·rw [if_pos h4]; omega
 ·rw [if_neg h4]; omega
theorem identity_l0 (hn : n ≤ 1000) : ∀ (d i : Nat), i + d = n → Ev (fun k => strap_identity.l0 k ((List.range i).map fun (x : Nat) => (x : Int)) (n : Int) (i : Int)) (lst n one)
 | 0, i, hd => by
  have e : i = n := by omega
  subst e
  exact Ev.step (f := fun _ => some (lst i one)) (fun k => by simp only [strap_identity.l0]; rw [if_neg (by omega)]; rfl) (Ev.now _)
 | d + 1, i, hd => by
  refine Ev.step (fun k => ?_) (identity_l0 hn d (i + 1) (by omega))
  simp only [strap_identity.l0]
  rw [if_pos (by omega), if_pos (by rw [List.length_map, List.length_range]; omega), wrap_s (by omega), List.range_succ, List.map_append]; rfl
theorem identity_ev (hn : n ≤ 1000) : Ev (fun k => strap_identity.f k (n : Int)) (lst n one) := identity_l0 hn n 0 (by omega)
theorem behind_l0 {t : Pm} (hs : Sup n t) (hn : n ≤ 1000) {i : Nat} (hi : i + 1 < n) : ∀ (d j : Nat) (l : List Int), j + d = n → l.length = n → (∀ x, x < n → l.getD x 0 = if x < j then ((t.R i).f x : Int) else (t.f x : Int)) →
    Ev (fun k => strap_perm_behind.l0 k l (i : Int) (n : Int) (j : Int)) (lst n (t.R i))
  | 0, j, l, hd, hl, hv => by
    have : l = lst n (t.R i) := lst_of hl fun x hx => by rw [hv x hx, if_pos (by omega)]
    rw [← this]
    exact Ev.step (f := fun _ => some l) (fun k => by simp only [strap_perm_behind.l0]; rw [if_neg (by omega)]) (Ev.now _)
  | d + 1, j, l, hd, hl, hv => by
    have hj : j < n := by omega
    have e1 : rd l (j : Int) = (t.f j : Int) := by rw [rd_nat, hv j hj, if_neg (by omega)]
    have hw : wrap64 ((i : Int) + 1) = ((i + 1 : Nat) : Int) := wrap_s (by omega)
    have hR : (t.R i).f j = sw i (t.f j) := rfl
    by_cases h1 : t.f j = i
    · refine Ev.step (fun k => ?_) (behind_l0 hs hn hi d (j + 1) (l.set j ((i + 1 : Nat) : Int)) (by omega) (by rw [List.length_set, hl]) (fun x hx => by
        rw [getD_set', hl]
        by_cases e : j = x
        · subst e; rw [if_pos ⟨rfl, hx⟩, if_pos (by omega), hR, h1, sw_l]
        · rw [if_neg (fun h => e h.1), hv x hx]
          by_cases h2 : x < j
          · rw [if_pos h2, if_pos (by omega)]
          · rw [if_neg h2, if_neg (by omega)]))
      simp only [strap_perm_behind.l0]
      rw [hw, e1, if_pos (by omega), if_pos (by omega), if_pos (by omega), if_pos (by omega), Int.toNat_natCast, wrap_s (by omega)]
    · by_cases h2 : t.f j = i + 1
      · refine Ev.step (fun k => ?_) (behind_l0 hs hn hi d (j + 1) (l.set j (i : Int)) (by omega) (by rw [List.length_set, hl]) (fun x hx => by
          rw [getD_set', hl]
          by_cases e : j = x
          · subst e; rw [if_pos ⟨rfl, hx⟩, if_pos (by omega), hR, h2, sw_r]
          · rw [if_neg (fun h => e h.1), hv x hx]
            by_cases h3 : x < j
            · rw [if_pos h3, if_pos (by omega)]
            · rw [if_neg h3, if_neg (by omega)]))
        simp only [strap_perm_behind.l0]
        rw [hw, e1, if_pos (by omega), if_pos (by omega), if_pos (by omega), if_neg (by omega), if_pos (by omega), Int.toNat_natCast, wrap_s (by omega)]
      · refine Ev.step (fun k => ?_) (behind_l0 hs hn hi d (j + 1) l (by omega) hl (fun x hx => by
          rw [hv x hx]
          by_cases e : x = j
          · subst e; rw [if_neg (by omega), if_pos (by omega), hR, sw_o h1 h2]
          · by_cases h3 : x < j
            · rw [if_pos h3, if_pos (by omega)]
            · rw [if_neg h3, if_neg (by omega)]))
        simp only [strap_perm_behind.l0]
        rw [hw, e1, if_pos (by omega), if_pos (by omega), if_pos (by omega), if_neg (by omega), if_neg (by omega), wrap_s (by omega)]
theorem behind_ev {t : Pm} (hs : Sup n t) (hn : n ≤ 1000) {i : Nat} (hi : i + 1 < n) : Ev (fun k => strap_perm_behind.f k (lst n t) (i : Int)) (lst n (t.R i)) := by
 unfold strap_perm_behind.f
 rw [lst_len]
 exact behind_l0 hs hn hi n 0 (lst n t) (by omega) (lst_len _ _) (fun x hx => by rw [lst_getD hx, if_neg (by omega)])
variable {xs : List Int}
theorem permutation_l0 (hw : Word n xs) (hn : n ≤ 1000) (hm : xs.length ≤ 100000) : ∀ (d i : Nat) (t : Pm), i + d = xs.length → Sup n t →
  Ev (fun k => strap_permutation.l0 k (lst n t) xs (xs.length : Int) (i : Int)) (lst n (perW t (xs.drop i)))
 | 0, i, t, hd, ht => by
  rw [List.drop_of_length_le (by omega)]
  exact Ev.step (f := fun _ => some (lst n t)) (fun k => by simp only [strap_permutation.l0]; rw [if_neg (by omega)]) (Ev.now _)
 | d + 1, i, t, hd, ht => by
  have hi : i < xs.length := by omega
  have e1 : rd xs (i : Int) = xs[i] := by rw [rd_nat, List.getD_eq_getElem?_getD, List.getElem?_eq_getElem hi]; rfl
  have hk := hw xs[i] (List.getElem_mem hi)
  have h1 := hk.1; have h2 := hk.2.1; have h3 := hk.2.2
  have hb : xs[i].natAbs - 1 + 1 < n := by omega
  rw [List.drop_eq_getElem_cons hi]
  have ih := permutation_l0 hw hn hm d (i + 1) (t.R (xs[i].natAbs - 1)) (by omega) (ht.R hb)
  refine Ev.step (f := fun k => (strap_perm_behind.f k (lst n t) ((xs[i].natAbs - 1 : Nat) : Int)).bind fun t412 => strap_permutation.l0 k t412 xs (xs.length : Int) ((i + 1 : Nat) : Int)) (fun k => ?_) (Ev.bind (f := fun k t412 => strap_permutation.l0 k t412 xs (xs.length : Int) ((i + 1 : Nat) : Int)) (behind_ev ht hn hb) ih)
  simp only [strap_permutation.l0]
  rw [if_pos (by omega), if_pos (by omega), if_pos (by omega), e1, abs_eq hk hn, wrap_s (by omega)]
theorem permutation_ev (hw : Word n xs) (hn : n ≤ 1000) (hm : xs.length ≤ 100000) : Ev (fun k => strap_permutation.f k (n : Int) xs) (lst n (perW one xs)) := by
  unfold strap_permutation.f
  exact Ev.bind (f := fun k t408 => strap_permutation.l0 k t408 xs (xs.length : Int) 0) (identity_ev hn) (permutation_l0 hw hn hm xs.length 0 one (by omega) (sup_one _))
theorem refPerm_l0 (hw : Word n xs) (hn : n ≤ 1000) (hm : xs.length ≤ 100000) : ∀ (d i : Nat) (t : Pm), i + d = xs.length → Sup n t →
  Ev (fun k => gampref05_Perm.l0 k xs (lst n t) (i : Int)) (lst n (perW t (xs.drop i)))
 | 0, i, t, hd, ht => by
  rw [List.drop_of_length_le (by omega)]
  exact Ev.step (f := fun _ => some (lst n t)) (fun k => by simp only [gampref05_Perm.l0]; rw [if_neg (by omega)]) (Ev.now _)
 | d + 1, i, t, hd, ht => by
  have hi : i < xs.length := by omega
  have e1 : rd xs (i : Int) = xs[i] := by rw [rd_nat, List.getD_eq_getElem?_getD, List.getElem?_eq_getElem hi]; rfl
  have hk := hw xs[i] (List.getElem_mem hi)
  have h1 := hk.1; have h2 := hk.2.1; have h3 := hk.2.2
  have hb : xs[i].natAbs - 1 + 1 < n := by omega
  rw [List.drop_eq_getElem_cons hi]
  have ih := refPerm_l0 hw hn hm d (i + 1) (t.R (xs[i].natAbs - 1)) (by omega) (ht.R hb)
  refine Ev.step (f := fun k => (gampref05_Then.f k (lst n t) ((xs[i].natAbs - 1 : Nat) : Int)).bind fun t433 => gampref05_Perm.l0 k xs t433 ((i + 1 : Nat) : Int)) (fun k => ?_) (Ev.bind (f := fun k t433 => gampref05_Perm.l0 k xs t433 ((i + 1 : Nat) : Int)) (then_ev ht hn hb) ih)
  simp only [gampref05_Perm.l0]
  rw [if_pos (by omega), if_pos (by omega), e1, abs_eq hk hn, wrap_s (by omega)]
theorem refPerm_ev (hw : Word n xs) (hn : n ≤ 1000) (hm : xs.length ≤ 100000) : Ev (fun k => gampref05_Perm.f k (n : Int) xs) (lst n (perW one xs)) := by
  unfold gampref05_Perm.f
  exact Ev.bind (f := fun k t428 => gampref05_Perm.l0 k xs t428 0) (refOne_ev hn) (refPerm_l0 hw hn hm xs.length 0 one (by omega) (sup_one _))
variable {t : Pm}
def LA (n : Nat) (t : Pm) (m d : Nat) : Prop := ∀ (i : Nat) (done : List Bool) (c : Int), i + d = n → done.length = n → done.count false = m →
  ∃ r, Ev (fun k => strap_Loops.l0 k (lst n t) done c (n : Int) (i : Int)) (r, 0) ∧ Ev (fun k => gampref05_Loops.l0 k (lst n t) c done (i : Int)) r
def LB (n : Nat) (t : Pm) (m d : Nat) : Prop := ∀ (i j : Nat) (done : List Bool) (c : Int), i + 1 + d = n → j < n → done.length = n → done.count false = m →
  ∃ r, Ev (fun k => strap_Loops.l1 k (lst n t) done c (j : Int) (n : Int) (i : Int)) (r, 0) ∧ Ev (fun k => gampref05_Loops.l1 k (lst n t) c done (i : Int) (j : Int)) r
theorem count_set : ∀ {l : List Bool} {i : Nat}, i < l.length → l.getD i false = false → (l.set i true).count false + 1 = l.count false
 | [], i, h, _ => by simp at h
 | b :: l, 0, h, e => by
  have : b = false := e
  subst this
  simp
 | b :: l, i + 1, h, e => by
  have ih := count_set (l := l) (i := i) (by simpa using h) e
  rw [List.set_cons_succ, List.count_cons, List.count_cons]
  omega
theorem rdB (l : List Bool) (i : Nat) : rdOf false l (i : Int) = l.getD i false := by unfold rdOf; rw [Int.toNat_natCast]
theorem loops_end (m : Nat) : LA n t m 0 := fun i done c hi hd hc => by
 refine ⟨c, Ev.step (f := fun _ => some (c, (0 : Int))) (fun k => ?_) (Ev.now _), Ev.step (f := fun _ => some c) (fun k => ?_) (Ev.now _)⟩
 ·simp only [strap_Loops.l0]; rw [if_neg (by omega)]
 ·simp only [gampref05_Loops.l0]; rw [lst_len, if_neg (by omega)]
theorem loops_B (ht : Sup n t) (hn : n ≤ 1000) {m d : Nat} (hA : LA n t m d) (hB : ∀ m', m = m' + 1 → LB n t m' d) : LB n t m d := fun i j done c hi hj hd hc => by
 cases hb : done.getD j false with
 | true =>
  obtain ⟨r, h1, h2⟩ := hA (i + 1) done c (by omega) hd hc
  refine ⟨r, Ev.step (fun k => ?_) h1, Ev.step (fun k => ?_) h2⟩
  ·simp only [strap_Loops.l1]
   rw [if_pos (by omega), if_pos (by omega), rdB, hb, if_pos rfl, wrap_s (by omega)]
  ·simp only [gampref05_Loops.l1]
   rw [if_pos (by omega), if_pos (by omega), rdB, hb, if_pos rfl, wrap_s (by omega)]
 | false =>
  have hcs := count_set (l := done) (i := j) (by omega) hb
  obtain ⟨r, h1, h2⟩ := hB (m - 1) (by omega) i (t.f j) (done.set j true) c hi (ht.lt hj) (by rw [List.length_set, hd]) (by omega)
  refine ⟨r, Ev.step (fun k => ?_) h1, Ev.step (fun k => ?_) h2⟩
  ·simp only [strap_Loops.l1]
   rw [if_pos (by omega), if_pos (by omega), rdB, hb, if_neg (by decide), if_pos (by rw [lst_len]; omega), lst_rd hj, Int.toNat_natCast]
  ·simp only [gampref05_Loops.l1]
   rw [if_pos (by omega), if_pos (by omega), rdB, hb, if_neg (by decide), if_pos (by rw [lst_len]; omega), lst_rd hj, Int.toNat_natCast]
theorem loops_A (hn : n ≤ 1000) {m d : Nat} (hA : LA n t m d) (hB : LB n t m d) : LA n t m (d + 1) := fun i done c hi hd hc => by
 cases hb : done.getD i false with
 | true =>
  obtain ⟨r, h1, h2⟩ := hA (i + 1) done c (by omega) hd hc
  refine ⟨r, Ev.step (fun k => ?_) h1, Ev.step (fun k => ?_) h2⟩
  ·simp only [strap_Loops.l0]
   rw [if_pos (by omega), if_pos (by omega), if_pos (by omega), rdB, hb, if_pos rfl, wrap_s (by omega)]
  ·simp only [gampref05_Loops.l0]
   rw [lst_len, if_pos (by omega), if_pos (by omega), if_pos (by omega), rdB, hb, if_pos rfl, wrap_s (by omega)]
 | false =>
  obtain ⟨r, h1, h2⟩ := hB i i done (wrap64 (c + 1)) (by omega) (by omega) hd hc
  refine ⟨r, Ev.step (fun k => ?_) h1, Ev.step (fun k => ?_) h2⟩
  ·simp only [strap_Loops.l0]
   rw [if_pos (by omega), if_pos (by omega), if_pos (by omega), rdB, hb, if_neg (by decide)]
  ·simp only [gampref05_Loops.l0]
   rw [lst_len, if_pos (by omega), if_pos (by omega), if_pos (by omega), rdB, hb, if_neg (by decide)]
theorem loops_AB (ht : Sup n t) (hn : n ≤ 1000) : ∀ m d : Nat, LA n t m d ∧ LB n t m d := by
 intro m
 induction m with
 | zero =>
  intro d
  induction d with
  | zero => exact ⟨loops_end 0, loops_B ht hn (loops_end 0) (fun m' h => by omega)⟩
  | succ d ih =>
   have hA := loops_A hn ih.1 ih.2
   exact ⟨hA, loops_B ht hn hA (fun m' h => by omega)⟩
 | succ m ihm =>
  intro d
  induction d with
  | zero => exact ⟨loops_end _, loops_B ht hn (loops_end _) (fun m' h => (show m = m' by omega) ▸ (ihm 0).2)⟩
  | succ d ih =>
   have hA := loops_A hn ih.1 ih.2
   exact ⟨hA, loops_B ht hn hA (fun m' h => (show m = m' by omega) ▸ (ihm (d + 1)).2)⟩
theorem loops_ev (ht : Sup n t) (hn : n ≤ 1000) : ∃ r, Ev (fun k => strap_Loops.l0 k (lst n t) (List.replicate n false) 0 (n : Int) 0) (r, 0) ∧ Ev (fun k => gampref05_Loops.f k (lst n t)) r := by
 obtain ⟨r, h1, h2⟩ := (loops_AB ht hn ((List.replicate n false).count false) n).1 0 (List.replicate n false) 0 (by omega) (by simp) rfl
 refine ⟨r, h1, ?_⟩
 unfold gampref05_Loops.f
 refine Ev.congr (fun k => ?_) h2
 rw [lst_len, if_pos (by omega), if_pos (by omega), Int.toNat_natCast]; rfl
end
theorem cut_eq (l : List Int) (a : Nat) (ha : a ≤ 60) (hl : l.length ≤ maxLen) : ∃ m : Nat, gamplaw05_cut.f l (a : Int) = some (l.take m) ∧ m ≤ 61 := by
 unfold gamplaw05_cut.f
 by_cases h : (l.length : Int) > 60
 ·refine ⟨61, ?_, by omega⟩
  rw [if_pos h, Option.bind_some]
  have e : mn (l.length : Int) 61 = ((61 : Nat) : Int) := by unfold mn; omega
  rw [e, if_pos (by omega), if_pos (by omega), if_pos (by rw [List.length_take]; simp only [List.length_nil]; omega)]
  rfl
 ·refine ⟨a, ?_, by omega⟩
  rw [if_neg h, Option.bind_some]
  by_cases h2 : l.length ≤ a
  ·have e : mn (l.length : Int) (a : Int) = ((l.length : Nat) : Int) := by unfold mn; omega
   rw [e, if_pos (by omega), if_pos (by omega), if_pos (by rw [List.length_take]; simp only [List.length_nil]; omega), Int.toNat_natCast, List.take_of_length_le (Nat.le_refl _), List.take_of_length_le h2]
   rfl
  ·have e : mn (l.length : Int) (a : Int) = (a : Int) := by unfold mn; omega
   rw [e, if_pos (by omega), if_pos (by omega), if_pos (by rw [List.length_take]; simp only [List.length_nil]; omega), Int.toNat_natCast]
   rfl
theorem perms_ev (a0 : Int) (l1 : List Int) (hl : l1.length ≤ maxLen) (hw : ∀ x ∈ l1, (Lit.int .i64 x).wf = true) : Ev (fun k => gamplaw05_StrapPerms.f k a0 l1) true := by
  obtain ⟨m, hc, hm⟩ := cut_eq l1 60 (by omega) hl
  have hlen : (l1.take m).length ≤ 61 := by rw [List.length_take]; omega
  have hwf : ∀ k ∈ l1.take m, -9223372036854775808 ≤ k ∧ k ≤ 9223372036854775807 := fun k hk => by
    have h := hw k (List.mem_of_mem_take hk)
    have h2 : (decide ((-9223372036854775808 : Int) ≤ k) && decide (k ≤ 9223372036854775807)) = true := h
    rw [Bool.and_eq_true] at h2
    exact ⟨of_decide_eq_true h2.1, of_decide_eq_true h2.2⟩
  have hchk := check_ev a0 (xs := l1.take m) (by omega) hwf
  generalize l1.take m = xs at hc hlen hwf hchk
  unfold gamplaw05_StrapPerms.f
  rw [show ((60 : Nat) : Int) = 60 from rfl] at hc
  rw [hc]
  simp only [Option.bind_some]
  by_cases hz : checkF a0 xs = 0
  · obtain ⟨n, rfl, hn1, hn2, hword, hx60⟩ := checkF_zero hz
    have hsup := perW_sup (t := one) hword (sup_one _)
    have hp := permutation_ev hword (by omega) (by omega)
    have hr := refPerm_ev hword (by omega) (by omega)
    obtain ⟨c, hl1, hl2⟩ := loops_ev hsup (by omega)
    have e1 : Ev (fun k => strap_Perm.f k (n : Int) xs) (lst n (perW one xs), 0) := by
      unfold strap_Perm.f strap_check.f
      simp only [Option.bind_some]
      rw [hz]
      simp only [if_true]
      exact Ev.bind (f := fun k t425 => some (t425, (0 : Int))) hp (Ev.now _)
    have e2 : Ev (fun k => strap_Loops.f k (n : Int) xs) (c, 0) := by
      unfold strap_Loops.f strap_check.f
      simp only [Option.bind_some]
      rw [hz]
      simp only [if_true]
      refine Ev.bind (f := fun k (t414 : List Int) => (if 0 ≤ (n : Int) then (if ((n : Int) : Int).toNat ≤ 281474976710656 then (strap_Loops.l0 k t414 (List.replicate ((n : Int) : Int).toNat false) 0 (t414.length : Int) 0) else (none)) else (none))) hp ?_
      refine Ev.congr (fun k => ?_) hl1
      rw [if_pos (by omega), if_pos (by omega), lst_len, Int.toNat_natCast]
    refine Ev.bind e1 (Ev.bind e2 (Ev.bind hchk ?_))
    simp only [hz, if_true]
    refine Ev.bind hr (Ev.bind (same_ev _ _ (by rw [lst_len]; omega)) ?_)
    simp only [decide_true, if_true]
    refine Ev.bind hl2 ?_
    simp only [if_true]
    exact Ev.bind lives_ev (Ev.now _)
  · have e1 : Ev (fun k => strap_Perm.f k a0 xs) ([], checkF a0 xs) := by
      unfold strap_Perm.f strap_check.f
      simp only [Option.bind_some]
      simp only [hz, if_false]
      exact Ev.now _
    have e2 : Ev (fun k => strap_Loops.f k a0 xs) (0, checkF a0 xs) := by
      unfold strap_Loops.f strap_check.f
      simp only [Option.bind_some]
      simp only [hz, if_false]
      exact Ev.now _
    refine Ev.bind e1 (Ev.bind e2 (Ev.bind hchk ?_))
    simp only [hz, if_false, List.length_nil]
    simp only [Int.ofNat_zero, if_true]
    exact Ev.bind lives_ev (Ev.now _)
theorem StrapPerms : gamplaw05_StrapPerms.Pure := fun a0 l1 h0 h1 h2 h3 => (perms_ev a0 l1 h1 h3).rounds
end Go.Proofs.Ytdldfdcedjmneaa.Pure

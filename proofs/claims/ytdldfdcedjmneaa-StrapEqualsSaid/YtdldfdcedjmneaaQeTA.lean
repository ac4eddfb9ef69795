/- The declarations of TA that the claim Qe needs. -/
import Derived.Test.YtdldfdcedjmneaaQePbx3
import Derived.Test.YtdldfdcedjmneaaQeBR
import Derived.Test.YtdldfdcedjmneaaQeT0
import Derived.OrdersHeld
import Derived.WalkKit
import Derived.KernelRfl
namespace Go.Proofs.Ytdldfdcedjmneaa.Own
open Go.RowKit Go.Proofs.YtdldfdcedjmneaaW.PrintWords Go.Proofs.YtdldfdcedjmneaaW.PrintLast Go.Proofs.YtdldfdcedjmneaaW.PrintMore Go.Proofs.Ytdldfdcedjmneaa.Pb Go.Proofs.Ytdldfdcedjmneaa.Br
set_option linter.unusedVariables false
set_option linter.unusedSimpArgs false
/-- The list of a simple braid of n strands. -/
def lst (n : Nat) (t : Pm) : List Int := (List.range n).map fun x => (t.f x : Int)
section
variable {n : Nat} {s t : Pm}
theorem lst_len (n : Nat) (t : Pm) : (lst n t).length = n := by unfold lst; rw [List.length_map, List.length_range]
theorem lst_getD {x : Nat} (hx : x < n) : (lst n t).getD x 0 = (t.f x : Int) := by
  unfold lst
  rw [List.getD_eq_getElem?_getD, List.getElem?_map, List.getElem?_range hx]; rfl
theorem lst_rd {x : Nat} (hx : x < n) : rd (lst n t) (x : Int) = (t.f x : Int) := by unfold rd; rw [Int.toNat_natCast, lst_getD hx]
theorem lst_inj (hs : Sup n s) (ht : Sup n t) (h : lst n s = lst n t) : s = t := Pm.same fun x => by
 by_cases hx : x < n
 ·have h1 := lst_getD (t := s) hx
  rw [h, lst_getD hx] at h1
  omega
 ·rw [hs x (by omega), ht x (by omega)]
/-- A list is that of a braid: number by number. -/
theorem lst_of {l : List Int} (hl : l.length = n) (h : ∀ x, x < n → l.getD x 0 = (t.f x : Int)) : l = lst n t := by
 refine List.ext_getElem (by rw [hl, lst_len]) fun i h1 h2 => ?_
 have h3 := h i (by omega)
 rw [← lst_getD (t := t) (show i < n by omega), List.getD_eq_getElem?_getD, List.getD_eq_getElem?_getD, List.getElem?_eq_getElem h1, List.getElem?_eq_getElem h2] at h3
 simpa using h3
theorem getD_set' {l : List Int} {i x : Nat} {v : Int} : (l.set i v).getD x 0 = if i = x ∧ x < l.length then v else l.getD x 0 := by
 rw [List.getD_eq_getElem?_getD, List.getElem?_set]
 by_cases h : i = x
 ·subst h
  by_cases h2 : i < l.length
  ·rw [if_pos rfl, if_pos h2, if_pos ⟨rfl, h2⟩]; rfl
  ·rw [if_pos rfl, if_neg h2, if_neg (fun h => h2 h.2), List.getD_eq_getElem?_getD, List.getElem?_eq_none (by omega)]
 ·rw [if_neg h, if_neg (fun h2 => h h2.1), List.getD_eq_getElem?_getD]
theorem wrap_s {i : Nat} (h : i ≤ 1000000) : wrap64 ((i : Int) + 1) = ((i + 1 : Nat) : Int) := by unfold wrap64; omega
theorem rd_nat (l : List Int) (i : Nat) : rd l (i : Int) = l.getD i 0 := by unfold rd; rw [Int.toNat_natCast]
theorem identity_l0 (n : Nat) (hn : n ≤ 1000) : ∀ (d i : Nat), i + d = n → Ev (fun k => strap_identity.l0 k ((List.range i).map fun (x : Nat) => (x : Int)) (n : Int) (i : Int)) (lst n one)
 | 0, i, hd => by
  have e : i = n := by omega
  subst e
  exact Ev.step (f := fun _ => some (lst i one)) (fun k => by simp only [strap_identity.l0]; rw [if_neg (by omega)]; rfl) (Ev.now _)
 | d + 1, i, hd => by
  refine Ev.step (fun k => ?_) (identity_l0 n hn d (i + 1) (by omega))
  simp only [strap_identity.l0]
  rw [if_pos (by omega), if_pos (by rw [List.length_map, List.length_range]; omega), wrap_s (by omega), List.range_succ, List.map_append]; rfl
theorem identity_ev (n : Nat) (hn : n ≤ 1000) : Ev (fun k => strap_identity.f k (n : Int)) (lst n one) := identity_l0 n hn n 0 (by omega)
theorem reverse_l0 (hn : n ≤ 1000) (u : Nat → Int) : ∀ (d i : Nat) (l : List Int), i + d = (n + 1) / 2 → l.length = n → (∀ x, x < n → l.getD x 0 = if x < i ∨ n - i ≤ x then u (n - 1 - x) else u x) →
  ∃ R : List Int, R.length = n ∧ (∀ x, x < n → R.getD x 0 = u (n - 1 - x)) ∧ Ev (fun k => strap_perm_int_97.l0 k l (i : Int) (((n : Int) - 1) - (i : Int))) R
 | 0, i, l, hd, hl, hv => by
  refine ⟨l, hl, fun x hx => ?_, Ev.step (f := fun _ => some l) (fun k => by simp only [strap_perm_int_97.l0]; rw [if_neg (by omega)]) (Ev.now _)⟩
  rw [hv x hx, if_pos (by omega)]
 | d + 1, i, l, hd, hl, hv => by
  by_cases hlt : (i : Int) < ((n : Int) - 1) - (i : Int)
  ·have hj : ((n : Int) - 1) - (i : Int) = ((n - 1 - i : Nat) : Int) := by omega
   have e1 := hv i (by omega)
   have e2 := hv (n - 1 - i) (by omega)
   rw [if_neg (by omega)] at e1 e2
   obtain ⟨R, h1, h2, h3⟩ := reverse_l0 hn u d (i + 1) ((l.set i (u (n - 1 - i))).set (n - 1 - i) (u i)) (by omega) (by rw [List.length_set, List.length_set, hl]) (fun x hx => by
    rw [getD_set', getD_set', List.length_set, hl]
    by_cases hx1 : n - 1 - i = x
    ·rw [if_pos ⟨hx1, hx⟩, if_pos (by omega)]; congr 1; omega
    ·rw [if_neg (fun h => hx1 h.1)]
     by_cases hx2 : i = x
     ·rw [if_pos ⟨hx2, hx⟩, if_pos (by omega), hx2]
     ·rw [if_neg (fun h => hx2 h.1), hv x hx]
      by_cases h : x < i ∨ n - i ≤ x
      ·rw [if_pos h, if_pos (by omega)]
      ·rw [if_neg h, if_neg (by omega)])
   refine ⟨R, h1, h2, Ev.step (fun k => ?_) h3⟩
   simp only [strap_perm_int_97.l0]
   rw [if_pos hlt, hj, if_pos (by omega), if_pos (by omega), if_pos (by omega), if_pos (by omega), rd_nat, rd_nat, e1, e2, Int.toNat_natCast, Int.toNat_natCast, wrap_s (by omega)]
   have e3 : wrap64 (((n - 1 - i : Nat) : Int) - 1) = (n : Int) - 1 - ((i + 1 : Nat) : Int) := by unfold wrap64; omega
   rw [e3]
  ·refine ⟨l, hl, fun x hx => ?_, Ev.step (f := fun _ => some l) (fun k => by simp only [strap_perm_int_97.l0]; rw [if_neg hlt]) (Ev.now _)⟩
   rw [hv x hx]
   by_cases h : x < i ∨ n - i ≤ x
   ·rw [if_pos h]
   ·rw [if_neg h]; congr 1; omega
theorem twist_ev (n : Nat) (hn1 : 1 ≤ n) (hn : n ≤ 1000) : Ev (fun k => strap_twist.f k (n : Int)) (lst n (half n)) := by
 obtain ⟨R, h1, h2, h3⟩ := reverse_l0 (n := n) hn (fun x => (x : Int)) ((n + 1) / 2) 0 (lst n one) (by omega) (lst_len _ _) (fun x hx => by
  rw [lst_getD hx, if_neg (by omega)]; rfl)
 have hR : R = lst n (half n) := lst_of h1 fun x hx => by rw [h2 x hx]; show _ = ((dl n x : Nat) : Int); rw [dl_in hx]
 rw [hR] at h3
 unfold strap_twist.f
 refine Ev.bind (identity_ev n hn) (Ev.bind (a := lst n (half n)) ?_ (Ev.now _))
 unfold strap_perm_int_97.f
 refine Ev.congr (fun k => ?_) h3
 have e : wrap64 (((lst n one).length : Int) - 1) = (n : Int) - 1 - ((0 : Nat) : Int) := by rw [lst_len]; unfold wrap64; omega
 rw [e]; rfl
theorem eq_l0 {l0 l1 : List Int} (hl : l0.length = l1.length) (hm : l0.length ≤ 1000) : ∀ (d i : Nat), i + d = l0.length → (∀ x, x < i → l0.getD x 0 = l1.getD x 0) →
    Ev (fun k => strap_perm_int_84.l0 k l0 l1 (l0.length : Int) (i : Int)) (decide (l0 = l1))
  | 0, i, hd, hv => by
    have : l0 = l1 := by
      refine List.ext_getElem hl fun j h1 h2 => ?_
      have h3 := hv j (by omega)
      rw [List.getD_eq_getElem?_getD, List.getD_eq_getElem?_getD, List.getElem?_eq_getElem h1, List.getElem?_eq_getElem h2] at h3
      simpa using h3
    rw [decide_eq_true this]
    exact Ev.step (f := fun _ => some true) (fun k => by simp only [strap_perm_int_84.l0]; rw [if_neg (by omega)]) (Ev.now _)
  | d + 1, i, hd, hv => by
    by_cases he : l0.getD i 0 = l1.getD i 0
    · refine Ev.step (fun k => ?_) (eq_l0 hl hm d (i + 1) (by omega) (fun x hx => by
        by_cases e : x = i
        · rw [e]; exact he
        · exact hv x (by omega)))
      simp only [strap_perm_int_84.l0]
      rw [if_pos (by omega), if_pos (by omega), if_pos (by omega), if_pos (by omega), rd_nat, rd_nat, if_pos he, wrap_s (by omega)]
    · have hne : l0 ≠ l1 := fun e => he (by rw [e])
      rw [decide_eq_false hne]
      refine Ev.step (f := fun _ => some false) (fun k => ?_) (Ev.now _)
      simp only [strap_perm_int_84.l0]
      rw [if_pos (by omega), if_pos (by omega), if_pos (by omega), if_pos (by omega), rd_nat, rd_nat, if_neg he]
theorem is_ev (l0 l1 : List Int) (hm : l0.length ≤ 1000) : Ev (fun k => strap_perm_is.f k l0 l1) (decide (l0 = l1)) := by
 unfold strap_perm_is.f
 refine Ev.bind (a := decide (l0 = l1)) ?_ (Ev.now _)
 unfold strap_perm_int_84.f
 by_cases hl : l0.length = l1.length
 ·refine Ev.congr (fun k => ?_) (eq_l0 hl hm l0.length 0 (by omega) (fun x hx => by omega))
  rw [if_pos (by omega)]; rfl
 ·have hne : l0 ≠ l1 := fun e => hl (by rw [e])
  rw [decide_eq_false hne]
  exact Ev.congr (f := fun _ => some false) (fun k => by rw [if_neg (by omega)]) (Ev.now _)
theorem turned_l0 (hs : Sup n t) (hn : n ≤ 1000) : ∀ (d i : Nat) (l : List Int), i + d = n → l.length = n → (∀ x, x < n → n - i ≤ x → l.getD x 0 = ((tau n t).f x : Int)) →
  Ev (fun k => strap_perm_turned.l0 k (lst n t) l (n : Int) (i : Int)) (lst n (tau n t))
 | 0, i, l, hd, hl, hv => by
  have : l = lst n (tau n t) := lst_of hl fun x hx => hv x hx (by omega)
  rw [← this]
  exact Ev.step (f := fun _ => some l) (fun k => by simp only [strap_perm_turned.l0]; rw [if_neg (by omega)]) (Ev.now _)
 | d + 1, i, l, hd, hl, hv => by
  have hi : i < n := by omega
  have hlt := hs.lt hi
  refine Ev.step (fun k => ?_) (turned_l0 hs hn d (i + 1) (l.set (n - 1 - i) ((n - 1 - t.f i : Nat) : Int)) (by omega) (by rw [List.length_set, hl]) (fun x hx hxi => by
   rw [getD_set', hl]
   by_cases e : n - 1 - i = x
   ·rw [if_pos ⟨e, hx⟩]
    show _ = ((dl n (t.f (dl n x)) : Nat) : Int)
    rw [dl_in hx, show n - 1 - x = i by omega, dl_in hlt]
   ·rw [if_neg (fun h => e h.1)]
    exact hv x hx (by omega)))
  have e1 : wrap64 (((lst n t).length : Int) - 1) = (n : Int) - 1 := by rw [lst_len]; unfold wrap64; omega
  have e2 : wrap64 ((n : Int) - 1 - (i : Int)) = ((n - 1 - i : Nat) : Int) := by unfold wrap64; omega
  have e3 : wrap64 ((n : Int) - 1 - (t.f i : Int)) = ((n - 1 - t.f i : Nat) : Int) := by unfold wrap64; omega
  simp only [strap_perm_turned.l0]
  rw [e1, e2, lst_rd hi, e3, if_pos (by omega), if_pos (by omega), if_pos (by rw [lst_len]; omega), if_pos (by omega), if_pos (by omega), Int.toNat_natCast, wrap_s (by omega)]
theorem turned_ev (hs : Sup n t) (hn : n ≤ 1000) : Ev (fun k => strap_perm_turned.f k (lst n t)) (lst n (tau n t)) := by
 unfold strap_perm_turned.f
 refine Ev.congr (fun k => ?_) (turned_l0 hs hn n 0 (List.replicate n 0) (by omega) (by simp) (fun x hx h => by omega))
 rw [lst_len, if_pos (by omega), Int.toNat_natCast, if_pos (by omega)]; rfl
theorem behind_l0 (hs : Sup n t) (hn : n ≤ 1000) {i : Nat} (hi : i + 1 < n) : ∀ (d j : Nat) (l : List Int), j + d = n → l.length = n → (∀ x, x < n → l.getD x 0 = if x < j then ((t.R i).f x : Int) else (t.f x : Int)) →
    Ev (fun k => strap_perm_behind.l0 k l (i : Int) (n : Int) (j : Int)) (lst n (t.R i))
  | 0, j, l, hd, hl, hv => by
    have : l = lst n (t.R i) := lst_of hl fun x hx => by rw [hv x hx, if_pos (by omega)]
    rw [← this]
    exact Ev.step (f := fun _ => some l) (fun k => by simp only [strap_perm_behind.l0]; rw [if_neg (by omega)]) (Ev.now _)
  | d + 1, j, l, hd, hl, hv => by
    have hj : j < n := by omega
    have e1 : rd l (j : Int) = (t.f j : Int) := by rw [rd_nat, hv j hj, if_neg (by omega)]
    have hw : wrap64 ((i : Int) + 1) = ((i + 1 : Nat) : Int) := wrap_s (by omega)
    have hR : (t.R i).f j = sw i (t.f j) := rfl
    by_cases h1 : t.f j = i
    · refine Ev.step (fun k => ?_) (behind_l0 hs hn hi d (j + 1) (l.set j ((i + 1 : Nat) : Int)) (by omega) (by rw [List.length_set, hl]) (fun x hx => by
        rw [getD_set', hl]
        by_cases e : j = x
        · subst e; rw [if_pos ⟨rfl, hx⟩, if_pos (by omega), hR, h1, sw_l]
        · rw [if_neg (fun h => e h.1), hv x hx]
          by_cases h2 : x < j
          · rw [if_pos h2, if_pos (by omega)]
          · rw [if_neg h2, if_neg (by omega)]))
      simp only [strap_perm_behind.l0]
      rw [hw, e1, if_pos (by omega), if_pos (by omega), if_pos (by omega), if_pos (by omega), Int.toNat_natCast, wrap_s (by omega)]
    · by_cases h2 : t.f j = i + 1
      · refine Ev.step (fun k => ?_) (behind_l0 hs hn hi d (j + 1) (l.set j (i : Int)) (by omega) (by rw [List.length_set, hl]) (fun x hx => by
          rw [getD_set', hl]
          by_cases e : j = x
          · subst e; rw [if_pos ⟨rfl, hx⟩, if_pos (by omega), hR, h2, sw_r]
          · rw [if_neg (fun h => e h.1), hv x hx]
            by_cases h3 : x < j
            · rw [if_pos h3, if_pos (by omega)]
            · rw [if_neg h3, if_neg (by omega)]))
        simp only [strap_perm_behind.l0]
        rw [hw, e1, if_pos (by omega), if_pos (by omega), if_pos (by omega), if_neg (by omega), if_pos (by omega), Int.toNat_natCast, wrap_s (by omega)]
      · refine Ev.step (fun k => ?_) (behind_l0 hs hn hi d (j + 1) l (by omega) hl (fun x hx => by
          rw [hv x hx]
          by_cases e : x = j
          · subst e; rw [if_neg (by omega), if_pos (by omega), hR, sw_o h1 h2]
          · by_cases h3 : x < j
            · rw [if_pos h3, if_pos (by omega)]
            · rw [if_neg h3, if_neg (by omega)]))
        simp only [strap_perm_behind.l0]
        rw [hw, e1, if_pos (by omega), if_pos (by omega), if_pos (by omega), if_neg (by omega), if_neg (by omega), wrap_s (by omega)]
theorem behind_ev (hs : Sup n t) (hn : n ≤ 1000) {i : Nat} (hi : i + 1 < n) : Ev (fun k => strap_perm_behind.f k (lst n t) (i : Int)) (lst n (t.R i)) := by
 unfold strap_perm_behind.f
 rw [lst_len]
 exact behind_l0 hs hn hi n 0 (lst n t) (by omega) (lst_len _ _) (fun x hx => by rw [lst_getD hx, if_neg (by omega)])
theorem begins_eq {i : Nat} (hi : i + 1 < n) (hn : n ≤ 1000) : strap_perm_begins.f (lst n t) (i : Int) = some (decide (t.B i)) := by
 unfold strap_perm_begins.f
 have hw : wrap64 ((i : Int) + 1) = ((i + 1 : Nat) : Int) := wrap_s (by omega)
 rw [hw, lst_len, if_pos (by omega), if_pos (by omega), if_pos (by omega), if_pos (by omega), lst_rd (by omega), lst_rd hi]
 congr 1
 apply decide_eq_decide.2
 unfold Pm.B
 omega
def inv1 (t : Pm) : Pm := ⟨t.g, t.f, t.gf, t.fg⟩
theorem inverse_l0 (hs : Sup n t) (hn : n ≤ 1000) : ∀ (d i : Nat) (l : List Int), i + d = n → l.length = n → (∀ x, x < n → t.g x < i → l.getD x 0 = (t.g x : Int)) →
  Ev (fun k => strap_perm_inverse.l0 k l (lst n t) (n : Int) (i : Int)) (lst n (inv1 t))
 | 0, i, l, hd, hl, hv => by
  have : l = lst n (inv1 t) := lst_of hl fun x hx => hv x hx (by have := hs.glt hx; omega)
  rw [← this]
  exact Ev.step (f := fun _ => some l) (fun k => by simp only [strap_perm_inverse.l0]; rw [if_neg (by omega)]) (Ev.now _)
 | d + 1, i, l, hd, hl, hv => by
  have hi : i < n := by omega
  have hlt := hs.lt hi
  refine Ev.step (fun k => ?_) (inverse_l0 hs hn d (i + 1) (l.set (t.f i) (i : Int)) (by omega) (by rw [List.length_set, hl]) (fun x hx hxi => by
   rw [getD_set', hl]
   by_cases e : t.f i = x
   ·rw [if_pos ⟨e, hx⟩, ← e, t.gf]
   ·rw [if_neg (fun h => e h.1)]
    refine hv x hx ?_
    have : t.g x ≠ i := fun h => e (by rw [← h, t.fg])
    omega))
  simp only [strap_perm_inverse.l0]
  rw [lst_rd hi, if_pos (by omega), if_pos (by omega), if_pos (by rw [lst_len]; omega), if_pos (by omega), if_pos (by omega), Int.toNat_natCast, wrap_s (by omega)]
theorem inverse_ev (hs : Sup n t) (hn : n ≤ 1000) : Ev (fun k => strap_perm_inverse.f k (lst n t)) (lst n (inv1 t)) := by
 unfold strap_perm_inverse.f
 refine Ev.congr (fun k => ?_) (inverse_l0 hs hn n 0 (List.replicate n 0) (by omega) (by simp) (fun x hx h => by omega))
 rw [lst_len, if_pos (by omega), Int.toNat_natCast, if_pos (by omega)]; rfl
theorem ends_ev (hs : Sup n t) (hn : n ≤ 1000) {i : Nat} (hi : i + 1 < n) : Ev (fun k => strap_perm_ends.f k (lst n t) (i : Int)) (decide (t.E i)) := by
 unfold strap_perm_ends.f
 refine Ev.bind (inverse_ev hs hn) ?_
 have h := begins_eq (t := inv1 t) hi hn
 have e : decide ((inv1 t).B i) = decide (t.E i) := rfl
 rw [e] at h
 exact Ev.congr (f := fun _ => some (decide (t.E i))) (fun k => by rw [h]; rfl) (Ev.now _)
end
end Go.Proofs.Ytdldfdcedjmneaa.Own
namespace Go.Proofs.Ytdldfdcedjmneaa.Own
open Go.RowKit Go.Proofs.YtdldfdcedjmneaaW.PrintWords Go.Proofs.YtdldfdcedjmneaaW.PrintLast Go.Proofs.YtdldfdcedjmneaaW.PrintMore Go.Proofs.Ytdldfdcedjmneaa.Pb Go.Proofs.Ytdldfdcedjmneaa.Br
set_option linter.unusedVariables false
set_option linter.unusedSimpArgs false
/-- One pass over the places i, i + 1, .. -/
def passM : Nat → Nat → Pm → Pm → Bool → Bool → Pm × Pm × Bool × Bool
  | 0, _, s, t, m, a => (s, t, m, a)
  | d + 1, i, s, t, m, a => if t.B i ∧ ¬ s.E i then passM d (i + 1) (s.R i) (t.L i) true true else passM d (i + 1) s t m a
/-- What a pass does. -/
structure PassR (n : Nat) (s t : Pm) (m a : Bool) (i d : Nat) (r : Pm × Pm × Bool × Bool) : Prop where
  s1 : Sup n r.1
  s2 : Sup n r.2.1
  star : ∀ l, Star n (s :: t :: l) (r.1 :: r.2.1 :: l)
  le : phi n r.1 ≤ phi n s
  no : r.2.2.2 = false → a = false ∧ r.1 = s ∧ r.2.1 = t ∧ r.2.2.1 = m ∧ ∀ j, i ≤ j → j < i + d → t.B j → s.E j
  yes : r.2.2.2 = true → a = true ∨ (phi n r.1 < phi n s ∧ r.2.2.1 = true)
  mm : m = true → r.2.2.1 = true
  keep : r.2.2.1 = false → r.1 = s ∧ r.2.1 = t
theorem passM_spec {n : Nat} : ∀ (d i : Nat) (s t : Pm) (m a : Bool), i + d + 1 ≤ n → Sup n s → Sup n t → PassR n s t m a i d (passM d i s t m a)
 | 0, i, s, t, m, a, hd, hs, ht => by
  unfold passM
  exact ⟨hs, ht, fun l => .refl _, Nat.le_refl _, fun h => ⟨h, rfl, rfl, rfl, fun j h1 h2 => by omega⟩, fun h => .inl h, fun h => h, fun _ => ⟨rfl, rfl⟩⟩
 | d + 1, i, s, t, m, a, hd, hs, ht => by
  unfold passM
  by_cases h : t.B i ∧ ¬ s.E i
  ·rw [if_pos h]
   have hi : i + 1 < n := by omega
   have ih := passM_spec d (i + 1) (s.R i) (t.L i) true true (by omega) (hs.R hi) (ht.L hi)
   have hp := phi_R hi h.2
   refine ⟨ih.s1, ih.s2, fun l => .step (.mv s t l i hi h.1 h.2) (ih.star l), Nat.le_trans ih.le (Nat.le_of_lt hp), fun h2 => ?_, fun _ => .inr ⟨Nat.lt_of_le_of_lt ih.le hp, ih.mm rfl⟩, fun _ => ih.mm rfl, fun h2 => ?_⟩
   ·exact absurd (ih.no h2).1 (by simp)
   ·rw [ih.mm rfl] at h2; cases h2
  ·rw [if_neg h]
   have ih := passM_spec d (i + 1) s t m a (by omega) hs ht
   refine ⟨ih.s1, ih.s2, ih.star, ih.le, fun h2 => ?_, ih.yes, ih.mm, ih.keep⟩
   obtain ⟨k1, k2, k3, k4, k5⟩ := ih.no h2
   refine ⟨k1, k2, k3, k4, fun j h3 h4 hb => ?_⟩
   by_cases e : j = i
   ·subst e
    exact Classical.byContradiction fun he => h ⟨hb, he⟩
   ·exact k5 j (by omega) (by omega) hb
section
variable {n : Nat}
theorem swap_lst {t : Pm} {i : Nat} (hi : i + 1 < n) : ((lst n t).set i (rd (lst n t) ((i + 1 : Nat) : Int))).set (i + 1) (rd (lst n t) (i : Int)) = lst n (t.L i) := by
 refine lst_of (by rw [List.length_set, List.length_set, lst_len]) fun x hx => ?_
 rw [lst_rd (x := i + 1) hi, lst_rd (x := i) (by omega), getD_set', getD_set', List.length_set, lst_len]
 show _ = ((t.f (sw i x) : Nat) : Int)
 by_cases h1 : i + 1 = x
 ·rw [if_pos ⟨h1, hx⟩, ← h1, sw_r]
 ·rw [if_neg (fun h => h1 h.1)]
  by_cases h2 : i = x
  ·rw [if_pos ⟨h2, hx⟩, ← h2, sw_l]
  ·rw [if_neg (fun h => h2 h.1), lst_getD hx, sw_o (fun h => h2 h.symm) (fun h => h1 h.symm)]
theorem move_l1 (hn1 : 1 ≤ n) (hn : n ≤ 1000) {r : Bool × List Int × List Int} : ∀ (d i : Nat) (s t : Pm) (m a : Bool), i + d + 1 = n → Sup n s → Sup n t →
  Ev (fun k => strap_move.l0 k (lst n (passM d i s t m a).1) (lst n (passM d i s t m a).2.1) (passM d i s t m a).2.2.1 (passM d i s t m a).2.2.2) r →
  Ev (fun k => strap_move.l1 k (lst n s) (lst n t) m a ((n : Int) - 1) (i : Int)) r
 | 0, i, s, t, m, a, hd, hs, ht, h => by
  unfold passM at h
  refine Ev.step (fun k => ?_) h
  simp only [strap_move.l1]
  rw [if_neg (by omega)]
 | d + 1, i, s, t, m, a, hd, hs, ht, h => by
  have hi : i + 1 < n := by omega
  have hb := begins_eq (t := t) hi hn
  unfold passM at h
  by_cases hB : t.B i
  ·rw [decide_eq_true hB] at hb
   have he := ends_ev hs hn hi
   by_cases hE : s.E i
   ·rw [decide_eq_true hE] at he
    rw [if_neg (fun h => h.2 hE)] at h
    refine Ev.step (fun k => by
     simp only [strap_move.l1]
     rw [if_pos (by omega), hb, Option.bind_some, if_pos rfl]) (Ev.bind he ?_)
    simp only [if_true]
    refine Ev.congr (fun k => ?_) (move_l1 hn1 hn d (i + 1) s t m a (by omega) hs ht h)
    rw [wrap_s (by omega)]
   ·rw [decide_eq_false hE] at he
    rw [if_pos ⟨hB, hE⟩] at h
    refine Ev.step (fun k => by
     simp only [strap_move.l1]
     rw [if_pos (by omega), hb, Option.bind_some, if_pos rfl]) (Ev.bind he ?_)
    simp only [Bool.false_eq_true, if_false]
    refine Ev.bind (behind_ev hs hn hi) ?_
    refine Ev.congr (fun k => ?_) (move_l1 hn1 hn d (i + 1) (s.R i) (t.L i) true true (by omega) (hs.R hi) (ht.L hi) h)
    rw [wrap_s (by omega), lst_len, if_pos (by omega), if_pos (by omega), if_pos (by omega), if_pos (by omega), Int.toNat_natCast, Int.toNat_natCast, swap_lst hi]
  ·rw [decide_eq_false hB] at hb
   rw [if_neg (fun h => hB h.1)] at h
   refine Ev.step (fun k => ?_) (move_l1 hn1 hn d (i + 1) s t m a (by omega) hs ht h)
   simp only [strap_move.l1]
   rw [if_pos (by omega), hb, Option.bind_some, if_neg (by simp), wrap_s (by omega)]
/-- What move does. -/
structure MoveR (n : Nat) (s t : Pm) (b : Bool) (s' t' : Pm) : Prop where
  s1 : Sup n s'
  s2 : Sup n t'
  star : ∀ l, Star n (s :: t :: l) (s' :: t' :: l)
  le : phi n s' ≤ phi n s
  right : ∀ j, j + 1 < n → t'.B j → s'.E j
  no : b = false → s' = s ∧ t' = t
  yes : b = true → phi n s' < phi n s
theorem move_l0 (hn1 : 1 ≤ n) (hn : n ≤ 1000) : ∀ (z : Nat) (s t : Pm) (m : Bool) (s0 t0 : Pm), phi n s ≤ z → Sup n s → Sup n t → (∀ l, Star n (s0 :: t0 :: l) (s :: t :: l)) → phi n s ≤ phi n s0 → (m = true → phi n s < phi n s0) → (m = false → s = s0 ∧ t = t0) →
  ∃ b s' t', MoveR n s0 t0 b s' t' ∧ Ev (fun k => strap_move.l0 k (lst n s) (lst n t) m true) (b, lst n s', lst n t') := by
 intro z
 induction z using Nat.strongRecOn with
 | _ z ih =>
  intro s t m s0 t0 hz hs ht hst hle hyes hno
  have hP := passM_spec (n - 1) 0 s t m false (by omega) hs ht
  obtain ⟨r, hr⟩ : ∃ r, passM (n - 1) 0 s t m false = r := ⟨_, rfl⟩
  rw [hr] at hP
  have hw : wrap64 (((lst n s).length : Int) - 1) = (n : Int) - 1 := by rw [lst_len]; unfold wrap64; omega
  have go : ∀ q, Ev (fun k => strap_move.l0 k (lst n r.1) (lst n r.2.1) r.2.2.1 r.2.2.2) q → Ev (fun k => strap_move.l0 k (lst n s) (lst n t) m true) q := by
   intro q hq
   have h1 := move_l1 (n := n) hn1 hn (n - 1) 0 s t m false (by omega) hs ht (by rw [hr]; exact hq)
   refine Ev.step (fun k => ?_) h1
   simp only [strap_move.l0]
   rw [if_pos trivial, hw]; rfl
  cases ha : r.2.2.2 with
  | false =>
   obtain ⟨_, k2, k3, k4, k5⟩ := hP.no ha
   refine ⟨m, s, t, ⟨hs, ht, hst, hle, fun j hj hb => k5 j (Nat.zero_le _) (by omega) hb, fun h => hno h, hyes⟩, go _ ?_⟩
   rw [ha, k2, k3, k4]
   exact Ev.step (f := fun _ => some (m, lst n s, lst n t)) (fun k => by simp only [strap_move.l0]; rw [if_neg (by simp)]) (Ev.now _)
  | true =>
   rcases hP.yes ha with h | ⟨h1, h2⟩
   ·cases h
   ·obtain ⟨b, s', t', q1, q2⟩ := ih (phi n r.1) (by omega) r.1 r.2.1 r.2.2.1 s0 t0 (Nat.le_refl _) hP.s1 hP.s2 (fun l => (hst l).trans (hP.star l)) (by omega) (fun _ => by omega) (fun h => by rw [h2] at h; cases h)
    refine ⟨b, s', t', q1, go _ ?_⟩
    rw [ha]
    exact q2
theorem move_ev (hn1 : 1 ≤ n) (hn : n ≤ 1000) {s t : Pm} (hs : Sup n s) (ht : Sup n t) : ∃ b s' t', MoveR n s t b s' t' ∧ Ev (fun k => strap_move.f k (lst n s) (lst n t)) (b, lst n s', lst n t') := by
  obtain ⟨b, s', t', h1, h2⟩ := move_l0 hn1 hn (phi n s) s t false s t (Nat.le_refl _) hs ht (fun l => .refl _) (Nat.le_refl _) (fun h => by cases h) (fun _ => ⟨rfl, rfl⟩)
  exact ⟨b, s', t', h1, h2⟩
end
end Go.Proofs.Ytdldfdcedjmneaa.Own
namespace Go.Proofs.Ytdldfdcedjmneaa.Own
open Go.RowKit Go.Proofs.YtdldfdcedjmneaaW.PrintWords Go.Proofs.YtdldfdcedjmneaaW.PrintLast Go.Proofs.YtdldfdcedjmneaaW.PrintMore Go.Proofs.Ytdldfdcedjmneaa.Pb Go.Proofs.Ytdldfdcedjmneaa.Br
set_option linter.unusedVariables false
set_option linter.unusedSimpArgs false
structure KeptG {α : Type} (xs : List α) (f : α → Bool) (k i : Nat) (dk : List α) : Prop where
  lt : i < k
  hk : k ≤ xs.length
  len : dk.length = xs.length
  kept : dk.take i = (xs.take k).filter f
  num : ((xs.take k).filter f).length = i
  rest : ∀ j, k ≤ j → dk[j]? = xs[j]?
section
variable {α : Type} {xs dk : List α} {f : α → Bool} {k i : Nat}
theorem KeptG.start (k : Nat) (hk : k < xs.length) (hb : ∀ x ∈ xs.take k, f x = true) (he : f xs[k] = false) : KeptG xs f (k + 1) k xs := by
 have h1 : (xs.take k).filter f = xs.take k := List.filter_eq_self.2 hb
 have h2 : (xs.take (k + 1)).filter f = xs.take k := by
  rw [List.take_succ_eq_append_getElem hk, List.filter_append, h1, List.filter_cons, he]; simp
 exact ⟨by omega, by omega, rfl, h2.symm, by rw [h2, List.length_take]; omega, fun j _ => rfl⟩
theorem KeptG.at_ (h : KeptG xs f k i dk) (hk : k < xs.length) : dk[k]? = some xs[k] := by rw [h.rest k (Nat.le_refl _), List.getElem?_eq_getElem hk]
theorem KeptG.keep (h : KeptG xs f k i dk) (hk : k < xs.length) (hf : f xs[k] = true) : KeptG xs f (k + 1) (i + 1) (dk.set i xs[k]) := by
 have hi : i < dk.length := by rw [h.len]; have := h.lt; omega
 have h2 : (xs.take (k + 1)).filter f = (xs.take k).filter f ++ [xs[k]] := by
  rw [List.take_succ_eq_append_getElem hk, List.filter_append, List.filter_cons, hf]; simp
 refine ⟨by have := h.lt; omega, by omega, by rw [List.length_set, h.len], ?_, by rw [h2, List.length_append, h.num]; rfl, fun j hj => ?_⟩
 ·rw [h2, List.take_succ_eq_append_getElem (by rw [List.length_set]; exact hi), List.getElem_set_self, List.take_set, List.set_eq_of_length_le (by rw [List.length_take]; omega), h.kept]
 ·rw [List.getElem?_set_ne (by have := h.lt; omega)]
  exact h.rest j (by omega)
theorem KeptG.skip (h : KeptG xs f k i dk) (hk : k < xs.length) (hf : f xs[k] = false) : KeptG xs f (k + 1) i dk := by
 have h2 : (xs.take (k + 1)).filter f = (xs.take k).filter f := by
  rw [List.take_succ_eq_append_getElem hk, List.filter_append, List.filter_cons, hf]; simp
 exact ⟨by have := h.lt; omega, by omega, h.len, by rw [h2]; exact h.kept, by rw [h2]; exact h.num, fun j hj => h.rest j (by omega)⟩
end
section
variable {B n : Nat} {w w' : World} {v v' : Value} {hs : List (Nat × Nat)} {L : List (List Int)}
/-- Some of the factors. -/
theorem Fac.sub {S : Nat → Prop} (h : Fac B n w v hs L) {ps : List ((Nat × Nat) × List Int)} (hsub : ps.Sublist (hs.zip L)) (hk : Kept w w' S) (hS : ∀ k, S k → ∀ i (hi : i < hs.length), hs[i].1 ≠ k)
  (htop : (hd n).Q 86 w' B (fun _ => True) v' (ps.map (·.1))) : Fac B n w' v' (ps.map (·.1)) (ps.map (·.2)) := by
 refine ⟨htop, by rw [List.length_map, List.length_map], fun i hi => ?_, ?_⟩
 ·rw [List.length_map] at hi
  obtain ⟨j, hj, he⟩ := List.getElem_of_mem (hsub.subset (List.getElem_mem hi))
  rw [List.length_zip] at hj
  rw [List.getElem_zip] at he
  have h1 : hs[j]'(by omega) = ps[i].1 := by rw [← he]
  have h2 : L.getD j [] = ps[i].2 := by rw [List.getD_eq_getElem?_getD, List.getElem?_eq_getElem (by omega), ← he]; rfl
  have h3 : (ps.map (·.2)).getD i [] = ps[i].2 := by rw [List.getD_eq_getElem?_getD, List.getElem?_map, List.getElem?_eq_getElem hi]; rfl
  have h4 := h.row j (by omega)
  rw [h1, h2] at h4
  rw [List.getElem_map, h3]
  exact Kd.R_kept h4 hk (fun k hk1 hs1 => hS k hs1 j (by omega) (by rw [h1]; exact hk1.symm))
 ·have h1 : ((hs.zip L).map (·.1)) = hs := List.map_fst_zip (by rw [h.len]; exact Nat.le_refl _)
  have h2 := ((hsub.map (fun p : (Nat × Nat) × List Int => p.1)).map (fun p : Nat × Nat => p.1))
  rw [h1] at h2
  exact h2.nodup h.nd
theorem Q_clear {g o m c : Nat} {ok : Nat → Prop} (h : (hd n).Q 86 w B ok (.slice (some ⟨g, o, none⟩) m c) hs) {i : Nat} (hi : i ≤ m) (seg : List Value) (hl : seg.length = m - i) :
  (hd n).Q 86 (w.setCells g (o + i) seg) B ok (.slice (some ⟨g, o, none⟩) i c) (hs.take i) ∧ Kept w (w.setCells g (o + i) seg) (fun k => k = g) := by
 obtain ⟨hn, hnc, _⟩ := Kd.Q_reads' h
 have h1 := Kd.Q_take h (m := i) (by omega)
 refine ⟨?_, by obtain ⟨_, _, _, s4⟩ := setCells_same g seg (o + i) w; exact ⟨by rw [s4]; exact Nat.le_refl _, fun k hk hne => setCells_far seg _ k hne⟩⟩
 obtain ⟨h0, inner, ho, hr⟩ := h1
 have h2 := h
 obtain ⟨_, inner2, ho2, _⟩ := h2
 refine ⟨h0, inner, ?_, hr⟩
 obtain ⟨hl1, ho⟩ := ho
 refine ⟨hl1, ?_⟩
 rcases ho2.2 with ⟨hz, A, hv, hA⟩ | ⟨g2, off2, cap2, cur2, hv2, hb2, hh2, hnc2, hcm2, hcs2, _⟩
 ·injection hv with ha hm hc
  have hi0 : i = 0 := by omega
  have hseg : seg = [] := List.eq_nil_of_length_eq_zero (by omega)
  rw [hseg]
  exact ho
 ·injection hv2 with ha2 hm2 hc2
  injection ha2 with ha2
  injection ha2 with hg2 ho2'
  subst hg2; subst hc2
  have hsz : (hd n).sz = 1 := rfl
  rw [hsz, Nat.mul_one] at ho2'
  subst ho2'
  rw [hsz, Nat.mul_one] at hcs2
  have hlen2 : hs.length = m := hn.symm
  have hil : (hs.take i).length = i := by rw [List.length_take]; omega
  obtain ⟨cur', c1, c2, c3⟩ := setCells_row seg (o + i) w cur2 hh2 (by omega)
  rcases ho with ⟨hz, A, hv, hA⟩ | ⟨g3, off3, cap3, cur3, hv3, hb3, hh3, hnc3, hcm3, hcs3, ht3⟩
  ·injection hv with ha hm hc
   subst ha
   exact .inr ⟨g, o, c, cur', by rw [hsz, Nat.mul_one, hil], hb2, c1, by rw [hil]; omega, hcm2, by rw [c2, hsz, Nat.mul_one]; exact hcs2, by
    rw [hz, Nat.zero_mul, List.take_zero]
    have : inner.length = 0 := by rw [hl1, hz, Nat.zero_mul]
    exact (List.eq_nil_of_length_eq_zero this).symm⟩
  ·injection hv3 with ha3 hm3 hc3
   injection ha3 with ha3
   injection ha3 with hg3 ho3
   subst hg3; subst hc3
   rw [hsz, Nat.mul_one] at ho3
   subst ho3
   rw [hh2] at hh3
   injection hh3 with hh3
   injection hh3 with hh3
   subst hh3
   refine .inr ⟨g, o, c, cur', by rw [hsz, Nat.mul_one, hil], hb2, c1, by rw [hil]; omega, hcm3, by rw [c2, hsz, Nat.mul_one]; exact hcs2, ?_⟩
   rw [← ht3, c3, hsz, Nat.mul_one, Nat.mul_one]
   rw [hil]
   apply List.ext_getElem?
   intro q
   rw [List.getElem?_take, List.getElem?_take]
   by_cases hq : q < i
   ·rw [if_pos hq, if_pos hq, List.getElem?_drop, List.getElem?_drop, List.append_assoc, List.getElem?_append_left (by rw [List.length_take, Array.length_toList]; omega), List.getElem?_take_of_lt (by omega)]
   ·rw [if_neg hq, if_neg hq]
end
theorem f60_any (A0 : Option Addr) (c0 : Nat) (l0 : List Int) (A1 : Option Addr) (c1 : Nat) (l1 : List Int) (m0 m1 : Nat) (w : World) (hr0 : Kd.C (Kd.int .i64) w A0 m0 l0) (hc0 : m0 ≤ c0) (hr1 : Kd.C (Kd.int .i64) w A1 m1 l1) (hc1 : m1 ≤ c1) (hm : m0 ≤ 1000) :
  Calls Try.prog 60 #[.slice A0 m0 c0, .slice A1 m1 c1] w fun e w' => e = .returned (.bool (decide (l0 = l1))) ∧ Drawn0 w w' := by
 obtain rfl : l0.length = m0 := hr0.1
 obtain rfl : l1.length = m1 := hr1.1
 obtain ⟨k, hk⟩ := (is_ev l0 l1 hm).rounds
 exact strap_perm_is.calls k A0 c0 l0 A1 c1 l1 _ w hr0 hc0 hr1 hc1 hk
/-- The place of a list; -1: it isn't there. -/
def ixL (L : List (List Int)) (O : List Int) : Int := if O ∈ L then (L.idxOf O : Int) else -1
theorem mem_take_s {L : List (List Int)} {O : List Int} {k : Nat} (hk : k < L.length) (hb : O ∉ L.take k) (hn : ¬ O = L[k]) : O ∉ L.take (k + 1) := by
 rw [List.take_succ_eq_append_getElem hk]
 simp only [List.mem_append, List.mem_singleton, not_or]
 exact ⟨hb, hn⟩
theorem ixL_at {L : List (List Int)} {O : List Int} {k : Nat} (hk : k < L.length) (hb : O ∉ L.take k) (he : O = L[k]) : ixL L O = (k : Int) := by
 unfold ixL
 rw [if_pos (by rw [he]; exact List.getElem_mem hk)]
 have h1 : L = L.take k ++ L[k] :: L.drop (k + 1) := by rw [← List.drop_eq_getElem_cons hk, List.take_append_drop]
 have h2 : L.idxOf O = k := by
  conv => lhs; rw [h1]
  rw [List.idxOf_append, if_neg hb, ← he, List.idxOf_cons_self, List.length_take]; omega
 rw [h2]
set_option maxHeartbeats 2000000 in
theorem f106_one {B B2 n : Nat} {v : Value} {hs : List (Nat × Nat)} {L : List (List Int)} (ob oc : Nat) (O : List Int) (ok : Nat → Prop) (w : World) (hF : Fac B n w v hs L) (hO : Kd.R (Kd.int .i64) 3 w B2 ok (.slice (some ⟨ob, 0, none⟩) n oc) O) (hn : n ≤ 1000) :
  Calls Try.prog 106 #[v, .func (.func 60) #[.slice (some ⟨ob, 0, none⟩) n oc] #[]] w fun e w' => e = .returned (.int .i64 (ixL L O)) ∧ Drawn0 w w' := by
 obtain ⟨A, c, rfl, hlc⟩ := Kd.Q_slice hF.top
 have hmx : hs.length ≤ 9223372036854775807 := by obtain ⟨_, _, hq, _⟩ := hF.top; exact q_max hq
 have HF := Aside0.mk hF
 have HO := Aside0.mk hO
 have HL := Aside0.mk hF.len
 clear hF hO
 go_enter Try.func106, Try.ntmps106
 go_wp2
 go_loopg [8] hs.length (fun kq s8 wr => ∃ i : Nat, s8 = .int .i64 i ∧ i ≤ hs.length ∧ hs.length - i ≤ kq ∧ Aside0 (∃ m, wr = w.drewN m) ∧ Aside0 (O ∉ L.take i))
 case atStart => exact ⟨0, rfl, Nat.zero_le _, by omega, ⟨⟨0, rfl⟩⟩, ⟨by simp⟩⟩
 case round =>
  obtain ⟨i, rfl, hi, hgg, HW, HP⟩ := hrel
  by_cases hlt : i < hs.length
  ·have hF2 : Fac B n wr (.slice A hs.length c) hs L := by obtain ⟨m, rfl⟩ := HW.out; exact HF.out.below (pw_below_drewN (Below.refl _ _) m)
   have hO2 : Kd.R (Kd.int .i64) 3 wr B2 ok (.slice (some ⟨ob, 0, none⟩) n oc) O := by obtain ⟨m, rfl⟩ := HW.out; exact Kd.R_drewN HO.out m
   obtain ⟨g, o, cap, hv, _⟩ := Kd.Q_form hF2.top (by omega)
   injection hv with hA hlen hcap
   subst hA; subst hcap
   have hcell := (Kd.Q_cell (0, 0) hF2.top (i : Int) (by omega) (by omega)).1
   have hrow := hF2.row i hlt
   obtain ⟨hb, hbe⟩ : ∃ hb, hs[i] = hb := ⟨_, rfl⟩
   have hrd : rdOf (0, 0) hs (i : Int) = hb := by unfold rdOf; rw [Int.toNat_natCast, List.getD_eq_getElem?_getD, List.getElem?_eq_getElem hlt]; exact hbe
   rw [hrd] at hcell
   rw [hbe] at hrow
   unfold encH at hcell hrow
   rw [Int.toNat_natCast] at hcell
   have hLi : i < L.length := by rw [← HL.out]; exact hlt
   obtain ⟨x, hx⟩ : ∃ x, L[i] = x := ⟨_, rfl⟩
   have hgx : L.getD i [] = x := by rw [List.getD_eq_getElem?_getD, List.getElem?_eq_getElem hLi]; exact hx
   rw [hgx] at hrow
   obtain ⟨e1, e2, hC1⟩ := Kd.R_reads' hO2
   obtain ⟨e3, e4, hC2⟩ := Kd.R_reads' hrow
   rw [← e1] at hC1
   rw [← e3] at hC2
   have h60 := f60_any _ oc O _ hb.2 x n n wr hC1 e2 hC2 e4 hn
   have HX := Aside0.mk hx
   have hix : (i : Int) < (hs.length : Int) := by omega
   have hi0 : (0 : Int) ≤ (i : Int) := by omega
   clear hF2 hO2 hrow hbe hrd hgx e1 e3 hC1 hC2 hx
   (try clear hlen)
   by_cases he : O = x
   ·rw [decide_eq_true he] at h60
    have HE := Aside0.mk he
    clear he
    go_wp2_with (go_at_call 60; (with_reducible refine h60.mono ?_); rintro e w' ⟨rfl, ⟨m2, rfl⟩⟩)
    go_ret
    refine ⟨ret_int (ixL_at hLi HP.out (HE.out.trans HX.out.symm)).symm, ?_⟩
    obtain ⟨m, hm⟩ := HW.out
    exact ⟨⟨m + m2, by rw [hm, World.drewN_drewN]⟩⟩
   ·rw [decide_eq_false he] at h60
    have HE := Aside0.mk he
    clear he
    go_wp2_with (go_at_call 60; (with_reducible refine h60.mono ?_); rintro e w' ⟨rfl, ⟨m2, rfl⟩⟩)
    go_roundg (hs.length - (i + 1))
    case measure => omega
    case rel => exact ⟨i + 1, by go_num, by omega, Nat.le_refl _, ⟨by obtain ⟨m, hm⟩ := HW.out; exact ⟨m + m2, by rw [hm, World.drewN_drewN]⟩⟩, ⟨mem_take_s hLi HP.out (fun e => HE.out (e.trans HX.out))⟩⟩
  ·have hin : i = hs.length := by omega
   have HN : Aside0 (ixL L O = -1) := ⟨by
    have h := HP.out
    rw [hin, HL.out, List.take_length] at h
    unfold ixL
    rw [if_neg h]⟩
   clear HP hin
   go_wp2
   go_ret
   exact ⟨ret_int HN.out.symm, ⟨HW.out⟩⟩
end Go.Proofs.Ytdldfdcedjmneaa.Own
namespace Go.Proofs.Ytdldfdcedjmneaa.Own
open Go.RowKit
set_option linter.unusedVariables false
set_option linter.unusedSimpArgs false
section
variable {P : Program} {ops : Array Oper} {Q : Exit → Act → World → Prop} {md : Region.Mode} {S : World → Prop} {n : Nat}
def wpAnyT (P : Program) (md : Region.Mode) (ops : Array Oper) (Q : Exit → Act → World → Prop) (S : World → Prop) (n : Nat) : Nat → Array Bool → Act → World → Prop
 | 0, listed, a, w => Region.ready md ops listed = [] ∧ Q .normal a w
 | fuel + 1, listed, a, w =>
  (Region.ready md ops listed = [] → Q .normal a w) ∧
  ∀ i ∈ Region.ready md ops listed, wpOp P ops Q i (fun a' w' => (i ≠ n → S w') ∧ wpAnyT P md ops Q S n fuel (listed.setIfInBounds i true) a' w') a w
theorem wpAny_of_T : ∀ (fuel : Nat) (listed : Array Bool) (a : Act) (w : World), wpAnyT P md ops Q S n fuel listed a w → wpAny P md ops Q fuel listed a w
  | 0, _, _, _, h => h
  | fuel + 1, _, _, _, h => ⟨h.1, fun i hi => wpOp_mono (fun a' w' h' => wpAny_of_T fuel _ a' w' h'.2) (h.2 i hi)⟩
/-- Number n waits for number i. -/
def waitsB (md : Region.Mode) (ops : Array Oper) (n i : Nat) : Bool :=
 match ops[n]? with
 | some o => o.after.any fun e => Region.binds md e && e.on == i
 | none => true
theorem not_ready_of_waits {i : Nat} {listed : Array Bool} (hw : waitsB md ops n i = true) (hi : listed.getD i true = false) : n ∉ Region.ready md ops listed := by
 intro hr
 obtain ⟨_, o, ho, hall⟩ := mem_ready.1 hr
 unfold waitsB at hw
 rw [ho] at hw
 obtain ⟨e, he, hb⟩ := Array.any_eq_true'.1 hw
 simp only [Bool.and_eq_true, beq_iff_eq] at hb
 have h1 := hall e he hb.1
 rw [hb.2] at h1
 rcases Nat.lt_or_ge i listed.size with h' | h'
 ·simp [h'] at hi h1; rw [hi] at h1; cases h1
 ·simp [Array.getElem?_eq_none h'] at hi
theorem wpAnyT_first {i : Nat} {oi : Oper} {v : Value} (hi : ops[i]? = some oi) (hsel : ∀ (j : Nat) (o : Oper) cs b, ops[j]? = some o → o.op ≠ .select cs b)
    (hQ : ∀ c a w, Q (.panic c) (a.put oi.dst v) w → Q (.panic c) a w) (hn : waitsB md ops n i = true) :
    ∀ (fuel : Nat) (listed : Array Bool) (a : Act) (w : World),
      (∀ j oj, ops[j]? = some oj → j ≠ i → listed.getD j true = false → (∀ e ∈ oj.after, Region.binds md e = true → e.on ≠ i) → oi.apart ops oj = true) →
      i ∈ Region.ready md ops listed → YieldsIf P ops S oi v a → S w →
      wpAnyT P md ops Q S n fuel (listed.setIfInBounds i true) (a.put oi.dst v) w → wpAnyT P md ops Q S n (fuel + 1) listed a w := by
  intro fuel
  induction fuel with
  | zero =>
    intro listed a w _ hr hy hS H
    refine ⟨fun h => (by rw [h] at hr; cases hr), fun j hj => ?_⟩
    by_cases hji : j = i
    · subst hji; exact hy.wpOp hi hS ⟨fun _ => hS, H⟩
    · have := ready_mono hj hji
      rw [H.1] at this
      cases this
  | succ fuel ih =>
    intro listed a w hfree hr hy hS H
    refine ⟨fun h => (by rw [h] at hr; cases hr), fun j hj => ?_⟩
    by_cases hji : j = i
    · subst hji; exact hy.wpOp hi hS ⟨fun _ => hS, H⟩
    · have hjn : j ≠ n := by rintro rfl; exact not_ready_of_waits hn (mem_ready.1 hr).1 hj
      have h1 := H.2 j (ready_mono hj hji)
      obtain ⟨hjun, oj, hoj, hall⟩ := mem_ready.1 hj
      have hnot : ∀ e ∈ oj.after, Region.binds md e = true → e.on ≠ i := fun e he hb heq => by
        have h1 := hall e he hb
        have h0 := (mem_ready.1 hr).1
        rw [heq] at h1
        rcases Nat.lt_or_ge i listed.size with h' | h'
        · simp [h'] at h0 h1; rw [h0] at h1; cases h1
        · simp [Array.getElem?_eq_none h'] at h1
      have h2 := wpOp_putIf hoj (hfree j oj hoj hji hjun hnot) (fun cs b => hsel i oi cs b hi) (fun cs b => hsel j oj cs b hoj) hQ hy h1
      have hfree' : ∀ k ok, ops[k]? = some ok → k ≠ i → (listed.setIfInBounds j true).getD k true = false →
          (∀ e ∈ ok.after, Region.binds md e = true → e.on ≠ i) → oi.apart ops ok = true := fun k ok hk hki hun hno => by
        refine hfree k ok hk hki ?_ hno
        by_cases hjk : j = k
        · subst hjk; exact hjun
        · rw [getD_set_ne true hjk] at hun; exact hun
      refine wpOp_mono (fun a' w' h3 => ⟨h3.2.1, ih (listed.setIfInBounds j true) a' w' hfree' (ready_mono hr (Ne.symm hji)) h3.1 (h3.2.1 hjn) ?_⟩) h2
      rw [Array.setIfInBounds_comm _ _ hji]
      exact h3.2.2
/-- Take number i first. -/
theorem wpAnyT_take {i : Nat} {oi : Oper} {v : Value} {fuel : Nat} {listed : Array Bool} {a : Act} {w : World} (hi : ops[i]? = some oi)
  (hs : Region.noSelect ops = true) (hf : Region.free md ops listed i = true) (hr : (Region.ready md ops listed).contains i = true) (hn : waitsB md ops n i = true)
  (hQ : ∀ c a w, Q (.panic c) (a.put oi.dst v) w → Q (.panic c) a w) (hy : YieldsIf P ops S oi v a) (hS : S w)
  (h : wpAnyT P md ops Q S n fuel (listed.setIfInBounds i true) (a.put oi.dst v) w) : wpAnyT P md ops Q S n (fuel + 1) listed a w :=
 wpAnyT_first hi (Region.noSelect_spec hs) hQ hn fuel listed a w (Region.free_spec hi hf) (by simpa using hr) hy hS h
/-- Take number i first. -/
theorem tk (i : Nat) {oi : Oper} {v : Value} {fuel : Nat} {l l' : Array Bool} {a a' : Act} {w : World} (h : wpAnyT P md ops Q S n fuel l' a' w) (hi : ops[i]? = some oi := by rfl)
  (hs : Region.noSelect ops = true := by kernel_rfl) (hf : Region.free md ops l i = true := by kernel_rfl) (hr : (Region.ready md ops l).contains i = true := by kernel_rfl) (hn : waitsB md ops n i = true := by kernel_rfl)
  (hQ : ∀ c a w, Q (.panic c) (a.put oi.dst v) w → Q (.panic c) a w := by (intro _ _ _ h; exact h)) (hy : YieldsIf P ops S oi v a := by (refine Or.inl ⟨by rfl, ?_⟩; intro wS hSw; (try dsimp only at hSw); go_simp; try with_reducible rfl)) (hS : S w := by assumption)
  (hl : l.setIfInBounds i true = l' := by ((try simp only [List.setIfInBounds_toArray, List.set_cons_zero, List.set_cons_succ]); rfl)) (ha : a.put oi.dst v = a' := by ((try simp only [Act.put, List.getElem_toArray, List.getElem_cons_zero, List.getElem_cons_succ, List.setIfInBounds_toArray, List.set_cons_zero, List.set_cons_succ]); rfl)) : wpAnyT P md ops Q S n (fuel + 1) l a w := by
 subst hl
 subst ha
 exact wpAnyT_take hi hs hf hr hn hQ hy hS h
theorem wp_of_then {o : Oper} {a : Act} {w : World} {K : Act → World → Prop} (h : o.wp P a w K (Exit.then K Q)) : o.wp P a w K Q := by
 unfold Oper.wp at *
 generalize (execOp a.eval o).run P w = r at *
 cases r with
 | ok x w' =>
  cases x with
  | value v => exact h
  | skip => exact h
  | defer d => exact h
  | enter f args =>
   refine Calls.mono h ?_
   rintro (v | c | _) w'' hh <;> exact hh
  | row r args => exact h
  | _ => exact h
 | halt x w' =>
  cases x <;> exact h
/-- The one operation that comes up next: number i. -/
theorem wpAnyT_one {i : Nat} {o : Oper} {fuel : Nat} {listed : Array Bool} {a : Act} {w : World} (hr : Region.ready md ops listed = [i]) (hi : ops[i]? = some o)
  (h : ∀ K : Act → World → Prop, (∀ a' w', (i ≠ n → S w') → wpAnyT P md ops Q S n fuel (listed.setIfInBounds i true) a' w' → K a' w') → wpList P ops (Exit.then K Q) [o] a w) :
  wpAnyT P md ops Q S n (fuel + 1) listed a w := by
 refine ⟨fun h0 => (by rw [hr] at h0; cases h0), fun j hj => ?_⟩
 rw [hr, List.mem_singleton] at hj
 subst hj
 have h1 := h _ (fun a' w' h1 h2 => And.intro h1 h2)
 unfold wpOp
 simp only [hi]
 unfold wpList at h1
 by_cases hw : Region.wanted o (yielded ops a.tmps) = true
 ·rw [if_pos hw] at h1 ⊢
  rcases h1 with h1 | h1
  ·exact .inl (wp_of_then h1)
  ·exact .inr ⟨h1.1, h1.2⟩
 ·rw [if_neg hw] at h1 ⊢
  exact h1
theorem wpAnyT_done {listed : Array Bool} {a : Act} {w : World} (hr : Region.ready md ops listed = []) (h : Q .normal a w) :
  ∀ fuel, wpAnyT P md ops Q S n fuel listed a w
 | 0 => ⟨hr, h⟩
 | _ + 1 => ⟨fun _ => h, by rw [hr]; simp⟩
theorem wp_region_T {id : Nat} {a : Act} {w : World} (n : Nat) (S : World → Prop) (hm : P.follows .mixedOrders = true)
    (h : wpAnyT P .any ops Q S n ops.size (Array.replicate ops.size false) a w.drew) : (Code.region id ops true).wp P Q a w :=
  wp_region_any hm (wpAny_of_T _ _ _ _ h)
end
end Go.Proofs.Ytdldfdcedjmneaa.Own
namespace Go.Proofs.Ytdldfdcedjmneaa.Own
open Go.RowKit Go.Proofs.YtdldfdcedjmneaaW.PrintWords Go.Proofs.YtdldfdcedjmneaaW.PrintLast Go.Proofs.YtdldfdcedjmneaaW.PrintMore Go.Proofs.Ytdldfdcedjmneaa.Pb Go.Proofs.Ytdldfdcedjmneaa.Br
set_option linter.unusedVariables false
set_option linter.unusedSimpArgs false
theorem zero86 (w : World) : (zeroValue 86).run Try.prog w = .ok (.slice none 0 0) w := by kernel_rfl
theorem below_cells {B g : Nat} {a : World} (hg : B ≤ g) : ∀ (vs : List Value) (o : Nat) (w : World), Below B a w → Below B a (w.setCells g o vs)
  | [], _, w, h => h
  | v :: r, o, w, h => below_cells hg r (o + 1) _ (h.setCell (p := ⟨g, o, none⟩) hg v)
/-- Not the row that is taken out. -/
def other (O : List Int) (p : (Nat × Nat) × List Int) : Bool := decide (¬ O = p.2)
theorem zip_filter {hs : List (Nat × Nat)} {L : List (List Int)} {O : List Int} : ∀ (hs : List (Nat × Nat)) (L : List (List Int)), hs.length = L.length → ((hs.zip L).filter (other O)).map (·.2) = L.filter (fun x => decide (¬ O = x))
 | [], [], _ => rfl
 | h :: hs, x :: L, he => by
  have ih := zip_filter (O := O) (hs := hs) (L := L) hs L (by simpa using he)
  rw [List.zip_cons_cons, List.filter_cons, List.filter_cons]
  have : other O (h, x) = decide (¬ O = x) := rfl
  rw [this]
  by_cases e : O = x
  ·rw [decide_eq_false (by simpa using e)]; simpa using ih
  ·rw [decide_eq_true e]; simp only [if_true, List.map_cons]; rw [ih]
theorem take_mem_ne {hs : List (Nat × Nat)} {L : List (List Int)} {O : List Int} {k : Nat} (hb : O ∉ L.take k) : ∀ p ∈ (hs.zip L).take k, other O p = true := by
 intro p hp
 have h1 : p.2 ∈ ((hs.zip L).take k).map (·.2) := List.mem_map.2 ⟨p, hp, rfl⟩
 unfold other
 refine decide_eq_true (fun e => hb ?_)
 rw [List.zip, List.take_zipWith] at hp
 have h2 := (List.of_mem_zip (a := p.1) (b := p.2) (l₁ := hs.take k) (l₂ := L.take k) hp).2
 rw [e]; exact h2
set_option maxHeartbeats 4000000 in
theorem f105_any {w0 : World} {B2 n : Nat} {v : Value} {hs : List (Nat × Nat)} {L : List (List Int)} (ob oc : Nat) (O : List Int) (ok : Nat → Prop) (w : World) (hB : Below w0.heap.size w0 w) (hF : Fac w0.heap.size n w v hs L) (hO : Kd.R (Kd.int .i64) 3 w B2 ok (.slice (some ⟨ob, 0, none⟩) n oc) O) (hn : n ≤ 1000) :
  Calls Try.prog 105 #[v, .func (.func 60) #[.slice (some ⟨ob, 0, none⟩) n oc] #[]] w fun e w' => ∃ v' hs', e = .returned v' ∧ Fac w0.heap.size n w' v' hs' (L.filter (fun x => decide (¬ O = x))) ∧ v'.ownBlock = v.ownBlock ∧ Kept w w' (fun k => some k = v.ownBlock) ∧ Below w0.heap.size w0 w' := by
 obtain ⟨A, c, rfl, hlc⟩ := Kd.Q_slice hF.top
 have hmx : hs.length ≤ 9223372036854775807 := by obtain ⟨_, _, hq, _⟩ := hF.top; exact q_max hq
 have hI := f106_one ob oc O ok w hF hO hn
 by_cases hm : O ∈ L
 ·obtain ⟨k0, hk0⟩ : ∃ k0, L.idxOf O = k0 := ⟨_, rfl⟩
  have hix : ixL L O = (k0 : Int) := by unfold ixL; rw [if_pos hm, hk0]
  rw [hix] at hI
  have hltL : k0 < L.length := by rw [← hk0]; exact List.idxOf_lt_length_of_mem hm
  have hlt0 : k0 < hs.length := by rw [hF.len]; exact hltL
  have hne1 : ((k0 : Int) == -1) = false := beq_eq_false_iff_ne.2 (by omega)
  have hzl : (hs.zip L).length = hs.length := by rw [List.length_zip, hF.len, Nat.min_self]
  have HS : Aside0 (KeptG (hs.zip L) (other O) (k0 + 1) k0 (hs.zip L)) := ⟨KeptG.start k0 (by rw [hzl]; exact hlt0) (take_mem_ne (by
   intro hmem
   have := List.idxOf_lt_length_of_mem hmem
   have h2 : L.idxOf O = (L.take k0 ++ L.drop k0).idxOf O := by rw [List.take_append_drop]
   rw [List.idxOf_append, if_pos hmem] at h2
   rw [List.length_take] at this
   omega)) (by
   have h := List.getElem_idxOf (xs := L) (x := O) (List.idxOf_lt_length_of_mem hm)
   simp only [hk0] at h
   rw [List.getElem_zip]
   unfold other
   exact decide_eq_false (by simpa using h.symm))⟩
  obtain ⟨g, o, cap, hv, hgB, hglt, cells, hgc⟩ := Kd.Q_form hF.top (by omega)
  injection hv with hA hlen hcap
  subst hA; subst hcap
  have hobg : ob ≠ g := by
   intro e
   obtain ⟨cs, hc⟩ := R_blk hO
   rw [e, hgc] at hc
   injection hc with hc
   injection hc with h1 h2
   exact absurd h2 (by decide)
  have hne := fun i (hi : i < hs.length) => hF.blk_ne hi
  have HF := Aside0.mk hF
  have HO := Aside0.mk hO
  have HZ := Aside0.mk hzl
  have HOB := Aside0.mk hobg
  have HNE : Aside0 (∀ i (hi : i < hs.length), hs[i].1 ≠ g) := ⟨fun i hi e => hne i hi (by rw [e]; rfl)⟩
  have HT : Aside0 ((hd n).Q 86 w w0.heap.size (fun _ => True) (.slice (some ⟨g, o, none⟩) hs.length c) ((hs.zip L).map (·.1))) := ⟨by
   rw [List.map_fst_zip (by rw [hF.len]; exact Nat.le_refl _)]; exact hF.top⟩
  have hg0 : g < w.heap.size := hglt
  have HG := Aside0.mk hgB
  clear hF hO hk0 hix hm hltL hzl hobg hne hgB hglt hgc hlen
  go_enter Try.func105, Try.ntmps105
  go_wp2_with (go_at_call 106; (with_reducible refine hI.mono ?_); rintro e w' ⟨rfl, ⟨m1, rfl⟩⟩)
  clear hI
  go_loopg [5, 6, 7] hs.length (fun gg s5 s6 _ wr => ∃ (i k : Nat) (dk : List ((Nat × Nat) × List Int)), s5 = .int .i64 i ∧ s6 = .int .i64 k ∧ k ≤ hs.length ∧ hs.length - k ≤ gg ∧ Aside0 (KeptG (hs.zip L) (other O) k i dk) ∧ Aside0 ((hd n).Q 86 wr w0.heap.size (fun _ => True) (.slice (some ⟨g, o, none⟩) hs.length c) (dk.map (·.1))) ∧ Aside0 (Kept w wr (fun k => k = g)) ∧ Aside0 (Below w0.heap.size w0 wr))
  case atStart => exact ⟨k0, k0 + 1, hs.zip L, rfl, by go_num, by omega, by omega, HS, ⟨Kd.Q_drewN HT.out _⟩, ⟨(Kept.refl _ _).drewN _⟩, ⟨pw_below_drewN hB _⟩⟩
  case round =>
   clear HS hne1
   obtain ⟨i, k, dk, rfl, rfl, hkn, hgg, HK, HQ, HP, HBB⟩ := hrel
   have hik := HK.out.lt
   by_cases hlt : k < hs.length
   ·have hltz : (k : Int) < (hs.length : Int) := by omega
    have hk0 : (0 : Int) ≤ (k : Int) := by omega
    have hiz : (i : Int) < (hs.length : Int) := by omega
    have hi0 : (0 : Int) ≤ (i : Int) := by omega
    have hzk : k < (hs.zip L).length := by rw [HZ.out]; exact hlt
    have hdk := HK.out.at_ hzk
    obtain ⟨q, hq⟩ : ∃ q, (hs.zip L)[k] = q := ⟨_, rfl⟩
    have hkL : k < L.length := by rw [← HF.out.len]; exact hlt
    have hq1 : hs[k] = q.1 := by rw [← hq, List.getElem_zip]
    have hq2 : L[k] = q.2 := by rw [← hq, List.getElem_zip]
    have HQ2 := Aside0.mk hq
    rw [hq] at hdk
    obtain ⟨hb, x⟩ := q
    have hcell := (Kd.Q_cell (0, 0) HQ.out (k : Int) hk0 hltz)
    have hrd : rdOf (0, 0) (dk.map (·.1)) (k : Int) = hb := by unfold rdOf; rw [Int.toNat_natCast, List.getD_eq_getElem?_getD, List.getElem?_map, hdk]; rfl
    rw [hrd] at hcell
    have hcell := hcell.1
    have hcelli := (Kd.Q_cell (0, 0) HQ.out (i : Int) hi0 hiz)
    have hfi := hcelli.2
    have hci := hcelli.1
    generalize rdOf (0, 0) (dk.map (·.1)) (i : Int) = old at hci
    have hrow := Kd.R_kept (HF.out.row k hlt) HP.out (fun k2 h2 h3 => HNE.out k hlt (by rw [← h2]; exact h3))
    have hgx : L.getD k [] = x := by rw [List.getD_eq_getElem?_getD, List.getElem?_eq_getElem hkL]; exact hq2
    rw [hgx, hq1] at hrow
    have hob2 := Kd.R_kept (R_own1 HO.out) HP.out (fun k2 h2 h3 => HOB.out (by rw [← h2]; exact h3))
    unfold encH at hcell hrow hci
    rw [Int.toNat_natCast] at hcell hci hfi
    dsimp only at hrow hcell
    obtain ⟨e1, e2, hC1⟩ := Kd.R_reads' hob2
    obtain ⟨e3, e4, hC2⟩ := Kd.R_reads' hrow
    rw [← e1] at hC1
    rw [← e3] at hC2
    have h60 := f60_any _ oc O _ hb.2 x n n wr hC1 e2 hC2 e4 hn
    clear hrow hob2 e1 e3 hC1 hC2 hgx hrd hdk hq1 hq2 hq hcelli hkL
    by_cases he : O = x
    ·rw [decide_eq_true he] at h60
     have HE := Aside0.mk he
     clear he
     go_wp2_with (go_at_call 60; (with_reducible refine h60.mono ?_); rintro e w' ⟨rfl, ⟨m2, rfl⟩⟩)
     go_roundg (hs.length - (k + 1))
     case measure => omega
     case rel => exact ⟨i, k + 1, dk, rfl, by go_num, by omega, Nat.le_refl _, ⟨HK.out.skip (by rw [HZ.out]; exact hlt) (by rw [HQ2.out]; unfold other; exact decide_eq_false (by simpa using HE.out))⟩, ⟨Kd.Q_drewN HQ.out _⟩, ⟨HP.out.drewN _⟩, ⟨pw_below_drewN HBB.out _⟩⟩
    ·rw [decide_eq_false he] at h60
     have HE := Aside0.mk he
     clear he
     go_wp2_with (go_at_call 60; (with_reducible refine h60.mono ?_); rintro e w' ⟨rfl, ⟨m2, rfl⟩⟩)
     go_roundg (hs.length - (k + 1))
     case measure => omega
     case rel =>
      refine ⟨i + 1, k + 1, dk.set i (hb, x), by go_num, by go_num, by omega, Nat.le_refl _, ⟨?_⟩, ⟨?_⟩, ⟨?_⟩, ⟨below_set (pw_below_drewN HBB.out m2) HG.out⟩⟩
      ·have h := HK.out.keep (by rw [HZ.out]; exact hlt) (by rw [HQ2.out]; unfold other; exact decide_eq_true HE.out)
       rw [HQ2.out] at h
       exact h
      ·have h := (Kd.Q_putg (Kd.Q_drewN HQ.out m2) (i : Int) hi0 hiz hb).1
       rw [Int.toNat_natCast] at h
       rw [List.map_set]
       exact h
      ·exact (HP.out.drewN m2).setCell (.inl rfl) _
   ·have hkx : k = hs.length := by omega
    have hcl : ∀ ty, (Builtin.clear_ #[83] ty #[.slice (some ⟨g, o + i, none⟩) (hs.length - i) (c - i)]).run Try.prog wr = .ok (.tuple #[]) (wr.setCells g (o + i) (List.replicate (hs.length - i) (.slice none 0 0))) :=
     fun ty => Lib.run_clear_slice wr 83 86 ty (.slice none 0 0) Try.underlying83 zero86 rfl rfl g (o + i) (hs.length - i) (c - i) (by omega) (fun t ht => by
      have h := (Kd.Q_cell (0, 0) HQ.out ((i + t : Nat) : Int) (by omega) (by omega)).1
      rw [Int.toNat_natCast, ← Nat.add_assoc] at h
      rw [h]; rfl) (fun t ht => by
      have h := (Kd.Q_cell (0, 0) HQ.out ((i + t : Nat) : Int) (by omega) (by omega)).2
      rw [Int.toNat_natCast, ← Nat.add_assoc] at h
      exact h)
    obtain ⟨hQ2, hk2⟩ := Q_clear HQ.out (i := i) (by omega) (List.replicate (hs.length - i) (.slice none 0 0)) (by rw [List.length_replicate])
    have hi2 : i ≤ hs.length := by omega
    have hkept := HK.out.kept
    rw [hkx, ← HZ.out, List.take_length] at hkept
    have hnum := HK.out.num
    rw [hkx, ← HZ.out, List.take_length] at hnum
    rw [← List.map_take, hkept] at hQ2
    have HQ3 := Aside0.mk hQ2
    have HP3 : Aside0 (Kept w (wr.setCells g (o + i) (List.replicate (hs.length - i) (.slice none 0 0))) (fun k => k = g)) := ⟨HP.out.then_ hk2 (fun k h => .inl h)⟩
    have HB3 : Aside0 (Below w0.heap.size w0 (wr.setCells g (o + i) (List.replicate (hs.length - i) (.slice none 0 0)))) := ⟨below_cells HG.out _ _ _ HBB.out⟩
    generalize hwz : wr.setCells g (o + i) (List.replicate (hs.length - i) (.slice none 0 0)) = wz at hcl HQ3 HP3 HB3
    clear hQ2 hk2 hkept hnum hwz
    go_wp2
    go_ret
    refine ⟨.slice (some ⟨g, o, none⟩) i c, ((hs.zip L).filter (other O)).map (·.1), rfl, ?_, rfl, ?_, HB3.out⟩
    ·have h := Fac.sub HF.out (ps := (hs.zip L).filter (other O)) List.filter_sublist HP3.out (fun k2 h2 i2 hi2 => by rw [h2]; exact HNE.out i2 hi2) HQ3.out
     rw [zip_filter (hs := hs) (L := L) hs L HF.out.len] at h
     exact h
    ·exact HP3.out.mono (fun k2 h2 => by rw [h2]; rfl)
 ·have hix : ixL L O = -1 := by unfold ixL; rw [if_neg hm]
  rw [hix] at hI
  have hf : L.filter (fun x => decide (¬ O = x)) = L := List.filter_eq_self.2 (fun x hx => decide_eq_true (fun e => hm (e ▸ hx)))
  rw [hf]
  have HF := Aside0.mk hF
  clear hix hm hf hF hO
  go_enter Try.func105, Try.ntmps105
  go_wp2_with (go_at_call 106; (with_reducible refine hI.mono ?_); rintro e w' ⟨rfl, ⟨m1, rfl⟩⟩)
  go_ret
  exact ⟨_, hs, rfl, HF.out.below (pw_below_drewN (Below.refl _ _) m1), rfl, (Kept.refl _ _).drewN _, pw_below_drewN hB m1⟩
end Go.Proofs.Ytdldfdcedjmneaa.Own
namespace Go.Proofs.Ytdldfdcedjmneaa.Own
open Go.RowKit Go.Proofs.YtdldfdcedjmneaaW.PrintWords Go.Proofs.YtdldfdcedjmneaaW.PrintLast Go.Proofs.YtdldfdcedjmneaaW.PrintMore Go.Proofs.Ytdldfdcedjmneaa.Pb Go.Proofs.Ytdldfdcedjmneaa.Br
set_option linter.unusedVariables false
set_option linter.unusedSimpArgs false
section
variable {n : Nat}
theorem lst_inj' {s t : Pm} (hs : Sup n s) (ht : Sup n t) (h : lst n s = lst n t) : s = t := Pm.same fun x => by
 by_cases hx : x < n
 ·have h1 := lst_getD (t := s) hx
  have h2 := lst_getD (t := t) hx
  rw [h, h2] at h1
  omega
 ·rw [hs x (by omega), ht x (by omega)]
theorem Star.mu {a b : List Pm} (h : Star n a b) : AllSup n a → b = a ∨ Br.mu n b < Br.mu n a := by
 induction h with
 | refl => exact fun _ => .inl rfl
 | step h _ ih =>
  intro hs
  have h1 := h.mu hs
  rcases ih (h.sup hs) with e | h2
  ·right; rw [e]; exact h1
  ·right; omega
theorem Star.mu_le {a b : List Pm} (h : Star n a b) (hs : AllSup n a) : Br.mu n b ≤ Br.mu n a := by
 rcases Star.mu h hs with e | h2
 ·rw [e]; exact Nat.le_refl _
 ·omega
theorem star_at {s t s' t' : Pm} (h : ∀ l, Star n (s :: t :: l) (s' :: t' :: l)) : ∀ (Ps : List Pm) (i : Nat), Ps[i]? = some s → Ps[i + 1]? = some t → Star n Ps ((Ps.set i s').set (i + 1) t')
 | [], i, h1, _ => by simp at h1
 | x :: Ps, 0, h1, h2 => by
  have h3 : x = s := by simpa using h1
  cases Ps with
  | nil => simp at h2
  | cons y l =>
   have h4 : y = t := by simpa using h2
   subst h3; subst h4
   exact h l
 | x :: Ps, i + 1, h1, h2 => by
  have ih := star_at h Ps i (by simpa using h1) (by simpa using h2)
  exact ih.cons x
/-- Each factor has what the next one begins with. -/
def Adj (n : Nat) : List Pm → Prop
  | [] => True
  | x :: l => (∀ t, l.head? = some t → ∀ i, i + 1 < n → t.B i → x.E i) ∧ Adj n l
theorem adj_of : ∀ (Ps : List Pm), (∀ j s t, Ps[j]? = some s → Ps[j + 1]? = some t → ∀ i, i + 1 < n → t.B i → s.E i) → Adj n Ps
  | [], _ => trivial
  | x :: l, h => ⟨fun t ht => h 0 x t rfl (by rw [List.getElem?_cons_succ, ← ht, List.head?_eq_getElem?]), adj_of l fun j s t h1 h2 => h (j + 1) s t (by simpa using h1) (by simpa using h2)⟩
theorem adj_one : ∀ {Ps : List Pm}, AllSup n (one :: Ps) → Adj n (one :: Ps) → ∀ t ∈ Ps, t = one
 | [], _, _, t, ht => by cases ht
 | x :: l, hs, h, t, ht => by
  have hx : x = one := eq_one (hs x (by simp)) fun i hi hb => nE_one i (h.1 x rfl i hi hb)
  subst hx
  rcases List.mem_cons.1 ht with e | h2
  ·exact e
  ·exact adj_one (fun y hy => hs y (by simp [hy])) h.2 t h2
/-- What has been done to a braid. -/
structure Trail (n : Nat) (p0 : Int) (Ps0 : List Pm) (p : Int) (Ps : List Pm) : Prop where
  ex : ∃ a : Nat, Star n Ps0 (List.replicate a (half n) ++ Ps) ∧ p = p0 + a
  le : p + Ps.length ≤ p0 + Ps0.length
theorem Trail.refl (p : Int) (Ps : List Pm) : Trail n p Ps p Ps := ⟨⟨0, .refl _, by omega⟩, Int.le_refl _⟩
theorem Trail.star {p0 p : Int} {Ps0 Ps Qs : List Pm} (h : Trail n p0 Ps0 p Ps) (k : Star n Ps Qs) (hl : Qs.length ≤ Ps.length) : Trail n p0 Ps0 p Qs := by
  obtain ⟨a, h1, h2⟩ := h.ex
  exact ⟨⟨a, h1.trans (k.app _), h2⟩, by have := h.le; omega⟩
theorem Trail.strip {p0 p : Int} {Ps0 Ps : List Pm} (h : Trail n p0 Ps0 p (half n :: Ps)) : Trail n p0 Ps0 (p + 1) Ps := by
 obtain ⟨a, h1, h2⟩ := h.ex
 refine ⟨⟨a + 1, ?_, by omega⟩, by have := h.le; simp only [List.length_cons] at this; omega⟩
 rw [List.replicate_succ', List.append_assoc]
 exact h1
theorem Trail.sup {p0 p : Int} {Ps0 Ps : List Pm} (h : Trail n p0 Ps0 p Ps) (hs : AllSup n Ps0) : AllSup n Ps := by
  obtain ⟨a, h1, _⟩ := h.ex
  exact (h1.sup hs).rgt
theorem Trail.up {p0 p : Int} {Ps0 Ps : List Pm} (h : Trail n p0 Ps0 p Ps) : p0 ≤ p := by
  obtain ⟨a, _, h2⟩ := h.ex
  omega
theorem Trail.nf {p0 p : Int} {Ps0 Ps : List Pm} (h : Trail n p0 Ps0 p Ps) (hs : AllSup n Ps0) (hr : Rgt n Ps) (hh : Ps.head? ≠ some (half n)) : Nf n p0 Ps0 p Ps := by
  obtain ⟨a, h1, h2⟩ := h.ex
  exact ⟨⟨a, Eqv.of h1 hs, h2⟩, hr.irr, hh⟩
theorem Rgt.tail {x : Pm} {Ps : List Pm} (h : Rgt n (x :: Ps)) : Rgt n Ps := h.2.2
end
section
variable {B n : Nat} {w w' : World} {v : Value} {hs : List (Nat × Nat)} {L : List (List Int)}
/-- Two rows are others now. -/
theorem Fac.put2 {S : Nat → Prop} (h : Fac B n w v hs L) {i : Nat} (hi : i + 1 < hs.length) {x y : List Int} {ok ok' : Nat → Prop} (hk : Kept w w' S) (hS : ∀ k, S k → k = hs[i].1 ∨ k = hs[i + 1].1)
  (hx : Kd.R (Kd.int .i64) 3 w' B ok (encH n hs[i]) x) (hy : Kd.R (Kd.int .i64) 3 w' B ok' (encH n hs[i + 1]) y) : Fac B n w' v hs ((L.set i x).set (i + 1) y) := by
 have hi0 : i < hs.length := by omega
 have hne0 := h.blk_ne hi0
 have hne1 := h.blk_ne hi
 refine ⟨Kd.Q_mono (Kd.Q_kept (Kd.Q_tight (hd_E n) h.top) hk (fun k hk1 hs1 => ?_)) (fun _ _ => trivial), by rw [List.length_set, List.length_set]; exact h.len, fun j hj => ?_, h.nd⟩
 ·rcases hS k hs1 with e | e
  ·exact hne0 (by rw [← e]; exact hk1)
  ·exact hne1 (by rw [← e]; exact hk1)
 ·by_cases e1 : j = i + 1
  ·subst e1
   have : ((L.set i x).set (i + 1) y).getD (i + 1) [] = y := by rw [List.getD_eq_getElem?_getD, List.getElem?_set_self (by rw [List.length_set, ← h.len]; exact hj)]; rfl
   rw [this]
   exact R_own1 hy
  ·by_cases e : j = i
   ·subst e
    have : ((L.set j x).set (j + 1) y).getD j [] = x := by rw [List.getD_eq_getElem?_getD, List.getElem?_set_ne (by omega), List.getElem?_set_self (by rw [← h.len]; exact hj)]; rfl
    rw [this]
    exact R_own1 hx
   ·have : ((L.set i x).set (i + 1) y).getD j [] = L.getD j [] := by rw [List.getD_eq_getElem?_getD, List.getElem?_set_ne (fun e2 => e1 e2.symm), List.getElem?_set_ne (fun e2 => e e2.symm), ← List.getD_eq_getElem?_getD]
    rw [this]
    refine Kd.R_kept (h.row j hj) hk (fun k hk1 hs1 => ?_)
    rcases hS k hs1 with e3 | e3
    ·exact e (h.inj hj hi0 (by rw [← hk1, ← e3]))
    ·exact e1 (h.inj hj hi (by rw [← hk1, ← e3]))
/-- Without the first one. -/
theorem Fac.tail {A : Option Addr} {m c : Nat} {h0 : Nat × Nat} {hs : List (Nat × Nat)} {x : List Int} {L : List (List Int)} (h : Fac B n w (.slice A m c) (h0 :: hs) (x :: L)) :
  Fac B n w (.slice (if c = 1 then A else A.map (·.add 1)) (m - 1) (c - 1)) hs L := by
 have h1 := Kd.Q_drop h.top (k := 1) (by simp)
 refine ⟨h1, by have := h.len; simpa using this, fun i hi => ?_, ?_⟩
 ·have h2 := h.row (i + 1) (by simpa using hi)
  simpa using h2
 ·have h2 := h.nd
  simp only [List.map_cons, List.nodup_cons] at h2
  exact h2.2
/-- The braid at block g. -/
structure Brd (w0 : World) (g n : Nat) (w : World) (p : Int) (v : Value) (hs : List (Nat × Nat)) (Ps : List Pm) : Prop where
  blk : w.heap[g]? = some (.cells #[.int .i64 n, .int .i64 p, v] 85 (0, 0))
  fac : Fac w0.heap.size n w v hs (Ps.map (lst n))
  bel : Below w0.heap.size w0 w
  old : w0.heap.size ≤ g
  sup : AllSup n Ps
end
section
variable {w0 w w' : World} {g n : Nat} {p : Int} {v : Value} {hs : List (Nat × Nat)} {Ps : List Pm}
theorem Brd.c0 (h : Brd w0 g n w p v hs Ps) : w.cell? ⟨g, 0, none⟩ = some (.int .i64 n) := by have := h.blk; simp only [World.cell?, this]; rfl
theorem Brd.c1 (h : Brd w0 g n w p v hs Ps) : w.cell? ⟨g, 1, none⟩ = some (.int .i64 p) := by have := h.blk; simp only [World.cell?, this]; rfl
theorem Brd.c2 (h : Brd w0 g n w p v hs Ps) : w.cell? ⟨g, 2, none⟩ = some v := by have := h.blk; simp only [World.cell?, this]; rfl
theorem Brd.fz (h : Brd w0 g n w p v hs Ps) (i : Nat) : w.frozen? ⟨g, i, none⟩ = false := by have := h.blk; simp [World.frozen?, this]
theorem Brd.len (h : Brd w0 g n w p v hs Ps) : hs.length = Ps.length := by have := h.fac.len; rw [List.length_map] at this; exact this
theorem Brd.g_row (h : Brd w0 g n w p v hs Ps) {i : Nat} (hi : i < hs.length) : hs[i].1 ≠ g := by
 intro e
 obtain ⟨cs, hc⟩ := R_blk (h.fac.row i hi)
 rw [e, h.blk] at hc
 injection hc with hc
 injection hc with h1 h2
 exact absurd h2 (by decide)
theorem Brd.g_top (h : Brd w0 g n w p v hs Ps) : v.ownBlock ≠ some g := fun e => Kd.Q_ne h.fac.top h.blk (by decide) e.symm
/-- Nothing of the braid is written. -/
theorem Brd.kept {S : Nat → Prop} (h : Brd w0 g n w p v hs Ps) (hk : Kept w w' S) (hg : ¬ S g) (hv : ∀ k, S k → v.ownBlock ≠ some k) (hr : ∀ k, S k → ∀ i (hi : i < hs.length), hs[i].1 ≠ k) (hb : Below w0.heap.size w0 w') : Brd w0 g n w' p v hs Ps :=
  ⟨blk_kept h.blk hk hg, h.fac.kept hk hv hr, hb, h.old, h.sup⟩
theorem Brd.below (h : Brd w0 g n w p v hs Ps) (hb : Below w.heap.size w w') : Brd w0 g n w' p v hs Ps :=
  h.kept (S := fun _ => False) (Kept.of_below hb _) (fun f => f) (fun _ f => f.elim) (fun _ f => f.elim) (below_step h.bel hb)
/-- Another table of factors is stored. -/
theorem Brd.put {u v' : Value} {hs' : List (Nat × Nat)} {Qs : List Pm} (hblk : w.heap[g]? = some (.cells #[.int .i64 n, .int .i64 p, u] 85 (0, 0))) (hF : Fac w0.heap.size n w v' hs' (Qs.map (lst n))) (hb : Below w0.heap.size w0 w) (hold : w0.heap.size ≤ g) (hsup : AllSup n Qs) :
  Brd w0 g n (w.setCell ⟨g, 2, none⟩ v') p v' hs' Qs := by
 refine ⟨?_, hF.kept (S := fun k => k = g) (Kept.setCell (S := fun k => k = g) (Kept.refl w _) (p := ⟨g, 2, none⟩) (.inl rfl) v') (fun k hk e => by subst hk; exact Kd.Q_ne hF.top hblk (by decide) e.symm) (fun k hk i hi e => ?_), below_set hb hold, hold, hsup⟩
 ·rw [heap_setCell_same _ _ _ _ _ _ hblk]; rfl
 ·obtain ⟨cs, hc⟩ := R_blk (hF.row i hi)
  rw [e, hk, hblk] at hc
  injection hc with hc
  injection hc with h1 h2
  exact absurd h2 (by decide)
/-- Another power is stored. -/
theorem Brd.setp (h : Brd w0 g n w p v hs Ps) (q : Int) : Brd w0 g n (w.setCell ⟨g, 1, none⟩ (.int .i64 q)) q v hs Ps := by
  refine ⟨?_, h.fac.kept (S := fun k => k = g) (Kept.setCell (S := fun k => k = g) (Kept.refl w _) (p := ⟨g, 1, none⟩) (.inl rfl) (.int .i64 q)) (fun k hk e => h.g_top (by rw [← hk]; exact e)) (fun k hk i hi e => h.g_row hi (by rw [← hk]; exact e)), below_set h.bel h.old, h.old, h.sup⟩
  rw [heap_setCell_same _ _ _ _ _ _ h.blk]; rfl
end
end Go.Proofs.Ytdldfdcedjmneaa.Own
namespace Go.Proofs.Ytdldfdcedjmneaa.Own
open Go.RowKit Go.Proofs.YtdldfdcedjmneaaW.PrintWords Go.Proofs.YtdldfdcedjmneaaW.PrintLast Go.Proofs.YtdldfdcedjmneaaW.PrintMore Go.Proofs.Ytdldfdcedjmneaa.Pb Go.Proofs.Ytdldfdcedjmneaa.Br
set_option linter.unusedVariables false
set_option linter.unusedSimpArgs false
/-- What one call of move does to a braid. -/
theorem move_brd {w0 w : World} {g n : Nat} {p : Int} {v : Value} {hs : List (Nat × Nat)} {Ps : List Pm} (h : Brd w0 g n w p v hs Ps) (hn1 : 1 ≤ n) (hn : n ≤ 1000) {i : Nat} (hi : i + 1 < hs.length) {s t : Pm} (h1 : Ps[i]? = some s) (h2 : Ps[i + 1]? = some t) :
  ∃ b s' t', MoveR n s t b s' t' ∧ Calls Try.prog 104 #[encH n hs[i], encH n hs[i + 1]] w fun e w' => e = .returned (.bool b) ∧ Brd w0 g n w' p v hs ((Ps.set i s').set (i + 1) t') := by
 have hss : Sup n s := h.sup s (List.mem_of_getElem? h1)
 have hts : Sup n t := h.sup t (List.mem_of_getElem? h2)
 obtain ⟨b, s', t', hM, hE⟩ := move_ev hn1 hn hss hts
 obtain ⟨k, hk⟩ := hE.rounds
 have hi0 : i < hs.length := by omega
 have r1 := h.fac.row i hi0
 have r2 := h.fac.row (i + 1) hi
 have e1 : (Ps.map (lst n)).getD i [] = lst n s := by rw [List.getD_eq_getElem?_getD, List.getElem?_map, h1]; rfl
 have e2 : (Ps.map (lst n)).getD (i + 1) [] = lst n t := by rw [List.getD_eq_getElem?_getD, List.getElem?_map, h2]; rfl
 rw [e1] at r1
 rw [e2] at r2
 have hne : hs[i].1 ≠ hs[i + 1].1 := fun e => by have := h.fac.inj hi0 hi e; omega
 refine ⟨b, s', t', hM, (strap_move.calls k _ _ (lst n s) _ _ (lst n t) b (lst n s') (lst n t') w0 w h.bel r1 (fun k hk1 hk2 => hne (by rw [← hk1, ← hk2])) r2 (fun k hk1 hk2 => hne (by rw [← hk1, ← hk2])) hk).mono ?_⟩
 rintro e w' ⟨rfl, q1, q2, hb, hkp⟩
 refine ⟨rfl, blk_kept h.blk hkp (fun hg => ?_), ?_, hb, h.old, ?_⟩
 ·rcases hg with e | e
  ·exact h.g_row hi0 e.symm
  ·exact h.g_row hi e.symm
 ·have := h.fac.put2 hi hkp (fun k hk => hk) q1 q2
  rw [List.map_set, List.map_set]
  exact this
 ·exact (star_at hM.star Ps i h1 h2).sup h.sup
theorem twist_row (n : Nat) (hn1 : 1 ≤ n) (hn : n ≤ 1000) (w : World) : Calls Try.prog 78 #[.int .i64 n] w fun e w' => ∃ b c, e = .returned (.slice (some ⟨b, 0, none⟩) n c) ∧ Kd.R (Kd.int .i64) 3 w' w.heap.size (fun k => k = b) (.slice (some ⟨b, 0, none⟩) n c) (lst n (half n)) ∧ Below w.heap.size w w' := by
 obtain ⟨k, hk⟩ := (twist_ev n hn1 hn).rounds
 refine (strap_twist.calls k (n : Int) (lst n (half n)) w hk).mono ?_
 rintro e w' ⟨v, rfl, h1, h2⟩
 obtain ⟨b, c, hv, _⟩ := Kd.R_form h1 (by rw [lst_len]; omega)
 rw [lst_len] at hv
 subst hv
 exact ⟨b, c, rfl, R_own1 h1, h2⟩
theorem identity_row (n : Nat) (hn1 : 1 ≤ n) (hn : n ≤ 1000) (w : World) : Calls Try.prog 92 #[.int .i64 n] w fun e w' => ∃ b c, e = .returned (.slice (some ⟨b, 0, none⟩) n c) ∧ Kd.R (Kd.int .i64) 3 w' w.heap.size (fun k => k = b) (.slice (some ⟨b, 0, none⟩) n c) (lst n one) ∧ Below w.heap.size w w' := by
 obtain ⟨k, hk⟩ := (identity_ev n hn).rounds
 refine (strap_identity.calls k (n : Int) (lst n one) w hk).mono ?_
 rintro e w' ⟨v, rfl, h1, h2⟩
 obtain ⟨b, c, hv, _⟩ := Kd.R_form h1 (by rw [lst_len]; omega)
 rw [lst_len] at hv
 subst hv
 exact ⟨b, c, rfl, R_own1 h1, h2⟩
/-- Neither the table nor the braid's block. -/
theorem row_apart {w0 w : World} {g n : Nat} {p : Int} {v : Value} {hs : List (Nat × Nat)} {Ps : List Pm} (h : Brd w0 g n w p v hs Ps) {B b c : Nat} {xs : List Int} {ok : Nat → Prop} (hr : Kd.R (Kd.int .i64) 3 w B ok (.slice (some ⟨b, 0, none⟩) n c) xs) : b ≠ g ∧ some b ≠ v.ownBlock := by
 obtain ⟨cs, hc⟩ := R_blk hr
 refine ⟨fun e => ?_, Kd.Q_ne h.fac.top hc (by decide)⟩
 rw [e, h.blk] at hc
 injection hc with hc
 injection hc with h1 h2
 exact absurd h2 (by decide)
/-- What is left when what crosses nothing is taken out. -/
def clean (n : Nat) (t : Pm) : Bool := decide (¬ lst n one = lst n t)
theorem clean_map (n : Nat) (Ps : List Pm) : (Ps.map (lst n)).filter (fun x => decide (¬ lst n one = x)) = (Ps.filter (clean n)).map (lst n) := by rw [List.filter_map]; rfl
theorem clean_star {n : Nat} {Ps : List Pm} (hs : AllSup n Ps) : Star n Ps (Ps.filter (clean n)) := by
 induction Ps with
 | nil => exact .refl _
 | cons x Ps ih =>
  have ih := ih (fun t ht => hs t (by simp [ht]))
  rw [List.filter_cons]
  cases h : clean n x with
  | true => simp only [if_true]; exact ih.cons x
  | false =>
   simp only [Bool.false_eq_true, if_false]
   have hx : x = one := by
    unfold clean at h
    have h2 := of_decide_eq_false h
    exact (lst_inj' (sup_one n) (hs x (by simp)) (Classical.byContradiction h2)).symm
   rw [hx]; exact .step (.del Ps) ih
theorem adj_rgt' {n : Nat} {q : Pm → Bool} : ∀ {Ps : List Pm}, (∀ t ∈ Ps, q t = false ↔ t = one) → AllSup n Ps → Adj n Ps → Rgt n (Ps.filter q)
 | [], _, _, _ => trivial
 | x :: l, hq, hs, h => by
  have hs2 : AllSup n l := fun y hy => hs y (by simp [hy])
  have hq2 : ∀ t ∈ l, q t = false ↔ t = one := fun y hy => hq y (by simp [hy])
  have hqx := hq x (by simp)
  rw [List.filter_cons]
  cases hx : q x with
  | false =>
   have e := hqx.1 hx
   subst e
   simp only [Bool.false_eq_true, if_false]
   exact adj_rgt' hq2 hs2 h.2
  | true =>
   simp only [if_true]
   refine ⟨fun e => (by rw [hqx.2 e] at hx; cases hx), fun t ht => ?_, adj_rgt' hq2 hs2 h.2⟩
   cases l with
   | nil => simp at ht
   | cons y l =>
    rw [List.filter_cons] at ht
    cases hy : q y with
    | true =>
     rw [hy, if_pos rfl] at ht
     exact h.1 t (by simpa using ht)
    | false =>
     rw [hy] at ht
     simp only [Bool.false_eq_true, if_false] at ht
     have e := (hq2 y (by simp)).1 hy
     subst e
     have hm := List.mem_of_mem_head? (Option.mem_def.2 ht)
     have h2 := List.mem_filter.1 hm
     have h3 := adj_one (Ps := l) hs2 h.2 t h2.1
     have h4 := (hq2 t (by simp [h2.1])).2 h3
     rw [h4] at h2
     exact absurd h2.2 (by simp)
theorem clean_rgt {n : Nat} {Ps : List Pm} (hs : AllSup n Ps) (h : Adj n Ps) : Rgt n (Ps.filter (clean n)) := by
 refine adj_rgt' (fun t ht => ?_) hs h
 unfold clean
 constructor
 ·intro h2
  exact (lst_inj' (sup_one n) (hs t ht) (Classical.byContradiction (of_decide_eq_false h2))).symm
 ·intro e
  subst e
  exact decide_eq_false (by simp)
/-- Inside a pass, behind place z. -/
structure Pass (n : Nat) (Ps : List Pm) (z : Int) (more : Bool) (Qs : List Pm) : Prop where
  star : Star n Ps Qs
  len : Qs.length = Ps.length
  no : more = false → Qs = Ps ∧ ∀ (j : Nat) s t, z < j → Qs[j]? = some s → Qs[j + 1]? = some t → ∀ i, i + 1 < n → t.B i → s.E i
  yes : more = true → mu n Qs < mu n Ps
theorem Pass.start (n : Nat) (Ps : List Pm) {z : Int} (hz : (Ps.length : Int) ≤ z + 2) : Pass n Ps z false Ps :=
 ⟨.refl _, rfl, fun _ => ⟨rfl, fun j s t hj h1 h2 => by
  have := (List.getElem?_eq_some_iff.1 h2).1
  omega⟩, fun h => by cases h⟩
theorem Pass.step {n : Nat} {Ps Qs : List Pm} {i : Nat} {more b : Bool} {s t s' t' : Pm} (h : Pass n Ps (i : Int) more Qs) (hs : AllSup n Ps) (h1 : Qs[i]? = some s) (h2 : Qs[i + 1]? = some t) (hM : MoveR n s t b s' t') :
  Pass n Ps ((i : Int) - 1) (b || more) ((Qs.set i s').set (i + 1) t') := by
 have hst := star_at hM.star Qs i h1 h2
 have hQ : AllSup n Qs := h.star.sup hs
 refine ⟨h.star.trans hst, by rw [List.length_set, List.length_set, h.len], fun hb => ?_, fun hb => ?_⟩
 ·have hb1 : b = false := by cases b <;> simp_all
  have hb2 : more = false := by cases more <;> simp_all
  obtain ⟨e1, e2⟩ := hM.no hb1
  obtain ⟨e3, hr⟩ := h.no hb2
  have hset : (Qs.set i s').set (i + 1) t' = Qs := by
   rw [e1, e2]
   apply List.ext_getElem?
   intro j
   rw [List.getElem?_set, List.getElem?_set, List.length_set]
   by_cases q1 : i + 1 = j
   ·subst q1
    rw [if_pos rfl, if_pos (List.getElem?_eq_some_iff.1 h2).1, h2]
   ·rw [if_neg q1]
    by_cases q2 : i = j
    ·subst q2
     rw [if_pos rfl, if_pos (List.getElem?_eq_some_iff.1 h1).1, h1]
    ·rw [if_neg q2]
  rw [hset]
  refine ⟨e3, fun j s2 t2 hj k1 k2 => ?_⟩
  by_cases q : j = i
  ·subst q
   rw [h1] at k1
   rw [h2] at k2
   injection k1 with k1
   injection k2 with k2
   subst k1; subst k2
   intro x hx hB
   have := hM.right x hx
   rw [e1, e2] at this
   exact this hB
  ·exact hr j s2 t2 (by omega) k1 k2
 ·have hle := Star.mu_le hst hQ
  cases hm : more with
  | true => have := h.yes hm; omega
  | false =>
   have hb1 : b = true := by cases b <;> simp_all
   obtain ⟨e3, _⟩ := h.no hm
   rcases Star.mu hst hQ with e | e
   ·exfalso
    have k := congrArg (fun l => l[i]?) e
    simp only [List.getElem?_set, List.length_set] at k
    rw [if_neg (by omega), if_pos trivial, if_pos (List.getElem?_eq_some_iff.1 h1).1, h1] at k
    injection k with k
    have := hM.yes hb1
    rw [k] at this
    omega
   ·rw [e3] at e; rw [e3]; exact e
end Go.Proofs.Ytdldfdcedjmneaa.Own
namespace Go.Proofs.Ytdldfdcedjmneaa.Own
open Go.RowKit Go.Proofs.YtdldfdcedjmneaaW.PrintWords Go.Proofs.YtdldfdcedjmneaaW.PrintLast Go.Proofs.YtdldfdcedjmneaaW.PrintMore Go.Proofs.Ytdldfdcedjmneaa.Pb Go.Proofs.Ytdldfdcedjmneaa.Br
set_option linter.unusedVariables false
set_option linter.unusedSimpArgs false
theorem Brd.cell {w0 w : World} {g n : Nat} {p : Int} {hs : List (Nat × Nat)} {Ps : List Pm} {gh o m c : Nat} (h : Brd w0 g n w p (.slice (some ⟨gh, o, none⟩) m c) hs Ps) {i : Nat} (hi : i < hs.length) : w.cell? ⟨gh, o + i, none⟩ = some (encH n hs[i]) := by
 have hm := (Kd.Q_reads' h.fac.top).1
 have k1 := (Kd.Q_cell (0, 0) h.fac.top (i : Int) (by omega) (by omega)).1
 have r1 : rdOf (0, 0) hs (i : Int) = hs[i] := by unfold rdOf; rw [Int.toNat_natCast, List.getD_eq_getElem?_getD, List.getElem?_eq_getElem (by omega)]; rfl
 rw [r1, Int.toNat_natCast] at k1
 exact k1
theorem mu_tail (n : Nat) (x : Pm) (l : List Pm) : mu n l ≤ mu n (x :: l) := by
 unfold mu
 rw [Br.val, List.length_cons]
 omega
/-- The first factor is taken off. -/
theorem Brd.behead {w0 w : World} {g n : Nat} {p : Int} {v v' : Value} {hs : List (Nat × Nat)} {h3 : Nat × Nat} {q : Pm} {Ps : List Pm} (h : Brd w0 g n w p v (h3 :: hs) (q :: Ps)) (m : Nat) (hF : Fac w0.heap.size n w v' hs (Ps.map (lst n))) (q' : Int) :
  Brd w0 g n (((w.drewN m).setCell ⟨g, 2, none⟩ v').setCell ⟨g, 1, none⟩ (.int .i64 q')) q' v' hs Ps := by
 have h1 := h.below (pw_below_drewN (Below.refl _ _) m)
 exact (Brd.put h1.blk (hF.below (pw_below_drewN (Below.refl _ _) m)) h1.bel h1.old (fun t ht => h1.sup t (by simp [ht]))).setp q'
theorem row_behead {w0 w : World} {g n : Nat} {p : Int} {v : Value} {hs : List (Nat × Nat)} {Ps : List Pm} (h : Brd w0 g n w p v hs Ps) {B b c : Nat} {xs : List Int} (hr : Kd.R (Kd.int .i64) 3 w B (fun k => k = b) (.slice (some ⟨b, 0, none⟩) n c) xs) (m : Nat) (u u' : Value) :
    Kd.R (Kd.int .i64) 3 (((w.drewN m).setCell ⟨g, 2, none⟩ u).setCell ⟨g, 1, none⟩ u') B (fun k => k = b) (.slice (some ⟨b, 0, none⟩) n c) xs :=
  Kd.R_kept hr (Kept.setCell (S := fun k => k = g) (Kept.setCell (S := fun k => k = g) ((Kept.refl w _).drewN m) (p := ⟨g, 2, none⟩) (.inl rfl) u) (p := ⟨g, 1, none⟩) (.inl rfl) u') (fun k hk e => (row_apart h hr).1 (by rw [← hk, e]))
/-- What tidy leaves. -/
structure TidyR (n : Nat) (p0 : Int) (Ps0 : List Pm) (p : Int) (Ps : List Pm) : Prop where
  nf : Nf n p0 Ps0 p Ps
  le : p + Ps.length ≤ p0 + Ps0.length
  up : p0 ≤ p
set_option maxRecDepth 20000 in
set_option maxHeartbeats 8000000 in
theorem f100_any {w0 : World} {g n : Nat} {p0 : Int} {v0 : Value} {hs0 : List (Nat × Nat)} {Ps0 : List Pm} (w : World) (h : Brd w0 g n w p0 v0 hs0 Ps0) (hn1 : 2 ≤ n) (hn : n ≤ 1000) (hp : -1000000 ≤ p0) (hpl : p0 + Ps0.length ≤ 1000000) :
  Calls Try.prog 100 #[.pointer (some ⟨g, 0, none⟩)] w fun e w' => e = .returned (.tuple #[]) ∧ ∃ p v hs Ps, Brd w0 g n w' p v hs Ps ∧ TidyR n p0 Ps0 p Ps := by
 have hs0' := h.sup
 have HS0 := Aside0.mk hs0'
 have H0 := Aside0.mk h
 clear h hs0'
 go_enter Try.func100, Try.ntmps100
 go_wp2
 go_loopg [2] (2 * mu n Ps0 + 1) (fun kq s2 wr => ∃ (more : Bool) (p : Int) (v : Value) (hs : List (Nat × Nat)) (Ps : List Pm), s2 = .bool more ∧ 2 * mu n Ps + (if more then 1 else 0) ≤ kq ∧ Aside0 (Brd w0 g n wr p v hs Ps) ∧ Aside0 (Trail n p0 Ps0 p Ps) ∧ Aside0 (more = false → Rgt n Ps ∧ Ps.head? ≠ some (half n)))
 case atStart => exact ⟨true, p0, v0, hs0, Ps0, rfl, by simp, H0, ⟨Trail.refl _ _⟩, ⟨fun h => by cases h⟩⟩
 case round =>
  clear H0
  obtain ⟨more, p, v, hs, Ps, rfl, hgg, HB, HT, HD⟩ := hrel
  cases more with
  | false =>
   go_wp2
   go_end0
   exact ⟨rfl, p, v, hs, Ps, HB.out, ⟨HT.out.nf HS0.out (HD.out trivial).1 (HD.out trivial).2, HT.out.le, HT.out.up⟩⟩
  | true =>
   clear HD
   simp only [if_true] at hgg
   have hup := HT.out.up
   have hle := HT.out.le
   have hlen := HB.out.len
   obtain ⟨A, c, rfl, hlc⟩ := Kd.Q_slice HB.out.fac.top
   have c2 := HB.out.c2
   have hl20 : (hs.length : Int) ≤ 3000000 := by omega
   have HUP := Aside0.mk hup
   have HLE := Aside0.mk hle
   have HLN := Aside0.mk hlen
   clear hup hle hlen
   go_wp2
   obtain ⟨wo, hwo⟩ : ∃ wo : World, wo = wr := ⟨_, rfl⟩
   subst hwo
   go_loopg [2, 3] (hs.length + 1) (fun kq s2 s3 wr => ∃ (mo : Bool) (z : Int) (Qs : List Pm), s2 = .bool mo ∧ s3 = .int .i64 z ∧ -2 ≤ z ∧ z + 2 ≤ (hs.length : Int) ∧ (z + 1).toNat ≤ kq ∧ Aside0 (Brd w0 g n wr p (.slice A hs.length c) hs Qs) ∧ Aside0 (Pass n Ps z mo Qs))
   case atStart => exact ⟨false, (hs.length : Int) - 2, Ps, rfl, rfl, by omega, by omega, by omega, HB, ⟨Pass.start n Ps (by have := HLN.out; omega)⟩⟩
   case round =>
    clear HB c2
    obtain ⟨mo, z, Qs, rfl, rfl, hz1, hz2, hkz, HB, HP⟩ := hrel
    by_cases hz : 0 ≤ z
    ·obtain ⟨i, rfl⟩ := Int.eq_ofNat_of_zero_le hz
     have hi : i + 1 < hs.length := by omega
     have hi0 : i < hs.length := Nat.lt_of_succ_lt hi
     obtain ⟨s, hs1⟩ : ∃ s, Qs[i]? = some s := ⟨_, List.getElem?_eq_getElem (by have := HB.out.len; omega)⟩
     obtain ⟨t, ht1⟩ : ∃ t, Qs[i + 1]? = some t := ⟨_, List.getElem?_eq_getElem (by have := HB.out.len; omega)⟩
     obtain ⟨gh, o, cap, hv, _⟩ := Kd.Q_form HB.out.fac.top (by omega)
     injection hv with hA hlen2 hcap
     subst hA; subst hcap
     have c2 := HB.out.c2
     have k1 := HB.out.cell hi0
     have k2 := HB.out.cell hi
     obtain ⟨e1, he1⟩ : ∃ e1, encH n (hs[i]'hi0) = e1 := ⟨_, rfl⟩
     obtain ⟨e2, he2⟩ : ∃ e2, encH n (hs[i + 1]'hi) = e2 := ⟨_, rfl⟩
     rw [he1] at k1
     rw [he2] at k2
     have hix : (i : Int) + 1 < (hs.length : Int) := by omega
     have hix2 : (0 : Int) ≤ (i : Int) + 1 := by omega
     have hix0 : (i : Int) < (hs.length : Int) := by omega
     have hw1 : IntKind.i64.wrap ((i : Int) + 1) = ((i + 1 : Nat) : Int) := IntWalk.i64_in _ (by omega)
     obtain ⟨b, s', t', hM, hC⟩ := move_brd (HB.out.below (w' := wr.drew) (pw_below_drewN (Below.refl _ _) 1)) (by omega) hn hi hs1 ht1
     rw [he1, he2] at hC
     have HE := Aside0.mk (And.intro hs1 ht1)
     have HM := Aside0.mk hM
     have HPS := Aside0.mk (HB.out.sup)
     have hS : wr.drew.cell? ⟨g, 2, none⟩ = some (.slice (some ⟨gh, o, none⟩) hs.length c) ∧ wr.drew.cell? ⟨gh, o + i, none⟩ = some e1 ∧ wr.drew.cell? ⟨gh, o + (i + 1), none⟩ = some e2 := ⟨c2, k1, k2⟩
     have HE1 := Aside0.mk he1
     have HE2 := Aside0.mk he2
     clear hs1 ht1 hM he1 he2 hlen2
     go_upto_region 6 with fail
     refine wp_region_T 99 (fun w' => w'.cell? ⟨g, 2, none⟩ = some (.slice (some ⟨gh, o, none⟩) hs.length c) ∧ w'.cell? ⟨gh, o + i, none⟩ = some e1 ∧ w'.cell? ⟨gh, o + (i + 1), none⟩ = some e2) (by kernel_rfl) ?_
     refine tk 0 ?_
     refine tk 1 ?_
     refine tk 2 ?_
     refine tk 3 ?_
     refine tk 4 ?_
     refine tk 5 ?_
     refine tk 6 ?_
     refine tk 7 ?_
     refine tk 8 ?_
     refine tk 9 ?_
     refine tk 10 ?_
     refine tk 11 ?_
     refine tk 12 ?_
     refine tk 13 ?_
     refine tk 14 ?_
     refine wpAnyT_one (i := 15) (by kernel_rfl) rfl (fun K hK => ?_)
     go_wp2_with (go_at_call 104; (with_reducible refine hC.mono ?_); rintro e w2 ⟨rfl, hB2⟩)
     have HB2 := Aside0.mk hB2
     clear hB2
     refine hK _ _ (fun _ => ?_) ?_
     ·exact ⟨HB2.out.c2, by rw [HB2.out.cell hi0, HE1.out], by rw [HB2.out.cell hi, HE2.out]⟩
     clear hK K
     (try simp only [Act.put, List.setIfInBounds_toArray, List.set_cons_zero, List.set_cons_succ])
     refine wpAnyT_done (by kernel_rfl) ?_ _
     have HPP := Aside0.mk (HP.out.step (by have := HPS.out; exact (HT.out.sup HS0.out)) HE.out.1 HE.out.2 HM.out)
     cases b with
     | true =>
      go_wp2
      go_roundg i
      case measure => omega
      case rel => exact ⟨true, (i : Int) - 1, _, rfl, by go_num, by omega, by omega, by omega, HB2, HPP⟩
     | false =>
      go_wp2
      go_roundg i
      case measure => omega
      case rel => exact ⟨mo, (i : Int) - 1, _, rfl, by go_num, by omega, by omega, by omega, HB2, HPP⟩
    ·have hzn : z < 0 := by omega
     have HPS := Aside0.mk HB.out.sup
     have c0 := HB.out.c0
     have HB8 := Aside0.mk (HB.out.below (pw_below_drewN (Below.refl _ _) 1))
     have hS : (wr.drewN 1).cell? ⟨g, 0, none⟩ = some (.int .i64 (n : Int)) := c0
     go_upto_region 8 with fail
     refine wp_region_T 99 (fun w' => w'.cell? ⟨g, 0, none⟩ = some (.int .i64 (n : Int))) (by kernel_rfl) ?_
     refine tk 0 ?_
     refine tk 1 ?_
     refine tk 2 ?_
     refine tk 3 ?_
     refine tk 5 ?_
     refine tk 6 ?_
     refine tk 7 ?_
     refine tk 8 ?_
     refine wpAnyT_one (i := 4) (by kernel_rfl) rfl (fun K hK => ?_)
     go_wp2_with (go_at_call 92; (with_reducible refine (identity_row n (by omega) hn _).mono ?_); rintro e w5 ⟨b1, d1, rfl, hR1, hb1⟩)
     have HB9 := Aside0.mk (HB8.out.below hb1)
     have HR1 := Aside0.mk hR1
     clear hR1 hb1
     refine hK _ _ (fun _ => ?_) ?_
     ·exact HB9.out.c0
     clear hK K
     (try simp only [Act.put, List.setIfInBounds_toArray, List.set_cons_zero, List.set_cons_succ])
     refine wpAnyT_one (i := 9) (by kernel_rfl) rfl (fun K hK => ?_)
     go_wp2_with (go_at_call 78; (with_reducible refine (twist_row n (by omega) hn _).mono ?_); rintro e w6 ⟨b2, d2, rfl, hR2, hb2⟩)
     have HB10 := Aside0.mk (HB9.out.below hb2)
     have HR1b := Aside0.mk (Kd.R_below HR1.out hb2)
     have HR2 := Aside0.mk hR2
     clear hR2 hb2 HR1
     refine hK _ _ (fun _ => ?_) ?_
     ·exact HB10.out.c0
     clear hK K
     (try simp only [Act.put, List.setIfInBounds_toArray, List.set_cons_zero, List.set_cons_succ])
     refine wpAnyT_one (i := 10) (by kernel_rfl) rfl (fun K hK => ?_)
     go_wp2
     refine hK _ _ (fun _ => ?_) ?_
     ·exact HB10.out.c0
     clear hK K
     (try simp only [Act.put, List.setIfInBounds_toArray, List.set_cons_zero, List.set_cons_succ])
     refine wpAnyT_one (i := 11) (by kernel_rfl) rfl (fun K hK => ?_)
     go_wp2
     refine hK _ _ (fun _ => ?_) ?_
     ·exact HB10.out.c0
     clear hK K
     (try simp only [Act.put, List.setIfInBounds_toArray, List.set_cons_zero, List.set_cons_succ])
     refine wpAnyT_done (by kernel_rfl) ?_ _
     have h105 := f105_any b1 d1 (lst n one) _ w6 HB10.out.bel HB10.out.fac HR1b.out hn
     rw [clean_map] at h105
     have c26 := HB10.out.c2
     clear c0 hS HB8 HB9
     go_wp2_with (go_at_call 105; (with_reducible refine h105.mono ?_); rintro e w7 ⟨v7, hs7, rfl, hF7, ho7, hk7, hb7⟩; obtain ⟨A7, c7, rfl, hlc7⟩ := Kd.Q_slice hF7.top; have hblk7 := blk_kept HB10.out.blk hk7 (fun e => HB10.out.g_top e.symm); have HBL := Aside0.mk hblk7; have c27 : w7.cell? ⟨g, 2, none⟩ = some (.slice A hs.length c) := (by simp only [World.cell?, hblk7]; rfl); have f27 : w7.frozen? ⟨g, 2, none⟩ = false := (by simp [World.frozen?, hblk7]); have HF7 := Aside0.mk hF7; have HK7 := Aside0.mk hk7; have HB7 := Aside0.mk hb7; clear hF7 hk7 hb7 ho7 hblk7)
     have HAP := Aside0.mk (row_apart HB10.out HR2.out)
     have HP7 : Aside0 (Brd w0 g n (w7.setCell ⟨g, 2, none⟩ (.slice A7 hs7.length c7)) p (.slice A7 hs7.length c7) hs7 (Qs.filter (clean n))) := ⟨Brd.put HBL.out HF7.out HB7.out HB10.out.old (fun t ht => HPS.out t (List.mem_filter.1 ht).1)⟩
     have HR7 : Aside0 (Kd.R (Kd.int .i64) 3 (w7.setCell ⟨g, 2, none⟩ (.slice A7 hs7.length c7)) 0 (fun k => k = b2) (.slice (some ⟨b2, 0, none⟩) n d2) (lst n (half n))) :=
      ⟨Kd.R_lower (Kd.R_kept HR2.out (Kept.setCell (S := fun k => some k = (Value.slice A hs.length c).ownBlock ∨ k = g) (HK7.out.mono (fun k hk => .inl hk)) (p := ⟨g, 2, none⟩) (.inl (.inr rfl)) _) (fun k hk hk2 => by
       subst hk
       rcases hk2 with e | e
       ·exact HAP.out.2 e
       ·exact HAP.out.1 e)) (Nat.zero_le _)⟩
     generalize w7.setCell ⟨g, 2, none⟩ (.slice A7 hs7.length c7) = w8 at HP7 HR7 ⊢
     have HT7 : Aside0 (Trail n p0 Ps0 p (Qs.filter (clean n))) := ⟨(HT.out.star HP.out.star (by rw [HP.out.len]; exact Nat.le_refl _)).star (clean_star HPS.out) (List.length_filter_le _ _)⟩
     have HRG : Aside0 (mo = false → Rgt n (Qs.filter (clean n))) := ⟨fun h => clean_rgt HPS.out (adj_of Qs (fun j s t k1 k2 => (HP.out.no h).2 j s t (by omega) k1 k2))⟩
     have HMU : Aside0 (mu n (Qs.filter (clean n)) ≤ mu n Qs) := ⟨Star.mu_le (clean_star HPS.out) HPS.out⟩
     have HMO : Aside0 (2 * mu n Qs + (if mo = true then 1 else 0) ≤ 2 * mu n Ps) := ⟨by
      have h1 := Star.mu_le HP.out.star (HT.out.sup HS0.out)
      cases mo with
      | true => have := HP.out.yes rfl; simp; omega
      | false => simp; omega⟩
     obtain ⟨Rs, hRs⟩ : ∃ Rs, Qs.filter (clean n) = Rs := ⟨_, rfl⟩
     rw [hRs] at HP7 HT7 HRG HMU
     clear HBL HF7 HB7 HK7 HAP HR2 HB10 HPS HP hRs HR1b c26 c27 f27
     obtain ⟨wo2, hwo2⟩ : ∃ wo2 : World, wo2 = wr := ⟨_, rfl⟩
     subst hwo2
     go_loopg [53] Rs.length (fun kq _ wr => ∃ (p3 : Int) (v3 : Value) (hs3 : List (Nat × Nat)) (Qs3 : List Pm), Qs3.length ≤ kq ∧ Aside0 (Brd w0 g n wr p3 v3 hs3 Qs3) ∧ Aside0 (Trail n p0 Ps0 p3 Qs3) ∧ Aside0 (Kd.R (Kd.int .i64) 3 wr 0 (fun k => k = b2) (.slice (some ⟨b2, 0, none⟩) n d2) (lst n (half n))) ∧ Aside0 (mo = false → Rgt n Qs3) ∧ Aside0 (mu n Qs3 ≤ mu n Qs))
     case atStart => exact ⟨p, _, hs7, Rs, Nat.le_refl _, HP7, HT7, HR7, HRG, HMU⟩
     case round =>
      clear HP7 HT7 HR7 HRG HMU
      obtain ⟨p3, v3, hs3, Qs3, hk3, HB3, HT3, HR3, HG3, HM3⟩ := hrel
      cases Qs3 with
      | nil =>
       have hl3 : hs3 = [] := List.eq_nil_of_length_eq_zero (by have := HB3.out.len; simpa using this)
       subst hl3
       obtain ⟨A3, c3, rfl, hlc3⟩ := Kd.Q_slice HB3.out.fac.top
       have c23 := HB3.out.c2
       simp only [List.length_nil] at c23
       go_wp2
       go_roundg (2 * mu n ([] : List Pm) + (if mo = true then 1 else 0))
       case measure => have h1 := HM3.out; have h2 := HMO.out; omega
       case rel => exact ⟨mo, p3, _, [], [], rfl, Nat.le_refl _, HB3, HT3, ⟨fun h => ⟨trivial, by simp⟩⟩⟩
      | cons q Qs4 =>
       obtain ⟨h3, hs4, rfl⟩ : ∃ h3 hs4, hs3 = h3 :: hs4 := by
        cases hs3 with
        | nil => have := HB3.out.len; simp at this
        | cons a b => exact ⟨a, b, rfl⟩
       obtain ⟨gh3, o3, cap3, hv3, _⟩ := Kd.Q_form HB3.out.fac.top (by simp)
       subst hv3
       have hcap := (Kd.Q_reads' HB3.out.fac.top).2.1
       have c23 := HB3.out.c2
       have c13 := HB3.out.c1
       have f23 := HB3.out.fz 2
       have f13 := HB3.out.fz 1
       have k3 := HB3.out.cell (i := 0) (by simp)
       simp only [Nat.add_zero, List.getElem_cons_zero] at k3
       unfold encH at k3
       simp only [List.length_cons] at c23 hcap
       have hrow : Kd.R (Kd.int .i64) 3 wr w0.heap.size (fun k => k = h3.1) (.slice (some ⟨h3.1, 0, none⟩) n h3.2) (lst n q) := HB3.out.fac.row 0 (by simp)
       obtain ⟨e1, e2, hC1⟩ := Kd.R_reads' hrow
       obtain ⟨e3, e4, hC2⟩ := Kd.R_reads' HR3.out
       rw [← e1] at hC1
       rw [← e3] at hC2
       have h60 := f60_any _ h3.2 (lst n q) _ d2 (lst n (half n)) n n wr hC1 e2 hC2 e4 hn
       have hb1 : (-1000000 : Int) ≤ p3 := by have := HT3.out.up; omega
       have hb2 : p3 ≤ 1000000 := by have := HT3.out.le; omega
       have hb3 : (hs4.length : Int) ≤ 3000000 := by
        have h1 := HT3.out.le
        have h2 := HB3.out.len
        simp only [List.length_cons] at h1 h2
        omega
       have hgt : (0 : Int) < (hs4.length : Int) + 1 := by omega
       clear hrow e1 e3 hC1 hC2
       by_cases hq : lst n q = lst n (half n)
       ·rw [decide_eq_true hq] at h60
        have HQ : Aside0 (q = half n) := ⟨lst_inj' (HB3.out.sup q (by simp)) (sup_half n) hq⟩
        clear hq
        go_wp2_with (go_at_call 60; (with_reducible refine h60.mono ?_); rintro e w9 ⟨rfl, ⟨m9, rfl⟩⟩)
        ·go_roundg Qs4.length
         case measure => simp at hk3; omega
         case rel =>
          refine ⟨p3 + 1, _, hs4, Qs4, Nat.le_refl _, ⟨HB3.out.behead m9 (by have h := Fac.tail HB3.out.fac; have hc : cap3 = 1 := (by omega); rw [if_pos hc, hc] at h; exact h) (p3 + 1)⟩, ⟨by have h := HT3.out; rw [HQ.out] at h; exact h.strip⟩, ⟨row_behead HB3.out HR3.out m9 _ _⟩, ⟨fun h => Rgt.tail (HG3.out h)⟩, ⟨Nat.le_trans (mu_tail n q Qs4) HM3.out⟩⟩
        ·rename_i hcne
         go_roundg Qs4.length
         case measure => simp at hk3; omega
         case rel =>
          refine ⟨p3 + 1, _, hs4, Qs4, Nat.le_refl _, ⟨HB3.out.behead m9 (by have h := Fac.tail HB3.out.fac; rw [if_neg (by omega)] at h; exact h) (p3 + 1)⟩, ⟨by have h := HT3.out; rw [HQ.out] at h; exact h.strip⟩, ⟨row_behead HB3.out HR3.out m9 _ _⟩, ⟨fun h => Rgt.tail (HG3.out h)⟩, ⟨Nat.le_trans (mu_tail n q Qs4) HM3.out⟩⟩
       ·rw [decide_eq_false hq] at h60
        have HQ : Aside0 (q ≠ half n) := ⟨fun e => hq (by rw [e])⟩
        clear hq
        go_wp2_with (go_at_call 60; (with_reducible refine h60.mono ?_); rintro e w9 ⟨rfl, ⟨m9, rfl⟩⟩)
        go_roundg (2 * mu n (q :: Qs4) + (if mo = true then 1 else 0))
        case measure => have h1 := HM3.out; have h2 := HMO.out; omega
        case rel => exact ⟨mo, p3, _, h3 :: hs4, q :: Qs4, rfl, Nat.le_refl _, ⟨HB3.out.below (pw_below_drewN (Below.refl _ _) m9)⟩, HT3, ⟨fun h => ⟨HG3.out h, by simpa using HQ.out⟩⟩⟩
end Go.Proofs.Ytdldfdcedjmneaa.Own
namespace Go.Proofs.Ytdldfdcedjmneaa.Own
open Go.RowKit Go.Proofs.YtdldfdcedjmneaaW.PrintWords Go.Proofs.YtdldfdcedjmneaaW.PrintLast Go.Proofs.YtdldfdcedjmneaaW.PrintMore Go.Proofs.Ytdldfdcedjmneaa.Pb Go.Proofs.Ytdldfdcedjmneaa.Br
set_option linter.unusedVariables false
set_option linter.unusedSimpArgs false
theorem behind_row {w0 w : World} {n b c : Nat} {t : Pm} (hB : Below w0.heap.size w0 w) (hr : Kd.R (Kd.int .i64) 3 w w0.heap.size (fun k => k = b) (.slice (some ⟨b, 0, none⟩) n c) (lst n t)) (hs : Sup n t) (hn : n ≤ 1000) {i : Nat} (hi : i + 1 < n) :
  Calls Try.prog 93 #[.slice (some ⟨b, 0, none⟩) n c, .int .i64 i] w fun e w' => e = .returned (.tuple #[]) ∧ Kd.R (Kd.int .i64) 3 w' w0.heap.size (fun k => k = b) (.slice (some ⟨b, 0, none⟩) n c) (lst n (t.R i)) ∧ Below w0.heap.size w0 w' ∧ Kept w w' (fun k => k = b) := by
 obtain ⟨k, hk⟩ := (behind_ev hs hn hi).rounds
 refine (strap_perm_behind.calls k _ _ (lst n t) (i : Int) (lst n (t.R i)) w0 w hB hr hk).mono ?_
 rintro e w' ⟨rfl, h1, h2, h3⟩
 exact ⟨rfl, R_own1 h1, h2, h3⟩
theorem turned_row {w : World} {B n b c : Nat} {t : Pm} {ok : Nat → Prop} (hr : Kd.R (Kd.int .i64) 3 w B ok (.slice (some ⟨b, 0, none⟩) n c) (lst n t)) (hs : Sup n t) (hn1 : 1 ≤ n) (hn : n ≤ 1000) :
  Calls Try.prog 99 #[.slice (some ⟨b, 0, none⟩) n c] w fun e w' => ∃ b' c', e = .returned (.slice (some ⟨b', 0, none⟩) n c') ∧ Kd.R (Kd.int .i64) 3 w' w.heap.size (fun k => k = b') (.slice (some ⟨b', 0, none⟩) n c') (lst n (tau n t)) ∧ Below w.heap.size w w' := by
 obtain ⟨k, hk⟩ := (turned_ev hs hn).rounds
 obtain ⟨e1, e2, e3⟩ := Kd.R_reads' hr
 have h := strap_perm_turned.calls k (some ⟨b, 0, none⟩) c (lst n t) (lst n (tau n t)) w e3 (by rw [← e1]; exact e2) hk
 rw [lst_len] at h
 refine h.mono ?_
 rintro e w' ⟨v, rfl, h1, h2⟩
 obtain ⟨b', c', hv, _⟩ := Kd.R_form h1 (by rw [lst_len]; omega)
 rw [lst_len] at hv
 subst hv
 exact ⟨b', c', rfl, R_own1 h1, h2⟩
section
variable {B n : Nat} {w w' : World} {v : Value} {hs : List (Nat × Nat)} {L : List (List Int)}
/-- One factor more. -/
theorem Fac.snoc {S : Nat → Prop} (h : Fac B n w v hs L) {v1 : Value} {h0 : Nat × Nat} {x : List Int} {ok : Nat → Prop} (hx : Kd.R (Kd.int .i64) 3 w B ok (encH n h0) x) (hne : ∀ i (hi : i < hs.length), hs[i].1 ≠ h0.1) (hq : (hd n).Q 86 w' B (fun _ => True) v1 (hs ++ [h0]))
  (hk : Kept w w' S) (hS : ∀ k, S k → some k = v.ownBlock) (hne2 : some h0.1 ≠ v.ownBlock) : Fac B n w' v1 (hs ++ [h0]) (L ++ [x]) := by
 refine ⟨hq, by rw [List.length_append, List.length_append, h.len]; rfl, fun i hi => ?_, ?_⟩
 ·rw [List.length_append, List.length_singleton] at hi
  by_cases e : i < hs.length
  ·rw [List.getElem_append_left e]
   have : (L ++ [x]).getD i [] = L.getD i [] := by rw [List.getD_eq_getElem?_getD, List.getElem?_append_left (by rw [← h.len]; exact e), ← List.getD_eq_getElem?_getD]
   rw [this]
   exact Kd.R_kept (h.row i e) hk (fun k hk1 hs1 => h.blk_ne e (by rw [← hk1]; exact hS k hs1))
  ·have e2 : i = hs.length := by omega
   subst e2
   rw [List.getElem_append_right (Nat.le_refl _)]
   have : (L ++ [x]).getD hs.length [] = x := by rw [List.getD_eq_getElem?_getD, h.len, List.getElem?_append_right (Nat.le_refl _), Nat.sub_self]; rfl
   rw [this]
   simp only [Nat.sub_self, List.getElem_cons_zero]
   exact Kd.R_kept (R_own1 hx) hk (fun k hk1 hs1 => hne2 (by rw [← hk1]; exact hS k hs1))
 ·rw [List.map_append, List.nodup_append]
  refine ⟨h.nd, by simp, fun a ha b hb => ?_⟩
  obtain ⟨p, hp, rfl⟩ := List.mem_map.1 ha
  obtain ⟨i, hi, rfl⟩ := List.getElem_of_mem hp
  have : b = h0.1 := by simpa using hb
  rw [this]
  exact hne i hi
/-- One header is another one now. -/
theorem Fac.swap {S : Nat → Prop} (h : Fac B n w v hs L) {h0 : Nat × Nat} {x : List Int} {ok : Nat → Prop} {i : Nat} (hi : i < hs.length) (hx : Kd.R (Kd.int .i64) 3 w B ok (encH n h0) x) (hne : ∀ j (hj : j < hs.length), hs[j].1 ≠ h0.1) (hq : (hd n).Q 86 w' B (fun _ => True) v (hs.set i h0))
  (hk : Kept w w' S) (hS : ∀ k, S k → some k = v.ownBlock) (hne2 : some h0.1 ≠ v.ownBlock) : Fac B n w' v (hs.set i h0) (L.set i x) := by
 refine ⟨hq, by rw [List.length_set, List.length_set, h.len], fun j hj => ?_, ?_⟩
 ·have hj2 : j < hs.length := by rw [List.length_set] at hj; exact hj
  by_cases e : j = i
  ·subst e
   rw [List.getElem_set_self]
   have : (L.set j x).getD j [] = x := by rw [List.getD_eq_getElem?_getD, List.getElem?_set_self (by rw [← h.len]; exact hj2)]; rfl
   rw [this]
   exact Kd.R_kept (R_own1 hx) hk (fun k hk1 hs1 => hne2 (by rw [← hk1]; exact hS k hs1))
  ·rw [List.getElem_set_ne (fun e2 => e e2.symm)]
   have : (L.set i x).getD j [] = L.getD j [] := by rw [List.getD_eq_getElem?_getD, List.getElem?_set_ne (fun e2 => e e2.symm), ← List.getD_eq_getElem?_getD]
   rw [this]
   exact Kd.R_kept (h.row j hj2) hk (fun k hk1 hs1 => h.blk_ne hj2 (by rw [← hk1]; exact hS k hs1))
 ·have h1 := h.nd
  unfold List.Nodup at h1 ⊢
  rw [List.map_set, List.pairwise_iff_getElem]
  rw [List.pairwise_iff_getElem] at h1
  intro a b ha hb hab
  rw [List.length_set, List.length_map] at ha hb
  rw [List.getElem_set, List.getElem_set]
  by_cases ea : i = a
  ·rw [if_pos ea]
   rw [if_neg (by omega), List.getElem_map]
   exact fun e => hne b hb e.symm
  ·rw [if_neg ea]
   by_cases eb : i = b
   ·rw [if_pos eb, List.getElem_map]
    exact fun e => hne a ha e
   ·rw [if_neg eb]
    exact h1 a b (by simpa using ha) (by simpa using hb) hab
end
set_option maxRecDepth 100000 in
set_option maxHeartbeats 8000000 in
theorem f83_pos {w0 : World} {g n : Nat} {p : Int} {v : Value} {hs : List (Nat × Nat)} {Ps : List Pm} (w : World) (h : Brd w0 g n w p v hs Ps) (hn1 : 2 ≤ n) (hn : n ≤ 1000) {i : Nat} (hi : i + 1 < n) (hp : -900000 ≤ p) (hpl : p + Ps.length ≤ 900000) :
  Calls Try.prog 83 #[.pointer (some ⟨g, 0, none⟩), .int .i64 ((i : Int) + 1)] w fun e w' => e = .returned (.tuple #[]) ∧ ∃ p' v' hs' Ps', Brd w0 g n w' p' v' hs' Ps' ∧ TidyR n p (Ps ++ [gen i]) p' Ps' := by
 obtain ⟨A, c, rfl, hlc⟩ := Kd.Q_slice h.fac.top
 have c0 := h.c0
 have HLM : Aside0 (hs.length ≤ 3000000) := ⟨by have := h.len; omega⟩
 have HB := Aside0.mk h
 clear h
 go_enter Try.func83, Try.ntmps83
 go_wp2_with (first | (go_at_call 92; (with_reducible refine (identity_row n (by omega) hn _).mono ?_); rintro e w1 ⟨b1, d1, rfl, hR1, hb1⟩; have HR1 := Aside0.mk hR1; have HB1 := Aside0.mk (HB.out.below hb1); have HFR : Aside0 (∀ j (hj : j < hs.length), hs[j].1 ≠ b1) := ⟨fun j hj e => by have h1 := (HB.out.fac.lt hj).1; have h2 := (R_lt1 HR1.out).2; omega⟩; clear hR1 hb1)  | (go_at_call 93; (with_reducible refine (behind_row (w0 := w0) HB1.out.bel (Kd.R_lower HR1.out HB.out.bel.size) (sup_one n) hn hi).mono ?_); rintro e w2 ⟨rfl, hR2, hb2, hk2⟩; have HR2 := Aside0.mk hR2; have HAP := Aside0.mk (row_apart HB1.out HR1.out); have HB2 := Aside0.mk (HB1.out.kept hk2 (fun e => HAP.out.1 e.symm) (fun k hk e => HAP.out.2 (by rw [e, hk])) (fun k hk j hj e => HFR.out j hj (by rw [e, hk])) hb2); have c22 := HB2.out.c2; clear hR2 hb2 hk2)  | ((with_reducible refine gate_builtin (b := .append) (xs := #[.tmp 56, .tmp 58]) rfl ?_); at_builtin; refine Kd.Q_append (hd n) (w0 := w0) w0.heap.size rfl (.tmp 56) (.tmp 58) 83 86 (.slice none 0 0) 24 rfl Try.underlying83 info86 rfl Nat.one_pos (by omega) (.slice A hs.length c) hs (b1, d1) [encH n (b1, d1)] (fun _ => True) (fun _ => False) rfl rfl rfl (fun _ hk => hk.elim) (fun _ _ => trivial) HB2.out.fac.top HB2.out.bel HB2.out.bel.size (by have := HLM.out; omega) ?_; intro v3 w3 ho hb hg hat; obtain ⟨A3, c3, hv3, hlc3⟩ := Kd.Q_slice ho; obtain ⟨m3, hm3⟩ : ∃ m3, (hs ++ [(b1, d1)]).length = m3 := ⟨_, rfl⟩; rw [hm3] at hv3; subst hv3; have hk3 : Kept w2 w3 (fun k => some k = (Value.slice A hs.length c).ownBlock) := Kept.of_grown hg (Kept.refl _ _) (fun k hk => .inl hk.symm); have hblk3 := blk_kept HB2.out.blk hk3 (fun e => HB2.out.g_top e.symm); have HB3 : Aside0 (Brd w0 g n (w3.setCell ⟨g, 2, none⟩ (.slice A3 m3 c3)) p (.slice A3 m3 c3) (hs ++ [(b1, d1)]) (Ps ++ [gen i])) := ⟨Brd.put hblk3 (by rw [List.map_append]; exact Fac.snoc HB2.out.fac (h0 := (b1, d1)) HR2.out (fun j hj => HFR.out j hj) ho hk3 (fun k hk => hk) HAP.out.2) hb HB2.out.old (AllSup.app HB2.out.sup (single (gen_sup hi)))⟩; have c23 : w3.cell? ⟨g, 2, none⟩ = some (.slice A hs.length c) := (by simp only [World.cell?, hblk3]; rfl); have f23 : w3.frozen? ⟨g, 2, none⟩ = false := (by simp [World.frozen?, hblk3]); clear ho hb hg hat hk3 hblk3 hm3 hlc3)  | (go_at_call 100; (with_reducible refine (f100_any _ HB3.out hn1 hn (by omega) (by simp; omega)).mono ?_); rintro e w5 ⟨rfl, p5, v5, hs5, Ps5, hB5, hT5⟩))
 go_end0
 exact ⟨rfl, p5, v5, hs5, Ps5, hB5, hT5⟩
/-- The first j factors are turned. -/
def turnTo (n j : Nat) (Ps : List Pm) : List Pm := (Ps.take j).map (tau n) ++ Ps.drop j
theorem turnTo_at {n j : Nat} {Ps : List Pm} (hj : j < Ps.length) : (turnTo n j Ps)[j]? = some Ps[j] := by
 unfold turnTo
 rw [List.getElem?_append_right (by simp; omega)]
 simp [List.getElem?_eq_getElem hj, Nat.min_eq_left (Nat.le_of_lt hj)]
theorem turnTo_set {n j : Nat} {Ps : List Pm} (hj : j < Ps.length) : (turnTo n j Ps).set j (tau n Ps[j]) = turnTo n (j + 1) Ps := by
 unfold turnTo
 rw [List.set_append_right _ _ (by simp; omega)]
 have h1 : j - ((Ps.take j).map (tau n)).length = 0 := by simp; omega
 rw [h1, List.drop_eq_getElem_cons hj, List.set_cons_zero, List.take_succ_eq_append_getElem hj, List.map_append, List.append_assoc]
 rfl
theorem turnTo_all {n j : Nat} {Ps : List Pm} (hj : Ps.length ≤ j) : turnTo n j Ps = Ps.map (tau n) := by unfold turnTo; rw [List.take_of_length_le hj, List.drop_of_length_le hj, List.append_nil]
/-- One header is another one now. -/
theorem Brd.swap {w0 w : World} {g n : Nat} {p : Int} {hs : List (Nat × Nat)} {Ps : List Pm} {gh o m c : Nat} (h : Brd w0 g n w p (.slice (some ⟨gh, o, none⟩) m c) hs Ps) {j : Nat} (hj : j < hs.length) {b' c' B : Nat} {ok : Nat → Prop} {t : Pm} (hB : w0.heap.size ≤ B) (hr : Kd.R (Kd.int .i64) 3 w B ok (.slice (some ⟨b', 0, none⟩) n c') (lst n t)) (hs' : Sup n t)
  (hne : ∀ i (hi : i < hs.length), hs[i].1 ≠ b') : Brd w0 g n (w.setCell ⟨gh, o + j, none⟩ (.slice (some ⟨b', 0, none⟩) n c')) p (.slice (some ⟨gh, o, none⟩) m c) (hs.set j (b', c')) (Ps.set j t) := by
 have hm := (Kd.Q_reads' h.fac.top).1
 have hap := row_apart h hr
 have hgg : gh ≠ g := fun e => h.g_top (by rw [e]; rfl)
 obtain ⟨hq, hgr⟩ := Kd.Q_putg h.fac.top (j : Int) (by omega) (by omega) (b', c')
 rw [Int.toNat_natCast] at hq hgr
 have hk : Kept w (w.setCell ⟨gh, o + j, none⟩ (.slice (some ⟨b', 0, none⟩) n c')) (fun k => k = gh) := Kept.setCell (S := fun k => k = gh) (Kept.refl w _) (p := ⟨gh, o + j, none⟩) (.inl rfl) _
 have hgB : w0.heap.size ≤ gh := by
  obtain ⟨g2, o2, c2, hv, hb, _⟩ := Kd.Q_form h.fac.top (by omega)
  injection hv with hA
  injection hA with hA
  injection hA with hA
  omega
 refine ⟨blk_kept h.blk hk (fun e => hgg e.symm), ?_, below_set h.bel hgB, h.old, ?_⟩
 ·rw [List.map_set]
  exact Fac.swap h.fac hj (h0 := (b', c')) (Kd.R_lower hr hB) hne hq hk (fun k hk => by rw [hk]; rfl) hap.2
 ·intro u hu
  rcases List.mem_or_eq_of_mem_set hu with h1 | h1
  ·exact h.sup u h1
  ·rw [h1]; exact hs'
set_option maxRecDepth 100000 in
set_option maxHeartbeats 8000000 in
theorem f83_neg {w0 : World} {g n : Nat} {p : Int} {v : Value} {hs : List (Nat × Nat)} {Ps : List Pm} (w : World) (h : Brd w0 g n w p v hs Ps) (hn1 : 2 ≤ n) (hn : n ≤ 1000) {i : Nat} (hi : i + 1 < n) (hp : -900000 ≤ p) (hpl : p + Ps.length ≤ 900000) :
  Calls Try.prog 83 #[.pointer (some ⟨g, 0, none⟩), .int .i64 (-(i : Int) - 1)] w fun e w' => e = .returned (.tuple #[]) ∧ ∃ p' v' hs' Ps', Brd w0 g n w' p' v' hs' Ps' ∧ TidyR n (p - 1) (Ps.map (tau n) ++ [ung n i]) p' Ps' := by
 obtain ⟨A, c, rfl, hlc⟩ := Kd.Q_slice h.fac.top
 have c0 := h.c0
 have c1 := h.c1
 have f1 := h.fz 1
 have HLM : Aside0 (hs.length ≤ 3000000) := ⟨by have := h.len; omega⟩
 have HLQ := Aside0.mk h.len
 have hl3 : (hs.length : Int) ≤ 3000000 := by have := h.len; omega
 have HSP := Aside0.mk h.sup
 have hii : -(-(i : Int) - 1) - 1 = (i : Int) := by omega
 have HB := Aside0.mk h
 clear h
 go_enter Try.func83, Try.ntmps83
 go_upto_region 3 with (go_at_call 92; (with_reducible refine (identity_row n (by omega) hn _).mono ?_); rintro e w1 ⟨b1, d1, rfl, hR1, hb1⟩; have HB1 := Aside0.mk (HB.out.below hb1); have c11 := HB1.out.c1; have f11 := HB1.out.fz 1; have c21 := HB1.out.c2; have HB1p := Aside0.mk (HB1.out.setp (p - 1)); clear hR1 hb1)
 generalize w1.setCell ⟨g, 1, none⟩ (.int .i64 (p - 1)) = w2 at HB1p ⊢
 have c22 := HB1p.out.c2
 clear c11 f11 c21 HB1 c0 c1 f1 HB
 go_wp2
 rw [show decide (-(i : Int) - 1 < 0) = true from decide_eq_true (by omega)]
 go_loopg [26] hs.length (fun kq s26 wr => ∃ (j : Nat) (hsj : List (Nat × Nat)), s26 = .int .i64 j ∧ j ≤ hs.length ∧ hs.length - j ≤ kq ∧ Aside0 (Brd w0 g n wr (p - 1) (.slice A hs.length c) hsj (turnTo n j Ps)))
 case atStart => exact ⟨0, hs, rfl, Nat.zero_le _, by omega, ⟨by have h := HB1p.out; unfold turnTo; exact h⟩⟩
 case round =>
  clear HB1p c22
  obtain ⟨j, hsj, rfl, hj, hgg, HB⟩ := hrel
  have HLJ := Aside0.mk (Kd.Q_reads' HB.out.fac.top).1
  by_cases hlt : j < hs.length
  ·have hjj : j < hsj.length := by rw [← HLJ.out]; exact hlt
   have hjP : j < Ps.length := by rw [← HLQ.out]; exact hlt
   obtain ⟨gh, o, cap, hv, _⟩ := Kd.Q_form HB.out.fac.top (by omega)
   injection hv with hA hlen2 hcap
   subst hA; subst hcap
   clear hlen2
   obtain ⟨t, ht⟩ : ∃ t, Ps[j]'hjP = t := ⟨_, rfl⟩
   have hts : Sup n t := by rw [← ht]; exact HSP.out _ (List.getElem_mem hjP)
   have hrow := HB.out.fac.row j hjj
   have hget : ((turnTo n j Ps).map (lst n)).getD j [] = lst n t := by rw [List.getD_eq_getElem?_getD, List.getElem?_map, turnTo_at hjP, ht]; rfl
   rw [hget] at hrow
   have kc := HB.out.cell hjj
   have kf := (Kd.Q_cell (0, 0) HB.out.fac.top (j : Int) (by omega) (by omega)).2
   rw [Int.toNat_natCast] at kf
   obtain ⟨hb, hbe⟩ : ∃ hb, hsj[j]'hjj = hb := ⟨_, rfl⟩
   rw [hbe] at kc hrow
   unfold encH at kc hrow
   have hrow2 := Kd.R_drewN hrow 1
   have h99 := turned_row (w := wr.drew) hrow2 hts (by omega) hn
   have c2 := HB.out.c2
   have HB8 := Aside0.mk (HB.out.below (pw_below_drewN (Below.refl _ _) 1))
   have hjx : (j : Int) < (hs.length : Int) := by omega
   have hj0 : (0 : Int) ≤ (j : Int) := by omega
   have HTS := Aside0.mk hts
   have HTT := Aside0.mk ht
   have HBE := Aside0.mk hbe
   clear hrow hrow2 hget hts ht hbe
   have hS : (wr.drewN 1).cell? ⟨g, 2, none⟩ = some (.slice (some ⟨gh, o, none⟩) hs.length c) ∧ (wr.drewN 1).cell? ⟨gh, o + j, none⟩ = some (.slice (some ⟨hb.1, 0, none⟩) n hb.2) ∧ (wr.drewN 1).frozen? ⟨gh, o + j, none⟩ = false := ⟨c2, kc, kf⟩
   go_upto_region 6 with fail
   refine wp_region_T 8 (fun w' => w'.cell? ⟨g, 2, none⟩ = some (.slice (some ⟨gh, o, none⟩) hs.length c) ∧ w'.cell? ⟨gh, o + j, none⟩ = some (.slice (some ⟨hb.1, 0, none⟩) n hb.2) ∧ w'.frozen? ⟨gh, o + j, none⟩ = false) (by kernel_rfl) ?_
   refine tk 0 ?_
   refine tk 1 ?_
   refine tk 2 ?_
   refine tk 3 ?_
   refine tk 4 ?_
   refine tk 5 ?_
   refine wpAnyT_one (i := 6) (by kernel_rfl) rfl (fun K hK => ?_)
   go_wp2_with (go_at_call 99; (with_reducible refine h99.mono ?_); rintro e w5 ⟨b5, d5, rfl, hR5, hb5⟩)
   have HB5 := Aside0.mk (HB8.out.below hb5)
   have HR5 := Aside0.mk hR5
   have HFR : Aside0 (∀ q (hq : q < hsj.length), hsj[q].1 ≠ b5) := ⟨fun q hq e => by have h1 := (HB8.out.fac.lt hq).1; have h2 : (wr.drewN 1).heap.size ≤ b5 := (R_lt1 HR5.out).2; omega⟩
   have HLE : Aside0 (w0.heap.size ≤ (wr.drewN 1).heap.size) := ⟨HB8.out.bel.size⟩
   have k5 := HB5.out.cell hjj
   rw [HBE.out] at k5
   unfold encH at k5
   have f5 := (Kd.Q_cell (0, 0) HB5.out.fac.top (j : Int) (by omega) (by omega)).2
   rw [Int.toNat_natCast] at f5
   have c5 := HB5.out.c2
   clear hR5 hb5
   refine hK _ _ (fun _ => ?_) ?_
   ·exact ⟨c5, k5, f5⟩
   clear hK K
   (try simp only [Act.put, List.setIfInBounds_toArray, List.set_cons_zero, List.set_cons_succ])
   have hS2 := And.intro c5 (And.intro k5 f5)
   refine tk 7 ?_
   refine wpAnyT_one (i := 8) (by kernel_rfl) rfl (fun K hK => ?_)
   go_wp2
   refine hK _ _ (fun h => absurd rfl h) ?_
   clear hK K
   (try simp only [Act.put, List.setIfInBounds_toArray, List.set_cons_zero, List.set_cons_succ])
   refine wpAnyT_done (by kernel_rfl) ?_ _
   go_wp2
   go_roundg (hs.length - (j + 1))
   case measure => omega
   case rel =>
    refine ⟨j + 1, hsj.set j (b5, d5), by go_num, by omega, Nat.le_refl _, ⟨?_⟩⟩
    have h := HB5.out.swap hjj HLE.out HR5.out (tau_sup HTS.out) HFR.out
    rw [← HTT.out, turnTo_set hjP] at h
    exact h
  ·have hje : Ps.length ≤ j := by rw [← HLQ.out]; omega
   have HBZ := Aside0.mk HB.out
   rw [turnTo_all hje] at HBZ
   clear HB hje
   have c0 := HBZ.out.c0
   have HLM2 : Aside0 (hsj.length ≤ 3000000) := ⟨by have := HLJ.out; have := HLM.out; omega⟩
   clear HLM
   have HLM := HLM2
   clear HLM2
   go_wp2_with (first | (go_at_call 78; (with_reducible refine (twist_row n (by omega) hn _).mono ?_); rintro e w5 ⟨b5, d5, rfl, hR5, hb5⟩; have HR5 := Aside0.mk hR5; have HB5 := Aside0.mk (HBZ.out.below hb5); have HFR : Aside0 (∀ j (hj : j < hsj.length), hsj[j].1 ≠ b5) := ⟨fun j hj e => by have h1 := (HBZ.out.fac.lt hj).1; have h2 := (R_lt1 HR5.out).2; omega⟩; clear hR5 hb5)  | (go_at_call 93; (with_reducible refine (behind_row (w0 := w0) HB5.out.bel (Kd.R_lower HR5.out HBZ.out.bel.size) (sup_half n) hn hi).mono ?_); rintro e w2 ⟨rfl, hR2, hb2, hk2⟩; have HR2 := Aside0.mk hR2; have HAP := Aside0.mk (row_apart HB5.out HR5.out); have HB2 := Aside0.mk (HB5.out.kept hk2 (fun e => HAP.out.1 e.symm) (fun k hk e => HAP.out.2 (by rw [e, hk])) (fun k hk j hj e => HFR.out j hj (by rw [e, hk])) hb2); have c22 := HB2.out.c2; clear hR2 hb2 hk2)  | ((with_reducible refine gate_builtin (b := .append) (xs := #[.tmp 56, .tmp 58]) rfl ?_); at_builtin; refine Kd.Q_append (hd n) (w0 := w0) w0.heap.size rfl (.tmp 56) (.tmp 58) 83 86 (.slice none 0 0) 24 rfl Try.underlying83 info86 rfl Nat.one_pos (by omega) (.slice A hs.length c) hsj (b5, d5) [encH n (b5, d5)] (fun _ => True) (fun _ => False) rfl rfl rfl (fun _ hk => hk.elim) (fun _ _ => trivial) HB2.out.fac.top HB2.out.bel HB2.out.bel.size (by have := HLM.out; omega) ?_; intro v3 w3 ho hb hg hat; obtain ⟨A3, c3, hv3, hlc3⟩ := Kd.Q_slice ho; obtain ⟨m3, hm3⟩ : ∃ m3, (hsj ++ [(b5, d5)]).length = m3 := ⟨_, rfl⟩; rw [hm3] at hv3; subst hv3; have hk3 : Kept w2 w3 (fun k => some k = (Value.slice A hs.length c).ownBlock) := Kept.of_grown hg (Kept.refl _ _) (fun k hk => .inl hk.symm); have hblk3 := blk_kept HB2.out.blk hk3 (fun e => HB2.out.g_top e.symm); have HB3 : Aside0 (Brd w0 g n (w3.setCell ⟨g, 2, none⟩ (.slice A3 m3 c3)) (p - 1) (.slice A3 m3 c3) (hsj ++ [(b5, d5)]) (Ps.map (tau n) ++ [ung n i])) := ⟨Brd.put hblk3 (by rw [List.map_append]; exact Fac.snoc HB2.out.fac (h0 := (b5, d5)) HR2.out (fun j hj => HFR.out j hj) ho hk3 (fun k hk => hk) HAP.out.2) hb HB2.out.old (AllSup.app HB2.out.sup (single (ung_sup hi)))⟩; have c23 : w3.cell? ⟨g, 2, none⟩ = some (.slice A hs.length c) := (by simp only [World.cell?, hblk3]; rfl); have f23 : w3.frozen? ⟨g, 2, none⟩ = false := (by simp [World.frozen?, hblk3]); clear ho hb hg hat hk3 hblk3 hm3 hlc3)  | (go_at_call 100; (with_reducible refine (f100_any _ HB3.out hn1 hn (by omega) (by simp; omega)).mono ?_); rintro e w5 ⟨rfl, p5, v5, hs5, Ps5, hB5, hT5⟩))
   go_end0
   exact ⟨rfl, p5, v5, hs5, Ps5, hB5, hT5⟩
end Go.Proofs.Ytdldfdcedjmneaa.Own
namespace Go.Proofs.Ytdldfdcedjmneaa.Own
open Go.RowKit Go.Proofs.YtdldfdcedjmneaaW.PrintWords Go.Proofs.YtdldfdcedjmneaaW.PrintLast Go.Proofs.YtdldfdcedjmneaaW.PrintMore Go.Proofs.Ytdldfdcedjmneaa.Pb Go.Proofs.Ytdldfdcedjmneaa.Br
set_option linter.unusedVariables false
set_option linter.unusedSimpArgs false
theorem rawStep_pos (n : Nat) (p : Int) (Ps : List Pm) (i : Nat) : rawStep n (p, Ps) ((i : Int) + 1) = (p, Ps ++ [gen i]) := by
 unfold rawStep
 rw [if_pos (by omega)]
 have : ((i : Int) + 1).toNat - 1 = i := by omega
 rw [this]
theorem rawStep_neg (n : Nat) (p : Int) (Ps : List Pm) (i : Nat) : rawStep n (p, Ps) (-(i : Int) - 1) = (p - 1, Ps.map (tau n) ++ [ung n i]) := by
 unfold rawStep
 rw [if_neg (by omega)]
 have : (-(-(i : Int) - 1)).toNat - 1 = i := by omega
 rw [this]
theorem letter_cases {n : Nat} {k : Int} (h : Letter n k) : ∃ i : Nat, i + 1 < n ∧ (k = (i : Int) + 1 ∨ k = -(i : Int) - 1) := by
 obtain ⟨h0, h1, h2⟩ := h
 by_cases hp : 0 < k
 ·exact ⟨k.toNat - 1, by omega, .inl (by omega)⟩
 ·exact ⟨(-k).toNat - 1, by omega, .inr (by omega)⟩
theorem f83_any {w0 : World} {g n : Nat} {p : Int} {v : Value} {hs : List (Nat × Nat)} {Ps : List Pm} (w : World) (h : Brd w0 g n w p v hs Ps) (hn1 : 2 ≤ n) (hn : n ≤ 1000) {k : Int} (hk : Letter n k) (hp : -900000 ≤ p) (hpl : p + Ps.length ≤ 900000) :
  Calls Try.prog 83 #[.pointer (some ⟨g, 0, none⟩), .int .i64 k] w fun e w' => e = .returned (.tuple #[]) ∧ ∃ p' v' hs' Ps', Brd w0 g n w' p' v' hs' Ps' ∧ Nf n (rawStep n (p, Ps) k).1 (rawStep n (p, Ps) k).2 p' Ps' ∧ p - 1 ≤ p' ∧ p' + Ps'.length ≤ p + Ps.length + 1 := by
 obtain ⟨i, hi, hk2⟩ := letter_cases hk
 rcases hk2 with rfl | rfl
 ·refine (f83_pos w h hn1 hn hi hp hpl).mono ?_
  rintro e w' ⟨h1, p', v', hs', Ps', hB, hT⟩
  have h3 := hT.le
  have h4 := hT.up
  rw [List.length_append, List.length_singleton] at h3
  rw [rawStep_pos]
  exact ⟨h1, p', v', hs', Ps', hB, hT.nf, by omega, by omega⟩
 ·refine (f83_neg w h hn1 hn hi hp hpl).mono ?_
  rintro e w' ⟨h1, p', v', hs', Ps', hB, hT⟩
  have h3 := hT.le
  have h4 := hT.up
  rw [List.length_append, List.length_singleton, List.length_map] at h3
  rw [rawStep_neg]
  exact ⟨h1, p', v', hs', Ps', hB, hT.nf, by omega, by omega⟩
theorem nf_step {n : Nat} (hn1 : 2 ≤ n) {x : Int × List Pm} {p p' : Int} {Ps Ps' : List Pm} {k : Int} (hk : Letter n k) (h : Nf n x.1 x.2 p Ps) (h2 : Nf n (rawStep n (p, Ps) k).1 (rawStep n (p, Ps) k).2 p' Ps') : Nf n (rawStep n x k).1 (rawStep n x k).2 p' Ps' := by
 obtain ⟨q, m, h3, h4⟩ := raw_seq hn1 hk (Nf.seq h)
 obtain ⟨e1, e2⟩ := Nf.uniq hn1 h2 h4
 rw [e1, e2]
 exact h3
/-- What normal makes. -/
structure NormR (n : Nat) (xs : List Int) (p : Int) (Ps : List Pm) : Prop where
  nf : Nf n (rawW n (0, []) xs).1 (rawW n (0, []) xs).2 p Ps
  lo : -(xs.length : Int) ≤ p
  hi : p + Ps.length ≤ xs.length
theorem NormR.nil (n : Nat) : NormR n [] 0 [] := ⟨⟨⟨0, Eqv.refl AllSup.nil, by rfl⟩, fun l' h => (by cases h), by simp⟩, by simp, by simp⟩
theorem NormR.snoc {n : Nat} (hn1 : 2 ≤ n) {xs : List Int} {p p' : Int} {Ps Ps' : List Pm} {k : Int} (hk : Letter n k) (h : NormR n xs p Ps) (h2 : Nf n (rawStep n (p, Ps) k).1 (rawStep n (p, Ps) k).2 p' Ps') (hlo : p - 1 ≤ p') (hhi : p' + Ps'.length ≤ p + Ps.length + 1) : NormR n (xs ++ [k]) p' Ps' := by
 refine ⟨?_, by rw [List.length_append, List.length_singleton]; have := h.lo; omega, by rw [List.length_append, List.length_singleton]; have := h.hi; omega⟩
 rw [rawW_app]
 exact nf_step hn1 hk h.nf h2
set_option maxRecDepth 100000 in
set_option maxHeartbeats 4000000 in
theorem f53_any (n : Nat) (A : Option Addr) (c : Nat) (xs : List Int) (w : World) (hr : Kd.C (Kd.int .i64) w A xs.length xs) (hn1 : 2 ≤ n) (hn : n ≤ 1000) (hl : xs.length ≤ 100000) (hw : Word n xs) :
  Calls Try.prog 53 #[.int .i64 n, .slice A xs.length c] w fun e w' => e = .returned (.pointer (some ⟨w.heap.size, 0, none⟩)) ∧ ∃ p v hs Ps, Brd w w.heap.size n w' p v hs Ps ∧ NormR n xs p Ps := by
 have HR := Aside0.mk hr
 have HW := Aside0.mk hw
 have HB0 : Aside0 (Brd w w.heap.size n (w.alloc (.cells #[.int .i64 n, .int .i64 0, .slice none 0 0] 85)) 0 (.slice none 0 0) [] []) :=
  ⟨heap_alloc_new w _, Fac.nil _ _ _, below_alloc (Below.refl _ _) _, Nat.le_refl _, AllSup.nil⟩
 clear hr hw
 go_enter Try.func53, Try.ntmps53
 go_wp2
 go_loopg [13] xs.length (fun kq s13 wr => ∃ (j : Nat) (p : Int) (v : Value) (hs : List (Nat × Nat)) (Ps : List Pm), s13 = .int .i64 j ∧ j ≤ xs.length ∧ xs.length - j ≤ kq ∧ Aside0 (Brd w w.heap.size n wr p v hs Ps) ∧ Aside0 (NormR n (xs.take j) p Ps))
 case atStart => exact ⟨0, 0, _, [], [], rfl, Nat.zero_le _, by omega, HB0, ⟨by rw [List.take_zero]; exact NormR.nil n⟩⟩
 case round =>
  clear HB0
  obtain ⟨j, p, v, hs, Ps, rfl, hj, hgg, HB, HN⟩ := hrel
  by_cases hlt : j < xs.length
  ·have hrw := Kd.C_below HR.out HB.out.bel
   obtain ⟨ad, rfl, hcw⟩ := Kd.at_int hrw (j : Int) (by omega) (by omega)
   rw [Int.toNat_natCast] at hcw
   obtain ⟨x, hx⟩ : ∃ x, xs[j] = x := ⟨_, rfl⟩
   have hrd : rd xs (j : Int) = x := by unfold rd; rw [Int.toNat_natCast, List.getD_eq_getElem?_getD, List.getElem?_eq_getElem hlt]; exact hx
   rw [hrd] at hcw
   have hxl : Letter n x := by rw [← hx]; exact HW.out _ (List.getElem_mem hlt)
   have hlen : (xs.take j).length = j := by rw [List.length_take]; omega
   have h83 := f83_any wr HB.out hn1 hn hxl (by have := HN.out.lo; rw [hlen] at this; omega) (by have := HN.out.hi; rw [hlen] at this; omega)
   have hix : (j : Int) < (xs.length : Int) := by omega
   have hi0 : (0 : Int) ≤ (j : Int) := by omega
   have HX := Aside0.mk hx
   have HXL := Aside0.mk hxl
   clear hrw hx hrd hxl hlen
   go_wp2_with (go_at_call 83; (with_reducible refine h83.mono ?_); rintro e w' ⟨rfl, p2, v2, hs2, Ps2, hB2, hN2, hlo, hhi⟩)
   go_roundg (xs.length - (j + 1))
   case measure => omega
   case rel =>
    refine ⟨j + 1, p2, v2, hs2, Ps2, by go_num, by omega, Nat.le_refl _, ⟨hB2⟩, ⟨?_⟩⟩
    rw [List.take_succ_eq_append_getElem hlt, HX.out]
    exact HN.out.snoc hn1 HXL.out hN2 hlo hhi
  ·have HN2 : Aside0 (NormR n xs p Ps) := ⟨by have h := HN.out; rw [List.take_of_length_le (by omega)] at h; exact h⟩
   go_wp2
   go_ret
   exact ⟨rfl, p, v, hs, Ps, HB.out, HN2.out⟩
end Go.Proofs.Ytdldfdcedjmneaa.Own
namespace Go.Proofs.Ytdldfdcedjmneaa.Own
open Go.RowKit Go.Proofs.YtdldfdcedjmneaaW.PrintWords Go.Proofs.YtdldfdcedjmneaaW.PrintLast Go.Proofs.YtdldfdcedjmneaaW.PrintMore Go.Proofs.Ytdldfdcedjmneaa.Pb Go.Proofs.Ytdldfdcedjmneaa.Br
set_option linter.unusedVariables false
set_option linter.unusedSimpArgs false
theorem norm_ex (n : Nat) (xs : List Int) : ∃ r : Int × List Pm, Word n xs → Nf n (rawW n (0, []) xs).1 (rawW n (0, []) xs).2 r.1 r.2 := by
 by_cases h : Word n xs
 ·obtain ⟨q, m, h2⟩ := Nf.exists (n := n) (rawW n (0, []) xs).1 (rawW_sup (x := (0, [])) h AllSup.nil)
  exact ⟨(q, m), fun _ => h2⟩
 ·exact ⟨(0, []), fun h2 => absurd h2 h⟩
/-- The normal form of a word. -/
noncomputable def normF (n : Nat) (xs : List Int) : Int × List Pm := Classical.choose (norm_ex n xs)
theorem normF_nf {n : Nat} {xs : List Int} (h : Word n xs) : Nf n (rawW n (0, []) xs).1 (rawW n (0, []) xs).2 (normF n xs).1 (normF n xs).2 := Classical.choose_spec (norm_ex n xs) h
theorem normF_eq {n : Nat} {xs : List Int} (hn1 : 2 ≤ n) (h : Word n xs) {p : Int} {Ps : List Pm} (k : Nf n (rawW n (0, []) xs).1 (rawW n (0, []) xs).2 p Ps) : normF n xs = (p, Ps) := by
  obtain ⟨e1, e2⟩ := Nf.uniq hn1 (normF_nf h) k
  exact Prod.ext e1 e2
/-- The same as numbers. -/
noncomputable def normL (n : Nat) (xs : List Int) : Int × List (List Int) := ((normF n xs).1, (normF n xs).2.map (lst n))
theorem normL_eq {n : Nat} {xs : List Int} (hn1 : 2 ≤ n) (h : Word n xs) {p : Int} {Ps : List Pm} (k : Nf n (rawW n (0, []) xs).1 (rawW n (0, []) xs).2 p Ps) : normL n xs = (p, Ps.map (lst n)) := by
  unfold normL; rw [normF_eq hn1 h k]
theorem checkF_zero {n : Int} {xs : List Int} (h : checkF n xs = 0) : ∃ m : Nat, n = (m : Int) ∧ 2 ≤ m ∧ m ≤ 8 ∧ Word m xs ∧ xs.length ≤ 60 := by
 unfold checkF at h
 by_cases h1 : n < 2 ∨ 8 < n
 ·rw [if_pos h1] at h; cases h
 ·rw [if_neg h1] at h
  by_cases h2 : xs.any (badL n) = true
  ·rw [if_pos h2] at h; cases h
  ·rw [if_neg h2] at h
   by_cases h3 : 60 < xs.length
   ·rw [if_pos h3] at h; cases h
   ·refine ⟨n.toNat, by omega, by omega, by omega, fun k hk => ?_, by omega⟩
    have h4 : badL n k = false := by
     cases hb : badL n k with
     | false => rfl
     | true => exact absurd (List.any_eq_true.2 ⟨k, hk, hb⟩) h2
    unfold badL at h4
    have h5 := of_decide_eq_false h4
    exact ⟨by omega, by omega, by omega⟩
noncomputable def strap_Equal.f (a0 : Int) (l1 l2 : List Int) : Option (Bool × Int) :=
  some (if checkF a0 l1 ≠ 0 then (false, checkF a0 l1) else if checkF a0 l2 ≠ 0 then (false, checkF a0 l2) else (decide (normL a0.toNat l1 = normL a0.toNat l2), 0))
theorem list_eq_of {L1 L2 : List (List Int)} {i : Nat} (hl : L1.length = L2.length) (hi : L1.length ≤ i) (h : L1.take i = L2.take i) : L1 = L2 := by
  rwa [List.take_of_length_le hi, List.take_of_length_le (by omega)] at h
theorem list_take_s {L1 L2 : List (List Int)} {i : Nat} (h1 : i < L1.length) (h2 : i < L2.length) (h : L1.take i = L2.take i) (he : L1[i] = L2[i]) : L1.take (i + 1) = L2.take (i + 1) := by
  rw [List.take_succ_eq_append_getElem h1, List.take_succ_eq_append_getElem h2, h, he]
theorem Fac.cell {B n : Nat} {w : World} {hs : List (Nat × Nat)} {L : List (List Int)} {gh o m c : Nat} (h : Fac B n w (.slice (some ⟨gh, o, none⟩) m c) hs L) {i : Nat} (hi : i < hs.length) : w.cell? ⟨gh, o + i, none⟩ = some (encH n hs[i]) := by
 have hm := (Kd.Q_reads' h.top).1
 have k1 := (Kd.Q_cell (0, 0) h.top (i : Int) (by omega) (by omega)).1
 have r1 : rdOf (0, 0) hs (i : Int) = hs[i] := by unfold rdOf; rw [Int.toNat_natCast, List.getD_eq_getElem?_getD, List.getElem?_eq_getElem (by omega)]; rfl
 rw [r1, Int.toNat_natCast] at k1
 exact k1
set_option maxHeartbeats 4000000 in
theorem f59_any {B B2 n : Nat} {v1 v2 : Value} {hs1 hs2 : List (Nat × Nat)} {L1 L2 : List (List Int)} (w : World) (h1 : Fac B n w v1 hs1 L1) (h2 : Fac B2 n w v2 hs2 L2) (hn : n ≤ 1000) :
  Calls Try.prog 59 #[v1, v2, .func (.func 60) #[] #[]] w fun e w' => e = .returned (.bool (decide (L1 = L2))) ∧ Drawn0 w w' := by
 obtain ⟨A1, c1, rfl, hlc1⟩ := Kd.Q_slice h1.top
 obtain ⟨A2, c2, rfl, hlc2⟩ := Kd.Q_slice h2.top
 have hmx : hs1.length ≤ 9223372036854775807 := by obtain ⟨_, _, hq, _⟩ := h1.top; exact q_max hq
 have HF1 := Aside0.mk h1
 have HF2 := Aside0.mk h2
 by_cases hll : hs1.length = hs2.length
 ·obtain ⟨A2', hA⟩ : ∃ x, (Value.slice A2 hs1.length c2) = x := ⟨_, rfl⟩
  obtain ⟨m, hm⟩ : ∃ m, hs1.length = m := ⟨_, rfl⟩
  have hm2 : hs2.length = m := by rw [← hll, hm]
  rw [hm, hm2]
  have HM1 := Aside0.mk hm
  have HM2 := Aside0.mk hm2
  rw [hm] at HF1 hmx hlc1
  rw [hm2] at HF2 hlc2
  have HL : Aside0 (L1.length = L2.length) := ⟨by rw [← h1.len, ← h2.len, hll]⟩
  clear h1 h2 hll hm hm2 hA
  go_enter Try.func59, Try.ntmps59
  go_wp2
  go_loopg [17] m (fun kq s17 wr => ∃ i : Nat, s17 = .int .i64 i ∧ i ≤ m ∧ m - i ≤ kq ∧ Aside0 (∃ q, wr = w.drewN q) ∧ Aside0 (L1.take i = L2.take i))
  case atStart => exact ⟨0, rfl, Nat.zero_le _, by omega, ⟨⟨0, rfl⟩⟩, ⟨by simp⟩⟩
  case round =>
   obtain ⟨i, rfl, hi, hgg, HW, HP⟩ := hrel
   by_cases hlt : i < m
   ·have hF1 : Fac B n wr (.slice A1 m c1) hs1 L1 := by obtain ⟨q, rfl⟩ := HW.out; exact HF1.out.below (pw_below_drewN (Below.refl _ _) q)
    have hF2 : Fac B2 n wr (.slice A2 m c2) hs2 L2 := by obtain ⟨q, rfl⟩ := HW.out; exact HF2.out.below (pw_below_drewN (Below.refl _ _) q)
    have hi1 : i < hs1.length := by rw [HM1.out]; exact hlt
    have hi2 : i < hs2.length := by rw [HM2.out]; exact hlt
    obtain ⟨g1, o1, cap1, hv1, _⟩ := Kd.Q_form hF1.top (Nat.lt_of_le_of_lt (Nat.zero_le _) hi1)
    obtain ⟨g2, o2, cap2, hv2, _⟩ := Kd.Q_form hF2.top (Nat.lt_of_le_of_lt (Nat.zero_le _) hi2)
    injection hv1 with hA1 hlen1 hcap1
    injection hv2 with hA2 hlen2 hcap2
    subst hA1; subst hcap1; subst hA2; subst hcap2
    clear hlen1 hlen2
    have k1 := hF1.cell hi1
    have k2 := hF2.cell hi2
    have r1 := hF1.row i hi1
    have r2 := hF2.row i hi2
    obtain ⟨b1, hb1⟩ : ∃ b, hs1[i] = b := ⟨_, rfl⟩
    obtain ⟨b2, hb2⟩ : ∃ b, hs2[i] = b := ⟨_, rfl⟩
    rw [hb1] at k1 r1
    rw [hb2] at k2 r2
    unfold encH at k1 k2 r1 r2
    have hL1 : i < L1.length := by rw [← HF1.out.len]; exact hi1
    have hL2 : i < L2.length := by rw [← HF2.out.len]; exact hi2
    obtain ⟨x1, hx1⟩ : ∃ x, L1[i] = x := ⟨_, rfl⟩
    obtain ⟨x2, hx2⟩ : ∃ x, L2[i] = x := ⟨_, rfl⟩
    have g1x : L1.getD i [] = x1 := by rw [List.getD_eq_getElem?_getD, List.getElem?_eq_getElem hL1]; exact hx1
    have g2x : L2.getD i [] = x2 := by rw [List.getD_eq_getElem?_getD, List.getElem?_eq_getElem hL2]; exact hx2
    rw [g1x] at r1
    rw [g2x] at r2
    obtain ⟨e1, e2, hC1⟩ := Kd.R_reads' r1
    obtain ⟨e3, e4, hC2⟩ := Kd.R_reads' r2
    rw [← e1] at hC1
    rw [← e3] at hC2
    have h60 := f60_any _ b1.2 x1 _ b2.2 x2 n n wr hC1 e2 hC2 e4 hn
    have HX1 := Aside0.mk hx1
    have HX2 := Aside0.mk hx2
    have hix : (i : Int) < (m : Int) := by omega
    have hi0 : (0 : Int) ≤ (i : Int) := by omega
    clear hF1 hF2 r1 r2 hb1 hb2 g1x g2x e1 e3 hC1 hC2 hx1 hx2
    by_cases he : x1 = x2
    ·rw [decide_eq_true he] at h60
     have HE := Aside0.mk he
     clear he
     go_wp2_with (go_at_call 60; (with_reducible refine h60.mono ?_); rintro e w' ⟨rfl, ⟨m2, rfl⟩⟩)
     go_roundg (m - (i + 1))
     case measure => omega
     case rel => exact ⟨i + 1, by go_num, by omega, Nat.le_refl _, ⟨by obtain ⟨q, hq⟩ := HW.out; exact ⟨q + m2, by rw [hq, World.drewN_drewN]⟩⟩, ⟨list_take_s hL1 hL2 HP.out (by rw [HX1.out, HX2.out, HE.out])⟩⟩
    ·rw [decide_eq_false he] at h60
     have HE := Aside0.mk he
     clear he
     have HD : Aside0 (decide (L1 = L2) = false) := ⟨decide_eq_false (fun e => HE.out (by rw [← HX1.out, ← HX2.out]; simp only [e]))⟩
     go_wp2_with (go_at_call 60; (with_reducible refine h60.mono ?_); rintro e w' ⟨rfl, ⟨m2, rfl⟩⟩)
     go_ret
     refine ⟨ret_bool HD.out.symm, ?_⟩
     obtain ⟨q, hq⟩ := HW.out
     exact ⟨q + m2, by rw [hq, World.drewN_drewN]⟩
   ·have HD : Aside0 (decide (L1 = L2) = true) := ⟨decide_eq_true (list_eq_of HL.out (by rw [← HF1.out.len, HM1.out]; omega) HP.out)⟩
    go_wp2
    go_ret
    exact ⟨ret_bool HD.out.symm, ⟨HW.out⟩⟩
 ·have hd : decide (L1 = L2) = false := decide_eq_false (fun e => hll (by rw [h1.len, h2.len, e]))
  have HD := Aside0.mk hd
  have hb : ((hs1.length : Int) != (hs2.length : Int)) = true := by simp; omega
  clear h1 h2 hd
  go_enter Try.func59, Try.ntmps59
  go_wp2
  go_ret
  exact ⟨ret_bool HD.out.symm, ⟨0, rfl⟩⟩
end Go.Proofs.Ytdldfdcedjmneaa.Own

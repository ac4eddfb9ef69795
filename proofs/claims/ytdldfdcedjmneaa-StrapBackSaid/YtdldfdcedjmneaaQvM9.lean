/- The declarations of M9 that the claim Qv needs. -/
import Derived.Test.YtdldfdcedjmneaaQvLxx27
import Derived.Test.YtdldfdcedjmneaaQvM5
import Derived.Test.YtdldfdcedjmneaaQvM6
namespace Go.Proofs.Ytdldfdcedjmneaa.Pure
open Go.RowKit Go.Proofs.YtdldfdcedjmneaaW.PrintWords Go.Proofs.YtdldfdcedjmneaaW.PrintLast Go.Proofs.YtdldfdcedjmneaaW.PrintMore Go.Proofs.Ytdldfdcedjmneaa.Lx Go.Proofs.Ytdldfdcedjmneaa.Br
open Go.Proofs.Ytdldfdcedjmneaa.Own (lst lst_len lst_getD lst_rd lst_inj lst_of getD_set' wrap_s rd_nat checkF checkF_zero badL normF normL normF_nf normF_eq strap_Normal.f strap_Equal.f begins_eq ends_ev strap_clone.f)
open Go.Proofs.Ytdldfdcedjmneaa.Pb (strap_valid.f strap_valid.l0 strap_formed.f strap_formed.l0 strap_formed.l1 strap_formed.j1 strap_identity.f strap_twist.f strap_perm_is.f strap_perm_begins.f strap_perm_ends.f strap_Is.f slices_Reverse_int_int.f slices_Reverse_int_int.l0)
set_option linter.unusedVariables false
set_option linter.unusedSimpArgs false
section
variable {n : Nat} {t : Pm}
theorem pb_rd {L : List Pm} {i : Nat} (h : i < L.length) : Pb.rd_L1 (L.map (lst n)) (i : Int) = lst n L[i] := by
  unfold Pb.rd_L1
  rw [Int.toNat_natCast, List.getD_eq_getElem?_getD, List.getElem?_map, List.getElem?_eq_getElem h]; rfl
theorem valid_l0 (ht : Sup n t) (hn : n ≤ 1000) : ∀ (d i : Nat) (s : List Bool), i + d = n → s.length = n → (∀ y, y < n → (s.getD y false = true ↔ t.g y < i)) →
  Ev (fun k => strap_valid.l0 k (lst n t) (n : Int) s (lst n t) (n : Int) (i : Int)) true
 | 0, i, s, hd, hs, hv => by
  refine Ev.step (f := fun _ => some true) (fun k => ?_) (Ev.now _)
  simp only [strap_valid.l0]
  rw [if_neg (by omega), lst_len, beq_self_eq_true]
 | d + 1, i, s, hd, hs, hv => by
  have hi : i < n := by omega
  have hlt := ht.lt hi
  have hns : ¬ (s.getD (t.f i) false = true) := fun h => by
   have := (hv (t.f i) hlt).1 h
   rw [t.gf] at this; omega
  refine Ev.step (fun k => ?_) (valid_l0 ht hn d (i + 1) (s.set (t.f i) true) (by omega) (by rw [List.length_set, hs]) (fun y hy => ?_))
  ·simp only [strap_valid.l0]
   rw [if_pos (by omega), if_pos (by omega), if_pos (by rw [lst_len]; omega), lst_rd hi, if_neg (by omega), if_neg (by omega), if_pos (by omega), if_pos (by omega)]
   have e : rdOf false s ((t.f i : Nat) : Int) = s.getD (t.f i) false := by unfold rdOf; rw [Int.toNat_natCast]
   rw [e, if_neg hns, Int.toNat_natCast, wrap_s (by omega)]
  ·rw [List.getD_eq_getElem?_getD, List.getElem?_set]
   by_cases h1 : t.f i = y
   ·subst h1
    rw [if_pos rfl, if_pos (by omega)]
    constructor
    ·intro _; rw [t.gf]; omega
    ·intro _; rfl
   ·rw [if_neg h1, ← List.getD_eq_getElem?_getD, hv y hy]
    have : t.g y ≠ i := fun h => h1 (by rw [← h, t.fg])
    omega
theorem valid_ev (ht : Sup n t) (hn : n ≤ 1000) : Ev (fun k => strap_valid.f k (lst n t) (n : Int)) true := by
 unfold strap_valid.f
 refine Ev.congr (fun k => ?_) (valid_l0 ht hn n 0 (List.replicate n false) (by omega) (by simp) (fun y hy => by
  rw [List.getD_eq_getElem?_getD, List.getElem?_replicate, if_pos hy]
  constructor
  ·intro h; exact absurd h (by decide)
  ·intro h; omega))
 rw [if_pos (by omega), if_pos (by omega), Int.toNat_natCast, lst_len]; rfl
theorem formed_in {L : List Pm} (p : Int) (hr : Rgt n L) (hs : AllSup n L) (hn : n ≤ 1000) (hm : L.length ≤ 100000) {i : Nat} (hi : i < L.length)
    (hnext : Ev (fun k => strap_formed.l0 k (n : Int) (L.map (lst n)) (L.length : Int) ((i + 1 : Nat) : Int) p (L.map (lst n))) true) :
    ∀ (d j : Nat), j + d + 1 = n → Ev (fun k => strap_formed.l1 k (n : Int) (i : Int) (lst n L[i]) (L.map (lst n)) (L.length : Int) (i : Int) ((n : Int) - 1) (j : Int) p (L.map (lst n))) true := by
  intro d
  induction d with
  | zero =>
    intro j hj
    refine Ev.step (fun k => ?_) hnext
    simp only [strap_formed.l1]
    rw [if_neg (by omega), wrap_s (by omega)]
  | succ d ih =>
    intro j hj
    have hj1 : j + 1 < n := by omega
    by_cases h0 : i = 0
    · refine Ev.step (fun k => ?_) (ih (j + 1) (by omega))
      simp only [strap_formed.l1]
      rw [if_pos (by omega), if_neg (by omega), wrap_s (by omega)]
    · have hp : Sup n (L[i - 1]'(by omega)) := hs _ (List.getElem_mem (by omega))
      by_cases hb : L[i].B j
      · have he : (L[i - 1]'(by omega)).E j := by
          have h3 := rgt_adj hr (i - 1) (by omega) j hj1
          simp only [show i - 1 + 1 = i by omega] at h3
          exact h3 hb
        have hev := ends_ev hp hn hj1
        rw [decide_eq_true he] at hev
        refine Ev.step (f := fun k => (strap_perm_ends.f k (lst n (L[i - 1]'(by omega))) (j : Int)).bind fun t261 => (if t261 = true then (strap_formed.l1 k (n : Int) (i : Int) (lst n L[i]) (L.map (lst n)) (L.length : Int) (i : Int) ((n : Int) - 1) ((j + 1 : Nat) : Int) p (L.map (lst n))) else (some false))) (fun k => ?_) (Ev.bind hev ?_)
        · have e2 : wrap64 ((i : Int) - 1) = ((i - 1 : Nat) : Int) := by unfold wrap64; omega
          have g2 : (0 : Int) ≤ ((i - 1 : Nat) : Int) := by omega
          have g3 : ((i - 1 : Nat) : Int) < (L.length : Int) := by omega
          simp only [strap_formed.l1]
          rw [if_pos (by omega), if_pos (by omega), begins_eq hj1 hn, decide_eq_true hb, Option.bind_some, if_pos rfl, e2, List.length_map, if_pos g2, if_pos g3, pb_rd (by omega), wrap_s (by omega)]
        · simp only [if_true]
          exact ih (j + 1) (by omega)
      · refine Ev.step (fun k => ?_) (ih (j + 1) (by omega))
        simp only [strap_formed.l1]
        rw [if_pos (by omega), if_pos (by omega), begins_eq hj1 hn, decide_eq_false hb, Option.bind_some, if_neg (by decide), wrap_s (by omega)]
theorem formed_l0 {L : List Pm} (p : Int) (hr : Rgt n L) (hs : AllSup n L) (hh : L.head? ≠ some (half n)) (hn1 : 1 ≤ n) (hn : n ≤ 1000) (hm : L.length ≤ 100000) : ∀ (d i : Nat), i + d = L.length →
  Ev (fun k => strap_formed.l0 k (n : Int) (L.map (lst n)) (L.length : Int) (i : Int) p (L.map (lst n))) true := by
 intro d
 induction d with
 | zero =>
  intro i hi
  refine Ev.step (f := fun _ => some true) (fun k => ?_) (Ev.now _)
  simp only [strap_formed.l0]
  rw [if_neg (by omega)]
 | succ d ih =>
  intro i hi
  have hiL : i < L.length := by omega
  have ht : Sup n L[i] := hs _ (List.getElem_mem hiL)
  have s1 := Own.is_ev (lst n one) (lst n L[i]) (by rw [lst_len]; omega)
  have s2 := Own.is_ev (lst n (half n)) (lst n L[i]) (by rw [lst_len]; omega)
  rw [decide_eq_false (fun e => rgt_ne hr i hiL (lst_inj ht (sup_one n) e.symm))] at s1
  rw [decide_eq_false (fun e => rgt_half hr hs hh i hiL (lst_inj ht (sup_half n) e.symm))] at s2
  have hin := formed_in p hr hs hn hm hiL (ih (i + 1) (by omega)) (n - 1) 0 (by omega)
  have ew : wrap64 ((n : Int) - 1) = (n : Int) - 1 := by unfold wrap64; omega
  refine Ev.step (f := fun k => (strap_valid.f k (lst n L[i]) (n : Int)).bind fun t250 => (if t250 = true then ((strap_identity.f k (n : Int)).bind fun t251 => ((strap_perm_is.f k t251 (lst n L[i])).bind fun t254 => (if t254 = true then (strap_formed.j1 k (n : Int) (i : Int) (lst n L[i]) (L.map (lst n)) (L.length : Int) (i : Int) true p (L.map (lst n))) else ((strap_twist.f k (n : Int)).bind fun t255 => ((strap_perm_is.f k t255 (lst n L[i])).bind fun t258 => (strap_formed.j1 k (n : Int) (i : Int) (lst n L[i]) (L.map (lst n)) (L.length : Int) (i : Int) t258 p (L.map (lst n)))))))) else (strap_formed.j1 k (n : Int) (i : Int) (lst n L[i]) (L.map (lst n)) (L.length : Int) (i : Int) true p (L.map (lst n))))) (fun k => ?_) ?_
  ·simp only [strap_formed.l0]
   rw [if_pos (by omega), if_pos (by omega), List.length_map, if_pos (by omega), pb_rd hiL]
  ·refine Ev.bind (valid_ev ht hn) ?_
   simp only [if_true]
   refine Ev.bind (Own.identity_ev n hn) (Ev.bind s1 ?_)
   simp only [Bool.false_eq_true, if_false]
   refine Ev.bind (Own.twist_ev n hn1 hn) (Ev.bind s2 ?_)
   refine Ev.step (fun k => ?_) hin
   simp only [strap_formed.j1, Bool.false_eq_true, if_false]
   rw [ew]; rfl
theorem formed_ev {L : List Pm} (p : Int) (hr : Rgt n L) (hs : AllSup n L) (hh : L.head? ≠ some (half n)) (hn1 : 1 ≤ n) (hn : n ≤ 1000) (hm : L.length ≤ 100000) : Ev (fun k => strap_formed.f k (n : Int) p (L.map (lst n))) true := by
 unfold strap_formed.f
 rw [List.length_map]
 exact formed_l0 p hr hs hh hn1 hn hm L.length 0 (by omega)
end
end Go.Proofs.Ytdldfdcedjmneaa.Pure

/- The declarations of M92 that the claim Qi needs. -/
import Derived.Test.YtdldfdcedjmneaaQiTkP
import Derived.Test.YtdldfdcedjmneaaQiLxx0
import Derived.Test.YtdldfdcedjmneaaQiLxx2
import Derived.Test.YtdldfdcedjmneaaQiLxx1
import Derived.Test.YtdldfdcedjmneaaQiLxx25
import Derived.Test.YtdldfdcedjmneaaQiPbx8
import Derived.Test.YtdldfdcedjmneaaQiM5
import Derived.Test.YtdldfdcedjmneaaQiM6
import Derived.Test.YtdldfdcedjmneaaQiM4
import Derived.Test.YtdldfdcedjmneaaQiLxx26
import Derived.Deep.Matrix
import Derived.ChangeOld
import Derived.ProofKit
import Derived.OpenShut
namespace Go.Proofs.Ytdldfdcedjmneaa.Pure
open Go.RowKit Go.Proofs.YtdldfdcedjmneaaW.PrintWords Go.Proofs.YtdldfdcedjmneaaW.PrintLast Go.Proofs.YtdldfdcedjmneaaW.PrintMore Go.Proofs.Ytdldfdcedjmneaa.Lx Go.Proofs.Ytdldfdcedjmneaa.Br
open Go.Proofs.Ytdldfdcedjmneaa.Own (lst lst_len lst_getD lst_rd lst_inj lst_of getD_set' wrap_s rd_nat checkF checkF_zero badL normF normL normF_nf normF_eq strap_Normal.f strap_Equal.f begins_eq ends_ev strap_clone.f)
open Go.Proofs.Ytdldfdcedjmneaa.Pb (strap_formed.f strap_twist.f strap_perm_begins.f strap_Is.f slices_Reverse_int_int.f slices_Reverse_int_int.l0)
set_option linter.unusedVariables false
set_option linter.unusedSimpArgs false
section
variable {n : Nat} {t : Pm}
theorem rev_l0 {N : Nat} (hn : N ≤ 1000) (u : Nat → Int) : ∀ (d i : Nat) (l : List Int), i + d = (N + 1) / 2 → l.length = N → (∀ x, x < N → l.getD x 0 = if x < i ∨ N - i ≤ x then u (N - 1 - x) else u x) →
  ∃ R : List Int, R.length = N ∧ (∀ x, x < N → R.getD x 0 = u (N - 1 - x)) ∧ Ev (fun k => slices_Reverse_int_int.l0 k l (i : Int) (((N : Int) - 1) - (i : Int))) R
 | 0, i, l, hd, hl, hv => by
  refine ⟨l, hl, fun x hx => ?_, Ev.step (f := fun _ => some l) (fun k => by simp only [slices_Reverse_int_int.l0]; rw [if_neg (by omega)]) (Ev.now _)⟩
  rw [hv x hx, if_pos (by omega)]
 | d + 1, i, l, hd, hl, hv => by
  by_cases hlt : (i : Int) < ((N : Int) - 1) - (i : Int)
  ·have hj : ((N : Int) - 1) - (i : Int) = ((N - 1 - i : Nat) : Int) := by omega
   have e1 := hv i (by omega)
   have e2 := hv (N - 1 - i) (by omega)
   rw [if_neg (by omega)] at e1 e2
   obtain ⟨R, h1, h2, h3⟩ := rev_l0 hn u d (i + 1) ((l.set i (u (N - 1 - i))).set (N - 1 - i) (u i)) (by omega) (by rw [List.length_set, List.length_set, hl]) (fun x hx => by
    rw [getD_set', getD_set', List.length_set, hl]
    by_cases hx1 : N - 1 - i = x
    ·rw [if_pos ⟨hx1, hx⟩, if_pos (by omega)]; congr 1; omega
    ·rw [if_neg (fun h => hx1 h.1)]
     by_cases hx2 : i = x
     ·rw [if_pos ⟨hx2, hx⟩, if_pos (by omega), hx2]
     ·rw [if_neg (fun h => hx2 h.1), hv x hx]
      by_cases h : x < i ∨ N - i ≤ x
      ·rw [if_pos h, if_pos (by omega)]
      ·rw [if_neg h, if_neg (by omega)])
   refine ⟨R, h1, h2, Ev.step (fun k => ?_) h3⟩
   simp only [slices_Reverse_int_int.l0]
   rw [if_pos hlt, hj, if_pos (by omega), if_pos (by omega), if_pos (by omega), if_pos (by omega), rd_nat, rd_nat, e1, e2, Int.toNat_natCast, Int.toNat_natCast, wrap_s (by omega)]
   have e3 : wrap64 (((N - 1 - i : Nat) : Int) - 1) = (N : Int) - 1 - ((i + 1 : Nat) : Int) := by unfold wrap64; omega
   rw [e3]
  ·refine ⟨l, hl, fun x hx => ?_, Ev.step (f := fun _ => some l) (fun k => by simp only [slices_Reverse_int_int.l0]; rw [if_neg hlt]) (Ev.now _)⟩
   rw [hv x hx]
   by_cases h : x < i ∨ N - i ≤ x
   ·rw [if_pos h]
   ·rw [if_neg h]; congr 1; omega
theorem list_ext {a b : List Int} (hl : a.length = b.length) (h : ∀ x, x < a.length → a.getD x 0 = b.getD x 0) : a = b := by
 refine List.ext_getElem hl fun j h1 h2 => ?_
 have h3 := h j h1
 rw [List.getD_eq_getElem?_getD, List.getD_eq_getElem?_getD, List.getElem?_eq_getElem h1, List.getElem?_eq_getElem h2] at h3
 simpa using h3
theorem rev_ev {l : List Int} (hl : l.length ≤ 1000) : Ev (fun k => slices_Reverse_int_int.f k l) l.reverse := by
 obtain ⟨R, h1, h2, h3⟩ := rev_l0 (N := l.length) hl (fun x => l.getD x 0) ((l.length + 1) / 2) 0 l (by omega) rfl (fun x hx => by rw [if_neg (by omega)])
 have e : R = l.reverse := by
  refine list_ext (by rw [h1, List.length_reverse]) fun x hx => ?_
  rw [h2 x (by omega), List.getD_eq_getElem?_getD, List.getD_eq_getElem?_getD, List.getElem?_reverse (by omega)]
 rw [e] at h3
 unfold slices_Reverse_int_int.f
 refine Ev.congr (fun k => ?_) h3
 have ew : wrap64 ((l.length : Int) - 1) = (l.length : Int) - 1 - ((0 : Nat) : Int) := by unfold wrap64; omega
 rw [ew]; rfl
theorem neg_l0 {N : Nat} (hn : N ≤ 1000) {p : Int} {Ls : List (List Int)} {r : List Int × Int} (u : Nat → Int) (hu : ∀ x, x < N → -1000 ≤ u x ∧ u x ≤ 1000) {T : List Int} (hT : T.length = N) (hTv : ∀ x, x < N → T.getD x 0 = - u x) (hr : Ev (fun k => strap_Word.j3 k T p Ls) r) :
  ∀ (d i : Nat) (l : List Int), i + d = N → l.length = N → (∀ x, x < N → l.getD x 0 = if x < i then - u x else u x) → Ev (fun k => strap_Word.l0 k l (N : Int) (i : Int) p Ls) r
 | 0, i, l, hd, hl, hv => by
  have e : l = T := list_ext (by rw [hl, hT]) fun x hx => by rw [hv x (by omega), if_pos (by omega), hTv x (by omega)]
  subst e
  refine Ev.step (fun k => ?_) hr
  simp only [strap_Word.l0]
  rw [if_neg (by omega)]
 | d + 1, i, l, hd, hl, hv => by
  have hi : i < N := by omega
  have e1 := hv i hi
  rw [if_neg (by omega)] at e1
  have hb := hu i hi
  have e2 : wrap64 (-(u i)) = - u i := by unfold wrap64; omega
  refine Ev.step (fun k => ?_) (neg_l0 hn u hu hT hTv hr d (i + 1) (l.set i (- u i)) (by omega) (by rw [List.length_set, hl]) (fun x hx => ?_))
  ·simp only [strap_Word.l0]
   rw [if_pos (by omega), if_pos (by omega), if_pos (by omega), rd_nat, e1, e2, Int.toNat_natCast, wrap_s (by omega)]
  ·rw [getD_set', hl]
   by_cases h1 : i = x
   ·rw [if_pos ⟨h1, hx⟩, if_pos (by omega), h1]
   ·rw [if_neg (fun h => h1 h.1), hv x hx]
    by_cases h2 : x < i
    ·rw [if_pos h2, if_pos (by omega)]
    ·rw [if_neg h2, if_neg (by omega)]
end
end Go.Proofs.Ytdldfdcedjmneaa.Pure
namespace Go.Proofs.Ytdldfdcedjmneaa.Pure
open Go.RowKit Go.Proofs.YtdldfdcedjmneaaW.PrintWords Go.Proofs.YtdldfdcedjmneaaW.PrintLast Go.Proofs.YtdldfdcedjmneaaW.PrintMore Go.Proofs.Ytdldfdcedjmneaa.Lx Go.Proofs.Ytdldfdcedjmneaa.Br
open Go.Proofs.Ytdldfdcedjmneaa.Own (lst lst_len lst_getD lst_rd lst_inj lst_of getD_set' wrap_s rd_nat checkF checkF_zero badL normF normL normF_nf normF_eq strap_Normal.f strap_Equal.f)
open Go.Proofs.Ytdldfdcedjmneaa.Pb (strap_formed.f strap_twist.f strap_Is.f slices_Reverse_int_int.f)
set_option linter.unusedVariables false
set_option linter.unusedSimpArgs false
section
variable {n : Nat}
theorem rep_len {x : List Int} : ∀ a, (List.replicate a x).flatten.length = a * x.length
  | 0 => by simp
  | a + 1 => by rw [List.replicate_succ, List.flatten_cons, List.length_append, rep_len a, Nat.succ_mul]; omega
end
end Go.Proofs.Ytdldfdcedjmneaa.Pure
namespace Go.Proofs.Ytdldfdcedjmneaa.Pure
open Go.RowKit Go.Proofs.YtdldfdcedjmneaaW.PrintWords Go.Proofs.YtdldfdcedjmneaaW.PrintLast Go.Proofs.YtdldfdcedjmneaaW.PrintMore Go.Proofs.Ytdldfdcedjmneaa.Lx Go.Proofs.Ytdldfdcedjmneaa.Br
open Go.Proofs.Ytdldfdcedjmneaa.Own (lst lst_len lst_getD lst_rd lst_inj lst_of getD_set' wrap_s rd_nat begins_eq ends_ev)
open Go.Proofs.Ytdldfdcedjmneaa.Pb (strap_formed.f strap_formed.l0 strap_formed.j1 strap_formed.l1 strap_valid.f strap_valid.l0 strap_twist.f strap_identity.f strap_perm_is.f strap_perm_begins.f strap_perm_ends.f)
set_option linter.unusedVariables false
set_option linter.unusedSimpArgs false
theorem rdg {l : List Int} {i : Nat} (h : i < l.length) : rd l (i : Int) = l[i] := by rw [rd_nat, List.getD_eq_getElem?_getD, List.getElem?_eq_getElem h]; rfl
theorem in_eq (a b c : Int) : gampref05_in.f a b c = some (decide (b ≤ a ∧ a ≤ c)) := by
 unfold gampref05_in.f
 by_cases h : a ≥ b
 ·rw [if_pos h]
  have h' : b ≤ a := h
  simp [h']
 ·rw [if_neg h]
  have h' : ¬ b ≤ a := h
  simp [h']
def IsPerm (l : List Int) (n : Nat) : Prop := l.Nodup ∧ (∀ x ∈ l, 0 ≤ x ∧ x < (n : Int)) ∧ l.length = n
instance (l : List Int) (n : Nat) : Decidable (IsPerm l n) := by unfold IsPerm; exact inferInstance
theorem perm_l1 (l : List Int) (n : Nat) (hl : l.length ≤ 1000000) {i : Nat} (hi : i < l.length) {r : Bool} (hc : Ev (fun k => gampref05_Permutation.l0 k l (n : Int) ((i + 1 : Nat) : Int)) r) :
  ∀ (d j : Nat), j + d = i → Ev (fun k => gampref05_Permutation.l1 k l (n : Int) (i : Int) (j : Int)) (if l[i] ∈ (l.take i).drop j then false else r)
 | 0, j, hd => by
  have : j = i := by omega
  subst this
  rw [List.drop_of_length_le (by rw [List.length_take]; omega), if_neg (by simp)]
  exact Ev.step (fun k => by simp only [gampref05_Permutation.l1]; rw [if_neg (by omega), wrap_s (by omega)]) hc
 | d + 1, j, hd => by
  have hj : j < i := by omega
  have hjl : j < (l.take i).length := by rw [List.length_take]; omega
  rw [List.drop_eq_getElem_cons hjl, List.getElem_take]
  by_cases he : l[j] = l[i]
  ·rw [if_pos (by rw [he]; exact List.mem_cons_self)]
   refine Ev.step (f := fun _ => some false) (fun k => by simp only [gampref05_Permutation.l1]; rw [if_pos (by omega), if_pos (by omega), if_pos (by omega), if_pos (by omega), if_pos (by omega), rdg (by omega), rdg hi, if_pos he]) (Ev.now _)
  ·have ih := perm_l1 l n hl hi hc d (j + 1) (by omega)
   have e : (l[i] ∈ l[j] :: (l.take i).drop (j + 1)) ↔ l[i] ∈ (l.take i).drop (j + 1) := by
    rw [List.mem_cons]
    exact ⟨fun h => h.elim (fun h => absurd h.symm he) id, .inr⟩
   simp only [e]
   refine Ev.step (fun k => by simp only [gampref05_Permutation.l1]; rw [if_pos (by omega), if_pos (by omega), if_pos (by omega), if_pos (by omega), if_pos (by omega), rdg (by omega), rdg hi, if_neg he, wrap_s (by omega)]) ih
theorem perm_l0 (l : List Int) (n : Nat) (hl : l.length ≤ 1000000) (hn : n ≤ 1000000) : ∀ (d i : Nat), i + d = l.length → (l.take i).Nodup → (∀ x ∈ l.take i, 0 ≤ x ∧ x < (n : Int)) →
    Ev (fun k => gampref05_Permutation.l0 k l (n : Int) (i : Int)) (decide (IsPerm l n))
  | 0, i, hd, hnd, hr => by
    have hi : i = l.length := by omega
    subst hi
    rw [List.take_length] at hnd hr
    refine Ev.step (f := fun _ => some ((l.length : Int) == (n : Int))) (fun k => by simp only [gampref05_Permutation.l0]; rw [if_neg (by omega)]) ?_
    have : ((l.length : Int) == (n : Int)) = decide (IsPerm l n) := by
      rw [Bool.eq_iff_iff]
      simp only [beq_iff_eq, decide_eq_true_eq]
      exact ⟨fun h => ⟨hnd, hr, by omega⟩, fun h => by have := h.2.2; omega⟩
    rw [this]
    exact Ev.now _
  | d + 1, i, hd, hnd, hr => by
    have hi : i < l.length := by omega
    have hw : wrap64 ((n : Int) - 1) = (n : Int) - 1 := by unfold wrap64; omega
    have htk : l.take (i + 1) = l.take i ++ [l[i]] := List.take_succ_eq_append_getElem hi
    by_cases hin : 0 ≤ l[i] ∧ l[i] ≤ (n : Int) - 1
    · refine Ev.step (f := fun k => gampref05_Permutation.l1 k l (n : Int) (i : Int) ((0 : Nat) : Int)) (fun k => by
        simp only [gampref05_Permutation.l0]
        rw [if_pos (by omega), if_pos (by omega), rdg hi, in_eq, hw, Option.bind_some, decide_eq_true hin, if_pos rfl]; rfl) ?_
      by_cases hm : l[i] ∈ l.take i
      · have hno : ¬ IsPerm l n := fun h => by
          have h1 := h.1
          rw [← List.take_append_drop (i + 1) l, htk] at h1
          have h2 := (List.nodup_append.1 h1).1
          exact (List.nodup_append.1 h2).2.2 _ hm _ (by simp) rfl
        rw [decide_eq_false hno]
        -- what comes behind doesn't matter; it ends, too
        have : ∀ r, (if l[i] ∈ (l.take i).drop 0 then false else r) = false := fun r => by rw [List.drop_zero, if_pos hm]
        have go : ∀ (d j : Nat), j + d = i → l[i] ∈ (l.take i).drop j → Ev (fun k => gampref05_Permutation.l1 k l (n : Int) (i : Int) (j : Int)) false := by
          intro d
          induction d with
          | zero =>
            intro j hj hm
            rw [List.drop_of_length_le (by rw [List.length_take]; omega)] at hm
            cases hm
          | succ d ih =>
            intro j hj hm
            have hjl : j < (l.take i).length := by rw [List.length_take]; omega
            rw [List.drop_eq_getElem_cons hjl, List.getElem_take] at hm
            by_cases he : l[j] = l[i]
            · exact Ev.step (f := fun _ => some false) (fun k => by simp only [gampref05_Permutation.l1]; rw [if_pos (by omega), if_pos (by omega), if_pos (by omega), if_pos (by omega), if_pos (by omega), rdg (by omega), rdg hi, if_pos he]) (Ev.now _)
            · refine Ev.step (fun k => by simp only [gampref05_Permutation.l1]; rw [if_pos (by omega), if_pos (by omega), if_pos (by omega), if_pos (by omega), if_pos (by omega), rdg (by omega), rdg hi, if_neg he, wrap_s (by omega)]) (ih (j + 1) (by omega) ?_)
              rcases List.mem_cons.1 hm with h | h
              · exact absurd h.symm he
              · exact h
        exact go i 0 (by omega) (by rw [List.drop_zero]; exact hm)
      · have ih := perm_l0 l n hl hn d (i + 1) (by omega) (by
          rw [htk, List.nodup_append]
          refine ⟨hnd, by simp, fun x hx y hy e => ?_⟩
          rw [List.mem_singleton] at hy
          exact hm (by rw [← hy, ← e]; exact hx)) (fun x hx => by
          rw [htk] at hx
          rcases List.mem_append.1 hx with hx | hx
          · exact hr x hx
          · rw [List.mem_singleton] at hx
            rw [hx]; omega)
        have h1 := perm_l1 l n hl hi ih i 0 (by omega)
        rw [List.drop_zero, if_neg hm] at h1
        exact h1
    · have hno : ¬ IsPerm l n := fun h => hin (by have := h.2.1 _ (List.getElem_mem hi); omega)
      rw [decide_eq_false hno]
      refine Ev.step (f := fun _ => some false) (fun k => by
        simp only [gampref05_Permutation.l0]
        rw [if_pos (by omega), if_pos (by omega), rdg hi, in_eq, hw, Option.bind_some, decide_eq_false hin, if_neg (by simp)]) (Ev.now _)
theorem perm_any (l : List Int) (n : Nat) (hl : l.length ≤ 1000000) (hn : n ≤ 1000000) : Ev (fun k => gampref05_Permutation.f k l (n : Int)) (decide (IsPerm l n)) :=
  perm_l0 l n hl hn l.length 0 (by omega) (by simp) (by simp)
theorem valid_any0 (l : List Int) (n : Nat) (hl : l.length ≤ 1000000) (hn : n ≤ 1000000) : ∀ (d i : Nat) (s : List Bool), i + d = l.length → s.length = n → (l.take i).Nodup → (∀ x ∈ l.take i, 0 ≤ x ∧ x < (n : Int)) →
    (∀ y, y < n → (s.getD y false = true ↔ (y : Int) ∈ l.take i)) → Ev (fun k => strap_valid.l0 k l (n : Int) s l (l.length : Int) (i : Int)) (decide (IsPerm l n))
  | 0, i, s, hd, hs, hnd, hr, hv => by
    have hi : i = l.length := by omega
    subst hi
    rw [List.take_length] at hnd hr
    refine Ev.step (f := fun _ => some ((l.length : Int) == (n : Int))) (fun k => by simp only [strap_valid.l0]; rw [if_neg (by omega)]) ?_
    have : ((l.length : Int) == (n : Int)) = decide (IsPerm l n) := by
      rw [Bool.eq_iff_iff]
      simp only [beq_iff_eq, decide_eq_true_eq]
      exact ⟨fun h => ⟨hnd, hr, by omega⟩, fun h => by have := h.2.2; omega⟩
    rw [this]
    exact Ev.now _
  | d + 1, i, s, hd, hs, hnd, hr, hv => by
    have hi : i < l.length := by omega
    have htk : l.take (i + 1) = l.take i ++ [l[i]] := List.take_succ_eq_append_getElem hi
    by_cases hin : 0 ≤ l[i] ∧ l[i] < (n : Int)
    · obtain ⟨y, hy⟩ : ∃ y : Nat, l[i] = (y : Int) := ⟨l[i].toNat, by omega⟩
      have hyn : y < n := by omega
      have e : rdOf false s l[i] = s.getD y false := by unfold rdOf; rw [hy, Int.toNat_natCast]
      by_cases hm : l[i] ∈ l.take i
      · have hno : ¬ IsPerm l n := fun h => by
          have h1 := h.1
          rw [← List.take_append_drop (i + 1) l, htk] at h1
          have h2 := (List.nodup_append.1 h1).1
          exact (List.nodup_append.1 h2).2.2 _ hm _ (by simp) rfl
        rw [decide_eq_false hno]
        refine Ev.step (f := fun _ => some false) (fun k => ?_) (Ev.now _)
        simp only [strap_valid.l0]
        rw [if_pos (by omega), if_pos (by omega), if_pos (by omega), rdg hi, if_neg (by omega), if_neg (by omega), if_pos (by omega), if_pos (by omega), e, if_pos ((hv y hyn).2 (by rw [← hy]; exact hm))]
      · have ih := valid_any0 l n hl hn d (i + 1) (s.set y true) (by omega) (by rw [List.length_set, hs]) (by
          rw [htk, List.nodup_append]
          refine ⟨hnd, by simp, fun x hx y hy e => ?_⟩
          rw [List.mem_singleton] at hy
          exact hm (by rw [← hy, ← e]; exact hx)) (fun x hx => by
          rw [htk] at hx
          rcases List.mem_append.1 hx with hx | hx
          · exact hr x hx
          · rw [List.mem_singleton] at hx
            rw [hx]; omega) (fun z hz => by
          rw [htk, List.mem_append, List.mem_singleton, List.getD_eq_getElem?_getD, List.getElem?_set]
          by_cases h1 : y = z
          · subst h1
            rw [if_pos rfl, if_pos (by omega)]
            exact ⟨fun _ => .inr hy.symm, fun _ => rfl⟩
          · rw [if_neg h1, ← List.getD_eq_getElem?_getD, hv z hz]
            exact ⟨.inl, fun h => h.elim id fun h => absurd h (by omega)⟩)
        refine Ev.step (fun k => ?_) ih
        simp only [strap_valid.l0]
        rw [if_pos (by omega), if_pos (by omega), if_pos (by omega), rdg hi, if_neg (by omega), if_neg (by omega), if_pos (by omega), if_pos (by omega), e, if_neg (fun h => hm (by rw [hy]; exact (hv y hyn).1 h)), wrap_s (by omega), hy, Int.toNat_natCast]
    · have hno : ¬ IsPerm l n := fun h => hin (by have := h.2.1 _ (List.getElem_mem hi); omega)
      rw [decide_eq_false hno]
      refine Ev.step (f := fun _ => some false) (fun k => ?_) (Ev.now _)
      simp only [strap_valid.l0]
      rw [if_pos (by omega), if_pos (by omega), if_pos (by omega), rdg hi]
      by_cases h0 : l[i] < 0
      · rw [if_pos h0]
      · rw [if_neg h0, if_pos (by omega)]
theorem valid_any (l : List Int) (n : Nat) (hl : l.length ≤ 1000000) (hn : n ≤ 1000000) : Ev (fun k => strap_valid.f k l (n : Int)) (decide (IsPerm l n)) := by
 unfold strap_valid.f
 refine Ev.congr (fun k => ?_) (valid_any0 l n hl hn l.length 0 (List.replicate n false) (by omega) (by simp) (by simp) (by simp) (fun y hy => by
  rw [List.getD_eq_getElem?_getD, List.getElem?_replicate, if_pos hy]
  simp))
 rw [if_pos (by omega), if_pos (by omega), Int.toNat_natCast]; rfl
theorem len_le_sub : ∀ {l1 l2 : List Int}, l1.Nodup → (∀ x ∈ l1, x ∈ l2) → l1.length ≤ l2.length
 | [], _, _, _ => Nat.zero_le _
 | a :: l1, l2, hd, hs => by
  have ha : a ∈ l2 := hs a List.mem_cons_self
  have hd' := List.nodup_cons.1 hd
  have h1 : l1.length ≤ (l2.erase a).length := len_le_sub hd'.2 (fun x hx => by
   have hne : x ≠ a := fun e => hd'.1 (e ▸ hx)
   exact (List.mem_erase_of_ne hne).2 (hs x (List.mem_cons_of_mem _ hx)))
  have h2 := List.length_erase_of_mem ha
  have h3 : 0 < l2.length := List.length_pos_of_mem ha
  simp only [List.length_cons]
  omega
theorem perm_all {l : List Int} {n : Nat} (h : IsPerm l n) {y : Nat} (hy : y < n) : (y : Int) ∈ l := by
 refine Classical.byContradiction fun hno => ?_
 have h1 := len_le_sub (l1 := (y : Int) :: l) (l2 := (List.range n).map fun (x : Nat) => (x : Int)) (List.nodup_cons.2 ⟨hno, h.1⟩) (fun x hx => by
  rcases List.mem_cons.1 hx with rfl | hx
  ·exact List.mem_map.2 ⟨y, List.mem_range.2 hy, rfl⟩
  ·obtain ⟨k1, k2⟩ := h.2.1 x hx
   exact List.mem_map.2 ⟨x.toNat, List.mem_range.2 (by omega), by omega⟩)
 rw [List.length_cons, h.2.2, List.length_map, List.length_range] at h1
 omega
theorem pm_of {l : List Int} {n : Nat} (h : IsPerm l n) : ∃ t : Pm, Sup n t ∧ l = lst n t := by
 have hfl : ∀ x, x < n → ∃ (hx : x < l.length), 0 ≤ l[x] ∧ l[x] < (n : Int) := fun x hx => ⟨by rw [h.2.2]; exact hx, h.2.1 _ (List.getElem_mem _)⟩
 have hg : ∀ y, y < n → ∃ x, ∃ hx : x < l.length, l[x] = (y : Int) := fun y hy => by
  obtain ⟨x, hx, e⟩ := List.mem_iff_getElem.1 (perm_all h hy)
  exact ⟨x, hx, e⟩
 let g : Nat → Nat := fun y => if hy : y < n then Classical.choose (hg y hy) else y
 let f : Nat → Nat := fun x => if x < n then (l.getD x 0).toNat else x
 have gs : ∀ y (hy : y < n), ∃ hx : g y < l.length, l[g y] = (y : Int) := fun y hy => by
  have : g y = Classical.choose (hg y hy) := by show (if hy : y < n then Classical.choose (hg y hy) else y) = _; rw [dif_pos hy]
  rw [this]; exact Classical.choose_spec (hg y hy)
 have fs : ∀ x (hx : x < n), (f x : Int) = l[x]'(by rw [h.2.2]; exact hx) := fun x hx => by
  obtain ⟨h1, h2, h3⟩ := hfl x hx
  have : f x = (l.getD x 0).toNat := by show (if x < n then _ else _) = _; rw [if_pos hx]
  rw [this, List.getD_eq_getElem?_getD, List.getElem?_eq_getElem h1]
  show ((l[x].toNat : Nat) : Int) = _
  omega
 have fo : ∀ x, n ≤ x → f x = x := fun x hx => by show (if x < n then _ else _) = _; rw [if_neg (by omega)]
 have go : ∀ x, n ≤ x → g x = x := fun x hx => by show (if hy : x < n then _ else _) = _; rw [dif_neg (by omega)]
 have fl : ∀ x, x < n → f x < n := fun x hx => by have := fs x hx; obtain ⟨h1, h2, h3⟩ := hfl x hx; omega
 have gl : ∀ y, y < n → g y < n := fun y hy => by obtain ⟨h1, _⟩ := gs y hy; rw [h.2.2] at h1; exact h1
 have fg : ∀ y, f (g y) = y := fun y => by
  by_cases hy : y < n
  ·obtain ⟨h1, h2⟩ := gs y hy
   have := fs (g y) (gl y hy)
   omega
  ·rw [go y (by omega), fo y (by omega)]
 have fi : ∀ x y, x < n → y < n → f x = f y → x = y := fun x y hx hy e => by
  have e1 := fs x hx
  have e2 := fs y hy
  exact (List.getElem_inj (h₀ := by rw [h.2.2]; exact hx) (h₁ := by rw [h.2.2]; exact hy) h.1).1 (by rw [← e1, ← e2, e])
 have gf : ∀ x, g (f x) = x := fun x => by
  by_cases hx : x < n
  ·exact fi _ _ (gl _ (fl x hx)) hx (fg _)
  ·rw [fo x (by omega), go x (by omega)]
 refine ⟨⟨f, g, fg, gf⟩, fun x hx => fo x hx, lst_of h.2.2 fun x hx => ?_⟩
 have h1 : x < l.length := by rw [h.2.2]; exact hx
 rw [List.getD_eq_getElem?_getD, List.getElem?_eq_getElem h1]
 exact (fs x hx).symm
noncomputable instance (s t : Pm) : Decidable (s = t) := Classical.propDecidable _
theorem pb_rdL {L : List (List Int)} {i : Nat} (h : i < L.length) : Pb.rd_L1 L (i : Int) = L[i] := by
  unfold Pb.rd_L1
  rw [Int.toNat_natCast, List.getD_eq_getElem?_getD, List.getElem?_eq_getElem h]; rfl
theorem lx_rdL {L : List (List Int)} {i : Nat} (h : i < L.length) : Lx.rd_L1 L (i : Int) = L[i] := by
  unfold Lx.rd_L1
  rw [Int.toNat_natCast, List.getD_eq_getElem?_getD, List.getElem?_eq_getElem h]; rfl
section
variable {n : Nat} {L : List (List Int)} {p : Int} {i : Nat} {t : Pm}
theorem formed_first (hn1 : 1 ≤ n) (hn : n ≤ 1000) (hm : L.length ≤ 100000) (hi : i < L.length) (h0 : i = 0) {r : Bool} (hnext : Ev (fun k => strap_formed.l0 k (n : Int) L (L.length : Int) ((i + 1 : Nat) : Int) p L) r) :
  ∀ (d j : Nat), j + d + 1 = n → Ev (fun k => strap_formed.l1 k (n : Int) (i : Int) (lst n t) L (L.length : Int) (i : Int) ((n : Int) - 1) (j : Int) p L) r := by
 intro d
 induction d with
 | zero =>
  intro j hj
  refine Ev.step (fun k => ?_) hnext
  simp only [strap_formed.l1]
  rw [if_neg (by omega), wrap_s (by omega)]
 | succ d ih =>
  intro j hj
  refine Ev.step (fun k => ?_) (ih (j + 1) (by omega))
  simp only [strap_formed.l1]
  rw [if_pos (by omega), if_neg (by omega), wrap_s (by omega)]
theorem formed_good {s : Pm} (hn : n ≤ 1000) (hm : L.length ≤ 100000) (hi : i + 1 < L.length) (hs : Sup n s) (hp : L[i] = lst n s) (hg : ∀ j, j + 1 < n → t.B j → s.E j) {r : Bool} (hnext : Ev (fun k => strap_formed.l0 k (n : Int) L (L.length : Int) ((i + 1 + 1 : Nat) : Int) p L) r) :
  ∀ (d j : Nat), j + d + 1 = n → Ev (fun k => strap_formed.l1 k (n : Int) ((i + 1 : Nat) : Int) (lst n t) L (L.length : Int) ((i + 1 : Nat) : Int) ((n : Int) - 1) (j : Int) p L) r := by
 intro d
 induction d with
 | zero =>
  intro j hj
  refine Ev.step (fun k => ?_) hnext
  simp only [strap_formed.l1]
  rw [if_neg (by omega), wrap_s (by omega)]
 | succ d ih =>
  intro j hj
  have hj1 : j + 1 < n := by omega
  by_cases hb : t.B j
  ·have hev := ends_ev hs hn hj1
   rw [decide_eq_true (hg j hj1 hb)] at hev
   refine Ev.step (f := fun k => (strap_perm_ends.f k (lst n s) (j : Int)).bind fun t261 => (if t261 = true then (strap_formed.l1 k (n : Int) ((i + 1 : Nat) : Int) (lst n t) L (L.length : Int) ((i + 1 : Nat) : Int) ((n : Int) - 1) ((j + 1 : Nat) : Int) p L) else (some false))) (fun k => ?_) (Ev.bind hev ?_)
   ·have e2 : wrap64 (((i + 1 : Nat) : Int) - 1) = (i : Int) := by unfold wrap64; omega
    have g2 : (0 : Int) ≤ (i : Int) := by omega
    have g3 : (i : Int) < (L.length : Int) := by omega
    simp only [strap_formed.l1]
    rw [if_pos (by omega), if_pos (by omega), begins_eq hj1 hn, decide_eq_true hb, Option.bind_some, if_pos rfl, e2, if_pos g2, if_pos g3, pb_rdL (by omega), hp, wrap_s (by omega)]
   ·simp only [if_true]
    exact ih (j + 1) (by omega)
  ·refine Ev.step (fun k => ?_) (ih (j + 1) (by omega))
   simp only [strap_formed.l1]
   rw [if_pos (by omega), if_pos (by omega), begins_eq hj1 hn, decide_eq_false hb, Option.bind_some, if_neg (by decide), wrap_s (by omega)]
theorem formed_bad {s : Pm} (hn : n ≤ 1000) (hm : L.length ≤ 100000) (hi : i + 1 < L.length) (hs : Sup n s) (hp : L[i] = lst n s) {a : Nat} (ha : a + 1 < n) (hab : t.B a) (hae : ¬ s.E a) :
  ∀ (d j : Nat), j + d = a → Ev (fun k => strap_formed.l1 k (n : Int) ((i + 1 : Nat) : Int) (lst n t) L (L.length : Int) ((i + 1 : Nat) : Int) ((n : Int) - 1) (j : Int) p L) false := by
 intro d
 induction d with
 | zero =>
  intro j hj
  obtain rfl : j = a := by omega
  have hev := ends_ev hs hn ha
  rw [decide_eq_false hae] at hev
  refine Ev.step (f := fun k => (strap_perm_ends.f k (lst n s) (j : Int)).bind fun t261 => (if t261 = true then (strap_formed.l1 k (n : Int) ((i + 1 : Nat) : Int) (lst n t) L (L.length : Int) ((i + 1 : Nat) : Int) ((n : Int) - 1) ((j + 1 : Nat) : Int) p L) else (some false))) (fun k => ?_) (Ev.bind hev ?_)
  ·have e2 : wrap64 (((i + 1 : Nat) : Int) - 1) = (i : Int) := by unfold wrap64; omega
   have g2 : (0 : Int) ≤ (i : Int) := by omega
   have g3 : (i : Int) < (L.length : Int) := by omega
   simp only [strap_formed.l1]
   rw [if_pos (by omega), if_pos (by omega), begins_eq ha hn, decide_eq_true hab, Option.bind_some, if_pos rfl, e2, if_pos g2, if_pos g3, pb_rdL (by omega), hp, wrap_s (by omega)]
  ·simp only [Bool.false_eq_true, if_false]
   exact Ev.now _
 | succ d ih =>
  intro j hj
  have hj1 : j + 1 < n := by omega
  by_cases hb : t.B j
  ·by_cases he : s.E j
   ·have hev := ends_ev hs hn hj1
    rw [decide_eq_true he] at hev
    refine Ev.step (f := fun k => (strap_perm_ends.f k (lst n s) (j : Int)).bind fun t261 => (if t261 = true then (strap_formed.l1 k (n : Int) ((i + 1 : Nat) : Int) (lst n t) L (L.length : Int) ((i + 1 : Nat) : Int) ((n : Int) - 1) ((j + 1 : Nat) : Int) p L) else (some false))) (fun k => ?_) (Ev.bind hev ?_)
    ·have e2 : wrap64 (((i + 1 : Nat) : Int) - 1) = (i : Int) := by unfold wrap64; omega
     have g2 : (0 : Int) ≤ (i : Int) := by omega
     have g3 : (i : Int) < (L.length : Int) := by omega
     simp only [strap_formed.l1]
     rw [if_pos (by omega), if_pos (by omega), begins_eq hj1 hn, decide_eq_true hb, Option.bind_some, if_pos rfl, e2, if_pos g2, if_pos g3, pb_rdL (by omega), hp, wrap_s (by omega)]
    ·simp only [if_true]
     exact ih (j + 1) (by omega)
   ·have hev := ends_ev hs hn hj1
    rw [decide_eq_false he] at hev
    refine Ev.step (f := fun k => (strap_perm_ends.f k (lst n s) (j : Int)).bind fun t261 => (if t261 = true then (strap_formed.l1 k (n : Int) ((i + 1 : Nat) : Int) (lst n t) L (L.length : Int) ((i + 1 : Nat) : Int) ((n : Int) - 1) ((j + 1 : Nat) : Int) p L) else (some false))) (fun k => ?_) (Ev.bind hev ?_)
    ·have e2 : wrap64 (((i + 1 : Nat) : Int) - 1) = (i : Int) := by unfold wrap64; omega
     have g2 : (0 : Int) ≤ (i : Int) := by omega
     have g3 : (i : Int) < (L.length : Int) := by omega
     simp only [strap_formed.l1]
     rw [if_pos (by omega), if_pos (by omega), begins_eq hj1 hn, decide_eq_true hb, Option.bind_some, if_pos rfl, e2, if_pos g2, if_pos g3, pb_rdL (by omega), hp, wrap_s (by omega)]
    ·simp only [Bool.false_eq_true, if_false]
     exact Ev.now _
  ·refine Ev.step (fun k => ?_) (ih (j + 1) (by omega))
   simp only [strap_formed.l1]
   rw [if_pos (by omega), if_pos (by omega), begins_eq hj1 hn, decide_eq_false hb, Option.bind_some, if_neg (by decide), wrap_s (by omega)]
end
/-- Both tell the same of a braid; where they say yes, its factors are simple braids that follow each other rightly. -/
def Told (n : Nat) (prev : Option Pm) (L : List (List Int)) : Prop := ∃ Qs : List Pm, AllSup n Qs ∧ L = Qs.map (lst n) ∧ (∀ t ∈ Qs, t ≠ one ∧ t ≠ half n) ∧ (∀ s t, prev = some s → Qs.head? = some t → ∀ j, j + 1 < n → t.B j → s.E j) ∧ Rgt n Qs
theorem is_any {n : Nat} {L : List (List Int)} (p : Int) (hn1 : 1 ≤ n) (hn : n ≤ 1000) (hm : L.length ≤ 100000) (hl : ∀ x ∈ L, x.length ≤ 1000) : ∀ (d i : Nat) (prev : Option Pm), i + d = L.length → ((i = 0 ∧ prev = none) ∨ ∃ (j : Nat) (s : Pm), i = j + 1 ∧ prev = some s ∧ Sup n s ∧ ∃ h : j < L.length, L[j] = lst n s) →
    ∃ b : Bool, Ev (fun k => strap_formed.l0 k (n : Int) L (L.length : Int) (i : Int) p L) b ∧ Ev (fun k => gampref05_Is.l0 k (n : Int) (i : Int) p L) b ∧ (b = true → Told n prev (L.drop i)) := by
  intro d
  induction d with
  | zero =>
    intro i prev hi hprev
    refine ⟨true, Ev.step (f := fun _ => some true) (fun k => ?_) (Ev.now _), Ev.step (f := fun _ => some true) (fun k => ?_) (Ev.now _), fun _ => ?_⟩
    · simp only [strap_formed.l0]; rw [if_neg (by omega)]
    · simp only [gampref05_Is.l0]; rw [if_neg (by omega)]
    · rw [List.drop_of_length_le (by omega)]
      exact ⟨[], AllSup.nil, rfl, fun t h => (by cases h), fun s t _ h => (by cases h), trivial⟩
  | succ d ih =>
    intro i prev hi hprev
    have hiL : i < L.length := by omega
    have hlen := hl _ (List.getElem_mem hiL)
    have ew : wrap64 ((n : Int) - 1) = (n : Int) - 1 := by unfold wrap64; omega
    let J : Nat → Bool → Option Bool := fun k x => strap_formed.j1 k (n : Int) (i : Int) L[i] L (L.length : Int) (i : Int) x p L
    let F3 : Nat → Bool → Option Bool := fun k x => J k x
    let F2 : Nat → Bool → Option Bool := fun k x => if x = true then J k true else ((strap_twist.f k (n : Int)).bind fun t255 => ((strap_perm_is.f k t255 L[i]).bind fun t258 => J k t258))
    let F1 : Nat → Bool → Option Bool := fun k x => if x = true then ((strap_identity.f k (n : Int)).bind fun t251 => ((strap_perm_is.f k t251 L[i]).bind fun t254 => F2 k t254)) else J k true
    have kF : ∀ r, Ev (fun k => F1 k (decide (IsPerm L[i] n))) r → Ev (fun k => strap_formed.l0 k (n : Int) L (L.length : Int) (i : Int) p L) r := fun r hr => by
      refine Ev.step (fun k => ?_) (Ev.bind (f := F1) (valid_any L[i] n (by omega) (by omega)) hr)
      simp only [strap_formed.l0]
      rw [if_pos (by omega), if_pos (by omega), if_pos (by omega), pb_rdL hiL]
    have jF : Ev (fun k => J k true) false := Ev.step (f := fun _ => some false) (fun k => by show strap_formed.j1 (k + 1) _ _ _ _ _ _ _ _ _ = _; simp only [strap_formed.j1]; rw [if_pos trivial]) (Ev.now _)
    let G4 : Nat → Option Bool := fun k => if (i : Int) > 0 then (if 0 ≤ (wrap64 ((i : Int) - 1)) then (if (wrap64 ((i : Int) - 1)) < (L.length : Int) then ((gampref05_wrong.f k (Lx.rd_L1 L (wrap64 ((i : Int) - 1))) L[i]).bind fun t361 => (if t361 ≥ 0 then (some false) else (gampref05_Is.l0 k (n : Int) ((i + 1 : Nat) : Int) p L))) else (none)) else (none)) else (gampref05_Is.l0 k (n : Int) ((i + 1 : Nat) : Int) p L)
    let G3 : Nat → Bool → Option Bool := fun k x => if x = true then some false else G4 k
    let G2 : Nat → Bool → Option Bool := fun k x => if x = true then some false else ((gampref05_Half.f k (n : Int)).bind fun t356 => ((gampref05_Same.f k L[i] t356).bind fun t359 => G3 k t359))
    let G1 : Nat → Bool → Option Bool := fun k x => if x = true then ((gampref05_One.f k (n : Int)).bind fun t352 => ((gampref05_Same.f k L[i] t352).bind fun t355 => G2 k t355)) else some false
    have kG : ∀ r, Ev (fun k => G1 k (decide (IsPerm L[i] n))) r → Ev (fun k => gampref05_Is.l0 k (n : Int) (i : Int) p L) r := fun r hr => by
      refine Ev.step (fun k => ?_) (Ev.bind (f := G1) (perm_any L[i] n (by omega) (by omega)) hr)
      simp only [gampref05_Is.l0]
      rw [if_pos (by omega), if_pos (by omega), lx_rdL hiL, wrap_s (by omega)]
    by_cases hP : IsPerm L[i] n
    · obtain ⟨t, ht, et⟩ := pm_of hP
      have gF : ∀ r, Ev (fun k => F2 k (decide (t = one))) r → Ev (fun k => F1 k (decide (IsPerm L[i] n))) r := fun r hr => by
        rw [decide_eq_true hP]
        show Ev (fun k => (strap_identity.f k (n : Int)).bind fun t251 => ((strap_perm_is.f k t251 L[i]).bind fun t254 => F2 k t254)) r
        have s1 := Own.is_ev (lst n one) L[i] (by rw [lst_len]; omega)
        rw [show decide (lst n one = L[i]) = decide (t = one) by rw [et]; exact decide_eq_decide.2 ⟨fun e => (lst_inj ht (sup_one n) e.symm), fun e => by rw [e]⟩] at s1
        exact Ev.bind (f := fun k o => (strap_perm_is.f k o L[i]).bind (F2 k)) (Own.identity_ev n hn) (Ev.bind (f := F2) s1 hr)
      have gG : ∀ r, Ev (fun k => G2 k (decide (t = one))) r → Ev (fun k => G1 k (decide (IsPerm L[i] n))) r := fun r hr => by
        rw [decide_eq_true hP]
        have s1 := same_ev L[i] (lst n one) (by omega)
        rw [show decide (L[i] = lst n one) = decide (t = one) by rw [et]; exact decide_eq_decide.2 ⟨fun e => (lst_inj ht (sup_one n) e), fun e => by rw [e]⟩] at s1
        exact Ev.bind (f := fun k o => (gampref05_Same.f k L[i] o).bind (G2 k)) (refOne_ev hn) (Ev.bind (f := G2) s1 hr)
      by_cases e1 : t = one
      · refine ⟨false, kF _ (gF _ ?_), kG _ (gG _ ?_), fun h => (by cases h)⟩
        · rw [decide_eq_true e1]; exact jF
        · rw [decide_eq_true e1]; exact Ev.now _
      · have g2F : ∀ r, Ev (fun k => J k (decide (t = half n))) r → Ev (fun k => F2 k (decide (t = one))) r := fun r hr => by
          rw [decide_eq_false e1]
          have s1 := Own.is_ev (lst n (half n)) L[i] (by rw [lst_len]; omega)
          rw [show decide (lst n (half n) = L[i]) = decide (t = half n) by rw [et]; exact decide_eq_decide.2 ⟨fun e => (lst_inj ht (sup_half n) e.symm), fun e => by rw [e]⟩] at s1
          exact Ev.bind (f := fun k o => (strap_perm_is.f k o L[i]).bind (J k)) (Own.twist_ev n hn1 hn) (Ev.bind (f := J) s1 hr)
        have g2G : ∀ r, Ev (fun k => G3 k (decide (t = half n))) r → Ev (fun k => G2 k (decide (t = one))) r := fun r hr => by
          rw [decide_eq_false e1]
          have s1 := same_ev L[i] (lst n (half n)) (by omega)
          rw [show decide (L[i] = lst n (half n)) = decide (t = half n) by rw [et]; exact decide_eq_decide.2 ⟨fun e => (lst_inj ht (sup_half n) e), fun e => by rw [e]⟩] at s1
          exact Ev.bind (f := fun k o => (gampref05_Same.f k L[i] o).bind (G3 k)) (refHalf_ev hn) (Ev.bind (f := G3) s1 hr)
        by_cases e2 : t = half n
        · refine ⟨false, kF _ (gF _ (g2F _ ?_)), kG _ (gG _ (g2G _ ?_)), fun h => (by cases h)⟩
          · rw [decide_eq_true e2]; exact jF
          · rw [decide_eq_true e2]; exact Ev.now _
        · have jF2 : ∀ r, Ev (fun k => strap_formed.l1 k (n : Int) (i : Int) (lst n t) L (L.length : Int) (i : Int) ((n : Int) - 1) ((0 : Nat) : Int) p L) r → Ev (fun k => J k (decide (t = half n))) r := fun r hr => by
            rw [decide_eq_false e2]
            refine Ev.step (fun k => ?_) hr
            show strap_formed.j1 (k + 1) _ _ _ _ _ _ _ _ _ = _
            simp only [strap_formed.j1]
            rw [if_neg (by simp), ew, et]; rfl
          have jG2 : ∀ r, Ev G4 r → Ev (fun k => G3 k (decide (t = half n))) r := fun r hr => by
            rw [decide_eq_false e2]; exact hr
          obtain ⟨b, hb1, hb2, hb3⟩ := ih (i + 1) (some t) (by omega) (.inr ⟨i, t, rfl, rfl, ht, hiL, et⟩)
          have hdrop : L.drop i = L[i] :: L.drop (i + 1) := List.drop_eq_getElem_cons hiL
          have told : (∀ s, prev = some s → ∀ j, j + 1 < n → t.B j → s.E j) → b = true → Told n prev (L.drop i) := fun hpr hb => by
            obtain ⟨Qs, q1, q2, q3, q4, q5⟩ := hb3 hb
            refine ⟨t :: Qs, AllSup.cons ht q1, by rw [hdrop, q2, et, List.map_cons], fun x hx => ?_, fun s x hs hx => ?_, e1, fun x hx j hj hb => q4 t x rfl hx j hj hb, q5⟩
            · rcases List.mem_cons.1 hx with rfl | hx
              · exact ⟨e1, e2⟩
              · exact q3 x hx
            · injection hx with hx; subst hx; exact hpr s hs
          rcases hprev with ⟨h0, hp0⟩ | ⟨j, s, rfl, hps, hss, hjL, hjs⟩
          · refine ⟨b, kF _ (gF _ (g2F _ (jF2 _ ?_))), kG _ (gG _ (g2G _ (jG2 _ ?_))), told (fun s hs => by rw [hp0] at hs; cases hs)⟩
            · exact formed_first hn1 hn hm hiL h0 hb1 (n - 1) 0 (by omega)
            · refine Ev.congr (fun k => ?_) hb2
              show (if (i : Int) > 0 then _ else _) = _
              rw [if_neg (by omega)]
          · have ej : wrap64 (((j + 1 : Nat) : Int) - 1) = (j : Int) := by unfold wrap64; omega
            obtain ⟨w, hw, hwe⟩ := wrong_ev (s := s) (t := t) hss ht hn
            have gG4 : ∀ r, Ev (fun k => if w ≥ 0 then (some false) else (gampref05_Is.l0 k (n : Int) ((j + 1 + 1 : Nat) : Int) p L)) r → Ev G4 r := fun r hr => by
              refine Ev.congr (fun k => ?_) (Ev.bind (f := fun k w => if w ≥ 0 then (some false) else (gampref05_Is.l0 k (n : Int) ((j + 1 + 1 : Nat) : Int) p L)) hwe hr)
              show (if ((j + 1 : Nat) : Int) > 0 then _ else _) = _
              rw [if_pos (by omega), ej, if_pos (by omega), if_pos (by omega), lx_rdL hjL, hjs, et]
            rcases hw with ⟨rfl, hg⟩ | ⟨a, rfl, ha, hab, hae⟩
            · refine ⟨b, kF _ (gF _ (g2F _ (jF2 _ ?_))), kG _ (gG _ (g2G _ (jG2 _ (gG4 _ ?_)))), told (fun s' hs => by rw [hps] at hs; injection hs with hs; subst hs; exact hg)⟩
              · exact formed_good hn hm hiL hss hjs hg hb1 (n - 1) 0 (by omega)
              · refine Ev.congr (fun k => ?_) hb2
                rw [if_neg (by omega)]
            · refine ⟨false, kF _ (gF _ (g2F _ (jF2 _ ?_))), kG _ (gG _ (g2G _ (jG2 _ (gG4 _ ?_)))), fun h => (by cases h)⟩
              · exact formed_bad hn hm hiL hss hjs ha hab hae a 0 (by omega)
              · refine Ev.congr (fun k => ?_) (Ev.now _)
                rw [if_pos (by omega)]
    · refine ⟨false, kF _ ?_, kG _ ?_, fun h => (by cases h)⟩
      · rw [decide_eq_false hP]; exact jF
      · rw [decide_eq_false hP]; exact Ev.now _
end Go.Proofs.Ytdldfdcedjmneaa.Pure
namespace Go.Proofs.Ytdldfdcedjmneaa.Pure
open Go.RowKit Go.Proofs.YtdldfdcedjmneaaW.PrintWords Go.Proofs.YtdldfdcedjmneaaW.PrintLast Go.Proofs.YtdldfdcedjmneaaW.PrintMore Go.Proofs.Ytdldfdcedjmneaa.Lx Go.Proofs.Ytdldfdcedjmneaa.Br
open Go.Proofs.Ytdldfdcedjmneaa.Own (lst lst_len lst_getD lst_rd lst_inj lst_of getD_set' wrap_s rd_nat begins_eq ends_ev strap_clone.f)
open Go.Proofs.Ytdldfdcedjmneaa.Pb (strap_formed.f strap_twist.f strap_Is.f slices_Reverse_int_int.f)
set_option linter.unusedVariables false
set_option linter.unusedSimpArgs false
section
variable {n : Nat} {t : Pm}
theorem inv_le : inv n t ≤ n * n := rows_le n (Nat.le_refl n)
theorem both_in (ht : Sup n t) (hn : n ≤ 1000) (acc : List Int) (ha : acc.length ≤ 100000) : ∀ (d j : Nat), j + 1 + d = n → (∀ i, i < j → ¬ t.B i) →
  ((∀ i, i + 1 < n → ¬ t.B i) ∧ Ev (fun k => strap_perm_word.l1 k (lst n t) acc (j : Int)) acc ∧ Ev (fun k => gampref05_Simple.l1 k acc (lst n t) (j : Int)) acc) ∨
  ∃ i, i + 1 < n ∧ t.B i ∧ (∀ r, Ev (fun k => strap_perm_word.l0 k (lst n (t.L i)) (acc ++ [((i : Int) + 1)])) r → Ev (fun k => strap_perm_word.l1 k (lst n t) acc (j : Int)) r) ∧
   (∀ r, Ev (fun k => gampref05_Simple.l0 k (acc ++ [((i : Int) + 1)]) (lst n (t.L i))) r → Ev (fun k => gampref05_Simple.l1 k acc (lst n t) (j : Int)) r) := by
 intro d
 have ew : wrap64 (((lst n t).length : Int) - 1) = (n : Int) - 1 := by rw [lst_len]; unfold wrap64; omega
 induction d with
 | zero =>
  intro j hj hno
  refine .inl ⟨fun i hi => hno i (by omega), Ev.step (f := fun _ => some acc) (fun k => ?_) (Ev.now _), Ev.step (f := fun _ => some acc) (fun k => ?_) (Ev.now _)⟩
  ·simp only [strap_perm_word.l1]
   rw [ew, if_neg (by omega), if_pos (by omega)]
  ·simp only [gampref05_Simple.l1]
   rw [lst_len, wrap_s (by omega), if_neg (by omega), if_pos (by omega)]
 | succ d ih =>
  intro j hj hno
  have hj1 : j + 1 < n := by omega
  by_cases hb : t.B j
  ·have hb2 : t.f (j + 1) < t.f j := hb
   refine .inr ⟨j, hj1, hb, fun r hr => Ev.step (fun k => ?_) hr, fun r hr => Ev.step (fun k => ?_) hr⟩
   ·simp only [strap_perm_word.l1]
    rw [ew, if_pos (by omega), begins_eq hj1 hn, decide_eq_true hb, Option.bind_some, if_pos rfl, if_neg (by omega), wrap_s (by omega), lst_len, if_pos (by omega), if_pos (by omega), if_pos (by omega), if_pos (by omega), if_pos (by omega), lst_rd hj1, lst_rd (show j < n by omega), Int.toNat_natCast, Int.toNat_natCast, swap_lst ht hj1]
    rfl
   ·simp only [gampref05_Simple.l1]
    rw [lst_len, wrap_s (by omega), if_pos (by omega), if_pos (by omega), if_pos (by omega), if_pos (by omega), lst_rd (by omega), lst_rd hj1, if_neg (by omega), if_neg (by omega), if_pos (by omega), Int.toNat_natCast, Int.toNat_natCast, swap_lst ht hj1]
    rfl
  ·have hne : t.f j ≠ t.f (j + 1) := fun h => by have := t.inj h; omega
   have hlt : t.f j < t.f (j + 1) := by unfold Pm.B at hb; omega
   have step : ∀ r, Ev (fun k => strap_perm_word.l1 k (lst n t) acc ((j + 1 : Nat) : Int)) r → Ev (fun k => strap_perm_word.l1 k (lst n t) acc (j : Int)) r := fun r hr => by
    refine Ev.step (fun k => ?_) hr
    simp only [strap_perm_word.l1]
    rw [ew, if_pos (by omega), begins_eq hj1 hn, decide_eq_false hb, Option.bind_some, if_neg (by decide), wrap_s (by omega)]
   have step2 : ∀ r, Ev (fun k => gampref05_Simple.l1 k acc (lst n t) ((j + 1 : Nat) : Int)) r → Ev (fun k => gampref05_Simple.l1 k acc (lst n t) (j : Int)) r := fun r hr => by
    refine Ev.step (fun k => ?_) hr
    simp only [gampref05_Simple.l1]
    rw [lst_len, wrap_s (by omega), if_pos (by omega), if_pos (by omega), if_pos (by omega), if_pos (by omega), lst_rd (by omega), lst_rd hj1, if_pos (by omega)]
   rcases ih (j + 1) (by omega) (fun i hi => by
    by_cases e : i = j
    ·rw [e]; exact hb
    ·exact hno i (by omega)) with ⟨h1, h2, h3⟩ | ⟨i, h1, h2, h3, h4⟩
   ·exact .inl ⟨h1, step _ h2, step2 _ h3⟩
   ·exact .inr ⟨i, h1, h2, fun r hr => step r (h3 r hr), fun r hr => step2 r (h4 r hr)⟩
theorem both_l (hn1 : 2 ≤ n) (hn : n ≤ 1000) : ∀ (m : Nat) (t : Pm) (acc : List Int), Sup n t → inv n t = m → acc.length + m ≤ 100000 →
  ∃ ws : List Int, Word n ws ∧ ws.length = m ∧ Ev (fun k => strap_perm_word.l0 k (lst n t) acc) (acc ++ ws) ∧ Ev (fun k => gampref05_Simple.l0 k acc (lst n t)) (acc ++ ws) := by
 intro m
 induction m with
 | zero =>
  intro t acc ht hm ha
  rcases both_in ht hn acc (by omega) (n - 1) 0 (by omega) (fun i hi => by omega) with ⟨h1, h2, h3⟩ | ⟨i, h1, h2, _, _⟩
  ·refine ⟨[], (fun k hk => absurd hk (by simp)), rfl, ?_, ?_⟩
   ·rw [List.append_nil]
    exact Ev.step (fun k => by simp only [strap_perm_word.l0]; rfl) h2
   ·rw [List.append_nil]
    exact Ev.step (fun k => by simp only [gampref05_Simple.l0]; rfl) h3
  ·have := inv_L ht h1 h2; omega
 | succ m ih =>
  intro t acc ht hm ha
  rcases both_in ht hn acc (by omega) (n - 1) 0 (by omega) (fun i hi => by omega) with ⟨h1, h2, h3⟩ | ⟨i, h1, h2, h3, h4⟩
  ·have e := eq_one ht h1
   rw [e, inv_one] at hm; omega
  ·have hi := inv_L ht h1 h2
   obtain ⟨ws, k1, k2, k3, k4⟩ := ih (t.L i) (acc ++ [((i : Int) + 1)]) (ht.L h1) (by omega) (by rw [List.length_append]; simp only [List.length_singleton]; omega)
   refine ⟨((i : Int) + 1) :: ws, fun k hk => ?_, by rw [List.length_cons, k2], ?_, ?_⟩
   ·rcases List.mem_cons.1 hk with hk | hk
    ·rw [hk]; exact ⟨by omega, by omega, by omega⟩
    ·exact k1 k hk
   ·have k5 := h3 _ k3
    rw [List.append_assoc, List.singleton_append] at k5
    exact Ev.step (fun k => by simp only [strap_perm_word.l0]; rfl) k5
   ·have k5 := h4 _ k4
    rw [List.append_assoc, List.singleton_append] at k5
    exact Ev.step (fun k => by simp only [gampref05_Simple.l0]; rfl) k5
theorem both_ev (hn1 : 2 ≤ n) (hn : n ≤ 300) (ht : Sup n t) (hi : inv n t ≤ 100000) : ∃ ws : List Int, Word n ws ∧ ws.length = inv n t ∧ Ev (fun k => strap_perm_word.f k (lst n t)) ws ∧ Ev (fun k => gampref05_Simple.f k (lst n t)) ws := by
 obtain ⟨ws, h1, h2, h3, h4⟩ := both_l hn1 (by omega) (inv n t) t [] ht rfl (by simpa using hi)
 refine ⟨ws, h1, h2, ?_, ?_⟩
 ·unfold strap_perm_word.f strap_clone.f
  refine Ev.congr (fun k => ?_) h3
  rw [if_pos (by rw [lst_len]; omega), Option.bind_some]
 ·unfold gampref05_Simple.f
  refine Ev.congr (fun k => ?_) h4
  rw [Option.bind_some, if_pos (by rw [lst_len]; simp only [List.length_nil]; omega)]
  rfl
/-- The words of the factors, one after the other: in both programs. -/
theorem both_words (hn1 : 2 ≤ n) (hn : n ≤ 8) {L : List Pm} (hs : AllSup n L) (hm : L.length ≤ 1000) (p : Int) : ∀ (d i : Nat), i + d = L.length →
  ∃ ws : List Int, ws.length = tot n (L.drop i) ∧ (∀ acc : List Int, acc.length + tot n (L.drop i) ≤ 1000000000 → Ev (fun k => strap_Word.l2 k acc (L.map (lst n)) (L.length : Int) (i : Int)) (if ((acc ++ ws).length : Int) > 10000 then ([], 3) else (acc ++ ws, 0))) ∧
   ∀ acc : List Int, acc.length + tot n (L.drop i) ≤ 1000000000 → Ev (fun k => gampref05_Word.l3 k acc (i : Int) p (L.map (lst n))) (acc ++ ws, true) := by
 intro d
 induction d with
 | zero =>
  intro i hi
  rw [List.drop_of_length_le (by omega)]
  refine ⟨[], rfl, fun acc ha => Ev.step (f := fun _ => some (if ((acc ++ []).length : Int) > 10000 then ([], 3) else (acc ++ [], (0 : Int)))) (fun k => ?_) (Ev.now _), fun acc ha => Ev.step (f := fun _ => some (acc ++ [], true)) (fun k => ?_) (Ev.now _)⟩
  ·simp only [strap_Word.l2]
   rw [if_neg (by omega), List.append_nil]
   by_cases c : (acc.length : Int) > 10000
   ·rw [if_pos c, if_pos c]
   ·rw [if_neg c, if_neg c]
  ·simp only [gampref05_Word.l3]
   rw [List.length_map, if_neg (by omega), List.append_nil]
 | succ d ih =>
  intro i hi
  have hiL : i < L.length := by omega
  have ht : Sup n L[i] := hs _ (List.getElem_mem hiL)
  have hd : L.drop i = L[i] :: L.drop (i + 1) := List.drop_eq_getElem_cons hiL
  have hinv : inv n L[i] ≤ 100 := by
   have := inv_le (n := n) (t := L[i])
   have : n * n ≤ 8 * 8 := Nat.mul_le_mul hn hn
   omega
  obtain ⟨w1, a1, a2, a3, a4⟩ := both_ev (t := L[i]) hn1 (by omega) ht (by omega)
  obtain ⟨w2, b1, b2, b3⟩ := ih (i + 1) (by omega)
  have htot : tot n (L.drop i) = inv n L[i] + tot n (L.drop (i + 1)) := by rw [hd, tot]
  refine ⟨w1 ++ w2, by rw [List.length_append, htot]; omega, fun acc ha => ?_, fun acc ha => ?_⟩
  ·have h := b2 (acc ++ w1) (by rw [List.length_append]; omega)
   rw [← List.append_assoc]
   refine Ev.step (f := fun k => (strap_perm_word.f k (lst n L[i])).bind fun t605 => (if acc.length + t605.length < 17592186044416 then (strap_Word.l2 k (acc ++ t605) (L.map (lst n)) (L.length : Int) ((i + 1 : Nat) : Int)) else (none))) (fun k => ?_) (Ev.bind a3 ?_)
   ·simp only [strap_Word.l2]
    rw [if_pos (by omega), if_pos (by omega), List.length_map, if_pos (by omega), rd_map hiL, wrap_s (by omega)]
   ·refine Ev.congr (fun k => ?_) h
    rw [if_pos (by omega)]
  ·have h := b3 (acc ++ w1) (by rw [List.length_append]; omega)
   rw [← List.append_assoc]
   refine Ev.step (f := fun k => (gampref05_Simple.f k (lst n L[i])).bind fun t503 => (if acc.length + t503.length < 17592186044416 then (gampref05_Word.l3 k (acc ++ t503) ((i + 1 : Nat) : Int) p (L.map (lst n))) else (none))) (fun k => ?_) (Ev.bind a4 ?_)
   ·simp only [gampref05_Word.l3]
    rw [List.length_map, if_pos (by omega), if_pos (by omega), rd_map hiL, wrap_s (by omega)]
   ·refine Ev.congr (fun k => ?_) h
    rw [if_pos (by omega)]
theorem word_l1' {x6 : List Int} {p : Int} {Ls : List (List Int)} {r : List Int × Int} (hx : x6.length ≤ 100) {a : Nat} (hal : a ≤ 10000) : ∀ (d i : Nat) (acc : List Int), i + d = a → acc.length ≤ i * 100 →
  Ev (fun k => strap_Word.l2 k (acc ++ (List.replicate d x6).flatten) Ls (Ls.length : Int) 0) r → Ev (fun k => strap_Word.l1 k x6 acc (a : Int) (i : Int) p Ls) r := by
 intro d
 induction d with
 | zero =>
  intro i acc hi ha hr
  rw [List.replicate_zero, List.flatten_nil, List.append_nil] at hr
  refine Ev.step (fun k => ?_) hr
  simp only [strap_Word.l1]
  rw [if_neg (by omega)]
 | succ d ih =>
  intro i acc hi ha hr
  rw [List.replicate_succ, List.flatten_cons, ← List.append_assoc] at hr
  refine Ev.step (fun k => ?_) (ih (i + 1) (acc ++ x6) (by omega) (by rw [List.length_append]; omega) hr)
  simp only [strap_Word.l1]
  rw [if_pos (by omega), if_pos (by omega), wrap_s (by omega)]
theorem rword_l1 {x6 : List Int} {p : Int} {Ls : List (List Int)} {r : List Int × Bool} (hx : x6.length ≤ 100) (hp : p ≤ 10000) : ∀ (d i : Nat) (acc : List Int), d = (p - (i : Int)).toNat → i ≤ 10000 → acc.length ≤ i * 100 →
  Ev (fun k => gampref05_Word.l2 k x6 (acc ++ (List.replicate d x6).flatten) 0 p Ls) r → Ev (fun k => gampref05_Word.l1 k x6 acc (i : Int) p Ls) r := by
 intro d
 induction d with
 | zero =>
  intro i acc hi hi2 ha hr
  rw [List.replicate_zero, List.flatten_nil, List.append_nil] at hr
  refine Ev.step (fun k => ?_) hr
  simp only [gampref05_Word.l1]
  rw [if_neg (by omega)]
 | succ d ih =>
  intro i acc hi hi2 ha hr
  rw [List.replicate_succ, List.flatten_cons, ← List.append_assoc] at hr
  refine Ev.step (fun k => ?_) (ih (i + 1) (acc ++ x6) (by omega) (by omega) (by rw [List.length_append]; omega) hr)
  simp only [gampref05_Word.l1]
  rw [if_pos (by omega), if_pos (by omega), wrap_s (by omega)]
theorem rword_l2 (hn : n ≤ 1000) {x6 : List Int} (hw : Word n x6) {p : Int} {Ls : List (List Int)} {r : List Int × Bool} (hx : x6.length ≤ 100) (hp : -10000 ≤ p) (hp2 : p ≤ 10000) : ∀ (d i : Nat) (acc : List Int), d = (-p - (i : Int)).toNat → i ≤ 10000 → acc.length ≤ 1000000 + i * 100 →
  Ev (fun k => gampref05_Word.l3 k (acc ++ (List.replicate d (invL x6)).flatten) 0 p Ls) r → Ev (fun k => gampref05_Word.l2 k x6 acc (i : Int) p Ls) r := by
 intro d
 have ew : wrap64 (-p) = -p := by unfold wrap64; omega
 have hil : (invL x6).length = x6.length := by unfold invL; rw [List.length_reverse, List.length_map]
 induction d with
 | zero =>
  intro i acc hi hi2 ha hr
  rw [List.replicate_zero, List.flatten_nil, List.append_nil] at hr
  refine Ev.step (fun k => ?_) hr
  simp only [gampref05_Word.l2]
  rw [ew, if_neg (by omega)]
 | succ d ih =>
  intro i acc hi hi2 ha hr
  rw [List.replicate_succ, List.flatten_cons, ← List.append_assoc] at hr
  have h := ih (i + 1) (acc ++ invL x6) (by omega) (by omega) (by rw [List.length_append]; omega) hr
  refine Ev.step (f := fun k => (gampref05_Inverse.f k x6).bind fun t496 => (if acc.length + t496.length < 17592186044416 then (gampref05_Word.l2 k x6 (acc ++ t496) ((i + 1 : Nat) : Int) p Ls) else (none))) (fun k => ?_) (Ev.bind (inverse_ev hn hw (by omega)) ?_)
  ·simp only [gampref05_Word.l2]
   rw [ew, if_pos (by omega), wrap_s (by omega)]
  ·refine Ev.congr (fun k => ?_) h
   rw [if_pos (by omega)]
theorem rword_l0 (hn : n ≤ 8) {x6 : List Int} {L : List Pm} (hm : L.length ≤ 1000) {p : Int} {r : List Int × Bool}
  (hr : Ev (fun k => if p > 10000 then (gampref05_Word.j1 k x6 true p (L.map (lst n))) else (if p < (-10000) then (gampref05_Word.j1 k x6 true p (L.map (lst n))) else (gampref05_Word.j1 k x6 (decide ((wrap64 ((wrap64 ((mx p (wrap64 (-p))) * (x6.length : Int))) + ((tot n L : Nat) : Int))) > 10000)) p (L.map (lst n))))) r) :
  ∀ (d i s : Nat), i + d = L.length → s + tot n (L.drop i) = tot n L → s ≤ i * 100 → Ev (fun k => gampref05_Word.l0 k x6 (s : Int) (i : Int) p (L.map (lst n))) r := by
 intro d
 induction d with
 | zero =>
  intro i s hi hs hsb
  rw [List.drop_of_length_le (by omega)] at hs
  have e : s = tot n L := by have : tot n [] = 0 := rfl; omega
  subst e
  refine Ev.step (fun k => ?_) hr
  simp only [gampref05_Word.l0]
  rw [List.length_map, if_neg (by omega)]
 | succ d ih =>
  intro i s hi hs hsb
  have hiL : i < L.length := by omega
  have hd : L.drop i = L[i] :: L.drop (i + 1) := List.drop_eq_getElem_cons hiL
  have htot : tot n (L.drop i) = inv n L[i] + tot n (L.drop (i + 1)) := by rw [hd, tot]
  have hinv : inv n L[i] ≤ 100 := by
   have := inv_le (n := n) (t := L[i])
   have : n * n ≤ 8 * 8 := Nat.mul_le_mul hn hn
   omega
  have h := ih (i + 1) (s + inv n L[i]) (by omega) (by omega) (by omega)
  have ew : wrap64 ((s : Int) + ((inv n L[i] : Nat) : Int)) = ((s + inv n L[i] : Nat) : Int) := by unfold wrap64; omega
  refine Ev.step (f := fun k => (gampref05_Crossings.f k (lst n L[i])).bind fun t489 => gampref05_Word.l0 k x6 (wrap64 ((s : Int) + t489)) ((i + 1 : Nat) : Int) p (L.map (lst n))) (fun k => ?_) (Ev.bind (cross_ev (t := L[i]) hn) (by rw [ew]; exact h))
  simp only [gampref05_Word.l0]
  rw [List.length_map, if_pos (by omega), if_pos (by omega), rd_map hiL, wrap_s (by omega)]
theorem lim_eq {m : Int} {a l q s : Nat} (hm : m = (a : Int)) (hq : a * l = q) (hb : q ≤ 300000) (hs : s ≤ 64000) : decide ((wrap64 ((wrap64 (m * (l : Int))) + (s : Int))) > 10000) = !decide (((q + s : Nat) : Int) ≤ 10000) := by
 subst hm
 rw [← Int.natCast_mul, hq]
 clear hq
 have e1 : wrap64 (q : Int) = (q : Int) := by unfold wrap64; omega
 have e2 : wrap64 ((q : Int) + (s : Int)) = ((q + s : Nat) : Int) := by unfold wrap64; omega
 rw [e1, e2]
 by_cases h : ((q + s : Nat) : Int) ≤ 10000
 ·rw [decide_eq_true h, decide_eq_false (by omega)]; rfl
 ·rw [decide_eq_false h, decide_eq_true (by omega)]; rfl
/-- The word of a braid in normal form, where no power stands in the way. -/
theorem word_any (hn1 : 2 ≤ n) (hn : n ≤ 8) {L : List Pm} (hs : AllSup n L) (hm : L.length ≤ 1000) {hw : List Int} (w1 : Word n hw) (w2 : hw.length ≤ 28) (p : Int) :
  ∃ (V : List Int) (ok : Bool), (ok = true → V.length ≤ 10000) ∧ Ev (fun k => if p > 10000 then (strap_Word.j1 k hw true p (L.map (lst n))) else (strap_Word.j1 k hw (decide (p < (-10000))) p (L.map (lst n)))) (if ok then (V, 0) else ([], 3)) ∧
   Ev (fun k => gampref05_Word.l0 k hw 0 0 p (L.map (lst n))) (if ok then (V, true) else ([], false)) := by
 have hz : 0 + tot n (L.drop 0) = tot n L := by rw [List.drop_zero, Nat.zero_add]
 by_cases c1 : p > 10000
 ·refine ⟨[], false, (fun h => (by cases h)), ?_, ?_⟩
  ·refine Ev.step (f := fun k => some ([], 3)) (fun k => ?_) (Ev.now _)
   rw [if_pos c1]
   simp only [strap_Word.j1, if_true]
  ·refine rword_l0 hn hm ?_ L.length 0 0 (by omega) hz (by omega)
   refine Ev.step (f := fun k => some ([], false)) (fun k => ?_) (Ev.now _)
   rw [if_pos c1]
   simp only [gampref05_Word.j1, if_true]
 ·by_cases c2 : p < -10000
  ·refine ⟨[], false, (fun h => (by cases h)), ?_, ?_⟩
   ·refine Ev.step (f := fun k => some ([], 3)) (fun k => ?_) (Ev.now _)
    rw [if_neg c1, decide_eq_true c2]
    simp only [strap_Word.j1, if_true]
   ·refine rword_l0 hn hm ?_ L.length 0 0 (by omega) hz (by omega)
    refine Ev.step (f := fun k => some ([], false)) (fun k => ?_) (Ev.now _)
    rw [if_neg c1, if_pos c2]
    simp only [gampref05_Word.j1, if_true]
  ·have ew : wrap64 (-p) = -p := by unfold wrap64; omega
   have hmx : mx p (wrap64 (-p)) = ((p.natAbs : Nat) : Int) := by
    rw [ew]; unfold mx
    by_cases h : p < -p
    ·rw [if_pos h]; omega
    ·rw [if_neg h]; omega
   have hil : (invL hw).length = hw.length := by unfold invL; rw [List.length_reverse, List.length_map]
   obtain ⟨ws, b1, b2, b3⟩ := both_words hn1 hn hs hm p L.length 0 (by omega)
   rw [List.drop_zero] at b1 b2 b3
   have htot : tot n L ≤ 1000 * 64 := by
    have h1 : ∀ M : List Pm, tot n M ≤ M.length * 64 := by
     intro M
     induction M with
     | nil => simp [tot]
     | cons x M ih =>
      have := inv_le (n := n) (t := x)
      have : n * n ≤ 8 * 8 := Nat.mul_le_mul hn hn
      rw [tot, List.length_cons]; omega
    have := h1 L; omega
   obtain ⟨x6, hx6⟩ : ∃ x6, x6 = if p < 0 then invL hw else hw := ⟨_, rfl⟩
   have hxl : x6.length = hw.length := by rw [hx6]; by_cases h : p < 0 <;> simp [h, hil]
   have hlen : ((List.replicate p.natAbs x6).flatten ++ ws).length = p.natAbs * hw.length + tot n L := by rw [List.length_append, rep_len, hxl, b1]
   have hmul : p.natAbs * hw.length ≤ 10000 * 28 := Nat.mul_le_mul (by omega) w2
   have hrl : ((List.replicate p.natAbs x6).flatten).length = p.natAbs * hw.length := by rw [rep_len, hxl]
   obtain ⟨q, hq⟩ : ∃ q, p.natAbs * hw.length = q := ⟨_, rfl⟩
   rw [hq] at hlen hmul hrl
   refine ⟨(List.replicate p.natAbs x6).flatten ++ ws, decide (((q + tot n L : Nat) : Int) ≤ 10000), fun h => by have := of_decide_eq_true h; rw [hlen]; omega, ?_, ?_⟩
   ·-- the program
    have e1 := b2 ((List.replicate p.natAbs x6).flatten) (by rw [hrl]; omega)
    rw [show (if ((((List.replicate p.natAbs x6).flatten ++ ws).length : Nat) : Int) > 10000 then (([] : List Int), (3 : Int)) else ((List.replicate p.natAbs x6).flatten ++ ws, 0)) = (if decide (((q + tot n L : Nat) : Int) ≤ 10000) = true then ((List.replicate p.natAbs x6).flatten ++ ws, 0) else ([], 3)) by
     rw [hlen]
     by_cases h : ((q + tot n L : Nat) : Int) ≤ 10000
     ·rw [if_neg (by omega), decide_eq_true h, if_pos rfl]
     ·rw [if_pos (by omega), decide_eq_false h, if_neg (by simp)]] at e1
    have e2 : Ev (fun k => strap_Word.j3 k x6 p (L.map (lst n))) (if decide (((q + tot n L : Nat) : Int) ≤ 10000) = true then ((List.replicate p.natAbs x6).flatten ++ ws, 0) else ([], 3)) := by
     refine Ev.step (f := fun k => strap_Word.l1 k x6 [] (p.natAbs : Int) 0 p (L.map (lst n))) (fun k => ?_) (word_l1' (by omega) (by omega) p.natAbs 0 [] (by omega) (by simp) ?_)
     ·simp only [strap_Word.j3]
      rw [hmx]
     ·rw [List.nil_append, List.length_map]
      exact e1
    by_cases hp : p < 0
    ·rw [if_pos hp] at hx6
     subst hx6
     have hneg := neg_l0 (N := hw.length) (by omega) (p := p) (Ls := L.map (lst n)) (fun x => hw.reverse.getD x 0) (fun x hx => by
      have hmem : hw.reverse.getD x 0 ∈ hw.reverse := by
       rw [List.getD_eq_getElem?_getD, List.getElem?_eq_getElem (by rw [List.length_reverse]; exact hx)]
       exact List.getElem_mem _
      obtain ⟨_, k1, k2⟩ := w1 _ (List.mem_reverse.1 hmem)
      omega) (T := invL hw) hil (fun x hx => by
      unfold invL
      rw [← List.map_reverse, List.getD_eq_getElem?_getD, List.getElem?_map, List.getD_eq_getElem?_getD, List.getElem?_eq_getElem (by rw [List.length_reverse]; exact hx)]
      rfl) e2 hw.length 0 hw.reverse (by omega) (by rw [List.length_reverse]) (fun x hx => by rw [if_neg (by omega)])
     refine Ev.step (f := fun k => (slices_Reverse_int_int.f k hw).bind fun t598 => (strap_Word.l0 k t598 (hw.length : Int) 0 p (L.map (lst n)))) (fun k => ?_) (Ev.bind (rev_ev (by omega)) hneg)
     rw [if_neg c1, decide_eq_false c2]
     simp only [strap_Word.j1, Bool.false_eq_true, if_false]
     rw [if_pos hp]
    ·rw [if_neg hp] at hx6
     subst hx6
     refine Ev.step (fun k => ?_) e2
     rw [if_neg c1, decide_eq_false c2]
     simp only [strap_Word.j1, Bool.false_eq_true, if_false]
     rw [if_neg hp]
   ·-- the document
    refine rword_l0 hn hm ?_ L.length 0 0 (by omega) hz (by omega)
    have eb : decide ((wrap64 ((wrap64 ((mx p (wrap64 (-p))) * (hw.length : Int))) + ((tot n L : Nat) : Int))) > 10000) = !decide (((q + tot n L : Nat) : Int) ≤ 10000) := lim_eq hmx hq (Nat.le_trans hmul (by decide)) (Nat.le_trans htot (by decide))
    rw [eb]
    by_cases h : ((q + tot n L : Nat) : Int) ≤ 10000
    ·rw [decide_eq_true h]
     have e3 := b3 ((List.replicate p.natAbs x6).flatten) (by rw [hrl]; omega)
     simp only [if_true]
     have hl2 : ∀ acc : List Int, acc.length ≤ 1000000 → acc ++ (List.replicate (-p - ((0 : Nat) : Int)).toNat (invL hw)).flatten = (List.replicate p.natAbs x6).flatten → Ev (fun k => gampref05_Word.l2 k hw acc 0 p (L.map (lst n))) ((List.replicate p.natAbs x6).flatten ++ ws, true) := fun acc ha e => by
      have h2 := rword_l2 (n := n) (by omega) w1 (p := p) (Ls := L.map (lst n)) (r := ((List.replicate p.natAbs x6).flatten ++ ws, true)) (by omega) (by omega) (by omega) (-p - ((0 : Nat) : Int)).toNat 0 acc rfl (by omega) (by omega) (by rw [e]; exact e3)
      exact h2
     have h1 := rword_l1 (x6 := hw) (p := p) (Ls := L.map (lst n)) (r := ((List.replicate p.natAbs x6).flatten ++ ws, true)) (by omega) (by omega) (p - ((0 : Nat) : Int)).toNat 0 [] rfl (by omega) (by simp) (by
      rw [List.nil_append]
      refine hl2 _ ?_ ?_
      ·rw [rep_len]
       have : (p - ((0 : Nat) : Int)).toNat * hw.length ≤ 10000 * 28 := Nat.mul_le_mul (by omega) w2
       omega
      ·by_cases hp : p < 0
       ·rw [if_pos hp] at hx6
        subst hx6
        rw [show (p - ((0 : Nat) : Int)).toNat = 0 by omega, show (-p - ((0 : Nat) : Int)).toNat = p.natAbs by omega, List.replicate_zero, List.flatten_nil, List.nil_append]
       ·rw [if_neg hp] at hx6
        subst hx6
        rw [show (p - ((0 : Nat) : Int)).toNat = p.natAbs by omega, show (-p - ((0 : Nat) : Int)).toNat = 0 by omega, List.replicate_zero, List.flatten_nil, List.append_nil])
     refine Ev.step (fun k => ?_) h1
     rw [if_neg c1, if_neg c2]
     simp only [gampref05_Word.j1, Bool.not_true, Bool.false_eq_true, if_false]
     rfl
    ·rw [decide_eq_false h]
     refine Ev.step (f := fun k => some ([], false)) (fun k => ?_) (Ev.now _)
     rw [if_neg c1, if_neg c2]
     simp only [gampref05_Word.j1, Bool.not_false, if_true]
end
theorem few_l0 (p : Int) (L : List (List Int)) : ∀ (d i : Nat) (acc : List (List Int)), i + d = 30 → acc.length ≤ i → Ev (fun k => gamplaw05_few.l0 k (i : Int) p L p acc) (p, acc ++ ((L.drop i).take d).map (·.take 9)) := by
 intro d
 induction d with
 | zero =>
  intro i acc hi ha
  refine Ev.step (f := fun _ => some (p, acc)) (fun k => ?_) (by rw [List.take_zero, List.map_nil, List.append_nil]; exact Ev.now _)
  simp only [gamplaw05_few.l0]
  by_cases c : (i : Int) < (L.length : Int)
  ·rw [if_pos c, if_neg (by omega)]
  ·rw [if_neg c]
 | succ d ih =>
  intro i acc hi ha
  by_cases hiL : i < L.length
  ·have e1 : Lx.rd_L1 L (i : Int) = L[i] := lx_rdL hiL
   have e2 : mn (L[i].length : Int) 9 = ((min L[i].length 9 : Nat) : Int) := by unfold mn; omega
   have e3 : L[i].take (min L[i].length 9) = L[i].take 9 := by
    by_cases h : L[i].length ≤ 9
    ·rw [Nat.min_eq_left h, List.take_of_length_le (Nat.le_refl _), List.take_of_length_le h]
    ·rw [Nat.min_eq_right (by omega)]
   rw [List.drop_eq_getElem_cons hiL, List.take_succ_cons, List.map_cons]
   have h := ih (i + 1) (acc ++ [L[i].take 9]) (by omega) (by rw [List.length_append]; simp; omega)
   rw [List.append_assoc] at h
   refine Ev.step (fun k => ?_) h
   simp only [gamplaw05_few.l0]
   rw [if_pos (by omega), if_pos (by omega), Option.bind_some, if_pos (by omega), e1, e2, if_pos (by omega), if_pos (by omega), Int.toNat_natCast, e3, if_pos (by rw [List.length_take]; simp; omega), if_pos (by omega), wrap_s (by omega), List.nil_append]
  ·rw [List.drop_of_length_le (by omega), List.take_nil, List.map_nil, List.append_nil]
   refine Ev.step (f := fun _ => some (p, acc)) (fun k => ?_) (Ev.now _)
   simp only [gamplaw05_few.l0]
   rw [if_neg (by omega)]
theorem few_ev (p : Int) (L : List (List Int)) : Ev (fun k => gamplaw05_few.f k p L) (p, (L.take 30).map (·.take 9)) := by
 have h := few_l0 p L 30 0 [] (by omega) (by simp)
 rw [List.drop_zero, List.nil_append] at h
 exact h
theorem strapIs_ev (a0 p : Int) (L : List (List Int)) : Ev (fun k => gamplaw05_StrapIs.f k a0 p L) true := by
  unfold gamplaw05_StrapIs.f
  refine Ev.bind (few_ev p L) ?_
  obtain ⟨Ls, hLs⟩ : ∃ Ls, (L.take 30).map (·.take 9) = Ls := ⟨_, rfl⟩
  have hl1 : Ls.length ≤ 30 := by rw [← hLs, List.length_map, List.length_take]; omega
  have hl2 : ∀ x ∈ Ls, x.length ≤ 1000 := fun x hx => by
    rw [← hLs] at hx
    obtain ⟨y, _, rfl⟩ := List.mem_map.1 hx
    rw [List.length_take]; omega
  rw [hLs]
  by_cases hb : a0 < 2 ∨ a0 > 8
  · have e1 : Ev (fun k => strap_Is.f k a0 p Ls) (false, 1) := by
      refine Ev.congr (fun k => ?_) (Ev.now _)
      unfold Pb.strap_Is.f
      by_cases h : a0 < 2
      · rw [if_pos h]
      · rw [if_neg h, if_pos (by omega)]
    have e2 : Ev (fun k => strap_Word.f k a0 p Ls) ([], 1) := by
      refine Ev.step (f := fun _ => some ([], 1)) (fun k => ?_) (Ev.now _)
      unfold strap_Word.f
      by_cases h : a0 < 2
      · rw [if_pos h]; simp only [strap_Word.j0, if_true]
      · rw [if_neg h, decide_eq_true (show a0 > 8 by omega)]; simp only [strap_Word.j0, if_true]
    refine Ev.bind e1 (Ev.bind e2 ?_)
    refine Ev.step (f := fun k => ((gamplaw05_lives.f k).bind fun t623 => (some t623))) (fun k => ?_) (Ev.bind lives_ev (Ev.now _))
    by_cases h : a0 < 2
    · rw [if_pos h]; simp only [gamplaw05_StrapIs.j0, if_true, Bool.false_eq_true, if_false, List.length_nil, Int.ofNat_zero]
    · rw [if_neg h, decide_eq_true (show a0 > 8 by omega)]; simp only [gamplaw05_StrapIs.j0, if_true, Bool.false_eq_true, if_false, List.length_nil, Int.ofNat_zero]
  · obtain ⟨n, rfl⟩ : ∃ n : Nat, a0 = (n : Int) := ⟨a0.toNat, by omega⟩
    have hn1 : 2 ≤ n := by omega
    have hn2 : n ≤ 8 := by omega
    obtain ⟨b, f1, f2, f3⟩ := is_any (n := n) (L := Ls) p (by omega) (by omega) (by omega) hl2 Ls.length 0 none (by omega) (.inl ⟨rfl, rfl⟩)
    have eF : Ev (fun k => strap_formed.f k (n : Int) p Ls) b := f1
    have eR : Ev (fun k => gampref05_Is.f k (n : Int) p Ls) b := f2
    have e1 : Ev (fun k => strap_Is.f k (n : Int) p Ls) (b, 0) := by
      unfold Pb.strap_Is.f
      refine Ev.congr (fun k => ?_) (Ev.bind (f := fun k t => some (t, (0 : Int))) eF (Ev.now _))
      rw [if_neg (by omega), if_neg (by omega)]
    refine Ev.bind e1 ?_
    cases b with
    | false =>
      have e2 : Ev (fun k => strap_Word.f k (n : Int) p Ls) ([], 2) := by
        refine Ev.step (f := fun k => (strap_formed.f k (n : Int) p Ls).bind fun t591 => (if t591 = true then ((strap_twist.f k (n : Int)).bind fun t592 => ((strap_perm_word.f k t592).bind fun t595 => (if p > 10000 then (strap_Word.j1 k t595 true p Ls) else (strap_Word.j1 k t595 (decide (p < (-10000))) p Ls)))) else (some (([] : List Int), 2)))) (fun k => ?_) (Ev.bind eF ?_)
        · unfold strap_Word.f
          rw [if_neg (by omega), decide_eq_false (show ¬ (n : Int) > 8 by omega)]
          simp only [strap_Word.j0, Bool.false_eq_true, if_false]
        · simp only [Bool.false_eq_true, if_false]; exact Ev.now _
      refine Ev.bind e2 ?_
      refine Ev.step (f := fun k => (gampref05_Is.f k (n : Int) p Ls).bind fun t624 => (if (false != t624) = true then (gamplaw05_StrapIs.j1 k (n : Int) false [] 2 true p Ls) else (if (0 : Int) = 0 then ((gamplaw05_lives.f k).bind fun t625 => (gamplaw05_StrapIs.j1 k (n : Int) false [] 2 (!t625) p Ls)) else (gamplaw05_StrapIs.j1 k (n : Int) false [] 2 true p Ls)))) (fun k => ?_) (Ev.bind eR ?_)
      · rw [if_neg (by omega), decide_eq_false (show ¬ (n : Int) > 8 by omega)]
        simp only [gamplaw05_StrapIs.j0, Bool.false_eq_true, if_false]
      · simp only [bne_self_eq_false, Bool.false_eq_true, if_false, if_true]
        refine Ev.bind lives_ev ?_
        refine Ev.step (f := fun _ => some true) (fun k => ?_) (Ev.now _)
        simp only [gamplaw05_StrapIs.j1, Bool.not_true, Bool.false_eq_true, if_false, List.length_nil, Int.ofNat_zero, if_true]
        rfl
    | true =>
      obtain ⟨Qs, q1, q2, q3, q4, q5⟩ := f3 rfl
      rw [List.drop_zero] at q2
      have hq : Qs.length ≤ 1000 := by have : Ls.length = Qs.length := by rw [q2, List.length_map]
                                       omega
      have hih : inv n (half n) ≤ 28 := by
        rw [inv_half]
        have : n = 2 ∨ n = 3 ∨ n = 4 ∨ n = 5 ∨ n = 6 ∨ n = 7 ∨ n = 8 := by omega
        rcases this with rfl | rfl | rfl | rfl | rfl | rfl | rfl <;> decide
      obtain ⟨hw, w1, w2, w3, w4⟩ := both_ev (t := half n) hn1 (by omega) (sup_half n) (by omega)
      obtain ⟨V, ok, v1, v2, v3⟩ := word_any hn1 hn2 q1 hq w1 (by omega) p
      rw [← q2] at v2 v3
      have e2 : Ev (fun k => strap_Word.f k (n : Int) p Ls) (if ok then (V, 0) else ([], 3)) := by
        refine Ev.step (f := fun k => (strap_formed.f k (n : Int) p Ls).bind fun t591 => (if t591 = true then ((strap_twist.f k (n : Int)).bind fun t592 => ((strap_perm_word.f k t592).bind fun t595 => (if p > 10000 then (strap_Word.j1 k t595 true p Ls) else (strap_Word.j1 k t595 (decide (p < (-10000))) p Ls)))) else (some (([] : List Int), 2)))) (fun k => ?_) (Ev.bind eF ?_)
        · unfold strap_Word.f
          rw [if_neg (by omega), decide_eq_false (show ¬ (n : Int) > 8 by omega)]
          simp only [strap_Word.j0, Bool.false_eq_true, if_false]
        · simp only [if_true]
          exact Ev.bind (Own.twist_ev n (by omega) (by omega)) (Ev.bind w3 v2)
      have e3 : Ev (fun k => gampref05_Word.f k (n : Int) p Ls) (if ok then (V, true) else ([], false)) := by
        unfold gampref05_Word.f
        exact Ev.bind (refHalf_ev (by omega)) (Ev.bind w4 v3)
      refine Ev.bind e2 ?_
      obtain ⟨x8, x9, hx⟩ : ∃ x8 x9, (if ok then (V, (0 : Int)) else ([], 3)) = (x8, x9) := ⟨_, _, rfl⟩
      rw [hx]
      refine Ev.step (f := fun k => (gampref05_Is.f k (n : Int) p Ls).bind fun t624 => (if (true != t624) = true then (gamplaw05_StrapIs.j1 k (n : Int) true x8 x9 true p Ls) else (if (0 : Int) = 0 then ((gamplaw05_lives.f k).bind fun t625 => (gamplaw05_StrapIs.j1 k (n : Int) true x8 x9 (!t625) p Ls)) else (gamplaw05_StrapIs.j1 k (n : Int) true x8 x9 true p Ls)))) (fun k => ?_) (Ev.bind eR ?_)
      · rw [if_neg (by omega), decide_eq_false (show ¬ (n : Int) > 8 by omega)]
        simp only [gamplaw05_StrapIs.j0, Bool.false_eq_true, if_false]
      · simp only [bne_self_eq_false, Bool.false_eq_true, if_false, if_true]
        refine Ev.bind lives_ev ?_
        refine Ev.step (f := fun k => (gampref05_Word.f k (n : Int) p Ls).bind fun bt626 => (if bt626.2 = true then ((gampref05_Same.f k x8 bt626.1).bind fun t630 => (if t630 = true then (some (x9 == 0)) else (some false))) else (if (x8.length : Int) = 0 then (some (x9 == 3)) else (some false)))) (fun k => ?_) (Ev.bind e3 ?_)
        · simp only [gamplaw05_StrapIs.j1, Bool.not_true, Bool.false_eq_true, if_false, if_true]
        · cases ok with
          | true =>
            obtain ⟨rfl, rfl⟩ := Prod.mk.inj hx.symm
            simp only [if_true]
            refine Ev.bind (f := fun k t630 => (if t630 = true then (some ((0 : Int) == 0)) else (some false))) (by have h := same_ev x8 x8 (by have := v1 rfl; omega); rwa [decide_eq_true rfl] at h) ?_
            exact Ev.now _
          | false =>
            obtain ⟨rfl, rfl⟩ := Prod.mk.inj hx.symm
            simp only [Bool.false_eq_true, if_false, List.length_nil, Int.ofNat_zero, if_true]
            exact Ev.now _
end Go.Proofs.Ytdldfdcedjmneaa.Pure
namespace Go.Proofs.Ytdldfdcedjmneaa.Own
open Go.ChangeShapes Go.WideShapes Go.ChangeAt
open Go.RowKit Go.Proofs.YtdldfdcedjmneaaW.PrintWords Go.Proofs.YtdldfdcedjmneaaW.PrintLast Go.Proofs.YtdldfdcedjmneaaW.PrintMore
set_option linter.unusedVariables false
set_option linter.unusedSimpArgs false
theorem rows_read {H : Type} {enc : TypeId × Value → H} {W : World} {a : Option Addr} {len cap fuel : Nat} {x : DataW H × List MemPlace} (hf : DataW.trod enc Try.prog W 0 (fun _ => true) true fuel 24 (Value.slice a len cap).cells.toList = some x) :
    ∃ zs : List (List Int), zs.length = len ∧ len ≤ cap ∧ Kd.C (Kd.slice 3 (Kd.int .i64)) W a len zs ∧ ∀ z ∈ zs, ∀ n ∈ z, (Lit.int .i64 n).wf = true := by
  rcases Go.Deep.open_int_rows Try.underlying24 Try.underlying22 Try.underlying3 (by kernel_rfl) (by kernel_rfl) hf with ⟨hcs, _⟩ | ⟨ad, len', cap', A, L, C, Z, hcs, _, hl, hm, _, hcell⟩
  · simp [Value.cells] at hcs
    obtain ⟨rfl, rfl, rfl⟩ := hcs
    exact ⟨[], rfl, Nat.le_refl _, ⟨rfl, by omega, fun h => absurd h (by omega)⟩, fun z hz => by cases hz⟩
  · simp [Value.cells] at hcs
    obtain ⟨rfl, rfl, rfl⟩ := hcs
    have hm' : cap ≤ 9223372036854775807 := by simpa [maxLen] using hm
    refine ⟨(List.range len).map fun r => (Z r).take (L r), by simp, hl, ⟨by simp, by omega, fun _ => ⟨ad, rfl, fun j p hj => ?_⟩⟩, fun z hz n hn => ?_⟩
    · have hjl : j < len := by
        have := (List.getElem?_eq_some_iff.1 hj).1
        simpa using this
      rw [List.getElem?_map, List.getElem?_range hjl] at hj
      injection hj with hj
      subst hj
      obtain ⟨h1, h2, h3, h4, h5, h6, h7⟩ := hcell j (by omega)
      have hlen : ((Z j).take (L j)).length = L j := by rw [List.length_take]; omega
      refine ⟨[.slice (A j) (L j) (C j)], rfl, ⟨A j, C j, by rw [hlen], by rw [hlen]; exact h2, ?_⟩, fun i u hi => ?_⟩
      · rw [hlen]
        refine ⟨hlen, by have h3' : C j ≤ 9223372036854775807 := by simpa [maxLen] using h3
                         omega, fun hpos => ?_⟩
        rcases hA : A j with _ | a'
        · have := h6 hA; omega
        · obtain ⟨_, hc⟩ := h7 a' hA
          refine ⟨a', rfl, fun c p hp => ?_⟩
          have hcl : c < L j := by
            have := (List.getElem?_eq_some_iff.1 hp).1
            rw [hlen] at this
            exact this
          refine ⟨[.int .i64 p], rfl, rfl, fun i u hi => ?_⟩
          have hi0 : i = 0 := by
            have := (List.getElem?_eq_some_iff.1 hi).1
            simp at this
            exact this
          subst hi0
          simp at hi
          subst hi
          have e := hc c (by omega)
          have hp2 : (Z j).getD c 0 = p := by
            rw [List.getElem?_take_of_lt hcl] at hp
            rw [List.getD_eq_getElem?_getD, hp]; rfl
          rw [hp2] at e
          have : c * (Kd.int .i64).sz + 0 = c := by show c * 1 + 0 = c; omega
          rw [this]
          exact e
      · have hi0 : i = 0 := by
          have := (List.getElem?_eq_some_iff.1 hi).1
          simp at this
          exact this
        subst hi0
        simp at hi
        subst hi
        have : j * (Kd.slice 3 (Kd.int .i64)).sz + 0 = j := by show j * 1 + 0 = j; omega
        rw [this]
        exact h1
    · rw [List.mem_map] at hz
      obtain ⟨r, hr, rfl⟩ := hz
      exact (hcell r (by have := List.mem_range.1 hr; omega)).2.2.2.2.1 n (List.mem_of_mem_take hn)
end Go.Proofs.Ytdldfdcedjmneaa.Own

/- The declarations of M10 that the claim Qv needs. -/
import Derived.Test.YtdldfdcedjmneaaQvM9
namespace Go.Proofs.Ytdldfdcedjmneaa.Pure
open Go.RowKit Go.Proofs.YtdldfdcedjmneaaW.PrintWords Go.Proofs.YtdldfdcedjmneaaW.PrintLast Go.Proofs.YtdldfdcedjmneaaW.PrintMore Go.Proofs.Ytdldfdcedjmneaa.Lx Go.Proofs.Ytdldfdcedjmneaa.Br
open Go.Proofs.Ytdldfdcedjmneaa.Own (lst lst_len lst_getD lst_rd lst_inj lst_of getD_set' wrap_s rd_nat checkF checkF_zero badL normF normL normF_nf normF_eq strap_Normal.f strap_Equal.f begins_eq ends_ev strap_clone.f)
open Go.Proofs.Ytdldfdcedjmneaa.Pb (strap_formed.f strap_twist.f strap_perm_begins.f strap_Is.f slices_Reverse_int_int.f slices_Reverse_int_int.l0)
set_option linter.unusedVariables false
set_option linter.unusedSimpArgs false
section
variable {n : Nat} {t : Pm}
theorem pw_in (ht : Sup n t) (hn : n ≤ 1000) (acc : List Int) (ha : acc.length ≤ 100000) : ∀ (d j : Nat), j + 1 + d = n → (∀ i, i < j → ¬ t.B i) →
    ((∀ i, i + 1 < n → ¬ t.B i) ∧ Ev (fun k => strap_perm_word.l1 k (lst n t) acc (j : Int)) acc) ∨
    ∃ i, i + 1 < n ∧ t.B i ∧ ∀ r, Ev (fun k => strap_perm_word.l0 k (lst n (t.L i)) (acc ++ [((i : Int) + 1)])) r → Ev (fun k => strap_perm_word.l1 k (lst n t) acc (j : Int)) r := by
  intro d
  have ew : wrap64 (((lst n t).length : Int) - 1) = (n : Int) - 1 := by rw [lst_len]; unfold wrap64; omega
  induction d with
  | zero =>
    intro j hj hno
    refine .inl ⟨fun i hi => hno i (by omega), Ev.step (f := fun _ => some acc) (fun k => ?_) (Ev.now _)⟩
    simp only [strap_perm_word.l1]
    rw [ew, if_neg (by omega), if_pos (by omega)]
  | succ d ih =>
    intro j hj hno
    have hj1 : j + 1 < n := by omega
    by_cases hb : t.B j
    · refine .inr ⟨j, hj1, hb, fun r hr => Ev.step (fun k => ?_) hr⟩
      simp only [strap_perm_word.l1]
      rw [ew, if_pos (by omega), begins_eq hj1 hn, decide_eq_true hb, Option.bind_some, if_pos rfl, if_neg (by omega), wrap_s (by omega), lst_len, if_pos (by omega), if_pos (by omega), if_pos (by omega), if_pos (by omega), if_pos (by omega), lst_rd hj1, lst_rd (show j < n by omega), Int.toNat_natCast, Int.toNat_natCast, swap_lst ht hj1]
      rfl
    · have step : ∀ r, Ev (fun k => strap_perm_word.l1 k (lst n t) acc ((j + 1 : Nat) : Int)) r → Ev (fun k => strap_perm_word.l1 k (lst n t) acc (j : Int)) r := fun r hr => by
        refine Ev.step (fun k => ?_) hr
        simp only [strap_perm_word.l1]
        rw [ew, if_pos (by omega), begins_eq hj1 hn, decide_eq_false hb, Option.bind_some, if_neg (by decide), wrap_s (by omega)]
      rcases ih (j + 1) (by omega) (fun i hi => by
        by_cases e : i = j
        · rw [e]; exact hb
        · exact hno i (by omega)) with ⟨h1, h2⟩ | ⟨i, h1, h2, h3⟩
      · exact .inl ⟨h1, step _ h2⟩
      · exact .inr ⟨i, h1, h2, fun r hr => step r (h3 r hr)⟩
theorem pw_l (hn1 : 2 ≤ n) (hn : n ≤ 1000) : ∀ (m : Nat) (t : Pm) (acc : List Int), Sup n t → inv n t = m → acc.length + m ≤ 100000 →
    ∃ ws : List Int, Word n ws ∧ ws.length = m ∧ Ev (fun k => strap_perm_word.l0 k (lst n t) acc) (acc ++ ws) ∧ ∀ (p : Int) (l : List Pm), AllSup n l → SEq n (rawW n (p, l) ws) (p, l ++ [t]) := by
  intro m
  induction m with
  | zero =>
    intro t acc ht hm ha
    rcases pw_in ht hn acc (by omega) (n - 1) 0 (by omega) (fun i hi => by omega) with ⟨h1, h2⟩ | ⟨i, h1, h2, _⟩
    · have e := eq_one ht h1
      refine ⟨[], (fun k hk => absurd hk (by simp)), rfl, ?_, fun p l hl => ?_⟩
      · rw [List.append_nil]
        exact Ev.step (fun k => by simp only [strap_perm_word.l0]; rfl) h2
      · have h3 : Star n (l ++ [one]) l := by
          have := (Star.one (.del (n := n) [])).app l
          rwa [List.append_nil] at this
        rw [e]
        exact (SEq.of p (Eqv.of h3 (hl.app (single (sup_one n))))).symm
    · have := inv_L ht h1 h2; omega
  | succ m ih =>
    intro t acc ht hm ha
    rcases pw_in ht hn acc (by omega) (n - 1) 0 (by omega) (fun i hi => by omega) with ⟨h1, h2⟩ | ⟨i, h1, h2, h3⟩
    · have e := eq_one ht h1
      rw [e, inv_one] at hm; omega
    · have hi := inv_L ht h1 h2
      obtain ⟨ws, k1, k2, k3, k4⟩ := ih (t.L i) (acc ++ [((i : Int) + 1)]) (ht.L h1) (by omega) (by rw [List.length_append]; simp only [List.length_singleton]; omega)
      refine ⟨((i : Int) + 1) :: ws, fun k hk => ?_, by rw [List.length_cons, k2], ?_, fun p l hl => ?_⟩
      · rcases List.mem_cons.1 hk with hk | hk
        · rw [hk]; exact ⟨by omega, by omega, by omega⟩
        · exact k1 k hk
      · have k5 := h3 _ k3
        rw [List.append_assoc, List.singleton_append] at k5
        exact Ev.step (fun k => by simp only [strap_perm_word.l0]; rfl) k5
      · show SEq n (rawW n (rawStep n (p, l) ((i : Int) + 1)) ws) (p, l ++ [t])
        rw [pos_step]
        have hg := gen_sup (n := n) h1
        have h5 := k4 p (l ++ [gen i]) (hl.app (single hg))
        have h6 : (gen i).mul (t.L i) = t := Pm.same fun x => by
          show t.f (sw i (sw i x)) = t.f x
          rw [sw_sw]
        have h7 := tail2 hn1 p hl hg (ht.L h1) h6 (red_gen fun h => (B_L.1 h) h2)
        rw [List.append_assoc, List.singleton_append] at h5
        exact h5.trans hn1 h7
theorem pw_ev (hn1 : 2 ≤ n) (hn : n ≤ 300) (ht : Sup n t) (hi : inv n t ≤ 100000) : ∃ ws : List Int, Word n ws ∧ ws.length = inv n t ∧ Ev (fun k => strap_perm_word.f k (lst n t)) ws ∧ ∀ (p : Int) (l : List Pm), AllSup n l → SEq n (rawW n (p, l) ws) (p, l ++ [t]) := by
 obtain ⟨ws, h1, h2, h3, h4⟩ := pw_l hn1 (by omega) (inv n t) t [] ht rfl (by simpa using hi)
 refine ⟨ws, h1, h2, ?_, h4⟩
 unfold strap_perm_word.f strap_clone.f
 refine Ev.congr (fun k => ?_) h3
 rw [if_pos (by rw [lst_len]; omega), Option.bind_some]
theorem rev_l0 {N : Nat} (hn : N ≤ 1000) (u : Nat → Int) : ∀ (d i : Nat) (l : List Int), i + d = (N + 1) / 2 → l.length = N → (∀ x, x < N → l.getD x 0 = if x < i ∨ N - i ≤ x then u (N - 1 - x) else u x) →
  ∃ R : List Int, R.length = N ∧ (∀ x, x < N → R.getD x 0 = u (N - 1 - x)) ∧ Ev (fun k => slices_Reverse_int_int.l0 k l (i : Int) (((N : Int) - 1) - (i : Int))) R
 | 0, i, l, hd, hl, hv => by
  refine ⟨l, hl, fun x hx => ?_, Ev.step (f := fun _ => some l) (fun k => by simp only [slices_Reverse_int_int.l0]; rw [if_neg (by omega)]) (Ev.now _)⟩
  rw [hv x hx, if_pos (by omega)]
 | d + 1, i, l, hd, hl, hv => by
  by_cases hlt : (i : Int) < ((N : Int) - 1) - (i : Int)
  ·have hj : ((N : Int) - 1) - (i : Int) = ((N - 1 - i : Nat) : Int) := by omega
   have e1 := hv i (by omega)
   have e2 := hv (N - 1 - i) (by omega)
   rw [if_neg (by omega)] at e1 e2
   obtain ⟨R, h1, h2, h3⟩ := rev_l0 hn u d (i + 1) ((l.set i (u (N - 1 - i))).set (N - 1 - i) (u i)) (by omega) (by rw [List.length_set, List.length_set, hl]) (fun x hx => by
    rw [getD_set', getD_set', List.length_set, hl]
    by_cases hx1 : N - 1 - i = x
    ·rw [if_pos ⟨hx1, hx⟩, if_pos (by omega)]; congr 1; omega
    ·rw [if_neg (fun h => hx1 h.1)]
     by_cases hx2 : i = x
     ·rw [if_pos ⟨hx2, hx⟩, if_pos (by omega), hx2]
     ·rw [if_neg (fun h => hx2 h.1), hv x hx]
      by_cases h : x < i ∨ N - i ≤ x
      ·rw [if_pos h, if_pos (by omega)]
      ·rw [if_neg h, if_neg (by omega)])
   refine ⟨R, h1, h2, Ev.step (fun k => ?_) h3⟩
   simp only [slices_Reverse_int_int.l0]
   rw [if_pos hlt, hj, if_pos (by omega), if_pos (by omega), if_pos (by omega), if_pos (by omega), rd_nat, rd_nat, e1, e2, Int.toNat_natCast, Int.toNat_natCast, wrap_s (by omega)]
   have e3 : wrap64 (((N - 1 - i : Nat) : Int) - 1) = (N : Int) - 1 - ((i + 1 : Nat) : Int) := by unfold wrap64; omega
   rw [e3]
  ·refine ⟨l, hl, fun x hx => ?_, Ev.step (f := fun _ => some l) (fun k => by simp only [slices_Reverse_int_int.l0]; rw [if_neg hlt]) (Ev.now _)⟩
   rw [hv x hx]
   by_cases h : x < i ∨ N - i ≤ x
   ·rw [if_pos h]
   ·rw [if_neg h]; congr 1; omega
theorem list_ext {a b : List Int} (hl : a.length = b.length) (h : ∀ x, x < a.length → a.getD x 0 = b.getD x 0) : a = b := by
 refine List.ext_getElem hl fun j h1 h2 => ?_
 have h3 := h j h1
 rw [List.getD_eq_getElem?_getD, List.getD_eq_getElem?_getD, List.getElem?_eq_getElem h1, List.getElem?_eq_getElem h2] at h3
 simpa using h3
theorem rev_ev {l : List Int} (hl : l.length ≤ 1000) : Ev (fun k => slices_Reverse_int_int.f k l) l.reverse := by
 obtain ⟨R, h1, h2, h3⟩ := rev_l0 (N := l.length) hl (fun x => l.getD x 0) ((l.length + 1) / 2) 0 l (by omega) rfl (fun x hx => by rw [if_neg (by omega)])
 have e : R = l.reverse := by
  refine list_ext (by rw [h1, List.length_reverse]) fun x hx => ?_
  rw [h2 x (by omega), List.getD_eq_getElem?_getD, List.getD_eq_getElem?_getD, List.getElem?_reverse (by omega)]
 rw [e] at h3
 unfold slices_Reverse_int_int.f
 refine Ev.congr (fun k => ?_) h3
 have ew : wrap64 ((l.length : Int) - 1) = (l.length : Int) - 1 - ((0 : Nat) : Int) := by unfold wrap64; omega
 rw [ew]; rfl
theorem neg_l0 {N : Nat} (hn : N ≤ 1000) {p : Int} {Ls : List (List Int)} {r : List Int × Int} (u : Nat → Int) (hu : ∀ x, x < N → -1000 ≤ u x ∧ u x ≤ 1000) {T : List Int} (hT : T.length = N) (hTv : ∀ x, x < N → T.getD x 0 = - u x) (hr : Ev (fun k => strap_Word.j3 k T p Ls) r) :
  ∀ (d i : Nat) (l : List Int), i + d = N → l.length = N → (∀ x, x < N → l.getD x 0 = if x < i then - u x else u x) → Ev (fun k => strap_Word.l0 k l (N : Int) (i : Int) p Ls) r
 | 0, i, l, hd, hl, hv => by
  have e : l = T := list_ext (by rw [hl, hT]) fun x hx => by rw [hv x (by omega), if_pos (by omega), hTv x (by omega)]
  subst e
  refine Ev.step (fun k => ?_) hr
  simp only [strap_Word.l0]
  rw [if_neg (by omega)]
 | d + 1, i, l, hd, hl, hv => by
  have hi : i < N := by omega
  have e1 := hv i hi
  rw [if_neg (by omega)] at e1
  have hb := hu i hi
  have e2 : wrap64 (-(u i)) = - u i := by unfold wrap64; omega
  refine Ev.step (fun k => ?_) (neg_l0 hn u hu hT hTv hr d (i + 1) (l.set i (- u i)) (by omega) (by rw [List.length_set, hl]) (fun x hx => ?_))
  ·simp only [strap_Word.l0]
   rw [if_pos (by omega), if_pos (by omega), if_pos (by omega), rd_nat, e1, e2, Int.toNat_natCast, wrap_s (by omega)]
  ·rw [getD_set', hl]
   by_cases h1 : i = x
   ·rw [if_pos ⟨h1, hx⟩, if_pos (by omega), h1]
   ·rw [if_neg (fun h => h1 h.1), hv x hx]
    by_cases h2 : x < i
    ·rw [if_pos h2, if_pos (by omega)]
    ·rw [if_neg h2, if_neg (by omega)]
end
end Go.Proofs.Ytdldfdcedjmneaa.Pure

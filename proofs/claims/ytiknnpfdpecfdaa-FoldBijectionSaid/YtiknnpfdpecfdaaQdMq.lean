/- The declarations of Mq that the claim Qd needs. -/
import Derived.Test.YtiknnpfdpecfdaaQdZ5
import Derived.Test.YtiknnpfdpecfdaaQdOxx4
namespace Go.Proofs.Ytiknnpfdpecfdaa.Pure
open Go Go.RowKit Go.Proofs Go.Proofs.Ytiknnpfdpecfdaa.Own Go.Proofs.Ytiknnpfdpecfdaa.Hx Go.Proofs.Ytiknnpfdpecfdaa.Ox Go.Proofs.Ytiknnpfdpecfdaa.Gx Go.Proofs.YtiknnpfdpecfdaaW.PrintWords Go.Proofs.YtiknnpfdpecfdaaW.PrintLast
theorem u16_in {x : Int} (h : (Lit.int .u16 x).wf = true) : 0 ≤ x ∧ x < 65536 := by
 have h2 : (decide (0 ≤ x) && decide (x ≤ 65535)) = true := h
 simp only [Bool.and_eq_true, decide_eq_true_eq] at h2
 omega
theorem lex_l0 (l a b : List Int) (ha : a.length = l.length) (hb : b.length = l.length) (hl : l.length < 1000) : ∀ (d i : Nat), i + d = l.length → (∃ x, i ≤ x ∧ x < l.length ∧ (∀ j, i ≤ j → j < x → a.getD j 0 = b.getD j 0) ∧ a.getD x 0 < b.getD x 0) → Ev (fun k => gamplaw01_FoldBijection.l0 k l a b (i : Int)) true := by
 intro d
 induction d with
 | zero =>
  rintro i hi ⟨x, h1, h2, _⟩
  omega
 | succ d ih =>
  rintro i hi ⟨x, h1, h2, h3, h4⟩
  have hr1 : rd a (i : Int) = a.getD i 0 := by simp [rd]
  have hr2 : rd b (i : Int) = b.getD i 0 := by simp [rd]
  have e : ∀ k, gamplaw01_FoldBijection.l0 (k + 1) l a b (i : Int) = if a.getD i 0 = b.getD i 0 then gamplaw01_FoldBijection.l0 k l a b ((i + 1 : Nat) : Int) else some (decide (a.getD i 0 < b.getD i 0)) := by
   intro k
   simp only [gamplaw01_FoldBijection.l0]
   rw [if_pos (by omega), if_pos (by omega), if_pos (by omega), if_pos (by omega), hr1, hr2, wup i (by omega)]
  by_cases hx : x = i
  ·subst hx
   refine Ev.step (f := fun _ => some true) (fun k => ?_) (Ev.now _)
   rw [e, if_neg (by omega), decide_eq_true h4]
  ·refine Ev.step (fun k => by rw [e, if_pos (h3 i (Nat.le_refl _) (by omega))]) (ih (i + 1) (by omega) ⟨x, by omega, h2, fun j hj hjx => h3 j (by omega) hjx, h4⟩)
theorem FoldBijection : gamplaw01_FoldBijection.Pure := by
 intro l0 a1 hm0 hm1 hwf hwa
 apply Ev.rounds
 have hr := u16_in hwa
 obtain ⟨l, hl⟩ : ∃ l, stripL l0 7 5 = l := ⟨_, rfl⟩
 have hsl := stripL_ev l0 7 5 (by decide) (by decide) (by decide) (by unfold maxLen at hm0; omega)
 obtain ⟨hs, hlen, _⟩ := stripL_ok l0 7 5 (by decide) (by decide) (by decide) (by decide)
 rw [hl] at hsl hs hlen
 obtain ⟨hok, h1, h9⟩ := sizesB_ok hs (by decide)
 obtain ⟨L, hL⟩ : ∃ L, allO l ⟨#[]⟩ = L := ⟨_, rfl⟩
 have hpos := allO_pos hok
 have hlt := allO_le l ⟨#[]⟩ (by omega)
 have hnd := allO_nodup l
 have hlex := allO_lex l
 have hip : ∀ o ∈ L, IsP l.length o ∧ foldsO l o = true := fun o ho => by
  rw [← hL] at ho
  exact ⟨allO_isP ho, (mem_allO (allO_isP ho)).1 ho⟩
 rw [hL] at hpos hlt hnd hlex
 have hc : fold_Count.f l = some ((L.length : Int), 0) := by unfold fold_Count.f; rw [sizes_f, hs, ← hL]; rfl
 have hat : ∀ k : Nat, (k : Int) < 2 ^ 62 → fold_At.f l (k : Int) = some (if k < L.length then (L.getD k [], 0) else ([], 5)) := by
  intro k hk
  unfold fold_At.f
  rw [sizes_f, hs, Option.bind_some, if_pos rfl, if_pos (by omega), hL, Int.toNat_natCast]
  by_cases h : k < L.length
  ·rw [if_pos h, if_pos ⟨by omega, h⟩]
  ·rw [if_neg h, if_neg (fun h2 => h h2.2)]
 unfold gamplaw01_FoldBijection.f
 refine Ev.bind hsl ?_
 refine Ev.congr (f := fun k => (gamplaw01_lives.f k).bind fun t158 => gamplaw01_FoldBijection.j0 k a1 l (L.length : Int) (!t158)) (fun k => by rw [hc, Option.bind_some, if_pos rfl, if_neg (by omega)]) (Ev.bind lives_ev ?_)
 -- the number
 have hw1 : wrap64 a1 = a1 := by unfold wrap64; omega
 obtain ⟨k, hk⟩ : ∃ k : Nat, Int.tmod a1 (L.length : Int) = (k : Int) := ⟨(Int.tmod a1 (L.length : Int)).toNat, by have := Int.tmod_nonneg (L.length : Int) hr.1; omega⟩
 have hkl : k < L.length := by have := Int.tmod_lt_of_pos a1 (show (0 : Int) < (L.length : Int) by omega); omega
 have hw2 : wrap64 ((k : Int) + 1) = ((k + 1 : Nat) : Int) := wup k (by omega)
 obtain ⟨o, ho⟩ : ∃ o, L.getD k [] = o := ⟨_, rfl⟩
 have hok2 : L[k] = o := by rw [← ho, List.getD_eq_getElem?_getD, List.getElem?_eq_getElem hkl, Option.getD_some]
 have hmem : o ∈ L := hok2 ▸ List.getElem_mem hkl
 obtain ⟨hP, hfo⟩ := hip o hmem
 have ha := hat k (by omega)
 rw [if_pos hkl, ho] at ha
 have hb := hat (k + 1) (by omega)
 have hidx : L.idxOf o = k := by rw [← hok2]; exact hnd.idxOf_getElem k hkl
 have hR : fold_Rank.f l o = some ((k : Int), 0) := by
  unfold fold_Rank.f
  rw [if_pos (by rw [hP.len]; omega), stripE_zero hs (permB_of hP), if_pos rfl, hL, if_pos hmem, hidx]
 have hpe := permutation_ev o l.length (by rw [hP.len]; omega) (by omega)
 rw [permB_of hP] at hpe
 have hfs : Ev (fun k => gampref01_Folds.f k l o false) true := hfo ▸ folds_strip hok (by omega) hP
 have hj1 : Ev (fun n => gamplaw01_FoldBijection.j1 n l (L.length : Int) (k : Int) o (if k + 1 < L.length then (L.getD (k + 1) [], (0 : Int)) else ([], 5)).1 (if k + 1 < L.length then (L.getD (k + 1) [], (0 : Int)) else ([], 5)).2 false) true := by
  by_cases hend : k + 1 < L.length
  ·rw [if_pos hend]
   obtain ⟨q, hq⟩ : ∃ q, L.getD (k + 1) [] = q := ⟨_, rfl⟩
   have hq2 : L[k + 1] = q := by rw [← hq, List.getD_eq_getElem?_getD, List.getElem?_eq_getElem hend, Option.getD_some]
   have hqm : q ∈ L := hq2 ▸ List.getElem_mem hend
   have hqP := (hip q hqm).1
   rw [hq]
   refine Ev.step (f := fun n => gamplaw01_FoldBijection.j2 n l o q false) (fun n => ?_) ?_
   ·simp only [gamplaw01_FoldBijection.j1]
    rw [if_neg (by simp), hw2, if_neg (by omega), if_pos trivial]
    congr 1
    rw [hqP.len, hP.len]
    simp
   ·refine Ev.step (f := fun n => gamplaw01_FoldBijection.l0 n l o q ((0 : Nat) : Int)) (fun n => ?_) ?_
    ·simp only [gamplaw01_FoldBijection.j2]
     rw [if_neg (by simp)]
     rfl
    ·have hx := List.pairwise_iff_getElem.1 hlex k (k + 1) hkl hend (by omega)
     rw [hok2, hq2] at hx
     obtain ⟨i, hi1, hi2, hi3, hi4⟩ := hx
     exact lex_l0 l o q hP.len hqP.len (by omega) l.length 0 (by omega) ⟨i, Nat.zero_le _, by rw [← hP.len]; exact hi1, fun j _ hj => hi3 j hj, hi4⟩
  ·rw [if_neg hend]
   refine Ev.step (f := fun _ => some true) (fun n => ?_) (Ev.now _)
   simp only [gamplaw01_FoldBijection.j1]
   rw [if_neg (by simp), hw2, if_pos (by omega), if_pos trivial]
   rfl
 refine Ev.step (f := fun n => (gampref01_Permutation.f n o (l.length : Int)).bind fun t169 => if t169 = true then ((gampref01_Folds.f n l o false).bind fun t170 => gamplaw01_FoldBijection.j1 n l (L.length : Int) (k : Int) o (if k + 1 < L.length then (L.getD (k + 1) [], (0 : Int)) else ([], 5)).1 (if k + 1 < L.length then (L.getD (k + 1) [], (0 : Int)) else ([], 5)).2 (!t170)) else gamplaw01_FoldBijection.j1 n l (L.length : Int) (k : Int) o (if k + 1 < L.length then (L.getD (k + 1) [], (0 : Int)) else ([], 5)).1 (if k + 1 < L.length then (L.getD (k + 1) [], (0 : Int)) else ([], 5)).2 true) (fun n => ?_) (Ev.bind hpe (Ev.congr (fun n => by rw [if_pos rfl]) (Ev.bind hfs hj1)))
 simp only [gamplaw01_FoldBijection.j0]
 rw [if_neg (by simp), if_neg (by omega), hw1, hk, ha, Option.bind_some, hR, Option.bind_some, hw2, hb, Option.bind_some, if_pos rfl, if_pos rfl, if_pos rfl]
end Go.Proofs.Ytiknnpfdpecfdaa.Pure

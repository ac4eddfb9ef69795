/- The declarations of Mul that the claim Qd needs. -/
import Derived.Test.YtiknnpfdpecfdaaQdZ7
import Derived.Test.YtiknnpfdpecfdaaQdOxx8
namespace Go.Proofs.Ytiknnpfdpecfdaa.Pure
open Go Go.RowKit Go.Proofs Go.Proofs.Ytiknnpfdpecfdaa.Own Go.Proofs.Ytiknnpfdpecfdaa.Hx Go.Proofs.Ytiknnpfdpecfdaa.Ox Go.Proofs.Ytiknnpfdpecfdaa.Gx Go.Proofs.YtiknnpfdpecfdaaW.PrintWords Go.Proofs.YtiknnpfdpecfdaaW.PrintLast
theorem u16_rng2 {x : Int} (h : (Lit.int .u16 x).wf = true) : 0 ≤ x ∧ x < 65536 := by
 have h2 : (decide (0 ≤ x) && decide (x ≤ 65535)) = true := h
 simp only [Bool.and_eq_true, decide_eq_true_eq] at h2
 omega
theorem FoldBackwards : gamplaw01_FoldBackwards.Pure := by
 intro l0 a1 hm0 hm1 hwf hwa
 apply Ev.rounds
 have hr := u16_rng2 hwa
 obtain ⟨l, hl⟩ : ∃ l, stripL l0 7 6 = l := ⟨_, rfl⟩
 have hsl := stripL_ev l0 7 6 (by decide) (by decide) (by decide) (by unfold maxLen at hm0; omega)
 obtain ⟨hs, hlen, hsz⟩ := stripL_ok l0 7 6 (by decide) (by decide) (by decide) (by decide)
 rw [hl] at hsl hs hlen hsz
 obtain ⟨hok, h1, h9⟩ := sizesB_ok hs (by decide)
 obtain ⟨L, hL⟩ : ∃ L, allO l ⟨#[]⟩ = L := ⟨_, rfl⟩
 have hpos := allO_pos hok
 have hlt := allO_le l ⟨#[]⟩ (by omega)
 have hip : ∀ o ∈ L, IsP l.length o ∧ foldsO l o = true := fun o ho => by
  rw [← hL] at ho
  exact ⟨allO_isP ho, (mem_allO (allO_isP ho)).1 ho⟩
 rw [hL] at hpos hlt
 have hc : fold_Count.f l = some ((L.length : Int), 0) := by unfold fold_Count.f; rw [sizes_f, hs, ← hL]; rfl
 have hw1 : wrap64 a1 = a1 := by unfold wrap64; omega
 obtain ⟨k, hk⟩ : ∃ k : Nat, Int.tmod a1 (L.length : Int) = (k : Int) := ⟨(Int.tmod a1 (L.length : Int)).toNat, by have := Int.tmod_nonneg (L.length : Int) hr.1; omega⟩
 have hkl : k < L.length := by have := Int.tmod_lt_of_pos a1 (show (0 : Int) < (L.length : Int) by omega); omega
 obtain ⟨o, ho⟩ : ∃ o, L.getD k [] = o := ⟨_, rfl⟩
 have hok2 : L[k] = o := by rw [← ho, List.getD_eq_getElem?_getD, List.getElem?_eq_getElem hkl, Option.getD_some]
 obtain ⟨hP, hfo⟩ := hip o (hok2 ▸ List.getElem_mem hkl)
 have ha : fold_At.f l (k : Int) = some (o, 0) := by
  unfold fold_At.f
  rw [sizes_f, hs, Option.bind_some, if_pos rfl, if_pos (by omega), hL, Int.toNat_natCast, if_pos ⟨by omega, hkl⟩, ho]
 have hol : o.length < 512 := by rw [hP.len]; omega
 have hcs := creases_ev hol hs (permB_of hP)
 rw [if_pos hfo] at hcs
 have hcl := layR_cr l l.length
 obtain ⟨xs, hxs⟩ : ∃ xs, lettC (layR l l.length).cr o = xs := ⟨_, rfl⟩
 have hxl : xs.length < 1000 := by rw [← hxs]; unfold lettC; rw [List.length_map, List.length_range, hcl]; omega
 have hmv : ∀ v ∈ xs, v = 86 ∨ v = 77 := by rw [← hxs]; exact lettC_mv _ _
 have hlb := lett_back hok hP
 rw [hxs] at hcs hlb
 have hbw := backwards_ev l o xs (by omega) hxl (fun s hs => (hP.mem s).1 hs) (by omega)
 -- from the other end
 have hs2 : sizesB l.reverse 1 9 = true := by
  unfold sizesB at hs ⊢
  rw [List.all_reverse, List.length_reverse]; exact hs
 have hP2 : IsP l.reverse.length (mir l.length o) := by rw [List.length_reverse]; exact mir_isP hP
 have hcm : fold_Count.f l.reverse = some ((L.length : Int), 0) := by
  unfold fold_Count.f
  rw [sizes_f, hs2, ← hL, ← back_count hok]; rfl
 have hcu := creases_ev (by rw [hP2.len, List.length_reverse]; omega) hs2 (permB_of hP2)
 rw [if_pos (back_folds hok hP hfo), hlb] at hcu
 unfold gamplaw01_FoldBackwards.f
 refine Ev.bind hsl ?_
 refine Ev.congr (f := fun n => (gamplaw01_lives.f n).bind fun t226 => gamplaw01_FoldBackwards.j0 n a1 l (L.length : Int) (!t226)) (fun n => by rw [hc, Option.bind_some, if_pos rfl, if_neg (by omega)]) (Ev.bind lives_ev ?_)
 refine Ev.step (f := fun n => (fold_Creases.f n l o).bind fun bt231 => gamplaw01_FoldBackwards.j1 n l (L.length : Int) o bt231.1 (bt231.2 != 0)) (fun n => ?_) (Ev.bind hcs ?_)
 ·simp only [gamplaw01_FoldBackwards.j0]
  rw [if_neg (by simp), if_neg (by omega), hw1, hk, ha, Option.bind_some]
  congr 1
 ·by_cases hev : l.length % 2 = 0
  ·rw [if_pos hev] at hcu
   have hex := exchanged_ev xs.reverse (fun v hv => hmv v (List.mem_reverse.1 hv)) (by rw [List.length_reverse]; omega)
   refine Ev.step (f := fun n => (gamplaw01_backwards.f n l o (strOfNums xs)).bind fun bt233 => (gamplaw01_exchanged.f n bt233.2.2).bind fun t240 => (fold_Creases.f n bt233.1 bt233.2.1).bind fun bt241 => (fold_Count.f bt233.1).bind fun bt243 => if bt241.1.toList = t240.toList then (if bt241.2 = 0 then (if bt243.1 = (L.length : Int) then some (bt243.2 == 0) else some false) else some false) else some false) (fun n => ?_) (Ev.bind hbw (Ev.bind hex (Ev.bind hcu ?_)))
   ·simp only [gamplaw01_FoldBackwards.j1]
    rw [if_neg (by simp)]
    congr 1
    funext bt
    rw [if_pos (by omega)]
   ·exact Ev.congr (f := fun _ => some true) (fun n => by rw [hcm, Option.bind_some, if_pos rfl, if_pos rfl, if_pos rfl]; rfl) (Ev.now _)
  ·rw [if_neg hev] at hcu
   refine Ev.step (f := fun n => (gamplaw01_backwards.f n l o (strOfNums xs)).bind fun bt233 => (fold_Creases.f n bt233.1 bt233.2.1).bind fun bt245 => (fold_Count.f bt233.1).bind fun bt247 => if bt245.1.toList = bt233.2.2.toList then (if bt245.2 = 0 then (if bt247.1 = (L.length : Int) then some (bt247.2 == 0) else some false) else some false) else some false) (fun n => ?_) (Ev.bind hbw (Ev.bind hcu ?_))
   ·simp only [gamplaw01_FoldBackwards.j1]
    rw [if_neg (by simp)]
    congr 1
    funext bt
    rw [if_neg (by omega)]
   ·exact Ev.congr (f := fun _ => some true) (fun n => by rw [hcm, Option.bind_some, if_pos rfl, if_pos rfl, if_pos rfl]; rfl) (Ev.now _)
end Go.Proofs.Ytiknnpfdpecfdaa.Pure

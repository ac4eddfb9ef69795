/- The declarations of Mtl that the claim Qd needs. -/
import Derived.Test.YtiknnpfdpecfdaaQdZ7
import Derived.Test.YtiknnpfdpecfdaaQdOxx6
namespace Go.Proofs.Ytiknnpfdpecfdaa.Pure
open Go Go.RowKit Go.Proofs Go.Proofs.Ytiknnpfdpecfdaa.Own Go.Proofs.Ytiknnpfdpecfdaa.Hx Go.Proofs.Ytiknnpfdpecfdaa.Ox Go.Proofs.Ytiknnpfdpecfdaa.Gx Go.Proofs.YtiknnpfdpecfdaaW.PrintWords Go.Proofs.YtiknnpfdpecfdaaW.PrintLast
theorem u16_rng {x : Int} (h : (Lit.int .u16 x).wf = true) : 0 ≤ x ∧ x < 65536 := by
 have h2 : (decide (0 ≤ x) && decide (x ≤ 65535)) = true := h
 simp only [Bool.and_eq_true, decide_eq_true_eq] at h2
 omega
theorem u8_rng {x : Int} (h : (Lit.int .u8 x).wf = true) : 0 ≤ x ∧ x < 256 := by
 have h2 : (decide (0 ≤ x) && decide (x ≤ 255)) = true := h
 simp only [Bool.and_eq_true, decide_eq_true_eq] at h2
 omega
theorem turned_l0 (l : List Int) (a2 : Int) (m : Int) (hm : wrap64 (Int.tmod (wrap64 a2) 100 + 1) = m) (hm0 : 1 ≤ m) (hm1 : m ≤ 100) (hl : ∀ v ∈ l, 1 ≤ v ∧ v ≤ 6) (hlen : l.length < 1000) (cn : Int) (o : List Int) (s : ByteArray)
  (hc : fold_Count.f (l.map (· * m)) = some (cn, 0)) (hs : Ev (fun k => fold_Creases.f k (l.map (· * m)) o) (s, 0)) : ∀ (d i : Nat), i + d = l.length → Ev (fun k => gamplaw01_FoldTurned.l0 k a2 l cn o s ((l.take i).map (· * m)) (i : Int)) true := by
 intro d
 induction d with
 | zero =>
  intro i hi
  refine Ev.step (f := fun k => (fold_Creases.f k (l.map (· * m)) o).bind fun bt209 => if bt209.1.toList = s.toList then some (bt209.2 == 0) else some false) (fun k => ?_) (Ev.bind hs ?_)
  ·simp only [gamplaw01_FoldTurned.l0]
   rw [if_neg (by omega), List.take_of_length_le (by omega), hc, Option.bind_some]
   congr 1
   funext bt
   rw [if_pos rfl, if_pos rfl]
  ·exact Ev.congr (f := fun _ => some true) (fun k => by rw [if_pos rfl]; rfl) (Ev.now _)
 | succ d ih =>
  intro i hi
  have hil : i < l.length := by omega
  have hv := hl _ (List.getElem_mem hil)
  have hw : wrap64 (l[i] * m) = l[i] * m := by
   have h1 : 0 ≤ l[i] * m := Int.mul_nonneg (by omega) (by omega)
   have h2 : l[i] * m ≤ 6 * 100 := Int.mul_le_mul (by omega) hm1 (by omega) (by omega)
   unfold wrap64
   omega
  refine Ev.step (fun k => ?_) (ih (i + 1) (by omega))
  simp only [gamplaw01_FoldTurned.l0]
  rw [if_pos (by omega), if_pos (by omega), if_pos (by rw [List.length_map, List.length_take]; omega), hm, rd_nat l hil, hw, wup i (by omega), List.take_succ_eq_append_getElem hil, List.map_append]
  rfl
theorem FoldTurned : gamplaw01_FoldTurned.Pure := by
 intro l0 a1 a2 hm0 hm1 hwf hwa hwb
 apply Ev.rounds
 have hr := u16_rng hwa
 have hr2 := u8_rng hwb
 obtain ⟨l, hl⟩ : ∃ l, stripL l0 7 6 = l := ⟨_, rfl⟩
 have hsl := stripL_ev l0 7 6 (by decide) (by decide) (by decide) (by unfold maxLen at hm0; omega)
 obtain ⟨hs, hlen, hsz⟩ := stripL_ok l0 7 6 (by decide) (by decide) (by decide) (by decide)
 rw [hl] at hsl hs hlen hsz
 obtain ⟨hok, h1, h9⟩ := sizesB_ok hs (by decide)
 obtain ⟨L, hL⟩ : ∃ L, allO l ⟨#[]⟩ = L := ⟨_, rfl⟩
 have hpos := allO_pos hok
 have hlt := allO_le l ⟨#[]⟩ (by omega)
 have hip : ∀ o ∈ L, IsP l.length o ∧ foldsO l o = true := fun o ho => by
  rw [← hL] at ho
  exact ⟨allO_isP ho, (mem_allO (allO_isP ho)).1 ho⟩
 rw [hL] at hpos hlt
 have hc : fold_Count.f l = some ((L.length : Int), 0) := by unfold fold_Count.f; rw [sizes_f, hs, ← hL]; rfl
 have hw1 : wrap64 a1 = a1 := by unfold wrap64; omega
 obtain ⟨k, hk⟩ : ∃ k : Nat, Int.tmod a1 (L.length : Int) = (k : Int) := ⟨(Int.tmod a1 (L.length : Int)).toNat, by have := Int.tmod_nonneg (L.length : Int) hr.1; omega⟩
 have hkl : k < L.length := by have := Int.tmod_lt_of_pos a1 (show (0 : Int) < (L.length : Int) by omega); omega
 obtain ⟨o, ho⟩ : ∃ o, L.getD k [] = o := ⟨_, rfl⟩
 have hok2 : L[k] = o := by rw [← ho, List.getD_eq_getElem?_getD, List.getElem?_eq_getElem hkl, Option.getD_some]
 obtain ⟨hP, hfo⟩ := hip o (hok2 ▸ List.getElem_mem hkl)
 have ha : fold_At.f l (k : Int) = some (o, 0) := by
  unfold fold_At.f
  rw [sizes_f, hs, Option.bind_some, if_pos rfl, if_pos (by omega), hL, Int.toNat_natCast, if_pos ⟨by omega, hkl⟩, ho]
 have hol : o.length < 512 := by rw [hP.len]; omega
 have hcs := creases_ev hol hs (permB_of hP)
 rw [if_pos hfo] at hcs
 have hPr := rev_isP hP
 have hfr : foldsO l o.reverse = true := (folds_glob hok hPr).2 (rev_glob hP ((folds_glob hok hP).1 hfo))
 have hct := creases_ev (by rw [List.length_reverse]; exact hol) hs (permB_of hPr)
 rw [if_pos hfr, lett_rev hok hP] at hct
 have hrv := reversed_ev o (by omega)
 have hcl := layR_cr l l.length
 have hex := exchanged_ev (lettC (layR l l.length).cr o) (lettC_mv _ _) (by unfold lettC; rw [List.length_map, List.length_range, hcl]; omega)
 -- the longer strip
 obtain ⟨m, hm⟩ : ∃ m, wrap64 (Int.tmod (wrap64 a2) 100 + 1) = m := ⟨_, rfl⟩
 have hmr : 1 ≤ m ∧ m ≤ 100 := by
  have h2 := Int.tmod_nonneg 100 hr2.1
  have h3 := Int.tmod_lt_of_pos a2 (show (0 : Int) < 100 by decide)
  rw [← hm, show wrap64 a2 = a2 by unfold wrap64; omega]
  unfold wrap64
  omega
 have hs2 : sizesB (l.map (· * m)) 1 9 = true := by
  unfold sizesB
  rw [Bool.and_eq_true, List.all_eq_true, decide_eq_true_eq, List.length_map]
  refine ⟨fun v hv => ?_, by omega⟩
  obtain ⟨x, hx, rfl⟩ := List.mem_map.1 hv
  have h4 := hsz x hx
  have h5 : 1 * 1 ≤ x * m := Int.mul_le_mul h4.1 hmr.1 (by omega) (by omega)
  have h6 : x * m ≤ 6 * 100 := Int.mul_le_mul h4.2 hmr.2 (by omega) (by omega)
  exact decide_eq_true (by omega)
 obtain ⟨hok3, _, _⟩ := sizesB_ok hs2 (by decide)
 have hP2 : IsP (l.map (· * m)).length o := by rw [List.length_map]; exact hP
 have hcm : fold_Count.f (l.map (· * m)) = some ((L.length : Int), 0) := by
  unfold fold_Count.f
  rw [sizes_f, hs2, scale_all (by omega) hok hok3, ← hL]; rfl
 have hcu := creases_ev hol hs2 (permB_of hP2)
 rw [if_pos (by rw [scale_folds (by omega) hok hok3 hP]; exact hfo), lett_strip hok3 hP2, List.length_map, ← lett_strip hok hP] at hcu
 have hl0 := turned_l0 l a2 m hm hmr.1 hmr.2 hsz (by omega) (L.length : Int) o _ hcm hcu l.length 0 (by omega)
 unfold gamplaw01_FoldTurned.f
 refine Ev.bind hsl ?_
 refine Ev.congr (f := fun n => (gamplaw01_lives.f n).bind fun t187 => gamplaw01_FoldTurned.j0 n a1 a2 l (L.length : Int) (!t187)) (fun n => by rw [hc, Option.bind_some, if_pos rfl, if_neg (by omega)]) (Ev.bind lives_ev ?_)
 refine Ev.step (f := fun n => (fold_Creases.f n l o).bind fun bt192 => (gamplaw01_reversed.f n o).bind fun t194 => (fold_Creases.f n l t194).bind fun bt197 => if bt192.2 = 0 then (if bt197.2 = 0 then ((gamplaw01_exchanged.f n bt192.1).bind fun t199 => gamplaw01_FoldTurned.j1 n a2 l (L.length : Int) o bt192.1 (bt197.1.toList != t199.toList)) else gamplaw01_FoldTurned.j1 n a2 l (L.length : Int) o bt192.1 true) else gamplaw01_FoldTurned.j1 n a2 l (L.length : Int) o bt192.1 true) (fun n => ?_) (Ev.bind hcs (Ev.bind hrv (Ev.bind hct ?_)))
 ·simp only [gamplaw01_FoldTurned.j0]
  rw [if_neg (by simp), if_neg (by omega), hw1, hk, ha, Option.bind_some]
  congr 1
 ·refine Ev.congr (f := fun n => (gamplaw01_exchanged.f n (strOfNums (lettC (layR l l.length).cr o))).bind fun t199 => gamplaw01_FoldTurned.j1 n a2 l (L.length : Int) o (strOfNums (lettC (layR l l.length).cr o)) ((strOfNums ((lettC (layR l l.length).cr o).map exN)).toList != t199.toList)) (fun n => by rw [if_pos rfl, if_pos rfl]) (Ev.bind hex ?_)
  refine Ev.step (f := fun n => gamplaw01_FoldTurned.l0 n a2 l (L.length : Int) o (strOfNums (lettC (layR l l.length).cr o)) [] 0) (fun n => ?_) hl0
  simp only [gamplaw01_FoldTurned.j1]
  rw [if_neg (by simp)]
end Go.Proofs.Ytiknnpfdpecfdaa.Pure

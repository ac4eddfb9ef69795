/- The declarations of Mm that the claim Qb needs. -/
import Derived.Test.YtiknnpfdpecfdaaQbMi
import Derived.Test.YtiknnpfdpecfdaaQbMk
import Derived.Test.YtiknnpfdpecfdaaQbSxx1
namespace Go.Proofs.Ytiknnpfdpecfdaa.Own
open Go Go.RowKit Go.Proofs Go.Proofs.Ytiknnpfdpecfdaa.Gx Go.Proofs.Ytiknnpfdpecfdaa.Sx Go.Proofs.YtiknnpfdpecfdaaW.PrintWords Go.Proofs.YtiknnpfdpecfdaaW.PrintLast Go.Proofs.YtiknnpfdpecfdaaW.PrintMore
set_option linter.unusedVariables false
set_option linter.unusedSimpArgs false
theorem fold1_f (v n : Int) (h0 : 1 ≤ n) (h1 : n ≤ 1000) : ∃ s, Sx.gamplaw01_fold1.f v n = some s ∧ 1 ≤ s ∧ s ≤ n := by
 have h2 : -n < Int.tmod v n ∧ Int.tmod v n < n := ⟨by have := Int.lt_tmod_of_pos v (show 0 < n by omega); omega, Int.tmod_lt_of_pos v (by omega)⟩
 have h3 : wrap64 (Int.tmod v n + n) = Int.tmod v n + n := by unfold wrap64; omega
 have h4 : 0 ≤ Int.tmod (Int.tmod v n + n) n ∧ Int.tmod (Int.tmod v n + n) n < n := ⟨Int.tmod_nonneg _ (by omega), Int.tmod_lt_of_pos _ (by omega)⟩
 have h5 : wrap64 (Int.tmod (Int.tmod v n + n) n + 1) = Int.tmod (Int.tmod v n + n) n + 1 := by unfold wrap64; omega
 refine ⟨Int.tmod (Int.tmod v n + n) n + 1, ?_, by omega, by omega⟩
 unfold Sx.gamplaw01_fold1.f
 rw [if_neg (by omega), h3, h5]
theorem stamp_all (s : Int) (h0 : 1 ≤ s) (h1 : s ≤ 1000) (k : Nat) (hk : k < 9) : ((allO (List.replicate (k + 1) s) ⟨#[]⟩).length : Int) = (([1, 2, 6, 16, 50, 144, 462, 1392, 4536] : List Int).getD k 0) := by
 have hu := unit_count k s (by omega) h0 h1
 rw [hu]
 have hc : k = 0 ∨ k = 1 ∨ k = 2 ∨ k = 3 ∨ k = 4 ∨ k = 5 ∨ k = 6 ∨ k = 7 ∨ k = 8 := by omega
 rcases hc with rfl | rfl | rfl | rfl | rfl | rfl | rfl | rfl | rfl
 ·rw [cn1]; rfl
 ·rw [cn2]; rfl
 ·rw [cn3]; rfl
 ·rw [cn4]; rfl
 ·rw [cn5]; rfl
 ·rw [cn6]; rfl
 ·rw [cn7]; rfl
 ·rw [cn8]; rfl
 ·rw [cn9]; rfl
theorem u8_in {x : Int} (h : (Lit.int .u8 x).wf = true) : 0 ≤ x ∧ x < 256 := by
 have h2 : (decide (0 ≤ x) && decide (x ≤ 255)) = true := h
 simp only [Bool.and_eq_true, decide_eq_true_eq] at h2
 omega
end Go.Proofs.Ytiknnpfdpecfdaa.Own
namespace Go.Proofs.Ytiknnpfdpecfdaa.Pure
open Go.RowKit Go.Proofs.Ytiknnpfdpecfdaa.Own Go.Proofs.Ytiknnpfdpecfdaa.Gx Go.Proofs.Ytiknnpfdpecfdaa.Sx Go.Proofs.YtiknnpfdpecfdaaW.PrintWords Go.Proofs.YtiknnpfdpecfdaaW.PrintLast
theorem stamps_l0 (a1 s : Int) (hs : Sx.gamplaw01_fold1.f a1 1000 = some s) (h0 : 1 ≤ s) (h1 : s ≤ 1000) (k : Nat) (hk : k < 9) : ∀ (d i : Nat), i + d = k + 1 → Ev (fun n => gamplaw01_FoldStamps.l0 n a1 (k : Int) (List.replicate i s) (i : Int)) true := by
 intro d
 induction d with
 | zero =>
  intro i hi
  obtain rfl : i = k + 1 := by omega
  have hc : fold_Count.f (List.replicate (k + 1) s) = some (([1, 2, 6, 16, 50, 144, 462, 1392, 4536] : List Int).getD k 0, 0) := by
   unfold fold_Count.f
   rw [sizes_f]
   have hsz : sizesB (List.replicate (k + 1) s) 1 9 = true := by
    unfold sizesB
    rw [Bool.and_eq_true, List.all_eq_true, decide_eq_true_eq, List.length_replicate]
    exact ⟨fun x hx => by rw [List.eq_of_mem_replicate hx]; exact decide_eq_true ⟨h0, h1⟩, by omega⟩
   rw [hsz, Option.bind_some, if_pos rfl, stamp_all s h0 h1 k hk]
  have hst : stampAt.f (k : Int) = some (([1, 2, 6, 16, 50, 144, 462, 1392, 4536] : List Int).getD k 0) := by
   unfold stampAt.f
   rw [if_pos (by omega), Int.toNat_natCast]
  refine Ev.step (f := fun n => (gamplaw01_lives.f n).bind fun t => some t) (fun n => ?_) (Ev.bind lives_ev (Ev.now _))
  simp only [gamplaw01_FoldStamps.l0]
  rw [if_neg (by omega), hc, hst, Option.bind_some, Option.bind_some, if_pos rfl, if_pos rfl]
 | succ d ih =>
  intro i hi
  refine Ev.step (fun n => ?_) (ih (i + 1) (by omega))
  simp only [gamplaw01_FoldStamps.l0]
  rw [if_pos (by omega), hs, Option.bind_some, if_pos (by rw [List.length_replicate]; omega), wup i (by omega), List.replicate_succ']
theorem FoldStamps : gamplaw01_FoldStamps.Pure := by
 intro a0 a1 h0 h1
 apply Ev.rounds
 have hr := u8_in h0
 obtain ⟨s, hs, hs0, hs1⟩ := fold1_f a1 1000 (by decide) (by decide)
 unfold gamplaw01_FoldStamps.f
 have hw : wrap64 a0 = a0 := by unfold wrap64; omega
 obtain ⟨k, hk⟩ : ∃ k : Nat, Int.tmod a0 9 = (k : Int) := ⟨(Int.tmod a0 9).toNat, by have := Int.tmod_nonneg 9 hr.1; omega⟩
 have hk9 : k < 9 := by have := Int.tmod_lt_of_pos a0 (show (0 : Int) < 9 by decide); omega
 rw [hw, hk]
 exact stamps_l0 a1 s hs hs0 hs1 k hk9 (k + 1) 0 (by omega)
end Go.Proofs.Ytiknnpfdpecfdaa.Pure

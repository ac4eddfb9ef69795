/- The declarations of Mg that the claim Qa needs. -/
import Derived.Test.YtiknnpfdpecfdaaQaZ1
import Derived.Test.YtiknnpfdpecfdaaQaGxx8
namespace Go.Proofs.Ytiknnpfdpecfdaa.Own
open Go Go.RowKit Go.Proofs Go.Proofs.Ytiknnpfdpecfdaa.Gx Go.Proofs.YtiknnpfdpecfdaaW.PrintWords Go.Proofs.YtiknnpfdpecfdaaW.PrintLast Go.Proofs.YtiknnpfdpecfdaaW.PrintMore
set_option linter.unusedVariables false
set_option linter.unusedSimpArgs false
theorem wf_i64 {x : Int} (h : (Lit.int .i64 x).wf = true) : -9223372036854775808 ≤ x ∧ x < 9223372036854775808 := by
 have h2 : (decide (-9223372036854775808 ≤ x) && decide (x ≤ 9223372036854775807)) = true := h
 simp only [Bool.and_eq_true, decide_eq_true_eq] at h2
 omega
end Go.Proofs.Ytiknnpfdpecfdaa.Own
namespace Go.Proofs.Ytiknnpfdpecfdaa.Pure
open Go.RowKit Go.Proofs.Ytiknnpfdpecfdaa.Own Go.Proofs.Ytiknnpfdpecfdaa.Gx Go.Proofs.YtiknnpfdpecfdaaW.PrintWords Go.Proofs.YtiknnpfdpecfdaaW.PrintLast
theorem FoldCounts : gamplaw01_FoldCounts.Pure := by
 intro l0 a1 hm0 hm1 hwf hwa
 apply Ev.rounds
 have hr := wf_i64 hwa
 have hcut := cut_f l0 6 9 (by decide) (by decide) (by unfold maxLen at hm0; omega)
 obtain ⟨l, hl⟩ : ∃ l, cutL l0 6 9 = l := ⟨_, rfl⟩
 have hlen : l.length < 2 ^ 40 := by
  rw [← hl]; unfold cutL
  split <;> rw [List.length_take] <;> omega
 unfold gamplaw01_FoldCounts.f
 refine Ev.congr (f := fun k => (some l).bind _) (fun k => by rw [show (6 : Int) = ((6 : Nat) : Int) from rfl, show (9 : Int) = ((9 : Nat) : Int) from rfl, hcut, hl]) ?_
 refine Ev.bind (Ev.now _) ?_
 cases hs : sizesB l 1 9 with
 | false =>
  have hc : fold_Count.f l = some (0, 1) := by unfold fold_Count.f; rw [sizes_f, hs]; rfl
  have ha : fold_At.f l a1 = some ([], 1) := by unfold fold_At.f; rw [sizes_f, hs]; rfl
  have hst := strip_ev l hlen
  rw [hs] at hst
  refine Ev.congr (f := fun k => (gampref01_Strip.f k l).bind _) (fun k => by rw [hc, Option.bind_some, ha, Option.bind_some]) ?_
  refine Ev.bind hst ?_
  refine Ev.congr (f := fun k => (gamplaw01_lives.f k).bind fun t => some t) (fun k => by rw [if_neg (by simp), if_pos rfl, if_pos rfl, if_pos (by simp), if_pos rfl]) ?_
  exact Ev.bind lives_ev (Ev.now _)
 | true =>
  obtain ⟨hok, h1, h9⟩ := sizesB_ok hs (by decide)
  have hc : fold_Count.f l = some (((allO l ⟨#[]⟩).length : Int), 0) := by unfold fold_Count.f; rw [sizes_f, hs]; rfl
  have ha : fold_At.f l a1 = some (if 0 ≤ a1 ∧ a1.toNat < (allO l ⟨#[]⟩).length then ((allO l ⟨#[]⟩).getD a1.toNat [], 0) else ([], 5)) := by
   unfold fold_At.f; rw [sizes_f, hs, Option.bind_some, if_pos rfl, if_pos hr]
  have hst := strip_ev l hlen
  rw [hs] at hst
  obtain ⟨L, hL⟩ : ∃ L, allO l ⟨#[]⟩ = L := ⟨_, rfl⟩
  have hall := all_strip hok (by omega) (by omega)
  rw [hL] at hc ha hall
  have key : ∀ (o : List Int) (e : Int), fold_At.f l a1 = some (o, e) → Ev (fun k => gamplaw01_FoldCounts.j0 k a1 o e L false) true → Ev (fun k => (fold_Count.f l).bind fun bt323 => ((fold_At.f l a1).bind fun bt325 => ((gampref01_Strip.f k l).bind fun t329 => (if t329 = true then ((gampref01_All.f k l false).bind fun t331 => (if bt323.1 = (t331.length : Int) then (if bt323.2 = 0 then ((gamplaw01_lives.f k).bind fun t334 => (gamplaw01_FoldCounts.j0 k a1 bt325.1 bt325.2 t331 (!t334))) else (gamplaw01_FoldCounts.j0 k a1 bt325.1 bt325.2 t331 true)) else (gamplaw01_FoldCounts.j0 k a1 bt325.1 bt325.2 t331 true))) else (if bt323.1 = 0 then (if bt323.2 = 1 then (if (bt325.1.length : Int) = 0 then (if bt325.2 = 1 then ((gamplaw01_lives.f k).bind fun t330 => (some t330)) else (some false)) else (some false)) else (some false)) else (some false)))))) true := by
   intro o e he hj
   refine Ev.congr (f := fun k => (gampref01_Strip.f k l).bind _) (fun k => by rw [hc, Option.bind_some, he, Option.bind_some]) ?_
   refine Ev.bind hst ?_
   refine Ev.congr (f := fun k => (gampref01_All.f k l false).bind _) (fun k => by rw [if_pos rfl]) ?_
   refine Ev.bind hall ?_
   refine Ev.congr (f := fun k => (gamplaw01_lives.f k).bind _) (fun k => by rw [if_pos rfl, if_pos rfl]) ?_
   exact Ev.bind lives_ev hj
  by_cases h2 : a1 < 0
  ·rw [if_neg (fun h => by omega)] at ha
   refine key _ _ ha (Ev.step (f := fun _ => some true) (fun k => ?_) (Ev.now _))
   simp only [gamplaw01_FoldCounts.j0]
   rw [if_neg (by simp), if_pos h2]
   rfl
  ·by_cases h3 : a1 ≥ (L.length : Int)
   ·rw [if_neg (fun h => by omega)] at ha
    refine key _ _ ha (Ev.step (f := fun _ => some true) (fun k => ?_) (Ev.now _))
    simp only [gamplaw01_FoldCounts.j0]
    rw [if_neg (by simp), if_neg h2, if_pos h3]
    rfl
   ·rw [if_pos ⟨by omega, by omega⟩] at ha
    have hm : L.getD a1.toNat [] ∈ L := by
     rw [List.getD_eq_getElem?_getD, List.getElem?_eq_getElem (by omega), Option.getD_some]
     exact List.getElem_mem _
    have hlo : (L.getD a1.toNat []).length < 2 ^ 40 := by
     rw [← hL] at hm
     unfold allO at hm
     rw [growF_eq, (layR_len l l.length).1] at hm
     rw [← hL]
     unfold allO
     rw [growF_eq, (layR_len l l.length).1]
     rw [(isP_of (List.mem_filter.1 hm).1).len]
     omega
    have hsm := same_ev (L.getD a1.toNat []) (Gx.rd_L1 L a1) hlo
    rw [decide_eq_true (show L.getD a1.toNat [] = Gx.rd_L1 L a1 from rfl)] at hsm
    refine key _ _ ha (Ev.step (f := fun k => (gampref01_Same.f k (L.getD a1.toNat []) (Gx.rd_L1 L a1)).bind fun t => if t = true then some true else some false) (fun k => ?_) (Ev.bind hsm (Ev.now _)))
    simp only [gamplaw01_FoldCounts.j0]
    rw [if_neg (by simp), if_neg h2, if_neg h3, if_pos (by omega), if_pos (by omega)]
    rfl
end Go.Proofs.Ytiknnpfdpecfdaa.Pure

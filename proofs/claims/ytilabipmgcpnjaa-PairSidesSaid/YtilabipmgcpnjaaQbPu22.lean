/- The declarations of Pu22 that the claim Qb needs. -/
import Derived.Test.YtilabipmgcpnjaaQbPu21
namespace Go.Proofs.Ytilabipmgcpnjaa.Pure
open Go.RowKit Go.Proofs.Ytilabipmgcpnjaa.Own Go.Proofs.Ytilabipmgcpnjaa.Fn Go.Proofs.YtilabipmgcpnjaaW.PrintWords Go.Proofs.YtilabipmgcpnjaaW.PrintLast Go.Proofs.YtilabipmgcpnjaaW.PrintMore Go.Proofs.Ytilabipmgcpnjaa.Tan Go.Proofs.Ytilabipmgcpnjaa.Cyc
set_option linter.unusedVariables false
set_option linter.unusedSimpArgs false
theorem PairSides : gamplaw07_PairSides.Pure := by
  intro a0 l1 w0 _ _ wl
  have hpk : ∀ x ∈ l1, 0 ≤ x ∧ x < 65536 := fun x hx => by
    have := wl x hx
    simp [Lit.wf] at this
    have e1 : IntKind.u16.min = 0 := by decide
    have e2 : IntKind.u16.max = 65535 := by decide
    omega
  have hb : 0 ≤ a0 ∧ a0 < 256 := by
    simp [Lit.wf] at w0
    have e1 : IntKind.u8.min = 0 := by decide
    have e2 : IntKind.u8.max = 255 := by decide
    omega
  obtain ⟨x, rfl⟩ := Int.eq_ofNat_of_zero_le hb.1
  have htm : Int.tmod (x : Int) 5 = ((x % 5 : Nat) : Int) := rfl
  refine Ev.rounds ?_
  have hx5 := Nat.mod_lt x (show 0 < 5 by omega)
  have harg : ((2 * (Int.tmod (x : Int) 5)) % 256) + 1 = ((2 * (x % 5) + 1 : Nat) : Int) := by rw [htm]; omega
  obtain ⟨Ls, hv, hmost, hlen, hmade⟩ := made_ev (((2 * (Int.tmod (x : Int) 5)) % 256) + 1) hpk (by omega) (by omega) 10 (by omega) (by omega)
  have hlen2 : Ls.length = 2 * (x % 5 + 1) := by
    rw [harg] at hlen
    have : Int.tmod ((2 * (x % 5) + 1 : Nat) : Int) ((10 : Nat) : Int) = (((2 * (x % 5) + 1) % 10 : Nat) : Int) := rfl
    rw [this] at hlen
    omega
  obtain ⟨h, hh⟩ : ∃ h, h = x % 5 + 1 := ⟨_, rfl⟩
  rw [← hh] at hlen2
  have hvS := side_valid (h := h) hv
  have hlS := side_len (h := h) (Ls := Ls)
  have hrow : ∀ i, (Ls.getD i []).length ≤ 1000 := fun i => by
    by_cases hi : i < Ls.length
    · rw [(hv.2.2 i hi).2.2]; omega
    · rw [List.getD_eq_getElem?_getD, List.getElem?_eq_none (by omega)]; simp
  have hpref : ∀ i a b, i < Ls.length → a < Ls.length → b < Ls.length → acr h i a = true → acr h i b = false → rkOf (sideF h Ls 0 Ls.length) i a < rkOf (sideF h Ls 0 Ls.length) i b := fun i a b hi ha _ h1 h2 => side_pref hv hi ha h1 h2
  generalize hS : sideF h Ls 0 Ls.length = S at hvS hlS hpref
  obtain ⟨P, hP, _⟩ := readF_valid hvS
  obtain ⟨R, hs, _, e2, e3⟩ := partition_ev hvS
  have hpt := sol_part hvS hs
  have hperm := perm2_of (sol_perm hvS hs)
  have hq := side_across (h := h) (n := S.length) (by omega) hpt (by rw [hlS]; exact hpref)
  have hp := side_next hpt hq
  have hodds := side_odds hperm hp
  rw [hodds] at e2 e3
  have hlong : longF ((odds (nx R) S.length).map ints) = false := by rw [hodds]; rfl
  rw [show longF (([] : List (List Nat)).map ints) = false from rfl] at e3
  simp only [Bool.false_eq_true, if_false] at e3
  obtain ⟨hm, hst, how⟩ := solo_ok hvS hs hlong
  have hmat := matching_ev (soloF 0 R) S.length (by omega)
  rw [matching_iff.2 hm] at hmat
  have hbl := blocks_ev hP (matching_iff.2 hm)
  rw [(stable_iff hP hm).2 hst] at hbl
  have h0 : Ev (fun k => gamplaw07_PairSides.l2 k (h : Int) S (soloF 0 R) ((0 : Nat) : Int)) true := by
    refine sd_l2 (h := h) (by omega) hm.1 (fun i hi => ?_) ?_ S.length 0 (by omega)
    · have h1 := how i hi
      have h2 := hp i hi
      rcases ow_at hm hi with ⟨_, h4⟩ | ⟨h3, _⟩
      · rw [h1] at h4
        rw [h4, acr_iff] at h2
        omega
      · exact ⟨_, h3, by rw [h1]; exact h2⟩
    · refine Ev.bind hbl (Ev.bind e2 ?_)
      simp only [refRes, Bool.false_eq_true, if_false]
      exact Ev.now _
  have h1 : Ev (fun k => gamplaw07_PairSides.j2 k (h : Int) S (soloF 0 R) (!true)) true := by
    refine Ev.step (fun k => ?_) h0
    simp only [gamplaw07_PairSides.j2, Bool.not_true, Bool.false_eq_true, if_false]
    rfl
  have h2 : Ev (fun k => gamplaw07_PairSides.l0 k Ls (h : Int) ([] ++ sideF h Ls 0 Ls.length) (Ls.length : Int)) true := by
    rw [List.nil_append, hS]
    refine Ev.step (f := fun k => (pair_Match.f k S).bind fun bt548 => (if bt548.2 = 0 then ((gampref07_Matching.f k (S.length : Int) bt548.1).bind fun t552 => (if t552 = true then ((gamplaw07_lives.f k).bind fun t553 => (gamplaw07_PairSides.j2 k (h : Int) S bt548.1 (!t553))) else (gamplaw07_PairSides.j2 k (h : Int) S bt548.1 true))) else (gamplaw07_PairSides.j2 k (h : Int) S bt548.1 true))) (fun k => ?_) (Ev.bind e3 ?_)
    · simp only [gamplaw07_PairSides.l0]
      rw [if_neg (by omega)]
    · simp only [if_true]
      refine Ev.bind hmat ?_
      simp only [if_true]
      exact Ev.bind (f := fun k t => gamplaw07_PairSides.j2 k (h : Int) S (soloF 0 R) (!t)) lives_ev h1
  have h3 := sd_l0 (h := h) hrow (by omega) (r := true) Ls.length 0 [] (by omega) (by simp) h2
  have hw : wrap64 ((Ls.length : Int) / 2) = (h : Int) := by unfold wrap64; omega
  unfold gamplaw07_PairSides.f
  refine Ev.bind (f := fun k t517 => gamplaw07_PairSides.l0 k t517 (wrap64 ((t517.length : Int) / 2)) (([] : List (List Int))) 0) hmade ?_
  rw [hw]
  exact h3
end Go.Proofs.Ytilabipmgcpnjaa.Pure

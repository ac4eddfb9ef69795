/- The declarations of Pu23 that the claim Qe needs. -/
import Derived.Test.YtilabipmgcpnjaaQePu18
import Derived.Test.YtilabipmgcpnjaaQePu14
import Derived.Test.YtilabipmgcpnjaaQeFnx18
namespace Go.Proofs.Ytilabipmgcpnjaa.Pure
open Go.RowKit Go.Proofs.Ytilabipmgcpnjaa.Own Go.Proofs.Ytilabipmgcpnjaa.Fn Go.Proofs.YtilabipmgcpnjaaW.PrintWords Go.Proofs.YtilabipmgcpnjaaW.PrintLast Go.Proofs.YtilabipmgcpnjaaW.PrintMore Go.Proofs.Ytilabipmgcpnjaa.Tan Go.Proofs.Ytilabipmgcpnjaa.Cyc
set_option linter.unusedVariables false
set_option linter.unusedSimpArgs false
section
variable {Ls : List (List Int)} {m M : List Int} {A : List (List Int)} {t : Nat} {r : Bool}
theorem ev_one (st : Int) (i : Nat) (ht : t ≤ 1000) (h : Ev (fun k => gamplaw07_PairEven.l2 k Ls m A st M ((t + 1 : Nat) : Int)) r) :
    Ev (fun k => gamplaw07_PairEven.l3 k Ls m A st M (t : Int) (ints [i]) 0) r := by
  refine Ev.step (fun k => ?_) h
  have e1 : wrap64 (0 + 1) = 1 := by unfold wrap64; decide
  have e2 : ((ints [i]).length : Int) = 1 := rfl
  simp only [gamplaw07_PairEven.l3]
  rw [e1, e2, if_neg (by omega), wrap_s (by omega)]
theorem ev_two (st : Int) (hst : st = 0 ∨ st = 1) {i j : Nat} (hi : i < M.length) (hj : j < M.length) (ht : t ≤ 1000) (h : ∀ a b, (a = i ∧ b = j) ∨ (a = j ∧ b = i) → Ev (fun k => gamplaw07_PairEven.l2 k Ls m A st ((M.set a (b : Int)).set b (a : Int)) ((t + 1 : Nat) : Int)) r) :
    Ev (fun k => gamplaw07_PairEven.l3 k Ls m A st M (t : Int) (ints [i, j]) 0) r := by
  have e1 : wrap64 (0 + 1) = 1 := by unfold wrap64; decide
  have e2 : ((ints [i, j]).length : Int) = 2 := rfl
  have e3 : wrap64 (0 + 2) = 2 := by unfold wrap64; decide
  have e4 : wrap64 (2 + 1) = 3 := by unfold wrap64; decide
  have r0 : rd (ints [i, j]) 0 = (i : Int) := rfl
  have r1 : rd (ints [i, j]) 1 = (j : Int) := rfl
  have fin : ∀ M' : List Int, Ev (fun k => gamplaw07_PairEven.l2 k Ls m A st M' ((t + 1 : Nat) : Int)) r → Ev (fun k => gamplaw07_PairEven.l3 k Ls m A st M' (t : Int) (ints [i, j]) 2) r := by
    intro M' h'
    refine Ev.step (fun k => ?_) h'
    simp only [gamplaw07_PairEven.l3]
    rw [e4, e2, if_neg (by omega), wrap_s (by omega)]
  rcases hst with rfl | rfl
  · have t1 : Int.tmod (wrap64 (0 + 0)) 2 = 0 := by unfold wrap64; decide
    have t2 : Int.tmod (wrap64 (wrap64 (0 + 0) + 1)) 2 = 1 := by unfold wrap64; decide
    refine Ev.step (fun k => ?_) (fin _ (h i j (.inl ⟨rfl, rfl⟩)))
    simp only [gamplaw07_PairEven.l3]
    rw [e1, e2, t1, t2, r0, r1, e3, if_pos (by omega), if_neg (by omega), if_pos (by omega), if_pos (by omega), if_pos (by omega), if_pos (by omega), if_pos (by omega), if_pos (by omega), if_pos (by omega), if_pos (by omega), Int.toNat_natCast, Int.toNat_natCast]
  · have t1 : Int.tmod (wrap64 (0 + 1)) 2 = 1 := by unfold wrap64; decide
    have t2 : Int.tmod (wrap64 (wrap64 (0 + 1) + 1)) 2 = 0 := by unfold wrap64; decide
    refine Ev.step (fun k => ?_) (fin _ (h j i (.inr ⟨rfl, rfl⟩)))
    simp only [gamplaw07_PairEven.l3]
    rw [e2, t1, t2, r0, r1, e1, e3, if_pos (by omega), if_neg (by omega), if_pos (by omega), if_pos (by omega), if_pos (by omega), if_pos (by omega), if_pos (by omega), if_pos (by omega), if_pos (by omega), if_pos (by omega), Int.toNat_natCast, Int.toNat_natCast]
end
/-- Where nobody is in a party of three or more: the parties. -/
theorem orbit_inv {n : Nat} {p : Nat → Nat} (hinv : ∀ a, a < n → p (p a) = a) (hlt : ∀ a, a < n → p a < n) {i : Nat} (hi : i < n) : (p i = i ∧ orbit p n i = [i]) ∨ (p i ≠ i ∧ orbit p n i = [i, p i]) := by
  by_cases e : p i = i
  · left
    have hper : IsPer p i 1 := ⟨Nat.le_refl 1, e, fun t h1 h2 => by omega⟩
    exact ⟨e, by rw [orbit_eq hper (n := n) (by omega)]; rfl⟩
  · right
    have hper : IsPer p i 2 := ⟨by omega, hinv i hi, fun t h1 h2 => by
      have : t = 1 := by omega
      subst this
      exact e⟩
    have h2 : 2 ≤ n := by have := hlt i hi; omega
    exact ⟨e, by rw [orbit_eq hper h2]; rfl⟩
def soloV (p : Nat → Nat) (x : Nat) : Int := if p x = x then -1 else (p x : Int)
structure EInv (n : Nat) (p : Nat → Nat) (Pt : List (List Nat)) (t : Nat) (M : List Int) : Prop where
  len : M.length = n
  val : ∀ x, x < n → M.getD x 0 = -1 ∨ M.getD x 0 = soloV p x
  cov : ∀ x, x < n → ∀ s, s < t → x ∈ Pt.getD s [] → M.getD x 0 = soloV p x
section
variable {Ls P : List (List Int)} {R m : List Int}
theorem even_l2 (hn : Ls.length ≤ 24) (hperm : IsPerm R Ls.length) (hinv : ∀ a, a < Ls.length → nx R (nx R a) = a) (st : Int) (hst : st = 0 ∨ st = 1) {r : Bool}
    (hc : ∀ M : List Int, M.length = Ls.length → (∀ x, x < Ls.length → M.getD x 0 = soloV (nx R) x) → Ev (fun k => (gampref07_Blocks.f k Ls M).bind fun bt655 => (if bt655.2.2 = true then (some false) else ((pair_Blocks.f Ls M).bind fun bt658 => (if bt658.2.2 = 5 then (gamplaw07_PairEven.l1 k Ls m ((parties (nx R) Ls.length).map ints) (wrap64 (st + 1))) else (some false))))) r) :
    ∀ (d t : Nat) (M : List Int), t + d = (parties (nx R) Ls.length).length → EInv Ls.length (nx R) (parties (nx R) Ls.length) t M →
    Ev (fun k => gamplaw07_PairEven.l2 k Ls m ((parties (nx R) Ls.length).map ints) st M (t : Int)) r
  | 0, t, M, hd, hM => by
    have h2 := perm2_of hperm
    refine Ev.step (fun k => ?_) (hc M hM.len fun x hx => ?_)
    · simp only [gamplaw07_PairEven.l2]
      rw [if_neg (by rw [List.length_map]; omega)]
    · -- everybody is in some party
      obtain ⟨y, hy, hmin⟩ := exists_min (P := fun y => y ∈ orbit (nx R) Ls.length x) (f := id) ⟨x, orb_self h2 hx⟩
      have hyn := orb_lt h2 hx hy
      have hym : isMin (nx R) Ls.length y = true := isMin_iff.2 fun z hz => by simpa using hmin z (orb_trans h2 hx hy hz)
      have hin : orbit (nx R) Ls.length y ∈ parties (nx R) Ls.length := List.mem_map.2 ⟨y, List.mem_filter.2 ⟨List.mem_range.2 hyn, hym⟩, rfl⟩
      obtain ⟨s, hs, he⟩ := List.getElem_of_mem hin
      refine hM.cov x hx s (by omega) ?_
      rw [List.getD_eq_getElem?_getD, List.getElem?_eq_getElem hs, Option.getD_some, he]
      exact orb_sym h2 hx hy
  | d + 1, t, M, hd, hM => by
    have h2 := perm2_of hperm
    have hpl := parties_len (nx R) Ls.length
    have ht : t < (parties (nx R) Ls.length).length := by omega
    obtain ⟨i, hi, he⟩ := List.mem_map.1 (List.getElem_mem ht)
    rw [List.mem_filter, List.mem_range] at hi
    have hin := hi.1
    have hg : rd_L1 ((parties (nx R) Ls.length).map ints) (t : Int) = ints (orbit (nx R) Ls.length i) := by
      rw [rdL_get, List.getD_eq_getElem?_getD, List.getElem?_map, List.getElem?_eq_getElem ht, ← he]; rfl
    have hpt : (parties (nx R) Ls.length).getD t [] = orbit (nx R) Ls.length i := by
      rw [List.getD_eq_getElem?_getD, List.getElem?_eq_getElem ht, ← he]; rfl
    refine Ev.step (f := fun k => gamplaw07_PairEven.l3 k Ls m ((parties (nx R) Ls.length).map ints) st M (t : Int) (ints (orbit (nx R) Ls.length i)) 0) (fun k => by
      simp only [gamplaw07_PairEven.l2]
      rw [if_pos (by rw [List.length_map]; omega), if_pos (by omega), hg]) ?_
    rcases orbit_inv hinv h2.pn hin with ⟨e, ho⟩ | ⟨e, ho⟩
    · rw [ho]
      refine ev_one st i (by omega) (even_l2 hn hperm hinv st hst hc d (t + 1) M (by omega) ⟨hM.len, hM.val, fun x hx s hs hxs => ?_⟩)
      by_cases es : s = t
      · subst es
        rw [hpt, ho, List.mem_singleton] at hxs
        subst hxs
        have hsv : soloV (nx R) x = -1 := by unfold soloV; rw [if_pos e]
        rcases hM.val x hx with h | h
        · rw [h, hsv]
        · exact h
      · exact hM.cov x hx s (by omega) hxs
    · rw [ho]
      have hpi := h2.pn i hin
      have hii := hinv i hin
      refine ev_two st hst (by rw [hM.len]; exact hin) (by rw [hM.len]; exact hpi) (by omega) fun a b hab => ?_
      have hab' : a < Ls.length ∧ b < Ls.length ∧ a ≠ b ∧ nx R a = b ∧ nx R b = a ∧ ∀ x, x ∈ [i, nx R i] → x = a ∨ x = b := by
        rcases hab with ⟨rfl, rfl⟩ | ⟨rfl, rfl⟩
        · exact ⟨hin, hpi, fun h => e h.symm, rfl, hii, fun x hx => by simpa using hx⟩
        · exact ⟨hpi, hin, e, hii, rfl, fun x hx => by simp at hx; omega⟩
      obtain ⟨ha, hb, hne, hna, hnb, hmem⟩ := hab'
      have hset : ∀ x, ((M.set a (b : Int)).set b (a : Int)).getD x 0 = if x = b then (a : Int) else if x = a then (b : Int) else M.getD x 0 := by
        intro x
        rw [getD_set, getD_set, List.length_set, hM.len]
        by_cases e1 : x = b
        · rw [if_pos ⟨e1.symm, by omega⟩, if_pos e1]
        · rw [if_neg (fun h => e1 h.1.symm), if_neg e1]
          by_cases e2 : x = a
          · rw [if_pos ⟨e2.symm, by omega⟩, if_pos e2]
          · rw [if_neg (fun h => e2 h.1.symm), if_neg e2]
      have hsa : soloV (nx R) a = (b : Int) := by unfold soloV; rw [hna, if_neg (fun h => hne h.symm)]
      have hsb : soloV (nx R) b = (a : Int) := by unfold soloV; rw [hnb, if_neg hne]
      refine even_l2 hn hperm hinv st hst hc d (t + 1) _ (by omega) ⟨by rw [List.length_set, List.length_set]; exact hM.len, fun x hx => ?_, fun x hx s hs hxs => ?_⟩
      · rw [hset]
        by_cases e1 : x = b
        · rw [if_pos e1, e1]; exact .inr hsb.symm
        · rw [if_neg e1]
          by_cases e2 : x = a
          · rw [if_pos e2, e2]; exact .inr hsa.symm
          · rw [if_neg e2]; exact hM.val x hx
      · rw [hset]
        by_cases e1 : x = b
        · rw [if_pos e1, e1, hsb]
        · rw [if_neg e1]
          by_cases e2 : x = a
          · rw [if_pos e2, e2, hsa]
          · rw [if_neg e2]
            by_cases es : s = t
            · subst es
              rw [hpt, ho] at hxs
              rcases hmem x hxs with h | h
              · exact absurd h e2
              · exact absurd h e1
            · exact hM.cov x hx s (by omega) hxs
theorem even_l0 {e : Int} {A : List (List Int)} (hA : A.length ≤ 1000) : ∀ (d t : Nat), t + d = A.length →
    ((∃ s, t ≤ s ∧ s < A.length ∧ (A.getD s []).length % 2 = 1 ∧ 1 < (A.getD s []).length) → e = 5) →
    ((∀ s, t ≤ s → s < A.length → ¬ ((A.getD s []).length % 2 = 1 ∧ 1 < (A.getD s []).length)) → Ev (fun k => if e = 0 then ((gampref07_Matching.f k (Ls.length : Int) m).bind fun t643 => (gamplaw07_PairEven.j2 k Ls m A (!t643))) else (gamplaw07_PairEven.j2 k Ls m A true)) true) →
    Ev (fun k => gamplaw07_PairEven.l0 k Ls m e A (t : Int)) true
  | 0, t, hd, _, hc => by
    refine Ev.step (fun k => ?_) (hc fun s h1 h2 => by omega)
    simp only [gamplaw07_PairEven.l0]
    rw [if_neg (by omega)]
  | d + 1, t, hd, h5, hc => by
    have ht : t < A.length := by omega
    have hg : rd_L1 A (t : Int) = A.getD t [] := rdL_get t
    by_cases h1 : (A.getD t []).length % 2 = 1
    · by_cases h2 : 1 < (A.getD t []).length
      · have he := h5 ⟨t, Nat.le_refl _, ht, h1, h2⟩
        refine Ev.step (f := fun _ => some true) (fun k => ?_) (Ev.now _)
        simp only [gamplaw07_PairEven.l0]
        rw [if_pos (by omega), if_pos (by omega), hg, if_pos (by omega), if_pos (by omega), he]; rfl
      · refine Ev.step (fun k => ?_) (even_l0 hA d (t + 1) (by omega) (fun ⟨s, hs⟩ => h5 ⟨s, by omega, hs.2⟩) (fun hall => hc fun s hs1 hs2 => ?_))
        · simp only [gamplaw07_PairEven.l0]
          rw [if_pos (by omega), if_pos (by omega), hg, if_pos (by omega), if_neg (by omega), wrap_s (by omega)]
        · by_cases e1 : s = t
          · subst e1; omega
          · exact hall s (by omega) hs2
    · refine Ev.step (fun k => ?_) (even_l0 hA d (t + 1) (by omega) (fun ⟨s, hs⟩ => h5 ⟨s, by omega, hs.2⟩) (fun hall => hc fun s hs1 hs2 => ?_))
      · simp only [gamplaw07_PairEven.l0]
        rw [if_pos (by omega), if_pos (by omega), hg, if_neg (by omega), wrap_s (by omega)]
      · by_cases e1 : s = t
        · subst e1; omega
        · exact hall s (by omega) hs2
end
theorem PairEven : gamplaw07_PairEven.Pure := by
  intro a0 l1 w0 _ _ wl
  have hpk : ∀ x ∈ l1, 0 ≤ x ∧ x < 65536 := fun x hx => by
    have := wl x hx
    simp [Lit.wf] at this
    have e1 : IntKind.u16.min = 0 := by decide
    have e2 : IntKind.u16.max = 65535 := by decide
    omega
  have hb : 0 ≤ a0 ∧ a0 < 256 := by
    simp [Lit.wf] at w0
    have e1 : IntKind.u8.min = 0 := by decide
    have e2 : IntKind.u8.max = 255 := by decide
    omega
  refine Ev.rounds ?_
  obtain ⟨Ls, hv, _, _, hmade⟩ := made_ev a0 hpk hb.1 hb.2 24 (by omega) (by omega)
  have h24 := hv.2.1
  obtain ⟨P, hP, _⟩ := readF_valid hv
  obtain ⟨R, hs, e1, e2, e3⟩ := partition_ev hv
  have hp := sol_perm hv hs
  have h2 := perm2_of hp
  have hh := holds_ev hv hp
  rw [(holdsB_iff hv hp).2 (sol_part hv hs)] at hh
  have hpe := perm_ev R Ls.length (by rw [hp.2.2]; omega) (by omega)
  rw [decide_eq_true hp] at hpe
  have hpl := parties_len (nx R) Ls.length
  have hge : ∀ s, s < ((parties (nx R) Ls.length).map ints).length → ((parties (nx R) Ls.length).map ints).getD s [] = ints ((parties (nx R) Ls.length).getD s []) ∧ (parties (nx R) Ls.length).getD s [] ∈ parties (nx R) Ls.length := by
    intro s hs
    rw [List.length_map] at hs
    rw [List.getD_eq_getElem?_getD, List.getElem?_map, List.getElem?_eq_getElem hs, List.getD_eq_getElem?_getD, List.getElem?_eq_getElem hs]
    exact ⟨rfl, List.getElem_mem hs⟩
  -- by whether there is an odd party of three or more
  have key : ∀ (m : List Int) (e : Int), (if longF ((odds (nx R) Ls.length).map ints) then (([], 5) : List Int × Int) else (soloF 0 R, 0)) = (m, e) → Ev (fun k => gamplaw07_PairEven.j0 k Ls R m e (!true)) true := by
    intro m e hme
    have hparts := parties_ev hp (by omega)
    refine Ev.step (f := fun k => (gampref07_Parties.f k R).bind fun t638 => gamplaw07_PairEven.l0 k Ls m e t638 0) (fun k => by simp only [gamplaw07_PairEven.j0, Bool.not_true, Bool.false_eq_true, if_false]) (Ev.bind (f := fun k t638 => gamplaw07_PairEven.l0 k Ls m e t638 0) hparts ?_)
    refine even_l0 (Ls := Ls) (m := m) (e := e) (A := (parties (nx R) Ls.length).map ints) (by rw [List.length_map]; omega) _ 0 (Nat.zero_add _) (fun ⟨s, _, hs2, hs3, hs4⟩ => ?_) (fun hall => ?_)
    · cases hlong : longF ((odds (nx R) Ls.length).map ints) with
      | true => rw [hlong] at hme; simp only [if_true] at hme; exact (Prod.mk.inj hme).2.symm
      | false =>
        exfalso
        obtain ⟨g1, g2⟩ := hge s hs2
        rw [g1, ints_len] at hs3 hs4
        unfold longF at hlong
        rw [List.any_eq_false] at hlong
        have := hlong (ints ((parties (nx R) Ls.length).getD s [])) (List.mem_map.2 ⟨_, by rw [odds_of_parties, List.mem_filter]; exact ⟨g2, by simpa using hs3⟩, rfl⟩)
        rw [decide_eq_true_eq, ints_len] at this
        omega
    · have hlong : longF ((odds (nx R) Ls.length).map ints) = false := by
        unfold longF
        rw [List.any_eq_false]
        intro l hl
        obtain ⟨l', hl', rfl⟩ := List.mem_map.1 hl
        rw [odds_of_parties, List.mem_filter, decide_eq_true_eq] at hl'
        obtain ⟨s, hs, he⟩ := List.getElem_of_mem hl'.1
        have h3 := hall s (Nat.zero_le _) (by rw [List.length_map]; exact hs)
        obtain ⟨g1, _⟩ := hge s (by rw [List.length_map]; exact hs)
        rw [g1, ints_len, List.getD_eq_getElem?_getD, List.getElem?_eq_getElem hs, Option.getD_some, he] at h3
        rw [decide_eq_true_eq, ints_len]
        omega
      rw [hlong] at hme
      simp only [Bool.false_eq_true, if_false] at hme
      obtain ⟨rfl, rfl⟩ := Prod.mk.inj hme
      obtain ⟨hm, hst, how⟩ := solo_ok hv hs hlong
      have hinv : ∀ a, a < Ls.length → nx R (nx R a) = a := fun a ha => by
        rw [← how a ha, ← how _ (ow_lt hm ha), ow_ow hm ha]
      have hmat := matching_ev (soloF 0 R) Ls.length (by omega)
      rw [matching_iff.2 hm] at hmat
      have hbl := blocks_ev hP (matching_iff.2 hm)
      have hnone := (stable_iff hP hm).2 hst
      rw [hnone] at hbl
      have hsolo : ∀ x, x < Ls.length → (soloF 0 R).getD x 0 = soloV (nx R) x := by
        intro x hx
        have h1 := how x hx
        unfold soloV
        rcases ow_at hm hx with ⟨h3, h4⟩ | ⟨h3, h4, h5, _⟩
        · rw [h3, if_pos (by rw [← h1]; exact h4)]
        · rw [h3, h1, if_neg (by rw [← h1]; exact h5)]
      have hlast : Ev (fun k => gamplaw07_PairEven.l1 k Ls (soloF 0 R) ((parties (nx R) Ls.length).map ints) 2) true := by
        refine Ev.step (f := fun k => (gampref07_Blocks.f k Ls (soloF 0 R)).bind fun bt644 => some (!bt644.2.2)) (fun k => by simp only [gamplaw07_PairEven.l1]; rw [if_neg (by omega)]) (Ev.bind hbl ?_)
        exact Ev.now _
      have hround : ∀ st : Int, (st = 0 ∨ st = 1) → Ev (fun k => gamplaw07_PairEven.l1 k Ls (soloF 0 R) ((parties (nx R) Ls.length).map ints) (wrap64 (st + 1))) true → Ev (fun k => gamplaw07_PairEven.l1 k Ls (soloF 0 R) ((parties (nx R) Ls.length).map ints) st) true := by
        intro st hst2 hnext
        have h6 := even_l2 (Ls := Ls) (m := soloF 0 R) (r := true) h24 hp hinv st hst2 (fun M hM1 hM2 => by
          have hMe : M = soloF 0 R := by
            refine List.ext_getElem (by rw [hM1, hm.1]) fun i h1 h2 => ?_
            have h7 := (hM2 i (by omega)).trans (hsolo i (by omega)).symm
            rw [List.getD_eq_getElem?_getD, List.getElem?_eq_getElem h1, List.getD_eq_getElem?_getD, List.getElem?_eq_getElem h2] at h7
            simpa using h7
          rw [hMe]
          have hpb : pair_Blocks.f Ls (soloF 0 R) = some (0, 0, 5) := by
            unfold pair_Blocks.f
            rw [hP]
            simp only [matching_iff.2 hm, if_true]
            rw [hm.1, hnone]; rfl
          refine Ev.bind (f := fun k bt655 => (if bt655.2.2 = true then (some false) else ((pair_Blocks.f Ls (soloF 0 R)).bind fun bt658 => (if bt658.2.2 = 5 then (gamplaw07_PairEven.l1 k Ls (soloF 0 R) ((parties (nx R) Ls.length).map ints) (wrap64 (st + 1))) else (some false))))) hbl ?_
          simp only [refRes, Bool.false_eq_true, if_false, hpb, Option.bind_some, if_true]
          exact hnext) _ 0 (List.replicate Ls.length (-1)) (Nat.zero_add _) ⟨by simp, fun x hx => .inl (getD_rep _ _ hx), fun x hx s hs => by omega⟩
        refine Ev.step (f := fun k => (gampref07_Alone.f k (Ls.length : Int)).bind fun t647 => gamplaw07_PairEven.l2 k Ls (soloF 0 R) ((parties (nx R) Ls.length).map ints) st t647 0) (fun k => by simp only [gamplaw07_PairEven.l1]; rw [if_pos (by omega)]) (Ev.bind (f := fun k t647 => gamplaw07_PairEven.l2 k Ls (soloF 0 R) ((parties (nx R) Ls.length).map ints) st t647 0) (alone_ev _ (by omega)) ?_)
        exact h6
      have w1 : wrap64 (0 + 1) = 1 := by unfold wrap64; decide
      have w2 : wrap64 (1 + 1) = 2 := by unfold wrap64; decide
      have hall2 := hround 0 (.inl rfl) (by rw [w1]; exact hround 1 (.inr rfl) (by rw [w2]; exact hlast))
      refine Ev.congr (fun k => by rw [if_pos rfl]) (Ev.bind (f := fun k t643 => gamplaw07_PairEven.j2 k Ls (soloF 0 R) ((parties (nx R) Ls.length).map ints) (!t643)) hmat ?_)
      refine Ev.step (fun k => ?_) hall2
      simp only [gamplaw07_PairEven.j2, Bool.not_true, Bool.false_eq_true, if_false]
  unfold gamplaw07_PairEven.f
  refine Ev.bind hmade (Ev.bind e1 (Ev.bind e3 ?_))
  simp only [if_true]
  refine Ev.bind hpe ?_
  simp only [if_true]
  refine Ev.bind hh ?_
  simp only [if_true]
  cases hlong : longF ((odds (nx R) Ls.length).map ints) with
  | true =>
    simp only [if_true]
    first | exact Ev.bind lives_ev (key _ _ (by rw [hlong]; rfl)) | exact Ev.congr (fun k => by rw [if_neg (by decide)]) (Ev.bind lives_ev (key _ _ (by rw [hlong])))  | exact Ev.congr (fun k => by rw [if_neg (by decide)]) (Ev.bind lives_ev (key _ _ hlong))
  | false =>
    simp only [Bool.false_eq_true, if_false, if_true]
    exact Ev.bind lives_ev (key _ _ (by rw [hlong]; rfl))
end Go.Proofs.Ytilabipmgcpnjaa.Pure

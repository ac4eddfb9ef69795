/- The declarations of Pu16 that the claim Qb needs. -/
import Derived.Test.YtilabipmgcpnjaaQbPu11
import Derived.Test.YtilabipmgcpnjaaQbPu14
import Derived.Test.YtilabipmgcpnjaaQbPu15
import Derived.Test.YtilabipmgcpnjaaQbFnx12
namespace Go.Proofs.Ytilabipmgcpnjaa.Pure
open Go.RowKit Go.Proofs.Ytilabipmgcpnjaa.Own Go.Proofs.Ytilabipmgcpnjaa.Fn Go.Proofs.YtilabipmgcpnjaaW.PrintWords Go.Proofs.YtilabipmgcpnjaaW.PrintLast Go.Proofs.YtilabipmgcpnjaaW.PrintMore Go.Proofs.Ytilabipmgcpnjaa.Tan Go.Proofs.Ytilabipmgcpnjaa.Cyc
set_option linter.unusedVariables false
set_option linter.unusedSimpArgs false
theorem u16_list {l : List Int} (h : ∀ x ∈ l, (Lit.int .u16 x).wf = true) : ∀ x ∈ l, 0 ≤ x ∧ x < 65536 := fun x hx => by
  have := h x hx
  simp [Lit.wf] at this
  have e1 : IntKind.u16.min = 0 := by decide
  have e2 : IntKind.u16.max = 65535 := by decide
  omega
theorem u8_in {x : Int} (h : (Lit.int .u8 x).wf = true) : 0 ≤ x ∧ x < 256 := by
  simp [Lit.wf] at h
  have e1 : IntKind.u8.min = 0 := by decide
  have e2 : IntKind.u8.max = 255 := by decide
  omega
def allOne (o : List (List Int)) : Bool := o.all fun l => decide ((l.length : Int) = 1)
theorem long_one {p q : Nat → Nat} {n : Nat} (h : Perm2 n p q) : allOne ((odds p n).map ints) = !longF ((odds p n).map ints) := by
  unfold allOne longF
  rw [Bool.eq_iff_iff]
  simp only [List.all_eq_true, Bool.not_eq_true', List.any_eq_false, decide_eq_true_eq]
  have hodd : ∀ l ∈ (odds p n).map ints, l.length % 2 = 1 := by
    intro l hl
    obtain ⟨l', hl', rfl⟩ := List.mem_map.1 hl
    rw [odds_of_parties, List.mem_filter] at hl'
    rw [ints_len]
    simpa using hl'.2
  constructor
  · intro h1 l hl
    have := h1 l hl
    omega
  · intro h1 l hl
    have := h1 l hl
    have := hodd l hl
    omega
theorem tan_l1 (o : List (List Int)) (e : Int) (ho : o.length ≤ 100000) : ∀ (d j : Nat) (b : Bool), j + d = o.length → Ev (fun k => gamplaw07_PairTan.l1 k o e true b (j : Int)) ((b && allOne (o.drop j)) == (e == 0))
  | 0, j, b, hd => by
    rw [List.drop_of_length_le (by omega)]
    refine Ev.step (f := fun _ => some (b == (e == 0))) (fun k => by simp only [gamplaw07_PairTan.l1]; rw [if_neg (by omega), if_pos trivial]) ?_
    simpa [allOne] using Ev.now _
  | d + 1, j, b, hd => by
    have hj : j < o.length := by omega
    have hg : rd_L1 o (j : Int) = o[j] := by rw [rdL_get, List.getD_eq_getElem?_getD, List.getElem?_eq_getElem hj]; rfl
    rw [List.drop_eq_getElem_cons hj]
    have ea : allOne (o[j] :: o.drop (j + 1)) = (decide ((o[j].length : Int) = 1) && allOne (o.drop (j + 1))) := rfl
    rw [ea]
    cases b with
    | true =>
      have ih := tan_l1 o e ho d (j + 1) (((o[j].length : Int)) == 1) (by omega)
      have eb : (((o[j].length : Int)) == 1) = decide ((o[j].length : Int) = 1) := rfl
      rw [eb] at ih
      rw [Bool.true_and]
      refine Ev.step (fun k => ?_) ih
      simp only [gamplaw07_PairTan.l1]
      rw [if_pos (by omega), if_pos trivial, if_pos (by omega), hg, wrap_s (by omega)]; rfl
    | false =>
      have ih := tan_l1 o e ho d (j + 1) false (by omega)
      rw [Bool.false_and] at ih ⊢
      refine Ev.step (fun k => ?_) ih
      simp only [gamplaw07_PairTan.l1]
      rw [if_pos (by omega), if_neg (by simp), wrap_s (by omega)]
theorem tan_l0 {Ls : List (List Int)} (hv : Valid Ls) {R : List Int} (hs : Sol Ls R) {S : List (List Int)} (hS : S.length ≤ 1000000000) (hperm : ∀ s ∈ S, IsPerm s Ls.length) {e : Int} {r : Bool}
    (hc : Ev (fun k => gamplaw07_PairTan.l1 k ((odds (nx R) Ls.length).map ints) e true true 0) r) : ∀ (d i : Nat) (b : Bool), i + d = S.length → (b = true ∨ ∃ s ∈ S.drop i, holdsB Ls s = true) →
    Ev (fun k => gamplaw07_PairTan.l0 k Ls ((odds (nx R) Ls.length).map ints) e b S (i : Int)) r
  | 0, i, b, hd, hb => by
    rw [List.drop_of_length_le (by omega)] at hb
    have : b = true := by
      rcases hb with h | ⟨s, h, _⟩
      · exact h
      · cases h
    subst this
    refine Ev.step (fun k => ?_) hc
    simp only [gamplaw07_PairTan.l0]
    rw [if_neg (by omega)]
  | d + 1, i, b, hd, hb => by
    have hi : i < S.length := by omega
    have h24 := hv.2.1
    have hg : rd_L1 S (i : Int) = S[i] := by rw [rdL_get, List.getD_eq_getElem?_getD, List.getElem?_eq_getElem hi]; rfl
    have hw : wrap64 ((i : Int) + 1) = ((i + 1 : Nat) : Int) := by unfold wrap64; omega
    rw [List.drop_eq_getElem_cons hi] at hb
    have hpi := hperm _ (List.getElem_mem hi)
    have hh := holds_ev hv hpi
    refine Ev.step (fun k => by simp only [gamplaw07_PairTan.l0]; rw [if_pos (by omega), if_pos (by omega), hg]) (Ev.bind hh ?_)
    cases hold : holdsB Ls S[i] with
    | true =>
      have eo := odds_uniq hv hpi (sol_perm hv hs) ((holdsB_iff hv hpi).1 hold) (sol_part hv hs)
      simp only [if_true]
      have ho := oddref_ev hpi (by omega)
      rw [eo] at ho
      refine Ev.bind ho (Ev.bind (odds_same_ev (perm2_of (sol_perm hv hs)) (by omega)) ?_)
      simp only [if_true]
      refine Ev.congr (fun k => ?_) (tan_l0 hv hs hS hperm hc d (i + 1) true (by omega) (.inl rfl))
      rw [hw]
    | false =>
      simp only [Bool.false_eq_true, if_false]
      refine Ev.congr (fun k => ?_) (tan_l0 hv hs hS hperm hc d (i + 1) b (by omega) ?_)
      · rw [hw]
      · rcases hb with h | ⟨s, h, h2⟩
        · exact .inl h
        · rcases List.mem_cons.1 h with e | h
          · rw [e, hold] at h2; cases h2
          · exact .inr ⟨s, h, h2⟩
theorem PairTan : gamplaw07_PairTan.Pure := by
  intro a0 l1 w0 _ _ wl
  obtain ⟨h0, h1⟩ := u8_in w0
  refine Ev.rounds ?_
  obtain ⟨Ls, hv, hmost, _, hmade⟩ := made_ev a0 (u16_list wl) h0 h1 6 (by omega) (by omega)
  obtain ⟨R, hs, _, e2, e3⟩ := partition_ev hv
  obtain ⟨S, s1, s2, s3, s4⟩ := orders_ev hmost
  have hp := sol_perm hv hs
  have hlen := odds_len (nx R) Ls.length
  have key : ∀ e : Int, (e = if longF ((odds (nx R) Ls.length).map ints) then 5 else 0) → Ev (fun k => gamplaw07_PairTan.j0 k Ls ((odds (nx R) Ls.length).map ints) e (!true)) true := by
    intro e he
    have h3 := tan_l1 ((odds (nx R) Ls.length).map ints) e (by rw [List.length_map]; omega) _ 0 true (Nat.zero_add _)
    have h4 : ((true && allOne (((odds (nx R) Ls.length).map ints).drop 0)) == (e == 0)) = true := by
      rw [Bool.true_and, List.drop_zero, long_one (perm2_of hp), he]
      cases longF ((odds (nx R) Ls.length).map ints) <;> rfl
    rw [h4] at h3
    have h5 := tan_l0 hv hs (by omega) s2 h3 _ 0 false (Nat.zero_add _) (.inr ⟨R, s3 R hp, (holdsB_iff hv hp).2 (sol_part hv hs)⟩)
    refine Ev.step (fun k => ?_) (Ev.bind (f := fun k S => gamplaw07_PairTan.l0 k Ls ((odds (nx R) Ls.length).map ints) e false S 0) s4 h5)
    simp only [gamplaw07_PairTan.j0, Bool.not_true, Bool.false_eq_true, if_false]
  unfold gamplaw07_PairTan.f
  refine Ev.bind hmade (Ev.bind e2 (Ev.bind e3 ?_))
  simp only [if_true]
  cases hlong : longF ((odds (nx R) Ls.length).map ints) with
  | true =>
    simp only [if_true]
    refine Ev.congr (fun k => by rw [if_neg (by decide)]) (Ev.bind lives_ev (key 5 (by rw [hlong]; rfl)))
  | false =>
    simp only [Bool.false_eq_true, if_false, if_true]
    exact Ev.bind lives_ev (key 0 (by rw [hlong]; rfl))
end Go.Proofs.Ytilabipmgcpnjaa.Pure

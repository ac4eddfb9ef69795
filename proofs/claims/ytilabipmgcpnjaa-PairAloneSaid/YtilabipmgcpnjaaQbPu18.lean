/- The declarations of Pu18 that the claim Qb needs. -/
import Derived.Test.YtilabipmgcpnjaaQbPu17
import Derived.Test.YtilabipmgcpnjaaQbFnx4
namespace Go.Proofs.Ytilabipmgcpnjaa.Pure
open Go.RowKit Go.Proofs.Ytilabipmgcpnjaa.Own Go.Proofs.Ytilabipmgcpnjaa.Fn Go.Proofs.YtilabipmgcpnjaaW.PrintWords Go.Proofs.YtilabipmgcpnjaaW.PrintLast Go.Proofs.YtilabipmgcpnjaaW.PrintMore Go.Proofs.Ytilabipmgcpnjaa.Tan Go.Proofs.Ytilabipmgcpnjaa.Cyc
set_option linter.unusedVariables false
set_option linter.unusedSimpArgs false
theorem alone_l0 (n : Nat) (hn : n ≤ 1000000) : ∀ (d i : Nat), i + d = n → Ev (fun k => gampref07_Alone.l0 k (n : Int) (List.replicate i (-1)) (i : Int)) (List.replicate n (-1))
  | 0, i, hd => by
    have e : i = n := by omega
    subst e
    exact Ev.step (f := fun _ => some (List.replicate i (-1))) (fun k => by simp only [gampref07_Alone.l0]; rw [if_neg (by omega)]) (Ev.now _)
  | d + 1, i, hd => by
    refine Ev.step (fun k => ?_) (alone_l0 n hn d (i + 1) (by omega))
    simp only [gampref07_Alone.l0]
    rw [if_pos (by omega), if_pos (by rw [List.length_replicate]; omega), wrap_s (by omega), ← List.replicate_succ']
theorem alone_ev (n : Nat) (hn : n ≤ 1000000) : Ev (fun k => gampref07_Alone.f k (n : Int)) (List.replicate n (-1)) := alone_l0 n hn n 0 (by omega)
/-- s goes on from m, whose first a places are settled. -/
def Goes (n : Nat) (m : List Int) (a : Nat) (s : List Int) : Prop := ∀ i, i < n → (0 ≤ m.getD i 0 → s.getD i 0 = m.getD i 0) ∧ (i < a → s.getD i 0 = m.getD i 0)
def bnm : Nat → Nat
  | 0 => 1
  | d + 1 => 24 * bnm d
section
variable {n : Nat}
theorem rd_nat (m : List Int) (i : Nat) : rd m (i : Int) = m.getD i 0 := by unfold rd; rw [Int.toNat_natCast]
theorem set2 {m : List Int} (hm : MatOk n m) {a j : Nat} (ha : a < n) (hj : j < n) (haj : a ≠ j) (i : Nat) : ((m.set a (j : Int)).set j (a : Int)).getD i 0 = if i = j then (a : Int) else if i = a then (j : Int) else m.getD i 0 := by
  rw [getD_set, getD_set, List.length_set, hm.1]
  by_cases e : i = j
  · rw [if_pos ⟨e.symm, by omega⟩, if_pos e]
  · rw [if_neg (fun h => e h.1.symm), if_neg e]
    by_cases e2 : i = a
    · rw [if_pos ⟨e2.symm, by omega⟩, if_pos e2]
    · rw [if_neg (fun h => e2 h.1.symm), if_neg e2]
theorem set_ok {m : List Int} (hm : MatOk n m) {a j : Nat} (ha : a < n) (hj : j < n) (haj : a ≠ j) (h1 : m.getD a 0 = -1) (h2 : m.getD j 0 = -1) : MatOk n ((m.set a (j : Int)).set j (a : Int)) := by
  refine ⟨by rw [List.length_set, List.length_set]; exact hm.1, fun i hi => ?_⟩
  unfold AtOk
  have hs := set2 hm ha hj haj
  rw [hs i]
  by_cases e : i = j
  · rw [if_pos e]
    right
    refine ⟨by omega, by omega, by omega, ?_⟩
    rw [Int.toNat_natCast, hs, if_neg haj, if_pos rfl, e]
  · rw [if_neg e]
    by_cases e2 : i = a
    · rw [if_pos e2]
      right
      refine ⟨by omega, by omega, by omega, ?_⟩
      rw [Int.toNat_natCast, hs, if_pos rfl, e2]
    · rw [if_neg e2]
      rcases hm.2 i hi with h | ⟨h3, h4, h5, h6⟩
      · exact .inl h
      · right
        refine ⟨h3, h4, h5, ?_⟩
        rw [hs]
        by_cases e3 : (m.getD i 0).toNat = j
        · rw [e3, h2] at h6; omega
        · rw [if_neg e3]
          by_cases e4 : (m.getD i 0).toNat = a
          · rw [e4, h1] at h6; omega
          · rw [if_neg e4]; exact h6
theorem matchings_l0 (hn : n ≤ 24) {m : List Int} (hm : MatOk n m) {a : Nat} (ha : a < n) (hfree : m.getD a 0 = -1) {B : Nat} (hB : 24 * B ≤ 1000000000000)
    (hrec : ∀ m2, MatOk n m2 → ∃ T : List (List Int), T.length ≤ B ∧ (∀ s ∈ T, MatOk n s) ∧ (∀ s, MatOk n s → Goes n m2 (a + 1) s → s ∈ T) ∧ Ev (fun k => gampref07_Matchings.f k m2 ((a + 1 : Nat) : Int)) T) :
    ∀ (d j : Nat) (out : List (List Int)), j + d = n → a < j → out.length ≤ j * B → (∀ s ∈ out, MatOk n s) →
    ∃ S : List (List Int), S.length ≤ n * B ∧ (∀ s ∈ S, MatOk n s) ∧ (∀ s ∈ out, s ∈ S) ∧ (∀ s, MatOk n s → Goes n m a s → (∃ x : Nat, j ≤ x ∧ s.getD a 0 = (x : Int)) → s ∈ S) ∧ Ev (fun k => gampref07_Matchings.l0 k m (a : Int) out (j : Int)) S
  | 0, j, out, hd, haj, ho, hs => by
    have e : j = n := by omega
    subst e
    refine ⟨out, ho, hs, fun s h => h, fun s hp hg ⟨x, hx, hpre⟩ => ?_, Ev.step (f := fun _ => some out) (fun k => by simp only [gampref07_Matchings.l0]; rw [if_neg (by rw [hm.1]; omega)]) (Ev.now _)⟩
    rcases hp.2 a ha with h | ⟨_, h, _⟩ <;> omega
  | d + 1, j, out, hd, haj, ho, hs => by
    have hj : j < n := by omega
    have hml := hm.1
    have hjB : (j + 1) * B = j * B + B := by rw [Nat.succ_mul]
    have hjn : (j + 1) * B ≤ 24 * B := Nat.mul_le_mul_right _ (by omega)
    by_cases h0 : 0 ≤ m.getD j 0
    · obtain ⟨S, h1, h2, h3, h4, h5⟩ := matchings_l0 hn hm ha hfree hB hrec d (j + 1) out (by omega) (by omega) (by omega) hs
      refine ⟨S, h1, h2, h3, fun s hp hg ⟨x, hx, hpre⟩ => ?_, ?_⟩
      · by_cases e : x = j
        · subst e
          exfalso
          have h6 := (hg x hj).1 h0
          rcases hp.2 a ha with h | ⟨_, _, _, h⟩
          · omega
          · rw [hpre, Int.toNat_natCast, h6] at h
            rcases hm.2 x hj with h7 | ⟨_, _, _, h7⟩
            · omega
            · rw [h, Int.toNat_natCast, hfree] at h7; omega
        · exact h4 s hp hg ⟨x, by omega, hpre⟩
      · refine Ev.step (fun k => ?_) h5
        simp only [gampref07_Matchings.l0]
        rw [if_pos (by omega), if_pos (by omega), rd_nat, if_pos h0, wrap_s (by omega)]
    · have hfj : m.getD j 0 = -1 := by
        rcases hm.2 j hj with h | ⟨h, _⟩
        · exact h
        · exact absurd h h0
      have hne : a ≠ j := by omega
      obtain ⟨T, t1, t2, t3, t4⟩ := hrec _ (set_ok hm ha hj hne hfree hfj)
      obtain ⟨S, h1, h2, h3, h4, h5⟩ := matchings_l0 hn hm ha hfree hB hrec d (j + 1) (out ++ T) (by omega) (by omega) (by rw [List.length_append]; omega) (fun s hs' => by
        rcases List.mem_append.1 hs' with h | h
        · exact hs s h
        · exact t2 s h)
      refine ⟨S, h1, h2, fun s h => h3 s (List.mem_append_left _ h), fun s hp hg ⟨x, hx, hpre⟩ => ?_, ?_⟩
      · by_cases e : x = j
        · subst e
          refine h3 s (List.mem_append_right _ (t3 s hp fun i hi => ?_))
          have hsx : s.getD x 0 = (a : Int) := by
            rcases hp.2 a ha with h | ⟨_, _, _, h⟩
            · omega
            · rw [hpre, Int.toNat_natCast] at h; exact h
          rw [set2 hm ha hj hne]
          by_cases e1 : i = x
          · rw [if_pos e1, e1]; exact ⟨fun _ => hsx, fun _ => hsx⟩
          · rw [if_neg e1]
            by_cases e2 : i = a
            · rw [if_pos e2, e2]; exact ⟨fun _ => hpre, fun _ => hpre⟩
            · rw [if_neg e2]
              exact ⟨(hg i hi).1, fun h => (hg i hi).2 (by omega)⟩
        · exact h4 s hp hg ⟨x, by omega, hpre⟩
      · refine Ev.step (fun k => ?_) (Ev.bind t4 (Ev.congr (fun k => ?_) h5)) (f := fun k => (gampref07_Matchings.f k ((m.set a (j : Int)).set j (a : Int)) ((a + 1 : Nat) : Int)).bind fun t229 => if out.length + t229.length < 5864062014805 then gampref07_Matchings.l0 k m (a : Int) (out ++ t229) (wrap64 ((j : Int) + 1)) else none)
        · simp only [gampref07_Matchings.l0]
          rw [if_pos (by omega), if_pos (by omega), rd_nat, if_neg h0, Option.bind_some, if_pos (by rw [List.length_nil]; omega), Option.bind_some, List.nil_append, if_pos (by omega), if_pos (by omega), if_pos (by omega), Int.toNat_natCast, Int.toNat_natCast, wrap_s (by omega)]
        · rw [if_pos (by omega), wrap_s (by omega)]
theorem matchings_f (hn : n ≤ 24) : ∀ (d a : Nat) (m : List Int), a + d = n → MatOk n m → 24 * bnm d ≤ 1000000000000 →
    ∃ S : List (List Int), S.length ≤ bnm d ∧ (∀ s ∈ S, MatOk n s) ∧ (∀ s, MatOk n s → Goes n m a s → s ∈ S) ∧ Ev (fun k => gampref07_Matchings.f k m (a : Int)) S
  | 0, a, m, hd, hm, hb => by
    have e : a = n := by omega
    subst e
    refine ⟨[m], Nat.le_refl 1, fun s hs => ?_, fun s hp hg => ?_, Ev.step (f := fun _ => some [m]) (fun k => ?_) (Ev.now _)⟩
    · rw [List.mem_singleton] at hs
      subst hs; exact hm
    · rw [List.mem_singleton]
      refine List.ext_getElem? fun i => ?_
      by_cases hi : i < a
      · have := (hg i hi).2 hi
        rw [List.getD_eq_getElem?_getD, List.getD_eq_getElem?_getD, List.getElem?_eq_getElem (by rw [hp.1]; exact hi), List.getElem?_eq_getElem (by rw [hm.1]; exact hi)] at this
        rw [List.getElem?_eq_getElem (by rw [hp.1]; exact hi), List.getElem?_eq_getElem (by rw [hm.1]; exact hi)]
        simpa using this
      · rw [List.getElem?_eq_none (by rw [hp.1]; omega), List.getElem?_eq_none (by rw [hm.1]; omega)]
    · simp only [gampref07_Matchings.f]
      rw [if_pos (by rw [hm.1]), Option.bind_some, if_pos (by rw [List.length_nil, hm.1]; omega), List.nil_append]
  | d + 1, a, m, hd, hm, hb => by
    have ha : a < n := by omega
    have hml := hm.1
    have hb2 : bnm (d + 1) = 24 * bnm d := rfl
    have hrec := fun m2 (h2 : MatOk n m2) => matchings_f hn d (a + 1) m2 (by omega) h2 (by omega)
    obtain ⟨T, t1, t2, t3, t4⟩ := hrec m hm
    by_cases h0 : 0 ≤ m.getD a 0
    · refine ⟨T, by omega, t2, fun s hp hg => t3 s hp fun i hi => ⟨(hg i hi).1, fun h => ?_⟩, ?_⟩
      · by_cases e : i = a
        · subst e; exact (hg i hi).1 h0
        · exact (hg i hi).2 (by omega)
      · refine Ev.step (fun k => ?_) (Ev.bind t4 (Ev.now _))
        simp only [gampref07_Matchings.f]
        rw [if_neg (by omega), if_pos (by omega), if_pos (by omega), rd_nat, if_pos h0, wrap_s (by omega)]
    · have hfree : m.getD a 0 = -1 := by
        rcases hm.2 a ha with h | ⟨h, _⟩
        · exact h
        · exact absurd h h0
      have hab : bnm d ≤ (a + 1) * bnm d := Nat.le_mul_of_pos_left _ (by omega)
      obtain ⟨S, h1, h2, h3, h4, h5⟩ := matchings_l0 hn hm ha hfree (B := bnm d) (by omega) hrec d (a + 1) T (by omega) (by omega) (by omega) t2
      refine ⟨S, Nat.le_trans h1 (by rw [hb2]; exact Nat.mul_le_mul_right _ (by omega)), h2, fun s hp hg => ?_, ?_⟩
      · rcases hp.2 a ha with h | ⟨hx0, hx1, hx2, hx3⟩
        · refine h3 s (t3 s hp fun i hi => ⟨(hg i hi).1, fun hia => ?_⟩)
          by_cases e : i = a
          · subst e; rw [h, hfree]
          · exact (hg i hi).2 (by omega)
        · obtain ⟨x, hx⟩ := Int.eq_ofNat_of_zero_le hx0
          rw [hx] at hx1 hx2 hx3
          refine h4 s hp hg ⟨x, ?_, hx⟩
          refine Classical.byContradiction fun hlt => ?_
          have h6 := (hg x (by omega)).2 (by omega)
          have hx3' : s.getD x 0 = (a : Int) := hx3
          rw [h6] at hx3'
          rcases hm.2 x (by omega) with h7 | ⟨_, _, _, h7⟩
          · omega
          · rw [hx3', Int.toNat_natCast, hfree] at h7; omega
      · refine Ev.step (fun k => ?_) (Ev.bind t4 (Ev.congr (fun k => ?_) h5)) (f := fun k => (gampref07_Matchings.f k m ((a + 1 : Nat) : Int)).bind fun t217 => gampref07_Matchings.l0 k m (a : Int) t217 (wrap64 ((a : Int) + 1)))
        · simp only [gampref07_Matchings.f]
          rw [if_neg (by omega), if_pos (by omega), if_pos (by omega), rd_nat, if_neg h0, wrap_s (by omega)]
        · rw [wrap_s (by omega)]
theorem getD_rep (n i : Nat) (hi : i < n) : (List.replicate n (-1 : Int)).getD i 0 = -1 := by rw [rep_neg, if_pos hi]
theorem bnm7 : ∀ d, d ≤ 7 → bnm d ≤ 4586471424 := by
  intro d hd
  rcases d with _ | _ | _ | _ | _ | _ | _ | _ | d
  · decide
  · decide
  · decide
  · decide
  · decide
  · decide
  · decide
  · decide
  · omega
variable {Ls P : List (List Int)}
theorem stable_l0 (hr : readF Ls = some P) {A : List (List Int)} (hA : A.length ≤ 100000000000) (hmat : ∀ s ∈ A, MatOk Ls.length s) : ∀ (d i : Nat) (out : List (List Int)), i + d = A.length → out.length ≤ i →
    Ev (fun k => gampref07_Stable.l0 k Ls out A (i : Int)) (out ++ (A.drop i).filter (fun s => (blkOut P s Ls.length Ls.length 0).isNone))
  | 0, i, out, hd, ho => by
    rw [List.drop_of_length_le (by omega)]
    refine Ev.step (f := fun _ => some out) (fun k => by simp only [gampref07_Stable.l0]; rw [if_neg (by omega)]) ?_
    simpa using Ev.now out
  | d + 1, i, out, hd, ho => by
    have hi : i < A.length := by omega
    have hg : rd_L1 A (i : Int) = A[i] := by rw [rdL_get, List.getD_eq_getElem?_getD, List.getElem?_eq_getElem hi]; rfl
    have hw : wrap64 ((i : Int) + 1) = ((i + 1 : Nat) : Int) := by unfold wrap64; omega
    have hb := blocks_ev hr (matching_iff.2 (hmat _ (List.getElem_mem hi)))
    rw [List.drop_eq_getElem_cons hi, List.filter_cons]
    refine Ev.step (fun k => by simp only [gampref07_Stable.l0]; rw [if_pos (by omega), if_pos (by omega), hg]) (Ev.bind hb ?_)
    cases hz : blkOut P A[i] Ls.length Ls.length 0 with
    | none =>
      have ih := stable_l0 hr hA hmat d (i + 1) (out ++ [A[i]]) (by omega) (by rw [List.length_append, List.length_singleton]; omega)
      rw [List.append_assoc, List.singleton_append] at ih
      rw [if_pos (by rfl)]
      simp only [refRes, Bool.false_eq_true, if_false]
      refine Ev.congr (fun k => ?_) ih
      rw [if_pos (by omega), hw]
    | some z =>
      have ih := stable_l0 hr hA hmat d (i + 1) out (by omega) (by omega)
      rw [if_neg (by simp)]
      simp only [refRes, if_true]
      refine Ev.congr (fun k => ?_) ih
      rw [hw]
/-- The stable matchings of at most 7 people. -/
theorem stable_ev (hr : readF Ls = some P) (h7 : Ls.length ≤ 7) : ∃ S : List (List Int), S.length ≤ 100000000000 ∧ (∀ s, s ∈ S ↔ MatOk Ls.length s ∧ Part Ls.length (rkOf Ls) (ow s) (ow s)) ∧ Ev (fun k => gampref07_Stable.f k Ls) S := by
  have hb := bnm7 Ls.length h7
  have hm0 : MatOk Ls.length (List.replicate Ls.length (-1)) := ⟨by simp, fun i hi => .inl (getD_rep _ _ hi)⟩
  obtain ⟨A, h1, h2, h3, h4⟩ := matchings_f (n := Ls.length) (by omega) Ls.length 0 (List.replicate Ls.length (-1)) (by omega) hm0 (by omega)
  have hall : ∀ s, MatOk Ls.length s → s ∈ A := fun s hs => h3 s hs fun i hi => ⟨fun h => by rw [getD_rep _ _ hi] at h; omega, fun h => by omega⟩
  have h5 := stable_l0 hr (by omega) h2 A.length 0 [] (by omega) (by simp)
  rw [List.nil_append, List.drop_zero] at h5
  refine ⟨A.filter (fun s => (blkOut P s Ls.length Ls.length 0).isNone), ?_, fun s => ?_, ?_⟩
  · exact Nat.le_trans (List.length_filter_le _ _) (by omega)
  · rw [List.mem_filter, Option.isNone_iff_eq_none]
    exact ⟨fun ⟨ha, hb⟩ => ⟨h2 s ha, (stable_iff hr (h2 s ha)).1 hb⟩, fun ⟨ha, hb⟩ => ⟨hall s ha, (stable_iff hr ha).2 hb⟩⟩
  · unfold gampref07_Stable.f
    exact Ev.bind (alone_ev _ (by omega)) (Ev.bind h4 h5)
end
end Go.Proofs.Ytilabipmgcpnjaa.Pure

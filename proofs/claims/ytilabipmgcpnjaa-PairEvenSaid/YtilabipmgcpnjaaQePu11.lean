/- The declarations of Pu11 that the claim Qe needs. -/
import Derived.Test.YtilabipmgcpnjaaQePu10
import Derived.Test.YtilabipmgcpnjaaQeFnx9
namespace Go.Proofs.Ytilabipmgcpnjaa.Pure
open Go.RowKit Go.Proofs.Ytilabipmgcpnjaa.Own Go.Proofs.Ytilabipmgcpnjaa.Fn Go.Proofs.YtilabipmgcpnjaaW.PrintWords Go.Proofs.YtilabipmgcpnjaaW.PrintLast Go.Proofs.YtilabipmgcpnjaaW.PrintMore Go.Proofs.Ytilabipmgcpnjaa.Tan Go.Proofs.Ytilabipmgcpnjaa.Cyc
set_option linter.unusedVariables false
set_option linter.unusedSimpArgs false
theorem ev_map {α β : Type} {g : Nat → Option α} {a : α} (f : α → β) (h : Ev g a) : Ev (fun k => (g k).map f) (f a) := by
  obtain ⟨K, h⟩ := h
  exact ⟨K, fun k hk => by simp only [h k hk, Option.map_some]⟩
section
variable {A : List (List Int)}
end
section
variable {R : List Int} {n : Nat}
theorem pv_lt (h : IsPerm R n) {x : Nat} (hx : x < n) : pv R x < n := (perm2_of h).qn x hx
theorem before_l0 (hp : IsPerm R n) (hn : n ≤ 1000000) : ∀ (d i : Nat) (B : List Int), i + d = n → B.length = n → (∀ x, x < n → pv R x < i → B.getD x 0 = (pv R x : Int)) →
    ∃ B' : List Int, B'.length = n ∧ (∀ x, x < n → B'.getD x 0 = (pv R x : Int)) ∧ Ev (fun k => gampref07_Before.l0 k R B (i : Int)) B'
  | 0, i, B, hd, hl, hB => ⟨B, hl, fun x hx => hB x hx (by have := pv_lt hp hx; omega), Ev.step (f := fun _ => some B) (fun k => by simp only [gampref07_Before.l0]; rw [if_neg (by rw [hp.2.2]; omega)]) (Ev.now _)⟩
  | d + 1, i, B, hd, hl, hB => by
    have hi : i < n := by omega
    have hlt := (perm2_of hp).pn i hi
    obtain ⟨B', h1, h2, h3⟩ := before_l0 hp hn d (i + 1) (B.set (nx R i) (i : Int)) (by omega) (by rw [List.length_set]; exact hl) (fun x hx hpx => by
      rw [getD_set]
      by_cases e : nx R i = x
      · rw [if_pos ⟨e, by omega⟩, ← e, (perm2_of hp).qp i hi]
      · rw [if_neg (fun h => e h.1)]
        refine hB x hx ?_
        by_cases e2 : pv R x = i
        · exact absurd (by rw [← e2]; exact (perm2_of hp).pq x hx) e
        · omega)
    refine ⟨B', h1, h2, Ev.step (fun k => ?_) h3⟩
    simp only [gampref07_Before.l0]
    rw [if_pos (by rw [hp.2.2]; omega), if_pos (by omega), rd_nx hp hi, if_pos (by omega), if_pos (by omega), Int.toNat_natCast, wrap_s (by omega)]
theorem before_ev (hp : IsPerm R n) (hn : n ≤ 1000000) : ∃ B : List Int, B.length = n ∧ (∀ x, x < n → B.getD x 0 = (pv R x : Int)) ∧ Ev (fun k => gampref07_Before.f k R) B := by
  obtain ⟨B', h1, h2, h3⟩ := before_l0 hp hn n 0 (List.replicate n 0) (by omega) (by simp) (fun x hx h => by omega)
  refine ⟨B', h1, h2, ?_⟩
  unfold gampref07_Before.f
  refine Ev.congr (fun k => ?_) h3
  rw [if_pos (by omega), Int.toNat_natCast, hp.2.2, if_pos (by omega)]; rfl
def pairBad (Ls : List (List Int)) (R : List Int) (i j : Nat) : Bool := decide (rkOf Ls i j < rkOf Ls i (pv R i)) && decide (rkOf Ls j i < rkOf Ls j (pv R j))
def upOk (Ls : List (List Int)) (R : List Int) (i : Nat) : Bool := decide (nx R i = pv R i) || decide (rkOf Ls i (nx R i) < rkOf Ls i (pv R i))
def goodAt (Ls : List (List Int)) (R : List Int) (i : Nat) : Bool := upOk Ls R i && (List.range' 0 Ls.length).all (fun j => decide (j = i) || !pairBad Ls R i j)
def holdsB (Ls : List (List Int)) (R : List Int) : Bool := (List.range' 0 Ls.length).all (goodAt Ls R)
variable {Ls : List (List Int)}
theorem pref_nat (hv : Valid Ls) {i : Nat} (hi : i < Ls.length) (a b : Nat) : Ev (fun k => gampref07_Prefers.f k Ls (i : Int) (a : Int) (b : Int)) (decide (rkOf Ls i a < rkOf Ls i b)) :=
  prefers_ev Ls hi (by rw [(hv.2.2 i hi).2.2]; have := hv.2.1; omega) _ _
theorem holds_l1 (hv : Valid Ls) (hp : IsPerm R Ls.length) {B : List Int} (hB1 : B.length = Ls.length) (hB2 : ∀ x, x < Ls.length → B.getD x 0 = (pv R x : Int)) {i : Nat} (hi : i < Ls.length) {r : Bool}
    (hc : Ev (fun k => gampref07_Holds.l0 k Ls R B ((i + 1 : Nat) : Int)) r) : ∀ (d j : Nat), j + d = Ls.length →
    Ev (fun k => gampref07_Holds.l1 k Ls R B (i : Int) (j : Int)) (if (List.range' j d).all (fun j => decide (j = i) || !pairBad Ls R i j) = true then r else false)
  | 0, j, hd => by
    have := hv.2.1
    rw [if_pos (by simp)]
    refine Ev.step (fun k => ?_) hc
    simp only [gampref07_Holds.l1]
    rw [if_neg (by rw [hp.2.2]; omega), wrap_s (by omega)]
  | d + 1, j, hd => by
    have h24 := hv.2.1
    have hj : j < Ls.length := by omega
    have ih := holds_l1 hv hp hB1 hB2 hi hc d (j + 1) (by omega)
    rw [List.range'_succ, List.all_cons]
    have hbi : rd B (i : Int) = (pv R i : Int) := by unfold rd; rw [Int.toNat_natCast]; exact hB2 i hi
    have hbj : rd B (j : Int) = (pv R j : Int) := by unfold rd; rw [Int.toNat_natCast]; exact hB2 j hj
    by_cases e : j = i
    · rw [decide_eq_true e, Bool.true_or, Bool.true_and]
      refine Ev.step (fun k => ?_) ih
      simp only [gampref07_Holds.l1]
      rw [if_pos (by rw [hp.2.2]; omega), if_pos (by omega), wrap_s (by omega)]
    · rw [decide_eq_false e, Bool.false_or]
      have p1 := pref_nat hv hi j (pv R i)
      have p2 := pref_nat hv hj i (pv R j)
      unfold pairBad
      refine Ev.step (fun k => by
        simp only [gampref07_Holds.l1]
        rw [if_pos (by rw [hp.2.2]; omega), if_neg (by omega), if_pos (by omega), if_pos (by omega), hbi]) (Ev.bind p1 ?_)
      by_cases h1 : rkOf Ls i j < rkOf Ls i (pv R i)
      · rw [decide_eq_true h1, Bool.true_and]
        refine Ev.congr (fun k => by rw [if_pos rfl, if_pos (by omega), if_pos (by omega), hbj]) (Ev.bind p2 ?_)
        by_cases h2 : rkOf Ls j i < rkOf Ls j (pv R j)
        · rw [decide_eq_true h2]
          simp only [Bool.not_true, Bool.false_and, Bool.false_eq_true, if_true, if_false]
          exact Ev.now _
        · rw [decide_eq_false h2]
          simp only [Bool.not_false, Bool.true_and, Bool.false_eq_true, if_false]
          exact Ev.congr (fun k => by rw [wrap_s (by omega)]) ih
      · rw [decide_eq_false h1, Bool.false_and]
        simp only [Bool.not_false, Bool.true_and, Bool.false_eq_true, if_false]
        exact Ev.congr (fun k => by rw [wrap_s (by omega)]) ih
theorem holds_l0 (hv : Valid Ls) (hp : IsPerm R Ls.length) {B : List Int} (hB1 : B.length = Ls.length) (hB2 : ∀ x, x < Ls.length → B.getD x 0 = (pv R x : Int)) : ∀ (d i : Nat), i + d = Ls.length →
    Ev (fun k => gampref07_Holds.l0 k Ls R B (i : Int)) ((List.range' i d).all (goodAt Ls R))
  | 0, i, hd => by
    refine Ev.step (f := fun _ => some true) (fun k => by simp only [gampref07_Holds.l0]; rw [if_neg (by rw [hp.2.2]; omega)]) ?_
    simpa using Ev.now true
  | d + 1, i, hd => by
    have h24 := hv.2.1
    have hi : i < Ls.length := by omega
    have hbi : rd B (i : Int) = (pv R i : Int) := by unfold rd; rw [Int.toNat_natCast]; exact hB2 i hi
    have hri := rd_nx hp hi
    have ih := holds_l1 hv hp hB1 hB2 hi (holds_l0 hv hp hB1 hB2 d (i + 1) (by omega)) Ls.length 0 (by omega)
    rw [List.range'_succ, List.all_cons]
    unfold goodAt upOk
    have j1 : Ev (fun k => gampref07_Holds.j1 k Ls R B (i : Int) false) (if (List.range' 0 Ls.length).all (fun j => decide (j = i) || !pairBad Ls R i j) = true then (List.range' (i + 1) d).all (goodAt Ls R) else false) :=
      Ev.step (fun k => by simp only [gampref07_Holds.j1]; rw [if_neg (by simp)]; rfl) ih
    have ee : ∀ b c : Bool, (if b = true then c else false) = (b && c) := by intro b c; cases b <;> rfl
    rw [ee] at j1
    by_cases h1 : nx R i = pv R i
    · rw [decide_eq_true h1, Bool.true_or, Bool.true_and]
      refine Ev.step (fun k => ?_) j1
      simp only [gampref07_Holds.l0]
      rw [if_pos (by rw [hp.2.2]; omega), if_pos (by omega), if_pos (by omega), hri, hbi, if_pos (by omega)]
    · rw [decide_eq_false h1, Bool.false_or]
      have p1 := pref_nat hv hi (nx R i) (pv R i)
      refine Ev.step (fun k => by
        simp only [gampref07_Holds.l0]
        rw [if_pos (by rw [hp.2.2]; omega), if_pos (by omega), if_pos (by omega), hri, hbi, if_neg (by omega)]) (Ev.bind p1 ?_)
      by_cases h2 : rkOf Ls i (nx R i) < rkOf Ls i (pv R i)
      · rw [decide_eq_true h2, Bool.true_and]
        exact j1
      · rw [decide_eq_false h2, Bool.false_and, Bool.false_and]
        exact Ev.step (f := fun _ => some false) (fun k => by simp only [gampref07_Holds.j1]; rfl) (Ev.now _)
theorem holds_ev (hv : Valid Ls) (hp : IsPerm R Ls.length) : Ev (fun k => gampref07_Holds.f k Ls R) (holdsB Ls R) := by
  have h24 := hv.2.1
  obtain ⟨B, h1, h2, h3⟩ := before_ev hp (by omega)
  unfold gampref07_Holds.f
  exact Ev.bind h3 (holds_l0 hv hp h1 h2 Ls.length 0 (by omega))
theorem holdsB_iff (hv : Valid Ls) (hp : IsPerm R Ls.length) : holdsB Ls R = true ↔ Part Ls.length (rkOf Ls) (nx R) (pv R) := by
  have h2 := perm2_of hp
  have hpr := hv.pref
  unfold holdsB
  rw [List.all_eq_true]
  constructor
  · intro h
    have hg : ∀ i, i < Ls.length → goodAt Ls R i = true := fun i hi => h i (by rw [List.mem_range'_1]; omega)
    refine ⟨h2.pn, h2.qn, h2.pq, h2.qp, fun i hi => ?_, fun i j hi hj hij h3 h4 => ?_⟩
    · have := hg i hi
      unfold goodAt upOk at this
      rw [Bool.and_eq_true, Bool.or_eq_true, decide_eq_true_eq, decide_eq_true_eq] at this
      rcases this.1 with e | e
      · rw [e]; exact Nat.le_refl _
      · omega
    · have := hg i hi
      unfold goodAt at this
      rw [Bool.and_eq_true, List.all_eq_true] at this
      have := this.2 j (by rw [List.mem_range'_1]; omega)
      unfold pairBad at this
      rw [decide_eq_false (fun e => hij e.symm), decide_eq_true h3, decide_eq_true h4] at this
      simp at this
  · intro h i hi
    rw [List.mem_range'_1] at hi
    have hi : i < Ls.length := by omega
    unfold goodAt upOk
    rw [Bool.and_eq_true, Bool.or_eq_true, decide_eq_true_eq, decide_eq_true_eq, List.all_eq_true]
    refine ⟨?_, fun j hj => ?_⟩
    · have := h.up i hi
      by_cases e : rkOf Ls i (nx R i) = rkOf Ls i (pv R i)
      · exact .inl (hpr.inj i _ _ hi (h2.pn i hi) (h2.qn i hi) e)
      · right; omega
    · rw [List.mem_range'_1] at hj
      by_cases e : j = i
      · rw [decide_eq_true e]; rfl
      · rw [decide_eq_false e, Bool.false_or]
        unfold pairBad
        by_cases h3 : rkOf Ls i j < rkOf Ls i (pv R i)
        · by_cases h4 : rkOf Ls j i < rkOf Ls j (pv R j)
          · exact (h.no i j hi (by omega) (fun e2 => e e2.symm) h3 h4).elim
          · rw [decide_eq_false h4, Bool.and_false]; rfl
        · rw [decide_eq_false h3, Bool.false_and]; rfl
/-- What solve finds is a permutation, and stable. -/
theorem sol_perm (hv : Valid Ls) (hs : Sol Ls R) : IsPerm R Ls.length := by
  obtain ⟨q, hq⟩ := hs.part
  have hval : ∀ a (ha : a < R.length), R[a] = (nx R a : Int) := fun a ha => by
    have := hs.pos a (by rw [← hs.len]; exact ha)
    unfold nx
    rw [List.getD_eq_getElem?_getD, List.getElem?_eq_getElem ha] at this ⊢
    simp only [Option.getD_some] at this ⊢
    omega
  refine ⟨?_, fun x hx => ?_, hs.len⟩
  · unfold List.Nodup
    rw [List.pairwise_iff_getElem]
    intro i j hi hj hij e
    rw [hval i hi, hval j hj] at e
    have := hq.inj (a := i) (b := j) (by rw [← hs.len]; exact hi) (by rw [← hs.len]; exact hj) (by omega)
    omega
  · obtain ⟨a, ha, rfl⟩ := List.getElem_of_mem hx
    rw [hval a ha]
    have := hq.pn a (by rw [← hs.len]; exact ha)
    omega
theorem sol_part (hv : Valid Ls) (hs : Sol Ls R) : Part Ls.length (rkOf Ls) (nx R) (pv R) := by
  have hp := sol_perm hv hs
  have h2 := perm2_of hp
  obtain ⟨q, hq⟩ := hs.part
  have e : ∀ i, i < Ls.length → q i = pv R i := fun i hi => hq.inj (hq.qn i hi) (h2.qn i hi) (by rw [hq.pq i hi, h2.pq i hi])
  exact ⟨h2.pn, h2.qn, h2.pq, h2.qp, fun i hi => by rw [← e i hi]; exact hq.up i hi, fun i j hi hj hij h3 h4 => hq.no i j hi hj hij (by rw [e i hi]; exact h3) (by rw [e j hj]; exact h4)⟩
theorem partition_ev (hv : Valid Ls) : ∃ R, Sol Ls R ∧ Ev (fun k => pair_Partition.f k Ls) (R, 0) ∧ Ev (fun k => pair_Odd.f k Ls) ((odds (nx R) Ls.length).map ints, 0) ∧
    Ev (fun k => pair_Match.f k Ls) (if longF ((odds (nx R) Ls.length).map ints) then ([], 5) else (soloF 0 R, 0)) := by
  obtain ⟨K, R, h1, h2⟩ := solve_spec hv
  obtain ⟨P, hP, _⟩ := readF_valid hv
  have h24 := hv.2.1
  have ho := podd_ev (sol_perm hv h2) (by omega)
  have hsol : Ev (fun k => solveF k Ls) R := Ev.of (fun k r h => solveF_mono h) h1
  refine ⟨R, h2, ?_, ?_, ?_⟩
  · refine Ev.of (pair_Partition.mono Ls) (k := K) ?_
    unfold pair_Partition.f
    rw [hP]; simp only [h1, Option.map_some]
  · unfold pair_Odd.f
    rw [hP]
    simp only
    refine Ev.bind hsol ?_
    exact ev_map _ ho
  · unfold pair_Match.f
    rw [hP]
    simp only
    refine Ev.bind hsol ?_
    exact ev_map _ ho
end
end Go.Proofs.Ytilabipmgcpnjaa.Pure

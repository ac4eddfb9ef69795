/- The declarations of Pu17 that the claim Qe needs. -/
import Derived.Test.YtilabipmgcpnjaaQePu11
import Derived.Test.YtilabipmgcpnjaaQePu8
namespace Go.Proofs.Ytilabipmgcpnjaa.Pure
open Go.RowKit Go.Proofs.Ytilabipmgcpnjaa.Own Go.Proofs.Ytilabipmgcpnjaa.Fn Go.Proofs.YtilabipmgcpnjaaW.PrintWords Go.Proofs.YtilabipmgcpnjaaW.PrintLast Go.Proofs.YtilabipmgcpnjaaW.PrintMore Go.Proofs.Ytilabipmgcpnjaa.Tan Go.Proofs.Ytilabipmgcpnjaa.Cyc
set_option linter.unusedVariables false
set_option linter.unusedSimpArgs false
/-- Place i of a matching of n people. -/
def AtOk (n : Nat) (m : List Int) (i : Nat) : Prop := m.getD i 0 = -1 ∨ (0 ≤ m.getD i 0 ∧ m.getD i 0 < (n : Int) ∧ m.getD i 0 ≠ (i : Int) ∧ m.getD (m.getD i 0).toNat 0 = (i : Int))
def MatOk (n : Nat) (m : List Int) : Prop := m.length = n ∧ ∀ i, i < n → AtOk n m i
theorem matchLoop_iff {m : List Int} : ∀ (r : List Int) (i : Nat), matchLoop m r i = true ↔ ∀ t, t < r.length → (r.getD t 0 = -1 ∨ (0 ≤ r.getD t 0 ∧ r.getD t 0 < (m.length : Int) ∧ r.getD t 0 ≠ ((i + t : Nat) : Int) ∧ m.getD (r.getD t 0).toNat 0 = ((i + t : Nat) : Int)))
  | [], i => by simp [matchLoop]
  | j :: r, i => by
    unfold matchLoop
    have ih := matchLoop_iff (m := m) r (i + 1)
    by_cases h : j ≠ -1 ∧ (j < 0 ∨ (m.length : Int) ≤ j ∨ j = (i : Int) ∨ m.getD j.toNat 0 ≠ (i : Int))
    · rw [if_pos h]
      constructor
      · intro e; cases e
      · intro hall
        exfalso
        have := hall 0 (by simp)
        simp only [List.getD_cons_zero, Nat.add_zero] at this
        rcases this with e | ⟨h1, h2, h3, h4⟩
        · exact h.1 e
        · rcases h.2 with e | e | e | e
          · omega
          · omega
          · exact h3 e
          · exact e h4
    · rw [if_neg h, ih]
      constructor
      · intro hall t ht
        cases t with
        | zero =>
          simp only [List.getD_cons_zero, Nat.add_zero]
          by_cases e : j = -1
          · exact .inl e
          · right
            refine ⟨?_, ?_, ?_, ?_⟩
            · exact Int.not_lt.1 (fun h2 => h ⟨e, .inl h2⟩)
            · exact Int.not_le.1 (fun h2 => h ⟨e, .inr (.inl h2)⟩)
            · exact fun h2 => h ⟨e, .inr (.inr (.inl h2))⟩
            · exact Classical.byContradiction fun h2 => h ⟨e, .inr (.inr (.inr h2))⟩
        | succ t =>
          have := hall t (by rw [List.length_cons] at ht; omega)
          rw [List.getD_cons_succ, show i + (t + 1) = i + 1 + t by omega]
          exact this
      · intro hall t ht
        have := hall (t + 1) (by rw [List.length_cons]; omega)
        rw [List.getD_cons_succ, show i + (t + 1) = i + 1 + t by omega] at this
        exact this
theorem matching_iff {n : Nat} {m : List Int} : matchingF n m = true ↔ MatOk n m := by
  unfold matchingF
  by_cases h : m.length = n
  · rw [if_pos h, matchLoop_iff]
    constructor
    · intro hall
      refine ⟨h, fun i hi => ?_⟩
      have := hall i (by omega)
      rw [Nat.zero_add, h] at this
      exact this
    · rintro ⟨_, hall⟩ t ht
      have := hall t (by omega)
      rw [Nat.zero_add, h]
      exact this
  · rw [if_neg h]
    exact ⟨fun e => (by cases e), fun e => absurd e.1 h⟩
/-- The partner; oneself, if there is none. -/
def ow (m : List Int) (i : Nat) : Nat := (ownF m i).toNat
theorem ow_at {n : Nat} {m : List Int} (h : MatOk n m) {i : Nat} (hi : i < n) : (m.getD i 0 = -1 ∧ ow m i = i) ∨ (m.getD i 0 = (ow m i : Int) ∧ ow m i < n ∧ ow m i ≠ i ∧ m.getD (ow m i) 0 = (i : Int)) := by
  unfold ow ownF
  rcases h.2 i hi with e | ⟨h1, h2, h3, h4⟩
  · rw [e]; left; exact ⟨rfl, by rw [if_pos (by omega)]; simp⟩
  · right
    rw [if_neg (by omega)]
    exact ⟨by omega, by omega, by omega, h4⟩
theorem ow_lt {n : Nat} {m : List Int} (h : MatOk n m) {i : Nat} (hi : i < n) : ow m i < n := by
  rcases ow_at h hi with ⟨_, e⟩ | ⟨_, e, _⟩ <;> omega
theorem ow_ow {n : Nat} {m : List Int} (h : MatOk n m) {i : Nat} (hi : i < n) : ow m (ow m i) = i := by
  rcases ow_at h hi with ⟨_, e⟩ | ⟨h1, h2, h3, h4⟩
  · rw [e, e]
  · generalize ow m i = a at h1 h2 h3 h4
    unfold ow ownF
    rw [h4, if_neg (by omega)]; simp
theorem ow_perm {n : Nat} {m : List Int} (h : MatOk n m) : Perm2 n (ow m) (ow m) := ⟨fun _ hi => ow_lt h hi, fun _ hi => ow_lt h hi, fun _ hi => ow_ow h hi, fun _ hi => ow_ow h hi⟩
theorem blkIn_none {P : List (List Int)} {m : List Int} {i : Nat} : ∀ (d j : Nat), blkIn P m i d j = none ↔ ∀ b, j ≤ b → b < j + d → blkF P m i b = false
  | 0, j => ⟨fun _ b h1 h2 => by omega, fun _ => rfl⟩
  | d + 1, j => by
    unfold blkIn
    cases hb : blkF P m i j with
    | true => exact ⟨fun h => by simp at h, fun h => by have := h j (Nat.le_refl _) (by omega); rw [hb] at this; cases this⟩
    | false =>
      rw [if_neg (by simp), blkIn_none d (j + 1)]
      constructor
      · intro h b h1 h2
        by_cases e : b = j
        · rw [e]; exact hb
        · exact h b (by omega) (by omega)
      · intro h b h1 h2; exact h b (by omega) (by omega)
theorem blkOut_none {P : List (List Int)} {m : List Int} {n : Nat} : ∀ (d i : Nat), blkOut P m n d i = none ↔ ∀ a, i ≤ a → a < i + d → ∀ b, a < b → b < n → blkF P m a b = false
  | 0, i => ⟨fun _ b h1 h2 => by omega, fun _ => rfl⟩
  | d + 1, i => by
    unfold blkOut
    cases hb : blkIn P m i (n - (i + 1)) (i + 1) with
    | some z =>
      constructor
      · intro h; cases h
      · intro h
        exfalso
        have := (blkIn_none (P := P) (m := m) (i := i) (n - (i + 1)) (i + 1)).2 (fun b h1 h2 => h i (Nat.le_refl _) (by omega) b (by omega) (by omega))
        rw [hb] at this; cases this
    | none =>
      have h0 := (blkIn_none (P := P) (m := m) (i := i) (n - (i + 1)) (i + 1)).1 hb
      simp only
      rw [blkOut_none d (i + 1)]
      constructor
      · intro h a h1 h2 b h3 h4
        by_cases e : a = i
        · subst e; exact h0 b (by omega) (by omega)
        · exact h a (by omega) (by omega) b h3 h4
      · intro h a h1 h2 b h3 h4; exact h a (by omega) (by omega) b h3 h4
section
variable {Ls P : List (List Int)} {m : List Int}
theorem blkF_eq (hr : readF Ls = some P) (hm : MatOk Ls.length m) {i j : Nat} (hi : i < Ls.length) (hj : j < Ls.length) : blkF P m i j = (decide (rkOf Ls i j < rkOf Ls i (ow m i)) && decide (rkOf Ls j i < rkOf Ls j (ow m j))) := by
  unfold blkF
  rw [show (ownF m i).toNat = ow m i from rfl, show (ownF m j).toNat = ow m j from rfl, pref_eq hr hi hj (ow_lt hm hi), pref_eq hr hj hi (ow_lt hm hj)]
theorem stable_iff (hr : readF Ls = some P) (hm : MatOk Ls.length m) : blkOut P m Ls.length Ls.length 0 = none ↔ Part Ls.length (rkOf Ls) (ow m) (ow m) := by
  rw [blkOut_none]
  have hp := ow_perm hm
  constructor
  · intro h
    refine ⟨hp.pn, hp.pn, hp.pq, hp.pq, fun i hi => Nat.le_refl _, fun i j hi hj hij h1 h2 => ?_⟩
    rcases Nat.lt_trichotomy i j with hlt | heq | hlt
    · have := h i (by omega) (by omega) j hlt hj
      rw [blkF_eq hr hm hi hj, decide_eq_true h1, decide_eq_true h2] at this
      cases this
    · exact hij heq
    · have := h j (by omega) (by omega) i hlt hi
      rw [blkF_eq hr hm hj hi, decide_eq_true h1, decide_eq_true h2] at this
      cases this
  · intro h a _ ha b hab hb
    have ha : a < Ls.length := by omega
    rw [blkF_eq hr hm ha hb]
    by_cases h1 : rkOf Ls a b < rkOf Ls a (ow m a)
    · by_cases h2 : rkOf Ls b a < rkOf Ls b (ow m b)
      · exact (h.no a b ha hb (by omega) h1 h2).elim
      · rw [decide_eq_false h2, Bool.and_false]
    · rw [decide_eq_false h1, Bool.false_and]
end
section
variable {Ls P : List (List Int)} {R m : List Int}
/-- Where all odd parties are single, what Match returns is a stable matching. -/
theorem solo_ok (hv : Valid Ls) (hs : Sol Ls R) (hl : longF ((odds (nx R) Ls.length).map ints) = false) : MatOk Ls.length (soloF 0 R) ∧ Part Ls.length (rkOf Ls) (ow (soloF 0 R)) (ow (soloF 0 R)) ∧ ∀ i, i < Ls.length → ow (soloF 0 R) i = nx R i := by
  have hp := sol_perm hv hs
  have h2 := perm2_of hp
  have hinv : ∀ a, a < Ls.length → nx R (nx R a) = a := by
    refine hs.inv ((odds_single h2).1 fun l hlm => ?_)
    unfold longF at hl
    rw [List.any_eq_false] at hl
    have h3 := hl (ints l) (List.mem_map.2 ⟨l, hlm, rfl⟩)
    rw [decide_eq_true_eq, ints_len] at h3
    rw [odds_of_parties, List.mem_filter] at hlm
    have := hlm.2
    rw [decide_eq_true_eq] at this
    omega
  have hg : ∀ i, i < Ls.length → (soloF 0 R).getD i 0 = if nx R i = i then -1 else (nx R i : Int) := by
    intro i hi
    have hl2 : i < R.length := by rw [hp.2.2]; exact hi
    have hv2 := (perm_val hp hi).1
    rw [List.getD_eq_getElem?_getD, List.getElem?_eq_getElem hl2, Option.getD_some] at hv2
    rw [List.getD_eq_getElem?_getD, soloF_get, List.getElem?_eq_getElem hl2, Option.map_some, Option.getD_some, hv2, Nat.zero_add]
    by_cases e : nx R i = i
    · rw [if_pos e, if_pos (by omega)]
    · rw [if_neg e, if_neg (by omega)]
  have how : ∀ i, i < Ls.length → ow (soloF 0 R) i = nx R i := by
    intro i hi
    unfold ow ownF
    rw [hg i hi]
    by_cases e : nx R i = i
    · rw [if_pos e, if_pos (by omega), e]; simp
    · rw [if_neg e, if_neg (by omega)]; simp
  have hm : MatOk Ls.length (soloF 0 R) := by
    refine ⟨by rw [soloF_length]; exact hp.2.2, fun i hi => ?_⟩
    unfold AtOk
    rw [hg i hi]
    by_cases e : nx R i = i
    · rw [if_pos e]; exact .inl rfl
    · have hlt := h2.pn i hi
      rw [if_neg e]
      right
      refine ⟨by omega, by omega, by omega, ?_⟩
      rw [Int.toNat_natCast, hg _ hlt, hinv i hi, if_neg (fun h => e h.symm)]
  refine ⟨hm, ?_, how⟩
  have hpt := sol_part hv hs
  have hq : ∀ i, i < Ls.length → pv R i = nx R i := fun i hi => by
    have h1 := h2.qp (nx R i) (h2.pn i hi)
    rw [hinv i hi] at h1
    exact h1
  have hpm := ow_perm hm
  refine ⟨hpm.pn, hpm.pn, hpm.pq, hpm.pq, fun i hi => Nat.le_refl _, fun i j hi hj hij h3 h4 => ?_⟩
  rw [how i hi, ← hq i hi] at h3
  rw [how j hj, ← hq j hj] at h4
  exact hpt.no i j hi hj hij h3 h4
end
end Go.Proofs.Ytilabipmgcpnjaa.Pure

/- The declarations of Cyc that the claim Qe needs. -/
import Derived.Test.YtilabipmgcpnjaaQeIr2
namespace Go.Proofs.Ytilabipmgcpnjaa.Cyc
open Go.Proofs.Ytilabipmgcpnjaa.Tan
set_option linter.unusedVariables false
set_option linter.unusedSimpArgs false
structure Perm2 (n : Nat) (p q : Nat → Nat) : Prop where
  pn : ∀ i, i < n → p i < n
  qn : ∀ i, i < n → q i < n
  pq : ∀ i, i < n → p (q i) = i
  qp : ∀ i, i < n → q (p i) = i
def cyc (p : Nat → Nat) (i : Nat) : Nat → Nat → List Nat
  | 0, _ => []
  | f + 1, c => c :: (if p c = i then [] else cyc p i f (p c))
def orbit (p : Nat → Nat) (n i : Nat) : List Nat := cyc p i n i
structure IsPer (p : Nat → Nat) (i m : Nat) : Prop where
  one : 1 ≤ m
  back : Nat.repeat p m i = i
  least : ∀ t, 1 ≤ t → t < m → Nat.repeat p t i ≠ i
section
variable {n : Nat} {p q p' q' : Nat → Nat}
theorem rep_add (p : Nat → Nat) (i s : Nat) : ∀ t, Nat.repeat p (s + t) i = Nat.repeat p t (Nat.repeat p s i)
  | 0 => rfl
  | t + 1 => by rw [← Nat.add_assoc, rep_succ, rep_succ, rep_add p i s t]
theorem rep_cancel (h : Perm2 n p q) : ∀ (s : Nat) {x y : Nat}, x < n → y < n → Nat.repeat p s x = Nat.repeat p s y → x = y
  | 0, _, _, _, _, e => e
  | s + 1, x, y, hx, hy, e => by
    rw [rep_succ, rep_succ] at e
    have h1 := rep_lt h.pn hx s
    have h2 := rep_lt h.pn hy s
    have : Nat.repeat p s x = Nat.repeat p s y := by rw [← h.qp _ h1, ← h.qp _ h2, e]
    exact rep_cancel h s hx hy this
theorem per_ex (h : Perm2 n p q) {i : Nat} (hi : i < n) : ∃ m, IsPer p i m ∧ m ≤ n := by
  have hex : ∃ m, 1 ≤ m ∧ m ≤ n ∧ Nat.repeat p m i = i := by
    refine Classical.byContradiction fun hno => ?_
    have hnd : ((List.range (n + 1)).map (fun t => Nat.repeat p t i)).Nodup := by
      refine nodup_map List.nodup_range fun s hs t ht e => ?_
      rw [List.mem_range] at hs ht
      rcases Nat.lt_trichotomy s t with hlt | heq | hlt
      · exfalso
        have e2 : Nat.repeat p t i = Nat.repeat p s (Nat.repeat p (t - s) i) := by rw [← rep_add]; congr 1; omega
        have := rep_cancel h s hi (rep_lt h.pn hi (t - s)) (e.trans e2)
        exact hno ⟨t - s, by omega, by omega, this.symm⟩
      · exact heq
      · exfalso
        have e2 : Nat.repeat p s i = Nat.repeat p t (Nat.repeat p (s - t) i) := by rw [← rep_add]; congr 1; omega
        have := rep_cancel h t hi (rep_lt h.pn hi (s - t)) (e.symm.trans e2)
        exact hno ⟨s - t, by omega, by omega, this.symm⟩
    have := len_le_of_sub (l2 := List.range n) hnd (fun x hx => by
      obtain ⟨t, _, rfl⟩ := List.mem_map.1 hx
      exact List.mem_range.2 (rep_lt h.pn hi t))
    simp at this
    omega
  obtain ⟨m, ⟨h1, h2, h3⟩, h4⟩ := exists_min (P := fun m => 1 ≤ m ∧ m ≤ n ∧ Nat.repeat p m i = i) (f := id) hex
  exact ⟨m, ⟨h1, h3, fun t ht htm e => by have := h4 t ⟨ht, by omega, e⟩; simp at this; omega⟩, h2⟩
theorem cyc_eq {i m : Nat} (h : IsPer p i m) : ∀ f t, t < m → m - t ≤ f → cyc p i f (Nat.repeat p t i) = (List.range' t (m - t)).map (fun t => Nat.repeat p t i)
  | 0, t, h1, h2 => by omega
  | f + 1, t, h1, h2 => by
    unfold cyc
    rw [show p (Nat.repeat p t i) = Nat.repeat p (t + 1) i from rfl]
    by_cases e : t + 1 = m
    · rw [e, h.back, if_pos rfl, ← e]
      rw [show t + 1 - t = 1 by omega]
      simp [List.range']
    · rw [if_neg (h.least (t + 1) (by omega) (by omega)), cyc_eq h f (t + 1) (by omega) (by omega)]
      rw [show m - t = (m - (t + 1)) + 1 by omega, List.range'_succ, List.map_cons]
theorem orbit_eq {i m : Nat} (h : IsPer p i m) (hm : m ≤ n) : orbit p n i = (List.range m).map (fun t => Nat.repeat p t i) := by
  have := cyc_eq h n 0 h.one (by omega)
  rw [Nat.sub_zero] at this
  rw [List.range_eq_range']
  exact this
theorem orbit_len {i m : Nat} (h : IsPer p i m) (hm : m ≤ n) : (orbit p n i).length = m := by
  rw [orbit_eq h hm, List.length_map, List.length_range]
theorem rep_mod {i m : Nat} (h : IsPer p i m) (t : Nat) : Nat.repeat p t i = Nat.repeat p (t % m) i := by
  have key : ∀ c r, Nat.repeat p (m * c + r) i = Nat.repeat p r i := by
    intro c
    induction c with
    | zero => intro r; rw [Nat.mul_zero, Nat.zero_add]
    | succ c ih =>
      intro r
      rw [show m * (c + 1) + r = m + (m * c + r) by rw [Nat.mul_succ]; omega, rep_add, h.back, ih]
  conv => lhs; rw [← Nat.div_add_mod t m]
  exact key _ _
theorem mem_orbit {i m : Nat} (h : IsPer p i m) (hm : m ≤ n) {y : Nat} : y ∈ orbit p n i ↔ ∃ t, y = Nat.repeat p t i := by
  rw [orbit_eq h hm, List.mem_map]
  constructor
  · rintro ⟨t, _, rfl⟩; exact ⟨t, rfl⟩
  · rintro ⟨t, rfl⟩
    exact ⟨t % m, List.mem_range.2 (Nat.mod_lt _ h.one), (rep_mod h t).symm⟩
theorem mem_orb (h : Perm2 n p q) {i y : Nat} (hi : i < n) : y ∈ orbit p n i ↔ ∃ t, y = Nat.repeat p t i := by
  obtain ⟨m, h1, h2⟩ := per_ex h hi
  exact mem_orbit h1 h2
theorem orb_self (h : Perm2 n p q) {i : Nat} (hi : i < n) : i ∈ orbit p n i := (mem_orb h hi).2 ⟨0, rfl⟩
theorem orb_lt (h : Perm2 n p q) {i y : Nat} (hi : i < n) (hy : y ∈ orbit p n i) : y < n := by
  obtain ⟨t, rfl⟩ := (mem_orb h hi).1 hy
  exact rep_lt h.pn hi t
theorem orb_sym (h : Perm2 n p q) {i y : Nat} (hi : i < n) (hy : y ∈ orbit p n i) : i ∈ orbit p n y := by
  obtain ⟨m, h1, h2⟩ := per_ex h hi
  rw [orbit_eq h1 h2] at hy
  obtain ⟨t, ht, rfl⟩ := List.mem_map.1 hy
  rw [List.mem_range] at ht
  refine (mem_orb h (rep_lt h.pn hi t)).2 ⟨m - t, ?_⟩
  rw [← rep_add, show t + (m - t) = m by omega, h1.back]
theorem orb_trans (h : Perm2 n p q) {i y z : Nat} (hi : i < n) (hy : y ∈ orbit p n i) (hz : z ∈ orbit p n y) : z ∈ orbit p n i := by
  have hy' := orb_lt h hi hy
  obtain ⟨t, rfl⟩ := (mem_orb h hi).1 hy
  obtain ⟨s, rfl⟩ := (mem_orb h hy').1 hz
  exact (mem_orb h hi).2 ⟨t + s, by rw [rep_add]⟩
def isMin (p : Nat → Nat) (n i : Nat) : Bool := (orbit p n i).all (fun y => decide (i ≤ y))
theorem isMin_iff {i : Nat} : isMin p n i = true ↔ ∀ y ∈ orbit p n i, i ≤ y := by unfold isMin; simp
theorem isMin_no {i : Nat} : isMin p n i = false ↔ ∃ y, y < i ∧ y ∈ orbit p n i := by
  unfold isMin
  rw [List.all_eq_false]
  constructor
  · rintro ⟨y, h1, h2⟩; exact ⟨y, by simpa using h2, h1⟩
  · rintro ⟨y, h1, h2⟩; exact ⟨y, h2, by simpa using h1⟩
/-- Who is done when the loop stands at i. -/
def Inv (p : Nat → Nat) (n i : Nat) (D : List Bool) : Prop := D.length = n ∧ ∀ x, x < n → (D.getD x false = true ↔ ∃ y, y < i ∧ y ∈ orbit p n x)
theorem Inv.zero (D : List Bool) (hl : D.length = n) (hD : ∀ x, x < n → D.getD x false = false) : Inv p n 0 D :=
  ⟨hl, fun x hx => ⟨fun h => absurd (h.symm.trans (hD x hx)) (by simp), fun ⟨y, h, _⟩ => by omega⟩⟩
theorem Inv.at {i : Nat} {D : List Bool} (h : Inv p n i D) (hi : i < n) : D.getD i false = !isMin p n i := by
  cases hm : isMin p n i with
  | false => exact (h.2 i hi).2 (isMin_no.1 hm)
  | true =>
    cases hd : D.getD i false with
    | false => rfl
    | true =>
      obtain ⟨y, h1, h2⟩ := (h.2 i hi).1 hd
      have := isMin_iff.1 hm y h2
      omega
theorem Inv.skip (hp : Perm2 n p q) {i : Nat} {D : List Bool} (h : Inv p n i D) (hi : i < n) (hm : isMin p n i = false) : Inv p n (i + 1) D := by
  refine ⟨h.1, fun x hx => (h.2 x hx).trans ⟨fun ⟨y, h1, h2⟩ => ⟨y, by omega, h2⟩, fun ⟨y, h1, h2⟩ => ?_⟩⟩
  by_cases e : y = i
  · subst e
    obtain ⟨z, h3, h4⟩ := isMin_no.1 hm
    exact ⟨z, h3, orb_trans hp hx h2 h4⟩
  · exact ⟨y, by omega, h2⟩
/-- Who is done when the walk from i has made t steps. -/
def InvT (p : Nat → Nat) (n i t : Nat) (D : List Bool) : Prop := D.length = n ∧ ∀ x, x < n → (D.getD x false = true ↔ (∃ y, y < i ∧ y ∈ orbit p n x) ∨ ∃ s, s < t ∧ x = Nat.repeat p s i)
theorem InvT.start {i : Nat} {D : List Bool} (h : Inv p n i D) : InvT p n i 0 D :=
  ⟨h.1, fun x hx => (h.2 x hx).trans ⟨.inl, fun h => h.elim id fun ⟨s, h, _⟩ => by omega⟩⟩
theorem InvT.step {i t : Nat} {D : List Bool} (h : InvT p n i t D) (ht : Nat.repeat p t i < n) : InvT p n i (t + 1) (D.set (Nat.repeat p t i) true) := by
  refine ⟨by rw [List.length_set]; exact h.1, fun x hx => ?_⟩
  have hg : (D.set (Nat.repeat p t i) true).getD x false = if Nat.repeat p t i = x then true else D.getD x false := by
    rw [List.getD_eq_getElem?_getD, List.getElem?_set]
    split
    · rename_i e
      rw [if_pos (by rw [h.1]; exact ht)]; rfl
    · rw [List.getD_eq_getElem?_getD]
  rw [hg]
  split
  · rename_i e
    exact ⟨fun _ => .inr ⟨t, by omega, e.symm⟩, fun _ => rfl⟩
  · rename_i e
    rw [h.2 x hx]
    constructor
    · rintro (h | ⟨s, h1, h2⟩)
      · exact .inl h
      · exact .inr ⟨s, by omega, h2⟩
    · rintro (h | ⟨s, h1, h2⟩)
      · exact .inl h
      · refine .inr ⟨s, ?_, h2⟩
        by_cases es : s = t
        · exact absurd (by rw [h2, es]) e
        · omega
theorem InvT.open (hp : Perm2 n p q) {i m t : Nat} (hi : i < n) (hm : IsPer p i m) (hmn : m ≤ n) (hmin : isMin p n i = true) (ht : t < m) {D : List Bool} (h : InvT p n i t D) : D.getD (Nat.repeat p t i) false = false := by
  cases hd : D.getD (Nat.repeat p t i) false with
  | false => rfl
  | true =>
    exfalso
    have hl := rep_lt hp.pn hi t
    rcases (h.2 _ hl).1 hd with ⟨y, h1, h2⟩ | ⟨s, h1, h2⟩
    · have := isMin_iff.1 hmin y (orb_trans hp hi ((mem_orb hp hi).2 ⟨t, rfl⟩) h2)
      omega
    · have e2 : Nat.repeat p t i = Nat.repeat p s (Nat.repeat p (t - s) i) := by rw [← rep_add]; congr 1; omega
      have := rep_cancel hp s hi (rep_lt hp.pn hi (t - s)) (h2.symm.trans e2)
      exact hm.least (t - s) (by omega) (by omega) this.symm
theorem InvT.shut {i m : Nat} (hi : i < n) (hm : IsPer p i m) {D : List Bool} (h : InvT p n i m D) : D.getD i false = true :=
  (h.2 i hi).2 (.inr ⟨0, hm.one, rfl⟩)
theorem InvT.done (hp : Perm2 n p q) {i m : Nat} (hi : i < n) (hm : IsPer p i m) (hmn : m ≤ n) {D : List Bool} (h : InvT p n i m D) : Inv p n (i + 1) D := by
  refine ⟨h.1, fun x hx => (h.2 x hx).trans ⟨?_, ?_⟩⟩
  · rintro (⟨y, h1, h2⟩ | ⟨s, h1, rfl⟩)
    · exact ⟨y, by omega, h2⟩
    · exact ⟨i, by omega, orb_sym hp hi ((mem_orb hp hi).2 ⟨s, rfl⟩)⟩
  · rintro ⟨y, h1, h2⟩
    by_cases e : y = i
    · subst e
      right
      have := orb_sym hp hx h2
      rw [orbit_eq hm hmn] at this
      obtain ⟨t, ht, rfl⟩ := List.mem_map.1 this
      exact ⟨t, List.mem_range.1 ht, rfl⟩
    · exact .inl ⟨y, by omega, h2⟩
theorem odd_iff (h : Perm2 n p q) {i : Nat} (hi : i < n) : (orbit p n i).length % 2 = 1 ↔ Od p i := by
  obtain ⟨m, h1, h2⟩ := per_ex h hi
  rw [orbit_len h1 h2]
  constructor
  · intro e
    exact ⟨m / 2, by rw [show 2 * (m / 2) + 1 = m by omega]; exact h1.back⟩
  · rintro ⟨c, hc⟩
    rw [rep_mod h1] at hc
    have h0 : (2 * c + 1) % m = 0 := by
      refine Classical.byContradiction fun hne => h1.least _ (by omega) (Nat.mod_lt _ h1.one) hc
    obtain ⟨d, hd⟩ := Nat.dvd_of_mod_eq_zero h0
    refine Classical.byContradiction fun hev => ?_
    obtain ⟨a, ha⟩ : ∃ a, m = 2 * a := ⟨m / 2, by omega⟩
    rw [ha, Nat.mul_assoc] at hd
    omega
def parties (p : Nat → Nat) (n : Nat) : List (List Nat) := ((List.range n).filter (isMin p n)).map (orbit p n)
def odds (p : Nat → Nat) (n : Nat) : List (List Nat) := ((List.range n).filter (fun i => isMin p n i && decide ((orbit p n i).length % 2 = 1))).map (orbit p n)
theorem odds_of_parties : odds p n = (parties p n).filter (fun l => decide (l.length % 2 = 1)) := by
  unfold odds parties
  rw [List.filter_map, List.filter_filter]
  congr 1
  apply List.filter_congr
  intro x _
  simp [Bool.and_comm]
/-- All odd cycles are single: every odd one stays where it is. -/
theorem odds_single (h : Perm2 n p q) : (∀ l ∈ odds p n, l.length = 1) ↔ ∀ i, i < n → Od p i → p i = i := by
  constructor
  · intro hs i hi ho
    -- the least one of the party
    obtain ⟨y, hy, hmin⟩ := exists_min (P := fun y => y ∈ orbit p n i) (f := id) ⟨i, orb_self h hi⟩
    have hyn := orb_lt h hi hy
    have hyo : Od p y := by
      obtain ⟨t, rfl⟩ := (mem_orb h hi).1 hy
      exact ho.rep t
    have hym : isMin p n y = true := isMin_iff.2 fun z hz => by simpa using hmin z (orb_trans h hi hy hz)
    have h1 := hs (orbit p n y) (List.mem_map.2 ⟨y, List.mem_filter.2 ⟨List.mem_range.2 hyn, by rw [hym, decide_eq_true ((odd_iff h hyn).2 hyo)]; rfl⟩, rfl⟩)
    obtain ⟨m, hm1, hm2⟩ := per_ex h hyn
    rw [orbit_len hm1 hm2] at h1
    subst h1
    have hpy : p y = y := hm1.back
    have : i ∈ orbit p n y := orb_sym h hi hy
    obtain ⟨t, ht⟩ := (mem_orb h hyn).1 this
    have hrep : ∀ t, Nat.repeat p t y = y := by
      intro t
      induction t with
      | zero => rfl
      | succ t ih => rw [rep_succ, ih, hpy]
    rw [hrep] at ht
    rw [ht, hpy]
  · intro hf l hl
    obtain ⟨i, hi, rfl⟩ := List.mem_map.1 hl
    rw [List.mem_filter, List.mem_range] at hi
    obtain ⟨hi, hb⟩ := hi
    have ho : Od p i := (odd_iff h hi).1 (by simpa using (Bool.and_eq_true_iff.1 hb).2)
    have := hf i hi ho
    have hper : IsPer p i 1 := ⟨Nat.le_refl 1, this, fun t h1 h2 => by omega⟩
    exact orbit_len hper (by omega)
end
end Go.Proofs.Ytilabipmgcpnjaa.Cyc

/- The declarations of Sl4 that the claim Qe needs. -/
import Derived.Test.YtilabipmgcpnjaaQeSl3
namespace Go.Proofs.Ytilabipmgcpnjaa.Own
open Go.Proofs.Ytilabipmgcpnjaa.Tan
set_option linter.unusedVariables false
set_option linter.unusedSimpArgs false
section
variable {Ls L : List (List Int)} {N : List Int} {rn : List Nat}
def xOf (rn : List Nat) (k : Nat) : Nat := rn.getD (k % rn.length) 0
def yOf (L : List (List Int)) (rn : List Nat) (k : Nat) : Nat := firstN L (xOf rn k)
theorem IsRot.pos (hr : IsRot Ls L N rn) : 0 < rn.length := List.length_pos_iff.2 hr.ne
theorem IsRot.mem (hr : IsRot Ls L N rn) (k : Nat) : xOf rn k ∈ rn := by
  unfold xOf
  have := Nat.mod_lt k hr.pos
  rw [List.getD_eq_getElem?_getD, List.getElem?_eq_getElem this]
  exact List.getElem_mem _
theorem IsRot.at (hr : IsRot Ls L N rn) {a : Nat} (ha : a ∈ rn) : ∃ k, k < rn.length ∧ xOf rn k = a := by
  obtain ⟨k, hk, e⟩ := List.mem_iff_getElem.1 ha
  refine ⟨k, hk, ?_⟩
  unfold xOf
  rw [Nat.mod_eq_of_lt hk, List.getD_eq_getElem?_getD, List.getElem?_eq_getElem hk, e]; rfl
theorem TL.two (h : TL Ls L) {a : Nat} (ha : a < Ls.length) (h2 : 1 < (L.getD a []).length) : ∃ f s r, L.getD a [] = f :: s :: r ∧ First (rkOf Ls) (alOf L) a (firstN L a) ∧ f = (firstN L a : Int) ∧ secondI L a = s ∧ Second (rkOf Ls) (alOf L) a s.toNat ∧ 0 ≤ s := by
  obtain ⟨f, s, r, hl⟩ := two_list h2
  have hf := h.first ha hl
  have h0 := h.rng a ha f (by rw [hl]; simp)
  have e : firstN L a = f.toNat := by unfold firstN; rw [hl]; rfl
  refine ⟨f, s, r, hl, by rw [e]; exact hf, by rw [e]; omega, by unfold secondI; rw [hl]; rfl, h.second ha hl, h.rng a ha s (by rw [hl]; simp)⟩
theorem IsRot.rotn (hr : IsRot Ls L N rn) (hp : Pref Ls.length (rkOf Ls)) (h : TL Ls L) (hs : St Ls.length (rkOf Ls) (alOf L)) : Rotn (rkOf Ls) (alOf L) rn.length (xOf rn) (yOf L rn) := by
  have hfirst : ∀ k, First (rkOf Ls) (alOf L) (xOf rn k) (yOf L rn k) := fun k => by
    have ho := hr.ok _ (hr.mem k)
    obtain ⟨_, _, _, _, h1, _⟩ := h.two ho.1 ho.2.2
    exact h1
  have px : ∀ k, xOf rn (k + rn.length) = xOf rn k := fun k => by unfold xOf; rw [Nat.add_mod_right]
  refine ⟨hr.pos, px, fun k => by unfold yOf; rw [px], fun i j hi hj e => ?_, fun k => ?_, fun k => (hs.fl _ _).1 (hfirst k)⟩
  · unfold xOf at e
    rw [Nat.mod_eq_of_lt hi, Nat.mod_eq_of_lt hj, List.getD_eq_getElem?_getD, List.getD_eq_getElem?_getD, List.getElem?_eq_getElem hi, List.getElem?_eq_getElem hj] at e
    simp only [Option.getD_some] at e
    have hnd := List.pairwise_iff_getElem.1 hr.nd
    rcases Nat.lt_trichotomy i j with h1 | h1 | h1
    · exact absurd e (hnd i j hi hj h1)
    · exact h1
    · exact absurd e.symm (hnd j i hj hi h1)
  · have hch := hr.ch _ (Nat.mod_lt k hr.pos)
    rw [Nat.mod_add_mod] at hch
    obtain ⟨s, h1, h2⟩ := hch
    have h3 := (hs.fl _ _).2 h2
    have h4 := first_uniq hp hs.tb h3 (hfirst (k + 1))
    rw [h4] at h1
    exact h1
theorem IsRot.second (hr : IsRot Ls L N rn) (hp : Pref Ls.length (rkOf Ls)) (h : TL Ls L) (hs : St Ls.length (rkOf Ls) (alOf L)) (k : Nat) : secondI L (xOf rn k) = (yOf L rn (k + 1) : Int) := by
  have hR := hr.rotn hp h hs
  have ho := hr.ok _ (hr.mem k)
  obtain ⟨f, s, r, hl, h1, h2, h3, h4, h5⟩ := h.two ho.1 ho.2.2
  obtain ⟨g, g1, g2, g3, g4⟩ := h4
  have hse := hR.sec_ne hp hs k
  have e := first_uniq hp hs.tb g1 (hR.first hs k)
  subst e
  rw [h3]
  have a1 := g4 _ hse.2.1 hse.1
  have a2 := hse.2.2 _ g2 g3
  have hr1 := hs.tb.rng _ _ g2
  have := hp.inj _ _ _ hr1.1 hr1.2.1 (hs.tb.rng _ _ hse.2.1).2.1 (Nat.le_antisymm a2 a1 |>.symm)
  omega
theorem partyF_iff (L : List (List Int)) (r : List Int) : ∀ is : List Int, partyF L r is = true ↔ ∀ i ∈ is, (L.getD i.toNat []).length = 2 ∧ (L.getD i.toNat []).headD 0 ∈ r
  | [] => by simp [partyF]
  | i :: is => by
    unfold partyF
    by_cases hc : (L.getD i.toNat []).length = 2 ∧ (L.getD i.toNat []).headD 0 ∈ r
    · rw [if_pos hc, partyF_iff L r is]
      constructor
      · intro h k hk
        rcases List.mem_cons.1 hk with rfl | hk
        · exact hc
        · exact h k hk
      · exact fun h k hk => h k (List.mem_cons_of_mem _ hk)
    · rw [if_neg hc]
      constructor
      · intro h; cases h
      · intro h; exact absurd (h i List.mem_cons_self) hc
theorem party_spec (hr : IsRot Ls L N rn) (hp : Pref Ls.length (rkOf Ls)) (h : TL Ls L) (hs : St Ls.length (rkOf Ls) (alOf L)) : partyF L (ints rn) (ints rn) = true ↔ Party (alOf L) (xOf rn) (yOf L rn) := by
  have hR := hr.rotn hp h hs
  rw [partyF_iff]
  constructor
  · intro hc k
    have hm := hr.mem k
    obtain ⟨c1, c2⟩ := hc _ (mem_ints.2 hm)
    rw [show ((xOf rn k : Nat) : Int).toNat = xOf rn k by omega] at c1 c2
    have ho := hr.ok _ hm
    obtain ⟨f, s, r, hl, h1, h2, h3, h4, h5⟩ := h.two ho.1 ho.2.2
    have hsec := hr.second hp h hs k
    rw [h3] at hsec
    have hr0 : r = [] := by
      rw [hl] at c1
      simp only [List.length_cons] at c1
      exact List.length_eq_zero_iff.1 (by omega)
    subst hr0
    refine ⟨fun z hz => ?_, ?_⟩
    · have hz2 := hz.2
      rw [hl] at hz2
      rcases List.mem_cons.1 hz2 with e | hz3
      · left; unfold yOf; omega
      · rw [List.mem_singleton] at hz3
        right; omega
    · rw [hl] at c2
      simp only [List.headD_cons] at c2
      rw [h2] at c2
      obtain ⟨m, _, e⟩ := hr.at (mem_ints.1 c2)
      exact ⟨m, e.symm⟩
  · intro hP i hi
    unfold ints at hi
    rw [List.mem_map] at hi
    obtain ⟨a, ha, rfl⟩ := hi
    rw [show ((a : Nat) : Int).toNat = a by omega]
    obtain ⟨k, hk, rfl⟩ := hr.at ha
    have ho := hr.ok _ (hr.mem k)
    obtain ⟨f, s, r, hl, h1, h2, h3, h4, h5⟩ := h.two ho.1 ho.2.2
    have hsrt := h.srt _ ho.1
    refine ⟨?_, ?_⟩
    · match r, hl with
      | [], hl => rw [hl]; rfl
      | t :: r, hl =>
        exfalso
        have m1 := (h.mem ho.1 (x := f) (by rw [hl]; simp)).1
        have m2 := (h.mem ho.1 (x := s) (by rw [hl]; simp)).1
        have m3 := (h.mem ho.1 (x := t) (by rw [hl]; simp)).1
        rw [hl] at hsrt
        have p1 := List.pairwise_cons.1 hsrt
        have p2 := List.pairwise_cons.1 p1.2
        have d1 := p1.1 s (by simp)
        have d2 := p1.1 t (by simp)
        have d3 := p2.1 t (by simp)
        have q1 := (hP k).1 _ m1
        have q2 := (hP k).1 _ m2
        have q3 := (hP k).1 _ m3
        rcases q1 with q1 | q1 <;> rcases q2 with q2 | q2 <;> rcases q3 with q3 | q3 <;> (rw [q1, q2] at d1; rw [q1, q3] at d2; rw [q2, q3] at d3; omega)
    · rw [hl]
      simp only [List.headD_cons]
      rw [h2]
      obtain ⟨m, hm⟩ := (hP k).2
      have : firstN L (xOf rn k) = xOf rn m := hm
      rw [this]
      exact mem_ints.2 (hr.mem m)
theorem seconds_spec (h : TL Ls L) : ∀ l : List Nat, (∀ a ∈ l, a < Ls.length ∧ 1 < (L.getD a []).length) → secondsF L (ints l) = some (l.map (secondI L))
  | [], _ => rfl
  | a :: l, hl => by
    obtain ⟨h1, h2⟩ := hl a List.mem_cons_self
    have ih := seconds_spec h l (fun b hb => hl b (List.mem_cons_of_mem _ hb))
    obtain ⟨f, s, r, he, _, _, h3, _⟩ := h.two h1 h2
    show secondsF L ((a : Int) :: ints l) = _
    unfold secondsF
    rw [if_pos (by rw [h.len]; omega), show ((a : Nat) : Int).toNat = a by omega, he]
    simp only
    rw [ih, List.map_cons, h3]; rfl
/-- turn: the table that the theory says. -/
theorem turn_spec (hr : IsRot Ls L N rn) (hp : Pref Ls.length (rkOf Ls)) (h : TL Ls L) (hs : St Ls.length (rkOf Ls) (alOf L)) (hno : ¬ Party (alOf L) (xOf rn) (yOf L rn)) :
    ∃ L', turnF L (ints rn) = some L' ∧ TL Ls L' ∧ ∀ a b, alOf L' a b ↔ turnM (rkOf Ls) (alOf L) (xOf rn) (yOf L rn) rn.length a b := by
  have hR := hr.rotn hp h hs
  have hsec := seconds_spec h rn (fun a ha => ⟨(hr.ok a ha).1, (hr.ok a ha).2.2⟩)
  unfold turnF
  rw [hsec, Option.bind_some]
  obtain ⟨zs, hzs⟩ : ∃ zs, (rn.map (secondI L)).zip (ints rn) = zs := ⟨_, rfl⟩
  rw [hzs]
  have hzl : zs.length = rn.length := by rw [← hzs, List.length_zip, List.length_map, ints_length, Nat.min_self]
  have hz : ∀ m (hm : m < zs.length), zs[m] = ((yOf L rn (m + 1) : Int), (xOf rn m : Int)) := by
    intro m hm
    have hmr : m < rn.length := by omega
    have e0 : xOf rn m = rn[m] := by
      unfold xOf
      rw [Nat.mod_eq_of_lt hmr, List.getD_eq_getElem?_getD, List.getElem?_eq_getElem hmr]; rfl
    have e1 := hr.second hp h hs m
    subst hzs
    rw [List.getElem_zip]
    refine Prod.ext ?_ ?_
    · simp only [List.getElem_map]
      rw [← e0, e1]
    · simp only [ints, List.getElem_map]
      rw [← e0]
  have sub : ∀ m a b, turnM (rkOf Ls) (alOf L) (xOf rn) (yOf L rn) m a b → a < Ls.length ∧ b < Ls.length ∧ a ≠ b := fun m a b hh => hs.tb.rng _ _ hh.1
  have sym : ∀ m a b, turnM (rkOf Ls) (alOf L) (xOf rn) (yOf L rn) m a b → turnM (rkOf Ls) (alOf L) (xOf rn) (yOf L rn) m b a := fun m a b hh => ⟨hs.tb.sym _ _ hh.1, fun k hk => ⟨(hh.2 k hk).2, (hh.2 k hk).1⟩⟩
  have go : ∀ d m (M : List (List Int)), m + d = rn.length → TL Ls M → alOf M = turnM (rkOf Ls) (alOf L) (xOf rn) (yOf L rn) m →
      ∃ L', turnLoop (zs.drop m) M = some L' ∧ TL Ls L' ∧ alOf L' = turnM (rkOf Ls) (alOf L) (xOf rn) (yOf L rn) rn.length := by
    intro d
    induction d with
    | zero =>
      intro m M hm hT ha
      have : m = rn.length := by omega
      subst this
      rw [List.drop_of_length_le (by omega)]
      exact ⟨M, rfl, hT, ha⟩
    | succ d ih =>
      intro m M hm hT ha
      have hmz : m < zs.length := by omega
      rw [List.drop_eq_getElem_cons hmz, hz m hmz]
      unfold turnLoop
      have hk := turn_keeps hR hp hs hno m m
      have hal : alOf M (yOf L rn (m + 1)) (xOf rn m) := by rw [ha]; exact hk
      rw [if_pos (by rw [hT.len]; have := (sub _ _ _ hk).1; omega), show ((yOf L rn (m + 1) : Nat) : Int).toNat = yOf L rn (m + 1) by omega, if_pos hal.2]
      obtain ⟨M', hc, hT', hal'⟩ := cutF_spec hT (by rw [ha]; exact sub m) (by rw [ha]; exact sym m) hal
      rw [hc, Option.bind_some]
      refine ih (m + 1) M' (by omega) hT' ?_
      funext a b
      exact propext ((hal' a b).trans (by rw [ha]; exact (turnM_succ m a b).symm))
  have h0 : alOf L = turnM (rkOf Ls) (alOf L) (xOf rn) (yOf L rn) 0 := by funext a b; exact propext (turnM_zero a b).symm
  obtain ⟨L', h1, h2, h3⟩ := go rn.length 0 L (by omega) h h0
  rw [List.drop_zero] at h1
  exact ⟨L', h1, h2, fun a b => by rw [h3]⟩
end
end Go.Proofs.Ytilabipmgcpnjaa.Own

/- The declarations of Irv that the claim Qe needs. -/
import Derived.Test.YtilabipmgcpnjaaQeTan
namespace Go.Proofs.Ytilabipmgcpnjaa.Tan
set_option linter.unusedVariables false
section
variable {n : Nat} {rk : Nat → Nat → Nat} {al : Nat → Nat → Prop}
/-- y is the first one left for x. -/
def First (rk : Nat → Nat → Nat) (al : Nat → Nat → Prop) (x y : Nat) : Prop := al x y ∧ ∀ z, al x z → rk x y ≤ rk x z
def Last (rk : Nat → Nat → Nat) (al : Nat → Nat → Prop) (x y : Nat) : Prop := al x y ∧ ∀ z, al x z → rk x z ≤ rk x y
/-- x holds somebody whom it likes better than y. -/
def Held (rk : Nat → Nat → Nat) (al : Nat → Nat → Prop) (x y : Nat) : Prop := ∃ m, Last rk al x m ∧ First rk al m x ∧ rk x m < rk x y
/-- A table: who may still become partners; whoever may not, one of the two holds somebody better. -/
structure Tb (n : Nat) (rk : Nat → Nat → Nat) (al : Nat → Nat → Prop) : Prop where
  rng : ∀ a b, al a b → a < n ∧ b < n ∧ a ≠ b
  sym : ∀ a b, al a b → al b a
  jus : ∀ a b, a < n → b < n → a ≠ b → ¬ al a b → Held rk al a b ∨ Held rk al b a
/-- j's list is cut behind i. -/
def cutR (rk : Nat → Nat → Nat) (al : Nat → Nat → Prop) (j i : Nat) (a b : Nat) : Prop := al a b ∧ ¬ (a = j ∧ rk j i < rk j b) ∧ ¬ (b = j ∧ rk j i < rk j a)
theorem cutR_sym (h : Tb n rk al) {j i a b : Nat} (hc : cutR rk al j i a b) : cutR rk al j i b a := ⟨h.sym _ _ hc.1, hc.2.2, hc.2.1⟩
theorem cut_last (h : Tb n rk al) {i j : Nat} (hij : al i j) : Last rk (cutR rk al j i) j i := by
  have hr := h.rng _ _ hij
  refine ⟨⟨h.sym _ _ hij, fun e => by omega, fun e => hr.2.2 e.1⟩, fun z hz => ?_⟩
  exact Nat.not_lt.1 (fun hl => hz.2.1 ⟨rfl, hl⟩)
theorem cut_first (h : Tb n rk al) {i j : Nat} (hf : First rk al i j) : First rk (cutR rk al j i) i j := by
  have hr := h.rng _ _ hf.1
  exact ⟨⟨hf.1, fun e => hr.2.2 e.1, fun e => by omega⟩, fun z hz => hf.2 z hz.1⟩
theorem cut_tb (h : Tb n rk al) {i j : Nat} (hf : First rk al i j) : Tb n rk (cutR rk al j i) := by
  have hij := hf.1
  have hr := h.rng _ _ hij
  have hl := cut_last h hij
  have hf' := cut_first h hf
  refine ⟨fun a b hc => h.rng a b hc.1, fun a b hc => cutR_sym h hc, fun a b ha hb hab hn => ?_⟩
  by_cases hal : al a b
  · by_cases h1 : a = j ∧ rk j i < rk j b
    · left
      exact ⟨i, h1.1 ▸ hl, h1.1 ▸ hf', h1.1 ▸ h1.2⟩
    · by_cases h2 : b = j ∧ rk j i < rk j a
      · right
        exact ⟨i, h2.1 ▸ hl, h2.1 ▸ hf', h2.1 ▸ h2.2⟩
      · exact absurd ⟨hal, h1, h2⟩ hn
  · have key : ∀ x y, Held rk al x y → Held rk (cutR rk al j i) x y := by
      rintro x y ⟨m, hm, hm', hlt⟩
      by_cases hx : x = j
      · subst hx
        have h1 := hm.2 i (h.sym _ _ hij)
        exact ⟨i, hl, hf', by omega⟩
      · have hc : cutR rk al j i x m := by
          refine ⟨hm.1, fun e => hx e.1, fun e => ?_⟩
          have h1 := e.2
          have h2 := e.1
          subst h2
          have := hm'.2 i (h.sym _ _ hij)
          omega
        exact ⟨m, ⟨hc, fun z hz => hm.2 z hz.1⟩, ⟨cutR_sym h hc, fun z hz => hm'.2 z hz.1⟩, hlt⟩
    exact (h.jus a b ha hb hab hal).imp (key a b) (key b a)
/-- The whole table, before anything is cut. -/
theorem full_tb : Tb n rk (fun a b => a < n ∧ b < n ∧ a ≠ b) :=
  ⟨fun a b h => h, fun a b h => ⟨h.2.1, h.1, fun e => h.2.2 e.symm⟩, fun a b ha hb hab hn => absurd ⟨ha, hb, hab⟩ hn⟩
theorem exists_min {P : Nat → Prop} {f : Nat → Nat} : (∃ x, P x) → ∃ x, P x ∧ ∀ y, P y → f x ≤ f y := by
  rintro ⟨x, hx⟩
  have : ∀ k, ∀ x, P x → f x = k → ∃ x, P x ∧ ∀ y, P y → f x ≤ f y := by
    intro k
    induction k using Nat.strongRecOn with
    | _ k ih =>
      intro x hx hk
      by_cases h : ∃ y, P y ∧ f y < f x
      · obtain ⟨y, hy, hlt⟩ := h
        exact ih (f y) (by omega) y hy rfl
      · exact ⟨x, hx, fun y hy => Nat.not_lt.1 (fun hl => h ⟨y, hy, hl⟩)⟩
  exact this _ x hx rfl
theorem exists_max {P : Nat → Prop} {f : Nat → Nat} {B : Nat} (hB : ∀ x, P x → f x ≤ B) : (∃ x, P x) → ∃ x, P x ∧ ∀ y, P y → f y ≤ f x := by
  intro hx
  obtain ⟨x, hx, hm⟩ := exists_min (f := fun x => B - f x) hx
  exact ⟨x, hx, fun y hy => by have h1 := hm y hy; have h2 := hB x hx; have h3 := hB y hy; omega⟩
theorem ex_first {x : Nat} (h : ∃ y, al x y) : ∃ y, First rk al x y := exists_min (f := rk x) h
theorem bound_le (rk : Nat → Nat → Nat) (x : Nat) : ∀ n, ∃ B, ∀ y, y < n → rk x y ≤ B
  | 0 => ⟨0, fun y hy => by omega⟩
  | n + 1 => by
    obtain ⟨B, hB⟩ := bound_le rk x n
    refine ⟨B + rk x n, fun y hy => ?_⟩
    by_cases h : y < n
    · have := hB y h; omega
    · have : y = n := by omega
      subst this; omega
theorem ex_last (ht : Tb n rk al) {x : Nat} (h : ∃ y, al x y) : ∃ y, Last rk al x y := by
  obtain ⟨B, hB⟩ := bound_le rk x n
  exact exists_max (f := rk x) (B := B) (fun y hy => hB y (ht.rng _ _ hy).2.1) h
/-- A stable table: y is x's first one exactly if x is y's last one. -/
structure St (n : Nat) (rk : Nat → Nat → Nat) (al : Nat → Nat → Prop) : Prop where
  tb : Tb n rk al
  fl : ∀ x y, First rk al x y ↔ Last rk al y x
theorem first_uniq (hp : Pref n rk) (ht : Tb n rk al) {x y z : Nat} (h1 : First rk al x y) (h2 : First rk al x z) : y = z :=
  hp.inj x y z (ht.rng _ _ h1.1).1 (ht.rng _ _ h1.1).2.1 (ht.rng _ _ h2.1).2.1 (Nat.le_antisymm (h1.2 z h2.1) (h2.2 y h1.1))
theorem last_uniq (hp : Pref n rk) (ht : Tb n rk al) {x y z : Nat} (h1 : Last rk al x y) (h2 : Last rk al x z) : y = z :=
  hp.inj x y z (ht.rng _ _ h1.1).1 (ht.rng _ _ h1.1).2.1 (ht.rng _ _ h2.1).2.1 (Nat.le_antisymm (h2.2 y h1.1) (h1.2 z h2.1))
open Classical in
/-- When nobody has anything to propose, the table is stable. -/
theorem st_of (hp : Pref n rk) (ht : Tb n rk al) (h : ∀ x y, First rk al x y → Last rk al y x) : St n rk al := by
  refine ⟨ht, fun x y => ⟨h x y, fun hl => ?_⟩⟩
  have hy : ∃ z, al y z := ⟨x, hl.1⟩
  have hr := ht.rng _ _ hl.1
  have hf : ∀ a, ∃ b, (∃ z, al a z) → First rk al a b := fun a => by
    by_cases ha : ∃ z, al a z
    · obtain ⟨b, hb⟩ := ex_first (rk := rk) ha
      exact ⟨b, fun _ => hb⟩
    · exact ⟨0, fun h => absurd h ha⟩
  have hf2 := fun a => Classical.choose_spec (hf a)
  obtain ⟨a, ha, hA, e⟩ := cnt_onto (n := n) (A := fun a => ∃ z, al a z) (B := fun a => ∃ z, al a z) (f := fun a => Classical.choose (hf a))
    (fun a ha hA => by
      have hb := hf2 a hA
      exact ⟨(ht.rng _ _ hb.1).2.1, a, ht.sym _ _ hb.1⟩)
    (fun a ha hA b hb hB e => by
      have h1 := h _ _ (hf2 a hA)
      have h2 := h _ _ (hf2 b hB)
      rw [e] at h1
      exact last_uniq hp ht h1 h2)
    (Nat.le_refl _) y hr.1 hy
  have h1 := hf2 a hA
  rw [e] at h1
  have h2 := last_uniq hp ht (h _ _ h1) hl
  rw [← h2]
  exact h1
/-- y is the second one left for x. -/
def Second (rk : Nat → Nat → Nat) (al : Nat → Nat → Prop) (x y : Nat) : Prop := ∃ f, First rk al x f ∧ al x y ∧ y ≠ f ∧ ∀ z, al x z → z ≠ f → rk x y ≤ rk x z
/-- The next one of a walk has two people left, too. -/
theorem walk_two (hp : Pref n rk) (hs : St n rk al) {x y x' : Nat} (h2 : Second rk al x y) (hl : Last rk al y x') : x ≠ x' ∧ First rk al x' y ∧ ∃ z, al x' z ∧ z ≠ y := by
  obtain ⟨f, hf, hxy, hyf, hmin⟩ := h2
  have hf' := (hs.fl x' y).2 hl
  have hne : x ≠ x' := by
    rintro rfl
    exact hyf (first_uniq hp hs.tb hf' hf)
  refine ⟨hne, hf', ?_⟩
  apply Classical.byContradiction
  intro hno
  have hlast : Last rk al x' y := ⟨hf'.1, fun z hz => by
    by_cases e : z = y
    · rw [e]; exact Nat.le_refl _
    · exact absurd ⟨z, hz, e⟩ hno⟩
  have hf2 := (hs.fl y x').2 hlast
  have h1 := hl.2 x (hs.tb.sym _ _ hxy)
  have h2 := hf2.2 x (hs.tb.sym _ _ hxy)
  have hr := hs.tb.rng _ _ hxy
  exact hne (hp.inj y x x' hr.2.1 hr.1 (hs.tb.rng _ _ hf'.1).1 (Nat.le_antisymm h1 h2))
/-- A rotation: x k would turn to y (k + 1), whose last one is x (k + 1). -/
structure Rotn (rk : Nat → Nat → Nat) (al : Nat → Nat → Prop) (r : Nat) (x y : Nat → Nat) : Prop where
  pos : 0 < r
  px : ∀ k, x (k + r) = x k
  py : ∀ k, y (k + r) = y k
  inj : ∀ i j, i < r → j < r → x i = x j → i = j
  sec : ∀ k, Second rk al (x k) (y (k + 1))
  lst : ∀ k, Last rk al (y k) (x k)
section
variable {r : Nat} {x y : Nat → Nat}
theorem per_mod {x : Nat → Nat} {r : Nat} (h : ∀ k, x (k + r) = x k) (k : Nat) : x (k % r) = x k := by
  have : ∀ m, x (k % r + r * m) = x (k % r) := by
    intro m
    induction m with
    | zero => rfl
    | succ m ih => rw [Nat.mul_succ, ← Nat.add_assoc, h, ih]
  rw [← this (k / r), Nat.mod_add_div]
theorem Rotn.first (hR : Rotn rk al r x y) (hs : St n rk al) (k : Nat) : First rk al (x k) (y k) := (hs.fl _ _).2 (hR.lst k)
theorem Rotn.injm (hR : Rotn rk al r x y) {i j : Nat} (h : x i = x j) : i % r = j % r :=
  hR.inj _ _ (Nat.mod_lt _ hR.pos) (Nat.mod_lt _ hR.pos) (by rw [per_mod hR.px, per_mod hR.px, h])
/-- The second one, and the first one. -/
theorem Rotn.sec_ne (hR : Rotn rk al r x y) (hp : Pref n rk) (hs : St n rk al) (k : Nat) : y (k + 1) ≠ y k ∧ al (x k) (y (k + 1)) ∧ ∀ z, al (x k) z → z ≠ y k → rk (x k) (y (k + 1)) ≤ rk (x k) z := by
  obtain ⟨f, hf, h1, h2, h3⟩ := hR.sec k
  have e := first_uniq hp hs.tb hf (hR.first hs k)
  subst e
  exact ⟨h2, h1, h3⟩
theorem Rotn.two (hR : Rotn rk al r x y) (hp : Pref n rk) (hs : St n rk al) (k : Nat) : x k ≠ x (k + 1) := (walk_two hp hs (hR.sec k) (hR.lst (k + 1))).1
theorem Rotn.x_of_y (hR : Rotn rk al r x y) (hp : Pref n rk) (hs : St n rk al) {i j : Nat} (h : y i = y j) : x i = x j := by
  have h1 := hR.lst i
  rw [h] at h1
  exact last_uniq hp hs.tb h1 (hR.lst j)
/-- The pair that the rotation takes as its new one would be cut out by another cut: then all lists are short, and the rotation is an odd party. -/
theorem bad_step (hR : Rotn rk al r x y) (hp : Pref n rk) (hs : St n rk al) {j k : Nat} (h1 : y (j + 1) = x k) (h2 : x j = y k) :
    (∀ z, al (x j) z → z = y j ∨ z = y (j + 1)) ∧ (∀ k', k' + 1 = k → y (k' + 1) = x j ∧ x k' = y j) := by
  have hl := hR.lst k
  rw [← h2, ← h1] at hl
  have hse := hR.sec_ne hp hs j
  have hshort : ∀ z, al (x j) z → z = y j ∨ z = y (j + 1) := by
    intro z hz
    by_cases e : z = y j
    · exact .inl e
    · right
      have a1 := hse.2.2 z hz e
      have a2 := hl.2 z hz
      have hr := hs.tb.rng _ _ hz
      exact hp.inj _ _ _ hr.1 hr.2.1 (hs.tb.rng _ _ hse.2.1).2.1 (Nat.le_antisymm a2 a1)
  refine ⟨hshort, fun k' hk => ?_⟩
  subst hk
  refine ⟨h2.symm, ?_⟩
  have h3 := (hR.sec_ne hp hs k').2.1
  rw [← h2] at h3
  rcases hshort _ (hs.tb.sym _ _ h3) with h4 | h4
  · exact h4
  · exfalso
    rw [h1] at h4
    exact hR.two hp hs k' h4
/-- All lists of the rotation are short, and their first ones are in it. -/
def Party (al : Nat → Nat → Prop) (x y : Nat → Nat) : Prop := ∀ k, (∀ z, al (x k) z → z = y k ∨ z = y (k + 1)) ∧ ∃ m, y k = x m
theorem bad_party (hR : Rotn rk al r x y) (hp : Pref n rk) (hs : St n rk al) {j k : Nat} (h1 : y (j + 1) = x k) (h2 : x j = y k) : Party al x y := by
  -- a bad pair (j, k) is one (k - 1, j), (j - 1, k - 1), ..; the indices go round
  have down : ∀ m j k, y (j + 1) = x k → x j = y k → m ≤ j → m ≤ k → y (j - m + 1) = x (k - m) ∧ x (j - m) = y (k - m) := by
    intro m
    induction m with
    | zero => exact fun j k a b _ _ => ⟨a, b⟩
    | succ m ih =>
      intro j k a b hj hk
      obtain ⟨a1, b1⟩ := ih j k a b (by omega) (by omega)
      obtain ⟨a2, b2⟩ := (bad_step hR hp hs a1 b1).2 (k - m - 1) (by omega)
      obtain ⟨a3, b3⟩ := (bad_step hR hp hs a2 b2).2 (j - m - 1) (by omega)
      rw [show j - (m + 1) = j - m - 1 by omega, show k - (m + 1) = k - m - 1 by omega]
      exact ⟨a3, b3⟩
  intro t
  -- raise j and k by whole rounds, and come down to t
  have hup : ∀ m, x (j + r * m) = x j ∧ y (j + r * m + 1) = y (j + 1) ∧ x (k + r * m) = x k ∧ y (k + r * m) = y k := by
    intro m
    induction m with
    | zero => exact ⟨rfl, rfl, rfl, rfl⟩
    | succ m ih =>
      rw [Nat.mul_succ, ← Nat.add_assoc, ← Nat.add_assoc, hR.px, hR.px, hR.py, show j + r * m + r + 1 = j + r * m + 1 + r by omega, hR.py]
      exact ih
  have hpos := hR.pos
  obtain ⟨m, hm⟩ : ∃ m, t + k ≤ r * m ∧ t ≤ r * m := ⟨t + k, by
    have : 1 * (t + k) ≤ r * (t + k) := Nat.mul_le_mul_right _ hpos
    omega⟩
  obtain ⟨u1, u2, u3, u4⟩ := hup m
  -- one more round, so that a step back stays a number
  obtain ⟨v1, v2, v3, v4⟩ := hup (m + 1)
  have hj : t ≤ j + r * m := by omega
  have hd := down (j + r * m - t) (j + r * m) (k + r * m + r * j) (by rw [u2]; rw [show k + r * m + r * j = k + r * (m + j) by rw [Nat.mul_add]; omega, (hup (m + j)).2.2.1]; exact h1) (by rw [u1]; rw [show k + r * m + r * j = k + r * (m + j) by rw [Nat.mul_add]; omega, (hup (m + j)).2.2.2]; exact h2) (by omega) (by
    have : 1 * j ≤ r * j := Nat.mul_le_mul_right _ hpos
    omega)
  rw [show j + r * m - (j + r * m - t) = t by omega] at hd
  have hb := bad_step hR hp hs hd.1 hd.2
  refine ⟨hb.1, ?_⟩
  obtain ⟨K, hK⟩ : ∃ K, K = k + r * m + r * j - (j + r * m - t) := ⟨_, rfl⟩
  rw [← hK] at hd hb
  by_cases h0 : K = 0
  · have hd' : y (t + 1) = x (r - 1 + 1) ∧ x t = y (r - 1 + 1) := by
      rw [show r - 1 + 1 = 0 + r by omega, hR.px, hR.py, ← h0]; exact hd
    exact ⟨_, ((bad_step hR hp hs hd'.1 hd'.2).2 (r - 1) rfl).2.symm⟩
  · exact ⟨_, (hb.2 (K - 1) (by omega)).2.symm⟩
/-- The table after the first m cuts of a turn. -/
def turnM (rk : Nat → Nat → Nat) (al : Nat → Nat → Prop) (x y : Nat → Nat) (m : Nat) (a b : Nat) : Prop := al a b ∧ ∀ k, k < m → ¬ (a = y (k + 1) ∧ rk a (x k) < rk a b) ∧ ¬ (b = y (k + 1) ∧ rk b (x k) < rk b a)
theorem turnM_zero (a b : Nat) : turnM rk al x y 0 a b ↔ al a b := ⟨fun h => h.1, fun h => ⟨h, fun k hk => by omega⟩⟩
theorem turnM_succ (m a b : Nat) : turnM rk al x y (m + 1) a b ↔ cutR rk (turnM rk al x y m) (y (m + 1)) (x m) a b := by
  constructor
  · rintro ⟨h, hk⟩
    refine ⟨⟨h, fun k hm => hk k (by omega)⟩, fun e => (hk m (by omega)).1 ⟨e.1, ?_⟩, fun e => (hk m (by omega)).2 ⟨e.1, ?_⟩⟩
    · rw [e.1]; exact e.2
    · rw [e.1]; exact e.2
  · rintro ⟨⟨h, hk⟩, h1, h2⟩
    refine ⟨h, fun k hm => ?_⟩
    by_cases e : k = m
    · subst e
      exact ⟨fun e => h1 ⟨e.1, by rw [← e.1]; exact e.2⟩, fun e => h2 ⟨e.1, by rw [← e.1]; exact e.2⟩⟩
    · exact hk k (by omega)
/-- The new pairs of a rotation that is no party stay. -/
theorem turn_keeps (hR : Rotn rk al r x y) (hp : Pref n rk) (hs : St n rk al) (hn : ¬ Party al x y) (m k : Nat) : turnM rk al x y m (y (k + 1)) (x k) := by
  have hse := fun k => hR.sec_ne hp hs k
  refine ⟨hs.tb.sym _ _ (hse k).2.1, fun j _ => ⟨?_, ?_⟩⟩
  · rintro ⟨h1, h2⟩
    have h3 := hR.injm (hR.x_of_y hp hs h1)
    have h4 : x j = x k := by
      have h5 : (k + 1 + (r - 1)) % r = (j + 1 + (r - 1)) % r := by rw [Nat.add_mod, h3, ← Nat.add_mod]
      have hpos := hR.pos
      rw [show k + 1 + (r - 1) = k + r by omega, show j + 1 + (r - 1) = j + r by omega] at h5
      rw [← hR.px j, ← hR.px k, ← per_mod hR.px (j + r), ← per_mod hR.px (k + r), h5]
    rw [h4] at h2
    omega
  · rintro ⟨h1, h2⟩
    -- x k = y (j + 1), and x j is better for it than y (k + 1): its first one
    have h3 : al (x k) (x j) := by rw [h1]; exact hs.tb.sym _ _ (hse j).2.1
    have h4 : x j = y k := by
      apply Classical.byContradiction
      intro hne
      have := (hse k).2.2 _ h3 hne
      omega
    exact hn (bad_party hR hp hs h1.symm h4)
theorem turn_st (hR : Rotn rk al r x y) (hp : Pref n rk) (hs : St n rk al) (hn : ¬ Party al x y) : St n rk (turnM rk al x y r) := by
  have hse := fun k => hR.sec_ne hp hs k
  have hkp := turn_keeps hR hp hs hn r
  have symm : ∀ a b, turnM rk al x y r a b → turnM rk al x y r b a := fun a b h => ⟨hs.tb.sym _ _ h.1, fun k hk => ⟨(h.2 k hk).2, (h.2 k hk).1⟩⟩
  -- cuts of all numbers
  have all : ∀ a b, turnM rk al x y r a b → ∀ k, ¬ (a = y (k + 1) ∧ rk a (x k) < rk a b) := by
    intro a b h k
    have hm := Nat.mod_lt k hR.pos
    have h1 := (h.2 (k % r) hm).1
    have e1 : x (k % r) = x k := per_mod hR.px k
    have e2 : y (k % r + 1) = y (k + 1) := by
      rw [← per_mod hR.py (k % r + 1), ← per_mod hR.py (k + 1), Nat.add_mod, Nat.mod_mod, ← Nat.add_mod]
    rw [e1, e2] at h1
    exact h1
  have lastY : ∀ k, Last rk (turnM rk al x y r) (y (k + 1)) (x k) := fun k => ⟨hkp k, fun z hz => Nat.not_lt.1 (fun hl => all _ _ hz k ⟨rfl, hl⟩)⟩
  have back : ∀ k, ∃ k', y (k' + 1) = y k ∧ x (k' + 1) = x k := fun k => by
    have hpos := hR.pos
    refine ⟨k + (r - 1), ?_, ?_⟩
    · rw [show k + (r - 1) + 1 = k + r by omega, hR.py]
    · rw [show k + (r - 1) + 1 = k + r by omega, hR.px]
  have firstX : ∀ k, First rk (turnM rk al x y r) (x k) (y (k + 1)) := by
    intro k
    refine ⟨symm _ _ (hkp k), fun z hz => ?_⟩
    by_cases e : z = y k
    · exfalso
      obtain ⟨k', e1, e2⟩ := back k
      subst e
      have h1 := symm _ _ hz
      refine all _ _ h1 k' ⟨e1.symm, ?_⟩
      have h2 := hR.lst k
      have h3 : al (y k) (x k') := by rw [← e1]; exact hs.tb.sym _ _ (hse k').2.1
      have hne : x k' ≠ x k := by rw [← e2]; exact hR.two hp hs k'
      refine Nat.lt_of_le_of_ne (h2.2 _ h3) (fun e => hne ?_)
      have hr := hs.tb.rng _ _ h3
      exact hp.inj _ _ _ hr.1 hr.2.1 (hs.tb.rng _ _ h2.1).2.1 e
    · exact (hse k).2.2 z hz.1 e
  have firstO : ∀ z w, (∀ k, z ≠ x k) → First rk al z w → First rk (turnM rk al x y r) z w := by
    intro z w hz hf
    refine ⟨⟨hf.1, fun k _ => ⟨?_, ?_⟩⟩, fun v hv => hf.2 v hv.1⟩
    · rintro ⟨e, hl⟩
      have h1 : al z (x k) := by rw [e]; exact hs.tb.sym _ _ (hse k).2.1
      have := hf.2 _ h1
      omega
    · rintro ⟨e, hl⟩
      have h1 := (hs.fl z w).1 hf
      rw [e] at h1
      exact hz (k + 1) (last_uniq hp hs.tb h1 (hR.lst (k + 1)))
  have nonempty : ∀ z, (∃ w, al z w) → ∃ w, turnM rk al x y r z w := by
    intro z hz
    by_cases h : ∃ k, z = x k
    · obtain ⟨k, rfl⟩ := h
      exact ⟨_, (firstX k).1⟩
    · obtain ⟨w, hw⟩ := ex_first (rk := rk) hz
      exact ⟨w, (firstO z w (fun k e => h ⟨k, e⟩) hw).1⟩
  have rng' : ∀ a b, turnM rk al x y r a b → a < n ∧ b < n ∧ a ≠ b := fun a b h => hs.tb.rng a b h.1
  have fu : ∀ {a b c}, First rk (turnM rk al x y r) a b → First rk (turnM rk al x y r) a c → b = c := fun {a b c} h1 h2 =>
    hp.inj a b c (rng' _ _ h1.1).1 (rng' _ _ h1.1).2.1 (rng' _ _ h2.1).2.1 (Nat.le_antisymm (h1.2 c h2.1) (h2.2 b h1.1))
  have lu : ∀ {a b c}, Last rk (turnM rk al x y r) a b → Last rk (turnM rk al x y r) a c → b = c := fun {a b c} h1 h2 =>
    hp.inj a b c (rng' _ _ h1.1).1 (rng' _ _ h1.1).2.1 (rng' _ _ h2.1).2.1 (Nat.le_antisymm (h2.2 b h1.1) (h1.2 c h2.1))
  have lastO : ∀ z w, (∀ k, z ≠ x k) → First rk al z w → Last rk (turnM rk al x y r) w z := by
    intro z w hz hf
    have h1 := (hs.fl z w).1 hf
    exact ⟨symm _ _ (firstO z w hz hf).1, fun v hv => h1.2 v hv.1⟩
  have fl' : ∀ a b, First rk (turnM rk al x y r) a b ↔ Last rk (turnM rk al x y r) b a := by
    intro a b
    constructor
    · intro hf
      by_cases h : ∃ k, a = x k
      · obtain ⟨k, rfl⟩ := h
        rw [fu hf (firstX k)]
        exact lastY k
      · obtain ⟨w, hw⟩ := ex_first (rk := rk) (al := al) ⟨b, hf.1.1⟩
        have h1 := firstO a w (fun k e => h ⟨k, e⟩) hw
        rw [fu hf h1]
        exact lastO a w (fun k e => h ⟨k, e⟩) hw
    · intro hl
      by_cases h : ∃ k, b = y (k + 1)
      · obtain ⟨k, rfl⟩ := h
        rw [lu hl (lastY k)]
        exact firstX k
      · obtain ⟨c, hc⟩ := ex_last hs.tb (x := b) ⟨a, hl.1.1⟩
        have hf := (hs.fl c b).2 hc
        have hcx : ∀ k, c ≠ x k := by
          rintro k rfl
          have e := first_uniq hp hs.tb hf (hR.first hs k)
          obtain ⟨k', e1, _⟩ := back k
          exact h ⟨k', by rw [e1, e]⟩
        rw [lu hl (lastO c b hcx hf)]
        exact firstO c b hcx hf
  refine ⟨⟨rng', symm, fun a b ha hb hab hno => ?_⟩, fl'⟩
  by_cases hal : al a b
  · have : ∃ k, (a = y (k + 1) ∧ rk a (x k) < rk a b) ∨ (b = y (k + 1) ∧ rk b (x k) < rk b a) := by
      apply Classical.byContradiction
      intro hne
      exact hno ⟨hal, fun k _ => ⟨fun e => hne ⟨k, .inl e⟩, fun e => hne ⟨k, .inr e⟩⟩⟩
    obtain ⟨k, ⟨rfl, hl⟩ | ⟨rfl, hl⟩⟩ := this
    · left; exact ⟨x k, lastY k, firstX k, hl⟩
    · right; exact ⟨x k, lastY k, firstX k, hl⟩
  · have key : ∀ u v, Held rk al u v → Held rk (turnM rk al x y r) u v := by
      rintro u v ⟨m, hm, hm', hlt⟩
      obtain ⟨w, hw⟩ := nonempty u ⟨m, hm.1⟩
      obtain ⟨B, hB⟩ := bound_le rk u n
      obtain ⟨m', hl'⟩ : ∃ m', Last rk (turnM rk al x y r) u m' := exists_max (f := rk u) (B := B) (fun y hy => hB y (rng' _ _ hy).2.1) ⟨w, hw⟩
      refine ⟨m', hl', (fl' m' u).2 hl', ?_⟩
      have := hm.2 m' hl'.1.1
      omega
    exact (hs.tb.jus a b ha hb hab hal).imp (key a b) (key b a)
/-- Something is cut out. -/
theorem turn_less (hR : Rotn rk al r x y) (hp : Pref n rk) (hs : St n rk al) : al (x 0) (y 0) ∧ ¬ turnM rk al x y r (x 0) (y 0) := by
  refine ⟨(hR.first hs 0).1, fun h => ?_⟩
  have hpos := hR.pos
  have h1 := (h.2 (r - 1) (by omega)).2
  have e1 : y (r - 1 + 1) = y 0 := by rw [show r - 1 + 1 = 0 + r by omega, hR.py]
  have e2 : x (r - 1 + 1) = x 0 := by rw [show r - 1 + 1 = 0 + r by omega, hR.px]
  refine h1 ⟨e1.symm, ?_⟩
  have h2 := hR.lst 0
  have h3 : al (y 0) (x (r - 1)) := by rw [← e1]; exact hs.tb.sym _ _ (hR.sec_ne hp hs _).2.1
  have hne : x (r - 1) ≠ x 0 := by rw [← e2]; exact hR.two hp hs _
  refine Nat.lt_of_le_of_ne (h2.2 _ h3) (fun e => hne ?_)
  have hr := hs.tb.rng _ _ h3
  exact hp.inj _ _ _ hr.1 hr.2.1 (hs.tb.rng _ _ h2.1).2.1 e
end
end
end Go.Proofs.Ytilabipmgcpnjaa.Tan

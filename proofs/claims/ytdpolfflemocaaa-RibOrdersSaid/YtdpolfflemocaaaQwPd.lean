/- The declarations of Pd that the claim Qw needs. -/
import Derived.Test.YtdpolfflemocaaaQwPc
import Derived.Test.YtdpolfflemocaaaQwOwx4
import Derived.Test.YtdpolfflemocaaaQwRxx6
namespace Go.Proofs.Ytdpolfflemocaaa.Pure
open Go Go.RowKit Go.Proofs.YtdpolfflemocaaaW.PrintWords Go.Proofs.YtdpolfflemocaaaW.PrintLast Go.Proofs.YtdpolfflemocaaaW.PrintMore Go.Proofs.Ytdpolfflemocaaa.Cl Go.Proofs.Ytdpolfflemocaaa.Own Go.Proofs.Ytdpolfflemocaaa.Rx
set_option linter.unusedVariables false
set_option linter.unusedSimpArgs false
open Classical
theorem getD_rep (n a : Nat) : (List.replicate n 0).getD a 0 = 0 := by
  simp only [List.getD_eq_getElem?_getD, List.getElem?_replicate]
  split <;> rfl
def eqE (a b : S52) : Bool := a.f0 == b.f0 && a.f1 == b.f1
def ea (es : List S52) (i : Nat) : S52 := es.getD i z52
structure OkAt (n : Int) (es : List S52) (i : Nat) : Prop where
  lo : 0 ≤ (ea es i).f0
  lt : (ea es i).f0 < (ea es i).f1
  hi : (ea es i).f1 < n
  new : ∀ k, k < i → eqE (ea es k) (ea es i) = false
structure Valid (n : Int) (es : List S52) : Prop where
  lo : 1 ≤ n
  hi : n ≤ 12
  ok : ∀ i, i < es.length → OkAt n es i
theorem wrap_up (i : Nat) (h : i < 2 ^ 60) : wrap64 ((i : Int) + 1) = ((i + 1 : Nat) : Int) := by unfold wrap64; omega
theorem wrap_sm (x : Int) (h0 : -1000000 ≤ x) (h1 : x ≤ 1000000) : wrap64 x = x := by unfold wrap64; omega
theorem ea_rd (es : List S52) (i : Nat) : rd_T52 es (i : Int) = ea es i := by simp [rd_T52, ea]
theorem in_f (a b c : Int) : gampref04_in.f a b c = some (decide (b ≤ a ∧ a ≤ c)) := by
 unfold gampref04_in.f
 by_cases h : b ≤ a
 ·rw [if_pos (show a ≥ b from h)]; simp [h]
 ·rw [if_neg (show ¬ a ≥ b from h)]; simp [h]
theorem graph_l1 (n : Int) (es : List S52) (hl : es.length < 2 ^ 50) (i : Nat) (hi : i < es.length) (r : Bool) (hr : Ev (fun k => gampref04_Graph.l0 k n es ((i + 1 : Nat) : Int)) r) :
  ∀ (d j : Nat), j + d = i → Ev (fun k => gampref04_Graph.l1 k n es (i : Int) (j : Int)) (decide (∀ k, j ≤ k → k < i → eqE (ea es k) (ea es i) = false) && r) := by
 intro d
 induction d with
 | zero =>
  intro j hj
  have h0 : decide (∀ k, j ≤ k → k < i → eqE (ea es k) (ea es i) = false) = true := decide_eq_true (fun k h1 h2 => by omega)
  rw [h0, Bool.true_and]
  refine Ev.step (fun k => ?_) hr
  simp only [gampref04_Graph.l1]
  rw [if_neg (by omega), wrap_up i (by omega)]
 | succ d ih =>
  intro j hj
  have e : ∀ k, gampref04_Graph.l1 (k + 1) n es (i : Int) (j : Int) = if eqE (ea es j) (ea es i) = true then some false else gampref04_Graph.l1 k n es (i : Int) ((j + 1 : Nat) : Int) := by
   intro k
   simp only [gampref04_Graph.l1]
   rw [if_pos (by omega), if_pos (by omega), if_pos (by omega), if_pos (by omega), if_pos (by omega), ea_rd, ea_rd, wrap_up j (by omega)]
   rfl
  by_cases hd : eqE (ea es j) (ea es i) = true
  ·have h0 : decide (∀ k, j ≤ k → k < i → eqE (ea es k) (ea es i) = false) = false := decide_eq_false (fun h => by rw [h j (Nat.le_refl _) (by omega)] at hd; cases hd)
   rw [h0, Bool.false_and]
   refine Ev.step (f := fun _ => some false) (fun k => ?_) (Ev.now _)
   rw [e, if_pos hd]
  ·refine Ev.step (fun k => by rw [e, if_neg hd]) ?_
   have := ih (j + 1) (by omega)
   have h0 : decide (∀ k, j ≤ k → k < i → eqE (ea es k) (ea es i) = false) = decide (∀ k, j + 1 ≤ k → k < i → eqE (ea es k) (ea es i) = false) := by
    apply decide_eq_decide.2
    constructor
    ·exact fun h k h1 h2 => h k (by omega) h2
    ·intro h k h1 h2
     by_cases hk : k = j
     ·subst hk; simpa using hd
     ·exact h k (by omega) h2
   rw [h0]; exact this
theorem okAt_iff (n : Int) (es : List S52) (i : Nat) : OkAt n es i ↔ ((0 ≤ (ea es i).f0 ∧ (ea es i).f0 ≤ n - 1) ∧ ((ea es i).f0 + 1 ≤ (ea es i).f1 ∧ (ea es i).f1 ≤ n - 1)) ∧ ∀ k, 0 ≤ k → k < i → eqE (ea es k) (ea es i) = false :=
  ⟨fun h => ⟨⟨⟨h.lo, by have := h.lt; have := h.hi; omega⟩, by have := h.lt; omega, by have := h.hi; omega⟩, fun k _ hk => h.new k hk⟩, fun h => ⟨h.1.1.1, by have := h.1.2.1; omega, by have := h.1.2.2; omega, fun k hk => h.2 k (by omega) hk⟩⟩
theorem graph_l0 (n : Int) (hn : n ≤ 12) (hn1 : 1 ≤ n) (es : List S52) (hl : es.length < 2 ^ 50) : ∀ (d i : Nat), i + d = es.length →
  Ev (fun k => gampref04_Graph.l0 k n es (i : Int)) (decide (∀ j, i ≤ j → j < es.length → OkAt n es j)) := by
 intro d
 induction d with
 | zero =>
  intro i hi
  rw [decide_eq_true (fun j h1 h2 => by omega)]
  refine Ev.step (f := fun _ => some true) (fun k => ?_) (Ev.now _)
  simp only [gampref04_Graph.l0]
  rw [if_neg (by omega)]
 | succ d ih =>
  intro i hi
  have hlt : i < es.length := by omega
  have r1 := ih (i + 1) (by omega)
  have r2 := graph_l1 n es hl i hlt _ r1 i 0 (by omega)
  have hw : wrap64 (n - 1) = n - 1 := wrap_sm _ (by omega) (by omega)
  have e : ∀ k, gampref04_Graph.l0 (k + 1) n es (i : Int) = if 0 ≤ (ea es i).f0 ∧ (ea es i).f0 ≤ n - 1 then gampref04_Graph.j1 k n es i (!decide ((ea es i).f0 + 1 ≤ (ea es i).f1 ∧ (ea es i).f1 ≤ n - 1)) else gampref04_Graph.j1 k n es i true := by
   intro k
   simp only [gampref04_Graph.l0]
   rw [if_pos (by omega), if_pos (by omega), ea_rd, in_f, Option.bind_some, hw]
   by_cases h : 0 ≤ (ea es i).f0 ∧ (ea es i).f0 ≤ n - 1
   ·rw [if_pos (decide_eq_true h), if_pos h, in_f, Option.bind_some, wrap_sm _ (by omega) (by omega)]
   ·rw [if_neg (by simpa using h), if_neg h]
  have bad : ∀ b, b = true → ∀ k, gampref04_Graph.j1 (k + 1) n es (i : Int) b = some false := by
   rintro b rfl k
   simp only [gampref04_Graph.j1]
   simp
  by_cases h1 : 0 ≤ (ea es i).f0 ∧ (ea es i).f0 ≤ n - 1
  ·by_cases h2 : (ea es i).f0 + 1 ≤ (ea es i).f1 ∧ (ea es i).f1 ≤ n - 1
   ·refine Ev.step (fun k => by rw [e, if_pos h1, decide_eq_true h2]) ?_
    refine Ev.step (f := fun k => gampref04_Graph.l1 k n es (i : Int) ((0 : Nat) : Int)) (fun k => by simp [gampref04_Graph.j1]) ?_
    rw [show decide (∀ j, i ≤ j → j < es.length → OkAt n es j) = (decide (∀ k, 0 ≤ k → k < i → eqE (ea es k) (ea es i) = false) && decide (∀ j, i + 1 ≤ j → j < es.length → OkAt n es j)) from ?_]
    ·exact r2
    ·rw [← Bool.decide_and]
     apply decide_eq_decide.2
     constructor
     ·exact fun h => ⟨((okAt_iff n es i).1 (h i (Nat.le_refl _) hlt)).2, fun j h1 h2 => h j (by omega) h2⟩
     ·rintro ⟨ha, hb⟩ j hj hj2
      by_cases hji : j = i
      ·subst hji; exact (okAt_iff n es j).2 ⟨⟨h1, h2⟩, ha⟩
      ·exact hb j (by omega) hj2
   ·rw [decide_eq_false (fun h => h2 ((okAt_iff n es i).1 (h i (Nat.le_refl _) hlt)).1.2)]
    refine Ev.step (fun k => by rw [e, if_pos h1, decide_eq_false h2]) ?_
    exact Ev.step (f := fun _ => some false) (bad _ rfl) (Ev.now _)
  ·rw [decide_eq_false (fun h => h1 ((okAt_iff n es i).1 (h i (Nat.le_refl _) hlt)).1.1)]
   refine Ev.step (fun k => by rw [e, if_neg h1]) ?_
   exact Ev.step (f := fun _ => some false) (bad _ rfl) (Ev.now _)
theorem graph_ev (n : Int) (es : List S52) (hl : es.length < 2 ^ 50) : Ev (fun k => gampref04_Graph.f k n es) (decide (Valid n es)) := by
 by_cases h : 1 ≤ n ∧ n ≤ 12
 ·have h0 := graph_l0 n h.2 h.1 es hl es.length 0 (by omega)
  rw [show decide (Valid n es) = decide (∀ j, 0 ≤ j → j < es.length → OkAt n es j) from decide_eq_decide.2 ⟨fun v j _ hj => v.ok j hj, fun v => ⟨h.1, h.2, fun j hj => v j (by omega) hj⟩⟩]
  refine Ev.congr (fun k => ?_) h0
  unfold gampref04_Graph.f
  rw [in_f, Option.bind_some, if_pos (decide_eq_true h)]; rfl
 ·rw [decide_eq_false (fun v => h ⟨v.lo, v.hi⟩)]
  refine Ev.congr (fun k => ?_) (Ev.now _)
  unfold gampref04_Graph.f
  rw [in_f, Option.bind_some, if_neg (by simpa using h)]
structure Inv (n : Nat) (es : List S52) (i : Nat) (g : List Nat) : Prop where
  len : g.length = n
  mem : ∀ v u : Nat, (g.getD v 0).testBit u = true ↔ ∃ k, k < i ∧ (((ea es k).f0 = v ∧ (ea es k).f1 = u) ∨ ((ea es k).f0 = u ∧ (ea es k).f1 = v))
  sz : ∀ v, g.getD v 0 < 4294967296
theorem getD_set (l : List Nat) (i j x : Nat) : (l.set i x).getD j 0 = if i = j ∧ j < l.length then x else l.getD j 0 := by
 simp only [List.getD_eq_getElem?_getD, List.getElem?_set]
 by_cases h : i = j
 ·subst h
  by_cases h2 : i < l.length
  ·simp [h2]
  ·simp [h2]
 ·simp [h]
theorem il_set (l : List Nat) (i x : Nat) : (il l).set i (x : Int) = il (l.set i x) := by simp [il, List.map_set]
theorem Inv.next {n : Nat} {es : List S52} {i a b : Nat} {g : List Nat} (h : Inv n es i g) (hn : n ≤ 12) (ha : (ea es i).f0 = a) (hb : (ea es i).f1 = b) (hab : a < b) (hbn : b < n) :
  Inv n es (i + 1) ((g.set a (g.getD a 0 ||| 2 ^ b)).set b (g.getD b 0 ||| 2 ^ a)) := by
 have key : ∀ v, ((g.set a (g.getD a 0 ||| 2 ^ b)).set b (g.getD b 0 ||| 2 ^ a)).getD v 0 = if v = b then g.getD b 0 ||| 2 ^ a else if v = a then g.getD a 0 ||| 2 ^ b else g.getD v 0 := by
  intro v
  rw [getD_set, getD_set, List.length_set, h.len]
  by_cases h1 : v = b
  ·subst h1; rw [if_pos ⟨rfl, hbn⟩, if_pos rfl]
  ·rw [if_neg (fun e => h1 e.1.symm), if_neg h1]
   by_cases h2 : v = a
   ·subst h2; rw [if_pos ⟨rfl, by omega⟩, if_pos rfl]
   ·rw [if_neg (fun e => h2 e.1.symm), if_neg h2]
 refine ⟨by rw [List.length_set, List.length_set]; exact h.len, fun v u => ?_, fun v => ?_⟩
 ·rw [key]
  have split : (∃ k, k < i + 1 ∧ (((ea es k).f0 = v ∧ (ea es k).f1 = u) ∨ ((ea es k).f0 = u ∧ (ea es k).f1 = v))) ↔ (g.getD v 0).testBit u = true ∨ ((a = v ∧ b = u) ∨ (a = u ∧ b = v)) := by
   rw [h.mem]
   constructor
   ·rintro ⟨k, hk, hh⟩
    by_cases hki : k = i
    ·subst hki; rw [ha, hb] at hh; right; omega
    ·exact Or.inl ⟨k, by omega, hh⟩
   ·rintro (⟨k, hk, hh⟩ | hh)
    ·exact ⟨k, by omega, hh⟩
    ·refine ⟨i, by omega, ?_⟩
     rw [ha, hb]; omega
  rw [split]
  by_cases h1 : v = b
  ·subst h1
   rw [if_pos rfl, Nat.testBit_or, Nat.testBit_two_pow, Bool.or_eq_true, decide_eq_true_eq]
   constructor
   ·rintro (x | x)
    ·exact Or.inl x
    ·right; right; exact ⟨x, rfl⟩
   ·rintro (x | x | x)
    ·exact Or.inl x
    ·omega
    ·exact Or.inr x.1
  ·rw [if_neg h1]
   by_cases h2 : v = a
   ·subst h2
    rw [if_pos rfl, Nat.testBit_or, Nat.testBit_two_pow, Bool.or_eq_true, decide_eq_true_eq]
    constructor
    ·rintro (x | x)
     ·exact Or.inl x
     ·right; left; exact ⟨rfl, x⟩
    ·rintro (x | x | x)
     ·exact Or.inl x
     ·exact Or.inr x.2
     ·omega
   ·rw [if_neg h2]
    constructor
    ·exact Or.inl
    ·rintro (x | x | x)
     ·exact x
     ·omega
     ·omega
 ·rw [key]
  have pb := pow_u32 (show b < 32 by omega)
  have pa := pow_u32 (show a < 32 by omega)
  split
  ·exact or_u32 (h.sz _) pa
  ·split
   ·exact or_u32 (h.sz _) pb
   ·exact h.sz _
theorem has_f (x i : Nat) (hx : x < 4294967296) (hi : i < 32) : rib_set_has.f (x : Int) (i : Int) = some (x.testBit i) := by
 unfold rib_set_has.f
 rw [if_pos (by omega)]
 exact congrArg some (hasB_nat x i hx hi)
theorem read_l0 (n : Nat) (hn : n ≤ 12) (es : List S52) (hl : es.length < 2 ^ 50) : ∀ (d i : Nat) (g : List Nat), i + d = es.length → Inv n es i g → (∀ j, j < i → OkAt n es j) →
    ∃ res : List Int × Bool, Ev (fun k => rib_read.l0 k (n : Int) (il g) es (es.length : Int) (i : Int)) res ∧ ((∀ j, j < es.length → OkAt n es j) → ∃ g', res = (il g', true) ∧ Inv n es es.length g') ∧ (¬ (∀ j, j < es.length → OkAt n es j) → res = ([], false)) := by
  intro d
  induction d with
  | zero =>
    intro i g hi hg hok
    have hil : i = es.length := by omega
    subst hil
    refine ⟨(il g, true), ?_, fun _ => ⟨g, rfl, hg⟩, fun h => absurd hok h⟩
    refine Ev.step (f := fun _ => some (il g, true)) (fun k => ?_) (Ev.now _)
    simp only [rib_read.l0]
    rw [if_neg (by omega)]
  | succ d ih =>
    intro i g hi hg hok
    have hlt : i < es.length := by omega
    have e1 : ∀ k, rib_read.l0 (k + 1) (n : Int) (il g) es (es.length : Int) (i : Int) = if (ea es i).f0 < 0 then rib_read.j2 k n (il g) es es.length i true (ea es i).f0 (ea es i).f1 else if (ea es i).f0 ≥ (ea es i).f1 then rib_read.j2 k n (il g) es es.length i true (ea es i).f0 (ea es i).f1 else if (ea es i).f1 ≥ (n : Int) then rib_read.j2 k n (il g) es es.length i true (ea es i).f0 (ea es i).f1 else
        if 0 ≤ (ea es i).f0 then if (ea es i).f0 < ((il g).length : Int) then (rib_set_has.f (rd (il g) (ea es i).f0) (ea es i).f1).bind fun t => rib_read.j2 k n (il g) es es.length i t (ea es i).f0 (ea es i).f1 else none else none := by
      intro k
      simp only [rib_read.l0]
      rw [if_pos (by omega), if_pos (by omega), if_pos (by omega), ea_rd]
    have bad : ∀ b, b = true → ∀ k x y, rib_read.j2 (k + 1) n (il g) es es.length i b x y = some (([] : List Int), false) := by
      rintro b rfl k x y
      simp only [rib_read.j2]
      simp
    have no : ¬ OkAt n es i → (∀ k, ∃ x y, rib_read.l0 (k + 1) (n : Int) (il g) es (es.length : Int) (i : Int) = rib_read.j2 k n (il g) es es.length i true x y) →
        ∃ res : List Int × Bool, Ev (fun k => rib_read.l0 k (n : Int) (il g) es (es.length : Int) (i : Int)) res ∧ ((∀ j, j < es.length → OkAt n es j) → ∃ g', res = (il g', true) ∧ Inv n es es.length g') ∧ (¬ (∀ j, j < es.length → OkAt n es j) → res = ([], false)) := by
      intro h1 h2
      refine ⟨([], false), ⟨2, fun k hk => ?_⟩, fun h => absurd (h i hlt) h1, fun _ => rfl⟩
      obtain ⟨k, rfl⟩ : ∃ j, k = j + 2 := ⟨k - 2, by omega⟩
      obtain ⟨x, y, hxy⟩ := h2 (k + 1)
      show rib_read.l0 (k + 1 + 1) (n : Int) (il g) es (es.length : Int) (i : Int) = _
      rw [hxy, bad _ rfl]
    by_cases h1 : (ea es i).f0 < 0
    · exact no (fun h => by have := h.lo; omega) (fun k => ⟨_, _, by rw [e1, if_pos h1]⟩)
    by_cases h2 : (ea es i).f0 ≥ (ea es i).f1
    · exact no (fun h => by have := h.lt; omega) (fun k => ⟨_, _, by rw [e1, if_neg h1, if_pos h2]⟩)
    by_cases h3 : (ea es i).f1 ≥ (n : Int)
    · exact no (fun h => by have := h.hi; omega) (fun k => ⟨_, _, by rw [e1, if_neg h1, if_neg h2, if_pos h3]⟩)
    obtain ⟨a, ha⟩ : ∃ a : Nat, (ea es i).f0 = a := ⟨(ea es i).f0.toNat, by omega⟩
    obtain ⟨b, hb⟩ : ∃ b : Nat, (ea es i).f1 = b := ⟨(ea es i).f1.toNat, by omega⟩
    rw [ha, hb] at h2 e1
    rw [ha] at h1
    rw [hb] at h3
    have hbn : b < n := by omega
    have hab : a < b := by omega
    have hgl := hg.len
    have e2 : ∀ k, rib_read.l0 (k + 1) (n : Int) (il g) es (es.length : Int) (i : Int) = rib_read.j2 k n (il g) es es.length i ((g.getD a 0).testBit b) a b := by
      intro k
      rw [e1, if_neg h1, if_neg h2, if_neg h3, if_pos (by omega), il_len, if_pos (by omega), il_rd _ _ (by omega), has_f _ _ (hg.sz a) (by omega)]
      rfl
    have hdup : (g.getD a 0).testBit b = true ↔ ∃ k, k < i ∧ eqE (ea es k) (ea es i) = true := by
      rw [hg.mem]
      constructor
      · rintro ⟨k, hk, h | h⟩
        · exact ⟨k, hk, by simp [eqE, ha, hb, h.1, h.2]⟩
        · have := (hok k hk).lt; omega
      · rintro ⟨k, hk, h⟩
        simp [eqE, ha, hb] at h
        exact ⟨k, hk, Or.inl h⟩
    by_cases h4 : (g.getD a 0).testBit b = true
    · refine no (fun h => ?_) (fun k => ⟨_, _, by rw [e2, h4]⟩)
      obtain ⟨k, hk, h5⟩ := hdup.1 h4
      rw [h.new k hk] at h5; cases h5
    · have hoki : OkAt n es i := ⟨by omega, by omega, by omega, fun k hk => by
        cases h5 : eqE (ea es k) (ea es i)
        · rfl
        · exact absurd (hdup.2 ⟨k, hk, h5⟩) h4⟩
      obtain ⟨res, ev, r1, r2⟩ := ih (i + 1) _ (by omega) (hg.next hn ha hb hab hbn) (fun j hj => by
        by_cases hji : j = i
        · subst hji; exact hoki
        · exact hok j (by omega))
      refine ⟨res, ?_, r1, r2⟩
      refine Ev.step (fun k => e2 k) ?_
      refine Ev.step (fun k => ?_) ev
      have h4' : (g.getD a 0).testBit b = false := by simpa using h4
      have hga := hg.sz a
      have hgb := hg.sz b
      have pb := pow_u32 (show b < 32 by omega)
      have pa := pow_u32 (show a < 32 by omega)
      have q1 := one_nat b (by omega)
      have q2 := one_nat a (by omega)
      have c1 : (0 : Int) ≤ (a : Int) := by omega
      have c2 : (a : Int) < (g.length : Int) := by omega
      have c3 : (0 : Int) ≤ (b : Int) := by omega
      have c4 : (b : Int) < (g.length : Int) := by omega
      have gb : (g.set a (g.getD a 0 ||| 2 ^ b)).getD b 0 = g.getD b 0 := by rw [getD_set, if_neg (by omega)]
      simp only [rib_read.j2]
      rw [h4', if_neg (by simp), if_pos c1, il_len, if_pos c2, q1, Option.bind_some, Option.bind_some, if_pos c3, if_pos c4, q2, Option.bind_some, il_rd _ _ (by omega), u32_or_nat _ _ hga pb, Int.toNat_natCast, Int.toNat_natCast, il_set, il_rd _ _ (by rw [List.length_set]; omega), gb, u32_or_nat _ _ hgb pa, il_set, wrap_up i (by omega)]
/-- Two nodes are neighbours: a pair names them. -/
def nr (es : List S52) (a b : Int) : Bool := es.any fun e => e.f0 == mn a b && e.f1 == mx a b && a != b
theorem ea_mem {es : List S52} {i : Nat} (h : i < es.length) : ea es i ∈ es := by
 unfold ea
 rw [show es.getD i z52 = es[i] by simp [h]]
 exact List.getElem_mem _
theorem mem_ea {es : List S52} {e : S52} (h : e ∈ es) : ∃ i, i < es.length ∧ ea es i = e := by
  obtain ⟨i, hi, he⟩ := List.getElem_of_mem h
  exact ⟨i, hi, by simp [ea, hi, he]⟩
theorem inv_nr {n : Nat} {es : List S52} {g : List Nat} (h : Inv n es es.length g) (v : Valid n es) (a b : Nat) : (g.getD a 0).testBit b = nr es a b := by
 rw [Bool.eq_iff_iff, h.mem]
 unfold nr
 rw [List.any_eq_true]
 constructor
 ·rintro ⟨k, hk, hh⟩
  refine ⟨ea es k, ea_mem hk, ?_⟩
  have := (v.ok k hk).lt
  simp only [Bool.and_eq_true, beq_iff_eq, bne_iff_ne, ne_eq]
  unfold mn mx
  rcases hh with hh | hh
  ·rw [if_neg (by omega), if_pos (by omega)]; omega
  ·rw [if_pos (by omega), if_neg (by omega)]; omega
 ·rintro ⟨e, he, hh⟩
  obtain ⟨k, hk, rfl⟩ := mem_ea he
  refine ⟨k, hk, ?_⟩
  have := (v.ok k hk).lt
  simp only [Bool.and_eq_true, beq_iff_eq, bne_iff_ne, ne_eq] at hh
  unfold mn mx at hh
  by_cases hab : (a : Int) < (b : Int)
  ·rw [if_neg (by omega), if_pos hab] at hh; omega
  ·by_cases hba : (b : Int) < (a : Int)
   ·rw [if_pos hba, if_neg (by omega)] at hh; omega
   ·omega
theorem nr_symm (es : List S52) (a b : Int) : nr es a b = nr es b a := by
 unfold nr
 congr 1
 funext e
 have h1 : mn a b = mn b a := by unfold mn; split <;> split <;> omega
 have h2 : mx a b = mx b a := by unfold mx; split <;> split <;> omega
 rw [h1, h2, bne_comm]
theorem nr_self (es : List S52) (a : Int) : nr es a a = false := by unfold nr; simp
theorem inv_gr {n : Nat} {es : List S52} {g : List Nat} (h : Inv n es es.length g) (v : Valid n es) : Gr g := by
 have hn := v.hi
 have hlt : ∀ a b, (g.getD a 0).testBit b = true → b < n := by
  intro a b hab
  obtain ⟨k, hk, hh⟩ := (h.mem a b).1 hab
  have h1 := (v.ok k hk).lt
  have h2 := (v.ok k hk).hi
  omega
 refine ⟨by rw [h.len]; omega, fun i => ?_, fun i j => ?_, fun i => ?_⟩
 ·rw [h.len]
  apply Nat.lt_pow_two_of_testBit
  intro j hj
  cases hb : (g.getD i 0).testBit j
  ·rfl
  ·have := hlt i j hb; omega
 ·unfold ad; rw [inv_nr h v, inv_nr h v, nr_symm]
 ·unfold ad; rw [inv_nr h v, nr_self]
theorem read_ok (n : Nat) (es : List S52) (hl : es.length < 2 ^ 50) (v : Valid n es) : ∃ g, Ev (fun k => rib_read.f k (n : Int) es) (il g, true) ∧ Gr g ∧ g.length = n ∧ ∀ a b : Nat, ad g a b = nr es a b := by
 have hn := v.hi
 have h0 : Inv n es 0 (List.replicate n 0) := by
  refine ⟨by simp, fun a b => ?_, fun a => ?_⟩
  ·have : (List.replicate n 0).getD a 0 = 0 := getD_rep _ _
   rw [this]; simp
  ·have : (List.replicate n 0).getD a 0 = 0 := getD_rep _ _
   rw [this]; omega
 obtain ⟨res, ev, r1, _⟩ := read_l0 n (by omega) es hl es.length 0 _ (by omega) h0 (fun j hj => by omega)
 obtain ⟨g, rfl, hg⟩ := r1 v.ok
 refine ⟨g, ?_, inv_gr hg v, hg.len, fun a b => inv_nr hg v a b⟩
 have hlo := v.lo
 refine Ev.congr (g := fun k => rib_read.f k (n : Int) es) (f := fun k => rib_read.j0 k n es false) (fun k => ?_) ?_
 ·unfold rib_read.f
  rw [if_neg (by omega), decide_eq_false (by omega)]
 ·refine Ev.step (fun k => ?_) ev
  simp only [rib_read.j0]
  rw [if_neg (by simp), if_pos (by omega), if_pos (by omega)]
  simp [il]
theorem read_no (n : Int) (es : List S52) (hl : es.length < 2 ^ 50) (v : ¬ Valid n es) : Ev (fun k => rib_read.f k n es) ([], false) := by
 have out : ¬ (1 ≤ n ∧ n ≤ 12) → Ev (fun k => rib_read.f k n es) ([], false) := by
  intro h
  refine ⟨1, fun k hk => ?_⟩
  obtain ⟨k, rfl⟩ : ∃ j, k = j + 1 := ⟨k - 1, by omega⟩
  have bad : ∀ b, b = true → rib_read.j0 (k + 1) n es b = some (([] : List Int), false) := by
   rintro b rfl
   simp only [rib_read.j0]
   simp
  show rib_read.f (k + 1) n es = _
  unfold rib_read.f
  by_cases h1 : n < 1
  ·rw [if_pos h1, bad _ rfl]
  ·rw [if_neg h1, bad _ (decide_eq_true (by omega))]
 by_cases h : 1 ≤ n ∧ n ≤ 12
 ·obtain ⟨m, rfl⟩ : ∃ m : Nat, n = m := ⟨n.toNat, by omega⟩
  have h0 : Inv m es 0 (List.replicate m 0) := by
   refine ⟨by simp, fun a b => ?_, fun a => ?_⟩
   ·have : (List.replicate m 0).getD a 0 = 0 := getD_rep _ _
    rw [this]; simp
   ·have : (List.replicate m 0).getD a 0 = 0 := getD_rep _ _
    rw [this]; omega
  obtain ⟨res, ev, _, r2⟩ := read_l0 m (by omega) es hl es.length 0 _ (by omega) h0 (fun j hj => by omega)
  obtain rfl := r2 (fun hok => v ⟨h.1, h.2, hok⟩)
  refine Ev.congr (g := fun k => rib_read.f k (m : Int) es) (f := fun k => rib_read.j0 k m es false) (fun k => ?_) ?_
  ·unfold rib_read.f
   rw [if_neg (by omega), decide_eq_false (by omega)]
  ·refine Ev.step (fun k => ?_) ev
   simp only [rib_read.j0]
   rw [if_neg (by simp), if_pos (by omega), if_pos (by omega)]
   simp [il]
 ·exact out h
theorem near_l0 (es : List S52) (hl : es.length < 2 ^ 50) (a b : Int) : ∀ (d i : Nat), i + d = es.length → Ev (fun k => gampref04_Near.l0 k es a b (i : Int)) (nr (es.drop i) a b) := by
 intro d
 induction d with
 | zero =>
  intro i hi
  rw [List.drop_eq_nil_of_le (by omega)]
  refine Ev.step (f := fun _ => some false) (fun k => ?_) (Ev.now _)
  simp only [gampref04_Near.l0]
  rw [if_neg (by omega)]
 | succ d ih =>
  intro i hi
  have hlt : i < es.length := by omega
  have e0 : ea es i = es[i] := by simp [ea, hlt]
  have e1 : nr (es.drop i) a b = ((ea es i).f0 == mn a b && (ea es i).f1 == mx a b && a != b || nr (es.drop (i + 1)) a b) := by
   rw [List.drop_eq_getElem_cons hlt, e0]; rfl
  have e2 : ∀ k, gampref04_Near.l0 (k + 1) es a b (i : Int) = if ((ea es i).f0 == mn a b && (ea es i).f1 == mx a b && a != b) = true then some true else gampref04_Near.l0 k es a b ((i + 1 : Nat) : Int) := by
   intro k
   simp only [gampref04_Near.l0]
   rw [if_pos (by omega), if_pos (by omega), ea_rd, wrap_up i (by omega)]
   by_cases h1 : (ea es i).f0 = mn a b <;> by_cases h2 : (ea es i).f1 = mx a b <;> by_cases h3 : a = b <;> simp [h1, h2, h3]
  rw [e1]
  by_cases hh : ((ea es i).f0 == mn a b && (ea es i).f1 == mx a b && a != b) = true
  ·rw [hh, Bool.true_or]
   exact Ev.step (f := fun _ => some true) (fun k => by rw [e2, if_pos hh]) (Ev.now _)
  ·rw [Bool.eq_false_iff.2 hh, Bool.false_or]
   exact Ev.step (fun k => by rw [e2, if_neg hh]) (ih (i + 1) (by omega))
theorem near_ev (es : List S52) (hl : es.length < 2 ^ 50) (a b : Int) : Ev (fun k => gampref04_Near.f k es a b) (nr es a b) := near_l0 es hl a b es.length 0 (by omega)
/-- All pairs of a list's places. -/
def AllPr (p : Int → Int → Bool) (l : List Int) : Prop := ∀ i k, k < i → i < l.length → p (rd l (i : Int)) (rd l (k : Int)) = true
theorem clique_l1 (es : List S52) (hl : es.length < 2 ^ 50) (l : List Int) (hl2 : l.length < 2 ^ 50) (i : Nat) (hi : i < l.length) (r : Bool) (hr : Ev (fun k => gampref04_Clique.l0 k es l ((i + 1 : Nat) : Int)) r) :
  ∀ (d j : Nat), j + d = i → Ev (fun k => gampref04_Clique.l1 k es l (i : Int) (j : Int)) (decide (∀ k, j ≤ k → k < i → nr es (rd l (i : Int)) (rd l (k : Int)) = true) && r) := by
 intro d
 induction d with
 | zero =>
  intro j hj
  rw [decide_eq_true (fun k h1 h2 => by omega), Bool.true_and]
  refine Ev.step (fun k => ?_) hr
  simp only [gampref04_Clique.l1]
  rw [if_neg (by omega), wrap_up i (by omega)]
 | succ d ih =>
  intro j hj
  have e : ∀ k, gampref04_Clique.l1 (k + 1) es l (i : Int) (j : Int) = (gampref04_Near.f k es (rd l (i : Int)) (rd l (j : Int))).bind fun t => if t = true then gampref04_Clique.l1 k es l (i : Int) ((j + 1 : Nat) : Int) else some false := by
   intro k
   simp only [gampref04_Clique.l1]
   rw [if_pos (by omega), if_pos (by omega), if_pos (by omega), if_pos (by omega), if_pos (by omega), wrap_up j (by omega)]
  refine Ev.step e ?_
  refine Ev.bind (f := fun k t => if t = true then gampref04_Clique.l1 k es l (i : Int) ((j + 1 : Nat) : Int) else some false) (near_ev es hl _ _) ?_
  by_cases hd : nr es (rd l (i : Int)) (rd l (j : Int)) = true
  ·refine Ev.congr (fun k => if_pos hd) ?_
   have h0 : decide (∀ k, j ≤ k → k < i → nr es (rd l (i : Int)) (rd l (k : Int)) = true) = decide (∀ k, j + 1 ≤ k → k < i → nr es (rd l (i : Int)) (rd l (k : Int)) = true) := by
    apply decide_eq_decide.2
    constructor
    ·exact fun h k h1 h2 => h k (by omega) h2
    ·intro h k h1 h2
     by_cases hk : k = j
     ·subst hk; exact hd
     ·exact h k (by omega) h2
   rw [h0]
   exact ih (j + 1) (by omega)
  ·rw [decide_eq_false (fun h => hd (h j (Nat.le_refl _) (by omega))), Bool.false_and]
   exact Ev.congr (fun k => if_neg hd) (Ev.now _)
theorem clique_ev (es : List S52) (hl : es.length < 2 ^ 50) (l : List Int) (hl2 : l.length < 2 ^ 50) : Ev (fun k => gampref04_Clique.f k es l) (decide (AllPr (nr es) l)) := by
 have main : ∀ (d i : Nat), i + d = l.length → Ev (fun k => gampref04_Clique.l0 k es l (i : Int)) (decide (∀ j k, i ≤ j → k < j → j < l.length → nr es (rd l (j : Int)) (rd l (k : Int)) = true)) := by
  intro d
  induction d with
  | zero =>
   intro i hi
   rw [decide_eq_true (fun j k h1 h2 h3 => by omega)]
   refine Ev.step (f := fun _ => some true) (fun k => ?_) (Ev.now _)
   simp only [gampref04_Clique.l0]
   rw [if_neg (by omega)]
  | succ d ih =>
   intro i hi
   have hlt : i < l.length := by omega
   have r1 := clique_l1 es hl l hl2 i hlt _ (ih (i + 1) (by omega)) i 0 (by omega)
   rw [show decide (∀ j k, i ≤ j → k < j → j < l.length → nr es (rd l (j : Int)) (rd l (k : Int)) = true) = (decide (∀ k, 0 ≤ k → k < i → nr es (rd l (i : Int)) (rd l (k : Int)) = true) && decide (∀ j k, i + 1 ≤ j → k < j → j < l.length → nr es (rd l (j : Int)) (rd l (k : Int)) = true)) from ?_]
   ·refine Ev.step (fun k => ?_) r1
    simp only [gampref04_Clique.l0]
    rw [if_pos (by omega)]; rfl
   ·rw [← Bool.decide_and]
    apply decide_eq_decide.2
    constructor
    ·exact fun h => ⟨fun k _ hk => h i k (Nat.le_refl _) hk hlt, fun j k h1 h2 h3 => h j k (by omega) h2 h3⟩
    ·rintro ⟨ha, hb⟩ j k h1 h2 h3
     by_cases hji : j = i
     ·subst hji; exact ha k (by omega) h2
     ·exact hb j k (by omega) h2 h3
 have := main l.length 0 (by omega)
 rw [show decide (AllPr (nr es) l) = decide (∀ j k, 0 ≤ j → k < j → j < l.length → nr es (rd l (j : Int)) (rd l (k : Int)) = true) from decide_eq_decide.2 ⟨fun h j k _ h2 h3 => h j k h2 h3, fun h i k h1 h2 => h i k (by omega) h1 h2⟩]
 exact this
end Go.Proofs.Ytdpolfflemocaaa.Pure

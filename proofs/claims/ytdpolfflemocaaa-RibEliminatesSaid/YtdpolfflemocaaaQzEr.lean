/- The declarations of Er that the claim Qz needs. -/
import Derived.Test.YtdpolfflemocaaaQzEl
namespace Go.Proofs.Ytdpolfflemocaaa.Pure
open Go Go.RowKit Go.Proofs.YtdpolfflemocaaaW.PrintWords Go.Proofs.YtdpolfflemocaaaW.PrintLast Go.Proofs.YtdpolfflemocaaaW.PrintMore Go.Proofs.Ytdpolfflemocaaa.Cl Go.Proofs.Ytdpolfflemocaaa.Own Go.Proofs.Ytdpolfflemocaaa.Rx Go.Proofs.Ytdpolfflemocaaa.Re
set_option linter.unusedVariables false
set_option linter.unusedSimpArgs false
open Classical
/-- Two places of a ring of m nodes that stand side by side. -/
def nxt (m i k : Nat) : Bool := decide (i = k + 1 ∨ (k = 0 ∧ i + 1 = m))
def PairOk (es : List S52) (l : List Int) (i k : Nat) : Prop := rd l (i : Int) ≠ rd l (k : Int) ∧ nr es (rd l (i : Int)) (rd l (k : Int)) = nxt l.length i k
def RingP (es : List S52) (l : List Int) : Prop := 4 ≤ l.length ∧ ∀ i k, k < i → i < l.length → PairOk es l i k
theorem ring_l1 (es : List S52) (hes : es.length < 2 ^ 50) (l : List Int) (hl : l.length < 2 ^ 40) (i : Nat) (hi : i < l.length) (R : Bool) (hR : (∀ k, k < i → PairOk es l i k) → Ev (fun k => gampref04_Ring.l0 k es l ((i + 1 : Nat) : Int)) R) (hF : ¬ (∀ k, k < i → PairOk es l i k) → R = false) :
    ∀ (d j : Nat), j + d = i → (∀ k, k < j → PairOk es l i k) → Ev (fun k => gampref04_Ring.l1 k es l (i : Int) (j : Int)) R := by
  intro d
  induction d with
  | zero =>
    intro j hj hok
    obtain rfl : j = i := by omega
    refine Ev.step (fun k => ?_) (hR hok)
    simp only [gampref04_Ring.l1]
    rw [if_neg (by omega), wrap_up j (by omega)]
  | succ d ih =>
    intro j hj hok
    have hjl : j < l.length := by omega
    have hw1 : wrap64 ((i : Int) - (j : Int)) = (i : Int) - (j : Int) := by unfold wrap64; omega
    have hw2 : wrap64 ((l.length : Int) - 1) = (l.length : Int) - 1 := by unfold wrap64; omega
    have e1 : ∀ k, gampref04_Ring.l1 (k + 1) es l (i : Int) (j : Int) = if rd l (i : Int) = rd l (j : Int) then some false else (gampref04_Near.f k es (rd l (i : Int)) (rd l (j : Int))).bind fun t => if (nxt l.length i j != t) = true then some false else gampref04_Ring.l1 k es l (i : Int) ((j + 1 : Nat) : Int) := by
      intro k
      have c1 : (j : Int) < (i : Int) := by omega
      have c2 : (0 : Int) ≤ (i : Int) := by omega
      have c3 : (i : Int) < (l.length : Int) := by omega
      have c4 : (0 : Int) ≤ (j : Int) := by omega
      have c5 : (j : Int) < (l.length : Int) := by omega
      simp only [gampref04_Ring.l1]
      rw [if_pos c1, hw1, hw2, wrap_up j (by omega)]
      by_cases h1 : (i : Int) - (j : Int) = 1
      · have hn : nxt l.length i j = true := decide_eq_true (by omega)
        rw [if_pos h1, if_pos c2, if_pos c3, if_pos c4, if_pos c5, hn]
      · rw [if_neg h1]
        by_cases h2 : (j : Int) = 0
        · have hn : nxt l.length i j = ((i : Int) == (l.length : Int) - 1) := by
            unfold nxt
            rw [Bool.eq_iff_iff, decide_eq_true_eq, beq_iff_eq]
            omega
          rw [if_pos h2, if_pos c2, if_pos c3, if_pos c4, if_pos c5, hn]
        · have hn : nxt l.length i j = false := decide_eq_false (by omega)
          rw [if_neg h2, if_pos c2, if_pos c3, if_pos c4, if_pos c5, hn]
    have ev := near_ev es hes (rd l (i : Int)) (rd l (j : Int))
    by_cases hp : PairOk es l i j
    · have ih2 := ih (j + 1) (by omega) fun k hk => by
        by_cases e : k = j
        · subst e; exact hp
        · exact hok k (by omega)
      refine Ev.step (fun k => by rw [e1, if_neg hp.1]) ?_
      refine Ev.bind (f := fun k t => if (nxt l.length i j != t) = true then some false else gampref04_Ring.l1 k es l (i : Int) ((j + 1 : Nat) : Int)) ev ?_
      exact Ev.congr (fun k => by rw [if_neg (by rw [hp.2]; simp)]) ih2
    · rw [hF fun h => hp (h j (by omega))]
      by_cases h1 : rd l (i : Int) = rd l (j : Int)
      · exact Ev.step (f := fun _ => some false) (fun k => by rw [e1, if_pos h1]) (Ev.now _)
      · have h2 : nr es (rd l (i : Int)) (rd l (j : Int)) ≠ nxt l.length i j := fun h => hp ⟨h1, h⟩
        refine Ev.step (fun k => by rw [e1, if_neg h1]) ?_
        refine Ev.bind (f := fun k t => if (nxt l.length i j != t) = true then some false else gampref04_Ring.l1 k es l (i : Int) ((j + 1 : Nat) : Int)) ev ?_
        exact Ev.congr (fun k => by rw [if_pos (by rw [bne_iff_ne]; exact fun h => h2 h.symm)]) (Ev.now _)
theorem ring_ref (es : List S52) (hes : es.length < 2 ^ 50) (l : List Int) (hl : l.length < 2 ^ 40) : Ev (fun k => gampref04_Ring.f k es l) (decide (RingP es l)) := by
  by_cases h4 : l.length < 4
  · rw [decide_eq_false fun h => by have := h.1; omega]
    refine Ev.congr (fun k => ?_) (Ev.now _)
    unfold gampref04_Ring.f
    rw [if_pos (by omega)]
  · have main : ∀ (d i : Nat), i + d = l.length → (∀ a b, b < a → a < i → PairOk es l a b) → Ev (fun k => gampref04_Ring.l0 k es l (i : Int)) (decide (RingP es l)) := by
      intro d
      induction d with
      | zero =>
        intro i hi hok
        rw [decide_eq_true (show RingP es l from ⟨by omega, fun a b h1 h2 => hok a b h1 (by omega)⟩)]
        refine Ev.step (f := fun _ => some true) (fun k => ?_) (Ev.now _)
        simp only [gampref04_Ring.l0]
        rw [if_neg (by omega)]
      | succ d ih =>
        intro i hi hok
        have hil : i < l.length := by omega
        refine Ev.step (f := fun k => gampref04_Ring.l1 k es l (i : Int) ((0 : Nat) : Int)) (fun k => ?_) ?_
        · simp only [gampref04_Ring.l0]
          rw [if_pos (by omega)]; rfl
        · refine ring_l1 es hes l hl i hil _ (fun h => ih (i + 1) (by omega) fun a b h1 h2 => ?_) (fun h => decide_eq_false fun p => h fun k hk => p.2 i k hk hil) i 0 (by omega) (fun k hk => by omega)
          by_cases e : a = i
          · subst e; exact h b h1
          · exact hok a b h1 (by omega)
    refine Ev.congr (fun k => ?_) (main l.length 0 (by omega) (fun a b h1 h2 => by omega))
    unfold gampref04_Ring.f
    rw [if_neg (by omega)]; rfl
theorem tmod_nat (a b : Nat) : Int.tmod (a : Int) (b : Int) = ((a % b : Nat) : Int) := by
  rw [Int.tmod_eq_emod_of_nonneg (by omega)]; rfl
/-- The neighbours of place i are the places beside it. -/
def RC (g a : List Nat) (i : Nat) : Prop := ∀ j, (ad g (a.getD i 0) j = true ∧ j ∈ a) ↔ (j = a.getD ((i + 1) % a.length) 0 ∨ j = a.getD ((i + a.length - 1) % a.length) 0)
theorem getD_inj {a : List Nat} (h : a.Nodup) {i j : Nat} (hi : i < a.length) (hj : j < a.length) (e : a.getD i 0 = a.getD j 0) : i = j := by
 have h1 : a.getD i 0 = a[i] := by simp [hi]
 have h2 : a.getD j 0 = a[j] := by simp [hj]
 rw [h1, h2] at e
 exact (List.getElem_inj h).1 e
theorem rc_iff (es : List S52) (g a : List Nat) (hga : ∀ x y : Nat, ad g x y = nr es x y) (hm : 4 ≤ a.length) (hnd : a.Nodup) : (∀ i, i < a.length → RC g a i) ↔ ∀ i k, k < i → i < a.length → ad g (a.getD i 0) (a.getD k 0) = nxt a.length i k := by
 have sym : ∀ x y, ad g x y = ad g y x := fun x y => by rw [hga, hga, nr_symm]
 have irr : ∀ x, ad g x x = false := fun x => by rw [hga, nr_self]
 have nx : ∀ i, i < a.length → (i + 1) % a.length = if i + 1 = a.length then 0 else i + 1 := by
  intro i hi
  by_cases h : i + 1 = a.length
  ·rw [if_pos h, h, Nat.mod_self]
  ·rw [if_neg h, Nat.mod_eq_of_lt (by omega)]
 have pv : ∀ i, i < a.length → (i + a.length - 1) % a.length = if i = 0 then a.length - 1 else i - 1 := by
  intro i hi
  by_cases h : i = 0
  ·rw [if_pos h, Nat.mod_eq_of_lt (by omega)]; omega
  ·rw [if_neg h, show i + a.length - 1 = (i - 1) + a.length by omega, Nat.add_mod_right, Nat.mod_eq_of_lt (by omega)]
 have mem : ∀ i, i < a.length → a.getD i 0 ∈ a := fun i hi => by rw [show a.getD i 0 = a[i] by simp [hi]]; exact List.getElem_mem _
 constructor
 ·intro h i k hk hi
  have hr := h i hi (a.getD k 0)
  rw [nx i hi, pv i hi] at hr
  unfold nxt
  rw [Bool.eq_iff_iff, decide_eq_true_eq]
  constructor
  ·intro h1
   rcases hr.1 ⟨h1, mem k (by omega)⟩ with e | e
   ·have := getD_inj hnd (by omega) (by split <;> omega) e
    split at this <;> omega
   ·have := getD_inj hnd (by omega) (by split <;> omega) e
    split at this <;> omega
  ·intro h1
   refine (hr.2 ?_).1
   by_cases h2 : i = k + 1
   ·right
    rw [if_neg (by omega), show i - 1 = k by omega]
   ·left
    rw [if_pos (by omega), show (0 : Nat) = k by omega]
 ·intro h i hi j
  rw [nx i hi, pv i hi]
  constructor
  ·rintro ⟨h1, h2⟩
   obtain ⟨k, hk, rfl⟩ := List.getElem_of_mem h2
   have hkd : a[k] = a.getD k 0 := by simp [hk]
   rw [hkd] at h1 ⊢
   have hki : k ≠ i := fun e => by rw [e, irr] at h1; cases h1
   by_cases hlt : k < i
   ·have := h i k hlt hi
    rw [h1] at this
    have := of_decide_eq_true this.symm
    by_cases h3 : i = k + 1
    ·right; rw [if_neg (by omega), show i - 1 = k by omega]
    ·left; rw [if_pos (by omega), show (0 : Nat) = k by omega]
   ·have := h k i (by omega) hk
    rw [sym, h1] at this
    have := of_decide_eq_true this.symm
    by_cases h3 : k = i + 1
    ·left; rw [if_neg (by omega), ← h3]
    ·right; rw [if_pos (by omega), show a.length - 1 = k by omega]
  ·rintro (rfl | rfl)
   ·by_cases h3 : i + 1 = a.length
    ·rw [if_pos h3]
     refine ⟨?_, mem 0 (by omega)⟩
     rw [h i 0 (by omega) hi]
     exact decide_eq_true (by omega)
    ·rw [if_neg h3]
     refine ⟨?_, mem _ (by omega)⟩
     rw [sym, h (i + 1) i (by omega) (by omega)]
     exact decide_eq_true (by omega)
   ·by_cases h3 : i = 0
    ·rw [if_pos h3]
     refine ⟨?_, mem _ (by omega)⟩
     rw [sym, h (a.length - 1) i (by omega) (by omega)]
     exact decide_eq_true (by omega)
    ·rw [if_neg h3]
     refine ⟨?_, mem _ (by omega)⟩
     rw [h i (i - 1) (by omega) hi]
     exact decide_eq_true (by omega)
theorem ringP_iff (es : List S52) (g a : List Nat) (hga : ∀ x y : Nat, ad g x y = nr es x y) : RingP es (il a) ↔ 4 ≤ a.length ∧ a.Nodup ∧ ∀ i, i < a.length → RC g a i := by
 unfold RingP PairOk
 rw [il_len]
 constructor
 ·rintro ⟨h4, h⟩
  have hnd : a.Nodup := by
   rw [List.nodup_iff_pairwise_ne, List.pairwise_iff_getElem]
   intro i j hi hj hij e
   have := (h j i hij hj).1
   rw [rd_nat_get _ _ hi, rd_nat_get _ _ hj] at this
   exact this (by rw [e])
  refine ⟨h4, hnd, (rc_iff es g a hga h4 hnd).2 fun i k hk hi => ?_⟩
  have := (h i k hk hi).2
  rw [il_rd _ _ hi, il_rd _ _ (by omega)] at this
  rw [hga]; exact this
 ·rintro ⟨h4, hnd, h⟩
  refine ⟨h4, fun i k hk hi => ⟨fun e => ?_, ?_⟩⟩
  ·rw [il_rd _ _ hi, il_rd _ _ (by omega)] at e
   have := getD_inj hnd hi (by omega) (by omega : a.getD i 0 = a.getD k 0)
   omega
  ·have := (rc_iff es g a hga h4 hnd).1 h i k hk hi
   rw [il_rd _ _ hi, il_rd _ _ (by omega), ← hga]; exact this
theorem size_f (s : Nat) (hs : s < 4294967296) : rib_set_size.f (s : Int) = some (((nd s).length : Nat) : Int) := by
 unfold rib_set_size.f
 rw [if_pos (by omega), if_pos (by omega), Int.toNat_natCast, pc32_count s hs]
 unfold nd
 rw [List.countP_eq_length_filter]
theorem size_nodup (a : List Nat) (ha : ∀ x ∈ a, x < 32) : (nd (setOf a)).length = a.length ↔ a.Nodup := by
 have hs := setOf_lt ha
 have hm : ∀ x, x ∈ nd (setOf a) ↔ x ∈ a := fun x => by rw [mem_nd hs, setOf_bit, decide_eq_true_eq]
 constructor
 ·intro h
  exact ((pig _ a (nd_nodup _) fun x hx => (hm x).1 hx).2 h).nodup_iff.1 (nd_nodup _)
 ·intro h
  have h1 := (pig _ a (nd_nodup (setOf a)) fun x hx => (hm x).1 hx).1
  have h2 := (pig a _ h fun x hx => (hm x).2 hx).1
  omega
theorem wrap_two (i m : Nat) (h : i + m < 2 ^ 40) (hm : 1 ≤ i + m) : wrap64 (wrap64 ((i : Int) + (m : Int)) - 1) = ((i + m - 1 : Nat) : Int) := by unfold wrap64; omega
theorem isring_step (k : Nat) (g a : List Nat) (G : Gr g) (i p q s : Nat) (hs : s < 4294967296) (hl : a.length < 2 ^ 30) (hil : i < a.length) (hp : p < a.length) (hq : q < a.length) (ha : ∀ r, r < a.length → a.getD r 0 < g.length)
  (m1 : Int.tmod (wrap64 ((i : Int) + 1)) (a.length : Int) = (p : Int)) (m2 : Int.tmod (wrap64 (wrap64 ((i : Int) + (a.length : Int)) - 1)) (a.length : Int) = (q : Int)) :
  rib_IsRing.l1 (k + 1) (il a) (il g) (s : Int) (a.length : Int) (il a) (a.length : Int) (i : Int) = if ((g.getD (a.getD i 0) 0 &&& s : Nat) : Int) = ((2 ^ a.getD p 0 ||| 2 ^ a.getD q 0 : Nat) : Int) then rib_IsRing.l1 k (il a) (il g) (s : Int) (a.length : Int) (il a) (a.length : Int) ((i + 1 : Nat) : Int) else some (false, 0) := by
 have M1 := Aside0.mk m1
 have M2 := Aside0.mk m2
 clear m1 m2
 have hG := G.le
 have hgu := G.u32 (a.getD i 0)
 have hai := ha i hil
 have c1 : (i : Int) < (a.length : Int) := by omega
 have c2 : (0 : Int) ≤ (i : Int) := by omega
 have c3 : (0 : Int) ≤ ((a.getD i 0 : Nat) : Int) := by omega
 have c4 : ((a.getD i 0 : Nat) : Int) < (g.length : Int) := by omega
 have c5 : ¬ (a.length : Int) = 0 := by omega
 have c6 : (0 : Int) ≤ (p : Int) := by omega
 have c7 : (p : Int) < (a.length : Int) := by omega
 have c8 : (0 : Int) ≤ (q : Int) := by omega
 have c9 : (q : Int) < (a.length : Int) := by omega
 have w1 := wrap_up i (by omega)
 have q1 : a.getD p 0 < 32 := by have := ha p hp; omega
 have q2 : a.getD q 0 < 32 := by have := ha q hq; omega
 have r1 := il_rd a i hil
 have r2 := il_rd a p hp
 have r3 := il_rd a q hq
 have r4 := il_rd g (a.getD i 0) hai
 have o1 := one_nat _ q1
 have o2 := one_nat _ q2
 have b1 := u32_and_nat _ _ hgu hs
 have b2 := u32_or_nat _ _ (pow_u32 q1) (pow_u32 q2)
 clear ha hgu hs q1 q2 hl hG
 simp only [rib_IsRing.l1]
 rw [if_pos c1, if_pos c2, il_len a, if_pos c1, r1, if_pos c3, il_len g, if_pos c4, if_neg c5, M1.out, M2.out, if_pos c6, if_pos c7, r2, o1, Option.bind_some, if_pos c8, if_pos c9, r3, o2, Option.bind_some, r4, b1, b2, w1]
theorem ring_prog (n : Nat) (hn : n ≤ 31) (es : List S52) (g : List Nat) (G : Gr g) (hg : g.length = n) (hga : ∀ x y : Nat, ad g x y = nr es x y) (a : List Nat) (hl : a.length < 2 ^ 30) (ha : ∀ x ∈ a, x < n) :
    Ev (fun k => rib_IsRing.l0 k (il a) (il g) 0 (il a) (a.length : Int) 0) (decide (RingP es (il a)), 0) := by
  have ha32 : ∀ x ∈ a, x < 32 := fun x hx => by have := ha x hx; omega
  have hs := setOf_lt ha32
  -- the neighbours of each
  have l1 : 4 ≤ a.length → ∀ (d i : Nat), i + d = a.length → Ev (fun k => rib_IsRing.l1 k (il a) (il g) ((setOf a : Nat) : Int) (a.length : Int) (il a) (a.length : Int) (i : Int)) (decide (∀ j, i ≤ j → j < a.length → RC g a j), 0) := by
    intro h4 d
    induction d with
    | zero =>
      intro i hi
      rw [decide_eq_true (fun j h1 h2 => by omega)]
      refine Ev.step (f := fun _ => some (true, 0)) (fun k => ?_) (Ev.now _)
      simp only [rib_IsRing.l1]
      rw [if_neg (by omega)]
    | succ d ih =>
      intro i hi
      have hil : i < a.length := by omega
      have hai : a.getD i 0 < n := by rw [show a.getD i 0 = a[i] by simp [hil]]; exact ha _ (List.getElem_mem _)
      have p1 : (i + 1) % a.length < a.length := Nat.mod_lt _ (by omega)
      have p2 : (i + a.length - 1) % a.length < a.length := Nat.mod_lt _ (by omega)
      have hget : ∀ q, q < a.length → a.getD q 0 < 32 := fun q hq => by rw [show a.getD q 0 = a[q] by simp [hq]]; exact ha32 _ (List.getElem_mem _)
      have hib : i < 2 ^ 40 := by omega
      have hw2 := wrap_two i a.length (by omega) (by omega)
      have m1 : Int.tmod (wrap64 ((i : Int) + 1)) (a.length : Int) = (((i + 1) % a.length : Nat) : Int) := by rw [wrap_up i (Nat.lt_of_lt_of_le hib (by decide)), tmod_nat]
      have m2 : Int.tmod (wrap64 (wrap64 ((i : Int) + (a.length : Int)) - 1)) (a.length : Int) = (((i + a.length - 1) % a.length : Nat) : Int) := by
        rw [hw2, tmod_nat]
      have e1 := fun k => isring_step k g a G i _ _ (setOf a) hs hl hil p1 p2 (fun r hr => by rw [hg, show a.getD r 0 = a[r] by simp [hr]]; exact ha _ (List.getElem_mem _)) m1 m2
      clear m1 m2
      generalize hpe : (i + 1) % a.length = p at *
      generalize hqe : (i + a.length - 1) % a.length = q at *
      have hrc : g.getD (a.getD i 0) 0 &&& setOf a = 2 ^ a.getD p 0 ||| 2 ^ a.getD q 0 ↔ RC g a i := by
        unfold RC
        rw [hpe, hqe]
        have hb1 : ∀ j, (g.getD (a.getD i 0) 0 &&& setOf a).testBit j = true ↔ (ad g (a.getD i 0) j = true ∧ j ∈ a) := fun j => by
          rw [Nat.testBit_and, setOf_bit, Bool.and_eq_true, decide_eq_true_eq]; rfl
        have hb2 : ∀ j, (2 ^ a.getD p 0 ||| 2 ^ a.getD q 0).testBit j = true ↔ (j = a.getD p 0 ∨ j = a.getD q 0) := fun j => by
          rw [Nat.testBit_or, Nat.testBit_two_pow, Nat.testBit_two_pow, Bool.or_eq_true, decide_eq_true_eq, decide_eq_true_eq]
          exact ⟨fun h => h.imp Eq.symm Eq.symm, fun h => h.imp Eq.symm Eq.symm⟩
        constructor
        · intro h j
          rw [← hb1, ← hb2, h]
        · intro h
          apply Nat.eq_of_testBit_eq
          intro j
          rw [Bool.eq_iff_iff, hb1, hb2]
          exact h j
      by_cases hc : RC g a i
      · rw [show decide (∀ j, i ≤ j → j < a.length → RC g a j) = decide (∀ j, i + 1 ≤ j → j < a.length → RC g a j) from decide_eq_decide.2 ⟨fun h j h1 h2 => h j (by omega) h2, fun h j h1 h2 => by
          by_cases e : j = i
          · subst e; exact hc
          · exact h j (by omega) h2⟩]
        refine Ev.step (fun k => ?_) (ih (i + 1) (by omega))
        rw [e1, if_pos (by rw [hrc.2 hc])]
      · rw [decide_eq_false fun h => hc (h i (Nat.le_refl _) hil)]
        refine Ev.step (f := fun _ => some (false, 0)) (fun k => ?_) (Ev.now _)
        rw [e1, if_neg fun h => hc (hrc.1 (Int.ofNat_inj.1 h))]
  -- the union
  have main : ∀ (d i : Nat), i + d = a.length → Ev (fun k => rib_IsRing.l0 k (il a) (il g) ((setOf (a.take i) : Nat) : Int) (il a) (a.length : Int) (i : Int)) (decide (RingP es (il a)), 0) := by
    intro d
    induction d with
    | zero =>
      intro i hi
      rw [List.take_of_length_le (by omega)]
      have e1 : ∀ k, rib_IsRing.l0 (k + 1) (il a) (il g) ((setOf a : Nat) : Int) (il a) (a.length : Int) (i : Int) = if (a.length : Int) < 4 then rib_IsRing.j1 k (il a) (il g) ((setOf a : Nat) : Int) (a.length : Int) true else rib_IsRing.j1 k (il a) (il g) ((setOf a : Nat) : Int) (a.length : Int) ((((nd (setOf a)).length : Nat) : Int) != (a.length : Int)) := by
        intro k
        simp only [rib_IsRing.l0]
        rw [if_neg (by omega), il_len, size_f _ hs, Option.bind_some]
      have no : ∀ b, b = true → ∀ k, rib_IsRing.j1 (k + 1) (il a) (il g) ((setOf a : Nat) : Int) (a.length : Int) b = some (false, 0) := by
        rintro b rfl k
        simp only [rib_IsRing.j1]
        rw [if_pos trivial]
      by_cases h4 : a.length < 4
      · rw [decide_eq_false fun h => by have := h.1; rw [il_len] at this; omega]
        refine Ev.step (fun k => by rw [e1, if_pos (by omega)]) ?_
        exact Ev.step (f := fun _ => some (false, 0)) (no _ rfl) (Ev.now _)
      · by_cases hnd : a.Nodup
        · refine Ev.step (f := fun k => rib_IsRing.j1 k (il a) (il g) ((setOf a : Nat) : Int) (a.length : Int) false) (fun k => ?_) ?_
          · rw [e1, if_neg (by omega), (size_nodup a ha32).2 hnd]; simp
          · rw [show decide (RingP es (il a)) = decide (∀ j, 0 ≤ j → j < a.length → RC g a j) from decide_eq_decide.2 ((ringP_iff es g a hga).trans ⟨fun h j _ hj => h.2.2 j hj, fun h => ⟨by omega, hnd, fun i hi => h i (by omega) hi⟩⟩)]
            refine Ev.step (fun k => ?_) (l1 (by omega) a.length 0 (by omega))
            simp only [rib_IsRing.j1]
            rw [if_neg (by simp), il_len]
            rfl
        · rw [decide_eq_false fun h => hnd ((ringP_iff es g a hga).1 h).2.1]
          refine Ev.step (fun k => by rw [e1, if_neg (by omega)]) ?_
          refine Ev.step (f := fun _ => some (false, 0)) (no _ ?_) (Ev.now _)
          rw [bne_iff_ne]
          exact fun h => hnd ((size_nodup a ha32).1 (by omega))
    | succ d ih =>
      intro i hi
      have hil : i < a.length := by omega
      have hlt : ∀ x ∈ a.take i, x < 32 := fun x hx => ha32 x (List.mem_of_mem_take hx)
      have hx := ha32 _ (List.getElem_mem hil)
      refine Ev.step (fun k => ?_) (ih (i + 1) (by omega))
      simp only [rib_IsRing.l0]
      rw [if_pos (by omega), if_pos (by omega), il_len, if_pos (by omega), rd_nat_get _ _ hil, one_nat _ hx, Option.bind_some, bits_or_set _ _ hlt hx, wrap_up i (by omega), List.take_succ_eq_append_getElem hil]
  exact main a.length 0 (by omega)
end Go.Proofs.Ytdpolfflemocaaa.Pure

/- The declarations of El that the claim Qz needs. -/
import Derived.Test.YtdpolfflemocaaaQzPf
import Derived.Test.YtdpolfflemocaaaQzCh
import Derived.Test.YtdpolfflemocaaaQzRex5
namespace Go.Proofs.Ytdpolfflemocaaa.Pure
open Go Go.RowKit Go.Proofs.YtdpolfflemocaaaW.PrintWords Go.Proofs.YtdpolfflemocaaaW.PrintLast Go.Proofs.YtdpolfflemocaaaW.PrintMore Go.Proofs.Ytdpolfflemocaaa.Cl Go.Proofs.Ytdpolfflemocaaa.Own Go.Proofs.Ytdpolfflemocaaa.Rx Go.Proofs.Ytdpolfflemocaaa.Re
set_option linter.unusedVariables false
set_option linter.unusedSimpArgs false
open Classical
theorem pig : ∀ (s l : List Nat), s.Nodup → (∀ x ∈ s, x ∈ l) → s.length ≤ l.length ∧ (s.length = l.length → s.Perm l)
  | [], l, _, _ => ⟨by simp, fun h => by
      obtain rfl : l = [] := List.length_eq_zero_iff.1 (by simpa using h.symm)
      exact List.Perm.refl _⟩
  | a :: s, l, hn, hs => by
    rw [List.nodup_cons] at hn
    have ha : a ∈ l := hs a (by simp)
    have hp := List.perm_cons_erase ha
    have hl : l.length = (l.erase a).length + 1 := by rw [hp.length_eq]; rfl
    obtain ⟨h1, h2⟩ := pig s (l.erase a) hn.2 fun x hx => (List.mem_erase_of_ne (fun e => hn.1 (by rw [← e]; exact hx))).2 (hs x (List.mem_cons_of_mem _ hx))
    refine ⟨by simp; omega, fun h => ?_⟩
    simp at h
    exact ((h2 (by omega)).cons a).trans hp.symm
/-- A list of nodes as a list of numbers. -/
def natl (l : List Int) : List Nat := l.map Int.toNat
theorem natl_il (l : List Int) (h : ∀ x ∈ l, 0 ≤ x) : l = il (natl l) := by
 unfold il natl
 rw [List.map_map]
 have : ∀ x ∈ l, ((fun i : Nat => (i : Int)) ∘ Int.toNat) x = x := fun x hx => by have := h x hx; simp; omega
 rw [List.map_congr_left this]; simp
def InR (n : Int) (l : List Int) : Prop := ∀ x ∈ l, 0 ≤ x ∧ x < n
/-- A permutation of the numbers below n. -/
def PermP (n : Nat) (l : List Int) : Prop := InR n l ∧ (natl l).Nodup ∧ l.length = n
theorem inr_nat {n : Nat} {l : List Int} (h : InR n l) : ∀ x ∈ natl l, x < n := fun x hx => by
 obtain ⟨y, hy, rfl⟩ := List.mem_map.1 hx
 have := h y hy
 omega
def setOf : List Nat → Nat
  | [] => 0
  | a :: l => setOf l ||| 2 ^ a
theorem setOf_bit : ∀ (l : List Nat) (j : Nat), (setOf l).testBit j = decide (j ∈ l)
 | [], j => by simp [setOf]
 | a :: l, j => by
  rw [setOf, Nat.testBit_or, Nat.testBit_two_pow, setOf_bit l j, ← Bool.decide_or, decide_eq_decide, List.mem_cons]
  constructor
  ·rintro (h | h)
   ·exact Or.inr h
   ·exact Or.inl h.symm
  ·rintro (h | h)
   ·exact Or.inr h.symm
   ·exact Or.inl h
theorem setOf_lt {l : List Nat} (h : ∀ x ∈ l, x < 32) : setOf l < 4294967296 := by
 apply Nat.lt_pow_two_of_testBit (n := 32)
 intro j hj
 rw [setOf_bit]
 exact decide_eq_false fun hm => by have := h j hm; omega
theorem setOf_snoc (l : List Nat) (a : Nat) : setOf (l ++ [a]) = setOf l ||| 2 ^ a := by
 apply Nat.eq_of_testBit_eq
 intro j
 rw [setOf_bit, Nat.testBit_or, Nat.testBit_two_pow, setOf_bit, ← Bool.decide_or, decide_eq_decide]
 simp [eq_comm]
theorem bits_or_set (l : List Nat) (a : Nat) (h : ∀ x ∈ l, x < 32) (ha : a < 32) : Go.bits .or .u32 ((setOf l : Nat) : Int) ((2 ^ a : Nat) : Int) = ((setOf (l ++ [a]) : Nat) : Int) := by
  rw [u32_or_nat _ _ (setOf_lt h) (pow_u32 ha), setOf_snoc]
theorem cut_f (l : List Int) : gamplaw04_cut.f l 14 = some (l.take 14) := by
 have h1 : 0 ≤ mn (l.length : Int) 14 := by unfold mn; split <;> omega
 have h2 : mn (l.length : Int) 14 ≤ (l.length : Int) := by unfold mn; split <;> omega
 have h3 : l.take (mn (l.length : Int) 14).toNat = l.take 14 := by
  unfold mn
  split
  ·rfl
  ·rw [List.take_of_length_le (by omega), List.take_of_length_le (by omega)]
 have h4 : ([] : List Int).length + (l.take 14).length < 17592186044416 := by have := List.length_take_le 14 l; rw [List.length_nil]; omega
 unfold gamplaw04_cut.f
 rw [Option.bind_some, if_pos h1, if_pos h2, h3, if_pos h4, List.nil_append]
theorem rd_nat_get (l : List Nat) (i : Nat) (h : i < l.length) : rd (il l) (i : Int) = (l[i] : Int) := by rw [il_rd _ _ h]; simp [h]
theorem rd_get (l : List Int) (i : Nat) (h : i < l.length) : rd l (i : Int) = l[i] := by simp [rd, h]
theorem perm_prog (n : Nat) (g : List Nat) (hg : g.length = n) (hn : n ≤ 31) (l : List Int) (hl : l.length < 2 ^ 40) : Ev (fun k => rib_graph_permutation.f k (il g) l) (decide (PermP n l)) := by
  have main : ∀ (d i : Nat), i + d = l.length → (∀ x ∈ l.take i, 0 ≤ x ∧ x < (n : Int)) → Ev (fun k => rib_graph_permutation.l0 k (il g) l ((setOf (natl (l.take i)) : Nat) : Int) l (l.length : Int) (i : Int)) (decide (PermP n l)) := by
    intro d
    induction d with
    | zero =>
      intro i hi hok
      rw [List.take_of_length_le (by omega)] at hok ⊢
      have hin : InR n l := hok
      have hlt := inr_nat hin
      have e1 : ∀ k, rib_graph_permutation.l0 (k + 1) (il g) l ((setOf (natl l) : Nat) : Int) l (l.length : Int) (i : Int) = if (l.length : Int) = (n : Int) then some (((setOf (natl l) : Nat) : Int) == ((2 ^ n - 1 : Nat) : Int)) else some false := by
        intro k
        simp only [rib_graph_permutation.l0]
        rw [if_neg (by omega), il_len, hg, all_f g (by omega), Option.bind_some, hg]
      by_cases hlen : l.length = n
      · have e2 : (((setOf (natl l) : Nat) : Int) == ((2 ^ n - 1 : Nat) : Int)) = decide (PermP n l) := by
          rw [Bool.eq_iff_iff, beq_iff_eq, decide_eq_true_eq]
          have hll : (natl l).length = n := by unfold natl; rw [List.length_map]; exact hlen
          constructor
          · intro h
            have h' : setOf (natl l) = 2 ^ n - 1 := by omega
            refine ⟨hin, ?_, hlen⟩
            have := (pig (List.range n) (natl l) List.nodup_range fun x hx => by
              have hb := setOf_bit (natl l) x
              rw [h', all_bit] at hb
              have hx' := List.mem_range.1 hx
              rw [decide_eq_true hx'] at hb
              exact of_decide_eq_true hb.symm).2 (by rw [List.length_range, hll])
            exact this.nodup_iff.1 List.nodup_range
          · intro h
            have hp := (pig (natl l) (List.range n) h.2.1 fun x hx => List.mem_range.2 (hlt x hx)).2 (by rw [List.length_range, hll])
            have : setOf (natl l) = 2 ^ n - 1 := by
              apply Nat.eq_of_testBit_eq
              intro j
              rw [setOf_bit, all_bit, decide_eq_decide, hp.mem_iff, List.mem_range]
            omega
        refine Ev.step (f := fun _ => some (decide (PermP n l))) (fun k => ?_) (Ev.now _)
        rw [e1, if_pos (by omega), e2]
      · rw [decide_eq_false fun h => hlen h.2.2]
        refine Ev.step (f := fun _ => some false) (fun k => ?_) (Ev.now _)
        rw [e1, if_neg (by omega)]
    | succ d ih =>
      intro i hi hok
      have hil : i < l.length := by omega
      have e1 : ∀ k, rib_graph_permutation.l0 (k + 1) (il g) l ((setOf (natl (l.take i)) : Nat) : Int) l (l.length : Int) (i : Int) = if l[i] < 0 then some false else if l[i] ≥ (n : Int) then some false else (rib_one.f l[i]).bind fun t => rib_graph_permutation.l0 k (il g) l (Go.bits .or .u32 ((setOf (natl (l.take i)) : Nat) : Int) t) l (l.length : Int) ((i + 1 : Nat) : Int) := by
        intro k
        simp only [rib_graph_permutation.l0]
        rw [if_pos (by omega), if_pos (by omega), if_pos (by omega), rd_get l i hil, il_len, hg, wrap_up i (by omega)]
      have bad : ¬ (0 ≤ l[i] ∧ l[i] < (n : Int)) → decide (PermP n l) = false := fun h => decide_eq_false fun p => h (p.1 _ (List.getElem_mem hil))
      by_cases h1 : l[i] < 0
      · rw [bad (by omega)]
        exact Ev.step (f := fun _ => some false) (fun k => by rw [e1, if_pos h1]) (Ev.now _)
      by_cases h2 : l[i] ≥ (n : Int)
      · rw [bad (by omega)]
        exact Ev.step (f := fun _ => some false) (fun k => by rw [e1, if_neg h1, if_pos h2]) (Ev.now _)
      obtain ⟨a, ha⟩ : ∃ a : Nat, l[i] = a := ⟨l[i].toNat, by omega⟩
      have hok2 : ∀ x ∈ l.take (i + 1), 0 ≤ x ∧ x < (n : Int) := by
        intro x hx
        rw [List.take_succ_eq_append_getElem hil, List.mem_append] at hx
        rcases hx with hx | hx
        · exact hok x hx
        · obtain rfl := List.mem_singleton.1 hx; omega
      refine Ev.step (fun k => ?_) (ih (i + 1) (by omega) hok2)
      have hlt : ∀ x ∈ natl (l.take i), x < 32 := fun x hx => by have := inr_nat (n := n) (l := l.take i) hok x hx; omega
      rw [ha] at h2
      have e3 : natl (l.take (i + 1)) = natl (l.take i) ++ [a] := by
        rw [List.take_succ_eq_append_getElem hil]; unfold natl; rw [List.map_append]; simp [ha]
      rw [e1, if_neg h1, ha, if_neg h2, one_nat a (by omega), Option.bind_some, bits_or_set _ _ hlt (by omega), e3]
  have h := main l.length 0 (by omega) (by simp)
  exact h
theorem perm_ref (n : Nat) (hn1 : n ≤ 2 ^ 30) (l : List Int) (hl : l.length < 2 ^ 40) : Ev (fun k => gampref04_Permutation.f k l (n : Int)) (decide (PermP n l)) := by
  have hw : wrap64 ((n : Int) - 1) = (n : Int) - 1 := by unfold wrap64; omega
  have l1 : ∀ (i : Nat), i < l.length → (hok : ∀ x ∈ l.take (i + 1), 0 ≤ x ∧ x < (n : Int)) → ∀ (R : Bool), (l[i]! ∉ l.take i → Ev (fun k => gampref04_Permutation.l0 k l (n : Int) ((i + 1 : Nat) : Int)) R) → (l[i]! ∈ l.take i → R = false) → ∀ (d j : Nat), j + d = i → l[i]! ∉ l.take j → Ev (fun k => gampref04_Permutation.l1 k l (n : Int) (i : Int) (j : Int)) R := by
    intro i hi hok R hR hF d
    have hgi : l[i]! = l[i] := by simp [hi]
    induction d with
    | zero =>
      intro j hj hm
      obtain rfl : j = i := by omega
      refine Ev.step (fun k => ?_) (hR hm)
      simp only [gampref04_Permutation.l1]
      rw [if_neg (by omega), wrap_up j (by omega)]
    | succ d ih =>
      intro j hj hm
      have hjl : j < l.length := by omega
      have e1 : ∀ k, gampref04_Permutation.l1 (k + 1) l (n : Int) (i : Int) (j : Int) = if l[j] = l[i] then some false else gampref04_Permutation.l1 k l (n : Int) (i : Int) ((j + 1 : Nat) : Int) := by
        intro k
        simp only [gampref04_Permutation.l1]
        rw [if_pos (by omega), if_pos (by omega), if_pos (by omega), if_pos (by omega), if_pos (by omega), rd_get l j hjl, rd_get l i hi, wrap_up j (by omega)]
      by_cases h : l[j] = l[i]
      · have hmem : l[i]! ∈ l.take i := by
          rw [hgi, ← h]
          exact List.mem_take_iff_getElem.2 ⟨j, by omega, rfl⟩
        rw [hF hmem]
        exact Ev.step (f := fun _ => some false) (fun k => by rw [e1, if_pos h]) (Ev.now _)
      · refine Ev.step (fun k => by rw [e1, if_neg h]) (ih (j + 1) (by omega) ?_)
        rw [List.take_succ_eq_append_getElem hjl, List.mem_append, List.mem_singleton]
        rintro (x | x)
        · exact hm x
        · exact h (by rw [← x, hgi])
  have main : ∀ (d i : Nat), i + d = l.length → (∀ x ∈ l.take i, 0 ≤ x ∧ x < (n : Int)) → (natl (l.take i)).Nodup → Ev (fun k => gampref04_Permutation.l0 k l (n : Int) (i : Int)) (decide (PermP n l)) := by
    intro d
    induction d with
    | zero =>
      intro i hi hok hnd
      rw [List.take_of_length_le (by omega)] at hok hnd
      refine Ev.step (f := fun _ => some ((l.length : Int) == (n : Int))) (fun k => ?_) ?_
      · simp only [gampref04_Permutation.l0]
        rw [if_neg (by omega)]
      · rw [show decide (PermP n l) = ((l.length : Int) == (n : Int)) from ?_]
        · exact Ev.now _
        · rw [Bool.eq_iff_iff, beq_iff_eq, decide_eq_true_eq]
          exact ⟨fun h => by have := h.2.2; omega, fun h => ⟨hok, hnd, by omega⟩⟩
    | succ d ih =>
      intro i hi hok hnd
      have hil : i < l.length := by omega
      have hgi : l[i]! = l[i] := by simp [hil]
      have e1 : ∀ k, gampref04_Permutation.l0 (k + 1) l (n : Int) (i : Int) = if 0 ≤ l[i] ∧ l[i] ≤ (n : Int) - 1 then gampref04_Permutation.l1 k l (n : Int) (i : Int) 0 else some false := by
        intro k
        simp only [gampref04_Permutation.l0]
        rw [if_pos (by omega), if_pos (by omega), rd_get l i hil, in_f, Option.bind_some, hw]
        by_cases h : 0 ≤ l[i] ∧ l[i] ≤ (n : Int) - 1
        · rw [if_pos (decide_eq_true h), if_pos h]
        · rw [if_neg (by simpa using h), if_neg h]
      by_cases h : 0 ≤ l[i] ∧ l[i] ≤ (n : Int) - 1
      · have hok2 : ∀ x ∈ l.take (i + 1), 0 ≤ x ∧ x < (n : Int) := by
          intro x hx
          rw [List.take_succ_eq_append_getElem hil, List.mem_append] at hx
          rcases hx with hx | hx
          · exact hok x hx
          · obtain rfl := List.mem_singleton.1 hx; omega
        refine Ev.step (f := fun k => gampref04_Permutation.l1 k l (n : Int) (i : Int) ((0 : Nat) : Int)) (fun k => by rw [e1, if_pos h]; rfl) ?_
        refine l1 i hil hok2 _ (fun hm => ih (i + 1) (by omega) hok2 ?_) (fun hm => decide_eq_false fun p => ?_) i 0 (by omega) (by simp)
        · rw [List.take_succ_eq_append_getElem hil]
          unfold natl
          rw [List.map_append]
          refine List.nodup_append.2 ⟨hnd, by simp, ?_⟩
          rintro a ha b hb rfl
          obtain ⟨y, hy, rfl⟩ := List.mem_map.1 ha
          have hb' : y.toNat = l[i].toNat := by simpa using hb
          have := hok y hy
          exact hm (by rw [hgi, show l[i] = y by omega]; exact hy)
        · rw [hgi] at hm
          obtain ⟨j, hj, e⟩ := List.mem_take_iff_getElem.1 hm
          have hnd2 := p.2.1
          have hj1 : j < i := by omega
          have hjl : j < (natl l).length := by unfold natl; simp; omega
          have hil2 : i < (natl l).length := by unfold natl; simp; omega
          have := (List.getElem_inj hnd2 (h₀ := hjl) (h₁ := hil2)).1 (by simp only [natl, List.getElem_map, e])
          omega
      · rw [decide_eq_false fun p => h (by have := p.1 _ (List.getElem_mem hil); omega)]
        exact Ev.step (f := fun _ => some false) (fun k => by rw [e1, if_neg h]) (Ev.now _)
  exact main l.length 0 (by omega) (by simp) (by simp [natl])
theorem sub_bit (a b j : Nat) (ha : a < 4294967296) (hb : b < 4294967296) : (a &&& (4294967295 - b)).testBit j = (a.testBit j && !b.testBit j) := by
 have e : 4294967295 - b = 2 ^ 32 - (b + 1) := by omega
 rw [Nat.testBit_and, e, Nat.testBit_two_pow_sub_succ hb]
 by_cases hj : j < 32
 ·simp [hj]
 ·have : a.testBit j = false := Nat.testBit_lt_two_pow (Nat.lt_of_lt_of_le ha (by rw [show (4294967296 : Nat) = 2 ^ 32 from rfl]; exact Nat.pow_le_pow_right (by omega) (by omega)))
  rw [this]; simp
def CliqueL (g : List Nat) (s : Nat) (l : List Nat) : Prop := ∀ x ∈ l, ∀ j, s.testBit j = true → x ≠ j → ad g x j = true
def CliqueS (g : List Nat) (s : Nat) : Prop := ∀ i j, s.testBit i = true → s.testBit j = true → i ≠ j → ad g i j = true
theorem gclique_ev (g : List Nat) (G : Gr g) (s : Nat) (hs : s < 4294967296) (hsg : ∀ j, s.testBit j = true → j < g.length) : Ev (fun k => rib_graph_clique.f k (il g) (s : Int)) (decide (CliqueS g s)) := by
  have hlen : (nd s).length ≤ 32 := by unfold nd; exact Nat.le_trans (List.length_filter_le _ _) (by simp)
  have main : ∀ (d i : Nat), i + d = (nd s).length → Ev (fun k => rib_graph_clique.l0 k (il g) (s : Int) (il (nd s)) ((nd s).length : Int) (i : Int)) (decide (CliqueL g s ((nd s).drop i))) := by
    intro d
    induction d with
    | zero =>
      intro i hi
      rw [List.drop_eq_nil_of_le (by omega), decide_eq_true (show CliqueL g s [] from fun x hx => by cases hx)]
      refine Ev.step (f := fun _ => some true) (fun k => ?_) (Ev.now _)
      simp only [rib_graph_clique.l0]
      rw [if_neg (by omega)]
    | succ d ih =>
      intro i hi
      have hil : i < (nd s).length := by omega
      have hx : s.testBit (nd s)[i] = true := (mem_nd hs).1 (List.getElem_mem hil)
      have hxg := hsg _ hx
      have hx32 : (nd s)[i] < 32 := by have := G.le; omega
      have hgu := G.u32 (nd s)[i]
      have e0 : Go.bits .andNot .u32 (Go.bits .andNot .u32 (s : Int) ((2 ^ (nd s)[i] : Nat) : Int)) ((g.getD (nd s)[i] 0 : Nat) : Int) = (((s &&& (4294967295 - 2 ^ (nd s)[i])) &&& (4294967295 - g.getD (nd s)[i] 0) : Nat) : Int) := by
        rw [u32_andNot_nat _ _ hs (pow_u32 hx32), u32_andNot_nat _ _ (and_u32 hs) hgu]
      have e1 : ∀ k, rib_graph_clique.l0 (k + 1) (il g) (s : Int) (il (nd s)) ((nd s).length : Int) (i : Int) = if ((((s &&& (4294967295 - 2 ^ (nd s)[i])) &&& (4294967295 - g.getD (nd s)[i] 0) : Nat)) : Int) = 0 then rib_graph_clique.l0 k (il g) (s : Int) (il (nd s)) ((nd s).length : Int) ((i + 1 : Nat) : Int) else some false := by
        intro k
        simp only [rib_graph_clique.l0]
        rw [if_pos (by omega), if_pos (by omega), il_len, if_pos (by omega), rd_nat_get _ _ hil, one_nat _ hx32, Option.bind_some, if_pos (by omega), il_len, if_pos (by omega), il_rd _ _ hxg, e0, wrap_up i (by omega)]
      have hz : (((s &&& (4294967295 - 2 ^ (nd s)[i])) &&& (4294967295 - g.getD (nd s)[i] 0) : Nat) = 0) ↔ ∀ j, s.testBit j = true → (nd s)[i] ≠ j → ad g (nd s)[i] j = true := by
        have hb : ∀ j, ((s &&& (4294967295 - 2 ^ (nd s)[i])) &&& (4294967295 - g.getD (nd s)[i] 0)).testBit j = ((s.testBit j && decide ((nd s)[i] ≠ j)) && !ad g (nd s)[i] j) := fun j => by
          rw [sub_bit _ _ _ (and_u32 hs) hgu, strike_bit _ _ _ hs hx32]; rfl
        constructor
        · intro h j hj hne
          have := hb j
          rw [h, hj] at this
          simpa [hne] using this
        · intro h
          apply zero_of
          intro j
          rw [hb j]
          by_cases h1 : s.testBit j = true
          · by_cases h2 : (nd s)[i] = j
            · simp [h2]
            · rw [h j h1 h2]; simp
          · simp [h1]
      rw [List.drop_eq_getElem_cons hil]
      by_cases hc : ∀ j, s.testBit j = true → (nd s)[i] ≠ j → ad g (nd s)[i] j = true
      · rw [show decide (CliqueL g s ((nd s)[i] :: (nd s).drop (i + 1))) = decide (CliqueL g s ((nd s).drop (i + 1))) from decide_eq_decide.2 ⟨fun h x hx => h x (List.mem_cons_of_mem _ hx), fun h x hx => by
          rcases List.mem_cons.1 hx with rfl | hx
          · exact hc
          · exact h x hx⟩]
        refine Ev.step (fun k => ?_) (ih (i + 1) (by omega))
        rw [e1, if_pos (by have := hz.2 hc; omega)]
      · rw [decide_eq_false (p := CliqueL g s ((nd s)[i] :: (nd s).drop (i + 1))) fun h => hc (h _ List.mem_cons_self)]
        refine Ev.step (f := fun _ => some false) (fun k => ?_) (Ev.now _)
        rw [e1, if_neg (fun h => hc (hz.1 (by omega)))]
  have h := main (nd s).length 0 (by omega)
  rw [List.drop_zero] at h
  rw [show decide (CliqueS g s) = decide (CliqueL g s (nd s)) from decide_eq_decide.2 ⟨fun h x hx j hj hne => h x j ((mem_nd hs).1 hx) hj hne, fun h i j hi hj hne => h i ((mem_nd hs).2 hi) j hj hne⟩]
  obtain ⟨K, hK⟩ := h
  refine ⟨K + 40, fun k hk => ?_⟩
  have a1 := hK k (by omega)
  dsimp only at a1
  show rib_graph_clique.f k (il g) (s : Int) = _
  unfold rib_graph_clique.f
  rw [list_f _ _ (by omega), Option.bind_some, nodes_nat _ hs, il_len]
  exact a1
def ElimP (es : List S52) : List Nat → Prop
  | [] => True
  | v :: o => Simp es o v ∧ ElimP es o
theorem elim_ref (es : List S52) (hes : es.length < 2 ^ 50) (o : List Nat) (ho : o.length < 2 ^ 30) (hnd : o.Nodup) : Ev (fun k => gampref04_Eliminates.f k es (il o)) (decide (ElimP es o)) := by
 have main : ∀ (d i : Nat), i + d = o.length → Ev (fun k => gampref04_Eliminates.l0 k es (il o) (i : Int)) (decide (ElimP es (o.drop i))) := by
  intro d
  induction d with
  | zero =>
   intro i hi
   rw [List.drop_eq_nil_of_le (by omega), decide_eq_true (show ElimP es [] from trivial)]
   refine Ev.step (f := fun _ => some true) (fun k => ?_) (Ev.now _)
   simp only [gampref04_Eliminates.l0]
   rw [il_len, if_neg (by omega)]
  | succ d ih =>
   intro i hi
   have hil : i < o.length := by omega
   have ih2 := ih (i + 1) (by omega)
   rw [List.drop_eq_getElem_cons hil]
   have inner : ∀ (d j : Nat) (acc : List Nat), j + d = o.length → i + 1 ≤ j → acc = ((o.take j).drop (i + 1)).filter (adjE es o[i] ·) → Ev (fun k => gampref04_Eliminates.l1 k es (il o) (i : Int) (il acc) (j : Int)) (decide (ElimP es (o[i] :: o.drop (i + 1)))) := by
    intro d
    induction d with
    | zero =>
     intro j acc hj hij hacc
     rw [List.take_of_length_le (by omega)] at hacc
     have hnd2 : (o.drop (i + 1)).Nodup := hnd.sublist (List.drop_sublist _ _)
     have hla : acc.length ≤ o.length := by rw [hacc]; exact Nat.le_trans (List.length_filter_le _ _) (by rw [List.length_drop]; omega)
     have ev := clique_ev es hes (il acc) (by rw [il_len]; omega)
     have hiff : AllPr (nr es) (il acc) ↔ Simp es (o.drop (i + 1)) o[i] := by
      rw [allPr_iff es acc (by rw [hacc]; exact hnd2.sublist List.filter_sublist), hacc]
      unfold Simp
      constructor
      ·exact fun h a b ha hb haa hab hne => h a b (List.mem_filter.2 ⟨ha, haa⟩) (List.mem_filter.2 ⟨hb, hab⟩) hne
      ·exact fun h a b ha hb hne => h a b (List.mem_filter.1 ha).1 (List.mem_filter.1 hb).1 (List.mem_filter.1 ha).2 (List.mem_filter.1 hb).2 hne
     obtain ⟨K1, h1⟩ := ev
     obtain ⟨K2, h2⟩ := ih2
     refine ⟨K1 + K2 + 1, fun k hk => ?_⟩
     obtain ⟨k, rfl⟩ : ∃ j, k = j + 1 := ⟨k - 1, by omega⟩
     have a1 := h1 k (by omega)
     have a2 := h2 k (by omega)
     dsimp only at a1 a2
     simp only [gampref04_Eliminates.l1]
     rw [il_len, if_neg (by omega), a1, Option.bind_some, wrap_up i (by omega), a2]
     by_cases hs : Simp es (o.drop (i + 1)) o[i]
     ·rw [if_pos (decide_eq_true (hiff.2 hs))]
      congr 1
      exact decide_eq_decide.2 ⟨fun h => ⟨hs, h⟩, fun h => h.2⟩
     ·rw [if_neg (by simpa using fun h => hs (hiff.1 h))]
      congr 1
      exact (decide_eq_false fun h => hs h.1).symm
    | succ d ihj =>
     intro j acc hj hij hacc
     have hjl : j < o.length := by omega
     have hla : acc.length ≤ o.length := by rw [hacc]; exact Nat.le_trans (List.length_filter_le _ _) (by rw [List.length_drop, List.length_take]; omega)
     have ev := near_ev es hes (o[i] : Int) (o[j] : Int)
     have hstep : ((o.take (j + 1)).drop (i + 1)).filter (adjE es o[i] ·) = if adjE es o[i] o[j] = true then acc ++ [o[j]] else acc := by
      rw [List.take_succ_eq_append_getElem hjl, List.drop_append_of_le_length (by rw [List.length_take]; omega), List.filter_append, hacc]
      by_cases hn : adjE es o[i] o[j] = true
      ·rw [if_pos hn]; simp [hn]
      ·rw [if_neg hn]; simp [hn]
     have ih3 := ihj (j + 1) _ (by omega) (by omega) hstep.symm
     obtain ⟨K1, h1⟩ := ev
     obtain ⟨K2, h2⟩ := ih3
     refine ⟨K1 + K2 + 1, fun k hk => ?_⟩
     obtain ⟨k, rfl⟩ : ∃ j, k = j + 1 := ⟨k - 1, by omega⟩
     have a1 := h1 k (by omega)
     have a2 := h2 k (by omega)
     dsimp only at a1 a2
     simp only [gampref04_Eliminates.l1]
     rw [il_len, if_pos (by omega), if_pos (by omega), if_pos (by omega), if_pos (by omega), rd_nat_get _ _ hil, rd_nat_get _ _ hjl, a1, Option.bind_some, il_len, wrap_up j (by omega)]
     by_cases hn : adjE es o[i] o[j] = true
     ·rw [if_pos (show nr es o[i] o[j] = true from hn), if_pos (by omega), show il acc ++ [(o[j] : Int)] = il (acc ++ [o[j]]) by rw [il_app]; rfl]
      rw [if_pos hn] at a2; exact a2
     ·rw [if_neg (show ¬ nr es o[i] o[j] = true from hn)]
      rw [if_neg hn] at a2; exact a2
   refine Ev.step (fun k => ?_) (inner (o.length - (i + 1)) (i + 1) [] (by omega) (by omega) (by rw [List.drop_eq_nil_of_le (by rw [List.length_take]; omega)]; rfl))
   simp only [gampref04_Eliminates.l0]
   rw [il_len, if_pos (by omega), wrap_up i (by omega)]
   rfl
 have h := main o.length 0 (by omega)
 rw [List.drop_zero] at h
 exact h
theorem elim_prog (n : Nat) (hn : n ≤ 31) (es : List S52) (g : List Nat) (G : Gr g) (hg : g.length = n) (hga : ∀ a b : Nat, ad g a b = nr es a b) (o : List Nat) (ho : o.length < 2 ^ 30) (hnd : o.Nodup) (hlt : ∀ x ∈ o, x < n) :
  Ev (fun k => rib_Eliminates.l0 k (il g) ((setOf o : Nat) : Int) (il o) (o.length : Int) 0) (decide (ElimP es o), 0) := by
 have main : ∀ (d i : Nat), i + d = o.length → Ev (fun k => rib_Eliminates.l0 k (il g) ((setOf (o.drop i) : Nat) : Int) (il o) (o.length : Int) (i : Int)) (decide (ElimP es (o.drop i)), 0) := by
  intro d
  induction d with
  | zero =>
   intro i hi
   rw [List.drop_eq_nil_of_le (by omega), decide_eq_true (show ElimP es [] from trivial)]
   refine Ev.step (f := fun _ => some (true, 0)) (fun k => ?_) (Ev.now _)
   simp only [rib_Eliminates.l0]
   rw [if_neg (by omega)]
  | succ d ih =>
   intro i hi
   have hil : i < o.length := by omega
   have ih2 := ih (i + 1) (by omega)
   have hlt2 : ∀ x ∈ o.drop i, x < 32 := fun x hx => by have := hlt x (List.mem_of_mem_drop hx); omega
   have hs := setOf_lt hlt2
   have hvi : o[i] < n := hlt _ (List.getElem_mem hil)
   have hgu := G.u32 o[i]
   have hset : setOf (o.drop i) &&& (4294967295 - 2 ^ o[i]) = setOf (o.drop (i + 1)) := by
    apply Nat.eq_of_testBit_eq
    intro j
    rw [strike_bit _ _ _ hs (by omega), setOf_bit, setOf_bit, List.drop_eq_getElem_cons hil, ← Bool.decide_and, decide_eq_decide, List.mem_cons]
    have hn2 : o[i] ∉ o.drop (i + 1) := by
     have := hnd.sublist (List.drop_sublist i o)
     rw [List.drop_eq_getElem_cons hil, List.nodup_cons] at this
     exact this.1
    constructor
    ·rintro ⟨h | h, hne⟩
     ·exact absurd h.symm hne
     ·exact h
    ·intro h
     exact ⟨Or.inr h, fun e => hn2 (e ▸ h)⟩
   have ev := gclique_ev g G (g.getD o[i] 0 &&& setOf (o.drop i)) (and_u32 hgu) (fun j hj => by
    rw [Nat.testBit_and, Bool.and_eq_true] at hj
    exact G.lt (i := o[i]) hj.1)
   have hiff : CliqueS g (g.getD o[i] 0 &&& setOf (o.drop i)) ↔ Simp es (o.drop (i + 1)) o[i] := by
    have hb : ∀ j, (g.getD o[i] 0 &&& setOf (o.drop i)).testBit j = true ↔ adjE es o[i] j = true ∧ j ∈ o.drop (i + 1) := by
     intro j
     rw [Nat.testBit_and, setOf_bit, List.drop_eq_getElem_cons hil, Bool.and_eq_true, decide_eq_true_eq, List.mem_cons]
     have e : (g.getD o[i] 0).testBit j = adjE es o[i] j := hga _ _
     rw [e]
     constructor
     ·rintro ⟨h1, h2 | h2⟩
      ·rw [h2, adjE_irr] at h1; cases h1
      ·exact ⟨h1, h2⟩
     ·rintro ⟨h1, h2⟩; exact ⟨h1, Or.inr h2⟩
    unfold CliqueS Simp
    constructor
    ·exact fun h a b ha hb' haa hab hne => by show nr es a b = true; rw [← hga]; exact h a b ((hb a).2 ⟨haa, ha⟩) ((hb b).2 ⟨hab, hb'⟩) hne
    ·exact fun h a b ha hb' hne => by rw [hga]; exact h a b ((hb a).1 ha).2 ((hb b).1 hb').2 ((hb a).1 ha).1 ((hb b).1 hb').1 hne
   obtain ⟨K1, h1⟩ := ev
   obtain ⟨K2, h2⟩ := ih2
   refine ⟨K1 + K2 + 1, fun k hk => ?_⟩
   obtain ⟨k, rfl⟩ : ∃ j, k = j + 1 := ⟨k - 1, by omega⟩
   have a1 := h1 k (by omega)
   have a2 := h2 k (by omega)
   dsimp only at a1 a2
   simp only [rib_Eliminates.l0]
   rw [if_pos (by omega), if_pos (by omega), il_len, if_pos (by omega), rd_nat_get _ _ hil, if_pos (by omega), il_len, if_pos (by omega), il_rd _ _ (by omega), u32_and_nat _ _ hgu hs, a1, Option.bind_some, one_nat _ (by omega), Option.bind_some, u32_andNot_nat _ _ hs (pow_u32 (by omega)), hset, wrap_up i (by omega), a2, show decide (ElimP es (o.drop i)) = decide (ElimP es (o[i] :: o.drop (i + 1))) by rw [← List.drop_eq_getElem_cons hil]]
   by_cases hsi : Simp es (o.drop (i + 1)) o[i]
   ·rw [if_pos (decide_eq_true (hiff.2 hsi))]
    congr 2
    exact decide_eq_decide.2 ⟨fun h => ⟨hsi, h⟩, fun h => h.2⟩
   ·rw [if_neg (by simpa using fun h => hsi (hiff.1 h))]
    congr 2
    exact (decide_eq_false fun h => hsi h.1).symm
 have h := main o.length 0 (by omega)
 rw [List.drop_zero] at h
 exact h
end Go.Proofs.Ytdpolfflemocaaa.Pure

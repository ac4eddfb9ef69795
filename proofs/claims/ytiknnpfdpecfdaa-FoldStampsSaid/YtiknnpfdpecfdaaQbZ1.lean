/- The declarations of Z1 that the claim Qb needs. -/
import Derived.Test.YtiknnpfdpecfdaaQbFw
import Derived.Test.YtiknnpfdpecfdaaQbZ2
import Derived.Test.YtiknnpfdpecfdaaQbTkP
import Derived.Test.YtiknnpfdpecfdaaQbGxx0
import Derived.Test.YtiknnpfdpecfdaaQbGxx3
namespace Go.Proofs.Ytiknnpfdpecfdaa.Own
open Go Go.RowKit Go.Proofs Go.Proofs.YtiknnpfdpecfdaaW.PrintWords Go.Proofs.YtiknnpfdpecfdaaW.PrintLast Go.Proofs.YtiknnpfdpecfdaaW.PrintMore
set_option linter.unusedVariables false
set_option linter.unusedSimpArgs false
section
variable (low high : List Int) (cr : List S96) (pat : ByteArray) (o : List Int)
end
section
variable {n : Nat} {low high : List Int} {cr : List S96} {pat : ByteArray} {o : List Int}
/-- Where a number stands in a list without double numbers. -/
theorem idxI_at : ∀ (l : List Int) (a : Int), a ∈ l → ∃ t : Nat, idxI l a = t ∧ l[t]? = some a
 | x :: l, a, h => by
  unfold idxI
  by_cases hx : a = x
  ·rw [if_pos hx]; exact ⟨0, rfl, by simp [hx]⟩
  ·rw [if_neg hx]
   obtain ⟨t, h1, h2⟩ := idxI_at l a ((List.mem_cons.1 h).resolve_left hx)
   rw [h1, if_neg (by omega)]
   exact ⟨t + 1, by omega, by simpa using h2⟩
end
end Go.Proofs.Ytiknnpfdpecfdaa.Own
namespace Go.Proofs.Ytiknnpfdpecfdaa.Own
open Go Go.RowKit Go.Proofs Go.Proofs.YtiknnpfdpecfdaaW.PrintWords Go.Proofs.YtiknnpfdpecfdaaW.PrintLast Go.Proofs.YtiknnpfdpecfdaaW.PrintMore
set_option linter.unusedVariables false
set_option linter.unusedSimpArgs false
section
variable {n : Nat} {low high : List Int} {cr : List S96} {pat : ByteArray} {o : List Int}
end
end Go.Proofs.Ytiknnpfdpecfdaa.Own
namespace Go.Proofs.Ytiknnpfdpecfdaa.Own
open Go Go.RowKit Go.Proofs Go.Proofs.YtiknnpfdpecfdaaW.PrintWords Go.Proofs.YtiknnpfdpecfdaaW.PrintLast Go.Proofs.YtiknnpfdpecfdaaW.PrintMore
set_option linter.unusedVariables false
set_option linter.unusedSimpArgs false
/-- Sizes that are valid. -/
structure OkL (l : List Int) : Prop where
  len : l.length ≤ 12
  rng : ∀ x ∈ l, 1 ≤ x ∧ x ≤ 1000
/-- Where segment k begins. -/
def PP (l : List Int) : Nat → Int
  | 0 => 0
  | k + 1 => if k % 2 = 1 then PP l k - l.getD k 0 else PP l k + l.getD k 0
variable {l : List Int}
theorem OkL.at (h : OkL l) {k : Nat} (hk : k < l.length) : 1 ≤ l.getD k 0 ∧ l.getD k 0 ≤ 1000 := by
  rw [List.getD_eq_getElem?_getD, List.getElem?_eq_getElem hk, Option.getD_some]
  exact h.rng _ (List.getElem_mem hk)
theorem PP_bound (h : OkL l) : ∀ k, k ≤ l.length → -(1000 * k : Int) ≤ PP l k ∧ PP l k ≤ 1000 * k
 | 0, _ => by simp [PP]
 | k + 1, hk => by
  have ih := PP_bound h k (by omega)
  have ha := h.at (show k < l.length by omega)
  rw [PP]
  split <;> omega
theorem PP_small (h : OkL l) {k : Nat} (hk : k ≤ l.length) : -12000 ≤ PP l k ∧ PP l k ≤ 12000 := by
 have := PP_bound h k hk
 have := h.len
 omega
theorem nextAt_eq (h : OkL l) {k : Nat} (hk : k < l.length) : nextAt k (PP l k) (rd l (k : Int)) = PP l (k + 1) := by
 have ha := h.at hk
 have hb := PP_small h (show k ≤ l.length by omega)
 have hr : rd l (k : Int) = l.getD k 0 := by simp [rd]
 have ht : Int.tmod (k : Int) 2 = ((k % 2 : Nat) : Int) := by
  rw [Int.tmod_eq_emod_of_nonneg (by omega)]; omega
 unfold nextAt
 rw [hr, ht, PP]
 by_cases e : k % 2 = 1
 ·rw [if_pos (by omega), if_pos e]; unfold wrap64; omega
 ·rw [if_neg (by omega), if_neg e]; unfold wrap64; omega
/-- Crease j of a strip: of segments j and j + 1. -/
def creaseAt (l : List Int) (j : Nat) : S96 := ⟨(j : Int), ((j + 1 : Nat) : Int), PP l (j + 1), (j + 1) % 2 == 1⟩
theorem layR_eq (h : OkL l) : ∀ k, k ≤ l.length → layR l k = ⟨PP l k, (List.range k).map (fun i => min (PP l i) (PP l (i + 1))), (List.range k).map (fun i => max (PP l i) (PP l (i + 1))), (List.range (k - 1)).map (creaseAt l)⟩
 | 0, _ => rfl
 | k + 1, hk => by
  have ht : Int.tmod (k : Int) 2 = ((k % 2 : Nat) : Int) := by
   rw [Int.tmod_eq_emod_of_nonneg (by omega)]; omega
  rw [layR, layR_eq h k (by omega), layStep, nextAt_eq h (by omega)]
  congr 1
  ·rw [List.range_succ, List.map_append]; rfl
  ·rw [List.range_succ, List.map_append]; rfl
  ·cases k with
   | zero => rfl
   | succ k =>
    rw [if_pos (by omega)]
    show (List.range k).map (creaseAt l) ++ [_] = (List.range (k + 1)).map (creaseAt l)
    rw [List.range_succ, show (List.range k ++ [k]).map (creaseAt l) = (List.range k).map (creaseAt l) ++ [creaseAt l k] from by simp]
    refine congrArg (fun z => (List.range k).map (creaseAt l) ++ z) ?_
    show [(⟨wrap64 (((k + 1 : Nat) : Int) - 1), ((k + 1 : Nat) : Int), PP l (k + 1), Int.tmod ((k + 1 : Nat) : Int) 2 == 1⟩ : S96)] = [creaseAt l k]
    have e1 : wrap64 (((k + 1 : Nat) : Int) - 1) = (k : Int) := by unfold wrap64; have := h.len; omega
    have e2 : (Int.tmod ((k + 1 : Nat) : Int) 2 == 1) = ((k + 1) % 2 == 1) := by
     rw [ht]
     apply Bool.eq_iff_iff.2
     rw [beq_iff_eq, beq_iff_eq]
     omega
    rw [e1, e2]
    rfl
section
theorem lay_low (h : OkL l) {i : Nat} (hi : i < l.length) : rd (layR l l.length).low (i : Int) = min (PP l i) (PP l (i + 1)) := by
  rw [layR_eq h _ (Nat.le_refl _)]
  simp [rd, hi]
theorem lay_high (h : OkL l) {i : Nat} (hi : i < l.length) : rd (layR l l.length).high (i : Int) = max (PP l i) (PP l (i + 1)) := by
  rw [layR_eq h _ (Nat.le_refl _)]
  simp [rd, hi]
theorem lay_cr (h : OkL l) {j : Nat} (hj : j + 1 < l.length) : rd_T96 (layR l l.length).cr (j : Int) = creaseAt l j := by
  rw [layR_eq h _ (Nat.le_refl _)]
  simp [rd_T96, show j < l.length - 1 by omega]
end
end Go.Proofs.Ytiknnpfdpecfdaa.Own
namespace Go.Proofs.Ytiknnpfdpecfdaa.Own
open Go Go.RowKit Go.Proofs Go.Proofs.Ytiknnpfdpecfdaa.Gx Go.Proofs.YtiknnpfdpecfdaaW.PrintWords Go.Proofs.YtiknnpfdpecfdaaW.PrintLast Go.Proofs.YtiknnpfdpecfdaaW.PrintMore
set_option linter.unusedVariables false
set_option linter.unusedSimpArgs false
theorem wup (i : Nat) (h : i < 2 ^ 60) : wrap64 ((i : Int) + 1) = ((i + 1 : Nat) : Int) := by unfold wrap64; omega
theorem rd_nat (l : List Int) {i : Nat} (hi : i < l.length) : rd l (i : Int) = l[i] := by simp [rd, hi]
def okN (x : Int) : Bool := decide (1 ≤ x ∧ x ≤ 1000)
def sizesB (l : List Int) (a b : Int) : Bool := l.all okN && decide (a ≤ (l.length : Int) ∧ (l.length : Int) ≤ b)
theorem sizes_f (l : List Int) (a b : Int) : fold_sizes.f l a b = some (sizesB l a b) := by
 unfold fold_sizes.f sizesB
 congr 1
 have h1 : (!(l.any outS)) = l.all okN := by
  rw [List.not_any_eq_all_not]
  apply Bool.eq_iff_iff.2
  rw [List.all_eq_true, List.all_eq_true]
  have h2 : ∀ x : Int, (!outS x) = true ↔ okN x = true := by
   intro x
   unfold outS okN
   simp only [Bool.not_eq_true', Bool.or_eq_false_iff, decide_eq_false_iff_not, decide_eq_true_eq]
   omega
  exact ⟨fun h x hx => (h2 x).1 (h x hx), fun h x hx => (h2 x).2 (h x hx)⟩
 rw [h1]
 apply Bool.eq_iff_iff.2
 simp only [Bool.and_eq_true, decide_eq_true_eq]
 constructor
 ·rintro ⟨⟨h1, h2⟩, h3⟩; exact ⟨h3, h1, h2⟩
 ·rintro ⟨h3, h1, h2⟩; exact ⟨⟨h1, h2⟩, h3⟩
theorem same_l0 (a b : List Int) (hl : a.length < 2 ^ 40) (hab : a.length = b.length) : ∀ (d i : Nat), i + d = a.length → Ev (fun k => gampref01_Same.l0 k a b (i : Int)) (decide (a.drop i = b.drop i)) := by
 intro d
 induction d with
 | zero =>
  intro i hi
  rw [List.drop_eq_nil_of_le (by omega), List.drop_eq_nil_of_le (by omega)]
  refine Ev.step (f := fun _ => some true) (fun k => ?_) (Ev.now _)
  simp only [gampref01_Same.l0]
  rw [if_neg (by omega)]
 | succ d ih =>
  intro i hi
  have hia : i < a.length := by omega
  have hib : i < b.length := by omega
  have e : ∀ k, gampref01_Same.l0 (k + 1) a b (i : Int) = if a[i] = b[i] then gampref01_Same.l0 k a b ((i + 1 : Nat) : Int) else some false := by
   intro k
   simp only [gampref01_Same.l0]
   rw [if_pos (by omega), if_pos (by omega), if_pos (by omega), rd_nat a hia, rd_nat b hib, wup i (by omega)]
  rw [List.drop_eq_getElem_cons hia, List.drop_eq_getElem_cons hib]
  by_cases h : a[i] = b[i]
  ·rw [show decide (a[i] :: a.drop (i + 1) = b[i] :: b.drop (i + 1)) = decide (a.drop (i + 1) = b.drop (i + 1)) from decide_eq_decide.2 ⟨fun e => (List.cons.inj e).2, fun e => by rw [h, e]⟩]
   exact Ev.step (fun k => by rw [e, if_pos h]) (ih (i + 1) (by omega))
  ·rw [decide_eq_false (fun e => h (List.cons.inj e).1)]
   exact Ev.step (f := fun _ => some false) (fun k => by rw [e, if_neg h]) (Ev.now _)
theorem same_ev (a b : List Int) (hl : a.length < 2 ^ 40) : Ev (fun k => gampref01_Same.f k a b) (decide (a = b)) := by
 unfold gampref01_Same.f
 by_cases h : (a.length : Int) = (b.length : Int)
 ·have := same_l0 a b hl (by omega) a.length 0 (by omega)
  rw [List.drop_zero, List.drop_zero] at this
  exact Ev.congr (fun k => by rw [if_pos h]; rfl) this
 ·rw [decide_eq_false (fun e => h (by rw [e]))]
  exact Ev.congr (f := fun _ => some false) (fun k => by rw [if_neg h]) (Ev.now _)
end Go.Proofs.Ytiknnpfdpecfdaa.Own
namespace Go.Proofs.Ytiknnpfdpecfdaa.Own
open Go Go.RowKit Go.Proofs Go.Proofs.Ytiknnpfdpecfdaa.Gx Go.Proofs.YtiknnpfdpecfdaaW.PrintWords Go.Proofs.YtiknnpfdpecfdaaW.PrintLast Go.Proofs.YtiknnpfdpecfdaaW.PrintMore
set_option linter.unusedVariables false
set_option linter.unusedSimpArgs false
def btw (x a b : Int) : Prop := min a b < x ∧ x < max a b
instance (x a b : Int) : Decidable (btw x a b) := inferInstanceAs (Decidable (_ ∧ _))
def rc (c : List Gx.S88) (k : Nat) : Gx.S88 := Gx.rd_T88 c (k : Int)
section
variable (l at_ : List Int) (c : List Gx.S88)
/-- No segment lies inside crease k. -/
def clearA (k i : Nat) : Prop := ¬ (btw (rc c k).f0 (PP l i) (PP l (i + 1)) ∧ btw (rd at_ (i : Int)) (rd at_ (rc c k).f1) (rd at_ (rc c k).f2))
/-- Crease j does not cross crease k. -/
def clearB (k j : Nat) : Prop := j ≠ k → (rc c j).f0 = (rc c k).f0 → (rc c j).f3 = (rc c k).f3 → (btw (rd at_ (rc c j).f1) (rd at_ (rc c k).f1) (rd at_ (rc c k).f2) ↔ btw (rd at_ (rc c j).f2) (rd at_ (rc c k).f1) (rd at_ (rc c k).f2))
instance (k i : Nat) : Decidable (clearA l at_ c k i) := inferInstanceAs (Decidable (¬ _))
instance (k j : Nat) : Decidable (clearB at_ c k j) := by unfold clearB; exact inferInstance
end
section
open Classical
variable {l at_ : List Int} {c : List Gx.S88}
end
end Go.Proofs.Ytiknnpfdpecfdaa.Own
namespace Go.Proofs.Ytiknnpfdpecfdaa.Own
open Go Go.RowKit Go.Proofs Go.Proofs.Ytiknnpfdpecfdaa.Gx Go.Proofs.YtiknnpfdpecfdaaW.PrintWords Go.Proofs.YtiknnpfdpecfdaaW.PrintLast Go.Proofs.YtiknnpfdpecfdaaW.PrintMore
set_option linter.unusedVariables false
set_option linter.unusedSimpArgs false
section
variable {n : Nat} {l low high : List Int} {cr : List Own.S96} {c : List Gx.S88} {o : List Int}
end
section
variable {l : List Int}
end
end Go.Proofs.Ytiknnpfdpecfdaa.Own
namespace Go.Proofs.Ytiknnpfdpecfdaa.Own
open Go Go.RowKit Go.Proofs Go.Proofs.Ytiknnpfdpecfdaa.Gx Go.Proofs.YtiknnpfdpecfdaaW.PrintWords Go.Proofs.YtiknnpfdpecfdaaW.PrintLast Go.Proofs.YtiknnpfdpecfdaaW.PrintMore
set_option linter.unusedVariables false
set_option linter.unusedSimpArgs false
theorem live_layers : fold_Layers.f [3, 1, 3] ⟨#[86, 77]⟩ = some ([0, 1, 2], 0) := by decide +kernel
theorem live_reduce : fold_Reduce.f 10 [3, 1, 3] ⟨#[86, 77]⟩ = some ([5], ⟨#[]⟩, 0) := by decide +kernel
theorem live_count : fold_Count.f [1, 1, 1] = some (6, 0) := by decide +kernel
theorem lives_ev : Ev (fun k => gamplaw01_lives.f k) true := by
 unfold gamplaw01_lives.f
 rw [live_layers, live_count]
 refine Ev.bind (Ev.now _) ?_
 refine Ev.bind (Ev.of (fold_Reduce.mono _ _) live_reduce) ?_
 refine Ev.bind (Ev.now _) ?_
 refine Ev.congr (fun k => by rw [if_pos rfl]) ?_
 refine Ev.bind (same_ev [0, 1, 2] [0, 1, 2] (by decide)) ?_
 refine Ev.congr (fun k => by rw [if_pos (by decide), if_pos rfl]) ?_
 refine Ev.bind (same_ev [5] [5] (by decide)) ?_
 exact Ev.congr (fun k => by rw [if_pos (by decide), if_pos (show ByteArray.toList ⟨#[]⟩ = [] by decide +kernel), if_pos rfl]; rfl) (Ev.now _)
end Go.Proofs.Ytiknnpfdpecfdaa.Own
namespace Go.Proofs.Ytiknnpfdpecfdaa.Gx
open Go Go.RowKit Go.Proofs Go.Proofs.YtiknnpfdpecfdaaW.PrintWords
theorem gamplaw01_lives.calls (k : Nat) (r : Bool) (w : World) (h : gamplaw01_lives.f k = some r) : Calls Try.prog 20 #[] w fun e w' => e = .returned (.bool r) ∧ Below w.heap.size w w' := by
 refine gamplaw01_lives.callsT k r w h ?_
 obtain ⟨K, hK⟩ := Own.lives_ev
 have h1 := at_rounds gamplaw01_lives.mono (Nat.le_max_left k K) h
 exact Option.some.inj (h1.symm.trans (hK _ (Nat.le_max_right k K)))
end Go.Proofs.Ytiknnpfdpecfdaa.Gx

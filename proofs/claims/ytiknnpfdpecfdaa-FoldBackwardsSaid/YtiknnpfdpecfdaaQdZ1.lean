/- The declarations of Z1 that the claim Qd needs. -/
import Derived.Test.YtiknnpfdpecfdaaQdFw
import Derived.Test.YtiknnpfdpecfdaaQdZ2
import Derived.Test.YtiknnpfdpecfdaaQdTkP
import Derived.Test.YtiknnpfdpecfdaaQdGxx0
import Derived.Test.YtiknnpfdpecfdaaQdGxx6
import Derived.Test.YtiknnpfdpecfdaaQdGxx3
import Derived.Test.YtiknnpfdpecfdaaQdGxx1
namespace Go.Proofs.Ytiknnpfdpecfdaa.Own
open Go Go.RowKit Go.Proofs Go.Proofs.YtiknnpfdpecfdaaW.PrintWords Go.Proofs.YtiknnpfdpecfdaaW.PrintLast Go.Proofs.YtiknnpfdpecfdaaW.PrintMore
set_option linter.unusedVariables false
set_option linter.unusedSimpArgs false
/-- Creases of n segments: each joins two; two at one place and side share no segment. -/
structure Geo (n : Nat) (cr : List S96) : Prop where
  ne : ∀ k : Nat, k < cr.length → (rd_T96 cr k).f0 ≠ (rd_T96 cr k).f1
  i0 : ∀ k : Nat, k < cr.length → 0 ≤ (rd_T96 cr k).f0 ∧ (rd_T96 cr k).f0 < n
  i1 : ∀ k : Nat, k < cr.length → 0 ≤ (rd_T96 cr k).f1 ∧ (rd_T96 cr k).f1 < n
  apart : ∀ k j : Nat, k < cr.length → j < cr.length → k ≠ j → crossed cr k j = true → (rd_T96 cr k).f0 ≠ (rd_T96 cr j).f0 ∧ (rd_T96 cr k).f0 ≠ (rd_T96 cr j).f1 ∧ (rd_T96 cr k).f1 ≠ (rd_T96 cr j).f0 ∧ (rd_T96 cr k).f1 ≠ (rd_T96 cr j).f1
/-- A permutation of n segments. -/
structure IsP (n : Nat) (o : List Int) : Prop where
  nd : o.Nodup
  len : o.length = n
  mem : ∀ s : Int, s ∈ o ↔ 0 ≤ s ∧ s < n
section
variable (low high : List Int) (cr : List S96) (pat : ByteArray) (o : List Int)
def pos (s : Int) : Nat := o.idxOf s
def aOf (k : Nat) : Nat := min (pos o (rd_T96 cr k).f0) (pos o (rd_T96 cr k).f1)
def bOf (k : Nat) : Nat := max (pos o (rd_T96 cr k).f0) (pos o (rd_T96 cr k).f1)
/-- What is asked when the segment at place i is put. -/
def goodA (i : Nat) : Prop := ∀ k : Nat, k < cr.length → aOf cr o k < i → i < bOf cr o k → ¬ (rd low (o.getD i 0) < (rd_T96 cr k).f2 ∧ (rd_T96 cr k).f2 < rd high (o.getD i 0))
def goodB (i k : Nat) : Prop := bOf cr o k = i → ∀ j : Nat, j < cr.length → j ≠ k → crossed cr k j = true → aOf cr o k < aOf cr o j → aOf cr o j < i → ¬ i < bOf cr o j
def goodC (i k : Nat) : Prop := aOf cr o k = i → pat.size ≠ 0 → underB (rd_T96 cr k) (bt pat k) = ((rd_T96 cr k).f0 == o.getD i 0)
def good (i : Nat) : Prop := goodA low high cr o i ∧ ∀ k : Nat, k < cr.length → goodB cr o i k ∧ goodC cr pat o i k
/-- The creases that wait ahead of place i, of which those below c are told behind it. -/
structure Wt (i c : Nat) (ws : List Int) : Prop where
  nd : ws.Nodup
  nn : ∀ x ∈ ws, 0 ≤ x
  mem : ∀ k : Nat, (k : Int) ∈ ws ↔ k < cr.length ∧ (if k < c then aOf cr o k ≤ i ∧ i < bOf cr o k else aOf cr o k < i ∧ i ≤ bOf cr o k)
  srt : ws.Pairwise fun x y => aOf cr o x.toNat ≤ aOf cr o y.toNat
end
section
variable {n : Nat} {low high : List Int} {cr : List S96} {pat : ByteArray} {o : List Int}
theorem pos_lt (hp : IsP n o) {s : Int} (h0 : 0 ≤ s) (h1 : s < n) : pos o s < n := by
 have := List.idxOf_lt_length_of_mem ((hp.mem s).2 ⟨h0, h1⟩)
 rw [hp.len] at this
 exact this
theorem pos_get (hp : IsP n o) {i : Nat} (hi : i < n) : pos o (o.getD i 0) = i := by
 have hi2 : i < o.length := by rw [hp.len]; exact hi
 unfold pos
 rw [List.getD_eq_getElem?_getD, List.getElem?_eq_getElem hi2, Option.getD_some]
 exact hp.nd.idxOf_getElem i hi2
theorem get_pos (hp : IsP n o) {s : Int} (h0 : 0 ≤ s) (h1 : s < n) : o.getD (pos o s) 0 = s := by
 have := List.idxOf_lt_length_of_mem ((hp.mem s).2 ⟨h0, h1⟩)
 unfold pos
 rw [List.getD_eq_getElem?_getD, List.getElem?_eq_getElem this, Option.getD_some]
 exact List.getElem_idxOf this
theorem pos_inj (hp : IsP n o) {s t : Int} (h0 : 0 ≤ s) (h1 : s < n) (h2 : 0 ≤ t) (h3 : t < n) (h : pos o s = pos o t) : s = t := by
  rw [← get_pos hp h0 h1, h, get_pos hp h2 h3]
theorem pos_eq (hp : IsP n o) {s : Int} (h0 : 0 ≤ s) (h1 : s < n) {i : Nat} (hi : i < n) : pos o s = i ↔ s = o.getD i 0 := by
 constructor
 ·rintro rfl; exact (get_pos hp h0 h1).symm
 ·rintro rfl; exact pos_get hp hi
theorem ab_lt (hg : Geo n cr) (hp : IsP n o) {k : Nat} (hk : k < cr.length) : aOf cr o k < bOf cr o k ∧ bOf cr o k < n := by
 have h1 := pos_lt hp (hg.i0 k hk).1 (hg.i0 k hk).2
 have h2 := pos_lt hp (hg.i1 k hk).1 (hg.i1 k hk).2
 have h3 : pos o (rd_T96 cr k).f0 ≠ pos o (rd_T96 cr k).f1 := fun e => hg.ne k hk (pos_inj hp (hg.i0 k hk).1 (hg.i0 k hk).2 (hg.i1 k hk).1 (hg.i1 k hk).2 e)
 unfold aOf bOf
 omega
theorem ends_iff (hg : Geo n cr) (hp : IsP n o) {k i : Nat} (hk : k < cr.length) (hi : i < n) : endsB (rd_T96 cr k) (o.getD i 0) = true ↔ aOf cr o k = i ∨ bOf cr o k = i := by
 have e1 := pos_eq hp (hg.i0 k hk).1 (hg.i0 k hk).2 hi
 have e2 := pos_eq hp (hg.i1 k hk).1 (hg.i1 k hk).2 hi
 unfold endsB aOf bOf
 rw [Bool.or_eq_true, decide_eq_true_eq, beq_iff_eq, ← e1, ← e2]
 omega
theorem apart_ab (hg : Geo n cr) (hp : IsP n o) {k j : Nat} (hk : k < cr.length) (hj : j < cr.length) (hkj : k ≠ j) (hc : crossed cr k j = true) : aOf cr o k ≠ aOf cr o j ∧ aOf cr o k ≠ bOf cr o j ∧ bOf cr o k ≠ aOf cr o j ∧ bOf cr o k ≠ bOf cr o j := by
 obtain ⟨h1, h2, h3, h4⟩ := hg.apart k j hk hj hkj hc
 have p1 : pos o (rd_T96 cr k).f0 ≠ pos o (rd_T96 cr j).f0 := fun e => h1 (pos_inj hp (hg.i0 k hk).1 (hg.i0 k hk).2 (hg.i0 j hj).1 (hg.i0 j hj).2 e)
 have p2 : pos o (rd_T96 cr k).f0 ≠ pos o (rd_T96 cr j).f1 := fun e => h2 (pos_inj hp (hg.i0 k hk).1 (hg.i0 k hk).2 (hg.i1 j hj).1 (hg.i1 j hj).2 e)
 have p3 : pos o (rd_T96 cr k).f1 ≠ pos o (rd_T96 cr j).f0 := fun e => h3 (pos_inj hp (hg.i1 k hk).1 (hg.i1 k hk).2 (hg.i0 j hj).1 (hg.i0 j hj).2 e)
 have p4 : pos o (rd_T96 cr k).f1 ≠ pos o (rd_T96 cr j).f1 := fun e => h4 (pos_inj hp (hg.i1 k hk).1 (hg.i1 k hk).2 (hg.i1 j hj).1 (hg.i1 j hj).2 e)
 unfold aOf bOf
 omega
/-- Where a number stands in a list without double numbers. -/
theorem idxI_at : ∀ (l : List Int) (a : Int), a ∈ l → ∃ t : Nat, idxI l a = t ∧ l[t]? = some a
 | x :: l, a, h => by
  unfold idxI
  by_cases hx : a = x
  ·rw [if_pos hx]; exact ⟨0, rfl, by simp [hx]⟩
  ·rw [if_neg hx]
   obtain ⟨t, h1, h2⟩ := idxI_at l a ((List.mem_cons.1 h).resolve_left hx)
   rw [h1, if_neg (by omega)]
   exact ⟨t + 1, by omega, by simpa using h2⟩
/-- One crease. -/
theorem wt_step (hg : Geo n cr) (hp : IsP n o) {i c : Nat} {ws : List Int} (hi : i < n) (hc : c < cr.length) (hw : Wt cr o i c ws) :
  (goodB cr o i c ∧ goodC cr pat o i c → ∃ us, putStep cr pat (o.getD i 0) (c : Int) ws = some us ∧ Wt cr o i (c + 1) us) ∧ (¬ (goodB cr o i c ∧ goodC cr pat o i c) → putStep cr pat (o.getD i 0) (c : Int) ws = none) := by
 obtain ⟨hab, hbn⟩ := ab_lt hg hp hc
 have hmc := hw.mem c
 rw [if_neg (Nat.lt_irrefl c)] at hmc
 unfold putStep
 by_cases he : endsB (rd_T96 cr (c : Int)) (o.getD i 0) = true
 ·rw [if_pos he]
  have hab2 := (ends_iff hg hp hc hi).1 he
  by_cases ha : aOf cr o c = i
  ·-- it begins
   have hnm : (c : Int) ∉ ws := fun h => by have := (hmc.1 h).2; omega
   have hneg : idxI ws (c : Int) < 0 := Int.not_le.1 (fun h => hnm (idxI_mem.1 h))
   rw [if_pos hneg]
   have hB : goodB cr o i c := fun hb => by omega
   have hC : goodC cr pat o i c ↔ ¬ ((decide (pat.size ≠ 0) && (underB (rd_T96 cr (c : Int)) (bt pat (c : Int)) != ((rd_T96 cr (c : Int)).f0 == o.getD i 0))) = true) := by
    unfold goodC
    rw [Bool.and_eq_true, decide_eq_true_eq, bne_iff_ne, ne_eq, ne_eq]
    constructor
    ·rintro h ⟨h1, h2⟩; exact h2 (h ha h1)
    ·intro h _ h1
     exact Decidable.byContradiction (fun h2 => h ⟨h1, h2⟩)
   refine ⟨fun ⟨_, h⟩ => ?_, fun h => ?_⟩
   ·rw [if_neg (hC.1 h)]
    refine ⟨_, rfl, ?_, ?_, ?_, ?_⟩
    ·exact List.nodup_append.2 ⟨hw.nd, by simp, fun x hx y hy e => hnm (by rw [List.mem_singleton.1 hy] at e; exact e ▸ hx)⟩
    ·intro x hx
     rcases List.mem_append.1 hx with hx | hx
     ·exact hw.nn x hx
     ·rw [List.mem_singleton.1 hx]; omega
    ·intro k
     rw [List.mem_append, List.mem_singleton, hw.mem k]
     by_cases hk : k = c
     ·subst hk
      rw [if_neg (Nat.lt_irrefl k), if_pos (by omega)]
      constructor
      ·intro _; exact ⟨hc, by omega, by omega⟩
      ·intro _; exact .inr rfl
     ·have e1 : (k < c + 1) = (k < c) := by apply propext; omega
      simp only [e1]
      constructor
      ·rintro (h | h)
       ·exact h
       ·exact absurd (by omega) hk
      ·exact .inl
    ·refine List.pairwise_append.2 ⟨hw.srt, List.pairwise_singleton _ _, fun x hx y hy => ?_⟩
     rw [List.mem_singleton.1 hy, Int.toNat_natCast, ha]
     have hx0 := hw.nn x hx
     have h2 := (hw.mem x.toNat).1 (by rwa [Int.toNat_of_nonneg hx0])
     by_cases hxc : x.toNat < c
     ·rw [if_pos hxc] at h2; exact h2.2.1
     ·rw [if_neg hxc] at h2; omega
   ·rw [if_pos (Decidable.byContradiction fun h2 => h ⟨hB, hC.2 h2⟩)]
  ·-- it ends
   have hb : bOf cr o c = i := hab2.resolve_left ha
   have hm : (c : Int) ∈ ws := hmc.2 ⟨hc, by omega, by omega⟩
   obtain ⟨t, ht, hget⟩ := idxI_at ws _ hm
   rw [ht, if_neg (by omega), Int.toNat_natCast]
   have htl : t < ws.length := (List.getElem?_eq_some_iff.1 hget).1
   have hgt : ws[t] = (c : Int) := (List.getElem?_eq_some_iff.1 hget).2
   have hC : goodC cr pat o i c := fun h => absurd h ha
   have hsplit : ws = ws.take t ++ (c : Int) :: ws.drop (t + 1) := by
    rw [← hgt, ← List.drop_eq_getElem_cons htl, List.take_append_drop]
   have hsrt := hw.srt
   rw [hsplit] at hsrt
   have hs2 := (List.pairwise_cons.1 (List.pairwise_append.1 hsrt).2.1).1
   have hs3 := (List.pairwise_append.1 hsrt).2.2
   have hnd := hw.nd
   rw [hsplit] at hnd
   have hnc : (c : Int) ∉ ws.drop (t + 1) := (List.nodup_cons.1 (List.nodup_append.1 hnd).2.1).1
   have hnt : (c : Int) ∉ ws.take t := fun h => (List.nodup_append.1 hnd).2.2 _ h _ List.mem_cons_self rfl
   have hX : goodB cr o i c ↔ ¬ ((ws.drop (t + 1)).any (crossed cr (c : Int)) = true) := by
    rw [List.any_eq_true]
    constructor
    ·rintro h ⟨x, hx, hxc⟩
     have hxw : x ∈ ws := List.mem_of_mem_drop hx
     have hx0 := hw.nn x hxw
     obtain ⟨j, rfl⟩ : ∃ j : Nat, x = (j : Int) := ⟨x.toNat, by omega⟩
     have hjc : j ≠ c := fun e => hnc (by rw [← e]; exact hx)
     obtain ⟨hjl, hj⟩ := (hw.mem j).1 hxw
     obtain ⟨d1, d2, d3, d4⟩ := apart_ab hg hp hc hjl (Ne.symm hjc) hxc
     have h5 := hs2 _ hx
     rw [Int.toNat_natCast, Int.toNat_natCast] at h5
     have h6 : aOf cr o j < i ∧ i < bOf cr o j := by split at hj <;> omega
     exact h hb j hjl hjc hxc (by omega) h6.1 h6.2
    ·intro h _ j hjl hjc hxc h1 h2 h3
     apply h
     have hjw : (j : Int) ∈ ws := (hw.mem j).2 ⟨hjl, by split <;> omega⟩
     rw [hsplit] at hjw
     rcases List.mem_append.1 hjw with hj | hj
     ·have := hs3 _ hj _ List.mem_cons_self
      rw [Int.toNat_natCast, Int.toNat_natCast] at this
      omega
     ·rcases List.mem_cons.1 hj with hj | hj
      ·exact absurd (by omega) hjc
      ·exact ⟨_, hj, hxc⟩
   refine ⟨fun ⟨h, _⟩ => ?_, fun h => ?_⟩
   ·rw [if_neg (hX.1 h)]
    have her : ws.eraseIdx t = ws.take t ++ ws.drop (t + 1) := List.eraseIdx_eq_take_drop_succ _ _
    rw [her]
    have hsub : (ws.take t ++ ws.drop (t + 1)).Sublist ws := by rw [← her]; exact List.eraseIdx_sublist _ _
    refine ⟨_, rfl, hw.nd.sublist hsub, fun x hx => hw.nn x (hsub.subset hx), fun k => ?_, hw.srt.sublist hsub⟩
    by_cases hk : k = c
    ·subst hk
     rw [if_pos (by omega)]
     constructor
     ·intro h
      rcases List.mem_append.1 h with h | h
      ·exact absurd h hnt
      ·exact absurd h hnc
     ·intro h; omega
    ·have e1 : (k < c + 1) = (k < c) := by apply propext; omega
     simp only [e1]
     rw [← hw.mem k]
     conv => rhs; rw [hsplit]
     rw [List.mem_append, List.mem_append, List.mem_cons]
     constructor
     ·rintro (h | h)
      ·exact .inl h
      ·exact .inr (.inr h)
     ·rintro (h | h | h)
      ·exact .inl h
      ·exact absurd (by omega) hk
      ·exact .inr h
   ·rw [if_pos (Decidable.byContradiction fun h2 => h ⟨hX.2 h2, hC⟩)]
 ·rw [if_neg he]
  have hne : ¬ (aOf cr o c = i ∨ bOf cr o c = i) := fun h => he ((ends_iff hg hp hc hi).2 h)
  refine ⟨fun _ => ⟨ws, rfl, hw.nd, hw.nn, fun k => ?_, hw.srt⟩, fun h => absurd ⟨fun hb => absurd (.inr hb) hne, fun ha => absurd (.inl ha) hne⟩ h⟩
  rw [hw.mem k]
  by_cases hk : k = c
  ·subst hk
   rw [if_neg (Nat.lt_irrefl k), if_pos (by omega)]
   constructor <;> (rintro ⟨h1, h2, h3⟩; refine ⟨h1, ?_⟩; omega)
  ·have e1 : (k < c + 1) = (k < c) := by apply propext; omega
   simp only [e1]
end
end Go.Proofs.Ytiknnpfdpecfdaa.Own
namespace Go.Proofs.Ytiknnpfdpecfdaa.Own
open Go Go.RowKit Go.Proofs Go.Proofs.YtiknnpfdpecfdaaW.PrintWords Go.Proofs.YtiknnpfdpecfdaaW.PrintLast Go.Proofs.YtiknnpfdpecfdaaW.PrintMore
set_option linter.unusedVariables false
set_option linter.unusedSimpArgs false
section
variable {n : Nat} {low high : List Int} {cr : List S96} {pat : ByteArray} {o : List Int}
theorem wt_b (hg : Geo n cr) (hp : IsP n o) {i : Nat} (hi : i < n) : ∀ (d c : Nat) (ws : List Int), c + d = cr.length → Wt cr o i c ws →
  ((∀ k, c ≤ k → k < cr.length → goodB cr o i k ∧ goodC cr pat o i k) → ∃ us, putB cr pat (o.getD i 0) d c ws = some us ∧ Wt cr o i cr.length us) ∧ ((¬ ∀ k, c ≤ k → k < cr.length → goodB cr o i k ∧ goodC cr pat o i k) → putB cr pat (o.getD i 0) d c ws = none)
 | 0, c, ws, hd, hw => by
  obtain rfl : c = cr.length := by omega
  exact ⟨fun _ => ⟨ws, rfl, hw⟩, fun h => absurd (fun k h1 h2 => by omega) h⟩
 | d + 1, c, ws, hd, hw => by
  have hc : c < cr.length := by omega
  obtain ⟨h1, h2⟩ := wt_step (pat := pat) hg hp hi hc hw
  rw [putB]
  by_cases hgc : goodB cr o i c ∧ goodC cr pat o i c
  ·obtain ⟨us, hu, hwu⟩ := h1 hgc
   obtain ⟨h3, h4⟩ := wt_b hg hp hi d (c + 1) us (by omega) hwu
   rw [hu, Option.bind_some]
   refine ⟨fun h => h3 (fun k hk => h k (by omega)), fun h => h4 (fun h5 => h (fun k hk hkl => ?_))⟩
   by_cases e : k = c
   ·exact e ▸ hgc
   ·exact h5 k (by omega) hkl
  ·rw [h2 hgc]
   exact ⟨fun h => absurd (h c (Nat.le_refl _) hc) hgc, fun _ => rfl⟩
theorem wt_next {i : Nat} {ws : List Int} (hw : Wt cr o i cr.length ws) : Wt cr o (i + 1) 0 ws :=
 ⟨hw.nd, hw.nn, fun k => by
  rw [hw.mem k, if_neg (Nat.not_lt_zero k)]
  constructor
  ·rintro ⟨h1, h2⟩; rw [if_pos h1] at h2; exact ⟨h1, by omega, by omega⟩
  ·rintro ⟨h1, h2, h3⟩; rw [if_pos h1]; exact ⟨h1, by omega, by omega⟩, hw.srt⟩
theorem wt_blocked (hg : Geo n cr) (hp : IsP n o) {i : Nat} (hi : i < n) {ws : List Int} (hw : Wt cr o i 0 ws) : ws.any (blocked low high cr (o.getD i 0)) = true ↔ ¬ goodA low high cr o i := by
 rw [List.any_eq_true]
 have hin : ∀ k : Nat, blocked low high cr (o.getD i 0) (k : Int) = true ↔ ¬ endsB (rd_T96 cr (k : Int)) (o.getD i 0) = true ∧ (rd low (o.getD i 0) < (rd_T96 cr k).f2 ∧ (rd_T96 cr k).f2 < rd high (o.getD i 0)) := by
  intro k
  unfold blocked
  simp only [Bool.and_eq_true, Bool.not_eq_true', decide_eq_true_eq, Bool.not_eq_true]
 constructor
 ·rintro ⟨x, hx, hb⟩ hA
  have hx0 := hw.nn x hx
  obtain ⟨k, rfl⟩ : ∃ k : Nat, x = (k : Int) := ⟨x.toNat, by omega⟩
  obtain ⟨hk, h2⟩ := (hw.mem k).1 hx
  rw [if_neg (Nat.not_lt_zero k)] at h2
  obtain ⟨h3, h4⟩ := (hin k).1 hb
  have hne : ¬ (aOf cr o k = i ∨ bOf cr o k = i) := fun h => h3 ((ends_iff hg hp hk hi).2 h)
  exact hA k hk (by omega) (by omega) h4
 ·intro hA
  unfold goodA at hA
  apply Decidable.byContradiction
  intro hno
  apply hA
  intro k hk h1 h2 h3
  apply hno
  refine ⟨(k : Int), (hw.mem k).2 ⟨hk, by rw [if_neg (Nat.not_lt_zero k)]; omega⟩, (hin k).2 ⟨fun he => ?_, h3⟩⟩
  have := (ends_iff hg hp hk hi).1 he
  omega
theorem wt_f (hg : Geo n cr) (hp : IsP n o) {i : Nat} (hi : i < n) {ws : List Int} (hw : Wt cr o i 0 ws) :
  (good low high cr pat o i → ∃ us, putF low high cr pat (o.getD i 0) ws = some us ∧ Wt cr o (i + 1) 0 us) ∧ (¬ good low high cr pat o i → putF low high cr pat (o.getD i 0) ws = none) := by
 have hb := wt_blocked (low := low) (high := high) hg hp hi hw
 obtain ⟨h1, h2⟩ := wt_b (pat := pat) hg hp hi cr.length 0 ws (by omega) hw
 unfold putF
 refine ⟨fun h => ?_, fun h => ?_⟩
 ·rw [if_neg (fun e => hb.1 e h.1)]
  obtain ⟨us, hu, hwu⟩ := h1 (fun k _ hk => h.2 k hk)
  exact ⟨us, hu, wt_next hwu⟩
 ·by_cases hA : goodA low high cr o i
  ·rw [if_neg (fun e => hb.1 e hA)]
   exact h2 (fun h3 => h ⟨hA, fun k hk => h3 k (Nat.zero_le _) hk⟩)
  ·rw [if_pos (hb.2 hA)]
theorem folds_good (hg : Geo n cr) (hp : IsP n o) : ∀ (d i : Nat) (ws : List Int), i + d = n → Wt cr o i 0 ws → (foldsL low high cr pat (o.drop i) ws = true ↔ ∀ j, i ≤ j → j < n → good low high cr pat o j)
 | 0, i, ws, hd, hw => by
  rw [List.drop_eq_nil_of_le (by rw [hp.len]; omega)]
  exact ⟨fun _ j h1 h2 => by omega, fun _ => rfl⟩
 | d + 1, i, ws, hd, hw => by
  have hi : i < n := by omega
  have hil : i < o.length := by rw [hp.len]; exact hi
  have hgi : o[i] = o.getD i 0 := by rw [List.getD_eq_getElem?_getD, List.getElem?_eq_getElem hil, Option.getD_some]
  obtain ⟨h1, h2⟩ := wt_f (low := low) (high := high) (pat := pat) hg hp hi hw
  rw [foldsL_drop hil, hgi]
  by_cases hgd : good low high cr pat o i
  ·obtain ⟨us, hu, hwu⟩ := h1 hgd
   rw [hu]
   show foldsL low high cr pat (o.drop (i + 1)) us = true ↔ _
   rw [folds_good hg hp d (i + 1) us (by omega) hwu]
   constructor
   ·intro h j h1 h2
    by_cases e : j = i
    ·exact e ▸ hgd
    ·exact h j (by omega) h2
   ·intro h j h1 h2; exact h j (by omega) h2
  ·rw [h2 hgd]
   exact ⟨fun h => absurd h (by simp), fun h => absurd (h i (Nat.le_refl _) hi) hgd⟩
theorem wt_nil : Wt cr o 0 0 [] := ⟨List.nodup_nil, fun _ h => (nomatch h), fun k => by simp, List.Pairwise.nil⟩
theorem folds_all (hg : Geo n cr) (hp : IsP n o) : foldsL low high cr pat o [] = true ↔ ∀ j, j < n → good low high cr pat o j := by
 have h := folds_good (low := low) (high := high) (pat := pat) hg hp n 0 [] (by omega) wt_nil
 rw [List.drop_zero] at h
 rw [h]
 exact ⟨fun h j hj => h j (Nat.zero_le _) hj, fun h j _ hj => h j hj⟩
end
/-- All orders that go on from one by d more segments of n, in lexicographical order. -/
def exts (n : Nat) : Nat → List Int → List (List Int)
  | 0, order => [order]
  | d + 1, order => (List.range n).flatMap fun (s : Nat) => if (s : Int) ∈ order then [] else exts n d (order ++ [(s : Int)])
theorem exts_pre (n : Nat) : ∀ (d : Nat) (order o : List Int), o ∈ exts n d order → ∃ r, o = order ++ r ∧ r.length = d
 | 0, order, o, h => by
  rw [exts, List.mem_singleton] at h
  exact ⟨[], by simp [h], rfl⟩
 | d + 1, order, o, h => by
  rw [exts, List.mem_flatMap] at h
  obtain ⟨s, _, h⟩ := h
  split at h
  ·exact absurd h (by simp)
  ·obtain ⟨r, h1, h2⟩ := exts_pre n d _ o h
   exact ⟨(s : Int) :: r, by simp [h1], by simp [h2]⟩
theorem exts_mem (n : Nat) : ∀ (d : Nat) (order o : List Int), order.Nodup → (∀ s ∈ order, 0 ≤ s ∧ s < n) → o ∈ exts n d order → o.Nodup ∧ (∀ s ∈ o, 0 ≤ s ∧ s < n) ∧ o.length = order.length + d
 | 0, order, o, hn, hr, h => by
  rw [exts, List.mem_singleton] at h
  subst h
  exact ⟨hn, hr, rfl⟩
 | d + 1, order, o, hn, hr, h => by
  rw [exts, List.mem_flatMap] at h
  obtain ⟨s, hs, h⟩ := h
  split at h
  ·exact absurd h (by simp)
  ·rename_i hns
   have hs2 := List.mem_range.1 hs
   obtain ⟨h1, h2, h3⟩ := exts_mem n d (order ++ [(s : Int)]) o (List.nodup_append.2 ⟨hn, by simp, fun a ha b hb e => hns (by rw [List.mem_singleton.1 hb] at e; exact e ▸ ha)⟩) (fun x hx => by
    rcases List.mem_append.1 hx with hx | hx
    ·exact hr x hx
    ·rw [List.mem_singleton.1 hx]; omega) h
   exact ⟨h1, h2, by rw [h3]; simp; omega⟩
theorem growF_eq (low high : List Int) (cr : List S96) (pat : ByteArray) : ∀ (d : Nat) (order ws : List Int), growF low high cr pat d order ws = (exts low.length d order).filter fun o => foldsL low high cr pat (o.drop order.length) ws
  | 0, order, ws => by
    rw [growF, exts, List.filter_cons, List.drop_length]
    simp [foldsL]
  | d + 1, order, ws => by
    rw [growF, exts, List.filter_flatMap]
    congr 1
    funext s
    by_cases hs : (s : Int) ∈ order
    · rw [if_pos hs, if_pos hs]; rfl
    · rw [if_neg hs, if_neg hs]
      have hcut : ∀ o ∈ exts low.length d (order ++ [(s : Int)]), o.drop order.length = (s : Int) :: o.drop (order ++ [(s : Int)]).length := by
        intro o ho
        obtain ⟨r, h1, _⟩ := exts_pre _ _ _ _ ho
        subst h1
        rw [List.drop_left, List.append_assoc, List.drop_left]
        rfl
      have hstep : ∀ o ∈ exts low.length d (order ++ [(s : Int)]), foldsL low high cr pat (o.drop order.length) ws = (match putF low high cr pat (s : Int) ws with
          | none => false
          | some vs => foldsL low high cr pat (o.drop (order ++ [(s : Int)]).length) vs) := by
        intro o ho
        rw [hcut o ho, foldsL]
        cases putF low high cr pat (s : Int) ws <;> rfl
      rw [List.filter_congr hstep]
      cases hp : putF low high cr pat (s : Int) ws with
      | none => simp
      | some vs => exact growF_eq low high cr pat d _ vs
end Go.Proofs.Ytiknnpfdpecfdaa.Own
namespace Go.Proofs.Ytiknnpfdpecfdaa.Own
open Go Go.RowKit Go.Proofs Go.Proofs.YtiknnpfdpecfdaaW.PrintWords Go.Proofs.YtiknnpfdpecfdaaW.PrintLast Go.Proofs.YtiknnpfdpecfdaaW.PrintMore
set_option linter.unusedVariables false
set_option linter.unusedSimpArgs false
/-- Sizes that are valid. -/
structure OkL (l : List Int) : Prop where
  len : l.length ≤ 12
  rng : ∀ x ∈ l, 1 ≤ x ∧ x ≤ 1000
/-- Where segment k begins. -/
def PP (l : List Int) : Nat → Int
  | 0 => 0
  | k + 1 => if k % 2 = 1 then PP l k - l.getD k 0 else PP l k + l.getD k 0
variable {l : List Int}
theorem OkL.at (h : OkL l) {k : Nat} (hk : k < l.length) : 1 ≤ l.getD k 0 ∧ l.getD k 0 ≤ 1000 := by
  rw [List.getD_eq_getElem?_getD, List.getElem?_eq_getElem hk, Option.getD_some]
  exact h.rng _ (List.getElem_mem hk)
theorem PP_bound (h : OkL l) : ∀ k, k ≤ l.length → -(1000 * k : Int) ≤ PP l k ∧ PP l k ≤ 1000 * k
 | 0, _ => by simp [PP]
 | k + 1, hk => by
  have ih := PP_bound h k (by omega)
  have ha := h.at (show k < l.length by omega)
  rw [PP]
  split <;> omega
theorem PP_small (h : OkL l) {k : Nat} (hk : k ≤ l.length) : -12000 ≤ PP l k ∧ PP l k ≤ 12000 := by
 have := PP_bound h k hk
 have := h.len
 omega
/-- A segment's two ends differ; which one is greater. -/
theorem PP_up (h : OkL l) {k : Nat} (hk : k < l.length) : (k % 2 = 0 → PP l k < PP l (k + 1)) ∧ (k % 2 = 1 → PP l (k + 1) < PP l k) := by
 have ha := h.at hk
 rw [PP]
 refine ⟨fun e => ?_, fun e => ?_⟩
 ·rw [if_neg (by omega)]; omega
 ·rw [if_pos e]; omega
theorem nextAt_eq (h : OkL l) {k : Nat} (hk : k < l.length) : nextAt k (PP l k) (rd l (k : Int)) = PP l (k + 1) := by
 have ha := h.at hk
 have hb := PP_small h (show k ≤ l.length by omega)
 have hr : rd l (k : Int) = l.getD k 0 := by simp [rd]
 have ht : Int.tmod (k : Int) 2 = ((k % 2 : Nat) : Int) := by
  rw [Int.tmod_eq_emod_of_nonneg (by omega)]; omega
 unfold nextAt
 rw [hr, ht, PP]
 by_cases e : k % 2 = 1
 ·rw [if_pos (by omega), if_pos e]; unfold wrap64; omega
 ·rw [if_neg (by omega), if_neg e]; unfold wrap64; omega
/-- Crease j of a strip: of segments j and j + 1. -/
def creaseAt (l : List Int) (j : Nat) : S96 := ⟨(j : Int), ((j + 1 : Nat) : Int), PP l (j + 1), (j + 1) % 2 == 1⟩
theorem layR_eq (h : OkL l) : ∀ k, k ≤ l.length → layR l k = ⟨PP l k, (List.range k).map (fun i => min (PP l i) (PP l (i + 1))), (List.range k).map (fun i => max (PP l i) (PP l (i + 1))), (List.range (k - 1)).map (creaseAt l)⟩
 | 0, _ => rfl
 | k + 1, hk => by
  have ht : Int.tmod (k : Int) 2 = ((k % 2 : Nat) : Int) := by
   rw [Int.tmod_eq_emod_of_nonneg (by omega)]; omega
  rw [layR, layR_eq h k (by omega), layStep, nextAt_eq h (by omega)]
  congr 1
  ·rw [List.range_succ, List.map_append]; rfl
  ·rw [List.range_succ, List.map_append]; rfl
  ·cases k with
   | zero => rfl
   | succ k =>
    rw [if_pos (by omega)]
    show (List.range k).map (creaseAt l) ++ [_] = (List.range (k + 1)).map (creaseAt l)
    rw [List.range_succ, show (List.range k ++ [k]).map (creaseAt l) = (List.range k).map (creaseAt l) ++ [creaseAt l k] from by simp]
    refine congrArg (fun z => (List.range k).map (creaseAt l) ++ z) ?_
    show [(⟨wrap64 (((k + 1 : Nat) : Int) - 1), ((k + 1 : Nat) : Int), PP l (k + 1), Int.tmod ((k + 1 : Nat) : Int) 2 == 1⟩ : S96)] = [creaseAt l k]
    have e1 : wrap64 (((k + 1 : Nat) : Int) - 1) = (k : Int) := by unfold wrap64; have := h.len; omega
    have e2 : (Int.tmod ((k + 1 : Nat) : Int) 2 == 1) = ((k + 1) % 2 == 1) := by
     rw [ht]
     apply Bool.eq_iff_iff.2
     rw [beq_iff_eq, beq_iff_eq]
     omega
    rw [e1, e2]
    rfl
section
theorem lay_low (h : OkL l) {i : Nat} (hi : i < l.length) : rd (layR l l.length).low (i : Int) = min (PP l i) (PP l (i + 1)) := by
  rw [layR_eq h _ (Nat.le_refl _)]
  simp [rd, hi]
theorem lay_high (h : OkL l) {i : Nat} (hi : i < l.length) : rd (layR l l.length).high (i : Int) = max (PP l i) (PP l (i + 1)) := by
  rw [layR_eq h _ (Nat.le_refl _)]
  simp [rd, hi]
theorem lay_cr (h : OkL l) {j : Nat} (hj : j + 1 < l.length) : rd_T96 (layR l l.length).cr (j : Int) = creaseAt l j := by
  rw [layR_eq h _ (Nat.le_refl _)]
  simp [rd_T96, show j < l.length - 1 by omega]
theorem lay_geo (h : OkL l) : Geo l.length (layR l l.length).cr := by
 have hl := layR_cr l l.length
 refine ⟨fun k hk => ?_, fun k hk => ?_, fun k hk => ?_, fun k j hk hj hkj hc => ?_⟩
 ·rw [lay_cr h (by omega)]; show ((k : Nat) : Int) ≠ ((k + 1 : Nat) : Int); omega
 ·rw [lay_cr h (by omega)]; show 0 ≤ ((k : Nat) : Int) ∧ ((k : Nat) : Int) < _; omega
 ·rw [lay_cr h (by omega)]; show 0 ≤ ((k + 1 : Nat) : Int) ∧ ((k + 1 : Nat) : Int) < _; omega
 ·unfold crossed at hc
  rw [lay_cr h (by omega), lay_cr h (by omega)] at hc
  rw [lay_cr h (by omega), lay_cr h (by omega)]
  have h2 := (Bool.and_eq_true _ _ ▸ hc).2
  have h3 : ((j + 1) % 2 == 1) = ((k + 1) % 2 == 1) := by simpa [creaseAt] using h2
  have h4 : (j + 1) % 2 = 1 ↔ (k + 1) % 2 = 1 := by rw [← beq_iff_eq, h3, beq_iff_eq]
  show ((k : Nat) : Int) ≠ ((j : Nat) : Int) ∧ ((k : Nat) : Int) ≠ ((j + 1 : Nat) : Int) ∧ ((k + 1 : Nat) : Int) ≠ ((j : Nat) : Int) ∧ ((k + 1 : Nat) : Int) ≠ ((j + 1 : Nat) : Int)
  omega
end
end Go.Proofs.Ytiknnpfdpecfdaa.Own
namespace Go.Proofs.Ytiknnpfdpecfdaa.Own
open Go Go.RowKit Go.Proofs Go.Proofs.Ytiknnpfdpecfdaa.Gx Go.Proofs.YtiknnpfdpecfdaaW.PrintWords Go.Proofs.YtiknnpfdpecfdaaW.PrintLast Go.Proofs.YtiknnpfdpecfdaaW.PrintMore
set_option linter.unusedVariables false
set_option linter.unusedSimpArgs false
theorem wup (i : Nat) (h : i < 2 ^ 60) : wrap64 ((i : Int) + 1) = ((i + 1 : Nat) : Int) := by unfold wrap64; omega
theorem rd_nat (l : List Int) {i : Nat} (hi : i < l.length) : rd l (i : Int) = l[i] := by simp [rd, hi]
theorem in_f (a b c : Int) : gampref01_in.f a b c = some (decide (b ≤ a ∧ a ≤ c)) := by
 unfold gampref01_in.f
 by_cases h : b ≤ a
 ·rw [if_pos (show a ≥ b from h)]; simp [h]
 ·rw [if_neg (show ¬ a ≥ b from h)]; simp [h]
def okN (x : Int) : Bool := decide (1 ≤ x ∧ x ≤ 1000)
def sizesB (l : List Int) (a b : Int) : Bool := l.all okN && decide (a ≤ (l.length : Int) ∧ (l.length : Int) ≤ b)
theorem sizes_f (l : List Int) (a b : Int) : fold_sizes.f l a b = some (sizesB l a b) := by
 unfold fold_sizes.f sizesB
 congr 1
 have h1 : (!(l.any outS)) = l.all okN := by
  rw [List.not_any_eq_all_not]
  apply Bool.eq_iff_iff.2
  rw [List.all_eq_true, List.all_eq_true]
  have h2 : ∀ x : Int, (!outS x) = true ↔ okN x = true := by
   intro x
   unfold outS okN
   simp only [Bool.not_eq_true', Bool.or_eq_false_iff, decide_eq_false_iff_not, decide_eq_true_eq]
   omega
  exact ⟨fun h x hx => (h2 x).1 (h x hx), fun h x hx => (h2 x).2 (h x hx)⟩
 rw [h1]
 apply Bool.eq_iff_iff.2
 simp only [Bool.and_eq_true, decide_eq_true_eq]
 constructor
 ·rintro ⟨⟨h1, h2⟩, h3⟩; exact ⟨h3, h1, h2⟩
 ·rintro ⟨h3, h1, h2⟩; exact ⟨⟨h1, h2⟩, h3⟩
theorem sizesB_ok {l : List Int} {a b : Int} (h : sizesB l a b = true) (hb : b ≤ 12) : OkL l ∧ a ≤ l.length ∧ (l.length : Int) ≤ b := by
 unfold sizesB at h
 simp only [Bool.and_eq_true, decide_eq_true_eq, List.all_eq_true] at h
 refine ⟨⟨by omega, fun x hx => ?_⟩, h.2⟩
 have := h.1 x hx
 unfold okN at this
 exact of_decide_eq_true this
theorem same_l0 (a b : List Int) (hl : a.length < 2 ^ 40) (hab : a.length = b.length) : ∀ (d i : Nat), i + d = a.length → Ev (fun k => gampref01_Same.l0 k a b (i : Int)) (decide (a.drop i = b.drop i)) := by
 intro d
 induction d with
 | zero =>
  intro i hi
  rw [List.drop_eq_nil_of_le (by omega), List.drop_eq_nil_of_le (by omega)]
  refine Ev.step (f := fun _ => some true) (fun k => ?_) (Ev.now _)
  simp only [gampref01_Same.l0]
  rw [if_neg (by omega)]
 | succ d ih =>
  intro i hi
  have hia : i < a.length := by omega
  have hib : i < b.length := by omega
  have e : ∀ k, gampref01_Same.l0 (k + 1) a b (i : Int) = if a[i] = b[i] then gampref01_Same.l0 k a b ((i + 1 : Nat) : Int) else some false := by
   intro k
   simp only [gampref01_Same.l0]
   rw [if_pos (by omega), if_pos (by omega), if_pos (by omega), rd_nat a hia, rd_nat b hib, wup i (by omega)]
  rw [List.drop_eq_getElem_cons hia, List.drop_eq_getElem_cons hib]
  by_cases h : a[i] = b[i]
  ·rw [show decide (a[i] :: a.drop (i + 1) = b[i] :: b.drop (i + 1)) = decide (a.drop (i + 1) = b.drop (i + 1)) from decide_eq_decide.2 ⟨fun e => (List.cons.inj e).2, fun e => by rw [h, e]⟩]
   exact Ev.step (fun k => by rw [e, if_pos h]) (ih (i + 1) (by omega))
  ·rw [decide_eq_false (fun e => h (List.cons.inj e).1)]
   exact Ev.step (f := fun _ => some false) (fun k => by rw [e, if_neg h]) (Ev.now _)
theorem same_ev (a b : List Int) (hl : a.length < 2 ^ 40) : Ev (fun k => gampref01_Same.f k a b) (decide (a = b)) := by
 unfold gampref01_Same.f
 by_cases h : (a.length : Int) = (b.length : Int)
 ·have := same_l0 a b hl (by omega) a.length 0 (by omega)
  rw [List.drop_zero, List.drop_zero] at this
  exact Ev.congr (fun k => by rw [if_pos h]; rfl) this
 ·rw [decide_eq_false (fun e => h (by rw [e]))]
  exact Ev.congr (f := fun _ => some false) (fun k => by rw [if_neg h]) (Ev.now _)
theorem between_f (x a b : Int) : gampref01_between.f x a b = some (decide (min a b < x ∧ x < max a b)) := by
 have e1 : mn a b = min a b := by unfold mn; split <;> omega
 have e2 : mx a b = max a b := by unfold mx; split <;> omega
 unfold gampref01_between.f
 rw [e1, e2]
 by_cases h : min a b < x
 ·rw [if_pos (show x > min a b from h)]; simp [h]
 ·rw [if_neg (show ¬ x > min a b from h)]; simp [h]
theorem places_l0 {l : List Int} (h : OkL l) : ∀ (d i : Nat), i + d = l.length → Ev (fun k => gampref01_places.l0 k l ((List.range (i + 1)).map (PP l)) (i : Int)) ((List.range (l.length + 1)).map (PP l)) := by
 intro d
 induction d with
 | zero =>
  intro i hi
  obtain rfl : i = l.length := by omega
  refine Ev.step (f := fun _ => some _) (fun k => ?_) (Ev.now _)
  simp only [gampref01_places.l0]
  rw [if_neg (by omega)]
 | succ d ih =>
  intro i hi
  have hil : i < l.length := by omega
  have hlen := h.len
  have hn := nextAt_eq h hil
  have ha := h.at hil
  have hr : rd l (i : Int) = l.getD i 0 := by simp [rd]
  have hrp : rd ((List.range (i + 1)).map (PP l)) (i : Int) = PP l i := by simp [rd]
  have hsm := PP_small h (show i ≤ l.length by omega)
  refine Ev.step (fun k => ?_) (ih (i + 1) (by omega))
  simp only [gampref01_places.l0]
  rw [if_pos (by omega), if_pos (by omega), hrp, wup i (by omega), hr]
  have h1 : (i : Int) < (((List.range (i + 1)).map (PP l)).length : Int) := by simp; omega
  have h2 : ((List.range (i + 1)).map (PP l)).length < 17592186044416 := by simp; omega
  rw [if_pos h1, if_pos h2, if_pos h1, if_pos h2]
  have key : ∀ v, v = PP l (i + 1) → (List.range (i + 1)).map (PP l) ++ [v] = (List.range (i + 1 + 1)).map (PP l) := by
   rintro v rfl
   rw [List.range_succ (n := i + 1), List.map_append]
   rfl
  unfold nextAt at hn
  rw [hr] at hn
  by_cases e : Int.tmod (i : Int) 2 = 1
  ·rw [if_pos e] at hn
   rw [if_pos e, key]
   rw [← hn]
   unfold wrap64
   omega
  ·rw [if_neg e] at hn
   rw [if_neg e, key]
   exact hn
theorem places_ev {l : List Int} (h : OkL l) : Ev (fun k => gampref01_places.f k l) ((List.range (l.length + 1)).map (PP l)) := by
  have := places_l0 h l.length 0 (by omega)
  exact this
/-- Where each segment lies. -/
def layL (n : Nat) (o : List Int) : List Int := (List.range n).map fun (s : Nat) => (pos o (s : Int) : Int)
theorem layers_l0 {n : Nat} {o : List Int} (hp : IsP n o) (hn : n ≤ 12) : ∀ (d i : Nat), i + d = n → Ev (fun k => gampref01_layers.l0 k o ((List.range n).map fun (s : Nat) => if pos o (s : Int) < i then (pos o (s : Int) : Int) else 0) (i : Int)) (layL n o) := by
 intro d
 induction d with
 | zero =>
  intro i hi
  obtain rfl : i = n := by omega
  have e : ((List.range i).map fun (s : Nat) => if pos o (s : Int) < i then (pos o (s : Int) : Int) else 0) = layL i o := by
   apply List.map_congr_left
   intro s hs
   rw [if_pos (pos_lt hp (by omega) (by have := List.mem_range.1 hs; omega))]
  rw [e]
  refine Ev.step (f := fun _ => some _) (fun k => ?_) (Ev.now _)
  simp only [gampref01_layers.l0]
  rw [hp.len, if_neg (by omega)]
 | succ d ih =>
  intro i hi
  have hin : i < n := by omega
  have hio : i < o.length := by rw [hp.len]; exact hin
  have hmem := (hp.mem o[i]).1 (List.getElem_mem hio)
  obtain ⟨s, hs⟩ : ∃ s : Nat, o[i] = (s : Int) := ⟨o[i].toNat, by omega⟩
  have hsn : s < n := by omega
  have hps : pos o (s : Int) = i := by
   have := pos_get hp hin
   rw [List.getD_eq_getElem?_getD, List.getElem?_eq_getElem hio, Option.getD_some, hs] at this
   exact this
  refine Ev.step (fun k => ?_) (ih (i + 1) (by omega))
  simp only [gampref01_layers.l0]
  rw [hp.len, rd_nat o hio, hs, if_pos (by omega), if_pos (by omega), if_pos (by omega), if_pos (by simp; omega), wup i (by omega), Int.toNat_natCast]
  congr 1
  apply List.ext_getElem (by simp)
  intro t h1 h2
  simp only [List.length_map, List.length_range] at h2
  simp only [List.getElem_set, List.getElem_map, List.getElem_range]
  by_cases e : s = t
  ·subst e
   rw [if_pos rfl, if_pos (by omega), hps]
  ·rw [if_neg e]
   have hne : pos o (t : Int) ≠ i := fun e2 => e (by have := pos_inj hp (s := (s : Int)) (t := (t : Int)) (by omega) (by omega) (by omega) (by omega) (by omega); omega)
   by_cases h3 : pos o (t : Int) < i
   ·rw [if_pos h3, if_pos (by omega)]
   ·rw [if_neg h3, if_neg (by omega)]
theorem layers_ev {n : Nat} {o : List Int} (hp : IsP n o) (hn : n ≤ 12) : Ev (fun k => gampref01_layers.f k o) (layL n o) := by
 have h := layers_l0 hp hn n 0 (by omega)
 unfold gampref01_layers.f
 refine Ev.congr (fun k => ?_) h
 rw [if_pos (by omega), hp.len, if_pos (by omega)]
 congr 1
 apply List.ext_getElem (by simp)
 intro t h1 h2
 simp
end Go.Proofs.Ytiknnpfdpecfdaa.Own
namespace Go.Proofs.Ytiknnpfdpecfdaa.Own
open Go Go.RowKit Go.Proofs Go.Proofs.Ytiknnpfdpecfdaa.Gx Go.Proofs.YtiknnpfdpecfdaaW.PrintWords Go.Proofs.YtiknnpfdpecfdaaW.PrintLast Go.Proofs.YtiknnpfdpecfdaaW.PrintMore
set_option linter.unusedVariables false
set_option linter.unusedSimpArgs false
def pl (l : List Int) : List Int := (List.range (l.length + 1)).map (PP l)
theorem pl_at (l : List Int) {i : Nat} (hi : i ≤ l.length) : rd (pl l) (i : Int) = PP l i := by simp [rd, pl, show i < l.length + 1 by omega]
theorem pl_len (l : List Int) : (pl l).length = l.length + 1 := by simp [pl]
theorem joined_f (l : List Int) (s : Int) (t : Nat) (ht : t < l.length) (hl : l.length < 2 ^ 40) : gampref01_joined.f (pl l) s (t : Int) = some (PP l t, s, (t : Int), decide (PP l (t + 1) > PP l t)) := by
  unfold gampref01_joined.f
  rw [wup t (by omega), pl_len, if_pos (by omega), if_pos (by omega), if_pos (by omega), if_pos (by omega), pl_at l (by omega), pl_at l (by omega)]
/-- The reference's crease j of a strip. -/
def crAt (l : List Int) (j : Nat) : Gx.S88 := ⟨PP l (j + 1), (j : Int), ((j + 1 : Nat) : Int), decide (PP l (j + 2) > PP l (j + 1))⟩
def crL (l : List Int) : List Gx.S88 := (List.range (l.length - 1)).map (crAt l)
theorem creases_l0 (l : List Int) (pre : List Gx.S88) (hpre : pre.length ≤ 1) (hl : l.length ≤ 12) : ∀ (d i : Nat), i + 1 + d = l.length → Ev (fun k => gampref01_creases.l0 k l (pl l) (pre ++ (List.range i).map (crAt l)) ((i + 1 : Nat) : Int)) (pre ++ crL l) := by
 intro d
 induction d with
 | zero =>
  intro i hi
  refine Ev.step (f := fun _ => some _) (fun k => ?_) (Ev.now _)
  simp only [gampref01_creases.l0]
  rw [if_neg (by omega)]
  unfold crL
  rw [show l.length - 1 = i by omega]
 | succ d ih =>
  intro i hi
  have hw : wrap64 (((i + 1 : Nat) : Int) - 1) = (i : Int) := by unfold wrap64; omega
  refine Ev.step (fun k => ?_) (ih (i + 1) (by omega))
  simp only [gampref01_creases.l0]
  rw [if_pos (by omega), hw, joined_f l _ (i + 1) (by omega) (by omega), Option.bind_some]
  rw [if_pos (by rw [List.length_append, List.length_map, List.length_range]; omega), wup (i + 1) (by omega), List.append_assoc, List.range_succ, show (List.range i ++ [i]).map (crAt l) = (List.range i).map (crAt l) ++ [crAt l i] from by simp]
  rfl
theorem creases_strip {l : List Int} (h : OkL l) (hl : 1 ≤ l.length) : Ev (fun k => gampref01_creases.f k l false) (crL l) := by
 unfold gampref01_creases.f
 refine Ev.bind (places_ev h) ?_
 refine Ev.congr (f := fun k => gampref01_creases.j0 k l (pl l) []) (fun k => ?_) ?_
 ·rfl
 ·refine Ev.step (f := fun k => gampref01_creases.l0 k l (pl l) ([] ++ (List.range 0).map (crAt l)) ((0 + 1 : Nat) : Int)) (fun k => ?_) (creases_l0 l [] (by simp) h.len (l.length - 1) 0 (by omega))
  rfl
def btw (x a b : Int) : Prop := min a b < x ∧ x < max a b
instance (x a b : Int) : Decidable (btw x a b) := inferInstanceAs (Decidable (_ ∧ _))
theorem between_b (x a b : Int) : gampref01_between.f x a b = some (decide (btw x a b)) := between_f x a b
def rc (c : List Gx.S88) (k : Nat) : Gx.S88 := Gx.rd_T88 c (k : Int)
section
variable (l at_ : List Int) (c : List Gx.S88)
/-- No segment lies inside crease k. -/
def clearA (k i : Nat) : Prop := ¬ (btw (rc c k).f0 (PP l i) (PP l (i + 1)) ∧ btw (rd at_ (i : Int)) (rd at_ (rc c k).f1) (rd at_ (rc c k).f2))
/-- Crease j does not cross crease k. -/
def clearB (k j : Nat) : Prop := j ≠ k → (rc c j).f0 = (rc c k).f0 → (rc c j).f3 = (rc c k).f3 → (btw (rd at_ (rc c j).f1) (rd at_ (rc c k).f1) (rd at_ (rc c k).f2) ↔ btw (rd at_ (rc c j).f2) (rd at_ (rc c k).f1) (rd at_ (rc c k).f2))
instance (k i : Nat) : Decidable (clearA l at_ c k i) := inferInstanceAs (Decidable (¬ _))
instance (k j : Nat) : Decidable (clearB at_ c k j) := by unfold clearB; exact inferInstance
def foldsR (k0 : Nat) : Prop := ∀ k, k0 ≤ k → k < c.length → (∀ i, i < l.length → clearA l at_ c k i) ∧ (∀ j, j < c.length → clearB at_ c k j)
structure OkC : Prop where
  ll : l.length ≤ 12
  la : at_.length = l.length
  lc : c.length ≤ 12
  i1 : ∀ k, k < c.length → 0 ≤ (rc c k).f1 ∧ (rc c k).f1 < l.length
  i2 : ∀ k, k < c.length → 0 ≤ (rc c k).f2 ∧ (rc c k).f2 < l.length
end
section
open Classical
variable {l at_ : List Int} {c : List Gx.S88}
theorem folds_l2 (h : OkC l at_ c) {k : Nat} (hk : k < c.length) (r : Bool) (hr : Ev (fun n => gampref01_Folds.l0 n l (pl l) at_ c ((k + 1 : Nat) : Int)) r) : ∀ (d j : Nat), j + d = c.length →
    Ev (fun n => gampref01_Folds.l2 n l (pl l) at_ c (k : Int) (rd at_ (rc c k).f1) (rd at_ (rc c k).f2) (j : Int)) (decide (∀ x, j ≤ x → x < c.length → clearB at_ c k x) && r) := by
  have hlc := h.lc
  intro d
  induction d with
  | zero =>
    intro j hj
    rw [decide_eq_true (fun x h1 h2 => by omega), Bool.true_and]
    refine Ev.step (fun n => ?_) hr
    simp only [gampref01_Folds.l2]
    rw [if_neg (by omega), wup k (by omega)]
  | succ d ih =>
    intro j hj
    have hjc : j < c.length := by omega
    have hla := h.la
    obtain ⟨a1, a2⟩ := h.i1 j hjc
    obtain ⟨b1, b2⟩ := h.i2 j hjc
    have e : ∀ n, gampref01_Folds.l2 (n + 1) l (pl l) at_ c (k : Int) (rd at_ (rc c k).f1) (rd at_ (rc c k).f2) (j : Int) = if clearB at_ c k j then gampref01_Folds.l2 n l (pl l) at_ c (k : Int) (rd at_ (rc c k).f1) (rd at_ (rc c k).f2) ((j + 1 : Nat) : Int) else some false := by
      intro n
      simp only [gampref01_Folds.l2]
      rw [if_pos (by omega), wup j (by omega)]
      by_cases hjk : j = k
      · rw [if_pos (by omega), if_pos (show clearB at_ c k j from fun h => absurd hjk h)]
      · rw [if_neg (by omega), if_pos (by omega), if_pos (by omega), if_pos (by omega)]
        by_cases e0 : (rc c j).f0 = (rc c k).f0
        · rw [if_pos (show (Gx.rd_T88 c (j : Int)).f0 = (Gx.rd_T88 c (k : Int)).f0 from e0)]
          by_cases e3 : (rc c j).f3 = (rc c k).f3
          · have e3' : ((Gx.rd_T88 c (j : Int)).f3 == (Gx.rd_T88 c (k : Int)).f3) = true := beq_iff_eq.2 e3
            rw [if_pos e3', if_pos (show 0 ≤ (Gx.rd_T88 c (j : Int)).f1 from a1), if_pos (show (Gx.rd_T88 c (j : Int)).f1 < (at_.length : Int) by rw [hla]; exact a2), between_f, Option.bind_some, if_pos (show 0 ≤ (Gx.rd_T88 c (j : Int)).f2 from b1), if_pos (show (Gx.rd_T88 c (j : Int)).f2 < (at_.length : Int) by rw [hla]; exact b2), between_f, Option.bind_some]
            by_cases hc : clearB at_ c k j
            · rw [if_pos hc, if_neg]
              rw [bne_iff_ne, ne_eq, Decidable.not_not]
              exact decide_eq_decide.2 (hc hjk e0 e3)
            · rw [if_neg hc, if_pos]
              rw [bne_iff_ne, ne_eq]
              intro h2
              exact hc (fun _ _ _ => decide_eq_decide.1 h2)
          · have e3' : ¬ ((Gx.rd_T88 c (j : Int)).f3 == (Gx.rd_T88 c (k : Int)).f3) = true := fun h => e3 (beq_iff_eq.1 h)
            rw [if_neg e3', if_pos (show clearB at_ c k j from fun _ _ h => absurd h e3)]
        · rw [if_neg (show ¬ (Gx.rd_T88 c (j : Int)).f0 = (Gx.rd_T88 c (k : Int)).f0 from e0), if_pos (show clearB at_ c k j from fun _ h => absurd h e0)]
    by_cases hc : clearB at_ c k j
    · rw [show decide (∀ x, j ≤ x → x < c.length → clearB at_ c k x) = decide (∀ x, j + 1 ≤ x → x < c.length → clearB at_ c k x) from decide_eq_decide.2 ⟨fun hh x h1 h2 => hh x (by omega) h2, fun hh x h1 h2 => by
        by_cases e2 : x = j
        · exact e2 ▸ hc
        · exact hh x (by omega) h2⟩]
      exact Ev.step (fun n => by rw [e, if_pos hc]) (ih (j + 1) (by omega))
    · rw [decide_eq_false (fun hh => hc (hh j (Nat.le_refl _) hjc)), Bool.false_and]
      exact Ev.step (f := fun _ => some false) (fun n => by rw [e, if_neg hc]) (Ev.now _)
theorem folds_l1 (h : OkC l at_ c) {k : Nat} (hk : k < c.length) (r : Bool) (hr : Ev (fun n => gampref01_Folds.l2 n l (pl l) at_ c (k : Int) (rd at_ (rc c k).f1) (rd at_ (rc c k).f2) 0) r) : ∀ (d i : Nat), i + d = l.length →
    Ev (fun n => gampref01_Folds.l1 n l (pl l) at_ c (k : Int) (rd at_ (rc c k).f1) (rd at_ (rc c k).f2) (i : Int)) (decide (∀ x, i ≤ x → x < l.length → clearA l at_ c k x) && r) := by
  have hll := h.ll
  intro d
  induction d with
  | zero =>
    intro i hi
    rw [decide_eq_true (fun x h1 h2 => by omega), Bool.true_and]
    refine Ev.step (fun n => ?_) hr
    simp only [gampref01_Folds.l1]
    rw [if_neg (by omega)]
  | succ d ih =>
    intro i hi
    have hil : i < l.length := by omega
    have hla := h.la
    have e : ∀ n, gampref01_Folds.l1 (n + 1) l (pl l) at_ c (k : Int) (rd at_ (rc c k).f1) (rd at_ (rc c k).f2) (i : Int) = if clearA l at_ c k i then gampref01_Folds.l1 n l (pl l) at_ c (k : Int) (rd at_ (rc c k).f1) (rd at_ (rc c k).f2) ((i + 1 : Nat) : Int) else some false := by
      intro n
      simp only [gampref01_Folds.l1]
      rw [wup i (by omega), pl_len, if_pos (by omega), if_pos (by omega), if_pos (by omega), if_pos (by omega), if_pos (by omega), if_pos (by omega), if_pos (by omega), pl_at l (by omega), pl_at l (by omega), show Gx.rd_T88 c (k : Int) = rc c k from rfl, between_b, Option.bind_some]
      by_cases h1 : btw (rc c k).f0 (PP l i) (PP l (i + 1))
      · rw [if_pos (decide_eq_true h1), if_pos (by omega), between_b, Option.bind_some]
        by_cases h2 : btw (rd at_ (i : Int)) (rd at_ (rc c k).f1) (rd at_ (rc c k).f2)
        · rw [if_pos (decide_eq_true h2), if_neg (show ¬ clearA l at_ c k i from fun h => h ⟨h1, h2⟩)]
        · rw [if_neg (show ¬ decide (btw (rd at_ (i : Int)) (rd at_ (rc c k).f1) (rd at_ (rc c k).f2)) = true from fun h => h2 (of_decide_eq_true h)), if_pos (show clearA l at_ c k i from fun h => h2 h.2)]
      · rw [if_neg (show ¬ decide (btw (rc c k).f0 (PP l i) (PP l (i + 1))) = true from fun h => h1 (of_decide_eq_true h)), if_pos (show clearA l at_ c k i from fun h => h1 h.1)]
    by_cases hc : clearA l at_ c k i
    · rw [show decide (∀ x, i ≤ x → x < l.length → clearA l at_ c k x) = decide (∀ x, i + 1 ≤ x → x < l.length → clearA l at_ c k x) from decide_eq_decide.2 ⟨fun hh x h1 h2 => hh x (by omega) h2, fun hh x h1 h2 => by
        by_cases e2 : x = i
        · exact e2 ▸ hc
        · exact hh x (by omega) h2⟩]
      exact Ev.step (fun n => by rw [e, if_pos hc]) (ih (i + 1) (by omega))
    · rw [decide_eq_false (fun hh => hc (hh i (Nat.le_refl _) hil)), Bool.false_and]
      exact Ev.step (f := fun _ => some false) (fun n => by rw [e, if_neg hc]) (Ev.now _)
theorem folds_l0 (h : OkC l at_ c) : ∀ (d k : Nat), k + d = c.length → Ev (fun n => gampref01_Folds.l0 n l (pl l) at_ c (k : Int)) (decide (foldsR l at_ c k)) := by
 have hlc := h.lc
 intro d
 induction d with
 | zero =>
  intro k hk
  rw [decide_eq_true (show foldsR l at_ c k from fun x h1 h2 => by omega)]
  refine Ev.step (f := fun _ => some true) (fun n => ?_) (Ev.now _)
  simp only [gampref01_Folds.l0]
  rw [if_neg (by omega)]
 | succ d ih =>
  intro k hk
  have hkc : k < c.length := by omega
  have hla := h.la
  obtain ⟨a1, a2⟩ := h.i1 k hkc
  obtain ⟨b1, b2⟩ := h.i2 k hkc
  have h2 := folds_l2 h hkc _ (ih (k + 1) (by omega)) c.length 0 (by omega)
  have h1 := folds_l1 h hkc _ h2 l.length 0 (by omega)
  have hres : (decide (∀ x, 0 ≤ x → x < l.length → clearA l at_ c k x) && (decide (∀ x, 0 ≤ x → x < c.length → clearB at_ c k x) && decide (foldsR l at_ c (k + 1)))) = decide (foldsR l at_ c k) := by
   rw [← Bool.decide_and, ← Bool.decide_and]
   apply decide_eq_decide.2
   constructor
   ·rintro ⟨h1, h2, h3⟩ x hx hxc
    by_cases e : x = k
    ·subst e; exact ⟨fun i hi => h1 i (Nat.zero_le _) hi, fun j hj => h2 j (Nat.zero_le _) hj⟩
    ·exact h3 x (by omega) hxc
   ·intro h
    exact ⟨fun i _ hi => (h k (Nat.le_refl _) hkc).1 i hi, fun j _ hj => (h k (Nat.le_refl _) hkc).2 j hj, fun x hx hxc => h x (by omega) hxc⟩
  rw [hres] at h1
  refine Ev.step (fun n => ?_) h1
  simp only [gampref01_Folds.l0]
  rw [if_pos (by omega), if_pos (by omega), if_pos (show 0 ≤ (Gx.rd_T88 c (k : Int)).f1 from a1), if_pos (show (Gx.rd_T88 c (k : Int)).f1 < (at_.length : Int) by rw [hla]; exact a2), if_pos (show 0 ≤ (Gx.rd_T88 c (k : Int)).f2 from b1), if_pos (show (Gx.rd_T88 c (k : Int)).f2 < (at_.length : Int) by rw [hla]; exact b2)]
  rfl
end
end Go.Proofs.Ytiknnpfdpecfdaa.Own
namespace Go.Proofs.Ytiknnpfdpecfdaa.Own
open Go Go.RowKit Go.Proofs Go.Proofs.Ytiknnpfdpecfdaa.Gx Go.Proofs.YtiknnpfdpecfdaaW.PrintWords Go.Proofs.YtiknnpfdpecfdaaW.PrintLast Go.Proofs.YtiknnpfdpecfdaaW.PrintMore
set_option linter.unusedVariables false
set_option linter.unusedSimpArgs false
/-- The search's cloth and the reference's creases tell the same. -/
structure Alike (n : Nat) (l low high : List Int) (cr : List Own.S96) (c : List Gx.S88) : Prop where
  hn : l.length = n
  low : ∀ s : Nat, s < n → rd low (s : Int) = min (PP l s) (PP l (s + 1))
  high : ∀ s : Nat, s < n → rd high (s : Int) = max (PP l s) (PP l (s + 1))
  len : c.length = cr.length
  f0 : ∀ k : Nat, k < cr.length → (rc c k).f1 = (Own.rd_T96 cr k).f0
  f1 : ∀ k : Nat, k < cr.length → (rc c k).f2 = (Own.rd_T96 cr k).f1
  f2 : ∀ k : Nat, k < cr.length → (rc c k).f0 = (Own.rd_T96 cr k).f2
  f3 : ∀ k : Nat, k < cr.length → (rc c k).f3 = !(Own.rd_T96 cr k).f3
section
variable {n : Nat} {l low high : List Int} {cr : List Own.S96} {c : List Gx.S88} {o : List Int}
theorem layL_at {s : Int} (h0 : 0 ≤ s) (h1 : s < n) : rd (layL n o) s = (pos o s : Int) := by
  obtain ⟨t, rfl⟩ : ∃ t : Nat, s = (t : Int) := ⟨s.toNat, by omega⟩
  simp [rd, layL, show t < n by omega]
theorem good_folds (hg : Geo n cr) (hp : IsP n o) (ha : Alike n l low high cr c) : (∀ i, i < n → good low high cr ⟨#[]⟩ o i) ↔ foldsR l (layL n o) c 0 := by
 have hcrs : ∀ k j : Nat, k < cr.length → j < cr.length → (crossed cr k j = true ↔ ((rc c j).f0 = (rc c k).f0 ∧ (rc c j).f3 = (rc c k).f3)) := by
  intro k j hk hj
  unfold crossed
  rw [ha.f2 k hk, ha.f2 j hj, ha.f3 k hk, ha.f3 j hj, Bool.and_eq_true, beq_iff_eq, beq_iff_eq]
  simp
 have hbt : ∀ (k : Nat), k < cr.length → ∀ x : Nat, btw (x : Int) (rd (layL n o) (rc c k).f1) (rd (layL n o) (rc c k).f2) ↔ aOf cr o k < x ∧ x < bOf cr o k := by
  intro k hk x
  rw [ha.f0 k hk, ha.f1 k hk, layL_at (hg.i0 k hk).1 (hg.i0 k hk).2, layL_at (hg.i1 k hk).1 (hg.i1 k hk).2]
  unfold btw aOf bOf
  omega
 constructor
 ·intro h k _ hk
  rw [ha.len] at hk
  obtain ⟨hab, hbn⟩ := ab_lt hg hp hk
  refine ⟨fun s hs => ?_, fun j hj hjk e0 e3 => ?_⟩
  ·rw [ha.hn] at hs
   rintro ⟨h1, h2⟩
   rw [layL_at (by omega) (by omega), hbt k hk] at h2
   have hps := pos_lt hp (s := (s : Int)) (by omega) (by omega)
   refine (h _ hps).1 k hk h2.1 h2.2 ?_
   rw [get_pos hp (by omega) (by omega), ha.low s hs, ha.high s hs, ← ha.f2 k hk]
   exact h1
  ·rw [ha.len] at hj
   have hc := (hcrs k j hk hj).2 ⟨e0, e3⟩
   have hc2 := (hcrs j k hj hk).2 ⟨e0.symm, e3.symm⟩
   obtain ⟨d1, d2, d3, d4⟩ := apart_ab hg hp hk hj (Ne.symm hjk) hc
   obtain ⟨haj, hbj⟩ := ab_lt hg hp hj
   have q1 := ((h _ hbn).2 k hk).1 rfl j hj hjk hc
   have q2 := ((h _ hbj).2 j hj).1 rfl k hk (Ne.symm hjk) hc2
   rw [ha.f0 j hj, ha.f1 j hj, layL_at (hg.i0 j hj).1 (hg.i0 j hj).2, layL_at (hg.i1 j hj).1 (hg.i1 j hj).2, hbt k hk, hbt k hk]
   have e1 : aOf cr o j = min (pos o (Own.rd_T96 cr j).f0) (pos o (Own.rd_T96 cr j).f1) := rfl
   have e2 : bOf cr o j = max (pos o (Own.rd_T96 cr j).f0) (pos o (Own.rd_T96 cr j).f1) := rfl
   constructor <;> (rintro ⟨z1, z2⟩; omega)
 ·intro h i hi
  refine ⟨fun k hk h1 h2 h3 => ?_, fun k hk => ⟨fun hb j hj hjk hc h1 h2 h3 => ?_, fun _ hp0 => absurd rfl hp0⟩⟩
  ·have hio : i < o.length := by rw [hp.len]; exact hi
   have hm := (hp.mem (o.getD i 0)).1 (by rw [List.getD_eq_getElem?_getD, List.getElem?_eq_getElem hio, Option.getD_some]; exact List.getElem_mem hio)
   obtain ⟨s, hs⟩ : ∃ s : Nat, o.getD i 0 = (s : Int) := ⟨(o.getD i 0).toNat, by omega⟩
   have hps := pos_get hp hi
   rw [hs] at h3 hps hm
   refine ((h k (Nat.zero_le _) (by rw [ha.len]; exact hk)).1 s (by rw [ha.hn]; omega)) ⟨?_, ?_⟩
   ·rw [ha.f2 k hk]
    rw [ha.low s (by omega), ha.high s (by omega)] at h3
    exact h3
   ·rw [layL_at (by omega) (by omega), hbt k hk, hps]
    exact ⟨h1, h2⟩
  ·obtain ⟨d1, d2, d3, d4⟩ := apart_ab hg hp hk hj (Ne.symm hjk) hc
   obtain ⟨e0, e3⟩ := (hcrs k j hk hj).1 hc
   have q := (h k (Nat.zero_le _) (by rw [ha.len]; exact hk)).2 j (by rw [ha.len]; exact hj) hjk e0 e3
   rw [ha.f0 j hj, ha.f1 j hj, layL_at (hg.i0 j hj).1 (hg.i0 j hj).2, layL_at (hg.i1 j hj).1 (hg.i1 j hj).2, hbt k hk, hbt k hk] at q
   have e1 : aOf cr o j = min (pos o (Own.rd_T96 cr j).f0) (pos o (Own.rd_T96 cr j).f1) := rfl
   have e2 : bOf cr o j = max (pos o (Own.rd_T96 cr j).f0) (pos o (Own.rd_T96 cr j).f1) := rfl
   omega
end
section
variable {l : List Int}
theorem strip_alike (h : OkL l) : Alike l.length l (layR l l.length).low (layR l l.length).high (layR l l.length).cr (crL l) := by
 have hl := layR_cr l l.length
 have hc : ∀ k, k < (layR l l.length).cr.length → rc (crL l) k = crAt l k := by
  intro k hk
  simp [rc, Gx.rd_T88, crL, show k < l.length - 1 by omega]
 refine ⟨rfl, fun s hs => lay_low h hs, fun s hs => lay_high h hs, by rw [hl]; simp [crL], fun k hk => ?_, fun k hk => ?_, fun k hk => ?_, fun k hk => ?_⟩
 ·rw [hc k hk, lay_cr h (by omega)]; rfl
 ·rw [hc k hk, lay_cr h (by omega)]; rfl
 ·rw [hc k hk, lay_cr h (by omega)]; rfl
 ·rw [hc k hk, lay_cr h (by omega)]
  have hu := PP_up h (show k + 1 < l.length by omega)
  show decide (PP l (k + 2) > PP l (k + 1)) = !((k + 1) % 2 == 1)
  by_cases e : (k + 1) % 2 = 1
  ·have := hu.2 e
   rw [decide_eq_false (by show ¬ PP l (k + 1 + 1) > PP l (k + 1); omega), e]; rfl
  ·have := hu.1 (by omega)
   rw [decide_eq_true (by show PP l (k + 1 + 1) > PP l (k + 1); omega), show (k + 1) % 2 = 0 by omega]; rfl
theorem strip_okc (h : OkL l) {o : List Int} (hp : IsP l.length o) : OkC l (layL l.length o) (crL l) := by
 have hc : ∀ k, k < (crL l).length → rc (crL l) k = crAt l k ∧ k + 1 < l.length := by
  intro k hk
  simp [crL] at hk
  exact ⟨by simp [rc, Gx.rd_T88, crL, show k < l.length - 1 by omega], by omega⟩
 have hlen := h.len
 refine ⟨hlen, by simp [layL], by simp [crL]; omega, fun k hk => ?_, fun k hk => ?_⟩
 ·rw [(hc k hk).1]; show 0 ≤ ((k : Nat) : Int) ∧ _; have := (hc k hk).2; exact ⟨by omega, by show ((k : Nat) : Int) < _; omega⟩
 ·rw [(hc k hk).1]; show 0 ≤ ((k + 1 : Nat) : Int) ∧ _; have := (hc k hk).2; exact ⟨by omega, by show ((k + 1 : Nat) : Int) < _; omega⟩
open Classical in
/-- Folds of the reference: as the search puts the segments. -/
theorem folds_strip (h : OkL l) (h1 : 1 ≤ l.length) {o : List Int} (hp : IsP l.length o) : Ev (fun k => gampref01_Folds.f k l o false) (foldsL (layR l l.length).low (layR l l.length).high (layR l l.length).cr ⟨#[]⟩ o []) := by
 have hr := folds_l0 (strip_okc h hp) (crL l).length 0 (by omega)
 have e : decide (foldsR l (layL l.length o) (crL l) 0) = foldsL (layR l l.length).low (layR l l.length).high (layR l l.length).cr ⟨#[]⟩ o [] := by
  apply Bool.eq_iff_iff.2
  rw [decide_eq_true_eq, folds_all (lay_geo h) hp]
  exact (good_folds (lay_geo h) hp (strip_alike h)).symm
 rw [e] at hr
 unfold gampref01_Folds.f
 refine Ev.congr (f := fun k => gampref01_Folds.j0 k l o false false) (fun k => by rw [if_neg (by simp)]) ?_
 refine Ev.step (f := fun k => (gampref01_places.f k l).bind fun t248 => (gampref01_layers.f k o).bind fun t251 => (gampref01_creases.f k l false).bind fun t254 => gampref01_Folds.l0 k l t248 t251 t254 0) (fun k => by simp only [gampref01_Folds.j0]; rw [if_neg (by simp)]) ?_
 exact Ev.bind (places_ev h) (Ev.bind (layers_ev hp h.len) (Ev.bind (creases_strip h h1) hr))
end
theorem isP_of {n : Nat} {o : List Int} (h : o ∈ exts n n []) : IsP n o := by
 obtain ⟨h1, h2, h3⟩ := exts_mem n n [] o List.nodup_nil (fun s hs => nomatch hs) h
 rw [List.length_nil, Nat.zero_add] at h3
 refine ⟨h1, h3, fun s => ⟨h2 s, fun hs => ?_⟩⟩
 apply Decidable.byContradiction
 intro hn
 have hk : ∀ (a b : List Int), a.Nodup → (∀ x ∈ a, x ∈ b) → a.length ≤ b.length := by
  intro a
  induction a with
  | nil => intro b _ _; exact Nat.zero_le _
  | cons x a ih =>
   intro b hnd hab
   have hx := hab x List.mem_cons_self
   have := ih (b.erase x) (List.nodup_cons.1 hnd).2 (fun y hy => (List.mem_erase_of_ne (by rintro rfl; exact (List.nodup_cons.1 hnd).1 hy)).2 (hab y (List.mem_cons_of_mem _ hy)))
   rw [List.length_erase_of_mem hx] at this
   have := List.length_pos_of_mem hx
   simp only [List.length_cons]
   omega
 have hl := hk (s :: o) ((List.range n).map fun (i : Nat) => (i : Int)) (List.nodup_cons.2 ⟨hn, h1⟩) (fun x hx => by
  have : 0 ≤ x ∧ x < n := by
   rcases List.mem_cons.1 hx with hx | hx
   ·rw [hx]; exact hs
   ·exact h2 x hx
  exact List.mem_map.2 ⟨x.toNat, List.mem_range.2 (by omega), by omega⟩)
 simp at hl
 omega
end Go.Proofs.Ytiknnpfdpecfdaa.Own
namespace Go.Proofs.Ytiknnpfdpecfdaa.Own
open Go Go.RowKit Go.Proofs Go.Proofs.Ytiknnpfdpecfdaa.Gx Go.Proofs.YtiknnpfdpecfdaaW.PrintWords Go.Proofs.YtiknnpfdpecfdaaW.PrintLast Go.Proofs.YtiknnpfdpecfdaaW.PrintMore
set_option linter.unusedVariables false
set_option linter.unusedSimpArgs false
theorem live_layers : fold_Layers.f [3, 1, 3] ⟨#[86, 77]⟩ = some ([0, 1, 2], 0) := by decide +kernel
theorem live_reduce : fold_Reduce.f 10 [3, 1, 3] ⟨#[86, 77]⟩ = some ([5], ⟨#[]⟩, 0) := by decide +kernel
theorem live_count : fold_Count.f [1, 1, 1] = some (6, 0) := by decide +kernel
theorem lives_ev : Ev (fun k => gamplaw01_lives.f k) true := by
 unfold gamplaw01_lives.f
 rw [live_layers, live_count]
 refine Ev.bind (Ev.now _) ?_
 refine Ev.bind (Ev.of (fold_Reduce.mono _ _) live_reduce) ?_
 refine Ev.bind (Ev.now _) ?_
 refine Ev.congr (fun k => by rw [if_pos rfl]) ?_
 refine Ev.bind (same_ev [0, 1, 2] [0, 1, 2] (by decide)) ?_
 refine Ev.congr (fun k => by rw [if_pos (by decide), if_pos rfl]) ?_
 refine Ev.bind (same_ev [5] [5] (by decide)) ?_
 exact Ev.congr (fun k => by rw [if_pos (by decide), if_pos (show ByteArray.toList ⟨#[]⟩ = [] by decide +kernel), if_pos rfl]; rfl) (Ev.now _)
end Go.Proofs.Ytiknnpfdpecfdaa.Own
namespace Go.Proofs.Ytiknnpfdpecfdaa.Gx
open Go Go.RowKit Go.Proofs Go.Proofs.YtiknnpfdpecfdaaW.PrintWords
theorem gamplaw01_lives.calls (k : Nat) (r : Bool) (w : World) (h : gamplaw01_lives.f k = some r) : Calls Try.prog 20 #[] w fun e w' => e = .returned (.bool r) ∧ Below w.heap.size w w' := by
 refine gamplaw01_lives.callsT k r w h ?_
 obtain ⟨K, hK⟩ := Own.lives_ev
 have h1 := at_rounds gamplaw01_lives.mono (Nat.le_max_left k K) h
 exact Option.some.inj (h1.symm.trans (hK _ (Nat.le_max_right k K)))
end Go.Proofs.Ytiknnpfdpecfdaa.Gx

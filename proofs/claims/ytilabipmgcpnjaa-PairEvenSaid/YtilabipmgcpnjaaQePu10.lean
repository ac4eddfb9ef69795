/- The declarations of Pu10 that the claim Qe needs. -/
import Derived.Test.YtilabipmgcpnjaaQePu6
import Derived.Test.YtilabipmgcpnjaaQeCyc
import Derived.Test.YtilabipmgcpnjaaQeFnx0
import Derived.Test.YtilabipmgcpnjaaQeFnx10
namespace Go.Proofs.Ytilabipmgcpnjaa.Pure
open Go.RowKit Go.Proofs.Ytilabipmgcpnjaa.Own Go.Proofs.Ytilabipmgcpnjaa.Fn Go.Proofs.YtilabipmgcpnjaaW.PrintWords Go.Proofs.YtilabipmgcpnjaaW.PrintLast Go.Proofs.YtilabipmgcpnjaaW.PrintMore Go.Proofs.Ytilabipmgcpnjaa.Tan Go.Proofs.Ytilabipmgcpnjaa.Cyc
set_option linter.unusedVariables false
set_option linter.unusedSimpArgs false
def ints (l : List Nat) : List Int := l.map (fun (x : Nat) => (x : Int))
theorem ints_len (l : List Nat) : (ints l).length = l.length := by unfold ints; rw [List.length_map]
section
variable {R : List Int} {n : Nat}
theorem perm_val (h : IsPerm R n) {x : Nat} (hx : x < n) : R.getD x 0 = (nx R x : Int) ∧ nx R x < n := by
  have hl : x < R.length := by rw [h.2.2]; exact hx
  have := h.2.1 _ (List.getElem_mem hl)
  unfold nx
  rw [List.getD_eq_getElem?_getD, List.getElem?_eq_getElem hl]
  simp only [Option.getD_some]
  omega
theorem perm_has (h : IsPerm R n) {x : Nat} (hx : x < n) : (x : Int) ∈ R := by
  refine Classical.byContradiction fun hno => ?_
  have hnd : (x :: R.map Int.toNat).Nodup := by
    rw [List.nodup_cons]
    constructor
    · intro hm
      obtain ⟨z, hz, e⟩ := List.mem_map.1 hm
      have := h.2.1 z hz
      exact hno (by rw [← e, Int.toNat_of_nonneg this.1]; exact hz)
    · have : ∀ l : List Int, l.Nodup → (∀ z ∈ l, 0 ≤ z) → (l.map Int.toNat).Nodup := by
        intro l
        induction l with
        | nil => intro _ _; simp
        | cons a l ih =>
          intro h1 h2
          rw [List.map_cons, List.nodup_cons]
          rw [List.nodup_cons] at h1
          refine ⟨fun hm => ?_, ih h1.2 (fun z hz => h2 z (List.mem_cons_of_mem _ hz))⟩
          obtain ⟨z, hz, e⟩ := List.mem_map.1 hm
          have ha := h2 a List.mem_cons_self
          have hb := h2 z (List.mem_cons_of_mem _ hz)
          have : z = a := by omega
          exact h1.1 (this ▸ hz)
      exact this R h.1 (fun z hz => (h.2.1 z hz).1)
  have := len_le_of_sub (l2 := List.range n) hnd (fun z hz => by
    rw [List.mem_range]
    rcases List.mem_cons.1 hz with e | hz
    · omega
    · obtain ⟨y, hy, rfl⟩ := List.mem_map.1 hz
      have := h.2.1 y hy
      omega)
  rw [List.length_cons, List.length_map, List.length_range, h.2.2] at this
  omega
/-- The inverse. -/
def pv (R : List Int) (x : Nat) : Nat := R.idxOf (x : Int)
theorem perm2_of (h : IsPerm R n) : Perm2 n (nx R) (pv R) := by
  refine ⟨fun i hi => (perm_val h hi).2, fun i hi => ?_, fun i hi => ?_, fun i hi => ?_⟩
  · unfold pv
    rw [← h.2.2]
    exact List.idxOf_lt_length_of_mem (perm_has h hi)
  · unfold pv nx
    have h1 := List.idxOf_lt_length_of_mem (perm_has h hi)
    rw [List.getD_eq_getElem?_getD, List.getElem?_eq_getElem h1, Option.getD_some, List.getElem_idxOf]
    rfl
  · have hl : i < R.length := by rw [h.2.2]; exact hi
    have := (perm_val h hi).1
    unfold pv
    rw [← this, List.getD_eq_getElem?_getD, List.getElem?_eq_getElem hl, Option.getD_some]
    exact h.1.idxOf_getElem i hl
theorem rd_nx (h : IsPerm R n) {x : Nat} (hx : x < n) : rd R (x : Int) = ((nx R x : Nat) : Int) := by
  unfold rd
  rw [Int.toNat_natCast]
  exact (perm_val h hx).1
theorem rdb (D : List Bool) (x : Nat) : rdOf false D (x : Int) = D.getD x false := by unfold rdOf; rw [Int.toNat_natCast]
theorem wrap_s {i : Nat} (h : i ≤ 1000000) : wrap64 ((i : Int) + 1) = ((i + 1 : Nat) : Int) := wrap_succ h
theorem parties_l1 (hp : IsPerm R n) (hn : n ≤ 1000000) {i m : Nat} (hi : i < n) (hm : IsPer (nx R) i m) (hmn : m ≤ n) (hmin : isMin (nx R) n i = true) {out : List (List Int)} (hout : out.length ≤ 1000000) {r : List (List Int)}
    (hc : ∀ D, Inv (nx R) n (i + 1) D → Ev (fun k => gampref07_Parties.l0 k R (out ++ [ints (orbit (nx R) n i)]) D ((i + 1 : Nat) : Int)) r) :
    ∀ (d t : Nat) (D : List Bool), t + d = m → InvT (nx R) n i t D → Ev (fun k => gampref07_Parties.l1 k R out D (i : Int) (ints ((List.range t).map (fun t => Nat.repeat (nx R) t i))) ((Nat.repeat (nx R) t i : Nat) : Int)) r
  | 0, t, D, hd, hD => by
    have e : t = m := by omega
    subst e
    have hone := hm.one
    have h1 : D.getD i false = true := InvT.shut hi hm hD
    rw [hm.back, ← orbit_eq hm hmn]
    have hl := orbit_len hm hmn
    refine Ev.step (f := fun k => gampref07_Parties.l0 k R (out ++ [ints (orbit (nx R) n i)]) D ((i + 1 : Nat) : Int)) (fun k => ?_) (hc D (InvT.done (perm2_of hp) hi hm hmn hD))
    simp only [gampref07_Parties.l1]
    rw [if_pos (by omega), if_pos (by rw [hD.1]; omega), rdb, if_pos h1, if_pos (by rw [ints_len, hl]; omega), if_pos (by omega), wrap_s (by omega)]
  | d + 1, t, D, hd, hD => by
    have h1 : D.getD (Nat.repeat (nx R) t i) false = false := InvT.open (perm2_of hp) hi hm hmn hmin (by omega) hD
    have hlt := rep_lt (perm2_of hp).pn hi t
    have hs : ints ((List.range t).map (fun t => Nat.repeat (nx R) t i)) ++ [((Nat.repeat (nx R) t i : Nat) : Int)] = ints ((List.range (t + 1)).map (fun t => Nat.repeat (nx R) t i)) := by
      unfold ints
      rw [List.range_succ, List.map_append, List.map_append]; rfl
    refine Ev.step (fun k => ?_) (parties_l1 hp hn hi hm hmn hmin hout hc d (t + 1) _ (by omega) (InvT.step hD hlt))
    simp only [gampref07_Parties.l1]
    rw [if_pos (by omega), if_pos (by rw [hD.1]; omega), rdb, h1, if_neg (by simp), if_pos (by rw [ints_len, List.length_map, List.length_range]; omega), if_pos (by rw [hp.2.2]; omega), Int.toNat_natCast, hs, rd_nx hp hlt, rep_succ]
def minsFrom (p : Nat → Nat) (n i d : Nat) : List (List Nat) := ((List.range' i d).filter (isMin p n)).map (orbit p n)
theorem parties_l0 (hp : IsPerm R n) (hn : n ≤ 100000) : ∀ (d i : Nat) (out : List (List Int)) (D : List Bool), i + d = n → out.length ≤ i → Inv (nx R) n i D →
    Ev (fun k => gampref07_Parties.l0 k R out D (i : Int)) (out ++ (minsFrom (nx R) n i d).map ints)
  | 0, i, out, D, hd, ho, hD => by
    refine Ev.step (f := fun _ => some out) (fun k => by simp only [gampref07_Parties.l0]; rw [if_neg (by rw [hp.2.2]; omega)]) ?_
    simpa [minsFrom] using Ev.now out
  | d + 1, i, out, D, hd, ho, hD => by
    have hi : i < n := by omega
    have hat := Inv.at hD hi
    obtain ⟨m, hm, hmn⟩ := per_ex (perm2_of hp) hi
    refine Ev.step (f := fun k => gampref07_Parties.l1 k R out D (i : Int) (([] : List Int)) (i : Int)) (fun k => by simp only [gampref07_Parties.l0]; rw [if_pos (by rw [hp.2.2]; omega)]) ?_
    cases hmin : isMin (nx R) n i with
    | true =>
      have e : out ++ (minsFrom (nx R) n i (d + 1)).map ints = (out ++ [ints (orbit (nx R) n i)]) ++ (minsFrom (nx R) n (i + 1) d).map ints := by
        unfold minsFrom
        rw [List.range'_succ, List.filter_cons, hmin, if_pos rfl]
        simp
      rw [e]
      exact parties_l1 hp (by omega) hi hm hmn hmin (by omega) (fun D' hD' => parties_l0 hp hn d (i + 1) _ D' (by omega) (by rw [List.length_append, List.length_singleton]; omega) hD') m 0 D (by omega) (InvT.start hD)
    | false =>
      have e : out ++ (minsFrom (nx R) n i (d + 1)).map ints = out ++ (minsFrom (nx R) n (i + 1) d).map ints := by
        unfold minsFrom
        rw [List.range'_succ, List.filter_cons, hmin]
        simp
      rw [e]
      rw [hmin] at hat
      refine Ev.step (fun k => ?_) (parties_l0 hp hn d (i + 1) out D (by omega) (by omega) (Inv.skip (perm2_of hp) hD hi hmin))
      simp only [gampref07_Parties.l1]
      rw [if_pos (by omega), if_pos (by rw [hD.1]; omega), rdb, hat, if_pos (by rfl), if_neg (by simp), wrap_s (by omega)]
theorem inv_zero (R : List Int) (n : Nat) : Inv (nx R) n 0 (List.replicate n false) :=
  Inv.zero _ (List.length_replicate ..) (fun x hx => by rw [List.getD_eq_getElem?_getD, List.getElem?_replicate, if_pos hx]; rfl)
theorem parties_ev (hp : IsPerm R n) (hn : n ≤ 100000) : Ev (fun k => gampref07_Parties.f k R) ((parties (nx R) n).map ints) := by
  have h := parties_l0 hp hn n 0 [] (List.replicate n false) (by omega) (by simp) (inv_zero R n)
  have e : minsFrom (nx R) n 0 n = parties (nx R) n := by unfold minsFrom parties; rw [List.range_eq_range']
  rw [List.nil_append, e] at h
  unfold gampref07_Parties.f
  refine Ev.congr (fun k => ?_) h
  rw [if_pos (by omega), Int.toNat_natCast, hp.2.2, if_pos (by omega)]; rfl
theorem parties_len (p : Nat → Nat) (n : Nat) : (parties p n).length ≤ n := by
  unfold parties
  rw [List.length_map]
  exact Nat.le_trans (List.length_filter_le _ _) (by rw [List.length_range]; omega)
theorem podd_l1 (hp : IsPerm R n) (hn : n ≤ 1000000) {i m : Nat} (hi : i < n) (hm : IsPer (nx R) i m) (hmn : m ≤ n) (hmin : isMin (nx R) n i = true) {out : List (List Int)} (hout : out.length ≤ 1000000) {r : List (List Int)}
    (hc : ∀ D, Inv (nx R) n (i + 1) D → Ev (fun k => pair_odd.l0 k R (if m % 2 = 1 then out ++ [ints (orbit (nx R) n i)] else out) D (n : Int) ((i + 1 : Nat) : Int)) r) :
    ∀ (d t : Nat) (D : List Bool), t + d = m → InvT (nx R) n i t D → Ev (fun k => pair_odd.l1 k R out D (ints ((List.range t).map (fun t => Nat.repeat (nx R) t i))) ((Nat.repeat (nx R) t i : Nat) : Int) (n : Int) (i : Int)) r
  | 0, t, D, hd, hD => by
    have e : t = m := by omega
    subst e
    have hone := hm.one
    have h1 : D.getD i false = true := InvT.shut hi hm hD
    rw [hm.back, ← orbit_eq hm hmn]
    have hl := orbit_len hm hmn
    refine Ev.step (fun k => ?_) (hc D (InvT.done (perm2_of hp) hi hm hmn hD))
    simp only [pair_odd.l1]
    rw [if_pos (by omega), if_pos (by rw [hD.1]; omega), rdb, if_pos h1, ints_len, hl]
    by_cases ho : t % 2 = 1
    · rw [if_pos (by omega), if_pos ho, if_pos (by omega), wrap_s (by omega)]
    · rw [if_neg (by omega), if_neg ho, wrap_s (by omega)]
  | d + 1, t, D, hd, hD => by
    have h1 : D.getD (Nat.repeat (nx R) t i) false = false := InvT.open (perm2_of hp) hi hm hmn hmin (by omega) hD
    have hlt := rep_lt (perm2_of hp).pn hi t
    have hs : ints ((List.range t).map (fun t => Nat.repeat (nx R) t i)) ++ [((Nat.repeat (nx R) t i : Nat) : Int)] = ints ((List.range (t + 1)).map (fun t => Nat.repeat (nx R) t i)) := by
      unfold ints
      rw [List.range_succ, List.map_append, List.map_append]; rfl
    refine Ev.step (fun k => ?_) (podd_l1 hp hn hi hm hmn hmin hout hc d (t + 1) _ (by omega) (InvT.step hD hlt))
    simp only [pair_odd.l1]
    rw [if_pos (by omega), if_pos (by rw [hD.1]; omega), rdb, h1, if_neg (by simp), if_pos (by rw [ints_len, List.length_map, List.length_range]; omega), if_pos (by rw [hp.2.2]; omega), Int.toNat_natCast, hs, rd_nx hp hlt, rep_succ]
def oddsFrom (p : Nat → Nat) (n i d : Nat) : List (List Nat) := ((List.range' i d).filter (fun i => isMin p n i && decide ((orbit p n i).length % 2 = 1))).map (orbit p n)
theorem podd_l0 (hp : IsPerm R n) (hn : n ≤ 100000) : ∀ (d i : Nat) (out : List (List Int)) (D : List Bool), i + d = n → out.length ≤ i → Inv (nx R) n i D →
    Ev (fun k => pair_odd.l0 k R out D (n : Int) (i : Int)) (out ++ (oddsFrom (nx R) n i d).map ints)
  | 0, i, out, D, hd, ho, hD => by
    refine Ev.step (f := fun _ => some out) (fun k => by simp only [pair_odd.l0]; rw [if_neg (by omega)]) ?_
    simpa [oddsFrom] using Ev.now out
  | d + 1, i, out, D, hd, ho, hD => by
    have hi : i < n := by omega
    have hat := Inv.at hD hi
    obtain ⟨m, hm, hmn⟩ := per_ex (perm2_of hp) hi
    have hl := orbit_len hm hmn
    refine Ev.step (f := fun k => pair_odd.l1 k R out D (([] : List Int)) (i : Int) (n : Int) (i : Int)) (fun k => by simp only [pair_odd.l0]; rw [if_pos (by omega)]) ?_
    cases hmin : isMin (nx R) n i with
    | true =>
      have e : out ++ (oddsFrom (nx R) n i (d + 1)).map ints = (if m % 2 = 1 then out ++ [ints (orbit (nx R) n i)] else out) ++ (oddsFrom (nx R) n (i + 1) d).map ints := by
        unfold oddsFrom
        rw [List.range'_succ, List.filter_cons, hmin, hl]
        by_cases ho : m % 2 = 1
        · rw [if_pos (by simpa using ho), if_pos ho]; simp
        · rw [if_neg (by simpa using ho), if_neg ho]
      rw [e]
      refine podd_l1 hp (by omega) hi hm hmn hmin (by omega) (fun D' hD' => podd_l0 hp hn d (i + 1) _ D' (by omega) ?_ hD') m 0 D (by omega) (InvT.start hD)
      split
      · rw [List.length_append, List.length_singleton]; omega
      · omega
    | false =>
      have e : out ++ (oddsFrom (nx R) n i (d + 1)).map ints = out ++ (oddsFrom (nx R) n (i + 1) d).map ints := by
        unfold oddsFrom
        rw [List.range'_succ, List.filter_cons, hmin]
        simp
      rw [e]
      rw [hmin] at hat
      refine Ev.step (fun k => ?_) (podd_l0 hp hn d (i + 1) out D (by omega) (by omega) (Inv.skip (perm2_of hp) hD hi hmin))
      simp only [pair_odd.l1]
      rw [if_pos (by omega), if_pos (by rw [hD.1]; omega), rdb, hat, if_pos (by rfl), if_neg (by simp), wrap_s (by omega)]
theorem podd_ev (hp : IsPerm R n) (hn : n ≤ 100000) : Ev (fun k => pair_odd.f k R) ((odds (nx R) n).map ints) := by
  have h := podd_l0 hp hn n 0 [] (List.replicate n false) (by omega) (by simp) (inv_zero R n)
  have e : oddsFrom (nx R) n 0 n = odds (nx R) n := by unfold oddsFrom odds; rw [List.range_eq_range']
  rw [List.nil_append, e] at h
  unfold pair_odd.f
  refine Ev.congr (fun k => ?_) h
  rw [if_pos (by omega), Int.toNat_natCast, hp.2.2, if_pos (by omega)]; rfl
end
end Go.Proofs.Ytilabipmgcpnjaa.Pure

/- The declarations of El that the claim Qw needs. -/
import Derived.Test.YtdpolfflemocaaaQwPf
import Derived.Test.YtdpolfflemocaaaQwCh
import Derived.Test.YtdpolfflemocaaaQwTkP
import Derived.Test.YtdpolfflemocaaaQwRex0
import Derived.Test.YtdpolfflemocaaaQwRex1
import Derived.Test.YtdpolfflemocaaaQwRex2
namespace Go.Proofs.Ytdpolfflemocaaa.Pure
open Go Go.RowKit Go.Proofs.YtdpolfflemocaaaW.PrintWords Go.Proofs.YtdpolfflemocaaaW.PrintLast Go.Proofs.YtdpolfflemocaaaW.PrintMore Go.Proofs.Ytdpolfflemocaaa.Cl Go.Proofs.Ytdpolfflemocaaa.Own Go.Proofs.Ytdpolfflemocaaa.Rx Go.Proofs.Ytdpolfflemocaaa.Re
set_option linter.unusedVariables false
set_option linter.unusedSimpArgs false
open Classical
theorem pig : ∀ (s l : List Nat), s.Nodup → (∀ x ∈ s, x ∈ l) → s.length ≤ l.length ∧ (s.length = l.length → s.Perm l)
  | [], l, _, _ => ⟨by simp, fun h => by
      obtain rfl : l = [] := List.length_eq_zero_iff.1 (by simpa using h.symm)
      exact List.Perm.refl _⟩
  | a :: s, l, hn, hs => by
    rw [List.nodup_cons] at hn
    have ha : a ∈ l := hs a (by simp)
    have hp := List.perm_cons_erase ha
    have hl : l.length = (l.erase a).length + 1 := by rw [hp.length_eq]; rfl
    obtain ⟨h1, h2⟩ := pig s (l.erase a) hn.2 fun x hx => (List.mem_erase_of_ne (fun e => hn.1 (by rw [← e]; exact hx))).2 (hs x (List.mem_cons_of_mem _ hx))
    refine ⟨by simp; omega, fun h => ?_⟩
    simp at h
    exact ((h2 (by omega)).cons a).trans hp.symm
/-- A list of nodes as a list of numbers. -/
def natl (l : List Int) : List Nat := l.map Int.toNat
def InR (n : Int) (l : List Int) : Prop := ∀ x ∈ l, 0 ≤ x ∧ x < n
/-- A permutation of the numbers below n. -/
def PermP (n : Nat) (l : List Int) : Prop := InR n l ∧ (natl l).Nodup ∧ l.length = n
theorem rd_nat_get (l : List Nat) (i : Nat) (h : i < l.length) : rd (il l) (i : Int) = (l[i] : Int) := by rw [il_rd _ _ h]; simp [h]
theorem rd_get (l : List Int) (i : Nat) (h : i < l.length) : rd l (i : Int) = l[i] := by simp [rd, h]
theorem perm_ref (n : Nat) (hn1 : n ≤ 2 ^ 30) (l : List Int) (hl : l.length < 2 ^ 40) : Ev (fun k => gampref04_Permutation.f k l (n : Int)) (decide (PermP n l)) := by
  have hw : wrap64 ((n : Int) - 1) = (n : Int) - 1 := by unfold wrap64; omega
  have l1 : ∀ (i : Nat), i < l.length → (hok : ∀ x ∈ l.take (i + 1), 0 ≤ x ∧ x < (n : Int)) → ∀ (R : Bool), (l[i]! ∉ l.take i → Ev (fun k => gampref04_Permutation.l0 k l (n : Int) ((i + 1 : Nat) : Int)) R) → (l[i]! ∈ l.take i → R = false) → ∀ (d j : Nat), j + d = i → l[i]! ∉ l.take j → Ev (fun k => gampref04_Permutation.l1 k l (n : Int) (i : Int) (j : Int)) R := by
    intro i hi hok R hR hF d
    have hgi : l[i]! = l[i] := by simp [hi]
    induction d with
    | zero =>
      intro j hj hm
      obtain rfl : j = i := by omega
      refine Ev.step (fun k => ?_) (hR hm)
      simp only [gampref04_Permutation.l1]
      rw [if_neg (by omega), wrap_up j (by omega)]
    | succ d ih =>
      intro j hj hm
      have hjl : j < l.length := by omega
      have e1 : ∀ k, gampref04_Permutation.l1 (k + 1) l (n : Int) (i : Int) (j : Int) = if l[j] = l[i] then some false else gampref04_Permutation.l1 k l (n : Int) (i : Int) ((j + 1 : Nat) : Int) := by
        intro k
        simp only [gampref04_Permutation.l1]
        rw [if_pos (by omega), if_pos (by omega), if_pos (by omega), if_pos (by omega), if_pos (by omega), rd_get l j hjl, rd_get l i hi, wrap_up j (by omega)]
      by_cases h : l[j] = l[i]
      · have hmem : l[i]! ∈ l.take i := by
          rw [hgi, ← h]
          exact List.mem_take_iff_getElem.2 ⟨j, by omega, rfl⟩
        rw [hF hmem]
        exact Ev.step (f := fun _ => some false) (fun k => by rw [e1, if_pos h]) (Ev.now _)
      · refine Ev.step (fun k => by rw [e1, if_neg h]) (ih (j + 1) (by omega) ?_)
        rw [List.take_succ_eq_append_getElem hjl, List.mem_append, List.mem_singleton]
        rintro (x | x)
        · exact hm x
        · exact h (by rw [← x, hgi])
  have main : ∀ (d i : Nat), i + d = l.length → (∀ x ∈ l.take i, 0 ≤ x ∧ x < (n : Int)) → (natl (l.take i)).Nodup → Ev (fun k => gampref04_Permutation.l0 k l (n : Int) (i : Int)) (decide (PermP n l)) := by
    intro d
    induction d with
    | zero =>
      intro i hi hok hnd
      rw [List.take_of_length_le (by omega)] at hok hnd
      refine Ev.step (f := fun _ => some ((l.length : Int) == (n : Int))) (fun k => ?_) ?_
      · simp only [gampref04_Permutation.l0]
        rw [if_neg (by omega)]
      · rw [show decide (PermP n l) = ((l.length : Int) == (n : Int)) from ?_]
        · exact Ev.now _
        · rw [Bool.eq_iff_iff, beq_iff_eq, decide_eq_true_eq]
          exact ⟨fun h => by have := h.2.2; omega, fun h => ⟨hok, hnd, by omega⟩⟩
    | succ d ih =>
      intro i hi hok hnd
      have hil : i < l.length := by omega
      have hgi : l[i]! = l[i] := by simp [hil]
      have e1 : ∀ k, gampref04_Permutation.l0 (k + 1) l (n : Int) (i : Int) = if 0 ≤ l[i] ∧ l[i] ≤ (n : Int) - 1 then gampref04_Permutation.l1 k l (n : Int) (i : Int) 0 else some false := by
        intro k
        simp only [gampref04_Permutation.l0]
        rw [if_pos (by omega), if_pos (by omega), rd_get l i hil, in_f, Option.bind_some, hw]
        by_cases h : 0 ≤ l[i] ∧ l[i] ≤ (n : Int) - 1
        · rw [if_pos (decide_eq_true h), if_pos h]
        · rw [if_neg (by simpa using h), if_neg h]
      by_cases h : 0 ≤ l[i] ∧ l[i] ≤ (n : Int) - 1
      · have hok2 : ∀ x ∈ l.take (i + 1), 0 ≤ x ∧ x < (n : Int) := by
          intro x hx
          rw [List.take_succ_eq_append_getElem hil, List.mem_append] at hx
          rcases hx with hx | hx
          · exact hok x hx
          · obtain rfl := List.mem_singleton.1 hx; omega
        refine Ev.step (f := fun k => gampref04_Permutation.l1 k l (n : Int) (i : Int) ((0 : Nat) : Int)) (fun k => by rw [e1, if_pos h]; rfl) ?_
        refine l1 i hil hok2 _ (fun hm => ih (i + 1) (by omega) hok2 ?_) (fun hm => decide_eq_false fun p => ?_) i 0 (by omega) (by simp)
        · rw [List.take_succ_eq_append_getElem hil]
          unfold natl
          rw [List.map_append]
          refine List.nodup_append.2 ⟨hnd, by simp, ?_⟩
          rintro a ha b hb rfl
          obtain ⟨y, hy, rfl⟩ := List.mem_map.1 ha
          have hb' : y.toNat = l[i].toNat := by simpa using hb
          have := hok y hy
          exact hm (by rw [hgi, show l[i] = y by omega]; exact hy)
        · rw [hgi] at hm
          obtain ⟨j, hj, e⟩ := List.mem_take_iff_getElem.1 hm
          have hnd2 := p.2.1
          have hj1 : j < i := by omega
          have hjl : j < (natl l).length := by unfold natl; simp; omega
          have hil2 : i < (natl l).length := by unfold natl; simp; omega
          have := (List.getElem_inj hnd2 (h₀ := hjl) (h₁ := hil2)).1 (by simp only [natl, List.getElem_map, e])
          omega
      · rw [decide_eq_false fun p => h (by have := p.1 _ (List.getElem_mem hil); omega)]
        exact Ev.step (f := fun _ => some false) (fun k => by rw [e1, if_neg h]) (Ev.now _)
  exact main l.length 0 (by omega) (by simp) (by simp [natl])
theorem sub_bit (a b j : Nat) (ha : a < 4294967296) (hb : b < 4294967296) : (a &&& (4294967295 - b)).testBit j = (a.testBit j && !b.testBit j) := by
 have e : 4294967295 - b = 2 ^ 32 - (b + 1) := by omega
 rw [Nat.testBit_and, e, Nat.testBit_two_pow_sub_succ hb]
 by_cases hj : j < 32
 ·simp [hj]
 ·have : a.testBit j = false := Nat.testBit_lt_two_pow (Nat.lt_of_lt_of_le ha (by rw [show (4294967296 : Nat) = 2 ^ 32 from rfl]; exact Nat.pow_le_pow_right (by omega) (by omega)))
  rw [this]; simp
def CliqueL (g : List Nat) (s : Nat) (l : List Nat) : Prop := ∀ x ∈ l, ∀ j, s.testBit j = true → x ≠ j → ad g x j = true
def CliqueS (g : List Nat) (s : Nat) : Prop := ∀ i j, s.testBit i = true → s.testBit j = true → i ≠ j → ad g i j = true
theorem gclique_ev (g : List Nat) (G : Gr g) (s : Nat) (hs : s < 4294967296) (hsg : ∀ j, s.testBit j = true → j < g.length) : Ev (fun k => rib_graph_clique.f k (il g) (s : Int)) (decide (CliqueS g s)) := by
  have hlen : (nd s).length ≤ 32 := by unfold nd; exact Nat.le_trans (List.length_filter_le _ _) (by simp)
  have main : ∀ (d i : Nat), i + d = (nd s).length → Ev (fun k => rib_graph_clique.l0 k (il g) (s : Int) (il (nd s)) ((nd s).length : Int) (i : Int)) (decide (CliqueL g s ((nd s).drop i))) := by
    intro d
    induction d with
    | zero =>
      intro i hi
      rw [List.drop_eq_nil_of_le (by omega), decide_eq_true (show CliqueL g s [] from fun x hx => by cases hx)]
      refine Ev.step (f := fun _ => some true) (fun k => ?_) (Ev.now _)
      simp only [rib_graph_clique.l0]
      rw [if_neg (by omega)]
    | succ d ih =>
      intro i hi
      have hil : i < (nd s).length := by omega
      have hx : s.testBit (nd s)[i] = true := (mem_nd hs).1 (List.getElem_mem hil)
      have hxg := hsg _ hx
      have hx32 : (nd s)[i] < 32 := by have := G.le; omega
      have hgu := G.u32 (nd s)[i]
      have e0 : Go.bits .andNot .u32 (Go.bits .andNot .u32 (s : Int) ((2 ^ (nd s)[i] : Nat) : Int)) ((g.getD (nd s)[i] 0 : Nat) : Int) = (((s &&& (4294967295 - 2 ^ (nd s)[i])) &&& (4294967295 - g.getD (nd s)[i] 0) : Nat) : Int) := by
        rw [u32_andNot_nat _ _ hs (pow_u32 hx32), u32_andNot_nat _ _ (and_u32 hs) hgu]
      have e1 : ∀ k, rib_graph_clique.l0 (k + 1) (il g) (s : Int) (il (nd s)) ((nd s).length : Int) (i : Int) = if ((((s &&& (4294967295 - 2 ^ (nd s)[i])) &&& (4294967295 - g.getD (nd s)[i] 0) : Nat)) : Int) = 0 then rib_graph_clique.l0 k (il g) (s : Int) (il (nd s)) ((nd s).length : Int) ((i + 1 : Nat) : Int) else some false := by
        intro k
        simp only [rib_graph_clique.l0]
        rw [if_pos (by omega), if_pos (by omega), il_len, if_pos (by omega), rd_nat_get _ _ hil, one_nat _ hx32, Option.bind_some, if_pos (by omega), il_len, if_pos (by omega), il_rd _ _ hxg, e0, wrap_up i (by omega)]
      have hz : (((s &&& (4294967295 - 2 ^ (nd s)[i])) &&& (4294967295 - g.getD (nd s)[i] 0) : Nat) = 0) ↔ ∀ j, s.testBit j = true → (nd s)[i] ≠ j → ad g (nd s)[i] j = true := by
        have hb : ∀ j, ((s &&& (4294967295 - 2 ^ (nd s)[i])) &&& (4294967295 - g.getD (nd s)[i] 0)).testBit j = ((s.testBit j && decide ((nd s)[i] ≠ j)) && !ad g (nd s)[i] j) := fun j => by
          rw [sub_bit _ _ _ (and_u32 hs) hgu, strike_bit _ _ _ hs hx32]; rfl
        constructor
        · intro h j hj hne
          have := hb j
          rw [h, hj] at this
          simpa [hne] using this
        · intro h
          apply zero_of
          intro j
          rw [hb j]
          by_cases h1 : s.testBit j = true
          · by_cases h2 : (nd s)[i] = j
            · simp [h2]
            · rw [h j h1 h2]; simp
          · simp [h1]
      rw [List.drop_eq_getElem_cons hil]
      by_cases hc : ∀ j, s.testBit j = true → (nd s)[i] ≠ j → ad g (nd s)[i] j = true
      · rw [show decide (CliqueL g s ((nd s)[i] :: (nd s).drop (i + 1))) = decide (CliqueL g s ((nd s).drop (i + 1))) from decide_eq_decide.2 ⟨fun h x hx => h x (List.mem_cons_of_mem _ hx), fun h x hx => by
          rcases List.mem_cons.1 hx with rfl | hx
          · exact hc
          · exact h x hx⟩]
        refine Ev.step (fun k => ?_) (ih (i + 1) (by omega))
        rw [e1, if_pos (by have := hz.2 hc; omega)]
      · rw [decide_eq_false (p := CliqueL g s ((nd s)[i] :: (nd s).drop (i + 1))) fun h => hc (h _ List.mem_cons_self)]
        refine Ev.step (f := fun _ => some false) (fun k => ?_) (Ev.now _)
        rw [e1, if_neg (fun h => hc (hz.1 (by omega)))]
  have h := main (nd s).length 0 (by omega)
  rw [List.drop_zero] at h
  rw [show decide (CliqueS g s) = decide (CliqueL g s (nd s)) from decide_eq_decide.2 ⟨fun h x hx j hj hne => h x j ((mem_nd hs).1 hx) hj hne, fun h i j hi hj hne => h i ((mem_nd hs).2 hi) j hj hne⟩]
  obtain ⟨K, hK⟩ := h
  refine ⟨K + 40, fun k hk => ?_⟩
  have a1 := hK k (by omega)
  dsimp only at a1
  show rib_graph_clique.f k (il g) (s : Int) = _
  unfold rib_graph_clique.f
  rw [list_f _ _ (by omega), Option.bind_some, nodes_nat _ hs, il_len]
  exact a1
def ElimP (es : List S52) : List Nat → Prop
  | [] => True
  | v :: o => Simp es o v ∧ ElimP es o
theorem elim_ref (es : List S52) (hes : es.length < 2 ^ 50) (o : List Nat) (ho : o.length < 2 ^ 30) (hnd : o.Nodup) : Ev (fun k => gampref04_Eliminates.f k es (il o)) (decide (ElimP es o)) := by
 have main : ∀ (d i : Nat), i + d = o.length → Ev (fun k => gampref04_Eliminates.l0 k es (il o) (i : Int)) (decide (ElimP es (o.drop i))) := by
  intro d
  induction d with
  | zero =>
   intro i hi
   rw [List.drop_eq_nil_of_le (by omega), decide_eq_true (show ElimP es [] from trivial)]
   refine Ev.step (f := fun _ => some true) (fun k => ?_) (Ev.now _)
   simp only [gampref04_Eliminates.l0]
   rw [il_len, if_neg (by omega)]
  | succ d ih =>
   intro i hi
   have hil : i < o.length := by omega
   have ih2 := ih (i + 1) (by omega)
   rw [List.drop_eq_getElem_cons hil]
   have inner : ∀ (d j : Nat) (acc : List Nat), j + d = o.length → i + 1 ≤ j → acc = ((o.take j).drop (i + 1)).filter (adjE es o[i] ·) → Ev (fun k => gampref04_Eliminates.l1 k es (il o) (i : Int) (il acc) (j : Int)) (decide (ElimP es (o[i] :: o.drop (i + 1)))) := by
    intro d
    induction d with
    | zero =>
     intro j acc hj hij hacc
     rw [List.take_of_length_le (by omega)] at hacc
     have hnd2 : (o.drop (i + 1)).Nodup := hnd.sublist (List.drop_sublist _ _)
     have hla : acc.length ≤ o.length := by rw [hacc]; exact Nat.le_trans (List.length_filter_le _ _) (by rw [List.length_drop]; omega)
     have ev := clique_ev es hes (il acc) (by rw [il_len]; omega)
     have hiff : AllPr (nr es) (il acc) ↔ Simp es (o.drop (i + 1)) o[i] := by
      rw [allPr_iff es acc (by rw [hacc]; exact hnd2.sublist List.filter_sublist), hacc]
      unfold Simp
      constructor
      ·exact fun h a b ha hb haa hab hne => h a b (List.mem_filter.2 ⟨ha, haa⟩) (List.mem_filter.2 ⟨hb, hab⟩) hne
      ·exact fun h a b ha hb hne => h a b (List.mem_filter.1 ha).1 (List.mem_filter.1 hb).1 (List.mem_filter.1 ha).2 (List.mem_filter.1 hb).2 hne
     obtain ⟨K1, h1⟩ := ev
     obtain ⟨K2, h2⟩ := ih2
     refine ⟨K1 + K2 + 1, fun k hk => ?_⟩
     obtain ⟨k, rfl⟩ : ∃ j, k = j + 1 := ⟨k - 1, by omega⟩
     have a1 := h1 k (by omega)
     have a2 := h2 k (by omega)
     dsimp only at a1 a2
     simp only [gampref04_Eliminates.l1]
     rw [il_len, if_neg (by omega), a1, Option.bind_some, wrap_up i (by omega), a2]
     by_cases hs : Simp es (o.drop (i + 1)) o[i]
     ·rw [if_pos (decide_eq_true (hiff.2 hs))]
      congr 1
      exact decide_eq_decide.2 ⟨fun h => ⟨hs, h⟩, fun h => h.2⟩
     ·rw [if_neg (by simpa using fun h => hs (hiff.1 h))]
      congr 1
      exact (decide_eq_false fun h => hs h.1).symm
    | succ d ihj =>
     intro j acc hj hij hacc
     have hjl : j < o.length := by omega
     have hla : acc.length ≤ o.length := by rw [hacc]; exact Nat.le_trans (List.length_filter_le _ _) (by rw [List.length_drop, List.length_take]; omega)
     have ev := near_ev es hes (o[i] : Int) (o[j] : Int)
     have hstep : ((o.take (j + 1)).drop (i + 1)).filter (adjE es o[i] ·) = if adjE es o[i] o[j] = true then acc ++ [o[j]] else acc := by
      rw [List.take_succ_eq_append_getElem hjl, List.drop_append_of_le_length (by rw [List.length_take]; omega), List.filter_append, hacc]
      by_cases hn : adjE es o[i] o[j] = true
      ·rw [if_pos hn]; simp [hn]
      ·rw [if_neg hn]; simp [hn]
     have ih3 := ihj (j + 1) _ (by omega) (by omega) hstep.symm
     obtain ⟨K1, h1⟩ := ev
     obtain ⟨K2, h2⟩ := ih3
     refine ⟨K1 + K2 + 1, fun k hk => ?_⟩
     obtain ⟨k, rfl⟩ : ∃ j, k = j + 1 := ⟨k - 1, by omega⟩
     have a1 := h1 k (by omega)
     have a2 := h2 k (by omega)
     dsimp only at a1 a2
     simp only [gampref04_Eliminates.l1]
     rw [il_len, if_pos (by omega), if_pos (by omega), if_pos (by omega), if_pos (by omega), rd_nat_get _ _ hil, rd_nat_get _ _ hjl, a1, Option.bind_some, il_len, wrap_up j (by omega)]
     by_cases hn : adjE es o[i] o[j] = true
     ·rw [if_pos (show nr es o[i] o[j] = true from hn), if_pos (by omega), show il acc ++ [(o[j] : Int)] = il (acc ++ [o[j]]) by rw [il_app]; rfl]
      rw [if_pos hn] at a2; exact a2
     ·rw [if_neg (show ¬ nr es o[i] o[j] = true from hn)]
      rw [if_neg hn] at a2; exact a2
   refine Ev.step (fun k => ?_) (inner (o.length - (i + 1)) (i + 1) [] (by omega) (by omega) (by rw [List.drop_eq_nil_of_le (by rw [List.length_take]; omega)]; rfl))
   simp only [gampref04_Eliminates.l0]
   rw [il_len, if_pos (by omega), wrap_up i (by omega)]
   rfl
 have h := main o.length 0 (by omega)
 rw [List.drop_zero] at h
 exact h
end Go.Proofs.Ytdpolfflemocaaa.Pure

/- The declarations of Iu that the claim Qy needs. -/
import Derived.Test.YtdpolfflemocaaaQyIt
import Derived.Test.YtdpolfflemocaaaQyRxx15
namespace Go.Proofs.Ytdpolfflemocaaa.Pure
open Go Go.RowKit Go.Proofs.YtdpolfflemocaaaW.PrintWords Go.Proofs.YtdpolfflemocaaaW.PrintLast Go.Proofs.YtdpolfflemocaaaW.PrintMore Go.Proofs.Ytdpolfflemocaaa.Cl Go.Proofs.Ytdpolfflemocaaa.Own Go.Proofs.Ytdpolfflemocaaa.Rx
set_option linter.unusedVariables false
set_option linter.unusedSimpArgs false
open Classical
def edg (tree : List S52) : List (Nat × Nat) := tree.map fun e => (fa e, fb e)
theorem forest_of {m : Nat} : ∀ {tree : List S52} {nm : List Nat} {pre : List (Nat × Nat)} {f : Nat → Nat}, AccT m nm tree → nm.length = m → Tr.Forest m pre f → (∀ k, k < m → f k = nm.getD k 0) → ∃ f', Tr.Forest m (pre ++ edg tree) f'
 | [], nm, pre, f, _, _, hf, _ => ⟨f, by simpa [edg] using hf⟩
 | e :: tree, nm, pre, f, h, hl, hf, hv => by
  obtain ⟨h1, h2⟩ := h
  have ha : fa e < m := by have := h1.1; have := h1.2.1; have := h1.2.2.1; unfold fa; omega
  have hb : fb e < m := by have := h1.1; have := h1.2.1; have := h1.2.2.1; unfold fb; omega
  have hf2 := Tr.Forest.snoc hf ha hb (by rw [hv _ ha, hv _ hb]; exact h1.2.2.2)
  obtain ⟨f', hf'⟩ := forest_of (tree := tree) (nm := renE nm e) h2 (by unfold renE; rw [ren_len]; exact hl) hf2 (fun k hk => by
   unfold renE
   rw [ren_get _ _ _ _ (by omega), hv k hk, hv _ ha, hv _ hb])
  exact ⟨f', by simpa [edg] using hf'⟩
theorem countP_getD (M : List Nat) (p : Nat → Bool) : M.countP p = (List.range M.length).countP fun i => p (M.getD i 0) := by
 have h : M = (List.range M.length).map fun i => M.getD i 0 := by
  apply List.ext_getElem (by simp)
  intro i h1 h2
  simp [h1]
 rw [show M.countP p = ((List.range M.length).map fun i => M.getD i 0).countP p by rw [← h], List.countP_map]
 rfl
theorem clique_grow (es : List S52) (n : Nat) : ∀ (d t : Nat), 2 ^ n - t ≤ d → t < 2 ^ n → (∀ i j, t.testBit i = true → t.testBit j = true → i ≠ j → adjE es i j = true) → ∃ s, MaxCl es n s ∧ ∀ i, t.testBit i = true → s.testBit i = true := by
  intro d
  induction d with
  | zero => intro t h1 h2; omega
  | succ d ih =>
    intro t h1 h2 h3
    by_cases hm : MaxCl es n t
    · exact ⟨t, hm, fun i hi => hi⟩
    · have : ∃ j, j < n ∧ t.testBit j = false ∧ ∀ i, t.testBit i = true → adjE es i j = true := by
        apply Classical.byContradiction
        intro hno
        refine hm ⟨h2, h3, fun j hj hjt => ?_⟩
        apply Classical.byContradiction
        intro hn
        refine hno ⟨j, hj, hjt, fun i hi => ?_⟩
        cases h : adjE es i j
        · exact absurd ⟨i, hi, h⟩ hn
        · rfl
      obtain ⟨j, hj, hjt, hja⟩ := this
      have hb : ∀ i, (t ||| 2 ^ j).testBit i = (t.testBit i || decide (j = i)) := fun i => by rw [Nat.testBit_or, Nat.testBit_two_pow]
      have hlt : t ||| 2 ^ j < 2 ^ n := Nat.or_lt_two_pow h2 (Nat.pow_lt_pow_right (by omega) hj)
      have hgt : t < t ||| 2 ^ j := by
        have h4 : t ≤ t ||| 2 ^ j := Nat.left_le_or
        have h5 : t ≠ t ||| 2 ^ j := fun e => by
          have := hb j
          rw [← e, hjt] at this
          simp at this
        omega
      obtain ⟨s, hs, hsub⟩ := ih (t ||| 2 ^ j) (by omega) hlt (fun a b ha hb' hab => by
        rw [hb] at ha hb'
        by_cases e1 : j = a
        · subst e1
          rw [adjE_symm]
          exact hja b (by simpa [hab] using hb')
        · by_cases e2 : j = b
          · subst e2
            exact hja a (by simpa [e1] using ha)
          · exact h3 a b (by simpa [e1] using ha) (by simpa [e2] using hb') hab)
      exact ⟨s, hs, fun i hi => hsub i (by rw [hb, hi]; rfl)⟩
/-- Two neighbours are in some maximal clique. -/
theorem edge_in (es : List S52) (n u v : Nat) (hu : u < n) (hv : v < n) (huv : u ≠ v) (h : adjE es u v = true) : ∃ s, MaxCl es n s ∧ s.testBit u = true ∧ s.testBit v = true := by
 have hb : ∀ i, (2 ^ u ||| 2 ^ v).testBit i = (decide (u = i) || decide (v = i)) := fun i => by rw [Nat.testBit_or, Nat.testBit_two_pow, Nat.testBit_two_pow]
 have hlt : 2 ^ u ||| 2 ^ v < 2 ^ n := Nat.or_lt_two_pow (Nat.pow_lt_pow_right (by omega) hu) (Nat.pow_lt_pow_right (by omega) hv)
 obtain ⟨s, hs, hsub⟩ := clique_grow es n (2 ^ n) (2 ^ u ||| 2 ^ v) (by omega) hlt (fun i j hi hj hij => by
  rw [hb] at hi hj
  simp only [Bool.or_eq_true, decide_eq_true_eq] at hi hj
  rcases hi with rfl | rfl <;> rcases hj with rfl | rfl
  ·exact absurd rfl hij
  ·exact h
  ·rw [adjE_symm]; exact h
  ·exact absurd rfl hij)
 exact ⟨s, hs, hsub u (by rw [hb]; simp), hsub v (by rw [hb]; simp)⟩
/-- A graph with a clique tree is chordal (G4). -/
theorem tree_chordal (es : List S52) (n : Nat) (M : List Nat) (hM : ∀ t, t ∈ M ↔ MaxCl es n t) (tree : List S52) (h : TreeOk n M tree) : (elim es n (List.range n)).isSome = true := by
  obtain ⟨_, hacc, hcnt⟩ := h
  obtain ⟨f, hf⟩ := forest_of (pre := []) (f := id) hacc (by simp) Tr.Forest.nil (fun k hk => by simp [hk])
  rw [List.nil_append] at hf
  refine elim_some es n (fun left hne hnd hlt => ?_) n _ List.nodup_range (fun v hv => List.mem_range.1 hv)
  obtain ⟨v0, hv0⟩ := List.exists_mem_of_ne_nil _ hne
  have hget : ∀ i, i < M.length → MaxCl es n (M.getD i 0) := fun i hi => (hM _).1 (by rw [show M.getD i 0 = M[i] by simp [hi]]; exact List.getElem_mem _)
  have hrng := hacc.rng
  have key := Tr.simplicial M.length (edg tree) (fun e he => by
      obtain ⟨x, hx, rfl⟩ := List.mem_map.1 he
      have := hrng x hx
      unfold fa fb
      simp only
      omega) hf.few (fun i v => (M.getD i 0).testBit v) (adjE es) (fun i u v hi hu hv huv => (hget i hi).2.1 u v hu hv huv) (fun v => decide (v ∈ left)) v0 (decide_eq_true hv0) (Tr.N M.length fun i => decide (i < M.length)) (fun i => decide (i < M.length)) rfl (fun i hi => by simpa using hi)
    (fun v hv => ?_) (fun u v hu hv huv huva => ?_)
  · obtain ⟨v, hv, hs⟩ := key
    have hv' : v ∈ left := by simpa using hv
    refine ⟨v, hv', fun a b ha hb haa hab hne => hs a b (decide_eq_true ha) (decide_eq_true hb) (fun e => ?_) (fun e => ?_) hne haa hab⟩
    · subst e; rw [adjE_irr] at haa; cases haa
    · subst e; rw [adjE_irr] at hab; cases hab
  · have hv' : v < n := hlt v (by simpa using hv)
    have hc := hcnt v hv'
    have e1 : Tr.N M.length (fun i => decide (i < M.length) && (M.getD i 0).testBit v) = cntM M v := by
      unfold Tr.N cntM
      rw [countP_getD M (·.testBit v)]
      apply List.countP_congr
      intro i hi
      simp [List.mem_range.1 hi]
    have e2 : Tr.E (edg tree) (fun i => decide (i < M.length) && (M.getD i 0).testBit v) = prsM M tree v := by
      unfold Tr.E prsM edg
      rw [List.countP_map]
      apply List.countP_congr
      intro e he
      have := hrng e he
      have h1 : fa e < M.length := by unfold fa; omega
      have h2 : fb e < M.length := by unfold fb; omega
      simp [h1, h2]
    refine ⟨?_, by rw [e1, e2]; omega⟩
    have hpos : 0 < cntM M v := by omega
    obtain ⟨t, ht, htv⟩ := List.countP_pos_iff.1 hpos
    obtain ⟨i, hi, rfl⟩ := List.getElem_of_mem ht
    exact ⟨i, decide_eq_true hi, by simpa [hi] using htv⟩
  · have hu' : u ∈ left := by simpa using hu
    have hv' : v ∈ left := by simpa using hv
    obtain ⟨s, hs, hsu, hsv⟩ := edge_in es n u v (hlt u hu') (hlt v hv') huv huva
    obtain ⟨i, hi, rfl⟩ := List.getElem_of_mem ((hM s).2 hs)
    exact ⟨i, decide_eq_true hi, by simpa [hi] using hsu, by simpa [hi] using hsv⟩
/-- RibIsTrees: IsTree reports whether any pairs are a clique tree, or ErrArg; of a graph that is not chordal none are (G4). -/
theorem ribIsTrees_ev (n : Int) (es tr : List S52) : Ev (fun k => gamplaw04_RibIsTrees.f k n es tr) true := by
 have hl : (es.take 70).length ≤ 70 := List.length_take_le _ _
 have hl5 : (es.take 70).length < 2 ^ 50 := by omega
 have hl2 : (tr.take 14).length ≤ 14 := List.length_take_le _ _
 have evg := graph_ev (fewN n) (es.take 70) hl5
 have h1 : 0 ≤ mn (tr.length : Int) 14 := by unfold mn; split <;> omega
 have h2 : mn (tr.length : Int) 14 ≤ (tr.length : Int) := by unfold mn; split <;> omega
 have h3 : tr.take (mn (tr.length : Int) 14).toNat = tr.take 14 := by
  unfold mn
  split
  ·rfl
  ·rw [List.take_of_length_le (by omega), List.take_of_length_le (by omega)]
 have h4 : ([] : List S52).length + (tr.take 14).length < 8796093022208 := by rw [List.length_nil]; omega
 obtain ⟨Kl, hKl⟩ := lives_ev
 by_cases v : Valid (fewN n) (es.take 70)
 ·rw [decide_eq_true v] at evg
  obtain ⟨m, hm⟩ : ∃ m : Nat, fewN n = m := ⟨(fewN n).toNat, by have := v.lo; omega⟩
  rw [hm] at v evg
  have hm12 := v.hi
  obtain ⟨g, evr, G, hgl, hga⟩ := read_ok m (es.take 70) hl5 v
  obtain ⟨M, evM, hs, hmem, hb⟩ := maximal_ev g G (es.take 70) hga (by omega)
  rw [hgl] at hmem
  obtain ⟨R, e1, hR, e2⟩ := cliques_prog m (es.take 70) hl5 v
  have hRM : R = M.map fun t => il (nd t) := by
   refine sorted_eq hR.ord hs fun x => ?_
   rw [hR.mem, List.mem_map]
   constructor
   ·rintro ⟨t, _, _, rfl, ht⟩; exact ⟨t, (hmem t).2 ht, rfl⟩
   ·rintro ⟨t, ht, rfl⟩
    have h5 := (hmem t).1 ht
    refine ⟨t, ?_, h5.1, rfl, h5⟩
    apply Classical.byContradiction
    intro h0
    obtain rfl : t = 0 := by omega
    have hlo := v.lo
    obtain ⟨i, hi, _⟩ := h5.2.2 0 (by omega) (by simp)
    simp at hi
  have hMl : M.length < 2 ^ 40 := by
   have h6 := hR.len
   rw [hRM, List.length_map] at h6
   have h7 : 2 ^ m ≤ 2 ^ 12 := Nat.pow_le_pow_right (by omega) (by omega)
   omega
  rw [hRM] at e1
  have evT := tree_ev m (by omega) (es.take 70) M hb hMl (tr.take 14) (by omega) e1
  have evI := isTree_ev m (by omega) (es.take 70) g M hb hMl (tr.take 14) (by omega) evr evM
  have evC := chordal_ev m (by omega) (es.take 70) hl5
  have hch : TreeOk m M (tr.take 14) → (elim (es.take 70) m (List.range m)).isSome = true := fun h => tree_chordal (es.take 70) m M hmem _ h
  obtain ⟨K1, k1⟩ := evT
  obtain ⟨K2, k2⟩ := evI
  obtain ⟨K3, k3⟩ := evC
  obtain ⟨K4, k4⟩ := evg
  refine ⟨K1 + K2 + K3 + K4 + Kl, fun k hk => ?_⟩
  have a1 := k1 k (by omega)
  have a2 := k2 k (by omega)
  have a3 := k3 k (by omega)
  have a4 := k4 k (by omega)
  have a5 := hKl k (by omega)
  dsimp only at a1 a2 a3 a4 a5
  show gamplaw04_RibIsTrees.f k n es tr = some true
  unfold gamplaw04_RibIsTrees.f
  rw [few_f, Option.bind_some, hm, Option.bind_some, if_pos h1, if_pos h2, h3, Option.bind_some, if_pos h4, Option.bind_some, List.nil_append]
  dsimp only
  rw [a2, Option.bind_some, a4, Option.bind_some, if_pos rfl, a1, Option.bind_some]
  dsimp only
  have hT : decide ((↑(tr.take 14).length : Int) = (M.length : Int) - 1 ∧ AccT M.length (List.range M.length) (tr.take 14) ∧ CntT m M (tr.take 14)) = decide (TreeOk m M (tr.take 14)) := decide_eq_decide.2 Iff.rfl
  rw [hT]
  by_cases h : TreeOk m M (tr.take 14)
  ·rw [decide_eq_true h, if_pos (by simp), if_pos rfl, a3, Option.bind_some, if_pos (hch h), if_pos rfl, a5]
   rfl
  ·rw [decide_eq_false h, if_pos (by simp), if_neg (by simp), if_pos rfl, a5]
   rfl
 ·rw [decide_eq_false v] at evg
  obtain ⟨K2, k2⟩ := isTree_no (fewN n) (es.take 70) (tr.take 14) hl5 v
  obtain ⟨K4, k4⟩ := evg
  refine ⟨K2 + K4 + Kl, fun k hk => ?_⟩
  have a2 := k2 k (by omega)
  have a4 := k4 k (by omega)
  have a5 := hKl k (by omega)
  dsimp only at a2 a4 a5
  show gamplaw04_RibIsTrees.f k n es tr = some true
  unfold gamplaw04_RibIsTrees.f
  rw [few_f, Option.bind_some, Option.bind_some, if_pos h1, if_pos h2, h3, Option.bind_some, if_pos h4, Option.bind_some, List.nil_append]
  dsimp only
  rw [a2, Option.bind_some, a4, Option.bind_some, if_neg (by simp)]
  dsimp only
  rw [if_neg (by simp), if_pos rfl, a5]
  rfl
end Go.Proofs.Ytdpolfflemocaaa.Pure

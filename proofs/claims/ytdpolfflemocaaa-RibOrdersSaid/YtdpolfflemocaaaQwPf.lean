/- The declarations of Pf that the claim Qw needs. -/
import Derived.Test.YtdpolfflemocaaaQwPe
import Derived.Test.YtdpolfflemocaaaQwR0
import Derived.Test.YtdpolfflemocaaaQwRxx0
import Derived.Test.YtdpolfflemocaaaQwRxx2
import Derived.Test.YtdpolfflemocaaaQwRxx3
import Derived.Test.YtdpolfflemocaaaQwRxx4
import Derived.Test.YtdpolfflemocaaaQwRxx5
import Derived.Test.YtdpolfflemocaaaQwRxx8
namespace Go.Proofs.Ytdpolfflemocaaa.Pure
open Go Go.RowKit Go.Proofs.YtdpolfflemocaaaW.PrintWords Go.Proofs.YtdpolfflemocaaaW.PrintLast Go.Proofs.YtdpolfflemocaaaW.PrintMore Go.Proofs.Ytdpolfflemocaaa.Cl Go.Proofs.Ytdpolfflemocaaa.Own Go.Proofs.Ytdpolfflemocaaa.Rx
set_option linter.unusedVariables false
set_option linter.unusedSimpArgs false
open Classical
theorem Ev.uniq {α : Type} {g : Nat → Option α} {a b : α} (h1 : Ev g a) (h2 : Ev g b) : a = b := by
 obtain ⟨K1, h1⟩ := h1
 obtain ⟨K2, h2⟩ := h2
 have e1 := h1 (K1 + K2) (by omega)
 have e2 := h2 (K1 + K2) (by omega)
 rw [e1] at e2
 exact Option.some.inj e2
theorem all_f (g : List Nat) (h : g.length ≤ 31) : rib_graph_all.f (il g) = some ((2 ^ g.length - 1 : Nat) : Int) := by
 unfold rib_graph_all.f
 rw [il_len, one_nat _ (by omega), Option.bind_some]
 have hp := pow_u32 (show g.length < 32 by omega)
 have h1 : 1 ≤ 2 ^ g.length := Nat.pos_of_ne_zero (by simp)
 generalize 2 ^ g.length = p at *
 congr 1
 omega
theorem all_bit (n j : Nat) : (2 ^ n - 1).testBit j = decide (j < n) := Nat.testBit_two_pow_sub_one n j
theorem lt_pow_iff (t n : Nat) : t < 2 ^ n ↔ ∀ j, t.testBit j = true → j < n := by
 constructor
 ·intro h j hj
  apply Classical.byContradiction
  intro hn
  rw [Nat.testBit_lt_two_pow (Nat.lt_of_lt_of_le h (Nat.pow_le_pow_right (by omega) (by omega)))] at hj
  cases hj
 ·intro h
  apply Nat.lt_pow_two_of_testBit
  intro j hj
  cases hb : t.testBit j
  ·rfl
  ·have := h j hb; omega
theorem leS_iff (x y : Nat) (hx : x < 4294967296) (hy : y < 4294967296) : leS (x : Int) (y : Int) = true ↔ ¬ ltL (il (nd y)) (il (nd x)) := by
 unfold leS ltL
 rw [nodes_nat _ hx, nodes_nat _ hy]
 simp
/-- The maximal cliques of a graph, sorted. -/
theorem maximal_ev (g : List Nat) (G : Gr g) (es : List S52) (ha : ∀ a b : Nat, ad g a b = nr es a b) (hg : g.length ≤ 20) : ∃ M : List Nat, Ev (fun k => rib_maximal.f k (il g)) (il M) ∧ (M.map fun t => il (nd t)).Pairwise ltL ∧ (∀ t, t ∈ M ↔ MaxCl es g.length t) ∧ ∀ t ∈ M, t < 4294967296 := by
  have hp31 : 2 ^ g.length ≤ 2 ^ 20 := Nat.pow_le_pow_right (by omega) hg
  obtain ⟨r, ev, f, l, b⟩ := cliques_ev g G ((nd (2 ^ g.length - 1)).length + 1) 0 (2 ^ g.length - 1) 0 (by omega) (by omega) (by omega) (by omega) (fun j hj => by rw [all_bit] at hj; simpa using hj) (fun j hj => by simp at hj)
  have hmem : ∀ t, t ∈ r ↔ MaxCl es g.length t := by
    intro t
    rw [f.mem]
    have key : Cl.Good (ad g) (2 ^ g.length - 1) 0 t ↔ MaxCl es g.length t := by
      unfold Cl.Good MaxCl
      rw [lt_pow_iff]
      constructor
      · rintro ⟨h1, h2, h3⟩
        refine ⟨fun j hj => by have := h1 j hj; rw [all_bit] at this; simpa using this, fun i j hi hj hij => by have := h2 i j hi hj hij; rw [ha] at this; exact this, fun j hj hjt => ?_⟩
        obtain ⟨i, hi, hij⟩ := h3 j (Or.inl (by rw [all_bit]; simpa using hj)) hjt
        exact ⟨i, hi, by rw [ha] at hij; exact hij⟩
      · rintro ⟨h1, h2, h3⟩
        refine ⟨fun j hj => by rw [all_bit]; simpa using h1 j hj, fun i j hi hj hij => by rw [ha]; exact h2 i j hi hj hij, fun j hj hjt => ?_⟩
        obtain ⟨i, hi, hij⟩ := h3 j (by rcases hj with hj | hj; · rw [all_bit] at hj; simpa using hj
                                        · simp at hj) hjt
        exact ⟨i, hi, by rw [ha]; exact hij⟩
    constructor
    · rintro ⟨s, e, h, _⟩
      have e2 : t = s := by rw [e]; simp
      subst e2; exact key.1 h
    · intro h
      exact ⟨t, by simp, key.2 h, fun h => by cases h⟩
  -- sorted
  obtain ⟨M, hM⟩ : ∃ M : List Nat, sortS (il r) = il M ∧ ∀ t, t ∈ M ↔ t ∈ r := by
    have hperm : (sortS (il r)).Perm (il r) := List.mergeSort_perm _ _
    refine ⟨(sortS (il r)).map Int.toNat, ?_, fun t => ?_⟩
    · show sortS (il r) = ((sortS (il r)).map Int.toNat).map fun i : Nat => (i : Int)
      rw [List.map_map]
      have : ∀ x ∈ sortS (il r), ((fun i : Nat => (i : Int)) ∘ Int.toNat) x = x := by
        intro x hx
        obtain ⟨y, _, rfl⟩ := List.mem_map.1 (hperm.mem_iff.1 hx)
        simp
      rw [List.map_congr_left this]; simp
    · rw [List.mem_map]
      constructor
      · rintro ⟨x, hx, rfl⟩
        obtain ⟨y, hy, rfl⟩ := List.mem_map.1 (hperm.mem_iff.1 hx)
        simpa using hy
      · intro ht
        exact ⟨(t : Int), hperm.mem_iff.2 (List.mem_map.2 ⟨t, ht, rfl⟩), by simp⟩
  have hMb : ∀ t ∈ M, t < 4294967296 := fun t ht => b t ((hM.2 t).1 ht)
  refine ⟨M, ?_, ?_, fun t => (hM.2 t).trans (hmem t), hMb⟩
  · refine Ev.congr (g := fun k => rib_maximal.f k (il g)) (f := fun k => (rib_graph_cliques.f k (il g) ((0 : Nat) : Int) ((2 ^ g.length - 1 : Nat) : Int) ((0 : Nat) : Int)).bind fun r => if r.all isSet = true then (if r.length < 4611686018427387904 then some (sortS r) else none) else none) (fun k => ?_) ?_
    · unfold rib_maximal.f
      rw [all_f g (by omega), Option.bind_some]; rfl
    · refine Ev.bind (f := fun _ r => if r.all isSet = true then (if r.length < 4611686018427387904 then some (sortS r) else none) else none) ev ?_
      have h1 : (il r).all isSet = true := by
        rw [List.all_eq_true]
        intro x hx
        obtain ⟨t, ht, rfl⟩ := List.mem_map.1 hx
        have := b t ht
        simp [isSet]; omega
      have h2 : (il r).length < 4611686018427387904 := by
        rw [il_len]
        have h3 : (nd (2 ^ g.length - 1)).length ≤ 32 := by unfold nd; exact Nat.le_trans (List.length_filter_le _ _) (by simp)
        have h4 : 2 ^ (nd (2 ^ g.length - 1)).length ≤ 2 ^ 32 := Nat.pow_le_pow_right (by omega) h3
        have h5 : (2 : Nat) ^ 32 < 4611686018427387904 := by decide
        omega
      refine Ev.congr (fun k => by rw [if_pos h1, if_pos h2, hM.1]) (Ev.now _)
  · -- the nodes of the sorted sets rise
    have hs : (sortS (il r)).Pairwise fun a b => leS a b = true := by
      refine List.pairwise_mergeSort (fun a b c h1 h2 => ?_) (fun a b => ?_) _
      · unfold leS at *
        simp only [Bool.not_eq_true', decide_eq_false_iff_not] at *
        have t1 := cmpL_trans (nodes a) (nodes b) (nodes c)
        have a1 := cmpL_anti (nodes a) (nodes b)
        have a2 := cmpL_anti (nodes b) (nodes c)
        have a3 := cmpL_anti (nodes a) (nodes c)
        have := (t1 (by omega) (by omega)).1
        omega
      · unfold leS
        have a1 := cmpL_anti (nodes a) (nodes b)
        by_cases h : cmpL (nodes b) (nodes a) < 0
        · simp [h]; omega
        · simp [h]
    rw [hM.1] at hs
    have hnd : M.Nodup := by
      have h1 : (il M).Nodup := by
        rw [← hM.1]
        refine (List.mergeSort_perm _ _).nodup_iff.2 ?_
        exact List.Pairwise.map _ (fun a b h e => h (by omega)) f.nodup
      exact List.Pairwise.of_map _ (fun a b h e => h (by rw [e])) h1
    rw [List.pairwise_map]
    have hs2 : M.Pairwise fun (a b : Nat) => leS (a : Int) (b : Int) = true := by
      unfold il at hs; rw [List.pairwise_map] at hs; exact hs
    refine List.Pairwise.imp_of_mem ?_ (List.Pairwise.and hs2 hnd)
    rintro x y hx hy ⟨h1, h2⟩
    have h3 := (leS_iff x y (hMb x hx) (hMb y hy)).1 h1
    exact ltL_tot h3 fun e => h2 (nd_inj (hMb x hx) (hMb y hy) e.symm)
theorem lists_ev (M : List Nat) (hM : ∀ t ∈ M, t < 4294967296) (hl : M.length < 2 ^ 40) : Ev (fun k => rib_lists.f k (il M)) (M.map fun t => il (nd t)) := by
 have main : ∀ (d i : Nat), i + d = M.length → Ev (fun k => rib_lists.l0 k ((M.take i).map fun t => il (nd t)) (il M) (M.length : Int) (i : Int)) (M.map fun t => il (nd t)) := by
  intro d
  induction d with
  | zero =>
   intro i hi
   rw [show M.take i = M from List.take_of_length_le (by omega)]
   refine Ev.step (f := fun _ => some (M.map fun t => il (nd t))) (fun k => ?_) (Ev.now _)
   simp only [rib_lists.l0]
   rw [if_neg (by omega)]
  | succ d ih =>
   intro i hi
   have hlt : i < M.length := by omega
   have r0 : rd (il M) (i : Int) = (M[i] : Int) := by rw [il_rd _ _ hlt]; simp [hlt]
   have hM2 := hM M[i] (List.getElem_mem _)
   obtain ⟨K, hK⟩ := ih (i + 1) (by omega)
   refine ⟨K + 40, fun k hk => ?_⟩
   obtain ⟨k, rfl⟩ : ∃ j, k = j + 1 := ⟨k - 1, by omega⟩
   have a1 := hK k (by omega)
   dsimp only at a1
   simp only [rib_lists.l0]
   rw [if_pos (by omega), if_pos (by omega), il_len, if_pos (by omega), r0, list_f _ _ (by omega), Option.bind_some, nodes_nat _ hM2, List.length_map, List.length_take, if_pos (by omega), wrap_up i (by omega), ← a1, List.take_succ_eq_append_getElem hlt, List.map_append]
   rfl
 have h := main M.length 0 (by omega)
 refine Ev.congr (fun k => ?_) h
 unfold rib_lists.f
 rw [il_len]; rfl
/-- Cliques tells what the reference tells. -/
theorem cliques_prog (n : Nat) (es : List S52) (hes : es.length < 2 ^ 50) (v : Valid n es) : ∃ R, Ev (fun k => gampref04_Cliques.f k (n : Int) es) R ∧ IsCl es n (2 ^ n) R ∧ Ev (fun k => rib_Cliques.f k (n : Int) es) (R, 0) := by
 have hn := v.hi
 obtain ⟨R, evR, hR⟩ := cliques_ref n (by omega) es hes
 obtain ⟨g, evg, G, hgl, hga⟩ := read_ok n es hes v
 obtain ⟨M, evM, hs, hmem, hb⟩ := maximal_ev g G es hga (by omega)
 rw [hgl] at hmem
 have hpos : ∀ t, MaxCl es n t → 1 ≤ t ∧ t < 2 ^ n := by
  intro t ht
  refine ⟨?_, ht.1⟩
  apply Classical.byContradiction
  intro h0
  obtain rfl : t = 0 := by omega
  have hlo := v.lo
  obtain ⟨i, hi, _⟩ := ht.2.2 0 (by omega) (by simp)
  simp at hi
 have hR' : (M.map fun t => il (nd t)) = R := by
  refine sorted_eq hs hR.ord fun x => ?_
  rw [List.mem_map, hR.mem]
  constructor
  ·rintro ⟨t, ht, rfl⟩
   have := (hmem t).1 ht
   exact ⟨t, (hpos t this).1, (hpos t this).2, rfl, this⟩
  ·rintro ⟨t, _, _, rfl, ht⟩
   exact ⟨t, (hmem t).2 ht, rfl⟩
 have hlen : M.length < 2 ^ 40 := by
  have h1 := hR.len
  rw [← hR', List.length_map] at h1
  have h2 : 2 ^ n ≤ 2 ^ 12 := Nat.pow_le_pow_right (by omega) (by omega)
  omega
 refine ⟨R, evR, hR, ?_⟩
 refine Ev.congr (g := fun k => rib_Cliques.f k (n : Int) es) (f := fun k => (rib_read.f k (n : Int) es).bind fun bt114 => (if bt114.2 = true then ((rib_maximal.f k bt114.1).bind fun t118 => ((rib_lists.f k t118).bind fun t121 => (some (t121, 0)))) else (some (([] : List (List Int)), 1)))) (fun k => rfl) ?_
 refine Ev.bind (f := fun k bt114 => (if bt114.2 = true then ((rib_maximal.f k bt114.1).bind fun t118 => ((rib_lists.f k t118).bind fun t121 => (some (t121, (0 : Int))))) else (some (([] : List (List Int)), 1)))) evg ?_
 refine Ev.congr (fun k => if_pos rfl) ?_
 refine Ev.bind (f := fun k t118 => (rib_lists.f k t118).bind fun t121 => (some (t121, (0 : Int)))) evM ?_
 rw [← hR']
 exact Ev.bind (f := fun k t121 => some (t121, (0 : Int))) (lists_ev M hb hlen) (Ev.now _)
def pathE : List S52 := [⟨0, 1⟩, ⟨1, 2⟩]
theorem path_valid : Valid 3 pathE := by
  refine ⟨by decide, by decide, fun i hi => ?_⟩
  simp [pathE] at hi
  match i, hi with
  | 0, _ => exact ⟨by decide, by decide, by decide, fun k hk => by omega⟩
  | 1, _ => exact ⟨by decide, by decide, by decide, fun k hk => by
      obtain rfl : k = 0 := by omega
      decide⟩
theorem lives_ev : Ev (fun k => gamplaw04_lives.f k) true := by
 obtain ⟨R, e1, _, e2⟩ := cliques_prog 3 pathE (by decide) path_valid
 have hR : R = [[0, 1], [1, 2]] := by
  refine Ev.uniq e1 (Ev.of (fun k => gampref04_Cliques.mono _ _ k) (k := 60) ?_)
  decide +kernel
 subst hR
 have e3 : Ev (fun k => rib_Order.f k 3 pathE) ([0, 1, 2], 0) := Ev.of (fun k => rib_Order.mono _ _ k) (k := 200) (by decide +kernel)
 have e4 : Ev (fun k => gampref01_Same.f k [0, 1] [0, 1]) true := Ev.of (fun k => gampref01_Same.mono _ _ k) (k := 20) (by decide +kernel)
 have e5 : Ev (fun k => gampref01_Same.f k [1, 2] [1, 2]) true := Ev.of (fun k => gampref01_Same.mono _ _ k) (k := 20) (by decide +kernel)
 have e6 : Ev (fun k => gampref04_Permutation.f k [0, 1, 2] 3) true := Ev.of (fun k => gampref04_Permutation.mono _ _ k) (k := 60) (by decide +kernel)
 obtain ⟨K2, h2⟩ := e2
 obtain ⟨K3, h3⟩ := e3
 obtain ⟨K4, h4⟩ := e4
 obtain ⟨K5, h5⟩ := e5
 obtain ⟨K6, h6⟩ := e6
 refine ⟨K2 + K3 + K4 + K5 + K6, fun k hk => ?_⟩
 have a2 := h2 k (by omega)
 have a3 := h3 k (by omega)
 have a4 := h4 k (by omega)
 have a5 := h5 k (by omega)
 have a6 := h6 k (by omega)
 dsimp only at a2 a3 a4 a5 a6
 show gamplaw04_lives.f k = some true
 unfold gamplaw04_lives.f
 rw [Option.bind_some]
 rw [show ([(⟨0, 1⟩ : S52), (⟨1, 2⟩ : S52)] : List S52) = pathE from rfl, show (3 : Int) = ((3 : Nat) : Int) from rfl, a2, Option.bind_some]
 rw [show ((3 : Nat) : Int) = 3 from rfl, a3, Option.bind_some]
 dsimp only
 rw [if_pos rfl, if_pos (by decide), if_pos (by decide), show rd_L2 [[0, 1], [1, 2]] 0 = [0, 1] from rfl, a4, Option.bind_some, if_pos rfl, if_pos (by decide), show rd_L2 [[0, 1], [1, 2]] 1 = [1, 2] from rfl, a5, Option.bind_some, if_pos rfl, if_pos rfl, a6]
 rfl
def fewN (n : Int) : Int := if n > 8 then (if n ≤ 12 then 8 else n) else n
theorem few_f (n : Int) (es : List S52) : gamplaw04_few.f n es = some (fewN n, es.take 70) := by
 have h1 : 0 ≤ mn (es.length : Int) 70 := by unfold mn; split <;> omega
 have h2 : mn (es.length : Int) 70 ≤ (es.length : Int) := by unfold mn; split <;> omega
 have h3 : es.take (mn (es.length : Int) 70).toNat = es.take 70 := by
  unfold mn
  split
  ·rfl
  ·rw [List.take_of_length_le (by omega), List.take_of_length_le (by omega)]
 have h4 : (es.take 70).length ≤ 70 := List.length_take_le _ _
 unfold gamplaw04_few.f fewN
 simp only [Option.bind_some, List.nil_append, List.length_nil]
 rw [if_pos h1, if_pos h2, h3, if_pos (by omega)]
 split
 ·split <;> rfl
 ·rfl
end Go.Proofs.Ytdpolfflemocaaa.Pure

/- The declarations of T2 that the claim Qc needs. -/
import Derived.Test.YtdpolfflemocaaaQcT1
import Derived.Test.YtdpolfflemocaaaQcOwx6
import Derived.Test.YtdpolfflemocaaaQcOwx4
import Derived.Test.YtdpolfflemocaaaQcRxx6
import Derived.Test.YtdpolfflemocaaaQcRxx8
import Derived.Laws.BitsLemmas
import Derived.Test.YtdpolfflemocaaaQcR0
import Derived.Test.YtdpolfflemocaaaQcRxx0
import Derived.Test.YtdpolfflemocaaaQcRxx2
import Derived.Test.YtdpolfflemocaaaQcRxx3
import Derived.Test.YtdpolfflemocaaaQcRxx4
import Derived.Test.YtdpolfflemocaaaQcRxx5
import Derived.Test.YtdpolfflemocaaaQcRxx14
import Derived.Test.YtdpolfflemocaaaQcTkP
import Derived.Test.YtdpolfflemocaaaQcRex0
import Derived.Test.YtdpolfflemocaaaQcRxx12
import Derived.Test.YtdpolfflemocaaaQcRwx0
import Derived.Test.YtdpolfflemocaaaQcRwx4
import Derived.Test.YtdpolfflemocaaaQcBc
import Derived.Test.YtdpolfflemocaaaQcT6
import Derived.Test.YtdpolfflemocaaaQcRhx1
namespace Go.Proofs.Ytdpolfflemocaaa.Own
open Go Go.RowKit Go.Proofs.YtdpolfflemocaaaW.PrintWords Go.Proofs.YtdpolfflemocaaaW.PrintLast Go.Proofs.YtdpolfflemocaaaW.PrintMore Go.Proofs.Ytdpolfflemocaaa.Cl
set_option linter.unusedVariables false
def il (l : List Nat) : List Int := l.map fun (i : Nat) => (i : Int)
theorem il_len (l : List Nat) : (il l).length = l.length := by simp [il]
theorem il_rd (l : List Nat) (i : Nat) (h : i < l.length) : rd (il l) (i : Int) = ((l.getD i 0 : Nat) : Int) := by simp [rd, il, h]
theorem il_app (l s : List Nat) : il (l ++ s) = il l ++ il s := by simp [il]
theorem nodesFrom_nat (x : Nat) (hx : x < 4294967296) : ∀ n, n ≤ 32 → nodesFrom (x : Int) n = il (((List.range n).map (32 - n + ·)).filter (x.testBit ·))
 | 0, _ => rfl
 | n + 1, h => by
  have ih := nodesFrom_nat x hx n (by omega)
  have e : (List.range (n + 1)).map (32 - (n + 1) + ·) = (31 - n) :: (List.range n).map (32 - n + ·) := by
   rw [List.range_succ_eq_map, List.map_cons, List.map_map]
   congr 1
   ·omega
   ·apply List.map_congr_left
    intro j hj
    simp only [Function.comp, Nat.succ_eq_add_one]
    omega
  unfold nodesFrom
  rw [e, hasB_nat x (31 - n) hx (by omega), ih]
  by_cases hb : x.testBit (31 - n) = true
  ·rw [if_pos hb, List.filter_cons_of_pos hb]; rfl
  ·rw [if_neg hb, List.filter_cons_of_neg hb]
theorem nodes_nat (x : Nat) (hx : x < 4294967296) : nodes (x : Int) = il (nd x) := by
 unfold nodes nd
 rw [nodesFrom_nat x hx 32 (Nat.le_refl _)]
 simp
theorem one_nat (i : Nat) (hi : i < 32) : rib_one.f (i : Int) = some ((2 ^ i : Nat) : Int) := by
 unfold rib_one.f shl
 rw [if_pos (by omega)]
 have hp : 2 ^ i < 4294967296 := by rw [show (4294967296 : Nat) = 2 ^ 32 from rfl]; exact Nat.pow_lt_pow_right (by omega) hi
 have hm : min ((i : Int).toNat) IntKind.u32.bits = i := by
  rw [show IntKind.u32.bits = 32 from rfl]
  omega
 rw [hm, IntKind.wrap_u32']
 congr 1
 have : (1 : Int) * 2 ^ i = ((2 ^ i : Nat) : Int) := by simp
 rw [this]
 generalize 2 ^ i = p at *
 omega
theorem pow_u32 {i : Nat} (hi : i < 32) : 2 ^ i < 4294967296 := by rw [show (4294967296 : Nat) = 2 ^ 32 from rfl]; exact Nat.pow_lt_pow_right (by omega) hi
theorem or_u32 {a b : Nat} (ha : a < 4294967296) (hb : b < 4294967296) : a ||| b < 4294967296 := Nat.or_lt_two_pow (n := 32) ha hb
theorem and_u32 {a b : Nat} (ha : a < 4294967296) : a &&& b < 4294967296 := Nat.lt_of_le_of_lt Nat.and_le_left ha
theorem strike_bit (a i j : Nat) (ha : a < 4294967296) (hi : i < 32) : (a &&& (4294967295 - 2 ^ i)).testBit j = (a.testBit j && decide (i ≠ j)) := by
 have e : 4294967295 - 2 ^ i = 2 ^ 32 - (2 ^ i + 1) := by omega
 rw [Nat.testBit_and, e, Nat.testBit_two_pow_sub_succ (pow_u32 hi), Nat.testBit_two_pow]
 by_cases hj : j < 32
 ·simp [hj]
 ·have : a.testBit j = false := Nat.testBit_lt_two_pow (Nat.lt_of_lt_of_le ha (by rw [show (4294967296 : Nat) = 2 ^ 32 from rfl]; exact Nat.pow_le_pow_right (by omega) (by omega)))
  rw [this]; simp
def ad (g : List Nat) (i j : Nat) : Bool := (g.getD i 0).testBit j
/-- A table of neighbours that a valid graph has. -/
structure Gr (g : List Nat) : Prop where
  le : g.length ≤ 31
  sz : ∀ i, g.getD i 0 < 2 ^ g.length
  sym : ∀ i j, ad g i j = ad g j i
  irr : ∀ i, ad g i i = false
theorem Gr.u32 {g : List Nat} (h : Gr g) (i : Nat) : g.getD i 0 < 4294967296 := Nat.lt_trans (h.sz i) (pow_u32 (by have := h.le; omega))
theorem Gr.lt {g : List Nat} (h : Gr g) {i j : Nat} (hij : ad g i j = true) : j < g.length := by
 apply Classical.byContradiction
 intro hj
 unfold ad at hij
 rw [Nat.testBit_lt_two_pow (Nat.lt_of_lt_of_le (h.sz i) (Nat.pow_le_pow_right (by omega) (by omega)))] at hij
 cases hij
theorem nd_le {x y : Nat} (h : ∀ j, x.testBit j = true → y.testBit j = true) : (nd x).length ≤ (nd y).length := by
 unfold nd
 rw [← List.countP_eq_length_filter, ← List.countP_eq_length_filter]
 exact List.countP_mono_left fun j _ hj => h j hj
theorem nd_nil {x : Nat} (hx : x < 4294967296) (h : nd x = []) : x = 0 := zero_of fun j => by
 cases hj : x.testBit j
 ·rfl
 ·have := (mem_nd hx).2 hj; rw [h] at this; cases this
theorem cl_step (k : Nat) (g : List Nat) (G : Gr g) (a m nt i idx : Nat) (acc full : List Nat) (hf : full.length ≤ 32) (hidx : idx < full.length) (hfi : full.getD idx 0 = i) (hig : i < g.length) (ha : a < 4294967296) (hm : m < 4294967296) (hn : nt < 4294967296) :
  rib_graph_cliques.l0 (k + 1) (il g) a m nt (il acc) (il full) ((full.length : Nat) : Int) (idx : Int) = (rib_graph_cliques.f k (il g) ((a ||| 2 ^ i : Nat) : Int) ((m &&& g.getD i 0 : Nat) : Int) ((nt &&& g.getD i 0 : Nat) : Int)).bind fun t149 => if (il acc).length + t149.length < 35184372088832 then rib_graph_cliques.l0 k (il g) a ((m &&& (4294967295 - 2 ^ i) : Nat) : Int) ((nt ||| 2 ^ i : Nat) : Int) (il acc ++ t149) (il full) ((full.length : Nat) : Int) ((idx + 1 : Nat) : Int) else none := by
 have hi32 : i < 32 := by have := G.le; omega
 have hw : wrap64 ((idx : Int) + 1) = ((idx + 1 : Nat) : Int) := by unfold wrap64; omega
 have r0 : rd (il full) (idx : Int) = (i : Int) := by rw [il_rd _ _ hidx, hfi]
 have rg : rd (il g) (i : Int) = ((g.getD i 0 : Nat) : Int) := il_rd _ _ hig
 have hgu := G.u32 i
 have hp := pow_u32 hi32
 have h1 := one_nat i hi32
 have c1 : ((idx : Nat) : Int) < ((full.length : Nat) : Int) := by omega
 have c2 : (0 : Int) ≤ (idx : Int) := by omega
 have c3 : (0 : Int) ≤ (i : Int) := by omega
 have c4 : (i : Int) < ((g.length : Nat) : Int) := by omega
 simp only [rib_graph_cliques.l0]
 rw [if_pos c1, if_pos c2, il_len full, if_pos c1, r0, h1]
 simp only [Option.bind_some]
 rw [if_pos c3, il_len g, if_pos c4, rg, u32_or_nat _ _ ha hp, u32_and_nat _ _ hm hgu, u32_and_nat _ _ hn hgu, u32_andNot_nat _ _ hm hp, u32_or_nat _ _ hn hp, hw]
theorem cliques_ev (g : List Nat) (G : Gr g) : ∀ (d a m nt : Nat), (nd m).length < d → a < 4294967296 → m < 4294967296 → nt < 4294967296 → (∀ j, m.testBit j = true → j < g.length) → (∀ j, a.testBit j = true → m.testBit j = false) →
    ∃ r : List Nat, Ev (fun k => rib_graph_cliques.f k (il g) a m nt) (il r) ∧ CFound (ad g) a m nt false r ∧ r.length ≤ 2 ^ (nd m).length ∧ ∀ x ∈ r, x < 4294967296 := by
  intro d
  induction d with
  | zero => intro a m nt h; omega
  | succ d ih =>
    intro a m nt hd ha hm hn hg hdis
    -- the loop over the nodes that are left
    have loop : ∀ (is : List Nat) (a m nt : Nat) (acc : List Nat) (full : List Nat) (idx : Nat), nd m = is → full.drop idx = is → full.length ≤ 32 → is.length ≤ d → acc.length + 2 ^ is.length ≤ 2 ^ 40 → a < 4294967296 → m < 4294967296 → nt < 4294967296 → (∀ j, m.testBit j = true → j < g.length) → (∀ j, a.testBit j = true → m.testBit j = false) →
        ∃ r : List Nat, Ev (fun k => rib_graph_cliques.l0 k (il g) a m nt (il acc) (il full) ((full.length : Nat) : Int) (idx : Int)) (il (acc ++ r)) ∧ CFound (ad g) a m nt true r ∧ r.length + 1 ≤ 2 ^ is.length ∧ ∀ x ∈ r, x < 4294967296 := by
      intro is
      induction is with
      | nil =>
        intro a m nt acc full idx h1 h2 hf _ _ ha hm hn hg hdis
        refine ⟨[], ?_, CFound.nil (nd_nil hm h1), by simp, by simp⟩
        have hidx : full.length ≤ idx := List.drop_eq_nil_iff.1 h2
        refine ⟨1, fun k hk => ?_⟩
        obtain ⟨k, rfl⟩ : ∃ j, k = j + 1 := ⟨k - 1, by omega⟩
        simp only [rib_graph_cliques.l0]
        rw [if_neg (by omega)]; simp
      | cons i is ihl =>
        intro a m nt acc full idx h1 h2 hf hlen hacc ha hm hn hg hdis
        have hidx : idx < full.length := by
          apply Classical.byContradiction
          intro h
          rw [List.drop_eq_nil_of_le (by omega)] at h2; cases h2
        have hfi : full.getD idx 0 = i := by
          have := List.drop_eq_getElem_cons hidx
          rw [h2] at this
          rw [show full.getD idx 0 = full[idx] by simp [hidx]]
          exact (List.cons.inj this).1.symm
        have hft : full.drop (idx + 1) = is := by
          have := List.drop_eq_getElem_cons hidx
          rw [h2] at this
          exact (List.cons.inj this).2.symm
        have hmi : m.testBit i = true := (mem_nd hm).1 (by rw [h1]; simp)
        have hig : i < g.length := hg i hmi
        have hi32 : i < 32 := by have := G.le; omega
        have hp2 : 2 ^ (i :: is).length = 2 ^ is.length + 2 ^ is.length := by rw [List.length_cons, Nat.pow_succ]; omega
        have hpp : 1 ≤ 2 ^ is.length := Nat.pos_of_ne_zero (by simp)
        have eA : ∀ j, (a ||| 2 ^ i).testBit j = (a.testBit j || decide (i = j)) := fun j => by rw [Nat.testBit_or, Nat.testBit_two_pow]
        have eN : ∀ j, (nt ||| 2 ^ i).testBit j = (nt.testBit j || decide (i = j)) := fun j => by rw [Nat.testBit_or, Nat.testBit_two_pow]
        have eM1 : ∀ j, (m &&& g.getD i 0).testBit j = (m.testBit j && ad g i j) := fun j => by rw [Nat.testBit_and]; rfl
        have eN1 : ∀ j, (nt &&& g.getD i 0).testBit j = (nt.testBit j && ad g i j) := fun j => by rw [Nat.testBit_and]; rfl
        have eM2 : ∀ j, (m &&& (4294967295 - 2 ^ i)).testBit j = (m.testBit j && decide (i ≠ j)) := fun j => strike_bit m i j hm hi32
        have hnd2 : nd (m &&& (4294967295 - 2 ^ i)) = is := nd_tail h1 eM2
        have hnd1 : (nd (m &&& g.getD i 0)).length ≤ is.length := by
          rw [← hnd2]
          refine nd_le fun j hj => ?_
          rw [eM1] at hj
          rw [eM2]
          simp only [Bool.and_eq_true] at hj
          have : i ≠ j := fun e => by rw [← e, G.irr] at hj; cases hj.2
          simp [hj.1, this]
        obtain ⟨r1, ev1, f1, l1, b1⟩ := ih (a ||| 2 ^ i) (m &&& g.getD i 0) (nt &&& g.getD i 0) (by simp at hlen; omega) (or_u32 ha (pow_u32 hi32)) (and_u32 hm) (and_u32 hn)
          (fun j hj => hg j (by rw [eM1] at hj; simp at hj; exact hj.1))
          (fun j hj => by
            rw [eM1]
            rw [eA] at hj
            by_cases e : i = j
            · subst e; rw [G.irr]; simp
            · simp [e] at hj; rw [hdis j hj]; rfl)
        have hl1 : r1.length ≤ 2 ^ is.length := Nat.le_trans l1 (Nat.pow_le_pow_right (by omega) hnd1)
        obtain ⟨r2, ev2, f2, l2, b2⟩ := ihl a (m &&& (4294967295 - 2 ^ i)) (nt ||| 2 ^ i) (acc ++ r1) full (idx + 1) hnd2 hft hf (by simp at hlen; omega) (by rw [List.length_append]; omega) ha (and_u32 hm) (or_u32 hn (pow_u32 hi32))
          (fun j hj => hg j (by rw [eM2] at hj; simp at hj; exact hj.1))
          (fun j hj => by rw [eM2, hdis j hj]; rfl)
        refine ⟨r1 ++ r2, ?_, CFound.cons G.sym G.irr hmi hdis eA eM1 eN1 eM2 eN f1 f2, by rw [List.length_append]; omega, fun x hx => by rcases List.mem_append.1 hx with h | h <;> first | exact b1 x h | exact b2 x h⟩
        rw [← List.append_assoc]
        refine Ev.step (f := fun k => (rib_graph_cliques.f k (il g) ((a ||| 2 ^ i : Nat) : Int) ((m &&& g.getD i 0 : Nat) : Int) ((nt &&& g.getD i 0 : Nat) : Int)).bind fun t149 => if (il acc).length + t149.length < 35184372088832 then rib_graph_cliques.l0 k (il g) a ((m &&& (4294967295 - 2 ^ i) : Nat) : Int) ((nt ||| 2 ^ i : Nat) : Int) (il acc ++ t149) (il full) ((full.length : Nat) : Int) ((idx + 1 : Nat) : Int) else none) (fun k => cl_step k g G a m nt i idx acc full hf hidx hfi hig ha hm hn) ?_
        · refine Ev.bind (f := fun k t149 => if (il acc).length + t149.length < 35184372088832 then rib_graph_cliques.l0 k (il g) a ((m &&& (4294967295 - 2 ^ i) : Nat) : Int) ((nt ||| 2 ^ i : Nat) : Int) (il acc ++ t149) (il full) ((full.length : Nat) : Int) ((idx + 1 : Nat) : Int) else none) ev1 ?_
          rw [il_len, il_len]
          have hb : acc.length + r1.length < 35184372088832 := by omega
          refine Ev.congr (fun k => if_pos hb) ?_
          rw [← il_app]
          exact ev2
    by_cases h0 : m = 0 ∧ nt = 0
    · obtain ⟨rfl, rfl⟩ := h0
      refine ⟨[a], ⟨2, fun k hk => ?_⟩, CFound.one ⟨rfl, rfl⟩, Nat.pos_of_ne_zero (by simp), by simpa using ha⟩
      obtain ⟨k, rfl⟩ : ∃ j, k = j + 2 := ⟨k - 2, by omega⟩
      simp [rib_graph_cliques.f, rib_graph_cliques.j0, il]
    · obtain ⟨r, ev, f, l, b⟩ := loop (nd m) a m nt [] (nd m) 0 rfl rfl (by unfold nd; exact Nat.le_trans (List.length_filter_le _ _) (by simp)) (by omega) (by
          have : (nd m).length ≤ 32 := by unfold nd; exact Nat.le_trans (List.length_filter_le _ _) (by simp)
          have h2 : 2 ^ (nd m).length ≤ 2 ^ 32 := Nat.pow_le_pow_right (by omega) this
          simp only [List.length_nil]; omega) ha hm hn hg hdis
      refine ⟨r, ?_, f.all h0, by omega, b⟩
      obtain ⟨K, hK⟩ := ev
      refine ⟨K + 40, fun k hk => ?_⟩
      obtain ⟨k, rfl⟩ : ∃ j, k = j + 2 := ⟨k - 2, by omega⟩
      have hj : ∀ b, b = false → rib_graph_cliques.j0 (k + 1) (il g) a m nt b = some (il r) := by
        rintro b rfl
        simp only [rib_graph_cliques.j0]
        rw [if_neg (by simp), list_f _ _ (by omega), Option.bind_some, nodes_nat _ hm, il_len]
        have := hK k (by omega)
        simpa [il] using this
      simp only [rib_graph_cliques.f]
      by_cases hm0 : (m : Int) = 0
      · rw [if_pos hm0]
        refine hj _ ?_
        have : m = 0 := by omega
        have : nt ≠ 0 := fun e => h0 ⟨this, e⟩
        simp; omega
      · rw [if_neg hm0]
        exact hj _ rfl
end Go.Proofs.Ytdpolfflemocaaa.Own
namespace Go.Proofs.Ytdpolfflemocaaa.Pure
open Go Go.RowKit Go.Proofs.YtdpolfflemocaaaW.PrintWords Go.Proofs.YtdpolfflemocaaaW.PrintLast Go.Proofs.YtdpolfflemocaaaW.PrintMore Go.Proofs.Ytdpolfflemocaaa.Cl Go.Proofs.Ytdpolfflemocaaa.Own Go.Proofs.Ytdpolfflemocaaa.Rx
set_option linter.unusedVariables false
set_option linter.unusedSimpArgs false
open Classical
theorem getD_rep (n a : Nat) : (List.replicate n 0).getD a 0 = 0 := by
  simp only [List.getD_eq_getElem?_getD, List.getElem?_replicate]
  split <;> rfl
def eqE (a b : S52) : Bool := a.f0 == b.f0 && a.f1 == b.f1
def ea (es : List S52) (i : Nat) : S52 := es.getD i z52
structure OkAt (n : Int) (es : List S52) (i : Nat) : Prop where
  lo : 0 ≤ (ea es i).f0
  lt : (ea es i).f0 < (ea es i).f1
  hi : (ea es i).f1 < n
  new : ∀ k, k < i → eqE (ea es k) (ea es i) = false
structure Valid (n : Int) (es : List S52) : Prop where
  lo : 1 ≤ n
  hi : n ≤ 12
  ok : ∀ i, i < es.length → OkAt n es i
theorem wrap_up (i : Nat) (h : i < 2 ^ 60) : wrap64 ((i : Int) + 1) = ((i + 1 : Nat) : Int) := by unfold wrap64; omega
theorem wrap_sm (x : Int) (h0 : -1000000 ≤ x) (h1 : x ≤ 1000000) : wrap64 x = x := by unfold wrap64; omega
theorem ea_rd (es : List S52) (i : Nat) : rd_T52 es (i : Int) = ea es i := by simp [rd_T52, ea]
theorem in_f (a b c : Int) : gampref04_in.f a b c = some (decide (b ≤ a ∧ a ≤ c)) := by
 unfold gampref04_in.f
 by_cases h : b ≤ a
 ·rw [if_pos (show a ≥ b from h)]; simp [h]
 ·rw [if_neg (show ¬ a ≥ b from h)]; simp [h]
theorem graph_l1 (n : Int) (es : List S52) (hl : es.length < 2 ^ 50) (i : Nat) (hi : i < es.length) (r : Bool) (hr : Ev (fun k => gampref04_Graph.l0 k n es ((i + 1 : Nat) : Int)) r) :
  ∀ (d j : Nat), j + d = i → Ev (fun k => gampref04_Graph.l1 k n es (i : Int) (j : Int)) (decide (∀ k, j ≤ k → k < i → eqE (ea es k) (ea es i) = false) && r) := by
 intro d
 induction d with
 | zero =>
  intro j hj
  have h0 : decide (∀ k, j ≤ k → k < i → eqE (ea es k) (ea es i) = false) = true := decide_eq_true (fun k h1 h2 => by omega)
  rw [h0, Bool.true_and]
  refine Ev.step (fun k => ?_) hr
  simp only [gampref04_Graph.l1]
  rw [if_neg (by omega), wrap_up i (by omega)]
 | succ d ih =>
  intro j hj
  have e : ∀ k, gampref04_Graph.l1 (k + 1) n es (i : Int) (j : Int) = if eqE (ea es j) (ea es i) = true then some false else gampref04_Graph.l1 k n es (i : Int) ((j + 1 : Nat) : Int) := by
   intro k
   simp only [gampref04_Graph.l1]
   rw [if_pos (by omega), if_pos (by omega), if_pos (by omega), if_pos (by omega), if_pos (by omega), ea_rd, ea_rd, wrap_up j (by omega)]
   rfl
  by_cases hd : eqE (ea es j) (ea es i) = true
  ·have h0 : decide (∀ k, j ≤ k → k < i → eqE (ea es k) (ea es i) = false) = false := decide_eq_false (fun h => by rw [h j (Nat.le_refl _) (by omega)] at hd; cases hd)
   rw [h0, Bool.false_and]
   refine Ev.step (f := fun _ => some false) (fun k => ?_) (Ev.now _)
   rw [e, if_pos hd]
  ·refine Ev.step (fun k => by rw [e, if_neg hd]) ?_
   have := ih (j + 1) (by omega)
   have h0 : decide (∀ k, j ≤ k → k < i → eqE (ea es k) (ea es i) = false) = decide (∀ k, j + 1 ≤ k → k < i → eqE (ea es k) (ea es i) = false) := by
    apply decide_eq_decide.2
    constructor
    ·exact fun h k h1 h2 => h k (by omega) h2
    ·intro h k h1 h2
     by_cases hk : k = j
     ·subst hk; simpa using hd
     ·exact h k (by omega) h2
   rw [h0]; exact this
theorem okAt_iff (n : Int) (es : List S52) (i : Nat) : OkAt n es i ↔ ((0 ≤ (ea es i).f0 ∧ (ea es i).f0 ≤ n - 1) ∧ ((ea es i).f0 + 1 ≤ (ea es i).f1 ∧ (ea es i).f1 ≤ n - 1)) ∧ ∀ k, 0 ≤ k → k < i → eqE (ea es k) (ea es i) = false :=
  ⟨fun h => ⟨⟨⟨h.lo, by have := h.lt; have := h.hi; omega⟩, by have := h.lt; omega, by have := h.hi; omega⟩, fun k _ hk => h.new k hk⟩, fun h => ⟨h.1.1.1, by have := h.1.2.1; omega, by have := h.1.2.2; omega, fun k hk => h.2 k (by omega) hk⟩⟩
theorem graph_l0 (n : Int) (hn : n ≤ 12) (hn1 : 1 ≤ n) (es : List S52) (hl : es.length < 2 ^ 50) : ∀ (d i : Nat), i + d = es.length →
  Ev (fun k => gampref04_Graph.l0 k n es (i : Int)) (decide (∀ j, i ≤ j → j < es.length → OkAt n es j)) := by
 intro d
 induction d with
 | zero =>
  intro i hi
  rw [decide_eq_true (fun j h1 h2 => by omega)]
  refine Ev.step (f := fun _ => some true) (fun k => ?_) (Ev.now _)
  simp only [gampref04_Graph.l0]
  rw [if_neg (by omega)]
 | succ d ih =>
  intro i hi
  have hlt : i < es.length := by omega
  have r1 := ih (i + 1) (by omega)
  have r2 := graph_l1 n es hl i hlt _ r1 i 0 (by omega)
  have hw : wrap64 (n - 1) = n - 1 := wrap_sm _ (by omega) (by omega)
  have e : ∀ k, gampref04_Graph.l0 (k + 1) n es (i : Int) = if 0 ≤ (ea es i).f0 ∧ (ea es i).f0 ≤ n - 1 then gampref04_Graph.j1 k n es i (!decide ((ea es i).f0 + 1 ≤ (ea es i).f1 ∧ (ea es i).f1 ≤ n - 1)) else gampref04_Graph.j1 k n es i true := by
   intro k
   simp only [gampref04_Graph.l0]
   rw [if_pos (by omega), if_pos (by omega), ea_rd, in_f, Option.bind_some, hw]
   by_cases h : 0 ≤ (ea es i).f0 ∧ (ea es i).f0 ≤ n - 1
   ·rw [if_pos (decide_eq_true h), if_pos h, in_f, Option.bind_some, wrap_sm _ (by omega) (by omega)]
   ·rw [if_neg (by simpa using h), if_neg h]
  have bad : ∀ b, b = true → ∀ k, gampref04_Graph.j1 (k + 1) n es (i : Int) b = some false := by
   rintro b rfl k
   simp only [gampref04_Graph.j1]
   simp
  by_cases h1 : 0 ≤ (ea es i).f0 ∧ (ea es i).f0 ≤ n - 1
  ·by_cases h2 : (ea es i).f0 + 1 ≤ (ea es i).f1 ∧ (ea es i).f1 ≤ n - 1
   ·refine Ev.step (fun k => by rw [e, if_pos h1, decide_eq_true h2]) ?_
    refine Ev.step (f := fun k => gampref04_Graph.l1 k n es (i : Int) ((0 : Nat) : Int)) (fun k => by simp [gampref04_Graph.j1]) ?_
    rw [show decide (∀ j, i ≤ j → j < es.length → OkAt n es j) = (decide (∀ k, 0 ≤ k → k < i → eqE (ea es k) (ea es i) = false) && decide (∀ j, i + 1 ≤ j → j < es.length → OkAt n es j)) from ?_]
    ·exact r2
    ·rw [← Bool.decide_and]
     apply decide_eq_decide.2
     constructor
     ·exact fun h => ⟨((okAt_iff n es i).1 (h i (Nat.le_refl _) hlt)).2, fun j h1 h2 => h j (by omega) h2⟩
     ·rintro ⟨ha, hb⟩ j hj hj2
      by_cases hji : j = i
      ·subst hji; exact (okAt_iff n es j).2 ⟨⟨h1, h2⟩, ha⟩
      ·exact hb j (by omega) hj2
   ·rw [decide_eq_false (fun h => h2 ((okAt_iff n es i).1 (h i (Nat.le_refl _) hlt)).1.2)]
    refine Ev.step (fun k => by rw [e, if_pos h1, decide_eq_false h2]) ?_
    exact Ev.step (f := fun _ => some false) (bad _ rfl) (Ev.now _)
  ·rw [decide_eq_false (fun h => h1 ((okAt_iff n es i).1 (h i (Nat.le_refl _) hlt)).1.1)]
   refine Ev.step (fun k => by rw [e, if_neg h1]) ?_
   exact Ev.step (f := fun _ => some false) (bad _ rfl) (Ev.now _)
theorem graph_ev (n : Int) (es : List S52) (hl : es.length < 2 ^ 50) : Ev (fun k => gampref04_Graph.f k n es) (decide (Valid n es)) := by
 by_cases h : 1 ≤ n ∧ n ≤ 12
 ·have h0 := graph_l0 n h.2 h.1 es hl es.length 0 (by omega)
  rw [show decide (Valid n es) = decide (∀ j, 0 ≤ j → j < es.length → OkAt n es j) from decide_eq_decide.2 ⟨fun v j _ hj => v.ok j hj, fun v => ⟨h.1, h.2, fun j hj => v j (by omega) hj⟩⟩]
  refine Ev.congr (fun k => ?_) h0
  unfold gampref04_Graph.f
  rw [in_f, Option.bind_some, if_pos (decide_eq_true h)]; rfl
 ·rw [decide_eq_false (fun v => h ⟨v.lo, v.hi⟩)]
  refine Ev.congr (fun k => ?_) (Ev.now _)
  unfold gampref04_Graph.f
  rw [in_f, Option.bind_some, if_neg (by simpa using h)]
structure Inv (n : Nat) (es : List S52) (i : Nat) (g : List Nat) : Prop where
  len : g.length = n
  mem : ∀ v u : Nat, (g.getD v 0).testBit u = true ↔ ∃ k, k < i ∧ (((ea es k).f0 = v ∧ (ea es k).f1 = u) ∨ ((ea es k).f0 = u ∧ (ea es k).f1 = v))
  sz : ∀ v, g.getD v 0 < 4294967296
theorem getD_set (l : List Nat) (i j x : Nat) : (l.set i x).getD j 0 = if i = j ∧ j < l.length then x else l.getD j 0 := by
 simp only [List.getD_eq_getElem?_getD, List.getElem?_set]
 by_cases h : i = j
 ·subst h
  by_cases h2 : i < l.length
  ·simp [h2]
  ·simp [h2]
 ·simp [h]
theorem il_set (l : List Nat) (i x : Nat) : (il l).set i (x : Int) = il (l.set i x) := by simp [il, List.map_set]
theorem Inv.next {n : Nat} {es : List S52} {i a b : Nat} {g : List Nat} (h : Inv n es i g) (hn : n ≤ 12) (ha : (ea es i).f0 = a) (hb : (ea es i).f1 = b) (hab : a < b) (hbn : b < n) :
  Inv n es (i + 1) ((g.set a (g.getD a 0 ||| 2 ^ b)).set b (g.getD b 0 ||| 2 ^ a)) := by
 have key : ∀ v, ((g.set a (g.getD a 0 ||| 2 ^ b)).set b (g.getD b 0 ||| 2 ^ a)).getD v 0 = if v = b then g.getD b 0 ||| 2 ^ a else if v = a then g.getD a 0 ||| 2 ^ b else g.getD v 0 := by
  intro v
  rw [getD_set, getD_set, List.length_set, h.len]
  by_cases h1 : v = b
  ·subst h1; rw [if_pos ⟨rfl, hbn⟩, if_pos rfl]
  ·rw [if_neg (fun e => h1 e.1.symm), if_neg h1]
   by_cases h2 : v = a
   ·subst h2; rw [if_pos ⟨rfl, by omega⟩, if_pos rfl]
   ·rw [if_neg (fun e => h2 e.1.symm), if_neg h2]
 refine ⟨by rw [List.length_set, List.length_set]; exact h.len, fun v u => ?_, fun v => ?_⟩
 ·rw [key]
  have split : (∃ k, k < i + 1 ∧ (((ea es k).f0 = v ∧ (ea es k).f1 = u) ∨ ((ea es k).f0 = u ∧ (ea es k).f1 = v))) ↔ (g.getD v 0).testBit u = true ∨ ((a = v ∧ b = u) ∨ (a = u ∧ b = v)) := by
   rw [h.mem]
   constructor
   ·rintro ⟨k, hk, hh⟩
    by_cases hki : k = i
    ·subst hki; rw [ha, hb] at hh; right; omega
    ·exact Or.inl ⟨k, by omega, hh⟩
   ·rintro (⟨k, hk, hh⟩ | hh)
    ·exact ⟨k, by omega, hh⟩
    ·refine ⟨i, by omega, ?_⟩
     rw [ha, hb]; omega
  rw [split]
  by_cases h1 : v = b
  ·subst h1
   rw [if_pos rfl, Nat.testBit_or, Nat.testBit_two_pow, Bool.or_eq_true, decide_eq_true_eq]
   constructor
   ·rintro (x | x)
    ·exact Or.inl x
    ·right; right; exact ⟨x, rfl⟩
   ·rintro (x | x | x)
    ·exact Or.inl x
    ·omega
    ·exact Or.inr x.1
  ·rw [if_neg h1]
   by_cases h2 : v = a
   ·subst h2
    rw [if_pos rfl, Nat.testBit_or, Nat.testBit_two_pow, Bool.or_eq_true, decide_eq_true_eq]
    constructor
    ·rintro (x | x)
     ·exact Or.inl x
     ·right; left; exact ⟨rfl, x⟩
    ·rintro (x | x | x)
     ·exact Or.inl x
     ·exact Or.inr x.2
     ·omega
   ·rw [if_neg h2]
    constructor
    ·exact Or.inl
    ·rintro (x | x | x)
     ·exact x
     ·omega
     ·omega
 ·rw [key]
  have pb := pow_u32 (show b < 32 by omega)
  have pa := pow_u32 (show a < 32 by omega)
  split
  ·exact or_u32 (h.sz _) pa
  ·split
   ·exact or_u32 (h.sz _) pb
   ·exact h.sz _
theorem has_f (x i : Nat) (hx : x < 4294967296) (hi : i < 32) : rib_set_has.f (x : Int) (i : Int) = some (x.testBit i) := by
 unfold rib_set_has.f
 rw [if_pos (by omega)]
 exact congrArg some (hasB_nat x i hx hi)
theorem read_l0 (n : Nat) (hn : n ≤ 12) (es : List S52) (hl : es.length < 2 ^ 50) : ∀ (d i : Nat) (g : List Nat), i + d = es.length → Inv n es i g → (∀ j, j < i → OkAt n es j) →
    ∃ res : List Int × Bool, Ev (fun k => rib_read.l0 k (n : Int) (il g) es (es.length : Int) (i : Int)) res ∧ ((∀ j, j < es.length → OkAt n es j) → ∃ g', res = (il g', true) ∧ Inv n es es.length g') ∧ (¬ (∀ j, j < es.length → OkAt n es j) → res = ([], false)) := by
  intro d
  induction d with
  | zero =>
    intro i g hi hg hok
    have hil : i = es.length := by omega
    subst hil
    refine ⟨(il g, true), ?_, fun _ => ⟨g, rfl, hg⟩, fun h => absurd hok h⟩
    refine Ev.step (f := fun _ => some (il g, true)) (fun k => ?_) (Ev.now _)
    simp only [rib_read.l0]
    rw [if_neg (by omega)]
  | succ d ih =>
    intro i g hi hg hok
    have hlt : i < es.length := by omega
    have e1 : ∀ k, rib_read.l0 (k + 1) (n : Int) (il g) es (es.length : Int) (i : Int) = if (ea es i).f0 < 0 then rib_read.j2 k n (il g) es es.length i true (ea es i).f0 (ea es i).f1 else if (ea es i).f0 ≥ (ea es i).f1 then rib_read.j2 k n (il g) es es.length i true (ea es i).f0 (ea es i).f1 else if (ea es i).f1 ≥ (n : Int) then rib_read.j2 k n (il g) es es.length i true (ea es i).f0 (ea es i).f1 else
        if 0 ≤ (ea es i).f0 then if (ea es i).f0 < ((il g).length : Int) then (rib_set_has.f (rd (il g) (ea es i).f0) (ea es i).f1).bind fun t => rib_read.j2 k n (il g) es es.length i t (ea es i).f0 (ea es i).f1 else none else none := by
      intro k
      simp only [rib_read.l0]
      rw [if_pos (by omega), if_pos (by omega), if_pos (by omega), ea_rd]
    have bad : ∀ b, b = true → ∀ k x y, rib_read.j2 (k + 1) n (il g) es es.length i b x y = some (([] : List Int), false) := by
      rintro b rfl k x y
      simp only [rib_read.j2]
      simp
    have no : ¬ OkAt n es i → (∀ k, ∃ x y, rib_read.l0 (k + 1) (n : Int) (il g) es (es.length : Int) (i : Int) = rib_read.j2 k n (il g) es es.length i true x y) →
        ∃ res : List Int × Bool, Ev (fun k => rib_read.l0 k (n : Int) (il g) es (es.length : Int) (i : Int)) res ∧ ((∀ j, j < es.length → OkAt n es j) → ∃ g', res = (il g', true) ∧ Inv n es es.length g') ∧ (¬ (∀ j, j < es.length → OkAt n es j) → res = ([], false)) := by
      intro h1 h2
      refine ⟨([], false), ⟨2, fun k hk => ?_⟩, fun h => absurd (h i hlt) h1, fun _ => rfl⟩
      obtain ⟨k, rfl⟩ : ∃ j, k = j + 2 := ⟨k - 2, by omega⟩
      obtain ⟨x, y, hxy⟩ := h2 (k + 1)
      show rib_read.l0 (k + 1 + 1) (n : Int) (il g) es (es.length : Int) (i : Int) = _
      rw [hxy, bad _ rfl]
    by_cases h1 : (ea es i).f0 < 0
    · exact no (fun h => by have := h.lo; omega) (fun k => ⟨_, _, by rw [e1, if_pos h1]⟩)
    by_cases h2 : (ea es i).f0 ≥ (ea es i).f1
    · exact no (fun h => by have := h.lt; omega) (fun k => ⟨_, _, by rw [e1, if_neg h1, if_pos h2]⟩)
    by_cases h3 : (ea es i).f1 ≥ (n : Int)
    · exact no (fun h => by have := h.hi; omega) (fun k => ⟨_, _, by rw [e1, if_neg h1, if_neg h2, if_pos h3]⟩)
    obtain ⟨a, ha⟩ : ∃ a : Nat, (ea es i).f0 = a := ⟨(ea es i).f0.toNat, by omega⟩
    obtain ⟨b, hb⟩ : ∃ b : Nat, (ea es i).f1 = b := ⟨(ea es i).f1.toNat, by omega⟩
    rw [ha, hb] at h2 e1
    rw [ha] at h1
    rw [hb] at h3
    have hbn : b < n := by omega
    have hab : a < b := by omega
    have hgl := hg.len
    have e2 : ∀ k, rib_read.l0 (k + 1) (n : Int) (il g) es (es.length : Int) (i : Int) = rib_read.j2 k n (il g) es es.length i ((g.getD a 0).testBit b) a b := by
      intro k
      rw [e1, if_neg h1, if_neg h2, if_neg h3, if_pos (by omega), il_len, if_pos (by omega), il_rd _ _ (by omega), has_f _ _ (hg.sz a) (by omega)]
      rfl
    have hdup : (g.getD a 0).testBit b = true ↔ ∃ k, k < i ∧ eqE (ea es k) (ea es i) = true := by
      rw [hg.mem]
      constructor
      · rintro ⟨k, hk, h | h⟩
        · exact ⟨k, hk, by simp [eqE, ha, hb, h.1, h.2]⟩
        · have := (hok k hk).lt; omega
      · rintro ⟨k, hk, h⟩
        simp [eqE, ha, hb] at h
        exact ⟨k, hk, Or.inl h⟩
    by_cases h4 : (g.getD a 0).testBit b = true
    · refine no (fun h => ?_) (fun k => ⟨_, _, by rw [e2, h4]⟩)
      obtain ⟨k, hk, h5⟩ := hdup.1 h4
      rw [h.new k hk] at h5; cases h5
    · have hoki : OkAt n es i := ⟨by omega, by omega, by omega, fun k hk => by
        cases h5 : eqE (ea es k) (ea es i)
        · rfl
        · exact absurd (hdup.2 ⟨k, hk, h5⟩) h4⟩
      obtain ⟨res, ev, r1, r2⟩ := ih (i + 1) _ (by omega) (hg.next hn ha hb hab hbn) (fun j hj => by
        by_cases hji : j = i
        · subst hji; exact hoki
        · exact hok j (by omega))
      refine ⟨res, ?_, r1, r2⟩
      refine Ev.step (fun k => e2 k) ?_
      refine Ev.step (fun k => ?_) ev
      have h4' : (g.getD a 0).testBit b = false := by simpa using h4
      have hga := hg.sz a
      have hgb := hg.sz b
      have pb := pow_u32 (show b < 32 by omega)
      have pa := pow_u32 (show a < 32 by omega)
      have q1 := one_nat b (by omega)
      have q2 := one_nat a (by omega)
      have c1 : (0 : Int) ≤ (a : Int) := by omega
      have c2 : (a : Int) < (g.length : Int) := by omega
      have c3 : (0 : Int) ≤ (b : Int) := by omega
      have c4 : (b : Int) < (g.length : Int) := by omega
      have gb : (g.set a (g.getD a 0 ||| 2 ^ b)).getD b 0 = g.getD b 0 := by rw [getD_set, if_neg (by omega)]
      simp only [rib_read.j2]
      rw [h4', if_neg (by simp), if_pos c1, il_len, if_pos c2, q1, Option.bind_some, Option.bind_some, if_pos c3, if_pos c4, q2, Option.bind_some, il_rd _ _ (by omega), u32_or_nat _ _ hga pb, Int.toNat_natCast, Int.toNat_natCast, il_set, il_rd _ _ (by rw [List.length_set]; omega), gb, u32_or_nat _ _ hgb pa, il_set, wrap_up i (by omega)]
/-- Two nodes are neighbours: a pair names them. -/
def nr (es : List S52) (a b : Int) : Bool := es.any fun e => e.f0 == mn a b && e.f1 == mx a b && a != b
theorem ea_mem {es : List S52} {i : Nat} (h : i < es.length) : ea es i ∈ es := by
 unfold ea
 rw [show es.getD i z52 = es[i] by simp [h]]
 exact List.getElem_mem _
theorem mem_ea {es : List S52} {e : S52} (h : e ∈ es) : ∃ i, i < es.length ∧ ea es i = e := by
  obtain ⟨i, hi, he⟩ := List.getElem_of_mem h
  exact ⟨i, hi, by simp [ea, hi, he]⟩
theorem inv_nr {n : Nat} {es : List S52} {g : List Nat} (h : Inv n es es.length g) (v : Valid n es) (a b : Nat) : (g.getD a 0).testBit b = nr es a b := by
 rw [Bool.eq_iff_iff, h.mem]
 unfold nr
 rw [List.any_eq_true]
 constructor
 ·rintro ⟨k, hk, hh⟩
  refine ⟨ea es k, ea_mem hk, ?_⟩
  have := (v.ok k hk).lt
  simp only [Bool.and_eq_true, beq_iff_eq, bne_iff_ne, ne_eq]
  unfold mn mx
  rcases hh with hh | hh
  ·rw [if_neg (by omega), if_pos (by omega)]; omega
  ·rw [if_pos (by omega), if_neg (by omega)]; omega
 ·rintro ⟨e, he, hh⟩
  obtain ⟨k, hk, rfl⟩ := mem_ea he
  refine ⟨k, hk, ?_⟩
  have := (v.ok k hk).lt
  simp only [Bool.and_eq_true, beq_iff_eq, bne_iff_ne, ne_eq] at hh
  unfold mn mx at hh
  by_cases hab : (a : Int) < (b : Int)
  ·rw [if_neg (by omega), if_pos hab] at hh; omega
  ·by_cases hba : (b : Int) < (a : Int)
   ·rw [if_pos hba, if_neg (by omega)] at hh; omega
   ·omega
theorem mn_le {a b : Int} (h : a ≤ b) : mn a b = a := by unfold mn; rw [if_neg (by omega)]
theorem nr_symm (es : List S52) (a b : Int) : nr es a b = nr es b a := by
 unfold nr
 congr 1
 funext e
 have h1 : mn a b = mn b a := by unfold mn; split <;> split <;> omega
 have h2 : mx a b = mx b a := by unfold mx; split <;> split <;> omega
 rw [h1, h2, bne_comm]
theorem nr_self (es : List S52) (a : Int) : nr es a a = false := by unfold nr; simp
theorem inv_gr {n : Nat} {es : List S52} {g : List Nat} (h : Inv n es es.length g) (v : Valid n es) : Gr g := by
 have hn := v.hi
 have hlt : ∀ a b, (g.getD a 0).testBit b = true → b < n := by
  intro a b hab
  obtain ⟨k, hk, hh⟩ := (h.mem a b).1 hab
  have h1 := (v.ok k hk).lt
  have h2 := (v.ok k hk).hi
  omega
 refine ⟨by rw [h.len]; omega, fun i => ?_, fun i j => ?_, fun i => ?_⟩
 ·rw [h.len]
  apply Nat.lt_pow_two_of_testBit
  intro j hj
  cases hb : (g.getD i 0).testBit j
  ·rfl
  ·have := hlt i j hb; omega
 ·unfold ad; rw [inv_nr h v, inv_nr h v, nr_symm]
 ·unfold ad; rw [inv_nr h v, nr_self]
theorem read_ok (n : Nat) (es : List S52) (hl : es.length < 2 ^ 50) (v : Valid n es) : ∃ g, Ev (fun k => rib_read.f k (n : Int) es) (il g, true) ∧ Gr g ∧ g.length = n ∧ ∀ a b : Nat, ad g a b = nr es a b := by
 have hn := v.hi
 have h0 : Inv n es 0 (List.replicate n 0) := by
  refine ⟨by simp, fun a b => ?_, fun a => ?_⟩
  ·have : (List.replicate n 0).getD a 0 = 0 := getD_rep _ _
   rw [this]; simp
  ·have : (List.replicate n 0).getD a 0 = 0 := getD_rep _ _
   rw [this]; omega
 obtain ⟨res, ev, r1, _⟩ := read_l0 n (by omega) es hl es.length 0 _ (by omega) h0 (fun j hj => by omega)
 obtain ⟨g, rfl, hg⟩ := r1 v.ok
 refine ⟨g, ?_, inv_gr hg v, hg.len, fun a b => inv_nr hg v a b⟩
 have hlo := v.lo
 refine Ev.congr (g := fun k => rib_read.f k (n : Int) es) (f := fun k => rib_read.j0 k n es false) (fun k => ?_) ?_
 ·unfold rib_read.f
  rw [if_neg (by omega), decide_eq_false (by omega)]
 ·refine Ev.step (fun k => ?_) ev
  simp only [rib_read.j0]
  rw [if_neg (by simp), if_pos (by omega), if_pos (by omega)]
  simp [il]
theorem read_no (n : Int) (es : List S52) (hl : es.length < 2 ^ 50) (v : ¬ Valid n es) : Ev (fun k => rib_read.f k n es) ([], false) := by
 have out : ¬ (1 ≤ n ∧ n ≤ 12) → Ev (fun k => rib_read.f k n es) ([], false) := by
  intro h
  refine ⟨1, fun k hk => ?_⟩
  obtain ⟨k, rfl⟩ : ∃ j, k = j + 1 := ⟨k - 1, by omega⟩
  have bad : ∀ b, b = true → rib_read.j0 (k + 1) n es b = some (([] : List Int), false) := by
   rintro b rfl
   simp only [rib_read.j0]
   simp
  show rib_read.f (k + 1) n es = _
  unfold rib_read.f
  by_cases h1 : n < 1
  ·rw [if_pos h1, bad _ rfl]
  ·rw [if_neg h1, bad _ (decide_eq_true (by omega))]
 by_cases h : 1 ≤ n ∧ n ≤ 12
 ·obtain ⟨m, rfl⟩ : ∃ m : Nat, n = m := ⟨n.toNat, by omega⟩
  have h0 : Inv m es 0 (List.replicate m 0) := by
   refine ⟨by simp, fun a b => ?_, fun a => ?_⟩
   ·have : (List.replicate m 0).getD a 0 = 0 := getD_rep _ _
    rw [this]; simp
   ·have : (List.replicate m 0).getD a 0 = 0 := getD_rep _ _
    rw [this]; omega
  obtain ⟨res, ev, _, r2⟩ := read_l0 m (by omega) es hl es.length 0 _ (by omega) h0 (fun j hj => by omega)
  obtain rfl := r2 (fun hok => v ⟨h.1, h.2, hok⟩)
  refine Ev.congr (g := fun k => rib_read.f k (m : Int) es) (f := fun k => rib_read.j0 k m es false) (fun k => ?_) ?_
  ·unfold rib_read.f
   rw [if_neg (by omega), decide_eq_false (by omega)]
  ·refine Ev.step (fun k => ?_) ev
   simp only [rib_read.j0]
   rw [if_neg (by simp), if_pos (by omega), if_pos (by omega)]
   simp [il]
 ·exact out h
theorem near_l0 (es : List S52) (hl : es.length < 2 ^ 50) (a b : Int) : ∀ (d i : Nat), i + d = es.length → Ev (fun k => gampref04_Near.l0 k es a b (i : Int)) (nr (es.drop i) a b) := by
 intro d
 induction d with
 | zero =>
  intro i hi
  rw [List.drop_eq_nil_of_le (by omega)]
  refine Ev.step (f := fun _ => some false) (fun k => ?_) (Ev.now _)
  simp only [gampref04_Near.l0]
  rw [if_neg (by omega)]
 | succ d ih =>
  intro i hi
  have hlt : i < es.length := by omega
  have e0 : ea es i = es[i] := by simp [ea, hlt]
  have e1 : nr (es.drop i) a b = ((ea es i).f0 == mn a b && (ea es i).f1 == mx a b && a != b || nr (es.drop (i + 1)) a b) := by
   rw [List.drop_eq_getElem_cons hlt, e0]; rfl
  have e2 : ∀ k, gampref04_Near.l0 (k + 1) es a b (i : Int) = if ((ea es i).f0 == mn a b && (ea es i).f1 == mx a b && a != b) = true then some true else gampref04_Near.l0 k es a b ((i + 1 : Nat) : Int) := by
   intro k
   simp only [gampref04_Near.l0]
   rw [if_pos (by omega), if_pos (by omega), ea_rd, wrap_up i (by omega)]
   by_cases h1 : (ea es i).f0 = mn a b <;> by_cases h2 : (ea es i).f1 = mx a b <;> by_cases h3 : a = b <;> simp [h1, h2, h3]
  rw [e1]
  by_cases hh : ((ea es i).f0 == mn a b && (ea es i).f1 == mx a b && a != b) = true
  ·rw [hh, Bool.true_or]
   exact Ev.step (f := fun _ => some true) (fun k => by rw [e2, if_pos hh]) (Ev.now _)
  ·rw [Bool.eq_false_iff.2 hh, Bool.false_or]
   exact Ev.step (fun k => by rw [e2, if_neg hh]) (ih (i + 1) (by omega))
theorem near_ev (es : List S52) (hl : es.length < 2 ^ 50) (a b : Int) : Ev (fun k => gampref04_Near.f k es a b) (nr es a b) := near_l0 es hl a b es.length 0 (by omega)
/-- All pairs of a list's places. -/
def AllPr (p : Int → Int → Bool) (l : List Int) : Prop := ∀ i k, k < i → i < l.length → p (rd l (i : Int)) (rd l (k : Int)) = true
theorem clique_l1 (es : List S52) (hl : es.length < 2 ^ 50) (l : List Int) (hl2 : l.length < 2 ^ 50) (i : Nat) (hi : i < l.length) (r : Bool) (hr : Ev (fun k => gampref04_Clique.l0 k es l ((i + 1 : Nat) : Int)) r) :
  ∀ (d j : Nat), j + d = i → Ev (fun k => gampref04_Clique.l1 k es l (i : Int) (j : Int)) (decide (∀ k, j ≤ k → k < i → nr es (rd l (i : Int)) (rd l (k : Int)) = true) && r) := by
 intro d
 induction d with
 | zero =>
  intro j hj
  rw [decide_eq_true (fun k h1 h2 => by omega), Bool.true_and]
  refine Ev.step (fun k => ?_) hr
  simp only [gampref04_Clique.l1]
  rw [if_neg (by omega), wrap_up i (by omega)]
 | succ d ih =>
  intro j hj
  have e : ∀ k, gampref04_Clique.l1 (k + 1) es l (i : Int) (j : Int) = (gampref04_Near.f k es (rd l (i : Int)) (rd l (j : Int))).bind fun t => if t = true then gampref04_Clique.l1 k es l (i : Int) ((j + 1 : Nat) : Int) else some false := by
   intro k
   simp only [gampref04_Clique.l1]
   rw [if_pos (by omega), if_pos (by omega), if_pos (by omega), if_pos (by omega), if_pos (by omega), wrap_up j (by omega)]
  refine Ev.step e ?_
  refine Ev.bind (f := fun k t => if t = true then gampref04_Clique.l1 k es l (i : Int) ((j + 1 : Nat) : Int) else some false) (near_ev es hl _ _) ?_
  by_cases hd : nr es (rd l (i : Int)) (rd l (j : Int)) = true
  ·refine Ev.congr (fun k => if_pos hd) ?_
   have h0 : decide (∀ k, j ≤ k → k < i → nr es (rd l (i : Int)) (rd l (k : Int)) = true) = decide (∀ k, j + 1 ≤ k → k < i → nr es (rd l (i : Int)) (rd l (k : Int)) = true) := by
    apply decide_eq_decide.2
    constructor
    ·exact fun h k h1 h2 => h k (by omega) h2
    ·intro h k h1 h2
     by_cases hk : k = j
     ·subst hk; exact hd
     ·exact h k (by omega) h2
   rw [h0]
   exact ih (j + 1) (by omega)
  ·rw [decide_eq_false (fun h => hd (h j (Nat.le_refl _) (by omega))), Bool.false_and]
   exact Ev.congr (fun k => if_neg hd) (Ev.now _)
theorem clique_ev (es : List S52) (hl : es.length < 2 ^ 50) (l : List Int) (hl2 : l.length < 2 ^ 50) : Ev (fun k => gampref04_Clique.f k es l) (decide (AllPr (nr es) l)) := by
 have main : ∀ (d i : Nat), i + d = l.length → Ev (fun k => gampref04_Clique.l0 k es l (i : Int)) (decide (∀ j k, i ≤ j → k < j → j < l.length → nr es (rd l (j : Int)) (rd l (k : Int)) = true)) := by
  intro d
  induction d with
  | zero =>
   intro i hi
   rw [decide_eq_true (fun j k h1 h2 h3 => by omega)]
   refine Ev.step (f := fun _ => some true) (fun k => ?_) (Ev.now _)
   simp only [gampref04_Clique.l0]
   rw [if_neg (by omega)]
  | succ d ih =>
   intro i hi
   have hlt : i < l.length := by omega
   have r1 := clique_l1 es hl l hl2 i hlt _ (ih (i + 1) (by omega)) i 0 (by omega)
   rw [show decide (∀ j k, i ≤ j → k < j → j < l.length → nr es (rd l (j : Int)) (rd l (k : Int)) = true) = (decide (∀ k, 0 ≤ k → k < i → nr es (rd l (i : Int)) (rd l (k : Int)) = true) && decide (∀ j k, i + 1 ≤ j → k < j → j < l.length → nr es (rd l (j : Int)) (rd l (k : Int)) = true)) from ?_]
   ·refine Ev.step (fun k => ?_) r1
    simp only [gampref04_Clique.l0]
    rw [if_pos (by omega)]; rfl
   ·rw [← Bool.decide_and]
    apply decide_eq_decide.2
    constructor
    ·exact fun h => ⟨fun k _ hk => h i k (Nat.le_refl _) hk hlt, fun j k h1 h2 h3 => h j k (by omega) h2 h3⟩
    ·rintro ⟨ha, hb⟩ j k h1 h2 h3
     by_cases hji : j = i
     ·subst hji; exact ha k (by omega) h2
     ·exact hb j k (by omega) h2 h3
 have := main l.length 0 (by omega)
 rw [show decide (AllPr (nr es) l) = decide (∀ j k, 0 ≤ j → k < j → j < l.length → nr es (rd l (j : Int)) (rd l (k : Int)) = true) from decide_eq_decide.2 ⟨fun h j k _ h2 h3 => h j k h2 h3, fun h i k h1 h2 => h i k (by omega) h1 h2⟩]
 exact this
end Go.Proofs.Ytdpolfflemocaaa.Pure
namespace Go.Proofs.Ytdpolfflemocaaa.Pure
open Go Go.RowKit Go.Proofs.YtdpolfflemocaaaW.PrintWords Go.Proofs.YtdpolfflemocaaaW.PrintLast Go.Proofs.YtdpolfflemocaaaW.PrintMore Go.Proofs.Ytdpolfflemocaaa.Cl Go.Proofs.Ytdpolfflemocaaa.Own Go.Proofs.Ytdpolfflemocaaa.Rx
set_option linter.unusedVariables false
set_option linter.unusedSimpArgs false
open Classical
theorem i64_and1 (n : Int) : bits .and .i64 n 1 = n % 2 := by
 have h1 : (BitVec.ofInt 64 1).toNat = 2 ^ 1 - 1 := by decide
 have key : (BitVec.ofInt 64 n &&& BitVec.ofInt 64 1).toNat = (n % ((2 ^ 64 : Nat) : Int)).toNat % 2 ^ 1 := by
  rw [BitVec.toNat_and, BitVec.toNat_ofInt, h1, Nat.and_two_pow_sub_one_eq_mod]
 show IntKind.i64.wrap ((BitVec.ofInt 64 n &&& BitVec.ofInt 64 1).toNat : Nat) = n % 2
 rw [key, IntKind.wrap_i64]
 omega
theorem bit_i64 (s i : Nat) (hi : i < 64) : bits .and .i64 (shr .i64 (s : Int) (i : Int)) 1 = if s.testBit i = true then 1 else 0 := by
 have e : shr .i64 (s : Int) (i : Int) = ((s / 2 ^ i : Nat) : Int) := by
  unfold shr
  have hb : IntKind.i64.bits = 64 := rfl
  rw [hb, Int.toNat_natCast, Nat.min_eq_left (by omega)]
  simp
 rw [i64_and1, e, Nat.testBit_eq_decide_div_mod_eq]
 generalize s / 2 ^ i = q
 by_cases h : q % 2 = 1
 ·simp [h]; omega
 ·simp [h]; omega
/-- The nodes of a set from i on, below n. -/
theorem bits_ev (s n : Nat) (hs : s < 2 ^ n) (hn : n ≤ 31) : Ev (fun k => gampref04_bits.f k (s : Int) (n : Int)) (il (nd s)) := by
 have main : ∀ (d i : Nat) (acc : List Nat), i + d = n → acc.length ≤ i → Ev (fun k => gampref04_bits.l0 k (s : Int) (n : Int) (il acc) (i : Int)) (il (acc ++ ((List.range d).map (i + ·)).filter (s.testBit ·))) := by
  intro d
  induction d with
  | zero =>
   intro i acc hi ha
   refine Ev.step (f := fun _ => some (il acc)) (fun k => ?_) (by simpa using Ev.now _)
   simp only [gampref04_bits.l0]
   rw [if_neg (by omega)]
  | succ d ih =>
   intro i acc hi ha
   have e : (List.range (d + 1)).map (i + ·) = i :: (List.range d).map (i + 1 + ·) := by
    rw [List.range_succ_eq_map, List.map_cons, List.map_map]
    congr 1
    apply List.map_congr_left
    intro j _
    simp only [Function.comp, Nat.succ_eq_add_one]
    omega
   rw [e]
   by_cases hb : s.testBit i = true
   ·rw [List.filter_cons_of_pos hb, show acc ++ i :: ((List.range d).map (i + 1 + ·)).filter (s.testBit ·) = (acc ++ [i]) ++ ((List.range d).map (i + 1 + ·)).filter (s.testBit ·) by simp]
    refine Ev.step (fun k => ?_) (ih (i + 1) (acc ++ [i]) (by omega) (by rw [List.length_append]; simp; omega))
    simp only [gampref04_bits.l0]
    rw [if_pos (by omega), if_pos (by omega), bit_i64 s i (by omega), if_pos hb, if_pos rfl, il_len, if_pos (by omega), wrap_up i (by omega), il_app]
    rfl
   ·rw [List.filter_cons_of_neg hb]
    refine Ev.step (fun k => ?_) (ih (i + 1) acc (by omega) (by omega))
    simp only [gampref04_bits.l0]
    rw [if_pos (by omega), if_pos (by omega), bit_i64 s i (by omega), if_neg hb, if_neg (by decide), wrap_up i (by omega)]
 have h := main n 0 [] (by omega) (by simp)
 have e : ((List.range n).map (0 + ·)).filter (s.testBit ·) = nd s := by
  unfold nd
  have e1 : (List.range n).map (0 + ·) = List.range n := by simp
  rw [e1, show (32 : Nat) = n + (32 - n) by omega, List.range_add, List.filter_append]
  rw [show ((List.range (32 - n)).map (n + ·)).filter (s.testBit ·) = [] from ?_, List.append_nil]
  apply List.filter_eq_nil_iff.2
  intro a ha
  obtain ⟨j, _, rfl⟩ := List.mem_map.1 ha
  rw [Nat.testBit_lt_two_pow (Nat.lt_of_lt_of_le hs (Nat.pow_le_pow_right (by omega) (by omega)))]
  simp
 rw [e, List.nil_append] at h
 exact h
theorem less_ev (a b : List Int) (ha : a.length < 2 ^ 50) (hb : b.length < 2 ^ 50) : Ev (fun k => gampref04_less.f k a b) (decide (cmpL a b < 0)) := by
 have main : ∀ (d i : Nat), i + d = a.length → i ≤ b.length → Ev (fun k => gampref04_less.l0 k a b (i : Int)) (if a.drop i ≠ [] ∧ b.drop i ≠ [] ∨ True then decide (cmpL (a.drop i) (b.drop i) < 0) else false) := by
  intro d
  induction d with
  | zero =>
   intro i hi hb2
   rw [if_pos (Or.inr trivial), List.drop_eq_nil_of_le (by omega : a.length ≤ i)]
   have e1 : ∀ k, gampref04_less.l0 (k + 1) a b (i : Int) = gampref04_less.j1 k a b i false := fun k => by
    simp only [gampref04_less.l0]
    rw [if_neg (by omega)]
   refine Ev.step e1 ?_
   refine Ev.step (f := fun _ => some (decide ((a.length : Int) < (b.length : Int)))) (fun k => by simp [gampref04_less.j1]) ?_
   have : decide ((a.length : Int) < (b.length : Int)) = decide (cmpL [] (b.drop i) < 0) := by
    by_cases h : b.length ≤ i
    ·rw [List.drop_eq_nil_of_le h]
     simp [cmpL]; omega
    ·rw [List.drop_eq_getElem_cons (by omega : i < b.length)]
     simp [cmpL]; omega
   rw [this]
   exact Ev.now _
  | succ d ih =>
   intro i hi hb2
   have hia : i < a.length := by omega
   rw [if_pos (Or.inr trivial), List.drop_eq_getElem_cons hia]
   have e1 : ∀ k, gampref04_less.l0 (k + 1) a b (i : Int) = gampref04_less.j1 k a b i (decide ((i : Int) < (b.length : Int))) := fun k => by
    simp only [gampref04_less.l0]
    rw [if_pos (by omega)]
   refine Ev.step e1 ?_
   by_cases hib : i < b.length
   ·rw [decide_eq_true (show (i : Int) < (b.length : Int) by omega), List.drop_eq_getElem_cons hib]
    have r0 : rd a (i : Int) = a[i] := by simp [rd, hia]
    have r1 : rd b (i : Int) = b[i] := by simp [rd, hib]
    have e2 : ∀ k, gampref04_less.j1 (k + 1) a b (i : Int) true = if a[i] = b[i] then gampref04_less.l0 k a b ((i + 1 : Nat) : Int) else some (decide (a[i] < b[i])) := fun k => by
     simp only [gampref04_less.j1]
     rw [if_pos trivial, if_pos (by omega), if_pos (by omega), if_pos (by omega), r0, r1, wrap_up i (by omega)]
    by_cases he : a[i] = b[i]
    ·refine Ev.step (fun k => by rw [e2, if_pos he]) ?_
     have := ih (i + 1) (by omega) (by omega)
     rw [if_pos (Or.inr trivial)] at this
     rw [show cmpL (a[i] :: a.drop (i + 1)) (b[i] :: b.drop (i + 1)) = cmpL (a.drop (i + 1)) (b.drop (i + 1)) by rw [cmpL, if_neg (by omega), if_neg (by omega)]]
     exact this
    ·refine Ev.step (f := fun _ => some (decide (a[i] < b[i]))) (fun k => by rw [e2, if_neg he]) ?_
     have : decide (a[i] < b[i]) = decide (cmpL (a[i] :: a.drop (i + 1)) (b[i] :: b.drop (i + 1)) < 0) := by
      apply decide_eq_decide.2
      rw [cmpL]
      by_cases h : a[i] < b[i]
      ·simp [h]
      ·rw [if_neg h, if_pos (by omega)]; simp [h]
     rw [this]; exact Ev.now _
   ·rw [decide_eq_false (show ¬ (i : Int) < (b.length : Int) by omega), List.drop_eq_nil_of_le (by omega : b.length ≤ i)]
    refine Ev.step (f := fun _ => some (decide ((a.length : Int) < (b.length : Int)))) (fun k => by simp [gampref04_less.j1]) ?_
    rw [decide_eq_false (by omega), show decide (cmpL (a[i] :: a.drop (i + 1)) [] < 0) = false by simp [cmpL]]
    exact Ev.now _
 have h := main a.length 0 (by omega) (by omega)
 rw [if_pos (Or.inr trivial)] at h
 exact h
def ltL (a b : List Int) : Prop := cmpL a b < 0
theorem ltL_irr (a : List Int) : ¬ ltL a a := by unfold ltL; rw [cmpL_self]; omega
theorem ltL_trans {a b c : List Int} (h1 : ltL a b) (h2 : ltL b c) : ltL a c := (cmpL_trans a b c (by unfold ltL at h1; omega) (by unfold ltL at h2; omega)).2 (Or.inl h1)
theorem ltL_tot {a b : List Int} (h1 : ¬ ltL a b) (h2 : a ≠ b) : ltL b a := by
 unfold ltL at *
 have := cmpL_anti a b
 have h3 : cmpL a b ≠ 0 := fun e => h2 (cmpL_zero a b e)
 omega
theorem sorted_eq : ∀ {l s : List (List Int)}, l.Pairwise ltL → s.Pairwise ltL → (∀ x, x ∈ l ↔ x ∈ s) → l = s
 | [], [], _, _, _ => rfl
 | [], b :: s, _, _, h => by have := (h b).2 (by simp); cases this
 | a :: l, [], _, _, h => by have := (h a).1 (by simp); cases this
 | a :: l, b :: s, h1, h2, h => by
  rw [List.pairwise_cons] at h1 h2
  have hab : a = b := by
   rcases List.mem_cons.1 ((h a).1 (by simp)) with e | e
   ·exact e
   ·rcases List.mem_cons.1 ((h b).2 (by simp)) with f | f
    ·exact f.symm
    ·exact absurd (ltL_trans (h1.1 b f) (h2.1 a e)) (ltL_irr a)
  subst hab
  rw [sorted_eq h1.2 h2.2 fun x => ?_]
  constructor
  ·intro hx
   rcases List.mem_cons.1 ((h x).1 (List.mem_cons_of_mem _ hx)) with e | e
   ·subst e; exact absurd (h1.1 x hx) (ltL_irr x)
   ·exact e
  ·intro hx
   rcases List.mem_cons.1 ((h x).2 (List.mem_cons_of_mem _ hx)) with e | e
   ·subst e; exact absurd (h2.1 x hx) (ltL_irr x)
   ·exact e
def insL (l : List Int) : List (List Int) → List (List Int)
  | [] => [l]
  | o :: os => if cmpL o l < 0 then o :: insL l os else l :: o :: os
theorem mem_insL {l x : List Int} : ∀ {out : List (List Int)}, x ∈ insL l out ↔ x = l ∨ x ∈ out
 | [] => by simp [insL]
 | o :: os => by
  unfold insL
  split
  ·rw [List.mem_cons, mem_insL, List.mem_cons]
   constructor
   ·rintro (h | h | h) <;> simp [h]
   ·rintro (h | h | h) <;> simp [h]
  ·rw [List.mem_cons]
theorem insL_sorted {l : List Int} : ∀ {out : List (List Int)}, out.Pairwise ltL → l ∉ out → (insL l out).Pairwise ltL
 | [], _, _ => by simp [insL]
 | o :: os, h, hl => by
  rw [List.pairwise_cons] at h
  unfold insL
  split
  ·rename_i hc
   rw [List.pairwise_cons]
   refine ⟨fun x hx => ?_, insL_sorted h.2 fun hh => hl (List.mem_cons_of_mem _ hh)⟩
   rcases mem_insL.1 hx with e | e
   ·subst e; exact hc
   ·exact h.1 x e
  ·rename_i hc
   have h1 : ltL l o := ltL_tot hc fun e => hl (by simp [e])
   rw [List.pairwise_cons, List.pairwise_cons]
   refine ⟨fun x hx => ?_, h.1, h.2⟩
   rcases List.mem_cons.1 hx with e | e
   ·subst e; exact h1
   ·exact ltL_trans h1 (h.1 x e)
theorem insL_len (l : List Int) : ∀ out : List (List Int), (insL l out).length = out.length + 1
 | [] => rfl
 | o :: os => by
  unfold insL
  split
  ·simp [insL_len l os]
  ·simp
theorem insL_at (l : List Int) : ∀ (out : List (List Int)) (x : Nat), x ≤ out.length → (∀ y, y < x → cmpL (out.getD y []) l < 0) → (x < out.length → ¬ cmpL (out.getD x []) l < 0) → out.take x ++ [l] ++ out.drop x = insL l out
 | [], x, hx, _, _ => by simp [insL]
 | o :: os, 0, _, _, h => by
  unfold insL
  rw [if_neg (by simpa using h (by simp))]
  rfl
 | o :: os, x + 1, hx, h1, h2 => by
  unfold insL
  rw [if_pos (by simpa using h1 0 (by omega))]
  rw [← insL_at l os x (by simpa using hx) (fun y hy => by simpa using h1 (y + 1) (by omega)) (fun hh => by simpa using h2 (by simpa using hh))]
  simp
def adjE (es : List S52) (i j : Nat) : Bool := nr es i j
theorem adjE_symm (es : List S52) (i j : Nat) : adjE es i j = adjE es j i := nr_symm es i j
theorem adjE_irr (es : List S52) (i : Nat) : adjE es i i = false := nr_self es i
theorem allPr_iff (es : List S52) (l : List Nat) (hl : l.Nodup) : AllPr (nr es) (il l) ↔ ∀ i j, i ∈ l → j ∈ l → i ≠ j → adjE es i j = true := by
 unfold AllPr
 rw [il_len]
 constructor
 ·intro h i j hi hj hij
  obtain ⟨a, ha, rfl⟩ := List.getElem_of_mem hi
  obtain ⟨b, hb, rfl⟩ := List.getElem_of_mem hj
  have r0 : rd (il l) (a : Int) = (l[a] : Int) := by rw [il_rd _ _ ha]; simp [ha]
  have r1 : rd (il l) (b : Int) = (l[b] : Int) := by rw [il_rd _ _ hb]; simp [hb]
  rcases Nat.lt_trichotomy a b with hab | hab | hab
  ·have := h b a hab hb
   rw [r0, r1] at this
   rw [adjE_symm]; exact this
  ·subst hab; exact absurd rfl hij
  ·have := h a b hab ha
   rw [r0, r1] at this
   exact this
 ·intro h a b hba ha
  have hb : b < l.length := by omega
  have r0 : rd (il l) (a : Int) = (l[a] : Int) := by rw [il_rd _ _ ha]; simp [ha]
  have r1 : rd (il l) (b : Int) = (l[b] : Int) := by rw [il_rd _ _ hb]; simp [hb]
  rw [r0, r1]
  refine h _ _ (List.getElem_mem _) (List.getElem_mem _) fun e => ?_
  have := (List.getElem_inj hl).1 e
  omega
/-- A set of nodes below n that is a maximal clique. -/
def MaxCl (es : List S52) (n t : Nat) : Prop := t < 2 ^ n ∧ (∀ i j, t.testBit i = true → t.testBit j = true → i ≠ j → adjE es i j = true) ∧ ∀ j, j < n → t.testBit j = false → ∃ i, t.testBit i = true ∧ adjE es i j = false
theorem pow_u32' {n : Nat} (hn : n ≤ 31) : 2 ^ n < 4294967296 := pow_u32 (by omega)
theorem cl_l2 (n : Nat) (es : List S52) (out : List (List Int)) (s : Nat) (l : List Int) (hl : l.length < 2 ^ 40) (ho : ∀ x ∈ out, x.length < 2 ^ 40) (hlen : out.length < 2 ^ 30) (hs : s < 2 ^ 40) (R : List (List Int)) (hR : Ev (fun k => gampref04_Cliques.l0 k (n : Int) es (insL l out) ((s + 1 : Nat) : Int)) R) :
    ∀ (d x : Nat), x + d = out.length → (∀ y, y < x → cmpL (out.getD y []) l < 0) → Ev (fun k => gampref04_Cliques.l2 k (n : Int) es out (s : Int) l (x : Int)) R := by
  have fin : ∀ x, x ≤ out.length → (∀ y, y < x → cmpL (out.getD y []) l < 0) → (x < out.length → ¬ cmpL (out.getD x []) l < 0) → ∀ k, (fun y202 : List (List Int) => if (x : Int) ≤ (out.length : Int) then ((some (out.take (x : Int).toNat)).bind fun y205 => (if y202.length + y205.length < 5864062014805 then ((some (y202 ++ y205)).bind fun y210 => (if y210.length < 5864062014805 then ((some (y210 ++ [l])).bind fun y213 => ((some (out.drop (x : Int).toNat)).bind fun y216 => (if y213.length + y216.length < 5864062014805 then (gampref04_Cliques.l0 k (n : Int) es (y213 ++ y216) (wrap64 ((s : Int) + 1))) else (none)))) else (none))) else (none))) else none) [] = gampref04_Cliques.l0 k (n : Int) es (insL l out) ((s + 1 : Nat) : Int) := by
    intro x hx h1 h2 k
    have e := insL_at l out x hx h1 h2
    simp only [Option.bind_some, List.nil_append, Int.toNat_natCast, List.length_nil, List.length_append, List.length_take, List.length_drop, List.length_cons]
    rw [if_pos (by omega), if_pos (by omega), if_pos (by omega), if_pos (by omega), e, wrap_up s (by omega)]
  intro d
  induction d with
  | zero =>
    intro x hx h1
    refine Ev.step (fun k => ?_) hR
    have := fin x (by omega) h1 (fun h => by omega) k
    rw [← this]
    simp only [gampref04_Cliques.l2]
    rw [if_neg (by omega)]
    simp only [Option.bind_some]
    rw [if_pos (by omega)]
  | succ d ih =>
    intro x hx h1
    have hlt : x < out.length := by omega
    have hrd : rd_L2 out (x : Int) = out.getD x [] := by simp [rd_L2]
    have hmem : (out.getD x []).length < 2 ^ 40 := ho _ (by rw [show out.getD x [] = out[x] by simp [hlt]]; exact List.getElem_mem _)
    have ev := less_ev (out.getD x []) l (by omega) (by omega)
    by_cases hc : cmpL (out.getD x []) l < 0
    · have ih2 := ih (x + 1) (by omega) (fun y hy => by
        by_cases e : y = x
        · subst e; exact hc
        · exact h1 y (by omega))
      rw [decide_eq_true hc] at ev
      obtain ⟨K1, hK1⟩ := ev
      obtain ⟨K2, hK2⟩ := ih2
      refine ⟨K1 + K2 + 1, fun k hk => ?_⟩
      obtain ⟨k, rfl⟩ : ∃ j, k = j + 1 := ⟨k - 1, by omega⟩
      have a1 := hK1 k (by omega)
      have a2 := hK2 k (by omega)
      dsimp only at a1 a2
      simp only [gampref04_Cliques.l2]
      rw [if_pos (by omega), if_pos (by omega), hrd, a1, Option.bind_some, if_pos rfl, wrap_up x (by omega), a2]
    · rw [decide_eq_false hc] at ev
      have hf := fin x (by omega) h1 (fun _ => hc)
      obtain ⟨K1, hK1⟩ := ev
      obtain ⟨K2, hK2⟩ := hR
      refine ⟨K1 + K2 + 1, fun k hk => ?_⟩
      obtain ⟨k, rfl⟩ : ∃ j, k = j + 1 := ⟨k - 1, by omega⟩
      have a1 := hK1 k (by omega)
      have a2 := hK2 k (by omega)
      have a3 := hf k
      dsimp only at a1 a2 a3
      simp only [gampref04_Cliques.l2]
      rw [if_pos (by omega), if_pos (by omega), hrd, a1, Option.bind_some, if_neg (by simp), ← a2, ← a3, Option.bind_some]
theorem cl_l1 (n : Nat) (hn : n ≤ 31) (es : List S52) (hes : es.length < 2 ^ 50) (out : List (List Int)) (s : Nat) (hs : s < 2 ^ n) (R : List (List Int))
    (hR1 : (∀ j, j < n → s.testBit j = false → ¬ AllPr (nr es) (il (nd s ++ [j]))) → Ev (fun k => gampref04_Cliques.l2 k (n : Int) es out (s : Int) (il (nd s)) 0) R)
    (hR0 : ¬ (∀ j, j < n → s.testBit j = false → ¬ AllPr (nr es) (il (nd s ++ [j]))) → Ev (fun k => gampref04_Cliques.l0 k (n : Int) es out ((s + 1 : Nat) : Int)) R) :
    ∀ (d i : Nat) (w : Bool), i + d = n → (w = true ↔ ∀ j, j < i → s.testBit j = false → ¬ AllPr (nr es) (il (nd s ++ [j]))) → Ev (fun k => gampref04_Cliques.l1 k (n : Int) es out (s : Int) (il (nd s)) w (i : Int)) R := by
  have hs40 : s < 2 ^ 31 := Nat.lt_of_lt_of_le hs (Nat.pow_le_pow_right (by omega) hn)
  -- where the search ends
  have fin : ∀ (i : Nat) (w : Bool), (w = true ↔ ∀ j, j < n → s.testBit j = false → ¬ AllPr (nr es) (il (nd s ++ [j]))) → Ev (fun k => gampref04_Cliques.j2 k (n : Int) es out (s : Int) (il (nd s)) w (i : Int) false) R := by
    intro i w hw
    cases w
    · refine Ev.step (fun k => ?_) (hR0 fun h => by have := hw.2 h; cases this)
      simp only [gampref04_Cliques.j2]
      rw [if_neg (by simp), if_neg (by simp), wrap_up s (by omega)]
    · refine Ev.step (fun k => ?_) (hR1 (hw.1 rfl))
      simp only [gampref04_Cliques.j2]
      rw [if_neg (by simp), if_pos trivial]
  have len : (nd s).length ≤ 32 := by unfold nd; exact Nat.le_trans (List.length_filter_le _ _) (by simp)
  intro d
  induction d with
  | zero =>
    intro i w hi hw
    obtain rfl : i = n := by omega
    refine Ev.step (fun k => ?_) (fin i w hw)
    simp only [gampref04_Cliques.l1]
    rw [if_neg (by omega)]
  | succ d ih =>
    intro i w hi hw
    have e1 : ∀ k, gampref04_Cliques.l1 (k + 1) (n : Int) es out (s : Int) (il (nd s)) w (i : Int) = gampref04_Cliques.j2 k (n : Int) es out (s : Int) (il (nd s)) w (i : Int) w := fun k => by
      simp only [gampref04_Cliques.l1]
      rw [if_pos (by omega)]
    refine Ev.step e1 ?_
    cases w
    · refine fin i false ?_
      constructor
      · intro h; cases h
      · intro h
        exact hw.2 fun j hj => h j (by omega)
    · have hall := hw.1 rfl
      by_cases hb : s.testBit i = true
      · refine Ev.step (fun k => ?_) (ih (i + 1) true (by omega) ⟨fun _ j hj hjb => by
          by_cases e : j = i
          · subst e; rw [hb] at hjb; cases hjb
          · exact hall j (by omega) hjb, fun _ => rfl⟩)
        simp only [gampref04_Cliques.j2]
        rw [if_pos trivial, if_pos (by omega), bit_i64 s i (by omega), if_pos hb, if_neg (by decide), wrap_up i (by omega)]
      · have ev := clique_ev es hes (il (nd s ++ [i])) (by rw [il_len, List.length_append]; simp; omega)
        by_cases hc : AllPr (nr es) (il (nd s ++ [i]))
        · rw [decide_eq_true hc] at ev
          have ih2 := ih (i + 1) false (by omega) ⟨fun h => (by cases h), fun h => absurd hc (h i (by omega) (by simpa using hb))⟩
          obtain ⟨K1, hK1⟩ := ev
          obtain ⟨K2, hK2⟩ := ih2
          refine ⟨K1 + K2 + 1, fun k hk => ?_⟩
          obtain ⟨k, rfl⟩ : ∃ j, k = j + 1 := ⟨k - 1, by omega⟩
          have a1 := hK1 k (by omega)
          have a2 := hK2 k (by omega)
          dsimp only at a1 a2
          simp only [gampref04_Cliques.j2]
          rw [if_pos trivial, if_pos (by omega), bit_i64 s i (by omega), if_neg hb, if_pos rfl]
          simp only [Option.bind_some, List.nil_append, List.length_nil]
          rw [il_len, if_pos (by omega), if_pos (by omega), show il (nd s) ++ [(i : Int)] = il (nd s ++ [i]) by rw [il_app]; rfl, a1, Option.bind_some, if_pos rfl, wrap_up i (by omega), a2]
        · rw [decide_eq_false hc] at ev
          have ih2 := ih (i + 1) true (by omega) ⟨fun _ j hj hjb => by
            by_cases e : j = i
            · subst e; exact hc
            · exact hall j (by omega) hjb, fun _ => rfl⟩
          obtain ⟨K1, hK1⟩ := ev
          obtain ⟨K2, hK2⟩ := ih2
          refine ⟨K1 + K2 + 1, fun k hk => ?_⟩
          obtain ⟨k, rfl⟩ : ∃ j, k = j + 1 := ⟨k - 1, by omega⟩
          have a1 := hK1 k (by omega)
          have a2 := hK2 k (by omega)
          dsimp only at a1 a2
          simp only [gampref04_Cliques.j2]
          rw [if_pos trivial, if_pos (by omega), bit_i64 s i (by omega), if_neg hb, if_pos rfl]
          simp only [Option.bind_some, List.nil_append, List.length_nil]
          rw [il_len, if_pos (by omega), if_pos (by omega), show il (nd s) ++ [(i : Int)] = il (nd s ++ [i]) by rw [il_app]; rfl, a1, Option.bind_some, if_neg (by simp), wrap_up i (by omega), a2]
theorem maxCl_iff (es : List S52) (n s : Nat) (hs : s < 2 ^ n) (hn : n ≤ 31) : MaxCl es n s ↔ AllPr (nr es) (il (nd s)) ∧ ∀ j, j < n → s.testBit j = false → ¬ AllPr (nr es) (il (nd s ++ [j])) := by
 have hs32 : s < 4294967296 := Nat.lt_trans hs (pow_u32' hn)
 have hm : ∀ j, j ∈ nd s ↔ s.testBit j = true := fun j => mem_nd hs32
 rw [allPr_iff es _ (nd_nodup s)]
 have two : ∀ j, s.testBit j = false → (AllPr (nr es) (il (nd s ++ [j])) ↔ (∀ a b, a ∈ nd s → b ∈ nd s → a ≠ b → adjE es a b = true) ∧ ∀ a, a ∈ nd s → adjE es a j = true) := by
  intro j hj
  have hjn : j ∉ nd s := fun h => by rw [(hm j).1 h] at hj; cases hj
  rw [allPr_iff es _ (List.nodup_append.2 ⟨nd_nodup s, by simp, fun a ha b hb e => by simp at hb; subst hb; exact hjn (e ▸ ha)⟩)]
  constructor
  ·exact fun h => ⟨fun a b ha hb => h a b (List.mem_append_left _ ha) (List.mem_append_left _ hb), fun a ha => h a j (List.mem_append_left _ ha) (by simp) fun e => hjn (e ▸ ha)⟩
  ·rintro ⟨h1, h2⟩ a b ha hb hab
   rcases List.mem_append.1 ha with ha1 | ha1 <;> rcases List.mem_append.1 hb with hb1 | hb1
   ·exact h1 a b ha1 hb1 hab
   ·obtain rfl := List.mem_singleton.1 hb1; exact h2 a ha1
   ·obtain rfl := List.mem_singleton.1 ha1; rw [adjE_symm]; exact h2 b hb1
   ·exact absurd ((List.mem_singleton.1 ha1).trans (List.mem_singleton.1 hb1).symm) hab
 constructor
 ·rintro ⟨_, h1, h2⟩
  refine ⟨fun a b ha hb => h1 a b ((hm a).1 ha) ((hm b).1 hb), fun j hj hjb h => ?_⟩
  obtain ⟨i, hi, hij⟩ := h2 j hj hjb
  rw [((two j hjb).1 h).2 i ((hm i).2 hi)] at hij; cases hij
 ·rintro ⟨h1, h2⟩
  refine ⟨hs, fun a b ha hb => h1 a b ((hm a).2 ha) ((hm b).2 hb), fun j hj hjb => ?_⟩
  apply Classical.byContradiction
  intro hno
  refine h2 j hj hjb ((two j hjb).2 ⟨h1, fun a ha => ?_⟩)
  cases h : adjE es a j
  ·exact absurd ⟨a, (hm a).1 ha, h⟩ hno
  ·rfl
theorem nd_inj {a b : Nat} (ha : a < 4294967296) (hb : b < 4294967296) (h : il (nd a) = il (nd b)) : a = b := nodes_inj a b ha hb (by rw [nodes_nat _ ha, nodes_nat _ hb, h])
/-- All maximal cliques, in order. -/
structure IsCl (es : List S52) (n s : Nat) (out : List (List Int)) : Prop where
  ord : out.Pairwise ltL
  mem : ∀ x, x ∈ out ↔ ∃ t, 1 ≤ t ∧ t < s ∧ x = il (nd t) ∧ MaxCl es n t
  len : out.length + 1 ≤ s
theorem cliques_ref (n : Nat) (hn : n ≤ 20) (es : List S52) (hes : es.length < 2 ^ 50) : ∃ R, Ev (fun k => gampref04_Cliques.f k (n : Int) es) R ∧ IsCl es n (2 ^ n) R := by
  have hshl : shl .i64 1 (n : Int) = ((2 ^ n : Nat) : Int) := by
    unfold shl
    have hb : IntKind.i64.bits = 64 := rfl
    rw [hb, Int.toNat_natCast, Nat.min_eq_left (by omega), IntKind.wrap_i64]
    have hp : 2 ^ n ≤ 2 ^ 20 := Nat.pow_le_pow_right (by omega) hn
    have e : (1 : Int) * 2 ^ n = ((2 ^ n : Nat) : Int) := by simp
    rw [e]
    generalize 2 ^ n = p at *
    omega
  have hp : 2 ^ n ≤ 2 ^ 20 := Nat.pow_le_pow_right (by omega) hn
  have main : ∀ (d s : Nat) (out : List (List Int)), s + d = 2 ^ n → 1 ≤ s → IsCl es n s out → ∃ R, Ev (fun k => gampref04_Cliques.l0 k (n : Int) es out (s : Int)) R ∧ IsCl es n (2 ^ n) R := by
    intro d
    induction d with
    | zero =>
      intro s out hs _ ho
      obtain rfl : s = 2 ^ n := by omega
      refine ⟨out, ?_, ho⟩
      refine Ev.step (f := fun _ => some out) (fun k => ?_) (Ev.now _)
      simp only [gampref04_Cliques.l0]
      rw [if_pos (by omega), hshl, if_neg (by omega)]
    | succ d ih =>
      intro s out hs h1 ho
      have hlt : s < 2 ^ n := by omega
      have hlt2 : s < 2 ^ 20 := by omega
      have hs32 : s < 4294967296 := by omega
      have len : (nd s).length ≤ 32 := by unfold nd; exact Nat.le_trans (List.length_filter_le _ _) (by simp)
      have evb := bits_ev s n hlt (by omega)
      have evc := clique_ev es hes (il (nd s)) (by rw [il_len]; omega)
      -- no new clique
      have skip : ¬ MaxCl es n s → IsCl es n (s + 1) out := fun hm => ⟨ho.ord, fun x => by
        rw [ho.mem]
        constructor
        · rintro ⟨t, a, b, c⟩; exact ⟨t, a, by omega, c⟩
        · rintro ⟨t, a, b, c, m⟩
          refine ⟨t, a, ?_, c, m⟩
          by_cases e : t = s
          · subst e; exact absurd m hm
          · omega, by have := ho.len; omega⟩
      have add : MaxCl es n s → IsCl es n (s + 1) (insL (il (nd s)) out) := fun hm => ⟨insL_sorted ho.ord (fun h => by
          obtain ⟨t, a, b, c, m⟩ := (ho.mem _).1 h
          have := nd_inj hs32 (by omega) c
          omega), fun x => by
        rw [mem_insL, ho.mem]
        constructor
        · rintro (rfl | ⟨t, a, b, c⟩)
          · exact ⟨s, h1, by omega, rfl, hm⟩
          · exact ⟨t, a, by omega, c⟩
        · rintro ⟨t, a, b, c, m⟩
          by_cases e : t = s
          · subst e; exact Or.inl c
          · exact Or.inr ⟨t, a, by omega, c, m⟩, by rw [insL_len]; have := ho.len; omega⟩
      have hob : ∀ x ∈ out, x.length < 2 ^ 40 := fun x hx => by
        obtain ⟨t, _, _, rfl, _⟩ := (ho.mem x).1 hx
        have : (nd t).length ≤ 32 := by unfold nd; exact Nat.le_trans (List.length_filter_le _ _) (by simp)
        rw [il_len]; omega
      have step : ∀ k, gampref04_Cliques.l0 (k + 1) (n : Int) es out (s : Int) = (gampref04_bits.f k (s : Int) (n : Int)).bind fun t186 => (gampref04_Clique.f k es t186).bind fun t189 => if t189 = true then gampref04_Cliques.l1 k (n : Int) es out (s : Int) t186 true 0 else gampref04_Cliques.l0 k (n : Int) es out ((s + 1 : Nat) : Int) := fun k => by
        simp only [gampref04_Cliques.l0]
        rw [if_pos (by omega), hshl, if_pos (by omega), wrap_up s (by omega)]
      have go : ∀ R, Ev (fun k => if decide (AllPr (nr es) (il (nd s))) = true then gampref04_Cliques.l1 k (n : Int) es out (s : Int) (il (nd s)) true 0 else gampref04_Cliques.l0 k (n : Int) es out ((s + 1 : Nat) : Int)) R → Ev (fun k => gampref04_Cliques.l0 k (n : Int) es out (s : Int)) R := by
        intro R hR
        refine Ev.step step ?_
        refine Ev.bind (f := fun k t186 => (gampref04_Clique.f k es t186).bind fun t189 => if t189 = true then gampref04_Cliques.l1 k (n : Int) es out (s : Int) t186 true 0 else gampref04_Cliques.l0 k (n : Int) es out ((s + 1 : Nat) : Int)) evb ?_
        exact Ev.bind (f := fun k t189 => if t189 = true then gampref04_Cliques.l1 k (n : Int) es out (s : Int) (il (nd s)) true 0 else gampref04_Cliques.l0 k (n : Int) es out ((s + 1 : Nat) : Int)) evc hR
      by_cases hm : MaxCl es n s
      · obtain ⟨R, ev, hR⟩ := ih (s + 1) _ (by omega) (by omega) (add hm)
        refine ⟨R, go R ?_, hR⟩
        have hm' := (maxCl_iff es n s hlt (by omega)).1 hm
        refine Ev.congr (fun k => by rw [if_pos (decide_eq_true hm'.1)]) ?_
        refine cl_l1 n (by omega) es hes out s hlt R (fun _ => ?_) (fun h => absurd hm'.2 h) n 0 true (by omega) ⟨fun _ j hj => by omega, fun _ => rfl⟩
        exact cl_l2 n es out s (il (nd s)) (by rw [il_len]; omega) hob (by have := ho.len; omega) (by omega) R ev out.length 0 (by omega) (fun y hy => by omega)
      · obtain ⟨R, ev, hR⟩ := ih (s + 1) _ (by omega) (by omega) (skip hm)
        refine ⟨R, go R ?_, hR⟩
        by_cases hc : AllPr (nr es) (il (nd s))
        · refine Ev.congr (fun k => by rw [if_pos (decide_eq_true hc)]) ?_
          exact cl_l1 n (by omega) es hes out s hlt R (fun h => absurd ((maxCl_iff es n s hlt (by omega)).2 ⟨hc, h⟩) hm) (fun _ => ev) n 0 true (by omega) ⟨fun _ j hj => by omega, fun _ => rfl⟩
        · exact Ev.congr (fun k => by rw [if_neg (by simpa using hc)]) ev
  have h1 : 1 ≤ 2 ^ n := Nat.pos_of_ne_zero (by simp)
  obtain ⟨R, ev, hR⟩ := main (2 ^ n - 1) 1 [] (by omega) (by omega) ⟨List.Pairwise.nil, fun x => ⟨fun h => (by cases h), fun ⟨t, a, b, _⟩ => by omega⟩, by simp⟩
  exact ⟨R, ev, hR⟩
end Go.Proofs.Ytdpolfflemocaaa.Pure
namespace Go.Proofs.Ytdpolfflemocaaa.Pure
open Go Go.RowKit Go.Proofs.YtdpolfflemocaaaW.PrintWords Go.Proofs.YtdpolfflemocaaaW.PrintLast Go.Proofs.YtdpolfflemocaaaW.PrintMore Go.Proofs.Ytdpolfflemocaaa.Cl Go.Proofs.Ytdpolfflemocaaa.Own Go.Proofs.Ytdpolfflemocaaa.Rx
set_option linter.unusedVariables false
set_option linter.unusedSimpArgs false
open Classical
theorem Ev.uniq {α : Type} {g : Nat → Option α} {a b : α} (h1 : Ev g a) (h2 : Ev g b) : a = b := by
 obtain ⟨K1, h1⟩ := h1
 obtain ⟨K2, h2⟩ := h2
 have e1 := h1 (K1 + K2) (by omega)
 have e2 := h2 (K1 + K2) (by omega)
 rw [e1] at e2
 exact Option.some.inj e2
theorem all_f (g : List Nat) (h : g.length ≤ 31) : rib_graph_all.f (il g) = some ((2 ^ g.length - 1 : Nat) : Int) := by
 unfold rib_graph_all.f
 rw [il_len, one_nat _ (by omega), Option.bind_some]
 have hp := pow_u32 (show g.length < 32 by omega)
 have h1 : 1 ≤ 2 ^ g.length := Nat.pos_of_ne_zero (by simp)
 generalize 2 ^ g.length = p at *
 congr 1
 omega
theorem all_bit (n j : Nat) : (2 ^ n - 1).testBit j = decide (j < n) := Nat.testBit_two_pow_sub_one n j
theorem lt_pow_iff (t n : Nat) : t < 2 ^ n ↔ ∀ j, t.testBit j = true → j < n := by
 constructor
 ·intro h j hj
  apply Classical.byContradiction
  intro hn
  rw [Nat.testBit_lt_two_pow (Nat.lt_of_lt_of_le h (Nat.pow_le_pow_right (by omega) (by omega)))] at hj
  cases hj
 ·intro h
  apply Nat.lt_pow_two_of_testBit
  intro j hj
  cases hb : t.testBit j
  ·rfl
  ·have := h j hb; omega
theorem leS_iff (x y : Nat) (hx : x < 4294967296) (hy : y < 4294967296) : leS (x : Int) (y : Int) = true ↔ ¬ ltL (il (nd y)) (il (nd x)) := by
 unfold leS ltL
 rw [nodes_nat _ hx, nodes_nat _ hy]
 simp
/-- The maximal cliques of a graph, sorted. -/
theorem maximal_ev (g : List Nat) (G : Gr g) (es : List S52) (ha : ∀ a b : Nat, ad g a b = nr es a b) (hg : g.length ≤ 20) : ∃ M : List Nat, Ev (fun k => rib_maximal.f k (il g)) (il M) ∧ (M.map fun t => il (nd t)).Pairwise ltL ∧ (∀ t, t ∈ M ↔ MaxCl es g.length t) ∧ ∀ t ∈ M, t < 4294967296 := by
  have hp31 : 2 ^ g.length ≤ 2 ^ 20 := Nat.pow_le_pow_right (by omega) hg
  obtain ⟨r, ev, f, l, b⟩ := cliques_ev g G ((nd (2 ^ g.length - 1)).length + 1) 0 (2 ^ g.length - 1) 0 (by omega) (by omega) (by omega) (by omega) (fun j hj => by rw [all_bit] at hj; simpa using hj) (fun j hj => by simp at hj)
  have hmem : ∀ t, t ∈ r ↔ MaxCl es g.length t := by
    intro t
    rw [f.mem]
    have key : Cl.Good (ad g) (2 ^ g.length - 1) 0 t ↔ MaxCl es g.length t := by
      unfold Cl.Good MaxCl
      rw [lt_pow_iff]
      constructor
      · rintro ⟨h1, h2, h3⟩
        refine ⟨fun j hj => by have := h1 j hj; rw [all_bit] at this; simpa using this, fun i j hi hj hij => by have := h2 i j hi hj hij; rw [ha] at this; exact this, fun j hj hjt => ?_⟩
        obtain ⟨i, hi, hij⟩ := h3 j (Or.inl (by rw [all_bit]; simpa using hj)) hjt
        exact ⟨i, hi, by rw [ha] at hij; exact hij⟩
      · rintro ⟨h1, h2, h3⟩
        refine ⟨fun j hj => by rw [all_bit]; simpa using h1 j hj, fun i j hi hj hij => by rw [ha]; exact h2 i j hi hj hij, fun j hj hjt => ?_⟩
        obtain ⟨i, hi, hij⟩ := h3 j (by rcases hj with hj | hj; · rw [all_bit] at hj; simpa using hj
                                        · simp at hj) hjt
        exact ⟨i, hi, by rw [ha]; exact hij⟩
    constructor
    · rintro ⟨s, e, h, _⟩
      have e2 : t = s := by rw [e]; simp
      subst e2; exact key.1 h
    · intro h
      exact ⟨t, by simp, key.2 h, fun h => by cases h⟩
  -- sorted
  obtain ⟨M, hM⟩ : ∃ M : List Nat, sortS (il r) = il M ∧ ∀ t, t ∈ M ↔ t ∈ r := by
    have hperm : (sortS (il r)).Perm (il r) := List.mergeSort_perm _ _
    refine ⟨(sortS (il r)).map Int.toNat, ?_, fun t => ?_⟩
    · show sortS (il r) = ((sortS (il r)).map Int.toNat).map fun i : Nat => (i : Int)
      rw [List.map_map]
      have : ∀ x ∈ sortS (il r), ((fun i : Nat => (i : Int)) ∘ Int.toNat) x = x := by
        intro x hx
        obtain ⟨y, _, rfl⟩ := List.mem_map.1 (hperm.mem_iff.1 hx)
        simp
      rw [List.map_congr_left this]; simp
    · rw [List.mem_map]
      constructor
      · rintro ⟨x, hx, rfl⟩
        obtain ⟨y, hy, rfl⟩ := List.mem_map.1 (hperm.mem_iff.1 hx)
        simpa using hy
      · intro ht
        exact ⟨(t : Int), hperm.mem_iff.2 (List.mem_map.2 ⟨t, ht, rfl⟩), by simp⟩
  have hMb : ∀ t ∈ M, t < 4294967296 := fun t ht => b t ((hM.2 t).1 ht)
  refine ⟨M, ?_, ?_, fun t => (hM.2 t).trans (hmem t), hMb⟩
  · refine Ev.congr (g := fun k => rib_maximal.f k (il g)) (f := fun k => (rib_graph_cliques.f k (il g) ((0 : Nat) : Int) ((2 ^ g.length - 1 : Nat) : Int) ((0 : Nat) : Int)).bind fun r => if r.all isSet = true then (if r.length < 4611686018427387904 then some (sortS r) else none) else none) (fun k => ?_) ?_
    · unfold rib_maximal.f
      rw [all_f g (by omega), Option.bind_some]; rfl
    · refine Ev.bind (f := fun _ r => if r.all isSet = true then (if r.length < 4611686018427387904 then some (sortS r) else none) else none) ev ?_
      have h1 : (il r).all isSet = true := by
        rw [List.all_eq_true]
        intro x hx
        obtain ⟨t, ht, rfl⟩ := List.mem_map.1 hx
        have := b t ht
        simp [isSet]; omega
      have h2 : (il r).length < 4611686018427387904 := by
        rw [il_len]
        have h3 : (nd (2 ^ g.length - 1)).length ≤ 32 := by unfold nd; exact Nat.le_trans (List.length_filter_le _ _) (by simp)
        have h4 : 2 ^ (nd (2 ^ g.length - 1)).length ≤ 2 ^ 32 := Nat.pow_le_pow_right (by omega) h3
        have h5 : (2 : Nat) ^ 32 < 4611686018427387904 := by decide
        omega
      refine Ev.congr (fun k => by rw [if_pos h1, if_pos h2, hM.1]) (Ev.now _)
  · -- the nodes of the sorted sets rise
    have hs : (sortS (il r)).Pairwise fun a b => leS a b = true := by
      refine List.pairwise_mergeSort (fun a b c h1 h2 => ?_) (fun a b => ?_) _
      · unfold leS at *
        simp only [Bool.not_eq_true', decide_eq_false_iff_not] at *
        have t1 := cmpL_trans (nodes a) (nodes b) (nodes c)
        have a1 := cmpL_anti (nodes a) (nodes b)
        have a2 := cmpL_anti (nodes b) (nodes c)
        have a3 := cmpL_anti (nodes a) (nodes c)
        have := (t1 (by omega) (by omega)).1
        omega
      · unfold leS
        have a1 := cmpL_anti (nodes a) (nodes b)
        by_cases h : cmpL (nodes b) (nodes a) < 0
        · simp [h]; omega
        · simp [h]
    rw [hM.1] at hs
    have hnd : M.Nodup := by
      have h1 : (il M).Nodup := by
        rw [← hM.1]
        refine (List.mergeSort_perm _ _).nodup_iff.2 ?_
        exact List.Pairwise.map _ (fun a b h e => h (by omega)) f.nodup
      exact List.Pairwise.of_map _ (fun a b h e => h (by rw [e])) h1
    rw [List.pairwise_map]
    have hs2 : M.Pairwise fun (a b : Nat) => leS (a : Int) (b : Int) = true := by
      unfold il at hs; rw [List.pairwise_map] at hs; exact hs
    refine List.Pairwise.imp_of_mem ?_ (List.Pairwise.and hs2 hnd)
    rintro x y hx hy ⟨h1, h2⟩
    have h3 := (leS_iff x y (hMb x hx) (hMb y hy)).1 h1
    exact ltL_tot h3 fun e => h2 (nd_inj (hMb x hx) (hMb y hy) e.symm)
theorem lists_ev (M : List Nat) (hM : ∀ t ∈ M, t < 4294967296) (hl : M.length < 2 ^ 40) : Ev (fun k => rib_lists.f k (il M)) (M.map fun t => il (nd t)) := by
 have main : ∀ (d i : Nat), i + d = M.length → Ev (fun k => rib_lists.l0 k ((M.take i).map fun t => il (nd t)) (il M) (M.length : Int) (i : Int)) (M.map fun t => il (nd t)) := by
  intro d
  induction d with
  | zero =>
   intro i hi
   rw [show M.take i = M from List.take_of_length_le (by omega)]
   refine Ev.step (f := fun _ => some (M.map fun t => il (nd t))) (fun k => ?_) (Ev.now _)
   simp only [rib_lists.l0]
   rw [if_neg (by omega)]
  | succ d ih =>
   intro i hi
   have hlt : i < M.length := by omega
   have r0 : rd (il M) (i : Int) = (M[i] : Int) := by rw [il_rd _ _ hlt]; simp [hlt]
   have hM2 := hM M[i] (List.getElem_mem _)
   obtain ⟨K, hK⟩ := ih (i + 1) (by omega)
   refine ⟨K + 40, fun k hk => ?_⟩
   obtain ⟨k, rfl⟩ : ∃ j, k = j + 1 := ⟨k - 1, by omega⟩
   have a1 := hK k (by omega)
   dsimp only at a1
   simp only [rib_lists.l0]
   rw [if_pos (by omega), if_pos (by omega), il_len, if_pos (by omega), r0, list_f _ _ (by omega), Option.bind_some, nodes_nat _ hM2, List.length_map, List.length_take, if_pos (by omega), wrap_up i (by omega), ← a1, List.take_succ_eq_append_getElem hlt, List.map_append]
   rfl
 have h := main M.length 0 (by omega)
 refine Ev.congr (fun k => ?_) h
 unfold rib_lists.f
 rw [il_len]; rfl
/-- Cliques tells what the reference tells. -/
theorem cliques_prog (n : Nat) (es : List S52) (hes : es.length < 2 ^ 50) (v : Valid n es) : ∃ R, Ev (fun k => gampref04_Cliques.f k (n : Int) es) R ∧ IsCl es n (2 ^ n) R ∧ Ev (fun k => rib_Cliques.f k (n : Int) es) (R, 0) := by
 have hn := v.hi
 obtain ⟨R, evR, hR⟩ := cliques_ref n (by omega) es hes
 obtain ⟨g, evg, G, hgl, hga⟩ := read_ok n es hes v
 obtain ⟨M, evM, hs, hmem, hb⟩ := maximal_ev g G es hga (by omega)
 rw [hgl] at hmem
 have hpos : ∀ t, MaxCl es n t → 1 ≤ t ∧ t < 2 ^ n := by
  intro t ht
  refine ⟨?_, ht.1⟩
  apply Classical.byContradiction
  intro h0
  obtain rfl : t = 0 := by omega
  have hlo := v.lo
  obtain ⟨i, hi, _⟩ := ht.2.2 0 (by omega) (by simp)
  simp at hi
 have hR' : (M.map fun t => il (nd t)) = R := by
  refine sorted_eq hs hR.ord fun x => ?_
  rw [List.mem_map, hR.mem]
  constructor
  ·rintro ⟨t, ht, rfl⟩
   have := (hmem t).1 ht
   exact ⟨t, (hpos t this).1, (hpos t this).2, rfl, this⟩
  ·rintro ⟨t, _, _, rfl, ht⟩
   exact ⟨t, (hmem t).2 ht, rfl⟩
 have hlen : M.length < 2 ^ 40 := by
  have h1 := hR.len
  rw [← hR', List.length_map] at h1
  have h2 : 2 ^ n ≤ 2 ^ 12 := Nat.pow_le_pow_right (by omega) (by omega)
  omega
 refine ⟨R, evR, hR, ?_⟩
 refine Ev.congr (g := fun k => rib_Cliques.f k (n : Int) es) (f := fun k => (rib_read.f k (n : Int) es).bind fun bt114 => (if bt114.2 = true then ((rib_maximal.f k bt114.1).bind fun t118 => ((rib_lists.f k t118).bind fun t121 => (some (t121, 0)))) else (some (([] : List (List Int)), 1)))) (fun k => rfl) ?_
 refine Ev.bind (f := fun k bt114 => (if bt114.2 = true then ((rib_maximal.f k bt114.1).bind fun t118 => ((rib_lists.f k t118).bind fun t121 => (some (t121, (0 : Int))))) else (some (([] : List (List Int)), 1)))) evg ?_
 refine Ev.congr (fun k => if_pos rfl) ?_
 refine Ev.bind (f := fun k t118 => (rib_lists.f k t118).bind fun t121 => (some (t121, (0 : Int)))) evM ?_
 rw [← hR']
 exact Ev.bind (f := fun k t121 => some (t121, (0 : Int))) (lists_ev M hb hlen) (Ev.now _)
def pathE : List S52 := [⟨0, 1⟩, ⟨1, 2⟩]
theorem path_valid : Valid 3 pathE := by
  refine ⟨by decide, by decide, fun i hi => ?_⟩
  simp [pathE] at hi
  match i, hi with
  | 0, _ => exact ⟨by decide, by decide, by decide, fun k hk => by omega⟩
  | 1, _ => exact ⟨by decide, by decide, by decide, fun k hk => by
      obtain rfl : k = 0 := by omega
      decide⟩
theorem lives_ev : Ev (fun k => gamplaw04_lives.f k) true := by
 obtain ⟨R, e1, _, e2⟩ := cliques_prog 3 pathE (by decide) path_valid
 have hR : R = [[0, 1], [1, 2]] := by
  refine Ev.uniq e1 (Ev.of (fun k => gampref04_Cliques.mono _ _ k) (k := 60) ?_)
  decide +kernel
 subst hR
 have e3 : Ev (fun k => rib_Order.f k 3 pathE) ([0, 1, 2], 0) := Ev.of (fun k => rib_Order.mono _ _ k) (k := 200) (by decide +kernel)
 have e4 : Ev (fun k => gampref01_Same.f k [0, 1] [0, 1]) true := Ev.of (fun k => gampref01_Same.mono _ _ k) (k := 20) (by decide +kernel)
 have e5 : Ev (fun k => gampref01_Same.f k [1, 2] [1, 2]) true := Ev.of (fun k => gampref01_Same.mono _ _ k) (k := 20) (by decide +kernel)
 have e6 : Ev (fun k => gampref04_Permutation.f k [0, 1, 2] 3) true := Ev.of (fun k => gampref04_Permutation.mono _ _ k) (k := 60) (by decide +kernel)
 obtain ⟨K2, h2⟩ := e2
 obtain ⟨K3, h3⟩ := e3
 obtain ⟨K4, h4⟩ := e4
 obtain ⟨K5, h5⟩ := e5
 obtain ⟨K6, h6⟩ := e6
 refine ⟨K2 + K3 + K4 + K5 + K6, fun k hk => ?_⟩
 have a2 := h2 k (by omega)
 have a3 := h3 k (by omega)
 have a4 := h4 k (by omega)
 have a5 := h5 k (by omega)
 have a6 := h6 k (by omega)
 dsimp only at a2 a3 a4 a5 a6
 show gamplaw04_lives.f k = some true
 unfold gamplaw04_lives.f
 rw [Option.bind_some]
 rw [show ([(⟨0, 1⟩ : S52), (⟨1, 2⟩ : S52)] : List S52) = pathE from rfl, show (3 : Int) = ((3 : Nat) : Int) from rfl, a2, Option.bind_some]
 rw [show ((3 : Nat) : Int) = 3 from rfl, a3, Option.bind_some]
 dsimp only
 rw [if_pos rfl, if_pos (by decide), if_pos (by decide), show rd_L2 [[0, 1], [1, 2]] 0 = [0, 1] from rfl, a4, Option.bind_some, if_pos rfl, if_pos (by decide), show rd_L2 [[0, 1], [1, 2]] 1 = [1, 2] from rfl, a5, Option.bind_some, if_pos rfl, if_pos rfl, a6]
 rfl
def fewN (n : Int) : Int := if n > 8 then (if n ≤ 12 then 8 else n) else n
theorem few_f (n : Int) (es : List S52) : gamplaw04_few.f n es = some (fewN n, es.take 70) := by
 have h1 : 0 ≤ mn (es.length : Int) 70 := by unfold mn; split <;> omega
 have h2 : mn (es.length : Int) 70 ≤ (es.length : Int) := by unfold mn; split <;> omega
 have h3 : es.take (mn (es.length : Int) 70).toNat = es.take 70 := by
  unfold mn
  split
  ·rfl
  ·rw [List.take_of_length_le (by omega), List.take_of_length_le (by omega)]
 have h4 : (es.take 70).length ≤ 70 := List.length_take_le _ _
 unfold gamplaw04_few.f fewN
 simp only [Option.bind_some, List.nil_append, List.length_nil]
 rw [if_pos h1, if_pos h2, h3, if_pos (by omega)]
 split
 ·split <;> rfl
 ·rfl
end Go.Proofs.Ytdpolfflemocaaa.Pure
namespace Go.Proofs.Ytdpolfflemocaaa.Tr
def E (es : List (Nat × Nat)) (S : Nat → Bool) : Nat := es.countP fun e => S e.1 && S e.2
def N (m : Nat) (S : Nat → Bool) : Nat := (List.range m).countP S
end Go.Proofs.Ytdpolfflemocaaa.Tr
namespace Go.Proofs.Ytdpolfflemocaaa.Pure
open Go Go.RowKit Go.Proofs.YtdpolfflemocaaaW.PrintWords Go.Proofs.YtdpolfflemocaaaW.PrintLast Go.Proofs.YtdpolfflemocaaaW.PrintMore Go.Proofs.Ytdpolfflemocaaa.Cl Go.Proofs.Ytdpolfflemocaaa.Own Go.Proofs.Ytdpolfflemocaaa.Rx
set_option linter.unusedVariables false
set_option linter.unusedSimpArgs false
open Classical
/-- The neighbours of v among some nodes are a clique. -/
def Simp (es : List S52) (left : List Nat) (v : Nat) : Prop := ∀ a b, a ∈ left → b ∈ left → adjE es v a = true → adjE es v b = true → a ≠ b → adjE es a b = true
noncomputable def elim (es : List S52) : Nat → List Nat → Option (List Nat)
 | 0, _ => some []
 | k + 1, left => match left.find? (fun v => decide (Simp es left v)) with
  | none => if left = [] then some [] else none
  | some v => (elim es k (left.erase v)).map (v :: ·)
theorem il_take (l : List Nat) (i : Nat) : (il l).take i = il (l.take i) := by simp [il, List.map_take]
theorem il_drop (l : List Nat) (i : Nat) : (il l).drop i = il (l.drop i) := by simp [il, List.map_drop]
theorem erase_at : ∀ (l : List Nat) (i : Nat), l.Nodup → (h : i < l.length) → l.take i ++ l.drop (i + 1) = l.erase l[i]
 | [], i, _, h => by simp at h
 | a :: l, 0, _, h => by simp
 | a :: l, i + 1, hn, h => by
  rw [List.nodup_cons] at hn
  have hi : i < l.length := by simpa using h
  have hne : (a == l[i]) = false := by
   rw [beq_eq_false_iff_ne]
   exact fun e => hn.1 (e ▸ List.getElem_mem hi)
  have ih := erase_at l i hn.2 hi
  simp only [List.take_succ_cons, List.drop_succ_cons, List.cons_append, List.getElem_cons_succ]
  rw [List.erase_cons, hne, ih]
  rfl
/-- The inner loop of the reference's Chordal: the neighbours of a place. -/
theorem chord_l3 (es : List S52) (hes : es.length < 2 ^ 50) (left : List Nat) (hl : left.length < 2 ^ 30) (at_ : Int) (i : Nat) (hi : i < left.length) (R : Bool) (hnd : left.Nodup)
  (hR : Ev (fun k => gampref04_Chordal.l2 k es (il left) (if Simp es left left[i] then (i : Int) else at_) ((i + 1 : Nat) : Int)) R) :
  ∀ (d j : Nat) (acc : List Nat), j + d = left.length → acc = (left.take j).filter (adjE es left[i] ·) → Ev (fun k => gampref04_Chordal.l3 k es (il left) at_ (i : Int) (il acc) (j : Int)) R := by
 intro d
 induction d with
 | zero =>
  intro j acc hj hacc
  have hj2 : left.take j = left := List.take_of_length_le (by omega)
  rw [hj2] at hacc
  have hlen : acc.length ≤ left.length := by rw [hacc]; exact List.length_filter_le _ _
  have ev := clique_ev es hes (il acc) (by rw [il_len]; omega)
  have hiff : AllPr (nr es) (il acc) ↔ Simp es left left[i] := by
   rw [allPr_iff es acc (by rw [hacc]; exact hnd.sublist List.filter_sublist), hacc]
   unfold Simp
   constructor
   ·exact fun h a b ha hb haa hab hne => h a b (List.mem_filter.2 ⟨ha, haa⟩) (List.mem_filter.2 ⟨hb, hab⟩) hne
   ·exact fun h a b ha hb hne => h a b (List.mem_filter.1 ha).1 (List.mem_filter.1 hb).1 (List.mem_filter.1 ha).2 (List.mem_filter.1 hb).2 hne
  obtain ⟨K1, h1⟩ := ev
  obtain ⟨K2, h2⟩ := hR
  refine ⟨K1 + K2 + 1, fun k hk => ?_⟩
  obtain ⟨k, rfl⟩ : ∃ j, k = j + 1 := ⟨k - 1, by omega⟩
  have a1 := h1 k (by omega)
  have a2 := h2 k (by omega)
  dsimp only at a1 a2
  simp only [gampref04_Chordal.l3]
  rw [if_neg (by rw [il_len]; omega), a1, Option.bind_some, wrap_up i (by omega)]
  by_cases hs : Simp es left left[i]
  ·rw [if_pos (decide_eq_true (hiff.2 hs))]
   rw [if_pos hs] at a2; exact a2
  ·rw [if_neg (by simpa using fun h => hs (hiff.1 h))]
   rw [if_neg hs] at a2; exact a2
 | succ d ih =>
  intro j acc hj hacc
  have hjl : j < left.length := by omega
  have hlen : acc.length ≤ left.length := by rw [hacc]; exact Nat.le_trans (List.length_filter_le _ _) (List.length_take_le' _ _)
  have ev := near_ev es hes (left[i] : Int) (left[j] : Int)
  have hstep : (left.take (j + 1)).filter (adjE es left[i] ·) = if adjE es left[i] left[j] = true then acc ++ [left[j]] else acc := by
   rw [List.take_succ_eq_append_getElem hjl, List.filter_append, hacc]
   by_cases hn : adjE es left[i] left[j] = true
   ·rw [if_pos hn]; simp [hn]
   ·rw [if_neg hn]; simp [hn]
  have ih2 := ih (j + 1) _ (by omega) hstep.symm
  obtain ⟨K1, h1⟩ := ev
  obtain ⟨K2, h2⟩ := ih2
  refine ⟨K1 + K2 + 1, fun k hk => ?_⟩
  obtain ⟨k, rfl⟩ : ∃ j, k = j + 1 := ⟨k - 1, by omega⟩
  have a1 := h1 k (by omega)
  have a2 := h2 k (by omega)
  dsimp only at a1 a2
  have ri : rd (il left) (i : Int) = (left[i] : Int) := by rw [il_rd _ _ hi]; simp [hi]
  have rj : rd (il left) (j : Int) = (left[j] : Int) := by rw [il_rd _ _ hjl]; simp [hjl]
  simp only [gampref04_Chordal.l3]
  rw [il_len, if_pos (by omega), if_pos (by omega), if_pos (by omega), if_pos (by omega), ri, rj, a1, Option.bind_some, il_len, wrap_up j (by omega)]
  by_cases hn : adjE es left[i] left[j] = true
  ·rw [if_pos (show nr es left[i] left[j] = true from hn), if_pos (by omega), show il acc ++ [(left[j] : Int)] = il (acc ++ [left[j]]) by rw [il_app]; rfl]
   rw [if_pos hn] at a2; exact a2
  ·rw [if_neg (show ¬ nr es left[i] left[j] = true from hn)]
   rw [if_neg hn] at a2; exact a2
/-- The search for the first node whose neighbours are a clique. -/
theorem chord_l2 (es : List S52) (hes : es.length < 2 ^ 50) (left : List Nat) (hl : left.length < 2 ^ 30) (hnd : left.Nodup) (R : Bool)
  (hR : ∀ i (h : i < left.length), Simp es left left[i] → (∀ j (hj : j < left.length), j < i → ¬ Simp es left left[j]) → Ev (fun k => gampref04_Chordal.l1 k es (il (left.erase left[i]))) R)
  (hN : (∀ j (hj : j < left.length), ¬ Simp es left left[j]) → R = false) :
  ∀ (d i : Nat), i + d = left.length → (∀ j (hj : j < left.length), j < i → ¬ Simp es left left[j]) → Ev (fun k => gampref04_Chordal.l2 k es (il left) (-1) (i : Int)) R := by
 -- what is done where the search ends
 have fin : ∀ i (h : i < left.length), Simp es left left[i] → (∀ j (hj : j < left.length), j < i → ¬ Simp es left left[j]) → ∀ j : Nat, Ev (fun k => gampref04_Chordal.j3 k es (il left) (i : Int) (j : Int) false) R := by
  intro i h hs hf j
  refine Ev.step (fun k => ?_) (hR i h hs hf)
  have t1 : (left.take i).length ≤ left.length := List.length_take_le' _ _
  have t2 : (left.drop (i + 1)).length ≤ left.length := by rw [List.length_drop]; omega
  have c1 : ([] : List Int).length + (il (left.take i)).length < 17592186044416 := by rw [il_len, List.length_nil]; omega
  have c2 : ([] ++ il (left.take i)).length + (il (left.drop (i + 1))).length < 17592186044416 := by rw [List.nil_append, il_len, il_len]; omega
  have w1 : wrap64 ((i : Int) + 1) = ((i + 1 : Nat) : Int) := wrap_up i (by omega)
  have i1 : (0 : Int) ≤ (i : Int) := by omega
  have i2 : (i : Int) ≤ (left.length : Int) := by omega
  have i3 : (0 : Int) ≤ ((i + 1 : Nat) : Int) := by omega
  have i4 : ((i + 1 : Nat) : Int) ≤ (left.length : Int) := by omega
  have i5 : ¬ (i : Int) < 0 := by omega
  have e := erase_at left i hnd h
  clear hR hN hf hs
  simp only [gampref04_Chordal.j3]
  rw [if_neg (by simp), if_neg i5, Option.bind_some, if_pos i1, il_len, if_pos i2, w1, Int.toNat_natCast, Int.toNat_natCast, il_take, il_drop, Option.bind_some, if_pos c1, Option.bind_some, if_pos i3, if_pos i4, Option.bind_some, if_pos c2, List.nil_append, ← il_app, e]
 intro d
 induction d with
 | zero =>
  intro i hi hf
  rw [hN fun j hj => hf j hj (by omega)]
  refine Ev.step (f := fun k => gampref04_Chordal.j3 k es (il left) (-1) (i : Int) false) (fun k => ?_) ?_
  ·simp only [gampref04_Chordal.l2]
   rw [il_len, if_neg (by omega)]
  ·refine Ev.step (f := fun _ => some false) (fun k => ?_) (Ev.now _)
   simp only [gampref04_Chordal.j3]
   rw [if_neg (by simp), if_pos (by omega)]
 | succ d ih =>
  intro i hi hf
  have hil : i < left.length := by omega
  refine Ev.step (f := fun k => gampref04_Chordal.j3 k es (il left) (-1) (i : Int) true) (fun k => ?_) ?_
  ·simp only [gampref04_Chordal.l2]
   rw [il_len, if_pos (by omega), decide_eq_true (by omega)]
  ·refine Ev.step (f := fun k => gampref04_Chordal.l3 k es (il left) (-1) (i : Int) (il []) ((0 : Nat) : Int)) (fun k => ?_) ?_
   ·simp only [gampref04_Chordal.j3]
    rw [if_pos trivial]; rfl
   ·refine chord_l3 es hes left hl (-1) i hil R hnd ?_ left.length 0 [] (by omega) (by simp)
    by_cases hs : Simp es left left[i]
    ·rw [if_pos hs]
     -- the next round ends the search
     refine Ev.step (f := fun k => gampref04_Chordal.j3 k es (il left) (i : Int) ((i + 1 : Nat) : Int) false) (fun k => ?_) (fin i hil hs hf (i + 1))
     simp only [gampref04_Chordal.l2]
     by_cases h : ((i + 1 : Nat) : Int) < ((il left).length : Int)
     ·rw [if_pos h, decide_eq_false (by omega)]
     ·rw [if_neg h]
    ·rw [if_neg hs]
     exact ih (i + 1) (by omega) (fun j hj hji => by
      by_cases e : j = i
      ·subst e; exact hs
      ·exact hf j hj (by omega))
theorem chord_l1 (es : List S52) (hes : es.length < 2 ^ 50) : ∀ (d : Nat) (left : List Nat), left.length ≤ d → left.length < 2 ^ 30 → left.Nodup → Ev (fun k => gampref04_Chordal.l1 k es (il left)) (elim es d left).isSome := by
 intro d
 induction d with
 | zero =>
  intro left hd _ _
  obtain rfl : left = [] := List.length_eq_zero_iff.1 (by omega)
  refine Ev.step (f := fun _ => some true) (fun k => ?_) (Ev.now _)
  simp [gampref04_Chordal.l1, il]
 | succ d ih =>
  intro left hd hl hnd
  by_cases h0 : left = []
  ·subst h0
   refine Ev.step (f := fun _ => some true) (fun k => ?_) (Ev.now _)
   simp [gampref04_Chordal.l1, il]
  ·have hpos : 0 < left.length := List.length_pos_iff.2 h0
   refine Ev.step (f := fun k => gampref04_Chordal.l2 k es (il left) (-1) ((0 : Nat) : Int)) (fun k => ?_) ?_
   ·simp only [gampref04_Chordal.l1]
    rw [il_len, if_pos (by omega)]; rfl
   ·refine chord_l2 es hes left hl hnd _ ?_ ?_ left.length 0 (by omega) (fun j _ hj => by omega)
    ·intro i hi hs hf
     have hfind : left.find? (fun v => decide (Simp es left v)) = some left[i] := by
      rw [List.find?_eq_some_iff_getElem]
      refine ⟨decide_eq_true hs, i, hi, rfl, fun j hj => by simpa using hf j (by omega) hj⟩
     have : elim es (d + 1) left = (elim es d (left.erase left[i])).map (left[i] :: ·) := by
      rw [elim, hfind]
     rw [this, Option.isSome_map]
     have hle : (left.erase left[i]).length = left.length - 1 := List.length_erase_of_mem (List.getElem_mem hi)
     exact ih _ (by omega) (by omega) (hnd.erase _)
    ·intro hn
     have hfind : left.find? (fun v => decide (Simp es left v)) = none := by
      rw [List.find?_eq_none]
      intro v hv
      obtain ⟨j, hj, rfl⟩ := List.getElem_of_mem hv
      simpa using hn j hj
     rw [elim, hfind]
     simp [h0]
theorem chordal_ev (n : Nat) (hn : n ≤ 100) (es : List S52) (hes : es.length < 2 ^ 50) : Ev (fun k => gampref04_Chordal.f k (n : Int) es) (elim es n (List.range n)).isSome := by
 have main : ∀ (d i : Nat), i + d = n → Ev (fun k => gampref04_Chordal.l0 k (n : Int) es (il (List.range i)) (i : Int)) (elim es n (List.range n)).isSome := by
  intro d
  induction d with
  | zero =>
   intro i hi
   obtain rfl : i = n := by omega
   refine Ev.step (fun k => ?_) (chord_l1 es hes i (List.range i) (by simp) (by simp; omega) List.nodup_range)
   simp only [gampref04_Chordal.l0]
   rw [if_neg (by omega)]
  | succ d ih =>
   intro i hi
   refine Ev.step (fun k => ?_) (ih (i + 1) (by omega))
   simp only [gampref04_Chordal.l0]
   rw [if_pos (by omega), il_len, List.length_range, if_pos (by omega), wrap_up i (by omega), List.range_succ, il_app]
   rfl
 exact main n 0 (by omega)
end Go.Proofs.Ytdpolfflemocaaa.Pure
namespace Go.Proofs.Ytdpolfflemocaaa.Pure
open Go Go.RowKit Go.Proofs.YtdpolfflemocaaaW.PrintWords Go.Proofs.YtdpolfflemocaaaW.PrintLast Go.Proofs.YtdpolfflemocaaaW.PrintMore Go.Proofs.Ytdpolfflemocaaa.Cl Go.Proofs.Ytdpolfflemocaaa.Own Go.Proofs.Ytdpolfflemocaaa.Rx Go.Proofs.Ytdpolfflemocaaa.Re
set_option linter.unusedVariables false
set_option linter.unusedSimpArgs false
open Classical
theorem pig : ∀ (s l : List Nat), s.Nodup → (∀ x ∈ s, x ∈ l) → s.length ≤ l.length ∧ (s.length = l.length → s.Perm l)
  | [], l, _, _ => ⟨by simp, fun h => by
      obtain rfl : l = [] := List.length_eq_zero_iff.1 (by simpa using h.symm)
      exact List.Perm.refl _⟩
  | a :: s, l, hn, hs => by
    rw [List.nodup_cons] at hn
    have ha : a ∈ l := hs a (by simp)
    have hp := List.perm_cons_erase ha
    have hl : l.length = (l.erase a).length + 1 := by rw [hp.length_eq]; rfl
    obtain ⟨h1, h2⟩ := pig s (l.erase a) hn.2 fun x hx => (List.mem_erase_of_ne (fun e => hn.1 (by rw [← e]; exact hx))).2 (hs x (List.mem_cons_of_mem _ hx))
    refine ⟨by simp; omega, fun h => ?_⟩
    simp at h
    exact ((h2 (by omega)).cons a).trans hp.symm
def setOf : List Nat → Nat
  | [] => 0
  | a :: l => setOf l ||| 2 ^ a
theorem setOf_bit : ∀ (l : List Nat) (j : Nat), (setOf l).testBit j = decide (j ∈ l)
 | [], j => by simp [setOf]
 | a :: l, j => by
  rw [setOf, Nat.testBit_or, Nat.testBit_two_pow, setOf_bit l j, ← Bool.decide_or, decide_eq_decide, List.mem_cons]
  constructor
  ·rintro (h | h)
   ·exact Or.inr h
   ·exact Or.inl h.symm
  ·rintro (h | h)
   ·exact Or.inr h.symm
   ·exact Or.inl h
theorem rd_nat_get (l : List Nat) (i : Nat) (h : i < l.length) : rd (il l) (i : Int) = (l[i] : Int) := by rw [il_rd _ _ h]; simp [h]
theorem rd_get (l : List Int) (i : Nat) (h : i < l.length) : rd l (i : Int) = l[i] := by simp [rd, h]
theorem sub_bit (a b j : Nat) (ha : a < 4294967296) (hb : b < 4294967296) : (a &&& (4294967295 - b)).testBit j = (a.testBit j && !b.testBit j) := by
 have e : 4294967295 - b = 2 ^ 32 - (b + 1) := by omega
 rw [Nat.testBit_and, e, Nat.testBit_two_pow_sub_succ hb]
 by_cases hj : j < 32
 ·simp [hj]
 ·have : a.testBit j = false := Nat.testBit_lt_two_pow (Nat.lt_of_lt_of_le ha (by rw [show (4294967296 : Nat) = 2 ^ 32 from rfl]; exact Nat.pow_le_pow_right (by omega) (by omega)))
  rw [this]; simp
def CliqueL (g : List Nat) (s : Nat) (l : List Nat) : Prop := ∀ x ∈ l, ∀ j, s.testBit j = true → x ≠ j → ad g x j = true
def CliqueS (g : List Nat) (s : Nat) : Prop := ∀ i j, s.testBit i = true → s.testBit j = true → i ≠ j → ad g i j = true
theorem gclique_ev (g : List Nat) (G : Gr g) (s : Nat) (hs : s < 4294967296) (hsg : ∀ j, s.testBit j = true → j < g.length) : Ev (fun k => rib_graph_clique.f k (il g) (s : Int)) (decide (CliqueS g s)) := by
  have hlen : (nd s).length ≤ 32 := by unfold nd; exact Nat.le_trans (List.length_filter_le _ _) (by simp)
  have main : ∀ (d i : Nat), i + d = (nd s).length → Ev (fun k => rib_graph_clique.l0 k (il g) (s : Int) (il (nd s)) ((nd s).length : Int) (i : Int)) (decide (CliqueL g s ((nd s).drop i))) := by
    intro d
    induction d with
    | zero =>
      intro i hi
      rw [List.drop_eq_nil_of_le (by omega), decide_eq_true (show CliqueL g s [] from fun x hx => by cases hx)]
      refine Ev.step (f := fun _ => some true) (fun k => ?_) (Ev.now _)
      simp only [rib_graph_clique.l0]
      rw [if_neg (by omega)]
    | succ d ih =>
      intro i hi
      have hil : i < (nd s).length := by omega
      have hx : s.testBit (nd s)[i] = true := (mem_nd hs).1 (List.getElem_mem hil)
      have hxg := hsg _ hx
      have hx32 : (nd s)[i] < 32 := by have := G.le; omega
      have hgu := G.u32 (nd s)[i]
      have e0 : Go.bits .andNot .u32 (Go.bits .andNot .u32 (s : Int) ((2 ^ (nd s)[i] : Nat) : Int)) ((g.getD (nd s)[i] 0 : Nat) : Int) = (((s &&& (4294967295 - 2 ^ (nd s)[i])) &&& (4294967295 - g.getD (nd s)[i] 0) : Nat) : Int) := by
        rw [u32_andNot_nat _ _ hs (pow_u32 hx32), u32_andNot_nat _ _ (and_u32 hs) hgu]
      have e1 : ∀ k, rib_graph_clique.l0 (k + 1) (il g) (s : Int) (il (nd s)) ((nd s).length : Int) (i : Int) = if ((((s &&& (4294967295 - 2 ^ (nd s)[i])) &&& (4294967295 - g.getD (nd s)[i] 0) : Nat)) : Int) = 0 then rib_graph_clique.l0 k (il g) (s : Int) (il (nd s)) ((nd s).length : Int) ((i + 1 : Nat) : Int) else some false := by
        intro k
        simp only [rib_graph_clique.l0]
        rw [if_pos (by omega), if_pos (by omega), il_len, if_pos (by omega), rd_nat_get _ _ hil, one_nat _ hx32, Option.bind_some, if_pos (by omega), il_len, if_pos (by omega), il_rd _ _ hxg, e0, wrap_up i (by omega)]
      have hz : (((s &&& (4294967295 - 2 ^ (nd s)[i])) &&& (4294967295 - g.getD (nd s)[i] 0) : Nat) = 0) ↔ ∀ j, s.testBit j = true → (nd s)[i] ≠ j → ad g (nd s)[i] j = true := by
        have hb : ∀ j, ((s &&& (4294967295 - 2 ^ (nd s)[i])) &&& (4294967295 - g.getD (nd s)[i] 0)).testBit j = ((s.testBit j && decide ((nd s)[i] ≠ j)) && !ad g (nd s)[i] j) := fun j => by
          rw [sub_bit _ _ _ (and_u32 hs) hgu, strike_bit _ _ _ hs hx32]; rfl
        constructor
        · intro h j hj hne
          have := hb j
          rw [h, hj] at this
          simpa [hne] using this
        · intro h
          apply zero_of
          intro j
          rw [hb j]
          by_cases h1 : s.testBit j = true
          · by_cases h2 : (nd s)[i] = j
            · simp [h2]
            · rw [h j h1 h2]; simp
          · simp [h1]
      rw [List.drop_eq_getElem_cons hil]
      by_cases hc : ∀ j, s.testBit j = true → (nd s)[i] ≠ j → ad g (nd s)[i] j = true
      · rw [show decide (CliqueL g s ((nd s)[i] :: (nd s).drop (i + 1))) = decide (CliqueL g s ((nd s).drop (i + 1))) from decide_eq_decide.2 ⟨fun h x hx => h x (List.mem_cons_of_mem _ hx), fun h x hx => by
          rcases List.mem_cons.1 hx with rfl | hx
          · exact hc
          · exact h x hx⟩]
        refine Ev.step (fun k => ?_) (ih (i + 1) (by omega))
        rw [e1, if_pos (by have := hz.2 hc; omega)]
      · rw [decide_eq_false (p := CliqueL g s ((nd s)[i] :: (nd s).drop (i + 1))) fun h => hc (h _ List.mem_cons_self)]
        refine Ev.step (f := fun _ => some false) (fun k => ?_) (Ev.now _)
        rw [e1, if_neg (fun h => hc (hz.1 (by omega)))]
  have h := main (nd s).length 0 (by omega)
  rw [List.drop_zero] at h
  rw [show decide (CliqueS g s) = decide (CliqueL g s (nd s)) from decide_eq_decide.2 ⟨fun h x hx j hj hne => h x j ((mem_nd hs).1 hx) hj hne, fun h i j hi hj hne => h i ((mem_nd hs).2 hi) j hj hne⟩]
  obtain ⟨K, hK⟩ := h
  refine ⟨K + 40, fun k hk => ?_⟩
  have a1 := hK k (by omega)
  dsimp only at a1
  show rib_graph_clique.f k (il g) (s : Int) = _
  unfold rib_graph_clique.f
  rw [list_f _ _ (by omega), Option.bind_some, nodes_nat _ hs, il_len]
  exact a1
def ElimP (es : List S52) : List Nat → Prop
  | [] => True
  | v :: o => Simp es o v ∧ ElimP es o
end Go.Proofs.Ytdpolfflemocaaa.Pure
namespace Go.Proofs.Ytdpolfflemocaaa.Pure
open Go Go.RowKit Go.Proofs.YtdpolfflemocaaaW.PrintWords Go.Proofs.YtdpolfflemocaaaW.PrintLast Go.Proofs.YtdpolfflemocaaaW.PrintMore Go.Proofs.Ytdpolfflemocaaa.Cl Go.Proofs.Ytdpolfflemocaaa.Own Go.Proofs.Ytdpolfflemocaaa.Rx
set_option linter.unusedVariables false
set_option linter.unusedSimpArgs false
open Classical
def fa (e : S52) : Nat := e.f0.toNat
def fb (e : S52) : Nat := e.f1.toNat
def ren (nm : List Nat) (a b : Nat) : List Nat := nm.map fun x => if x = a then b else x
theorem ren_len (nm : List Nat) (a b : Nat) : (ren nm a b).length = nm.length := by simp [ren]
theorem ren_get (nm : List Nat) (a b i : Nat) (h : i < nm.length) : (ren nm a b).getD i 0 = if nm.getD i 0 = a then b else nm.getD i 0 := by
  simp [ren, h]
inductive Fd (gr : List Nat) : Nat → Nat → Prop
  | root {i : Nat} : i < gr.length → gr.getD i 0 = i → Fd gr i i
  | step {i r : Nat} : i < gr.length → gr.getD i 0 ≠ i → Fd gr (gr.getD i 0) r → Fd gr i r
theorem Fd.fin {gr : List Nat} {i r : Nat} (h : Fd gr i r) : r < gr.length ∧ gr.getD r 0 = r := by
 induction h with
 | root h1 h2 => exact ⟨h1, h2⟩
 | step _ _ _ ih => exact ih
theorem Fd.set {gr : List Nat} {ra rb : Nat} (hra : ra < gr.length ∧ gr.getD ra 0 = ra) (hrb : rb < gr.length ∧ gr.getD rb 0 = rb) (hne : ra ≠ rb) {i r : Nat} (h : Fd gr i r) : Fd (gr.set ra rb) i (if r = ra then rb else r) := by
 have hb : Fd (gr.set ra rb) rb rb := Fd.root (by rw [List.length_set]; exact hrb.1) (by rw [getD_set, if_neg (fun h => hne h.1)]; exact hrb.2)
 induction h with
 | @root i h1 h2 =>
  by_cases e : i = ra
  ·subst e
   rw [if_pos rfl]
   have hg : (gr.set i rb).getD i 0 = rb := by rw [getD_set, if_pos ⟨rfl, h1⟩]
   exact Fd.step (by rw [List.length_set]; exact h1) (by rw [hg]; exact fun h => hne h.symm) (by rw [hg]; exact hb)
  ·rw [if_neg e]
   exact Fd.root (by rw [List.length_set]; exact h1) (by rw [getD_set, if_neg (fun h => e h.1.symm)]; exact h2)
 | @step i r h1 h2 _ ih =>
  have e : ra ≠ i := fun h => h2 (by rw [← h]; exact hra.2)
  have hg : (gr.set ra rb).getD i 0 = gr.getD i 0 := by rw [getD_set, if_neg (fun h => e h.1)]
  exact Fd.step (by rw [List.length_set]; exact h1) (by rw [hg]; exact h2) (by rw [hg]; exact ih)
structure GInv (m : Nat) (gr nm : List Nat) : Prop where
  gl : gr.length = m
  nl : nm.length = m
  fd : ∀ i, i < m → Fd gr i (nm.getD i 0)
theorem GInv.next {m : Nat} {gr nm : List Nat} (h : GInv m gr nm) {a b : Nat} (ha : a < m) (hb : b < m) (hne : nm.getD a 0 ≠ nm.getD b 0) : GInv m (gr.set (nm.getD a 0) (nm.getD b 0)) (ren nm (nm.getD a 0) (nm.getD b 0)) := by
 refine ⟨by rw [List.length_set]; exact h.gl, by rw [ren_len]; exact h.nl, fun i hi => ?_⟩
 rw [ren_get _ _ _ _ (by rw [h.nl]; exact hi)]
 exact Fd.set (h.fd a ha).fin (h.fd b hb).fin hne (h.fd i hi)
end Go.Proofs.Ytdpolfflemocaaa.Pure
namespace Go.Proofs.Ytdpolfflemocaaa.Pure
open Go Go.RowKit Go.Proofs.YtdpolfflemocaaaW.PrintWords Go.Proofs.YtdpolfflemocaaaW.PrintLast Go.Proofs.YtdpolfflemocaaaW.PrintMore Go.Proofs.Ytdpolfflemocaaa.Cl Go.Proofs.Ytdpolfflemocaaa.Own Go.Proofs.Ytdpolfflemocaaa.Rx
set_option linter.unusedVariables false
set_option linter.unusedSimpArgs false
open Classical
theorem clique_grow (es : List S52) (n : Nat) : ∀ (d t : Nat), 2 ^ n - t ≤ d → t < 2 ^ n → (∀ i j, t.testBit i = true → t.testBit j = true → i ≠ j → adjE es i j = true) → ∃ s, MaxCl es n s ∧ ∀ i, t.testBit i = true → s.testBit i = true := by
  intro d
  induction d with
  | zero => intro t h1 h2; omega
  | succ d ih =>
    intro t h1 h2 h3
    by_cases hm : MaxCl es n t
    · exact ⟨t, hm, fun i hi => hi⟩
    · have : ∃ j, j < n ∧ t.testBit j = false ∧ ∀ i, t.testBit i = true → adjE es i j = true := by
        apply Classical.byContradiction
        intro hno
        refine hm ⟨h2, h3, fun j hj hjt => ?_⟩
        apply Classical.byContradiction
        intro hn
        refine hno ⟨j, hj, hjt, fun i hi => ?_⟩
        cases h : adjE es i j
        · exact absurd ⟨i, hi, h⟩ hn
        · rfl
      obtain ⟨j, hj, hjt, hja⟩ := this
      have hb : ∀ i, (t ||| 2 ^ j).testBit i = (t.testBit i || decide (j = i)) := fun i => by rw [Nat.testBit_or, Nat.testBit_two_pow]
      have hlt : t ||| 2 ^ j < 2 ^ n := Nat.or_lt_two_pow h2 (Nat.pow_lt_pow_right (by omega) hj)
      have hgt : t < t ||| 2 ^ j := by
        have h4 : t ≤ t ||| 2 ^ j := Nat.left_le_or
        have h5 : t ≠ t ||| 2 ^ j := fun e => by
          have := hb j
          rw [← e, hjt] at this
          simp at this
        omega
      obtain ⟨s, hs, hsub⟩ := ih (t ||| 2 ^ j) (by omega) hlt (fun a b ha hb' hab => by
        rw [hb] at ha hb'
        by_cases e1 : j = a
        · subst e1
          rw [adjE_symm]
          exact hja b (by simpa [hab] using hb')
        · by_cases e2 : j = b
          · subst e2
            exact hja a (by simpa [e1] using ha)
          · exact h3 a b (by simpa [e1] using ha) (by simpa [e2] using hb') hab)
      exact ⟨s, hs, fun i hi => hsub i (by rw [hb, hi]; rfl)⟩
end Go.Proofs.Ytdpolfflemocaaa.Pure
namespace Go.Proofs.Ytdpolfflemocaaa.Pure
open Go Go.RowKit Go.Proofs.YtdpolfflemocaaaW.PrintWords Go.Proofs.YtdpolfflemocaaaW.PrintLast Go.Proofs.YtdpolfflemocaaaW.PrintMore Go.Proofs.Ytdpolfflemocaaa.Cl Go.Proofs.Ytdpolfflemocaaa.Own Go.Proofs.Ytdpolfflemocaaa.Rx Go.Proofs.Ytdpolfflemocaaa.Re
set_option linter.unusedVariables false
set_option linter.unusedSimpArgs false
open Classical
end Go.Proofs.Ytdpolfflemocaaa.Pure
namespace Go.Proofs.Ytdpolfflemocaaa.Pure
open Go Go.RowKit Go.Proofs.YtdpolfflemocaaaW.PrintWords Go.Proofs.YtdpolfflemocaaaW.PrintLast Go.Proofs.YtdpolfflemocaaaW.PrintMore Go.Proofs.Ytdpolfflemocaaa.Cl Go.Proofs.Ytdpolfflemocaaa.Own Go.Proofs.Ytdpolfflemocaaa.Rx Go.Proofs.Ytdpolfflemocaaa.Re
set_option linter.unusedVariables false
set_option linter.unusedSimpArgs false
open Classical
end Go.Proofs.Ytdpolfflemocaaa.Pure
namespace Go.Proofs.Ytdpolfflemocaaa.Pure
open Go Go.RowKit Go.Proofs.YtdpolfflemocaaaW.PrintWords Go.Proofs.YtdpolfflemocaaaW.PrintLast Go.Proofs.YtdpolfflemocaaaW.PrintMore Go.Proofs.Ytdpolfflemocaaa.Cl Go.Proofs.Ytdpolfflemocaaa.Own Go.Proofs.Ytdpolfflemocaaa.Rx Go.Proofs.Ytdpolfflemocaaa.Rw
set_option linter.unusedVariables false
set_option linter.unusedSimpArgs false
open Classical
def q (Q : List Nat) (t : Nat) : Nat := Q.getD t 0
theorem q_mem {Q : List Nat} {t : Nat} (h : t < Q.length) : q Q t ∈ Q := by
  unfold q; rw [show Q.getD t 0 = Q[t] by simp [h]]; exact List.getElem_mem _
theorem q_app {Q : List Nat} (x : Nat) {t : Nat} (h : t < Q.length) : q (Q ++ [x]) t = q Q t := by
  unfold q; simp [List.getD_eq_getElem?_getD, List.getElem?_append_left h]
theorem q_new (Q : List Nat) (x : Nat) : q (Q ++ [x]) Q.length = x := by
  unfold q; simp
structure BF (g : List Nat) (n a b by_ : Nat) (Q : List Nat) (par : Nat → Nat) (idx : Nat) (m : MapT) : Prop where
  nd : Q.Nodup
  pos : 0 < Q.length
  lt : ∀ x ∈ Q, x < n
  h0 : q Q 0 = a
  ok : ∀ t, 1 ≤ t → t < Q.length → by_.testBit (q Q t) = true ∨ q Q t = b
  pa : ∀ t, 1 ≤ t → t < Q.length → par t < t ∧ ad g (q Q (par t)) (q Q t) = true ∧ ∀ s, s < par t → ad g (q Q s) (q Q t) = false
  cl : ∀ s, s < idx → ∀ y, ad g (q Q s) y = true → by_.testBit y = true ∨ y = b → y ∈ Q
  nb : ∀ s, s < idx → q Q s ≠ b
  le : idx ≤ Q.length
  mi : ∀ t, 1 ≤ t → t < Q.length → mlook m (q Q t : Int) = some (q Q (par t) : Int)
  ma : ∃ v, mlook m (a : Int) = some v
  mo : ∀ y : Nat, y ∉ Q → mlook m (y : Int) = none
  ml : m.length = Q.length
theorem BF.add {g : List Nat} {n a b by_ : Nat} {Q : List Nat} {par : Nat → Nat} {idx : Nat} {m : MapT} (h : BF g n a b by_ Q par idx m) (hi : idx < Q.length) {j : Nat} (hj : j ∉ Q) (hjn : j < n) (hadj : ad g (q Q idx) j = true) (hok : by_.testBit j = true ∨ j = b) :
  BF g n a b by_ (Q ++ [j]) (fun t => if t = Q.length then idx else par t) idx (((j : Int), (q Q idx : Int)) :: m) := by
 have hp := h.pos
 have le := h.le
 refine ⟨List.nodup_append.2 ⟨h.nd, by simp, fun x hx y hy e => by simp at hy; subst hy; exact hj (e ▸ hx)⟩, by simp, ?_, by rw [q_app _ hp]; exact h.h0, ?_, ?_, ?_, ?_, by simp; omega, ?_, ?_, ?_, by simp [h.ml]⟩
 ·intro x hx
  rcases List.mem_append.1 hx with hx | hx
  ·exact h.lt x hx
  ·simp at hx; omega
 ·intro t h1 h2
  simp at h2
  by_cases e : t = Q.length
  ·subst e; rw [q_new]; exact hok
  ·rw [q_app _ (by omega)]; exact h.ok t h1 (by omega)
 ·intro t h1 h2
  simp at h2
  by_cases e : t = Q.length
  ·subst e
   rw [if_pos rfl, q_new, q_app _ hi]
   refine ⟨hi, hadj, fun s hs => ?_⟩
   rw [q_app _ (by omega)]
   cases hc : ad g (q Q s) j
   ·rfl
   ·exact absurd (h.cl s hs j hc hok) hj
  ·have ⟨p1, p2, p3⟩ := h.pa t h1 (by omega)
   rw [if_neg e, q_app _ (by omega), q_app _ (by omega)]
   exact ⟨p1, p2, fun s hs => by rw [q_app _ (by omega)]; exact p3 s hs⟩
 ·intro s hs y hy hok'
  rw [q_app _ (by omega)] at hy
  exact List.mem_append_left _ (h.cl s hs y hy hok')
 ·intro s hs
  rw [q_app _ (by omega)]; exact h.nb s hs
 ·intro t h1 h2
  simp at h2
  by_cases e : t = Q.length
  ·subst e
   rw [q_new, if_pos rfl, q_app _ hi]; simp [mlook]
  ·have ⟨p1, _, _⟩ := h.pa t h1 (by omega)
   have hne : ¬ ((j : Int) = (q Q t : Int)) := fun e2 => hj (by rw [show j = q Q t by omega]; exact q_mem (by omega))
   rw [if_neg e, q_app _ (by omega), q_app _ (by omega), mlook, if_neg hne]
   exact h.mi t h1 (by omega)
 ·obtain ⟨v, hv⟩ := h.ma
  have hne : ¬ ((j : Int) = (a : Int)) := fun e2 => hj (by rw [show j = a by omega, ← h.h0]; exact q_mem hp)
  exact ⟨v, by rw [mlook, if_neg hne]; exact hv⟩
 ·intro y hy
  rw [List.mem_append, List.mem_singleton] at hy
  have hne : ¬ ((j : Int) = (y : Int)) := fun e => hy (Or.inr (by omega))
  rw [mlook, if_neg hne]
  exact h.mo y fun h' => hy (Or.inl h')
theorem BF.look {g : List Nat} {n a b by_ : Nat} {Q : List Nat} {par : Nat → Nat} {idx : Nat} {m : MapT} (h : BF g n a b by_ Q par idx m) (y : Nat) : (mlook m (y : Int)).isSome = decide (y ∈ Q) := by
 by_cases hy : y ∈ Q
 ·rw [decide_eq_true hy]
  obtain ⟨t, ht, rfl⟩ := List.getElem_of_mem hy
  have e : Q[t] = q Q t := by unfold q; simp [ht]
  rw [e]
  by_cases h1 : 1 ≤ t
  ·rw [h.mi t h1 ht]; rfl
  ·obtain rfl : t = 0 := by omega
   obtain ⟨v, hv⟩ := h.ma
   rw [h.h0, hv]; rfl
 ·rw [decide_eq_false hy, h.mo y hy]; rfl
inductive Chain (par : Nat → Nat) : Nat → List Nat → Prop
  | zero : Chain par 0 [0]
  | step {t : Nat} {I : List Nat} : 1 ≤ t → Chain par (par t) I → Chain par t (I ++ [t])
theorem Chain.ex {par : Nat → Nat} {L : Nat} (h : ∀ t, 1 ≤ t → t < L → par t < t) : ∀ (d t : Nat), t ≤ d → t < L → ∃ I, Chain par t I := by
 intro d
 induction d with
 | zero =>
  intro t ht _
  obtain rfl : t = 0 := by omega
  exact ⟨_, .zero⟩
 | succ d ih =>
  intro t ht hl
  by_cases h1 : 1 ≤ t
  ·have := h t h1 hl
   obtain ⟨I, hI⟩ := ih (par t) (by omega) (by omega)
   exact ⟨_, .step h1 hI⟩
  ·obtain rfl : t = 0 := by omega
   exact ⟨_, .zero⟩
end Go.Proofs.Ytdpolfflemocaaa.Pure
namespace Go.Proofs.Ytdpolfflemocaaa.Di
section
variable (adj : Nat → Nat → Bool)
inductive Reach (U : Nat → Prop) (x : Nat) : Nat → Prop
  | refl : U x → Reach U x x
  | step {y z : Nat} : Reach U x y → U z → adj y z = true → Reach U x z
end
section
variable {adj : Nat → Nat → Bool} {U V : Nat → Prop} {L M : Nat → Prop}
theorem Reach.mono (h : ∀ x, U x → V x) {x y : Nat} (r : Reach adj U x y) : Reach adj V x y := by
 induction r with
 | refl hx => exact .refl (h _ hx)
 | step _ hz ha ih => exact .step ih (h _ hz) ha
theorem Reach.snd {x y : Nat} (r : Reach adj U x y) : U y := by
 cases r with
 | refl h => exact h
 | step _ h _ => exact h
theorem Reach.trans {x y z : Nat} (r : Reach adj U x y) (s : Reach adj U y z) : Reach adj U x z := by
 induction s with
 | refl _ => exact r
 | step _ hz ha ih => exact .step ih hz ha
theorem Reach.symm (hs : ∀ a b, adj a b = adj b a) {x y : Nat} (r : Reach adj U x y) : Reach adj U y x := by
 induction r with
 | refl h => exact .refl h
 | @step y z r hz ha ih => exact (Reach.step (.refl hz) r.snd (by rw [hs]; exact ha)).trans ih
open Classical
end
end Go.Proofs.Ytdpolfflemocaaa.Di
namespace Go.Proofs.Ytdpolfflemocaaa.Pure
open Go Go.RowKit Go.Proofs.YtdpolfflemocaaaW.PrintWords Go.Proofs.YtdpolfflemocaaaW.PrintLast Go.Proofs.YtdpolfflemocaaaW.PrintMore Go.Proofs.Ytdpolfflemocaaa.Cl Go.Proofs.Ytdpolfflemocaaa.Own Go.Proofs.Ytdpolfflemocaaa.Rx Go.Proofs.Ytdpolfflemocaaa.Rw
set_option linter.unusedVariables false
set_option linter.unusedSimpArgs false
open Classical
theorem nd_strike (x i : Nat) (hx : x < 4294967296) (hi : i < 32) : nd (x &&& (4294967295 - 2 ^ i)) = (nd x).erase i := by
 rw [List.Nodup.erase_eq_filter (nd_nodup x)]
 unfold nd
 rw [List.filter_filter]
 apply List.filter_congr
 intro j _
 rw [strike_bit x i j hx hi]
 by_cases h : i = j
 ·subst h; simp
 ·simp [h, show ¬ j = i from fun e => h e.symm]
noncomputable def ordR (acc : List Nat) : Option (List Nat) → List Int × Bool
  | some o => (il (acc ++ o), true)
  | none => ([], false)
theorem order_ev (n : Nat) (es : List S52) (g : List Nat) (G : Gr g) (hg : g.length = n) (hga : ∀ a b : Nat, ad g a b = nr es a b) : Ev (fun k => rib_graph_order.f k (il g)) (ordR [] (elim es n (List.range n))) := by
 have hn31 : n ≤ 31 := by have := G.le; omega
 have main : ∀ (d mask : Nat) (acc : List Nat), (nd mask).length ≤ d → mask < 2 ^ n → acc.length + (nd mask).length ≤ 1000 → Ev (fun k => rib_graph_order.l0 k (il g) (il acc) (mask : Int)) (ordR acc (elim es d (nd mask))) := by
  intro d
  induction d with
  | zero =>
   intro mask acc hd hm ha
   have hm32 : mask < 4294967296 := Nat.lt_trans hm (pow_u32 (by omega))
   have h0 := nd_nil hm32 (List.length_eq_zero_iff.1 (by omega))
   subst h0
   refine Ev.step (f := fun _ => some (il acc, true)) (fun k => ?_) (by simpa [elim, ordR] using Ev.now _)
   simp [rib_graph_order.l0]
  | succ d ih =>
   intro mask acc hd hm ha
   have hm32 : mask < 4294967296 := Nat.lt_trans hm (pow_u32 (by omega))
   by_cases h0 : nd mask = []
   ·have h1 := nd_nil hm32 h0
    subst h1
    have e : elim es (d + 1) (nd 0) = some [] := by rw [h0]; simp [elim]
    rw [e]
    refine Ev.step (f := fun _ => some (il acc, true)) (fun k => ?_) (by simpa [ordR] using Ev.now _)
    simp [rib_graph_order.l0]
   ·have hmz : ¬ (mask : Int) = 0 := fun e => h0 (by rw [show mask = 0 by omega]; decide)
    have hnl : (nd mask).length ≤ 32 := by unfold nd; exact Nat.le_trans (List.length_filter_le _ _) (by simp)
    have hlt : ∀ v ∈ nd mask, v < n := fun v hv => (lt_pow_iff mask n).1 hm v ((mem_nd hm32).1 hv)
    have hcl : ∀ v, v < n → (CliqueS g (g.getD v 0 &&& mask) ↔ Simp es (nd mask) v) := by
     intro v hv
     have hb : ∀ j, (g.getD v 0 &&& mask).testBit j = true ↔ adjE es v j = true ∧ j ∈ nd mask := by
      intro j
      rw [Nat.testBit_and, Bool.and_eq_true, mem_nd hm32]
      have e : (g.getD v 0).testBit j = adjE es v j := hga _ _
      rw [e]
     unfold CliqueS Simp
     constructor
     ·exact fun h a b ha' hb' haa hab hne => by show nr es a b = true; rw [← hga]; exact h a b ((hb a).2 ⟨haa, ha'⟩) ((hb b).2 ⟨hab, hb'⟩) hne
     ·exact fun h a b ha' hb' hne => by rw [hga]; exact h a b ((hb a).1 ha').2 ((hb b).1 hb').2 ((hb a).1 ha').1 ((hb b).1 hb').1 hne
    have inner : ∀ (e p : Nat), p + e = (nd mask).length → (∀ j (hj : j < (nd mask).length), j < p → ¬ Simp es (nd mask) (nd mask)[j]) → Ev (fun k => rib_graph_order.l1 k (il g) (il acc) (mask : Int) (il (nd mask)) ((nd mask).length : Int) (p : Int)) (ordR acc (elim es (d + 1) (nd mask))) := by
     intro e
     induction e with
     | zero =>
      intro p hp hno
      have hfind : (nd mask).find? (fun v => decide (Simp es (nd mask) v)) = none := by
       rw [List.find?_eq_none]
       intro v hv
       obtain ⟨j, hj, rfl⟩ := List.getElem_of_mem hv
       simpa using hno j hj (by omega)
      have e2 : elim es (d + 1) (nd mask) = none := by rw [elim, hfind]; simp [h0]
      rw [e2]
      refine Ev.step (f := fun _ => some ([], false)) (fun k => ?_) (Ev.now _)
      simp only [rib_graph_order.l1]
      rw [if_neg (by omega)]
     | succ e ihe =>
      intro p hp hno
      have hpl : p < (nd mask).length := by omega
      have hv := hlt _ (List.getElem_mem hpl)
      have hgu := G.u32 (nd mask)[p]
      have ev := gclique_ev g G (g.getD (nd mask)[p] 0 &&& mask) (and_u32 hgu) (fun j hj => by
       rw [Nat.testBit_and, Bool.and_eq_true] at hj
       exact G.lt (i := (nd mask)[p]) hj.1)
      by_cases hs : Simp es (nd mask) (nd mask)[p]
      ·rw [decide_eq_true ((hcl _ hv).2 hs)] at ev
       have hfind : (nd mask).find? (fun v => decide (Simp es (nd mask) v)) = some (nd mask)[p] := by
        rw [List.find?_eq_some_iff_getElem]
        exact ⟨decide_eq_true hs, p, hpl, rfl, fun j hj => by simpa using hno j (by omega) hj⟩
       have hle : ((nd mask).erase (nd mask)[p]).length = (nd mask).length - 1 := List.length_erase_of_mem (List.getElem_mem hpl)
       have hstr := nd_strike mask (nd mask)[p] hm32 (by omega)
       have hm2 : mask &&& (4294967295 - 2 ^ (nd mask)[p]) < 2 ^ n := Nat.lt_of_le_of_lt Nat.and_le_left hm
       have ih2 := ih (mask &&& (4294967295 - 2 ^ (nd mask)[p])) (acc ++ [(nd mask)[p]]) (by rw [hstr, hle]; omega) hm2 (by rw [hstr, hle, List.length_append]; simp; omega)
       rw [hstr] at ih2
       have e2 : ordR acc (elim es (d + 1) (nd mask)) = ordR (acc ++ [(nd mask)[p]]) (elim es d ((nd mask).erase (nd mask)[p])) := by
        rw [elim, hfind]
        show ordR acc (Option.map ((nd mask)[p] :: ·) (elim es d ((nd mask).erase (nd mask)[p]))) = _
        generalize elim es d ((nd mask).erase (nd mask)[p]) = z
        cases z with
        | none => rfl
        | some o => simp [ordR]
       rw [e2]
       obtain ⟨K1, h1⟩ := ev
       obtain ⟨K2, h2⟩ := ih2
       refine ⟨K1 + K2 + 1, fun k hk => ?_⟩
       obtain ⟨k, rfl⟩ : ∃ j, k = j + 1 := ⟨k - 1, by omega⟩
       have a1 := h1 k (by omega)
       have a2 := h2 k (by omega)
       dsimp only at a1 a2
       simp only [rib_graph_order.l1]
       rw [if_pos (by omega), if_pos (by omega), il_len, if_pos (by omega), rd_nat_get _ _ hpl, if_pos (by omega), il_len, if_pos (by omega), il_rd _ _ (by omega), u32_and_nat _ _ hgu hm32, a1, Option.bind_some, if_pos rfl, il_len, if_pos (by omega), one_nat _ (by omega), Option.bind_some, u32_andNot_nat _ _ hm32 (pow_u32 (by omega)), show il acc ++ [((nd mask)[p] : Int)] = il (acc ++ [(nd mask)[p]]) by rw [il_app]; rfl]
       exact a2
      ·rw [decide_eq_false (fun h => hs ((hcl _ hv).1 h))] at ev
       have ih2 := ihe (p + 1) (by omega) (fun j hj hjp => by
        by_cases e : j = p
        ·subst e; exact hs
        ·exact hno j hj (by omega))
       obtain ⟨K1, h1⟩ := ev
       obtain ⟨K2, h2⟩ := ih2
       refine ⟨K1 + K2 + 1, fun k hk => ?_⟩
       obtain ⟨k, rfl⟩ : ∃ j, k = j + 1 := ⟨k - 1, by omega⟩
       have a1 := h1 k (by omega)
       have a2 := h2 k (by omega)
       dsimp only at a1 a2
       simp only [rib_graph_order.l1]
       rw [if_pos (by omega), if_pos (by omega), il_len, if_pos (by omega), rd_nat_get _ _ hpl, if_pos (by omega), il_len, if_pos (by omega), il_rd _ _ (by omega), u32_and_nat _ _ hgu hm32, a1, Option.bind_some, if_neg (by simp), wrap_up p (by omega)]
       exact a2
    obtain ⟨K, hK⟩ := inner (nd mask).length 0 (by omega) (fun j hj hjp => by omega)
    refine ⟨K + 40, fun k hk => ?_⟩
    obtain ⟨k, rfl⟩ : ∃ j, k = j + 1 := ⟨k - 1, by omega⟩
    have a1 := hK k (by omega)
    dsimp only at a1
    simp only [rib_graph_order.l0]
    rw [if_neg hmz, list_f _ _ (by omega), Option.bind_some, nodes_nat _ hm32, il_len]
    exact a1
 have hall : nd (2 ^ n - 1) = List.range n := by
  unfold nd
  rw [show (32 : Nat) = n + (32 - n) by omega, List.range_add, List.filter_append]
  rw [show (List.range n).filter (fun x => Nat.testBit (2 ^ n - 1) x) = List.range n from List.filter_eq_self.2 fun a ha => by rw [all_bit]; simpa using ha]
  rw [show ((List.range (32 - n)).map (n + ·)).filter (fun x => Nat.testBit (2 ^ n - 1) x) = [] from ?_, List.append_nil]
  apply List.filter_eq_nil_iff.2
  intro a ha
  obtain ⟨j, _, rfl⟩ := List.mem_map.1 ha
  rw [all_bit]; simp
 have h1 : 1 ≤ 2 ^ n := Nat.pos_of_ne_zero (by simp)
 have h := main n (2 ^ n - 1) [] (by rw [hall]; simp) (by omega) (by rw [hall]; simp; omega)
 rw [hall] at h
 refine Ev.congr (fun k => ?_) h
 unfold rib_graph_order.f
 rw [all_f g (by omega), Option.bind_some, hg]
 rfl
theorem elim_spec (es : List S52) : ∀ (d : Nat) (left o : List Nat), left.length ≤ d → elim es d left = some o → o.Perm left ∧ ElimP es o := by
 intro d
 induction d with
 | zero =>
  intro left o hd h
  obtain rfl : left = [] := List.length_eq_zero_iff.1 (by omega)
  simp [elim] at h
  subst h
  exact ⟨List.Perm.refl _, trivial⟩
 | succ d ih =>
  intro left o hd h
  rw [elim] at h
  cases hf : left.find? (fun v => decide (Simp es left v)) with
  | none =>
   rw [hf] at h
   simp only at h
   split at h
   ·rename_i h0
    subst h0
    obtain rfl := Option.some.inj h
    exact ⟨List.Perm.refl _, trivial⟩
   ·cases h
  | some v =>
   rw [hf] at h
   simp only [Option.map_eq_some_iff] at h
   obtain ⟨o', ho', rfl⟩ := h
   have hv : v ∈ left := List.mem_of_find?_eq_some hf
   have hs : Simp es left v := by simpa using List.find?_some hf
   have hle : (left.erase v).length = left.length - 1 := List.length_erase_of_mem hv
   have hpos := List.length_pos_of_mem hv
   obtain ⟨p1, p2⟩ := ih (left.erase v) o' (by omega) ho'
   refine ⟨(p1.cons v).trans (List.perm_cons_erase hv).symm, fun a b ha hb => hs a b (List.mem_of_mem_erase (p1.mem_iff.1 ha)) (List.mem_of_mem_erase (p1.mem_iff.1 hb)), p2⟩
end Go.Proofs.Ytdpolfflemocaaa.Pure
namespace Go.Proofs.Ytdpolfflemocaaa.Pure
open Go Go.RowKit Go.Proofs.YtdpolfflemocaaaW.PrintWords Go.Proofs.YtdpolfflemocaaaW.PrintLast Go.Proofs.YtdpolfflemocaaaW.PrintMore Go.Proofs.Ytdpolfflemocaaa.Cl Go.Proofs.Ytdpolfflemocaaa.Own Go.Proofs.Ytdpolfflemocaaa.Rx Go.Proofs.Ytdpolfflemocaaa.Rw
set_option linter.unusedVariables false
set_option linter.unusedSimpArgs false
open Classical
theorem ch_ok (n : Nat) (hn : n ≤ 100) (es : List S52) (hes : es.length < 2 ^ 50) (v : Valid n es) : Ev (fun k => gamplaw04_chordal.f k (n : Int) es) (if (elim es n (List.range n)).isSome = true then 0 else 5) := by
 have e1 := graph_ev n es hes
 rw [decide_eq_true v] at e1
 obtain ⟨K1, k1⟩ := e1
 obtain ⟨K2, k2⟩ := chordal_ev n hn es hes
 refine ⟨K1 + K2, fun k hk => ?_⟩
 have a1 := k1 k (by omega)
 have a2 := k2 k (by omega)
 dsimp only at a1 a2
 show gamplaw04_chordal.f k (n : Int) es = _
 unfold gamplaw04_chordal.f
 rw [a1, Option.bind_some, if_pos rfl, a2, Option.bind_some]
 split <;> rfl
theorem ch_no (n : Int) (es : List S52) (hes : es.length < 2 ^ 50) (v : ¬ Valid n es) : Ev (fun k => gamplaw04_chordal.f k n es) 1 := by
 have e1 := graph_ev n es hes
 rw [decide_eq_false v] at e1
 obtain ⟨K1, k1⟩ := e1
 refine ⟨K1, fun k hk => ?_⟩
 have a1 := k1 k (by omega)
 dsimp only at a1
 show gamplaw04_chordal.f k n es = _
 unfold gamplaw04_chordal.f
 rw [a1, Option.bind_some]
 rfl
end Go.Proofs.Ytdpolfflemocaaa.Pure
namespace Go.Proofs.Ytdpolfflemocaaa.Pure
open Go Go.RowKit Go.Proofs.YtdpolfflemocaaaW.PrintWords Go.Proofs.YtdpolfflemocaaaW.PrintLast Go.Proofs.YtdpolfflemocaaaW.PrintMore Go.Proofs.Ytdpolfflemocaaa.Cl Go.Proofs.Ytdpolfflemocaaa.Own Go.Proofs.Ytdpolfflemocaaa.Rx Go.Proofs.Ytdpolfflemocaaa.Rw Go.Proofs.Ytdpolfflemocaaa.Rg Go.Proofs.Ytdpolfflemocaaa.Bk
set_option linter.unusedVariables false
set_option linter.unusedSimpArgs false
open Classical
/-- The colours of the nodes from the last one on. -/
def cl (g : List Nat) (n : Nat) : List Nat → List Int
  | [] => List.replicate n (-1)
  | v :: o => Bk.step (il g) (cl g n o) (v : Int)
theorem colAll_cl (g : List Nat) (n : Nat) (o : List Nat) : colAll (il g) (il o) n = cl g n o := by
 unfold colAll
 rw [List.foldl_reverse]
 induction o with
 | nil => rfl
 | cons v o ih => rw [show il (v :: o) = (v : Int) :: il o from rfl, List.foldr_cons, ih]; rfl
theorem cl_len (g : List Nat) (n : Nat) : ∀ o, (cl g n o).length = n
  | [] => by simp [cl]
  | v :: o => by rw [cl, step_len]; exact cl_len g n o
theorem nd_len (x : Nat) : (nd x).length ≤ 32 := by unfold nd; exact Nat.le_trans (List.length_filter_le _ _) (by simp)
def CliqueQ (es : List S52) (q : List Nat) : Prop := ∀ x y, x ∈ q → y ∈ q → x ≠ y → adjE es x y = true
structure CI (es : List S52) (n : Nat) (o : List Nat) (c : List Int) : Prop where
  len : c.length = n
  un : ∀ i, i < n → i ∉ o → c[i]! = -1
  dn : ∀ i ∈ o, 0 ≤ c[i]! ∧ ∃ q : List Nat, q.Nodup ∧ (∀ x ∈ q, x < n) ∧ CliqueQ es q ∧ c[i]! < (q.length : Int)
  pr : ∀ i j, i ∈ o → j ∈ o → adjE es i j = true → c[i]! ≠ c[j]!
theorem cl_inv (es : List S52) (g : List Nat) (G : Gr g) (n : Nat) (hg : g.length = n) (hga : ∀ a b : Nat, ad g a b = nr es a b) : ∀ o : List Nat, o.Nodup → (∀ x ∈ o, x < n) → ElimP es o → CI es n o (cl g n o) := by
  intro o
  induction o with
  | nil =>
    intro _ _ _
    refine ⟨cl_len _ _ _, fun i hi _ => ?_, fun i hi => (by cases hi), fun i j hi => (by cases hi)⟩
    rw [cl, getElem!_pos _ i (by simpa using hi)]
    simp
  | cons v o ih =>
    intro hnd hlt he
    obtain ⟨hvo, hnd'⟩ := List.nodup_cons.1 hnd
    have I := ih hnd' (fun x hx => hlt x (List.mem_cons_of_mem _ hx)) he.2
    have hvn : v < n := hlt v List.mem_cons_self
    have hgu := G.u32 v
    have hadj : ∀ j, j ∈ nd (g.getD v 0) ↔ adjE es v j = true := by
      intro j
      rw [mem_nd hgu]
      show ad g v j = true ↔ _
      rw [hga]
      exact Iff.rfl
    obtain ⟨cs, hcs⟩ : ∃ cs, cs = ((nodes (rd (il g) (v : Int))).map fun j => (cl g n o)[j.toNat]!) := ⟨_, rfl⟩
    have hcs2 : cs = (nd (g.getD v 0)).map fun j => (cl g n o)[j]! := by
      rw [hcs, il_rd g v (by omega), nodes_nat _ hgu]
      simp [il, Function.comp_def]
    have hstep : cl g n (v :: o) = (cl g n o).set v (free cs : Int) := by rw [cl, Bk.step, ← hcs, Int.toNat_natCast]
    obtain ⟨f1, f2, f3⟩ := free_spec cs (by rw [hcs2, List.length_map]; exact nd_len _)
    have hat : (cl g n (v :: o))[v]! = (free cs : Int) := by
      rw [hstep, getElem!_pos _ v (by rw [List.length_set, cl_len]; exact hvn)]
      simp
    have hof : ∀ i, i ≠ v → (cl g n (v :: o))[i]! = (cl g n o)[i]! := by
      intro i hi
      rw [hstep, List.getElem!_eq_getElem?_getD, List.getElem!_eq_getElem?_getD, List.getElem?_set_ne (fun e => hi e.symm)]
    refine ⟨cl_len _ _ _, fun i hi hio => ?_, fun i hi => ?_, fun i j hi hj hij => ?_⟩
    · rw [hof i (fun e => hio (e ▸ List.mem_cons_self))]
      exact I.un i hi (fun h => hio (List.mem_cons_of_mem _ h))
    · rcases List.mem_cons.1 hi with rfl | hi
      · rw [hat]
        refine ⟨by omega, i :: o.filter (fun x => adjE es i x), ?_, ?_, ?_, ?_⟩
        · exact List.nodup_cons.2 ⟨fun h => hvo (List.mem_filter.1 h).1, hnd'.sublist List.filter_sublist⟩
        · intro x hx
          rcases List.mem_cons.1 hx with rfl | hx
          · exact hvn
          · exact hlt x (List.mem_cons_of_mem _ (List.mem_filter.1 hx).1)
        · intro x y hx hy hxy
          rcases List.mem_cons.1 hx with rfl | hx <;> rcases List.mem_cons.1 hy with rfl | hy
          · exact absurd rfl hxy
          · exact (List.mem_filter.1 hy).2
          · rw [adjE_symm]; exact (List.mem_filter.1 hx).2
          · exact he.1 x y (List.mem_filter.1 hx).1 (List.mem_filter.1 hy).1 (List.mem_filter.1 hx).2 (List.mem_filter.1 hy).2 hxy
        · have hp := pigI ((List.range (free cs)).map fun (j : Nat) => (j : Int)) ((o.filter (fun x => adjE es i x)).map fun x => (cl g n o)[x]!)
            (List.Pairwise.map _ (fun a b e => by intro h; exact e (by omega)) List.nodup_range)
            (fun x hx => by
              obtain ⟨j, hj, rfl⟩ := List.mem_map.1 hx
              have hj' : j < free cs := List.mem_range.1 hj
              have hm := f3 j hj'
              rw [hcs2] at hm
              obtain ⟨x, hx, hxe⟩ := List.mem_map.1 hm
              have hax := (hadj x).1 hx
              have hxn : x < n := hg ▸ G.lt (i := i) (j := x) (by rw [hga]; exact hax)
              have hxo : x ∈ o := by
                apply Classical.byContradiction
                intro h
                have := I.un x hxn h
                rw [this] at hxe
                omega
              exact List.mem_map.2 ⟨x, List.mem_filter.2 ⟨hxo, hax⟩, hxe⟩)
          simp only [List.length_map, List.length_range] at hp
          rw [List.length_cons]
          omega
      · rw [hof i (fun e => hvo (e ▸ hi))]
        exact I.dn i hi
    · have hne : ∀ x, x ∈ o → adjE es v x = true → (free cs : Int) ≠ (cl g n o)[x]! := by
        intro x hx hax e
        exact f2 (by rw [e, hcs2]; exact List.mem_map.2 ⟨x, (hadj x).2 hax, rfl⟩)
      rcases List.mem_cons.1 hi with hi1 | hi1 <;> rcases List.mem_cons.1 hj with hj1 | hj1
      · rw [hi1, hj1, adjE_irr] at hij; cases hij
      · rw [hi1] at hij ⊢
        rw [hat, hof j (fun e => hvo (e ▸ hj1))]
        exact hne j hj1 hij
      · rw [hj1] at hij ⊢
        rw [hat, hof i (fun e => hvo (e ▸ hi1))]
        rw [adjE_symm] at hij
        exact fun e => hne i hi1 hij e.symm
      · rw [hof i (fun e => hvo (e ▸ hi1)), hof j (fun e => hvo (e ▸ hj1))]
        exact I.pr i j hi1 hj1 hij
theorem okC_of (es : List S52) (g : List Nat) (G : Gr g) (n : Nat) (hg : g.length = n) (h1 : 1 ≤ n) (h2 : n ≤ 12) (o : List Nat) (hol : o.length = n) (hlt : ∀ x ∈ o, x < n) : OkC (il g) (il o) (n : Int) := by
 refine ⟨by omega, by omega, fun i hi => ?_, by rw [il_len]; omega, by rw [il_len]; omega, fun i hi j hj => ?_⟩
 ·obtain ⟨x, hx, rfl⟩ := List.mem_map.1 hi
  have := hlt x hx
  omega
 ·obtain ⟨x, hx, rfl⟩ := List.mem_map.1 hi
  have hxn := hlt x hx
  rw [il_rd g x (by omega), nodes_nat _ (G.u32 x)] at hj
  obtain ⟨y, hy, rfl⟩ := List.mem_map.1 hj
  have := G.lt (i := x) (j := y) ((mem_nd (G.u32 x)).1 hy)
  show 0 ≤ ((y : Nat) : Int) ∧ ((y : Nat) : Int) < n
  omega
theorem chordal_ok (n : Nat) (es : List S52) (g : List Nat) (G : Gr g) (hg : g.length = n) (hga : ∀ a b : Nat, ad g a b = nr es a b) (evr : Ev (fun k => rib_read.f k (n : Int) es) (il g, true)) :
  Ev (fun k => rib_chordal.f k (n : Int) es) (match elim es n (List.range n) with | some o => (il g, il o, 0) | none => ([], [], 5)) := by
 obtain ⟨K1, k1⟩ := evr
 obtain ⟨K2, k2⟩ := order_ev n es g G hg hga
 refine ⟨K1 + K2, fun k hk => ?_⟩
 have a1 := k1 k (by omega)
 have a2 := k2 k (by omega)
 dsimp only at a1 a2
 show rib_chordal.f k (n : Int) es = _
 unfold rib_chordal.f
 rw [a1, Option.bind_some]
 dsimp only
 rw [if_pos rfl, a2, Option.bind_some]
 generalize elim es n (List.range n) = z
 cases z with
 | none => rfl
 | some o => simp [ordR]
theorem chordal_no (n : Int) (es : List S52) (hes : es.length < 2 ^ 50) (v : ¬ Valid n es) : Ev (fun k => rib_chordal.f k n es) ([], [], 1) := by
 obtain ⟨K1, k1⟩ := read_no n es hes v
 refine ⟨K1, fun k hk => ?_⟩
 have a1 := k1 k (by omega)
 dsimp only at a1
 show rib_chordal.f k n es = _
 unfold rib_chordal.f
 rw [a1, Option.bind_some]
 rfl
theorem colors_err (n : Int) (es : List S52) (e : Int) (he : e ≠ 0) (h : Ev (fun k => rib_chordal.f k n es) ([], [], e)) : Ev (fun k => rib_Colors.f k n es) ([], e) := by
 obtain ⟨K1, k1⟩ := h
 refine ⟨K1, fun k hk => ?_⟩
 have a1 := k1 k hk
 dsimp only at a1
 show rib_Colors.f k n es = _
 unfold rib_Colors.f
 rw [a1, Option.bind_some]
 dsimp only
 rw [if_neg he]
theorem apart_err (n : Int) (es : List S52) (e : Int) (he : e ≠ 0) (h : Ev (fun k => rib_chordal.f k n es) ([], [], e)) : Ev (fun k => rib_Apart.f k n es) ([], [], e) := by
 obtain ⟨K1, k1⟩ := h
 refine ⟨K1, fun k hk => ?_⟩
 have a1 := k1 k hk
 dsimp only at a1
 show rib_Apart.f k n es = _
 unfold rib_Apart.f
 rw [a1, Option.bind_some]
 dsimp only
 rw [if_neg he]
theorem colors_ok (n : Nat) (es : List S52) (g o : List Nat) (h : Ev (fun k => rib_chordal.f k (n : Int) es) (il g, il o, 0)) (hok : OkC (il g) (il o) (n : Int)) : Ev (fun k => rib_Colors.f k (n : Int) es) (cl g n o, 0) := by
 obtain ⟨K1, k1⟩ := h
 refine ⟨K1, fun k hk => ?_⟩
 have a1 := k1 k hk
 dsimp only at a1
 show rib_Colors.f k (n : Int) es = _
 unfold rib_Colors.f
 rw [a1, Option.bind_some]
 dsimp only
 rw [if_pos rfl, if_pos hok, Int.toNat_natCast, colAll_cl]
end Go.Proofs.Ytdpolfflemocaaa.Pure
namespace Go.Proofs.Ytdpolfflemocaaa.Pure
open Go Go.RowKit Go.Proofs.YtdpolfflemocaaaW.PrintWords Go.Proofs.YtdpolfflemocaaaW.PrintLast Go.Proofs.YtdpolfflemocaaaW.PrintMore Go.Proofs.Ytdpolfflemocaaa.Cl Go.Proofs.Ytdpolfflemocaaa.Own Go.Proofs.Ytdpolfflemocaaa.Rx Go.Proofs.Ytdpolfflemocaaa.Rw Go.Proofs.Ytdpolfflemocaaa.Rg Go.Proofs.Ytdpolfflemocaaa.Bk
set_option linter.unusedVariables false
set_option linter.unusedSimpArgs false
open Classical
/-- The nodes apart, and the cliques. -/
def ap (g : List Nat) : List Nat → Nat → Nat → Nat → List Nat → Nat × List Nat
  | [], out, _, _, cov => (out, cov)
  | i :: r, out, left, later, cov => if left.testBit i = true then ap g r (out ||| 2 ^ i) (left &&& (4294967295 - (g.getD i 0 ||| 2 ^ i))) (later &&& (4294967295 - 2 ^ i)) (cov ++ [(g.getD i 0 &&& later) ||| 2 ^ i]) else ap g r out left (later &&& (4294967295 - 2 ^ i)) cov
def CliqueT (es : List S52) (t : Nat) : Prop := ∀ i j, t.testBit i = true → t.testBit j = true → i ≠ j → adjE es i j = true
structure ApI (es : List S52) (n out left : Nat) (cv : List Nat) : Prop where
  lo : out < 2 ^ n
  ind : ∀ a b, out.testBit a = true → out.testBit b = true → adjE es a b = false
  sep : ∀ a, out.testBit a = true → ∀ x, left.testBit x = true → x ≠ a ∧ adjE es a x = false
  cov : ∀ x, x < n → left.testBit x = false → ∃ t ∈ cv, t.testBit x = true
  len : (nd out).length = cv.length
  cl : ∀ t ∈ cv, t < 2 ^ n ∧ CliqueT es t
theorem or_bit (x i j : Nat) : (x ||| 2 ^ i).testBit j = (x.testBit j || decide (i = j)) := by rw [Nat.testBit_or, Nat.testBit_two_pow]
theorem nd_or (x i : Nat) (hx : x < 4294967296) (hi : i < 32) (h : x.testBit i = false) : (nd (x ||| 2 ^ i)).length = (nd x).length + 1 := by
 have h1 : (nd x ++ [i]).length ≤ (nd (x ||| 2 ^ i)).length := (pig (nd x ++ [i]) (nd (x ||| 2 ^ i)) (by
  rw [List.nodup_append]
  refine ⟨nd_nodup _, by simp, fun a ha b hb => ?_⟩
  obtain rfl := List.mem_singleton.1 hb
  rintro rfl
  rw [mem_nd hx, h] at ha
  cases ha) (fun y hy => by
  rw [mem_nd (or_u32 hx (pow_u32 hi)), or_bit]
  rcases List.mem_append.1 hy with hy | hy
  ·rw [(mem_nd hx).1 hy]; rfl
  ·rw [List.mem_singleton.1 hy]; simp)).1
 have h2 : (nd (x ||| 2 ^ i)).length ≤ (nd x ++ [i]).length := (pig (nd (x ||| 2 ^ i)) (nd x ++ [i]) (nd_nodup _) (fun y hy => by
  rw [mem_nd (or_u32 hx (pow_u32 hi)), or_bit] at hy
  rw [List.mem_append, List.mem_singleton, mem_nd hx]
  simp only [Bool.or_eq_true, decide_eq_true_eq] at hy
  rcases hy with hy | hy
  ·exact Or.inl hy
  ·exact Or.inr hy.symm)).1
 simp only [List.length_append, List.length_singleton] at h1 h2
 omega
theorem ap_inv (es : List S52) (g : List Nat) (G : Gr g) (n : Nat) (hg : g.length = n) (hga : ∀ a b : Nat, ad g a b = nr es a b) : ∀ (r : List Nat) (out left later : Nat) (cov : List Nat), r.Nodup → (∀ x ∈ r, x < n) → ElimP es r →
    left < 4294967296 → later < 4294967296 → (∀ x, later.testBit x = true ↔ x ∈ r) → (∀ x, left.testBit x = true → x ∈ r) → ApI es n out left cov → ApI es n (ap g r out left later cov).1 0 (ap g r out left later cov).2 := by
  intro r
  have hn : n ≤ 31 := by have := G.le; omega
  induction r with
  | nil =>
    intro out left later cov _ _ _ hl1 hl2 hla hle I
    refine ⟨I.lo, I.ind, fun a ha x hx => by simp at hx, fun x hx _ => I.cov x hx ?_, I.len, I.cl⟩
    cases hb : left.testBit x
    · rfl
    · cases hle x hb
  | cons i r ih =>
    intro out left later cov hnd hlt he hl1 hl2 hla hle I
    obtain ⟨hir, hnd'⟩ := List.nodup_cons.1 hnd
    have hin : i < n := hlt i List.mem_cons_self
    have hi32 : i < 32 := by omega
    have hgu := G.u32 i
    have hpu := pow_u32 hi32
    have hla' : ∀ x, (later &&& (4294967295 - 2 ^ i)).testBit x = true ↔ x ∈ r := by
      intro x
      rw [sub_bit _ _ _ hl2 hpu, Bool.and_eq_true, hla, Nat.testBit_two_pow, List.mem_cons]
      constructor
      · rintro ⟨rfl | h, hx⟩
        · simp at hx
        · exact h
      · intro h
        refine ⟨Or.inr h, ?_⟩
        simp
        rintro rfl
        exact hir h
    by_cases hb : left.testBit i = true
    · have hgo : g.getD i 0 ||| 2 ^ i < 4294967296 := or_u32 hgu hpu
      have hleft : ∀ x, (left &&& (4294967295 - (g.getD i 0 ||| 2 ^ i))).testBit x = true ↔ left.testBit x = true ∧ adjE es i x = false ∧ i ≠ x := by
        intro x
        rw [sub_bit _ _ _ hl1 hgo, Bool.and_eq_true, or_bit]
        have e : (g.getD i 0).testBit x = adjE es i x := hga i x
        rw [e]
        simp
      have hct : ∀ x, ((g.getD i 0 &&& later) ||| 2 ^ i).testBit x = true ↔ (adjE es i x = true ∧ x ∈ i :: r) ∨ i = x := by
        intro x
        rw [or_bit, Nat.testBit_and, Bool.or_eq_true, Bool.and_eq_true, hla, decide_eq_true_eq]
        have e : (g.getD i 0).testBit x = adjE es i x := hga i x
        rw [e]
      have hap : ap g (i :: r) out left later cov = ap g r (out ||| 2 ^ i) (left &&& (4294967295 - (g.getD i 0 ||| 2 ^ i))) (later &&& (4294967295 - 2 ^ i)) (cov ++ [(g.getD i 0 &&& later) ||| 2 ^ i]) := by
        rw [ap, if_pos hb]
      rw [hap]
      have hou : out < 4294967296 := Nat.lt_trans I.lo (pow_u32 (by omega))
      refine ih _ _ _ _ hnd' (fun x hx => hlt x (List.mem_cons_of_mem _ hx)) he.2 (and_u32 hl1) (and_u32 hl2) hla' (fun x hx => ?_) ⟨?_, ?_, ?_, ?_, ?_, ?_⟩
      · obtain ⟨h1, h2, h3⟩ := (hleft x).1 hx
        rcases List.mem_cons.1 (hle x h1) with h | h
        · exact absurd h.symm h3
        · exact h
      · exact (lt_pow_iff _ _).2 fun j hj => by
          rw [or_bit, Bool.or_eq_true, decide_eq_true_eq] at hj
          rcases hj with hj | rfl
          · exact (lt_pow_iff _ _).1 I.lo j hj
          · exact hin
      · intro a b ha hb'
        rw [or_bit, Bool.or_eq_true, decide_eq_true_eq] at ha hb'
        rcases ha with ha | rfl <;> rcases hb' with hb' | rfl
        · exact I.ind a b ha hb'
        · exact (I.sep a ha _ hb).2
        · rw [adjE_symm]; exact (I.sep b hb' _ hb).2
        · exact adjE_irr es _
      · intro a ha x hx
        obtain ⟨h1, h2, h3⟩ := (hleft x).1 hx
        rw [or_bit, Bool.or_eq_true, decide_eq_true_eq] at ha
        rcases ha with ha | rfl
        · exact I.sep a ha x h1
        · exact ⟨fun e => h3 e.symm, h2⟩
      · intro x hx hlx
        by_cases hxl : left.testBit x = true
        · refine ⟨_, List.mem_append_right _ (List.mem_singleton.2 rfl), (hct x).2 ?_⟩
          by_cases hix : i = x
          · exact Or.inr hix
          · refine Or.inl ⟨?_, hle x hxl⟩
            cases hadj : adjE es i x
            · have := (hleft x).2 ⟨hxl, hadj, hix⟩
              rw [this] at hlx
              cases hlx
            · rfl
        · obtain ⟨t, ht, htx⟩ := I.cov x hx (by simpa using hxl)
          exact ⟨t, List.mem_append_left _ ht, htx⟩
      · have hno : out.testBit i = false := by
          cases h : out.testBit i
          · rfl
          · exact absurd rfl (I.sep i h i hb).1
        rw [nd_or out i hou hi32 hno, List.length_append, I.len]
        rfl
      · intro t ht
        rcases List.mem_append.1 ht with ht | ht
        · exact I.cl t ht
        · rw [List.mem_singleton.1 ht]
          refine ⟨(lt_pow_iff _ _).2 fun j hj => ?_, fun a b ha hb' hab => ?_⟩
          · rcases (hct j).1 hj with h | rfl
            · exact hlt j h.2
            · exact hin
          · rcases (hct a).1 ha with h1 | h1 <;> rcases (hct b).1 hb' with h2 | h2
            · have ha2 : a ∈ r := by
                rcases List.mem_cons.1 h1.2 with e | e
                · rw [e, adjE_irr] at h1; cases h1.1
                · exact e
              have hb2 : b ∈ r := by
                rcases List.mem_cons.1 h2.2 with e | e
                · rw [e, adjE_irr] at h2; cases h2.1
                · exact e
              exact he.1 a b ha2 hb2 h1.1 h2.1 hab
            · rw [← h2, adjE_symm]; exact h1.1
            · rw [← h1]; exact h2.1
            · exact absurd (h1.symm.trans h2) hab
    · have hap : ap g (i :: r) out left later cov = ap g r out left (later &&& (4294967295 - 2 ^ i)) cov := by
        rw [ap, if_neg hb]
      rw [hap]
      refine ih _ _ _ _ hnd' (fun x hx => hlt x (List.mem_cons_of_mem _ hx)) he.2 hl1 (and_u32 hl2) hla' (fun x hx => ?_) I
      rcases List.mem_cons.1 (hle x hx) with rfl | h
      · exact absurd hx hb
      · exact h
theorem ap_len (g : List Nat) : ∀ (r : List Nat) (out left later : Nat) (cov : List Nat), (ap g r out left later cov).2.length ≤ cov.length + r.length
 | [], _, _, _, _ => by simp [ap]
 | i :: r, out, left, later, cov => by
  rw [ap]
  split
  ·refine Nat.le_trans (ap_len g r _ _ _ _) ?_
   simp
   omega
  ·refine Nat.le_trans (ap_len g r _ _ _ _) ?_
   simp
theorem apart_l0 (g : List Nat) (G : Gr g) (o : List Nat) (hlt : ∀ x ∈ o, x < g.length) (ho : o.length < 1000) : ∀ (d i : Nat) (out left later : Nat) (cov : List Nat), i + d = o.length → out < 4294967296 → left < 4294967296 → later < 4294967296 → cov.length ≤ i →
  Ev (fun k => rib_Apart.l0 k (il g) (out : Int) (cov.map fun t => il (nd t)) (left : Int) (later : Int) (il o) ((o.length : Nat) : Int) (i : Int)) (il (nd (ap g (o.drop i) out left later cov).1), (ap g (o.drop i) out left later cov).2.map (fun t => il (nd t)), 0) := by
 intro d
 induction d with
 | zero =>
  intro i out left later cov hi h1 h2 h3 hc
  rw [List.drop_eq_nil_of_le (by omega)]
  refine Ev.step (f := fun k => (rib_set_list.f k (out : Int)).bind fun t118 => some (t118, cov.map (fun t => il (nd t)), 0)) (fun k => ?_) ⟨33, fun k hk => ?_⟩
  ·simp only [rib_Apart.l0]
   rw [if_neg (by omega)]
  ·show ((rib_set_list.f k (out : Int)).bind fun t118 => some (t118, cov.map (fun t => il (nd t)), 0)) = _
   rw [list_f _ _ (by omega), Option.bind_some, nodes_nat _ h1]
   rfl
 | succ d ih =>
  intro i out left later cov hi h1 h2 h3 hc
  have hil : i < o.length := by omega
  obtain ⟨v, hv⟩ : ∃ v, o[i] = v := ⟨_, rfl⟩
  have hvm : v < g.length := hlt v (hv ▸ List.getElem_mem hil)
  have hv32 : v < 32 := by have := G.le; omega
  have hgu := G.u32 v
  have hpu := pow_u32 hv32
  have hdrop : o.drop i = v :: o.drop (i + 1) := by rw [List.drop_eq_getElem_cons hil, hv]
  have hrd : rd (il o) (i : Int) = (v : Int) := by rw [rd_nat_get _ _ hil, hv]
  rw [hdrop]
  by_cases hb : left.testBit v = true
  ·have hih := ih (i + 1) (out ||| 2 ^ v) (left &&& (4294967295 - (g.getD v 0 ||| 2 ^ v))) (later &&& (4294967295 - 2 ^ v)) (cov ++ [(g.getD v 0 &&& later) ||| 2 ^ v]) (by omega) (or_u32 h1 hpu) (and_u32 h2) (and_u32 h3) (by simp; omega)
   rw [ap, if_pos hb]
   obtain ⟨K, hK⟩ := hih
   refine ⟨K + 34, fun k hk => ?_⟩
   obtain ⟨k, rfl⟩ : ∃ j, k = j + 1 := ⟨k - 1, by omega⟩
   have a1 := hK k (by omega)
   dsimp only at a1 ⊢
   simp only [rib_Apart.l0]
   rw [if_pos (by omega), if_pos (by omega), il_len, if_pos (by omega), hrd, has_f left v h2 hv32, Option.bind_some, if_pos hb, one_nat v hv32, Option.bind_some, if_pos (by omega), il_len, if_pos (by omega), Option.bind_some,
    il_rd g v hvm, u32_and_nat _ _ hgu h3, u32_or_nat _ _ (and_u32 hgu) hpu, list_f _ _ (by omega), Option.bind_some, nodes_nat _ (or_u32 (and_u32 hgu) hpu), List.length_map, if_pos (by omega), Option.bind_some, Option.bind_some,
    u32_or_nat _ _ h1 hpu, u32_or_nat _ _ hgu hpu, u32_andNot_nat _ _ h2 (or_u32 hgu hpu), u32_andNot_nat _ _ h3 hpu, wrap_up i (by omega)]
   simpa using a1
  ·have hih := ih (i + 1) out left (later &&& (4294967295 - 2 ^ v)) cov (by omega) h1 h2 (and_u32 h3) (by omega)
   rw [ap, if_neg hb]
   refine Ev.step (fun k => ?_) hih
   simp only [rib_Apart.l0]
   rw [if_pos (by omega), if_pos (by omega), il_len, if_pos (by omega), hrd, has_f left v h2 hv32, Option.bind_some, if_neg hb, one_nat v hv32, Option.bind_some, u32_andNot_nat _ _ h3 hpu, wrap_up i (by omega)]
theorem apart_ok (n : Nat) (es : List S52) (g o : List Nat) (G : Gr g) (hg : g.length = n) (hlt : ∀ x ∈ o, x < n) (ho : o.length < 1000) (h : Ev (fun k => rib_chordal.f k (n : Int) es) (il g, il o, 0)) :
  Ev (fun k => rib_Apart.f k (n : Int) es) (il (nd (ap g o 0 (2 ^ n - 1) (2 ^ n - 1) []).1), (ap g o 0 (2 ^ n - 1) (2 ^ n - 1) []).2.map (fun t => il (nd t)), 0) := by
 have hn : n ≤ 31 := by have := G.le; omega
 have hM : 2 ^ n - 1 < 4294967296 := Nat.lt_of_le_of_lt (Nat.sub_le _ _) (pow_u32' hn)
 obtain ⟨K1, k1⟩ := h
 obtain ⟨K2, k2⟩ := apart_l0 g G o (by rw [hg]; exact hlt) ho o.length 0 0 (2 ^ n - 1) (2 ^ n - 1) [] (by omega) (by decide) hM hM (by simp)
 refine ⟨K1 + K2, fun k hk => ?_⟩
 have a1 := k1 k (by omega)
 have a2 := k2 k (by omega)
 dsimp only at a1 a2
 show rib_Apart.f k (n : Int) es = _
 unfold rib_Apart.f
 rw [a1, Option.bind_some]
 dsimp only
 rw [if_pos rfl, all_f g (by omega), Option.bind_some, Option.bind_some, hg, il_len]
 exact a2
theorem apart_spec (es : List S52) (g : List Nat) (G : Gr g) (n : Nat) (hg : g.length = n) (hga : ∀ a b : Nat, ad g a b = nr es a b) (o : List Nat) (hnd : o.Nodup) (hmem : ∀ x, x ∈ o ↔ x < n) (he : ElimP es o) :
  ApI es n (ap g o 0 (2 ^ n - 1) (2 ^ n - 1) []).1 0 (ap g o 0 (2 ^ n - 1) (2 ^ n - 1) []).2 := by
 have hn : n ≤ 31 := by have := G.le; omega
 have hM : 2 ^ n - 1 < 4294967296 := Nat.lt_of_le_of_lt (Nat.sub_le _ _) (pow_u32' hn)
 refine ap_inv es g G n hg hga o 0 _ _ [] hnd (fun x hx => (hmem x).1 hx) he hM hM (fun x => ?_) (fun x hx => ?_) ⟨Nat.two_pow_pos n, fun a b ha => by simp at ha, fun a ha => by simp at ha, fun x hx hlx => ?_, by rfl, fun t ht => by cases ht⟩
 ·rw [all_bit, hmem, decide_eq_true_eq]
 ·rw [all_bit, decide_eq_true_eq] at hx
  exact (hmem x).2 hx
 ·rw [all_bit, decide_eq_false_iff_not] at hlx
  exact absurd hx hlx
end Go.Proofs.Ytdpolfflemocaaa.Pure
namespace Go.Proofs.Ytdpolfflemocaaa.Pure
open Go Go.RowKit Go.Proofs.YtdpolfflemocaaaW.PrintWords Go.Proofs.YtdpolfflemocaaaW.PrintLast Go.Proofs.YtdpolfflemocaaaW.PrintMore Go.Proofs.Ytdpolfflemocaaa.Cl Go.Proofs.Ytdpolfflemocaaa.Own Go.Proofs.Ytdpolfflemocaaa.Rx Go.Proofs.Ytdpolfflemocaaa.Rw Go.Proofs.Ytdpolfflemocaaa.Rg Go.Proofs.Ytdpolfflemocaaa.Bk Go.Proofs.Ytdpolfflemocaaa.Rh
set_option linter.unusedVariables false
set_option linter.unusedSimpArgs false
open Classical
theorem mx_ge (a b : Int) : a ≤ mx a b ∧ b ≤ mx a b := by unfold mx; split <;> omega
theorem most_l0 (R : List (List Int)) (hR : R.length < 2 ^ 40) : ∀ (d i : Nat) (acc : Int), i + d = R.length → ∃ M, Ev (fun k => gampref04_Most.l0 k acc R (i : Int)) M ∧ acc ≤ M ∧ ∀ c ∈ R.drop i, (c.length : Int) ≤ M := by
 intro d
 induction d with
 | zero =>
  intro i acc hi
  refine ⟨acc, Ev.step (f := fun _ => some acc) (fun k => ?_) (Ev.now _), Int.le_refl _, fun c hc => ?_⟩
  ·simp only [gampref04_Most.l0]
   rw [if_neg (by omega)]
  ·rw [List.drop_eq_nil_of_le (by omega)] at hc
   cases hc
 | succ d ih =>
  intro i acc hi
  have hil : i < R.length := by omega
  obtain ⟨M, e, h1, h2⟩ := ih (i + 1) (mx acc ((R[i]).length : Int)) (by omega)
  have hrd : rd_L3 R (i : Int) = R[i] := by simp [rd_L3, hil]
  refine ⟨M, Ev.step (fun k => ?_) e, Int.le_trans (mx_ge _ _).1 h1, fun c hc => ?_⟩
  ·simp only [gampref04_Most.l0]
   rw [if_pos (by omega), if_pos (by omega), hrd, wrap_up i (by omega)]
  ·rw [List.drop_eq_getElem_cons hil] at hc
   rcases List.mem_cons.1 hc with rfl | hc
   ·exact Int.le_trans (mx_ge _ _).2 h1
   ·exact h2 c hc
theorem most_ev (n : Nat) (hn : n ≤ 20) (es : List S52) (hes : es.length < 2 ^ 50) : ∃ M, Ev (fun k => gampref04_Most.f k (n : Int) es) M ∧ ∀ q : List Nat, q.Nodup → (∀ x ∈ q, x < n) → CliqueQ es q → (q.length : Int) ≤ M := by
 obtain ⟨R, eR, C⟩ := cliques_ref n hn es hes
 have hlen := C.len
 have hp : 2 ^ n ≤ 2 ^ 20 := Nat.pow_le_pow_right (by omega) hn
 obtain ⟨M, e, _, h⟩ := most_l0 R (by omega) R.length 0 0 (by omega)
 rw [List.drop_zero] at h
 obtain ⟨K1, k1⟩ := eR
 obtain ⟨K2, k2⟩ := e
 refine ⟨M, ⟨K1 + K2, fun k hk => ?_⟩, fun q hq hlt hc => ?_⟩
 ·have a1 := k1 k (by omega)
  have a2 := k2 k (by omega)
  dsimp only at a1 a2
  show gampref04_Most.f k (n : Int) es = _
  unfold gampref04_Most.f
  rw [a1, Option.bind_some]
  exact a2
 ·have hb : ∀ j, (setOf q).testBit j = true ↔ j ∈ q := fun j => by rw [setOf_bit, decide_eq_true_eq]
  have hs : setOf q < 2 ^ n := (lt_pow_iff _ _).2 fun j hj => hlt j ((hb j).1 hj)
  obtain ⟨s, hs1, hs2⟩ := clique_grow es n (2 ^ n) (setOf q) (by omega) hs (fun i j hi hj hij => hc i j ((hb i).1 hi) ((hb j).1 hj) hij)
  have hs32 : s < 4294967296 := Nat.lt_trans hs1.1 (pow_u32' (by omega))
  have hle : q.length ≤ (nd s).length := (pig q (nd s) hq fun x hx => (mem_nd hs32).2 (hs2 x ((hb x).2 hx))).1
  by_cases h0 : s = 0
  ·subst h0
   have : (nd 0).length = 0 := by decide
   have hq0 : q.length = 0 := by omega
   have : (0 : Int) ≤ M := by assumption
   omega
  ·have hm := h (il (nd s)) ((C.mem _).2 ⟨s, by omega, hs1.1, rfl, hs1⟩)
   rw [il_len] at hm
   omega
theorem hasG_l0 (l : List Int) (v : Int) (hl : l.length < 2 ^ 40) : ∀ (d i : Nat), i + d = l.length → Ev (fun k => Rg.gampref04_Has.l0 k l v (i : Int)) (decide (v ∈ l.drop i)) := by
  intro d
  induction d with
  | zero =>
    intro i hi
    rw [List.drop_eq_nil_of_le (by omega)]
    refine Ev.step (f := fun _ => some (decide (v ∈ ([] : List Int)))) (fun k => ?_) (Ev.now _)
    simp only [Rg.gampref04_Has.l0]
    rw [if_neg (by omega)]
    simp
  | succ d ih =>
    intro i hi
    have hil : i < l.length := by omega
    by_cases h : l[i] = v
    · refine Ev.step (f := fun _ => some (decide (v ∈ l.drop i))) (fun k => ?_) (Ev.now _)
      simp only [Rg.gampref04_Has.l0]
      rw [if_pos (by omega), if_pos (by omega), rd_get _ _ hil, if_pos h, List.drop_eq_getElem_cons hil, h]
      simp
    · have e : decide (v ∈ l.drop i) = decide (v ∈ l.drop (i + 1)) := by
        rw [List.drop_eq_getElem_cons hil, decide_eq_decide, List.mem_cons]
        exact ⟨fun q => q.resolve_left (fun e => h e.symm), Or.inr⟩
      rw [e]
      refine Ev.step (fun k => ?_) (ih (i + 1) (by omega))
      simp only [Rg.gampref04_Has.l0]
      rw [if_pos (by omega), if_pos (by omega), rd_get _ _ hil, if_neg h, wrap_up i (by omega)]
theorem hasG_ev (l : List Int) (v : Int) (hl : l.length < 2 ^ 40) : Ev (fun k => Rg.gampref04_Has.f k l v) (decide (v ∈ l)) := hasG_l0 l v hl l.length 0 (by omega)
theorem rising_ev (n t : Nat) (hn : n ≤ 31) (ht : t < 2 ^ n) : Ev (fun k => gamplaw04_rising.f k (il (nd t)) (n : Int)) true := by
 have hs : (nd t).Pairwise (· < ·) := List.pairwise_lt_range.sublist List.filter_sublist
 have hl32 := nd_len t
 have ht32 : t < 4294967296 := Nat.lt_trans ht (pow_u32' hn)
 have hlt : ∀ (i : Nat) (h : i < (nd t).length), (nd t)[i] < n := fun i h => (lt_pow_iff _ _).1 ht _ ((mem_nd ht32).1 (List.getElem_mem h))
 have main : ∀ (d i : Nat), i + d = (nd t).length → Ev (fun k => gamplaw04_rising.l0 k (il (nd t)) (n : Int) (i : Int)) true := by
  intro d
  induction d with
  | zero =>
   intro i hi
   refine Ev.step (f := fun _ => some true) (fun k => ?_) (Ev.now _)
   simp only [gamplaw04_rising.l0]
   rw [il_len, if_neg (by omega)]
  | succ d ih =>
   intro i hi
   have hil : i < (nd t).length := by omega
   have h1 := hlt i hil
   refine Ev.step (fun k => ?_) (ih (i + 1) (by omega))
   simp only [gamplaw04_rising.l0]
   rw [il_len, if_pos (by omega), if_pos (by omega), rd_nat_get _ _ hil, if_neg (by omega), if_neg (by omega)]
   by_cases h0 : i = 0
   ·subst h0
    rw [if_neg (by omega), wrap_up 0 (by omega)]
   ·obtain ⟨j, rfl⟩ : ∃ j, i = j + 1 := ⟨i - 1, by omega⟩
    have hw : wrap64 (((j + 1 : Nat) : Int) - 1) = (j : Int) := by unfold wrap64; omega
    have hjl : j < (nd t).length := by omega
    have h2 := (List.pairwise_iff_getElem.1 hs) j (j + 1) hjl hil (by omega)
    rw [if_pos (by omega), hw, if_pos (by omega), if_pos (by omega), rd_nat_get _ _ hjl, if_neg (by omega), wrap_up (j + 1) (by omega)]
 exact main (nd t).length 0 (by omega)
theorem free_ev (es : List S52) (hes : es.length < 2 ^ 50) (l : List Nat) (hl : l.length < 2 ^ 40) (hnd : l.Nodup) (hind : ∀ a b, a ∈ l → b ∈ l → adjE es a b = false) : Ev (fun k => gampref04_Free.f k es (il l)) true := by
 have main1 : ∀ (i : Nat) (hi : i < l.length), Ev (fun k => gampref04_Free.l0 k es (il l) ((i + 1 : Nat) : Int)) true → ∀ (d j : Nat), j + d = i → Ev (fun k => gampref04_Free.l1 k es (il l) (i : Int) (j : Int)) true := by
  intro i hi hr d
  induction d with
  | zero =>
   intro j hj
   refine Ev.step (fun k => ?_) hr
   simp only [gampref04_Free.l1]
   rw [if_neg (by omega), wrap_up i (by omega)]
  | succ d ih =>
   intro j hj
   have hjl : j < l.length := by omega
   obtain ⟨K1, k1⟩ := ih (j + 1) (by omega)
   obtain ⟨K2, k2⟩ := near_ev es hes (l[i] : Int) (l[j] : Int)
   refine ⟨K1 + K2 + 1, fun k hk => ?_⟩
   obtain ⟨k, rfl⟩ : ∃ q, k = q + 1 := ⟨k - 1, by omega⟩
   have a1 := k1 k (by omega)
   have a2 := k2 k (by omega)
   dsimp only at a1 a2 ⊢
   have hne : ¬ ((l[j] : Nat) : Int) = ((l[i] : Nat) : Int) := by
    have := (List.nodup_iff_pairwise_ne.1 hnd)
    have h3 := (List.pairwise_iff_getElem.1 this) j i hjl hi (by omega)
    omega
   have hf : nr es (l[i] : Int) (l[j] : Int) = false := hind _ _ (List.getElem_mem hi) (List.getElem_mem hjl)
   rw [hf] at a2
   simp only [gampref04_Free.l1]
   rw [if_pos (by omega), if_pos (by omega), il_len, if_pos (by omega), if_pos (by omega), if_pos (by omega), rd_nat_get _ _ hjl, rd_nat_get _ _ hi, if_neg hne, a2, Option.bind_some, if_neg (by decide), wrap_up j (by omega)]
   exact a1
 have main : ∀ (d i : Nat), i + d = l.length → Ev (fun k => gampref04_Free.l0 k es (il l) (i : Int)) true := by
  intro d
  induction d with
  | zero =>
   intro i hi
   refine Ev.step (f := fun _ => some true) (fun k => ?_) (Ev.now _)
   simp only [gampref04_Free.l0]
   rw [il_len, if_neg (by omega)]
  | succ d ih =>
   intro i hi
   refine Ev.step (fun k => ?_) (main1 i (by omega) (ih (i + 1) (by omega)) i 0 (by omega))
   simp only [gampref04_Free.l0]
   rw [il_len, if_pos (by omega)]
   rfl
 exact main l.length 0 (by omega)
end Go.Proofs.Ytdpolfflemocaaa.Pure
namespace Go.Proofs.Ytdpolfflemocaaa.Pure
open Go Go.RowKit Go.Proofs.YtdpolfflemocaaaW.PrintWords Go.Proofs.YtdpolfflemocaaaW.PrintLast Go.Proofs.YtdpolfflemocaaaW.PrintMore Go.Proofs.Ytdpolfflemocaaa.Cl Go.Proofs.Ytdpolfflemocaaa.Own Go.Proofs.Ytdpolfflemocaaa.Rx Go.Proofs.Ytdpolfflemocaaa.Rw Go.Proofs.Ytdpolfflemocaaa.Rg Go.Proofs.Ytdpolfflemocaaa.Bk Go.Proofs.Ytdpolfflemocaaa.Rh
set_option linter.unusedVariables false
set_option linter.unusedSimpArgs false
open Classical
theorem edge_adj (es : List S52) (n : Int) (v : Valid n es) (i : Nat) (hi : i < es.length) : ∃ a b : Nat, (ea es i).f0 = a ∧ (ea es i).f1 = b ∧ a < b ∧ (b : Int) < n ∧ adjE es a b = true := by
 have h := v.ok i hi
 obtain ⟨h1, h2, _⟩ := (okAt_iff n es i).1 h |>.1 |> fun h => (⟨h.1, h.2, trivial⟩ : _ ∧ _ ∧ True)
 refine ⟨(ea es i).f0.toNat, (ea es i).f1.toNat, by omega, by omega, by omega, by omega, ?_⟩
 show nr es _ _ = true
 unfold nr
 rw [List.any_eq_true]
 refine ⟨ea es i, ea_mem hi, ?_⟩
 rw [show (((ea es i).f0.toNat : Nat) : Int) = (ea es i).f0 by omega, show (((ea es i).f1.toNat : Nat) : Int) = (ea es i).f1 by omega, mn_le (by omega)]
 have : mx (ea es i).f0 (ea es i).f1 = (ea es i).f1 := by unfold mx; split <;> omega
 rw [this]
 simp
 omega
theorem rdL (T : List Nat) (i : Nat) (hi : i < T.length) : rd_L1 (T.map fun t => il (nd t)) (i : Int) = il (nd T[i]) := by simp [rd_L1, hi]
theorem colors_l3 (es : List S52) (hes : es.length < 2 ^ 50) (n : Nat) (hn : n ≤ 31) (T : List Nat) (hT : T.length < 2 ^ 40) (hcl : ∀ t ∈ T, t < 2 ^ n ∧ CliqueT es t) : ∀ (d i : Nat), i + d = T.length →
  Ev (fun k => gamplaw04_RibColors.l3 k (T.map fun t => il (nd t)) (i : Int) (n : Int) es) true := by
 intro d
 induction d with
 | zero =>
  intro i hi
  refine Ev.step (f := fun _ => some true) (fun k => ?_) (Ev.now _)
  simp only [gamplaw04_RibColors.l3]
  rw [List.length_map, if_neg (by omega)]
 | succ d ih =>
  intro i hi
  have hil : i < T.length := by omega
  obtain ⟨ht, hc⟩ := hcl T[i] (List.getElem_mem hil)
  have ht32 : T[i] < 4294967296 := Nat.lt_trans ht (pow_u32' hn)
  have hl := nd_len T[i]
  have e1 := rising_ev n T[i] hn ht
  have e2 := clique_ev es hes (il (nd T[i])) (by rw [il_len]; omega)
  rw [decide_eq_true ((allPr_iff es (nd T[i]) (nd_nodup _)).2 fun x y hx hy hxy => hc x y ((mem_nd ht32).1 hx) ((mem_nd ht32).1 hy) hxy)] at e2
  obtain ⟨K1, k1⟩ := e1
  obtain ⟨K2, k2⟩ := e2
  obtain ⟨K3, k3⟩ := ih (i + 1) (by omega)
  refine ⟨K1 + K2 + K3 + 1, fun k hk => ?_⟩
  obtain ⟨k, rfl⟩ : ∃ q, k = q + 1 := ⟨k - 1, by omega⟩
  have a1 := k1 k (by omega)
  have a2 := k2 k (by omega)
  have a3 := k3 k (by omega)
  dsimp only at a1 a2 a3 ⊢
  simp only [gamplaw04_RibColors.l3]
  rw [List.length_map, if_pos (by omega), if_pos (by omega), rdL T i hil, a1, Option.bind_some, if_pos rfl, a2, Option.bind_some, if_pos rfl, wrap_up i (by omega)]
  exact a3
theorem rd_c (c : List Int) (a : Nat) (h : a < c.length) : rd c (a : Int) = c[a]! := by rw [getElem!_pos c a h]; exact rd_get c a h
theorem colors_l2 (es : List S52) (hes : es.length < 2 ^ 50) (n : Nat) (v : Valid n es) (c : List Int) (hc : c.length = n) (L : List (List Int)) (hpr : ∀ i j, i < n → j < n → adjE es i j = true → c[i]! ≠ c[j]!)
  (h3 : Ev (fun k => gamplaw04_RibColors.l3 k L 0 (n : Int) es) true) : ∀ (d i : Nat), i + d = es.length → Ev (fun k => gamplaw04_RibColors.l2 k c L (i : Int) (n : Int) es) true := by
 intro d
 induction d with
 | zero =>
  intro i hi
  refine Ev.step (fun k => ?_) h3
  simp only [gamplaw04_RibColors.l2]
  rw [if_neg (by omega)]
 | succ d ih =>
  intro i hi
  obtain ⟨a, b, ha, hb, hab, hbn, hadj⟩ := edge_adj es n v i (by omega)
  refine Ev.step (fun k => ?_) (ih (i + 1) (by omega))
  simp only [gamplaw04_RibColors.l2]
  rw [ea_rd, ha, hb, if_pos (by omega), if_pos (by omega), if_pos (by omega), if_pos (by omega), if_pos (by omega), if_pos (by omega), rd_c c a (by omega), rd_c c b (by omega), if_neg (hpr a b (by omega) (by omega) hadj), wrap_up i (by omega)]
theorem colors_l1 (es : List S52) (n : Nat) (c : List Int) (T : List Nat) (hT : T.length < 2 ^ 40) (hT32 : ∀ t ∈ T, t < 4294967296) (M : Int) (x : Nat) (hx : x < 2 ^ 40) (h0 : Ev (fun k => gamplaw04_RibColors.l0 k c (T.map fun t => il (nd t)) M ((x + 1 : Nat) : Int) (n : Int) es) true) :
  ∀ (d i : Nat) (fl : Bool), i + d = T.length → (fl = true ∨ ∃ t ∈ T.drop i, t.testBit x = true) → Ev (fun k => gamplaw04_RibColors.l1 k c (T.map fun t => il (nd t)) M (x : Int) fl (i : Int) (n : Int) es) true := by
 intro d
 induction d with
 | zero =>
  intro i fl hi hfl
  have hfl' : fl = true := by
   rcases hfl with h | ⟨t, ht, _⟩
   ·exact h
   ·rw [List.drop_eq_nil_of_le (by omega)] at ht; cases ht
  subst hfl'
  refine Ev.step (fun k => ?_) h0
  simp only [gamplaw04_RibColors.l1]
  rw [List.length_map, if_neg (by omega), if_pos trivial, wrap_up x (by omega)]
 | succ d ih =>
  intro i fl hi hfl
  have hil : i < T.length := by omega
  by_cases hf : fl = true
  ·subst hf
   refine Ev.step (fun k => ?_) (ih (i + 1) true (by omega) (Or.inl rfl))
   simp only [gamplaw04_RibColors.l1]
   rw [List.length_map, if_pos (by omega), if_pos trivial, wrap_up i (by omega)]
  ·have e1 := hasG_ev (il (nd T[i])) (x : Int) (by rw [il_len]; have := nd_len T[i]; omega)
   have hm : ((x : Int) ∈ il (nd T[i])) ↔ T[i].testBit x = true := by
    rw [← mem_nd (hT32 _ (List.getElem_mem hil))]
    constructor
    ·intro h
     obtain ⟨y, hy, e⟩ := List.mem_map.1 h
     have : y = x := by omega
     exact this ▸ hy
    ·exact fun h => List.mem_map.2 ⟨x, h, rfl⟩
   obtain ⟨K1, k1⟩ := e1
   obtain ⟨K2, k2⟩ := ih (i + 1) (decide ((x : Int) ∈ il (nd T[i]))) (by omega) (by
    rcases hfl with h | ⟨t, ht, htx⟩
    ·exact absurd h hf
    ·rw [List.drop_eq_getElem_cons hil] at ht
     rcases List.mem_cons.1 ht with rfl | ht
     ·exact Or.inl (decide_eq_true (hm.2 htx))
     ·exact Or.inr ⟨t, ht, htx⟩)
   refine ⟨K1 + K2 + 1, fun k hk => ?_⟩
   obtain ⟨k, rfl⟩ : ∃ q, k = q + 1 := ⟨k - 1, by omega⟩
   have a1 := k1 k (by omega)
   have a2 := k2 k (by omega)
   dsimp only at a1 a2 ⊢
   simp only [gamplaw04_RibColors.l1]
   rw [List.length_map, if_pos (by omega), if_neg hf, if_pos (by omega), rdL T i hil, a1, Option.bind_some, wrap_up i (by omega)]
   exact a2
theorem colors_l0 (es : List S52) (n : Nat) (hn : n ≤ 31) (c : List Int) (hc : c.length = n) (T : List Nat) (hT : T.length < 2 ^ 40) (hT32 : ∀ t ∈ T, t < 4294967296) (M : Int) (hlo : ∀ x, x < n → 0 ≤ c[x]! ∧ c[x]! < M) (hcov : ∀ x, x < n → ∃ t ∈ T, t.testBit x = true)
  (h2 : Ev (fun k => gamplaw04_RibColors.l2 k c (T.map fun t => il (nd t)) 0 (n : Int) es) true) : ∀ (d x : Nat), x + d = n → Ev (fun k => gamplaw04_RibColors.l0 k c (T.map fun t => il (nd t)) M (x : Int) (n : Int) es) true := by
 intro d
 induction d with
 | zero =>
  intro x hx
  refine Ev.step (fun k => ?_) h2
  simp only [gamplaw04_RibColors.l0]
  rw [if_neg (by omega)]
 | succ d ih =>
  intro x hx
  have hxn : x < n := by omega
  obtain ⟨h3, h4⟩ := hlo x hxn
  have e := colors_l1 es n c T hT hT32 M x (by omega) (ih (x + 1) (by omega)) T.length 0 false (by omega) (Or.inr (by rw [List.drop_zero]; exact hcov x hxn))
  refine Ev.step (f := fun k => gamplaw04_RibColors.j2 k c (T.map fun t => il (nd t)) M (x : Int) false (n : Int) es) (fun k => ?_) (Ev.step (fun k => ?_) e)
  ·simp only [gamplaw04_RibColors.l0]
   rw [if_pos (by omega), if_pos (by omega), hc, if_pos (by omega), rd_c c x (by omega), if_neg (by omega), decide_eq_false (by omega)]
  ·simp only [gamplaw04_RibColors.j2]
   rw [if_neg (by decide)]
   rfl
theorem ribColors_ev (n : Int) (es : List S52) : Ev (fun k => gamplaw04_RibColors.f k n es) true := by
 have hel : (es.take 70).length ≤ 70 := List.length_take_le _ _
 have hl5 : (es.take 70).length < 2 ^ 50 := by omega
 obtain ⟨Kl, hKl⟩ := lives_ev
 by_cases v : Valid (fewN n) (es.take 70)
 ·obtain ⟨m, hm⟩ : ∃ m : Nat, fewN n = m := ⟨(fewN n).toNat, by have := v.lo; omega⟩
  rw [hm] at v
  have hm12 := v.hi
  have hm1 := v.lo
  obtain ⟨g, evr, G, hgl, hga⟩ := read_ok m (es.take 70) hl5 v
  have e1 := chordal_ok m _ g G hgl hga evr
  have e3 := ch_ok m (by omega) _ hl5 v
  cases hz : elim (es.take 70) m (List.range m) with
  | none =>
   rw [hz] at e1 e3
   obtain ⟨K1, k1⟩ := colors_err _ _ 5 (by decide) e1
   obtain ⟨K2, k2⟩ := apart_err _ _ 5 (by decide) e1
   obtain ⟨K3, k3⟩ := e3
   refine ⟨K1 + K2 + K3 + Kl, fun k hk => ?_⟩
   have a1 := k1 k (by omega)
   have a2 := k2 k (by omega)
   have a3 := k3 k (by omega)
   have a6 := hKl k (by omega)
   dsimp only at a1 a2 a3 a6
   show gamplaw04_RibColors.f k n es = some true
   unfold gamplaw04_RibColors.f
   rw [few_f, Option.bind_some, hm]
   dsimp only
   rw [a1, Option.bind_some, a2, Option.bind_some, a3, Option.bind_some]
   simp [a6, wrap64]
  | some o =>
   rw [hz] at e1
   rw [hz, Option.isSome_some, if_pos rfl] at e3
   obtain ⟨hperm, he⟩ := elim_spec _ m _ _ (by simp) hz
   have hol : o.length = m := by rw [hperm.length_eq, List.length_range]
   have hnd : o.Nodup := hperm.nodup_iff.2 List.nodup_range
   have hmem : ∀ x, x ∈ o ↔ x < m := fun x => by rw [hperm.mem_iff, List.mem_range]
   have hlt : ∀ x ∈ o, x < m := fun x hx => (hmem x).1 hx
   have c1 := colors_ok m _ g o e1 (okC_of (es.take 70) g G m hgl (by omega) (by omega) o hol hlt)
   have I := cl_inv _ g G m hgl hga o hnd hlt he
   have c2 := apart_ok m _ g o G hgl hlt (by omega) e1
   have A := apart_spec _ g G m hgl hga o hnd hmem he
   have hcl0 := ap_len g o 0 (2 ^ m - 1) (2 ^ m - 1) []
   obtain ⟨out, hout⟩ : ∃ out, out = (ap g o 0 (2 ^ m - 1) (2 ^ m - 1) []).1 := ⟨_, rfl⟩
   obtain ⟨T, hT⟩ : ∃ T, T = (ap g o 0 (2 ^ m - 1) (2 ^ m - 1) []).2 := ⟨_, rfl⟩
   rw [← hout, ← hT] at A c2
   rw [← hT] at hcl0
   simp only [List.length_nil, Nat.zero_add] at hcl0
   have ho32 : out < 4294967296 := Nat.lt_trans A.lo (pow_u32' (by omega))
   obtain ⟨M, eM, hM⟩ := most_ev m (by omega) (es.take 70) hl5
   have f1 := rising_ev m out (by omega) A.lo
   have f2 := free_ev _ hl5 (nd out) (by have := nd_len out; omega) (nd_nodup _) (fun a b ha hb => A.ind a b ((mem_nd ho32).1 ha) ((mem_nd ho32).1 hb))
   have t3 := colors_l3 _ hl5 m (by omega) T (by omega) A.cl T.length 0 (by omega)
   have t2 := colors_l2 _ hl5 m v (cl g m o) (cl_len _ _ _) _ (fun i j hi hj hij => I.pr i j ((hmem i).2 hi) ((hmem j).2 hj) hij) t3 (es.take 70).length 0 (by omega)
   have t1 := colors_l0 _ m (by omega) (cl g m o) (cl_len _ _ _) T (by omega) (fun t ht => Nat.lt_trans (A.cl t ht).1 (pow_u32' (by omega))) M
    (fun x hx => by
     obtain ⟨p0, q, q1, q2, q3, q4⟩ := I.dn x ((hmem x).2 hx)
     exact ⟨p0, Int.lt_of_lt_of_le q4 (hM q q1 q2 q3)⟩)
    (fun x hx => A.cov x hx (by simp)) t2 m 0 (by omega)
   obtain ⟨K1, k1⟩ := c1
   obtain ⟨K2, k2⟩ := c2
   obtain ⟨K3, k3⟩ := e3
   obtain ⟨K4, k4⟩ := f1
   obtain ⟨K5, k5⟩ := f2
   obtain ⟨K6, k6⟩ := eM
   obtain ⟨K7, k7⟩ := t1
   refine ⟨K1 + K2 + K3 + K4 + K5 + K6 + K7 + Kl + 1, fun k hk => ?_⟩
   obtain ⟨k, rfl⟩ : ∃ j, k = j + 1 := ⟨k - 1, by omega⟩
   have a1 := k1 (k + 1) (by omega)
   have a2 := k2 (k + 1) (by omega)
   have a3 := k3 (k + 1) (by omega)
   have a4 := k4 (k + 1) (by omega)
   have a5 := k5 (k + 1) (by omega)
   have a6 := k6 k (by omega)
   have a7 := k7 k (by omega)
   have a8 := hKl (k + 1) (by omega)
   dsimp only at a1 a2 a3 a4 a5 a6 a7 a8
   show gamplaw04_RibColors.f (k + 1) n es = some true
   unfold gamplaw04_RibColors.f
   rw [few_f, Option.bind_some, hm]
   dsimp only
   rw [a1, Option.bind_some, a2, Option.bind_some, a3, Option.bind_some]
   dsimp only
   rw [if_pos rfl, if_pos rfl, if_pos rfl, cl_len, if_pos rfl, il_len, List.length_map, A.len, if_pos rfl, a4, Option.bind_some, if_pos rfl, a5, Option.bind_some, if_pos rfl, a8, Option.bind_some]
   simp only [gamplaw04_RibColors.j0]
   rw [if_neg (by decide), a6, Option.bind_some]
   exact a7
 ·have e1 := chordal_no _ _ hl5 v
  have e3 := ch_no _ _ hl5 v
  obtain ⟨K1, k1⟩ := colors_err _ _ 1 (by decide) e1
  obtain ⟨K2, k2⟩ := apart_err _ _ 1 (by decide) e1
  obtain ⟨K3, k3⟩ := e3
  refine ⟨K1 + K2 + K3 + Kl, fun k hk => ?_⟩
  have a1 := k1 k (by omega)
  have a2 := k2 k (by omega)
  have a3 := k3 k (by omega)
  have a6 := hKl k (by omega)
  dsimp only at a1 a2 a3 a6
  show gamplaw04_RibColors.f k n es = some true
  unfold gamplaw04_RibColors.f
  rw [few_f, Option.bind_some]
  dsimp only
  rw [a1, Option.bind_some, a2, Option.bind_some, a3, Option.bind_some]
  simp [a6, wrap64]
end Go.Proofs.Ytdpolfflemocaaa.Pure

/- The declarations of Pc that the claim Qw needs. -/
import Derived.Test.YtdpolfflemocaaaQwT1
import Derived.Test.YtdpolfflemocaaaQwOwx6
namespace Go.Proofs.Ytdpolfflemocaaa.Own
open Go Go.RowKit Go.Proofs.YtdpolfflemocaaaW.PrintWords Go.Proofs.YtdpolfflemocaaaW.PrintLast Go.Proofs.YtdpolfflemocaaaW.PrintMore Go.Proofs.Ytdpolfflemocaaa.Cl
set_option linter.unusedVariables false
def il (l : List Nat) : List Int := l.map fun (i : Nat) => (i : Int)
theorem il_len (l : List Nat) : (il l).length = l.length := by simp [il]
theorem il_rd (l : List Nat) (i : Nat) (h : i < l.length) : rd (il l) (i : Int) = ((l.getD i 0 : Nat) : Int) := by simp [rd, il, h]
theorem il_app (l s : List Nat) : il (l ++ s) = il l ++ il s := by simp [il]
theorem nodesFrom_nat (x : Nat) (hx : x < 4294967296) : ∀ n, n ≤ 32 → nodesFrom (x : Int) n = il (((List.range n).map (32 - n + ·)).filter (x.testBit ·))
 | 0, _ => rfl
 | n + 1, h => by
  have ih := nodesFrom_nat x hx n (by omega)
  have e : (List.range (n + 1)).map (32 - (n + 1) + ·) = (31 - n) :: (List.range n).map (32 - n + ·) := by
   rw [List.range_succ_eq_map, List.map_cons, List.map_map]
   congr 1
   ·omega
   ·apply List.map_congr_left
    intro j hj
    simp only [Function.comp, Nat.succ_eq_add_one]
    omega
  unfold nodesFrom
  rw [e, hasB_nat x (31 - n) hx (by omega), ih]
  by_cases hb : x.testBit (31 - n) = true
  ·rw [if_pos hb, List.filter_cons_of_pos hb]; rfl
  ·rw [if_neg hb, List.filter_cons_of_neg hb]
theorem nodes_nat (x : Nat) (hx : x < 4294967296) : nodes (x : Int) = il (nd x) := by
 unfold nodes nd
 rw [nodesFrom_nat x hx 32 (Nat.le_refl _)]
 simp
theorem one_nat (i : Nat) (hi : i < 32) : rib_one.f (i : Int) = some ((2 ^ i : Nat) : Int) := by
 unfold rib_one.f shl
 rw [if_pos (by omega)]
 have hp : 2 ^ i < 4294967296 := by rw [show (4294967296 : Nat) = 2 ^ 32 from rfl]; exact Nat.pow_lt_pow_right (by omega) hi
 have hm : min ((i : Int).toNat) IntKind.u32.bits = i := by
  rw [show IntKind.u32.bits = 32 from rfl]
  omega
 rw [hm, IntKind.wrap_u32']
 congr 1
 have : (1 : Int) * 2 ^ i = ((2 ^ i : Nat) : Int) := by simp
 rw [this]
 generalize 2 ^ i = p at *
 omega
theorem pow_u32 {i : Nat} (hi : i < 32) : 2 ^ i < 4294967296 := by rw [show (4294967296 : Nat) = 2 ^ 32 from rfl]; exact Nat.pow_lt_pow_right (by omega) hi
theorem or_u32 {a b : Nat} (ha : a < 4294967296) (hb : b < 4294967296) : a ||| b < 4294967296 := Nat.or_lt_two_pow (n := 32) ha hb
theorem and_u32 {a b : Nat} (ha : a < 4294967296) : a &&& b < 4294967296 := Nat.lt_of_le_of_lt Nat.and_le_left ha
theorem strike_bit (a i j : Nat) (ha : a < 4294967296) (hi : i < 32) : (a &&& (4294967295 - 2 ^ i)).testBit j = (a.testBit j && decide (i ≠ j)) := by
 have e : 4294967295 - 2 ^ i = 2 ^ 32 - (2 ^ i + 1) := by omega
 rw [Nat.testBit_and, e, Nat.testBit_two_pow_sub_succ (pow_u32 hi), Nat.testBit_two_pow]
 by_cases hj : j < 32
 ·simp [hj]
 ·have : a.testBit j = false := Nat.testBit_lt_two_pow (Nat.lt_of_lt_of_le ha (by rw [show (4294967296 : Nat) = 2 ^ 32 from rfl]; exact Nat.pow_le_pow_right (by omega) (by omega)))
  rw [this]; simp
def ad (g : List Nat) (i j : Nat) : Bool := (g.getD i 0).testBit j
/-- A table of neighbours that a valid graph has. -/
structure Gr (g : List Nat) : Prop where
  le : g.length ≤ 31
  sz : ∀ i, g.getD i 0 < 2 ^ g.length
  sym : ∀ i j, ad g i j = ad g j i
  irr : ∀ i, ad g i i = false
theorem Gr.u32 {g : List Nat} (h : Gr g) (i : Nat) : g.getD i 0 < 4294967296 := Nat.lt_trans (h.sz i) (pow_u32 (by have := h.le; omega))
theorem Gr.lt {g : List Nat} (h : Gr g) {i j : Nat} (hij : ad g i j = true) : j < g.length := by
 apply Classical.byContradiction
 intro hj
 unfold ad at hij
 rw [Nat.testBit_lt_two_pow (Nat.lt_of_lt_of_le (h.sz i) (Nat.pow_le_pow_right (by omega) (by omega)))] at hij
 cases hij
theorem nd_le {x y : Nat} (h : ∀ j, x.testBit j = true → y.testBit j = true) : (nd x).length ≤ (nd y).length := by
 unfold nd
 rw [← List.countP_eq_length_filter, ← List.countP_eq_length_filter]
 exact List.countP_mono_left fun j _ hj => h j hj
theorem nd_nil {x : Nat} (hx : x < 4294967296) (h : nd x = []) : x = 0 := zero_of fun j => by
 cases hj : x.testBit j
 ·rfl
 ·have := (mem_nd hx).2 hj; rw [h] at this; cases this
theorem cl_step (k : Nat) (g : List Nat) (G : Gr g) (a m nt i idx : Nat) (acc full : List Nat) (hf : full.length ≤ 32) (hidx : idx < full.length) (hfi : full.getD idx 0 = i) (hig : i < g.length) (ha : a < 4294967296) (hm : m < 4294967296) (hn : nt < 4294967296) :
  rib_graph_cliques.l0 (k + 1) (il g) a m nt (il acc) (il full) ((full.length : Nat) : Int) (idx : Int) = (rib_graph_cliques.f k (il g) ((a ||| 2 ^ i : Nat) : Int) ((m &&& g.getD i 0 : Nat) : Int) ((nt &&& g.getD i 0 : Nat) : Int)).bind fun t149 => if (il acc).length + t149.length < 35184372088832 then rib_graph_cliques.l0 k (il g) a ((m &&& (4294967295 - 2 ^ i) : Nat) : Int) ((nt ||| 2 ^ i : Nat) : Int) (il acc ++ t149) (il full) ((full.length : Nat) : Int) ((idx + 1 : Nat) : Int) else none := by
 have hi32 : i < 32 := by have := G.le; omega
 have hw : wrap64 ((idx : Int) + 1) = ((idx + 1 : Nat) : Int) := by unfold wrap64; omega
 have r0 : rd (il full) (idx : Int) = (i : Int) := by rw [il_rd _ _ hidx, hfi]
 have rg : rd (il g) (i : Int) = ((g.getD i 0 : Nat) : Int) := il_rd _ _ hig
 have hgu := G.u32 i
 have hp := pow_u32 hi32
 have h1 := one_nat i hi32
 have c1 : ((idx : Nat) : Int) < ((full.length : Nat) : Int) := by omega
 have c2 : (0 : Int) ≤ (idx : Int) := by omega
 have c3 : (0 : Int) ≤ (i : Int) := by omega
 have c4 : (i : Int) < ((g.length : Nat) : Int) := by omega
 simp only [rib_graph_cliques.l0]
 rw [if_pos c1, if_pos c2, il_len full, if_pos c1, r0, h1]
 simp only [Option.bind_some]
 rw [if_pos c3, il_len g, if_pos c4, rg, u32_or_nat _ _ ha hp, u32_and_nat _ _ hm hgu, u32_and_nat _ _ hn hgu, u32_andNot_nat _ _ hm hp, u32_or_nat _ _ hn hp, hw]
theorem cliques_ev (g : List Nat) (G : Gr g) : ∀ (d a m nt : Nat), (nd m).length < d → a < 4294967296 → m < 4294967296 → nt < 4294967296 → (∀ j, m.testBit j = true → j < g.length) → (∀ j, a.testBit j = true → m.testBit j = false) →
    ∃ r : List Nat, Ev (fun k => rib_graph_cliques.f k (il g) a m nt) (il r) ∧ CFound (ad g) a m nt false r ∧ r.length ≤ 2 ^ (nd m).length ∧ ∀ x ∈ r, x < 4294967296 := by
  intro d
  induction d with
  | zero => intro a m nt h; omega
  | succ d ih =>
    intro a m nt hd ha hm hn hg hdis
    -- the loop over the nodes that are left
    have loop : ∀ (is : List Nat) (a m nt : Nat) (acc : List Nat) (full : List Nat) (idx : Nat), nd m = is → full.drop idx = is → full.length ≤ 32 → is.length ≤ d → acc.length + 2 ^ is.length ≤ 2 ^ 40 → a < 4294967296 → m < 4294967296 → nt < 4294967296 → (∀ j, m.testBit j = true → j < g.length) → (∀ j, a.testBit j = true → m.testBit j = false) →
        ∃ r : List Nat, Ev (fun k => rib_graph_cliques.l0 k (il g) a m nt (il acc) (il full) ((full.length : Nat) : Int) (idx : Int)) (il (acc ++ r)) ∧ CFound (ad g) a m nt true r ∧ r.length + 1 ≤ 2 ^ is.length ∧ ∀ x ∈ r, x < 4294967296 := by
      intro is
      induction is with
      | nil =>
        intro a m nt acc full idx h1 h2 hf _ _ ha hm hn hg hdis
        refine ⟨[], ?_, CFound.nil (nd_nil hm h1), by simp, by simp⟩
        have hidx : full.length ≤ idx := List.drop_eq_nil_iff.1 h2
        refine ⟨1, fun k hk => ?_⟩
        obtain ⟨k, rfl⟩ : ∃ j, k = j + 1 := ⟨k - 1, by omega⟩
        simp only [rib_graph_cliques.l0]
        rw [if_neg (by omega)]; simp
      | cons i is ihl =>
        intro a m nt acc full idx h1 h2 hf hlen hacc ha hm hn hg hdis
        have hidx : idx < full.length := by
          apply Classical.byContradiction
          intro h
          rw [List.drop_eq_nil_of_le (by omega)] at h2; cases h2
        have hfi : full.getD idx 0 = i := by
          have := List.drop_eq_getElem_cons hidx
          rw [h2] at this
          rw [show full.getD idx 0 = full[idx] by simp [hidx]]
          exact (List.cons.inj this).1.symm
        have hft : full.drop (idx + 1) = is := by
          have := List.drop_eq_getElem_cons hidx
          rw [h2] at this
          exact (List.cons.inj this).2.symm
        have hmi : m.testBit i = true := (mem_nd hm).1 (by rw [h1]; simp)
        have hig : i < g.length := hg i hmi
        have hi32 : i < 32 := by have := G.le; omega
        have hp2 : 2 ^ (i :: is).length = 2 ^ is.length + 2 ^ is.length := by rw [List.length_cons, Nat.pow_succ]; omega
        have hpp : 1 ≤ 2 ^ is.length := Nat.pos_of_ne_zero (by simp)
        have eA : ∀ j, (a ||| 2 ^ i).testBit j = (a.testBit j || decide (i = j)) := fun j => by rw [Nat.testBit_or, Nat.testBit_two_pow]
        have eN : ∀ j, (nt ||| 2 ^ i).testBit j = (nt.testBit j || decide (i = j)) := fun j => by rw [Nat.testBit_or, Nat.testBit_two_pow]
        have eM1 : ∀ j, (m &&& g.getD i 0).testBit j = (m.testBit j && ad g i j) := fun j => by rw [Nat.testBit_and]; rfl
        have eN1 : ∀ j, (nt &&& g.getD i 0).testBit j = (nt.testBit j && ad g i j) := fun j => by rw [Nat.testBit_and]; rfl
        have eM2 : ∀ j, (m &&& (4294967295 - 2 ^ i)).testBit j = (m.testBit j && decide (i ≠ j)) := fun j => strike_bit m i j hm hi32
        have hnd2 : nd (m &&& (4294967295 - 2 ^ i)) = is := nd_tail h1 eM2
        have hnd1 : (nd (m &&& g.getD i 0)).length ≤ is.length := by
          rw [← hnd2]
          refine nd_le fun j hj => ?_
          rw [eM1] at hj
          rw [eM2]
          simp only [Bool.and_eq_true] at hj
          have : i ≠ j := fun e => by rw [← e, G.irr] at hj; cases hj.2
          simp [hj.1, this]
        obtain ⟨r1, ev1, f1, l1, b1⟩ := ih (a ||| 2 ^ i) (m &&& g.getD i 0) (nt &&& g.getD i 0) (by simp at hlen; omega) (or_u32 ha (pow_u32 hi32)) (and_u32 hm) (and_u32 hn)
          (fun j hj => hg j (by rw [eM1] at hj; simp at hj; exact hj.1))
          (fun j hj => by
            rw [eM1]
            rw [eA] at hj
            by_cases e : i = j
            · subst e; rw [G.irr]; simp
            · simp [e] at hj; rw [hdis j hj]; rfl)
        have hl1 : r1.length ≤ 2 ^ is.length := Nat.le_trans l1 (Nat.pow_le_pow_right (by omega) hnd1)
        obtain ⟨r2, ev2, f2, l2, b2⟩ := ihl a (m &&& (4294967295 - 2 ^ i)) (nt ||| 2 ^ i) (acc ++ r1) full (idx + 1) hnd2 hft hf (by simp at hlen; omega) (by rw [List.length_append]; omega) ha (and_u32 hm) (or_u32 hn (pow_u32 hi32))
          (fun j hj => hg j (by rw [eM2] at hj; simp at hj; exact hj.1))
          (fun j hj => by rw [eM2, hdis j hj]; rfl)
        refine ⟨r1 ++ r2, ?_, CFound.cons G.sym G.irr hmi hdis eA eM1 eN1 eM2 eN f1 f2, by rw [List.length_append]; omega, fun x hx => by rcases List.mem_append.1 hx with h | h <;> first | exact b1 x h | exact b2 x h⟩
        rw [← List.append_assoc]
        refine Ev.step (f := fun k => (rib_graph_cliques.f k (il g) ((a ||| 2 ^ i : Nat) : Int) ((m &&& g.getD i 0 : Nat) : Int) ((nt &&& g.getD i 0 : Nat) : Int)).bind fun t149 => if (il acc).length + t149.length < 35184372088832 then rib_graph_cliques.l0 k (il g) a ((m &&& (4294967295 - 2 ^ i) : Nat) : Int) ((nt ||| 2 ^ i : Nat) : Int) (il acc ++ t149) (il full) ((full.length : Nat) : Int) ((idx + 1 : Nat) : Int) else none) (fun k => cl_step k g G a m nt i idx acc full hf hidx hfi hig ha hm hn) ?_
        · refine Ev.bind (f := fun k t149 => if (il acc).length + t149.length < 35184372088832 then rib_graph_cliques.l0 k (il g) a ((m &&& (4294967295 - 2 ^ i) : Nat) : Int) ((nt ||| 2 ^ i : Nat) : Int) (il acc ++ t149) (il full) ((full.length : Nat) : Int) ((idx + 1 : Nat) : Int) else none) ev1 ?_
          rw [il_len, il_len]
          have hb : acc.length + r1.length < 35184372088832 := by omega
          refine Ev.congr (fun k => if_pos hb) ?_
          rw [← il_app]
          exact ev2
    by_cases h0 : m = 0 ∧ nt = 0
    · obtain ⟨rfl, rfl⟩ := h0
      refine ⟨[a], ⟨2, fun k hk => ?_⟩, CFound.one ⟨rfl, rfl⟩, Nat.pos_of_ne_zero (by simp), by simpa using ha⟩
      obtain ⟨k, rfl⟩ : ∃ j, k = j + 2 := ⟨k - 2, by omega⟩
      simp [rib_graph_cliques.f, rib_graph_cliques.j0, il]
    · obtain ⟨r, ev, f, l, b⟩ := loop (nd m) a m nt [] (nd m) 0 rfl rfl (by unfold nd; exact Nat.le_trans (List.length_filter_le _ _) (by simp)) (by omega) (by
          have : (nd m).length ≤ 32 := by unfold nd; exact Nat.le_trans (List.length_filter_le _ _) (by simp)
          have h2 : 2 ^ (nd m).length ≤ 2 ^ 32 := Nat.pow_le_pow_right (by omega) this
          simp only [List.length_nil]; omega) ha hm hn hg hdis
      refine ⟨r, ?_, f.all h0, by omega, b⟩
      obtain ⟨K, hK⟩ := ev
      refine ⟨K + 40, fun k hk => ?_⟩
      obtain ⟨k, rfl⟩ : ∃ j, k = j + 2 := ⟨k - 2, by omega⟩
      have hj : ∀ b, b = false → rib_graph_cliques.j0 (k + 1) (il g) a m nt b = some (il r) := by
        rintro b rfl
        simp only [rib_graph_cliques.j0]
        rw [if_neg (by simp), list_f _ _ (by omega), Option.bind_some, nodes_nat _ hm, il_len]
        have := hK k (by omega)
        simpa [il] using this
      simp only [rib_graph_cliques.f]
      by_cases hm0 : (m : Int) = 0
      · rw [if_pos hm0]
        refine hj _ ?_
        have : m = 0 := by omega
        have : nt ≠ 0 := fun e => h0 ⟨this, e⟩
        simp; omega
      · rw [if_neg hm0]
        exact hj _ rfl
end Go.Proofs.Ytdpolfflemocaaa.Own

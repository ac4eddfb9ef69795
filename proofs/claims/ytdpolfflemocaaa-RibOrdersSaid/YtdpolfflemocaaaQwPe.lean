/- The declarations of Pe that the claim Qw needs. -/
import Derived.Test.YtdpolfflemocaaaQwPd
import Derived.Test.YtdpolfflemocaaaQwRxx8
import Derived.Laws.BitsLemmas
namespace Go.Proofs.Ytdpolfflemocaaa.Pure
open Go Go.RowKit Go.Proofs.YtdpolfflemocaaaW.PrintWords Go.Proofs.YtdpolfflemocaaaW.PrintLast Go.Proofs.YtdpolfflemocaaaW.PrintMore Go.Proofs.Ytdpolfflemocaaa.Cl Go.Proofs.Ytdpolfflemocaaa.Own Go.Proofs.Ytdpolfflemocaaa.Rx
set_option linter.unusedVariables false
set_option linter.unusedSimpArgs false
open Classical
theorem i64_and1 (n : Int) : bits .and .i64 n 1 = n % 2 := by
 have h1 : (BitVec.ofInt 64 1).toNat = 2 ^ 1 - 1 := by decide
 have key : (BitVec.ofInt 64 n &&& BitVec.ofInt 64 1).toNat = (n % ((2 ^ 64 : Nat) : Int)).toNat % 2 ^ 1 := by
  rw [BitVec.toNat_and, BitVec.toNat_ofInt, h1, Nat.and_two_pow_sub_one_eq_mod]
 show IntKind.i64.wrap ((BitVec.ofInt 64 n &&& BitVec.ofInt 64 1).toNat : Nat) = n % 2
 rw [key, IntKind.wrap_i64]
 omega
theorem bit_i64 (s i : Nat) (hi : i < 64) : bits .and .i64 (shr .i64 (s : Int) (i : Int)) 1 = if s.testBit i = true then 1 else 0 := by
 have e : shr .i64 (s : Int) (i : Int) = ((s / 2 ^ i : Nat) : Int) := by
  unfold shr
  have hb : IntKind.i64.bits = 64 := rfl
  rw [hb, Int.toNat_natCast, Nat.min_eq_left (by omega)]
  simp
 rw [i64_and1, e, Nat.testBit_eq_decide_div_mod_eq]
 generalize s / 2 ^ i = q
 by_cases h : q % 2 = 1
 ·simp [h]; omega
 ·simp [h]; omega
/-- The nodes of a set from i on, below n. -/
theorem bits_ev (s n : Nat) (hs : s < 2 ^ n) (hn : n ≤ 31) : Ev (fun k => gampref04_bits.f k (s : Int) (n : Int)) (il (nd s)) := by
 have main : ∀ (d i : Nat) (acc : List Nat), i + d = n → acc.length ≤ i → Ev (fun k => gampref04_bits.l0 k (s : Int) (n : Int) (il acc) (i : Int)) (il (acc ++ ((List.range d).map (i + ·)).filter (s.testBit ·))) := by
  intro d
  induction d with
  | zero =>
   intro i acc hi ha
   refine Ev.step (f := fun _ => some (il acc)) (fun k => ?_) (by simpa using Ev.now _)
   simp only [gampref04_bits.l0]
   rw [if_neg (by omega)]
  | succ d ih =>
   intro i acc hi ha
   have e : (List.range (d + 1)).map (i + ·) = i :: (List.range d).map (i + 1 + ·) := by
    rw [List.range_succ_eq_map, List.map_cons, List.map_map]
    congr 1
    apply List.map_congr_left
    intro j _
    simp only [Function.comp, Nat.succ_eq_add_one]
    omega
   rw [e]
   by_cases hb : s.testBit i = true
   ·rw [List.filter_cons_of_pos hb, show acc ++ i :: ((List.range d).map (i + 1 + ·)).filter (s.testBit ·) = (acc ++ [i]) ++ ((List.range d).map (i + 1 + ·)).filter (s.testBit ·) by simp]
    refine Ev.step (fun k => ?_) (ih (i + 1) (acc ++ [i]) (by omega) (by rw [List.length_append]; simp; omega))
    simp only [gampref04_bits.l0]
    rw [if_pos (by omega), if_pos (by omega), bit_i64 s i (by omega), if_pos hb, if_pos rfl, il_len, if_pos (by omega), wrap_up i (by omega), il_app]
    rfl
   ·rw [List.filter_cons_of_neg hb]
    refine Ev.step (fun k => ?_) (ih (i + 1) acc (by omega) (by omega))
    simp only [gampref04_bits.l0]
    rw [if_pos (by omega), if_pos (by omega), bit_i64 s i (by omega), if_neg hb, if_neg (by decide), wrap_up i (by omega)]
 have h := main n 0 [] (by omega) (by simp)
 have e : ((List.range n).map (0 + ·)).filter (s.testBit ·) = nd s := by
  unfold nd
  have e1 : (List.range n).map (0 + ·) = List.range n := by simp
  rw [e1, show (32 : Nat) = n + (32 - n) by omega, List.range_add, List.filter_append]
  rw [show ((List.range (32 - n)).map (n + ·)).filter (s.testBit ·) = [] from ?_, List.append_nil]
  apply List.filter_eq_nil_iff.2
  intro a ha
  obtain ⟨j, _, rfl⟩ := List.mem_map.1 ha
  rw [Nat.testBit_lt_two_pow (Nat.lt_of_lt_of_le hs (Nat.pow_le_pow_right (by omega) (by omega)))]
  simp
 rw [e, List.nil_append] at h
 exact h
theorem less_ev (a b : List Int) (ha : a.length < 2 ^ 50) (hb : b.length < 2 ^ 50) : Ev (fun k => gampref04_less.f k a b) (decide (cmpL a b < 0)) := by
 have main : ∀ (d i : Nat), i + d = a.length → i ≤ b.length → Ev (fun k => gampref04_less.l0 k a b (i : Int)) (if a.drop i ≠ [] ∧ b.drop i ≠ [] ∨ True then decide (cmpL (a.drop i) (b.drop i) < 0) else false) := by
  intro d
  induction d with
  | zero =>
   intro i hi hb2
   rw [if_pos (Or.inr trivial), List.drop_eq_nil_of_le (by omega : a.length ≤ i)]
   have e1 : ∀ k, gampref04_less.l0 (k + 1) a b (i : Int) = gampref04_less.j1 k a b i false := fun k => by
    simp only [gampref04_less.l0]
    rw [if_neg (by omega)]
   refine Ev.step e1 ?_
   refine Ev.step (f := fun _ => some (decide ((a.length : Int) < (b.length : Int)))) (fun k => by simp [gampref04_less.j1]) ?_
   have : decide ((a.length : Int) < (b.length : Int)) = decide (cmpL [] (b.drop i) < 0) := by
    by_cases h : b.length ≤ i
    ·rw [List.drop_eq_nil_of_le h]
     simp [cmpL]; omega
    ·rw [List.drop_eq_getElem_cons (by omega : i < b.length)]
     simp [cmpL]; omega
   rw [this]
   exact Ev.now _
  | succ d ih =>
   intro i hi hb2
   have hia : i < a.length := by omega
   rw [if_pos (Or.inr trivial), List.drop_eq_getElem_cons hia]
   have e1 : ∀ k, gampref04_less.l0 (k + 1) a b (i : Int) = gampref04_less.j1 k a b i (decide ((i : Int) < (b.length : Int))) := fun k => by
    simp only [gampref04_less.l0]
    rw [if_pos (by omega)]
   refine Ev.step e1 ?_
   by_cases hib : i < b.length
   ·rw [decide_eq_true (show (i : Int) < (b.length : Int) by omega), List.drop_eq_getElem_cons hib]
    have r0 : rd a (i : Int) = a[i] := by simp [rd, hia]
    have r1 : rd b (i : Int) = b[i] := by simp [rd, hib]
    have e2 : ∀ k, gampref04_less.j1 (k + 1) a b (i : Int) true = if a[i] = b[i] then gampref04_less.l0 k a b ((i + 1 : Nat) : Int) else some (decide (a[i] < b[i])) := fun k => by
     simp only [gampref04_less.j1]
     rw [if_pos trivial, if_pos (by omega), if_pos (by omega), if_pos (by omega), r0, r1, wrap_up i (by omega)]
    by_cases he : a[i] = b[i]
    ·refine Ev.step (fun k => by rw [e2, if_pos he]) ?_
     have := ih (i + 1) (by omega) (by omega)
     rw [if_pos (Or.inr trivial)] at this
     rw [show cmpL (a[i] :: a.drop (i + 1)) (b[i] :: b.drop (i + 1)) = cmpL (a.drop (i + 1)) (b.drop (i + 1)) by rw [cmpL, if_neg (by omega), if_neg (by omega)]]
     exact this
    ·refine Ev.step (f := fun _ => some (decide (a[i] < b[i]))) (fun k => by rw [e2, if_neg he]) ?_
     have : decide (a[i] < b[i]) = decide (cmpL (a[i] :: a.drop (i + 1)) (b[i] :: b.drop (i + 1)) < 0) := by
      apply decide_eq_decide.2
      rw [cmpL]
      by_cases h : a[i] < b[i]
      ·simp [h]
      ·rw [if_neg h, if_pos (by omega)]; simp [h]
     rw [this]; exact Ev.now _
   ·rw [decide_eq_false (show ¬ (i : Int) < (b.length : Int) by omega), List.drop_eq_nil_of_le (by omega : b.length ≤ i)]
    refine Ev.step (f := fun _ => some (decide ((a.length : Int) < (b.length : Int)))) (fun k => by simp [gampref04_less.j1]) ?_
    rw [decide_eq_false (by omega), show decide (cmpL (a[i] :: a.drop (i + 1)) [] < 0) = false by simp [cmpL]]
    exact Ev.now _
 have h := main a.length 0 (by omega) (by omega)
 rw [if_pos (Or.inr trivial)] at h
 exact h
def ltL (a b : List Int) : Prop := cmpL a b < 0
theorem ltL_irr (a : List Int) : ¬ ltL a a := by unfold ltL; rw [cmpL_self]; omega
theorem ltL_trans {a b c : List Int} (h1 : ltL a b) (h2 : ltL b c) : ltL a c := (cmpL_trans a b c (by unfold ltL at h1; omega) (by unfold ltL at h2; omega)).2 (Or.inl h1)
theorem ltL_tot {a b : List Int} (h1 : ¬ ltL a b) (h2 : a ≠ b) : ltL b a := by
 unfold ltL at *
 have := cmpL_anti a b
 have h3 : cmpL a b ≠ 0 := fun e => h2 (cmpL_zero a b e)
 omega
theorem sorted_eq : ∀ {l s : List (List Int)}, l.Pairwise ltL → s.Pairwise ltL → (∀ x, x ∈ l ↔ x ∈ s) → l = s
 | [], [], _, _, _ => rfl
 | [], b :: s, _, _, h => by have := (h b).2 (by simp); cases this
 | a :: l, [], _, _, h => by have := (h a).1 (by simp); cases this
 | a :: l, b :: s, h1, h2, h => by
  rw [List.pairwise_cons] at h1 h2
  have hab : a = b := by
   rcases List.mem_cons.1 ((h a).1 (by simp)) with e | e
   ·exact e
   ·rcases List.mem_cons.1 ((h b).2 (by simp)) with f | f
    ·exact f.symm
    ·exact absurd (ltL_trans (h1.1 b f) (h2.1 a e)) (ltL_irr a)
  subst hab
  rw [sorted_eq h1.2 h2.2 fun x => ?_]
  constructor
  ·intro hx
   rcases List.mem_cons.1 ((h x).1 (List.mem_cons_of_mem _ hx)) with e | e
   ·subst e; exact absurd (h1.1 x hx) (ltL_irr x)
   ·exact e
  ·intro hx
   rcases List.mem_cons.1 ((h x).2 (List.mem_cons_of_mem _ hx)) with e | e
   ·subst e; exact absurd (h2.1 x hx) (ltL_irr x)
   ·exact e
def insL (l : List Int) : List (List Int) → List (List Int)
  | [] => [l]
  | o :: os => if cmpL o l < 0 then o :: insL l os else l :: o :: os
theorem mem_insL {l x : List Int} : ∀ {out : List (List Int)}, x ∈ insL l out ↔ x = l ∨ x ∈ out
 | [] => by simp [insL]
 | o :: os => by
  unfold insL
  split
  ·rw [List.mem_cons, mem_insL, List.mem_cons]
   constructor
   ·rintro (h | h | h) <;> simp [h]
   ·rintro (h | h | h) <;> simp [h]
  ·rw [List.mem_cons]
theorem insL_sorted {l : List Int} : ∀ {out : List (List Int)}, out.Pairwise ltL → l ∉ out → (insL l out).Pairwise ltL
 | [], _, _ => by simp [insL]
 | o :: os, h, hl => by
  rw [List.pairwise_cons] at h
  unfold insL
  split
  ·rename_i hc
   rw [List.pairwise_cons]
   refine ⟨fun x hx => ?_, insL_sorted h.2 fun hh => hl (List.mem_cons_of_mem _ hh)⟩
   rcases mem_insL.1 hx with e | e
   ·subst e; exact hc
   ·exact h.1 x e
  ·rename_i hc
   have h1 : ltL l o := ltL_tot hc fun e => hl (by simp [e])
   rw [List.pairwise_cons, List.pairwise_cons]
   refine ⟨fun x hx => ?_, h.1, h.2⟩
   rcases List.mem_cons.1 hx with e | e
   ·subst e; exact h1
   ·exact ltL_trans h1 (h.1 x e)
theorem insL_len (l : List Int) : ∀ out : List (List Int), (insL l out).length = out.length + 1
 | [] => rfl
 | o :: os => by
  unfold insL
  split
  ·simp [insL_len l os]
  ·simp
theorem insL_at (l : List Int) : ∀ (out : List (List Int)) (x : Nat), x ≤ out.length → (∀ y, y < x → cmpL (out.getD y []) l < 0) → (x < out.length → ¬ cmpL (out.getD x []) l < 0) → out.take x ++ [l] ++ out.drop x = insL l out
 | [], x, hx, _, _ => by simp [insL]
 | o :: os, 0, _, _, h => by
  unfold insL
  rw [if_neg (by simpa using h (by simp))]
  rfl
 | o :: os, x + 1, hx, h1, h2 => by
  unfold insL
  rw [if_pos (by simpa using h1 0 (by omega))]
  rw [← insL_at l os x (by simpa using hx) (fun y hy => by simpa using h1 (y + 1) (by omega)) (fun hh => by simpa using h2 (by simpa using hh))]
  simp
def adjE (es : List S52) (i j : Nat) : Bool := nr es i j
theorem adjE_symm (es : List S52) (i j : Nat) : adjE es i j = adjE es j i := nr_symm es i j
theorem adjE_irr (es : List S52) (i : Nat) : adjE es i i = false := nr_self es i
theorem allPr_iff (es : List S52) (l : List Nat) (hl : l.Nodup) : AllPr (nr es) (il l) ↔ ∀ i j, i ∈ l → j ∈ l → i ≠ j → adjE es i j = true := by
 unfold AllPr
 rw [il_len]
 constructor
 ·intro h i j hi hj hij
  obtain ⟨a, ha, rfl⟩ := List.getElem_of_mem hi
  obtain ⟨b, hb, rfl⟩ := List.getElem_of_mem hj
  have r0 : rd (il l) (a : Int) = (l[a] : Int) := by rw [il_rd _ _ ha]; simp [ha]
  have r1 : rd (il l) (b : Int) = (l[b] : Int) := by rw [il_rd _ _ hb]; simp [hb]
  rcases Nat.lt_trichotomy a b with hab | hab | hab
  ·have := h b a hab hb
   rw [r0, r1] at this
   rw [adjE_symm]; exact this
  ·subst hab; exact absurd rfl hij
  ·have := h a b hab ha
   rw [r0, r1] at this
   exact this
 ·intro h a b hba ha
  have hb : b < l.length := by omega
  have r0 : rd (il l) (a : Int) = (l[a] : Int) := by rw [il_rd _ _ ha]; simp [ha]
  have r1 : rd (il l) (b : Int) = (l[b] : Int) := by rw [il_rd _ _ hb]; simp [hb]
  rw [r0, r1]
  refine h _ _ (List.getElem_mem _) (List.getElem_mem _) fun e => ?_
  have := (List.getElem_inj hl).1 e
  omega
/-- A set of nodes below n that is a maximal clique. -/
def MaxCl (es : List S52) (n t : Nat) : Prop := t < 2 ^ n ∧ (∀ i j, t.testBit i = true → t.testBit j = true → i ≠ j → adjE es i j = true) ∧ ∀ j, j < n → t.testBit j = false → ∃ i, t.testBit i = true ∧ adjE es i j = false
theorem pow_u32' {n : Nat} (hn : n ≤ 31) : 2 ^ n < 4294967296 := pow_u32 (by omega)
theorem cl_l2 (n : Nat) (es : List S52) (out : List (List Int)) (s : Nat) (l : List Int) (hl : l.length < 2 ^ 40) (ho : ∀ x ∈ out, x.length < 2 ^ 40) (hlen : out.length < 2 ^ 30) (hs : s < 2 ^ 40) (R : List (List Int)) (hR : Ev (fun k => gampref04_Cliques.l0 k (n : Int) es (insL l out) ((s + 1 : Nat) : Int)) R) :
    ∀ (d x : Nat), x + d = out.length → (∀ y, y < x → cmpL (out.getD y []) l < 0) → Ev (fun k => gampref04_Cliques.l2 k (n : Int) es out (s : Int) l (x : Int)) R := by
  have fin : ∀ x, x ≤ out.length → (∀ y, y < x → cmpL (out.getD y []) l < 0) → (x < out.length → ¬ cmpL (out.getD x []) l < 0) → ∀ k, (fun y202 : List (List Int) => if (x : Int) ≤ (out.length : Int) then ((some (out.take (x : Int).toNat)).bind fun y205 => (if y202.length + y205.length < 5864062014805 then ((some (y202 ++ y205)).bind fun y210 => (if y210.length < 5864062014805 then ((some (y210 ++ [l])).bind fun y213 => ((some (out.drop (x : Int).toNat)).bind fun y216 => (if y213.length + y216.length < 5864062014805 then (gampref04_Cliques.l0 k (n : Int) es (y213 ++ y216) (wrap64 ((s : Int) + 1))) else (none)))) else (none))) else (none))) else none) [] = gampref04_Cliques.l0 k (n : Int) es (insL l out) ((s + 1 : Nat) : Int) := by
    intro x hx h1 h2 k
    have e := insL_at l out x hx h1 h2
    simp only [Option.bind_some, List.nil_append, Int.toNat_natCast, List.length_nil, List.length_append, List.length_take, List.length_drop, List.length_cons]
    rw [if_pos (by omega), if_pos (by omega), if_pos (by omega), if_pos (by omega), e, wrap_up s (by omega)]
  intro d
  induction d with
  | zero =>
    intro x hx h1
    refine Ev.step (fun k => ?_) hR
    have := fin x (by omega) h1 (fun h => by omega) k
    rw [← this]
    simp only [gampref04_Cliques.l2]
    rw [if_neg (by omega)]
    simp only [Option.bind_some]
    rw [if_pos (by omega)]
  | succ d ih =>
    intro x hx h1
    have hlt : x < out.length := by omega
    have hrd : rd_L2 out (x : Int) = out.getD x [] := by simp [rd_L2]
    have hmem : (out.getD x []).length < 2 ^ 40 := ho _ (by rw [show out.getD x [] = out[x] by simp [hlt]]; exact List.getElem_mem _)
    have ev := less_ev (out.getD x []) l (by omega) (by omega)
    by_cases hc : cmpL (out.getD x []) l < 0
    · have ih2 := ih (x + 1) (by omega) (fun y hy => by
        by_cases e : y = x
        · subst e; exact hc
        · exact h1 y (by omega))
      rw [decide_eq_true hc] at ev
      obtain ⟨K1, hK1⟩ := ev
      obtain ⟨K2, hK2⟩ := ih2
      refine ⟨K1 + K2 + 1, fun k hk => ?_⟩
      obtain ⟨k, rfl⟩ : ∃ j, k = j + 1 := ⟨k - 1, by omega⟩
      have a1 := hK1 k (by omega)
      have a2 := hK2 k (by omega)
      dsimp only at a1 a2
      simp only [gampref04_Cliques.l2]
      rw [if_pos (by omega), if_pos (by omega), hrd, a1, Option.bind_some, if_pos rfl, wrap_up x (by omega), a2]
    · rw [decide_eq_false hc] at ev
      have hf := fin x (by omega) h1 (fun _ => hc)
      obtain ⟨K1, hK1⟩ := ev
      obtain ⟨K2, hK2⟩ := hR
      refine ⟨K1 + K2 + 1, fun k hk => ?_⟩
      obtain ⟨k, rfl⟩ : ∃ j, k = j + 1 := ⟨k - 1, by omega⟩
      have a1 := hK1 k (by omega)
      have a2 := hK2 k (by omega)
      have a3 := hf k
      dsimp only at a1 a2 a3
      simp only [gampref04_Cliques.l2]
      rw [if_pos (by omega), if_pos (by omega), hrd, a1, Option.bind_some, if_neg (by simp), ← a2, ← a3, Option.bind_some]
theorem cl_l1 (n : Nat) (hn : n ≤ 31) (es : List S52) (hes : es.length < 2 ^ 50) (out : List (List Int)) (s : Nat) (hs : s < 2 ^ n) (R : List (List Int))
    (hR1 : (∀ j, j < n → s.testBit j = false → ¬ AllPr (nr es) (il (nd s ++ [j]))) → Ev (fun k => gampref04_Cliques.l2 k (n : Int) es out (s : Int) (il (nd s)) 0) R)
    (hR0 : ¬ (∀ j, j < n → s.testBit j = false → ¬ AllPr (nr es) (il (nd s ++ [j]))) → Ev (fun k => gampref04_Cliques.l0 k (n : Int) es out ((s + 1 : Nat) : Int)) R) :
    ∀ (d i : Nat) (w : Bool), i + d = n → (w = true ↔ ∀ j, j < i → s.testBit j = false → ¬ AllPr (nr es) (il (nd s ++ [j]))) → Ev (fun k => gampref04_Cliques.l1 k (n : Int) es out (s : Int) (il (nd s)) w (i : Int)) R := by
  have hs40 : s < 2 ^ 31 := Nat.lt_of_lt_of_le hs (Nat.pow_le_pow_right (by omega) hn)
  -- where the search ends
  have fin : ∀ (i : Nat) (w : Bool), (w = true ↔ ∀ j, j < n → s.testBit j = false → ¬ AllPr (nr es) (il (nd s ++ [j]))) → Ev (fun k => gampref04_Cliques.j2 k (n : Int) es out (s : Int) (il (nd s)) w (i : Int) false) R := by
    intro i w hw
    cases w
    · refine Ev.step (fun k => ?_) (hR0 fun h => by have := hw.2 h; cases this)
      simp only [gampref04_Cliques.j2]
      rw [if_neg (by simp), if_neg (by simp), wrap_up s (by omega)]
    · refine Ev.step (fun k => ?_) (hR1 (hw.1 rfl))
      simp only [gampref04_Cliques.j2]
      rw [if_neg (by simp), if_pos trivial]
  have len : (nd s).length ≤ 32 := by unfold nd; exact Nat.le_trans (List.length_filter_le _ _) (by simp)
  intro d
  induction d with
  | zero =>
    intro i w hi hw
    obtain rfl : i = n := by omega
    refine Ev.step (fun k => ?_) (fin i w hw)
    simp only [gampref04_Cliques.l1]
    rw [if_neg (by omega)]
  | succ d ih =>
    intro i w hi hw
    have e1 : ∀ k, gampref04_Cliques.l1 (k + 1) (n : Int) es out (s : Int) (il (nd s)) w (i : Int) = gampref04_Cliques.j2 k (n : Int) es out (s : Int) (il (nd s)) w (i : Int) w := fun k => by
      simp only [gampref04_Cliques.l1]
      rw [if_pos (by omega)]
    refine Ev.step e1 ?_
    cases w
    · refine fin i false ?_
      constructor
      · intro h; cases h
      · intro h
        exact hw.2 fun j hj => h j (by omega)
    · have hall := hw.1 rfl
      by_cases hb : s.testBit i = true
      · refine Ev.step (fun k => ?_) (ih (i + 1) true (by omega) ⟨fun _ j hj hjb => by
          by_cases e : j = i
          · subst e; rw [hb] at hjb; cases hjb
          · exact hall j (by omega) hjb, fun _ => rfl⟩)
        simp only [gampref04_Cliques.j2]
        rw [if_pos trivial, if_pos (by omega), bit_i64 s i (by omega), if_pos hb, if_neg (by decide), wrap_up i (by omega)]
      · have ev := clique_ev es hes (il (nd s ++ [i])) (by rw [il_len, List.length_append]; simp; omega)
        by_cases hc : AllPr (nr es) (il (nd s ++ [i]))
        · rw [decide_eq_true hc] at ev
          have ih2 := ih (i + 1) false (by omega) ⟨fun h => (by cases h), fun h => absurd hc (h i (by omega) (by simpa using hb))⟩
          obtain ⟨K1, hK1⟩ := ev
          obtain ⟨K2, hK2⟩ := ih2
          refine ⟨K1 + K2 + 1, fun k hk => ?_⟩
          obtain ⟨k, rfl⟩ : ∃ j, k = j + 1 := ⟨k - 1, by omega⟩
          have a1 := hK1 k (by omega)
          have a2 := hK2 k (by omega)
          dsimp only at a1 a2
          simp only [gampref04_Cliques.j2]
          rw [if_pos trivial, if_pos (by omega), bit_i64 s i (by omega), if_neg hb, if_pos rfl]
          simp only [Option.bind_some, List.nil_append, List.length_nil]
          rw [il_len, if_pos (by omega), if_pos (by omega), show il (nd s) ++ [(i : Int)] = il (nd s ++ [i]) by rw [il_app]; rfl, a1, Option.bind_some, if_pos rfl, wrap_up i (by omega), a2]
        · rw [decide_eq_false hc] at ev
          have ih2 := ih (i + 1) true (by omega) ⟨fun _ j hj hjb => by
            by_cases e : j = i
            · subst e; exact hc
            · exact hall j (by omega) hjb, fun _ => rfl⟩
          obtain ⟨K1, hK1⟩ := ev
          obtain ⟨K2, hK2⟩ := ih2
          refine ⟨K1 + K2 + 1, fun k hk => ?_⟩
          obtain ⟨k, rfl⟩ : ∃ j, k = j + 1 := ⟨k - 1, by omega⟩
          have a1 := hK1 k (by omega)
          have a2 := hK2 k (by omega)
          dsimp only at a1 a2
          simp only [gampref04_Cliques.j2]
          rw [if_pos trivial, if_pos (by omega), bit_i64 s i (by omega), if_neg hb, if_pos rfl]
          simp only [Option.bind_some, List.nil_append, List.length_nil]
          rw [il_len, if_pos (by omega), if_pos (by omega), show il (nd s) ++ [(i : Int)] = il (nd s ++ [i]) by rw [il_app]; rfl, a1, Option.bind_some, if_neg (by simp), wrap_up i (by omega), a2]
theorem maxCl_iff (es : List S52) (n s : Nat) (hs : s < 2 ^ n) (hn : n ≤ 31) : MaxCl es n s ↔ AllPr (nr es) (il (nd s)) ∧ ∀ j, j < n → s.testBit j = false → ¬ AllPr (nr es) (il (nd s ++ [j])) := by
 have hs32 : s < 4294967296 := Nat.lt_trans hs (pow_u32' hn)
 have hm : ∀ j, j ∈ nd s ↔ s.testBit j = true := fun j => mem_nd hs32
 rw [allPr_iff es _ (nd_nodup s)]
 have two : ∀ j, s.testBit j = false → (AllPr (nr es) (il (nd s ++ [j])) ↔ (∀ a b, a ∈ nd s → b ∈ nd s → a ≠ b → adjE es a b = true) ∧ ∀ a, a ∈ nd s → adjE es a j = true) := by
  intro j hj
  have hjn : j ∉ nd s := fun h => by rw [(hm j).1 h] at hj; cases hj
  rw [allPr_iff es _ (List.nodup_append.2 ⟨nd_nodup s, by simp, fun a ha b hb e => by simp at hb; subst hb; exact hjn (e ▸ ha)⟩)]
  constructor
  ·exact fun h => ⟨fun a b ha hb => h a b (List.mem_append_left _ ha) (List.mem_append_left _ hb), fun a ha => h a j (List.mem_append_left _ ha) (by simp) fun e => hjn (e ▸ ha)⟩
  ·rintro ⟨h1, h2⟩ a b ha hb hab
   rcases List.mem_append.1 ha with ha1 | ha1 <;> rcases List.mem_append.1 hb with hb1 | hb1
   ·exact h1 a b ha1 hb1 hab
   ·obtain rfl := List.mem_singleton.1 hb1; exact h2 a ha1
   ·obtain rfl := List.mem_singleton.1 ha1; rw [adjE_symm]; exact h2 b hb1
   ·exact absurd ((List.mem_singleton.1 ha1).trans (List.mem_singleton.1 hb1).symm) hab
 constructor
 ·rintro ⟨_, h1, h2⟩
  refine ⟨fun a b ha hb => h1 a b ((hm a).1 ha) ((hm b).1 hb), fun j hj hjb h => ?_⟩
  obtain ⟨i, hi, hij⟩ := h2 j hj hjb
  rw [((two j hjb).1 h).2 i ((hm i).2 hi)] at hij; cases hij
 ·rintro ⟨h1, h2⟩
  refine ⟨hs, fun a b ha hb => h1 a b ((hm a).2 ha) ((hm b).2 hb), fun j hj hjb => ?_⟩
  apply Classical.byContradiction
  intro hno
  refine h2 j hj hjb ((two j hjb).2 ⟨h1, fun a ha => ?_⟩)
  cases h : adjE es a j
  ·exact absurd ⟨a, (hm a).1 ha, h⟩ hno
  ·rfl
theorem nd_inj {a b : Nat} (ha : a < 4294967296) (hb : b < 4294967296) (h : il (nd a) = il (nd b)) : a = b := nodes_inj a b ha hb (by rw [nodes_nat _ ha, nodes_nat _ hb, h])
/-- All maximal cliques, in order. -/
structure IsCl (es : List S52) (n s : Nat) (out : List (List Int)) : Prop where
  ord : out.Pairwise ltL
  mem : ∀ x, x ∈ out ↔ ∃ t, 1 ≤ t ∧ t < s ∧ x = il (nd t) ∧ MaxCl es n t
  len : out.length + 1 ≤ s
theorem cliques_ref (n : Nat) (hn : n ≤ 20) (es : List S52) (hes : es.length < 2 ^ 50) : ∃ R, Ev (fun k => gampref04_Cliques.f k (n : Int) es) R ∧ IsCl es n (2 ^ n) R := by
  have hshl : shl .i64 1 (n : Int) = ((2 ^ n : Nat) : Int) := by
    unfold shl
    have hb : IntKind.i64.bits = 64 := rfl
    rw [hb, Int.toNat_natCast, Nat.min_eq_left (by omega), IntKind.wrap_i64]
    have hp : 2 ^ n ≤ 2 ^ 20 := Nat.pow_le_pow_right (by omega) hn
    have e : (1 : Int) * 2 ^ n = ((2 ^ n : Nat) : Int) := by simp
    rw [e]
    generalize 2 ^ n = p at *
    omega
  have hp : 2 ^ n ≤ 2 ^ 20 := Nat.pow_le_pow_right (by omega) hn
  have main : ∀ (d s : Nat) (out : List (List Int)), s + d = 2 ^ n → 1 ≤ s → IsCl es n s out → ∃ R, Ev (fun k => gampref04_Cliques.l0 k (n : Int) es out (s : Int)) R ∧ IsCl es n (2 ^ n) R := by
    intro d
    induction d with
    | zero =>
      intro s out hs _ ho
      obtain rfl : s = 2 ^ n := by omega
      refine ⟨out, ?_, ho⟩
      refine Ev.step (f := fun _ => some out) (fun k => ?_) (Ev.now _)
      simp only [gampref04_Cliques.l0]
      rw [if_pos (by omega), hshl, if_neg (by omega)]
    | succ d ih =>
      intro s out hs h1 ho
      have hlt : s < 2 ^ n := by omega
      have hlt2 : s < 2 ^ 20 := by omega
      have hs32 : s < 4294967296 := by omega
      have len : (nd s).length ≤ 32 := by unfold nd; exact Nat.le_trans (List.length_filter_le _ _) (by simp)
      have evb := bits_ev s n hlt (by omega)
      have evc := clique_ev es hes (il (nd s)) (by rw [il_len]; omega)
      -- no new clique
      have skip : ¬ MaxCl es n s → IsCl es n (s + 1) out := fun hm => ⟨ho.ord, fun x => by
        rw [ho.mem]
        constructor
        · rintro ⟨t, a, b, c⟩; exact ⟨t, a, by omega, c⟩
        · rintro ⟨t, a, b, c, m⟩
          refine ⟨t, a, ?_, c, m⟩
          by_cases e : t = s
          · subst e; exact absurd m hm
          · omega, by have := ho.len; omega⟩
      have add : MaxCl es n s → IsCl es n (s + 1) (insL (il (nd s)) out) := fun hm => ⟨insL_sorted ho.ord (fun h => by
          obtain ⟨t, a, b, c, m⟩ := (ho.mem _).1 h
          have := nd_inj hs32 (by omega) c
          omega), fun x => by
        rw [mem_insL, ho.mem]
        constructor
        · rintro (rfl | ⟨t, a, b, c⟩)
          · exact ⟨s, h1, by omega, rfl, hm⟩
          · exact ⟨t, a, by omega, c⟩
        · rintro ⟨t, a, b, c, m⟩
          by_cases e : t = s
          · subst e; exact Or.inl c
          · exact Or.inr ⟨t, a, by omega, c, m⟩, by rw [insL_len]; have := ho.len; omega⟩
      have hob : ∀ x ∈ out, x.length < 2 ^ 40 := fun x hx => by
        obtain ⟨t, _, _, rfl, _⟩ := (ho.mem x).1 hx
        have : (nd t).length ≤ 32 := by unfold nd; exact Nat.le_trans (List.length_filter_le _ _) (by simp)
        rw [il_len]; omega
      have step : ∀ k, gampref04_Cliques.l0 (k + 1) (n : Int) es out (s : Int) = (gampref04_bits.f k (s : Int) (n : Int)).bind fun t186 => (gampref04_Clique.f k es t186).bind fun t189 => if t189 = true then gampref04_Cliques.l1 k (n : Int) es out (s : Int) t186 true 0 else gampref04_Cliques.l0 k (n : Int) es out ((s + 1 : Nat) : Int) := fun k => by
        simp only [gampref04_Cliques.l0]
        rw [if_pos (by omega), hshl, if_pos (by omega), wrap_up s (by omega)]
      have go : ∀ R, Ev (fun k => if decide (AllPr (nr es) (il (nd s))) = true then gampref04_Cliques.l1 k (n : Int) es out (s : Int) (il (nd s)) true 0 else gampref04_Cliques.l0 k (n : Int) es out ((s + 1 : Nat) : Int)) R → Ev (fun k => gampref04_Cliques.l0 k (n : Int) es out (s : Int)) R := by
        intro R hR
        refine Ev.step step ?_
        refine Ev.bind (f := fun k t186 => (gampref04_Clique.f k es t186).bind fun t189 => if t189 = true then gampref04_Cliques.l1 k (n : Int) es out (s : Int) t186 true 0 else gampref04_Cliques.l0 k (n : Int) es out ((s + 1 : Nat) : Int)) evb ?_
        exact Ev.bind (f := fun k t189 => if t189 = true then gampref04_Cliques.l1 k (n : Int) es out (s : Int) (il (nd s)) true 0 else gampref04_Cliques.l0 k (n : Int) es out ((s + 1 : Nat) : Int)) evc hR
      by_cases hm : MaxCl es n s
      · obtain ⟨R, ev, hR⟩ := ih (s + 1) _ (by omega) (by omega) (add hm)
        refine ⟨R, go R ?_, hR⟩
        have hm' := (maxCl_iff es n s hlt (by omega)).1 hm
        refine Ev.congr (fun k => by rw [if_pos (decide_eq_true hm'.1)]) ?_
        refine cl_l1 n (by omega) es hes out s hlt R (fun _ => ?_) (fun h => absurd hm'.2 h) n 0 true (by omega) ⟨fun _ j hj => by omega, fun _ => rfl⟩
        exact cl_l2 n es out s (il (nd s)) (by rw [il_len]; omega) hob (by have := ho.len; omega) (by omega) R ev out.length 0 (by omega) (fun y hy => by omega)
      · obtain ⟨R, ev, hR⟩ := ih (s + 1) _ (by omega) (by omega) (skip hm)
        refine ⟨R, go R ?_, hR⟩
        by_cases hc : AllPr (nr es) (il (nd s))
        · refine Ev.congr (fun k => by rw [if_pos (decide_eq_true hc)]) ?_
          exact cl_l1 n (by omega) es hes out s hlt R (fun h => absurd ((maxCl_iff es n s hlt (by omega)).2 ⟨hc, h⟩) hm) (fun _ => ev) n 0 true (by omega) ⟨fun _ j hj => by omega, fun _ => rfl⟩
        · exact Ev.congr (fun k => by rw [if_neg (by simpa using hc)]) ev
  have h1 : 1 ≤ 2 ^ n := Nat.pos_of_ne_zero (by simp)
  obtain ⟨R, ev, hR⟩ := main (2 ^ n - 1) 1 [] (by omega) (by omega) ⟨List.Pairwise.nil, fun x => ⟨fun h => (by cases h), fun ⟨t, a, b, _⟩ => by omega⟩, by simp⟩
  exact ⟨R, ev, hR⟩
end Go.Proofs.Ytdpolfflemocaaa.Pure

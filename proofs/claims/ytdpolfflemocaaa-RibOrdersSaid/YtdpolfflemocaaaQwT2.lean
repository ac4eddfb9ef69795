/- The declarations of T2 that the claim Qw needs. -/
import Derived.Test.YtdpolfflemocaaaQwEl
import Derived.Test.YtdpolfflemocaaaQwRwx2
import Derived.Test.YtdpolfflemocaaaQwEr
import Derived.Test.YtdpolfflemocaaaQwRwx5
namespace Go.Proofs.Ytdpolfflemocaaa.Pure
open Go Go.RowKit Go.Proofs.YtdpolfflemocaaaW.PrintWords Go.Proofs.YtdpolfflemocaaaW.PrintLast Go.Proofs.YtdpolfflemocaaaW.PrintMore Go.Proofs.Ytdpolfflemocaaa.Cl Go.Proofs.Ytdpolfflemocaaa.Own Go.Proofs.Ytdpolfflemocaaa.Rx Go.Proofs.Ytdpolfflemocaaa.Rw
set_option linter.unusedVariables false
set_option linter.unusedSimpArgs false
open Classical
theorem wrap_dn (i : Nat) (h : i < 2 ^ 60) : wrap64 ((i : Int) - 1) = (i : Int) - 1 := by unfold wrap64; omega
theorem getD_setI (l : List Int) (i j : Nat) (x : Int) : (l.set i x).getD j 0 = if i = j ∧ j < l.length then x else l.getD j 0 := by
 simp only [List.getD_eq_getElem?_getD, List.getElem?_set]
 by_cases h : i = j
 ·subst h
  by_cases h2 : i < l.length
  ·simp [h2]
  ·simp [h2]
 ·simp [h]
theorem rd_getD (l : List Int) (i : Nat) : rd l (i : Int) = l.getD i 0 := by simp [rd]
/-- Reverse. -/
theorem rev_ev (l : List Int) (hl : l.length < 2 ^ 40) : Ev (fun k => slices_Reverse_int_int.f k l) l.reverse := by
  have main : ∀ (d i : Nat) (cur : List Int), l.length - 2 * i ≤ d → 2 * i ≤ l.length + 1 → cur.length = l.length → (∀ t, t < l.length → cur.getD t 0 = if t < i ∨ l.length ≤ t + i then l.getD (l.length - 1 - t) 0 else l.getD t 0) →
      Ev (fun k => slices_Reverse_int_int.l0 k cur (i : Int) ((l.length : Int) - 1 - (i : Int))) l.reverse := by
    intro d
    induction d with
    | zero =>
      intro i cur hd hi hc hv
      have e : cur = l.reverse := by
        apply List.ext_getElem (by simp [hc])
        intro t h1 h2
        have := hv t (by omega)
        rw [show cur.getD t 0 = cur[t] by simp [h1]] at this
        rw [this, List.getElem_reverse]
        by_cases h : t < i ∨ l.length ≤ t + i
        · rw [if_pos h, show l.getD (l.length - 1 - t) 0 = l[l.length - 1 - t]'(by omega) by simp [show l.length - 1 - t < l.length by omega]]
        · rw [if_neg h, show l.getD t 0 = l[t]'(by omega) by simp [show t < l.length by omega]]
          congr 1
          omega
      refine Ev.step (f := fun _ => some cur) (fun k => ?_) (by rw [← e]; exact Ev.now _)
      simp only [slices_Reverse_int_int.l0]
      rw [if_neg (by omega)]
    | succ d ih =>
      intro i cur hd hi hc hv
      by_cases hlt : i + i + 1 < l.length
      · obtain ⟨j, hj⟩ : ∃ j : Nat, j + i + 1 = l.length := ⟨l.length - 1 - i, by omega⟩
        have ej : (l.length : Int) - 1 - (i : Int) = (j : Int) := by omega
        have h1 := hv i (by omega)
        have h2 := hv j (by omega)
        rw [if_neg (by omega)] at h1
        rw [if_neg (by omega)] at h2
        have ih2 := ih (i + 1) ((cur.set i (l.getD j 0)).set j (l.getD i 0)) (by omega) (by omega) (by simp [hc]) (fun t ht => by
          rw [getD_setI, getD_setI, List.length_set, hc]
          by_cases a : j = t
          · subst a
            rw [if_pos ⟨rfl, ht⟩, if_pos (by omega), show l.length - 1 - j = i by omega]
          · rw [if_neg (fun h => a h.1)]
            by_cases b : i = t
            · subst b
              rw [if_pos ⟨rfl, ht⟩, if_pos (by omega), show l.length - 1 - i = j by omega]
            · rw [if_neg (fun h => b h.1), hv t ht]
              by_cases c : t < i ∨ l.length ≤ t + i
              · rw [if_pos c, if_pos (by omega)]
              · rw [if_neg c, if_neg (by omega)])
        refine Ev.step (fun k => ?_) ih2
        rw [ej]
        simp only [slices_Reverse_int_int.l0]
        rw [if_pos (by omega), if_pos (by omega), hc, if_pos (by omega), if_pos (by omega), if_pos (by omega), wrap_up i (by omega), wrap_dn j (by omega), rd_getD, rd_getD, h1, h2, Int.toNat_natCast, Int.toNat_natCast, show (l.length : Int) - 1 - ((i + 1 : Nat) : Int) = (j : Int) - 1 by omega]
      · exact (show Ev _ _ from by
          have e : cur = l.reverse := by
            apply List.ext_getElem (by simp [hc])
            intro t h1 h2
            have := hv t (by omega)
            rw [show cur.getD t 0 = cur[t] by simp [h1]] at this
            rw [this, List.getElem_reverse]
            by_cases h : t < i ∨ l.length ≤ t + i
            · rw [if_pos h, show l.getD (l.length - 1 - t) 0 = l[l.length - 1 - t]'(by omega) by simp [show l.length - 1 - t < l.length by omega]]
            · rw [if_neg h, show l.getD t 0 = l[t]'(by omega) by simp [show t < l.length by omega]]
              congr 1
              omega
          refine Ev.step (f := fun _ => some cur) (fun k => ?_) (by rw [← e]; exact Ev.now _)
          simp only [slices_Reverse_int_int.l0]
          rw [if_neg (by omega)])
  have h := main l.length 0 l (by omega) (by omega) rfl (fun t ht => by rw [if_neg (by omega)])
  refine Ev.congr (fun k => ?_) h
  unfold slices_Reverse_int_int.f
  rw [wrap_dn _ (by omega), show (l.length : Int) - 1 - ((0 : Nat) : Int) = (l.length : Int) - 1 by omega]
  rfl
def q (Q : List Nat) (t : Nat) : Nat := Q.getD t 0
theorem q_mem {Q : List Nat} {t : Nat} (h : t < Q.length) : q Q t ∈ Q := by
  unfold q; rw [show Q.getD t 0 = Q[t] by simp [h]]; exact List.getElem_mem _
theorem q_inj {Q : List Nat} (hn : Q.Nodup) {s t : Nat} (hs : s < Q.length) (ht : t < Q.length) (e : q Q s = q Q t) : s = t := by
 unfold q at e
 rw [show Q.getD s 0 = Q[s] by simp [hs], show Q.getD t 0 = Q[t] by simp [ht]] at e
 exact (List.getElem_inj hn).1 e
theorem q_app {Q : List Nat} (x : Nat) {t : Nat} (h : t < Q.length) : q (Q ++ [x]) t = q Q t := by
  unfold q; simp [List.getD_eq_getElem?_getD, List.getElem?_append_left h]
theorem q_new (Q : List Nat) (x : Nat) : q (Q ++ [x]) Q.length = x := by
  unfold q; simp
structure BF (g : List Nat) (n a b by_ : Nat) (Q : List Nat) (par : Nat → Nat) (idx : Nat) (m : MapT) : Prop where
  nd : Q.Nodup
  pos : 0 < Q.length
  lt : ∀ x ∈ Q, x < n
  h0 : q Q 0 = a
  ok : ∀ t, 1 ≤ t → t < Q.length → by_.testBit (q Q t) = true ∨ q Q t = b
  pa : ∀ t, 1 ≤ t → t < Q.length → par t < t ∧ ad g (q Q (par t)) (q Q t) = true ∧ ∀ s, s < par t → ad g (q Q s) (q Q t) = false
  cl : ∀ s, s < idx → ∀ y, ad g (q Q s) y = true → by_.testBit y = true ∨ y = b → y ∈ Q
  nb : ∀ s, s < idx → q Q s ≠ b
  le : idx ≤ Q.length
  mi : ∀ t, 1 ≤ t → t < Q.length → mlook m (q Q t : Int) = some (q Q (par t) : Int)
  ma : ∃ v, mlook m (a : Int) = some v
  mo : ∀ y : Nat, y ∉ Q → mlook m (y : Int) = none
  ml : m.length = Q.length
theorem isI64_nat {x : Nat} (h : x < 1000) : isI64 (x : Int) = true := by unfold isI64; simp; omega
theorem BF.add {g : List Nat} {n a b by_ : Nat} {Q : List Nat} {par : Nat → Nat} {idx : Nat} {m : MapT} (h : BF g n a b by_ Q par idx m) (hi : idx < Q.length) {j : Nat} (hj : j ∉ Q) (hjn : j < n) (hadj : ad g (q Q idx) j = true) (hok : by_.testBit j = true ∨ j = b) :
  BF g n a b by_ (Q ++ [j]) (fun t => if t = Q.length then idx else par t) idx (((j : Int), (q Q idx : Int)) :: m) := by
 have hp := h.pos
 have le := h.le
 refine ⟨List.nodup_append.2 ⟨h.nd, by simp, fun x hx y hy e => by simp at hy; subst hy; exact hj (e ▸ hx)⟩, by simp, ?_, by rw [q_app _ hp]; exact h.h0, ?_, ?_, ?_, ?_, by simp; omega, ?_, ?_, ?_, by simp [h.ml]⟩
 ·intro x hx
  rcases List.mem_append.1 hx with hx | hx
  ·exact h.lt x hx
  ·simp at hx; omega
 ·intro t h1 h2
  simp at h2
  by_cases e : t = Q.length
  ·subst e; rw [q_new]; exact hok
  ·rw [q_app _ (by omega)]; exact h.ok t h1 (by omega)
 ·intro t h1 h2
  simp at h2
  by_cases e : t = Q.length
  ·subst e
   rw [if_pos rfl, q_new, q_app _ hi]
   refine ⟨hi, hadj, fun s hs => ?_⟩
   rw [q_app _ (by omega)]
   cases hc : ad g (q Q s) j
   ·rfl
   ·exact absurd (h.cl s hs j hc hok) hj
  ·have ⟨p1, p2, p3⟩ := h.pa t h1 (by omega)
   rw [if_neg e, q_app _ (by omega), q_app _ (by omega)]
   exact ⟨p1, p2, fun s hs => by rw [q_app _ (by omega)]; exact p3 s hs⟩
 ·intro s hs y hy hok'
  rw [q_app _ (by omega)] at hy
  exact List.mem_append_left _ (h.cl s hs y hy hok')
 ·intro s hs
  rw [q_app _ (by omega)]; exact h.nb s hs
 ·intro t h1 h2
  simp at h2
  by_cases e : t = Q.length
  ·subst e
   rw [q_new, if_pos rfl, q_app _ hi]; simp [mlook]
  ·have ⟨p1, _, _⟩ := h.pa t h1 (by omega)
   have hne : ¬ ((j : Int) = (q Q t : Int)) := fun e2 => hj (by rw [show j = q Q t by omega]; exact q_mem (by omega))
   rw [if_neg e, q_app _ (by omega), q_app _ (by omega), mlook, if_neg hne]
   exact h.mi t h1 (by omega)
 ·obtain ⟨v, hv⟩ := h.ma
  have hne : ¬ ((j : Int) = (a : Int)) := fun e2 => hj (by rw [show j = a by omega, ← h.h0]; exact q_mem hp)
  exact ⟨v, by rw [mlook, if_neg hne]; exact hv⟩
 ·intro y hy
  rw [List.mem_append, List.mem_singleton] at hy
  have hne : ¬ ((j : Int) = (y : Int)) := fun e => hy (Or.inr (by omega))
  rw [mlook, if_neg hne]
  exact h.mo y fun h' => hy (Or.inl h')
theorem BF.look {g : List Nat} {n a b by_ : Nat} {Q : List Nat} {par : Nat → Nat} {idx : Nat} {m : MapT} (h : BF g n a b by_ Q par idx m) (y : Nat) : (mlook m (y : Int)).isSome = decide (y ∈ Q) := by
 by_cases hy : y ∈ Q
 ·rw [decide_eq_true hy]
  obtain ⟨t, ht, rfl⟩ := List.getElem_of_mem hy
  have e : Q[t] = q Q t := by unfold q; simp [ht]
  rw [e]
  by_cases h1 : 1 ≤ t
  ·rw [h.mi t h1 ht]; rfl
  ·obtain rfl : t = 0 := by omega
   obtain ⟨v, hv⟩ := h.ma
   rw [h.h0, hv]; rfl
 ·rw [decide_eq_false hy, h.mo y hy]; rfl
/-- A way without chords from a to b, past nodes of a set. -/
structure Way (g : List Nat) (n a b by_ : Nat) (r : List Nat) : Prop where
  pos : 0 < r.length
  fst : q r 0 = a
  lst : q r (r.length - 1) = b
  ok : ∀ j, 1 ≤ j → j < r.length → by_.testBit (q r j) = true ∨ q r j = b
  lt : ∀ j, j < r.length → q r j < n
  ch : ∀ i j, i < j → j < r.length → q r i ≠ q r j ∧ ad g (q r i) (q r j) = decide (j = i + 1)
inductive Chain (par : Nat → Nat) : Nat → List Nat → Prop
  | zero : Chain par 0 [0]
  | step {t : Nat} {I : List Nat} : 1 ≤ t → Chain par (par t) I → Chain par t (I ++ [t])
theorem Chain.ex {par : Nat → Nat} {L : Nat} (h : ∀ t, 1 ≤ t → t < L → par t < t) : ∀ (d t : Nat), t ≤ d → t < L → ∃ I, Chain par t I := by
 intro d
 induction d with
 | zero =>
  intro t ht _
  obtain rfl : t = 0 := by omega
  exact ⟨_, .zero⟩
 | succ d ih =>
  intro t ht hl
  by_cases h1 : 1 ≤ t
  ·have := h t h1 hl
   obtain ⟨I, hI⟩ := ih (par t) (by omega) (by omega)
   exact ⟨_, .step h1 hI⟩
  ·obtain rfl : t = 0 := by omega
   exact ⟨_, .zero⟩
theorem q_map (Q I : List Nat) {i : Nat} (h : i < I.length) : q (I.map (q Q)) i = q Q (q I i) := by
  unfold q; simp [h]
theorem Chain.way {g : List Nat} {n a b by_ : Nat} {Q : List Nat} {par : Nat → Nat} {idx : Nat} {m : MapT} (h : BF g n a b by_ Q par idx m) {t : Nat} {I : List Nat} (c : Chain par t I) : t < Q.length →
  I.dropLast ++ [t] = I ∧ 0 < I.length ∧ q I 0 = 0 ∧ q I (I.length - 1) = t ∧ (∀ i j, i < j → j < I.length → q I i < q I j) ∧ (∀ i, i < I.length → q I i ≤ t) ∧ (∀ i, 1 ≤ i → i < I.length → 1 ≤ q I i) ∧ ∀ i j, i < j → j < I.length → ad g (q Q (q I i)) (q Q (q I j)) = decide (j = i + 1) := by
 induction c with
 | zero =>
  intro _
  refine ⟨rfl, by simp, rfl, rfl, fun i j h1 h2 => by simp at h2; omega, fun i hi => by simp at hi; subst hi; exact Nat.le_refl _, fun i h1 h2 => by simp at h2; omega, fun i j h1 h2 => by simp at h2; omega⟩
 | @step t I h1 c ih =>
  intro ht
  obtain ⟨p1, p2, p3⟩ := h.pa t h1 ht
  obtain ⟨_, i2, i3, i4, i5, i6, i7, i8⟩ := ih (by omega)
  refine ⟨by simp, by simp, by rw [q_app _ i2]; exact i3, by simp [q_new], ?_, ?_, ?_, ?_⟩
  ·intro i j hij hj
   simp at hj
   by_cases e : j = I.length
   ·subst e
    rw [q_new, q_app _ hij]
    have := i6 i hij
    omega
   ·rw [q_app _ (by omega), q_app _ (by omega)]; exact i5 i j hij (by omega)
  ·intro i hi
   simp at hi
   by_cases e : i = I.length
   ·subst e; rw [q_new]; exact Nat.le_refl _
   ·rw [q_app _ (by omega)]; have := i6 i (by omega); omega
  ·intro i hi1 hi
   simp at hi
   by_cases e : i = I.length
   ·subst e; rw [q_new]; exact h1
   ·rw [q_app _ (by omega)]; exact i7 i hi1 (by omega)
  ·intro i j hij hj
   simp at hj
   by_cases e : j = I.length
   ·subst e
    rw [q_new, q_app _ hij]
    by_cases e2 : I.length = i + 1
    ·rw [decide_eq_true e2, show i = I.length - 1 by omega, i4]; exact p2
    ·rw [decide_eq_false e2]
     refine p3 _ ?_
     have := i5 i (I.length - 1) (by omega) (by omega)
     rw [i4] at this; exact this
   ·rw [q_app _ (by omega), q_app _ (by omega)]; exact i8 i j hij (by omega)
/-- The way back. -/
theorem way_l1 {g : List Nat} {n a b by_ : Nat} {Q : List Nat} {par : Nat → Nat} {idx : Nat} {m : MapT} (h : BF g n a b by_ Q par idx m) (hn : n ≤ 31) {t : Nat} {I : List Nat} (c : Chain par t I) : t < Q.length → ∀ acc : List Nat, acc.length + I.length < 2 ^ 40 →
  Ev (fun k => rib_graph_way.l1 k (a : Int) m (q Q t : Int) (il acc)) (il (acc ++ I.dropLast.reverse.map (q Q)).reverse) := by
 induction c with
 | zero =>
  intro _ acc ha
  rw [h.h0]
  have ev := rev_ev (il acc) (by rw [il_len]; simp at ha; omega)
  refine Ev.step (f := fun k => (slices_Reverse_int_int.f k (il acc)).bind fun t113 => (some t113)) (fun k => ?_) ?_
  ·simp only [rib_graph_way.l1]
   rw [if_pos trivial]
  ·refine Ev.bind (f := fun k t113 => some t113) ev ?_
   simp only [List.dropLast_singleton, List.reverse_nil, List.map_nil, List.append_nil]
   rw [show il acc.reverse = (il acc).reverse by simp [il]]
   exact Ev.now _
 | @step t I h1 c ih =>
  intro ht acc ha
  obtain ⟨p1, _, _⟩ := h.pa t h1 ht
  obtain ⟨i1, _⟩ := Chain.way h c (by omega)
  have hta : ¬ ((q Q t : Nat) : Int) = (a : Int) := fun e => by
   have e2 : q Q t = q Q 0 := by rw [h.h0]; omega
   have := q_inj h.nd ht (by omega) e2
   omega
  have hlt := h.lt _ (q_mem ht)
  have ih2 := ih (by omega) (acc ++ [q Q (par t)]) (by simp at ha ⊢; omega)
  refine Ev.step (fun k => ?_) (by
   have e : acc ++ (I ++ [t]).dropLast.reverse.map (q Q) = (acc ++ [q Q (par t)]) ++ I.dropLast.reverse.map (q Q) := by
    rw [List.dropLast_concat]
    conv => lhs; rw [← i1]
    simp
   rw [e]; exact ih2)
  simp only [rib_graph_way.l1]
  rw [if_neg hta]
  unfold map_get.f
  rw [if_pos (isI64_nat (by omega)), h.mi t h1 ht, Option.bind_some, il_len, if_pos (by omega), show il acc ++ [(q Q (par t) : Int)] = il (acc ++ [q Q (par t)]) by rw [il_app]; rfl]
/-- No way: some nodes, a among them and b not, out of which nothing leads that is allowed. -/
def NoWay (g : List Nat) (a b by_ : Nat) : Prop := ∃ P : Nat → Prop, P a ∧ ¬ P b ∧ ∀ x y, P x → ad g x y = true → by_.testBit y = true ∨ y = b → P y
theorem way_loop (g : List Nat) (G : Gr g) (n a b by_ : Nat) (hg : g.length = n) (hbn : b < n) (hby : by_ < 4294967296) : ∀ (d : Nat) (Q : List Nat) (par : Nat → Nat) (idx : Nat) (m : MapT), n - idx < d → BF g n a b by_ Q par idx m →
    ∃ r : List Nat, Ev (fun k => rib_graph_way.l0 k (il g) (a : Int) (b : Int) (by_ : Int) m (il (Q.drop idx))) (il r) ∧ (r = [] → NoWay g a b by_) ∧ (r ≠ [] → Way g n a b by_ r) := by
  intro d
  have hn31 : n ≤ 31 := by have := G.le; omega
  induction d with
  | zero => intro Q par idx m hd; omega
  | succ d ih =>
    intro Q par idx m hd h
    have hQn : Q.length ≤ n := by
      have := (pig Q (List.range n) h.nd fun x hx => List.mem_range.2 (h.lt x hx)).1
      rwa [List.length_range] at this
    by_cases hidx : idx < Q.length
    · have hhd : rd (il (Q.drop idx)) 0 = ((q Q idx : Nat) : Int) := by
        have := il_rd (Q.drop idx) 0 (by rw [List.length_drop]; omega)
        rw [show ((0 : Nat) : Int) = 0 from rfl] at this
        rw [this]; unfold q; simp
      have hlen : (il (Q.drop idx)).length = Q.length - idx := by rw [il_len, List.length_drop]
      have hqn := h.lt _ (q_mem hidx)
      by_cases hb : q Q idx = b
      · -- found
        obtain ⟨I, hI⟩ := Chain.ex (fun t h1 h2 => (h.pa t h1 h2).1) idx idx (Nat.le_refl _) hidx
        obtain ⟨i1, i2, i3, i4, i5, i6, i7, i8⟩ := Chain.way h hI hidx
        have hIl : I.length ≤ n := by
          have hI0 : I.Nodup := by
            rw [List.nodup_iff_pairwise_ne, List.pairwise_iff_getElem]
            intro x y hx hy hxy e
            have := i5 x y hxy hy
            unfold q at this
            simp [hx, hy, e] at this
          have := (pig I (List.range n) hI0 fun x hx => by
            obtain ⟨s, hs, rfl⟩ := List.getElem_of_mem hx
            have h2 := i6 s hs
            rw [show I[s] = q I s by unfold q; simp [hs]]
            exact List.mem_range.2 (by omega)).1
          rwa [List.length_range] at this
        have ev := way_l1 h hn31 hI hidx [b] (by simp; omega)
        refine ⟨I.map (q Q), ?_, fun e => ?_, fun _ => ?_⟩
        · refine Ev.step (fun k => ?_) (by
            have e : ([b] ++ I.dropLast.reverse.map (q Q)).reverse = I.map (q Q) := by
              conv => rhs; rw [← i1]
              simp [hb]
            rw [← e]; exact ev)
          simp only [rib_graph_way.l0]
          rw [hlen, if_pos (by omega), if_pos (by omega), hhd, if_pos (by rw [hb])]
          rfl
        · exfalso
          rw [List.map_eq_nil_iff] at e
          rw [e] at i2; simp at i2
        · have hl : (I.map (q Q)).length = I.length := by simp
          have hb2 : ∀ i, i < I.length → q I i < Q.length := fun i hi => by have := i6 i hi; omega
          refine ⟨by rw [hl]; exact i2, by rw [q_map _ _ i2, i3]; exact h.h0, by rw [hl, q_map _ _ (by omega), i4]; exact hb, ?_, ?_, ?_⟩
          · intro j h1 h2
            rw [hl] at h2
            rw [q_map _ _ h2]
            exact h.ok _ (i7 j h1 h2) (hb2 j h2)
          · intro j h2
            rw [hl] at h2
            rw [q_map _ _ h2]
            exact h.lt _ (q_mem (hb2 j h2))
          · intro i j hij h2
            rw [hl] at h2
            rw [q_map _ _ h2, q_map _ _ (by omega)]
            refine ⟨fun e => ?_, i8 i j hij h2⟩
            have e2 := q_inj h.nd (hb2 i (by omega)) (hb2 j h2) e
            have := i5 i j hij h2
            omega
      · -- the neighbours
        have hgu := G.u32 (q Q idx)
        have hbb := pow_u32 (show b < 32 by omega)
        have hset := and_u32 (b := by_ ||| 2 ^ b) hgu
        have hmem : ∀ y, y ∈ nd (g.getD (q Q idx) 0 &&& (by_ ||| 2 ^ b)) ↔ ad g (q Q idx) y = true ∧ (by_.testBit y = true ∨ y = b) := by
          intro y
          rw [mem_nd hset, Nat.testBit_and, Nat.testBit_or, Nat.testBit_two_pow, Bool.and_eq_true, Bool.or_eq_true, decide_eq_true_eq]
          exact ⟨fun ⟨x, z⟩ => ⟨x, z.imp id Eq.symm⟩, fun ⟨x, z⟩ => ⟨x, z.imp id Eq.symm⟩⟩
        generalize hfull : nd (g.getD (q Q idx) 0 &&& (by_ ||| 2 ^ b)) = full at hmem
        have hfl : full.length ≤ 32 := by rw [← hfull]; unfold nd; exact Nat.le_trans (List.length_filter_le _ _) (by simp)
        have inner : ∀ (e p : Nat) (Q' : List Nat) (par' : Nat → Nat) (m' : MapT), p + e = full.length → BF g n a b by_ Q' par' idx m' → idx < Q'.length → q Q' idx = q Q idx → (∀ y ∈ full.take p, y ∈ Q') →
            ∃ r : List Nat, Ev (fun k => rib_graph_way.l2 k (il g) (a : Int) (b : Int) (by_ : Int) m' (il (Q'.drop idx)) (q Q idx : Int) (il full) (full.length : Int) (p : Int)) (il r) ∧ (r = [] → NoWay g a b by_) ∧ (r ≠ [] → Way g n a b by_ r) := by
          intro e
          induction e with
          | zero =>
            intro p Q' par' m' hp h' hi' hq hall
            rw [List.take_of_length_le (by omega)] at hall
            have h'' : BF g n a b by_ Q' par' (idx + 1) m' := ⟨h'.nd, h'.pos, h'.lt, h'.h0, h'.ok, h'.pa, fun s hs y hy ho => by
                by_cases es : s = idx
                · subst es
                  rw [hq] at hy
                  exact hall y ((hmem y).2 ⟨hy, ho⟩)
                · exact h'.cl s (by omega) y hy ho, fun s hs => by
                by_cases es : s = idx
                · subst es; rw [hq]; exact hb
                · exact h'.nb s (by omega), by omega, h'.mi, h'.ma, h'.mo, h'.ml⟩
            have hQn' : Q'.length ≤ n := by
              have := (pig Q' (List.range n) h'.nd fun x hx => List.mem_range.2 (h'.lt x hx)).1
              rwa [List.length_range] at this
            obtain ⟨r, ev, r1, r2⟩ := ih Q' par' (idx + 1) m' (by omega) h''
            refine ⟨r, Ev.step (fun k => ?_) ev, r1, r2⟩
            simp only [rib_graph_way.l2]
            rw [if_neg (by omega), if_pos (by rw [il_len, List.length_drop]; omega), show ((1 : Int).toNat) = 1 from rfl, il_drop, List.drop_drop]
          | succ e ihe =>
            intro p Q' par' m' hp h' hi' hq hall
            have hpl : p < full.length := by omega
            have rp := rd_nat_get full p hpl
            have hy := (hmem full[p]).1 (List.getElem_mem _)
            have hyn : full[p] < n := by have := G.lt hy.1; omega
            have hQn' : Q'.length ≤ n := by
              have := (pig Q' (List.range n) h'.nd fun x hx => List.mem_range.2 (h'.lt x hx)).1
              rwa [List.length_range] at this
            have hlook := h'.look full[p]
            have hhas : map_has.f m' (full[p] : Int) = some ((mlook m' (full[p] : Int)).getD 0, decide (full[p] ∈ Q')) := by
              unfold map_has.f
              rw [if_pos (isI64_nat (by omega)), hlook]
            by_cases hin : full[p] ∈ Q'
            · obtain ⟨r, ev, r1, r2⟩ := ihe (p + 1) Q' par' m' (by omega) h' hi' hq (fun y hy => by
                rw [List.take_succ_eq_append_getElem hpl, List.mem_append, List.mem_singleton] at hy
                rcases hy with hy | rfl
                · exact hall y hy
                · exact hin)
              refine ⟨r, Ev.step (fun k => ?_) ev, r1, r2⟩
              simp only [rib_graph_way.l2]
              rw [if_pos (by omega), if_pos (by omega), il_len, if_pos (by omega), rp, hhas, Option.bind_some]
              dsimp only
              rw [if_pos (decide_eq_true hin), wrap_up p (by omega)]
            · have hadd := h'.add hi' hin hyn (by rw [hq]; exact hy.1) hy.2
              rw [hq] at hadd
              obtain ⟨r, ev, r1, r2⟩ := ihe (p + 1) (Q' ++ [full[p]]) _ _ (by omega) hadd (by simp; omega) (by rw [q_app _ hi']; exact hq) (fun y hy => by
                rw [List.take_succ_eq_append_getElem hpl, List.mem_append, List.mem_singleton] at hy
                rcases hy with hy | rfl
                · exact List.mem_append_left _ (hall y hy)
                · simp)
              refine ⟨r, Ev.step (fun k => ?_) ev, r1, r2⟩
              have hput : map_put.f m' (full[p] : Int) (q Q idx : Int) = some ((((full[p] : Nat) : Int), ((q Q idx : Nat) : Int)) :: m') := by
                unfold map_put.f
                rw [if_pos ⟨by rw [h'.ml]; omega, h'.mo _ hin, isI64_nat (by omega), isI64_nat (by omega)⟩]
              simp only [rib_graph_way.l2]
              rw [if_pos (by omega), if_pos (by omega), il_len, if_pos (by omega), rp, hhas, Option.bind_some]
              dsimp only
              rw [if_neg (by simpa using hin), hput, Option.bind_some, il_len, if_pos (by rw [List.length_drop]; omega), wrap_up p (by omega), List.drop_append_of_le_length (by omega), il_app]
              rfl
        obtain ⟨r, ev, r1, r2⟩ := inner full.length 0 Q par m (by omega) h hidx rfl (by simp)
        refine ⟨r, ?_, r1, r2⟩
        obtain ⟨K, hK⟩ := ev
        refine ⟨K + 40, fun k hk => ?_⟩
        obtain ⟨k, rfl⟩ : ∃ j, k = j + 1 := ⟨k - 1, by omega⟩
        have a1 := hK k (by omega)
        dsimp only at a1
        simp only [rib_graph_way.l0]
        rw [hlen, if_pos (by omega), if_pos (by omega), hhd, if_neg (by omega), if_pos (by omega), il_len, if_pos (by omega), one_nat b (by omega), Option.bind_some, il_rd _ _ (by omega), u32_or_nat _ _ hby hbb, u32_and_nat _ _ hgu (or_u32 hby hbb), list_f _ _ (by omega), Option.bind_some, nodes_nat _ hset, hfull, il_len]
        exact a1
    · -- nothing is left
      have hidx2 : idx = Q.length := by have := h.le; omega
      refine ⟨[], ?_, fun _ => ⟨fun x => x ∈ Q, by rw [← h.h0]; exact q_mem h.pos, fun hbQ => ?_, fun x y hx hxy ho => ?_⟩, fun e => absurd rfl e⟩
      · refine Ev.step (f := fun _ => some (il [])) (fun k => ?_) (Ev.now _)
        simp only [rib_graph_way.l0]
        rw [if_neg (by rw [il_len, List.length_drop]; omega)]
        rfl
      · obtain ⟨t, ht, e⟩ := List.getElem_of_mem hbQ
        exact h.nb t (by omega) (by unfold q; simp [ht, e])
      · obtain ⟨t, ht, rfl⟩ := List.getElem_of_mem hx
        exact h.cl t (by omega) y (by rw [show q Q t = Q[t] by unfold q; simp [ht]]; exact hxy) ho
theorem way_ev (g : List Nat) (G : Gr g) (n a b by_ : Nat) (hg : g.length = n) (han : a < n) (hbn : b < n) (hby : by_ < 4294967296) :
  ∃ r : List Nat, Ev (fun k => rib_graph_way.f k (il g) (a : Int) (b : Int) (by_ : Int)) (il r) ∧ (r = [] → NoWay g a b by_) ∧ (r ≠ [] → Way g n a b by_ r) := by
 have hn31 : n ≤ 31 := by have := G.le; omega
 have hput : map_put.f [] (a : Int) (a : Int) = some [((a : Int), (a : Int))] := by
  unfold map_put.f
  rw [if_pos ⟨by simp, rfl, isI64_nat (by omega), isI64_nat (by omega)⟩]
 have h0 : BF g n a b by_ [a] (fun _ => 0) 0 [((a : Int), (a : Int))] := by
  refine ⟨by simp, by simp, by simpa using han, rfl, fun t h1 h2 => by simp at h2; omega, fun t h1 h2 => by simp at h2; omega, fun s hs => by omega, fun s hs => by omega, by simp, fun t h1 h2 => by simp at h2; omega, ⟨(a : Int), by simp [mlook]⟩, fun y hy => ?_, rfl⟩
  have hne : ¬ ((a : Int) = (y : Int)) := fun e => hy (by simp; omega)
  rw [mlook, if_neg hne]; rfl
 obtain ⟨r, ev, r1, r2⟩ := way_loop g G n a b by_ hg hbn hby (n + 1) [a] _ 0 _ (by omega) h0
 refine ⟨r, Ev.congr (fun k => ?_) ev, r1, r2⟩
 unfold rib_graph_way.f
 rw [hput, Option.bind_some]
 rfl
end Go.Proofs.Ytdpolfflemocaaa.Pure
namespace Go.Proofs.Ytdpolfflemocaaa.Di
section
variable (adj : Nat → Nat → Bool)
/-- What is left of L without a node and its neighbours. -/
def Far (L : Nat → Prop) (v : Nat) : Nat → Prop := fun x => L x ∧ x ≠ v ∧ adj v x = false
inductive Reach (U : Nat → Prop) (x : Nat) : Nat → Prop
  | refl : U x → Reach U x x
  | step {y z : Nat} : Reach U x y → U z → adj y z = true → Reach U x z
def SimpP (L : Nat → Prop) (x : Nat) : Prop := ∀ a b, L a → L b → adj x a = true → adj x b = true → a ≠ b → adj a b = true
/-- No way leads past a node from one of its neighbours to another one that is not next to that. -/
def HP (L : Nat → Prop) : Prop := ∀ i a b, L i → L a → L b → adj i a = true → adj i b = true → a ≠ b → adj a b = false → ∀ c d, adj a c = true → adj b d = true → ¬ Reach adj (Far adj L i) c d
end
section
variable {adj : Nat → Nat → Bool} {U V : Nat → Prop} {L M : Nat → Prop}
theorem Reach.mono (h : ∀ x, U x → V x) {x y : Nat} (r : Reach adj U x y) : Reach adj V x y := by
 induction r with
 | refl hx => exact .refl (h _ hx)
 | step _ hz ha ih => exact .step ih (h _ hz) ha
theorem Reach.fst {x y : Nat} (r : Reach adj U x y) : U x := by
 induction r with
 | refl h => exact h
 | step _ _ _ ih => exact ih
theorem Reach.snd {x y : Nat} (r : Reach adj U x y) : U y := by
 cases r with
 | refl h => exact h
 | step _ h _ => exact h
theorem Reach.trans {x y z : Nat} (r : Reach adj U x y) (s : Reach adj U y z) : Reach adj U x z := by
 induction s with
 | refl _ => exact r
 | step _ hz ha ih => exact .step ih hz ha
theorem Reach.symm (hs : ∀ a b, adj a b = adj b a) {x y : Nat} (r : Reach adj U x y) : Reach adj U y x := by
 induction r with
 | refl h => exact .refl h
 | @step y z r hz ha ih => exact (Reach.step (.refl hz) r.snd (by rw [hs]; exact ha)).trans ih
theorem HP.sub (h : HP adj L) (hs : ∀ x, M x → L x) : HP adj M := by
  intro i a b hi ha hb hia hib hab hn c d hc hd r
  exact h i a b (hs i hi) (hs a ha) (hs b hb) hia hib hab hn c d hc hd (r.mono fun x hx => ⟨hs x hx.1, hx.2⟩)
open Classical
noncomputable def cnt (n : Nat) (L : Nat → Prop) : Nat := (List.range n).countP fun x => decide (L x)
theorem cnt_lt {n : Nat} {v : Nat} (hs : ∀ x, M x → L x) (hv : L v) (hn : ¬ M v) (hvn : v < n) : cnt n M < cnt n L := by
 unfold cnt
 have h1 : (List.range n).countP (fun x => decide (M x)) ≤ (List.range n).countP (fun x => decide (L x) && decide (x ≠ v)) := by
  apply List.countP_mono_left
  intro x _ hx
  have hm : M x := of_decide_eq_true hx
  simp only [Bool.and_eq_true, decide_eq_true_eq]
  exact ⟨hs x hm, fun e => hn (e ▸ hm)⟩
 have h2 : (List.range n).countP (fun x => decide (L x) && decide (x ≠ v)) < (List.range n).countP (fun x => decide (L x)) := by
  have key : ∀ l : List Nat, v ∈ l → l.countP (fun x => decide (L x) && decide (x ≠ v)) < l.countP (fun x => decide (L x)) := by
   intro l
   induction l with
   | nil => intro h; cases h
   | cons a l ih =>
    intro h
    rw [List.countP_cons, List.countP_cons]
    have hle : l.countP (fun x => decide (L x) && decide (x ≠ v)) ≤ l.countP (fun x => decide (L x)) := List.countP_mono_left fun x _ hx => by simp only [Bool.and_eq_true] at hx; exact hx.1
    by_cases e : a = v
    ·subst e
     simp [hv]
     simpa using Nat.lt_succ_of_le hle
    ·have := ih (by rcases List.mem_cons.1 h with h | h; exact absurd h.symm e; exact h)
     by_cases hL : L a
     ·simp [hL, e]; simpa using this
     ·simp [hL]; simpa using this
  exact key _ (List.mem_range.2 hvn)
 omega
theorem dirac (hs : ∀ a b, adj a b = adj b a) (hi : ∀ a, adj a a = false) (n : Nat) : ∀ (d : Nat) (L : Nat → Prop), cnt n L ≤ d → (∀ x, L x → x < n) → HP adj L → ∀ v, L v → (∃ x, Far adj L v x) → ∃ x, Far adj L v x ∧ SimpP adj L x := by
  intro d
  induction d with
  | zero =>
    intro L hc hn _ v hv _
    have : 0 < cnt n L := by
      unfold cnt
      exact List.countP_pos_iff.2 ⟨v, List.mem_range.2 (hn v hv), decide_eq_true hv⟩
    omega
  | succ d ih =>
    intro L hc hn hH v hv hex
    obtain ⟨c0, hc0⟩ := hex
    -- a part of what is far from v, and what is next to it
    let C : Nat → Prop := fun x => Reach adj (Far adj L v) c0 x
    let S : Nat → Prop := fun x => L x ∧ adj v x = true ∧ ∃ c, C c ∧ adj x c = true
    have hCfar : ∀ x, C x → Far adj L v x := fun x hx => hx.snd
    have hCclosed : ∀ x y, C x → L y → adj x y = true → C y ∨ S y := by
      intro x y hx hy hxy
      have hfx := hCfar x hx
      by_cases hvy : adj v y = true
      · exact Or.inr ⟨hy, hvy, x, hx, by rw [hs]; exact hxy⟩
      · have hyv : y ≠ v := fun e => by
          rw [e, hs, hfx.2.2] at hxy; cases hxy
        exact Or.inl (Reach.step hx ⟨hy, hyv, by simpa using hvy⟩ hxy)
    have hSclique : ∀ a b, S a → S b → a ≠ b → adj a b = true := by
      rintro a b ⟨ha, hva, c, hc, hac⟩ ⟨hb, hvb, e, he, hbe⟩ hab
      apply Classical.byContradiction
      intro hno
      exact hH v a b hv ha hb hva hvb hab (by simpa using hno) c e hac hbe ((Reach.symm hs hc).trans he)
    -- a node of C whose neighbours in C and S are a clique does for L
    have lift : ∀ x, C x → (∀ a b, (C a ∨ S a) → (C b ∨ S b) → adj x a = true → adj x b = true → a ≠ b → adj a b = true) → ∃ x, Far adj L v x ∧ SimpP adj L x := by
      intro x hx h
      exact ⟨x, hCfar x hx, fun a b ha hb hxa hxb hab => h a b (hCclosed x a hx ha hxa) (hCclosed x b hx hb hxb) hxa hxb hab⟩
    have hsub : ∀ x, C x ∨ S x → L x := fun x hx => by
      rcases hx with hx | hx
      · exact (hCfar x hx).1
      · exact hx.1
    have hvn : ¬ (C v ∨ S v) := by
      rintro (h | h)
      · exact (hCfar v h).2.1 rfl
      · have := h.2.1; rw [hi] at this; cases this
    have hlt := cnt_lt (n := n) (M := fun x => C x ∨ S x) hsub hv hvn (hn v hv)
    have hC0 : C c0 := .refl hc0
    by_cases h1 : ∃ s, S s ∧ ∃ x, Far adj (fun x => C x ∨ S x) s x
    · obtain ⟨s, hss, hx⟩ := h1
      obtain ⟨x, hfx, hsx⟩ := ih (fun x => C x ∨ S x) (by omega) (fun x hx => hn x (hsub x hx)) (hH.sub hsub) s (Or.inr hss) hx
      have hxC : C x := by
        rcases hfx.1 with h | h
        · exact h
        · have := hSclique s x hss h (fun e => hfx.2.1 e.symm)
          rw [hfx.2.2] at this; cases this
      exact lift x hxC hsx
    · have hfull : ∀ s x, S s → (C x ∨ S x) → x ≠ s → adj s x = true := by
        intro s x hss hx hne
        apply Classical.byContradiction
        intro hno
        exact h1 ⟨s, hss, x, hx, hne, by simpa using hno⟩
      -- C alone
      have hltC := cnt_lt (n := n) (M := C) (fun x hx => hsub x (Or.inl hx)) hv (fun h => hvn (Or.inl h)) (hn v hv)
      have hsC : ∃ x, C x ∧ SimpP adj C x := by
        by_cases h2 : ∃ y, C y ∧ ∃ x, Far adj C y x
        · obtain ⟨y, hy, hx⟩ := h2
          obtain ⟨x, hfx, hsx⟩ := ih C (by omega) (fun x hx => hn x (hsub x (Or.inl hx))) (hH.sub fun x hx => hsub x (Or.inl hx)) y hy hx
          exact ⟨x, hfx.1, hsx⟩
        · refine ⟨c0, hC0, fun a b ha hb _ _ hab => ?_⟩
          apply Classical.byContradiction
          intro hno
          exact h2 ⟨a, ha, b, hb, fun e => hab e.symm, by simpa using hno⟩
      obtain ⟨x, hx, hsx⟩ := hsC
      refine lift x hx fun a b ha hb hxa hxb hab => ?_
      rcases ha with ha | ha
      · rcases hb with hb | hb
        · exact hsx a b ha hb hxa hxb hab
        · rw [hs]; exact hfull b a hb (Or.inl ha) hab
      · exact hfull a b ha hb (fun e => hab e.symm)
/-- A graph with nodes in which no way leads past a node so has a node whose neighbours are a clique. -/
theorem dirac_one (hs : ∀ a b, adj a b = adj b a) (hi : ∀ a, adj a a = false) (n : Nat) (hn : ∀ x, L x → x < n) (hH : HP adj L) (v : Nat) (hv : L v) : ∃ x, L x ∧ SimpP adj L x := by
 by_cases h2 : ∃ y, L y ∧ ∃ x, Far adj L y x
 ·obtain ⟨y, hy, hx⟩ := h2
  obtain ⟨x, hfx, hsx⟩ := dirac hs hi n _ L (Nat.le_refl _) hn hH y hy hx
  exact ⟨x, hfx.1, hsx⟩
 ·refine ⟨v, hv, fun a b ha hb _ _ hab => ?_⟩
  apply Classical.byContradiction
  intro hno
  exact h2 ⟨a, ha, b, hb, fun e => hab e.symm, by simpa using hno⟩
end
end Go.Proofs.Ytdpolfflemocaaa.Di
namespace Go.Proofs.Ytdpolfflemocaaa.Pure
open Go Go.RowKit Go.Proofs.YtdpolfflemocaaaW.PrintWords Go.Proofs.YtdpolfflemocaaaW.PrintLast Go.Proofs.YtdpolfflemocaaaW.PrintMore Go.Proofs.Ytdpolfflemocaaa.Cl Go.Proofs.Ytdpolfflemocaaa.Own Go.Proofs.Ytdpolfflemocaaa.Rx Go.Proofs.Ytdpolfflemocaaa.Rw
set_option linter.unusedVariables false
set_option linter.unusedSimpArgs false
open Classical
theorem nd_strike (x i : Nat) (hx : x < 4294967296) (hi : i < 32) : nd (x &&& (4294967295 - 2 ^ i)) = (nd x).erase i := by
 rw [List.Nodup.erase_eq_filter (nd_nodup x)]
 unfold nd
 rw [List.filter_filter]
 apply List.filter_congr
 intro j _
 rw [strike_bit x i j hx hi]
 by_cases h : i = j
 ·subst h; simp
 ·simp [h, show ¬ j = i from fun e => h e.symm]
noncomputable def ordR (acc : List Nat) : Option (List Nat) → List Int × Bool
  | some o => (il (acc ++ o), true)
  | none => ([], false)
theorem order_ev (n : Nat) (es : List S52) (g : List Nat) (G : Gr g) (hg : g.length = n) (hga : ∀ a b : Nat, ad g a b = nr es a b) : Ev (fun k => rib_graph_order.f k (il g)) (ordR [] (elim es n (List.range n))) := by
 have hn31 : n ≤ 31 := by have := G.le; omega
 have main : ∀ (d mask : Nat) (acc : List Nat), (nd mask).length ≤ d → mask < 2 ^ n → acc.length + (nd mask).length ≤ 1000 → Ev (fun k => rib_graph_order.l0 k (il g) (il acc) (mask : Int)) (ordR acc (elim es d (nd mask))) := by
  intro d
  induction d with
  | zero =>
   intro mask acc hd hm ha
   have hm32 : mask < 4294967296 := Nat.lt_trans hm (pow_u32 (by omega))
   have h0 := nd_nil hm32 (List.length_eq_zero_iff.1 (by omega))
   subst h0
   refine Ev.step (f := fun _ => some (il acc, true)) (fun k => ?_) (by simpa [elim, ordR] using Ev.now _)
   simp [rib_graph_order.l0]
  | succ d ih =>
   intro mask acc hd hm ha
   have hm32 : mask < 4294967296 := Nat.lt_trans hm (pow_u32 (by omega))
   by_cases h0 : nd mask = []
   ·have h1 := nd_nil hm32 h0
    subst h1
    have e : elim es (d + 1) (nd 0) = some [] := by rw [h0]; simp [elim]
    rw [e]
    refine Ev.step (f := fun _ => some (il acc, true)) (fun k => ?_) (by simpa [ordR] using Ev.now _)
    simp [rib_graph_order.l0]
   ·have hmz : ¬ (mask : Int) = 0 := fun e => h0 (by rw [show mask = 0 by omega]; decide)
    have hnl : (nd mask).length ≤ 32 := by unfold nd; exact Nat.le_trans (List.length_filter_le _ _) (by simp)
    have hlt : ∀ v ∈ nd mask, v < n := fun v hv => (lt_pow_iff mask n).1 hm v ((mem_nd hm32).1 hv)
    have hcl : ∀ v, v < n → (CliqueS g (g.getD v 0 &&& mask) ↔ Simp es (nd mask) v) := by
     intro v hv
     have hb : ∀ j, (g.getD v 0 &&& mask).testBit j = true ↔ adjE es v j = true ∧ j ∈ nd mask := by
      intro j
      rw [Nat.testBit_and, Bool.and_eq_true, mem_nd hm32]
      have e : (g.getD v 0).testBit j = adjE es v j := hga _ _
      rw [e]
     unfold CliqueS Simp
     constructor
     ·exact fun h a b ha' hb' haa hab hne => by show nr es a b = true; rw [← hga]; exact h a b ((hb a).2 ⟨haa, ha'⟩) ((hb b).2 ⟨hab, hb'⟩) hne
     ·exact fun h a b ha' hb' hne => by rw [hga]; exact h a b ((hb a).1 ha').2 ((hb b).1 hb').2 ((hb a).1 ha').1 ((hb b).1 hb').1 hne
    have inner : ∀ (e p : Nat), p + e = (nd mask).length → (∀ j (hj : j < (nd mask).length), j < p → ¬ Simp es (nd mask) (nd mask)[j]) → Ev (fun k => rib_graph_order.l1 k (il g) (il acc) (mask : Int) (il (nd mask)) ((nd mask).length : Int) (p : Int)) (ordR acc (elim es (d + 1) (nd mask))) := by
     intro e
     induction e with
     | zero =>
      intro p hp hno
      have hfind : (nd mask).find? (fun v => decide (Simp es (nd mask) v)) = none := by
       rw [List.find?_eq_none]
       intro v hv
       obtain ⟨j, hj, rfl⟩ := List.getElem_of_mem hv
       simpa using hno j hj (by omega)
      have e2 : elim es (d + 1) (nd mask) = none := by rw [elim, hfind]; simp [h0]
      rw [e2]
      refine Ev.step (f := fun _ => some ([], false)) (fun k => ?_) (Ev.now _)
      simp only [rib_graph_order.l1]
      rw [if_neg (by omega)]
     | succ e ihe =>
      intro p hp hno
      have hpl : p < (nd mask).length := by omega
      have hv := hlt _ (List.getElem_mem hpl)
      have hgu := G.u32 (nd mask)[p]
      have ev := gclique_ev g G (g.getD (nd mask)[p] 0 &&& mask) (and_u32 hgu) (fun j hj => by
       rw [Nat.testBit_and, Bool.and_eq_true] at hj
       exact G.lt (i := (nd mask)[p]) hj.1)
      by_cases hs : Simp es (nd mask) (nd mask)[p]
      ·rw [decide_eq_true ((hcl _ hv).2 hs)] at ev
       have hfind : (nd mask).find? (fun v => decide (Simp es (nd mask) v)) = some (nd mask)[p] := by
        rw [List.find?_eq_some_iff_getElem]
        exact ⟨decide_eq_true hs, p, hpl, rfl, fun j hj => by simpa using hno j (by omega) hj⟩
       have hle : ((nd mask).erase (nd mask)[p]).length = (nd mask).length - 1 := List.length_erase_of_mem (List.getElem_mem hpl)
       have hstr := nd_strike mask (nd mask)[p] hm32 (by omega)
       have hm2 : mask &&& (4294967295 - 2 ^ (nd mask)[p]) < 2 ^ n := Nat.lt_of_le_of_lt Nat.and_le_left hm
       have ih2 := ih (mask &&& (4294967295 - 2 ^ (nd mask)[p])) (acc ++ [(nd mask)[p]]) (by rw [hstr, hle]; omega) hm2 (by rw [hstr, hle, List.length_append]; simp; omega)
       rw [hstr] at ih2
       have e2 : ordR acc (elim es (d + 1) (nd mask)) = ordR (acc ++ [(nd mask)[p]]) (elim es d ((nd mask).erase (nd mask)[p])) := by
        rw [elim, hfind]
        show ordR acc (Option.map ((nd mask)[p] :: ·) (elim es d ((nd mask).erase (nd mask)[p]))) = _
        generalize elim es d ((nd mask).erase (nd mask)[p]) = z
        cases z with
        | none => rfl
        | some o => simp [ordR]
       rw [e2]
       obtain ⟨K1, h1⟩ := ev
       obtain ⟨K2, h2⟩ := ih2
       refine ⟨K1 + K2 + 1, fun k hk => ?_⟩
       obtain ⟨k, rfl⟩ : ∃ j, k = j + 1 := ⟨k - 1, by omega⟩
       have a1 := h1 k (by omega)
       have a2 := h2 k (by omega)
       dsimp only at a1 a2
       simp only [rib_graph_order.l1]
       rw [if_pos (by omega), if_pos (by omega), il_len, if_pos (by omega), rd_nat_get _ _ hpl, if_pos (by omega), il_len, if_pos (by omega), il_rd _ _ (by omega), u32_and_nat _ _ hgu hm32, a1, Option.bind_some, if_pos rfl, il_len, if_pos (by omega), one_nat _ (by omega), Option.bind_some, u32_andNot_nat _ _ hm32 (pow_u32 (by omega)), show il acc ++ [((nd mask)[p] : Int)] = il (acc ++ [(nd mask)[p]]) by rw [il_app]; rfl]
       exact a2
      ·rw [decide_eq_false (fun h => hs ((hcl _ hv).1 h))] at ev
       have ih2 := ihe (p + 1) (by omega) (fun j hj hjp => by
        by_cases e : j = p
        ·subst e; exact hs
        ·exact hno j hj (by omega))
       obtain ⟨K1, h1⟩ := ev
       obtain ⟨K2, h2⟩ := ih2
       refine ⟨K1 + K2 + 1, fun k hk => ?_⟩
       obtain ⟨k, rfl⟩ : ∃ j, k = j + 1 := ⟨k - 1, by omega⟩
       have a1 := h1 k (by omega)
       have a2 := h2 k (by omega)
       dsimp only at a1 a2
       simp only [rib_graph_order.l1]
       rw [if_pos (by omega), if_pos (by omega), il_len, if_pos (by omega), rd_nat_get _ _ hpl, if_pos (by omega), il_len, if_pos (by omega), il_rd _ _ (by omega), u32_and_nat _ _ hgu hm32, a1, Option.bind_some, if_neg (by simp), wrap_up p (by omega)]
       exact a2
    obtain ⟨K, hK⟩ := inner (nd mask).length 0 (by omega) (fun j hj hjp => by omega)
    refine ⟨K + 40, fun k hk => ?_⟩
    obtain ⟨k, rfl⟩ : ∃ j, k = j + 1 := ⟨k - 1, by omega⟩
    have a1 := hK k (by omega)
    dsimp only at a1
    simp only [rib_graph_order.l0]
    rw [if_neg hmz, list_f _ _ (by omega), Option.bind_some, nodes_nat _ hm32, il_len]
    exact a1
 have hall : nd (2 ^ n - 1) = List.range n := by
  unfold nd
  rw [show (32 : Nat) = n + (32 - n) by omega, List.range_add, List.filter_append]
  rw [show (List.range n).filter (fun x => Nat.testBit (2 ^ n - 1) x) = List.range n from List.filter_eq_self.2 fun a ha => by rw [all_bit]; simpa using ha]
  rw [show ((List.range (32 - n)).map (n + ·)).filter (fun x => Nat.testBit (2 ^ n - 1) x) = [] from ?_, List.append_nil]
  apply List.filter_eq_nil_iff.2
  intro a ha
  obtain ⟨j, _, rfl⟩ := List.mem_map.1 ha
  rw [all_bit]; simp
 have h1 : 1 ≤ 2 ^ n := Nat.pos_of_ne_zero (by simp)
 have h := main n (2 ^ n - 1) [] (by rw [hall]; simp) (by omega) (by rw [hall]; simp; omega)
 rw [hall] at h
 refine Ev.congr (fun k => ?_) h
 unfold rib_graph_order.f
 rw [all_f g (by omega), Option.bind_some, hg]
 rfl
theorem elim_spec (es : List S52) : ∀ (d : Nat) (left o : List Nat), left.length ≤ d → elim es d left = some o → o.Perm left ∧ ElimP es o := by
 intro d
 induction d with
 | zero =>
  intro left o hd h
  obtain rfl : left = [] := List.length_eq_zero_iff.1 (by omega)
  simp [elim] at h
  subst h
  exact ⟨List.Perm.refl _, trivial⟩
 | succ d ih =>
  intro left o hd h
  rw [elim] at h
  cases hf : left.find? (fun v => decide (Simp es left v)) with
  | none =>
   rw [hf] at h
   simp only at h
   split at h
   ·rename_i h0
    subst h0
    obtain rfl := Option.some.inj h
    exact ⟨List.Perm.refl _, trivial⟩
   ·cases h
  | some v =>
   rw [hf] at h
   simp only [Option.map_eq_some_iff] at h
   obtain ⟨o', ho', rfl⟩ := h
   have hv : v ∈ left := List.mem_of_find?_eq_some hf
   have hs : Simp es left v := by simpa using List.find?_some hf
   have hle : (left.erase v).length = left.length - 1 := List.length_erase_of_mem hv
   have hpos := List.length_pos_of_mem hv
   obtain ⟨p1, p2⟩ := ih (left.erase v) o' (by omega) ho'
   refine ⟨(p1.cons v).trans (List.perm_cons_erase hv).symm, fun a b ha hb => hs a b (List.mem_of_mem_erase (p1.mem_iff.1 ha)) (List.mem_of_mem_erase (p1.mem_iff.1 hb)), p2⟩
/-- A ring has no elimination order. -/
theorem ring_no_elim (es : List S52) (r : List Nat) (hr : RingP es (il r)) : ∀ o : List Nat, ElimP es o → (∀ x ∈ r, x ∈ o) → False := by
  have hga : ∀ x y : Nat, ad [] x y = ad [] x y := fun _ _ => rfl
  obtain ⟨h4, hp⟩ := hr
  rw [il_len] at h4 hp
  have pr : ∀ i k, k < i → i < r.length → q r i ≠ q r k ∧ adjE es (q r i) (q r k) = nxt r.length i k := by
    intro i k hk hi
    have := hp i k hk hi
    unfold PairOk at this
    rw [il_rd _ _ hi, il_rd _ _ (by omega), il_len] at this
    exact ⟨fun e => this.1 (by unfold q at e; omega), this.2⟩
  intro o
  induction o with
  | nil =>
    intro _ hin
    have : q r 0 ∈ r := q_mem (by omega)
    have := hin _ this
    cases this
  | cons v o ih =>
    intro he hin
    by_cases hv : v ∈ r
    · obtain ⟨i, hi, rfl⟩ := List.getElem_of_mem hv
      have hqi : r[i] = q r i := by unfold q; simp [hi]
      rw [hqi] at he
      have key : ∀ x y, x < r.length → y < r.length → x ≠ i → y ≠ i → y < x → adjE es (q r i) (q r x) = true → adjE es (q r i) (q r y) = true → adjE es (q r x) (q r y) = true := by
        intro x y hx hy hxi hyi hxy h1 h2
        have inn : ∀ z, z < r.length → z ≠ i → q r z ∈ o := by
          intro z hz hzi
          have := hin _ (q_mem hz)
          rw [hqi] at this
          rcases List.mem_cons.1 this with e | e
          · exfalso
            rcases Nat.lt_trichotomy z i with h | h | h
            · exact (pr i z h hi).1 e.symm
            · exact hzi h
            · exact (pr z i h hz).1 e
          · exact e
        exact he.1 _ _ (inn x hx hxi) (inn y hy hyi) h1 h2 (pr x y hxy hx).1
      have up : ∀ k, k < i → nxt r.length i k = true → adjE es (q r i) (q r k) = true := fun k hk h => by rw [(pr i k hk hi).2]; exact h
      have dn : ∀ k, i < k → k < r.length → nxt r.length k i = true → adjE es (q r i) (q r k) = true := fun k hk hkl h => by rw [adjE_symm, (pr k i hk hkl).2]; exact h
      by_cases h0 : i = 0
      · subst h0
        have h := key (r.length - 1) 1 (by omega) (by omega) (by omega) (by omega) (by omega) (dn _ (by omega) (by omega) (decide_eq_true (by omega))) (dn _ (by omega) (by omega) (decide_eq_true (by omega)))
        rw [(pr (r.length - 1) 1 (by omega) (by omega)).2] at h
        have := of_decide_eq_true h
        omega
      · by_cases h1 : i + 1 = r.length
        · have h := key (i - 1) 0 (by omega) (by omega) (by omega) (by omega) (by omega) (up _ (by omega) (decide_eq_true (by omega))) (up _ (by omega) (decide_eq_true (by omega)))
          rw [(pr (i - 1) 0 (by omega) (by omega)).2] at h
          have := of_decide_eq_true h
          omega
        · have h := key (i + 1) (i - 1) (by omega) (by omega) (by omega) (by omega) (by omega) (dn _ (by omega) (by omega) (decide_eq_true (by omega))) (up _ (by omega) (decide_eq_true (by omega)))
          rw [(pr (i + 1) (i - 1) (by omega) (by omega)).2] at h
          have := of_decide_eq_true h
          omega
    · exact ih he.2 fun x hx => by
        rcases List.mem_cons.1 (hin x hx) with e | e
        · exact absurd (e ▸ hx) hv
        · exact e
def byS (g : List Nat) (n i : Nat) : Nat := (2 ^ n - 1 &&& (4294967295 - g.getD i 0)) &&& (4294967295 - 2 ^ i)
theorem byS_bit (g : List Nat) (G : Gr g) (n i y : Nat) (hn : n ≤ 31) (hi : i < n) : (byS g n i).testBit y = true ↔ y < n ∧ ad g i y = false ∧ y ≠ i := by
 have h1 : 2 ^ n - 1 < 4294967296 := by have := pow_u32 (show n < 32 by omega); omega
 unfold byS
 rw [strike_bit _ _ _ (and_u32 h1) (by omega), sub_bit _ _ _ h1 (G.u32 i), all_bit]
 simp only [Bool.and_eq_true, decide_eq_true_eq, Bool.not_eq_true', ne_eq]
 exact ⟨fun ⟨⟨a, b⟩, c⟩ => ⟨a, b, fun e => c e.symm⟩, fun ⟨a, b, c⟩ => ⟨⟨a, b⟩, fun e => c e.symm⟩⟩
def GoodR (es : List S52) (n : Nat) (l : List Nat) : Prop := (∀ x ∈ l, x < n) ∧ RingP es (il l)
def Res (es : List S52) (n : Nat) (X : Nat → Option (List Int)) (N : Prop) : Prop := ∃ l : List Nat, Ev X (il l) ∧ (l ≠ [] → GoodR es n l) ∧ (l = [] → N)
def Cond (g : List Nat) (n i a b : Nat) : Prop := a < b → ad g a b = false → NoWay g a b (byS g n i)
theorem way_ring (es : List S52) (g : List Nat) (G : Gr g) (n : Nat) (hn : n ≤ 31) (hga : ∀ x y : Nat, ad g x y = nr es x y) {i a b : Nat} (hi : i < n) (hia : ad g i a = true) (hib : ad g i b = true) (hab : ad g a b = false) (hne : a ≠ b) {r : List Nat} (w : Way g n a b (byS g n i) r) : GoodR es n (r ++ [i]) := by
 have hia' : i ≠ a := fun e => by rw [← e, G.irr] at hia; cases hia
 have hib' : i ≠ b := fun e => by rw [← e, G.irr] at hib; cases hib
 have wf := w.fst
 have wl := w.lst
 have wp := w.pos
 -- the way has three nodes at least
 have hlen : 3 ≤ r.length := by
  apply Classical.byContradiction
  intro h
  by_cases h1 : r.length = 1
  ·rw [h1] at wl; exact hne (wf.symm.trans wl)
  ·have h2 : r.length = 2 := by omega
   have := (w.ch 0 1 (by omega) (by omega)).2
   rw [h2] at wl
   rw [wf, wl, hab] at this
   simp at this
 have hlast : ∀ j, j < r.length → q r j = b → j = r.length - 1 := by
  intro j hj e
  apply Classical.byContradiction
  intro hne2
  exact (w.ch j (r.length - 1) (by omega) (by omega)).1 (by rw [e, wl])
 have hin : ∀ j, 1 ≤ j → j < r.length - 1 → ad g i (q r j) = false ∧ q r j ≠ i := by
  intro j h1 h2
  rcases w.ok j h1 (by omega) with h | h
  ·have := (byS_bit g G n i _ hn hi).1 h
   exact ⟨this.2.1, this.2.2⟩
  ·have := hlast j (by omega) h; omega
 refine ⟨fun x hx => ?_, by rw [il_len]; simp; omega, fun s t hts hs => ?_⟩
 ·rcases List.mem_append.1 hx with hx | hx
  ·obtain ⟨j, hj, rfl⟩ := List.getElem_of_mem hx
   have := w.lt j hj
   unfold q at this; simpa [hj] using this
  ·simp at hx; omega
 ·rw [il_len] at hs
  simp at hs
  unfold PairOk
  rw [il_rd _ _ (by simp; omega), il_rd _ _ (by simp; omega), il_len]
  have hq : ∀ z, z < (r ++ [i]).length → (r ++ [i]).getD z 0 = q (r ++ [i]) z := fun z _ => rfl
  rw [hq s (by simp; omega), hq t (by simp; omega)]
  rw [← hga]
  have hll : (r ++ [i]).length = r.length + 1 := by simp
  rw [hll]
  by_cases e : s = r.length
  ·subst e
   rw [q_new, q_app _ hts]
   by_cases h0 : t = 0
   ·subst h0
    rw [wf]
    exact ⟨by omega, by rw [hia]; unfold nxt; exact (decide_eq_true (by omega)).symm⟩
   ·by_cases h1 : t = r.length - 1
    ·rw [h1, wl]
     exact ⟨by omega, by rw [hib]; unfold nxt; exact (decide_eq_true (by omega)).symm⟩
    ·have := hin t (by omega) (by omega)
     exact ⟨by omega, by rw [this.1]; unfold nxt; exact (decide_eq_false (by omega)).symm⟩
  ·rw [q_app _ (by omega), q_app _ (by omega)]
   obtain ⟨w1, w2⟩ := w.ch t s hts (by omega)
   refine ⟨by omega, ?_⟩
   rw [G.sym, w2]
   unfold nxt
   exact decide_eq_decide.2 (by omega)
theorem ring_l2 (es : List S52) (g : List Nat) (G : Gr g) (n : Nat) (hg : g.length = n) (hga : ∀ x y : Nat, ad g x y = nr es x y) (i : Nat) (hi : i < n) (near : List Nat) (hnear : near = nd (g.getD i 0)) (p : Nat) (hp : p < near.length) (N : Prop)
  (hN : Res es n (fun k => rib_graph_ring.l1 k (il g) (i : Int) (il near) (n : Int) (i : Int) (il near) (near.length : Int) ((p + 1 : Nat) : Int)) N) :
  ∀ (e s : Nat), s + e = near.length → Res es n (fun k => rib_graph_ring.l2 k (il g) (i : Int) (il near) (near[p] : Int) (n : Int) (i : Int) (il near) (near.length : Int) (p : Int) (il near) (near.length : Int) (s : Int)) (N ∧ ∀ b ∈ near.drop s, Cond g n i near[p] b) := by
 have hn31 : n ≤ 31 := by have := G.le; omega
 have hgu := G.u32 i
 have hmem : ∀ y, y ∈ near ↔ ad g i y = true := fun y => by rw [hnear, mem_nd hgu]; rfl
 have hnl : near.length ≤ 32 := by rw [hnear]; unfold nd; exact Nat.le_trans (List.length_filter_le _ _) (by simp)
 have ha := (hmem _).1 (List.getElem_mem hp)
 have han : near[p] < n := by have := G.lt ha; omega
 intro e
 induction e with
 | zero =>
  intro s hs
  obtain ⟨l, ev, l1, l2⟩ := hN
  refine ⟨l, Ev.step (fun k => ?_) ev, l1, fun h => ⟨l2 h, fun b hb => by rw [List.drop_eq_nil_of_le (by omega)] at hb; cases hb⟩⟩
  simp only [rib_graph_ring.l2]
  rw [if_neg (by omega), wrap_up p (by omega)]
 | succ e ih =>
  intro s hs
  have hsl : s < near.length := by omega
  have hb := (hmem _).1 (List.getElem_mem hsl)
  have hbn : near[s] < n := by have := G.lt hb; omega
  obtain ⟨l, ev, r1, r2⟩ := ih (s + 1) (by omega)
  have hgua := G.u32 near[p]
  have e1 : ∀ k, rib_graph_ring.l2 (k + 1) (il g) (i : Int) (il near) (near[p] : Int) (n : Int) (i : Int) (il near) (near.length : Int) (p : Int) (il near) (near.length : Int) (s : Int) = if ((near[p] : Nat) : Int) ≥ ((near[s] : Nat) : Int) then rib_graph_ring.j3 k (il g) (i : Int) (il near) (near[p] : Int) (near[s] : Int) (n : Int) (i : Int) (il near) (near.length : Int) (p : Int) (il near) (near.length : Int) (s : Int) true else rib_graph_ring.j3 k (il g) (i : Int) (il near) (near[p] : Int) (near[s] : Int) (n : Int) (i : Int) (il near) (near.length : Int) (p : Int) (il near) (near.length : Int) (s : Int) (ad g near[p] near[s]) := by
   intro k
   simp only [rib_graph_ring.l2]
   rw [if_pos (by omega), if_pos (by omega), il_len near, if_pos (by omega), rd_nat_get _ _ hsl]
   by_cases h : ((near[p] : Nat) : Int) ≥ ((near[s] : Nat) : Int)
   ·rw [if_pos h, if_pos h]
   ·rw [if_neg h, if_neg h, if_pos (by omega), il_len g, if_pos (by omega), il_rd _ _ (by omega), has_f _ _ hgua (by omega), Option.bind_some]
    rfl
  have skip : Ev (fun k => rib_graph_ring.j3 k (il g) (i : Int) (il near) (near[p] : Int) (near[s] : Int) (n : Int) (i : Int) (il near) (near.length : Int) (p : Int) (il near) (near.length : Int) (s : Int) true) (il l) := by
   refine Ev.step (fun k => ?_) ev
   simp only [rib_graph_ring.j3]
   rw [if_pos trivial, wrap_up s (by omega)]
  have dropc : ∀ (hc : Cond g n i near[p] near[s]), (N ∧ ∀ b ∈ near.drop (s + 1), Cond g n i near[p] b) → (N ∧ ∀ b ∈ near.drop s, Cond g n i near[p] b) := fun hc h => ⟨h.1, fun b hb => by
   rw [List.drop_eq_getElem_cons hsl] at hb
   rcases List.mem_cons.1 hb with rfl | hb
   ·exact hc
   ·exact h.2 b hb⟩
  by_cases h1 : ((near[p] : Nat) : Int) ≥ ((near[s] : Nat) : Int)
  ·exact ⟨l, Ev.step (fun k => by rw [e1, if_pos h1]) skip, r1, fun h => dropc (fun hlt => by omega) (r2 h)⟩
  ·by_cases h2 : ad g near[p] near[s] = true
   ·exact ⟨l, Ev.step (fun k => by rw [e1, if_neg h1, h2]) skip, r1, fun h => dropc (fun _ hf => by rw [h2] at hf; cases hf) (r2 h)⟩
   ·have h2' : ad g near[p] near[s] = false := by simpa using h2
    have h1n : 2 ^ n - 1 < 4294967296 := by have := pow_u32 (show n < 32 by omega); omega
    have hby : byS g n i < 4294967296 := and_u32 (and_u32 h1n)
    obtain ⟨r, evw, w1, w2⟩ := way_ev g G n near[p] near[s] (byS g n i) hg han hbn hby
    have hall := all_f g (by omega)
    rw [hg] at hall
    have hbits : Go.bits .andNot .u32 (Go.bits .andNot .u32 ((2 ^ n - 1 : Nat) : Int) ((g.getD i 0 : Nat) : Int)) ((2 ^ i : Nat) : Int) = ((byS g n i : Nat) : Int) := by
     rw [u32_andNot_nat _ _ h1n hgu, u32_andNot_nat _ _ (and_u32 h1n) (pow_u32 (by omega))]; rfl
    have e3 : ∀ k, rib_graph_ring.j3 (k + 1) (il g) (i : Int) (il near) (near[p] : Int) (near[s] : Int) (n : Int) (i : Int) (il near) (near.length : Int) (p : Int) (il near) (near.length : Int) (s : Int) false = (rib_graph_way.f k (il g) (near[p] : Int) (near[s] : Int) ((byS g n i : Nat) : Int)).bind fun t144 => ((not_nil.f t144).bind fun t147 => (if t147 = true then (if t144.length < 17592186044416 then (some (t144 ++ [(i : Int)])) else (none)) else (rib_graph_ring.l2 k (il g) (i : Int) (il near) (near[p] : Int) (n : Int) (i : Int) (il near) (near.length : Int) (p : Int) (il near) (near.length : Int) ((s + 1 : Nat) : Int)))) := by
     intro k
     simp only [rib_graph_ring.j3]
     rw [if_neg (by simp), hall, Option.bind_some, if_pos (by omega), il_len g, if_pos (by omega), one_nat i (by omega), Option.bind_some, il_rd _ _ (by omega), hbits, wrap_up s (by omega)]
    obtain ⟨K1, k1⟩ := evw
    by_cases hr : r = []
    ·subst hr
     obtain ⟨K2, k2⟩ := ev
     refine ⟨l, ⟨K1 + K2 + 2, fun k hk => ?_⟩, r1, fun h => dropc (fun _ _ => w1 rfl) (r2 h)⟩
     obtain ⟨k, rfl⟩ : ∃ j, k = j + 2 := ⟨k - 2, by omega⟩
     have a1 := k1 k (by omega)
     have a2 := k2 k (by omega)
     dsimp only at a1 a2
     show rib_graph_ring.l2 (k + 1 + 1) _ _ _ _ _ _ _ _ _ _ _ _ = _
     rw [e1, if_neg h1, h2', e3, a1, Option.bind_some]
     unfold not_nil.f
     rw [Option.bind_some, if_neg (by simp [il]), a2]
    ·have hgood := way_ring es g G n hn31 hga hi ha hb h2' (by omega) (w2 hr)
     have hw := w2 hr
     have hrl : r.length ≤ n := by
      have hnd : r.Nodup := by
       rw [List.nodup_iff_pairwise_ne, List.pairwise_iff_getElem]
       intro x y hx hy hxy e
       have := (hw.ch x y hxy hy).1
       unfold q at this
       simp [hx, hy, e] at this
      have := (pig r (List.range n) hnd fun x hx => by
       obtain ⟨j, hj, rfl⟩ := List.getElem_of_mem hx
       have := hw.lt j hj
       rw [show r[j] = q r j by unfold q; simp [hj]]
       exact List.mem_range.2 this).1
      rwa [List.length_range] at this
     refine ⟨r ++ [i], ⟨K1 + 2, fun k hk => ?_⟩, fun _ => hgood, fun h => by simp at h⟩
     obtain ⟨k, rfl⟩ : ∃ j, k = j + 2 := ⟨k - 2, by omega⟩
     have a1 := k1 k (by omega)
     dsimp only at a1
     show rib_graph_ring.l2 (k + 1 + 1) _ _ _ _ _ _ _ _ _ _ _ _ = _
     rw [e1, if_neg h1, h2', e3, a1, Option.bind_some]
     unfold not_nil.f
     rw [Option.bind_some, if_pos (by rw [il_len]; have := hw.pos; simp; omega), if_pos (by rw [il_len]; omega), il_app]
     rfl
theorem ring_l1' (es : List S52) (g : List Nat) (G : Gr g) (n : Nat) (hg : g.length = n) (hga : ∀ x y : Nat, ad g x y = nr es x y) (i : Nat) (hi : i < n) (near : List Nat) (hnear : near = nd (g.getD i 0)) (N : Prop) (hN : Res es n (fun k => rib_graph_ring.l0 k (il g) (n : Int) ((i + 1 : Nat) : Int)) N) :
  ∀ (e p : Nat), p + e = near.length → Res es n (fun k => rib_graph_ring.l1 k (il g) (i : Int) (il near) (n : Int) (i : Int) (il near) (near.length : Int) (p : Int)) (N ∧ ∀ a ∈ near.drop p, ∀ b ∈ near, Cond g n i a b) := by
 have hnl : near.length ≤ 32 := by rw [hnear]; unfold nd; exact Nat.le_trans (List.length_filter_le _ _) (by simp)
 have hn31 : n ≤ 31 := by have := G.le; omega
 intro e
 induction e with
 | zero =>
  intro p hp
  obtain ⟨l, ev, l1, l2⟩ := hN
  refine ⟨l, Ev.step (fun k => ?_) ev, l1, fun h => ⟨l2 h, fun b hb => by rw [List.drop_eq_nil_of_le (by omega)] at hb; cases hb⟩⟩
  simp only [rib_graph_ring.l1]
  rw [if_neg (by omega), wrap_up i (by omega)]
 | succ e ih =>
  intro p hp
  have hpl : p < near.length := by omega
  obtain ⟨l, ev, r1, r2⟩ := ring_l2 es g G n hg hga i hi near hnear p hpl _ (ih (p + 1) (by omega)) near.length 0 (by omega)
  refine ⟨l, Ev.step (fun k => ?_) ev, r1, fun h => ?_⟩
  ·simp only [rib_graph_ring.l1]
   rw [if_pos (by omega), if_pos (by omega), il_len near, if_pos (by omega), rd_nat_get _ _ hpl]
   rfl
  ·obtain ⟨⟨h1, h2⟩, h3⟩ := r2 h
   refine ⟨h1, fun a ha b hb => ?_⟩
   rw [List.drop_eq_getElem_cons hpl] at ha
   rcases List.mem_cons.1 ha with rfl | ha
   ·exact h3 b (by rw [List.drop_zero]; exact hb)
   ·exact h2 a ha b hb
theorem ring_ev (es : List S52) (g : List Nat) (G : Gr g) (n : Nat) (hg : g.length = n) (hga : ∀ x y : Nat, ad g x y = nr es x y) : Res es n (fun k => rib_graph_ring.f k (il g)) (∀ i, i < n → ∀ a b, ad g i a = true → ad g i b = true → Cond g n i a b) := by
 have hn31 : n ≤ 31 := by have := G.le; omega
 have main : ∀ (e i : Nat), i + e = n → Res es n (fun k => rib_graph_ring.l0 k (il g) (n : Int) (i : Int)) (∀ j, i ≤ j → j < n → ∀ a b, ad g j a = true → ad g j b = true → Cond g n j a b) := by
  intro e
  induction e with
  | zero =>
   intro i hi
   refine ⟨[], Ev.step (f := fun _ => some (il [])) (fun k => ?_) (Ev.now _), fun h => absurd rfl h, fun _ j h1 h2 => by omega⟩
   simp only [rib_graph_ring.l0]
   rw [if_neg (by omega)]
   rfl
  | succ e ih =>
   intro i hi
   have hgu := G.u32 i
   obtain ⟨l, ev, r1, r2⟩ := ring_l1' es g G n hg hga i (by omega) _ rfl _ (ih (i + 1) (by omega)) (nd (g.getD i 0)).length 0 (by omega)
   refine ⟨l, ?_, r1, fun h => ?_⟩
   ·obtain ⟨K, hK⟩ := ev
    refine ⟨K + 40, fun k hk => ?_⟩
    obtain ⟨k, rfl⟩ : ∃ j, k = j + 1 := ⟨k - 1, by omega⟩
    have a1 := hK k (by omega)
    dsimp only at a1
    simp only [rib_graph_ring.l0]
    rw [if_pos (by omega), if_pos (by omega), il_len, if_pos (by omega), il_rd _ _ (by omega), list_f _ _ (by omega), Option.bind_some, nodes_nat _ hgu, il_len]
    exact a1
   ·obtain ⟨h1, h2⟩ := r2 h
    intro j hj hjn a b ha hb
    by_cases e : j = i
    ·subst e
     exact h2 a (by rw [List.drop_zero]; exact (mem_nd hgu).2 ha) b ((mem_nd hgu).2 hb)
    ·exact h1 j (by omega) hjn a b ha hb
 obtain ⟨l, ev, r1, r2⟩ := main n 0 (by omega)
 refine ⟨l, Ev.congr (fun k => ?_) ev, r1, fun h i hi => r2 h i (by omega) hi⟩
 unfold rib_graph_ring.f
 rw [il_len, hg]
 rfl
/-- Where no way is found the graph is chordal. -/
theorem no_ring_chordal (es : List S52) (g : List Nat) (G : Gr g) (n : Nat) (hg : g.length = n) (hga : ∀ x y : Nat, ad g x y = nr es x y) (h : ∀ i, i < n → ∀ a b, ad g i a = true → ad g i b = true → Cond g n i a b) : (elim es n (List.range n)).isSome = true := by
 have hn31 : n ≤ 31 := by have := G.le; omega
 have hH : Di.HP (adjE es) (fun x => x < n) := by
  intro i a b hi ha hb hia hib hab hn c d hc hd r
  have base : ∀ a b c d, ad g i a = true → ad g i b = true → a < b → ad g a b = false → adjE es a c = true → adjE es b d = true → Di.Reach (adjE es) (Di.Far (adjE es) (fun x => x < n) i) c d → False := by
   intro a b c d hia hib hlt hn hc hd r
   obtain ⟨P, p1, p2, p3⟩ := h i hi a b hia hib hlt hn
   have far : ∀ x, Di.Far (adjE es) (fun x => x < n) i x → (byS g n i).testBit x = true := fun x hx => (byS_bit g G n i x hn31 hi).2 ⟨hx.1, by rw [hga]; exact hx.2.2, hx.2.1⟩
   have hP : ∀ x, Di.Reach (adjE es) (Di.Far (adjE es) (fun x => x < n) i) c x → P x := by
    intro x hx
    induction hx with
    | refl hu => exact p3 a c p1 (by rw [hga]; exact hc) (Or.inl (far _ hu))
    | @step y z _ hz hyz ihx => exact p3 y z ihx (by rw [hga]; exact hyz) (Or.inl (far _ hz))
   exact p2 (p3 d b (hP d r) (by rw [hga, nr_symm]; exact hd) (Or.inr rfl))
  have hn' : ad g a b = false := by rw [hga]; exact hn
  rcases Nat.lt_or_gt_of_ne hab with hlt | hgt
  ·exact base a b c d (by rw [hga]; exact hia) (by rw [hga]; exact hib) hlt hn' hc hd r
  ·exact base b a d c (by rw [hga]; exact hib) (by rw [hga]; exact hia) hgt (by rw [G.sym]; exact hn') hd hc (Di.Reach.symm (adjE_symm es) r)
 refine elim_some es n (fun left hne hnd hlt => ?_) n _ List.nodup_range fun v hv => List.mem_range.1 hv
 obtain ⟨v, hv⟩ := List.exists_mem_of_ne_nil _ hne
 obtain ⟨x, hx, hs⟩ := Di.dirac_one (L := fun x => x ∈ left) (adjE_symm es) (adjE_irr es) n (fun x hx => hlt x hx) (hH.sub fun x hx => hlt x hx) v hv
 exact ⟨x, hx, fun a b ha hb haa hab hne => hs a b ha hb haa hab hne⟩
end Go.Proofs.Ytdpolfflemocaaa.Pure
namespace Go.Proofs.Ytdpolfflemocaaa.Pure
open Go Go.RowKit Go.Proofs.YtdpolfflemocaaaW.PrintWords Go.Proofs.YtdpolfflemocaaaW.PrintLast Go.Proofs.YtdpolfflemocaaaW.PrintMore Go.Proofs.Ytdpolfflemocaaa.Cl Go.Proofs.Ytdpolfflemocaaa.Own Go.Proofs.Ytdpolfflemocaaa.Rx Go.Proofs.Ytdpolfflemocaaa.Rw
set_option linter.unusedVariables false
set_option linter.unusedSimpArgs false
open Classical
theorem order_ok (n : Nat) (es : List S52) (g : List Nat) (G : Gr g) (hg : g.length = n) (hga : ∀ a b : Nat, ad g a b = nr es a b) (evr : Ev (fun k => rib_read.f k (n : Int) es) (il g, true)) :
  Ev (fun k => rib_Order.f k (n : Int) es) (match elim es n (List.range n) with | some o => (il o, 0) | none => ([], 5)) := by
 obtain ⟨K1, k1⟩ := evr
 obtain ⟨K2, k2⟩ := order_ev n es g G hg hga
 refine ⟨K1 + K2, fun k hk => ?_⟩
 have a1 := k1 k (by omega)
 have a2 := k2 k (by omega)
 dsimp only at a1 a2
 show rib_Order.f k (n : Int) es = _
 unfold rib_Order.f
 rw [a1, Option.bind_some]
 dsimp only
 rw [if_pos rfl, a2, Option.bind_some]
 generalize elim es n (List.range n) = z
 cases z with
 | none => rfl
 | some o => simp [ordR]
theorem order_no (n : Int) (es : List S52) (hes : es.length < 2 ^ 50) (v : ¬ Valid n es) : Ev (fun k => rib_Order.f k n es) ([], 1) := by
 obtain ⟨K1, k1⟩ := read_no n es hes v
 refine ⟨K1, fun k hk => ?_⟩
 have a1 := k1 k (by omega)
 dsimp only at a1
 show rib_Order.f k n es = _
 unfold rib_Order.f
 rw [a1, Option.bind_some]
 rfl
theorem ring_ok (n : Nat) (es : List S52) (g : List Nat) (evr : Ev (fun k => rib_read.f k (n : Int) es) (il g, true)) (l : List Nat) (hl : l.length < 2 ^ 40) (ev : Ev (fun k => rib_graph_ring.f k (il g)) (il l)) :
  Ev (fun k => rib_Ring.f k (n : Int) es) (if l = [] then ([], 5) else (il l, 0)) := by
 obtain ⟨K1, k1⟩ := evr
 obtain ⟨K2, k2⟩ := ev
 refine ⟨K1 + K2, fun k hk => ?_⟩
 have a1 := k1 k (by omega)
 have a2 := k2 k (by omega)
 dsimp only at a1 a2
 show rib_Ring.f k (n : Int) es = _
 unfold rib_Ring.f
 rw [a1, Option.bind_some]
 dsimp only
 rw [if_pos rfl, a2, Option.bind_some]
 unfold is_nil.f
 by_cases h : l = []
 ·subst h; simp [il]
 ·have : l.length ≠ 0 := fun e => h (List.length_eq_zero_iff.1 e)
  simp [il, h]
theorem ring_no (n : Int) (es : List S52) (hes : es.length < 2 ^ 50) (v : ¬ Valid n es) : Ev (fun k => rib_Ring.f k n es) ([], 1) := by
 obtain ⟨K1, k1⟩ := read_no n es hes v
 refine ⟨K1, fun k hk => ?_⟩
 have a1 := k1 k (by omega)
 dsimp only at a1
 show rib_Ring.f k n es = _
 unfold rib_Ring.f
 rw [a1, Option.bind_some]
 rfl
theorem ch_ok (n : Nat) (hn : n ≤ 100) (es : List S52) (hes : es.length < 2 ^ 50) (v : Valid n es) : Ev (fun k => gamplaw04_chordal.f k (n : Int) es) (if (elim es n (List.range n)).isSome = true then 0 else 5) := by
 have e1 := graph_ev n es hes
 rw [decide_eq_true v] at e1
 obtain ⟨K1, k1⟩ := e1
 obtain ⟨K2, k2⟩ := chordal_ev n hn es hes
 refine ⟨K1 + K2, fun k hk => ?_⟩
 have a1 := k1 k (by omega)
 have a2 := k2 k (by omega)
 dsimp only at a1 a2
 show gamplaw04_chordal.f k (n : Int) es = _
 unfold gamplaw04_chordal.f
 rw [a1, Option.bind_some, if_pos rfl, a2, Option.bind_some]
 split <;> rfl
theorem ch_no (n : Int) (es : List S52) (hes : es.length < 2 ^ 50) (v : ¬ Valid n es) : Ev (fun k => gamplaw04_chordal.f k n es) 1 := by
 have e1 := graph_ev n es hes
 rw [decide_eq_false v] at e1
 obtain ⟨K1, k1⟩ := e1
 refine ⟨K1, fun k hk => ?_⟩
 have a1 := k1 k (by omega)
 dsimp only at a1
 show gamplaw04_chordal.f k n es = _
 unfold gamplaw04_chordal.f
 rw [a1, Option.bind_some]
 rfl
theorem good_len (es : List S52) (n : Nat) (l : List Nat) (h : GoodR es n l) : l.length ≤ n := by
 have hnd : l.Nodup := by
  rw [List.nodup_iff_pairwise_ne, List.pairwise_iff_getElem]
  intro x y hx hy hxy e
  have := (h.2.2 y x hxy (by rw [il_len]; exact hy)).1
  rw [rd_nat_get _ _ hx, rd_nat_get _ _ hy] at this
  exact this (by rw [e])
 have := (pig l (List.range n) hnd fun x hx => List.mem_range.2 (h.1 x hx)).1
 rwa [List.length_range] at this
theorem orders_l0 (n : Nat) (es : List S52) (hes : es.length < 2 ^ 50) (l : List Nat) (h : GoodR es n l) (hl : l.length < 2 ^ 40) : ∀ d i, i + d = l.length → Ev (fun k => gamplaw04_RibOrders.l0 k (il l) (i : Int) (n : Int) es) true := by
 intro d
 induction d with
 | zero =>
  intro i hi
  have e := ring_ref es hes (il l) (by rw [il_len]; exact hl)
  rw [decide_eq_true h.2] at e
  refine Ev.step (fun k => ?_) e
  simp only [gamplaw04_RibOrders.l0]
  rw [il_len, if_neg (by omega)]
  cases Re.gampref04_Ring.f k es (il l) <;> rfl
 | succ d ih =>
  intro i hi
  have hil : i < l.length := by omega
  have hx := h.1 _ (List.getElem_mem hil)
  refine Ev.step (fun k => ?_) (ih (i + 1) (by omega))
  simp only [gamplaw04_RibOrders.l0]
  rw [il_len, if_pos (by omega), if_pos (by omega), rd_nat_get _ _ hil, if_neg (by omega), if_neg (by omega), wrap_up i (by omega)]
theorem ribOrders_ev (n : Int) (es : List S52) : Ev (fun k => gamplaw04_RibOrders.f k n es) true := by
 have hel : (es.take 70).length ≤ 70 := List.length_take_le _ _
 have hl5 : (es.take 70).length < 2 ^ 50 := by omega
 obtain ⟨Kl, hKl⟩ := lives_ev
 by_cases v : Valid (fewN n) (es.take 70)
 ·obtain ⟨m, hm⟩ : ∃ m : Nat, fewN n = m := ⟨(fewN n).toNat, by have := v.lo; omega⟩
  rw [hm] at v
  have hm12 := v.hi
  obtain ⟨g, evr, G, hgl, hga⟩ := read_ok m (es.take 70) hl5 v
  obtain ⟨l, evl, good, bad⟩ := ring_ev (es.take 70) g G m hgl hga
  have hll : l.length ≤ m := by
   by_cases h : l = []
   ·subst h; simp
   ·exact good_len _ _ _ (good h)
  have e1 := order_ok m _ g G hgl hga evr
  have e2 := ring_ok m _ g evr l (by omega) evl
  have e3 := ch_ok m (by omega) _ hl5 v
  cases hz : elim (es.take 70) m (List.range m) with
  | some o =>
   rw [hz] at e1 e3
   obtain ⟨hperm, he⟩ := elim_spec _ m _ _ (by simp) hz
   have hol : o.length = m := by rw [hperm.length_eq, List.length_range]
   have hnd : o.Nodup := hperm.nodup_iff.2 List.nodup_range
   have hmem : ∀ x ∈ o, x < m := fun x hx => List.mem_range.1 (hperm.mem_iff.1 hx)
   have hl0 : l = [] := by
    apply Classical.byContradiction
    intro h
    exact ring_no_elim _ l (good h).2 o he fun x hx => hperm.mem_iff.2 (List.mem_range.2 ((good h).1 x hx))
   subst hl0
   have hnat : natl (il o) = o := by unfold natl il; rw [List.map_map]; exact (List.map_congr_left fun x _ => Int.toNat_natCast x).trans (List.map_id _)
   have hP : PermP m (il o) := by
    refine ⟨fun x hx => ?_, by rw [hnat]; exact hnd, by rw [il_len]; exact hol⟩
    obtain ⟨y, hy, rfl⟩ := List.mem_map.1 hx
    have := hmem y hy
    exact ⟨by omega, by omega⟩
   have e4 := perm_ref m (by omega) (il o) (by rw [il_len]; omega)
   rw [decide_eq_true hP] at e4
   have e5 := elim_ref (es.take 70) hl5 o (by omega) hnd
   rw [decide_eq_true he] at e5
   obtain ⟨K1, k1⟩ := e1
   obtain ⟨K2, k2⟩ := e2
   obtain ⟨K3, k3⟩ := e3
   obtain ⟨K4, k4⟩ := e4
   obtain ⟨K5, k5⟩ := e5
   refine ⟨K1 + K2 + K3 + K4 + K5 + Kl, fun k hk => ?_⟩
   have a1 := k1 k (by omega)
   have a2 := k2 k (by omega)
   have a3 := k3 k (by omega)
   have a4 := k4 k (by omega)
   have a5 := k5 k (by omega)
   have a6 := hKl k (by omega)
   dsimp only at a1 a2 a3 a4 a5 a6
   show gamplaw04_RibOrders.f k n es = some true
   unfold gamplaw04_RibOrders.f
   rw [few_f, Option.bind_some, hm]
   dsimp only
   rw [a1, Option.bind_some, a2, Option.bind_some, a3, Option.bind_some]
   simp [a4, a5, a6]
  | none =>
   rw [hz] at e1 e3
   have hl0 : l ≠ [] := fun h => by
    have := no_ring_chordal (es.take 70) g G m hgl hga (bad h)
    rw [hz] at this
    cases this
   rw [if_neg hl0] at e2
   have e4 := orders_l0 m (es.take 70) hl5 l (good hl0) (by omega) l.length 0 (by omega)
   obtain ⟨K1, k1⟩ := e1
   obtain ⟨K2, k2⟩ := e2
   obtain ⟨K3, k3⟩ := e3
   obtain ⟨K4, k4⟩ := e4
   refine ⟨K1 + K2 + K3 + K4 + Kl + 1, fun k hk => ?_⟩
   obtain ⟨k, rfl⟩ : ∃ j, k = j + 1 := ⟨k - 1, by omega⟩
   have a1 := k1 (k + 1) (by omega)
   have a2 := k2 (k + 1) (by omega)
   have a3 := k3 (k + 1) (by omega)
   have a4 := k4 k (by omega)
   have a6 := hKl (k + 1) (by omega)
   dsimp only at a1 a2 a3 a4 a6
   have fin : gamplaw04_RibOrders.j0 (k + 1) (il l) (!true) (m : Int) (es.take 70) = some true := by
    simp only [gamplaw04_RibOrders.j0]
    rw [if_neg (by simp)]
    exact a4
   show gamplaw04_RibOrders.f (k + 1) n es = some true
   unfold gamplaw04_RibOrders.f
   rw [few_f, Option.bind_some, hm]
   dsimp only
   rw [a1, Option.bind_some, a2, Option.bind_some, a3, Option.bind_some]
   dsimp only
   rw [if_neg (by simp), if_neg (by simp), if_pos (by simp), if_pos rfl, if_pos rfl, a6, Option.bind_some]
   exact fin
 ·have e1 := order_no (fewN n) _ hl5 v
  have e2 := ring_no (fewN n) _ hl5 v
  have e3 := ch_no (fewN n) _ hl5 v
  obtain ⟨K1, k1⟩ := e1
  obtain ⟨K2, k2⟩ := e2
  obtain ⟨K3, k3⟩ := e3
  refine ⟨K1 + K2 + K3 + Kl, fun k hk => ?_⟩
  have a1 := k1 k (by omega)
  have a2 := k2 k (by omega)
  have a3 := k3 k (by omega)
  have a6 := hKl k (by omega)
  dsimp only at a1 a2 a3 a6
  show gamplaw04_RibOrders.f k n es = some true
  unfold gamplaw04_RibOrders.f
  rw [few_f, Option.bind_some]
  dsimp only
  rw [a1, Option.bind_some, a2, Option.bind_some, a3, Option.bind_some]
  dsimp only
  rw [if_pos rfl, if_pos (by simp [wrap64]), if_pos rfl, if_pos rfl, a6]
  rfl
end Go.Proofs.Ytdpolfflemocaaa.Pure

/- The declarations of Fw that the claim Qd needs. -/
import Derived.Test.YtiknnpfdpecfdaaQdFm
import Derived.Test.YtiknnpfdpecfdaaQdRf
namespace Go.Proofs.Ytiknnpfdpecfdaa.Own
open Go Go.RowKit Go.Proofs Go.Proofs.YtiknnpfdpecfdaaW.PrintWords Go.Proofs.YtiknnpfdpecfdaaW.PrintLast Go.Proofs.YtiknnpfdpecfdaaW.PrintMore
set_option linter.unusedVariables false
set_option linter.unusedSimpArgs false
/-- All orders that go on from one: at most n more segments are put. -/
def growF (low high : List Int) (cr : List S96) (pat : ByteArray) : Nat → List Int → List Int → List (List Int)
 | 0, order, _ => [order]
 | d + 1, order, ws => (List.range low.length).flatMap fun (s : Nat) => if ((s : Int)) ∈ order then [] else match putF low high cr pat (s : Int) ws with
  | none => []
  | some vs => growF low high cr pat d (order ++ [(s : Int)]) vs
/-- The layer of an order: where each segment lies; -1: nowhere yet. -/
def layerOf (n : Nat) (order : List Int) : List Int := (List.range n).map fun (s : Nat) => idxI order (s : Int)
theorem idxI_neg : ∀ {l : List Int} {a : Int}, idxI l a < 0 → idxI l a = -1 := by
 intro l a h
 have := idxI_range l a
 omega
theorem idxI_mem : ∀ {l : List Int} {a : Int}, 0 ≤ idxI l a ↔ a ∈ l
 | [], a => by simp [idxI]
 | x :: l, a => by
  have ih := idxI_mem (l := l) (a := a)
  have hr := idxI_range l a
  unfold idxI
  by_cases h : a = x
  ·simp [h]
  ·rw [if_neg h]
   simp only [List.mem_cons, h, false_or]
   rw [← ih]
   split <;> omega
theorem idxI_snoc {l : List Int} {a s : Int} (hs : s ∉ l) : idxI (l ++ [s]) a = if a = s then (l.length : Int) else idxI l a := by
 induction l with
 | nil =>
  by_cases h : a = s
  ·simp [idxI, h]
  ·simp [idxI, h]
 | cons x l ih =>
  simp only [List.mem_cons, not_or] at hs
  rw [List.cons_append]
  simp only [idxI]
  by_cases h : a = x
  ·have hn : ¬ a = s := fun e => hs.1 (e.symm.trans h)
   rw [if_pos h, if_neg hn, if_pos h]
  ·rw [if_neg h, if_neg h, ih hs.2]
   by_cases h2 : a = s
   ·rw [if_pos h2, if_pos h2]
    simp
    omega
   ·rw [if_neg h2, if_neg h2]
theorem layerOf_len (n : Nat) (order : List Int) : (layerOf n order).length = n := by simp [layerOf]
theorem layerOf_rd {n : Nat} {order : List Int} {s : Nat} (hs : s < n) : rd (layerOf n order) (s : Int) = idxI order (s : Int) := by simp [rd, layerOf, hs]
theorem layerOf_snoc {n : Nat} {order : List Int} {s : Nat} (hs : s < n) (hn : ((s : Int)) ∉ order) : (layerOf n order).set s (order.length : Int) = layerOf n (order ++ [(s : Int)]) := by
 apply List.ext_getElem (by simp [layerOf])
 intro j h1 h2
 simp only [layerOf, List.getElem_set, List.getElem_map, List.getElem_range, idxI_snoc hn]
 by_cases h : s = j
 ·subst h; simp
 ·rw [if_neg h, if_neg (by omega)]
theorem layerOf_back {n : Nat} {order : List Int} {s : Nat} (hs : s < n) (hn : ((s : Int)) ∉ order) : (layerOf n (order ++ [(s : Int)])).set s (-1) = layerOf n order := by
 apply List.ext_getElem (by simp [layerOf])
 intro j h1 h2
 simp only [layerOf, List.getElem_set, List.getElem_map, List.getElem_range, idxI_snoc hn]
 by_cases h : s = j
 ·subst h
  rw [if_pos rfl]
  exact (idxI_neg (Int.not_le.1 (fun h => hn (idxI_mem.1 h)))).symm
 ·rw [if_neg h, if_neg (by omega)]
/-- The search's state: its stack, its boxes, the cloth it reads, the order at hand. -/
structure Grw (W : World) (b : Nat → Prop) (c B gs gl capl bo by_ bs bg bc l cl ch cc : Nat) (Al Ah Ac : Option Addr) (low high : List Int) (cr : List S96) (pat : ByteArray) (order lay ws : List Int) (Ao Aw : Option Addr) (co cw : Nat) : Prop where
  st : Stk W B gs gl capl (.slice Al low.length cl) (.slice Ah high.length ch) (.slice Ac cr.length cc) false pat lay Aw cw ws
  ho : W.heap[bo]? = some (.cells #[.slice Ao order.length co] 22 (0, 0))
  hy : W.heap[by_]? = some (.cells #[.func (.yield l) #[] #[]] 29 (0, 0))
  hs : W.heap[bs]? = some (.cells #[.pointer (some ⟨gs, 0, none⟩)] 98 (0, 0))
  hg : W.heap[bg]? = some (.cells #[.func (.func 74) #[] #[.pointer (some ⟨bo, 0, none⟩), .pointer (some ⟨bc, 0, none⟩), .pointer (some ⟨by_, 0, none⟩), .pointer (some ⟨bs, 0, none⟩), .pointer (some ⟨bg, 0, none⟩)]] 31 (0, 0))
  hc : W.heap[bc]? = some (.cells #[.slice Al low.length cl, .slice Ah high.length ch, .slice Ac cr.length cc, .bool false] 76 (0, 0))
  rl : Kd.R (Kd.int .i64) 3 W 0 (fun k => k < c ∧ b k) (.slice Al low.length cl) low
  rh : Kd.R (Kd.int .i64) 3 W 0 (fun k => k < c ∧ b k) (.slice Ah high.length ch) high
  rc : Kd.R k96 96 W 0 (fun k => k < c ∧ b k) (.slice Ac cr.length cc) cr
  ro : Kd.R (Kd.int .i64) 3 W B (fun k => k ≠ gl ∧ some k ≠ Value.ownBlock (.slice Aw ws.length cw)) (.slice Ao order.length co) order
  n1 : b bc ∧ bc < c
  n2 : c ≤ B
  n3 : B ≤ bo ∧ B ≤ by_ ∧ B ≤ bs ∧ B ≤ bg
/-- What a round, or a search, leaves as it lay: no more than the blocks below b, those from c to B, and those that no is told of, may differ. -/
structure Stay (b : Nat → Prop) (c B : Nat) (no : Nat → Prop) (W W' : World) : Prop where
  size : W.heap.size ≤ W'.heap.size
  keep : Rf.Keep b c W W'
  above : ∀ k, B ≤ k → k < W.heap.size → ¬ no k → W'.heap[k]? = W.heap[k]?
theorem Stay.refl (b : Nat → Prop) (c B : Nat) (no : Nat → Prop) (W : World) : Stay b c B no W W := ⟨Nat.le_refl _, fun _ _ _ => rfl, fun _ _ _ _ => rfl⟩
theorem Stay.of_below {b : Nat → Prop} {c B : Nat} {no : Nat → Prop} {W W' : World} (h : Below W.heap.size W W') (hc : c ≤ W.heap.size) : Stay b c B no W W' := ⟨h.size, fun k _ hk => h.block k (by omega), fun k _ hk _ => h.block k hk⟩
theorem Stay.trans {b : Nat → Prop} {c B : Nat} {no : Nat → Prop} {A C D : World} (h : Stay b c B no A C) (k : Stay b c B no C D) : Stay b c B no A D :=
  ⟨Nat.le_trans h.size k.size, fun i h1 h2 => (k.keep i h1 h2).trans (h.keep i h1 h2), fun i h1 h2 h3 => (k.above i h1 (Nat.lt_of_lt_of_le h2 h.size) h3).trans (h.above i h1 h2 h3)⟩
theorem Stay.mono {b : Nat → Prop} {c B : Nat} {no no' : Nat → Prop} {A C : World} (h : Stay b c B no A C) (hn : ∀ k, no k → no' k) : Stay b c B no' A C := ⟨h.size, h.keep, fun k h1 h2 h3 => h.above k h1 h2 (fun e => h3 (hn k e))⟩
section
variable {W W' : World} {b : Nat → Prop} {c B gs gl capl bo by_ bs bg bc l cl ch cc : Nat} {Al Ah Ac : Option Addr} {low high : List Int} {cr : List S96} {pat : ByteArray} {order lay ws : List Int} {Ao Aw : Option Addr} {co cw : Nat}
theorem Stk.stay {base : Nat} {vl vh vc : Value} {rdd : Bool} (h : Stk W B gs gl capl vl vh vc rdd pat lay Aw cw ws) {no : Nat → Prop} (hb : Stay b c B no W W') (hn : ∀ k, ¬ no k) : Stk W' B gs gl capl vl vh vc rdd pat lay Aw cw ws :=
  ⟨(hb.above gs h.hb h.lt (hn gs)).trans h.hs, Kd.R_mono (Kd.R_step (Kd.R_bound h.hl) (fun k ho hk => hb.above k ho.2.1 hk (hn k))) (fun k hk => hk.1), Kd.R_mono (Kd.R_step (Kd.R_bound h.hw) (fun k ho hk => hb.above k ho.2.1 hk (hn k))) (fun k hk => hk.1), h.hb⟩
theorem blk_lt' {o : Obj} {k : Nat} (h : W.heap[k]? = some o) : k < W.heap.size := (Array.getElem?_eq_some_iff.1 h).1
theorem Grw.stay (h : Grw W b c B gs gl capl bo by_ bs bg bc l cl ch cc Al Ah Ac low high cr pat order lay ws Ao Aw co cw) {no : Nat → Prop} (hb : Stay b c B no W W') (hn : ∀ k, ¬ no k) : Grw W' b c B gs gl capl bo by_ bs bg bc l cl ch cc Al Ah Ac low high cr pat order lay ws Ao Aw co cw :=
  ⟨Stk.stay (base := B) h.st hb hn, (hb.above bo h.n3.1 (blk_lt' h.ho) (hn _)).trans h.ho, (hb.above by_ h.n3.2.1 (blk_lt' h.hy) (hn _)).trans h.hy, (hb.above bs h.n3.2.2.1 (blk_lt' h.hs) (hn _)).trans h.hs, (hb.above bg h.n3.2.2.2 (blk_lt' h.hg) (hn _)).trans h.hg,
   (hb.keep bc h.n1.1 h.n1.2).trans h.hc, Kd.R_mono (Kd.R_step (Kd.R_bound h.rl) (fun k ho hk => hb.keep k ho.1.2 ho.1.1)) (fun k hk => hk.1), Kd.R_mono (Kd.R_step (Kd.R_bound h.rh) (fun k ho hk => hb.keep k ho.1.2 ho.1.1)) (fun k hk => hk.1), Kd.R_mono (Kd.R_step (Kd.R_bound h.rc) (fun k ho hk => hb.keep k ho.1.2 ho.1.1)) (fun k hk => hk.1),
   Kd.R_mono (Kd.R_step (Kd.R_bound h.ro) (fun k ho hk => hb.above k ho.2.1 hk (hn k))) (fun k hk => hk.1), h.n1, h.n2, h.n3⟩
end
end Go.Proofs.Ytiknnpfdpecfdaa.Own

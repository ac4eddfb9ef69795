/- The declarations of Fn that the claim Qd needs. -/
import Derived.Test.YtiknnpfdpecfdaaQdFm
namespace Go.Proofs.Ytiknnpfdpecfdaa.Own
open Go Go.RowKit Go.Proofs Go.Proofs.YtiknnpfdpecfdaaW.PrintWords Go.Proofs.YtiknnpfdpecfdaaW.PrintLast Go.Proofs.YtiknnpfdpecfdaaW.PrintMore
set_option linter.unusedVariables false
set_option linter.unusedSimpArgs false
/-- The cloth that lay makes: its block gc (cells c0, c1, c2), the rows vl, vh, vc at hand, the result's block g4. -/
structure Mid (w W : World) (gc g4 : Nat) (c0 c1 c2 : Value) (rdd : Bool) (vl vh vc : Value) (low high : List Int) (cr : List S96) : Prop where
  bk : W.heap[gc]? = some (.cells #[c0, c1, c2, .bool rdd] 76 (0, 0))
  b4 : W.heap[g4]? = some (.cells #[.slice none 0 0, .slice none 0 0, .slice none 0 0, .bool false] 76 (0, 0))
  rl : Kd.R (Kd.int .i64) 3 W w.heap.size (fun k => (k ≠ gc ∧ k ≠ g4) ∧ some k ≠ vh.ownBlock) vl low
  rh : Kd.R (Kd.int .i64) 3 W w.heap.size (fun k => (k ≠ gc ∧ k ≠ g4) ∧ some k ≠ vl.ownBlock) vh high
  rc : Kd.R k96 96 W w.heap.size (fun k => k ≠ gc ∧ k ≠ g4) vc cr
  hg : w.heap.size ≤ gc
  h4 : w.heap.size ≤ g4
  ne : gc ≠ g4
  hb : Below w.heap.size w W
section
variable {w W W1 : World} {gc g4 : Nat} {c0 c1 c2 : Value} {rdd : Bool} {vl vh vc : Value} {low high : List Int} {cr : List S96}
theorem Mid.lt (h : Mid w W gc g4 c0 c1 c2 rdd vl vh vc low high cr) : gc < W.heap.size ∧ g4 < W.heap.size := ⟨(Array.getElem?_eq_some_iff.1 h.bk).1, (Array.getElem?_eq_some_iff.1 h.b4).1⟩
theorem Mid.below (h : Mid w W gc g4 c0 c1 c2 rdd vl vh vc low high cr) (hb : Below W.heap.size W W1) : Mid w W1 gc g4 c0 c1 c2 rdd vl vh vc low high cr :=
  ⟨(hb.block gc h.lt.1).trans h.bk, (hb.block g4 h.lt.2).trans h.b4, Kd.R_below h.rl hb, Kd.R_below h.rh hb, Kd.R_below h.rc hb, h.hg, h.h4, h.ne, below_step h.hb hb⟩
theorem Mid.ok (h : Mid w W gc g4 c0 c1 c2 rdd vl vh vc low high cr) : ∀ k, W.heap.size ≤ k → (k ≠ gc ∧ k ≠ g4) := fun k hk => ⟨by have := h.lt; omega, by have := h.lt; omega⟩
theorem Mid.okl (h : Mid w W gc g4 c0 c1 c2 rdd vl vh vc low high cr) : ∀ k, W.heap.size ≤ k → ((k ≠ gc ∧ k ≠ g4) ∧ some k ≠ vh.ownBlock) := fun k hk => ⟨h.ok k hk, fun e => by have := Kd.R_lt h.rh k e.symm; omega⟩
theorem Mid.okh (h : Mid w W gc g4 c0 c1 c2 rdd vl vh vc low high cr) : ∀ k, W.heap.size ≤ k → ((k ≠ gc ∧ k ≠ g4) ∧ some k ≠ vl.ownBlock) := fun k hk => ⟨h.ok k hk, fun e => by have := Kd.R_lt h.rl k e.symm; omega⟩
theorem Mid.putLow (h : Mid w W gc g4 c0 c1 c2 rdd vl vh vc low high cr) {v1 : Value} {low1 : List Int} (hr : Kd.R (Kd.int .i64) 3 W1 w.heap.size (fun k => (k ≠ gc ∧ k ≠ g4) ∧ some k ≠ vh.ownBlock) v1 low1) (hb : Below w.heap.size w W1) (hg : W.grownBy W1 vl.ownBlock) (hat : v1.ownBlock = vl.ownBlock ∨ ∃ b, v1.ownBlock = some b ∧ W.heap.size ≤ b) :
    Mid w W1 gc g4 c0 c1 c2 rdd v1 vh vc low1 high cr :=
  ⟨blk_grown h.bk hg (fun e => (h.rl.1 gc e.symm).1.1 rfl), blk_grown h.b4 hg (fun e => (h.rl.1 g4 e.symm).1.2 rfl), hr, Kd.R_after h.rh hg hat, Kd.R_grown (Kd.R_apartR h.rc h.rl (by decide)) hg (fun k hk => hk.2) |> Kd.R_drop, h.hg, h.h4, h.ne, hb⟩
theorem Mid.putHigh (h : Mid w W gc g4 c0 c1 c2 rdd vl vh vc low high cr) {v1 : Value} {high1 : List Int} (hr : Kd.R (Kd.int .i64) 3 W1 w.heap.size (fun k => (k ≠ gc ∧ k ≠ g4) ∧ some k ≠ vl.ownBlock) v1 high1) (hb : Below w.heap.size w W1) (hg : W.grownBy W1 vh.ownBlock) (hat : v1.ownBlock = vh.ownBlock ∨ ∃ b, v1.ownBlock = some b ∧ W.heap.size ≤ b) :
    Mid w W1 gc g4 c0 c1 c2 rdd vl v1 vc low high1 cr :=
  ⟨blk_grown h.bk hg (fun e => (h.rh.1 gc e.symm).1.1 rfl), blk_grown h.b4 hg (fun e => (h.rh.1 g4 e.symm).1.2 rfl), Kd.R_after h.rl hg hat, hr, Kd.R_grown (Kd.R_apartR h.rc h.rh (by decide)) hg (fun k hk => hk.2) |> Kd.R_drop, h.hg, h.h4, h.ne, hb⟩
theorem Mid.putCr (h : Mid w W gc g4 c0 c1 c2 rdd vl vh vc low high cr) {v1 : Value} {cr1 : List S96} (hr : Kd.R k96 96 W1 w.heap.size (fun k => k ≠ gc ∧ k ≠ g4) v1 cr1) (hb : Below w.heap.size w W1) (hg : W.grownBy W1 vc.ownBlock) :
    Mid w W1 gc g4 c0 c1 c2 rdd vl vh v1 low high cr1 :=
  ⟨blk_grown h.bk hg (fun e => (h.rc.1 gc e.symm).1 rfl), blk_grown h.b4 hg (fun e => (h.rc.1 g4 e.symm).2 rfl), Kd.R_grown (Kd.R_apartR h.rl h.rc (by decide)) hg (fun k hk => hk.2) |> Kd.R_drop, Kd.R_grown (Kd.R_apartR h.rh h.rc (by decide)) hg (fun k hk => hk.2) |> Kd.R_drop, hr, h.hg, h.h4, h.ne, hb⟩
theorem Mid.set (h : Mid w W gc g4 c0 c1 c2 rdd vl vh vc low high cr) (j : Nat) (v : Value) : (W.setCell ⟨gc, j, none⟩ v).heap[gc]? = some (.cells (#[c0, c1, c2, .bool rdd].setIfInBounds j v) 76 (0, 0)) ∧ ∀ d0 d1 d2 d3, #[c0, c1, c2, .bool rdd].setIfInBounds j v = #[d0, d1, d2, .bool d3] → Mid w (W.setCell ⟨gc, j, none⟩ v) gc g4 d0 d1 d2 d3 vl vh vc low high cr :=
  ⟨blk_set h.bk j v, fun d0 d1 d2 d3 he => ⟨by rw [← he]; exact blk_set h.bk j v, blk_far h.b4 (p := ⟨gc, j, none⟩) h.ne.symm _, Kd.R_far h.rl (p := ⟨gc, j, none⟩) (fun k hk => hk.1.1) _, Kd.R_far h.rh (p := ⟨gc, j, none⟩) (fun k hk => hk.1.1) _, Kd.R_far h.rc (p := ⟨gc, j, none⟩) (fun k hk => hk.1) _, h.hg, h.h4, h.ne, below_set h.hb h.hg⟩⟩
theorem Mid.read (h : Mid w W gc g4 c0 c1 c2 rdd vl vh vc low high cr) : W.cell? ⟨gc, 0, none⟩ = some c0 ∧ W.cell? ⟨gc, 1, none⟩ = some c1 ∧ W.cell? ⟨gc, 2, none⟩ = some c2 ∧ W.cell? ⟨gc, 3, none⟩ = some (.bool rdd) :=
  ⟨(heap_cells h.bk 0 (by simp)).1, (heap_cells h.bk 1 (by simp)).1, (heap_cells h.bk 2 (by simp)).1, (heap_cells h.bk 3 (by simp)).1⟩
end
/-- What lay makes of the first k sizes: where it is, the low ends, the high ends, the creases. -/
structure Laid where
  at_ : Int
  low : List Int
  high : List Int
  cr : List S96
def nextAt (k : Nat) (a n : Int) : Int := if Int.tmod (k : Int) 2 = 1 then wrap64 (a - n) else wrap64 (a + n)
def layStep (k : Nat) (n : Int) (s : Laid) : Laid :=
  ⟨nextAt k s.at_ n, s.low ++ [min s.at_ (nextAt k s.at_ n)], s.high ++ [max s.at_ (nextAt k s.at_ n)],
   if 0 < k then s.cr ++ [⟨wrap64 ((k : Int) - 1), k, s.at_, Int.tmod (k : Int) 2 == 1⟩] else s.cr⟩
def layR (sizes : List Int) : Nat → Laid
  | 0 => ⟨0, [], [], []⟩
  | k + 1 => layStep k (rd sizes (k : Int)) (layR sizes k)
theorem layR_len (sizes : List Int) : ∀ k, (layR sizes k).low.length = k ∧ (layR sizes k).high.length = k ∧ (layR sizes k).cr.length ≤ k
 | 0 => ⟨rfl, rfl, Nat.le_refl _⟩
 | k + 1 => by
  obtain ⟨h1, h2, h3⟩ := layR_len sizes k
  refine ⟨by simp [layR, layStep, h1], by simp [layR, layStep, h2], ?_⟩
  simp only [layR, layStep]
  split
  ·simp; omega
  ·omega
theorem info96 : (Try.prog.info? 96).map (fun i => (i.zero, i.size, i.bytes)) = some (some (.agg #[.int .i64 0, .int .i64 0, .int .i64 0, .bool false]), 4, 32) := by kernel_rfl
end Go.Proofs.Ytiknnpfdpecfdaa.Own

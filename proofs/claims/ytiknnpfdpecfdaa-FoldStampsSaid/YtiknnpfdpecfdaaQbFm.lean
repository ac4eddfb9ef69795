/- The declarations of Fm that the claim Qb needs. -/
import Derived.Test.YtiknnpfdpecfdaaQbFk
namespace Go.Proofs.Ytiknnpfdpecfdaa.Own
open Go Go.RowKit Go.Proofs Go.Proofs.YtiknnpfdpecfdaaW.PrintWords Go.Proofs.YtiknnpfdpecfdaaW.PrintLast Go.Proofs.YtiknnpfdpecfdaaW.PrintMore
set_option linter.unusedVariables false
set_option linter.unusedSimpArgs false
/-- A stack that one has made: the block gs, its layer in gl, what waits. -/
structure Stk (W : World) (base gs gl capl : Nat) (vl vh vc : Value) (rd : Bool) (pat : ByteArray) (lay : List Int) (Aw : Option Addr) (cw : Nat) (ws : List Int) : Prop where
  hs : W.heap[gs]? = some (.cells #[vl, vh, vc, .bool rd, .string pat, .slice (some ⟨gl, 0, none⟩) lay.length capl, .slice Aw ws.length cw] 101 (0, 0))
  hl : Kd.R (Kd.int .i64) 3 W base (fun k => k ≠ gs) (.slice (some ⟨gl, 0, none⟩) lay.length capl) lay
  hw : Kd.R (Kd.int .i64) 3 W base (fun k => k ≠ gs ∧ k ≠ gl) (.slice Aw ws.length cw) ws
  hb : base ≤ gs
section
variable {W W' : World} {base gs gl capl : Nat} {vl vh vc : Value} {rd : Bool} {pat : ByteArray} {lay : List Int} {Aw : Option Addr} {cw : Nat} {ws : List Int}
theorem Stk.lt (h : Stk W base gs gl capl vl vh vc rd pat lay Aw cw ws) : gs < W.heap.size := (Array.getElem?_eq_some_iff.1 h.hs).1
theorem Stk.ne (h : Stk W base gs gl capl vl vh vc rd pat lay Aw cw ws) : gs ≠ gl := fun e => h.hl.1 gl rfl e.symm
theorem Stk.gl_lt (h : Stk W base gs gl capl vl vh vc rd pat lay Aw cw ws) : gl < W.heap.size := Kd.R_lt h.hl gl rfl
theorem Stk.gl_base (h : Stk W base gs gl capl vl vh vc rd pat lay Aw cw ws) : base ≤ gl := Kd.R_base h.hl gl rfl
theorem Stk.below (h : Stk W base gs gl capl vl vh vc rd pat lay Aw cw ws) (hb : Below W.heap.size W W') : Stk W' base gs gl capl vl vh vc rd pat lay Aw cw ws :=
  ⟨(hb.block gs h.lt).trans h.hs, Kd.R_below h.hl hb, Kd.R_below h.hw hb, h.hb⟩
/-- Another waits. -/
theorem Stk.waits (h : Stk W base gs gl capl vl vh vc rd pat lay Aw cw ws) {A2 : Option Addr} {c2 : Nat} {vs : List Int} (hv : Kd.R (Kd.int .i64) 3 W base (fun k => k ≠ gs ∧ k ≠ gl) (.slice A2 vs.length c2) vs) :
    Stk (W.setCell ⟨gs, 6, none⟩ (.slice A2 vs.length c2)) base gs gl capl vl vh vc rd pat lay A2 c2 vs ∧ W.cell? ⟨gs, 6, none⟩ = some (.slice Aw ws.length cw) ∧ W.frozen? ⟨gs, 6, none⟩ = false :=
  ⟨⟨blk_set h.hs 6 _, Kd.R_far h.hl (p := ⟨gs, 6, none⟩) (fun k hk => hk) _, Kd.R_far hv (p := ⟨gs, 6, none⟩) (fun k hk => hk.1) _, h.hb⟩, (heap_cells h.hs 6 (by simp)).1, (heap_cells h.hs 6 (by simp)).2⟩
/-- A number of the layer. -/
theorem Stk.layer (h : Stk W base gs gl capl vl vh vc rd pat lay Aw cw ws) (i x : Int) (h0 : 0 ≤ i) (h1 : i < lay.length) :
  Stk (W.setCell ⟨gl, i.toNat, none⟩ (.int .i64 x)) base gs gl capl vl vh vc rd pat (lay.set i.toNat x) Aw cw ws ∧ W.cell? ⟨gl, i.toNat, none⟩ = some (.int .i64 (Go.Proofs.YtiknnpfdpecfdaaW.PrintWords.rd lay i)) ∧ W.frozen? ⟨gl, i.toNat, none⟩ = false := by
 have ho := Kd.own_of_R h.hl
 have hst := (own_store_of (enc := Value.int .i64) ho i x).1
 have hat := own_at (k := .i64) (xs := lay) (show W.ownsRow base 3 1 (.slice (some ⟨gl, 0, none⟩) lay.length capl) lay.length (nums .i64 lay) from ho) i h0 h1
 refine ⟨⟨?_, ?_, Kd.R_far h.hw (p := ⟨gl, i.toNat, none⟩) (fun k hk => hk.2) _, h.hb⟩, hat.1, hat.2⟩
 ·rw [List.length_set]
  exact blk_far h.hs (p := ⟨gl, i.toNat, none⟩) h.ne _
 ·exact Kd.R_of_own (by rw [List.length_set]; exact hst) (fun k hk => by injection hk with hk; rw [← hk]; exact h.ne.symm)
theorem Stk.read (h : Stk W base gs gl capl vl vh vc rd pat lay Aw cw ws) : W.cell? ⟨gs, 0, none⟩ = some vl ∧ W.cell? ⟨gs, 1, none⟩ = some vh ∧ W.cell? ⟨gs, 2, none⟩ = some vc ∧ W.cell? ⟨gs, 3, none⟩ = some (.bool rd) ∧ W.cell? ⟨gs, 4, none⟩ = some (.string pat) ∧ W.cell? ⟨gs, 5, none⟩ = some (.slice (some ⟨gl, 0, none⟩) lay.length capl) ∧ W.cell? ⟨gs, 6, none⟩ = some (.slice Aw ws.length cw) :=
  ⟨(heap_cells h.hs 0 (by simp)).1, (heap_cells h.hs 1 (by simp)).1, (heap_cells h.hs 2 (by simp)).1, (heap_cells h.hs 3 (by simp)).1, (heap_cells h.hs 4 (by simp)).1, (heap_cells h.hs 5 (by simp)).1, (heap_cells h.hs 6 (by simp)).1⟩
/-- What put hands out waits apart from the stack. -/
theorem Stk.fresh (h : Stk W base gs gl capl vl vh vc rd pat lay Aw cw ws) {W2 : World} {v : Value} {vs : List Int} (hv : Kd.R (Kd.int .i64) 3 W2 W.heap.size (fun _ => True) v vs) : Kd.R (Kd.int .i64) 3 W2 base (fun k => k ≠ gs ∧ k ≠ gl) v vs :=
  Kd.R_lower (Kd.R_mono (Kd.R_bound hv) (fun k hk => ⟨fun e => by have := h.lt; have := hk.2.1; omega, fun e => by have := h.gl_lt; have := hk.2.1; omega⟩)) (Nat.le_trans h.hb (Nat.le_of_lt h.lt))
end
theorem Stk.stackR {W : World} {base gs gl capl cl ch cc cw : Nat} {Al Ah Ac Aw : Option Addr} {low high : List Int} {cr : List S96} {rd : Bool} {pat : ByteArray} {lay ws : List Int}
    (h : Stk W base gs gl capl (.slice Al low.length cl) (.slice Ah high.length ch) (.slice Ac cr.length cc) rd pat lay Aw cw ws) (h1 : Kd.C (Kd.int .i64) W Al low.length low) (h2 : Kd.C (Kd.int .i64) W Ah high.length high) (h3 : Kd.C k96 W Ac cr.length cr) : StackR W gs Al Ah Ac Aw cl ch cc cw low high cr pat ws :=
  ⟨h.lt, h.read.1, h.read.2.1, h.read.2.2.1, h.read.2.2.2.2.1, h.read.2.2.2.2.2.2, h1, h2, h3, (Kd.R_reads' h.hw).2.2, (Kd.R_reads' h.hw).2.1⟩
theorem putB_okw {cr : List S96} {pat : ByteArray} {seg : Int} : ∀ (d k : Nat) (ws r : List Int), Okw cr ws → k + d ≤ cr.length → putB cr pat seg d k ws = some r → Okw cr r ∧ r.length ≤ ws.length + d
 | 0, k, ws, r, hw, _, h => by
  obtain rfl := Option.some.inj h
  exact ⟨hw, by omega⟩
 | d + 1, k, ws, r, hw, hk, h => by
  rw [putB] at h
  obtain ⟨us, h1, h2⟩ := Option.bind_eq_some_iff.1 h
  obtain ⟨ho, hl⟩ := okw_step hw (by omega) h1
  obtain ⟨ho2, hl2⟩ := putB_okw d (k + 1) us r ho (by omega) h2
  exact ⟨ho2, by omega⟩
theorem putF_okw {low high : List Int} {cr : List S96} {pat : ByteArray} {seg : Int} {ws r : List Int} (hw : Okw cr ws) (h : putF low high cr pat seg ws = some r) : Okw cr r ∧ r.length ≤ ws.length + cr.length := by
 unfold putF at h
 split at h
 ·cases h
 ·exact putB_okw _ _ _ _ hw (by omega) h
end Go.Proofs.Ytiknnpfdpecfdaa.Own

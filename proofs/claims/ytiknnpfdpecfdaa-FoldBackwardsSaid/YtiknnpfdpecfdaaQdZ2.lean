/- The declarations of Z2 that the claim Qd needs. -/
import Derived.Test.YtiknnpfdpecfdaaQdFg
import Derived.Laws.EntriesVeiled
import Derived.Test.YtiknnpfdpecfdaaQdFq
import Derived.Test.YtiknnpfdpecfdaaQdFeyx1
import Derived.Test.YtiknnpfdpecfdaaQdFn
import Derived.Test.YtiknnpfdpecfdaaQdZ4
import Derived.RangeFuncCalls
import Derived.RangeFuncNested
namespace Go.Proofs.Ytiknnpfdpecfdaa.Own
open Go Go.RowKit Go.Proofs Go.Proofs.YtiknnpfdpecfdaaW.PrintWords Go.Proofs.YtiknnpfdpecfdaaW.PrintLast Go.Proofs.YtiknnpfdpecfdaaW.PrintMore
set_option linter.unusedVariables false
set_option linter.unusedSimpArgs false
def Halt (p : Prop) : Prop := p
theorem halt {p : Prop} (h : Halt p) : p := h
set_option maxRecDepth 100000 in
set_option maxHeartbeats 4000000 in
theorem orders_gives (b : Nat → Prop) (bc bp cl ch cc : Nat) (Al Ah Ac : Option Addr) (low high : List Int) (cr : List S96) (pat : ByteArray) (w : World)
  (hcb : w.heap[bc]? = some (.cells #[.slice Al low.length cl, .slice Ah high.length ch, .slice Ac cr.length cc, .bool false] 76 (0, 0))) (hpb : w.heap[bp]? = some (.cells #[.string pat] 9 (0, 0))) (hbc : b bc)
  (rl : Kd.R (Kd.int .i64) 3 w 0 b (.slice Al low.length cl) low) (rh : Kd.R (Kd.int .i64) 3 w 0 b (.slice Ah high.length ch) high) (rc : Kd.R k96 96 w 0 b (.slice Ac cr.length cc) cr)
  (hn1 : 1 ≤ low.length) (hn : low.length < 13) (hhl : high.length = low.length) (hcr : cr.length < 2 ^ 10) (hpat : pat.size = 0 ∨ cr.length ≤ pat.size) :
  Rf.Gives Fence.wide Try.prog 72 #[.pointer (some ⟨bc, 0, none⟩), .pointer (some ⟨bp, 0, none⟩)] Ord.enc Ord.px (fun xs => xs.map (·.xs) = growF low high cr pat low.length [] []) (fun pre => pre.map (·.xs) <+: growF low high cr pat low.length [] []) (growF low high cr pat low.length [] []).length b w := by
 intro n l J Jx W hW hJ hJx hY h0
 refine callsIn_wide.2 ?_
 show Calls Try.prog 72 #[.func (.yield l) #[] #[], .pointer (some ⟨bc, 0, none⟩), .pointer (some ⟨bp, 0, none⟩)] W _
 have hcb2 := (hW.block bc (Array.getElem?_eq_some_iff.1 hcb).1).trans hcb
 have hpb2 := (hW.block bp (Array.getElem?_eq_some_iff.1 hpb).1).trans hpb
 have c0 : W.cell? ⟨bc, 0, none⟩ = some (.slice Al low.length cl) := (heap_cells hcb2 0 (by simp)).1
 have c1 : W.cell? ⟨bc, 1, none⟩ = some (.slice Ah high.length ch) := (heap_cells hcb2 1 (by simp)).1
 have c2 : W.cell? ⟨bc, 2, none⟩ = some (.slice Ac cr.length cc) := (heap_cells hcb2 2 (by simp)).1
 have c3 : W.cell? ⟨bc, 3, none⟩ = some (.bool false) := (heap_cells hcb2 3 (by simp)).1
 have c4 : W.cell? ⟨bp, 0, none⟩ = some (.string pat) := (heap_cells hpb2 0 (by simp)).1
 have HN := Aside0.mk (And.intro hn1 hn)
 have HY := Aside0.mk hY
 have HJ := Aside0.mk hJ
 have HJX := Aside0.mk hJx
 have H0 := Aside0.mk h0
 have HHL := Aside0.mk hhl
 have HCR := Aside0.mk hcr
 have HPAT := Aside0.mk hpat
 clear hY hJ hJx h0 hn1 hn hhl hcr hpat
 go_enter Try.func72, Try.ntmps72
 obtain ⟨w7, hw7⟩ : ∃ w7, W.alloc (.cells #[.func (.yield l) #[] #[]] 29) = w7 := ⟨_, rfl⟩
 obtain ⟨by_, hby⟩ : ∃ k, W.heap.size = k := ⟨_, rfl⟩
 have hb7 : Below W.heap.size W w7 := hw7 ▸ below_alloc (Below.refl _ _) _
 have hy7 : w7.heap[by_]? = some (.cells #[.func (.yield l) #[] #[]] 29 (0, 0)) := by rw [← hw7, ← hby]; exact Go.Deep.blk_alloc_new _ _
 have d0 := mv hb7 c0
 have d1 := mv hb7 c1
 have d2 := mv hb7 c2
 have d3 := mv hb7 c3
 have d4 := mv hb7 c4
 have HCB := Aside0.mk hcb2
 clear c0 c1 c2 c3 c4 hcb2 hpb2
 have HBY := Aside0.mk (Nat.le_of_eq hby)
 have HBEG := fun V => begin73 Al Ah Ac low.length high.length cr.length cl ch cc false pat V HN.out.1 HN.out.2
 go_wp2_with (go_at_call 73; with_reducible refine (HBEG _).mono ?_; rintro e w8 ⟨gs, v8, rfl, hs8, hl8, hb8, hg8⟩; have HS8 := Aside0.mk (And.intro hs8 (And.intro hl8 (And.intro hb8 (And.intro hg8 (And.intro hb7 hy7))))); clear hs8 hl8 hb8 hg8 hb7 hy7 d0 d1 d2 d3 d4; clear hw7; clear hby HBEG; apply halt)
 unfold Halt
 go_wp2_with (go_at_call 74; apply halt)
 unfold Halt
 obtain ⟨hs8, hl8, hb8, hg8, hb7, hy7⟩ := HS8.out
 obtain ⟨A8, c8, rfl⟩ := Kd.R_slice hl8
 obtain ⟨gl, rfl, hbl⟩ := own_addr (Kd.R_mono hl8 (fun _ _ => trivial)) (by have := HN.out.1; simp; omega)
 have hb78 : Below W.heap.size W w8 := below_step hb7 hb8
 have hWw := hW.size
 obtain ⟨wa, hwa⟩ : ∃ wa, w8.alloc (.cells #[.pointer (some ⟨gs, 0, none⟩)] 98) = wa := ⟨_, rfl⟩
 have ha1 : Below w8.heap.size w8 wa := hwa ▸ below_alloc (Below.refl _ _) _
 have ha2 : wa.heap[w8.heap.size]? = some (.cells #[.pointer (some ⟨gs, 0, none⟩)] 98 (0, 0)) := hwa ▸ Go.Deep.blk_alloc_new _ _
 have ha3 : wa.heap.size = w8.heap.size + 1 := by rw [← hwa, World.size_alloc]
 obtain ⟨wb, hwb⟩ : ∃ wb, wa.alloc (.cells #[.slice none 0 0] 22) = wb := ⟨_, rfl⟩
 have hb1 : Below wa.heap.size wa wb := hwb ▸ below_alloc (Below.refl _ _) _
 have hb2 : wb.heap[wa.heap.size]? = some (.cells #[.slice none 0 0] 22 (0, 0)) := hwb ▸ Go.Deep.blk_alloc_new _ _
 have hb3 : wb.heap.size = wa.heap.size + 1 := by rw [← hwb, World.size_alloc]
 rw [hwa, hwb]
 obtain ⟨vf, hvf⟩ : ∃ vf, Value.func (.func 74) #[] #[.pointer (some ⟨w8.heap.size + 1, 0, none⟩), .pointer (some ⟨bc, 0, none⟩), .pointer (some ⟨by_, 0, none⟩), .pointer (some ⟨w8.heap.size, 0, none⟩), .pointer (some ⟨w8.heap.size + 1 + 1, 0, none⟩)] = vf := ⟨_, rfl⟩
 rw [hvf]
 obtain ⟨wc, hwc⟩ : ∃ wc, wb.alloc (.cells #[vf] 31) = wc := ⟨_, rfl⟩
 have hc1 : Below wb.heap.size wb wc := hwc ▸ below_alloc (Below.refl _ _) _
 have hc2 : wc.heap[wb.heap.size]? = some (.cells #[vf] 31 (0, 0)) := hwc ▸ Go.Deep.blk_alloc_new _ _
 rw [hwc]
 have h8c : Below w8.heap.size w8 wc := below_step (below_step ha1 hb1) hc1
 have hWc : Below W.heap.size W wc := below_step hb78 h8c
 have hwc0 : Below w.heap.size w wc := below_step hW hWc
 have hby2 : W.heap.size ≤ by_ := HBY.out
 have hG : Grw wc b w.heap.size W.heap.size gs gl c8 (w8.heap.size + 1) by_ w8.heap.size (w8.heap.size + 1 + 1) bc l cl ch cc Al Ah Ac low high cr pat [] (layerOf low.length []) [] none none 0 0 := by
  have hlay : layerOf low.length [] = List.replicate low.length (-1) := by
   apply List.ext_getElem (by simp [layerOf])
   intro j h1 h2
   simp [layerOf, idxI]
  rw [hlay]
  refine ⟨⟨(h8c.block gs (blk_lt' hs8)).trans hs8, ?_, Kd.R_nil _ _ _ _ _, Nat.le_trans hb7.size hg8⟩, ?_, ?_, ?_, ?_, ?_, ?_, ?_, ?_, Kd.R_nil _ _ _ _ _, ⟨hbc, blk_lt' hcb⟩, hW.size, ?_⟩
  ·exact Kd.R_lower (Kd.R_below hl8 h8c) hb7.size
  ·rw [← ha3]; exact (hc1.block _ (blk_lt' hb2)).trans hb2
  ·exact (below_step hb8 h8c).block by_ (blk_lt' hy7) |>.trans hy7
  ·exact ((below_step hb1 hc1).block _ (blk_lt' ha2)).trans ha2
  ·rw [← ha3, ← hb3, hc2, ← hvf, hb3, ha3]
  ·exact (hwc0.block bc (blk_lt' hcb)).trans hcb
  ·exact Kd.R_mono (Kd.R_below (Kd.R_bound rl) hwc0) (fun k hk => ⟨hk.2.2.1, hk.1⟩)
  ·exact Kd.R_mono (Kd.R_below (Kd.R_bound rh) hwc0) (fun k hk => ⟨hk.2.2.1, hk.1⟩)
  ·exact Kd.R_mono (Kd.R_below (Kd.R_bound rc) hwc0) (fun k hk => ⟨hk.2.2.1, hk.1⟩)
  ·have := hb78.size; exact ⟨by omega, hby2, by omega, by omega⟩
 refine (grow74 b w.heap.size W.heap.size gs gl c8 (w8.heap.size + 1) by_ w8.heap.size (w8.heap.size + 1 + 1) bc l cl ch cc Al Ah Ac low high cr pat _ wc.heap.size J (Jx wc.heap.size) (fun m pre x W1 => HY.out _ m pre x W1 hWc.size) HJ.out (fun s A C h1 h2 => HJX.out _ s A C hWc.size h1 h2) ⟨hWc.size, by have := blk_lt' hs8; have := h8c.size; omega, by have := Kd.R_lt hl8 gl rfl; have := h8c.size; omega, by have := blk_lt' hc2; omega⟩ HN.out.2 HHL.out HCR.out HPAT.out low.length [] [] none none 0 0 [] wc (by simp) (by simp) (by simp) (fun k hk => nomatch hk) (by simp) hG (HJ.out _ _ _ H0.out hWc) (by simp) (Nat.le_refl _)).mono ?_
 rintro e w9 ⟨bv, xs, A2, c2, rfl, _, _, _, hend⟩
 have HEND := Aside0.mk hend
 clear hend hG
 go_wp2
 go_end0
 refine ⟨⟨_, rfl⟩, ?_⟩
 rcases HEND.out with ⟨_, h1, h2⟩ | ⟨_, h1, h2⟩
 ·exact .inl ⟨xs, h1, by simpa using h2⟩
 ·exact .inr ⟨_, xs, hWc.size, h1, by simpa using h2⟩
end Go.Proofs.Ytiknnpfdpecfdaa.Own
namespace Go.Proofs.Ytiknnpfdpecfdaa.Own
open Go Go.RowKit Go.Proofs Go.Proofs.YtiknnpfdpecfdaaW.PrintWords Go.Proofs.YtiknnpfdpecfdaaW.PrintLast Go.Proofs.YtiknnpfdpecfdaaW.PrintMore
set_option linter.unusedVariables false
set_option linter.unusedSimpArgs false
/-- All orders that fold a strip, with a pattern if that is not empty. -/
def allO (l : List Int) (pat : ByteArray) : List (List Int) := growF (layR l l.length).low (layR l l.length).high (layR l l.length).cr pat l.length [] []
theorem growF_le (low high : List Int) (cr : List S96) (pat : ByteArray) : ∀ (d : Nat) (order ws : List Int), (growF low high cr pat d order ws).length ≤ low.length ^ d
 | 0, _, _ => Nat.le_refl _
 | d + 1, order, ws => by
  have h : ∀ (ks : List Nat) (g : Nat → List (List Int)), (∀ s, (g s).length ≤ low.length ^ d) → (ks.flatMap g).length ≤ ks.length * low.length ^ d := by
   intro ks g hg
   induction ks with
   | nil => simp
   | cons k ks ih =>
    rw [List.flatMap_cons, List.length_append, List.length_cons, Nat.succ_mul]
    have := hg k
    omega
  unfold growF
  refine Nat.le_trans (h _ _ ?_) ?_
  ·intro s
   split
   ·simp
   ·split
    ·simp
    ·exact growF_le low high cr pat d _ _
  ·rw [List.length_range, Nat.pow_succ, Nat.mul_comm]; exact Nat.le_refl _
theorem allO_le (l : List Int) (pat : ByteArray) (h : l.length ≤ 12) : (allO l pat).length < 2 ^ 60 := by
 have h1 := growF_le (layR l l.length).low (layR l l.length).high (layR l l.length).cr pat l.length [] []
 rw [(layR_len l l.length).1] at h1
 refine Nat.lt_of_le_of_lt h1 (Nat.lt_of_le_of_lt (Nat.pow_le_pow_left h _) (Nat.lt_of_le_of_lt (Nat.pow_le_pow_right (by decide) h) (by decide)))
theorem orders50 (vl vh vc : Value) (rdd : Bool) (pat : ByteArray) (w : World) :
  Calls Try.prog 50 #[.agg #[vl, vh, vc, .bool rdd], .string pat] w fun e w' => e = .returned (.func (.func 72) #[] #[.pointer (some ⟨w.heap.size, 0, none⟩), .pointer (some ⟨w.heap.size + 1, 0, none⟩)]) ∧ w' = (w.alloc (.cells #[vl, vh, vc, .bool rdd] 76)).alloc (.cells #[.string pat] 9) := by
 go_enter Try.func50, Try.ntmps50
 go_wp2
 go_ret
 exact ⟨rfl, rfl⟩
theorem ord_px : ∀ (c : Nat) (x : Ord) A C, Ord.px c x A → Rf.KeepsCells A C → Ord.px c x C := by
 intro c x A C h hk
 exact Kd.R_mono (Kd.R_step (Kd.R_bound h) (fun k ho _ => by
  obtain ⟨q, _, cells, hc⟩ := ho.2.2.2
  rw [hc]
  exact hk k _ hc rfl)) (fun _ _ => trivial)
/-- A row told by where it lies. -/
theorem R_from {α : Type} {d : Kd α} {e b : Nat} {W : World} {v : Value} {xs : List α} (h : d.R e W b (fun _ => True) v xs) : d.R e W 0 (fun k => b ≤ k) v xs := Kd.R_mono (Kd.R_lower (Kd.R_bound h) (Nat.zero_le _)) (fun k hk => hk.2.1)
/-- A row that lies beside a block. -/
theorem R_beside {α : Type} {d : Kd α} {e b g : Nat} {W : World} {v : Value} {xs : List α} (h : d.R e W b (fun _ => True) v xs) (hg : W.heap.size ≤ g) : d.R e W 0 (fun k => b ≤ k ∧ k ≠ g) v xs := Kd.R_mono (Kd.R_lower (Kd.R_bound h) (Nat.zero_le _)) (fun k hk => ⟨hk.2.1, by have := hk.2.2.1; omega⟩)
/-- The iterator over a strip's orders, once it is made. -/
theorem strip_gives (l : List Int) (pat : ByteArray) (b : Nat → Prop) (Al Ah Ac : Option Addr) (cl ch cc : Nat) (w2 w3 : World) (hn1 : 1 ≤ l.length) (hn2 : l.length < 13) (hpat : pat.size = 0 ∨ (layR l l.length).cr.length ≤ pat.size)
  (hl : Kd.R (Kd.int .i64) 3 w2 0 b (.slice Al (layR l l.length).low.length cl) (layR l l.length).low) (hh : Kd.R (Kd.int .i64) 3 w2 0 b (.slice Ah (layR l l.length).high.length ch) (layR l l.length).high)
  (hc : Kd.R k96 96 w2 0 b (.slice Ac (layR l l.length).cr.length cc) (layR l l.length).cr) (hb : b w2.heap.size)
  (hw3 : w3 = (w2.alloc (.cells #[.slice Al (layR l l.length).low.length cl, .slice Ah (layR l l.length).high.length ch, .slice Ac (layR l l.length).cr.length cc, .bool false] 76)).alloc (.cells #[.string pat] 9)) :
  Rf.Gives Fence.wide Try.prog 72 #[.pointer (some ⟨w2.heap.size, 0, none⟩), .pointer (some ⟨w2.heap.size + 1, 0, none⟩)] Ord.enc Ord.px (fun xs => xs.map (·.xs) = allO l pat) (fun pre => pre.map (·.xs) <+: allO l pat) (allO l pat).length b w3 := by
 have hL := layR_len l l.length
 have hb3 : Below w2.heap.size w2 w3 := by subst hw3; exact below_alloc (below_alloc (Below.refl _ _) _) _
 have h := orders_gives b w2.heap.size (w2.heap.size + 1) cl ch cc Al Ah Ac (layR l l.length).low (layR l l.length).high (layR l l.length).cr pat w3
  (by subst hw3; rw [Below.heap_alloc _ _ _ (by simp)]; exact Go.Deep.blk_alloc_new _ _)
  (by subst hw3; rw [← World.size_alloc w2]; exact Go.Deep.blk_alloc_new _ _) hb (Kd.R_below hl hb3) (Kd.R_below hh hb3) (Kd.R_below hc hb3) (by rw [hL.1]; exact hn1) (by rw [hL.1]; exact hn2) (by rw [hL.1, hL.2.1]) (by have := hL.2.2; omega) hpat
 rw [hL.1] at h
 exact h
end Go.Proofs.Ytiknnpfdpecfdaa.Own
namespace Go.Proofs.Ytiknnpfdpecfdaa.Own
open Go Go.RowKit Go.Proofs Go.Proofs.YtiknnpfdpecfdaaW.PrintWords Go.Proofs.YtiknnpfdpecfdaaW.PrintLast Go.Proofs.YtiknnpfdpecfdaaW.PrintMore
set_option linter.unusedVariables false
set_option linter.unusedSimpArgs false
def fold_Count.f (l : List Int) : Option (Int × Int) := (fold_sizes.f l 1 9).bind fun b => if b = true then some (((allO l ⟨#[]⟩).length : Int), 0) else some (0, 1)
theorem sizes_len {l : List Int} {a b : Int} (h : fold_sizes.f l a b = some true) : a ≤ l.length ∧ (l.length : Int) ≤ b := by
 unfold fold_sizes.f at h
 simp only [Option.some.injEq, Bool.and_eq_true, decide_eq_true_eq] at h
 exact h.1
attribute [local go_sem] Oper.semAt_some
set_option maxRecDepth 100000 in
set_option maxHeartbeats 4000000 in
theorem fold_Count.calls (A0 : Option Addr) (c0 : Nat) (l0 : List Int) (r1 r2 : Int) (w : World) (hr0 : Kd.C (Kd.int .i64) w A0 l0.length l0) (hc0 : l0.length ≤ c0) (h : fold_Count.f l0 = some (r1, r2)) :
  Calls Try.prog 25 #[.slice A0 l0.length c0] w fun e w' => e = .returned (.tuple #[.int .i64 r1, .int .i64 r2]) ∧ Below w.heap.size w w' := by
 unfold fold_Count.f at h
 replace h := Option.bind_eq_some_iff.mp h
 obtain ⟨b, hb, h⟩ := h
 have hcs := fold_sizes.calls A0 c0 l0 1 9 b w hr0 hc0 hb
 have HB := Aside0.mk (Below.refl w.heap.size w)
 refine (callsIn_wide (n := 9)).1 ?_
 cases b
 ·simp only [Bool.false_eq_true, if_false, Option.some.injEq, Prod.mk.injEq] at h
  obtain ⟨rfl, rfl⟩ := h
  refine callsIn_of_wp_marks Try.func25 rfl trivial ?_ rfl
  simp only [Try.ntmps25, List.size_toArray, List.length_cons, List.length_nil, Nat.reduceAdd, Nat.reduceSub, Array.replicate_succ, Array.replicate_zero, List.push_toArray, List.append_toArray, List.nil_append, List.cons_append]
  gi_wp2_with (refine ⟨trivial, ?_⟩; gi_at_call 47; refine (callsIn_wide.2 hcs).mono ?_; rintro e w1 ⟨rfl, hd1⟩)
  exact ⟨_, results_tmp2 rfl _ _ _, rfl, hd1.below⟩
 ·simp only [if_true, Option.some.injEq, Prod.mk.injEq] at h
  obtain ⟨rfl, rfl⟩ := h
  have hn := sizes_len hb
  have H0 := Aside0.mk hr0
  have hlay := fun W hW => lay49 A0 c0 l0 W hW (by omega)
  have HLAY := Aside0.mk hlay
  clear hr0 hc0 hlay hn
  refine callsIn_of_wp_marks Try.func25 rfl trivial ?_ rfl
  simp only [Try.ntmps25, List.size_toArray, List.length_cons, List.length_nil, Nat.reduceAdd, Nat.reduceSub, Array.replicate_succ, Array.replicate_zero, List.push_toArray, List.append_toArray, List.nil_append, List.cons_append]
  gi_wp2_with (first
   | (refine ⟨trivial, ?_⟩; gi_at_call 47; refine (callsIn_wide.2 hcs).mono ?_; rintro e w1 ⟨rfl, hd1⟩)
   | (refine ⟨trivial, ?_⟩; gi_at_call 49; refine (callsIn_wide.2 (HLAY.out _ (Kd.C_alloc (Kd.C_below H0.out hd1.below) _))).mono ?_; rintro e w2 ⟨vl, vh, vc, rfl, hl, hh, hc, hb2⟩; obtain ⟨Al, cl, rfl⟩ := Kd.R_slice hl; obtain ⟨Ah, ch, rfl⟩ := Kd.R_slice hh; obtain ⟨Ac, cc, rfl⟩ := Kd.R_slice hc)
   | (refine ⟨trivial, ?_⟩; gi_at_call 50; refine (callsIn_wide.2 (orders50 _ _ _ _ _ _)).mono ?_; rintro e w3 ⟨rfl, hw3⟩))
  have hn1 := (sizes_len hb).1
  have hn2 := (sizes_len hb).2
  have hN := allO_le l0 ⟨#[]⟩ (by omega)
  rw [← hw3]
  obtain ⟨g, hg⟩ : ∃ g, w1.heap.size = g := ⟨_, rfl⟩
  obtain ⟨b0, hb0⟩ : ∃ b0, (w1.alloc (.cells #[.int .i64 0] 3)).heap.size = b0 := ⟨_, rfl⟩
  have hgb : b0 = g + 1 := by rw [← hb0, ← hg, World.size_alloc]
  have hb23 : Below w2.heap.size w2 w3 := by subst hw3; exact below_alloc (below_alloc (Below.refl _ _) _) _
  have hwg : w.heap.size ≤ g := by rw [← hg]; exact hd1.below.size
  have hB1 : Below w.heap.size w (w1.alloc (.cells #[.int .i64 0] 3)) := below_alloc hd1.below _
  have hG1 : (w1.alloc (.cells #[.int .i64 0] 3)).heap[g]? = some (.cells #[.int .i64 0] 3 (0, 0)) := by rw [← hg]; exact Go.Deep.blk_alloc_new _ _
  rw [hb0] at hl hh hc
  have hB13 : Below b0 (w1.alloc (.cells #[.int .i64 0] 3)) w3 := hb0 ▸ below_step hb2 hb23
  have hG3 := (hB13.block g (by omega)).trans hG1
  have hB3 : Below w.heap.size w w3 := hB1.trans (hB13.mono (by omega))
  have hsz3 : b0 ≤ w3.heap.size := Nat.le_trans (by have := hb2.size; omega) hb23.size
  have hgv := strip_gives l0 ⟨#[]⟩ (fun k => b0 ≤ k) Al Ah Ac cl ch cc w2 w3 (by omega) (by omega) (Or.inl rfl) (R_from hl) (R_from hh) (R_from hc) (by have := hb2.size; show b0 ≤ w2.heap.size; omega) hw3
  rw [hg]
  generalize w2.heap.size = bx at hgv ⊢
  clear hw3 hb23 hl hh hc hb2 HLAY hcs hB13
  refine Rf.rangeIter (F := Fence.wide) rfl rfl (gf := 72) (lb := #[.pointer (some ⟨bx, 0, none⟩), .pointer (some ⟨bx + 1, 0, none⟩)]) rfl trivial (enters_of Try.func72 (by kernel_rfl) rfl) hgv (fun _ => rfl) ord_px
   (fun pre W => W.heap[g]? = some (.cells #[.int .i64 (pre.length : Int)] 3 (0, 0)) ∧ Below w.heap.size w W) (fun _ _ _ _ => False) ?hI (fun _ _ _ _ _ _ h _ => h) ⟨hG3, hB3⟩
   (fun x => { tmps :=
    #[Value.slice A0 l0.length c0, undef, Value.int IntKind.i64 0, Value.int IntKind.i64 0,
     Value.pointer (some { block := g, off := 0 }), Value.slice A0 l0.length c0, Value.bool true,
     Value.bool false, Value.slice A0 l0.length c0,
     Value.agg
      #[Value.slice Al (layR l0 l0.length).low.length cl, Value.slice Ah (layR l0 l0.length).high.length ch,
       Value.slice Ac (layR l0 l0.length).cr.length cc, Value.bool false],
     Value.func (Fn.func 72) #[]
      #[Value.pointer (some { block := bx, off := 0 }),
       Value.pointer (some { block := bx + 1, off := 0 })],
     .slice x.A x.xs.length x.cap, undef, undef, undef], defers := [] }) ?assign ?body ?done ?stop
  case hI =>
   rintro s A C ⟨h1, h2⟩ hAC
   exact ⟨(hAC.block g (by omega)).trans h1, h2.trans (hAC.mono (by omega))⟩
  case assign =>
   intro m l x W K hK
   simp only [Ord.enc]
   gi_wp2
   exact hK
  case body =>
   rintro m l M pre x W hWs hM ⟨hG, hBW⟩ hx hlen
   have e1 := (heap_cells hG 0 (by simp)).1
   have e2 := (heap_cells hG 0 (by simp)).2
   have hlt : (pre.length : Int) < 1152921504606846976 := by omega
   gi_wp2
   refine ⟨Rf.kept_of (Rf.Above.setCell (p := ⟨g, 0, none⟩) (by first | (show g < b0; omega) | (show g < g + 1; omega)) _) (by omega) hWs, ?_, hBW.setCell (p := ⟨g, 0, none⟩) hwg _⟩
   have := blk_set hG 0 (.int .i64 ((pre.length : Int) + 1))
   rw [List.length_append]
   simpa using this
  case done =>
   rintro D xs W hD hS ⟨hG, hBW⟩ hK
   have e1 := (heap_cells hG 0 (by simp)).1
   have hxl : xs.length = (allO l0 ⟨#[]⟩).length := by rw [← hS, List.length_map]
   gi_wp2
   refine ⟨by simp, .inl ⟨_, _, rfl, run_takeDeferred hK, ?_⟩⟩
   refine ⟨_, results_tmp2 rfl _ _ _, ?_, ?_⟩
   ·simp [hxl]
   ·exact hBW.trans (Rf.below_putObj (by omega))
  case stop =>
   rintro D c M pre W _ _ _ h _
   exact h.elim
end Go.Proofs.Ytiknnpfdpecfdaa.Own
namespace Go.Proofs.Ytiknnpfdpecfdaa.Own
open Go Go.RowKit Go.Proofs Go.Proofs.YtiknnpfdpecfdaaW.PrintWords Go.Proofs.YtiknnpfdpecfdaaW.PrintLast Go.Proofs.YtiknnpfdpecfdaaW.PrintMore
set_option linter.unusedVariables false
set_option linter.unusedSimpArgs false
/-- Two results in variables. -/
theorem results_cell2 {fn : Func} {p q : Tmp} {tp tq : TypeId} (h : fn.results = #[.cell p tp, .cell q tq]) (tmps : Array Value) (w : World) (gp gq : Nat) (vp vq : Value)
  (hp : tmps.getD p undef = .pointer (some ⟨gp, 0, none⟩)) (hq : tmps.getD q undef = .pointer (some ⟨gq, 0, none⟩)) (hgp : w.cell? ⟨gp, 0, none⟩ = some vp) (hgq : w.cell? ⟨gq, 0, none⟩ = some vq)
  (hap : (isAgg tp).run Try.prog w = .ok false w) (haq : (isAgg tq).run Try.prog w = .ok false w) : (results fn tmps).run Try.prog w = .ok (.tuple #[vp, vq]) w := by
 have hp' : tmps[p]?.getD undef = .pointer (some ⟨gp, 0, none⟩) := by simpa using hp
 have hq' : tmps[q]?.getD undef = .pointer (some ⟨gq, 0, none⟩) := by simpa using hq
 simp [results, h, hp', hq', asAddr, loadVar, Sem.run_bind, Result.andThen, hap, haq, go_sem, hgp, hgq]
theorem three_allocs {w W : World} {a b c : Value} {t1 t2 t3 : TypeId} (h : Below (((w.alloc (.cells #[a] t1)).alloc (.cells #[b] t2)).alloc (.cells #[c] t3)).heap.size (((w.alloc (.cells #[a] t1)).alloc (.cells #[b] t2)).alloc (.cells #[c] t3)) W) :
  W.heap[w.heap.size]? = some (.cells #[a] t1 (0, 0)) ∧ W.heap[w.heap.size + 1]? = some (.cells #[b] t2 (0, 0)) ∧ W.heap[w.heap.size + 1 + 1]? = some (.cells #[c] t3 (0, 0)) ∧ Below w.heap.size w W ∧ w.heap.size + 3 ≤ W.heap.size := by
 have h1 := Go.Deep.blk_alloc_new w (.cells #[a] t1)
 have h2 := Go.Deep.blk_alloc_new (w.alloc (.cells #[a] t1)) (.cells #[b] t2)
 have h3 := Go.Deep.blk_alloc_new ((w.alloc (.cells #[a] t1)).alloc (.cells #[b] t2)) (.cells #[c] t3)
 have hs := h.size
 simp only [World.size_alloc] at h1 h2 h3 hs h
 refine ⟨(h.block _ (by omega)).trans (blk_alloc (blk_alloc h1 _) _), (h.block _ (by omega)).trans (blk_alloc h2 _), (h.block _ (by omega)).trans h3, ?_, by omega⟩
 exact (below_alloc (below_alloc (below_alloc (Below.refl w.heap.size w) _) _) _).trans (h.mono (by omega))
theorem R_putD {W : World} {D base : Nat} {ok : Nat → Prop} {v : Value} {xs : List Int} {o o' : Obj} (h : Kd.R (Kd.int .i64) 3 W base ok v xs) (hK : W.heap[D]? = some o) (ho : o.isCells = false) : Kd.R (Kd.int .i64) 3 (W.putObj D o') base ok v xs :=
 Kd.R_mono (Kd.R_step (Kd.R_bound h) (fun k hk _ => World.putObj_heap_other (fun e => by
  obtain ⟨q, _, cells, hc⟩ := hk.2.2.2
  rw [e, hK] at hc
  injection hc with hc
  subst hc
  cases ho))) (fun _ hk => hk.1)
def fold_At.f (l : List Int) (a1 : Int) : Option (List Int × Int) := (fold_sizes.f l 1 9).bind fun b => if b = true then
  (if -9223372036854775808 ≤ a1 ∧ a1 < 9223372036854775808 then some (if 0 ≤ a1 ∧ a1.toNat < (allO l ⟨#[]⟩).length then ((allO l ⟨#[]⟩).getD a1.toNat [], 0) else ([], 5)) else none) else some ([], 1)
attribute [local go_sem] Oper.semAt_some
set_option maxRecDepth 100000 in
set_option maxHeartbeats 4000000 in
theorem fold_At.calls (A0 : Option Addr) (c0 : Nat) (l0 : List Int) (a1 : Int) (r1 : List Int) (r2 : Int) (w : World) (hr0 : Kd.C (Kd.int .i64) w A0 l0.length l0) (hc0 : l0.length ≤ c0) (h : fold_At.f l0 a1 = some (r1, r2)) :
  Calls Try.prog 26 #[.slice A0 l0.length c0, .int .i64 a1] w fun e w' => ∃ v0_ : Value, e = .returned (.tuple #[v0_, .int .i64 r2]) ∧ Kd.R (Kd.int .i64) 3 w' w.heap.size (fun _ => True) v0_ r1 ∧ Below w.heap.size w w' := by
 unfold fold_At.f at h
 replace h := Option.bind_eq_some_iff.mp h
 obtain ⟨b, hb, h⟩ := h
 have hcs := fun W hW => fold_sizes.calls A0 c0 l0 1 9 b W hW hc0 hb
 have HCS := Aside0.mk hcs
 have H0 := Aside0.mk hr0
 have HB := Aside0.mk (Below.refl w.heap.size w)
 clear hcs
 refine (callsIn_wide (n := 9)).1 ?_
 cases b
 ·simp only [Bool.false_eq_true, if_false, Option.some.injEq, Prod.mk.injEq] at h
  obtain ⟨rfl, rfl⟩ := h
  clear hr0 hc0
  refine callsIn_of_wp_marks Try.func26 rfl trivial ?_ rfl
  simp only [Try.ntmps26, List.size_toArray, List.length_cons, List.length_nil, Nat.reduceAdd, Nat.reduceSub, Array.replicate_succ, Array.replicate_zero, List.push_toArray, List.append_toArray, List.nil_append, List.cons_append]
  gi_wp2_with (refine ⟨trivial, ?_⟩; gi_at_call 47; refine (callsIn_wide.2 (HCS.out _ (Kd.C_alloc (Kd.C_alloc (Kd.C_alloc H0.out _) _) _))).mono ?_; rintro e w1 ⟨rfl, hd1⟩; obtain ⟨b3, b4, b5, hb1, hs1⟩ := three_allocs hd1.below; have e4 := (heap_cells b4 0 (by simp)).1; have f4 := (heap_cells b4 0 (by simp)).2; have e5 := (heap_cells b5 0 (by simp)).1; have f5 := (heap_cells b5 0 (by simp)).2; have B4 := Aside0.mk b4; have B5 := Aside0.mk b5; have HB1 := Aside0.mk hb1; clear b3 b4 b5 hb1 hs1 hd1)
  refine ⟨_, results_cell2 rfl _ _ (w.heap.size + 1) (w.heap.size + 1 + 1) (.slice none 0 0) (.int .i64 1) rfl rfl ?_ ?_ rfl rfl, .slice none 0 0, rfl, Kd.R_nil _ _ _ _ _, ?_⟩
  ·exact (heap_cells (blk_far (blk_set B4.out 0 _) (p := ⟨w.heap.size + 1 + 1, 0, none⟩) (by show w.heap.size + 1 ≠ w.heap.size + 1 + 1; omega) _) 0 (by simp)).1
  ·exact (heap_cells (blk_set (blk_far B5.out (p := ⟨w.heap.size + 1, 0, none⟩) (by show w.heap.size + 1 + 1 ≠ w.heap.size + 1; omega) _) 0 _) 0 (by simp)).1
  ·exact (HB1.out.setCell (p := ⟨w.heap.size + 1, 0, none⟩) (by show w.heap.size ≤ w.heap.size + 1; omega) _).setCell (p := ⟨w.heap.size + 1 + 1, 0, none⟩) (by show w.heap.size ≤ w.heap.size + 1 + 1; omega) _
 ·by_cases hrg : -9223372036854775808 ≤ a1 ∧ a1 < 9223372036854775808
  ·rw [if_pos rfl, if_pos hrg] at h
   have hn1 := (sizes_len hb).1
   have hn2 := (sizes_len hb).2
   have HLEN := Aside0.mk (And.intro hn1 hn2)
   have HRG := Aside0.mk hrg
   have hN := allO_le l0 ⟨#[]⟩ (by omega)
   have HNN := Aside0.mk hN
   have HLAY := Aside0.mk (fun W hW => lay49 A0 c0 l0 W hW (by omega))
   have HH := Aside0.mk h
   clear hr0 hc0 h hn1 hn2 hN hrg
   refine callsIn_of_wp_marks Try.func26 rfl trivial ?_ rfl
   simp only [Try.ntmps26, List.size_toArray, List.length_cons, List.length_nil, Nat.reduceAdd, Nat.reduceSub, Array.replicate_succ, Array.replicate_zero, List.push_toArray, List.append_toArray, List.nil_append, List.cons_append]
   gi_wp2_with (first
    | (refine ⟨trivial, ?_⟩; gi_at_call 47; refine (callsIn_wide.2 (HCS.out _ (Kd.C_alloc (Kd.C_alloc (Kd.C_alloc H0.out _) _) _))).mono ?_; rintro e w1 ⟨rfl, hd1⟩; obtain ⟨b3, b4, b5, hb1, hs1⟩ := three_allocs hd1.below)
    | (refine ⟨trivial, ?_⟩; gi_at_call 49; refine (callsIn_wide.2 (HLAY.out _ (Kd.C_below H0.out hb1))).mono ?_; rintro e w2 ⟨vl, vh, vc, rfl, hl, hh, hc, hb2⟩; obtain ⟨Al, cl, rfl⟩ := Kd.R_slice hl; obtain ⟨Ah, ch, rfl⟩ := Kd.R_slice hh; obtain ⟨Ac, cc, rfl⟩ := Kd.R_slice hc)
    | (refine ⟨trivial, ?_⟩; gi_at_call 50; refine (callsIn_wide.2 (orders50 _ _ _ _ _ _)).mono ?_; rintro e w3 ⟨rfl, hw3⟩))
   have hn1 := HLEN.out.1
   have hn2 := HLEN.out.2
   have hN := HNN.out
   have hrg := HRG.out
   rw [← hw3]
   obtain ⟨g, hg⟩ : ∃ g, w.heap.size = g := ⟨_, rfl⟩
   rw [hg] at b3 b4 b5 hs1 ⊢
   have hwg : w.heap.size ≤ g := by omega
   have HGE := Aside0.mk hg
   clear hg
   have hb23 : Below w2.heap.size w2 w3 := by subst hw3; exact below_alloc (below_alloc (Below.refl _ _) _) _
   have hB13 : Below w1.heap.size w1 w3 := below_step hb2 hb23
   have hB3 : Below w.heap.size w w3 := below_step hb1 hB13
   have hsz3 : w1.heap.size ≤ w3.heap.size := hB13.size
   have hgv := strip_gives l0 ⟨#[]⟩ (fun k => w1.heap.size ≤ k) Al Ah Ac cl ch cc w2 w3 (by omega) (by omega) (Or.inl rfl) (R_from hl) (R_from hh) (R_from hc) hb2.size hw3
   replace b3 := (hB13.block g (by omega)).trans b3
   replace b4 := (hB13.block (g + 1) (by omega)).trans b4
   replace b5 := (hB13.block (g + 1 + 1) (by omega)).trans b5
   generalize w2.heap.size = bx at hgv ⊢
   generalize w1.heap.size = b0 at hgv hsz3 hs1 ⊢
   clear hw3 hb23 hl hh hc hb2 HLAY hB13 hb1 hd1 HCS
   refine Rf.rangeIter (F := Fence.wide) rfl rfl (gf := 72) (lb := #[.pointer (some ⟨bx, 0, none⟩), .pointer (some ⟨bx + 1, 0, none⟩)]) rfl trivial (enters_of Try.func72 (by kernel_rfl) rfl) hgv (fun _ => rfl) ord_px
    (fun pre W => W.heap[g]? = some (.cells #[.int .i64 (wrap64 (a1 - pre.length))] 3 (0, 0)) ∧ W.heap[g + 1]? = some (.cells #[.slice none 0 0] 22 (0, 0)) ∧ W.heap[g + 1 + 1]? = some (.cells #[.int .i64 0] 24 (0, 0)) ∧ (0 ≤ a1 → (pre.length : Int) ≤ a1) ∧ Below w.heap.size w W)
    (fun c M pre W => c = .ret ∧ ∃ pre0 x, pre = pre0 ++ [x] ∧ (pre0.length : Int) = a1 ∧ W.heap[g + 1]? = some (.cells #[.slice x.A x.xs.length x.cap] 22 (0, 0)) ∧ W.heap[g + 1 + 1]? = some (.cells #[.int .i64 0] 24 (0, 0)) ∧ Ord.px M x W ∧ Below w.heap.size w W) ?hI ?hIx ⟨by simpa [show wrap64 a1 = a1 by unfold wrap64; omega] using b3, b4, b5, fun h => by simpa using h, hB3⟩
    (fun x => { tmps :=
     #[Value.slice A0 l0.length c0, Value.int IntKind.i64 a1, undef,
      Value.pointer (some { block := g, off := 0 }),
      Value.pointer (some { block := g + 1, off := 0 }),
      Value.pointer (some { block := g + 1 + 1, off := 0 }), .slice x.A x.xs.length x.cap, Value.slice A0 l0.length c0,
      Value.bool true, Value.bool false, Value.slice A0 l0.length c0,
      Value.agg
       #[Value.slice Al (layR l0 l0.length).low.length cl, Value.slice Ah (layR l0 l0.length).high.length ch,
        Value.slice Ac (layR l0 l0.length).cr.length cc, Value.bool false],
      Value.func (Fn.func 72) #[]
       #[Value.pointer (some { block := bx, off := 0 }),
        Value.pointer (some { block := bx + 1, off := 0 })],
      .slice x.A x.xs.length x.cap, undef, undef, undef, undef, undef], defers := [] }) ?assign ?body ?done ?stop
   case hI =>
    rintro s A C ⟨h1, h2, h3, h4, h5⟩ hAC
    exact ⟨(hAC.block g (by omega)).trans h1, (hAC.block (g + 1) (by omega)).trans h2, (hAC.block (g + 1 + 1) (by omega)).trans h3, h4, h5.trans (hAC.mono (by omega))⟩
   case hIx =>
    rintro c M s A C hM ⟨hc, pre0, x, h1, h2, h3, h4, h5, h6⟩ hAC
    exact ⟨hc, pre0, x, h1, h2, (hAC.1.block (g + 1) (by omega)).trans h3, (hAC.1.block (g + 1 + 1) (by omega)).trans h4, Kd.R_mono (Kd.R_step (Kd.R_bound h5) (fun k ho hk => hAC.2.2 k ho.2.1 hk)) (fun _ _ => trivial), h6.trans (hAC.1.mono (by omega))⟩
   case assign =>
    intro m l x W K hK
    simp only [Ord.enc]
    gi_wp2
    exact hK
   case body =>
    rintro m l M pre x W hWs hM ⟨h1, h2, h3, h4, hBW⟩ hx hlen
    have e1 := (heap_cells h1 0 (by simp)).1
    have f1 := (heap_cells h1 0 (by simp)).2
    have e2 := (heap_cells h2 0 (by simp)).1
    have f2 := (heap_cells h2 0 (by simp)).2
    have e3 := (heap_cells h3 0 (by simp)).1
    have f3 := (heap_cells h3 0 (by simp)).2
    have hlt : (pre.length : Int) < 1152921504606846976 := by omega
    obtain ⟨v, hv⟩ : ∃ v, wrap64 (a1 - pre.length) = v := ⟨_, rfl⟩
    have hv0 : v = 0 ↔ a1 = pre.length := by rw [← hv]; unfold wrap64; omega
    have hv1 : wrap64 (v - 1) = wrap64 (a1 - (pre.length + 1 : Nat)) := by rw [← hv]; unfold wrap64; omega
    rw [hv] at e1
    clear hv
    by_cases hz : v = 0
    ·have ha := hv0.1 hz
     subst hz
     have HA := Aside0.mk ha.symm
     clear hv0 hv1 ha
     have n1 : g + 1 ≠ g + 1 + 1 := by omega
     have n2 : g + 1 + 1 ≠ g + 1 := by omega
     gi_wp2
     refine ⟨Rf.kept_of ((Rf.Above.setCell (p := ⟨g + 1, 0, none⟩) (by show g + 1 < b0; omega) _).trans (Rf.Above.setCell (p := ⟨g + 1 + 1, 0, none⟩) (by show g + 1 + 1 < b0; omega) _)) hsz3 hWs, rfl, pre, x, rfl, HA.out, blk_far (blk_set h2 0 _) (p := ⟨g + 1 + 1, 0, none⟩) n1 _, blk_set (blk_far h3 (p := ⟨g + 1, 0, none⟩) n2 _) 0 _, ?_, (hBW.setCell (p := ⟨g + 1, 0, none⟩) (by show w.heap.size ≤ g + 1; omega) _).setCell (p := ⟨g + 1 + 1, 0, none⟩) (by show w.heap.size ≤ g + 1 + 1; omega) _⟩
     exact Kd.R_mono (Kd.R_far (Kd.R_far (Kd.R_bound hx) (p := ⟨g + 1, 0, none⟩) (fun k hk => by have := hk.2.1; show k ≠ g + 1; omega) _) (p := ⟨g + 1 + 1, 0, none⟩) (fun k hk => by have := hk.2.1; show k ≠ g + 1 + 1; omega) _) (fun _ _ => trivial)
    ·have hz2 : (v == 0) = false := by simpa using hz
     gi_wp2
     refine ⟨Rf.kept_of (Rf.Above.setCell (p := ⟨g, 0, none⟩) (by show g < b0; omega) _) hsz3 hWs, ?_, blk_far h2 (p := ⟨g, 0, none⟩) (by show g + 1 ≠ g; omega) _, blk_far h3 (p := ⟨g, 0, none⟩) (by show g + 1 + 1 ≠ g; omega) _, fun h => ?_, hBW.setCell (p := ⟨g, 0, none⟩) (by show w.heap.size ≤ g; omega) _⟩
     ·have := blk_set h1 0 (.int .i64 (wrap64 (v - 1)))
      rw [hv1] at this
      rw [List.length_append]
      simpa [hv1] using this
     ·have := h4 h
      rw [List.length_append]
      have : a1 ≠ pre.length := fun e => hz (hv0.2 e)
      simp only [List.length_cons, List.length_nil]
      omega
   case done =>
    rintro D xs W hD hS ⟨h1, h2, h3, h4, hBW⟩ hK
    have e2 := (heap_cells h2 0 (by simp)).1
    have f2 := (heap_cells h2 0 (by simp)).2
    have e3 := (heap_cells h3 0 (by simp)).1
    have f3 := (heap_cells h3 0 (by simp)).2
    have hxl : xs.length = (allO l0 ⟨#[]⟩).length := by rw [← hS, List.length_map]
    have n1 : g + 1 ≠ g + 1 + 1 := by omega
    have n2 : g + 1 + 1 ≠ g + 1 := by omega
    gi_wp2
    obtain ⟨W2, hW2⟩ : ∃ W2, (W.setCell ⟨g + 1, 0, none⟩ (.slice none 0 0)).setCell ⟨g + 1 + 1, 0, none⟩ (.int .i64 5) = W2 := ⟨_, rfl⟩
    have hK2 : W2.heap[D]? = some (.deferred (some [])) := by
     rw [← hW2]
     exact (Below.heap_setCell _ ⟨g + 1 + 1, 0, none⟩ _ D (by show D ≠ g + 1 + 1; omega)).trans ((Below.heap_setCell _ ⟨g + 1, 0, none⟩ _ D (by show D ≠ g + 1; omega)).trans hK)
    have hlow : ∀ k, k ≠ D → (W2.putObj D (.deferred none)).heap[k]? = W2.heap[k]? := fun k hk => World.putObj_heap_other hk
    have q2 : W2.heap[g + 1]? = some (.cells #[.slice none 0 0] 22 (0, 0)) := by rw [← hW2]; exact blk_far (blk_set h2 0 _) (p := ⟨g + 1 + 1, 0, none⟩) n1 _
    have q3 : W2.heap[g + 1 + 1]? = some (.cells #[.int .i64 5] 24 (0, 0)) := by rw [← hW2]; exact blk_set (blk_far h3 (p := ⟨g + 1, 0, none⟩) n2 _) 0 _
    have q4 : Below w.heap.size w W2 := by rw [← hW2]; exact (hBW.setCell (p := ⟨g + 1, 0, none⟩) (by show w.heap.size ≤ g + 1; omega) _).setCell (p := ⟨g + 1 + 1, 0, none⟩) (by show w.heap.size ≤ g + 1 + 1; omega) _
    rw [hW2]
    refine ⟨by simp, .inl ⟨_, _, rfl, run_takeDeferred hK2, ?_⟩⟩
    have z2 := (heap_cells ((hlow (g + 1) (by omega)).trans q2) 0 (by simp)).1
    have z3 := (heap_cells ((hlow (g + 1 + 1) (by omega)).trans q3) 0 (by simp)).1
    have hh := HH.out
    rw [if_neg (by omega)] at hh
    simp only [Option.some.injEq, Prod.mk.injEq] at hh
    obtain ⟨rfl, rfl⟩ := hh
    exact ⟨_, results_cell2 rfl _ _ (g + 1) (g + 1 + 1) _ _ rfl rfl z2 z3 rfl rfl, _, rfl, Kd.R_nil _ _ _ _ _, q4.trans (Rf.below_putObj (by omega))⟩
   case stop =>
    rintro D c M pre W hD hM hSp ⟨rfl, pre0, x, rfl, h1, h2, h3, h4, hBW⟩ hK
    gi_wp2
    have hlow : ∀ k, k ≠ D → (W.putObj D (.deferred none)).heap[k]? = W.heap[k]? := fun k hk => World.putObj_heap_other hk
    have e2 := (heap_cells ((hlow (g + 1) (by omega)).trans h2) 0 (by simp)).1
    have e3 := (heap_cells ((hlow (g + 1 + 1) (by omega)).trans h3) 0 (by simp)).1
    refine ⟨by simp, .inl ⟨_, _, rfl, run_takeDeferred hK, ?_⟩⟩
    refine ⟨_, results_cell2 rfl _ _ (g + 1) (g + 1 + 1) _ _ rfl rfl e2 e3 rfl rfl, ?_⟩
    obtain ⟨r, hr⟩ := hSp
    have hx : (allO l0 ⟨#[]⟩)[pre0.length]? = some x.xs := by rw [← hr]; simp
    have hlt : pre0.length < (allO l0 ⟨#[]⟩).length := (List.getElem?_eq_some_iff.1 hx).1
    have hh := HH.out
    rw [if_pos ⟨by omega, by omega⟩] at hh
    have ha : a1.toNat = pre0.length := by omega
    rw [ha] at hh
    simp only [List.getD_eq_getElem?_getD, hx, Option.getD_some, Option.some.injEq, Prod.mk.injEq] at hh
    obtain ⟨rfl, rfl⟩ := hh
    refine ⟨_, rfl, ?_, hBW.trans (Rf.below_putObj (by omega))⟩
    exact Kd.R_lower (R_putD h4 hK rfl) (by omega)
  ·rw [if_pos rfl, if_neg hrg] at h
   cases h
end Go.Proofs.Ytiknnpfdpecfdaa.Own
namespace Go.Proofs.Ytiknnpfdpecfdaa.Own
open Go Go.RowKit Go.Proofs Go.Proofs.Ytiknnpfdpecfdaa.Fey Go.Proofs.YtiknnpfdpecfdaaW.PrintWords Go.Proofs.YtiknnpfdpecfdaaW.PrintLast Go.Proofs.YtiknnpfdpecfdaaW.PrintMore
set_option linter.unusedVariables false
set_option linter.unusedSimpArgs false
/-- A letter M or V. -/
def isMV (s : ByteArray) (i : Nat) : Bool := decide (bt s (i : Int) = 77) || decide (bt s (i : Int) = 86)
def lettersB (s : ByteArray) (n : Int) : Bool := (List.range s.size).all (isMV s) && ((s.size : Int) == n)
theorem letters_l0 (s : ByteArray) (n : Int) (hs : s.size < 2 ^ 40) : ∀ (d i : Nat), i + d = s.size → fold_letters.l0 (d + 1) s n (s.size : Int) (i : Int) = some ((List.range' i d).all (isMV s) && ((s.size : Int) == n)) := by
 intro d
 induction d with
 | zero =>
  intro i hi
  simp only [fold_letters.l0]
  rw [if_neg (by omega)]
  rfl
 | succ d ih =>
  intro i hi
  have hw : wrap64 ((i : Int) + 1) = ((i + 1 : Nat) : Int) := by unfold wrap64; omega
  rw [fold_letters.l0]
  rw [if_pos (by omega), if_pos (by omega), if_pos (by omega), hw, ih (i + 1) (by omega), List.range'_succ, List.all_cons]
  unfold isMV
  by_cases h1 : bt s (i : Int) = 77
  ·rw [if_pos h1, decide_eq_true h1]; simp
  ·rw [if_neg h1, decide_eq_false h1]
   by_cases h2 : bt s (i : Int) = 86
   ·rw [if_pos h2, decide_eq_true h2]; simp
   ·rw [if_neg h2, decide_eq_false h2]; simp
theorem letters_f (s : ByteArray) (n : Int) (hs : s.size < 2 ^ 40) : fold_letters.f (s.size + 1) s n = some (lettersB s n) := by
 have h := letters_l0 s n hs s.size 0 (by omega)
 unfold fold_letters.f lettersB
 rw [List.range_eq_range']
 exact h
theorem equal_l0 (a b : List Int) (ha : a.length < 2 ^ 40) (hab : a.length = b.length) : ∀ (d i : Nat), i + d = a.length → slices_Equal_int_int.l0 (d + 1) a b (a.length : Int) (i : Int) = some (decide (a.drop i = b.drop i)) := by
 intro d
 induction d with
 | zero =>
  intro i hi
  simp only [slices_Equal_int_int.l0]
  rw [if_neg (by omega), List.drop_eq_nil_of_le (by omega), List.drop_eq_nil_of_le (by omega)]
  rfl
 | succ d ih =>
  intro i hi
  have hw : wrap64 ((i : Int) + 1) = ((i + 1 : Nat) : Int) := by unfold wrap64; omega
  have hia : i < a.length := by omega
  have hib : i < b.length := by omega
  have e1 : rd a (i : Int) = a[i] := by simp [rd, hia]
  have e2 : rd b (i : Int) = b[i] := by simp [rd, hib]
  rw [slices_Equal_int_int.l0]
  rw [if_pos (by omega), if_pos (by omega), if_pos (by omega), if_pos (by omega), hw, ih (i + 1) (by omega), e1, e2, List.drop_eq_getElem_cons hia, List.drop_eq_getElem_cons hib]
  by_cases h : a[i] = b[i]
  ·rw [if_pos h]
   exact congrArg some (decide_eq_decide.2 ⟨fun e => by rw [h, e], fun e => (List.cons.inj e).2⟩)
  ·rw [if_neg h]
   exact congrArg some (decide_eq_false (fun e => h (List.cons.inj e).1)).symm
theorem equal_f (a b : List Int) (ha : a.length < 2 ^ 40) : slices_Equal_int_int.f (a.length + 1) a b = some (decide (a = b)) := by
 unfold slices_Equal_int_int.f
 by_cases h : (a.length : Int) = (b.length : Int)
 ·rw [if_pos h]
  have := equal_l0 a b ha (by omega) a.length 0 (by omega)
  simpa using this
 ·rw [if_neg h]
  congr 1
  symm
  apply decide_eq_false
  rintro rfl
  exact h rfl
theorem layR_cr (sizes : List Int) : ∀ k, (layR sizes k).cr.length = k - 1
 | 0 => rfl
 | k + 1 => by
  have ih := layR_cr sizes k
  simp only [layR, layStep]
  split
  ·simp only [List.length_append, List.length_cons, List.length_nil, ih]; omega
  ·rw [ih]; omega
end Go.Proofs.Ytiknnpfdpecfdaa.Own
namespace Go.Proofs.Ytiknnpfdpecfdaa.Own
open Go Go.RowKit Go.Proofs Go.Proofs.Ytiknnpfdpecfdaa.Fey Go.Proofs.YtiknnpfdpecfdaaW.PrintWords Go.Proofs.YtiknnpfdpecfdaaW.PrintLast Go.Proofs.YtiknnpfdpecfdaaW.PrintMore
set_option linter.unusedVariables false
set_option linter.unusedSimpArgs false
def fold_Layers.f (l : List Int) (pat : ByteArray) : Option (List Int × Int) := (fold_sizes.f l 1 9).bind fun b => if b = true then
  (if pat.size < 1099511627776 then some (if lettersB pat ((l.length : Int) - 1) = true then (if h : (allO l pat) = [] then ([], 5) else ((allO l pat).head h, 0)) else ([], 2)) else none) else some ([], 1)
theorem two_allocs {w W : World} {a b : Value} {t1 t2 : TypeId} (h : Below ((w.alloc (.cells #[a] t1)).alloc (.cells #[b] t2)).heap.size ((w.alloc (.cells #[a] t1)).alloc (.cells #[b] t2)) W) :
  W.heap[w.heap.size]? = some (.cells #[a] t1 (0, 0)) ∧ W.heap[w.heap.size + 1]? = some (.cells #[b] t2 (0, 0)) ∧ Below w.heap.size w W ∧ w.heap.size + 2 ≤ W.heap.size := by
 have h1 := Go.Deep.blk_alloc_new w (.cells #[a] t1)
 have h2 := Go.Deep.blk_alloc_new (w.alloc (.cells #[a] t1)) (.cells #[b] t2)
 have hs := h.size
 simp only [World.size_alloc] at h1 h2 hs h
 refine ⟨(h.block _ (by omega)).trans (blk_alloc h1 _), (h.block _ (by omega)).trans h2, ?_, by omega⟩
 exact (below_alloc (below_alloc (Below.refl w.heap.size w) _) _).trans (h.mono (by omega))
/-- Two results in variables, both written, behind a walk's last world. -/
theorem two_written {fn : Func} {p q : Tmp} {tp tq : TypeId} (hf : fn.results = #[.cell p tp, .cell q tq]) {tmps : Array Value} {g1 g2 : Nat} {W : World} {u1 u2 v1 v2 : Value} {t1 t2 : TypeId} (hp : tmps.getD p undef = .pointer (some ⟨g1, 0, none⟩)) (hq : tmps.getD q undef = .pointer (some ⟨g2, 0, none⟩)) (h1 : W.heap[g1]? = some (.cells #[u1] t1 (0, 0))) (h2 : W.heap[g2]? = some (.cells #[u2] t2 (0, 0))) (hne : g1 ≠ g2)
  (hap : (isAgg tp).run Try.prog ((W.setCell ⟨g1, 0, none⟩ v1).setCell ⟨g2, 0, none⟩ v2) = .ok false ((W.setCell ⟨g1, 0, none⟩ v1).setCell ⟨g2, 0, none⟩ v2)) (haq : (isAgg tq).run Try.prog ((W.setCell ⟨g1, 0, none⟩ v1).setCell ⟨g2, 0, none⟩ v2) = .ok false ((W.setCell ⟨g1, 0, none⟩ v1).setCell ⟨g2, 0, none⟩ v2)) :
  (results fn tmps).run Try.prog ((W.setCell ⟨g1, 0, none⟩ v1).setCell ⟨g2, 0, none⟩ v2) = .ok (.tuple #[v1, v2]) ((W.setCell ⟨g1, 0, none⟩ v1).setCell ⟨g2, 0, none⟩ v2) :=
 results_cell2 hf _ _ g1 g2 v1 v2 hp hq (heap_cells (blk_far (blk_set h1 0 _) (p := ⟨g2, 0, none⟩) hne _) 0 (by simp)).1 (heap_cells (blk_set (blk_far h2 (p := ⟨g1, 0, none⟩) hne.symm _) 0 _) 0 (by simp)).1 hap haq
attribute [local go_sem] Oper.semAt_some
set_option maxRecDepth 100000 in
set_option maxHeartbeats 4000000 in
theorem fold_Layers.calls (A0 : Option Addr) (c0 : Nat) (l0 : List Int) (a1 : ByteArray) (r1 : List Int) (r2 : Int) (w : World) (hr0 : Kd.C (Kd.int .i64) w A0 l0.length l0) (hc0 : l0.length ≤ c0) (h : fold_Layers.f l0 a1 = some (r1, r2)) :
    Calls Try.prog 16 #[.slice A0 l0.length c0, .string a1] w fun e w' => ∃ v0_ : Value, e = .returned (.tuple #[v0_, .int .i64 r2]) ∧ Kd.R (Kd.int .i64) 3 w' w.heap.size (fun _ => True) v0_ r1 ∧ Below w.heap.size w w' := by
  unfold fold_Layers.f at h
  replace h := Option.bind_eq_some_iff.mp h
  obtain ⟨b, hb, h⟩ := h
  have hcs := fun W hW => fold_sizes.calls A0 c0 l0 1 9 b W hW hc0 hb
  have HCS := Aside0.mk hcs
  have H0 := Aside0.mk hr0
  clear hcs
  refine (callsIn_wide (n := 9)).1 ?_
  cases b
  · simp only [Bool.false_eq_true, if_false, Option.some.injEq, Prod.mk.injEq] at h
    obtain ⟨rfl, rfl⟩ := h
    clear hr0 hc0
    refine callsIn_of_wp_marks Try.func16 rfl trivial ?_ rfl
    simp only [Try.ntmps16, List.size_toArray, List.length_cons, List.length_nil, Nat.reduceAdd, Nat.reduceSub, Array.replicate_succ, Array.replicate_zero, List.push_toArray, List.append_toArray, List.nil_append, List.cons_append]
    gi_wp2_with (refine ⟨trivial, ?_⟩; gi_at_call 47; refine (callsIn_wide.2 (HCS.out _ (Kd.C_alloc (Kd.C_alloc H0.out _) _))).mono ?_; rintro e w1 ⟨rfl, hd1⟩; obtain ⟨b4, b5, hb1, hs1⟩ := two_allocs hd1.below; have e4 := (heap_cells b4 0 (by simp)).1; have f4 := (heap_cells b4 0 (by simp)).2; have e5 := (heap_cells b5 0 (by simp)).1; have f5 := (heap_cells b5 0 (by simp)).2; have B4 := Aside0.mk b4; have B5 := Aside0.mk b5; have HB1 := Aside0.mk hb1; clear b4 b5 hb1 hs1 hd1)
    exact ⟨_, two_written rfl rfl rfl B4.out B5.out (by omega) rfl rfl, .slice none 0 0, rfl, Kd.R_nil _ _ _ _ _, (HB1.out.setCell (p := ⟨w.heap.size, 0, none⟩) (by show w.heap.size ≤ w.heap.size; omega) _).setCell (p := ⟨w.heap.size + 1, 0, none⟩) (by show w.heap.size ≤ w.heap.size + 1; omega) _⟩
  · by_cases hsz : a1.size < 1099511627776
    · rw [if_pos rfl, if_pos hsz] at h
      have hn1 := (sizes_len hb).1
      have hn2 := (sizes_len hb).2
      have HLET := Aside0.mk (fun W => fold_letters.calls (a1.size + 1) a1 ((l0.length : Int) - 1) _ W (letters_f a1 _ (by omega)))
      have hw1 : wrap64 ((l0.length : Int) - 1) = (l0.length : Int) - 1 := by unfold wrap64; omega
      have HLEN := Aside0.mk (And.intro hn1 hn2)
      have HSZ := Aside0.mk hsz
      by_cases hlet : lettersB a1 ((l0.length : Int) - 1) = true
      · rw [if_pos hlet] at h
        have hcr : (layR l0 l0.length).cr.length ≤ a1.size := by
          rw [layR_cr]
          unfold lettersB at hlet
          have h2 := (Bool.and_eq_true _ _ ▸ hlet).2
          have h3 : (a1.size : Int) = (l0.length : Int) - 1 := by simpa using h2
          omega
        rw [hlet] at HLET
        have HCRL := Aside0.mk hcr
        have HLAY := Aside0.mk (fun W hW => lay49 A0 c0 l0 W hW (by omega))
        have HH := Aside0.mk h
        clear hr0 hc0 hn1 hn2 hsz h hlet hcr
        refine callsIn_of_wp_marks Try.func16 rfl trivial ?_ rfl
        simp only [Try.ntmps16, List.size_toArray, List.length_cons, List.length_nil, Nat.reduceAdd, Nat.reduceSub, Array.replicate_succ, Array.replicate_zero, List.push_toArray, List.append_toArray, List.nil_append, List.cons_append]
        gi_wp2_with (first
          | (refine ⟨trivial, ?_⟩; gi_at_call 47; refine (callsIn_wide.2 (HCS.out _ (Kd.C_alloc (Kd.C_alloc H0.out _) _))).mono ?_; rintro e w1 ⟨rfl, hd1⟩; obtain ⟨b4, b5, hb1, hs1⟩ := two_allocs hd1.below; have HB1 := Aside0.mk (And.intro b4 (And.intro b5 hb1)); clear b4 b5 hb1 hs1 hd1)
          | (refine ⟨trivial, ?_⟩; gi_at_call 48; refine (callsIn_wide.2 (HLET.out _)).mono ?_; rintro e w12 ⟨rfl, hd2⟩; have B4 := Aside0.mk ((hd2.below.block w.heap.size (blk_lt' HB1.out.1)).trans HB1.out.1); have B5 := Aside0.mk ((hd2.below.block (w.heap.size + 1) (blk_lt' HB1.out.2.1)).trans HB1.out.2.1); have HB2 := Aside0.mk (below_step HB1.out.2.2 hd2.below); clear hd2)
          | (refine ⟨trivial, ?_⟩; gi_at_call 49; refine (callsIn_wide.2 (HLAY.out _ (Kd.C_below H0.out HB2.out))).mono ?_; rintro e w2 ⟨vl, vh, vc, rfl, hl, hh, hc, hb2⟩; obtain ⟨Al, cl, rfl⟩ := Kd.R_slice hl; obtain ⟨Ah, ch, rfl⟩ := Kd.R_slice hh; obtain ⟨Ac, cc, rfl⟩ := Kd.R_slice hc)
          | (refine ⟨trivial, ?_⟩; gi_at_call 50; refine (callsIn_wide.2 (orders50 _ _ _ _ _ _)).mono ?_; rintro e w3 ⟨rfl, hw3⟩))
        have hn1 := HLEN.out.1
        have hn2 := HLEN.out.2
        rw [← hw3]
        obtain ⟨g, hg⟩ : ∃ g, w.heap.size = g := ⟨_, rfl⟩
        have b4 := B4.out
        have b5 := B5.out
        have hs1 : w.heap.size + 1 < w12.heap.size := blk_lt' b5
        rw [hg] at b4 b5 hs1 ⊢
        have hwg : w.heap.size ≤ g := by omega
        have HGE := Aside0.mk hg
        clear hg
        have hb23 : Below w2.heap.size w2 w3 := by subst hw3; exact below_alloc (below_alloc (Below.refl _ _) _) _
        have hB13 : Below w12.heap.size w12 w3 := below_step hb2 hb23
        have hB3 : Below w.heap.size w w3 := below_step HB2.out hB13
        have hsz3 : w12.heap.size ≤ w3.heap.size := hB13.size
        have hgv := strip_gives l0 a1 (fun k => w12.heap.size ≤ k) Al Ah Ac cl ch cc w2 w3 (by omega) (by omega) (Or.inr HCRL.out) (R_from hl) (R_from hh) (R_from hc) hb2.size hw3
        replace b4 := (hB13.block g (by omega)).trans b4
        replace b5 := (hB13.block (g + 1) (by omega)).trans b5
        generalize w2.heap.size = bx at hgv ⊢
        generalize w12.heap.size = b0 at hgv hsz3 hs1 ⊢
        clear hw3 hb23 hl hh hc hb2 HLAY hB13 HCS B4 B5 HB1 HLET
        refine Rf.rangeIter (F := Fence.wide) rfl rfl (gf := 72) (lb := #[.pointer (some ⟨bx, 0, none⟩), .pointer (some ⟨bx + 1, 0, none⟩)]) rfl trivial (enters_of Try.func72 (by kernel_rfl) rfl) hgv (fun _ => rfl) ord_px
          (fun pre W => pre = [] ∧ W.heap[g]? = some (.cells #[.slice none 0 0] 22 (0, 0)) ∧ W.heap[g + 1]? = some (.cells #[.int .i64 0] 24 (0, 0)) ∧ Below w.heap.size w W)
          (fun c M pre W => c = .ret ∧ ∃ x, pre = [x] ∧ W.heap[g]? = some (.cells #[.slice x.A x.xs.length x.cap] 22 (0, 0)) ∧ W.heap[g + 1]? = some (.cells #[.int .i64 0] 24 (0, 0)) ∧ Ord.px M x W ∧ Below w.heap.size w W) ?hI ?hIx ⟨rfl, b4, b5, hB3⟩
          (fun x => { tmps :=
            #[Value.slice A0 l0.length c0, Value.string a1, undef, undef,
              Value.pointer (some { block := g, off := 0 }),
              Value.pointer (some { block := g + 1, off := 0 }), .slice x.A x.xs.length x.cap, Value.bool false, Value.slice A0 l0.length c0,
              Value.bool true, Value.bool false, Value.bool false, Value.string a1, Value.slice A0 l0.length c0,
              Value.int IntKind.i64 (l0.length : Int), Value.int IntKind.i64 ((l0.length : Int) - 1), Value.bool true, Value.bool false, Value.slice A0 l0.length c0,
              Value.agg
                #[Value.slice Al (layR l0 l0.length).low.length cl, Value.slice Ah (layR l0 l0.length).high.length ch,
                  Value.slice Ac (layR l0 l0.length).cr.length cc, Value.bool false], Value.string a1,
              Value.func (Fn.func 72) #[]
                #[Value.pointer (some { block := bx, off := 0 }),
                  Value.pointer (some { block := bx + 1, off := 0 })],
              .slice x.A x.xs.length x.cap, undef], defers := [] }) ?assign ?body ?done ?stop
        case hI =>
          rintro s A C ⟨h1, h2, h3, h5⟩ hAC
          exact ⟨h1, (hAC.block g (by omega)).trans h2, (hAC.block (g + 1) (by omega)).trans h3, h5.trans (hAC.mono (by omega))⟩
        case hIx =>
          rintro c M s A C hM ⟨hc, x, h2, h3, h4, h5, h6⟩ hAC
          exact ⟨hc, x, h2, (hAC.1.block g (by omega)).trans h3, (hAC.1.block (g + 1) (by omega)).trans h4, Kd.R_mono (Kd.R_step (Kd.R_bound h5) (fun k ho hk => hAC.2.2 k ho.2.1 hk)) (fun _ _ => trivial), h6.trans (hAC.1.mono (by omega))⟩
        case assign =>
          intro m l x W K hK
          simp only [Ord.enc]
          gi_wp2
          exact hK
        case body =>
          rintro m l M pre x W hWs hM ⟨rfl, h2, h3, hBW⟩ hx hlen
          have e2 := (heap_cells h2 0 (by simp)).1
          have f2 := (heap_cells h2 0 (by simp)).2
          have e3 := (heap_cells h3 0 (by simp)).1
          have f3 := (heap_cells h3 0 (by simp)).2
          have n1 : g ≠ g + 1 := by omega
          have n2 : g + 1 ≠ g := by omega
          gi_wp2
          refine ⟨Rf.kept_of ((Rf.Above.setCell (p := ⟨g, 0, none⟩) (by show g < b0; omega) _).trans (Rf.Above.setCell (p := ⟨g + 1, 0, none⟩) (by show g + 1 < b0; omega) _)) hsz3 hWs, rfl, x, rfl, blk_far (blk_set h2 0 _) (p := ⟨g + 1, 0, none⟩) n1 _, blk_set (blk_far h3 (p := ⟨g, 0, none⟩) n2 _) 0 _, ?_, (hBW.setCell (p := ⟨g, 0, none⟩) (by show w.heap.size ≤ g; omega) _).setCell (p := ⟨g + 1, 0, none⟩) (by show w.heap.size ≤ g + 1; omega) _⟩
          exact Kd.R_mono (Kd.R_far (Kd.R_far (Kd.R_bound hx) (p := ⟨g, 0, none⟩) (fun k hk => by have := hk.2.1; show k ≠ g; omega) _) (p := ⟨g + 1, 0, none⟩) (fun k hk => by have := hk.2.1; show k ≠ g + 1; omega) _) (fun _ _ => trivial)
        case done =>
          rintro D xs W hD hS ⟨rfl, h2, h3, hBW⟩ hK
          have e2 := (heap_cells h2 0 (by simp)).1
          have f2 := (heap_cells h2 0 (by simp)).2
          have e3 := (heap_cells h3 0 (by simp)).1
          have f3 := (heap_cells h3 0 (by simp)).2
          have hall : allO l0 a1 = [] := by rw [← hS]; rfl
          have n1 : g ≠ g + 1 := by omega
          have n2 : g + 1 ≠ g := by omega
          gi_wp2
          obtain ⟨W2, hW2⟩ : ∃ W2, (W.setCell ⟨g, 0, none⟩ (.slice none 0 0)).setCell ⟨g + 1, 0, none⟩ (.int .i64 5) = W2 := ⟨_, rfl⟩
          have hK2 : W2.heap[D]? = some (.deferred (some [])) := by
            rw [← hW2]
            exact (Below.heap_setCell _ ⟨g + 1, 0, none⟩ _ D (by show D ≠ g + 1; omega)).trans ((Below.heap_setCell _ ⟨g, 0, none⟩ _ D (by show D ≠ g; omega)).trans hK)
          have hlow : ∀ k, k ≠ D → (W2.putObj D (.deferred none)).heap[k]? = W2.heap[k]? := fun k hk => World.putObj_heap_other hk
          have q2 : W2.heap[g]? = some (.cells #[.slice none 0 0] 22 (0, 0)) := by rw [← hW2]; exact blk_far (blk_set h2 0 _) (p := ⟨g + 1, 0, none⟩) n1 _
          have q3 : W2.heap[g + 1]? = some (.cells #[.int .i64 5] 24 (0, 0)) := by rw [← hW2]; exact blk_set (blk_far h3 (p := ⟨g, 0, none⟩) n2 _) 0 _
          have q4 : Below w.heap.size w W2 := by rw [← hW2]; exact (hBW.setCell (p := ⟨g, 0, none⟩) (by show w.heap.size ≤ g; omega) _).setCell (p := ⟨g + 1, 0, none⟩) (by show w.heap.size ≤ g + 1; omega) _
          rw [hW2]
          refine ⟨by simp, .inl ⟨_, _, rfl, run_takeDeferred hK2, ?_⟩⟩
          have z2 := (heap_cells ((hlow g (by omega)).trans q2) 0 (by simp)).1
          have z3 := (heap_cells ((hlow (g + 1) (by omega)).trans q3) 0 (by simp)).1
          have hh := HH.out
          rw [dif_pos hall] at hh
          simp only [Option.some.injEq, Prod.mk.injEq] at hh
          obtain ⟨rfl, rfl⟩ := hh
          exact ⟨_, results_cell2 rfl _ _ g (g + 1) _ _ rfl rfl z2 z3 rfl rfl, _, rfl, Kd.R_nil _ _ _ _ _, q4.trans (Rf.below_putObj (by omega))⟩
        case stop =>
          rintro D c M pre W hD hM hSp ⟨rfl, x, rfl, h2, h3, h4, hBW⟩ hK
          gi_wp2
          have hlow : ∀ k, k ≠ D → (W.putObj D (.deferred none)).heap[k]? = W.heap[k]? := fun k hk => World.putObj_heap_other hk
          have e2 := (heap_cells ((hlow g (by omega)).trans h2) 0 (by simp)).1
          have e3 := (heap_cells ((hlow (g + 1) (by omega)).trans h3) 0 (by simp)).1
          refine ⟨by simp, .inl ⟨_, _, rfl, run_takeDeferred hK, ?_⟩⟩
          refine ⟨_, results_cell2 rfl _ _ g (g + 1) _ _ rfl rfl e2 e3 rfl rfl, ?_⟩
          obtain ⟨r, hr⟩ := hSp
          have hall : allO l0 a1 = x.xs :: r := hr.symm
          have hne : ¬ allO l0 a1 = [] := by rw [hall]; exact List.cons_ne_nil _ _
          have hh := HH.out
          rw [dif_neg hne] at hh
          simp only [hall, List.head_cons, Option.some.injEq, Prod.mk.injEq] at hh
          obtain ⟨rfl, rfl⟩ := hh
          refine ⟨_, rfl, ?_, hBW.trans (Rf.below_putObj (by omega))⟩
          exact Kd.R_lower (R_putD h4 hK rfl) (by omega)
      · rw [if_neg hlet] at h
        simp only [Option.some.injEq, Prod.mk.injEq] at h
        obtain ⟨rfl, rfl⟩ := h
        simp only [Bool.not_eq_true] at hlet
        rw [hlet] at HLET
        clear hr0 hc0 hn1 hn2 hsz
        refine callsIn_of_wp_marks Try.func16 rfl trivial ?_ rfl
        simp only [Try.ntmps16, List.size_toArray, List.length_cons, List.length_nil, Nat.reduceAdd, Nat.reduceSub, Array.replicate_succ, Array.replicate_zero, List.push_toArray, List.append_toArray, List.nil_append, List.cons_append]
        gi_wp2_with (first
          | (refine ⟨trivial, ?_⟩; gi_at_call 47; refine (callsIn_wide.2 (HCS.out _ (Kd.C_alloc (Kd.C_alloc H0.out _) _))).mono ?_; rintro e w1 ⟨rfl, hd1⟩; obtain ⟨b4, b5, hb1, hs1⟩ := two_allocs hd1.below; have HB1 := Aside0.mk (And.intro b4 (And.intro b5 hb1)); clear b4 b5 hb1 hs1 hd1)
          | (refine ⟨trivial, ?_⟩; gi_at_call 48; refine (callsIn_wide.2 (HLET.out _)).mono ?_; rintro e w2 ⟨rfl, hd2⟩; have B4 := Aside0.mk ((hd2.below.block w.heap.size (blk_lt' HB1.out.1)).trans HB1.out.1); have B5 := Aside0.mk ((hd2.below.block (w.heap.size + 1) (blk_lt' HB1.out.2.1)).trans HB1.out.2.1); have HB2 := Aside0.mk (below_step HB1.out.2.2 hd2.below);
             have e4 := (heap_cells B4.out 0 (by simp)).1; have f4 := (heap_cells B4.out 0 (by simp)).2; have e5 := (heap_cells B5.out 0 (by simp)).1; have f5 := (heap_cells B5.out 0 (by simp)).2; clear hd2))
        exact ⟨_, two_written rfl rfl rfl B4.out B5.out (by omega) rfl rfl, .slice none 0 0, rfl, Kd.R_nil _ _ _ _ _, (HB2.out.setCell (p := ⟨w.heap.size, 0, none⟩) (by show w.heap.size ≤ w.heap.size; omega) _).setCell (p := ⟨w.heap.size + 1, 0, none⟩) (by show w.heap.size ≤ w.heap.size + 1; omega) _⟩
    · rw [if_pos rfl, if_neg hsz] at h
      cases h
end Go.Proofs.Ytiknnpfdpecfdaa.Own
namespace Go.Proofs.Ytiknnpfdpecfdaa.Own
open Go Go.RowKit Go.Proofs Go.Proofs.Ytiknnpfdpecfdaa.Fey Go.Proofs.YtiknnpfdpecfdaaW.PrintWords Go.Proofs.YtiknnpfdpecfdaaW.PrintLast Go.Proofs.YtiknnpfdpecfdaaW.PrintMore
set_option linter.unusedVariables false
set_option linter.unusedSimpArgs false
def fold_Rank.f (l o : List Int) : Option (Int × Int) := if o.length < 512 then some (if stripE l o = 0 then (if o ∈ allO l ⟨#[]⟩ then (((allO l ⟨#[]⟩).idxOf o : Int), 0) else (0, 5)) else (0, stripE l o)) else none
theorem equal_f2 (a b : List Int) (hb : b.length < 2 ^ 40) : slices_Equal_int_int.f (a.length + 1) a b = some (decide (a = b)) := by
 by_cases h : a.length = b.length
 ·exact equal_f a b (by omega)
 ·unfold slices_Equal_int_int.f
  rw [if_neg (by omega)]
  exact congrArg some (decide_eq_false (fun e => h (by rw [e]))).symm
theorem kept_set {b : Nat → Prop} {c : Nat} {W : World} {p : Addr} (hp : p.block < c) (hb : ¬ b p.block) (v : Value) : Rf.Kept b c W (W.setCell p v) :=
  ⟨Rf.Above.setCell hp v, fun k hk _ => Below.heap_setCell W p v k (fun e => hb (e ▸ hk))⟩
theorem kept_below {b : Nat → Prop} {c : Nat} {W W' : World} (h : Below W.heap.size W W') (hc : c ≤ W.heap.size) : Rf.Kept b c W W' :=
  ⟨⟨h.size, fun k _ hk => h.block k hk⟩, fun k _ hk => h.block k (by omega)⟩
theorem kept_trans {b : Nat → Prop} {c : Nat} {A B C : World} (h : Rf.Kept b c A B) (k : Rf.Kept b c B C) : Rf.Kept b c A C :=
  ⟨h.1.trans k.1, fun i h1 h2 => (k.2 i h1 h2).trans (h.2 i h1 h2)⟩
attribute [local go_sem] Oper.semAt_some
set_option maxRecDepth 100000 in
set_option maxHeartbeats 4000000 in
theorem fold_Rank.calls (A0 : Option Addr) (c0 : Nat) (l0 : List Int) (A1 : Option Addr) (c1 : Nat) (l1 : List Int) (r1 : Int) (r2 : Int) (w : World) (hr0 : Kd.C (Kd.int .i64) w A0 l0.length l0) (hc0 : l0.length ≤ c0) (hr1 : Kd.C (Kd.int .i64) w A1 l1.length l1) (hc1 : l1.length ≤ c1) (h : fold_Rank.f l0 l1 = some (r1, r2)) :
    Calls Try.prog 29 #[.slice A0 l0.length c0, .slice A1 l1.length c1] w fun e w' => e = .returned (.tuple #[.int .i64 r1, .int .i64 r2]) ∧ Below w.heap.size w w' := by
  unfold fold_Rank.f at h
  split at h
  · rename_i hl1
    have HST := Aside0.mk (fun W h0 h1 => strip55 A0 c0 l0 A1 c1 l1 W h0 hc0 h1 hc1 (by omega))
    have H0 := Aside0.mk hr0
    have H1 := Aside0.mk hr1
    have HC1 := Aside0.mk hc1
    have HL1 := Aside0.mk hl1
    have HH := Aside0.mk (Option.some.inj h)
    clear h hr0 hc0 hr1 hc1 hl1
    refine (callsIn_wide (n := 9)).1 ?_
    by_cases he : stripE l0 l1 = 0
    · have HOK := Aside0.mk (stripE_ok he)
      have hok := stripE_ok he
      have HNN := Aside0.mk (allO_le l0 ⟨#[]⟩ (by omega))
      have hh := HH.out
      rw [if_pos he] at hh
      have HH := Aside0.mk hh
      rw [he] at HST
      clear hh he hok
      refine callsIn_of_wp_marks Try.func29 rfl trivial ?_ rfl
      simp only [Try.ntmps29, List.size_toArray, List.length_cons, List.length_nil, Nat.reduceAdd, Nat.reduceSub, Array.replicate_succ, Array.replicate_zero, List.push_toArray, List.append_toArray, List.nil_append, List.cons_append]
      gi_wp2_with (first
        | (refine ⟨trivial, ?_⟩; gi_at_call 55; refine (callsIn_wide.2 (HST.out _ (Kd.C_alloc (Kd.C_alloc (Kd.C_alloc H0.out _) _) _) (Kd.C_alloc (Kd.C_alloc (Kd.C_alloc H1.out _) _) _))).mono ?_; rintro e w1 ⟨vl, vh, vc, rfl, hR, _, hb1⟩; obtain ⟨hl, hh, hc⟩ := hR rfl; obtain ⟨Al, cl, rfl⟩ := Kd.R_slice hl; obtain ⟨Ah, ch, rfl⟩ := Kd.R_slice hh; obtain ⟨Ac, cc, rfl⟩ := Kd.R_slice hc; clear hR; obtain ⟨b3, b4, b5, hb1, hs1⟩ := three_allocs hb1)
        | (refine ⟨trivial, ?_⟩; gi_at_call 50; refine (callsIn_wide.2 (orders50 _ _ _ _ _ _)).mono ?_; rintro e w3 ⟨rfl, hw3⟩))
      have hn1 := HOK.out.1
      have hn2 := HOK.out.2.1
      have hN := HNN.out
      obtain ⟨w2, hw2⟩ : ∃ w2, (w1.alloc (.cells #[.slice Al (layR l0 l0.length).low.length cl, .slice Ah (layR l0 l0.length).high.length ch, .slice Ac (layR l0 l0.length).cr.length cc, .bool false] 76)).alloc (.cells #[.int .i64 0] 3) = w2 := ⟨_, rfl⟩
      rw [hw2] at hw3 ⊢
      rw [← hw3]
      have hs2 : w2.heap.size = w1.heap.size + 1 + 1 := by rw [← hw2]; simp
      have hb12 : Below w1.heap.size w1 w2 := by rw [← hw2]; exact below_alloc (below_alloc (Below.refl _ _) _) _
      obtain ⟨b0, hb0⟩ : ∃ b0, (((w.alloc (Obj.cells #[Value.slice A1 l1.length c1] 22)).alloc (Obj.cells #[Value.int IntKind.i64 0] 3)).alloc (Obj.cells #[Value.int IntKind.i64 0] 24)).heap.size = b0 := ⟨_, rfl⟩
      have hb0v : b0 = w.heap.size + 3 := by rw [← hb0]; simp
      rw [hb0] at hl hh hc
      have b8 : w2.heap[w1.heap.size + 1]? = some (.cells #[.int .i64 0] 3 (0, 0)) := by
        rw [← hw2]
        have := Go.Deep.blk_alloc_new (w1.alloc (.cells #[.slice Al (layR l0 l0.length).low.length cl, .slice Ah (layR l0 l0.length).high.length ch, .slice Ac (layR l0 l0.length).cr.length cc, .bool false] 76)) (.cells #[.int .i64 0] 3)
        rwa [World.size_alloc] at this
      have hb23 : Below w2.heap.size w2 w3 := by subst hw3; exact below_alloc (below_alloc (Below.refl _ _) _) _
      have hgv := strip_gives l0 ⟨#[]⟩ (fun k => b0 ≤ k ∧ k ≠ w1.heap.size + 1) Al Ah Ac cl ch cc w2 w3 (by omega) (by omega) (Or.inl rfl) (Kd.R_below (R_beside hl (by omega)) hb12) (Kd.R_below (R_beside hh (by omega)) hb12) (Kd.R_below (R_beside hc (by omega)) hb12) (by rw [hs2]; exact ⟨by omega, by omega⟩) hw3
      have hB13 : Below w1.heap.size w1 w3 := below_step hb12 hb23
      have hB3 : Below w.heap.size w w3 := below_step hb1 hB13
      have hsz3 : w1.heap.size + 1 + 1 ≤ w3.heap.size := by have := hb23.size; omega
      replace b3 := (hB13.block _ (by omega)).trans b3
      replace b4 := (hB13.block _ (by omega)).trans b4
      replace b5 := (hB13.block _ (by omega)).trans b5
      replace b8 := (hb23.block _ (by omega)).trans b8
      have hb0s : b0 ≤ w1.heap.size := by omega
      obtain ⟨g, hg⟩ : ∃ g, w.heap.size = g := ⟨_, rfl⟩
      obtain ⟨q, hq⟩ : ∃ q, w1.heap.size = q := ⟨_, rfl⟩
      rw [hg] at b3 b4 b5 hs1 ⊢
      have hbg : b0 = g + 3 := by omega
      have hwg : w.heap.size ≤ g := by omega
      have HGE := Aside0.mk hg
      rw [hq] at b8 hs1 hgv hsz3 hb0s hs2 ⊢
      rw [hs2] at hgv
      clear hg hq hw2 hw3 hb23 hl hh hc hb12 hB13 hb1 HST hs2 hb0v
      refine Rf.rangeIter (F := Fence.wide) rfl rfl (gf := 72) (lb := #[.pointer (some ⟨q + 1 + 1, 0, none⟩), .pointer (some ⟨q + 1 + 1 + 1, 0, none⟩)]) rfl trivial (enters_of Try.func72 (by kernel_rfl) rfl) hgv (fun _ => rfl) ord_px
        (fun pre W => W.heap[g]? = some (.cells #[.slice A1 l1.length c1] 22 (0, 0)) ∧ W.heap[g + 1]? = some (.cells #[.int .i64 0] 3 (0, 0)) ∧ W.heap[g + 1 + 1]? = some (.cells #[.int .i64 0] 24 (0, 0)) ∧ W.heap[q + 1]? = some (.cells #[.int .i64 (pre.length : Int)] 3 (0, 0)) ∧ l1 ∉ pre.map (·.xs) ∧ Below w.heap.size w W)
        (fun c M pre W => c = .ret ∧ ∃ pre0 x, pre = pre0 ++ [x] ∧ x.xs = l1 ∧ l1 ∉ pre0.map (·.xs) ∧ W.heap[g + 1]? = some (.cells #[.int .i64 (pre0.length : Int)] 3 (0, 0)) ∧ W.heap[g + 1 + 1]? = some (.cells #[.int .i64 0] 24 (0, 0)) ∧ Below w.heap.size w W) ?hI ?hIx ⟨b3, b4, b5, b8, by simp, hB3⟩
        (fun x => { tmps :=
          #[Value.slice A0 l0.length c0, Value.slice A1 l1.length c1, undef,
            Value.pointer (some { block := g, off := 0 }),
            Value.pointer (some { block := g + 1, off := 0 }),
            Value.pointer (some { block := g + 1 + 1, off := 0 }),
            Value.pointer (some { block := q, off := 0 }), Value.int IntKind.i64 0,
            Value.pointer (some { block := q + 1, off := 0 }), .slice x.A x.xs.length x.cap,
            Value.tuple
              #[Value.agg
                  #[Value.slice Al (layR l0 l0.length).low.length cl, Value.slice Ah (layR l0 l0.length).high.length ch,
                    Value.slice Ac (layR l0 l0.length).cr.length cc, Value.bool false],
                Value.int IntKind.i64 0],
            Value.slice A0 l0.length c0, Value.slice A1 l1.length c1,
            Value.tuple
              #[Value.agg
                  #[Value.slice Al (layR l0 l0.length).low.length cl, Value.slice Ah (layR l0 l0.length).high.length ch,
                    Value.slice Ac (layR l0 l0.length).cr.length cc, Value.bool false],
                Value.int IntKind.i64 0],
            Value.agg
              #[Value.slice Al (layR l0 l0.length).low.length cl, Value.slice Ah (layR l0 l0.length).high.length ch,
                Value.slice Ac (layR l0 l0.length).cr.length cc, Value.bool false],
            Value.int IntKind.i64 0, Value.int IntKind.i64 0, Value.bool false, undef,
            Value.agg
              #[Value.slice Al (layR l0 l0.length).low.length cl, Value.slice Ah (layR l0 l0.length).high.length ch,
                Value.slice Ac (layR l0 l0.length).cr.length cc, Value.bool false],
            Value.func (Fn.func 72) #[]
              #[Value.pointer (some { block := q + 1 + 1, off := 0 }),
                Value.pointer (some { block := q + 1 + 1 + 1, off := 0 })],
            .slice x.A x.xs.length x.cap, undef, undef, undef, undef, undef, undef], defers := [] }) ?assign ?body ?done ?stop
      case hI =>
        rintro s A C ⟨h1, h2, h3, h4, h5, h6⟩ hAC
        exact ⟨(hAC.block g (by omega)).trans h1, (hAC.block (g + 1) (by omega)).trans h2, (hAC.block (g + 1 + 1) (by omega)).trans h3, (hAC.block (q + 1) (by omega)).trans h4, h5, h6.trans (hAC.mono (by omega))⟩
      case hIx =>
        rintro c M s A C hM ⟨hc, pre0, x, h1, h2, h3, h4, h5, h6⟩ hAC
        exact ⟨hc, pre0, x, h1, h2, h3, (hAC.1.block (g + 1) (by omega)).trans h4, (hAC.1.block (g + 1 + 1) (by omega)).trans h5, h6.trans (hAC.1.mono (by omega))⟩
      case assign =>
        intro m l x W K hK
        simp only [Ord.enc]
        gi_wp2
        exact hK
      case body =>
        rintro m l M pre x W hWs hM ⟨h1, h2, h3, h4, h5, hBW⟩ hx hlen2
        have e1 := (heap_cells h1 0 (by simp)).1
        have HX := Aside0.mk (Kd.R_reads' hx)
        have HXS := Aside0.mk (slices_Equal_int_int.calls (x.xs.length + 1) x.A x.cap x.xs A1 c1 l1 _ W (Kd.R_reads' hx).2.2 (Kd.R_reads' hx).2.1 (Kd.C_below H1.out hBW) HC1.out (equal_f2 x.xs l1 (by have := HL1.out; omega)))
        have H24 := Aside0.mk (And.intro h2 (And.intro h3 h4))
        by_cases hz : x.xs = l1
        · rw [decide_eq_true hz] at HXS
          have HZ := Aside0.mk hz
          clear hz hx h2 h3 h4 h1
          gi_wp2_with (refine ⟨trivial, fun h => Bool.noConfusion h, ?_⟩; gi_at_call 56; go_must (refine (CallsIn.inRound l (callsIn_wide.2 HXS.out)).mono ?_; rintro e w5 ⟨rfl, hd5⟩; have hb5 := hd5.below; have q2 := (hb5.block _ (blk_lt' H24.out.1)).trans H24.out.1; have q3 := (hb5.block _ (blk_lt' H24.out.2.1)).trans H24.out.2.1; have q4 := (hb5.block _ (blk_lt' H24.out.2.2)).trans H24.out.2.2; have e2 := (heap_cells q2 0 (by simp)).1; have f2 := (heap_cells q2 0 (by simp)).2; have e3 := (heap_cells q3 0 (by simp)).1; have f3 := (heap_cells q3 0 (by simp)).2; have e4 := (heap_cells q4 0 (by simp)).1; have n1 : g + 1 ≠ g + 1 + 1 := (by omega); have n2 : g + 1 + 1 ≠ g + 1 := (by omega); have Q2 := Aside0.mk q2; have Q3 := Aside0.mk q3; have HB5 := Aside0.mk hb5; clear q2 q3 q4 hd5 hb5))
          refine ⟨kept_trans (kept_below HB5.out hWs) (kept_trans (kept_set (p := ⟨g + 1, 0, none⟩) (by show g + 1 < _; omega) (fun h => by have := h.1; simp only at this; omega) _) (kept_set (p := ⟨g + 1 + 1, 0, none⟩) (by show g + 1 + 1 < _; omega) (fun h => by have := h.1; simp only at this; omega) _)), rfl, pre, x, rfl, HZ.out, h5, blk_far (blk_set Q2.out 0 _) (p := ⟨g + 1 + 1, 0, none⟩) n1 _, blk_set (blk_far Q3.out (p := ⟨g + 1, 0, none⟩) n2 _) 0 _, ((hBW.trans (HB5.out.mono (by omega))).setCell (p := ⟨g + 1, 0, none⟩) (by show w.heap.size ≤ g + 1; omega) _).setCell (p := ⟨g + 1 + 1, 0, none⟩) (by show w.heap.size ≤ g + 1 + 1; omega) _⟩
        · rw [decide_eq_false hz] at HXS
          have HZ := Aside0.mk hz
          have hlt : (pre.length : Int) < 1152921504606846976 := by omega
          clear hz hx h2 h3 h4
          gi_wp2_with (refine ⟨trivial, fun h => Bool.noConfusion h, ?_⟩; gi_at_call 56; go_must (refine (CallsIn.inRound l (callsIn_wide.2 HXS.out)).mono ?_; rintro e w5 ⟨rfl, hd5⟩; have hb5 := hd5.below; have q1 := (hb5.block _ (blk_lt' h1)).trans h1; have q2 := (hb5.block _ (blk_lt' H24.out.1)).trans H24.out.1; have q3 := (hb5.block _ (blk_lt' H24.out.2.1)).trans H24.out.2.1; have q4 := (hb5.block _ (blk_lt' H24.out.2.2)).trans H24.out.2.2; have e4 := (heap_cells q4 0 (by simp)).1; have f4 := (heap_cells q4 0 (by simp)).2; have Q1 := Aside0.mk q1; have Q2 := Aside0.mk q2; have Q3 := Aside0.mk q3; have Q4 := Aside0.mk q4; have HB5 := Aside0.mk hb5; clear q1 q2 q3 q4 hd5 hb5))
          refine ⟨kept_trans (kept_below HB5.out hWs) (kept_set (p := ⟨q + 1, 0, none⟩) (by show q + 1 < _; omega) (fun h => h.2 rfl) _), blk_far Q1.out (p := ⟨q + 1, 0, none⟩) (by show g ≠ q + 1; omega) _, blk_far Q2.out (p := ⟨q + 1, 0, none⟩) (by show g + 1 ≠ q + 1; omega) _, blk_far Q3.out (p := ⟨q + 1, 0, none⟩) (by show g + 1 + 1 ≠ q + 1; omega) _, ?_, ?_, (hBW.trans (HB5.out.mono (by omega))).setCell (p := ⟨q + 1, 0, none⟩) (by show w.heap.size ≤ q + 1; omega) _⟩
          · have := blk_set Q4.out 0 (.int .i64 ((pre.length : Int) + 1))
            rw [List.length_append]
            simpa using this
          · rw [List.map_append, List.mem_append]
            rintro (h | h)
            · exact h5 h
            · have h3 : l1 = x.xs := by simpa using h
              exact HZ.out h3.symm
      case done =>
        rintro D xs W hD hS ⟨h1, h2, h3, h4, h5, hBW⟩ hK
        have e2 := (heap_cells h2 0 (by simp)).1
        have f2 := (heap_cells h2 0 (by simp)).2
        have e3 := (heap_cells h3 0 (by simp)).1
        have f3 := (heap_cells h3 0 (by simp)).2
        have n1 : g + 1 ≠ g + 1 + 1 := by omega
        have n2 : g + 1 + 1 ≠ g + 1 := by omega
        have hno : l1 ∉ allO l0 ⟨#[]⟩ := by rw [← hS]; exact h5
        have HNO := Aside0.mk hno
        clear hno
        gi_wp2
        obtain ⟨W2, hW2⟩ : ∃ W2, (W.setCell ⟨g + 1, 0, none⟩ (.int .i64 0)).setCell ⟨g + 1 + 1, 0, none⟩ (.int .i64 5) = W2 := ⟨_, rfl⟩
        have hK2 : W2.heap[D]? = some (.deferred (some [])) := by
          rw [← hW2]
          exact (Below.heap_setCell _ ⟨g + 1 + 1, 0, none⟩ _ D (by show D ≠ g + 1 + 1; omega)).trans ((Below.heap_setCell _ ⟨g + 1, 0, none⟩ _ D (by show D ≠ g + 1; omega)).trans hK)
        have hlow : ∀ k, k ≠ D → (W2.putObj D (.deferred none)).heap[k]? = W2.heap[k]? := fun k hk => World.putObj_heap_other hk
        have q2 : W2.heap[g + 1]? = some (.cells #[.int .i64 0] 3 (0, 0)) := by rw [← hW2]; exact blk_far (blk_set h2 0 _) (p := ⟨g + 1 + 1, 0, none⟩) n1 _
        have q3 : W2.heap[g + 1 + 1]? = some (.cells #[.int .i64 5] 24 (0, 0)) := by rw [← hW2]; exact blk_set (blk_far h3 (p := ⟨g + 1, 0, none⟩) n2 _) 0 _
        have q4 : Below w.heap.size w W2 := by rw [← hW2]; exact (hBW.setCell (p := ⟨g + 1, 0, none⟩) (by show w.heap.size ≤ g + 1; omega) _).setCell (p := ⟨g + 1 + 1, 0, none⟩) (by show w.heap.size ≤ g + 1 + 1; omega) _
        rw [hW2]
        refine ⟨by simp, .inl ⟨_, _, rfl, run_takeDeferred hK2, ?_⟩⟩
        have z2 := (heap_cells ((hlow (g + 1) (by omega)).trans q2) 0 (by simp)).1
        have z3 := (heap_cells ((hlow (g + 1 + 1) (by omega)).trans q3) 0 (by simp)).1
        have hh := HH.out
        rw [if_neg HNO.out] at hh
        obtain ⟨rfl, rfl⟩ := Prod.mk.inj hh
        exact ⟨_, results_cell2 rfl _ _ (g + 1) (g + 1 + 1) _ _ rfl rfl z2 z3 rfl rfl, rfl, q4.trans (Rf.below_putObj (by omega))⟩
      case stop =>
        rintro D c M pre W hD hM hSp ⟨rfl, pre0, x, rfl, hx, hno, h2, h3, hBW⟩ hK
        gi_wp2
        have hlow : ∀ k, k ≠ D → (W.putObj D (.deferred none)).heap[k]? = W.heap[k]? := fun k hk => World.putObj_heap_other hk
        have e2 := (heap_cells ((hlow (g + 1) (by omega)).trans h2) 0 (by simp)).1
        have e3 := (heap_cells ((hlow (g + 1 + 1) (by omega)).trans h3) 0 (by simp)).1
        refine ⟨by simp, .inl ⟨_, _, rfl, run_takeDeferred hK, ?_⟩⟩
        refine ⟨_, results_cell2 rfl _ _ (g + 1) (g + 1 + 1) _ _ rfl rfl e2 e3 rfl rfl, ?_⟩
        obtain ⟨r, hr⟩ := hSp
        have hall : allO l0 ⟨#[]⟩ = pre0.map (·.xs) ++ l1 :: r := by rw [← hr, ← hx]; simp
        have hh := HH.out
        rw [if_pos (by rw [hall]; simp)] at hh
        obtain ⟨rfl, rfl⟩ := Prod.mk.inj hh
        have hidx : (allO l0 ⟨#[]⟩).idxOf l1 = pre0.length := by
          rw [hall, List.idxOf_append, if_neg hno, List.idxOf_cons_self, List.length_map, Nat.zero_add]
        refine ⟨?_, hBW.trans (Rf.below_putObj (by omega))⟩
        rw [hidx]
        rfl
    · obtain ⟨er, her⟩ : ∃ er, stripE l0 l1 = er := ⟨_, rfl⟩
      rw [her] at HST he
      have HE := Aside0.mk he
      have hh := HH.out
      rw [her, if_neg he] at hh
      obtain ⟨rfl, rfl⟩ := Prod.mk.inj hh
      have hne : (er == 0) = false := by simpa using he
      clear hh HH her he
      refine callsIn_of_wp_marks Try.func29 rfl trivial ?_ rfl
      simp only [Try.ntmps29, List.size_toArray, List.length_cons, List.length_nil, Nat.reduceAdd, Nat.reduceSub, Array.replicate_succ, Array.replicate_zero, List.push_toArray, List.append_toArray, List.nil_append, List.cons_append]
      gi_wp2_with (refine ⟨trivial, ?_⟩; gi_at_call 55; refine (callsIn_wide.2 (HST.out _ (Kd.C_alloc (Kd.C_alloc (Kd.C_alloc H0.out _) _) _) (Kd.C_alloc (Kd.C_alloc (Kd.C_alloc H1.out _) _) _))).mono ?_; rintro e w1 ⟨vl, vh, vc, rfl, _, hN, hb1⟩; obtain ⟨rfl, rfl, rfl⟩ := hN HE.out; obtain ⟨b3, b4, b5, hb1, hs1⟩ := three_allocs hb1; replace b4 := blk_alloc b4 (.cells #[Value.slice none 0 0, .slice none 0 0, .slice none 0 0, .bool false] 76); replace b5 := blk_alloc b5 (.cells #[Value.slice none 0 0, .slice none 0 0, .slice none 0 0, .bool false] 76); have e4 := (heap_cells b4 0 (by simp)).1; have f4 := (heap_cells b4 0 (by simp)).2; have e5 := (heap_cells b5 0 (by simp)).1; have f5 := (heap_cells b5 0 (by simp)).2; have B4 := Aside0.mk b4; have B5 := Aside0.mk b5; have HB1 := Aside0.mk (below_alloc hb1 (.cells #[Value.slice none 0 0, .slice none 0 0, .slice none 0 0, .bool false] 76)); clear b3 b4 b5 hb1 hs1)
      exact ⟨_, two_written rfl rfl rfl B4.out B5.out (by omega) rfl rfl, rfl, (HB1.out.setCell (p := ⟨w.heap.size + 1, 0, none⟩) (by show w.heap.size ≤ w.heap.size + 1; omega) _).setCell (p := ⟨w.heap.size + 1 + 1, 0, none⟩) (by show w.heap.size ≤ w.heap.size + 1 + 1; omega) _⟩
  · cases h
end Go.Proofs.Ytiknnpfdpecfdaa.Own

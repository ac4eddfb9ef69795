/- The declarations of B7 that the claim Qi needs. -/
import Derived.Test.YtdldfdcedjmneaaQiTB
namespace Go.Proofs.Ytdldfdcedjmneaa.Own
open Go.RowKit Go.Proofs.YtdldfdcedjmneaaW.PrintWords Go.Proofs.YtdldfdcedjmneaaW.PrintLast Go.Proofs.YtdldfdcedjmneaaW.PrintMore Go.Proofs.Ytdldfdcedjmneaa.Pb Go.Proofs.Ytdldfdcedjmneaa.Br
set_option linter.unusedVariables false
set_option linter.unusedSimpArgs false
/-- Between two statements of burau: the matrix, and the boxes of the blocks. -/
structure BuS (w0 wr : World) (n : Nat) (v : Value) (hs : List (Nat × Nat)) (L : List (List Po)) (gm gu gd gl g5 g6 : Nat) : Prop where
  mat : Mat w0.heap.size n wr v hs L
  blks : Blks wr w0.heap.size gm gu gd gl
  c5 : wr.heap[g5]? = some (.cells #[blkUp gm gu] 123 (0, 0))
  c6 : wr.heap[g6]? = some (.cells #[blkDn gd gl] 123 (0, 0))
  bel : Below w0.heap.size w0 wr
section
variable {w0 wr wr' : World} {n : Nat} {v : Value} {hs : List (Nat × Nat)} {L : List (List Po)} {gm gu gd gl g5 g6 : Nat}
theorem BuS.below (h : BuS w0 wr n v hs L gm gu gd gl g5 g6) (hb : Below wr.heap.size wr wr') : BuS w0 wr' n v hs L gm gu gd gl g5 g6 :=
  ⟨h.mat.below hb, h.blks.below hb, blk_below h.c5 hb, blk_below h.c6 hb, below_step h.bel hb⟩
end
theorem Mat.lower {B B' n : Nat} {w : World} {v : Value} {hs : List (Nat × Nat)} {L : List (List Po)} (h : Mat B n w v hs L) (hb : B' ≤ B) : Mat B' n w v hs L := ⟨Kd.R_lower h.top hb, h.len, fun i hi => Kd.R_lower (h.row i hi) hb, h.nd⟩
theorem BuS.put {w0 wr : World} {n : Nat} {v z : Value} {hs : List (Nat × Nat)} {L : List (List Po)} {gm gu gd gl g5 g6 gr cr i : Nat} {r : List Po} {x : Po} (h : BuS w0 wr n v hs L gm gu gd gl g5 g6) (hn : 0 < n) (hi : i < hs.length) (hh : hs[i] = (gr, cr)) (hr : E2.R 102 wr w0.heap.size (fun _ => True) (.slice (some ⟨gr, 0, none⟩) n cr) r) (q : Nat) (hq : q < n) (hx : Rw wr w0.heap.size z x.2) :
  BuS w0 ((wr.setCell ⟨gr, q * 2, none⟩ (.int .i64 x.1)).setCell ⟨gr, q * 2 + 1, none⟩ z) n v hs (L.set i (r.set q x)) gm gu gd gl g5 g6 := by
 obtain ⟨cs, hc⟩ := h.mat.blk hn hi
 have hB := h.mat.base hi
 rw [hh] at hc hB
 dsimp only at hc hB
 obtain ⟨k1, k2⟩ := row_put (x := x) hr (by decide) q hq hx
 have far : ∀ {g : Nat} {p : Po} {u : Value}, Pol wr w0.heap.size g u p → Pol ((wr.setCell ⟨gr, q * 2, none⟩ (.int .i64 x.1)).setCell ⟨gr, q * 2 + 1, none⟩ z) w0.heap.size g u p := fun hp => (hp.far hc (by decide) (by decide) _ _).far (blk_set hc _ _) (by decide) (by decide) _ _
 have farb : ∀ {g : Nat} {c : Array Value}, wr.heap[g]? = some (.cells c 123 (0, 0)) → ((wr.setCell ⟨gr, q * 2, none⟩ (.int .i64 x.1)).setCell ⟨gr, q * 2 + 1, none⟩ z).heap[g]? = some (.cells c 123 (0, 0)) := fun hb => blk_far (blk_far hb (blk_ne hb hc (by decide)) _) (blk_ne hb hc (by decide)) _
 exact ⟨h.mat.put (S := fun _ => False) hn hi (by rw [hh]; exact k2) (by rw [hh]; exact k1), ⟨h.blks.m.imp fun _ h => far h, h.blks.u.imp fun _ h => far h, h.blks.d.imp fun _ h => far h, h.blks.l.imp fun _ h => far h⟩, farb h.c5, farb h.c6, below_set (below_set h.bel hB) hB⟩
/-- What region 12 leaves: two new boxes with the two polynomials. -/
structure Cut12 (B : Nat) (w3 wx : World) (g12 g13 : Nat) (x y : Po) : Prop where
  bel : Below w3.heap.size w3 wx
  px : ∃ v, Pol wx B g12 v x
  py : ∃ v, Pol wx B g13 v y
  n12 : w3.heap.size ≤ g12
  n13 : w3.heap.size ≤ g13
/-- Ahead of the two stores. -/
structure Pre12 (B : Nat) (w3 wx : World) (g12 g13 : Nat) (vx vy : Value) (x y : Po) : Prop where
  bel : Below w3.heap.size w3 wx
  z12 : wx.heap[g12]? = some (.cells #[.int .i64 0, .slice none 0 0] 100 (0, 0))
  z13 : wx.heap[g13]? = some (.cells #[.int .i64 0, .slice none 0 0] 100 (0, 0))
  ne : g12 ≠ g13
  rx : Rw wx B vx x.2
  ry : Rw wx B vy y.2
  n12 : w3.heap.size ≤ g12
  n13 : w3.heap.size ≤ g13
structure Mid12 (B : Nat) (w3 wx : World) (g12 g13 : Nat) (vx vy : Value) (x y : Po) : Prop where
  bel : Below w3.heap.size w3 wx
  p12 : Pol wx B g12 vx x
  z13 : wx.heap[g13]? = some (.cells #[.int .i64 0, .slice none 0 0] 100 (0, 0))
  ne : g12 ≠ g13
  ry : Rw wx B vy y.2
  n12 : w3.heap.size ≤ g12
  n13 : w3.heap.size ≤ g13
section
variable {B g12 g13 : Nat} {w3 wx : World} {vx vy : Value} {x y : Po}
theorem Pre12.f12 (h : Pre12 B w3 wx g12 g13 vx vy x y) : wx.cell? ⟨g12, 0, none⟩ = some (.int .i64 0) ∧ wx.cell? ⟨g12, 1, none⟩ = some (.slice none 0 0) ∧ wx.frozen? ⟨g12, 0, none⟩ = false ∧ wx.frozen? ⟨g12, 1, none⟩ = false :=
  ⟨(blk_cell h.z12 0).trans rfl, (blk_cell h.z12 1).trans rfl, blk_frozen h.z12 0, blk_frozen h.z12 1⟩
theorem Mid12.f13 (h : Mid12 B w3 wx g12 g13 vx vy x y) : wx.cell? ⟨g13, 0, none⟩ = some (.int .i64 0) ∧ wx.cell? ⟨g13, 1, none⟩ = some (.slice none 0 0) ∧ wx.frozen? ⟨g13, 0, none⟩ = false ∧ wx.frozen? ⟨g13, 1, none⟩ = false :=
  ⟨(blk_cell h.z13 0).trans rfl, (blk_cell h.z13 1).trans rfl, blk_frozen h.z13 0, blk_frozen h.z13 1⟩
theorem Pre12.put (h : Pre12 B w3 wx g12 g13 vx vy x y) : Mid12 B w3 ((wx.setCell ⟨g12, 0, none⟩ (.int .i64 x.1)).setCell ⟨g12, 1, none⟩ vx) g12 g13 vx vy x y := by
  have k1 := blk_set h.z12 0 (.int .i64 x.1)
  exact ⟨below_set (below_set h.bel h.n12) h.n12, ⟨blk_set k1 1 _, Rw.off (Rw.off h.rx h.z12 0 _) k1 1 _⟩, blk_far (blk_far h.z13 (Ne.symm h.ne) _) (Ne.symm h.ne) _, h.ne, Rw.off (Rw.off h.ry h.z12 0 _) k1 1 _, h.n12, h.n13⟩
theorem Mid12.put (h : Mid12 B w3 wx g12 g13 vx vy x y) : Cut12 B w3 ((wx.setCell ⟨g13, 0, none⟩ (.int .i64 y.1)).setCell ⟨g13, 1, none⟩ vy) g12 g13 x y := by
  have k1 := blk_set h.z13 0 (.int .i64 y.1)
  exact ⟨below_set (below_set h.bel h.n13) h.n13, ⟨vx, (h.p12.off h.ne h.z13 0 _).off h.ne k1 1 _⟩, ⟨vy, blk_set k1 1 _, Rw.off (Rw.off h.ry h.z13 0 _) k1 1 _⟩, h.n12, h.n13⟩
end
theorem cell_bel {w w' : World} {a : Addr} {v : Value} (hb : Below w.heap.size w w') (hc : w.cell? a = some v) : w'.cell? a = some v := by
  rw [hb.cell (World.block_lt_of_cell? w a hc)]; exact hc
set_option maxRecDepth 100000 in
set_option maxHeartbeats 8000000 in
theorem f65_any (n : Nat) (A : Option Addr) (c : Nat) (xs : List Int) (w : World) (hr : Kd.C (Kd.int .i64) w A xs.length xs) (hn1 : 2 ≤ n) (hn : n ≤ 1000) (hl : xs.length ≤ 1000) (hw : Word n xs) :
  Calls Try.prog 65 #[.int .i64 n, .slice A xs.length c] w fun e w' => ∃ v hs, e = .returned v ∧ Mat w.heap.size n w' v hs (burauF n xs) ∧ hs.length = n ∧ Below w.heap.size w w' := by
 have HR := Aside0.mk hr
 have HW := Aside0.mk hw
 clear hr hw
 go_enter Try.func65, Try.ntmps65
 go_upto_region 3 with (first | (go_at_call 86; (with_reducible refine (f86_any _).mono ?_); rintro e w1 ⟨gm, gu, gd, gl, rfl, hB1, hb1⟩; have HB1 := Aside0.mk hB1; have Hb1 := Aside0.mk hb1; clear hB1 hb1; simp only [blkUp, blkDn]) | (go_at_call 67; (with_reducible refine (f67_any n (by omega) hn _).mono ?_); rintro e w2 ⟨v, hs, rfl, hM2, hlen, hb2⟩; have HM2 := Aside0.mk hM2; have Hb2 := Aside0.mk hb2; have HLEN := Aside0.mk hlen; clear hM2 hb2 hlen))
 obtain ⟨g5, hg5⟩ : ∃ g, w1.heap.size = g := ⟨_, rfl⟩
 have HS0 : Aside0 (BuS w w2 n v hs (oneM n) gm gu gd gl g5 (g5 + 1)) := ⟨by
  have b1 := Hb1.out
  have b2 := Hb2.out
  have x5 := heap_alloc_new w1 (.cells #[blkUp gm gu] 123)
  have x6 := heap_alloc_new (w1.alloc (.cells #[blkUp gm gu] 123)) (.cells #[blkDn gd gl] 123)
  rw [size_alloc, hg5] at x6
  rw [hg5] at x5
  have bb : Below w1.heap.size w1 w2 := below_step (below_alloc (below_alloc (Below.refl _ _) _) _) b2
  exact ⟨HM2.out.lower (by have := b1.size; show _ ≤ ((w1.alloc _).alloc _).heap.size; rw [size_alloc, size_alloc]; omega), HB1.out.below bb, blk_below (blk_alloc x5 _) b2, blk_below x6 b2, below_step b1 bb⟩⟩
 rw [hg5]
 obtain ⟨gt, ct, hv, hz⟩ := Kd.R_form HS0.out.mat.top (by rw [HLEN.out]; omega)
 rw [HLEN.out] at hv
 subst hv
 clear HM2 Hb1 Hb2 hg5 HB1 hz
 generalize g5 + 1 = g6 at *
 go_wp2
 go_loopg [22] xs.length (fun kq s22 wr => ∃ j : Nat, s22 = .int .i64 j ∧ j ≤ xs.length ∧ xs.length - j ≤ kq ∧ Aside0 (BuS w wr n (.slice (some ⟨gt, 0, none⟩) n ct) hs (burauF n (xs.take j)) gm gu gd gl g5 g6))
 case atStart => exact ⟨0, rfl, Nat.zero_le _, by omega, HS0⟩
 case round =>
  clear HS0
  obtain ⟨j, rfl, hj, hgg, HS⟩ := hrel
  by_cases hlt : j < xs.length
  ·have hrw := Kd.C_below HR.out HS.out.bel
   obtain ⟨ad, rfl, hcw⟩ := Kd.at_int hrw (j : Int) (by omega) (by omega)
   rw [Int.toNat_natCast] at hcw
   obtain ⟨x, hx⟩ : ∃ x, xs[j] = x := ⟨_, rfl⟩
   have hrd : rd xs (j : Int) = x := by unfold rd; rw [Int.toNat_natCast, List.getD_eq_getElem?_getD, List.getElem?_eq_getElem hlt]; exact hx
   rw [hrd] at hcw
   have hxl : Letter n x := by rw [← hx]; exact HW.out _ (List.getElem_mem hlt)
   have hix : (j : Int) < (xs.length : Int) := by omega
   have hi0 : (0 : Int) ≤ (j : Int) := by omega
   have HX := Aside0.mk hx
   have hc5 : wr.cell? ⟨g5, 0, none⟩ = some (.func (.func 101) #[] #[.pointer (some ⟨gm, 0, none⟩), .pointer (some ⟨gu, 0, none⟩)]) := (blk_cell HS.out.c5 0).trans rfl
   have hc6 : wr.cell? ⟨g6, 0, none⟩ = some (.func (.func 102) #[] #[.pointer (some ⟨gd, 0, none⟩), .pointer (some ⟨gl, 0, none⟩)]) := (blk_cell HS.out.c6 0).trans rfl
   have hc6b : (wr.alloc (.cells #[.func (.func 101) #[] #[.pointer (some ⟨gm, 0, none⟩), .pointer (some ⟨gu, 0, none⟩)]] 123)).cell? ⟨g6, 0, none⟩ = some (.func (.func 102) #[] #[.pointer (some ⟨gd, 0, none⟩), .pointer (some ⟨gl, 0, none⟩)]) := (blk_cell (blk_alloc HS.out.c6 _) 0).trans rfl
   obtain ⟨q, hq, hk2⟩ := letter_cases hxl
   clear hrw hx hrd hxl
   rcases hk2 with rfl | rfl
   ·go_upto_region 9 with (fail)
    have HS1 : Aside0 (BuS w (wr.alloc (.cells #[.func (.func 101) #[] #[.pointer (some ⟨gm, 0, none⟩), .pointer (some ⟨gu, 0, none⟩)]] 123)) n (.slice (some ⟨gt, 0, none⟩) n ct) hs (rowsTo ((q : Int) + 1) 0 (burauF n (xs.take j))) gm gu gd gl g5 g6) := ⟨by rw [rowsTo_zero]; exact HS.out.below (below_alloc (Below.refl _ _) _)⟩
    have HC10 : Aside0 ((wr.alloc (.cells #[.func (.func 101) #[] #[.pointer (some ⟨gm, 0, none⟩), .pointer (some ⟨gu, 0, none⟩)]] 123)).heap[wr.heap.size]? = some (.cells #[.func (.func 101) #[] #[.pointer (some ⟨gm, 0, none⟩), .pointer (some ⟨gu, 0, none⟩)]] 123 (0, 0))) := ⟨heap_alloc_new _ _⟩
    have HRG : Aside0 (AllRg (j : Int) (burauF n (xs.take j))) := ⟨by have h := burauF_rg n (xs.take j); rw [List.length_take, Nat.min_eq_left (by omega)] at h; exact h⟩
    have HLL : Aside0 ((burauF n (xs.take j)).length = n) := ⟨burauF_len _ _⟩
    generalize wr.heap.size = g10 at *
    generalize (wr.alloc (.cells #[.func (.func 101) #[] #[.pointer (some ⟨gm, 0, none⟩), .pointer (some ⟨gu, 0, none⟩)]] 123)) = W1 at *
    clear hc5 hc6 hc6b hcw
    obtain ⟨L, hL⟩ : ∃ L, burauF n (xs.take j) = L := ⟨_, rfl⟩
    rw [hL] at HS1 HRG HLL
    have HLB := Aside0.mk hL
    clear hL HS
    go_wp2
    go_loopg [34] n (fun kq s34 wr => ∃ i : Nat, s34 = .int .i64 i ∧ i ≤ n ∧ n - i ≤ kq ∧ Aside0 (BuS w wr n (.slice (some ⟨gt, 0, none⟩) n ct) hs (rowsTo ((q : Int) + 1) i L) gm gu gd gl g5 g6) ∧ Aside0 (wr.heap[g10]? = some (.cells #[.func (.func 101) #[] #[.pointer (some ⟨gm, 0, none⟩), .pointer (some ⟨gu, 0, none⟩)]] 123 (0, 0))))
    case atStart => exact ⟨0, rfl, Nat.zero_le _, by omega, HS1, HC10⟩
    case round =>
     clear HS1 HC10
     obtain ⟨i, rfl, hi, hgg2, HS, HC10⟩ := hrel
     by_cases hlt3 : i < n
     ·have hi3 : (i : Int) < (n : Int) := by omega
      have hi4 : (0 : Int) ≤ (i : Int) := by omega
      go_upto_region 12 with (fail)
      have hil : i < L.length := by rw [HLL.out]; exact hlt3
      have hih : i < hs.length := by rw [HLEN.out]; exact hlt3
      have hrow := HS.out.mat.row i hih
      rw [rowsTo_at hil] at hrow
      have hhd := HS.out.mat.head hih
      have hrr : RowRg (j : Int) L[i] := HRG.out _ (List.getElem_mem hil)
      have hgr := HS.out.mat.base hih
      obtain ⟨h0, hh0⟩ : ∃ h0, hs[i] = h0 := ⟨_, rfl⟩
      obtain ⟨r, hr0⟩ : ∃ r, L[i] = r := ⟨_, rfl⟩
      rw [hh0] at hrow hhd hgr
      rw [hr0] at hrow hrr
      obtain ⟨gr, cr⟩ := h0
      unfold encH at hrow hhd
      dsimp only at hrow hhd hgr
      obtain ⟨Aa, da, ka1, ka2, ka3, ka4, ka5⟩ := row_elem hrow q (by omega)
      obtain ⟨Ab, db, kb1, kb2, kb3, kb4, kb5⟩ := row_elem hrow (q + 1) (by omega)
      have hra := hrr.at_ (by omega) q
      have hrb := hrr.at_ (by omega) (q + 1)
      obtain ⟨a, ha⟩ : ∃ a, r.getD q (0, []) = a := ⟨_, rfl⟩
      obtain ⟨b, hb⟩ : ∃ b, r.getD (q + 1) (0, []) = b := ⟨_, rfl⟩
      rw [ha] at ka1 ka2 ka3 hra
      rw [hb] at kb1 kb2 kb3 hrb
      have hc10 : wr.cell? ⟨g10, 0, none⟩ = some (.func (.func 101) #[] #[.pointer (some ⟨gm, 0, none⟩), .pointer (some ⟨gu, 0, none⟩)]) := (blk_cell HC10.out 0).trans rfl
      obtain ⟨va, hva⟩ : ∃ v, Value.slice Aa a.2.length da = v := ⟨_, rfl⟩
      obtain ⟨vb, hvb⟩ : ∃ v, Value.slice Ab b.2.length db = v := ⟨_, rfl⟩
      rw [hva] at ka2 ka3
      rw [hvb] at kb2 kb3
      have HALL : Aside0 (∀ w', Below wr.heap.size wr w' → w'.cell? ⟨g10, 0, none⟩ = some (.func (.func 101) #[] #[.pointer (some ⟨gm, 0, none⟩), .pointer (some ⟨gu, 0, none⟩)]) ∧ w'.cell? ⟨gt, i, none⟩ = some (.slice (some ⟨gr, 0, none⟩) n cr) ∧ w'.cell? ⟨gr, q * 2, none⟩ = some (.int .i64 a.1) ∧ w'.cell? ⟨gr, q * 2 + 1, none⟩ = some va ∧ w'.cell? ⟨gr, (q + 1) * 2, none⟩ = some (.int .i64 b.1) ∧ w'.cell? ⟨gr, (q + 1) * 2 + 1, none⟩ = some vb) := ⟨fun w' hbl => ⟨cell_bel hbl hc10, cell_bel hbl hhd, cell_bel hbl ka1, cell_bel hbl ka2, cell_bel hbl kb1, cell_bel hbl kb2⟩⟩
      have HROW := Aside0.mk hrow
      have HA3 := Aside0.mk ka3
      have HB3 := Aside0.mk kb3
      have HRA := Aside0.mk hra
      have HRB := Aside0.mk hrb
      have HRR := Aside0.mk hr0
      have HHH := Aside0.mk hh0
      have HAA := Aside0.mk ha
      have HBB := Aside0.mk hb
      clear hrow hhd hrr hgr hh0 hr0 ka1 ka2 ka3 ka4 ka5 kb1 kb2 kb3 kb4 kb5 hra hrb ha hb hc10 hva hvb
      obtain ⟨x, hx⟩ : ∃ x, plusP (timesP a (0, [1, -1])) b = x := ⟨_, rfl⟩
      obtain ⟨y, hy⟩ : ∃ y, timesP a (1, [1]) = y := ⟨_, rfl⟩
      have HCALL : Aside0 (∀ w', Below wr.heap.size wr w' → Calls Try.prog 101 #[.agg #[.int .i64 a.1, va], .agg #[.int .i64 b.1, vb], .pointer (some ⟨gm, 0, none⟩), .pointer (some ⟨gu, 0, none⟩)] w' (fun e w'' => TwoR w' w'' w.heap.size x y e)) := ⟨fun w' hbl => by
       rw [← hx, ← hy]
       have hbk := HS.out.blks.below hbl
       obtain ⟨vm, hm⟩ := hbk.m
       obtain ⟨vu, hu⟩ := hbk.u
       exact f101_any w' (Nat.le_trans HS.out.bel.size hbl.size) (Kd.R_below HA3.out hbl) (Kd.R_below HB3.out hbl) hm hu HRA.out HRB.out rg_more rg_up (by omega) (by omega)⟩
      have HXX := Aside0.mk hx
      have HYY := Aside0.mk hy
      clear hx hy
      go_cut [12, 13] (fun s12 s13 wx => ∃ g12 g13 : Nat, s12 = .pointer (some ⟨g12, 0, none⟩) ∧ s13 = .pointer (some ⟨g13, 0, none⟩) ∧ Aside0 (Cut12 w.heap.size wr wx g12 g13 x y))
      case first =>
       have s1 : IntKind.i64.wrap (q : Int) = (q : Int) := IntWalk.i64_in _ (by omega)
       have hq1 : (q : Int) < (n : Int) := by omega
       have hq2 : (q : Int) + 1 < (n : Int) := by omega
       have hq3 : (0 : Int) ≤ (q : Int) + 1 := by omega
       have s2 : ((q : Int) + 1).toNat = q + 1 := by omega
       obtain ⟨wd, hwd⟩ : ∃ W, wr.drew = W := ⟨_, rfl⟩
       have HB_wd : Aside0 (Below wr.heap.size wr wd) := ⟨by rw [← hwd]; exact below_drew1 (Below.refl _ _)⟩
       have hS := HALL.out wd HB_wd.out
       refine wp_region_T 26 (fun w' => w'.cell? ⟨g10, 0, none⟩ = some (.func (.func 101) #[] #[.pointer (some ⟨gm, 0, none⟩), .pointer (some ⟨gu, 0, none⟩)]) ∧ w'.cell? ⟨gt, i, none⟩ = some (.slice (some ⟨gr, 0, none⟩) n cr) ∧ w'.cell? ⟨gr, q * 2, none⟩ = some (.int .i64 a.1) ∧ w'.cell? ⟨gr, q * 2 + 1, none⟩ = some va ∧ w'.cell? ⟨gr, (q + 1) * 2, none⟩ = some (.int .i64 b.1) ∧ w'.cell? ⟨gr, (q + 1) * 2 + 1, none⟩ = some vb) (by kernel_rfl) ?_
       rw [hwd]
       clear hwd
       refine tk 0 ?_
       refine tk 1 ?_
       refine tk 2 ?_
       refine tk 3 ?_
       refine tk 4 ?_
       refine tk 5 ?_
       refine tk 6 ?_
       refine tk 7 ?_
       refine tk 8 ?_
       refine tk 9 ?_
       refine tk 10 ?_
       refine tk 11 ?_
       refine tk 12 ?_
       refine tk 13 ?_
       refine tk 14 ?_
       refine tk 15 ?_
       refine tk 16 ?_
       refine tk 17 ?_
       refine tk 18 ?_
       clear hS
       refine wpAnyT_three (i := 19) (j := 23) (l := 24) (by kernel_rfl) rfl rfl rfl (fun K hK => ?_) (fun K hK => ?_) (fun K hK => ?_)
       ·go_wp2_with (go_at_call 101; (with_reducible refine (HCALL.out _ HB_wd.out).mono ?_); rintro e w5 ⟨vx, vy, rfl, hx5, hy5, hb5⟩; have HB_w5 := Aside0.mk (below_step HB_wd.out hb5); have HX5 := Aside0.mk hx5; have HY5 := Aside0.mk hy5; clear hx5 hy5 hb5 HB_wd)
        refine hK _ _ (fun _ => ?_) ?_
        ·exact HALL.out _ HB_w5.out
        clear hK K
        (try simp only [Act.put, List.setIfInBounds_toArray, List.set_cons_zero, List.set_cons_succ])
        obtain ⟨Ax, dx, rfl⟩ := Kd.R_slice HX5.out
        obtain ⟨Ay, dy, rfl⟩ := Kd.R_slice HY5.out
        have hS5 := HALL.out _ HB_w5.out
        refine tk 20 ?_
        refine tk 21 ?_
        refine tk 22 ?_
        clear hS5
        refine wpAnyT_two (i := 23) (j := 24) (by kernel_rfl) rfl rfl (fun K hK => ?_) (fun K hK => ?_)
        ·go_wp2
         refine hK _ _ (fun _ => ?_) ?_
         ·exact HALL.out _ (below_alloc HB_w5.out _)
         clear hK K
         (try simp only [Act.put, List.setIfInBounds_toArray, List.set_cons_zero, List.set_cons_succ])
         have HZ12 := Aside0.mk (heap_alloc_new w5 (.cells #[.int .i64 0, .slice none 0 0] 100))
         have HN12 := Aside0.mk HB_w5.out.size
         have HX5n := Aside0.mk (Kd.R_below HX5.out (below_alloc (Below.refl _ _) (.cells #[.int .i64 0, .slice none 0 0] 100)))
         clear HX5
         have HX5 := HX5n
         clear HX5n
         have HY5n := Aside0.mk (Kd.R_below HY5.out (below_alloc (Below.refl _ _) (.cells #[.int .i64 0, .slice none 0 0] 100)))
         clear HY5
         have HY5 := HY5n
         clear HY5n
         have HB_wa := Aside0.mk (below_alloc HB_w5.out (.cells #[.int .i64 0, .slice none 0 0] 100))
         clear HB_w5
         generalize w5.heap.size = g12 at *
         generalize w5.alloc (.cells #[.int .i64 0, .slice none 0 0] 100) = wa at *
         refine wpAnyT_one (i := 24) (by kernel_rfl) rfl (fun K hK => ?_)
         go_wp2
         refine hK _ _ (fun _ => ?_) ?_
         ·exact HALL.out _ (below_alloc HB_wa.out _)
         clear hK K
         (try simp only [Act.put, List.setIfInBounds_toArray, List.set_cons_zero, List.set_cons_succ])
         have HZ13 := Aside0.mk (heap_alloc_new wa (.cells #[.int .i64 0, .slice none 0 0] 100))
         have HN13 := Aside0.mk HB_wa.out.size
         have HNE : Aside0 (wa.heap.size ≠ g12) := ⟨by have := blk_lt HZ12.out; omega⟩
         have HZ12n := Aside0.mk (blk_alloc HZ12.out (.cells #[.int .i64 0, .slice none 0 0] 100))
         clear HZ12
         have HZ12 := HZ12n
         clear HZ12n
         have HX5n := Aside0.mk (Kd.R_below HX5.out (below_alloc (Below.refl _ _) (.cells #[.int .i64 0, .slice none 0 0] 100)))
         clear HX5
         have HX5 := HX5n
         clear HX5n
         have HY5n := Aside0.mk (Kd.R_below HY5.out (below_alloc (Below.refl _ _) (.cells #[.int .i64 0, .slice none 0 0] 100)))
         clear HY5
         have HY5 := HY5n
         clear HY5n
         have HB_wb := Aside0.mk (below_alloc HB_wa.out (.cells #[.int .i64 0, .slice none 0 0] 100))
         clear HB_wa
         generalize wa.heap.size = g13 at *
         generalize wa.alloc (.cells #[.int .i64 0, .slice none 0 0] 100) = wb at *
         have HP : Aside0 (Pre12 w.heap.size wr wb g12 g13 (.slice Ax x.2.length dx) (.slice Ay y.2.length dy) x y) := ⟨⟨HB_wb.out, HZ12.out, HZ13.out, HNE.out.symm, HX5.out, HY5.out, HN12.out, HN13.out⟩⟩
         obtain ⟨y1, y2, y3, y4⟩ := HP.out.f12
         refine wpAnyT_one (i := 25) (by kernel_rfl) rfl (fun K hK => ?_)
         go_wp2
         refine hK _ _ (fun _ => ?_) ?_
         ·exact HALL.out _ HP.out.put.bel
         clear hK K
         (try simp only [Act.put, List.setIfInBounds_toArray, List.set_cons_zero, List.set_cons_succ])
         have HQ := Aside0.mk HP.out.put
         clear y1 y2 y3 y4
         generalize (wb.setCell ⟨g12, 0, none⟩ (.int .i64 x.1)).setCell ⟨g12, 1, none⟩ (.slice Ax x.2.length dx) = w8 at *
         obtain ⟨y1, y2, y3, y4⟩ := HQ.out.f13
         refine wpAnyT_one (i := 26) (by kernel_rfl) rfl (fun K hK => ?_)
         go_wp2
         refine hK _ _ (fun h => absurd rfl h) ?_
         clear hK K
         (try simp only [Act.put, List.setIfInBounds_toArray, List.set_cons_zero, List.set_cons_succ])
         refine wpAnyT_done (by kernel_rfl) ?_ _
         go_wp2_with fail
         go_meet
         exact ⟨g12, g13, rfl, rfl, ⟨HQ.out.put⟩⟩
        ·go_wp2
         refine hK _ _ (fun _ => ?_) ?_
         ·exact HALL.out _ (below_alloc HB_w5.out _)
         clear hK K
         (try simp only [Act.put, List.setIfInBounds_toArray, List.set_cons_zero, List.set_cons_succ])
         have HZ13 := Aside0.mk (heap_alloc_new w5 (.cells #[.int .i64 0, .slice none 0 0] 100))
         have HN13 := Aside0.mk HB_w5.out.size
         have HX5n := Aside0.mk (Kd.R_below HX5.out (below_alloc (Below.refl _ _) (.cells #[.int .i64 0, .slice none 0 0] 100)))
         clear HX5
         have HX5 := HX5n
         clear HX5n
         have HY5n := Aside0.mk (Kd.R_below HY5.out (below_alloc (Below.refl _ _) (.cells #[.int .i64 0, .slice none 0 0] 100)))
         clear HY5
         have HY5 := HY5n
         clear HY5n
         have HB_wb := Aside0.mk (below_alloc HB_w5.out (.cells #[.int .i64 0, .slice none 0 0] 100))
         clear HB_w5
         generalize w5.heap.size = g13 at *
         generalize w5.alloc (.cells #[.int .i64 0, .slice none 0 0] 100) = wb at *
         refine wpAnyT_one (i := 23) (by kernel_rfl) rfl (fun K hK => ?_)
         go_wp2
         refine hK _ _ (fun _ => ?_) ?_
         ·exact HALL.out _ (below_alloc HB_wb.out _)
         clear hK K
         (try simp only [Act.put, List.setIfInBounds_toArray, List.set_cons_zero, List.set_cons_succ])
         have HZ12 := Aside0.mk (heap_alloc_new wb (.cells #[.int .i64 0, .slice none 0 0] 100))
         have HN12 := Aside0.mk HB_wb.out.size
         have HNE : Aside0 (wb.heap.size ≠ g13) := ⟨by have := blk_lt HZ13.out; omega⟩
         have HZ13n := Aside0.mk (blk_alloc HZ13.out (.cells #[.int .i64 0, .slice none 0 0] 100))
         clear HZ13
         have HZ13 := HZ13n
         clear HZ13n
         have HX5n := Aside0.mk (Kd.R_below HX5.out (below_alloc (Below.refl _ _) (.cells #[.int .i64 0, .slice none 0 0] 100)))
         clear HX5
         have HX5 := HX5n
         clear HX5n
         have HY5n := Aside0.mk (Kd.R_below HY5.out (below_alloc (Below.refl _ _) (.cells #[.int .i64 0, .slice none 0 0] 100)))
         clear HY5
         have HY5 := HY5n
         clear HY5n
         have HB_wa := Aside0.mk (below_alloc HB_wb.out (.cells #[.int .i64 0, .slice none 0 0] 100))
         clear HB_wb
         generalize wb.heap.size = g12 at *
         generalize wb.alloc (.cells #[.int .i64 0, .slice none 0 0] 100) = wa at *
         have HP : Aside0 (Pre12 w.heap.size wr wa g12 g13 (.slice Ax x.2.length dx) (.slice Ay y.2.length dy) x y) := ⟨⟨HB_wa.out, HZ12.out, HZ13.out, HNE.out, HX5.out, HY5.out, HN12.out, HN13.out⟩⟩
         obtain ⟨y1, y2, y3, y4⟩ := HP.out.f12
         refine wpAnyT_one (i := 25) (by kernel_rfl) rfl (fun K hK => ?_)
         go_wp2
         refine hK _ _ (fun _ => ?_) ?_
         ·exact HALL.out _ HP.out.put.bel
         clear hK K
         (try simp only [Act.put, List.setIfInBounds_toArray, List.set_cons_zero, List.set_cons_succ])
         have HQ := Aside0.mk HP.out.put
         clear y1 y2 y3 y4
         generalize (wa.setCell ⟨g12, 0, none⟩ (.int .i64 x.1)).setCell ⟨g12, 1, none⟩ (.slice Ax x.2.length dx) = w8 at *
         obtain ⟨y1, y2, y3, y4⟩ := HQ.out.f13
         refine wpAnyT_one (i := 26) (by kernel_rfl) rfl (fun K hK => ?_)
         go_wp2
         refine hK _ _ (fun h => absurd rfl h) ?_
         clear hK K
         (try simp only [Act.put, List.setIfInBounds_toArray, List.set_cons_zero, List.set_cons_succ])
         refine wpAnyT_done (by kernel_rfl) ?_ _
         go_wp2_with fail
         go_meet
         exact ⟨g12, g13, rfl, rfl, ⟨HQ.out.put⟩⟩
       ·go_wp2
        refine hK _ _ (fun _ => ?_) ?_
        ·exact HALL.out _ (below_alloc HB_wd.out _)
        clear hK K
        (try simp only [Act.put, List.setIfInBounds_toArray, List.set_cons_zero, List.set_cons_succ])
        have HZ12 := Aside0.mk (heap_alloc_new wd (.cells #[.int .i64 0, .slice none 0 0] 100))
        have HN12 := Aside0.mk HB_wd.out.size
        have HB_wa := Aside0.mk (below_alloc HB_wd.out (.cells #[.int .i64 0, .slice none 0 0] 100))
        clear HB_wd
        generalize wd.heap.size = g12 at *
        generalize wd.alloc (.cells #[.int .i64 0, .slice none 0 0] 100) = wa at *
        refine wpAnyT_two (i := 19) (j := 24) (by kernel_rfl) rfl rfl (fun K hK => ?_) (fun K hK => ?_)
        ·go_wp2_with (go_at_call 101; (with_reducible refine (HCALL.out _ HB_wa.out).mono ?_); rintro e w5 ⟨vx, vy, rfl, hx5, hy5, hb5⟩; have HB_w5 := Aside0.mk (below_step HB_wa.out hb5); have HX5 := Aside0.mk hx5; have HY5 := Aside0.mk hy5; have HZ12n := Aside0.mk (blk_below HZ12.out hb5); clear HZ12; have HZ12 := HZ12n; clear HZ12n; clear hx5 hy5 hb5 HB_wa)
         refine hK _ _ (fun _ => ?_) ?_
         ·exact HALL.out _ HB_w5.out
         clear hK K
         (try simp only [Act.put, List.setIfInBounds_toArray, List.set_cons_zero, List.set_cons_succ])
         obtain ⟨Ax, dx, rfl⟩ := Kd.R_slice HX5.out
         obtain ⟨Ay, dy, rfl⟩ := Kd.R_slice HY5.out
         have hS5 := HALL.out _ HB_w5.out
         refine tk 20 ?_
         refine tk 21 ?_
         refine tk 22 ?_
         clear hS5
         refine wpAnyT_one (i := 24) (by kernel_rfl) rfl (fun K hK => ?_)
         go_wp2
         refine hK _ _ (fun _ => ?_) ?_
         ·exact HALL.out _ (below_alloc HB_w5.out _)
         clear hK K
         (try simp only [Act.put, List.setIfInBounds_toArray, List.set_cons_zero, List.set_cons_succ])
         have HZ13 := Aside0.mk (heap_alloc_new w5 (.cells #[.int .i64 0, .slice none 0 0] 100))
         have HN13 := Aside0.mk HB_w5.out.size
         have HNE : Aside0 (w5.heap.size ≠ g12) := ⟨by have := blk_lt HZ12.out; omega⟩
         have HZ12n := Aside0.mk (blk_alloc HZ12.out (.cells #[.int .i64 0, .slice none 0 0] 100))
         clear HZ12
         have HZ12 := HZ12n
         clear HZ12n
         have HX5n := Aside0.mk (Kd.R_below HX5.out (below_alloc (Below.refl _ _) (.cells #[.int .i64 0, .slice none 0 0] 100)))
         clear HX5
         have HX5 := HX5n
         clear HX5n
         have HY5n := Aside0.mk (Kd.R_below HY5.out (below_alloc (Below.refl _ _) (.cells #[.int .i64 0, .slice none 0 0] 100)))
         clear HY5
         have HY5 := HY5n
         clear HY5n
         have HB_wb := Aside0.mk (below_alloc HB_w5.out (.cells #[.int .i64 0, .slice none 0 0] 100))
         clear HB_w5
         generalize w5.heap.size = g13 at *
         generalize w5.alloc (.cells #[.int .i64 0, .slice none 0 0] 100) = wb at *
         have HP : Aside0 (Pre12 w.heap.size wr wb g12 g13 (.slice Ax x.2.length dx) (.slice Ay y.2.length dy) x y) := ⟨⟨HB_wb.out, HZ12.out, HZ13.out, HNE.out.symm, HX5.out, HY5.out, HN12.out, HN13.out⟩⟩
         obtain ⟨y1, y2, y3, y4⟩ := HP.out.f12
         refine wpAnyT_one (i := 25) (by kernel_rfl) rfl (fun K hK => ?_)
         go_wp2
         refine hK _ _ (fun _ => ?_) ?_
         ·exact HALL.out _ HP.out.put.bel
         clear hK K
         (try simp only [Act.put, List.setIfInBounds_toArray, List.set_cons_zero, List.set_cons_succ])
         have HQ := Aside0.mk HP.out.put
         clear y1 y2 y3 y4
         generalize (wb.setCell ⟨g12, 0, none⟩ (.int .i64 x.1)).setCell ⟨g12, 1, none⟩ (.slice Ax x.2.length dx) = w8 at *
         obtain ⟨y1, y2, y3, y4⟩ := HQ.out.f13
         refine wpAnyT_one (i := 26) (by kernel_rfl) rfl (fun K hK => ?_)
         go_wp2
         refine hK _ _ (fun h => absurd rfl h) ?_
         clear hK K
         (try simp only [Act.put, List.setIfInBounds_toArray, List.set_cons_zero, List.set_cons_succ])
         refine wpAnyT_done (by kernel_rfl) ?_ _
         go_wp2_with fail
         go_meet
         exact ⟨g12, g13, rfl, rfl, ⟨HQ.out.put⟩⟩
        ·go_wp2
         refine hK _ _ (fun _ => ?_) ?_
         ·exact HALL.out _ (below_alloc HB_wa.out _)
         clear hK K
         (try simp only [Act.put, List.setIfInBounds_toArray, List.set_cons_zero, List.set_cons_succ])
         have HZ13 := Aside0.mk (heap_alloc_new wa (.cells #[.int .i64 0, .slice none 0 0] 100))
         have HN13 := Aside0.mk HB_wa.out.size
         have HNE : Aside0 (wa.heap.size ≠ g12) := ⟨by have := blk_lt HZ12.out; omega⟩
         have HZ12n := Aside0.mk (blk_alloc HZ12.out (.cells #[.int .i64 0, .slice none 0 0] 100))
         clear HZ12
         have HZ12 := HZ12n
         clear HZ12n
         have HB_wb := Aside0.mk (below_alloc HB_wa.out (.cells #[.int .i64 0, .slice none 0 0] 100))
         clear HB_wa
         generalize wa.heap.size = g13 at *
         generalize wa.alloc (.cells #[.int .i64 0, .slice none 0 0] 100) = wb at *
         refine wpAnyT_one (i := 19) (by kernel_rfl) rfl (fun K hK => ?_)
         go_wp2_with (go_at_call 101; (with_reducible refine (HCALL.out _ HB_wb.out).mono ?_); rintro e w5 ⟨vx, vy, rfl, hx5, hy5, hb5⟩; have HB_w5 := Aside0.mk (below_step HB_wb.out hb5); have HX5 := Aside0.mk hx5; have HY5 := Aside0.mk hy5; have HZ12n := Aside0.mk (blk_below HZ12.out hb5); clear HZ12; have HZ12 := HZ12n; clear HZ12n; have HZ13n := Aside0.mk (blk_below HZ13.out hb5); clear HZ13; have HZ13 := HZ13n; clear HZ13n; clear hx5 hy5 hb5 HB_wb)
         refine hK _ _ (fun _ => ?_) ?_
         ·exact HALL.out _ HB_w5.out
         clear hK K
         (try simp only [Act.put, List.setIfInBounds_toArray, List.set_cons_zero, List.set_cons_succ])
         obtain ⟨Ax, dx, rfl⟩ := Kd.R_slice HX5.out
         obtain ⟨Ay, dy, rfl⟩ := Kd.R_slice HY5.out
         have hS5 := HALL.out _ HB_w5.out
         refine tk 20 ?_
         refine tk 21 ?_
         refine tk 22 ?_
         clear hS5
         have HP : Aside0 (Pre12 w.heap.size wr w5 g12 g13 (.slice Ax x.2.length dx) (.slice Ay y.2.length dy) x y) := ⟨⟨HB_w5.out, HZ12.out, HZ13.out, HNE.out.symm, HX5.out, HY5.out, HN12.out, HN13.out⟩⟩
         obtain ⟨y1, y2, y3, y4⟩ := HP.out.f12
         refine wpAnyT_one (i := 25) (by kernel_rfl) rfl (fun K hK => ?_)
         go_wp2
         refine hK _ _ (fun _ => ?_) ?_
         ·exact HALL.out _ HP.out.put.bel
         clear hK K
         (try simp only [Act.put, List.setIfInBounds_toArray, List.set_cons_zero, List.set_cons_succ])
         have HQ := Aside0.mk HP.out.put
         clear y1 y2 y3 y4
         generalize (w5.setCell ⟨g12, 0, none⟩ (.int .i64 x.1)).setCell ⟨g12, 1, none⟩ (.slice Ax x.2.length dx) = w8 at *
         obtain ⟨y1, y2, y3, y4⟩ := HQ.out.f13
         refine wpAnyT_one (i := 26) (by kernel_rfl) rfl (fun K hK => ?_)
         go_wp2
         refine hK _ _ (fun h => absurd rfl h) ?_
         clear hK K
         (try simp only [Act.put, List.setIfInBounds_toArray, List.set_cons_zero, List.set_cons_succ])
         refine wpAnyT_done (by kernel_rfl) ?_ _
         go_wp2_with fail
         go_meet
         exact ⟨g12, g13, rfl, rfl, ⟨HQ.out.put⟩⟩
       ·go_wp2
        refine hK _ _ (fun _ => ?_) ?_
        ·exact HALL.out _ (below_alloc HB_wd.out _)
        clear hK K
        (try simp only [Act.put, List.setIfInBounds_toArray, List.set_cons_zero, List.set_cons_succ])
        have HZ13 := Aside0.mk (heap_alloc_new wd (.cells #[.int .i64 0, .slice none 0 0] 100))
        have HN13 := Aside0.mk HB_wd.out.size
        have HB_wb := Aside0.mk (below_alloc HB_wd.out (.cells #[.int .i64 0, .slice none 0 0] 100))
        clear HB_wd
        generalize wd.heap.size = g13 at *
        generalize wd.alloc (.cells #[.int .i64 0, .slice none 0 0] 100) = wb at *
        refine wpAnyT_two (i := 19) (j := 23) (by kernel_rfl) rfl rfl (fun K hK => ?_) (fun K hK => ?_)
        ·go_wp2_with (go_at_call 101; (with_reducible refine (HCALL.out _ HB_wb.out).mono ?_); rintro e w5 ⟨vx, vy, rfl, hx5, hy5, hb5⟩; have HB_w5 := Aside0.mk (below_step HB_wb.out hb5); have HX5 := Aside0.mk hx5; have HY5 := Aside0.mk hy5; have HZ13n := Aside0.mk (blk_below HZ13.out hb5); clear HZ13; have HZ13 := HZ13n; clear HZ13n; clear hx5 hy5 hb5 HB_wb)
         refine hK _ _ (fun _ => ?_) ?_
         ·exact HALL.out _ HB_w5.out
         clear hK K
         (try simp only [Act.put, List.setIfInBounds_toArray, List.set_cons_zero, List.set_cons_succ])
         obtain ⟨Ax, dx, rfl⟩ := Kd.R_slice HX5.out
         obtain ⟨Ay, dy, rfl⟩ := Kd.R_slice HY5.out
         have hS5 := HALL.out _ HB_w5.out
         refine tk 20 ?_
         refine tk 21 ?_
         refine tk 22 ?_
         clear hS5
         refine wpAnyT_one (i := 23) (by kernel_rfl) rfl (fun K hK => ?_)
         go_wp2
         refine hK _ _ (fun _ => ?_) ?_
         ·exact HALL.out _ (below_alloc HB_w5.out _)
         clear hK K
         (try simp only [Act.put, List.setIfInBounds_toArray, List.set_cons_zero, List.set_cons_succ])
         have HZ12 := Aside0.mk (heap_alloc_new w5 (.cells #[.int .i64 0, .slice none 0 0] 100))
         have HN12 := Aside0.mk HB_w5.out.size
         have HNE : Aside0 (w5.heap.size ≠ g13) := ⟨by have := blk_lt HZ13.out; omega⟩
         have HZ13n := Aside0.mk (blk_alloc HZ13.out (.cells #[.int .i64 0, .slice none 0 0] 100))
         clear HZ13
         have HZ13 := HZ13n
         clear HZ13n
         have HX5n := Aside0.mk (Kd.R_below HX5.out (below_alloc (Below.refl _ _) (.cells #[.int .i64 0, .slice none 0 0] 100)))
         clear HX5
         have HX5 := HX5n
         clear HX5n
         have HY5n := Aside0.mk (Kd.R_below HY5.out (below_alloc (Below.refl _ _) (.cells #[.int .i64 0, .slice none 0 0] 100)))
         clear HY5
         have HY5 := HY5n
         clear HY5n
         have HB_wa := Aside0.mk (below_alloc HB_w5.out (.cells #[.int .i64 0, .slice none 0 0] 100))
         clear HB_w5
         generalize w5.heap.size = g12 at *
         generalize w5.alloc (.cells #[.int .i64 0, .slice none 0 0] 100) = wa at *
         have HP : Aside0 (Pre12 w.heap.size wr wa g12 g13 (.slice Ax x.2.length dx) (.slice Ay y.2.length dy) x y) := ⟨⟨HB_wa.out, HZ12.out, HZ13.out, HNE.out, HX5.out, HY5.out, HN12.out, HN13.out⟩⟩
         obtain ⟨y1, y2, y3, y4⟩ := HP.out.f12
         refine wpAnyT_one (i := 25) (by kernel_rfl) rfl (fun K hK => ?_)
         go_wp2
         refine hK _ _ (fun _ => ?_) ?_
         ·exact HALL.out _ HP.out.put.bel
         clear hK K
         (try simp only [Act.put, List.setIfInBounds_toArray, List.set_cons_zero, List.set_cons_succ])
         have HQ := Aside0.mk HP.out.put
         clear y1 y2 y3 y4
         generalize (wa.setCell ⟨g12, 0, none⟩ (.int .i64 x.1)).setCell ⟨g12, 1, none⟩ (.slice Ax x.2.length dx) = w8 at *
         obtain ⟨y1, y2, y3, y4⟩ := HQ.out.f13
         refine wpAnyT_one (i := 26) (by kernel_rfl) rfl (fun K hK => ?_)
         go_wp2
         refine hK _ _ (fun h => absurd rfl h) ?_
         clear hK K
         (try simp only [Act.put, List.setIfInBounds_toArray, List.set_cons_zero, List.set_cons_succ])
         refine wpAnyT_done (by kernel_rfl) ?_ _
         go_wp2_with fail
         go_meet
         exact ⟨g12, g13, rfl, rfl, ⟨HQ.out.put⟩⟩
        ·go_wp2
         refine hK _ _ (fun _ => ?_) ?_
         ·exact HALL.out _ (below_alloc HB_wb.out _)
         clear hK K
         (try simp only [Act.put, List.setIfInBounds_toArray, List.set_cons_zero, List.set_cons_succ])
         have HZ12 := Aside0.mk (heap_alloc_new wb (.cells #[.int .i64 0, .slice none 0 0] 100))
         have HN12 := Aside0.mk HB_wb.out.size
         have HNE : Aside0 (wb.heap.size ≠ g13) := ⟨by have := blk_lt HZ13.out; omega⟩
         have HZ13n := Aside0.mk (blk_alloc HZ13.out (.cells #[.int .i64 0, .slice none 0 0] 100))
         clear HZ13
         have HZ13 := HZ13n
         clear HZ13n
         have HB_wa := Aside0.mk (below_alloc HB_wb.out (.cells #[.int .i64 0, .slice none 0 0] 100))
         clear HB_wb
         generalize wb.heap.size = g12 at *
         generalize wb.alloc (.cells #[.int .i64 0, .slice none 0 0] 100) = wa at *
         refine wpAnyT_one (i := 19) (by kernel_rfl) rfl (fun K hK => ?_)
         go_wp2_with (go_at_call 101; (with_reducible refine (HCALL.out _ HB_wa.out).mono ?_); rintro e w5 ⟨vx, vy, rfl, hx5, hy5, hb5⟩; have HB_w5 := Aside0.mk (below_step HB_wa.out hb5); have HX5 := Aside0.mk hx5; have HY5 := Aside0.mk hy5; have HZ12n := Aside0.mk (blk_below HZ12.out hb5); clear HZ12; have HZ12 := HZ12n; clear HZ12n; have HZ13n := Aside0.mk (blk_below HZ13.out hb5); clear HZ13; have HZ13 := HZ13n; clear HZ13n; clear hx5 hy5 hb5 HB_wa)
         refine hK _ _ (fun _ => ?_) ?_
         ·exact HALL.out _ HB_w5.out
         clear hK K
         (try simp only [Act.put, List.setIfInBounds_toArray, List.set_cons_zero, List.set_cons_succ])
         obtain ⟨Ax, dx, rfl⟩ := Kd.R_slice HX5.out
         obtain ⟨Ay, dy, rfl⟩ := Kd.R_slice HY5.out
         have hS5 := HALL.out _ HB_w5.out
         refine tk 20 ?_
         refine tk 21 ?_
         refine tk 22 ?_
         clear hS5
         have HP : Aside0 (Pre12 w.heap.size wr w5 g12 g13 (.slice Ax x.2.length dx) (.slice Ay y.2.length dy) x y) := ⟨⟨HB_w5.out, HZ12.out, HZ13.out, HNE.out, HX5.out, HY5.out, HN12.out, HN13.out⟩⟩
         obtain ⟨y1, y2, y3, y4⟩ := HP.out.f12
         refine wpAnyT_one (i := 25) (by kernel_rfl) rfl (fun K hK => ?_)
         go_wp2
         refine hK _ _ (fun _ => ?_) ?_
         ·exact HALL.out _ HP.out.put.bel
         clear hK K
         (try simp only [Act.put, List.setIfInBounds_toArray, List.set_cons_zero, List.set_cons_succ])
         have HQ := Aside0.mk HP.out.put
         clear y1 y2 y3 y4
         generalize (w5.setCell ⟨g12, 0, none⟩ (.int .i64 x.1)).setCell ⟨g12, 1, none⟩ (.slice Ax x.2.length dx) = w8 at *
         obtain ⟨y1, y2, y3, y4⟩ := HQ.out.f13
         refine wpAnyT_one (i := 26) (by kernel_rfl) rfl (fun K hK => ?_)
         go_wp2
         refine hK _ _ (fun h => absurd rfl h) ?_
         clear hK K
         (try simp only [Act.put, List.setIfInBounds_toArray, List.set_cons_zero, List.set_cons_succ])
         refine wpAnyT_done (by kernel_rfl) ?_ _
         go_wp2_with fail
         go_meet
         exact ⟨g12, g13, rfl, rfl, ⟨HQ.out.put⟩⟩
      case rest =>
       obtain ⟨g12, g13, rfl, rfl, HC⟩ := hcut
       go_upto_region 13 with (fail)
       have hbc : Below wr.heap.size wr wc := HC.out.bel
       obtain ⟨vx, hpx⟩ := HC.out.px
       obtain ⟨vy, hpy⟩ := HC.out.py
       obtain ⟨Ax, dx, rfl⟩ := Kd.R_slice hpx.row
       obtain ⟨Ay, dy, rfl⟩ := Kd.R_slice hpy.row
       have hbd : Below wr.heap.size wr wc.drew := below_drew1 hbc
       have HSd := Aside0.mk (HS.out.below hbd)
       have hrd := Kd.R_below HROW.out hbd
       have HPX := Aside0.mk (hpx.below (below_drew1 (Below.refl _ _)))
       have HPY := Aside0.mk (hpy.below (below_drew1 (Below.refl _ _)))
       have HCd := Aside0.mk (blk_below HC10.out hbd)
       have HHd := Aside0.mk (HALL.out _ hbd).2.1
       clear hpx hpy hbc hbd HALL HROW HA3 HB3 HC HS
       obtain ⟨Aq, dq, e1, e2, _, e4, e5⟩ := row_elem hrd q (by omega)
       have HRD := Aside0.mk hrd
       clear hrd
       obtain ⟨wd, hwd⟩ : ∃ W, wc.drew = W := ⟨_, rfl⟩
       have hS : wd.cell? ⟨gt, i, none⟩ = some (.slice (some ⟨gr, 0, none⟩) n cr) ∧ wd.cell? ⟨g12, 0, none⟩ = some (.int .i64 x.1) ∧ wd.cell? ⟨g12, 1, none⟩ = some (.slice Ax x.2.length dx) ∧ wd.cell? ⟨g13, 0, none⟩ = some (.int .i64 y.1) ∧ wd.cell? ⟨g13, 1, none⟩ = some (.slice Ay y.2.length dy) := by rw [← hwd]; exact ⟨HHd.out, HPX.out.c0, HPX.out.c1, HPY.out.c0, HPY.out.c1⟩
       refine wp_region_T 18 (fun w' => w'.cell? ⟨gt, i, none⟩ = some (.slice (some ⟨gr, 0, none⟩) n cr) ∧ w'.cell? ⟨g12, 0, none⟩ = some (.int .i64 x.1) ∧ w'.cell? ⟨g12, 1, none⟩ = some (.slice Ax x.2.length dx) ∧ w'.cell? ⟨g13, 0, none⟩ = some (.int .i64 y.1) ∧ w'.cell? ⟨g13, 1, none⟩ = some (.slice Ay y.2.length dy)) (by kernel_rfl) ?_
       rw [hwd] at HSd HRD HPX HPY HCd e1 e2 e4 e5 ⊢
       clear hwd HHd
       have s1 : IntKind.i64.wrap (q : Int) = (q : Int) := IntWalk.i64_in _ (by omega)
       have hq1 : (q : Int) < (n : Int) := by omega
       have hq2 : (q : Int) + 1 < (n : Int) := by omega
       have hq3 : (0 : Int) ≤ (q : Int) + 1 := by omega
       have s2 : ((q : Int) + 1).toNat = q + 1 := by omega
       refine tk 0 ?_
       refine tk 1 ?_
       refine tk 2 ?_
       refine tk 3 ?_
       refine tk 4 ?_
       refine tk 5 ?_
       refine tk 6 ?_
       refine tk 7 ?_
       refine tk 8 ?_
       refine tk 9 ?_
       refine tk 10 ?_
       refine tk 11 ?_
       refine tk 12 ?_
       refine tk 13 ?_
       refine tk 14 ?_
       refine wpAnyT_one (i := 15) (by kernel_rfl) rfl (fun K hK => ?_)
       go_wp2
       refine hK _ _ (fun _ => ?_) ?_
       ·exact hS
       clear hK K
       (try simp only [Act.put, List.setIfInBounds_toArray, List.set_cons_zero, List.set_cons_succ])
       refine wpAnyT_one (i := 16) (by kernel_rfl) rfl (fun K hK => ?_)
       go_wp2
       have hM := Aside0.mk (HSd.out.put (by omega) (by rw [HLEN.out]; exact hlt3) HHH.out HRD.out q (by omega) HPX.out.row)
       have hrd9 := (row_put HRD.out (by decide) q (by omega) HPX.out.row).1
       obtain ⟨cs9, hcs9⟩ := HSd.out.mat.blk (by omega) (i := i) (by rw [HLEN.out]; exact hlt3)
       rw [HHH.out] at hcs9
       have HPX9 := Aside0.mk ((HPX.out.far hcs9 (by decide) (by decide) (q * 2) (.int .i64 x.1)).far (blk_set hcs9 _ _) (by decide) (by decide) (q * 2 + 1) (.slice Ax x.2.length dx))
       have HPY9 := Aside0.mk ((HPY.out.far hcs9 (by decide) (by decide) (q * 2) (.int .i64 x.1)).far (blk_set hcs9 _ _) (by decide) (by decide) (q * 2 + 1) (.slice Ax x.2.length dx))
       have HC9 := Aside0.mk (blk_far (blk_far HCd.out (blk_ne HCd.out hcs9 (by decide)) (p := ⟨gr, q * 2, none⟩) (.int .i64 x.1)) (blk_ne HCd.out hcs9 (by decide)) (p := ⟨gr, q * 2 + 1, none⟩) (.slice Ax x.2.length dx))
       have hhd9 := hM.out.mat.head (i := i) (by rw [HLEN.out]; exact hlt3)
       rw [HHH.out] at hhd9
       unfold encH at hhd9
       dsimp only at hhd9
       refine hK _ _ (fun _ => ?_) ?_
       ·exact ⟨hhd9, HPX9.out.c0, HPX9.out.c1, HPY9.out.c0, HPY9.out.c1⟩
       clear hK K
       (try simp only [Act.put, List.setIfInBounds_toArray, List.set_cons_zero, List.set_cons_succ])
       have HRD9 := Aside0.mk hrd9
       clear hS e1 e2 e4 e5 hcs9 hhd9 hrd9
       generalize (wd.setCell ⟨gr, q * 2, none⟩ (.int .i64 x.1)).setCell ⟨gr, q * 2 + 1, none⟩ (.slice Ax x.2.length dx) = w9 at *
       obtain ⟨Aq2, dq2, e1, e2, _, e4, e5⟩ := row_elem HRD9.out (q + 1) (by omega)
       have hS9 : w9.cell? ⟨gt, i, none⟩ = some (.slice (some ⟨gr, 0, none⟩) n cr) ∧ w9.cell? ⟨g12, 0, none⟩ = some (.int .i64 x.1) ∧ w9.cell? ⟨g12, 1, none⟩ = some (.slice Ax x.2.length dx) ∧ w9.cell? ⟨g13, 0, none⟩ = some (.int .i64 y.1) ∧ w9.cell? ⟨g13, 1, none⟩ = some (.slice Ay y.2.length dy) := ⟨by
        have h := hM.out.mat.head (i := i) (by rw [HLEN.out]; exact hlt3)
        rw [HHH.out] at h
        exact h, HPX9.out.c0, HPX9.out.c1, HPY9.out.c0, HPY9.out.c1⟩
       refine wpAnyT_one (i := 17) (by kernel_rfl) rfl (fun K hK => ?_)
       go_wp2
       refine hK _ _ (fun _ => ?_) ?_
       ·exact hS9
       clear hK K
       (try simp only [Act.put, List.setIfInBounds_toArray, List.set_cons_zero, List.set_cons_succ])
       clear hS9
       refine wpAnyT_one (i := 18) (by kernel_rfl) rfl (fun K hK => ?_)
       go_wp2
       refine hK _ _ (fun h => absurd rfl h) ?_
       clear hK K
       (try simp only [Act.put, List.setIfInBounds_toArray, List.set_cons_zero, List.set_cons_succ])
       refine wpAnyT_done (by kernel_rfl) ?_ _
       go_wp2
       go_roundg (n - (i + 1))
       case measure => omega
       case rel =>
        obtain ⟨cs9, hcs9⟩ := hM.out.mat.blk (by omega) (i := i) (by rw [HLEN.out]; exact hlt3)
        rw [HHH.out] at hcs9
        refine ⟨i + 1, by go_num, by omega, Nat.le_refl _, ⟨?_⟩, ⟨blk_far (blk_far HC9.out (blk_ne HC9.out hcs9 (by decide)) (p := ⟨gr, (q + 1) * 2, none⟩) (.int .i64 y.1)) (blk_ne HC9.out hcs9 (by decide)) (p := ⟨gr, (q + 1) * 2 + 1, none⟩) (.slice Ay y.2.length dy)⟩⟩
        have h := hM.out.put (by omega) (by rw [HLEN.out]; exact hlt3) HHH.out HRD9.out (q + 1) (by omega) HPY9.out.row
        have e9 : ((rowsTo ((q : Int) + 1) i L).set i (r.set q x)).set i ((r.set q x).set (q + 1) y) = rowsTo ((q : Int) + 1) (i + 1) L := by
         have hil : i < L.length := by rw [HLL.out]; exact hlt3
         rw [List.set_set, ← rowsTo_set hil, stepRow_up, HRR.out]
         unfold stepUp
         rw [HAA.out, HBB.out, HXX.out, HYY.out]
        rw [e9] at h
        exact h
     ·have hin : i = n := by omega
      have HE : Aside0 (rowsTo ((q : Int) + 1) i L = burauF n (xs.take (j + 1))) := ⟨by rw [rowsTo_all (by rw [HLL.out]; omega), List.take_succ_eq_append_getElem hlt, burauF_snoc, HX.out, HLB.out]⟩
      clear hin
      go_wp2
      go_roundg (xs.length - (j + 1))
      case measure => omega
      case rel => exact ⟨j + 1, by go_num, by omega, Nat.le_refl _, ⟨by rw [← HE.out]; exact HS.out⟩⟩
   ·go_upto_region 9 with (fail)
    rw [show (-(-(q : Int) - 1)) = (q : Int) + 1 by omega, show decide (-(q : Int) - 1 < 0) = true from decide_eq_true (by omega)]
    have HS1 : Aside0 (BuS w (wr.alloc (.cells #[.func (.func 102) #[] #[.pointer (some ⟨gd, 0, none⟩), .pointer (some ⟨gl, 0, none⟩)]] 123)) n (.slice (some ⟨gt, 0, none⟩) n ct) hs (rowsTo (-(q : Int) - 1) 0 (burauF n (xs.take j))) gm gu gd gl g5 g6) := ⟨by rw [rowsTo_zero]; exact HS.out.below (below_alloc (Below.refl _ _) _)⟩
    have HC10 : Aside0 ((wr.alloc (.cells #[.func (.func 102) #[] #[.pointer (some ⟨gd, 0, none⟩), .pointer (some ⟨gl, 0, none⟩)]] 123)).heap[wr.heap.size]? = some (.cells #[.func (.func 102) #[] #[.pointer (some ⟨gd, 0, none⟩), .pointer (some ⟨gl, 0, none⟩)]] 123 (0, 0))) := ⟨heap_alloc_new _ _⟩
    have HRG : Aside0 (AllRg (j : Int) (burauF n (xs.take j))) := ⟨by have h := burauF_rg n (xs.take j); rw [List.length_take, Nat.min_eq_left (by omega)] at h; exact h⟩
    have HLL : Aside0 ((burauF n (xs.take j)).length = n) := ⟨burauF_len _ _⟩
    generalize wr.heap.size = g10 at *
    generalize (wr.alloc (.cells #[.func (.func 102) #[] #[.pointer (some ⟨gd, 0, none⟩), .pointer (some ⟨gl, 0, none⟩)]] 123)) = W1 at *
    clear hc5 hc6 hc6b hcw
    obtain ⟨L, hL⟩ : ∃ L, burauF n (xs.take j) = L := ⟨_, rfl⟩
    rw [hL] at HS1 HRG HLL
    have HLB := Aside0.mk hL
    clear hL HS
    go_wp2
    go_loopg [34] n (fun kq s34 wr => ∃ i : Nat, s34 = .int .i64 i ∧ i ≤ n ∧ n - i ≤ kq ∧ Aside0 (BuS w wr n (.slice (some ⟨gt, 0, none⟩) n ct) hs (rowsTo (-(q : Int) - 1) i L) gm gu gd gl g5 g6) ∧ Aside0 (wr.heap[g10]? = some (.cells #[.func (.func 102) #[] #[.pointer (some ⟨gd, 0, none⟩), .pointer (some ⟨gl, 0, none⟩)]] 123 (0, 0))))
    case atStart => exact ⟨0, rfl, Nat.zero_le _, by omega, HS1, HC10⟩
    case round =>
     clear HS1 HC10
     obtain ⟨i, rfl, hi, hgg2, HS, HC10⟩ := hrel
     by_cases hlt3 : i < n
     ·have hi3 : (i : Int) < (n : Int) := by omega
      have hi4 : (0 : Int) ≤ (i : Int) := by omega
      go_upto_region 12 with (fail)
      have hil : i < L.length := by rw [HLL.out]; exact hlt3
      have hih : i < hs.length := by rw [HLEN.out]; exact hlt3
      have hrow := HS.out.mat.row i hih
      rw [rowsTo_at hil] at hrow
      have hhd := HS.out.mat.head hih
      have hrr : RowRg (j : Int) L[i] := HRG.out _ (List.getElem_mem hil)
      have hgr := HS.out.mat.base hih
      obtain ⟨h0, hh0⟩ : ∃ h0, hs[i] = h0 := ⟨_, rfl⟩
      obtain ⟨r, hr0⟩ : ∃ r, L[i] = r := ⟨_, rfl⟩
      rw [hh0] at hrow hhd hgr
      rw [hr0] at hrow hrr
      obtain ⟨gr, cr⟩ := h0
      unfold encH at hrow hhd
      dsimp only at hrow hhd hgr
      obtain ⟨Aa, da, ka1, ka2, ka3, ka4, ka5⟩ := row_elem hrow q (by omega)
      obtain ⟨Ab, db, kb1, kb2, kb3, kb4, kb5⟩ := row_elem hrow (q + 1) (by omega)
      have hra := hrr.at_ (by omega) q
      have hrb := hrr.at_ (by omega) (q + 1)
      obtain ⟨a, ha⟩ : ∃ a, r.getD q (0, []) = a := ⟨_, rfl⟩
      obtain ⟨b, hb⟩ : ∃ b, r.getD (q + 1) (0, []) = b := ⟨_, rfl⟩
      rw [ha] at ka1 ka2 ka3 hra
      rw [hb] at kb1 kb2 kb3 hrb
      have hc10 : wr.cell? ⟨g10, 0, none⟩ = some (.func (.func 102) #[] #[.pointer (some ⟨gd, 0, none⟩), .pointer (some ⟨gl, 0, none⟩)]) := (blk_cell HC10.out 0).trans rfl
      obtain ⟨va, hva⟩ : ∃ v, Value.slice Aa a.2.length da = v := ⟨_, rfl⟩
      obtain ⟨vb, hvb⟩ : ∃ v, Value.slice Ab b.2.length db = v := ⟨_, rfl⟩
      rw [hva] at ka2 ka3
      rw [hvb] at kb2 kb3
      have HALL : Aside0 (∀ w', Below wr.heap.size wr w' → w'.cell? ⟨g10, 0, none⟩ = some (.func (.func 102) #[] #[.pointer (some ⟨gd, 0, none⟩), .pointer (some ⟨gl, 0, none⟩)]) ∧ w'.cell? ⟨gt, i, none⟩ = some (.slice (some ⟨gr, 0, none⟩) n cr) ∧ w'.cell? ⟨gr, q * 2, none⟩ = some (.int .i64 a.1) ∧ w'.cell? ⟨gr, q * 2 + 1, none⟩ = some va ∧ w'.cell? ⟨gr, (q + 1) * 2, none⟩ = some (.int .i64 b.1) ∧ w'.cell? ⟨gr, (q + 1) * 2 + 1, none⟩ = some vb) := ⟨fun w' hbl => ⟨cell_bel hbl hc10, cell_bel hbl hhd, cell_bel hbl ka1, cell_bel hbl ka2, cell_bel hbl kb1, cell_bel hbl kb2⟩⟩
      have HROW := Aside0.mk hrow
      have HA3 := Aside0.mk ka3
      have HB3 := Aside0.mk kb3
      have HRA := Aside0.mk hra
      have HRB := Aside0.mk hrb
      have HRR := Aside0.mk hr0
      have HHH := Aside0.mk hh0
      have HAA := Aside0.mk ha
      have HBB := Aside0.mk hb
      clear hrow hhd hrr hgr hh0 hr0 ka1 ka2 ka3 ka4 ka5 kb1 kb2 kb3 kb4 kb5 hra hrb ha hb hc10 hva hvb
      obtain ⟨x, hx⟩ : ∃ x, timesP b (-1, [1]) = x := ⟨_, rfl⟩
      obtain ⟨y, hy⟩ : ∃ y, plusP a (timesP b (-1, [-1, 1])) = y := ⟨_, rfl⟩
      have HCALL : Aside0 (∀ w', Below wr.heap.size wr w' → Calls Try.prog 102 #[.agg #[.int .i64 a.1, va], .agg #[.int .i64 b.1, vb], .pointer (some ⟨gd, 0, none⟩), .pointer (some ⟨gl, 0, none⟩)] w' (fun e w'' => TwoR w' w'' w.heap.size x y e)) := ⟨fun w' hbl => by
       rw [← hx, ← hy]
       have hbk := HS.out.blks.below hbl
       obtain ⟨vm, hm⟩ := hbk.d
       obtain ⟨vu, hu⟩ := hbk.l
       exact f102_any w' (Nat.le_trans HS.out.bel.size hbl.size) (Kd.R_below HA3.out hbl) (Kd.R_below HB3.out hbl) hm hu HRA.out HRB.out rg_down rg_less (by omega) (by omega)⟩
      have HXX := Aside0.mk hx
      have HYY := Aside0.mk hy
      clear hx hy
      go_cut [12, 13] (fun s12 s13 wx => ∃ g12 g13 : Nat, s12 = .pointer (some ⟨g12, 0, none⟩) ∧ s13 = .pointer (some ⟨g13, 0, none⟩) ∧ Aside0 (Cut12 w.heap.size wr wx g12 g13 x y))
      case first =>
       have s1 : IntKind.i64.wrap (q : Int) = (q : Int) := IntWalk.i64_in _ (by omega)
       have hq1 : (q : Int) < (n : Int) := by omega
       have hq2 : (q : Int) + 1 < (n : Int) := by omega
       have hq3 : (0 : Int) ≤ (q : Int) + 1 := by omega
       have s2 : ((q : Int) + 1).toNat = q + 1 := by omega
       obtain ⟨wd, hwd⟩ : ∃ W, wr.drew = W := ⟨_, rfl⟩
       have HB_wd : Aside0 (Below wr.heap.size wr wd) := ⟨by rw [← hwd]; exact below_drew1 (Below.refl _ _)⟩
       have hS := HALL.out wd HB_wd.out
       refine wp_region_T 26 (fun w' => w'.cell? ⟨g10, 0, none⟩ = some (.func (.func 102) #[] #[.pointer (some ⟨gd, 0, none⟩), .pointer (some ⟨gl, 0, none⟩)]) ∧ w'.cell? ⟨gt, i, none⟩ = some (.slice (some ⟨gr, 0, none⟩) n cr) ∧ w'.cell? ⟨gr, q * 2, none⟩ = some (.int .i64 a.1) ∧ w'.cell? ⟨gr, q * 2 + 1, none⟩ = some va ∧ w'.cell? ⟨gr, (q + 1) * 2, none⟩ = some (.int .i64 b.1) ∧ w'.cell? ⟨gr, (q + 1) * 2 + 1, none⟩ = some vb) (by kernel_rfl) ?_
       rw [hwd]
       clear hwd
       refine tk 0 ?_
       refine tk 1 ?_
       refine tk 2 ?_
       refine tk 3 ?_
       refine tk 4 ?_
       refine tk 5 ?_
       refine tk 6 ?_
       refine tk 7 ?_
       refine tk 8 ?_
       refine tk 9 ?_
       refine tk 10 ?_
       refine tk 11 ?_
       refine tk 12 ?_
       refine tk 13 ?_
       refine tk 14 ?_
       refine tk 15 ?_
       refine tk 16 ?_
       refine tk 17 ?_
       refine tk 18 ?_
       clear hS
       refine wpAnyT_three (i := 19) (j := 23) (l := 24) (by kernel_rfl) rfl rfl rfl (fun K hK => ?_) (fun K hK => ?_) (fun K hK => ?_)
       ·go_wp2_with (go_at_call 102; (with_reducible refine (HCALL.out _ HB_wd.out).mono ?_); rintro e w5 ⟨vx, vy, rfl, hx5, hy5, hb5⟩; have HB_w5 := Aside0.mk (below_step HB_wd.out hb5); have HX5 := Aside0.mk hx5; have HY5 := Aside0.mk hy5; clear hx5 hy5 hb5 HB_wd)
        refine hK _ _ (fun _ => ?_) ?_
        ·exact HALL.out _ HB_w5.out
        clear hK K
        (try simp only [Act.put, List.setIfInBounds_toArray, List.set_cons_zero, List.set_cons_succ])
        obtain ⟨Ax, dx, rfl⟩ := Kd.R_slice HX5.out
        obtain ⟨Ay, dy, rfl⟩ := Kd.R_slice HY5.out
        have hS5 := HALL.out _ HB_w5.out
        refine tk 20 ?_
        refine tk 21 ?_
        refine tk 22 ?_
        clear hS5
        refine wpAnyT_two (i := 23) (j := 24) (by kernel_rfl) rfl rfl (fun K hK => ?_) (fun K hK => ?_)
        ·go_wp2
         refine hK _ _ (fun _ => ?_) ?_
         ·exact HALL.out _ (below_alloc HB_w5.out _)
         clear hK K
         (try simp only [Act.put, List.setIfInBounds_toArray, List.set_cons_zero, List.set_cons_succ])
         have HZ12 := Aside0.mk (heap_alloc_new w5 (.cells #[.int .i64 0, .slice none 0 0] 100))
         have HN12 := Aside0.mk HB_w5.out.size
         have HX5n := Aside0.mk (Kd.R_below HX5.out (below_alloc (Below.refl _ _) (.cells #[.int .i64 0, .slice none 0 0] 100)))
         clear HX5
         have HX5 := HX5n
         clear HX5n
         have HY5n := Aside0.mk (Kd.R_below HY5.out (below_alloc (Below.refl _ _) (.cells #[.int .i64 0, .slice none 0 0] 100)))
         clear HY5
         have HY5 := HY5n
         clear HY5n
         have HB_wa := Aside0.mk (below_alloc HB_w5.out (.cells #[.int .i64 0, .slice none 0 0] 100))
         clear HB_w5
         generalize w5.heap.size = g12 at *
         generalize w5.alloc (.cells #[.int .i64 0, .slice none 0 0] 100) = wa at *
         refine wpAnyT_one (i := 24) (by kernel_rfl) rfl (fun K hK => ?_)
         go_wp2
         refine hK _ _ (fun _ => ?_) ?_
         ·exact HALL.out _ (below_alloc HB_wa.out _)
         clear hK K
         (try simp only [Act.put, List.setIfInBounds_toArray, List.set_cons_zero, List.set_cons_succ])
         have HZ13 := Aside0.mk (heap_alloc_new wa (.cells #[.int .i64 0, .slice none 0 0] 100))
         have HN13 := Aside0.mk HB_wa.out.size
         have HNE : Aside0 (wa.heap.size ≠ g12) := ⟨by have := blk_lt HZ12.out; omega⟩
         have HZ12n := Aside0.mk (blk_alloc HZ12.out (.cells #[.int .i64 0, .slice none 0 0] 100))
         clear HZ12
         have HZ12 := HZ12n
         clear HZ12n
         have HX5n := Aside0.mk (Kd.R_below HX5.out (below_alloc (Below.refl _ _) (.cells #[.int .i64 0, .slice none 0 0] 100)))
         clear HX5
         have HX5 := HX5n
         clear HX5n
         have HY5n := Aside0.mk (Kd.R_below HY5.out (below_alloc (Below.refl _ _) (.cells #[.int .i64 0, .slice none 0 0] 100)))
         clear HY5
         have HY5 := HY5n
         clear HY5n
         have HB_wb := Aside0.mk (below_alloc HB_wa.out (.cells #[.int .i64 0, .slice none 0 0] 100))
         clear HB_wa
         generalize wa.heap.size = g13 at *
         generalize wa.alloc (.cells #[.int .i64 0, .slice none 0 0] 100) = wb at *
         have HP : Aside0 (Pre12 w.heap.size wr wb g12 g13 (.slice Ax x.2.length dx) (.slice Ay y.2.length dy) x y) := ⟨⟨HB_wb.out, HZ12.out, HZ13.out, HNE.out.symm, HX5.out, HY5.out, HN12.out, HN13.out⟩⟩
         obtain ⟨y1, y2, y3, y4⟩ := HP.out.f12
         refine wpAnyT_one (i := 25) (by kernel_rfl) rfl (fun K hK => ?_)
         go_wp2
         refine hK _ _ (fun _ => ?_) ?_
         ·exact HALL.out _ HP.out.put.bel
         clear hK K
         (try simp only [Act.put, List.setIfInBounds_toArray, List.set_cons_zero, List.set_cons_succ])
         have HQ := Aside0.mk HP.out.put
         clear y1 y2 y3 y4
         generalize (wb.setCell ⟨g12, 0, none⟩ (.int .i64 x.1)).setCell ⟨g12, 1, none⟩ (.slice Ax x.2.length dx) = w8 at *
         obtain ⟨y1, y2, y3, y4⟩ := HQ.out.f13
         refine wpAnyT_one (i := 26) (by kernel_rfl) rfl (fun K hK => ?_)
         go_wp2
         refine hK _ _ (fun h => absurd rfl h) ?_
         clear hK K
         (try simp only [Act.put, List.setIfInBounds_toArray, List.set_cons_zero, List.set_cons_succ])
         refine wpAnyT_done (by kernel_rfl) ?_ _
         go_wp2_with fail
         go_meet
         exact ⟨g12, g13, rfl, rfl, ⟨HQ.out.put⟩⟩
        ·go_wp2
         refine hK _ _ (fun _ => ?_) ?_
         ·exact HALL.out _ (below_alloc HB_w5.out _)
         clear hK K
         (try simp only [Act.put, List.setIfInBounds_toArray, List.set_cons_zero, List.set_cons_succ])
         have HZ13 := Aside0.mk (heap_alloc_new w5 (.cells #[.int .i64 0, .slice none 0 0] 100))
         have HN13 := Aside0.mk HB_w5.out.size
         have HX5n := Aside0.mk (Kd.R_below HX5.out (below_alloc (Below.refl _ _) (.cells #[.int .i64 0, .slice none 0 0] 100)))
         clear HX5
         have HX5 := HX5n
         clear HX5n
         have HY5n := Aside0.mk (Kd.R_below HY5.out (below_alloc (Below.refl _ _) (.cells #[.int .i64 0, .slice none 0 0] 100)))
         clear HY5
         have HY5 := HY5n
         clear HY5n
         have HB_wb := Aside0.mk (below_alloc HB_w5.out (.cells #[.int .i64 0, .slice none 0 0] 100))
         clear HB_w5
         generalize w5.heap.size = g13 at *
         generalize w5.alloc (.cells #[.int .i64 0, .slice none 0 0] 100) = wb at *
         refine wpAnyT_one (i := 23) (by kernel_rfl) rfl (fun K hK => ?_)
         go_wp2
         refine hK _ _ (fun _ => ?_) ?_
         ·exact HALL.out _ (below_alloc HB_wb.out _)
         clear hK K
         (try simp only [Act.put, List.setIfInBounds_toArray, List.set_cons_zero, List.set_cons_succ])
         have HZ12 := Aside0.mk (heap_alloc_new wb (.cells #[.int .i64 0, .slice none 0 0] 100))
         have HN12 := Aside0.mk HB_wb.out.size
         have HNE : Aside0 (wb.heap.size ≠ g13) := ⟨by have := blk_lt HZ13.out; omega⟩
         have HZ13n := Aside0.mk (blk_alloc HZ13.out (.cells #[.int .i64 0, .slice none 0 0] 100))
         clear HZ13
         have HZ13 := HZ13n
         clear HZ13n
         have HX5n := Aside0.mk (Kd.R_below HX5.out (below_alloc (Below.refl _ _) (.cells #[.int .i64 0, .slice none 0 0] 100)))
         clear HX5
         have HX5 := HX5n
         clear HX5n
         have HY5n := Aside0.mk (Kd.R_below HY5.out (below_alloc (Below.refl _ _) (.cells #[.int .i64 0, .slice none 0 0] 100)))
         clear HY5
         have HY5 := HY5n
         clear HY5n
         have HB_wa := Aside0.mk (below_alloc HB_wb.out (.cells #[.int .i64 0, .slice none 0 0] 100))
         clear HB_wb
         generalize wb.heap.size = g12 at *
         generalize wb.alloc (.cells #[.int .i64 0, .slice none 0 0] 100) = wa at *
         have HP : Aside0 (Pre12 w.heap.size wr wa g12 g13 (.slice Ax x.2.length dx) (.slice Ay y.2.length dy) x y) := ⟨⟨HB_wa.out, HZ12.out, HZ13.out, HNE.out, HX5.out, HY5.out, HN12.out, HN13.out⟩⟩
         obtain ⟨y1, y2, y3, y4⟩ := HP.out.f12
         refine wpAnyT_one (i := 25) (by kernel_rfl) rfl (fun K hK => ?_)
         go_wp2
         refine hK _ _ (fun _ => ?_) ?_
         ·exact HALL.out _ HP.out.put.bel
         clear hK K
         (try simp only [Act.put, List.setIfInBounds_toArray, List.set_cons_zero, List.set_cons_succ])
         have HQ := Aside0.mk HP.out.put
         clear y1 y2 y3 y4
         generalize (wa.setCell ⟨g12, 0, none⟩ (.int .i64 x.1)).setCell ⟨g12, 1, none⟩ (.slice Ax x.2.length dx) = w8 at *
         obtain ⟨y1, y2, y3, y4⟩ := HQ.out.f13
         refine wpAnyT_one (i := 26) (by kernel_rfl) rfl (fun K hK => ?_)
         go_wp2
         refine hK _ _ (fun h => absurd rfl h) ?_
         clear hK K
         (try simp only [Act.put, List.setIfInBounds_toArray, List.set_cons_zero, List.set_cons_succ])
         refine wpAnyT_done (by kernel_rfl) ?_ _
         go_wp2_with fail
         go_meet
         exact ⟨g12, g13, rfl, rfl, ⟨HQ.out.put⟩⟩
       ·go_wp2
        refine hK _ _ (fun _ => ?_) ?_
        ·exact HALL.out _ (below_alloc HB_wd.out _)
        clear hK K
        (try simp only [Act.put, List.setIfInBounds_toArray, List.set_cons_zero, List.set_cons_succ])
        have HZ12 := Aside0.mk (heap_alloc_new wd (.cells #[.int .i64 0, .slice none 0 0] 100))
        have HN12 := Aside0.mk HB_wd.out.size
        have HB_wa := Aside0.mk (below_alloc HB_wd.out (.cells #[.int .i64 0, .slice none 0 0] 100))
        clear HB_wd
        generalize wd.heap.size = g12 at *
        generalize wd.alloc (.cells #[.int .i64 0, .slice none 0 0] 100) = wa at *
        refine wpAnyT_two (i := 19) (j := 24) (by kernel_rfl) rfl rfl (fun K hK => ?_) (fun K hK => ?_)
        ·go_wp2_with (go_at_call 102; (with_reducible refine (HCALL.out _ HB_wa.out).mono ?_); rintro e w5 ⟨vx, vy, rfl, hx5, hy5, hb5⟩; have HB_w5 := Aside0.mk (below_step HB_wa.out hb5); have HX5 := Aside0.mk hx5; have HY5 := Aside0.mk hy5; have HZ12n := Aside0.mk (blk_below HZ12.out hb5); clear HZ12; have HZ12 := HZ12n; clear HZ12n; clear hx5 hy5 hb5 HB_wa)
         refine hK _ _ (fun _ => ?_) ?_
         ·exact HALL.out _ HB_w5.out
         clear hK K
         (try simp only [Act.put, List.setIfInBounds_toArray, List.set_cons_zero, List.set_cons_succ])
         obtain ⟨Ax, dx, rfl⟩ := Kd.R_slice HX5.out
         obtain ⟨Ay, dy, rfl⟩ := Kd.R_slice HY5.out
         have hS5 := HALL.out _ HB_w5.out
         refine tk 20 ?_
         refine tk 21 ?_
         refine tk 22 ?_
         clear hS5
         refine wpAnyT_one (i := 24) (by kernel_rfl) rfl (fun K hK => ?_)
         go_wp2
         refine hK _ _ (fun _ => ?_) ?_
         ·exact HALL.out _ (below_alloc HB_w5.out _)
         clear hK K
         (try simp only [Act.put, List.setIfInBounds_toArray, List.set_cons_zero, List.set_cons_succ])
         have HZ13 := Aside0.mk (heap_alloc_new w5 (.cells #[.int .i64 0, .slice none 0 0] 100))
         have HN13 := Aside0.mk HB_w5.out.size
         have HNE : Aside0 (w5.heap.size ≠ g12) := ⟨by have := blk_lt HZ12.out; omega⟩
         have HZ12n := Aside0.mk (blk_alloc HZ12.out (.cells #[.int .i64 0, .slice none 0 0] 100))
         clear HZ12
         have HZ12 := HZ12n
         clear HZ12n
         have HX5n := Aside0.mk (Kd.R_below HX5.out (below_alloc (Below.refl _ _) (.cells #[.int .i64 0, .slice none 0 0] 100)))
         clear HX5
         have HX5 := HX5n
         clear HX5n
         have HY5n := Aside0.mk (Kd.R_below HY5.out (below_alloc (Below.refl _ _) (.cells #[.int .i64 0, .slice none 0 0] 100)))
         clear HY5
         have HY5 := HY5n
         clear HY5n
         have HB_wb := Aside0.mk (below_alloc HB_w5.out (.cells #[.int .i64 0, .slice none 0 0] 100))
         clear HB_w5
         generalize w5.heap.size = g13 at *
         generalize w5.alloc (.cells #[.int .i64 0, .slice none 0 0] 100) = wb at *
         have HP : Aside0 (Pre12 w.heap.size wr wb g12 g13 (.slice Ax x.2.length dx) (.slice Ay y.2.length dy) x y) := ⟨⟨HB_wb.out, HZ12.out, HZ13.out, HNE.out.symm, HX5.out, HY5.out, HN12.out, HN13.out⟩⟩
         obtain ⟨y1, y2, y3, y4⟩ := HP.out.f12
         refine wpAnyT_one (i := 25) (by kernel_rfl) rfl (fun K hK => ?_)
         go_wp2
         refine hK _ _ (fun _ => ?_) ?_
         ·exact HALL.out _ HP.out.put.bel
         clear hK K
         (try simp only [Act.put, List.setIfInBounds_toArray, List.set_cons_zero, List.set_cons_succ])
         have HQ := Aside0.mk HP.out.put
         clear y1 y2 y3 y4
         generalize (wb.setCell ⟨g12, 0, none⟩ (.int .i64 x.1)).setCell ⟨g12, 1, none⟩ (.slice Ax x.2.length dx) = w8 at *
         obtain ⟨y1, y2, y3, y4⟩ := HQ.out.f13
         refine wpAnyT_one (i := 26) (by kernel_rfl) rfl (fun K hK => ?_)
         go_wp2
         refine hK _ _ (fun h => absurd rfl h) ?_
         clear hK K
         (try simp only [Act.put, List.setIfInBounds_toArray, List.set_cons_zero, List.set_cons_succ])
         refine wpAnyT_done (by kernel_rfl) ?_ _
         go_wp2_with fail
         go_meet
         exact ⟨g12, g13, rfl, rfl, ⟨HQ.out.put⟩⟩
        ·go_wp2
         refine hK _ _ (fun _ => ?_) ?_
         ·exact HALL.out _ (below_alloc HB_wa.out _)
         clear hK K
         (try simp only [Act.put, List.setIfInBounds_toArray, List.set_cons_zero, List.set_cons_succ])
         have HZ13 := Aside0.mk (heap_alloc_new wa (.cells #[.int .i64 0, .slice none 0 0] 100))
         have HN13 := Aside0.mk HB_wa.out.size
         have HNE : Aside0 (wa.heap.size ≠ g12) := ⟨by have := blk_lt HZ12.out; omega⟩
         have HZ12n := Aside0.mk (blk_alloc HZ12.out (.cells #[.int .i64 0, .slice none 0 0] 100))
         clear HZ12
         have HZ12 := HZ12n
         clear HZ12n
         have HB_wb := Aside0.mk (below_alloc HB_wa.out (.cells #[.int .i64 0, .slice none 0 0] 100))
         clear HB_wa
         generalize wa.heap.size = g13 at *
         generalize wa.alloc (.cells #[.int .i64 0, .slice none 0 0] 100) = wb at *
         refine wpAnyT_one (i := 19) (by kernel_rfl) rfl (fun K hK => ?_)
         go_wp2_with (go_at_call 102; (with_reducible refine (HCALL.out _ HB_wb.out).mono ?_); rintro e w5 ⟨vx, vy, rfl, hx5, hy5, hb5⟩; have HB_w5 := Aside0.mk (below_step HB_wb.out hb5); have HX5 := Aside0.mk hx5; have HY5 := Aside0.mk hy5; have HZ12n := Aside0.mk (blk_below HZ12.out hb5); clear HZ12; have HZ12 := HZ12n; clear HZ12n; have HZ13n := Aside0.mk (blk_below HZ13.out hb5); clear HZ13; have HZ13 := HZ13n; clear HZ13n; clear hx5 hy5 hb5 HB_wb)
         refine hK _ _ (fun _ => ?_) ?_
         ·exact HALL.out _ HB_w5.out
         clear hK K
         (try simp only [Act.put, List.setIfInBounds_toArray, List.set_cons_zero, List.set_cons_succ])
         obtain ⟨Ax, dx, rfl⟩ := Kd.R_slice HX5.out
         obtain ⟨Ay, dy, rfl⟩ := Kd.R_slice HY5.out
         have hS5 := HALL.out _ HB_w5.out
         refine tk 20 ?_
         refine tk 21 ?_
         refine tk 22 ?_
         clear hS5
         have HP : Aside0 (Pre12 w.heap.size wr w5 g12 g13 (.slice Ax x.2.length dx) (.slice Ay y.2.length dy) x y) := ⟨⟨HB_w5.out, HZ12.out, HZ13.out, HNE.out.symm, HX5.out, HY5.out, HN12.out, HN13.out⟩⟩
         obtain ⟨y1, y2, y3, y4⟩ := HP.out.f12
         refine wpAnyT_one (i := 25) (by kernel_rfl) rfl (fun K hK => ?_)
         go_wp2
         refine hK _ _ (fun _ => ?_) ?_
         ·exact HALL.out _ HP.out.put.bel
         clear hK K
         (try simp only [Act.put, List.setIfInBounds_toArray, List.set_cons_zero, List.set_cons_succ])
         have HQ := Aside0.mk HP.out.put
         clear y1 y2 y3 y4
         generalize (w5.setCell ⟨g12, 0, none⟩ (.int .i64 x.1)).setCell ⟨g12, 1, none⟩ (.slice Ax x.2.length dx) = w8 at *
         obtain ⟨y1, y2, y3, y4⟩ := HQ.out.f13
         refine wpAnyT_one (i := 26) (by kernel_rfl) rfl (fun K hK => ?_)
         go_wp2
         refine hK _ _ (fun h => absurd rfl h) ?_
         clear hK K
         (try simp only [Act.put, List.setIfInBounds_toArray, List.set_cons_zero, List.set_cons_succ])
         refine wpAnyT_done (by kernel_rfl) ?_ _
         go_wp2_with fail
         go_meet
         exact ⟨g12, g13, rfl, rfl, ⟨HQ.out.put⟩⟩
       ·go_wp2
        refine hK _ _ (fun _ => ?_) ?_
        ·exact HALL.out _ (below_alloc HB_wd.out _)
        clear hK K
        (try simp only [Act.put, List.setIfInBounds_toArray, List.set_cons_zero, List.set_cons_succ])
        have HZ13 := Aside0.mk (heap_alloc_new wd (.cells #[.int .i64 0, .slice none 0 0] 100))
        have HN13 := Aside0.mk HB_wd.out.size
        have HB_wb := Aside0.mk (below_alloc HB_wd.out (.cells #[.int .i64 0, .slice none 0 0] 100))
        clear HB_wd
        generalize wd.heap.size = g13 at *
        generalize wd.alloc (.cells #[.int .i64 0, .slice none 0 0] 100) = wb at *
        refine wpAnyT_two (i := 19) (j := 23) (by kernel_rfl) rfl rfl (fun K hK => ?_) (fun K hK => ?_)
        ·go_wp2_with (go_at_call 102; (with_reducible refine (HCALL.out _ HB_wb.out).mono ?_); rintro e w5 ⟨vx, vy, rfl, hx5, hy5, hb5⟩; have HB_w5 := Aside0.mk (below_step HB_wb.out hb5); have HX5 := Aside0.mk hx5; have HY5 := Aside0.mk hy5; have HZ13n := Aside0.mk (blk_below HZ13.out hb5); clear HZ13; have HZ13 := HZ13n; clear HZ13n; clear hx5 hy5 hb5 HB_wb)
         refine hK _ _ (fun _ => ?_) ?_
         ·exact HALL.out _ HB_w5.out
         clear hK K
         (try simp only [Act.put, List.setIfInBounds_toArray, List.set_cons_zero, List.set_cons_succ])
         obtain ⟨Ax, dx, rfl⟩ := Kd.R_slice HX5.out
         obtain ⟨Ay, dy, rfl⟩ := Kd.R_slice HY5.out
         have hS5 := HALL.out _ HB_w5.out
         refine tk 20 ?_
         refine tk 21 ?_
         refine tk 22 ?_
         clear hS5
         refine wpAnyT_one (i := 23) (by kernel_rfl) rfl (fun K hK => ?_)
         go_wp2
         refine hK _ _ (fun _ => ?_) ?_
         ·exact HALL.out _ (below_alloc HB_w5.out _)
         clear hK K
         (try simp only [Act.put, List.setIfInBounds_toArray, List.set_cons_zero, List.set_cons_succ])
         have HZ12 := Aside0.mk (heap_alloc_new w5 (.cells #[.int .i64 0, .slice none 0 0] 100))
         have HN12 := Aside0.mk HB_w5.out.size
         have HNE : Aside0 (w5.heap.size ≠ g13) := ⟨by have := blk_lt HZ13.out; omega⟩
         have HZ13n := Aside0.mk (blk_alloc HZ13.out (.cells #[.int .i64 0, .slice none 0 0] 100))
         clear HZ13
         have HZ13 := HZ13n
         clear HZ13n
         have HX5n := Aside0.mk (Kd.R_below HX5.out (below_alloc (Below.refl _ _) (.cells #[.int .i64 0, .slice none 0 0] 100)))
         clear HX5
         have HX5 := HX5n
         clear HX5n
         have HY5n := Aside0.mk (Kd.R_below HY5.out (below_alloc (Below.refl _ _) (.cells #[.int .i64 0, .slice none 0 0] 100)))
         clear HY5
         have HY5 := HY5n
         clear HY5n
         have HB_wa := Aside0.mk (below_alloc HB_w5.out (.cells #[.int .i64 0, .slice none 0 0] 100))
         clear HB_w5
         generalize w5.heap.size = g12 at *
         generalize w5.alloc (.cells #[.int .i64 0, .slice none 0 0] 100) = wa at *
         have HP : Aside0 (Pre12 w.heap.size wr wa g12 g13 (.slice Ax x.2.length dx) (.slice Ay y.2.length dy) x y) := ⟨⟨HB_wa.out, HZ12.out, HZ13.out, HNE.out, HX5.out, HY5.out, HN12.out, HN13.out⟩⟩
         obtain ⟨y1, y2, y3, y4⟩ := HP.out.f12
         refine wpAnyT_one (i := 25) (by kernel_rfl) rfl (fun K hK => ?_)
         go_wp2
         refine hK _ _ (fun _ => ?_) ?_
         ·exact HALL.out _ HP.out.put.bel
         clear hK K
         (try simp only [Act.put, List.setIfInBounds_toArray, List.set_cons_zero, List.set_cons_succ])
         have HQ := Aside0.mk HP.out.put
         clear y1 y2 y3 y4
         generalize (wa.setCell ⟨g12, 0, none⟩ (.int .i64 x.1)).setCell ⟨g12, 1, none⟩ (.slice Ax x.2.length dx) = w8 at *
         obtain ⟨y1, y2, y3, y4⟩ := HQ.out.f13
         refine wpAnyT_one (i := 26) (by kernel_rfl) rfl (fun K hK => ?_)
         go_wp2
         refine hK _ _ (fun h => absurd rfl h) ?_
         clear hK K
         (try simp only [Act.put, List.setIfInBounds_toArray, List.set_cons_zero, List.set_cons_succ])
         refine wpAnyT_done (by kernel_rfl) ?_ _
         go_wp2_with fail
         go_meet
         exact ⟨g12, g13, rfl, rfl, ⟨HQ.out.put⟩⟩
        ·go_wp2
         refine hK _ _ (fun _ => ?_) ?_
         ·exact HALL.out _ (below_alloc HB_wb.out _)
         clear hK K
         (try simp only [Act.put, List.setIfInBounds_toArray, List.set_cons_zero, List.set_cons_succ])
         have HZ12 := Aside0.mk (heap_alloc_new wb (.cells #[.int .i64 0, .slice none 0 0] 100))
         have HN12 := Aside0.mk HB_wb.out.size
         have HNE : Aside0 (wb.heap.size ≠ g13) := ⟨by have := blk_lt HZ13.out; omega⟩
         have HZ13n := Aside0.mk (blk_alloc HZ13.out (.cells #[.int .i64 0, .slice none 0 0] 100))
         clear HZ13
         have HZ13 := HZ13n
         clear HZ13n
         have HB_wa := Aside0.mk (below_alloc HB_wb.out (.cells #[.int .i64 0, .slice none 0 0] 100))
         clear HB_wb
         generalize wb.heap.size = g12 at *
         generalize wb.alloc (.cells #[.int .i64 0, .slice none 0 0] 100) = wa at *
         refine wpAnyT_one (i := 19) (by kernel_rfl) rfl (fun K hK => ?_)
         go_wp2_with (go_at_call 102; (with_reducible refine (HCALL.out _ HB_wa.out).mono ?_); rintro e w5 ⟨vx, vy, rfl, hx5, hy5, hb5⟩; have HB_w5 := Aside0.mk (below_step HB_wa.out hb5); have HX5 := Aside0.mk hx5; have HY5 := Aside0.mk hy5; have HZ12n := Aside0.mk (blk_below HZ12.out hb5); clear HZ12; have HZ12 := HZ12n; clear HZ12n; have HZ13n := Aside0.mk (blk_below HZ13.out hb5); clear HZ13; have HZ13 := HZ13n; clear HZ13n; clear hx5 hy5 hb5 HB_wa)
         refine hK _ _ (fun _ => ?_) ?_
         ·exact HALL.out _ HB_w5.out
         clear hK K
         (try simp only [Act.put, List.setIfInBounds_toArray, List.set_cons_zero, List.set_cons_succ])
         obtain ⟨Ax, dx, rfl⟩ := Kd.R_slice HX5.out
         obtain ⟨Ay, dy, rfl⟩ := Kd.R_slice HY5.out
         have hS5 := HALL.out _ HB_w5.out
         refine tk 20 ?_
         refine tk 21 ?_
         refine tk 22 ?_
         clear hS5
         have HP : Aside0 (Pre12 w.heap.size wr w5 g12 g13 (.slice Ax x.2.length dx) (.slice Ay y.2.length dy) x y) := ⟨⟨HB_w5.out, HZ12.out, HZ13.out, HNE.out, HX5.out, HY5.out, HN12.out, HN13.out⟩⟩
         obtain ⟨y1, y2, y3, y4⟩ := HP.out.f12
         refine wpAnyT_one (i := 25) (by kernel_rfl) rfl (fun K hK => ?_)
         go_wp2
         refine hK _ _ (fun _ => ?_) ?_
         ·exact HALL.out _ HP.out.put.bel
         clear hK K
         (try simp only [Act.put, List.setIfInBounds_toArray, List.set_cons_zero, List.set_cons_succ])
         have HQ := Aside0.mk HP.out.put
         clear y1 y2 y3 y4
         generalize (w5.setCell ⟨g12, 0, none⟩ (.int .i64 x.1)).setCell ⟨g12, 1, none⟩ (.slice Ax x.2.length dx) = w8 at *
         obtain ⟨y1, y2, y3, y4⟩ := HQ.out.f13
         refine wpAnyT_one (i := 26) (by kernel_rfl) rfl (fun K hK => ?_)
         go_wp2
         refine hK _ _ (fun h => absurd rfl h) ?_
         clear hK K
         (try simp only [Act.put, List.setIfInBounds_toArray, List.set_cons_zero, List.set_cons_succ])
         refine wpAnyT_done (by kernel_rfl) ?_ _
         go_wp2_with fail
         go_meet
         exact ⟨g12, g13, rfl, rfl, ⟨HQ.out.put⟩⟩
      case rest =>
       obtain ⟨g12, g13, rfl, rfl, HC⟩ := hcut
       go_upto_region 13 with (fail)
       have hbc : Below wr.heap.size wr wc := HC.out.bel
       obtain ⟨vx, hpx⟩ := HC.out.px
       obtain ⟨vy, hpy⟩ := HC.out.py
       obtain ⟨Ax, dx, rfl⟩ := Kd.R_slice hpx.row
       obtain ⟨Ay, dy, rfl⟩ := Kd.R_slice hpy.row
       have hbd : Below wr.heap.size wr wc.drew := below_drew1 hbc
       have HSd := Aside0.mk (HS.out.below hbd)
       have hrd := Kd.R_below HROW.out hbd
       have HPX := Aside0.mk (hpx.below (below_drew1 (Below.refl _ _)))
       have HPY := Aside0.mk (hpy.below (below_drew1 (Below.refl _ _)))
       have HCd := Aside0.mk (blk_below HC10.out hbd)
       have HHd := Aside0.mk (HALL.out _ hbd).2.1
       clear hpx hpy hbc hbd HALL HROW HA3 HB3 HC HS
       obtain ⟨Aq, dq, e1, e2, _, e4, e5⟩ := row_elem hrd q (by omega)
       have HRD := Aside0.mk hrd
       clear hrd
       obtain ⟨wd, hwd⟩ : ∃ W, wc.drew = W := ⟨_, rfl⟩
       have hS : wd.cell? ⟨gt, i, none⟩ = some (.slice (some ⟨gr, 0, none⟩) n cr) ∧ wd.cell? ⟨g12, 0, none⟩ = some (.int .i64 x.1) ∧ wd.cell? ⟨g12, 1, none⟩ = some (.slice Ax x.2.length dx) ∧ wd.cell? ⟨g13, 0, none⟩ = some (.int .i64 y.1) ∧ wd.cell? ⟨g13, 1, none⟩ = some (.slice Ay y.2.length dy) := by rw [← hwd]; exact ⟨HHd.out, HPX.out.c0, HPX.out.c1, HPY.out.c0, HPY.out.c1⟩
       refine wp_region_T 18 (fun w' => w'.cell? ⟨gt, i, none⟩ = some (.slice (some ⟨gr, 0, none⟩) n cr) ∧ w'.cell? ⟨g12, 0, none⟩ = some (.int .i64 x.1) ∧ w'.cell? ⟨g12, 1, none⟩ = some (.slice Ax x.2.length dx) ∧ w'.cell? ⟨g13, 0, none⟩ = some (.int .i64 y.1) ∧ w'.cell? ⟨g13, 1, none⟩ = some (.slice Ay y.2.length dy)) (by kernel_rfl) ?_
       rw [hwd] at HSd HRD HPX HPY HCd e1 e2 e4 e5 ⊢
       clear hwd HHd
       have s1 : IntKind.i64.wrap (q : Int) = (q : Int) := IntWalk.i64_in _ (by omega)
       have hq1 : (q : Int) < (n : Int) := by omega
       have hq2 : (q : Int) + 1 < (n : Int) := by omega
       have hq3 : (0 : Int) ≤ (q : Int) + 1 := by omega
       have s2 : ((q : Int) + 1).toNat = q + 1 := by omega
       refine tk 0 ?_
       refine tk 1 ?_
       refine tk 2 ?_
       refine tk 3 ?_
       refine tk 4 ?_
       refine tk 5 ?_
       refine tk 6 ?_
       refine tk 7 ?_
       refine tk 8 ?_
       refine tk 9 ?_
       refine tk 10 ?_
       refine tk 11 ?_
       refine tk 12 ?_
       refine tk 13 ?_
       refine tk 14 ?_
       refine wpAnyT_one (i := 15) (by kernel_rfl) rfl (fun K hK => ?_)
       go_wp2
       refine hK _ _ (fun _ => ?_) ?_
       ·exact hS
       clear hK K
       (try simp only [Act.put, List.setIfInBounds_toArray, List.set_cons_zero, List.set_cons_succ])
       refine wpAnyT_one (i := 16) (by kernel_rfl) rfl (fun K hK => ?_)
       go_wp2
       have hM := Aside0.mk (HSd.out.put (by omega) (by rw [HLEN.out]; exact hlt3) HHH.out HRD.out q (by omega) HPX.out.row)
       have hrd9 := (row_put HRD.out (by decide) q (by omega) HPX.out.row).1
       obtain ⟨cs9, hcs9⟩ := HSd.out.mat.blk (by omega) (i := i) (by rw [HLEN.out]; exact hlt3)
       rw [HHH.out] at hcs9
       have HPX9 := Aside0.mk ((HPX.out.far hcs9 (by decide) (by decide) (q * 2) (.int .i64 x.1)).far (blk_set hcs9 _ _) (by decide) (by decide) (q * 2 + 1) (.slice Ax x.2.length dx))
       have HPY9 := Aside0.mk ((HPY.out.far hcs9 (by decide) (by decide) (q * 2) (.int .i64 x.1)).far (blk_set hcs9 _ _) (by decide) (by decide) (q * 2 + 1) (.slice Ax x.2.length dx))
       have HC9 := Aside0.mk (blk_far (blk_far HCd.out (blk_ne HCd.out hcs9 (by decide)) (p := ⟨gr, q * 2, none⟩) (.int .i64 x.1)) (blk_ne HCd.out hcs9 (by decide)) (p := ⟨gr, q * 2 + 1, none⟩) (.slice Ax x.2.length dx))
       have hhd9 := hM.out.mat.head (i := i) (by rw [HLEN.out]; exact hlt3)
       rw [HHH.out] at hhd9
       unfold encH at hhd9
       dsimp only at hhd9
       refine hK _ _ (fun _ => ?_) ?_
       ·exact ⟨hhd9, HPX9.out.c0, HPX9.out.c1, HPY9.out.c0, HPY9.out.c1⟩
       clear hK K
       (try simp only [Act.put, List.setIfInBounds_toArray, List.set_cons_zero, List.set_cons_succ])
       have HRD9 := Aside0.mk hrd9
       clear hS e1 e2 e4 e5 hcs9 hhd9 hrd9
       generalize (wd.setCell ⟨gr, q * 2, none⟩ (.int .i64 x.1)).setCell ⟨gr, q * 2 + 1, none⟩ (.slice Ax x.2.length dx) = w9 at *
       obtain ⟨Aq2, dq2, e1, e2, _, e4, e5⟩ := row_elem HRD9.out (q + 1) (by omega)
       have hS9 : w9.cell? ⟨gt, i, none⟩ = some (.slice (some ⟨gr, 0, none⟩) n cr) ∧ w9.cell? ⟨g12, 0, none⟩ = some (.int .i64 x.1) ∧ w9.cell? ⟨g12, 1, none⟩ = some (.slice Ax x.2.length dx) ∧ w9.cell? ⟨g13, 0, none⟩ = some (.int .i64 y.1) ∧ w9.cell? ⟨g13, 1, none⟩ = some (.slice Ay y.2.length dy) := ⟨by
        have h := hM.out.mat.head (i := i) (by rw [HLEN.out]; exact hlt3)
        rw [HHH.out] at h
        exact h, HPX9.out.c0, HPX9.out.c1, HPY9.out.c0, HPY9.out.c1⟩
       refine wpAnyT_one (i := 17) (by kernel_rfl) rfl (fun K hK => ?_)
       go_wp2
       refine hK _ _ (fun _ => ?_) ?_
       ·exact hS9
       clear hK K
       (try simp only [Act.put, List.setIfInBounds_toArray, List.set_cons_zero, List.set_cons_succ])
       clear hS9
       refine wpAnyT_one (i := 18) (by kernel_rfl) rfl (fun K hK => ?_)
       go_wp2
       refine hK _ _ (fun h => absurd rfl h) ?_
       clear hK K
       (try simp only [Act.put, List.setIfInBounds_toArray, List.set_cons_zero, List.set_cons_succ])
       refine wpAnyT_done (by kernel_rfl) ?_ _
       go_wp2
       go_roundg (n - (i + 1))
       case measure => omega
       case rel =>
        obtain ⟨cs9, hcs9⟩ := hM.out.mat.blk (by omega) (i := i) (by rw [HLEN.out]; exact hlt3)
        rw [HHH.out] at hcs9
        refine ⟨i + 1, by go_num, by omega, Nat.le_refl _, ⟨?_⟩, ⟨blk_far (blk_far HC9.out (blk_ne HC9.out hcs9 (by decide)) (p := ⟨gr, (q + 1) * 2, none⟩) (.int .i64 y.1)) (blk_ne HC9.out hcs9 (by decide)) (p := ⟨gr, (q + 1) * 2 + 1, none⟩) (.slice Ay y.2.length dy)⟩⟩
        have h := hM.out.put (by omega) (by rw [HLEN.out]; exact hlt3) HHH.out HRD9.out (q + 1) (by omega) HPY9.out.row
        have e9 : ((rowsTo (-(q : Int) - 1) i L).set i (r.set q x)).set i ((r.set q x).set (q + 1) y) = rowsTo (-(q : Int) - 1) (i + 1) L := by
         have hil : i < L.length := by rw [HLL.out]; exact hlt3
         rw [List.set_set, ← rowsTo_set hil, stepRow_dn, HRR.out]
         unfold stepDn
         rw [HAA.out, HBB.out, HXX.out, HYY.out]
        rw [e9] at h
        exact h
     ·have hin : i = n := by omega
      have HE : Aside0 (rowsTo (-(q : Int) - 1) i L = burauF n (xs.take (j + 1))) := ⟨by rw [rowsTo_all (by rw [HLL.out]; omega), List.take_succ_eq_append_getElem hlt, burauF_snoc, HX.out, HLB.out]⟩
      clear hin
      go_wp2
      go_roundg (xs.length - (j + 1))
      case measure => omega
      case rel => exact ⟨j + 1, by go_num, by omega, Nat.le_refl _, ⟨by rw [← HE.out]; exact HS.out⟩⟩
  ·have HE : Aside0 (burauF n (xs.take j) = burauF n xs) := ⟨by rw [List.take_of_length_le (by omega)]⟩
   go_wp2
   go_ret
   exact ⟨_, hs, rfl, by have h := HS.out.mat; rw [HE.out] at h; exact h, HLEN.out, HS.out.bel⟩
end Go.Proofs.Ytdldfdcedjmneaa.Own
